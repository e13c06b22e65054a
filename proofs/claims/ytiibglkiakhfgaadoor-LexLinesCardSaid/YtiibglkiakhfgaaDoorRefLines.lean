import Derived.Test.YtiibglkiakhfgaaDoorLinesP
set_option linter.unusedSimpArgs false
set_option linter.unusedVariables false
namespace Go.Proofs.YtiibglkiakhfgaaDoor
open Go.RowKit
attribute [local go_sem] Oper.semAt_some
/-- What the reference's loop has. -/
structure RnSt (H : Nat) (w W : World) (v : Value) (rs : List LRow) : Prop where
  c0 : Blk W H 41 #[.int .i64 0, .int .i64 0, .int .i64 0]
  own : W.ownsRow (H + 1) 62 2 v rs.length (lcells rs)
  wrd : LWords (H + 1) W rs
  bel : Below H w W
theorem RnSt.below {H : Nat} {w A B : World} {v : Value} {rs : List LRow} (h : RnSt H w A v rs) (hb : Below A.heap.size A B) : RnSt H w B v rs :=
  ⟨h.c0.below hb h.c0.lt, own_below h.own hb, fun r hr => own_below (h.wrd r hr) hb, h.bel.trans (hb.mono (Nat.le_of_lt h.c0.lt))⟩
theorem RnSt.put {H : Nat} {w w2 w3 : World} {o : Obj} {v v' : Value} {rs : List LRow} {r : LRow} (h : RnSt H w w2 v rs) (hw : w2.ownsRow (H + 1) 106 2 r.val (cutR (str r.p)).length (wcells (wlist (str r.p) (cutR (str r.p)))))
    (hown : w3.ownsRow (H + 1) 62 2 v' (rs.length + 1) (lcells rs ++ [.int .i64 (r.n : Int), r.val])) (hg : (w2.alloc o).grownBy w3 v.ownBlock) :
    RnSt H w w3 v' (rs ++ [r]) := by
  have hty : ∀ {r : LRow}, w2.ownsRow (H + 1) 106 2 r.val (cutR (str r.p)).length (wcells (wlist (str r.p) (cutR (str r.p)))) → w3.ownsRow (H + 1) 106 2 r.val (cutR (str r.p)).length (wcells (wlist (str r.p) (cutR (str r.p)))) := by
    intro r hr
    refine (hr.alloc o).kept hg ?_
    rcases hr.2 with ⟨e, _⟩ | ⟨g, cap, cur, e, _, hgc, _⟩
    · left; rw [e]; rfl
    · right
      rcases h.own.2 with ⟨e', _⟩ | ⟨g', cap', cur', e', _, hgc', _⟩
      · rw [e, e']; simp [Value.ownBlock]
      · rw [e, e']
        intro hh
        have : g = g' := by simpa [Value.ownBlock] using hh
        subst this
        rw [hgc] at hgc'; cases hgc'
  have hlt := h.c0.lt
  refine ⟨(h.c0.alloc o).grown hg (fun e => by have := (own_cells h.own H e.symm).1; omega), ?_, ?_, ?_⟩
  · rw [List.length_append, lcells_snoc]
    exact hown
  · intro q hq
    rcases List.mem_append.1 hq with hq | hq
    · exact hty (h.wrd q hq)
    · rw [List.mem_singleton.1 hq]; exact hty hw
  · exact (h.bel.alloc (by omega) o).grown hg (by simp; omega) (fun k hk => by have := (own_cells h.own k hk).1; omega)

def RnSt' (w W : World) (v : Value) (rs : List LRow) : Prop := Below w.heap.size w W ∧ W.ownsRow (w.heap.size + 1) 62 2 v rs.length (lcells rs) ∧ LWords (w.heap.size + 1) W rs
theorem rl_err {w w1 : World} (k : Blk w1 w.heap.size 41 #[.int .i64 0, .int .i64 0, .int .i64 0]) (hb : Below w.heap.size w w1) (q a c : Int) (X : Obj) :
    Blk ((((w1.setCell ⟨w.heap.size, 0, none⟩ (.int .i64 q)).setCell ⟨w.heap.size, 1, none⟩ (.int .i64 a)).setCell ⟨w.heap.size, 2, none⟩ (.int .i64 c)).alloc X).drew w.heap.size 41 #[.int .i64 q, .int .i64 a, .int .i64 c] ∧
    Below w.heap.size w ((((w1.setCell ⟨w.heap.size, 0, none⟩ (.int .i64 q)).setCell ⟨w.heap.size, 1, none⟩ (.int .i64 a)).setCell ⟨w.heap.size, 2, none⟩ (.int .i64 c)).alloc X).drew := by
  have h3 := ((hb.setCell (p := ⟨w.heap.size, 0, none⟩) (Nat.le_refl _) (.int .i64 q)).setCell (p := ⟨w.heap.size, 1, none⟩) (Nat.le_refl _) (.int .i64 a)).setCell (p := ⟨w.heap.size, 2, none⟩) (Nat.le_refl _) (.int .i64 c)
  exact ⟨((((k.set_ 0 _).set_ 1 _).set_ 2 _).alloc X).drew, (h3.alloc h3.size X).drew⟩
theorem rl_end {w w1 : World} {v : Value} {rs : List LRow} (h : RnSt w.heap.size w w1 v rs) (q a c : Int) :
    Blk (((w1.setCell ⟨w.heap.size, 0, none⟩ (.int .i64 q)).setCell ⟨w.heap.size, 1, none⟩ (.int .i64 a)).setCell ⟨w.heap.size, 2, none⟩ (.int .i64 c)) w.heap.size 41 #[.int .i64 q, .int .i64 a, .int .i64 c] ∧
    RnSt' w (((w1.setCell ⟨w.heap.size, 0, none⟩ (.int .i64 q)).setCell ⟨w.heap.size, 1, none⟩ (.int .i64 a)).setCell ⟨w.heap.size, 2, none⟩ (.int .i64 c)) v rs := by
  have hb := h.bel
  have h3 := ((hb.setCell (p := ⟨w.heap.size, 0, none⟩) (Nat.le_refl _) (.int .i64 q)).setCell (p := ⟨w.heap.size, 1, none⟩) (Nat.le_refl _) (.int .i64 a)).setCell (p := ⟨w.heap.size, 2, none⟩) (Nat.le_refl _) (.int .i64 c)
  exact ⟨((h.c0.set_ 0 _).set_ 1 _).set_ 2 _, h3, own_sets (own_sets (own_sets h.own (by omega)) (by omega)) (by omega), fun r hr => own_sets (own_sets (own_sets (h.wrd r hr) (by omega)) (by omega)) (by omega)⟩
theorem str_at {s : List UInt8} {S : ByteArray} (hS : str s = S) (k : Nat) (h : k < S.size) : s[k]? = some S[k] := by
  subst hS
  rw [List.getElem?_eq_getElem (by rw [str_size] at h; exact h)]
  simp [str, ByteArray.getElem_eq_getElem_data]
theorem count_snoc {s : List UInt8} {k : Nat} {x : UInt8} (h : s[k]? = some x) : (s.take (k + 1)).count 10 = (s.take k).count 10 + if x = 10 then 1 else 0 := by
  rw [take_snoc_g h, List.count_append]
  by_cases hx : x = 10 <;> simp [hx]

set_option maxRecDepth 100000 in
set_option maxHeartbeats 4000000 in
theorem refLines_any (s : List UInt8) (hs : s.length ≤ 100000) (hc : s.count 10 ≤ 2000) (w : World) : Calls Tryd.prog 41 #[.string (str s)] w (LinesQ s w) := by
  obtain ⟨i0, hi, hz0, hz1, hz2⟩ := info_parts lineInfo
  obtain ⟨S, hS⟩ : ∃ S, str s = S := ⟨_, rfl⟩
  have hSn : S.size ≤ 100000 := by rw [← hS, str_size]; exact hs
  have HL : Hid (s.length = S.size) := hide (by rw [← hS, str_size])
  have HG := hide (str_at hS)
  have HX : Hid (∀ f k, S.extract f k = str ((s.drop f).take (k - f))) := hide (fun f k => by rw [← hS]; exact ByteArray.ext (by rw [ByteArray.data_extract]; simp [str, List.extract]))
  rw [hS]
  have HC := hide hc
  clear hS hc hs
  go_enter Tryd.func41, Tryd.ntmps41
  go_wp2
  go_loop [7, 8] (fun c i => ∃ k : Nat, k ≤ S.size ∧ i = .int .i64 (k : Nat) ∧ c = .int .i64 (((s.take k).count 10 : Nat) : Int)) (fun _ i => S.size - (intOf i).toNat)
  case atStart => exact ⟨0, by omega, rfl, rfl⟩
  case round =>
    obtain ⟨k, hk, rfl, rfl⟩ := hrel
    obtain ⟨z, hz⟩ : ∃ z, (s.take k).count 10 = z := ⟨_, rfl⟩
    have hzk : z ≤ k := by rw [← hz]; exact Nat.le_trans List.count_le_length (List.length_take_le _ _)
    have HZ := hide hz
    rw [hz]
    clear hz
    by_cases hlt : k < S.size
    · have hcs := count_snoc (HG.out k hlt)
      rw [HZ.out] at hcs
      cases hx : ((S[k].toNat : Int) == 10)
      · have HN : Hid ((s.take (k + 1)).count 10 = z) := hide (by
          rw [hcs, if_neg (fun h => by rw [h] at hx; cases hx)]; omega)
        clear hcs
        go_wp2
        go_round
        case rel => exact ⟨k + 1, by omega, by go_num, by rw [HN.out]⟩
        case measure => simp [intOf]; omega
      · have HN : Hid ((s.take (k + 1)).count 10 = z + 1) := hide (by
          rw [hcs, if_pos (by have h2 : (S[k].toNat : Int) = 10 := by simpa using hx
                              exact UInt8.toNat_inj.1 (by show S[k].toNat = 10; omega))])
        clear hcs
        go_wp2
        go_round
        case rel => exact ⟨k + 1, by omega, by go_num, by rw [HN.out]; go_num⟩
        case measure => simp [intOf]; omega
    · obtain rfl : k = S.size := by omega
      have hz2 : z ≤ 2000 := by
        have h1 := HZ.out
        rw [List.take_of_length_le (by rw [HL.out]; exact Nat.le_refl _)] at h1
        have := HC.out; omega
      have hl1 : decide ((100000 : Int) < (S.size : Int)) = false := by simp; omega
      have hl2 : decide ((2000 : Int) < (z : Int)) = false := by simp; omega
      have hl3 : decide (100000 < S.size) = false := by simp; omega
      have hl4 : decide (2000 < z) = false := by simp; omega
      go_wp2
      clear hl1 hl2 hl3 hl4 HZ hz2
      go_loopw [4, 5, 6, 9] (fun v n fr i wr => ∃ (f k : Nat) (done : List (List UInt8)) (rs : List LRow), i = .int .i64 (k : Nat) ∧ fr = .int .i64 (f : Nat) ∧ n = .int .i64 ((done.length + 1 : Nat) : Int) ∧
          RnSt w.heap.size w wr v rs ∧ rs.map (fun r => (r.n, r.p)) = keepN 0 done ∧ (∀ x ∈ done, (cutF (str x)).2 = 0) ∧ f ≤ 100001 ∧ k ≤ 100001 ∧ (RL s f k done ∨ (k = S.size + 1 ∧ pieces 10 s = done)))
        (fun _ _ _ i _ => S.size + 2 - (intOf i).toNat)
      case atStart =>
        have h0 := World.ownsRow_made (base := w.heap.size + 1) (e := 62) (size := 2) (w.alloc (.cells #[.int .i64 0, .int .i64 0, .int .i64 0] 41)) #[] 0 (by simp) (by simp [maxLen]) (by simp)
        rw [World.size_alloc] at h0
        exact ⟨0, 0, [], [], rfl, rfl, rfl, ⟨(Blk.new w _ _).alloc _, h0, by simp [LWords], ((Below.refl _ _).alloc (Nat.le_refl _) _).alloc (by simp) _⟩, rfl, by simp, by omega, by omega, .inl (RL.start s)⟩
      case round =>
        obtain ⟨f, k, done, rs, rfl, rfl, rfl, hst, hrs, hgd, hf1, hk1, hrl⟩ := hrel
        have HSt := hide hst
        have HRs := hide hrs
        have HGd := hide hgd
        have hsz0 : w.heap.size < wr.heap.size := hst.c0.lt
        obtain ⟨A0, c0, rfl⟩ := own_slice hst.own
        obtain ⟨q, hq⟩ : ∃ q, done.length + 1 = q := ⟨_, rfl⟩
        have HQ := hide hq
        rw [hq]
        clear hst hrs hgd hq
        by_cases hk : k ≤ S.size
        · have hR : RL s f k done := by
            rcases hrl with h | ⟨h, _⟩
            · exact h
            · omega
          have hq1 : q ≤ 100003 := by have := hR.len; have := HQ.out; have := HL.out; omega
          have hfk := hR.1
          have HR := hide hR
          have hle : decide (k ≤ S.size) = true := by simpa using hk
          clear hrl hR
          by_cases hgo : ∃ h : k < S.size, ((S[k].toNat : Int) != 10) = true
          · obtain ⟨hlt, hx⟩ := hgo
            have HR2 := hide (HR.out.step (HG.out k hlt) (fun h => by rw [h] at hx; cases hx))
            have d1 : decide (k < S.size) = true := by simpa using hlt
            go_wp2
            go_roundw
            case rel => exact ⟨f, k + 1, done, rs, by go_num, rfl, by rw [HQ.out], HSt.out, HRs.out, HGd.out, hf1, by omega, .inl HR2.out⟩
            case measure => simp [intOf]; omega
          · have hor : (k = S.size ∧ decide (k < S.size) = false) ∨ ((∃ h : k < S.size, ((S[k].toNat : Int) != 10) = false) ∧ decide (k < S.size) = true) := by
              by_cases h : k < S.size
              · right
                refine ⟨⟨h, ?_⟩, by simpa using h⟩
                cases hh : ((S[k].toNat : Int) != 10)
                · rfl
                · exact absurd ⟨h, hh⟩ hgo
              · left; exact ⟨by omega, by simp; omega⟩
            obtain ⟨p, hp⟩ : ∃ p, (s.drop f).take (k - f) = p := ⟨_, rfl⟩
            have HNx : Hid (RL s (k + 1) (k + 1) (done ++ [p]) ∨ (k + 1 = S.size + 1 ∧ pieces 10 s = done ++ [p])) := hide (by
              rcases hor with ⟨h, _⟩ | ⟨⟨h, hx⟩, _⟩
              · right
                refine ⟨by omega, ?_⟩
                have h2 : k = s.length := by rw [HL.out]; exact h
                have := HR.out
                rw [← hp]
                subst h2
                exact this.done
              · left
                rw [← hp]
                refine HR.out.cut ?_
                rw [HG.out k h]
                have h2 : (S[k].toNat : Int) = 10 := by simpa using hx
                exact congrArg some (UInt8.toNat_inj.1 (by show S[k].toNat = 10; omega)))
            have HPs : Hid (∃ post, pieces 10 s = done ++ p :: post) := hide (by
              rcases HNx.out with h | ⟨_, h⟩
              · exact ⟨_, by rw [h.2.2.1, List.append_assoc]; rfl⟩
              · exact ⟨[], h⟩)
            have hpl : p.length ≤ 100000 := by rw [← hp]; have := List.length_take_le (k - f) (s.drop f); omega
            have HCt : Hid (∀ w, Calls Tryd.prog 98 #[.string (S.extract f k)] w (CutP (str p) w)) := hide (fun w => by rw [HX.out, hp]; exact refCut_any (str p) w (by rw [str_size]; unfold maxLen; omega))
            clear hp hgo
            rcases hor with ⟨-, d1⟩ | ⟨⟨hlt, hx⟩, d1⟩
            all_goals
              go_wp2_with fail
              refine (HCt.out _).mono ?_
              rintro e w1 ⟨A, c, rfl, hwd, hb1⟩
              have hs1 := hb1.size
              obtain ⟨a0, ha0⟩ : ∃ a0, (cutF (str p)).1 = a0 := ⟨_, rfl⟩
              obtain ⟨cd, hcd⟩ : ∃ cd, (cutF (str p)).2 = cd := ⟨_, rfl⟩
              obtain ⟨kk, hkk⟩ : ∃ kk, (cutR (str p)).length = kk := ⟨_, rfl⟩
              rw [ha0, hcd, hkk]
              rw [hkk] at hwd
              have hal : Below w1.heap.size w1 (w1.alloc (.cells #[.int .i64 0, .int .i64 (a0 : Int), .int .i64 (cd : Int)] 41)) := (Below.refl _ w1).alloc (Nat.le_refl _) _
              have HS1 := hide (HSt.out.below hb1)
              have HS2 := hide ((HSt.out.below hb1).below hal)
              have HWD := hide (own_below hwd hal)
              have HA0 := hide ha0
              have HCD := hide hcd
              have HK := hide hkk
              have e10 := HS1.out.c0.cell 0
              have e11 := HS1.out.c0.cell 1
              have e12 := HS1.out.c0.cell 2
              have q10 := HS1.out.c0.frozen 0
              have q11 := HS1.out.c0.frozen 1
              have q12 := HS1.out.c0.frozen 2
              have g1 : w.heap.size < w1.heap.size := HS1.out.c0.lt
              clear hwd hb1 ha0 hcd hkk hal
              by_cases hc0 : cd = 0
              · subst hc0
                have HG1 : Hid (∀ x ∈ done ++ [p], (cutF (str x)).2 = 0) := hide (fun x hx => by
                  rcases List.mem_append.1 hx with hx | hx
                  · exact HGd.out x hx
                  · rw [List.mem_singleton.1 hx]; exact HCD.out)
                have HQ1 : Hid (q + 1 = (done ++ [p]).length + 1) := hide (by rw [← HQ.out]; simp)
                by_cases hk0 : kk = 0
                · subst hk0
                  go_wp2
                  go_roundw
                  case rel => exact ⟨k + 1, k + 1, done ++ [p], rs, by go_num, by go_num, by rw [← HQ1.out]; go_num, HS2.out, by rw [keepN_snoc, if_pos (List.eq_nil_of_length_eq_zero HK.out), List.append_nil]; exact HRs.out, HG1.out, by omega, by omega, HNx.out⟩
                  case measure => simp [intOf]; omega
                · have hk1' : decide (0 < kk) = true := by simp; omega
                  have hkr : Hid (cutR (str p) ≠ []) := hide (fun e => hk0 (by rw [← HK.out, e]; rfl))
                  have hrl : rs.length ≤ 100002 := by
                    have h1 := congrArg List.length HRs.out
                    have h2 := keepN_len 0 done
                    have h3 := HQ.out
                    rw [List.length_map] at h1; omega
                  go_wp2_with (at_builtin; refine wpList_append_own _ rfl (.tmp 69) (.tmp 73) 38 rfl (w.heap.size + 1) 62 i0 _ 2 32 Tryd.underlying38 hi hz0 hz1 hz2 rfl (by decide) (.slice A0 rs.length c0) rs.length (lcells rs) rfl (HS2.out.own.alloc _) ⟨w1.heap.size + 1, 0, none⟩ 1 1 [.int .i64 (q : Int), .slice A kk c] rfl rfl (two_new _ _ _ _ _) (by simp [Value.oneCell']) (by unfold maxLen; omega) (by omega) (by simp; omega) ?_; intro v' w3 hown' hgrow _; have HO := hide hown'; have HGr := hide hgrow; clear hown' hgrow)
                  have hrv : (LRow.mk q p A c).val = .slice A kk c := by show Value.slice A (cutR (str p)).length c = _; rw [HK.out]
                  have HS3 : Hid (RnSt w.heap.size w w3 v' (rs ++ [⟨q, p, A, c⟩])) := hide (by
                    refine HS2.out.put ?_ ?_ HGr.out
                    · rw [hrv]
                      show World.ownsRow _ _ _ _ _ (cutR (str p)).length _
                      rw [HK.out]
                      exact own_low (base := w.heap.size + 1) (base' := wr.heap.size - (w.heap.size + 1)) (by rw [Nat.add_sub_cancel' (by omega)]; exact HWD.out)
                    · rw [hrv]; exact HO.out)
                  clear hrv
                  go_roundw
                  case rel => exact ⟨k + 1, k + 1, done ++ [p], rs ++ [⟨q, p, A, c⟩], by go_num, by go_num, by rw [← HQ1.out]; go_num, HS3.out, by rw [keepN_snoc, if_neg hkr.out, List.map_append, HRs.out, Nat.zero_add, HQ.out]; rfl, HG1.out, by omega, by omega, HNx.out⟩
                  case measure => simp [intOf]; omega
              · have hc1 : ((cd : Int) == 0) = false := by simp; omega
                have hc2 : ((cd : Int) != 0) = true := by simp; omega
                have HE := hide (rl_err HS1.out.c0 HS1.out.bel (q : Int) (a0 : Int) (cd : Int) (.cells #[.int .i64 0, .int .i64 (a0 : Int), .int .i64 (cd : Int)] 41))
                go_wp2
                go_region
                all_goals
                  go_wp2
                  have y0 := HE.out.1.cell 0
                  have y1 := HE.out.1.cell 1
                  have y2 := HE.out.1.cell 2
                  refine bodyPost_ret (v := .tuple #[.slice none 0 0, .agg #[.int .i64 (q : Int), .int .i64 (a0 : Int), .int .i64 (cd : Int)]]) (by simp [results, Tryd.results41, go_sem, y0, y1, y2]) rfl ?_
                  obtain ⟨post, hps⟩ := HPs.out
                  exact ⟨HE.out.2, .inl ⟨done, p, post, hps, HGd.out, by rw [HCD.out]; exact hc0, by rw [HQ.out, HA0.out, HCD.out]⟩⟩
        · have hk2 : k = S.size + 1 := by
            rcases hrl with h | ⟨h, _⟩
            · have := h.2.1; have := HL.out; omega
            · exact h
          subst hk2
          have hps : pieces 10 s = done := by
            rcases hrl with h | ⟨_, h⟩
            · have := h.2.1; have := HL.out; omega
            · exact h
          have HPS := hide hps
          have hle : decide ((S.size + 1 : Nat) ≤ S.size) = false := by simp
          have e10 := HSt.out.c0.cell 0
          have e11 := HSt.out.c0.cell 1
          have e12 := HSt.out.c0.cell 2
          have q10 := HSt.out.c0.frozen 0
          have q11 := HSt.out.c0.frozen 1
          have q12 := HSt.out.c0.frozen 2
          clear hps hrl
          have HE := hide (rl_end HSt.out 0 0 0)
          go_wp2
          have y0 := HE.out.1.cell 0
          have y1 := HE.out.1.cell 1
          have y2 := HE.out.1.cell 2
          refine bodyPost_ret (v := .tuple #[.slice A0 rs.length c0, .agg #[.int .i64 0, .int .i64 0, .int .i64 0]]) (by simp [results, Tryd.results41, go_sem, y0, y1, y2]) rfl ?_
          exact ⟨HE.out.2.1, .inr ⟨A0, c0, rs, by rw [HPS.out]; exact HGd.out, by rw [HPS.out]; exact HRs.out, rfl, linesAt_of HE.out.2.2.1 rfl HE.out.2.2.2⟩⟩
end Go.Proofs.YtiibglkiakhfgaaDoor
