import Derived.Test.YtiibglkiakhfgaaDoorLexJoin
import Derived.Test.YtiibglkiakhfgaaDoorRefLines
set_option linter.unusedSimpArgs false
set_option linter.unusedVariables false
namespace Go.Proofs.YtiibglkiakhfgaaDoor
open Go.RowKit
attribute [local go_sem] Oper.semAt_some
/-- Where the first line errs, and how. -/
def firstBad : Nat → List (List UInt8) → Nat × Nat × Nat
  | _, [] => (0, 0, 0)
  | k, p :: ps => if (cutF (str p)).2 = 0 then firstBad (k + 1) ps else (k + 1, (cutF (str p)).1, (cutF (str p)).2)
theorem firstBad_bad : ∀ (pre : List (List UInt8)) (k : Nat) (p : List UInt8) (post : List (List UInt8)), (∀ x ∈ pre, (cutF (str x)).2 = 0) → (cutF (str p)).2 ≠ 0 → firstBad k (pre ++ p :: post) = (k + pre.length + 1, (cutF (str p)).1, (cutF (str p)).2)
  | [], k, p, post, _, hp => by rw [List.nil_append, firstBad, if_neg hp]; rfl
  | x :: pre, k, p, post, h, hp => by
    rw [List.cons_append, firstBad, if_pos (h x (by simp)), firstBad_bad pre (k + 1) p post (fun y hy => h y (by simp [hy])) hp, List.length_cons]
    rw [show k + 1 + pre.length + 1 = k + (pre.length + 1) + 1 by omega]
theorem firstBad_good : ∀ (ps : List (List UInt8)) (k : Nat), (∀ x ∈ ps, (cutF (str x)).2 = 0) → firstBad k ps = (0, 0, 0)
  | [], _, _ => rfl
  | x :: ps, k, h => by rw [firstBad, if_pos (h x (by simp)), firstBad_good ps (k + 1) (fun y hy => h y (by simp [hy]))]
def keepR (l : List UInt8) : List (Nat × List UInt8) := if (firstBad 0 (pieces 10 l)).2.2 = 0 then keepN 0 (pieces 10 l) else []
def LinesR (K : List (Nat × List UInt8)) (f1 f2 f3 n : Nat) (w : World) (e : Ending) (w' : World) : Prop :=
  Below w.heap.size w w' ∧ ∃ (A : Option Addr) (c : Nat) (rs : List LRow), Hid (rs.map (fun r => (r.n, r.p)) = K) ∧ Hid (LinesAt w' A n rs) ∧ e = .returned (.tuple #[.slice A n c, .agg #[.int .i64 (f1 : Int), .int .i64 (f2 : Int), .int .i64 (f3 : Int)]])
theorem linesR_of {l : List UInt8} {w w' : World} {e : Ending} {f1 f2 f3 n : Nat} (hn : (keepR l).length = n) (hf : firstBad 0 (pieces 10 l) = (f1, f2, f3)) (h : LinesQ l w e w') : LinesR (keepR l) f1 f2 f3 n w e w' := by
  obtain ⟨hb, ⟨pre, p, post, hp, hg, hbad, rfl⟩ | ⟨A, c, rs, hg, hrs, rfl, hl⟩⟩ := h
  · have h1 := firstBad_bad pre 0 p post hg hbad
    rw [← hp, hf] at h1
    simp only [Prod.mk.injEq, Nat.zero_add] at h1
    obtain ⟨rfl, rfl, rfl⟩ := h1
    have hk : keepR l = [] := by unfold keepR; rw [hf, if_neg hbad]
    rw [hk] at hn ⊢
    subst hn
    exact ⟨hb, none, 0, [], hide rfl, hide ⟨rfl, fun h => absurd h (by simp), by simp⟩, rfl⟩
  · have h1 := firstBad_good _ 0 hg
    rw [hf] at h1
    simp only [Prod.mk.injEq] at h1
    obtain ⟨rfl, rfl, rfl⟩ := h1
    have hk : keepR l = keepN 0 (pieces 10 l) := by unfold keepR; rw [hf, if_pos rfl]
    have hl2 : rs.length = n := by rw [← hn, hk, ← hrs, List.length_map]
    rw [hl2] at hl ⊢
    exact ⟨hb, A, c, rs, hide (by rw [hk]; exact hrs), hide hl, rfl⟩
theorem keepR_ne (l : List UInt8) : ∀ q ∈ keepR l, cutR (str q.2) ≠ [] := by
  intro q hq
  unfold keepR at hq
  split at hq
  · exact keepN_ne 0 _ q hq
  · simp at hq
theorem keepR_len (l : List UInt8) : (keepR l).length ≤ l.length + 1 := by
  unfold keepR
  split
  · exact Nat.le_trans (keepN_len 0 _) (pieces_len 10 l)
  · simp
theorem keepR_sum (l : List UInt8) : (linesT ((keepR l).map (·.2))).length ≤ 2 * (l.length + 1) := by
  unfold keepR
  split
  · have := keep_sum 0 (pieces 10 l)
    rw [pieces_sum] at this
    exact this
  · simp [linesT]
/-- What the lines are read as again. -/
def backR (K : List (Nat × List UInt8)) : List (Nat × List UInt8) := ((K.map (·.2)).map (fun p => jw (wtexts p))).mapIdx (fun i q => (i + 1, q))
theorem keepR_back (K : List (Nat × List UInt8)) (h : ∀ q ∈ K, cutR (str q.2) ≠ []) : firstBad 0 (pieces 10 (linesT (K.map (·.2)))) = (0, 0, 0) ∧ keepR (linesT (K.map (·.2))) = backR K := by
  have h1 : firstBad 0 (pieces 10 (linesT (K.map (·.2)))) = (0, 0, 0) := by
    rw [linesT_pieces]; exact firstBad_good _ 0 (back_good _)
  refine ⟨h1, ?_⟩
  unfold keepR
  rw [h1, if_pos rfl, linesT_pieces, back_keep _ 0 (fun p hp => by
    obtain ⟨q, hq, rfl⟩ := List.mem_map.1 hp
    exact h q hq)]
  unfold backR
  congr 1
  funext i q
  rw [Nat.zero_add]
theorem backR_len (K : List (Nat × List UInt8)) : (backR K).length = K.length := by simp [backR]
theorem back_at {K : List (Nat × List UInt8)} {rs rs3 : List LRow} {k : Nat} {r r3 : LRow} (h : rs.map (fun r => (r.n, r.p)) = K) (h3 : rs3.map (fun r => (r.n, r.p)) = backR K) (hr : rs[k]? = some r) (hr3 : rs3[k]? = some r3) : r3.n = k + 1 ∧ r3.p = jw (wtexts r.p) := by
  subst h
  have h4 := congrArg (fun l => l[k]?) h3
  simp only [backR, List.getElem?_map, List.getElem?_mapIdx, hr, hr3, Option.map_some] at h4
  injection h4 with h4
  simp only [Prod.mk.injEq] at h4
  exact h4
theorem rps_of {K : List (Nat × List UInt8)} {rs : List LRow} (h : rs.map (fun r => (r.n, r.p)) = K) : rps rs = K.map (·.2) := by
  subst h; unfold rps; rw [List.map_map]; rfl
theorem same_rows {K : List (Nat × List UInt8)} {rs rs2 : List LRow} {k : Nat} {r r2 : LRow} (h : rs.map (fun r => (r.n, r.p)) = K) (h2 : rs2.map (fun r => (r.n, r.p)) = K) (hr : rs[k]? = some r) (hr2 : rs2[k]? = some r2) : r.n = r2.n ∧ r.p = r2.p := by
  have h3 := congrArg (fun l => l[k]?) (h.trans h2.symm)
  simp only [List.getElem?_map, hr, hr2, Option.map_some] at h3
  injection h3 with h3
  simpa using h3
theorem words_back {p : List UInt8} (h64 : (cutR (str p)).length ≤ 64) : (cutR (str (jw (wtexts p)))).length = (cutR (str p)).length ∧
    ∀ (k : Nat) (a b : ByteArray × Int), (wlist (str (jw (wtexts p))) (cutR (str (jw (wtexts p)))))[k]? = some a → (wlist (str p) (cutR (str p)))[k]? = some b → a.1 = b.1 := by
  have hj := (cut_jw (wtexts p) (wtexts_ok p) (by rw [wtexts_len]; exact h64)).1
  refine ⟨by rw [← wtexts_len, hj, wtexts_len], fun k a b ha hb => ?_⟩
  have h1 := congrArg (fun l => l[k]?) (wlist_texts (jw (wtexts p)))
  have h2 := congrArg (fun l => l[k]?) (wlist_texts p)
  rw [hj] at h1
  simp only [List.getElem?_map, ha, hb, Option.map_some] at h1 h2
  rw [← h2] at h1
  injection h1

theorem LinesAt.drewN {w : World} {A : Option Addr} {n : Nat} {rs : List LRow} (h : LinesAt w A n rs) (q : Nat) : LinesAt (w.drewN q) A n rs := h
theorem WordsAt.drewN' {w : World} {A : Option Addr} {n : Nat} {l : List (ByteArray × Int)} (h : WordsAt w A n l) (q : Nat) : WordsAt (w.drewN q) A n l := h
theorem same_q (A B : Option Addr) (n c d : Nat) (pl : Bool) (l m : List (ByteArray × Int)) (w : World) (hn : n ≤ maxLen) (ha : WordsAt w A n l) (hb : WordsAt w B n m)
    (h1 : ∀ (k : Nat) (p q : ByteArray × Int), l[k]? = some p → m[k]? = some q → p.1 = q.1 ∧ (pl = true → p.2 = q.2)) (a : Nat) :
    Calls Tryd.prog 42 #[.slice A n c, .slice B n d, .bool pl] (w.drewN a) fun e w' => e = .returned (.bool true) ∧ ∃ q, w' = w.drewN q :=
  (same_true A B n c d pl l m (w.drewN a) hn (ha.drewN' a) (hb.drewN' a) h1).mono fun e w' ⟨he, q, hq⟩ => ⟨he, a + q, by rw [hq, World.drewN_drewN]⟩

set_option maxRecDepth 100000 in
set_option maxHeartbeats 4000000 in
theorem lexLines_core (s : ByteArray) (l : List UInt8) (hl : l.length ≤ 500) (hs : (s.size ≤ 500 ∧ s = str l) ∨ (500 < s.size ∧ s.size ≤ 9223372036854775807 ∧ s.extract 0 500 = str l)) (w : World) :
    Calls Tryd.prog 9 #[.string s] w (GoodP true w) := by
  obtain ⟨n, hn⟩ : ∃ n, (keepR l).length = n := ⟨_, rfl⟩
  obtain ⟨⟨f1, f2, f3⟩, hf⟩ : ∃ f, firstBad 0 (pieces 10 l) = f := ⟨_, rfl⟩
  have hc10 : l.count 10 ≤ 2000 := Nat.le_trans List.count_le_length (by omega)
  have hn1 : n ≤ 501 := by rw [← hn]; have := keepR_len l; omega
  have HL1 : Hid (∀ w, Calls Tryd.prog 26 #[.string (str l)] w (LinesR (keepR l) f1 f2 f3 n w)) := hide (fun w => (lines_anyQ l (by omega) hc10 w).mono fun e w' h => linesR_of hn hf h)
  have HL2 : Hid (∀ w, Calls Tryd.prog 41 #[.string (str l)] w (LinesR (keepR l) f1 f2 f3 n w)) := hide (fun w => (refLines_any l (by omega) hc10 w).mono fun e w' h => linesR_of hn hf h)
  obtain ⟨J, hJ⟩ : ∃ J, linesT ((keepR l).map (·.2)) = J := ⟨_, rfl⟩
  have hJl : J.length ≤ 1002 := by rw [← hJ]; have := keepR_sum l; omega
  have HJn : Hid (∀ (A : Option Addr) (c : Nat) (rs : List LRow) (w : World), rs.map (fun r => (r.n, r.p)) = keepR l → LinesAt w A n rs → Calls Tryd.prog 43 #[.slice A n c] w fun e w' => e = .returned (.string (str J)) ∧ Below w.heap.size w w') := hide (fun A c rs w h1 h2 => by
    have := lexJoin_any A c n rs w h2 (by omega) (by rw [rps_of h1, hJ]; omega)
    rwa [rps_of h1, hJ] at this)
  have HL3 : Hid (∀ w, Calls Tryd.prog 26 #[.string (str J)] w (fun e w' => Below w.heap.size w w' ∧ ∃ (A : Option Addr) (c : Nat) (rs : List LRow), Hid (rs.map (fun r => (r.n, r.p)) = backR (keepR l)) ∧ Hid (LinesAt w' A n rs) ∧ e = .returned (.tuple #[.slice A n c, .agg #[.int .i64 0, .int .i64 0, .int .i64 0]]))) := hide (fun w => by
    have hb := keepR_back (keepR l) (keepR_ne l)
    rw [hJ] at hb
    have := (lines_anyQ J (by omega) (Nat.le_trans List.count_le_length (by omega)) w).mono fun e w' h => linesR_of (n := n) (by rw [hb.2, backR_len]; exact hn) hb.1 h
    rwa [hb.2] at this)
  obtain ⟨K, hK⟩ : ∃ K, keepR l = K := ⟨_, rfl⟩
  rw [hK] at HL1 HL2 HL3 HJn
  clear hn hf hJ hc10 hK hl hJl
  go_enter Tryd.func9, Tryd.ntmps9
  rcases hs with ⟨h1, rfl⟩ | ⟨h1, h2, h3⟩
  · have hg : decide ((500 : Int) < ((str l).size : Int)) = false := by simp; omega
    go_wp2_with fail
    refine (HL1.out _).mono ?_
    rintro e w1 ⟨hb1, A1, c1, rs1, hk1, hla1, rfl⟩
    have hs1 := hb1.size
    have HB1 := hide hb1
    clear hb1 h1 hg
    go_wp2_with fail
    refine (HL2.out _).mono ?_
    rintro e w2 ⟨hb2, A2, c2, rs2, hk2, hla2, rfl⟩
    have hT : Blk w2 w1.heap.size 41 #[.int .i64 (f1 : Int), .int .i64 (f2 : Int), .int .i64 (f3 : Int)] := (Blk.new w1 _ _).below hb2 (by simp)
    have e10 := hT.cell 0
    have e11 := hT.cell 1
    have e12 := hT.cell 2
    have g1 : w1.heap.size < w2.heap.size := hT.lt
    have HB2 : Hid (Below w.heap.size w w2) := hide ((HB1.out.alloc hs1 _).trans (hb2.mono (by simp; omega)))
    have hal : Below w2.heap.size w2 (w2.alloc (.cells #[.int .i64 (f1 : Int), .int .i64 (f2 : Int), .int .i64 (f3 : Int)] 41)) := (Below.refl _ w2).alloc (Nat.le_refl _) _
    have HW1 := hide (((hla1.out.below ((Below.refl _ w1).alloc (Nat.le_refl _) (.cells #[.int .i64 (f1 : Int), .int .i64 (f2 : Int), .int .i64 (f3 : Int)] 41))).below hb2).below hal)
    have HW2 := hide (hla2.out.below hal)
    have hs2 := HB2.out.size
    clear hb2 hT hal
    go_wp2
    go_loopw [7] (fun i wr => ∃ k : Nat, k ≤ n ∧ i = .int .i64 (k : Nat) ∧ ∃ q, wr = (w2.alloc (.cells #[.int .i64 (f1 : Int), .int .i64 (f2 : Int), .int .i64 (f3 : Int)] 41)).drewN q) (fun i _ => n - (intOf i).toNat)
    case atStart => exact ⟨0, by omega, rfl, 0, rfl⟩
    case round =>
      obtain ⟨k, hk, rfl, hq⟩ := hrel
      have HQ := hide hq
      have HA1 : Hid (LinesAt wr A1 n rs1) := hide (by obtain ⟨q, rfl⟩ := hq; exact HW1.out.drewN q)
      have HA2 : Hid (LinesAt wr A2 n rs2) := hide (by obtain ⟨q, rfl⟩ := hq; exact HW2.out.drewN q)
      have HBr : Hid (Below w.heap.size w wr) := hide (by obtain ⟨q, rfl⟩ := hq; exact below_drewN (HB2.out.alloc hs2 _) q)
      clear hq
      by_cases hlt : k < n
      · obtain ⟨g, r, rfl, hg, hr, ca, cb, hW⟩ := HA1.out.at_ hlt
        obtain ⟨g', r', rfl, hg', hr', ca', cb', hW'⟩ := HA2.out.at_ hlt
        obtain ⟨en, ep⟩ := same_rows hk1.out hk2.out hr hr'
        obtain ⟨n1, p1, B1, d1⟩ := r
        obtain ⟨n2, p2, B2, d2⟩ := r'
        simp only at en ep
        subst en
        subst ep
        obtain ⟨m, hm⟩ : ∃ m, (cutR (str p1)).length = m := ⟨_, rfl⟩
        have hv1 : (LRow.mk n1 p1 B1 d1).val = .slice B1 m d1 := by unfold LRow.val; rw [hm]
        have hv2 : (LRow.mk n1 p1 B2 d2).val = .slice B2 m d2 := by unfold LRow.val; rw [hm]
        rw [hv1] at cb
        rw [hv2] at cb'
        simp only at ca ca' hW hW'
        have hm64 : m ≤ 64 := by rw [← hm]; exact cutR_len64 _
        rw [hm] at hW hW'
        have HSm := hide (fun a => same_q B1 B2 m d1 d2 true _ _ wr (by unfold maxLen; omega) hW hW' (fun k p q h1 h2 => by rw [h1] at h2; cases h2; exact ⟨rfl, fun _ => rfl⟩) a)
        clear hr hr' hm hv1 hv2 hW hW'
        go_wp2
        go_quiet ((go_at_call 42; exact HSm.out _))
        go_wp2
        go_roundw
        case rel =>
          obtain ⟨q, hq⟩ := HQ.out
          exact ⟨k + 1, by omega, by go_num, _, by rw [hq, World.drewN_drewN]⟩
        case measure => simp [intOf]; omega
      · obtain rfl : k = n := by omega
        go_wp2_with fail
        refine (HJn.out A2 c2 rs2 wr hk2.out HA2.out).mono ?_
        rintro e w3 ⟨rfl, hb3⟩
        have HX3 := hide (HA2.out.below hb3)
        have HB3 := hide (HBr.out.trans (hb3.mono HBr.out.size))
        clear hb3
        go_wp2_with fail
        refine (HL3.out _).mono ?_
        rintro e w4 ⟨hb4, A3, c3, rs3, hk3, hla3, rfl⟩
        have hal : Below w4.heap.size w4 (w4.alloc (.cells #[.int .i64 0, .int .i64 0, .int .i64 0] 41)) := (Below.refl _ w4).alloc (Nat.le_refl _) _
        have HX4 := hide ((HX3.out.below hb4).below hal)
        have HY4 := hide (hla3.out.below hal)
        have HB4 := hide (HB3.out.trans (hb4.mono HB3.out.size))
        have hs4 := (HB3.out.trans (hb4.mono HB3.out.size)).size
        clear hb4 hal
        go_wp2
        obtain ⟨wo, hwo⟩ : ∃ wo : World, wo = wr := ⟨_, rfl⟩
        subst hwo
        go_loopw [10] (fun i wr => ∃ j : Nat, j ≤ k ∧ i = .int .i64 (j : Nat) ∧ ∃ q, wr = (w4.alloc (.cells #[.int .i64 0, .int .i64 0, .int .i64 0] 41)).drewN q) (fun i _ => k - (intOf i).toNat)
        case atStart => exact ⟨0, by omega, rfl, 0, rfl⟩
        case round =>
          obtain ⟨j, hj, rfl, hq⟩ := hrel
          have HQ2 := hide hq
          have HA5 : Hid (LinesAt wr A2 k rs2) := hide (by obtain ⟨q, rfl⟩ := hq; exact HX4.out.drewN q)
          have HA6 : Hid (LinesAt wr A3 k rs3) := hide (by obtain ⟨q, rfl⟩ := hq; exact HY4.out.drewN q)
          have HBr2 : Hid (Below w.heap.size w wr) := hide (by obtain ⟨q, rfl⟩ := hq; exact below_drewN (HB4.out.alloc hs4 _) q)
          clear hq
          by_cases hlt : j < k
          · obtain ⟨g, r, rfl, hg, hr, ca, cb, hW⟩ := HA5.out.at_ hlt
            obtain ⟨g', r', rfl, hg', hr', ca', cb', hW'⟩ := HA6.out.at_ hlt
            obtain ⟨en, ep⟩ := back_at hk2.out hk3.out hr hr'
            obtain ⟨n1, p1, B1, d1⟩ := r
            obtain ⟨n2, p2, B2, d2⟩ := r'
            simp only at en ep
            subst en
            subst ep
            obtain ⟨hwl, hwt⟩ := words_back (p := p1) (cutR_len64 _)
            obtain ⟨m, hm⟩ : ∃ m, (cutR (str p1)).length = m := ⟨_, rfl⟩
            have hv1 : (LRow.mk n1 p1 B1 d1).val = .slice B1 m d1 := by unfold LRow.val; rw [hm]
            have hv2 : (LRow.mk (j + 1) (jw (wtexts p1)) B2 d2).val = .slice B2 m d2 := by unfold LRow.val; rw [hwl, hm]
            rw [hv1] at cb
            rw [hv2] at cb'
            simp only at ca ca' hW hW'
            have hm64 : m ≤ 64 := by rw [← hm]; exact cutR_len64 _
            rw [hm] at hW
            rw [hwl, hm] at hW'
            have ca2 : wr.cell? ⟨g', j * 2, none⟩ = some (.int .i64 ((j : Int) + 1)) := by rw [ca']; simp
            have HSm := hide (fun a => same_q B2 B1 m d2 d1 false _ _ wr (by unfold maxLen; omega) hW' hW (fun k p q h1 h2 => ⟨hwt k p q h1 h2, fun h => by cases h⟩) a)
            have hwr : IntKind.wrap .i64 ((j : Int) + 1) = (j : Int) + 1 := by simp [IntKind.wrap, IntKind.bits, IntKind.signed]; omega
            clear hr hr' hm hv1 hv2 hW hW' ca' hwl hwt
            go_wp2
            go_quiet ((go_at_call 42; exact HSm.out _))
            go_wp2
            go_roundw
            case rel =>
              obtain ⟨q, hq⟩ := HQ2.out
              exact ⟨j + 1, by omega, by go_num, _, by rw [hq, World.drewN_drewN]⟩
            case measure => simp [intOf]; omega
          · obtain rfl : j = k := by omega
            go_wp2_with fail
            refine (lexLives_any _).mono ?_
            rintro e w5 ⟨rfl, hb5⟩
            have HB5 := hide (HBr2.out.trans (hb5.mono HBr2.out.size))
            clear hb5
            go_wp2
            go_ret
            exact ⟨rfl, HB5.out⟩
  · have hg : decide ((500 : Int) < (s.size : Int)) = true := by simp; omega
    go_wp2_with fail
    refine (HL1.out _).mono ?_
    rintro e w1 ⟨hb1, A1, c1, rs1, hk1, hla1, rfl⟩
    have hs1 := hb1.size
    have HB1 := hide hb1
    clear hb1 h1 hg
    go_wp2_with fail
    refine (HL2.out _).mono ?_
    rintro e w2 ⟨hb2, A2, c2, rs2, hk2, hla2, rfl⟩
    have hT : Blk w2 w1.heap.size 41 #[.int .i64 (f1 : Int), .int .i64 (f2 : Int), .int .i64 (f3 : Int)] := (Blk.new w1 _ _).below hb2 (by simp)
    have e10 := hT.cell 0
    have e11 := hT.cell 1
    have e12 := hT.cell 2
    have g1 : w1.heap.size < w2.heap.size := hT.lt
    have HB2 : Hid (Below w.heap.size w w2) := hide ((HB1.out.alloc hs1 _).trans (hb2.mono (by simp; omega)))
    have hal : Below w2.heap.size w2 (w2.alloc (.cells #[.int .i64 (f1 : Int), .int .i64 (f2 : Int), .int .i64 (f3 : Int)] 41)) := (Below.refl _ w2).alloc (Nat.le_refl _) _
    have HW1 := hide (((hla1.out.below ((Below.refl _ w1).alloc (Nat.le_refl _) (.cells #[.int .i64 (f1 : Int), .int .i64 (f2 : Int), .int .i64 (f3 : Int)] 41))).below hb2).below hal)
    have HW2 := hide (hla2.out.below hal)
    have hs2 := HB2.out.size
    clear hb2 hT hal
    go_wp2
    go_loopw [7] (fun i wr => ∃ k : Nat, k ≤ n ∧ i = .int .i64 (k : Nat) ∧ ∃ q, wr = (w2.alloc (.cells #[.int .i64 (f1 : Int), .int .i64 (f2 : Int), .int .i64 (f3 : Int)] 41)).drewN q) (fun i _ => n - (intOf i).toNat)
    case atStart => exact ⟨0, by omega, rfl, 0, rfl⟩
    case round =>
      obtain ⟨k, hk, rfl, hq⟩ := hrel
      have HQ := hide hq
      have HA1 : Hid (LinesAt wr A1 n rs1) := hide (by obtain ⟨q, rfl⟩ := hq; exact HW1.out.drewN q)
      have HA2 : Hid (LinesAt wr A2 n rs2) := hide (by obtain ⟨q, rfl⟩ := hq; exact HW2.out.drewN q)
      have HBr : Hid (Below w.heap.size w wr) := hide (by obtain ⟨q, rfl⟩ := hq; exact below_drewN (HB2.out.alloc hs2 _) q)
      clear hq
      by_cases hlt : k < n
      · obtain ⟨g, r, rfl, hg, hr, ca, cb, hW⟩ := HA1.out.at_ hlt
        obtain ⟨g', r', rfl, hg', hr', ca', cb', hW'⟩ := HA2.out.at_ hlt
        obtain ⟨en, ep⟩ := same_rows hk1.out hk2.out hr hr'
        obtain ⟨n1, p1, B1, d1⟩ := r
        obtain ⟨n2, p2, B2, d2⟩ := r'
        simp only at en ep
        subst en
        subst ep
        obtain ⟨m, hm⟩ : ∃ m, (cutR (str p1)).length = m := ⟨_, rfl⟩
        have hv1 : (LRow.mk n1 p1 B1 d1).val = .slice B1 m d1 := by unfold LRow.val; rw [hm]
        have hv2 : (LRow.mk n1 p1 B2 d2).val = .slice B2 m d2 := by unfold LRow.val; rw [hm]
        rw [hv1] at cb
        rw [hv2] at cb'
        simp only at ca ca' hW hW'
        have hm64 : m ≤ 64 := by rw [← hm]; exact cutR_len64 _
        rw [hm] at hW hW'
        have HSm := hide (fun a => same_q B1 B2 m d1 d2 true _ _ wr (by unfold maxLen; omega) hW hW' (fun k p q h1 h2 => by rw [h1] at h2; cases h2; exact ⟨rfl, fun _ => rfl⟩) a)
        clear hr hr' hm hv1 hv2 hW hW'
        go_wp2
        go_quiet ((go_at_call 42; exact HSm.out _))
        go_wp2
        go_roundw
        case rel =>
          obtain ⟨q, hq⟩ := HQ.out
          exact ⟨k + 1, by omega, by go_num, _, by rw [hq, World.drewN_drewN]⟩
        case measure => simp [intOf]; omega
      · obtain rfl : k = n := by omega
        go_wp2_with fail
        refine (HJn.out A2 c2 rs2 wr hk2.out HA2.out).mono ?_
        rintro e w3 ⟨rfl, hb3⟩
        have HX3 := hide (HA2.out.below hb3)
        have HB3 := hide (HBr.out.trans (hb3.mono HBr.out.size))
        clear hb3
        go_wp2_with fail
        refine (HL3.out _).mono ?_
        rintro e w4 ⟨hb4, A3, c3, rs3, hk3, hla3, rfl⟩
        have hal : Below w4.heap.size w4 (w4.alloc (.cells #[.int .i64 0, .int .i64 0, .int .i64 0] 41)) := (Below.refl _ w4).alloc (Nat.le_refl _) _
        have HX4 := hide ((HX3.out.below hb4).below hal)
        have HY4 := hide (hla3.out.below hal)
        have HB4 := hide (HB3.out.trans (hb4.mono HB3.out.size))
        have hs4 := (HB3.out.trans (hb4.mono HB3.out.size)).size
        clear hb4 hal
        go_wp2
        obtain ⟨wo, hwo⟩ : ∃ wo : World, wo = wr := ⟨_, rfl⟩
        subst hwo
        go_loopw [10] (fun i wr => ∃ j : Nat, j ≤ k ∧ i = .int .i64 (j : Nat) ∧ ∃ q, wr = (w4.alloc (.cells #[.int .i64 0, .int .i64 0, .int .i64 0] 41)).drewN q) (fun i _ => k - (intOf i).toNat)
        case atStart => exact ⟨0, by omega, rfl, 0, rfl⟩
        case round =>
          obtain ⟨j, hj, rfl, hq⟩ := hrel
          have HQ2 := hide hq
          have HA5 : Hid (LinesAt wr A2 k rs2) := hide (by obtain ⟨q, rfl⟩ := hq; exact HX4.out.drewN q)
          have HA6 : Hid (LinesAt wr A3 k rs3) := hide (by obtain ⟨q, rfl⟩ := hq; exact HY4.out.drewN q)
          have HBr2 : Hid (Below w.heap.size w wr) := hide (by obtain ⟨q, rfl⟩ := hq; exact below_drewN (HB4.out.alloc hs4 _) q)
          clear hq
          by_cases hlt : j < k
          · obtain ⟨g, r, rfl, hg, hr, ca, cb, hW⟩ := HA5.out.at_ hlt
            obtain ⟨g', r', rfl, hg', hr', ca', cb', hW'⟩ := HA6.out.at_ hlt
            obtain ⟨en, ep⟩ := back_at hk2.out hk3.out hr hr'
            obtain ⟨n1, p1, B1, d1⟩ := r
            obtain ⟨n2, p2, B2, d2⟩ := r'
            simp only at en ep
            subst en
            subst ep
            obtain ⟨hwl, hwt⟩ := words_back (p := p1) (cutR_len64 _)
            obtain ⟨m, hm⟩ : ∃ m, (cutR (str p1)).length = m := ⟨_, rfl⟩
            have hv1 : (LRow.mk n1 p1 B1 d1).val = .slice B1 m d1 := by unfold LRow.val; rw [hm]
            have hv2 : (LRow.mk (j + 1) (jw (wtexts p1)) B2 d2).val = .slice B2 m d2 := by unfold LRow.val; rw [hwl, hm]
            rw [hv1] at cb
            rw [hv2] at cb'
            simp only at ca ca' hW hW'
            have hm64 : m ≤ 64 := by rw [← hm]; exact cutR_len64 _
            rw [hm] at hW
            rw [hwl, hm] at hW'
            have ca2 : wr.cell? ⟨g', j * 2, none⟩ = some (.int .i64 ((j : Int) + 1)) := by rw [ca']; simp
            have HSm := hide (fun a => same_q B2 B1 m d2 d1 false _ _ wr (by unfold maxLen; omega) hW' hW (fun k p q h1 h2 => ⟨hwt k p q h1 h2, fun h => by cases h⟩) a)
            have hwr : IntKind.wrap .i64 ((j : Int) + 1) = (j : Int) + 1 := by simp [IntKind.wrap, IntKind.bits, IntKind.signed]; omega
            clear hr hr' hm hv1 hv2 hW hW' ca' hwl hwt
            go_wp2
            go_quiet ((go_at_call 42; exact HSm.out _))
            go_wp2
            go_roundw
            case rel =>
              obtain ⟨q, hq⟩ := HQ2.out
              exact ⟨j + 1, by omega, by go_num, _, by rw [hq, World.drewN_drewN]⟩
            case measure => simp [intOf]; omega
          · obtain rfl : j = k := by omega
            go_wp2_with fail
            refine (lexLives_any _).mono ?_
            rintro e w5 ⟨rfl, hb5⟩
            have HB5 := hide (HBr2.out.trans (hb5.mono HBr2.out.size))
            clear hb5
            go_wp2
            go_ret
            exact ⟨rfl, HB5.out⟩
theorem ext_take (s : ByteArray) (n : Nat) : s.extract 0 n = str (s.data.toList.take n) := by
  have := str_cut s.data.toList n
  rwa [str_of] at this
theorem lexLines_any (s : ByteArray) (hs : s.size ≤ maxLen) (w : World) : Calls Tryd.prog 9 #[.string s] w (GoodP true w) := by
  have hs1 := hs
  unfold maxLen at hs1
  by_cases h : s.size ≤ 500
  · exact lexLines_core s s.data.toList (by rw [Array.length_toList]; exact h) (.inl ⟨h, (str_of s).symm⟩) w
  · exact lexLines_core s (s.data.toList.take 500) (List.length_take_le _ _) (.inr ⟨by omega, by omega, ext_take s 500⟩) w
end Go.Proofs.YtiibglkiakhfgaaDoor
