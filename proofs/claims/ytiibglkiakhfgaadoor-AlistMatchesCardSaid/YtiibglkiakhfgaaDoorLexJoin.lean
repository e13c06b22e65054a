import Derived.Test.YtiibglkiakhfgaaDoorLinesP
set_option linter.unusedSimpArgs false
set_option linter.unusedVariables false
namespace Go.Proofs.YtiibglkiakhfgaaDoor
open Go.RowKit
/-! ### lex.Join -/
theorem joinOwn2 (A : Option Addr) (k c base : Nat) (l : List (List UInt8)) (w : World) (h : w.ownsRow base 9 1 (.slice A k c) k (strv l)) (hk : k ≤ 1000) (hl : (jw l).length ≤ 100000) :
    Calls Tryd.prog 140 #[.slice A k c, .string ⟨#[32]⟩] w fun e w' => e = .returned (.string (str (jw l))) ∧ Below w.heap.size w w' := by
  have hlk : l.length = k := by have := h.1; simp [strv] at this; omega
  by_cases hk0 : k = 0
  · subst hk0
    obtain rfl : l = [] := List.eq_nil_of_length_eq_zero hlk
    refine (Tryd.strings_Join_none A c ⟨#[32]⟩ w).mono ?_
    rintro e w' ⟨rfl, rfl⟩
    exact ⟨rfl, Below.refl _ _⟩
  · obtain ⟨g, cap, hv, _, hlt⟩ := h.form (by omega)
    cases hv
    have hcap : k ≤ c := by
      rcases h.2 with ⟨hv, h0⟩ | ⟨g', cap', cur, hv, _, _, hnc, _⟩
      · cases hv
      · cases hv; exact hnc
    have hm : (l.map str).map (·.data.toList) = l := by rw [List.map_map]; exact (List.map_congr_left (fun x _ => str_data x)).trans (List.map_id l)
    have hj := Tryd.strings_Join g 0 c (l.map str) ⟨#[32]⟩ w (fun j x hx => by
        have := h.cells (g := g) rfl j (.string x) (by simp only [strv, List.getElem?_map] at hx ⊢; rw [Option.map_eq_some_iff] at hx ⊢; obtain ⟨y, hy, rfl⟩ := hx; exact ⟨y, hy, rfl⟩)
        rw [show (⟨g, 0, none⟩ : Addr).add j = ⟨g, 0 + j, none⟩ by unfold Addr.add; split <;> simp_all] at this
        exact this) hlt (by simp; omega) (by simp; omega) (by
        rw [hm]
        unfold jw at hl
        show (Lib.join l [32]).length ≤ _
        omega)
    rw [hm, List.length_map, hlk] at hj
    refine hj.mono ?_
    rintro e w' ⟨rfl, hb⟩
    exact ⟨rfl, hb⟩
set_option maxHeartbeats 1000000 in
theorem lextext2 (A : Option Addr) (k c base : Nat) (l : List (List UInt8)) (w : World) (h : w.ownsRow base 9 1 (.slice A k c) k (strv l)) (hk : k ≤ 1000) (hl : (jw l).length ≤ 100000) :
    Calls Tryd.prog 100 #[.slice A k c] w fun e w' => e = .returned (.string (str (jw l))) ∧ Below w.heap.size w w' := by
  have HJ := hide (joinOwn2 A k c base l w h hk hl)
  clear h hl
  go_enter Tryd.func100, Tryd.ntmps100
  go_wp2_with fail
  refine HJ.out.mono ?_
  rintro e w1 ⟨rfl, hb⟩
  have HB := hide hb
  clear hb
  go_wp2
  go_ret
  exact ⟨rfl, HB.out⟩
theorem builder_strA (B b : Nat) (l : List UInt8) (w : World) (h : Lib.IsBuilder 112 5 B b (Lib.byteCells l) w) (hBw : B ≤ w.heap.size) :
    Calls Tryd.prog 101 #[.pointer (some ⟨b, 0, none⟩)] w fun e w' => e = .returned (.string ⟨l.toArray⟩) ∧ Below B w w' := Any.Builder_String_any { Tryd.lays156 with } Tryd.Builder_Extra_156 B b l w h hBw
theorem builder_below {T e : TypeId} {B b : Nat} {bs : List Value} {w w' : World} (h : Lib.IsBuilder T e B b bs w) (hb : Below w.heap.size w w') : Lib.IsBuilder T e B b bs w' := by
  have aux : ∀ p, Lib.BuilderAt T e B b p bs w → Lib.BuilderAt T e B b p bs w' := by
    rintro p ⟨h1, v, h2, h3, h4⟩
    exact ⟨h1, v, (hb.block b (Array.getElem?_eq_some_iff.1 h2).1).trans h2, own_below h3 hb, h4⟩
  exact h.imp (aux _) (aux _)
theorem linesT_take (ps : List (List UInt8)) (k : Nat) : (linesT (ps.take k)).length ≤ (linesT ps).length := by
  conv => rhs; rw [← List.take_append_drop k ps]
  unfold linesT
  rw [List.map_append, List.flatten_append, List.length_append]; omega
def rps (rs : List LRow) : List (List UInt8) := rs.map (·.p)
theorem rps_snoc {rs : List LRow} {k : Nat} {r : LRow} (h : rs[k]? = some r) : rps (rs.take (k + 1)) = rps (rs.take k) ++ [r.p] := by rw [take_snoc_g h]; simp [rps]
theorem words_text {w : World} {A : Option Addr} {m : Nat} {p : List UInt8} (h : WordsAt w A m (wlist (str p) (cutR (str p)))) {j : Nat} (hj : j < m) :
    ∃ (g : Nat) (x : List UInt8) (a : Int), A = some ⟨g, 0, none⟩ ∧ (wtexts p)[j]? = some x ∧ g < w.heap.size ∧ w.cell? ⟨g, j * 2, none⟩ = some (.string (str x)) ∧ w.cell? ⟨g, j * 2 + 1, none⟩ = some (.int .i64 a) := by
  obtain ⟨g, hA, hc⟩ := h.2 (by omega)
  have hl : j < (wlist (str p) (cutR (str p))).length := by rw [h.1]; exact hj
  obtain ⟨a, b⟩ := hc j _ (List.getElem?_eq_getElem hl)
  have hx : (wtexts p)[j]? = some ((wtexts p)[j]'(by rw [wtexts_len]; rw [wlist_len] at hl; exact hl)) := List.getElem?_eq_getElem _
  have ht := wlist_texts p
  have h1 := congrArg (fun l => l[j]?) ht
  simp only [List.getElem?_map, List.getElem?_eq_getElem hl, hx, Option.map_some] at h1
  injection h1 with h1
  rw [h1] at a
  exact ⟨g, _, _, hA, hx, World.block_lt_of_cell? w _ a, a, b⟩
set_option maxRecDepth 100000 in
set_option maxHeartbeats 4000000 in
theorem lexJoin_any (A : Option Addr) (c n : Nat) (rs : List LRow) (w : World) (h : LinesAt w A n rs) (hn : n ≤ 1000) (hT : (linesT (rps rs)).length ≤ 100000) :
    Calls Tryd.prog 43 #[.slice A n c] w fun e w' => e = .returned (.string (str (linesT (rps rs)))) ∧ Below w.heap.size w w' := by
  have HA := hide h
  have HT := hide hT
  obtain ⟨i0, hi, hz0, hz1, hz2⟩ := info_parts infoStr
  have HB0 : Hid (Lib.IsBuilder 112 5 w.heap.size w.heap.size (Lib.byteCells (linesT (rps (rs.take 0)))) (w.alloc (.cells #[.pointer none, .slice none 0 0] 112))) := hide (Lib.fresh_isBuilder 112 5 w)
  clear h hT
  go_enter Tryd.func43, Tryd.ntmps43
  go_wp2
  go_loopw [11] (fun i wr => ∃ k : Nat, k ≤ n ∧ i = .int .i64 (k : Nat) ∧ Lib.IsBuilder 112 5 w.heap.size w.heap.size (Lib.byteCells (linesT (rps (rs.take k)))) wr ∧ Below w.heap.size w wr) (fun i _ => n - (intOf i).toNat)
  case atStart => exact ⟨0, by omega, rfl, HB0.out, (Below.refl _ _).alloc (Nat.le_refl _) _⟩
  case round =>
    obtain ⟨k, hk, rfl, hb, hbel⟩ := hrel
    have HB := hide hb
    have HBel := hide hbel
    have HA2 := hide (HA.out.below hbel)
    have hsz := hbel.size
    clear hb hbel
    by_cases hlt : k < n
    · obtain ⟨g, r, rfl, hg, hx, ca, cb, hW⟩ := HA2.out.at_ hlt
      obtain ⟨m, hm⟩ : ∃ m, (cutR (str r.p)).length = m := ⟨_, rfl⟩
      have hm64 : m ≤ 64 := by rw [← hm]; exact cutR_len64 _
      have hv : r.val = .slice r.A m r.c := by unfold LRow.val; rw [hm]
      rw [hm] at hW
      rw [hv] at cb
      obtain ⟨rn, rA, rc, hrn, hrA, hrc⟩ : ∃ rn rA rc, r.n = rn ∧ r.A = rA ∧ r.c = rc := ⟨_, _, _, rfl, rfl, rfl⟩
      rw [hrn] at ca
      rw [hrA, hrc] at cb
      rw [hrA] at hW
      have HW := hide hW
      have HM := hide hm
      have HSn := hide (show linesT (rps (rs.take (k + 1))) = linesT (rps (rs.take k)) ++ lineT r.p by rw [rps_snoc hx, linesT_snoc])
      have HLen : Hid ((linesT (rps (rs.take (k + 1)))).length ≤ 100000) := hide (by
        have h1 := linesT_take (rps rs) (k + 1)
        have h2 := HT.out
        unfold rps at h1 h2 ⊢
        rw [List.map_take]
        omega)
      have HLn : Hid ((jw (wtexts r.p)).length + 1 ≤ 100000) := hide (by
        have h1 := HLen.out
        rw [HSn.out, List.length_append] at h1
        unfold lineT at h1
        simp at h1; omega)
      have hi0' : (0 : Int) ≤ (k : Int) := by omega
      clear hx hm hv hrn hrA hrc hW
      have HB1 : Hid (Below wr.heap.size wr (wr.alloc (.cells #[.int .i64 (rn : Int), .slice rA m rc] 62))) := hide ((Below.refl _ wr).alloc (Nat.le_refl _) _)
      go_wp2_with (at_make; refine wpList_make_own _ rfl _ _ 70 rfl wr.heap.size 9 i0 _ 1 Tryd.underlying70 hi hz0 hz1 .i64 .i64 _ m rfl rfl rfl (by rw [hz2]; omega) (by unfold maxLen; omega) (by simp) ?_; intro w1 hown1 hg1; have HO1 := hide hown1; have HG1 := hide hg1; clear hown1 hg1; have k62 : Blk w1 wr.heap.size 62 #[.int .i64 (rn : Int), .slice rA m rc] := (Blk.new wr _ _).grown HG1.out (by simp); have j0 := k62.cell 0; have j1 := k62.cell 1; have jl := k62.lt; clear k62)
      have HB2 : Hid (Below wr.heap.size wr w1) := hide (Below.grown HB1.out HG1.out (by simp) (fun k hk => by cases hk))
      have HTl : Hid ((wtexts r.p).length = m) := hide (by rw [wtexts_len]; exact HM.out)
      obtain ⟨tx, htx⟩ : ∃ tx, wtexts r.p = tx := ⟨_, rfl⟩
      rw [htx] at HTl HLn
      have HTX := hide htx
      clear htx
      obtain ⟨wo, hwo⟩ : ∃ wo : World, wo = wr := ⟨_, rfl⟩
      subst hwo
      go_loopw [6, 22] (fun v i wi => ∃ j : Nat, j ≤ m ∧ i = .int .i64 (j : Nat) ∧ wi.ownsRow wo.heap.size 9 1 v j (strv (tx.take j)) ∧ (∃ A c, v = .slice A j c) ∧ Below wo.heap.size wo wi) (fun _ i _ => m - (intOf i).toNat)
      case atStart => exact ⟨0, by omega, rfl, by have := HO1.out; rwa [World.size_alloc] at this, ⟨_, _, rfl⟩, HB2.out⟩
      case round =>
        obtain ⟨j, hj, rfl, hown, ⟨A', c', rfl⟩, hbi⟩ := hrel
        have HO := hide hown
        have HBi := hide hbi
        have hszi := hbi.size
        have HWi := hide (HW.out.below hbi)
        clear hown hbi
        by_cases hjl : j < m
        · obtain ⟨g', x, a, rfl, hxx, hg', cc0, cc1⟩ := words_text HWi.out hjl
          rw [HTX.out] at hxx
          have HXs := hide (show strv (tx.take (j + 1)) = strv (tx.take j) ++ [.string (str x)] by rw [take_snoc_g hxx]; simp [strv])
          have hj0 : (0 : Int) ≤ (j : Int) := by omega
          clear hxx
          go_wp2_with (at_builtin; refine wpList_append_any _ rfl (.tmp 26) (.tmp 29) 70 rfl wo.heap.size 9 i0 _ 1 16 Tryd.underlying70 hi hz0 hz1 hz2 rfl (by decide) (.slice A' j c') j (strv (tx.take j)) rfl ((HO.out.alloc _).alloc _) (wr.heap.size + 2) (some ⟨wr.heap.size + 1, 0, none⟩) 1 1 [.string (str x)] rfl ((reads_oneS (by simp)).more (by simp)) (by simp [Value.oneCell']) (by unfold maxLen; omega) (by omega) (by simp; omega) ?_; intro v' w3 hown' hgrow hat; have HO3 := hide hown'; have HG3 := hide hgrow; clear hown' hgrow hat)
          have HB3 : Hid (Below wo.heap.size wo w3) := hide (Below.grown ((HBi.out.alloc (by omega) (.cells #[.string (str x), .int .i64 a] 106)).alloc (by simp; omega) (.cells #[.string (str x)] 9)) HG3.out (by simp; omega) (fun k hk => (HO.out.lt k hk).1))
          have HF : Hid (w3.ownsRow wo.heap.size 9 1 v' (j + 1) (strv (tx.take (j + 1)))) := hide (by rw [HXs.out]; exact HO3.out)
          have HV : Hid (∃ A c, v' = .slice A (j + 1) c) := hide (own_slice HF.out)
          go_roundw
          case rel => exact ⟨j + 1, by omega, by go_num, HF.out, HV.out, HB3.out⟩
          case measure => simp [intOf]; omega
        · obtain rfl : j = m := by omega
          have HF : Hid (wr.ownsRow wo.heap.size 9 1 (.slice A' j c') j (strv tx)) := hide (by
            have := HO.out
            rwa [List.take_of_length_le (by rw [HTl.out]; exact Nat.le_refl _)] at this)
          have HTe := hide (lextext2 A' j c' wo.heap.size tx wr HF.out (by omega) (by have := HLn.out; omega))
          go_wp2_with fail
          refine HTe.out.mono ?_
          rintro e w2 ⟨rfl, hb2⟩
          have HB4 := hide (HBi.out.trans (hb2.mono hszi))
          have hsz4 := (HBi.out.trans (hb2.mono hszi)).size
          have HBl := hide (builder_below HB.out (HBi.out.trans (hb2.mono hszi)))
          have HBo := hide (HBel.out.trans ((HBi.out.trans (hb2.mono hszi)).mono hsz))
          have hsj : (str (jw tx)).size ≤ 100000 := by have := HLn.out; rw [str_size]; omega
          clear hb2
          go_wp2_with fail
          have HLb : Hid ((Lib.byteCells (linesT (rps (rs.take k)))).length + (str (jw tx ++ [10])).size ≤ 140737488355328) := hide (by
            have h1 := HLen.out
            rw [HSn.out, List.length_append] at h1
            have h2 := HLn.out
            rw [Lib.byteCells_length, str_size, List.length_append]
            simp; omega)
          have hcat : str (jw tx) ++ (⟨#[10]⟩ : ByteArray) = str (jw tx ++ [10]) := cat_str (jw tx) [10]
          have HWs := hide (builder_ws w.heap.size w.heap.size (Lib.byteCells (linesT (rps (rs.take k)))) (str (jw tx ++ [10])) w2 HBl.out HLb.out (by omega))
          rw [hcat]
          clear hcat
          refine HWs.out.mono ?_
          rintro e w5 ⟨rfl, hb5, hbel5⟩
          have HB5 : Hid (Lib.IsBuilder 112 5 w.heap.size w.heap.size (Lib.byteCells (linesT (rps (rs.take (k + 1))))) w5) := hide (by
            rw [bytes_app] at hb5
            rw [HSn.out]
            unfold lineT
            rw [HTX.out]
            exact .inr hb5)
          have HBe5 := hide (HBo.out.trans hbel5)
          clear hb5 hbel5
          go_wp2
          go_roundw
          case rel => exact ⟨k + 1, by omega, by go_num, HB5.out, HBe5.out⟩
          case measure => simp [intOf]; omega
    · obtain rfl : k = n := by omega
      have HB2 : Hid (Lib.IsBuilder 112 5 w.heap.size w.heap.size (Lib.byteCells (linesT (rps rs))) wr) := hide (by
        have := HB.out
        rwa [List.take_of_length_le (by rw [HA2.out.1]; exact Nat.le_refl _)] at this)
      go_wp2_with fail
      refine (builder_strA _ _ _ _ HB2.out hsz).mono ?_
      rintro e w2 ⟨rfl, hbel2⟩
      have HBel2 := hide (HBel.out.trans hbel2)
      clear hbel2
      go_wp2
      go_ret
      exact ⟨rfl, HBel2.out⟩
end Go.Proofs.YtiibglkiakhfgaaDoor
