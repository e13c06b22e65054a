import Derived.Test.YtiibglkiakhfgaaDoorAsnMrg
set_option linter.unusedSimpArgs false
set_option linter.unusedVariables false
namespace Go.Proofs.YtiibglkiakhfgaaDoor
open Go.RowKit
theorem setOf_snoc (l : List Nat) (x : Nat) : setOf (l ++ [x]) = putN (setOf l) x := by simp [setOf, List.foldl_append]
set_option maxRecDepth 100000 in
set_option maxHeartbeats 2000000 in
theorem refSet_any (A : Option Addr) (n c : Nat) (l : List Nat) (w : World) (h : U32s w A n c l) (hn : n ≤ 10000) :
    Calls Tryd.prog 59 #[.slice A n c] w fun e w' => ∃ g' o' n' c', e = .returned (.slice (some ⟨g', o', none⟩) n' c') ∧ U32s w' (some ⟨g', o', none⟩) n' c' (setOf l) ∧ Below w.heap.size w w' := by
  have HA := hide (U32lo.start h)
  have hm := h.2.2.1
  have hnc := h.2.1
  unfold maxLen at hm
  have HS : Hid (U32s (w.alloc (.cells #[] 22)) (some ⟨w.heap.size, 0, none⟩) 0 0 (setOf [])) := hide ⟨rfl, by omega, by simp [maxLen], by simp [setOf], fun h => by omega⟩
  clear h
  go_enter Tryd.func59, Tryd.ntmps59
  go_wp2
  go_loopw [3, 4] (fun v i wr => ∃ k g' o' n' c', k ≤ n ∧ i = .int .i64 (k : Nat) ∧ v = .slice (some ⟨g', o', none⟩) n' c' ∧ U32s wr (some ⟨g', o', none⟩) n' c' (setOf (l.take k)) ∧ Below w.heap.size w wr) (fun _ i _ => n - (intOf i).toNat)
  case atStart => exact ⟨0, w.heap.size, 0, 0, 0, by omega, rfl, rfl, by simpa using HS.out, (Below.refl _ _).alloc (Nat.le_refl _) _⟩
  case round =>
    obtain ⟨k, g', o', n', c', hk, rfl, rfl, hu, hb⟩ := hrel
    have HU := hide hu
    have HB := hide hb
    have HA2 := hide (HA.out.keep hb)
    clear hu hb
    by_cases hlt : k < n
    · obtain ⟨g, o, x, rfl, hg, hx, hx2, hc⟩ := HA2.out.1.at_ hlt
      have hsn := hide (show setOf (l.take (k + 1)) = putN (setOf (l.take k)) x by rw [take_snoc_eq hx, setOf_snoc])
      have hlen : n' ≤ 100000 := by
        have h1 := HU.out.1
        have h2 := setOf_len (l.take k)
        have h3 : (l.take k).length ≤ k := List.length_take_le _ _
        omega
      have HP := hide (refPut_any g' o' n' c' (setOf (l.take k)) x hx2 wr HU.out hlen)
      clear hx
      go_wp2_with fail
      refine HP.out.mono ?_
      rintro e w2 ⟨g2, o2, n2, c2, rfl, hu2, hb2⟩
      rw [← hsn.out] at hu2
      have HU2 := hide hu2
      have HB2 := hide (HB.out.trans (hb2.mono HB.out.size))
      clear hu2 hb2
      go_wp2
      go_roundw
      case rel => exact ⟨k + 1, g2, o2, n2, c2, by omega, by go_num, rfl, HU2.out, HB2.out⟩
      case measure => simp [intOf]; omega
    · obtain rfl : k = n := by omega
      have HF : Hid (U32s wr (some ⟨g', o', none⟩) n' c' (setOf l)) := hide (by
        have := HU.out
        rwa [List.take_of_length_le (by rw [HA2.out.1.1]; exact Nat.le_refl _)] at this)
      go_wp2
      go_ret
      exact ⟨g', o', n', c', rfl, HF.out, HB.out⟩
theorem pickN_snoc_yes (l r : List Nat) (x : Nat) (is : Bool) (h : r.contains x = is) : pickN (l ++ [x]) r is = pickN l r is ++ [x] := by
  unfold pickN
  rw [List.filter_append, List.filter_cons_of_pos (by rw [h]; simp), List.filter_nil]
theorem pickN_snoc_no (l r : List Nat) (x : Nat) (is : Bool) (h : r.contains x ≠ is) : pickN (l ++ [x]) r is = pickN l r is := by
  unfold pickN
  rw [List.filter_append, List.filter_cons_of_neg (by simpa only [beq_iff_eq] using h), List.filter_nil, List.append_nil]
/-- A list in the making, in memory of the call's own. -/
def MakeSt (base : Nat) (w : World) (v : Value) (l : List Nat) : Prop := w.ownsRow base 22 1 v l.length (u32c l) ∧ ∃ A n c, v = .slice A n c
set_option maxRecDepth 100000 in
set_option maxHeartbeats 2000000 in
theorem refPick_any (A : Option Addr) (n c : Nat) (l : List Nat) (B : Option Addr) (m d : Nat) (r : List Nat) (is : Bool) (w : World) (h : U32s w A n c l) (h' : U32s w B m d r) (hn : n ≤ 10000) :
    Calls Tryd.prog 64 #[.slice A n c, .slice B m d, .bool is] w fun e w' => ∃ v, e = .returned v ∧ Own32 w w' v (pickN l r is) := by
  have HA := hide (U32lo.start h)
  have HB := hide (U32lo.start h')
  have hm := h.2.2.1
  have hnc := h.2.1
  unfold maxLen at hm
  obtain ⟨i0, hi, hz0, hz1, hz2⟩ := info_parts info32
  have HS : Hid (MakeSt w.heap.size (w.alloc (.cells #[] 22)) (.slice (some ⟨w.heap.size, 0, none⟩) 0 0) (pickN [] r is)) := hide ⟨own_made0 w, _, _, _, rfl⟩
  clear h h'
  go_enter Tryd.func64, Tryd.ntmps64
  go_wp2
  go_loopw [7, 8] (fun v i wr => ∃ k : Nat, k ≤ n ∧ i = .int .i64 (k : Nat) ∧ MakeSt w.heap.size wr v (pickN (l.take k) r is) ∧ Below w.heap.size w wr) (fun _ i _ => n - (intOf i).toNat)
  case atStart => exact ⟨0, by omega, rfl, by simpa using HS.out, (Below.refl _ _).alloc (Nat.le_refl _) _⟩
  case round =>
    obtain ⟨k, hk, rfl, hu, hb⟩ := hrel
    obtain ⟨hown, A', n', c', rfl⟩ := hu
    have HO := hide hown
    have HBl := hide hb
    have HA2 := hide (HA.out.keep hb)
    have HB2 := hide (HB.out.keep hb)
    have hsz := hb.size
    clear hown hb
    by_cases hlt : k < n
    · obtain ⟨g, o, x, rfl, hg, hx, hx2, hc⟩ := HA2.out.1.at_ hlt
      have HX := hide hx
      clear hx
      have HH := hide (refHas_any B m d r x wr HB2.out.1)
      by_cases hd : r.contains x = is
      · have hsn := hide (show pickN (l.take (k + 1)) r is = pickN (l.take k) r is ++ [x] by rw [take_snoc_eq HX.out, pickN_snoc_yes _ _ _ _ hd])
        have hdd := hide (show decide (x ∈ r) = is by rw [← hd]; simp)
        obtain ⟨q, hq⟩ : ∃ q, pickN (l.take k) r is = q := ⟨_, rfl⟩
        have hql : q.length ≤ k := by
          rw [← hq]; exact Nat.le_trans (List.length_filter_le _ _) (List.length_take_le _ _)
        rw [hq] at hsn HO
        obtain ⟨z, hz⟩ : ∃ z, q.length = z := ⟨_, rfl⟩
        have HZ := hide hz
        rw [hz] at hql HO
        clear hd hq hz
        go_wp2_with fail
        refine HH.out.mono ?_
        rintro e w2 ⟨rfl, rfl⟩
        rw [hdd.out]
        have hee : (is == is) = true := by simp
        go_wp2_with (at_builtin; refine wpList_append_any _ rfl (.tmp 24) (.tmp 29) 27 rfl w.heap.size 22 i0 _ 1 4 Tryd.underlying27 hi hz0 hz1 hz2 rfl (by decide) (.slice A' n' c') z (u32c q) rfl (HO.out.alloc _) (wr.heap.size + 1) (some ⟨wr.heap.size, 0, none⟩) 1 1 [.int .u32 (x : Int)] rfl ((reads_one (by simp)).more (by simp)) (by simp [Value.oneCell']) (by unfold maxLen; omega) (by omega) (by simp; omega) ?_; intro v' w1 hown' hgrow hat; have HO1 := hide hown'; have HG1 := hide hgrow; clear hown' hgrow hat)
        have hbel : Hid (Below w.heap.size w w1) := hide (Below.grown (HBl.out.alloc (by omega) (.cells #[.int .u32 (x : Int)] 22)) HG1.out (by simp; omega) (fun k hk => (HO.out.lt k hk).1))
        have HM : Hid (MakeSt w.heap.size w1 v' (pickN (l.take (k + 1)) r is)) := hide ⟨by rw [hsn.out, List.length_append, u32c_snoc, HZ.out]; exact HO1.out, by obtain ⟨A2, c2, h2⟩ := own_slice HO1.out; exact ⟨_, _, _, h2⟩⟩
        go_roundw
        case rel => exact ⟨k + 1, by omega, by go_num, HM.out, hbel.out⟩
        case measure => simp [intOf]; omega
      · have hsn := hide (show pickN (l.take (k + 1)) r is = pickN (l.take k) r is by rw [take_snoc_eq HX.out, pickN_snoc_no _ _ _ _ hd])
        have hdd := hide (show decide (x ∈ r) = !is by
          have e : decide (x ∈ r) = r.contains x := by simp
          rw [e]; revert hd; generalize r.contains x = q; cases q <;> cases is <;> decide)
        clear hd
        go_wp2_with fail
        refine HH.out.mono ?_
        rintro e w2 ⟨rfl, rfl⟩
        rw [hdd.out]
        have HM : Hid (MakeSt w.heap.size wr (.slice A' n' c') (pickN (l.take (k + 1)) r is)) := hide ⟨by rw [hsn.out]; exact HO.out, _, _, _, rfl⟩
        cases is
        all_goals
          go_wp2
          go_roundw
          case rel => exact ⟨k + 1, by omega, by go_num, HM.out, HBl.out⟩
          case measure => simp [intOf]; omega
    · obtain rfl : k = n := by omega
      have HF : Hid (Own32 w wr (.slice A' n' c') (pickN l r is)) := hide (by
        have := HO.out
        rw [List.take_of_length_le (by rw [HA2.out.1.1]; exact Nat.le_refl _)] at this
        exact ⟨this, HBl.out⟩)
      go_wp2
      go_ret
      exact ⟨_, rfl, HF.out⟩
set_option maxHeartbeats 1000000 in
theorem union_any (A : Option Addr) (n c : Nat) (la : List Nat) (B : Option Addr) (m d : Nat) (lb : List Nat) (w : World) (ha : U32s w A n c la) (hb : U32s w B m d lb) (hn : n ≤ 400) (hm : m ≤ 400) :
    Calls Tryd.prog 60 #[.slice A n c, .slice B m d] w fun e w' => ∃ v, e = .returned v ∧ Own32 w w' v (mrg true true true la lb) := by
  have HX := hide (merged_any A n c la B m d lb true true true w ha hb hn hm)
  clear ha hb
  go_enter Tryd.func60, Tryd.ntmps60
  go_wp2_with fail
  refine HX.out.mono ?_
  rintro e w1 ⟨v, rfl, ho⟩
  have HO := hide ho
  clear ho
  go_wp2
  go_ret
  exact ⟨v, rfl, HO.out⟩
set_option maxHeartbeats 1000000 in
theorem minus_any (A : Option Addr) (n c : Nat) (la : List Nat) (B : Option Addr) (m d : Nat) (lb : List Nat) (w : World) (ha : U32s w A n c la) (hb : U32s w B m d lb) (hn : n ≤ 400) (hm : m ≤ 400) :
    Calls Tryd.prog 61 #[.slice A n c, .slice B m d] w fun e w' => ∃ v, e = .returned v ∧ Own32 w w' v (mrg true false false la lb) := by
  have HX := hide (merged_any A n c la B m d lb true false false w ha hb hn hm)
  clear ha hb
  go_enter Tryd.func61, Tryd.ntmps61
  go_wp2_with fail
  refine HX.out.mono ?_
  rintro e w1 ⟨v, rfl, ho⟩
  have HO := hide ho
  clear ho
  go_wp2
  go_ret
  exact ⟨v, rfl, HO.out⟩
set_option maxHeartbeats 1000000 in
theorem both_any (A : Option Addr) (n c : Nat) (la : List Nat) (B : Option Addr) (m d : Nat) (lb : List Nat) (w : World) (ha : U32s w A n c la) (hb : U32s w B m d lb) (hn : n ≤ 400) (hm : m ≤ 400) :
    Calls Tryd.prog 62 #[.slice A n c, .slice B m d] w fun e w' => ∃ v, e = .returned v ∧ Own32 w w' v (mrg false false true la lb) := by
  have HX := hide (merged_any A n c la B m d lb false false true w ha hb hn hm)
  clear ha hb
  go_enter Tryd.func62, Tryd.ntmps62
  go_wp2_with fail
  refine HX.out.mono ?_
  rintro e w1 ⟨v, rfl, ho⟩
  have HO := hide ho
  clear ho
  go_wp2
  go_ret
  exact ⟨v, rfl, HO.out⟩
set_option maxHeartbeats 1000000 in
theorem asnSame_any (A : Option Addr) (n c : Nat) (l : List Nat) (B : Option Addr) (m d : Nat) (r : List Nat) (w : World) (h : U32s w A n c l) (h' : U32s w B m d r) :
    Calls Tryd.prog 66 #[.slice A n c, .slice B m d] w fun e w' => e = .returned (.bool (decide (l = r))) ∧ Below w.heap.size w w' := by
  have HX := hide (slEqual_any A n c l B m d r w h h')
  clear h h'
  go_enter Tryd.func66, Tryd.ntmps66
  go_wp2_with fail
  refine HX.out.mono ?_
  rintro e w1 ⟨rfl, hb⟩
  have HB := hide hb
  clear hb
  go_wp2
  go_ret
  exact ⟨rfl, HB.out⟩
end Go.Proofs.YtiibglkiakhfgaaDoor
