import Derived.Test.YtiibglkiakhfgaaDoorAsnSetW
set_option linter.unusedSimpArgs false
set_option linter.unusedVariables false
namespace Go.Proofs.YtiibglkiakhfgaaDoor
open Go.RowKit
set_option maxHeartbeats 1000000 in
theorem asnText1_small (A : Option Addr) (n c : Nat) (l : List Nat) (w : World) (h : U32s w A n c l) (hn : 0 < n) (hn2 : n ≤ 1000) (hsm : ∀ x ∈ l, x < 100) :
    Calls Tryd.prog 116 #[.slice A n c] w fun e w' => e = .returned (.string (str (jn l))) ∧ Below w.heap.size w w' := by
  have HX := hide (asnText_small A n c l w h hn hn2 hsm)
  clear h hsm
  go_enter Tryd.func116, Tryd.ntmps116
  go_wp2_with fail
  refine HX.out.mono ?_
  rintro e w1 ⟨rfl, hb⟩
  have HB := hide hb
  clear hb
  go_wp2
  go_ret
  exact ⟨rfl, HB.out⟩
theorem live_set : setOf [5, 1, 5] = [1, 5] := by decide
theorem live_text : str (jn [1, 5]) = ⟨#[49, 32, 53]⟩ := by decide +kernel
set_option maxHeartbeats 2000000 in
theorem asnLives_any (w : World) : Calls Tryd.prog 67 #[] w (GoodP true w) := by
  have hU : U32s (w.alloc (.cells #[.int .u32 5, .int .u32 1, .int .u32 5] 22)) (some ⟨w.heap.size, 0, none⟩) 3 3 [5, 1, 5] :=
    ⟨rfl, by omega, by simp [maxLen], by decide, fun _ => ⟨w.heap.size, 0, rfl, by simp, fun k x hk => by
      have hb := (Blk.new w 22 #[.int .u32 5, .int .u32 1, .int .u32 5]).cell k
      rw [Nat.zero_add, hb]
      rcases k with _ | _ | _ | k
      · cases hk; rfl
      · cases hk; rfl
      · cases hk; rfl
      · simp at hk⟩⟩
  have HS := hide (asnSet_small w.heap.size 0 3 3 [5, 1, 5] _ hU (by omega) (by omega))
  have HB0 := hide ((Below.refl w.heap.size w).alloc (Nat.le_refl _) (.cells #[.int .u32 5, .int .u32 1, .int .u32 5] 22))
  rw [live_set] at HS
  clear hU
  go_enter Tryd.func67, Tryd.ntmps67
  go_wp2_with fail
  refine HS.out.mono ?_
  rintro e w1 ⟨v, rfl, ho, hb1⟩
  obtain ⟨A, c, rfl⟩ := own_slice ho
  have hu := U32s.of_own ho (by decide)
  have HU := hide hu
  have HB1 := hide (HB0.out.trans (hb1.mono HB0.out.size))
  obtain ⟨g, o, x, rfl, hg, hx, hx2, hc⟩ := hu.at_ (k := 0) (by decide)
  cases hx
  have hc' : w1.cell? ⟨g, o, none⟩ = some (.int .u32 1) := by simpa using hc
  have HH := hide (aHas_any _ _ _ [1, 5] 5 w1 HU.out (by unfold Rise; decide) (by decide))
  rw [show decide (5 ∈ [1, 5]) = true from rfl] at HH
  have HT := hide (asnText1_small _ _ _ [1, 5] w1 HU.out (by decide) (by decide) (by decide))
  rw [live_text] at HT
  clear ho hb1 hu hc
  go_wp2_with fail
  refine HH.out.mono ?_
  rintro e w2 ⟨rfl, rfl⟩
  go_wp2_with fail
  refine HT.out.mono ?_
  rintro e w3 ⟨rfl, hb3⟩
  have HB3 := hide (HB1.out.trans (hb3.mono HB1.out.size))
  clear hb3
  go_wp2
  go_ret
  exact ⟨rfl, HB3.out⟩
theorem take40 {l : List Nat} (h : l.length ≤ 40) : l.take 40 = l := List.take_of_length_le h
theorem Own32.u32s' {w w' : World} {v : Value} {l : List Nat} (h : Own32 w w' v l) (hb : ∀ x ∈ l, x < 4294967296) : ∃ A c, v = .slice A l.length c ∧ U32s w' A l.length c l := by
  obtain ⟨A, n, c, rfl, hu⟩ := h.u32s hb
  have := hu.1
  subst this
  exact ⟨A, c, rfl, hu⟩
theorem few40 (A : Option Addr) (n c : Nat) (l : List Nat) (w : World) (h : U32s w A n c l) :
    Calls Tryd.prog 22 #[.slice A n c, .int .i64 40] w fun e w' => ∃ A' n' c', e = .returned (.slice A' n' c') ∧ U32s w' A' n' c' (l.take 40) ∧ n' ≤ 40 ∧ Below w.heap.size w w' := by
  refine (few_any A n c l 40 (by decide) w h).mono ?_
  rintro e w' ⟨v, rfl, ho⟩
  obtain ⟨A', c', rfl, hu⟩ := ho.u32s' (fun x hx => h.2.2.2.1 x (List.mem_of_mem_take hx))
  exact ⟨A', _, c', rfl, hu, List.length_take_le _ _, ho.2⟩
theorem few40' (A : Option Addr) (n c : Nat) (l : List Nat) (w : World) (h : U32s w A n c l) (hl : l.length ≤ 40) :
    Calls Tryd.prog 22 #[.slice A n c, .int .i64 40] w fun e w' => ∃ A' c', e = .returned (.slice A' l.length c') ∧ U32s w' A' l.length c' l ∧ w'.ownsRow w.heap.size 22 1 (.slice A' l.length c') l.length (u32c l) ∧ Below w.heap.size w w' := by
  refine (few_any A n c l 40 (by decide) w h).mono ?_
  rintro e w' ⟨v, rfl, ho⟩
  rw [take40 hl] at ho
  obtain ⟨A', c', rfl, hu⟩ := ho.u32s' h.2.2.2.1
  exact ⟨A', c', rfl, hu, ho.1, ho.2⟩
theorem refSame_is (A : Option Addr) (n c : Nat) (l : List Nat) (B : Option Addr) (m d : Nat) (r : List Nat) (q : Bool) (w : World) (hq : decide (l = r) = q) (h : U32s w A n c l) (h' : U32s w B m d r) :
    Calls Tryd.prog 63 #[.slice A n c, .slice B m d] w fun e w' => e = .returned (.bool q) ∧ Below w.heap.size w w' := by
  have := refSame_any A n c l B m d r w h h'
  rwa [hq] at this
theorem refSame_self (A : Option Addr) (n c : Nat) (l : List Nat) (B : Option Addr) (m d : Nat) (w : World) (h : U32s w A n c l) (h' : U32s w B m d l) :
    Calls Tryd.prog 63 #[.slice A n c, .slice B m d] w fun e w' => e = .returned (.bool true) ∧ Below w.heap.size w w' := refSame_is A n c l B m d l true w (by simp) h h'
theorem asnSame_is (A : Option Addr) (n c : Nat) (l : List Nat) (B : Option Addr) (m d : Nat) (r : List Nat) (q : Bool) (w : World) (hq : decide (l = r) = q) (h : U32s w A n c l) (h' : U32s w B m d r) :
    Calls Tryd.prog 66 #[.slice A n c, .slice B m d] w fun e w' => e = .returned (.bool q) ∧ Below w.heap.size w w' := by
  have := asnSame_any A n c l B m d r w h h'
  rwa [hq] at this
theorem u32c_app (a b : List Nat) : u32c (a ++ b) = u32c a ++ u32c b := by simp [u32c]
theorem mrg_u32 {w w' : World} {v : Value} {l : List Nat} (h : Own32 w w' v l) (hb : ∀ x ∈ l, x < 4294967296) : ∃ A c, v = .slice A l.length c ∧ U32s w' A l.length c l := h.u32s' hb
set_option maxRecDepth 100000 in
set_option maxHeartbeats 16000000 in
theorem asnTwo_any (A : Option Addr) (n c : Nat) (la : List Nat) (B : Option Addr) (m d : Nat) (lb : List Nat) (w : World) (ha : U32s w A n c la) (hb : U32s w B m d lb) :
    Calls Tryd.prog 14 #[.slice A n c, .slice B m d] w (GoodP true w) := by
  obtain ⟨sa, hsa⟩ : ∃ sa, setOf (la.take 40) = sa := ⟨_, rfl⟩
  obtain ⟨sb, hsb⟩ : ∃ sb, setOf (lb.take 40) = sb := ⟨_, rfl⟩
  have HRa : Hid (Rise sa) := hide (by rw [← hsa]; exact setOf_rise _)
  have HRb : Hid (Rise sb) := hide (by rw [← hsb]; exact setOf_rise _)
  have hna : sa.length ≤ 40 := by rw [← hsa]; exact Nat.le_trans (setOf_len _) (List.length_take_le _ _)
  have hnb : sb.length ≤ 40 := by rw [← hsb]; exact Nat.le_trans (setOf_len _) (List.length_take_le _ _)
  have HBa : Hid (∀ x ∈ sa, x < 4294967296) := hide (fun x hx => by rw [← hsa, setOf_mem] at hx; exact ha.2.2.2.1 x (List.mem_of_mem_take hx))
  have HBb : Hid (∀ x ∈ sb, x < 4294967296) := hide (fun x hx => by rw [← hsb, setOf_mem] at hx; exact hb.2.2.2.1 x (List.mem_of_mem_take hx))
  have HMm : Hid (∀ le ri bo, ∀ x ∈ mrg le ri bo sa sb, x < 4294967296) := hide (fun le ri bo x hx => by
    rcases (mrg_mem le ri bo sa sb HRa.out HRb.out x).1 hx with h | h | h
    · exact HBa.out x h.1
    · exact HBa.out x h.1
    · exact HBb.out x h.2.1)
  have HU := hide (union_is HRa.out HRb.out)
  have HMn := hide (minus_is HRa.out HRb.out)
  have HBo := hide (both_is HRa.out HRb.out)
  have HPt := hide (parted_is HRa.out HRb.out)
  have HWi := hide (within_is sa sb)
  have HSA := hide hsa
  have HSB := hide hsb
  have X_a := hide ha
  have X_b := hide hb
  have HBel := hide (Below.refl w.heap.size w)
  obtain ⟨i0, hi, hz0, hz1, hz2⟩ := info_parts info32
  clear ha hb hsa hsb
  go_enter Tryd.func14, Tryd.ntmps14
  have HC1 := hide (few40 _ _ _ _ w X_a.out)
  go_wp2_with fail
  refine HC1.out.mono ?_
  rintro e w1 ⟨A_f1, n_f1, c_f1, rfl, hu, hl_f1, hb⟩
  have X_a := hide (X_a.out.below hb)
  have X_b := hide (X_b.out.below hb)
  have HBel := hide (HBel.out.trans (hb.mono HBel.out.size))
  have X_f1 := hide hu
  clear hu
  clear HC1 hb
  clear X_a
  have HC2 := hide (refSet_any _ _ _ _ w1 X_f1.out (by omega))
  go_wp2_with fail
  refine HC2.out.mono ?_
  rintro e w2 ⟨g_a, o_a, n_a, c_a, rfl, hu, hb⟩
  have X_b := hide (X_b.out.below hb)
  have X_f1 := hide (X_f1.out.below hb)
  have HBel := hide (HBel.out.trans (hb.mono HBel.out.size))
  rw [HSA.out] at hu
  have hl_a := hu.1
  subst hl_a
  have X_a := hide hu
  clear hu
  clear HC2 hb
  clear X_f1
  have HC3 := hide (few40 _ _ _ _ w2 X_b.out)
  go_wp2_with fail
  refine HC3.out.mono ?_
  rintro e w3 ⟨A_f2, n_f2, c_f2, rfl, hu, hl_f2, hb⟩
  have X_b := hide (X_b.out.below hb)
  have X_a := hide (X_a.out.below hb)
  have HBel := hide (HBel.out.trans (hb.mono HBel.out.size))
  have X_f2 := hide hu
  clear hu
  clear HC3 hb
  clear X_b
  have HC4 := hide (refSet_any _ _ _ _ w3 X_f2.out (by omega))
  go_wp2_with fail
  refine HC4.out.mono ?_
  rintro e w4 ⟨g_b, o_b, n_b, c_b, rfl, hu, hb⟩
  have X_a := hide (X_a.out.below hb)
  have X_f2 := hide (X_f2.out.below hb)
  have HBel := hide (HBel.out.trans (hb.mono HBel.out.size))
  rw [HSB.out] at hu
  have hl_b := hu.1
  subst hl_b
  have X_b := hide hu
  clear hu
  clear HC4 hb
  clear X_f2
  have HC5 := hide (few40' _ _ _ _ w4 X_a.out hna)
  go_wp2_with fail
  refine HC5.out.mono ?_
  rintro e w5 ⟨A_p, c_p, rfl, hu, ho, hb⟩
  have X_a := hide (X_a.out.below hb)
  have X_b := hide (X_b.out.below hb)
  have HBel := hide (HBel.out.trans (hb.mono HBel.out.size))
  have X_p := hide hu
  clear hu ho
  clear HC5 hb
  have HC6 := hide (few40' _ _ _ _ w5 X_b.out hnb)
  go_wp2_with fail
  refine HC6.out.mono ?_
  rintro e w6 ⟨A_q, c_q, rfl, hu, ho, hb⟩
  have X_a := hide (X_a.out.below hb)
  have X_b := hide (X_b.out.below hb)
  have X_p := hide (X_p.out.below hb)
  have HBel := hide (HBel.out.trans (hb.mono HBel.out.size))
  have X_q := hide hu
  clear hu ho
  clear HC6 hb
  have HC7 := hide (union_any _ _ _ _ _ _ _ _ w6 X_p.out X_q.out (by omega) (by omega))
  go_wp2_with fail
  refine HC7.out.mono ?_
  rintro e w7 ⟨v_u, rfl, ho⟩
  have hb := ho.2
  obtain ⟨A_u, c_u, rfl, hu⟩ := ho.u32s' (HMm.out true true true)
  have X_a := hide (X_a.out.below hb)
  have X_b := hide (X_b.out.below hb)
  have X_p := hide (X_p.out.below hb)
  have X_q := hide (X_q.out.below hb)
  have HBel := hide (HBel.out.trans (hb.mono HBel.out.size))
  have X_u := hide hu
  clear HC7 hb hu ho
  clear X_p
  clear X_q
  have HC8 := hide (few40' _ _ _ _ w7 X_a.out hna)
  go_wp2_with fail
  refine HC8.out.mono ?_
  rintro e w8 ⟨A_p, c_p, rfl, hu, ho, hb⟩
  have X_a := hide (X_a.out.below hb)
  have X_b := hide (X_b.out.below hb)
  have X_u := hide (X_u.out.below hb)
  have HBel := hide (HBel.out.trans (hb.mono HBel.out.size))
  have X_p := hide hu
  clear hu ho
  clear HC8 hb
  have HC9 := hide (few40' _ _ _ _ w8 X_b.out hnb)
  go_wp2_with fail
  refine HC9.out.mono ?_
  rintro e w9 ⟨A_q, c_q, rfl, hu, ho, hb⟩
  have X_a := hide (X_a.out.below hb)
  have X_b := hide (X_b.out.below hb)
  have X_u := hide (X_u.out.below hb)
  have X_p := hide (X_p.out.below hb)
  have HBel := hide (HBel.out.trans (hb.mono HBel.out.size))
  have X_q := hide hu
  clear hu ho
  clear HC9 hb
  have HC10 := hide (minus_any _ _ _ _ _ _ _ _ w9 X_p.out X_q.out (by omega) (by omega))
  go_wp2_with fail
  refine HC10.out.mono ?_
  rintro e w10 ⟨v_m, rfl, ho⟩
  have hb := ho.2
  obtain ⟨A_m, c_m, rfl, hu⟩ := ho.u32s' (HMm.out true false false)
  have X_a := hide (X_a.out.below hb)
  have X_b := hide (X_b.out.below hb)
  have X_u := hide (X_u.out.below hb)
  have X_p := hide (X_p.out.below hb)
  have X_q := hide (X_q.out.below hb)
  have HBel := hide (HBel.out.trans (hb.mono HBel.out.size))
  have X_m := hide hu
  clear HC10 hb hu ho
  clear X_p
  clear X_q
  have HC11 := hide (few40' _ _ _ _ w10 X_a.out hna)
  go_wp2_with fail
  refine HC11.out.mono ?_
  rintro e w11 ⟨A_p, c_p, rfl, hu, ho, hb⟩
  have X_a := hide (X_a.out.below hb)
  have X_b := hide (X_b.out.below hb)
  have X_u := hide (X_u.out.below hb)
  have X_m := hide (X_m.out.below hb)
  have HBel := hide (HBel.out.trans (hb.mono HBel.out.size))
  have X_p := hide hu
  clear hu ho
  clear HC11 hb
  have HC12 := hide (few40' _ _ _ _ w11 X_b.out hnb)
  go_wp2_with fail
  refine HC12.out.mono ?_
  rintro e w12 ⟨A_q, c_q, rfl, hu, ho, hb⟩
  have X_a := hide (X_a.out.below hb)
  have X_b := hide (X_b.out.below hb)
  have X_u := hide (X_u.out.below hb)
  have X_m := hide (X_m.out.below hb)
  have X_p := hide (X_p.out.below hb)
  have HBel := hide (HBel.out.trans (hb.mono HBel.out.size))
  have X_q := hide hu
  clear hu ho
  clear HC12 hb
  have HC13 := hide (both_any _ _ _ _ _ _ _ _ w12 X_p.out X_q.out (by omega) (by omega))
  go_wp2_with fail
  refine HC13.out.mono ?_
  rintro e w13 ⟨v_c, rfl, ho⟩
  have hb := ho.2
  obtain ⟨A_c, c_c, rfl, hu⟩ := ho.u32s' (HMm.out false false true)
  have X_a := hide (X_a.out.below hb)
  have X_b := hide (X_b.out.below hb)
  have X_u := hide (X_u.out.below hb)
  have X_m := hide (X_m.out.below hb)
  have X_p := hide (X_p.out.below hb)
  have X_q := hide (X_q.out.below hb)
  have HBel := hide (HBel.out.trans (hb.mono HBel.out.size))
  have X_c := hide hu
  clear HC13 hb hu ho
  clear X_p
  clear X_q
  have P_a := hide X_a.out
  have P_b := hide X_b.out
  have P_u := hide X_u.out
  have P_m := hide X_m.out
  have P_c := hide X_c.out
  have HBelp := hide HBel.out
  have HC14 := hide (few40' _ _ _ _ w13 X_a.out hna)
  go_wp2_with fail
  refine HC14.out.mono ?_
  rintro e w14 ⟨A_p, c_p, rfl, hu, ho, hb⟩
  have X_a := hide (X_a.out.below hb)
  have X_b := hide (X_b.out.below hb)
  have X_u := hide (X_u.out.below hb)
  have X_m := hide (X_m.out.below hb)
  have X_c := hide (X_c.out.below hb)
  have HBel := hide (HBel.out.trans (hb.mono HBel.out.size))
  have X_p := hide hu
  have O_p := hide ho
  have hbk := hide hb
  clear hu ho
  clear HC14 hb
  have HBp : Hid (w13.heap.size ≤ w14.heap.size) := hide hbk.out.size
  have HBpp := hide hbk.out
  have hnp : sa.length + sb.length ≤ 80 := by omega
  have hsz := HBp.out
  go_wp2_with (at_builtin; refine wpList_append_any _ rfl (.tmp 31) (.tmp 32) 27 rfl w13.heap.size 22 i0 _ 1 4 Tryd.underlying27 hi hz0 hz1 hz2 rfl (by decide) (.slice A_p sa.length c_p) sa.length (u32c sa) rfl O_p.out w14.heap.size (some ⟨g_b, o_b, none⟩) sb.length c_b (u32c sb) rfl X_b.out.reads (u32c_one _) (by unfold maxLen; omega) (by omega) hsz ?_; intro v' w0 hown' hgrow _; have HO := hide hown'; have HG := hide hgrow; clear hown' hgrow)
  have hbw : Below w13.heap.size w13 w0 := HBpp.out.grown HG.out (Nat.le_trans (Nat.le_refl _) hsz) (fun k hk => (O_p.out.lt k hk).1)
  have X_a := hide (P_a.out.below hbw)
  have X_b := hide (P_b.out.below hbw)
  have X_u := hide (P_u.out.below hbw)
  have X_m := hide (P_m.out.below hbw)
  have X_c := hide (P_c.out.below hbw)
  have HBel := hide (HBelp.out.trans (hbw.mono HBelp.out.size))
  have hvv : ∃ A2 c2, v' = .slice A2 (sa.length + sb.length) c2 := own_slice HO.out
  obtain ⟨A_r, c_r, rfl⟩ := hvv
  have X_r : Hid (U32s w0 A_r (sa.length + sb.length) c_r (sa ++ sb)) := hide (U32s.of_own (by have := HO.out; rwa [← u32c_app] at this) (fun x hx => by rcases List.mem_append.1 hx with h | h; exact HBa.out x h; exact HBb.out x h))
  clear hbw
  have HC15 := hide (refSet_any _ _ _ _ w0 X_r.out (by omega))
  go_wp2_with fail
  refine HC15.out.mono ?_
  rintro e w15 ⟨g_s, o_s, n_s, c_s, rfl, hu, hb⟩
  have X_a := hide (X_a.out.below hb)
  have X_b := hide (X_b.out.below hb)
  have X_u := hide (X_u.out.below hb)
  have X_m := hide (X_m.out.below hb)
  have X_c := hide (X_c.out.below hb)
  have X_r := hide (X_r.out.below hb)
  have HBel := hide (HBel.out.trans (hb.mono HBel.out.size))
  rw [← HU.out] at hu
  have hl_s := hu.1
  subst hl_s
  have X_s := hide hu
  clear hu
  clear HC15 hb
  clear X_r
  have HC16 := hide (refSame_self _ _ _ _ _ _ _ w15 X_u.out X_s.out)
  go_wp2_with fail
  refine HC16.out.mono ?_
  rintro e w16 ⟨rfl, hb⟩
  have X_a := hide (X_a.out.below hb)
  have X_b := hide (X_b.out.below hb)
  have X_u := hide (X_u.out.below hb)
  have X_m := hide (X_m.out.below hb)
  have X_c := hide (X_c.out.below hb)
  have X_s := hide (X_s.out.below hb)
  have HBel := hide (HBel.out.trans (hb.mono HBel.out.size))
  clear HC16 hb
  clear X_s
  have HC17 := hide (refPick_any _ _ _ _ _ _ _ _ false w16 X_a.out X_b.out (by omega))
  go_wp2_with fail
  refine HC17.out.mono ?_
  rintro e w17 ⟨v_s, rfl, ho⟩
  rw [← HMn.out] at ho
  have hb := ho.2
  obtain ⟨A_s, c_s, rfl, hu⟩ := ho.u32s' (HMm.out true false false)
  have X_a := hide (X_a.out.below hb)
  have X_b := hide (X_b.out.below hb)
  have X_u := hide (X_u.out.below hb)
  have X_m := hide (X_m.out.below hb)
  have X_c := hide (X_c.out.below hb)
  have HBel := hide (HBel.out.trans (hb.mono HBel.out.size))
  have X_s := hide hu
  clear HC17 hb hu ho
  have HC18 := hide (refSame_self _ _ _ _ _ _ _ w17 X_m.out X_s.out)
  go_wp2_with fail
  refine HC18.out.mono ?_
  rintro e w18 ⟨rfl, hb⟩
  have X_a := hide (X_a.out.below hb)
  have X_b := hide (X_b.out.below hb)
  have X_u := hide (X_u.out.below hb)
  have X_m := hide (X_m.out.below hb)
  have X_c := hide (X_c.out.below hb)
  have X_s := hide (X_s.out.below hb)
  have HBel := hide (HBel.out.trans (hb.mono HBel.out.size))
  clear HC18 hb
  clear X_s
  have HC19 := hide (refPick_any _ _ _ _ _ _ _ _ true w18 X_a.out X_b.out (by omega))
  go_wp2_with fail
  refine HC19.out.mono ?_
  rintro e w19 ⟨v_s, rfl, ho⟩
  rw [← HBo.out] at ho
  have hb := ho.2
  obtain ⟨A_s, c_s, rfl, hu⟩ := ho.u32s' (HMm.out false false true)
  have X_a := hide (X_a.out.below hb)
  have X_b := hide (X_b.out.below hb)
  have X_u := hide (X_u.out.below hb)
  have X_m := hide (X_m.out.below hb)
  have X_c := hide (X_c.out.below hb)
  have HBel := hide (HBel.out.trans (hb.mono HBel.out.size))
  have X_s := hide hu
  clear HC19 hb hu ho
  have HC20 := hide (refSame_self _ _ _ _ _ _ _ w19 X_c.out X_s.out)
  go_wp2_with fail
  refine HC20.out.mono ?_
  rintro e w20 ⟨rfl, hb⟩
  have X_a := hide (X_a.out.below hb)
  have X_b := hide (X_b.out.below hb)
  have X_u := hide (X_u.out.below hb)
  have X_m := hide (X_m.out.below hb)
  have X_c := hide (X_c.out.below hb)
  have X_s := hide (X_s.out.below hb)
  have HBel := hide (HBel.out.trans (hb.mono HBel.out.size))
  clear HC20 hb
  clear X_s
  have HC21 := hide (few40' _ _ _ _ w20 X_a.out hna)
  go_wp2_with fail
  refine HC21.out.mono ?_
  rintro e w21 ⟨A_p, c_p, rfl, hu, ho, hb⟩
  have X_a := hide (X_a.out.below hb)
  have X_b := hide (X_b.out.below hb)
  have X_u := hide (X_u.out.below hb)
  have X_m := hide (X_m.out.below hb)
  have X_c := hide (X_c.out.below hb)
  have HBel := hide (HBel.out.trans (hb.mono HBel.out.size))
  have X_p := hide hu
  clear hu ho
  clear HC21 hb
  have HC22 := hide (few40' _ _ _ _ w21 X_b.out hnb)
  go_wp2_with fail
  refine HC22.out.mono ?_
  rintro e w22 ⟨A_q, c_q, rfl, hu, ho, hb⟩
  have X_a := hide (X_a.out.below hb)
  have X_b := hide (X_b.out.below hb)
  have X_u := hide (X_u.out.below hb)
  have X_m := hide (X_m.out.below hb)
  have X_c := hide (X_c.out.below hb)
  have X_p := hide (X_p.out.below hb)
  have HBel := hide (HBel.out.trans (hb.mono HBel.out.size))
  have X_q := hide hu
  clear hu ho
  clear HC22 hb
  obtain ⟨qq, hqq⟩ : ∃ qq, allIn sa sb = qq := ⟨_, rfl⟩
  have hmq : (((mrg true false false sa sb).length : Int) == 0) = qq := by
    rw [← hqq]; unfold allIn; rw [HWi.out, HMn.out, Bool.eq_iff_iff]; simp
  have HQQ := hide hqq
  have HMQ := hide hmq
  clear hqq hmq
  have HC23 := hide (within_any _ _ _ _ _ _ _ _ w22 X_p.out X_q.out HRb.out (by omega))
  rw [HQQ.out] at HC23
  obtain ⟨rr, hrr⟩ : ∃ rr, decide (sa = sb) = rr := ⟨_, rfl⟩
  have HRR := hide hrr
  clear hrr
  have hmqq := HMQ.out
  cases qq <;> cases rr
  all_goals
    skip
    go_wp2_with fail
    refine HC23.out.mono ?_
    rintro e w23 ⟨rfl, rfl⟩
    clear X_p
    clear X_q
    have HC24 := hide (few40' _ _ _ _ w22 X_a.out hna)
    go_wp2_with fail
    refine HC24.out.mono ?_
    rintro e w24 ⟨A_p, c_p, rfl, hu, ho, hb⟩
    have X_a := hide (X_a.out.below hb)
    have X_b := hide (X_b.out.below hb)
    have X_u := hide (X_u.out.below hb)
    have X_m := hide (X_m.out.below hb)
    have X_c := hide (X_c.out.below hb)
    have HBel := hide (HBel.out.trans (hb.mono HBel.out.size))
    have X_p := hide hu
    clear hu ho
    clear HC24 hb
    have HC25 := hide (few40' _ _ _ _ w24 X_b.out hnb)
    go_wp2_with fail
    refine HC25.out.mono ?_
    rintro e w25 ⟨A_q, c_q, rfl, hu, ho, hb⟩
    have X_a := hide (X_a.out.below hb)
    have X_b := hide (X_b.out.below hb)
    have X_u := hide (X_u.out.below hb)
    have X_m := hide (X_m.out.below hb)
    have X_c := hide (X_c.out.below hb)
    have X_p := hide (X_p.out.below hb)
    have HBel := hide (HBel.out.trans (hb.mono HBel.out.size))
    have X_q := hide hu
    clear hu ho
    clear HC25 hb
    have HC26 := hide (asnSame_is _ _ _ _ _ _ _ _ _ w25 HRR.out X_p.out X_q.out)
    go_wp2_with fail
    refine HC26.out.mono ?_
    rintro e w26 ⟨rfl, hb⟩
    have X_a := hide (X_a.out.below hb)
    have X_b := hide (X_b.out.below hb)
    have X_u := hide (X_u.out.below hb)
    have X_m := hide (X_m.out.below hb)
    have X_c := hide (X_c.out.below hb)
    have X_p := hide (X_p.out.below hb)
    have X_q := hide (X_q.out.below hb)
    have HBel := hide (HBel.out.trans (hb.mono HBel.out.size))
    clear HC26 hb
    clear X_p
    clear X_q
    have HC27 := hide (refSame_is _ _ _ _ _ _ _ _ _ w26 HRR.out X_a.out X_b.out)
    go_wp2_with fail
    refine HC27.out.mono ?_
    rintro e w27 ⟨rfl, hb⟩
    have X_a := hide (X_a.out.below hb)
    have X_b := hide (X_b.out.below hb)
    have X_u := hide (X_u.out.below hb)
    have X_m := hide (X_m.out.below hb)
    have X_c := hide (X_c.out.below hb)
    have HBel := hide (HBel.out.trans (hb.mono HBel.out.size))
    clear HC27 hb
    have HC28 := hide (union_any _ _ _ _ _ _ _ _ w27 X_m.out X_c.out (by have := mrg_len true false false sa sb; omega) (by have := mrg_len false false true sa sb; omega))
    rw [HMn.out, HBo.out, HPt.out] at HC28
    rw [← HMn.out, ← HBo.out] at HC28
    go_wp2_with fail
    refine HC28.out.mono ?_
    rintro e w28 ⟨v_s, rfl, ho⟩
    have hb := ho.2
    obtain ⟨A_s, c_s, rfl, hu⟩ := ho.u32s' HBa.out
    have X_a := hide (X_a.out.below hb)
    have X_b := hide (X_b.out.below hb)
    have X_u := hide (X_u.out.below hb)
    have X_m := hide (X_m.out.below hb)
    have X_c := hide (X_c.out.below hb)
    have HBel := hide (HBel.out.trans (hb.mono HBel.out.size))
    have X_s := hide hu
    clear HC28 hb hu ho
    have HC29 := hide (refSame_self _ _ _ _ _ _ _ w28 X_s.out X_a.out)
    go_wp2_with fail
    refine HC29.out.mono ?_
    rintro e w29 ⟨rfl, hb⟩
    have X_a := hide (X_a.out.below hb)
    have X_b := hide (X_b.out.below hb)
    have X_u := hide (X_u.out.below hb)
    have X_m := hide (X_m.out.below hb)
    have X_c := hide (X_c.out.below hb)
    have X_s := hide (X_s.out.below hb)
    have HBel := hide (HBel.out.trans (hb.mono HBel.out.size))
    clear HC29 hb
    go_wp2_with fail
    refine (asnLives_any _).mono ?_
    rintro e wl ⟨rfl, hbl⟩
    have HBel := hide (HBel.out.trans (hbl.mono HBel.out.size))
    clear hbl
    go_wp2
    go_ret
    exact ⟨rfl, HBel.out⟩
end Go.Proofs.YtiibglkiakhfgaaDoor
