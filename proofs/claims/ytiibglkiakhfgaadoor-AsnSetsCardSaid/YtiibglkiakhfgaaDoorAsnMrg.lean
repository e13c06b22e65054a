import Derived.Test.YtiibglkiakhfgaaDoorAsnWalk
set_option linter.unusedSimpArgs false
set_option linter.unusedVariables false
namespace Go.Proofs.YtiibglkiakhfgaaDoor
open Go.RowKit
/-- What the closure's variable holds: the numbers collected so far, in memory of the call's own. -/
def OutSt (base g : Nat) (w : World) (l : List Nat) : Prop := ∃ v, Blk w g 27 #[v] ∧ w.ownsRow base 22 1 v l.length (u32c l) ∧ base ≤ g ∧ ∃ A n c, v = .slice A n c
theorem u32c_snoc (l : List Nat) (x : Nat) : u32c (l ++ [x]) = u32c l ++ [.int .u32 (x : Int)] := by simp [u32c]
theorem own_set {w : World} {base e size n g i : Nat} {v : Value} {xs : List Value} (h : w.ownsRow base e size v n xs) (hne : v.ownBlock ≠ some g) (u : Value) : (w.setCell ⟨g, i, none⟩ u).ownsRow base e size v n xs :=
  h.kept (only_setCell (World.grownBy.refl w (some g)) (p := ⟨g, i, none⟩) (.inl rfl) u) (.inr hne)
set_option maxHeartbeats 1000000 in
theorem take_no (base g x : Nat) (l : List Nat) (w : World) (h : OutSt base g w l) :
    Calls Tryd.prog 153 #[.int .u32 x, .bool false, .pointer (some ⟨g, 0, none⟩)] w fun e w' => e = .returned (.tuple #[]) ∧ w = w' := by
  go_enter Tryd.func153, Tryd.ntmps153
  go_wp2
  go_end0
  exact ⟨rfl, rfl⟩
set_option maxRecDepth 100000 in
set_option maxHeartbeats 1000000 in
theorem take_yes (base g x : Nat) (l : List Nat) (w : World) (h : OutSt base g w l) (hl : l.length ≤ 1000) :
    Calls Tryd.prog 153 #[.int .u32 x, .bool true, .pointer (some ⟨g, 0, none⟩)] w fun e w' => e = .returned (.tuple #[]) ∧ OutSt base g w' (l ++ [x]) ∧ Below base w w' := by
  obtain ⟨v, hB, hown, hbg, A, n, c, rfl⟩ := h
  obtain ⟨i0, hi, hz0, hz1, hz2⟩ := info_parts info32
  have hg := hB.lt
  have hc := blk_read hB (i := 0) (v := .slice A n c) rfl
  have hne := own_blk_ne hown hB (by decide)
  have HB := hide hB
  have HO := hide hown
  have HNE := hide hne
  obtain ⟨m, hm⟩ : ∃ m, l.length = m := ⟨_, rfl⟩
  rw [hm] at hl hown HO
  have HM := hide hm
  clear hB hown hne hm
  go_enter Tryd.func153, Tryd.ntmps153
  go_wp2_with (at_builtin; refine wpList_append_any _ rfl (.tmp 6) (.tmp 8) 27 rfl base 22 i0 _ 1 4 Tryd.underlying27 hi hz0 hz1 hz2 rfl (by decide) (.slice A n c) m (u32c l) rfl (HO.out.alloc _) (w.heap.size + 1) (some ⟨w.heap.size, 0, none⟩) 1 1 [.int .u32 (x : Int)] rfl ((reads_one (by simp)).more (by simp)) (by simp [Value.oneCell']) (by unfold maxLen; omega) (by omega) (by simp; omega) ?_; intro v' w1 hown' hgrow hat; obtain ⟨A', c', rfl⟩ := own_slice hown'; have hB1 := (HB.out.alloc (.cells #[.int .u32 (x : Int)] 22)).grown hgrow (fun h => HNE.out h.symm); have hc1 := blk_read hB1 (i := 0) (v := .slice A n c) rfl; have hf1 := hB1.frozen 0; have HB1 := hide hB1; have HO1 := hide hown'; have HG1 := hide hgrow; clear hB1 hown' hgrow hat)
  go_end0
  have hsz : w.heap.size + 1 ≤ w1.heap.size := by have := HG1.out.size; simpa using this
  have hbel : Below base w w1 := by
    refine Below.grown ((Below.refl base w).alloc (by omega) (.cells #[.int .u32 (x : Int)] 22)) HG1.out (by simp; omega) (fun k hk => ?_)
    exact (HO.out.lt k hk).1
  refine ⟨rfl, ⟨.slice A' (m + 1) c', HB1.out.set0 rfl, ?_, hbg, _, _, _, rfl⟩, hbel.setCell hbg _⟩
  have hne1 := own_blk_ne HO1.out HB1.out (by decide)
  rw [u32c_snoc, List.length_append, HM.out]
  exact own_set HO1.out hne1 _
def pickIf (b : Bool) (l : List Nat) : List Nat := if b then l else []
theorem pickIf_true (l : List Nat) : pickIf true l = l := rfl
theorem pickIf_false (l : List Nat) : pickIf false l = [] := rfl
theorem take_any (base g x : Nat) (b : Bool) (l : List Nat) (w : World) (h : OutSt base g w l) (hl : l.length ≤ 1000) :
    Calls Tryd.prog 153 #[.int .u32 x, .bool b, .pointer (some ⟨g, 0, none⟩)] w fun e w' => e = .returned (.tuple #[]) ∧ OutSt base g w' (l ++ pickIf b [x]) ∧ Below base w w' := by
  cases b
  · refine (take_no base g x l w h).mono ?_
    rintro e w' ⟨rfl, rfl⟩
    exact ⟨rfl, by simpa [pickIf] using h, Below.refl _ _⟩
  · exact take_yes base g x l w h hl
theorem OutSt.drewN {base g : Nat} {w : World} {l : List Nat} (h : OutSt base g w l) (n : Nat) : OutSt base g (w.drewN n) l := h
/-- A slice of numbers below a block. -/
def U32lo (B : Nat) (w : World) (A : Option Addr) (n c : Nat) (l : List Nat) : Prop := U32s w A n c l ∧ (0 < n → ∃ g o, A = some ⟨g, o, none⟩ ∧ g < B)
theorem U32lo.start {w : World} {A : Option Addr} {n c : Nat} {l : List Nat} (h : U32s w A n c l) : U32lo w.heap.size w A n c l :=
  ⟨h, fun hn => by obtain ⟨g, o, hA, hg, _⟩ := h.2.2.2.2 hn; exact ⟨g, o, hA, hg⟩⟩
theorem U32lo.keep {B : Nat} {w w' : World} {A : Option Addr} {n c : Nat} {l : List Nat} (h : U32lo B w A n c l) (hb : Below B w w') : U32lo B w' A n c l := by
  refine ⟨⟨h.1.1, h.1.2.1, h.1.2.2.1, h.1.2.2.2.1, fun hn => ?_⟩, h.2⟩
  obtain ⟨g, o, hA, hg, hc⟩ := h.1.2.2.2.2 hn
  obtain ⟨g', o', hA', hg'⟩ := h.2 hn
  rw [hA] at hA'
  cases hA'
  exact ⟨g, o, hA, Nat.lt_of_lt_of_le hg hb.size, fun k x hk => (hb.cell (by exact hg')).trans (hc k x hk)⟩
theorem U32lo.tail {B : Nat} {w : World} {g o n c x : Nat} {l : List Nat} (h : U32lo B w (some ⟨g, o, none⟩) n c (x :: l)) (A' : Option Addr) (hA : 1 < n → A' = some ⟨g, o + 1, none⟩) : U32lo B w A' (n - 1) (c - 1) l := by
  have hl := h.1.1
  simp at hl
  have hc := h.1.2.1
  have hm := h.1.2.2.1
  unfold maxLen at hm
  refine ⟨⟨by omega, by omega, by unfold maxLen; omega, fun y hy => h.1.2.2.2.1 y (by simp [hy]), fun hn => ?_⟩, fun hn => ?_⟩
  · obtain ⟨g', o', hA', hg, hcell⟩ := h.1.2.2.2.2 (by omega)
    cases hA'
    exact ⟨g, o + 1, hA (by omega), hg, fun k y hk => by rw [Nat.add_assoc]; exact hcell (1 + k) y (by rw [Nat.add_comm]; simpa using hk)⟩
  · obtain ⟨g', o', hA', hg⟩ := h.2 (by omega)
    cases hA'
    exact ⟨g, o + 1, hA (by omega), hg⟩
theorem U32lo.head {B : Nat} {w : World} {A : Option Addr} {n c x : Nat} {l : List Nat} (h : U32lo B w A n c (x :: l)) : ∃ g o, A = some ⟨g, o, none⟩ ∧ g < B ∧ x < 4294967296 ∧ w.cell? ⟨g, o, none⟩ = some (.int .u32 (x : Int)) ∧ 1 ≤ n := by
  have hl := h.1.1
  simp at hl
  obtain ⟨g, o, hA, hg, hcell⟩ := h.1.2.2.2.2 (by omega)
  obtain ⟨g', o', hA', hg'⟩ := h.2 (by omega)
  rw [hA] at hA'
  cases hA'
  exact ⟨g, o, hA, hg', h.1.2.2.2.1 x (by simp), by simpa using hcell 0 x rfl, by omega⟩
/-- How many elements a slice value has. -/
def lenOfV : Value → Nat
  | .slice _ n _ => n
  | _ => 0
set_option maxRecDepth 100000 in
set_option maxHeartbeats 4000000 in
theorem merged_any (A : Option Addr) (n c : Nat) (la : List Nat) (B : Option Addr) (m d : Nat) (lb : List Nat) (le ri bo : Bool) (w : World) (ha : U32s w A n c la) (hb : U32s w B m d lb) (hn : n ≤ 400) (hm : m ≤ 400) :
    Calls Tryd.prog 113 #[.slice A n c, .slice B m d, .bool le, .bool ri, .bool bo] w fun e w' => ∃ v, e = .returned v ∧ Own32 w w' v (mrg le ri bo la lb) := by
  have HA := hide (U32lo.start ha)
  have HB := hide (U32lo.start hb)
  have hla := ha.1
  have hlb := hb.1
  have HTot : Hid ((mrg le ri bo la lb).length ≤ 800) := hide (by have := mrg_len le ri bo la lb; omega)
  have HO : Hid (OutSt w.heap.size w.heap.size (w.alloc (.cells #[.slice none 0 0] 27)) []) := hide ⟨.slice none 0 0, Blk.new w 27 _, World.ownsRow_nil _ _ _ _, Nat.le_refl _, _, _, _, rfl⟩
  obtain ⟨tot, htot⟩ : ∃ tot, mrg le ri bo la lb = tot := ⟨_, rfl⟩
  rw [htot] at HTot
  rw [htot]
  have HT := hide htot
  clear ha hb hla hlb htot
  go_enter Tryd.func113, Tryd.ntmps113
  go_wp2
  go_loopw [0, 1] (fun a b wr => ∃ A n c ra B m d rb dn, a = .slice A n c ∧ b = .slice B m d ∧ U32lo w.heap.size wr A n c ra ∧ U32lo w.heap.size wr B m d rb ∧ OutSt w.heap.size w.heap.size wr dn ∧ dn ++ mrg le ri bo ra rb = tot ∧ Below w.heap.size w wr) (fun a b _ => lenOfV a + lenOfV b)
  case atStart =>
    have hbel : Below w.heap.size w (w.alloc (.cells #[.slice none 0 0] 27)) := (Below.refl _ _).alloc (Nat.le_refl _) _
    exact ⟨A, n, c, la, B, m, d, lb, [], rfl, rfl, HA.out.keep hbel, HB.out.keep hbel, HO.out, HT.out, hbel⟩
  case round =>
    obtain ⟨A, n, c, ra, B, m, d, rb, dn, rfl, rfl, ha, hb, ho, ht, hbel⟩ := hrel
    have HA := hide ha
    have HB := hide hb
    have HO := hide ho
    have HT := hide ht
    have HBel := hide hbel
    have hdn : dn.length ≤ 800 := by have := HTot.out; rw [← HT.out, List.length_append] at this; omega
    have hca := ha.1.2.1
    have hma := ha.1.2.2.1
    have hcb := hb.1.2.1
    have hmb := hb.1.2.2.1
    unfold maxLen at hma hmb
    clear ho ht hbel
    by_cases hne : ra ≠ [] ∧ rb ≠ []
    · obtain ⟨hne1, hne2⟩ := hne
      obtain ⟨x, ra, rfl⟩ := List.exists_cons_of_ne_nil hne1
      obtain ⟨y, rb, rfl⟩ := List.exists_cons_of_ne_nil hne2
      obtain ⟨g, o, rfl, hg, hx, hcx, hn1⟩ := ha.head
      obtain ⟨g', o', rfl, hg', hy, hcy, hm1⟩ := hb.head
      have hgt1 : decide ((n : Int) > 0) = true := by simp; omega
      have hgt2 : decide ((m : Int) > 0) = true := by simp; omega
      have hi1 : (1 : Int) ≤ (n : Int) := by omega
      have hi2 : (1 : Int) ≤ (m : Int) := by omega
      have hi3 : (n : Int) ≤ (c : Int) := by omega
      have hi4 : (m : Int) ≤ (d : Int) := by omega
      clear ha hb hne1 hne2
      by_cases hxy : x < y
      · have HM : Hid (mrg le ri bo (x :: ra) (y :: rb) = pickIf le [x] ++ mrg le ri bo ra (y :: rb)) := hide (by rw [mrg, if_pos hxy]; rfl)
        go_wp2
        go_quiet (fail)
        go_wp2_with fail
        refine (take_any w.heap.size w.heap.size x le dn _ (HO.out.drewN nq) (by omega)).mono ?_
        rintro e w2 ⟨rfl, ho2, hb2⟩
        have HO2 := hide ho2
        have HB2 := hide ((below_drewN (Below.refl w.heap.size wr) nq).trans hb2)
        clear ho2 hb2
        go_wp2
        all_goals
          go_roundw
          case rel => exact ⟨_, _, _, ra, _, _, _, y :: rb, _, rfl, rfl, (HA.out.keep HB2.out).tail _ (fun h => by first | rfl | (rw [if_neg (by omega)]) | omega), HB.out.keep HB2.out, HO2.out, by rw [← HT.out, HM.out, List.append_assoc], HBel.out.trans HB2.out⟩
          case measure => simp [lenOfV]; omega
      · by_cases hyx : y < x
        · have HM : Hid (mrg le ri bo (x :: ra) (y :: rb) = pickIf ri [y] ++ mrg le ri bo (x :: ra) rb) := hide (by rw [mrg, if_neg hxy, if_pos hyx]; rfl)
          go_wp2
          go_quiet (fail)
          go_wp2
          go_quiet (fail)
          go_wp2_with fail
          refine (take_any w.heap.size w.heap.size y ri dn _ (by first | exact HO.out.drewN _ | exact (HO.out.drewN _).drewN _) (by omega)).mono ?_
          rintro e w2 ⟨rfl, ho2, hb2⟩
          have HO2 := hide ho2
          have HB2 : Hid (Below w.heap.size wr w2) := hide (by first | exact (below_drewN (Below.refl w.heap.size wr) _).trans hb2 | exact (below_drewN (below_drewN (Below.refl w.heap.size wr) _) _).trans hb2)
          clear ho2 hb2
          go_wp2
          all_goals
            go_roundw
            case rel => exact ⟨_, _, _, x :: ra, _, _, _, rb, _, rfl, rfl, HA.out.keep HB2.out, (HB.out.keep HB2.out).tail _ (fun h => by first | rfl | (rw [if_neg (by omega)]) | omega), HO2.out, by rw [← HT.out, HM.out, List.append_assoc], HBel.out.trans HB2.out⟩
            case measure => simp [lenOfV]; omega
        · have HM : Hid (mrg le ri bo (x :: ra) (y :: rb) = pickIf bo [x] ++ mrg le ri bo ra rb) := hide (by rw [mrg, if_neg hxy, if_neg hyx]; rfl)
          go_wp2
          go_quiet (fail)
          go_wp2
          go_quiet (fail)
          go_wp2_with fail
          refine (take_any w.heap.size w.heap.size x bo dn _ (by first | exact HO.out.drewN _ | exact (HO.out.drewN _).drewN _) (by omega)).mono ?_
          rintro e w2 ⟨rfl, ho2, hb2⟩
          have HO2 := hide ho2
          have HB2 : Hid (Below w.heap.size wr w2) := hide (by first | exact (below_drewN (Below.refl w.heap.size wr) _).trans hb2 | exact (below_drewN (below_drewN (Below.refl w.heap.size wr) _) _).trans hb2)
          clear ho2 hb2
          go_wp2
          go_quiet (fail)
          go_wp2
          all_goals
            go_roundw
            case rel => exact ⟨_, _, _, ra, _, _, _, rb, _, rfl, rfl, ((HA.out.keep HB2.out).tail _ (fun h => by first | rfl | (rw [if_neg (by omega)]) | omega)).keep (below_drewN (Below.refl _ _) _), ((HB.out.keep HB2.out).tail _ (fun h => by first | rfl | (rw [if_neg (by omega)]) | omega)).keep (below_drewN (Below.refl _ _) _), HO2.out.drewN _, by rw [← HT.out, HM.out, List.append_assoc], below_drewN (HBel.out.trans HB2.out) _⟩
            case measure => simp [lenOfV]; omega
    · have hend : Hid (mrg le ri bo ra rb = pickIf le ra ++ pickIf ri rb) := hide (by
        cases ra with
        | nil => rw [mrg]; cases le <;> cases ri <;> simp [pickIf]
        | cons x ra =>
          cases rb with
          | nil => rw [mrg]; cases ri <;> cases le <;> simp [pickIf]
          | cons y rb => exact absurd ⟨by simp, by simp⟩ hne)
      have hnl := ha.1.1
      have hml := hb.1.1
      have hz : n = 0 ∨ (0 < n ∧ m = 0) := by
        cases ra with
        | nil => exact .inl (by simpa using hnl.symm)
        | cons x ra =>
          cases rb with
          | nil => exact .inr ⟨by simp at hnl; omega, by simpa using hml.symm⟩
          | cons y rb => exact absurd ⟨by simp, by simp⟩ hne
      have htl : Hid (dn ++ (pickIf le ra ++ pickIf ri rb) = tot) := hide (by rw [← hend.out]; exact HT.out)
      have hl1 : Hid (∀ k, (dn ++ pickIf le (ra.take k)).length ≤ 1000) := hide (fun k => by
        have h1 := HTot.out
        rw [← htl.out] at h1
        simp only [List.length_append] at h1 ⊢
        have : (pickIf le (ra.take k)).length ≤ (pickIf le ra).length := by cases le <;> simp [pickIf]; omega
        omega)
      have hl2 : Hid (∀ k, (dn ++ pickIf le ra ++ pickIf ri (rb.take k)).length ≤ 1000) := hide (fun k => by
        have h1 := HTot.out
        rw [← htl.out] at h1
        simp only [List.length_append] at h1 ⊢
        have : (pickIf ri (rb.take k)).length ≤ (pickIf ri rb).length := by cases ri <;> simp [pickIf]; omega
        omega)
      have hz' : (n : Int) ≤ 0 ∨ ((1 : Int) ≤ (n : Int) ∧ (m : Int) ≤ 0) := by omega
      clear hne hnl hml ha hb hz
      rcases hz' with hz1 | ⟨hz1, hz2⟩
      · have e1 : decide (0 < n) = false := by simp; omega
        go_wp2
        obtain ⟨wo, rfl⟩ : ∃ wo : World, wo = wr := ⟨_, rfl⟩
        go_loopw [70] (fun i wr => ∃ k : Nat, k ≤ n ∧ i = .int .i64 k ∧ OutSt w.heap.size w.heap.size wr (dn ++ pickIf le (ra.take k)) ∧ Below w.heap.size wo wr) (fun i _ => n - (intOf i).toNat)
        case atStart => exact ⟨0, by omega, rfl, by cases le <;> simpa [pickIf] using HO.out, Below.refl _ _⟩
        case round =>
          obtain ⟨k, hk, rfl, ho2, hb2⟩ := hrel
          have HO2 := hide ho2
          have HB2 := hide hb2
          have HA2 := hide (HA.out.keep hb2)
          clear ho2 hb2
          by_cases hlt : k < n
          · obtain ⟨g, o, x, rfl, hg, hx, hx2, hc⟩ := HA2.out.1.at_ hlt
            have HSn : Hid (((dn ++ pickIf le (ra.take k)) ++ pickIf le [x]) = (dn ++ pickIf le (ra.take (k + 1)))) := hide (by
              cases le
              · simp [pickIf]
              · simp [pickIf, take_snoc_eq hx])
            clear hx
            go_wp2_with fail
            refine (take_any w.heap.size w.heap.size x le _ _ HO2.out (hl1.out k)).mono ?_
            rintro e w3 ⟨rfl, ho3, hb3⟩
            rw [HSn.out] at ho3
            have HO3 := hide ho3
            have HB3 := hide (HB2.out.trans hb3)
            clear ho3 hb3
            go_wp2
            go_roundw
            case rel => exact ⟨k + 1, by omega, by go_num, HO3.out, HB3.out⟩
            case measure => simp [intOf]; omega
          · obtain rfl : k = n := by omega
            have HO3 : Hid (OutSt w.heap.size w.heap.size wr (dn ++ pickIf le ra)) := hide (by
              have := HO2.out
              rwa [List.take_of_length_le (by rw [HA2.out.1.1]; exact Nat.le_refl _)] at this)
            go_wp2
            obtain ⟨wp, rfl⟩ : ∃ wo : World, wo = wr := ⟨_, rfl⟩
            go_loopw [81] (fun i wr => ∃ k : Nat, k ≤ m ∧ i = .int .i64 k ∧ OutSt w.heap.size w.heap.size wr (dn ++ pickIf le ra ++ pickIf ri (rb.take k)) ∧ Below w.heap.size wp wr) (fun i _ => m - (intOf i).toNat)
            case atStart => exact ⟨0, by omega, rfl, by cases ri <;> simpa [pickIf] using HO3.out, Below.refl _ _⟩
            case round =>
              obtain ⟨j, hj, rfl, ho4, hb4⟩ := hrel
              have HO4 := hide ho4
              have HB4 := hide (HB2.out.trans hb4)
              have HBB := hide hb4
              have HA4 := hide (HB.out.keep HB4.out)
              clear ho4 hb4
              by_cases hlt2 : j < m
              · obtain ⟨g, o, x, rfl, hg, hx, hx2, hc⟩ := HA4.out.1.at_ hlt2
                have HSn : Hid (((dn ++ pickIf le ra ++ pickIf ri (rb.take j)) ++ pickIf ri [x]) = (dn ++ pickIf le ra ++ pickIf ri (rb.take (j + 1)))) := hide (by
                  cases ri
                  · simp [pickIf]
                  · simp [pickIf, take_snoc_eq hx])
                clear hx
                go_wp2_with fail
                refine (take_any w.heap.size w.heap.size x ri _ _ HO4.out (hl2.out j)).mono ?_
                rintro e w5 ⟨rfl, ho5, hb5⟩
                rw [HSn.out] at ho5
                have HO5 := hide ho5
                have HB5 := hide (HBB.out.trans hb5)
                clear ho5 hb5
                go_wp2
                go_roundw
                case rel => exact ⟨j + 1, by omega, by go_num, HO5.out, HB5.out⟩
                case measure => simp [intOf]; omega
              · obtain rfl : j = m := by omega
                have HO5 : Hid (OutSt w.heap.size w.heap.size wr tot) := hide (by
                  have := HO4.out
                  rwa [List.take_of_length_le (by rw [HA4.out.1.1]; exact Nat.le_refl _), List.append_assoc, htl.out] at this)
                obtain ⟨v, hB, hown, _, A', n', c', rfl⟩ := HO5.out
                have hcell := blk_read hB (i := 0) (v := .slice A' n' c') rfl
                have HOw := hide hown
                clear hB hown
                go_wp2
                go_ret
                exact ⟨_, rfl, HOw.out, HBel.out.trans HB4.out⟩
      · have e1 : decide (0 < n) = true := by simp; omega
        have e2 : decide (0 < m) = false := by simp; omega
        go_wp2
        obtain ⟨wo, rfl⟩ : ∃ wo : World, wo = wr := ⟨_, rfl⟩
        go_loopw [70] (fun i wr => ∃ k : Nat, k ≤ n ∧ i = .int .i64 k ∧ OutSt w.heap.size w.heap.size wr (dn ++ pickIf le (ra.take k)) ∧ Below w.heap.size wo wr) (fun i _ => n - (intOf i).toNat)
        case atStart => exact ⟨0, by omega, rfl, by cases le <;> simpa [pickIf] using HO.out, Below.refl _ _⟩
        case round =>
          obtain ⟨k, hk, rfl, ho2, hb2⟩ := hrel
          have HO2 := hide ho2
          have HB2 := hide hb2
          have HA2 := hide (HA.out.keep hb2)
          clear ho2 hb2
          by_cases hlt : k < n
          · obtain ⟨g, o, x, rfl, hg, hx, hx2, hc⟩ := HA2.out.1.at_ hlt
            have HSn : Hid (((dn ++ pickIf le (ra.take k)) ++ pickIf le [x]) = (dn ++ pickIf le (ra.take (k + 1)))) := hide (by
              cases le
              · simp [pickIf]
              · simp [pickIf, take_snoc_eq hx])
            clear hx
            go_wp2_with fail
            refine (take_any w.heap.size w.heap.size x le _ _ HO2.out (hl1.out k)).mono ?_
            rintro e w3 ⟨rfl, ho3, hb3⟩
            rw [HSn.out] at ho3
            have HO3 := hide ho3
            have HB3 := hide (HB2.out.trans hb3)
            clear ho3 hb3
            go_wp2
            go_roundw
            case rel => exact ⟨k + 1, by omega, by go_num, HO3.out, HB3.out⟩
            case measure => simp [intOf]; omega
          · obtain rfl : k = n := by omega
            have HO3 : Hid (OutSt w.heap.size w.heap.size wr (dn ++ pickIf le ra)) := hide (by
              have := HO2.out
              rwa [List.take_of_length_le (by rw [HA2.out.1.1]; exact Nat.le_refl _)] at this)
            go_wp2
            obtain ⟨wp, rfl⟩ : ∃ wo : World, wo = wr := ⟨_, rfl⟩
            go_loopw [81] (fun i wr => ∃ k : Nat, k ≤ m ∧ i = .int .i64 k ∧ OutSt w.heap.size w.heap.size wr (dn ++ pickIf le ra ++ pickIf ri (rb.take k)) ∧ Below w.heap.size wp wr) (fun i _ => m - (intOf i).toNat)
            case atStart => exact ⟨0, by omega, rfl, by cases ri <;> simpa [pickIf] using HO3.out, Below.refl _ _⟩
            case round =>
              obtain ⟨j, hj, rfl, ho4, hb4⟩ := hrel
              have HO4 := hide ho4
              have HB4 := hide (HB2.out.trans hb4)
              have HBB := hide hb4
              have HA4 := hide (HB.out.keep HB4.out)
              clear ho4 hb4
              by_cases hlt2 : j < m
              · obtain ⟨g, o, x, rfl, hg, hx, hx2, hc⟩ := HA4.out.1.at_ hlt2
                have HSn : Hid (((dn ++ pickIf le ra ++ pickIf ri (rb.take j)) ++ pickIf ri [x]) = (dn ++ pickIf le ra ++ pickIf ri (rb.take (j + 1)))) := hide (by
                  cases ri
                  · simp [pickIf]
                  · simp [pickIf, take_snoc_eq hx])
                clear hx
                go_wp2_with fail
                refine (take_any w.heap.size w.heap.size x ri _ _ HO4.out (hl2.out j)).mono ?_
                rintro e w5 ⟨rfl, ho5, hb5⟩
                rw [HSn.out] at ho5
                have HO5 := hide ho5
                have HB5 := hide (HBB.out.trans hb5)
                clear ho5 hb5
                go_wp2
                go_roundw
                case rel => exact ⟨j + 1, by omega, by go_num, HO5.out, HB5.out⟩
                case measure => simp [intOf]; omega
              · obtain rfl : j = m := by omega
                have HO5 : Hid (OutSt w.heap.size w.heap.size wr tot) := hide (by
                  have := HO4.out
                  rwa [List.take_of_length_le (by rw [HA4.out.1.1]; exact Nat.le_refl _), List.append_assoc, htl.out] at this)
                obtain ⟨v, hB, hown, _, A', n', c', rfl⟩ := HO5.out
                have hcell := blk_read hB (i := 0) (v := .slice A' n' c') rfl
                have HOw := hide hown
                clear hB hown
                go_wp2
                go_ret
                exact ⟨_, rfl, HOw.out, HBel.out.trans HB4.out⟩
end Go.Proofs.YtiibglkiakhfgaaDoor
