import Derived.Test.YtiibglkiakhfgaaDoorAlA
import Derived.Deep.RegionHeld3
import Derived.Test.YtiibglkiakhfgaaDoorAlE
import Derived.Test.YtiibglkiakhfgaaDoorAlA
import Derived.Deep.SlicePairs
import Derived.Deep.Matrix
import Derived.ChangeShapes
set_option linter.unusedSimpArgs false
set_option linter.unusedVariables false
namespace Go.Proofs.YtiibglkiakhfgaaDoor
open Go.RowKit
attribute [local go_sem] Oper.semAt_some
attribute [local go_sem] Oper.semAt_some
def mrow (t : Nat → Int × Nat) (l : Nat → List Nat) (i k : Nat) : List Value := (List.range k).map fun j => .bool (Mt t l i j)
theorem mrow_snoc (t : Nat → Int × Nat) (l : Nat → List Nat) (i k : Nat) : mrow t l i (k + 1) = mrow t l i k ++ [.bool (Mt t l i k)] := by simp [mrow, List.range_succ]
theorem mrow_at (t : Nat → Int × Nat) (l : Nat → List Nat) {i k j : Nat} (h : j < k) : (mrow t l i k)[j]? = some (.bool (Mt t l i j)) := by
  unfold mrow
  rw [List.getElem?_map, List.getElem?_range h]; rfl
theorem own_one {w : World} {base : Nat} {e : TypeId} (x : Value) (hb : base ≤ w.heap.size) : (w.alloc (.cells #[x] e)).ownsRow base e 1 (.slice (some ⟨w.heap.size, 0, none⟩) 1 1) 1 [x] :=
  ⟨rfl, .inr ⟨w.heap.size, 1, #[x], rfl, hb, heap_alloc_new w _, Nat.le_refl _, by simp [maxLen], rfl, by simp⟩⟩
theorem row_cell {w : World} {base n c i k : Nat} {A : Option Addr} {t : Nat → Int × Nat} {l : Nat → List Nat} (h : w.ownsRow base 4 1 (.slice A n c) n (mrow t l i n)) (hk : k < n) :
    ∃ g, A = some ⟨g, 0, none⟩ ∧ g < w.heap.size ∧ n ≤ c ∧ w.cell? ⟨g, k, none⟩ = some (.bool (Mt t l i k)) := by
  obtain ⟨g, cap, hv, hb, hlt⟩ := h.form (by omega)
  injection hv with h1 h2 h3
  subst h1
  have := h.cells (g := g) rfl k _ (mrow_at t l hk)
  rw [show (⟨g, 0, none⟩ : Addr).add k = ⟨g, k, none⟩ by unfold Addr.add; split <;> simp_all] at this
  refine ⟨g, rfl, hlt, ?_, this⟩
  rcases h.2 with ⟨hv, _⟩ | ⟨g', cap', cur, hv, _, _, hnc, _⟩
  · cases hv
  · cases hv; exact hnc
set_option maxRecDepth 100000 in
set_option maxHeartbeats 4000000 in
theorem refMatch_any (A B : Option Addr) (n c m d : Nat) (ts : List (Int × Nat)) (ls : List (List Nat)) (w : World) (ht : TokAt w A n c ts) (hl : ItemsAt w B m d ls) (hn : n ≤ 100) (hm : m ≤ 100) :
    Calls Tryd.prog 56 #[.slice A n c, .slice B m d] w fun e w' => e = .returned (.bool (MatchP ts ls)) ∧ Below w.heap.size w w' := by
  obtain ⟨i0, hi, hz0, hz1, hz2⟩ := info_parts boolInfo
  obtain ⟨t, hte⟩ : ∃ t, tkP ts = t := ⟨_, rfl⟩
  obtain ⟨l, hle⟩ : ∃ l, itP ls = l := ⟨_, rfl⟩
  have HR : Hid (MatchP ts ls = Mt t l n m) := hide (by unfold MatchP; rw [hte, hle, ht.1, hl.1])
  have HTe := hide hte
  have HLe := hide hle
  have HT := hide ht
  have HL := hide hl
  clear hte hle ht hl
  obtain ⟨M, hM1, hM2⟩ : ∃ M, M ≤ m + 1 ∧ m + 1 ≤ M := ⟨m + 1, Nat.le_refl _, Nat.le_refl _⟩
  go_enter Tryd.func56, Tryd.ntmps56
  go_wp2
  go_loopw [5, 6] (fun v i wr => ∃ k : Nat, k ≤ M ∧ i = .int .i64 (k : Nat) ∧ wr.ownsRow w.heap.size 4 1 v k (mrow t l 0 k) ∧ (∃ A c, v = .slice A k c) ∧ Below w.heap.size w wr) (fun _ i _ => M - (intOf i).toNat)
  case atStart => exact ⟨0, by omega, rfl, World.ownsRow_made _ _ _ (Nat.le_refl _) (by simp [maxLen]) (by simp), ⟨_, _, rfl⟩, (Below.refl _ _).alloc (Nat.le_refl _) _⟩
  case round =>
    obtain ⟨k, hk, rfl, hown, ⟨A', c', rfl⟩, hb⟩ := hrel
    have HO := hide hown
    have HBl := hide hb
    have hsz := hb.size
    clear hown hb
    by_cases hlt : k ≤ m
    · have hle1 : decide (k ≤ m) = true := by simpa using hlt
      obtain ⟨b, hbv, hbm⟩ : ∃ b : Bool, ((k : Int) == 0) = b ∧ Mt t l 0 k = b := by
        cases k with
        | zero => exact ⟨true, rfl, by rw [Mt]⟩
        | succ k => exact ⟨false, by simp; omega, by rw [Mt]⟩
      have HM : Hid (mrow t l 0 (k + 1) = mrow t l 0 k ++ [.bool b]) := hide (by rw [mrow_snoc, hbm])
      clear hbm
      go_wp2_with (at_builtin; refine wpList_append_any _ rfl (.tmp 17) (.tmp 20) 125 rfl w.heap.size 4 i0 _ 1 1 Tryd.underlying125 hi hz0 hz1 hz2 rfl (by decide) (.slice A' k c') k (mrow t l 0 k) rfl (HO.out.alloc _) (wr.heap.size + 1) (some ⟨wr.heap.size, 0, none⟩) 1 1 [.bool b] rfl ((reads_oneS (by simp)).more (by simp)) (by simp [Value.oneCell']) (by unfold maxLen; omega) (by omega) (by simp; omega) ?_; intro v' w3 hown' hgrow hat; have HO3 := hide hown'; have HG3 := hide hgrow; clear hown' hgrow hat)
      have HB3 : Hid (Below w.heap.size w w3) := hide (Below.grown (HBl.out.alloc (by omega) (.cells #[.bool b] 4)) HG3.out (by simp; omega) (fun k hk => (HO.out.lt k hk).1))
      have HF : Hid (w3.ownsRow w.heap.size 4 1 v' (k + 1) (mrow t l 0 (k + 1))) := hide (by rw [HM.out]; exact HO3.out)
      have HV : Hid (∃ A c, v' = .slice A (k + 1) c) := hide (own_slice HF.out)
      go_roundw
      case rel => exact ⟨k + 1, by omega, by go_num, HF.out, HV.out, HB3.out⟩
      case measure => simp [intOf]; omega
    · obtain ⟨K, hK⟩ : ∃ K, K = k := ⟨_, rfl⟩
      subst hK
      have hle1 : decide (K ≤ m) = false := by simp; omega
      have hK1 : K ≤ m + 1 := by omega
      have hK2 : m + 1 ≤ K := by omega
      go_wp2
      obtain ⟨w0, hw0⟩ : ∃ w0 : World, w0 = wr := ⟨_, rfl⟩
      subst hw0
      go_loopw [5, 7] (fun v i wr => ∃ j : Nat, j ≤ n ∧ i = .int .i64 (j : Nat) ∧ wr.ownsRow w.heap.size 4 1 v K (mrow t l j K) ∧ (∃ A c, v = .slice A K c) ∧ Below w.heap.size w wr) (fun _ i _ => n - (intOf i).toNat)
      case atStart => exact ⟨0, by omega, rfl, HO.out, ⟨_, _, rfl⟩, HBl.out⟩
      case round =>
        obtain ⟨i, hin, rfl, hown, ⟨A5, c5, rfl⟩, hb⟩ := hrel
        have HO5 := hide hown
        have HB5 := hide hb
        have hsz5 := hb.size
        have HT5 := hide (HT.out.below hb)
        have HL5 := hide (HL.out.below hb)
        clear hown hb
        by_cases hlt : i < n
        · obtain ⟨g, kd, x, rfl, hg, -, hti, hx32, cK, cX⟩ := HT5.out.at_ hlt
          rw [HTe.out] at hti
          have HTi := hide hti
          obtain ⟨g5, hA5, hg5, hc5, cR⟩ := row_cell HO5.out (k := 0) (by omega)
          subst hA5
          obtain ⟨b0, hb0⟩ : ∃ b0, Mt t l i 0 = b0 := ⟨_, rfl⟩
          rw [hb0] at cR
          obtain ⟨st, hst⟩ : ∃ st : Bool, ((kd : Int) == 3) = st := ⟨_, rfl⟩
          have HSt : Hid (starP (t i) = st) := hide (by rw [hti]; exact hst)
          have HM0 : Hid (Mt t l (i + 1) 0 = (st && b0)) := hide (by rw [Mt, HSt.out, hb0])
          clear hti hb0
          obtain ⟨wo, hwo⟩ : ∃ wo : World, wo = wr := ⟨_, rfl⟩
          subst hwo
          cases st
          · go_wp2
            go_loopw [8, 9] (fun v i' wi => ∃ k : Nat, k ≤ m ∧ i' = .int .i64 (k : Nat) ∧ wi.ownsRow wo.heap.size 4 1 v (k + 1) (mrow t l (i + 1) (k + 1)) ∧ (∃ A c, v = .slice A (k + 1) c) ∧ Below wo.heap.size wo wi) (fun _ i _ => m - (intOf i).toNat)
            case atStart => exact ⟨0, by omega, rfl, by rw [mrow_snoc, HM0.out]; exact own_one _ (Nat.le_refl _), ⟨_, _, rfl⟩, (Below.refl _ _).alloc (Nat.le_refl _) _⟩
            case round =>
              obtain ⟨k, hk, rfl, hown, ⟨A', c', rfl⟩, hb⟩ := hrel
              have HO := hide hown
              have HBi := hide hb
              have hszi := hb.size
              have HT6 := hide (HT5.out.below hb)
              have HL6 := hide (HL5.out.below hb)
              have HR6 := hide (own_below HO5.out hb)
              clear hown hb cK cX cR
              by_cases hlk : k < m
              · obtain ⟨g', kd', x', hA', hg', -, hti', -, cK, cX⟩ := HT6.out.at_ hlt
                cases hA'
                rw [HTe.out, HTi.out] at hti'
                cases hti'
                obtain ⟨gi, oi, -, -, -, -, hA0, hgi0, -⟩ := HL5.out.at_ hlk
                obtain ⟨gj, oj, y, Bi, qi, di, rfl, hgi, -, hyi, cI, hU⟩ := HL6.out.at_ hlk
                cases hA0
                rw [HLe.out] at hyi
                obtain ⟨g6, hA6, hg6, hc6, cR⟩ := row_cell HR6.out (k := k) (by omega)
                cases hA6
                obtain ⟨b1, hb1⟩ : ∃ b1, Mt t l i k = b1 := ⟨_, rfl⟩
                rw [hb1] at cR
                obtain ⟨b2, hb2⟩ : ∃ b2, oneP (kd, x) y = b2 := ⟨_, rfl⟩
                have HM : Hid (mrow t l (i + 1) (k + 1 + 1) = mrow t l (i + 1) (k + 1) ++ [.bool (b1 && b2)]) := hide (by
                  rw [mrow_snoc, Mt, if_neg (by rw [HSt.out]; simp), hb1, hyi, HTi.out, hb2])
                have HOne : Hid (∀ w', Below wr.heap.size wr w' → Calls Tryd.prog 109 #[.agg #[.int .i64 kd, .int .u32 x], .slice Bi qi di] w' fun e w'' => e = .returned (.bool b2) ∧ Below w'.heap.size w' w'') := hide (fun w' hw' => by
                  have := one_any kd x Bi qi di y w' (hU.below hw')
                  rwa [hb2] at this)
                have hi4 : (k : Int) < (K : Int) := by omega
                have hi5 : (0 : Int) ≤ (k : Int) := by omega
                have hi6 : (i : Int) < (n : Int) := by omega
                have hi7 : (0 : Int) ≤ (i : Int) := by omega
                have hi8 : (k : Int) < (m : Int) := by omega
                have hi9 : k < K := by omega
                clear hb1 hb2 hyi hU
                cases b1
                · go_wp2
                  have HS1 : Hid (∀ W, Below wo.heap.size wo W → W.cell? ⟨g5, k, none⟩ = some (.bool false)) := hide (fun W hW => ((hW.cell (p := ⟨g5, k, none⟩) hg5).trans (HBi.out.cell (p := ⟨g5, k, none⟩) hg5).symm).trans cR)
                  refine wp_region_held_drew (S := fun W => W.cell? ⟨g5, k, none⟩ = some (.bool false)) (by kernel_rfl) ?_ (fun hHeld => ?_)
                  · show wr.drew.cell? ⟨g5, k, none⟩ = some (.bool false); simpa using cR
                  have hHeld' : wr.drew.cell? ⟨g5, k, none⟩ = some (.bool false) := hHeld
                  refine wpAnyH_take (i := 0) (v := ?_) rfl (by kernel_rfl) (by kernel_rfl) (by kernel_rfl) (fun _ _ _ h => h) (Or.inl ⟨by rfl, ?_⟩) (by assumption) ?_
                  rotate_left 1
                  · (intro W hSw; (try dsimp only at hSw); go_simp; try with_reducible rfl)
                  try simp only [Act.put, List.setIfInBounds_toArray, List.set_cons_zero, List.set_cons_succ]
                  refine wpAnyH_take (i := 1) (v := ?_) rfl (by kernel_rfl) (by kernel_rfl) (by kernel_rfl) (fun _ _ _ h => h) (Or.inl ⟨by rfl, ?_⟩) (by assumption) ?_
                  rotate_left 1
                  · (intro W hSw; (try dsimp only at hSw); go_simp; try with_reducible rfl)
                  try simp only [Act.put, List.setIfInBounds_toArray, List.set_cons_zero, List.set_cons_succ]
                  refine wpAnyH_take (i := 2) (v := ?_) rfl (by kernel_rfl) (by kernel_rfl) (by kernel_rfl) (fun _ _ _ h => h) (Or.inl ⟨by rfl, ?_⟩) (by assumption) ?_
                  rotate_left 1
                  · (intro W hSw; (try dsimp only at hSw); go_simp; try with_reducible rfl)
                  try simp only [Act.put, List.setIfInBounds_toArray, List.set_cons_zero, List.set_cons_succ]
                  refine wpAnyH_take (i := 3) (v := ?_) rfl (by kernel_rfl) (by kernel_rfl) (by kernel_rfl) (fun _ _ _ h => h) (Or.inl ⟨by rfl, ?_⟩) (by assumption) ?_
                  rotate_left 1
                  · (intro W hSw; (try dsimp only at hSw); go_simp; try with_reducible rfl)
                  try simp only [Act.put, List.setIfInBounds_toArray, List.set_cons_zero, List.set_cons_succ]
                  refine wpAnyH_take (i := 4) (v := ?_) rfl (by kernel_rfl) (by kernel_rfl) (by kernel_rfl) (fun _ _ _ h => h) (Or.inl ⟨by rfl, ?_⟩) (by assumption) ?_
                  rotate_left 1
                  · (intro W hSw; (try dsimp only at hSw); go_simp; try with_reducible rfl)
                  try simp only [Act.put, List.setIfInBounds_toArray, List.set_cons_zero, List.set_cons_succ]
                  refine wpAnyH_take (i := 5) (v := ?_) rfl (by kernel_rfl) (by kernel_rfl) (by kernel_rfl) (fun _ _ _ h => h) (Or.inl ⟨by rfl, ?_⟩) (by assumption) ?_
                  rotate_left 1
                  · (intro W hSw; (try dsimp only at hSw); go_simp; try with_reducible rfl)
                  try simp only [Act.put, List.setIfInBounds_toArray, List.set_cons_zero, List.set_cons_succ]
                  refine wpAnyH_take (i := 6) (v := undef) rfl (by kernel_rfl) (by kernel_rfl) (by kernel_rfl) (fun _ _ _ h => h) (Or.inr ⟨by simp [Region.wanted, yielded], rfl⟩) (by assumption) ?_
                  try simp only [Act.put, List.setIfInBounds_toArray, List.set_cons_zero, List.set_cons_succ]
                  refine wpAnyH_take (i := 7) (v := undef) rfl (by kernel_rfl) (by kernel_rfl) (by kernel_rfl) (fun _ _ _ h => h) (Or.inr ⟨by simp [Region.wanted, yielded], rfl⟩) (by assumption) ?_
                  try simp only [Act.put, List.setIfInBounds_toArray, List.set_cons_zero, List.set_cons_succ]
                  refine wpAnyH_take (i := 8) (v := undef) rfl (by kernel_rfl) (by kernel_rfl) (by kernel_rfl) (fun _ _ _ h => h) (Or.inr ⟨by simp [Region.wanted, yielded], rfl⟩) (by assumption) ?_
                  try simp only [Act.put, List.setIfInBounds_toArray, List.set_cons_zero, List.set_cons_succ]
                  refine wpAnyH_take (i := 9) (v := undef) rfl (by kernel_rfl) (by kernel_rfl) (by kernel_rfl) (fun _ _ _ h => h) (Or.inr ⟨by simp [Region.wanted, yielded], rfl⟩) (by assumption) ?_
                  try simp only [Act.put, List.setIfInBounds_toArray, List.set_cons_zero, List.set_cons_succ]
                  refine wpAnyH_take (i := 10) (v := undef) rfl (by kernel_rfl) (by kernel_rfl) (by kernel_rfl) (fun _ _ _ h => h) (Or.inr ⟨by simp [Region.wanted, yielded], rfl⟩) (by assumption) ?_
                  try simp only [Act.put, List.setIfInBounds_toArray, List.set_cons_zero, List.set_cons_succ]
                  refine wpAnyH_take (i := 11) (v := undef) rfl (by kernel_rfl) (by kernel_rfl) (by kernel_rfl) (fun _ _ _ h => h) (Or.inr ⟨by simp [Region.wanted, yielded], rfl⟩) (by assumption) ?_
                  try simp only [Act.put, List.setIfInBounds_toArray, List.set_cons_zero, List.set_cons_succ]
                  refine wpAnyH_take (i := 12) (v := undef) rfl (by kernel_rfl) (by kernel_rfl) (by kernel_rfl) (fun _ _ _ h => h) (Or.inr ⟨by simp [Region.wanted, yielded], rfl⟩) (by assumption) ?_
                  try simp only [Act.put, List.setIfInBounds_toArray, List.set_cons_zero, List.set_cons_succ]
                  refine wpAnyH_take (i := 13) (v := undef) rfl (by kernel_rfl) (by kernel_rfl) (by kernel_rfl) (fun _ _ _ h => h) (Or.inr ⟨by simp [Region.wanted, yielded], rfl⟩) (by assumption) ?_
                  try simp only [Act.put, List.setIfInBounds_toArray, List.set_cons_zero, List.set_cons_succ]
                  refine wpAnyH_take (i := 14) (v := undef) rfl (by kernel_rfl) (by kernel_rfl) (by kernel_rfl) (fun _ _ _ h => h) (Or.inr ⟨by simp [Region.wanted, yielded], rfl⟩) (by assumption) ?_
                  try simp only [Act.put, List.setIfInBounds_toArray, List.set_cons_zero, List.set_cons_succ]
                  refine wpAnyH_take (i := 15) (v := ?_) rfl (by kernel_rfl) (by kernel_rfl) (by kernel_rfl) (fun _ _ _ h => h) (Or.inl ⟨by rfl, ?_⟩) (by assumption) ?_
                  rotate_left 1
                  · (intro W hSw; (try dsimp only at hSw); go_simp; try with_reducible rfl)
                  try simp only [Act.put, List.setIfInBounds_toArray, List.set_cons_zero, List.set_cons_succ]
                  refine wpAnyH_ready (rs := [16]) (by kernel_rfl) (by simp) ?_
                  refine AllReadyH.cons rfl (fun K hK => ?_) AllReadyH.nil
                  go_simp
                  refine hK.out _ _ ?_ (fun hHeld2 => ?_)
                  · first | go_keep | (dsimp only; rw [World.cell?_alloc_lt]; exact hHeld; simp; omega)
                  clear hK K
                  try simp only [Act.put, List.setIfInBounds_toArray, List.set_cons_zero, List.set_cons_succ]
                  refine wpAnyH_ready (rs := [17]) (by kernel_rfl) (by simp) ?_
                  refine AllReadyH.cons rfl (fun K hK => ?_) AllReadyH.nil
                  refine step_append_any _ (by rfl) (.tmp 66) (.tmp 82) 125 (by rfl) wo.heap.size 4 i0 _ 1 1 Tryd.underlying125 hi hz0 hz1 hz2 rfl (by decide) (.slice A' (k + 1) c') (k + 1) (mrow t l (i + 1) (k + 1)) (by rfl) ?_ (wr.heap.size + 1) (some ⟨wr.heap.size, 0, none⟩) 1 1 [.bool false] (by rfl) ?_ ?_ ?_ ?_ ?_ ?_
                  · first | exact HO.out.alloc _ | exact (HO.out.alloc _).drew
                  · exact ((reads_oneS (by simp)).more (by simp))
                  · simp [Value.oneCell']
                  · unfold maxLen; omega
                  · omega
                  · simp; omega
                  intro v' w3 hown' hgrow _; have hby : Below wo.heap.size wo w3 := (by refine Below.grown (by first | exact (HBi.out.alloc hszi (.cells #[.bool false] 4)) | exact (HBi.out.alloc hszi (.cells #[.bool false] 4)).drew) hgrow (by simp; omega) (fun q hq => (HO.out.lt q hq).1)); have HBy := hide hby; have HO3 := hide hown'; clear hown' hgrow hby
                  refine hK.out _ _ ?_ (fun hHeld3 => ?_)
                  · exact HS1.out _ HBy.out
                  clear hK K
                  try simp only [Act.put, List.setIfInBounds_toArray, List.set_cons_zero, List.set_cons_succ]
                  refine wpAnyH_take (i := 18) (v := ?_) rfl (by kernel_rfl) (by kernel_rfl) (by kernel_rfl) (fun _ _ _ h => h) (Or.inl ⟨by rfl, ?_⟩) (by assumption) ?_
                  rotate_left 1
                  · (intro W hSw; (try dsimp only at hSw); go_simp; try with_reducible rfl)
                  try simp only [Act.put, List.setIfInBounds_toArray, List.set_cons_zero, List.set_cons_succ]
                  refine wpAnyH_done (by kernel_rfl) ?_ _
                  all_goals
                    have HB3 := HBy
                    have HF : Hid (w3.ownsRow wo.heap.size 4 1 v' (k + 1 + 1) (mrow t l (i + 1) (k + 1 + 1))) := hide (by rw [HM.out]; exact HO3.out)
                    have HV : Hid (∃ A c, v' = .slice A (k + 1 + 1) c) := hide (own_slice HF.out)
                    go_wp2
                    go_roundw
                    case rel => exact ⟨k + 1, by omega, by go_num, HF.out, HV.out, HB3.out⟩
                    case measure => simp [intOf]; omega
                · go_wp2
                  have HS4 : Hid (∀ W, Below wo.heap.size wo W → W.cell? ⟨g5, k, none⟩ = some (.bool true) ∧ W.cell? ⟨g, i * 2, none⟩ = some (.int .i64 kd) ∧ W.cell? ⟨g, i * 2 + 1, none⟩ = some (.int .u32 (x : Int)) ∧ W.cell? ⟨gi, oi + k, none⟩ = some (.slice Bi qi di)) := hide (fun W hW => by
                    have e : ∀ p : Addr, p.block < wo.heap.size → W.cell? p = wr.cell? p := fun p hp => (hW.cell hp).trans (HBi.out.cell hp).symm
                    exact ⟨(e _ hg5).trans cR, (e _ hg).trans cK, (e _ hg).trans cX, (e _ hgi0).trans cI⟩)
                  go_region_held3 (fun W => W.cell? ⟨g5, k, none⟩ = some (.bool true) ∧ W.cell? ⟨g, i * 2, none⟩ = some (.int .i64 kd) ∧ W.cell? ⟨g, i * 2 + 1, none⟩ = some (.int .u32 (x : Int)) ∧ W.cell? ⟨gi, oi + k, none⟩ = some (.slice Bi qi di))
                    (first | go_keep | exact HS4.out _ HBy.out | exact HS4.out _ HBx.out)
                    (first
                    | (go_at_call 109; refine (HOne.out _ (by first | exact Below.refl _ _ | exact (Below.refl _ _).drew)).mono ?_; rintro e w5 ⟨rfl, hb5⟩; have hbx : Below wo.heap.size wo w5 := (by refine Below.trans (b := _) ?_ (hb5.mono ?_); (first | exact HBi.out | exact HBi.out.drew); (first | exact hszi | exact hszi)); have hox := own_below (by first | exact HO.out | exact HO.out.drew) hb5; have hs5 := hbx.size; have HBx := hide hbx; have HOx := hide hox; clear hb5 hbx hox)
                    | (refine step_append_any _ (by rfl) (.tmp 66) (.tmp 82) 125 (by rfl) wo.heap.size 4 i0 _ 1 1 Tryd.underlying125 hi hz0 hz1 hz2 rfl (by decide) (.slice A' (k + 1) c') (k + 1) (mrow t l (i + 1) (k + 1)) (by rfl) ?_ (w5.heap.size + 1) (some ⟨w5.heap.size, 0, none⟩) 1 1 [.bool b2] (by rfl) ?_ ?_ ?_ ?_ ?_ ?_
                       · exact HOx.out.alloc _
                       · exact ((reads_oneS (by simp)).more (by simp))
                       · simp [Value.oneCell']
                       · unfold maxLen; omega
                       · omega
                       · simp; omega
                       intro v' w3 hown' hgrow _; have hby : Below wo.heap.size wo w3 := (by refine Below.grown (HBx.out.alloc hs5 _) hgrow (by simp; omega) (fun q hq => (HOx.out.lt q hq).1)); have HBy := hide hby; have HO3 := hide hown'; clear hown' hgrow hby)
                    | fail)
                  all_goals
                    have HF : Hid (w3.ownsRow wo.heap.size 4 1 v' (k + 1 + 1) (mrow t l (i + 1) (k + 1 + 1))) := hide (by rw [HM.out]; exact HO3.out)
                    have HV : Hid (∃ A c, v' = .slice A (k + 1 + 1) c) := hide (own_slice HF.out)
                    go_wp2
                    go_roundw
                    case rel => exact ⟨k + 1, by omega, by go_num, HF.out, HV.out, HBy.out⟩
                    case measure => simp [intOf]; omega
              · have HKe : Hid (m + 1 = K) := hide (by omega)
                obtain rfl : k = m := by omega
                go_wp2
                go_roundw
                case rel => exact ⟨i + 1, by omega, by go_num, by rw [← HKe.out]; exact own_low (base := w.heap.size) (base' := wo.heap.size - w.heap.size) (by rw [Nat.add_sub_cancel' hsz5]; exact HO.out), ⟨_, _, by rw [← HKe.out]⟩, HB5.out.trans (HBi.out.mono hsz5)⟩
                case measure => simp [intOf]; omega
          · go_wp2
            go_loopw [8, 9] (fun v i' wi => ∃ k : Nat, k ≤ m ∧ i' = .int .i64 (k : Nat) ∧ wi.ownsRow wo.heap.size 4 1 v (k + 1) (mrow t l (i + 1) (k + 1)) ∧ (∃ A c, v = .slice A (k + 1) c) ∧ Below wo.heap.size wo wi) (fun _ i _ => m - (intOf i).toNat)
            case atStart => exact ⟨0, by omega, rfl, by rw [mrow_snoc, HM0.out]; exact own_one _ (Nat.le_refl _), ⟨_, _, rfl⟩, (Below.refl _ _).alloc (Nat.le_refl _) _⟩
            case round =>
              obtain ⟨k, hk, rfl, hown, ⟨A', c', rfl⟩, hb⟩ := hrel
              have HO := hide hown
              have HBi := hide hb
              have hszi := hb.size
              have HT6 := hide (HT5.out.below hb)
              have HR6 := hide (own_below HO5.out hb)
              clear hown hb cK cX cR
              by_cases hlk : k < m
              · obtain ⟨g', kd', x', hA', hg', -, hti', -, cK, cX⟩ := HT6.out.at_ hlt
                cases hA'
                rw [HTe.out, HTi.out] at hti'
                cases hti'
                obtain ⟨g6, hA6, hg6, hc6, cR⟩ := row_cell HR6.out (k := k + 1) (by omega)
                cases hA6
                obtain ⟨b1, hb1⟩ : ∃ b1, Mt t l i (k + 1) = b1 := ⟨_, rfl⟩
                rw [hb1] at cR
                obtain ⟨g7, hA7, hg7, hc7, cN⟩ := row_cell HO.out (k := k) (by omega)
                subst hA7
                obtain ⟨b2, hb2⟩ : ∃ b2, Mt t l (i + 1) k = b2 := ⟨_, rfl⟩
                rw [hb2] at cN
                have HM : Hid (mrow t l (i + 1) (k + 1 + 1) = mrow t l (i + 1) (k + 1) ++ [.bool (b1 || b2)]) := hide (by rw [mrow_snoc, Mt, if_pos HSt.out, hb1, hb2])
                clear hb1 hb2
                have hi1 : (k : Int) + 1 < (K : Int) := by omega
                have hi2 : (0 : Int) ≤ (k : Int) + 1 := by omega
                have hi3 : ((k : Int) + 1).toNat = k + 1 := by omega
                have hi4 : (k : Int) < ((k + 1 : Nat) : Int) := by omega
                have hk31 : IntKind.wrap .i64 ((k : Int) + 1) = (k : Int) + 1 := by simp [IntKind.wrap, IntKind.bits, IntKind.signed]; omega
                cases b1
                · go_wp2_with (at_builtin; refine wpList_append_any _ rfl (.tmp 52) (.tmp 64) 125 rfl wo.heap.size 4 i0 _ 1 1 Tryd.underlying125 hi hz0 hz1 hz2 rfl (by decide) (.slice (some ⟨g7, 0, none⟩) (k + 1) c') (k + 1) (mrow t l (i + 1) (k + 1)) rfl (HO.out.alloc _) (wr.heap.size + 1) (some ⟨wr.heap.size, 0, none⟩) 1 1 [.bool b2] rfl ((reads_oneS (by simp)).more (by simp)) (by simp [Value.oneCell']) (by unfold maxLen; omega) (by omega) (by simp; omega) ?_; intro v' w3 hown' hgrow hat; have HO3 := hide hown'; have HG3 := hide hgrow; clear hown' hgrow hat)
                  have HB3 : Hid (Below wo.heap.size wo w3) := hide (Below.grown (HBi.out.alloc (by omega) (.cells #[.bool b2] 4)) HG3.out (by simp; omega) (fun k hk => (HO.out.lt k hk).1))
                  have HF : Hid (w3.ownsRow wo.heap.size 4 1 v' (k + 1 + 1) (mrow t l (i + 1) (k + 1 + 1))) := hide (by rw [HM.out]; exact HO3.out)
                  have HV : Hid (∃ A c, v' = .slice A (k + 1 + 1) c) := hide (own_slice HF.out)
                  go_roundw
                  case rel => exact ⟨k + 1, by omega, by go_num, HF.out, HV.out, HB3.out⟩
                  case measure => simp [intOf]; omega
                · go_wp2_with (at_builtin; refine wpList_append_any _ rfl (.tmp 52) (.tmp 64) 125 rfl wo.heap.size 4 i0 _ 1 1 Tryd.underlying125 hi hz0 hz1 hz2 rfl (by decide) (.slice (some ⟨g7, 0, none⟩) (k + 1) c') (k + 1) (mrow t l (i + 1) (k + 1)) rfl (HO.out.alloc _) (wr.heap.size + 1) (some ⟨wr.heap.size, 0, none⟩) 1 1 [.bool true] rfl ((reads_oneS (by simp)).more (by simp)) (by simp [Value.oneCell']) (by unfold maxLen; omega) (by omega) (by simp; omega) ?_; intro v' w3 hown' hgrow hat; have HO3 := hide hown'; have HG3 := hide hgrow; clear hown' hgrow hat)
                  have HB3 : Hid (Below wo.heap.size wo w3) := hide (Below.grown (HBi.out.alloc (by omega) (.cells #[.bool true] 4)) HG3.out (by simp; omega) (fun k hk => (HO.out.lt k hk).1))
                  have HF : Hid (w3.ownsRow wo.heap.size 4 1 v' (k + 1 + 1) (mrow t l (i + 1) (k + 1 + 1))) := hide (by rw [HM.out]; exact HO3.out)
                  have HV : Hid (∃ A c, v' = .slice A (k + 1 + 1) c) := hide (own_slice HF.out)
                  go_roundw
                  case rel => exact ⟨k + 1, by omega, by go_num, HF.out, HV.out, HB3.out⟩
                  case measure => simp [intOf]; omega
              · have HKe : Hid (m + 1 = K) := hide (by omega)
                obtain rfl : k = m := by omega
                go_wp2
                go_roundw
                case rel => exact ⟨i + 1, by omega, by go_num, by rw [← HKe.out]; exact own_low (base := w.heap.size) (base' := wo.heap.size - w.heap.size) (by rw [Nat.add_sub_cancel' hsz5]; exact HO.out), ⟨_, _, by rw [← HKe.out]⟩, HB5.out.trans (HBi.out.mono hsz5)⟩
                case measure => simp [intOf]; omega
        · obtain rfl : i = n := by omega
          obtain ⟨g5, hA5, hg5, hc5, cR⟩ := row_cell HO5.out (k := m) (by omega)
          subst hA5
          obtain ⟨r, hr⟩ : ∃ r, Mt t l i m = r := ⟨_, rfl⟩
          rw [hr] at cR
          have HRr := hide (HR.out.trans hr)
          have hmM : m < K := by omega
          clear hr
          go_wp2
          go_ret
          exact ⟨ret_bool HRr.out.symm, HB5.out⟩
end Go.Proofs.YtiibglkiakhfgaaDoor
set_option linter.unusedSimpArgs false
set_option linter.unusedVariables false
namespace Go.Proofs.YtiibglkiakhfgaaDoor
open Go.RowKit
attribute [local go_sem] Oper.semAt_some
theorem clone_at (ad : Addr) (n c : Nat) (l : List Nat) (w : World) (h : U32s w (some ad) n c l) (hn : n ≤ 10000) :
    Calls Tryd.prog 124 #[.slice (some ad) n c] w fun e w' => ∃ v, e = .returned v ∧ Own32 w w' v l := by
  obtain ⟨i0, hi, hz0, hz1, hz2⟩ := info_parts info32
  have HR := hide h.reads
  have HL := hide h.1
  have hnil := fun w => Lib.run_eql_slice_nil (P := Tryd.prog) w
  clear h
  go_enter Tryd.func124, Tryd.ntmps124
  go_wp2_with (at_builtin; refine wpList_append_any _ rfl (.tmp 5) (.tmp 6) 27 rfl w.heap.size 22 i0 _ 1 4 Tryd.underlying27 hi hz0 hz1 hz2 rfl (by decide) (.slice (some ⟨w.heap.size, 0, none⟩) 0 0) 0 [] rfl (own_made0 w) w.heap.size (some ad) n c (u32c l) rfl (HR.out.alloc (Nat.le_refl _) _) (u32c_one _) (by unfold maxLen; omega) (by omega) (by simp) ?_; intro v' w1 hown' hgrow _)
  go_ret
  refine ⟨_, rfl, ?_, ?_⟩
  · rw [HL.out]; simpa using hown'
  · exact ((Below.refl _ _).alloc (Nat.le_refl _) _).grown hgrow (by simp) (fun k hk => by simp [Value.ownBlock] at hk; omega)
theorem clone32_any (A : Option Addr) (n c : Nat) (l : List Nat) (w : World) (h : U32s w A n c l) (hn : n ≤ 10000) :
    Calls Tryd.prog 124 #[.slice A n c] w fun e w' => ∃ v, e = .returned v ∧ Own32 w w' v l := by
  cases A with
  | none =>
    have h0 : n = 0 := by
      rcases Nat.eq_zero_or_pos n with h1 | h1
      · exact h1
      · obtain ⟨g, o, hA, _⟩ := h.2.2.2.2 h1
        cases hA
    subst h0
    have hl : Hid (l = []) := hide (List.eq_nil_of_length_eq_zero h.1)
    have hnil := fun w => Lib.run_eql_slice_nil (P := Tryd.prog) w
    clear h
    go_enter Tryd.func124, Tryd.ntmps124
    go_wp2
    go_ret
    refine ⟨_, rfl, ?_, Below.refl _ _⟩
    rw [hl.out]
    exact World.ownsRow_nil _ _ _ _
  | some ad => exact clone_at ad n c l w h hn
/-- Parts of a path. -/
def SegsAt (w : World) (A : Option Addr) (n c : Nat) (sg : List (Int × List Nat)) : Prop :=
  sg.length = n ∧ n ≤ c ∧ c ≤ maxLen ∧ (0 < n → ∃ g o, A = some ⟨g, o, none⟩ ∧ g < w.heap.size ∧ ∀ (k : Nat) (s : Int × List Nat), sg[k]? = some s →
    w.cell? ⟨g, o + k * 2, none⟩ = some (.int .i64 s.1) ∧ ∃ B m d, w.cell? ⟨g, o + k * 2 + 1, none⟩ = some (.slice B m d) ∧ U32s w B m d s.2)
theorem SegsAt.below {w w' : World} {A : Option Addr} {n c : Nat} {sg : List (Int × List Nat)} (h : SegsAt w A n c sg) (hb : Below w.heap.size w w') : SegsAt w' A n c sg := by
  refine ⟨h.1, h.2.1, h.2.2.1, fun hn => ?_⟩
  obtain ⟨g, o, hA, hg, hc⟩ := h.2.2.2 hn
  refine ⟨g, o, hA, Nat.lt_of_lt_of_le hg hb.size, fun k s hk => ?_⟩
  obtain ⟨a, B, m, d, b, u⟩ := hc k s hk
  exact ⟨(hb.cell (by exact hg)).trans a, B, m, d, (hb.cell (by exact hg)).trans b, u.below hb⟩
theorem SegsAt.at_ {w : World} {A : Option Addr} {n c : Nat} {sg : List (Int × List Nat)} (h : SegsAt w A n c sg) {k : Nat} (hk : k < n) :
    ∃ (g o : Nat) (kd : Int) (x : List Nat) (B : Option Addr) (m d : Nat), A = some ⟨g, o, none⟩ ∧ g < w.heap.size ∧ sg[k]? = some (kd, x) ∧ w.cell? ⟨g, o + k * 2, none⟩ = some (.int .i64 kd) ∧ w.cell? ⟨g, o + k * 2 + 1, none⟩ = some (.slice B m d) ∧ U32s w B m d x := by
  obtain ⟨g, o, hA, hg, hc⟩ := h.2.2.2 (by omega)
  have hx : sg[k]? = some (sg[k]'(by rw [h.1]; exact hk)) := List.getElem?_eq_getElem _
  obtain ⟨a, B, m, d, b, u⟩ := hc k _ hx
  exact ⟨g, o, _, _, B, m, d, hA, hg, hx, a, b, u⟩
def segItems (s : Int × List Nat) : List (List Nat) := if s.1 = 1 then [s.2] else s.2.map fun x => [x]
def itemsP (sg : List (Int × List Nat)) : List (List Nat) := sg.flatMap segItems
theorem itemsP_snoc {sg : List (Int × List Nat)} {k : Nat} {s : Int × List Nat} (h : sg[k]? = some s) : itemsP (sg.take (k + 1)) = itemsP (sg.take k) ++ segItems s := by
  unfold itemsP; rw [take_snoc_g h]; simp
theorem itemsP_take_le {sg : List (Int × List Nat)} {k : Nat} {s : Int × List Nat} (h : sg[k]? = some s) : (itemsP (sg.take k)).length + (segItems s).length ≤ (itemsP sg).length := by
  have e : itemsP sg = itemsP (sg.take (k + 1)) ++ itemsP (sg.drop (k + 1)) := by unfold itemsP; rw [← List.flatMap_append, List.take_append_drop]
  rw [e, itemsP_snoc h, List.length_append, List.length_append]
  omega
/-- What the parting has: rows of its own. -/
structure ItSt (H : Nat) (w0 w : World) (v : Value) (L : Nat) (hs : List Value) (ls : List (List Nat)) : Prop where
  own : w.ownsRow H 27 1 v L hs
  lst : OwnLs H w hs ls
  bd : ∀ x ∈ ls, ∀ y ∈ x, y < 4294967296
  bel : Below H w0 w
theorem ItSt.len {H L : Nat} {w0 w : World} {v : Value} {hs : List Value} {ls : List (List Nat)} (h : ItSt H w0 w v L hs ls) : ls.length = L := by
  have h1 := h.own.1
  have h2 := h.lst.1
  omega
theorem ItSt.below {H L : Nat} {w0 w w' : World} {v : Value} {hs : List Value} {ls : List (List Nat)} (h : ItSt H w0 w v L hs ls) (hH : H ≤ w.heap.size) (hb : Below w.heap.size w w') : ItSt H w0 w' v L hs ls :=
  ⟨own_below h.own hb, h.lst.below hb, h.bd, h.bel.trans (hb.mono hH)⟩
theorem ItSt.put {H L d : Nat} {w0 w w3 : World} {o : Obj} {v v' : Value} {hs : List Value} {ls : List (List Nat)} {B : Option Addr} {x : List Nat} (h : ItSt H w0 w v L hs ls) (hH : H ≤ w.heap.size) (hx : w.ownsRow H 22 1 (.slice B x.length d) x.length (u32c x))
    (hb : ∀ y ∈ x, y < 4294967296) (ho : w3.ownsRow H 27 1 v' (L + 1) (hs ++ [.slice B x.length d])) (hg : (w.alloc o).grownBy w3 v.ownBlock) : ItSt H w0 w3 v' (L + 1) (hs ++ [.slice B x.length d]) (ls ++ [x]) :=
  ⟨ho, h.lst.put h.own hx hg, fun z hz => (List.mem_append.1 hz).elim (h.bd z) fun hz => by rw [List.mem_singleton.1 hz]; exact hb,
    Below.grown (h.bel.alloc (by omega) o) hg (by simp; omega) (fun k hk => (h.own.lt k hk).1)⟩
def AItemsP (w : World) (ls : List (List Nat)) (e : Ending) (w' : World) : Prop := ∃ A c, e = .returned (.slice A ls.length c) ∧ ItemsAt w' A ls.length c ls ∧ Below w.heap.size w w'
set_option maxRecDepth 100000 in
set_option maxHeartbeats 4000000 in
theorem aitems_any (A : Option Addr) (n c : Nat) (sg : List (Int × List Nat)) (w : World) (h : SegsAt w A n c sg) (hL : (itemsP sg).length ≤ 100000) (hm10 : ∀ s ∈ sg, s.2.length ≤ 10000) :
    Calls Tryd.prog 181 #[.slice A n c] w (AItemsP w (itemsP sg)) := by
  obtain ⟨i0, hi, hz0, hz1, hz2⟩ := info_parts sliceInfo
  have hm := h.2.2.1
  have hnc := h.2.1
  unfold maxLen at hm
  have HA := hide h
  have HS0 : Hid (ItSt w.heap.size w w (.slice none 0 0) 0 [] []) := hide ⟨World.ownsRow_nil _ _ _ _, ⟨rfl, by simp⟩, by simp, Below.refl _ _⟩
  clear h
  go_enter Tryd.func181, Tryd.ntmps181
  go_wp2
  go_loopw [3, 10] (fun v i wr => ∃ (k L : Nat) (hs : List Value), k ≤ n ∧ i = .int .i64 (k : Nat) ∧ ItSt w.heap.size w wr v L hs (itemsP (sg.take k))) (fun _ i _ => n - (intOf i).toNat)
  case atStart => exact ⟨0, 0, [], Nat.zero_le _, rfl, HS0.out⟩
  case round =>
    obtain ⟨k, L, hs, hk, rfl, hst⟩ := hrel
    have HST := hide hst
    have HO := hide hst.own
    have HLn := hide hst.len
    obtain ⟨A', c', rfl⟩ := own_slice hst.own
    have HA2 := hide (HA.out.below hst.bel)
    have hsz := hst.bel.size
    clear hst
    by_cases hlt : k < n
    · obtain ⟨g, o, kd, x, B, m, d, rfl, hgw, hx, c0w, c1w, huw⟩ := HA.out.at_ hlt
      have hu := huw.below HST.out.bel
      have hg := Nat.lt_of_lt_of_le hgw hsz
      have c0 := (HST.out.bel.cell (p := ⟨g, o + k * 2, none⟩) hgw).trans c0w
      have c1 := (HST.out.bel.cell (p := ⟨g, o + k * 2 + 1, none⟩) hgw).trans c1w
      have HUW := hide huw
      clear c0w c1w huw
      have HX := hide hx
      have hx10 : m ≤ 10000 := by rw [← hu.1]; exact hm10 (kd, x) (List.mem_of_getElem? hx)
      have hLe := itemsP_take_le hx
      have hLn2 := HLn.out
      have hux := hide hu.1
      have hum := hu.2.1
      have hum2 := hu.2.2.1
      unfold maxLen at hum2
      have HBx := hide hu.2.2.2.1
      have hal : Below wr.heap.size wr (wr.alloc (.cells #[.int .i64 kd, .slice B m d] 131)) := (Below.refl _ wr).alloc (Nat.le_refl _) _
      have HB1 := hide hal
      have HST1 := hide (HST.out.below hsz hal)
      have HO1 := hide (own_below HO.out hal)
      have HU1 := hide (hu.below hal)
      have HCl := hide (clone32_any B m d x _ (hu.below hal) hx10)
      clear hx hu hal
      cases h1 : ((kd : Int) == 1)
      · have HSg : Hid (segItems (kd, x) = x.map fun y => [y]) := hide (by unfold segItems; rw [if_neg (by simpa using h1)])
        rw [HSg.out, List.length_map, hux.out] at hLe
        have hLm : L + m ≤ 100000 := by omega
        clear hLe hLn2
        go_wp2
        refine code_gen7 (fun wo => ItSt w.heap.size w wo (.slice A' L c') L hs (itemsP (sg.take k))) HST1.out ?_
        intro wo hso
        have HSo := hide hso
        clear hso HST HST1 HO HO1 HU1 HB1 c0 c1 HCl HA2 hg hsz
        go_loopw [3, 26] (fun v i wi => ∃ (j : Nat) (hs' : List Value), j ≤ m ∧ i = .int .i64 (j : Nat) ∧ ItSt w.heap.size w wi v (L + j) hs' (itemsP (sg.take k) ++ (x.take j).map fun y => [y])) (fun _ i _ => m - (intOf i).toNat)
        case atStart => exact ⟨0, hs, Nat.zero_le _, rfl, by simpa using HSo.out⟩
        case round =>
          obtain ⟨j, hs', hj, rfl, hst⟩ := hrel
          have HST := hide hst
          have HO := hide hst.own
          obtain ⟨A2, c2, rfl⟩ := own_slice hst.own
          have HU2 := hide (HUW.out.below hst.bel)
          have hsz := hst.bel.size
          clear hst
          by_cases hlj : j < m
          · obtain ⟨g2, o2, y, rfl, hg2, hy, hy2, hc⟩ := HU2.out.at_ hlj
            have HY := hide hy
            clear hy
            have hal : Below wr.heap.size wr (wr.alloc (.cells #[.int .u32 (y : Int)] 22)) := (Below.refl _ wr).alloc (Nat.le_refl _) _
            have HST1 := hide (HST.out.below hsz hal)
            have HO1 := hide (own_below HO.out hal)
            have HV : Hid ((wr.alloc (.cells #[.int .u32 (y : Int)] 22)).ownsRow w.heap.size 22 1 (.slice (some ⟨wr.heap.size, 0, none⟩) 1 1) 1 (u32c [y])) := hide (own_one (e := 22) _ hsz)
            clear hal
            go_wp2_with (at_builtin; refine wpList_append_any _ rfl (.tmp 30) (.tmp 33) 76 rfl w.heap.size 27 i0 _ 1 24 Tryd.underlying76 hi hz0 hz1 hz2 rfl (by decide) (.slice A2 (L + j) c2) (L + j) hs' rfl (HO1.out.alloc _) (wr.heap.size + 1 + 1) (some ⟨wr.heap.size + 1, 0, none⟩) 1 1 [.slice (some ⟨wr.heap.size, 0, none⟩) 1 1] rfl ((reads_oneS (g := wr.heap.size + 1) (by simp)).more (by simp)) (by simp [Value.oneCell']) (by unfold maxLen; omega) (by omega) (by simp; omega) ?_; intro v' w3 hown' hgrow hat; have HO3 := hide hown'; have HG3 := hide hgrow; clear hown' hgrow hat)
            have HS3 : Hid (ItSt w.heap.size w w3 v' (L + (j + 1)) (hs' ++ [.slice (some ⟨wr.heap.size, 0, none⟩) 1 1]) (itemsP (sg.take k) ++ (x.take (j + 1)).map fun y => [y])) := hide (by
              rw [take_snoc_g HY.out, List.map_append, ← List.append_assoc]
              exact HST1.out.put (x := [y]) (by simp; omega) HV.out (fun z hz => by rw [List.mem_singleton.1 hz]; exact hy2) HO3.out HG3.out)
            go_roundw
            case rel => exact ⟨j + 1, _, by omega, by go_num, HS3.out⟩
            case measure => simp [intOf]; omega
          · obtain rfl : j = m := by omega
            have HS3 : Hid (ItSt w.heap.size w wr (.slice A2 (L + j) c2) (L + j) hs' (itemsP (sg.take (k + 1)))) := hide (by
              rw [itemsP_snoc HX.out, HSg.out]
              have := HST.out
              rwa [show x.take j = x from List.take_of_length_le (by rw [hux.out]; exact Nat.le_refl _)] at this)
            go_wp2
            go_roundw
            case rel => exact ⟨k + 1, _, _, by omega, by go_num, HS3.out⟩
            case measure => simp [intOf]; omega
      · have HSg : Hid (segItems (kd, x) = [x]) := hide (by unfold segItems; rw [if_pos (by simpa using h1)])
        rw [HSg.out] at hLe
        have hL1 : L + 1 ≤ 100000 := by simp at hLe; omega
        clear hLe hLn2
        go_wp2_with fail
        refine HCl.out.mono ?_
        rintro e w2 ⟨v2, rfl, hv2, hb2⟩
        obtain ⟨B2, d2, rfl⟩ := own_slice hv2
        have HV2 : Hid (w2.ownsRow w.heap.size 22 1 (.slice B2 x.length d2) x.length (u32c x)) := hide (by
          have e : w.heap.size + (wr.heap.size + 1 - w.heap.size) = (wr.alloc (.cells #[.int .i64 kd, .slice B m d] 131)).heap.size := by simp; omega
          exact own_low (base := w.heap.size) (base' := wr.heap.size + 1 - w.heap.size) (by rw [e]; exact hv2))
        have HO2 := hide (own_below HO1.out hb2)
        have HST2 := hide (HST1.out.below (by simp; omega) hb2)
        have hs2 := hb2.size
        simp at hs2
        obtain ⟨X, hX⟩ : ∃ X, x.length = X := ⟨_, rfl⟩
        rw [hX] at HV2 ⊢
        have HX2 := hide hX
        clear hv2 hb2 hX
        go_wp2_with (at_builtin; refine wpList_append_any _ rfl (.tmp 17) (.tmp 21) 76 rfl w.heap.size 27 i0 _ 1 24 Tryd.underlying76 hi hz0 hz1 hz2 rfl (by decide) (.slice A' L c') L hs rfl (HO2.out.alloc _) (w2.heap.size + 1) (some ⟨w2.heap.size, 0, none⟩) 1 1 [.slice B2 X d2] rfl ((reads_oneS (by simp)).more (by simp)) (by simp [Value.oneCell']) (by unfold maxLen; omega) (by omega) (by simp; omega) ?_; intro v' w3 hown' hgrow hat; have HO3 := hide hown'; have HG3 := hide hgrow; clear hown' hgrow hat)
        have HS3 : Hid (ItSt w.heap.size w w3 v' (L + 1) (hs ++ [.slice B2 X d2]) (itemsP (sg.take (k + 1)))) := hide (by
          rw [itemsP_snoc HX.out, HSg.out]
          have e := HX2.out
          subst e
          exact HST2.out.put (by omega) HV2.out HBx.out HO3.out HG3.out)
        go_roundw
        case rel => exact ⟨k + 1, _, _, by omega, by go_num, HS3.out⟩
        case measure => simp [intOf]; omega
    · obtain rfl : k = n := by omega
      have he : Hid (itemsP (sg.take k) = itemsP sg) := hide (by rw [List.take_of_length_le (by rw [HA2.out.1]; exact Nat.le_refl _)])
      go_wp2
      go_ret
      refine ⟨A', c', by rw [← he.out, HLn.out]; rfl, ?_, HST.out.bel⟩
      have := itemsAt_of HST.out.lst HO.out HST.out.bd
      rw [← he.out, HLn.out]
      exact this
set_option maxRecDepth 100000 in
set_option maxHeartbeats 4000000 in
theorem ahits_any (b : Bool) (A : Option Addr) (n c : Nat) (ts : List (Int × Nat)) (B : Option Addr) (m d : Nat) (sg : List (Int × List Nat)) (w : World) (ht : TokAt w A n c ts) (hs : SegsAt w B m d sg) (hn : n ≤ 100)
    (hL : (itemsP sg).length ≤ 100) (hm10 : ∀ s ∈ sg, s.2.length ≤ 10000) :
    Calls Tryd.prog 152 #[.agg #[.bool b, .slice A n c], .slice B m d] w fun e w' => e = .returned (.bool (MatchP ts (itemsP sg))) ∧ Below w.heap.size w w' := by
  have hal : Below w.heap.size w (w.alloc (.cells #[.bool b, .slice A n c] 78)) := (Below.refl _ w).alloc (Nat.le_refl _) _
  have HI := hide (fun w' (hb : Below w.heap.size w w') => aitems_any B m d sg w' (hs.below hb) (by omega) hm10)
  obtain ⟨K, hK⟩ : ∃ K, (itemsP sg).length = K := ⟨_, rfl⟩
  have HK := hide hK
  have HM := hide (fun w' (hb : Below w.heap.size w w') A2 c2 (h2 : ItemsAt w' A2 K c2 (itemsP sg)) => match_any A A2 n c K c2 ts (itemsP sg) w' (ht.below hb) h2 hn (by omega))
  have HB := hide hal
  clear hal ht hs hK
  go_enter Tryd.func152, Tryd.ntmps152
  go_wp2
  go_region_held3 (fun W => W.cell? ⟨w.heap.size, 1, none⟩ = some (.slice A n c))
    (first | go_keep | exact HCk.out)
    (first
      | (go_simp; go_at_call 181; refine (HI.out _ (by first | exact HB.out | exact HB.out.drew)).mono ?_; rintro e w5 ⟨A2, c2, rfl, hi5, hb5⟩; rw [HK.out] at hi5 ⊢; have hb6 : Below w.heap.size w w5 := (by refine Below.trans ?_ (hb5.mono ?_); first | exact HB.out | exact HB.out.drew; simp); have hc6 : w5.cell? ⟨w.heap.size, 1, none⟩ = some (.slice A n c) := ((hb5.cell (p := ⟨w.heap.size, 1, none⟩) (by simp)).trans (by simp)); have HCk := hide hc6; have HB6 := hide hb6; have HI6 := hide hi5; clear hb5 hb6 hc6 hi5)
      | (go_simp; go_at_call 110; refine (HM.out _ HB6.out _ _ HI6.out).mono ?_; rintro e w6 ⟨rfl, hb7⟩; have hb8 := HB6.out.trans (hb7.mono HB6.out.size); have HB8 := hide hb8; have hc6 : w6.cell? ⟨w.heap.size, 1, none⟩ = some (.slice A n c) := ((hb7.cell (p := ⟨w.heap.size, 1, none⟩) (World.block_lt_of_cell? _ _ HCk.out)).trans HCk.out); have HCk := hide hc6; clear hb7 hb8 hc6)
      | fail)
  all_goals
    go_wp2
    go_ret
    exact ⟨rfl, HB8.out⟩
theorem aHits_any (b : Bool) (A : Option Addr) (n c : Nat) (ts : List (Int × Nat)) (B : Option Addr) (m d : Nat) (sg : List (Int × List Nat)) (w : World) (ht : TokAt w A n c ts) (hs : SegsAt w B m d sg) (hn : n ≤ 100)
    (hL : (itemsP sg).length ≤ 100) (hm10 : ∀ s ∈ sg, s.2.length ≤ 10000) :
    Calls Tryd.prog 112 #[.agg #[.bool b, .slice A n c], .slice B m d] w fun e w' => e = .returned (.bool (MatchP ts (itemsP sg))) ∧ Below w.heap.size w w' := by
  have hal : Below w.heap.size w (w.alloc (.cells #[.bool b, .slice A n c] 78)) := (Below.refl _ w).alloc (Nat.le_refl _) _
  have HH := hide (ahits_any b A n c ts B m d sg _ (ht.below hal) (hs.below hal) hn hL hm10)
  have HB := hide hal
  obtain ⟨r, hr⟩ : ∃ r, MatchP ts (itemsP sg) = r := ⟨_, rfl⟩
  rw [hr] at HH ⊢
  clear hal ht hs hr
  go_enter Tryd.func112, Tryd.ntmps112
  go_wp2_with fail
  refine HH.out.mono ?_
  rintro e w1 ⟨rfl, hb⟩
  have HB1 := hide (below2 HB.out hb)
  clear hb
  go_wp2
  go_ret
  exact ⟨rfl, HB1.out⟩
/-- `Match` itself. -/
theorem aMatch_any (A B : Option Addr) (n c m d : Nat) (ts : List (Int × Nat)) (ls : List (List Nat)) (w : World) (ht : TokAt w A n c ts) (hl : ItemsAt w B m d ls) (hn : n ≤ 100) (hm : m ≤ 100) :
    Calls Tryd.prog 57 #[.slice A n c, .slice B m d] w fun e w' => e = .returned (.bool (MatchP ts ls)) ∧ Below w.heap.size w w' := by
  have HH := hide (match_any A B n c m d ts ls w ht hl hn hm)
  obtain ⟨r, hr⟩ : ∃ r, MatchP ts ls = r := ⟨_, rfl⟩
  rw [hr] at HH ⊢
  clear ht hl hr
  go_enter Tryd.func57, Tryd.ntmps57
  go_wp2_with fail
  refine HH.out.mono ?_
  rintro e w1 ⟨rfl, hb⟩
  have HB1 := hide hb
  clear hb
  go_wp2
  go_ret
  exact ⟨rfl, HB1.out⟩
def lvW : List (List UInt8) := [permitT, [54, 53, 48, 48, 48], manyT]
theorem lv1 : aparseB lvW = true := by decide +kernel
theorem lv2 : toksP lvW = [(1, 65000), (3, 0)] := by decide +kernel
theorem lv3 : permP lvW = true := by decide +kernel
theorem lv4 : MatchP [(1, 65000), (3, 0)] (itemsP [(2, [65000, 1])]) = true := by simp [MatchP, Mt, itemsP, segItems, tkP, itP, starP, oneP]
theorem lv5 : MatchP [(1, 65000), (3, 0)] (itemsP []) = false := by simp [MatchP, Mt, itemsP, segItems, tkP, itP, starP, oneP]
set_option maxHeartbeats 2000000 in
theorem alives_any (w : World) (he : Env w) : Calls Tryd.prog 58 #[] w fun e w' => e = .returned (.bool true) ∧ Below w.heap.size w w' := by
  have hal : Below w.heap.size w (w.alloc (.cells #[.string (str permitT), .string (str [54, 53, 48, 48, 48]), .string (str manyT)] 9)) := (Below.refl _ w).alloc (Nat.le_refl _) _
  have hown : (w.alloc (.cells #[.string (str permitT), .string (str [54, 53, 48, 48, 48]), .string (str manyT)] 9)).ownsRow w.heap.size 9 1 (.slice (some ⟨w.heap.size, 0, none⟩) 3 3) 3 (strv lvW) :=
    ⟨rfl, .inr ⟨w.heap.size, 3, _, rfl, Nat.le_refl _, heap_alloc_new w _, Nat.le_refl _, by simp [maxLen], rfl, by simp [strv, lvW]⟩⟩
  have HP := hide (aparse_any _ 3 3 lvW _ (StrsAt.of_own hown (by unfold maxLen; decide)) (by omega) (by decide) (he.below hal))
  have HB := hide hal
  clear hal hown he
  go_enter Tryd.func58, Tryd.ntmps58
  go_wp2_with fail
  refine HP.out.mono ?_
  rintro e w1 ⟨hb, ⟨_, v, rfl, hv⟩ | ⟨hf, _⟩⟩
  case inr => rw [lv1] at hf; cases hf
  rw [lv2, show ([(1, 65000), (3, 0)] : List (Int × Nat)).length = 2 from rfl] at hv
  rw [lv3]
  obtain ⟨A, c, rfl⟩ := own_slice hv
  have HB1 := hide (below2 HB.out hb)
  have hs1 := (below2 HB.out hb).size
  have HV := hide (own_low (base := w.heap.size) (base' := (w.alloc (.cells #[.string (str permitT), .string (str [54, 53, 48, 48, 48]), .string (str manyT)] 9)).heap.size - w.heap.size) (by rw [Nat.add_sub_cancel' (by simp)]; exact hv))
  clear hb hv
  have htk : TokAt w1 A 2 c [(1, 65000), (3, 0)] := TokAt.of_own HV.out (by decide)
  have hb3 : Below w1.heap.size w1 (((w1.alloc (.cells #[.bool true, .slice A 2 c] 78)).alloc (.cells #[.int .u32 65000, .int .u32 1] 22)).alloc (.cells #[.int .i64 2, .slice (some ⟨w1.heap.size + 1, 0, none⟩) 2 2] 131)) :=
    (((Below.refl _ w1).alloc (Nat.le_refl _) _).alloc (by simp) _).alloc (by simp; omega) _
  have k0 : Blk (((w1.alloc (.cells #[.bool true, .slice A 2 c] 78)).alloc (.cells #[.int .u32 65000, .int .u32 1] 22)).alloc (.cells #[.int .i64 2, .slice (some ⟨w1.heap.size + 1, 0, none⟩) 2 2] 131)) w1.heap.size 78 #[.bool true, .slice A 2 c] := ((Blk.new w1 78 _).alloc _).alloc _
  have k1 : Blk (((w1.alloc (.cells #[.bool true, .slice A 2 c] 78)).alloc (.cells #[.int .u32 65000, .int .u32 1] 22)).alloc (.cells #[.int .i64 2, .slice (some ⟨w1.heap.size + 1, 0, none⟩) 2 2] 131)) (w1.heap.size + 1) 22 #[.int .u32 65000, .int .u32 1] := (blk_new' 22 _ (by simp)).alloc _
  have k2 : Blk (((w1.alloc (.cells #[.bool true, .slice A 2 c] 78)).alloc (.cells #[.int .u32 65000, .int .u32 1] 22)).alloc (.cells #[.int .i64 2, .slice (some ⟨w1.heap.size + 1, 0, none⟩) 2 2] 131)) (w1.heap.size + 2) 131 #[.int .i64 2, .slice (some ⟨w1.heap.size + 1, 0, none⟩) 2 2] := blk_new' 131 _ (by simp)
  have hu : U32s (((w1.alloc (.cells #[.bool true, .slice A 2 c] 78)).alloc (.cells #[.int .u32 65000, .int .u32 1] 22)).alloc (.cells #[.int .i64 2, .slice (some ⟨w1.heap.size + 1, 0, none⟩) 2 2] 131)) (some ⟨w1.heap.size + 1, 0, none⟩) 2 2 [65000, 1] :=
    ⟨rfl, Nat.le_refl _, by simp [maxLen], by decide, fun _ => ⟨_, 0, rfl, k1.lt, fun k x hk => by
      match k with
      | 0 => cases hk; exact k1.cell 0
      | 1 => cases hk; exact k1.cell 1
      | k + 2 => simp at hk⟩⟩
  have hsg : SegsAt (((w1.alloc (.cells #[.bool true, .slice A 2 c] 78)).alloc (.cells #[.int .u32 65000, .int .u32 1] 22)).alloc (.cells #[.int .i64 2, .slice (some ⟨w1.heap.size + 1, 0, none⟩) 2 2] 131)) (some ⟨w1.heap.size + 2, 0, none⟩) 1 1 [(2, [65000, 1])] :=
    ⟨rfl, Nat.le_refl _, by simp [maxLen], fun _ => ⟨_, 0, rfl, k2.lt, fun k x hk => by
      match k with
      | 0 => cases hk; exact ⟨k2.cell 0, _, _, _, k2.cell 1, hu⟩
      | k + 1 => simp at hk⟩⟩
  have HH1 := hide (aHits_any true A 2 c _ _ 1 1 _ _ (htk.below hb3) hsg (by omega) (by decide) (by decide))
  have HTk := hide (htk.below hb3)
  have HB3 := hide (HB1.out.trans (hb3.mono hs1))
  have HK0 := hide k0
  clear htk hb3 hu hsg k0 k1 k2
  rw [lv4] at HH1
  go_wp2_with fail
  refine HH1.out.mono ?_
  rintro e w2 ⟨rfl, hb2⟩
  have hs2 := HB3.out.size
  have c0 : w2.cell? ⟨w1.heap.size, 0, none⟩ = some (.bool true) := (hb2.cell (p := ⟨w1.heap.size, 0, none⟩) HK0.out.lt).trans (HK0.out.cell 0)
  have c1 : w2.cell? ⟨w1.heap.size, 1, none⟩ = some (.slice A 2 c) := (hb2.cell (p := ⟨w1.heap.size, 1, none⟩) HK0.out.lt).trans (HK0.out.cell 1)
  have HH2 := hide (aHits_any true A 2 c _ none 0 0 [] w2 (HTk.out.below hb2) ⟨rfl, Nat.le_refl _, by simp [maxLen], fun h => by omega⟩ (by omega) (by decide) (by simp))
  rw [lv5] at HH2
  have HB4 := hide (HB3.out.trans (hb2.mono hs2))
  clear hb2
  go_wp2_with fail
  refine HH2.out.mono ?_
  rintro e w3 ⟨rfl, hb3⟩
  have HB5 := hide (HB4.out.trans (hb3.mono HB4.out.size))
  clear hb3
  go_wp2
  go_ret
  exact ⟨rfl, HB5.out⟩
end Go.Proofs.YtiibglkiakhfgaaDoor
set_option linter.unusedSimpArgs false
set_option linter.unusedVariables false
namespace Go.Proofs.YtiibglkiakhfgaaDoor
open Go.RowKit
attribute [local go_sem] Oper.semAt_some
theorem TokAt.reads {w : World} {A : Option Addr} {n c : Nat} {ts : List (Int × Nat)} (h : TokAt w A n c ts) : Reads w w.heap.size 2 A n (tokc ts) := by
  refine ⟨by rw [tokc_len, h.1], fun hn => ?_⟩
  obtain ⟨g, hA, hg, hc⟩ := h.2.2.2.2 hn
  refine ⟨_, hA, hg, fun j u hu => ?_⟩
  have hj : j < ts.length * 2 := by rw [← tokc_len]; exact (List.getElem?_eq_some_iff.1 hu).1
  have hx : ts[j / 2]? = some (ts[j / 2]'(by omega)) := List.getElem?_eq_getElem _
  obtain ⟨a, b⟩ := tokc_at ts _ _ hx
  obtain ⟨p, q⟩ := hc _ _ hx
  rw [show (⟨g, 0, none⟩ : Addr).add j = ⟨g, j, none⟩ by unfold Addr.add; split <;> simp_all]
  rcases Nat.mod_two_eq_zero_or_one j with h0 | h0
  · have e : j / 2 * 2 = j := by omega
    rw [e] at a p
    rw [a] at hu
    rw [p, ← hu]
  · have e : j / 2 * 2 + 1 = j := by omega
    rw [e] at b q
    rw [b] at hu
    rw [q, ← hu]
theorem made83 (w : World) : (w.alloc (.cells #[] 83)).ownsRow w.heap.size 83 2 (.slice (some ⟨w.heap.size, 0, none⟩) 0 0) 0 [] := by
  have := World.ownsRow_made (base := w.heap.size) (e := 83) (size := 2) w #[] 0 (Nat.le_refl _) (by simp [maxLen]) (by simp)
  simpa using this
theorem below_app {w w3 : World} {o : Obj} {v : Value} (hg : (w.alloc o).grownBy w3 v.ownBlock) (hv : v.ownBlock = some w.heap.size) : Below w.heap.size w w3 :=
  ((Below.refl _ _).alloc (Nat.le_refl _) _).grown hg (by simp) (fun k hk => by rw [hv] at hk; cases hk; exact Nat.le_refl _)
theorem cut10_idem (ls : List (List Nat)) : cut10 (cut10 ls) = cut10 ls := by
  unfold cut10
  rw [← List.map_take, List.take_take, List.map_map]
  congr 1
  funext x
  show List.take 10 (List.take 10 x) = List.take 10 x
  rw [List.take_take]; rfl
theorem cut_lt {ts : List (Int × Nat)} (h : ∀ t ∈ ts, t.2 < 4294967296) (n : Nat) : ∀ t ∈ ts.take n, t.2 < 4294967296 := fun t ht => h t (List.mem_of_mem_take ht)
theorem fldToks (v u : Value) (w : World) : (Instr.field 78 (.agg #[v, u]) 1).run Tryd.prog w = .ok u w := by kernel_rfl
theorem app_new {w w3 : World} {H n : Nat} {v' : Value} {T : List (Int × Nat)} (hH : w.heap.size = H) (hb : ∀ t ∈ T, t.2 < 4294967296) (ho : w3.ownsRow H 83 2 v' (0 + n) ([] ++ tokc T)) (hg : (w.alloc (.cells #[] 83)).grownBy w3 (Value.slice (some ⟨H, 0, none⟩) 0 0).ownBlock) :
    ∃ A c, v' = .slice A n c ∧ TokAt w3 A n c T ∧ w3.ownsRow H 83 2 (.slice A n c) n (tokc T) ∧ Below w.heap.size w w3 := by
  rw [Nat.zero_add, List.nil_append] at ho
  obtain ⟨A, c, rfl⟩ := own_slice ho
  exact ⟨A, c, rfl, TokAt.of_own ho hb, ho, below_app hg (by rw [hH]; rfl)⟩
theorem app_more {w w3 w4 : World} {H n m c : Nat} {v' : Value} {A : Option Addr} {T1 T2 : List (Int × Nat)} (hH : w.heap.size = H) (hb1 : ∀ t ∈ T1, t.2 < 4294967296) (hb2 : ∀ t ∈ T2, t.2 < 4294967296) (hb : Below w.heap.size w w3) (ho : w3.ownsRow H 83 2 (.slice A n c) n (tokc T1))
    (ho2 : w4.ownsRow H 83 2 v' (n + m) (tokc T1 ++ tokc T2)) (hg : w3.grownBy w4 (Value.slice A n c).ownBlock) : ∃ A c, v' = .slice A (n + m) c ∧ TokAt w4 A (n + m) c (T1 ++ T2) ∧ Below w.heap.size w w4 := by
  rw [← tokc_app] at ho2
  obtain ⟨A, c, rfl⟩ := own_slice ho2
  exact ⟨A, c, rfl, TokAt.of_own ho2 (fun t ht => (List.mem_append.1 ht).elim (hb1 t) (hb2 t)), hb.grown hg hb.size (fun k hk => by rw [hH]; exact (ho.lt k hk).1)⟩
structure AmSt (w0 w : World) (A : Option Addr) (tn c : Nat) (T : List (Int × Nat)) (B : Option Addr) (m d : Nat) (L : List (List Nat)) (S : Nat) : Prop where
  tok : TokAt w A tn c T
  it : ItemsAt w B m d L
  env : Env w
  bel : Below w0.heap.size w0 w
  star : TokAt w (some ⟨S, 0, none⟩) 1 1 [(3, 0)]
theorem AmSt.below {w0 w w' : World} {A : Option Addr} {tn c : Nat} {T : List (Int × Nat)} {B : Option Addr} {m d : Nat} {L : List (List Nat)} {S : Nat} (h : AmSt w0 w A tn c T B m d L S) (hb : Below w.heap.size w w') : AmSt w0 w' A tn c T B m d L S :=
  ⟨h.tok.below hb, h.it.below hb, h.env.below hb, below2 h.bel hb, h.star.below hb⟩
set_option maxRecDepth 100000 in
set_option maxHeartbeats 4000000 in
theorem alistMatches_any (A0 : Option Addr) (n0 c0 : Nat) (ts : List (Int × Nat)) (A1 : Option Addr) (n1 c1 : Nat) (ls : List (List Nat)) (w : World) (ht : TokR w A0 n0 c0 ts) (hl : ItemsAt w A1 n1 c1 ls) (he : Env w) :
    Calls Tryd.prog 13 #[.slice A0 n0 c0, .slice A1 n1 c1] w fun e w' => e = .returned (.bool true) ∧ Below w.heap.size w w' := by
  obtain ⟨i0, hi, hz0, hz1, hz2⟩ := info_parts tokInfo
  have HR := hide (rule_any false A0 n0 c0 ts w ht)
  have H32 := hide (cut_lt ht.2.2.2.1 32)
  have HL := hide hl
  have HE := hide he
  clear ht hl he
  obtain ⟨T, hT⟩ : ∃ T, ts.take 32 = T := ⟨_, rfl⟩
  have hTl : T.length ≤ 32 := by rw [← hT]; exact List.length_take_le _ _
  rw [hT] at HR H32
  clear hT
  obtain ⟨tn, htn⟩ : ∃ tn, T.length = tn := ⟨_, rfl⟩
  rw [htn] at HR hTl
  have HTn := hide htn
  clear htn
  have hfld := fldToks
  go_enter Tryd.func13, Tryd.ntmps13
  go_wp2_with fail
  refine HR.out.mono ?_
  rintro e w1 ⟨v, rfl, hv, hb1⟩
  obtain ⟨A, c, rfl⟩ := own_slice hv
  have HT1 := hide (TokAt.of_own hv H32.out)
  have HL1 := hide (HL.out.below hb1)
  have HB1 := hide hb1
  have HE1 := hide (HE.out.below hb1)
  clear hv hb1
  go_wp2_with fail
  refine (items_few _ _ _ _ _ HL1.out).mono ?_
  rintro e w2 ⟨B, m, d, rfl, hi2, hb2⟩
  obtain ⟨L, hL⟩ : ∃ L, cut10 ls = L := ⟨_, rfl⟩
  have HLi : Hid (cut10 L = L) := hide (by rw [← hL]; exact cut10_idem ls)
  have hm20 : m ≤ 20 := by rw [← hi2.1]; exact cut10_len ls
  rw [hL] at hi2
  have HI2 := hide hi2
  have HT2 := hide (HT1.out.below hb2)
  have HE2 := hide (HE1.out.below hb2)
  have HB2 := hide (below2 HB1.out hb2)
  clear hL hi2 hb2
  obtain ⟨r, hr⟩ : ∃ r, MatchP T L = r := ⟨_, rfl⟩
  have HRr := hide hr
  have HMr := hide (refMatch_any A B tn c m d T L w2 HT2.out HI2.out (by omega) (by omega))
  rw [hr] at HMr
  clear hr
  go_wp2_with fail
  refine HMr.out.mono ?_
  rintro e w3 ⟨rfl, hb3⟩
  have HT3 := hide (HT2.out.below hb3)
  have HI3 := hide (HI2.out.below hb3)
  have HE3 := hide (HE2.out.below hb3)
  have HB3 := hide (below2 HB2.out hb3)
  clear hb3
  have hk3 : Below w3.heap.size w3 (w3.alloc (.cells #[.int .i64 3, .int .u32 0] 83)) := (Below.refl _ w3).alloc (Nat.le_refl _) _
  have hs3 : (w3.alloc (.cells #[.int .i64 3, .int .u32 0] 83)).ownsRow w3.heap.size 83 2 (.slice (some ⟨w3.heap.size, 0, none⟩) 1 1) 1 (tokc [(3, 0)]) :=
    ⟨rfl, .inr ⟨w3.heap.size, 1, _, rfl, Nat.le_refl _, heap_alloc_new w3 _, Nat.le_refl _, by simp [maxLen], rfl, by simp [tokc]⟩⟩
  have hst : AmSt w (w3.alloc (.cells #[.int .i64 3, .int .u32 0] 83)) A tn c T B m d L w3.heap.size := ⟨HT3.out.below hk3, HI3.out.below hk3, HE3.out.below hk3, below2 HB3.out hk3, TokAt.of_own hs3 (by decide)⟩
  have HS := hide hst
  have HRT := hide hst.tok.reads
  have hcn := hst.tok.2.1
  have hcm := hst.tok.2.2.1
  unfold maxLen at hcm
  clear hk3 hs3 hst HT3 HI3 HE3 HB3 HT2 HI2 HE2 HB2 HB1 HL1 HT1 HE1 HMr
  have H83 := hide made83
  go_wp2_with (first
    | (at_builtin; refine wpList_append_any _ rfl (.tmp 20) (.tmp 21) 75 rfl (w3.heap.size + 1) 83 i0 _ 2 16 Tryd.underlying75 hi hz0 hz1 hz2 rfl (by decide) (.slice (some ⟨w3.heap.size + 1, 0, none⟩) 0 0) 0 [] rfl (by have := made83 (w3.alloc (.cells #[.int .i64 3, .int .u32 0] 83)); simpa using this) _ A tn c (tokc T) rfl (HRT.out.alloc (Nat.le_refl _) _) (tokc_one _) (by unfold maxLen; omega) (by omega) (by simp) ?_; intro v4 w4 hown4 hgrow4 hat4
       obtain ⟨A4, c4, rfl, hk4, -, hb4⟩ := app_new (w := w3.alloc (.cells #[.int .i64 3, .int .u32 0] 83)) (by simp) H32.out hown4 hgrow4
       have HS4 := hide (HS.out.below hb4)
       have HK4 := hide hk4
       clear hown4 hgrow4 hat4 hk4 hb4 H83)
    | fail)
  have HF5 := hide (items_few B m d L w4 HS4.out.it)
  rw [HLi.out] at HF5
  go_wp2_with fail
  refine HF5.out.mono ?_
  rintro e w5 ⟨B5, m5, d5, rfl, hi5, hb5⟩
  have hm5 : m5 ≤ 20 := by rw [← hi5.1, ← HLi.out]; exact cut10_len L
  have HS5 := hide (HS4.out.below hb5)
  have HM5 := hide (aMatch_any A4 B5 tn c4 m5 d5 T L w5 (HK4.out.below hb5) hi5 (by omega) (by omega))
  rw [HRr.out] at HM5
  clear hi5 hb5
  go_wp2_with fail
  refine HM5.out.mono ?_
  rintro e w6 ⟨rfl, hb6⟩
  have HS6 := hide (HS5.out.below hb6)
  have HF7 := hide (items_few B m d L w6 HS6.out.it)
  rw [HLi.out] at HF7
  clear hb6 hm5
  have hrr : (r != r) = false := by cases r <;> rfl
  go_wp2_with fail
  refine HF7.out.mono ?_
  rintro e w7 ⟨B7, m7, d7, rfl, hi7, hb7⟩
  have hm7 : m7 ≤ 20 := by rw [← hi7.1, ← HLi.out]; exact cut10_len L
  have HS7 := hide (HS6.out.below hb7)
  have HM7 := hide (aMatch_any _ B7 1 1 m7 d7 [(3, 0)] L w7 HS7.out.star hi7 (by omega) (by omega))
  rw [match_star] at HM7
  clear hi7 hb7 hm7
  go_wp2_with fail
  refine HM7.out.mono ?_
  rintro e w8 ⟨rfl, hb8⟩
  have HS8 := hide (HS7.out.below hb8)
  have HRS8 := hide HS8.out.star.reads
  clear hb8
  go_wp2_with (first
    | (at_builtin; refine wpList_append_any _ rfl (.tmp 35) (.tmp 36) 75 rfl w8.heap.size 83 i0 _ 2 16 Tryd.underlying75 hi hz0 hz1 hz2 rfl (by decide) (.slice (some ⟨w8.heap.size, 0, none⟩) 0 0) 0 [] rfl (made83 w8) _ (some ⟨w3.heap.size, 0, none⟩) 1 1 (tokc [(3, 0)]) rfl (HRS8.out.alloc (Nat.le_refl _) _) (tokc_one _) (by unfold maxLen; omega) (by omega) (by simp) ?_; intro v9 w9 hown9 hgrow9 hat9
       obtain ⟨A9, c9, rfl, -, ho9, hb9⟩ := app_new (w := w8) rfl (by decide) hown9 hgrow9
       have HS9 := hide (HS8.out.below hb9)
       have HO9 := hide ho9
       have HB9 := hide hb9
       have HRT9 := hide HS9.out.tok.reads
       have hs9 := hb9.size
       clear hown9 hgrow9 hat9 ho9 hb9)
    | (at_builtin; refine wpList_append_any _ rfl (.tmp 37) (.tmp 38) 75 rfl w8.heap.size 83 i0 _ 2 16 Tryd.underlying75 hi hz0 hz1 hz2 rfl (by decide) (.slice A9 1 c9) 1 (tokc [(3, 0)]) rfl HO9.out _ A tn c (tokc T) rfl HRT9.out (tokc_one _) (by unfold maxLen; omega) (by omega) (by omega) ?_; intro v10 w10 hown10 hgrow10 hat10
       obtain ⟨A10, c10, rfl, hk10, hb10⟩ := app_more (w := w8) rfl (by decide) H32.out HB9.out HO9.out hown10 hgrow10
       have HS10 := hide (HS8.out.below hb10)
       have HK10 := hide hk10
       clear hown10 hgrow10 hat10 hk10 hb10)
    | fail)
  have HF11 := hide (items_few B m d L w10 HS10.out.it)
  rw [HLi.out] at HF11
  go_wp2_with fail
  refine HF11.out.mono ?_
  rintro e w11 ⟨B11, m11, d11, rfl, hi11, hb11⟩
  have hm11 : m11 ≤ 20 := by rw [← hi11.1, ← HLi.out]; exact cut10_len L
  have HS11 := hide (HS10.out.below hb11)
  have HM11 := hide (aMatch_any A10 B11 (1 + tn) c10 m11 d11 ([(3, 0)] ++ T) L w11 (HK10.out.below hb11) hi11 (by omega) (by omega))
  clear hi11 hb11 hm11
  obtain ⟨ra, hra⟩ : ∃ ra, MatchP ([(3, 0)] ++ T) L = ra := ⟨_, rfl⟩
  rw [hra] at HM11
  have HRa : Hid (r = true → ra = true) := hide (fun h => by rw [← hra]; exact match_ahead (HRr.out.trans h))
  clear hra
  go_wp2_with fail
  refine HM11.out.mono ?_
  rintro e w12 ⟨rfl, hb12⟩
  have HS12 := hide (HS11.out.below hb12)
  have HRT12 := hide HS12.out.tok.reads
  clear hb12
  go_wp2_with (first
    | (at_builtin; refine wpList_append_any _ rfl (.tmp 43) (.tmp 44) 75 rfl w12.heap.size 83 i0 _ 2 16 Tryd.underlying75 hi hz0 hz1 hz2 rfl (by decide) (.slice (some ⟨w12.heap.size, 0, none⟩) 0 0) 0 [] rfl (made83 w12) _ A tn c (tokc T) rfl (HRT12.out.alloc (Nat.le_refl _) _) (tokc_one _) (by unfold maxLen; omega) (by omega) (by simp) ?_; intro v13 w13 hown13 hgrow13 hat13
       obtain ⟨A13, c13, rfl, -, ho13, hb13⟩ := app_new (w := w12) rfl H32.out hown13 hgrow13
       have HS13 := hide (HS12.out.below hb13)
       have HO13 := hide ho13
       have HB13 := hide hb13
       have HRS13 := hide HS13.out.star.reads
       have hs13 := hb13.size
       clear hown13 hgrow13 hat13 ho13 hb13)
    | (at_builtin; refine wpList_append_any _ rfl (.tmp 45) (.tmp 46) 75 rfl w12.heap.size 83 i0 _ 2 16 Tryd.underlying75 hi hz0 hz1 hz2 rfl (by decide) (.slice A13 tn c13) tn (tokc T) rfl HO13.out _ (some ⟨w3.heap.size, 0, none⟩) 1 1 (tokc [(3, 0)]) rfl HRS13.out (tokc_one _) (by unfold maxLen; omega) (by omega) (by omega) ?_; intro v14 w14 hown14 hgrow14 hat14
       obtain ⟨A14, c14, rfl, hk14, hb14⟩ := app_more (w := w12) rfl H32.out (by decide) HB13.out HO13.out hown14 hgrow14
       have HS14 := hide (HS12.out.below hb14)
       have HK14 := hide hk14
       clear hown14 hgrow14 hat14 hk14 hb14)
    | fail)
  have HF15 := hide (items_few B m d L w14 HS14.out.it)
  rw [HLi.out] at HF15
  go_wp2_with fail
  refine HF15.out.mono ?_
  rintro e w15 ⟨B15, m15, d15, rfl, hi15, hb15⟩
  have hm15 : m15 ≤ 20 := by rw [← hi15.1, ← HLi.out]; exact cut10_len L
  have HS15 := hide (HS14.out.below hb15)
  have HM15 := hide (aMatch_any A14 B15 (tn + 1) c14 m15 d15 (T ++ [(3, 0)]) L w15 (HK14.out.below hb15) hi15 (by omega) (by omega))
  clear hi15 hb15 hm15
  obtain ⟨rb, hrb⟩ : ∃ rb, MatchP (T ++ [(3, 0)]) L = rb := ⟨_, rfl⟩
  rw [hrb] at HM15
  have HRb : Hid (r = true → rb = true) := hide (fun h => by rw [← hrb]; exact match_behind (HRr.out.trans h))
  clear hrb
  go_wp2_with fail
  refine HM15.out.mono ?_
  rintro e w16 ⟨rfl, hb16⟩
  have HS16 := hide (HS15.out.below hb16)
  have HV := hide (alives_any w16 HS16.out.env)
  clear hb16
  cases r
  · go_wp2_with fail
    refine HV.out.mono ?_
    rintro e w17 ⟨rfl, hb17⟩
    have HE17 := hide (below2 HS16.out.bel hb17)
    clear hb17
    go_wp2
    go_ret
    exact ⟨rfl, HE17.out⟩
  · obtain rfl := HRa.out rfl
    obtain rfl := HRb.out rfl
    go_wp2_with fail
    refine HV.out.mono ?_
    rintro e w17 ⟨rfl, hb17⟩
    have HE17 := hide (below2 HS16.out.bel hb17)
    clear hb17
    go_wp2
    go_ret
    exact ⟨rfl, HE17.out⟩
end Go.Proofs.YtiibglkiakhfgaaDoor
set_option linter.unusedSimpArgs false
set_option linter.unusedVariables false
namespace Go.Proofs.YtiibglkiakhfgaaDoor
open Go.RowKit
attribute [local go_sem] Oper.semAt_some
open Go.WideShapes Go.ChangeShapes Go.ChangeAt Go.Deep Go.Deep
theorem cellsTok : Tryd.prog.cellsOf 83 = 2 := by kernel_rfl
theorem cellsInt : Tryd.prog.cellsOf 3 = 1 := by kernel_rfl
theorem cellsU32s : Tryd.prog.cellsOf 27 = 1 := by kernel_rfl
/-- An argument's pieces, opened. -/
theorem toks_open {H : Type} {enc : TypeId × Value → H} {W : World} {A : Option Addr} {n c : Nat} {d : DataW H} {p : List MemPlace}
    (h : DataW.Trod enc Tryd.prog W 0 (fun _ => true) true 75 (.slice A n c) d p) : ∃ l, TokR W A n c l := by
  obtain ⟨fuel, hf⟩ := h
  rcases open_slice_pairs Tryd.underlying75 Tryd.underlying83 cellsTok rfl rfl cellsInt cells32 hf with ⟨hcs, _⟩ | ⟨a, len, cap, m, k, V0, V1, D0, D1, P0, P1, hcs, _, hl, hm, hmm, _, hcell⟩
  · simp [Value.cells] at hcs
    obtain ⟨rfl, rfl, rfl⟩ := hcs
    exact ⟨[], rfl, Nat.le_refl _, by simp [maxLen], by simp, by simp [tokc], fun h => by omega⟩
  · simp [Value.cells] at hcs
    obtain ⟨rfl, rfl, rfl⟩ := hcs
    simp only [if_true] at hmm
    have each : ∀ i, i < m → ∃ t : Int × Nat, V0 i = .int .i64 t.1 ∧ V1 i = .int .u32 (t.2 : Int) ∧ t.2 < 4294967296 := fun i hi => by
      obtain ⟨_, _, h0, h1⟩ := hcell i hi
      obtain ⟨z, e0, _, _⟩ := DataW.trod_int Tryd.underlying3 h0
      obtain ⟨y, e1, _, w1⟩ := DataW.trod_int Tryd.underlying22 h1
      have b1 : 0 ≤ y ∧ y ≤ 4294967295 := by simpa [Lit.wf, IntKind.min, IntKind.max, IntKind.signed, IntKind.bits] using w1
      injection e0 with e0
      injection e1 with e1
      refine ⟨(z, y.toNat), e0, ?_, by show y.toNat < _; omega⟩
      rw [e1]
      show Value.int .u32 y = .int .u32 ((y.toNat : Nat) : Int)
      rw [Int.toNat_of_nonneg b1.1]
    let T : Nat → Int × Nat := fun i => if h : i < m then (each i h).choose else (0, 0)
    have hT : ∀ i, i < m → V0 i = .int .i64 (T i).1 ∧ V1 i = .int .u32 ((T i).2 : Int) ∧ (T i).2 < 4294967296 := fun i hi => by
      have := (each i hi).choose_spec
      simp only [T, dif_pos hi]
      exact this
    have hat : ∀ i, i < n → ((List.range n).map T)[i]? = some (T i) := fun i hi => by simp [hi]
    have hlen : ((List.range n).map T).length = n := by simp
    refine ⟨(List.range n).map T, by simp, hl, hm, fun t ht => ?_, by rw [tokc_len, hlen], fun hn => ?_⟩
    · obtain ⟨i, hi, rfl⟩ := List.mem_map.1 ht
      exact (hT i (by have := List.mem_range.1 hi; omega)).2.2
    · refine ⟨a, rfl, ?_, fun j u hu => ?_⟩
      · have := World.block_lt_of_cell? W _ (hcell 0 (by omega)).1
        rwa [block_of_add] at this
      · have hj : j < n * 2 := by have := (List.getElem?_eq_some_iff.1 hu).1; rwa [tokc_len, hlen] at this
        obtain ⟨x0, x1, _⟩ := hcell (j / 2) (by omega)
        obtain ⟨t0, t1, _⟩ := hT (j / 2) (by omega)
        obtain ⟨p0, p1⟩ := tokc_at _ _ _ (hat (j / 2) (by omega))
        rcases Nat.mod_two_eq_zero_or_one j with h0 | h0
        · have e : j / 2 * 2 = j := by omega
          rw [e] at x0 p0
          rw [p0] at hu
          rw [x0, t0, ← hu]
        · have e : j / 2 * 2 + 1 = j := by omega
          rw [e] at x1 p1
          rw [p1] at hu
          rw [x1, t1, ← hu]
/-- Lists of numbers that came in. -/
theorem rows_open {H : Type} {enc : TypeId × Value → H} {W : World} {A : Option Addr} {n c : Nat} {d : DataW H} {p : List MemPlace}
    (h : DataW.Trod enc Tryd.prog W 0 (fun _ => true) true 76 (.slice A n c) d p) : ∃ l, ItemsAt W A n c l := by
  obtain ⟨fuel, hf⟩ := h
  rcases open_int_rows Tryd.underlying76 Tryd.underlying27 Tryd.underlying22 cellsU32s cells32 hf with ⟨hcs, _⟩ | ⟨a, len, cap, B, L, C, Z, hcs, _, hl, hm, _, hcell⟩
  · simp [Value.cells] at hcs
    obtain ⟨rfl, rfl, rfl⟩ := hcs
    exact ⟨[], rfl, Nat.le_refl _, by simp [maxLen], fun h => by omega⟩
  · simp [Value.cells] at hcs
    obtain ⟨rfl, rfl, rfl⟩ := hcs
    refine ⟨(List.range n).map fun r => ((Z r).take (L r)).map Int.toNat, by simp, hl, hm, fun hn => ?_⟩
    obtain ⟨b, off, spot⟩ := a
    obtain ⟨h0, _⟩ := hcell 0 (by omega)
    have hspot : spot = none := by simpa [Addr.add] using World.cell?_spot h0
    subst hspot
    have hadd : ∀ (b off j : Nat), (⟨b, off, none⟩ : Addr).add j = ⟨b, off + j, none⟩ := fun b off j => by unfold Addr.add; split <;> simp_all
    refine ⟨b, off, rfl, by have := World.block_lt_of_cell? W _ h0; rwa [block_of_add] at this, fun k x hk => ?_⟩
    have hkn : k < n := by have := (List.getElem?_eq_some_iff.1 hk).1; simpa using this
    have hkx : x = ((Z k).take (L k)).map Int.toNat := by simp [hkn] at hk; rw [← hk, List.map_take]
    subst hkx
    clear hk
    obtain ⟨x0, hLC, hCm, hZ, hw, hno, hc⟩ := hcell k (by omega)
    rw [hadd] at x0
    have hb : ∀ z ∈ Z k, 0 ≤ z ∧ z < 4294967296 := fun z hz => by
      have := hw z hz
      simp [Lit.wf, IntKind.min, IntKind.max, IntKind.signed, IntKind.bits] at this
      omega
    refine ⟨B k, L k, C k, x0, by simp [hZ]; omega, hLC, hCm, fun y hy => ?_, fun hL0 => ?_⟩
    · obtain ⟨z, hz, rfl⟩ := List.mem_map.1 hy
      have := hb z (List.mem_of_mem_take hz)
      omega
    · cases hB : B k with
      | none => have := hno hB; omega
      | some a' =>
        obtain ⟨_, hcc⟩ := hc a' hB
        obtain ⟨b', off', spot'⟩ := a'
        have h0' := hcc 0 (by omega)
        have hsp : spot' = none := by simpa [Addr.add] using World.cell?_spot h0'
        subst hsp
        refine ⟨b', off', rfl, by have := World.block_lt_of_cell? W _ h0'; rwa [block_of_add] at this, fun j y hy => ?_⟩
        rw [List.getElem?_map, Option.map_eq_some_iff] at hy
        obtain ⟨z, hz, rfl⟩ := hy
        rw [List.getElem?_take] at hz
        split at hz
        · have hj : j < C k := by omega
          have := hcc j hj
          rw [hadd] at this
          rw [this]
          have hzz : (Z k).getD j 0 = z := by simp [List.getD, hz]
          rw [hzz]
          have := hb z (List.mem_of_getElem? hz)
          rw [Int.toNat_of_nonneg this.1]
        · cases hz
end Go.Proofs.YtiibglkiakhfgaaDoor
