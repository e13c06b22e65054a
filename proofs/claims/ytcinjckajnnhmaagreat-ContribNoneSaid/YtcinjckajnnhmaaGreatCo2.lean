import Derived.Test.YtcinjckajnnhmaaGreatCo1
import Derived.Test.YtcinjckajnnhmaaGreatCoSh
import Derived.Shelf.Strings.Builder1
import Derived.Shelf.Strings.Builder2
import Derived.Shelf.Strings.OnBuilder
import Derived.Shelf.LaysM
import Derived.WalkKit
import Derived.ProofKit
import Derived.OpenShut
import Derived.Below
import Derived.Laws.OwnMore
import Derived.Laws.Rows
import Derived.Laws.MakeOwn
import Derived.Deep.AppendLies
import Derived.Deep.Draws
import Derived.Deep.OwnRows
import Derived.Deep.QuietTactic
import Derived.Maps.AppendAt
import Derived.RegionTactic
import Derived.OwnWalk
import Derived.ChangeSame
import Derived.Outline
import Derived.BigQuiet
import Derived.WalkMore
import Derived.ScopeJumps
import Derived.WalkLawsBesides
import Derived.WalkSpells
import Derived.Laws.BitsLemmas
import Derived.Laws.BitsAllLaws
import Derived.WideKeyArgs
import Derived.Deep.DeepHandedRow
import Derived.Deep.DeepWitnessRowRef
import Derived.Lib.LaidTab
import Derived.Lib.AppendIntMem
import Derived.LaidMore
import Derived.MakeChecks
import Derived.Lib.Itoa
import Derived.Lib.ItoaMem
import Derived.Deep.Quiet
import Derived.StillTailTactics
import Derived.Deep.RegionLaw
import Derived.Sort.LotA
import Derived.BigRegion
import Derived.Lib.PathFns
import Derived.Lib.IndexBytes
import Derived.RangeFuncWrites
import Derived.RangeFuncNested
import Derived.RangeFuncBound
import Derived.RangeFuncCalls
import Derived.RangeFuncLeaves
import Derived.RangeFuncBox
import Derived.Shelf.Abstract
import Derived.Shelf.RegionOpen
import Derived.OwnWalkIn
import Derived.TacticsInMore
import Derived.LoopNIn
import Derived.LoopIn
import Derived.Lib.SmallJoins
import Derived.Lib.ParseIntBCases
import Derived.Lib.IndexMore
import Derived.Shelf.Vars
import Derived.Lib.AtoiAllCases
import Derived.SliceStrings
import Derived.BigRegionIn
import Derived.Deep.Slices
import Derived.Deep.RegionHeld3
import Derived.Orders
import Derived.RangeFuncOwn
import Derived.Sort.WalkA6
import Derived.Sort.WalkB3
import Derived.Sort.WalkC4
import Derived.Sort.WalkA14
import Derived.Sort.Walk11
import Derived.Sort.Walk7
import Derived.Sort.Walk13
import Derived.Sort.Row
import Derived.Lib.Walk
import Derived.Lib.Strings
import Derived.BigGuard
import Derived.BigCall
import Derived.CellFam
import Derived.Deep.LoopGhost
import Derived.Sort.LotC
import Derived.Deep.RegionWith
import Derived.RowKit
import Derived.Sort.LotD3
import Derived.Sort.LotD4
import Derived.Sort.Grow
import Derived.Sort.AtCall
import Derived.Sort.LotD5
import Derived.Laws.Bits64
import Derived.Laws.Bits64b
import Derived.Sort.EncStr
import Derived.Sort.LotD1
import Derived.Sort.LotB
import Derived.Deep.Cut
import Derived.Sort.Walk13a
import Derived.Sort.AssemblyPlain
import Derived.Shelf.Spec.SlicesInsertGrow
import Derived.Deep.MidRow
import Derived.Lib.RowBridge
import Derived.OrdersIn
import Derived.Laws.CopyOwn
import Derived.Lib.AppendZerosOnto
import Derived.Deep.DeepCutAuto
import Derived.Lib.Bytealg
import Derived.Shelf.Strings.SplitShaped
import Derived.Shelf.Strings.Prefix
import Derived.Shelf.Small.Strs
set_option linter.unusedSimpArgs false
set_option linter.unusedVariables false
namespace Go.Proofs.YtcinjckajnnhmaaGreat
open Go.RowKit
set_option maxHeartbeats 400000 in
theorem Covers_any (a : Nat) (n : Int) (b : Nat) (m : Int) (ha : a < 4294967296) (hb : b < 4294967296) (h1 : -9223372036854775808 ≤ n) (h2 : n ≤ 9223372036854775807) (h3 : -9223372036854775808 ≤ m) (h4 : m ≤ 9223372036854775807) (w : World) :
    Calls Tryz.prog 185 #[pfx a n, pfx b m] w (GoodP (covB a n b m) w) := by
  have hc := covers_any a n b m ha hb h1 h2 h3 h4
  unfold pfx at hc ⊢
  have HC := hide hc
  clear hc
  obtain ⟨k0, k1, k2, k3⟩ := boxes w (.int .u32 (a : Int)) (.int .i64 n) (.int .u32 (b : Int)) (.int .i64 m) 24 24
  go_enter Tryz.func185, Tryz.ntmps185
  go_wp2_with fail
  refine (HC.out _).mono ?_
  rintro e w1 ⟨rfl, hb1⟩
  obtain ⟨x1, rfl⟩ := far_of_below hb1
  go_wp2
  go_ret
  exact ⟨rfl, below_boxes _ _ _ _⟩
theorem pfx_eq (a b : Nat) (n m : Int) : ((a : Int) == (b : Int) && n == m) = decide (a = b ∧ n = m) := by
  rw [Bool.eq_iff_iff]; simp; omega
set_option maxHeartbeats 400000 in
theorem Within_any (a : Nat) (n : Int) (b : Nat) (m : Int) (ha : a < 4294967296) (hb : b < 4294967296) (h1 : -9223372036854775808 ≤ n) (h2 : n ≤ 9223372036854775807) (h3 : -9223372036854775808 ≤ m) (h4 : m ≤ 9223372036854775807) (w : World) :
    Calls Tryz.prog 207 #[pfx a n, pfx b m] w (GoodP (covB b m a n && !decide (a = b ∧ n = m)) w) := by
  have hc := covers_any b m a n hb ha h3 h4 h1 h2
  unfold pfx at hc ⊢
  obtain ⟨g, hg⟩ : ∃ g, covB b m a n = g := ⟨_, rfl⟩
  rw [hg] at hc ⊢
  have HC := hide hc
  clear hc hg
  obtain ⟨k0, k1, k2, k3⟩ := boxes w (.int .u32 (a : Int)) (.int .i64 n) (.int .u32 (b : Int)) (.int .i64 m) 24 24
  cases g
  · go_enter Tryz.func207, Tryz.ntmps207
    go_wp2_with fail
    refine (HC.out _).mono ?_
    rintro e w1 ⟨rfl, hb1⟩
    obtain ⟨x1, rfl⟩ := far_of_below hb1
    go_wp2
    go_ret
    exact ⟨rfl, below_boxes _ _ _ _⟩
  · have hne := hide (show (true && !decide (a = b ∧ n = m)) = !((a : Int) == (b : Int) && n == m) by rw [pfx_eq]; rfl)
    rw [hne.out]
    go_enter Tryz.func207, Tryz.ntmps207
    go_wp2_with fail
    refine (HC.out _).mono ?_
    rintro e w1 ⟨rfl, hb1⟩
    obtain ⟨x1, rfl⟩ := far_of_below hb1
    go_wp2
    all_goals
      go_ret
      refine ⟨?_, below_boxes _ _ _ _⟩
      clear k0 k1 k2 k3 HC hne hb1
      refine ret_bool ?_
      simp_all
theorem isNaNU_any (a : Nat) (w : World) : Calls Tryz.prog 248 #[.int .u32 a] w fun e w' => e = .returned (.bool false) ∧ w' = w := by
  go_enter Tryz.func248, Tryz.ntmps248
  go_wp2
  go_ret
  exact ⟨by simp, rfl⟩
def cmpN (a b : Nat) : Int := if a < b then -1 else if b < a then 1 else 0
set_option maxHeartbeats 400000 in
theorem compareU_any (a b : Nat) (w : World) : Calls Tryz.prog 198 #[.int .u32 a, .int .u32 b] w fun e w' => e = .returned (.int .i64 (cmpN a b)) ∧ w' = w := by
  rcases Nat.lt_trichotomy a b with h | h | h
  · have hf := hide (show cmpN a b = -1 by unfold cmpN; rw [if_pos h])
    go_enter Tryz.func198, Tryz.ntmps198
    go_wp2_with fail
    refine (isNaNU_any a _).mono ?_
    rintro e w1 ⟨rfl, rfl⟩
    go_wp2_with fail
    refine (isNaNU_any b _).mono ?_
    rintro e w1 ⟨rfl, rfl⟩
    go_wp2
    go_ret
    exact ⟨by rw [hf.out]; rfl, rfl⟩
  · have hf := hide (show cmpN a b = 0 by unfold cmpN; rw [if_neg (by omega), if_neg (by omega)])
    subst h
    go_enter Tryz.func198, Tryz.ntmps198
    go_wp2_with fail
    refine (isNaNU_any a _).mono ?_
    rintro e w1 ⟨rfl, rfl⟩
    go_wp2_with fail
    refine (isNaNU_any a _).mono ?_
    rintro e w1 ⟨rfl, rfl⟩
    go_wp2
    go_ret
    exact ⟨by rw [hf.out]; rfl, rfl⟩
  · have hf := hide (show cmpN a b = 1 by unfold cmpN; rw [if_neg (by omega), if_pos h])
    have hnn : ¬ a < b := by omega
    go_enter Tryz.func198, Tryz.ntmps198
    go_wp2_with fail
    refine (isNaNU_any a _).mono ?_
    rintro e w1 ⟨rfl, rfl⟩
    go_wp2_with fail
    refine (isNaNU_any b _).mono ?_
    rintro e w1 ⟨rfl, rfl⟩
    go_wp2
    go_ret
    exact ⟨by rw [hf.out]; rfl, rfl⟩
set_option maxHeartbeats 400000 in
theorem or_any (g : Nat) (x y : Int) (w : World) (c0 : w.cell? ⟨g, 0, none⟩ = some (.int .i64 x)) (c1 : w.cell? ⟨g, 1, none⟩ = some (.int .i64 y)) :
    Calls Tryz.prog 197 #[.slice (some ⟨g, 0, none⟩) 2 2] w fun e w' => e = .returned (.int .i64 (if x = 0 then y else x)) ∧ w' = w := by
  go_enter Tryz.func197, Tryz.ntmps197
  go_wp2
  go_loop [8] (fun i => ∃ k : Nat, k ≤ 2 ∧ i = .int .i64 k ∧ (0 < k → x = 0) ∧ (1 < k → y = 0)) (fun i => 2 - (intOf i).toNat)
  case atStart => exact ⟨0, by omega, rfl, by omega, by omega⟩
  case round =>
    obtain ⟨k, hk, rfl, hx, hy⟩ := hrel
    rcases (show k = 0 ∨ k = 1 ∨ k = 2 by omega) with h | h | h
    · subst h
      by_cases h0 : x = 0
      · subst h0
        go_wp2
        go_round
        case rel => exact ⟨1, by omega, by go_num, by simp, by omega⟩
        case measure => simp [intOf]
      · go_wp2
        go_ret
        exact ⟨rfl, rfl⟩
    · subst h
      have h0 := hx (by omega)
      subst h0
      by_cases h1 : y = 0
      · subst h1
        go_wp2
        go_round
        case rel => exact ⟨2, by omega, by go_num, by simp, by simp⟩
        case measure => simp [intOf]
      · go_wp2
        go_ret
        exact ⟨rfl, rfl⟩
    · subst h
      have h0 := hx (by omega)
      have h1 := hy (by omega)
      subst h0 h1
      go_wp2
      go_ret
      exact ⟨rfl, rfl⟩
def cmpP (a : Nat) (n : Int) (b : Nat) (m : Int) : Int := if a < b ∨ (a = b ∧ n < m) then -1 else if a = b ∧ n = m then 0 else 1
theorem wpList_gen {P : Program} {ops : Array Oper} {Q : Exit → Act → World → Prop} {l : List Oper} {a : Act} {w : World} (I : World → Prop) (h0 : I w) (h : ∀ w3, I w3 → wpList P ops Q l a w3) : wpList P ops Q l a w := h w h0
theorem or_cmp (a : Nat) (n : Int) (b : Nat) (m : Int) : (if cmpN a b = 0 then Lib.compareInt n m else cmpN a b) = cmpP a n b m := by
  unfold cmpN cmpP Lib.compareInt
  split <;> split <;> (try split) <;> (try split) <;> omega
end Go.Proofs.YtcinjckajnnhmaaGreat
set_option linter.unusedSimpArgs false
set_option linter.unusedVariables false
namespace Go.Proofs.YtcinjckajnnhmaaGreat
open Go.RowKit
theorem code_gen {P : Program} {c : Code} {Q : Exit → Act → World → Prop} {a : Act} {w : World} (I : World → Prop) (h0 : I w) (h : ∀ w3, I w3 → c.wp P Q a w3) : c.wp P Q a w := h w h0
end Go.Proofs.YtcinjckajnnhmaaGreat
set_option linter.unusedSimpArgs false
set_option linter.unusedVariables false
namespace Go.Proofs.YtcinjckajnnhmaaGreat
open Go.RowKit
/-- How many bits two addresses have in common. -/
def comN (a b : Nat) : Nat := 32 - Lib.bitLen (a ^^^ b)
theorem xor_div (a b s : Nat) : (a ^^^ b) / 2 ^ s = (a / 2 ^ s) ^^^ (b / 2 ^ s) := by
  rw [← Nat.shiftRight_eq_div_pow, ← Nat.shiftRight_eq_div_pow, ← Nat.shiftRight_eq_div_pow, Nat.shiftRight_xor_distrib]
theorem xor_zero {a b : Nat} (h : a ^^^ b = 0) : a = b := by
  have : a ^^^ b ^^^ b = b := by rw [h]; simp
  rwa [Nat.xor_assoc, Nat.xor_self, Nat.xor_zero] at this
theorem xor_lt32 (a b : Nat) (ha : a < 4294967296) (hb : b < 4294967296) : a ^^^ b < 4294967296 := Nat.xor_lt_two_pow (n := 32) ha hb
theorem div_same {a b s : Nat} (h : a ^^^ b < 2 ^ s) : a / 2 ^ s = b / 2 ^ s := by
  apply xor_zero
  rw [← xor_div]
  exact Nat.div_eq_of_lt h
theorem lt_of_div {a b s : Nat} (h : a / 2 ^ s = b / 2 ^ s) : a ^^^ b < 2 ^ s := by
  have e := xor_div a b s
  rw [h, Nat.xor_self] at e
  exact (Nat.div_eq_zero_iff_lt (Nat.two_pow_pos s)).1 e
theorem bitLen_bounds (x : Nat) (hx : x < 4294967296) : Lib.bitLen x ≤ 32 ∧ x < 2 ^ Lib.bitLen x ∧ (x ≠ 0 → 2 ^ (Lib.bitLen x - 1) ≤ x) := by
  have hle := Lib.bitLen_le x 32 (by omega) hx
  refine ⟨hle, ?_⟩
  by_cases h0 : x = 0
  · subst h0; refine ⟨Nat.two_pow_pos _, fun h => absurd rfl h⟩
  · have := Lib.bitLenAux_bounds 64 x (by omega) h0
    exact ⟨this.2.2, fun _ => this.2.1⟩
theorem com_cut (a b L : Nat) (ha : a < 4294967296) (hb : b < 4294967296) (hL : L ≤ comN a b) : cutN a L = cutN b L := by
  have hx := bitLen_bounds (a ^^^ b) (xor_lt32 a b ha hb)
  unfold comN at hL
  rw [cutN_eq_iff]
  apply div_same
  exact Nat.lt_of_lt_of_le hx.2.1 (Nat.pow_le_pow_right (by decide) (by omega))
theorem com_next (a b : Nat) (ha : a < 4294967296) (hb : b < 4294967296) (hL : comN a b < 32) : bitN a (comN a b) ≠ bitN b (comN a b) := by
  have hx := bitLen_bounds (a ^^^ b) (xor_lt32 a b ha hb)
  have h1 := com_cut a b (comN a b) ha hb (Nat.le_refl _)
  rw [cutN_eq_iff] at h1
  intro h2
  unfold bitN at h2
  obtain ⟨z, hz⟩ : ∃ z, comN a b = z := ⟨_, rfl⟩
  rw [hz] at h1 h2 hL
  have e : (2 : Nat) ^ (32 - z) = 2 ^ (31 - z) * 2 := by rw [← Nat.pow_succ]; congr 1; omega
  rw [e, ← Nat.div_div_eq_div_mul, ← Nat.div_div_eq_div_mul] at h1
  have h3 : a / 2 ^ (31 - z) = b / 2 ^ (31 - z) := by omega
  have h4 := lt_of_div h3
  have hne : a ^^^ b ≠ 0 := by
    intro h0
    unfold comN at hz
    rw [h0] at hz
    have : Lib.bitLen 0 = 0 := by decide
    omega
  have h5 := hx.2.2 hne
  unfold comN at hz
  rw [show Lib.bitLen (a ^^^ b) - 1 = 31 - z by omega] at h5
  omega
theorem lz_any (a b : Nat) (ha : a < 4294967296) (hb : b < 4294967296) (w : World) : Calls Tryz.prog 235 #[.int .u32 (bits .xor .u32 (a : Int) (b : Int))] w fun e w' => e = .returned (.int .i64 ((comN a b : Nat) : Int)) ∧ w' = w := by
  rw [u32_xor_nat a b ha hb]
  have hx := xor_lt32 a b ha hb
  have hl := (bitLen_bounds _ hx).1
  refine (Tryz.bits_LeadingZeros32 ((a ^^^ b : Nat) : Int) w (by omega) (by omega)).mono ?_
  rintro e w' ⟨rfl, rfl⟩
  refine ⟨?_, rfl⟩
  unfold comN
  rw [Int.toNat_natCast]
  congr 2
  omega
theorem min3 (z k j : Nat) : (if (j : Int) < (if k < z then (k : Int) else (z : Int)) then (j : Int) else if k < z then (k : Int) else (z : Int)) = ((min (min z k) j : Nat) : Int) := by
  split <;> split <;> omega
set_option maxRecDepth 100000 in
set_option maxHeartbeats 1000000 in
theorem common_good (a k : Nat) (b j : Nat) (ha : a < 4294967296) (hb : b < 4294967296) (hk : k ≤ 32) (hj : j ≤ 32) (hg : goodB a (k : Int) = true) (hh : goodB b (j : Int) = true) (w : World) :
    Calls Tryz.prog 188 #[pfx a k, pfx b j] w fun e w' => e = .returned (pfx (cutN a (min (min (comN a b) k) j)) ((min (min (comN a b) k) j : Nat) : Int)) ∧ Below w.heap.size w w' := by
  have hg1 := good_any a k ha (by omega) (by omega)
  have hh1 := good_any b j hb (by omega) (by omega)
  rw [hg] at hg1
  rw [hh] at hh1
  unfold pfx at hg1 hh1 ⊢
  have HG := hide hg1
  have HH := hide hh1
  have HL := hide (lz_any a b ha hb)
  obtain ⟨z, hz⟩ : ∃ z, comN a b = z := ⟨_, rfl⟩
  have hz32 : z ≤ 32 := by rw [← hz]; unfold comN; omega
  rw [hz] at HL ⊢
  have HA := hide ha
  clear hg hh hg1 hh1 hz ha hb
  go_enter Tryz.func188, Tryz.ntmps188
  go_wp2_with fail
  refine (HG.out _).mono ?_
  rintro e w1 ⟨rfl, hb1⟩
  have B0 : Blk w1 w.heap.size 24 #[.int .u32 (a : Int), .int .i64 (k : Int)] := (((Blk.new w _ _).alloc _).alloc _).below hb1 (by simp; omega)
  have B1 : Blk w1 (w.heap.size + 1) 24 #[.int .u32 (b : Int), .int .i64 (j : Int)] := ((by simpa using Blk.new (w.alloc (.cells #[.int .u32 (a : Int), .int .i64 (k : Int)] 24)) 24 #[.int .u32 (b : Int), .int .i64 (j : Int)] : Blk _ (w.heap.size + 1) _ _).alloc _).below hb1 (by simp)
  have B2 : Blk w1 (w.heap.size + 2) 24 #[.int .u32 0, .int .i64 0] := (by simpa using Blk.new ((w.alloc (.cells #[.int .u32 (a : Int), .int .i64 (k : Int)] 24)).alloc (.cells #[.int .u32 (b : Int), .int .i64 (j : Int)] 24)) 24 #[.int .u32 0, .int .i64 0] : Blk _ (w.heap.size + 2) _ _).below hb1 (by simp)
  have hbw : Below w.heap.size w w1 := ((((Below.refl _ w).alloc (Nat.le_refl _) _).alloc (by simp) _).alloc (by simp; omega) _).trans (hb1.mono (by simp; omega))
  have s0 := B1.cell 0
  have s1 := B1.cell 1
  simp at s0 s1
  clear hb1
  go_wp2_with fail
  refine (HH.out _).mono ?_
  rintro e w2 ⟨rfl, hb2⟩
  have C0 := B0.below hb2 B0.lt
  have C1 := B1.below hb2 B1.lt
  have C2 := B2.below hb2 B2.lt
  have hbw2 := hbw.trans (hb2.mono hbw.size)
  clear s0 s1 B0 B1 B2 hbw hb2
  have r0 := C0.cell 0
  have r1 := C0.cell 1
  have s0 := C1.cell 0
  have s1 := C1.cell 1
  simp at r0 r1 s0 s1
  go_wp2_with fail
  refine wp_region_still_lit (by kernel_rfl) (by kernel_rfl) ?_
  repeat (first | still_step | still_call (HL.out _))
  rw [min3]
  have hL32 : min (min z k) j ≤ 32 := by omega
  obtain ⟨L, hLe⟩ : ∃ L, min (min z k) j = L := ⟨_, rfl⟩
  rw [hLe] at hL32 ⊢
  have HE := hide hLe
  have HM := hide (fun w => (mask_in L hL32 w).mono (R' := fun e w' => e = .returned (.int .u32 ((maskN L : Nat) : Int)) ∧ w' = w) fun _ _ h => ⟨h.1, h.2.symm⟩)
  clear hLe
  refine wpStill_nil ?_
  change Exit.then _ _ _ _ (World.drew w2)
  go_wp2_with fail
  refine code_gen (fun w3 => Blk w3 w.heap.size 24 #[.int .u32 (a : Int), .int .i64 (k : Int)] ∧ Blk w3 (w.heap.size + 2) 24 #[.int .u32 0, .int .i64 0] ∧ Below w.heap.size w w3) ⟨C0.drew, C2.drew, hbw2.drew⟩ ?_
  clear r0 r1 s0 s1 C0 C1 C2 hbw2
  rintro w3 ⟨C0, C2, hbw2⟩
  have r0 := C0.cell 0
  have r1 := C0.cell 1
  simp at r0 r1
  refine wp_region_still_tail 7 (by kernel_rfl) (by kernel_rfl) ?_
  simp only [List.take_succ_cons, List.take_zero, List.drop_succ_cons, List.drop_zero]
  repeat (first | still_step | still_call (HM.out _))
  refine wpStill_nil ?_
  refine wpList_gen (fun w4 => Blk w4 (w.heap.size + 2) 24 #[.int .u32 0, .int .i64 0] ∧ Below w.heap.size w w4) ⟨C2.drew, hbw2.drew⟩ ?_
  clear r0 r1 C0 C2 hbw2
  rintro w4 ⟨C2, hbw⟩
  have t0 := C2.cell 0
  have t1 := C2.cell 1
  have q0 := C2.frozen 0
  have q1 := C2.frozen 1
  simp at t0 t1
  have hand : Hid (bits .and .u32 (a : Int) ((maskN L : Nat) : Int) = ((cutN a L : Nat) : Int)) := hide (by rw [u32_and_nat _ _ HA.out (maskN_lt L), and_mask a L HA.out hL32])
  rw [hand.out]
  go_wp2
  refine bodyPost_ret (v := .agg #[.int .u32 ((cutN a L : Nat) : Int), .int .i64 (L : Int)]) (by simp [results, Tryz.results188, go_sem, t0, t1, q0, q1]) rfl ⟨by rw [HE.out], ?_⟩
  exact (hbw.setCell (by simp; omega) _).setCell (by simp; omega) _
end Go.Proofs.YtcinjckajnnhmaaGreat
set_option linter.unusedSimpArgs false
set_option linter.unusedVariables false
namespace Go.Proofs.YtcinjckajnnhmaaGreat
def PG (a n : Nat) : Prop := a < 4294967296 ∧ n ≤ 32 ∧ cutN a n = a
/-- One covers the other one. -/
def CvN (a n b m : Nat) : Prop := n ≤ m ∧ cutN b n = a
instance cvN_dec (a n b m : Nat) : Decidable (CvN a n b m) := by unfold CvN; infer_instance
theorem cvN_refl {a n : Nat} (h : PG a n) : CvN a n a n := ⟨Nat.le_refl _, h.2.2⟩
theorem cvN_same {a n b m : Nat} (h : CvN a n b m) (hb : PG b m) (e : n = m) : a = b := by subst e; rw [← h.2, hb.2.2]
theorem div_more (x : Nat) {i m : Nat} (hi : i < m) (hm : m ≤ 32) : x / 2 ^ (31 - i) = x / 2 ^ (32 - m) / 2 ^ (m - 1 - i) := by
  rw [Nat.div_div_eq_div_mul, ← Nat.pow_add]
  congr 2
  omega
theorem bit_same {x y i m : Nat} (h : cutN x m = cutN y m) (hi : i < m) (hm : m ≤ 32) : bitN x i = bitN y i := by
  unfold bitN
  rw [div_more x hi hm, div_more y hi hm, (cutN_eq_iff x y m).1 h]
theorem cut_less {x y i m : Nat} (h : cutN x m = cutN y m) (hi : i ≤ m) (hm : m ≤ 32) : cutN x i = cutN y i := by
  rw [← cutN_cutN x hi hm, ← cutN_cutN y hi hm, h]
theorem bitN_01 (a i : Nat) : bitN a i = 0 ∨ bitN a i = 1 := by have := bitN_lt a i; omega
theorem lt_of_bit {x y m : Nat} (h : cutN x m = cutN y m) (hm : m < 32) (hx : bitN x m = 0) (hy : bitN y m = 1) : x < y := by
  unfold bitN at hx hy
  have e := (cutN_eq_iff x y m).1 h
  have e1 : x / 2 ^ (32 - m) = x / 2 ^ (31 - m) / 2 := by rw [Nat.div_div_eq_div_mul, ← Nat.pow_succ]; congr 2; omega
  have e2 : y / 2 ^ (32 - m) = y / 2 ^ (31 - m) / 2 := by rw [Nat.div_div_eq_div_mul, ← Nat.pow_succ]; congr 2; omega
  rw [e1, e2] at e
  have : x / 2 ^ (31 - m) < y / 2 ^ (31 - m) := by omega
  exact Nat.lt_of_not_le fun hle => by have := Nat.div_le_div_right (c := 2 ^ (31 - m)) hle; omega
def comL (a n b m : Nat) : Nat := min (min (comN a b) n) m
theorem com_apart {a n b m : Nat} (ha : PG a n) (hb : PG b m) (h1 : ¬ CvN a n b m) (h2 : ¬ CvN b m a n) :
    comL a n b m < n ∧ comL a n b m < m ∧ comL a n b m < 32 ∧ cutN a (comL a n b m) = cutN b (comL a n b m) ∧ bitN a (comL a n b m) ≠ bitN b (comL a n b m) := by
  have hk := fun L hL => com_cut a b L ha.1 hb.1 hL
  have hlt : comN a b < n ∧ comN a b < m := by
    refine Classical.byContradiction fun hn => ?_
    rcases Nat.le_total n m with hle | hle
    · refine h1 ⟨hle, ?_⟩
      rw [← hk n (by omega)]; exact ha.2.2
    · refine h2 ⟨hle, ?_⟩
      rw [hk m (by omega)]; exact hb.2.2
  have e : comL a n b m = comN a b := by unfold comL; omega
  have h32 : comN a b < 32 := by have := ha.2.1; omega
  rw [e]
  exact ⟨hlt.1, hlt.2, h32, hk _ (Nat.le_refl _), com_next a b ha.1 hb.1 h32⟩
theorem pg_cut {a n L : Nat} (h : PG a n) (hL : L ≤ n) : PG (cutN a L) L := by
  have h3 := h.2.1
  exact ⟨Nat.lt_of_le_of_lt (cutN_le _ _) h.1, by omega, cutN_cutN a (Nat.le_refl _) (by omega)⟩
inductive Tr (α : Type) where
  | nil : Tr α
  | nd (b a n : Nat) (v : Option α) (l r : Tr α) : Tr α
section
variable {α : Type}
def trIn (c k i : Nat) : Tr α → Prop
  | .nil => True
  | .nd _ a n _ _ _ => k < n ∧ cutN a k = c ∧ bitN a k = i
def trWf : Tr α → Prop
  | .nil => True
  | .nd _ a n _ l r => PG a n ∧ trIn a n 0 l ∧ trIn a n 1 r ∧ trWf l ∧ trWf r
def trCnt : Tr α → Nat
  | .nil => 0
  | .nd _ _ _ v l r => trCnt l + trCnt r + (if v.isSome then 1 else 0)
def trB : Tr α → List Nat
  | .nil => []
  | .nd b _ _ _ l r => b :: (trB l ++ trB r)
def trGet (c k : Nat) : Tr α → Option α
  | .nil => none
  | .nd _ a n v l r => if CvN a n c k then (if a = c ∧ n = k then v else if bitN c n = 0 then trGet c k l else trGet c k r) else none
def trL : Tr α → List (Nat × Nat × α)
  | .nil => []
  | .nd _ a n v l r => (match v with | some x => [(a, n, x)] | none => []) ++ (trL l ++ trL r)
theorem trL_len : ∀ t : Tr α, (trL t).length = trCnt t
  | .nil => rfl
  | .nd _ a n v l r => by
      have h1 := trL_len l
      have h2 := trL_len r
      cases v <;> simp [trL, trCnt, h1, h2] <;> omega
theorem trGet_in {c k : Nat} : ∀ (t : Tr α) {a n i : Nat} {x : α}, trWf t → trIn a n i t → trGet c k t = some x → n < k ∧ cutN c n = a ∧ bitN c n = i ∧ PG c k
  | .nil, _, _, _, _, _, _, h => by simp [trGet] at h
  | .nd _ p m v l r, a, n, i, x, hw, hi, h => by
      obtain ⟨hg, hl, hr, hwl, hwr⟩ := hw
      obtain ⟨h1, h2, h3⟩ := hi
      unfold trGet at h
      split at h
      · rename_i hc
        have h4 : n < k := Nat.lt_of_lt_of_le h1 hc.1
        have h5 : cutN c m = p := hc.2
        have hm := hg.2.1
        have h6 : cutN c m = cutN p m := by rw [h5, hg.2.2]
        refine ⟨h4, by rw [cut_less h6 (by omega) hm, h2], by rw [bit_same h6 h1 hm, h3], ?_⟩
        split at h
        · rename_i he
          obtain ⟨rfl, rfl⟩ := he
          exact hg
        · split at h
          · exact (trGet_in l hwl hl h).2.2.2
          · exact (trGet_in r hwr hr h).2.2.2
      · cases h
theorem trGet_pg {c k : Nat} {x : α} (t : Tr α) (hw : trWf t) (h : trGet c k t = some x) : PG c k := by
  cases t with
  | nil => simp [trGet] at h
  | nd b p m v l r =>
    obtain ⟨hg, hl, hr, hwl, hwr⟩ := hw
    unfold trGet at h
    split at h
    · split at h
      · rename_i he
        obtain ⟨rfl, rfl⟩ := he
        exact hg
      · split at h
        · exact (trGet_in l hwl hl h).2.2.2
        · exact (trGet_in r hwr hr h).2.2.2
    · cases h
theorem trL_mem {c k : Nat} {x : α} : ∀ (t : Tr α), trWf t → ((c, k, x) ∈ trL t ↔ trGet c k t = some x)
  | .nil, _ => by simp [trL, trGet]
  | .nd _ p m v l r, hw => by
      obtain ⟨hg, hl, hr, hwl, hwr⟩ := hw
      have il := trL_mem l hwl (c := c) (k := k) (x := x)
      have ir := trL_mem r hwr (c := c) (k := k) (x := x)
      simp only [trL, List.mem_append, il, ir]
      constructor
      · rintro (h | h | h)
        · cases v with
          | none => simp at h
          | some y =>
            simp only [List.mem_singleton, Prod.mk.injEq] at h
            obtain ⟨rfl, rfl, rfl⟩ := h
            simp [trGet, cvN_refl hg]
        · obtain ⟨h1, h2, h3, h4⟩ := trGet_in l hwl hl h
          have hc : CvN p m c k := ⟨by omega, h2⟩
          simp only [trGet, if_pos hc, if_neg (show ¬ (p = c ∧ m = k) by omega), if_pos h3, h]
        · obtain ⟨h1, h2, h3, h4⟩ := trGet_in r hwr hr h
          have hc : CvN p m c k := ⟨by omega, h2⟩
          simp only [trGet, if_pos hc, if_neg (show ¬ (p = c ∧ m = k) by omega), if_neg (show ¬ bitN c m = 0 by omega), h]
      · intro h
        unfold trGet at h
        split at h
        · split at h
          · rename_i he
            obtain ⟨rfl, rfl⟩ := he
            subst h
            simp
          · split at h
            · exact .inr (.inl h)
            · exact .inr (.inr h)
        · cases h
/-- The order of prefixes. -/
def PLt (x y : Nat × Nat × α) : Prop := x.1 < y.1 ∨ x.1 = y.1 ∧ x.2.1 < y.2.1
theorem trL_sorted : ∀ t : Tr α, trWf t → (trL t).Pairwise PLt
  | .nil, _ => List.Pairwise.nil
  | .nd _ p m v l r, hw => by
      obtain ⟨hg, hl, hr, hwl, hwr⟩ := hw
      have inl : ∀ y ∈ trL l, m < y.2.1 ∧ cutN y.1 m = p ∧ bitN y.1 m = 0 ∧ PG y.1 y.2.1 := fun y hy => trGet_in l hwl hl ((trL_mem l hwl).1 hy)
      have inr : ∀ y ∈ trL r, m < y.2.1 ∧ cutN y.1 m = p ∧ bitN y.1 m = 1 ∧ PG y.1 y.2.1 := fun y hy => trGet_in r hwr hr ((trL_mem r hwr).1 hy)
      have hle : ∀ y : Nat × Nat × α, cutN y.1 m = p → p ≤ y.1 := fun y h => by rw [← h]; exact cutN_le _ _
      have hk : (trL l ++ trL r).Pairwise PLt := by
        refine List.pairwise_append.2 ⟨trL_sorted l hwl, trL_sorted r hwr, fun x hx y hy => ?_⟩
        obtain ⟨h1, h2, h3, h4⟩ := inl x hx
        obtain ⟨k1, k2, k3, k4⟩ := inr y hy
        exact .inl (lt_of_bit (h2.trans k2.symm) (by have := h4.2.1; omega) h3 k3)
      cases v with
      | none => simpa [trL] using hk
      | some x =>
        show ((p, m, x) :: (trL l ++ trL r)).Pairwise PLt
        refine List.pairwise_cons.2 ⟨fun y hy => ?_, hk⟩
        have : m < y.2.1 ∧ p ≤ y.1 := by
          rcases List.mem_append.1 hy with h | h
          · exact ⟨(inl y h).1, hle y (inl y h).2.1⟩
          · exact ⟨(inr y h).1, hle y (inr y h).2.1⟩
        unfold PLt
        simp only
        omega
theorem plt_irr (x y : Nat × Nat × α) (h : PLt x y) (h' : PLt y x) : False := by unfold PLt at h h'; omega
/-- Lists in order that have the same are one. -/
theorem plt_ext : ∀ (l r : List (Nat × Nat × α)), l.Pairwise PLt → r.Pairwise PLt → (∀ z, z ∈ l ↔ z ∈ r) → l = r
  | [], [], _, _, _ => rfl
  | [], y :: r, _, _, h => absurd ((h y).2 List.mem_cons_self) (by simp)
  | x :: l, [], _, _, h => absurd ((h x).1 List.mem_cons_self) (by simp)
  | x :: l, y :: r, hl, hr, h => by
      have hl2 := List.pairwise_cons.1 hl
      have hr2 := List.pairwise_cons.1 hr
      have e : x = y := by
        rcases List.mem_cons.1 ((h x).1 List.mem_cons_self) with h1 | h1
        · exact h1
        · rcases List.mem_cons.1 ((h y).2 List.mem_cons_self) with h2 | h2
          · exact h2.symm
          · exact absurd (hr2.1 x h1) (fun h3 => plt_irr _ _ h3 (hl2.1 y h2))
      subst e
      rw [plt_ext l r hl2.2 hr2.2 fun z => ?_]
      constructor
      · intro hz
        rcases List.mem_cons.1 ((h z).1 (List.mem_cons_of_mem _ hz)) with h1 | h1
        · subst h1; exact absurd (hl2.1 z hz) (fun h3 => plt_irr _ _ h3 h3)
        · exact h1
      · intro hz
        rcases List.mem_cons.1 ((h z).2 (List.mem_cons_of_mem _ hz)) with h1 | h1
        · subst h1; exact absurd (hr2.1 z hz) (fun h3 => plt_irr _ _ h3 h3)
        · exact h1
/-! ### A prefix is put -/
structure PutR (a n : Nat) (x : α) (t t' : Tr α) : Prop where
  wf : trWf t'
  get : ∀ c k, trGet c k t' = if a = c ∧ n = k then some x else trGet c k t
  inn : ∀ c k i, trIn c k i t → k < n → cutN a k = c → bitN a k = i → trIn c k i t'
  cnt : trCnt t' = trCnt t + (if (trGet a n t).isSome then 0 else 1)
theorem put_nil {a n : Nat} (h : PG a n) (x : α) (b : Nat) : PutR a n x (.nil : Tr α) (.nd b a n (some x) .nil .nil) := by
  refine ⟨⟨h, trivial, trivial, trivial, trivial⟩, fun c k => ?_, fun c k i _ h1 h2 h3 => ⟨h1, h2, h3⟩, by simp [trCnt, trGet]⟩
  simp only [trGet]
  by_cases e : a = c ∧ n = k
  · obtain ⟨rfl, rfl⟩ := e
    simp [cvN_refl h]
  · simp [e]
theorem put_here {b a n : Nat} {v : Option α} {l r : Tr α} (hw : trWf (.nd b a n v l r)) (x : α) : PutR a n x (.nd b a n v l r) (.nd b a n (some x) l r) := by
  have hr := cvN_refl hw.1
  refine ⟨hw, fun c k => ?_, fun c k i h _ _ _ => h, ?_⟩
  · simp only [trGet]
    by_cases e : a = c ∧ n = k
    · obtain ⟨rfl, rfl⟩ := e
      simp [hr]
    · simp only [e, if_false]
  · cases v <;> simp [trCnt, trGet, hr]
theorem put_left {b p m a n : Nat} {v : Option α} {l l' r : Tr α} {x : α} (hw : trWf (.nd b p m v l r)) (ha : PG a n) (hc : CvN p m a n) (hne : ¬ (p = a ∧ m = n)) (hb : bitN a m = 0) (hl : PutR a n x l l') :
    PutR a n x (.nd b p m v l r) (.nd b p m v l' r) := by
  obtain ⟨hg, h1, h2, h3, h4⟩ := hw
  have hlt : m < n := Nat.lt_of_le_of_ne hc.1 fun e => hne ⟨cvN_same hc ha e, e⟩
  refine ⟨⟨hg, hl.inn _ _ _ h1 hlt hc.2 hb, h2, hl.wf, h4⟩, fun c k => ?_, fun c k i h _ _ _ => h, ?_⟩
  · simp only [trGet, hl.get]
    by_cases e : a = c ∧ n = k
    · obtain ⟨rfl, rfl⟩ := e
      simp [hc, hne, hb]
    · simp only [e, if_false]
  · simp only [trCnt, hl.cnt, trGet, if_pos hc, if_neg hne, if_pos hb]
    omega
theorem put_right {b p m a n : Nat} {v : Option α} {l r r' : Tr α} {x : α} (hw : trWf (.nd b p m v l r)) (ha : PG a n) (hc : CvN p m a n) (hne : ¬ (p = a ∧ m = n)) (hb : bitN a m = 1) (hr : PutR a n x r r') :
    PutR a n x (.nd b p m v l r) (.nd b p m v l r') := by
  obtain ⟨hg, h1, h2, h3, h4⟩ := hw
  have hlt : m < n := Nat.lt_of_le_of_ne hc.1 fun e => hne ⟨cvN_same hc ha e, e⟩
  have hb0 : ¬ bitN a m = 0 := by omega
  refine ⟨⟨hg, h1, hr.inn _ _ _ h2 hlt hc.2 hb, h3, hr.wf⟩, fun c k => ?_, fun c k i h _ _ _ => h, ?_⟩
  · simp only [trGet, hr.get]
    by_cases e : a = c ∧ n = k
    · obtain ⟨rfl, rfl⟩ := e
      simp [hc, hne, hb0]
    · simp only [e, if_false]
  · simp only [trCnt, hr.cnt, trGet, if_pos hc, if_neg hne, if_neg hb0]
    omega
/-- A tree whose top a prefix covers strictly has nothing that the prefix does not cover. -/
theorem trGet_under {a n c k : Nat} {t : Tr α} {i : Nat} (hw : trWf t) (hi : trIn a n i t) (h : ¬ (CvN a n c k ∧ n < k ∧ bitN c n = i)) : trGet c k t = none := by
  cases e : trGet c k t with
  | none => rfl
  | some x =>
    obtain ⟨h1, h2, h3, _⟩ := trGet_in t hw hi e
    exact absurd ⟨⟨by omega, h2⟩, h1, h3⟩ h
theorem put_above0 {b0 b p m a n : Nat} {v : Option α} {l r : Tr α} {x : α} (hw : trWf (.nd b p m v l r)) (ha : PG a n) (hc : CvN a n p m) (hne : ¬ (p = a ∧ m = n)) (hb : bitN p n = 0) :
    PutR a n x (.nd b p m v l r) (.nd b0 a n (some x) (.nd b p m v l r) .nil) := by
  have hlt : n < m := Nat.lt_of_le_of_ne hc.1 fun e => hne ⟨(cvN_same hc hw.1 e).symm, e.symm⟩
  have hI : trIn a n 0 (.nd b p m v l r) := ⟨hlt, hc.2, hb⟩
  refine ⟨⟨ha, hI, trivial, hw, trivial⟩, fun c k => ?_, fun c k i h h1 h2 h3 => ⟨h1, h2, h3⟩, ?_⟩
  · by_cases e : a = c ∧ n = k
    · obtain ⟨rfl, rfl⟩ := e
      simp [trGet, cvN_refl ha]
    · rw [if_neg e]
      by_cases h : CvN a n c k ∧ bitN c n = 0
      · simp only [trGet, if_pos h.1, if_neg e, if_pos h.2]
      · rw [trGet_under hw hI (fun h' => h ⟨h'.1, h'.2.2⟩)]
        by_cases h1 : CvN a n c k
        · have h2 : ¬ bitN c n = 0 := fun h2 => h ⟨h1, h2⟩
          simp [trGet, h1, e, h2]
        · simp [trGet, h1]
  · rw [trGet_under hw hI (fun h' => by omega)]
    simp [trCnt]
theorem put_above1 {b0 b p m a n : Nat} {v : Option α} {l r : Tr α} {x : α} (hw : trWf (.nd b p m v l r)) (ha : PG a n) (hc : CvN a n p m) (hne : ¬ (p = a ∧ m = n)) (hb : bitN p n = 1) :
    PutR a n x (.nd b p m v l r) (.nd b0 a n (some x) .nil (.nd b p m v l r)) := by
  have hlt : n < m := Nat.lt_of_le_of_ne hc.1 fun e => hne ⟨(cvN_same hc hw.1 e).symm, e.symm⟩
  have hI : trIn a n 1 (.nd b p m v l r) := ⟨hlt, hc.2, hb⟩
  refine ⟨⟨ha, trivial, hI, trivial, hw⟩, fun c k => ?_, fun c k i h h1 h2 h3 => ⟨h1, h2, h3⟩, ?_⟩
  · by_cases e : a = c ∧ n = k
    · obtain ⟨rfl, rfl⟩ := e
      simp [trGet, cvN_refl ha]
    · rw [if_neg e]
      by_cases h : CvN a n c k ∧ bitN c n = 1
      · have h2 : ¬ bitN c n = 0 := by have := h.2; omega
        simp only [trGet, if_pos h.1, if_neg e, if_neg h2]
      · rw [trGet_under hw hI (fun h' => h ⟨h'.1, h'.2.2⟩)]
        by_cases h1 : CvN a n c k
        · have h2 : bitN c n = 0 := by rcases bitN_01 c n with h3 | h3; exact h3; exact absurd ⟨h1, h3⟩ h
          simp [trGet, h1, e, h2]
        · simp [trGet, h1]
  · rw [trGet_under hw hI (fun h' => by omega)]
    simp [trCnt]
/-- A tree's things lie below its top. -/
theorem trGet_top {b p m c k : Nat} {v : Option α} {l r : Tr α} (h : ¬ CvN p m c k) : trGet c k (.nd b p m v l r) = none := by simp [trGet, h]
theorem put_both0 {b0 b1 b p m a n : Nat} {v : Option α} {l r : Tr α} {x : α} (hw : trWf (.nd b p m v l r)) (ha : PG a n) (h1 : ¬ CvN p m a n) (h2 : ¬ CvN a n p m) (hb : bitN a (comL p m a n) = 0) :
    PutR a n x (.nd b p m v l r) (.nd b1 (cutN p (comL p m a n)) (comL p m a n) none (.nd b0 a n (some x) .nil .nil) (.nd b p m v l r)) := by
  obtain ⟨k1, k2, k3, k4, k5⟩ := com_apart hw.1 ha h1 h2
  generalize comL p m a n = L at *
  have hb1 : bitN p L = 1 := by rcases bitN_01 p L with h | h; omega; exact h
  have hg := pg_cut (L := L) hw.1 (by omega)
  have hI : trIn (cutN p L) L 1 (.nd b p m v l r) := ⟨k1, rfl, hb1⟩
  have hJ : trIn (cutN p L) L 0 (.nd b0 a n (some x) .nil .nil) := ⟨k2, k4.symm, hb⟩
  have hwJ : trWf (.nd b0 a n (some x) .nil .nil) := ⟨ha, trivial, trivial, trivial, trivial⟩
  have hJg := fun c k => (put_nil ha x b0).get c k
  refine ⟨⟨hg, hJ, hI, hwJ, hw⟩, fun c k => ?_, fun c k i h j1 j2 j3 => ?_, ?_⟩
  · have hgt : trGet c k (.nd b1 (cutN p L) L none (.nd b0 a n (some x) .nil .nil) (.nd b p m v l r)) = if CvN (cutN p L) L c k then (if cutN p L = c ∧ L = k then none else if bitN c L = 0 then trGet c k (.nd b0 a n (some x) .nil .nil) else trGet c k (.nd b p m v l r)) else none := rfl
    rw [hgt, hJg]
    by_cases e : a = c ∧ n = k
    · obtain ⟨rfl, rfl⟩ := e
      have hc : CvN (cutN p L) L a n := ⟨by omega, k4.symm⟩
      rw [if_pos hc, if_neg (by omega), if_pos hb, if_pos ⟨rfl, rfl⟩, if_pos ⟨rfl, rfl⟩]
    · simp only [e, if_false]
      by_cases h : CvN (cutN p L) L c k ∧ L < k ∧ bitN c L = 1
      · rw [if_pos h.1, if_neg (by omega), if_neg (by omega)]
      · rw [trGet_under hw hI h]
        by_cases h3 : CvN (cutN p L) L c k
        · rw [if_pos h3]
          by_cases h4 : cutN p L = c ∧ L = k
          · rw [if_pos h4]
          · rw [if_neg h4]
            by_cases h5 : bitN c L = 0
            · rw [if_pos h5]; rfl
            · rw [if_neg h5]
        · rw [if_neg h3]
  · obtain ⟨i1, i2, i3⟩ := h
    have hkL : k < L := by
      refine Nat.lt_of_not_le fun hle => ?_
      rcases Nat.lt_or_ge L k with h | h
      · exact k5 (bit_same (i2.trans j2.symm) h (by have := hw.1.2.1; omega))
      · have : L = k := by omega
        subst this
        exact k5 (i3.trans j3.symm)
    have e : cutN (cutN p L) k = cutN p k := cutN_cutN p (by omega) (by omega)
    refine ⟨hkL, e.trans i2, ?_⟩
    rw [bit_same (x := cutN p L) (y := p) (m := L) (cutN_cutN p (Nat.le_refl _) (by omega)) hkL (by omega), i3]
  · rw [trGet_top h1]
    simp [trCnt]
    omega
theorem put_both1 {b0 b1 b p m a n : Nat} {v : Option α} {l r : Tr α} {x : α} (hw : trWf (.nd b p m v l r)) (ha : PG a n) (h1 : ¬ CvN p m a n) (h2 : ¬ CvN a n p m) (hb : bitN a (comL p m a n) = 1) :
    PutR a n x (.nd b p m v l r) (.nd b1 (cutN p (comL p m a n)) (comL p m a n) none (.nd b p m v l r) (.nd b0 a n (some x) .nil .nil)) := by
  obtain ⟨k1, k2, k3, k4, k5⟩ := com_apart hw.1 ha h1 h2
  generalize comL p m a n = L at *
  have hb1 : bitN p L = 0 := by rcases bitN_01 p L with h | h; exact h; omega
  have hg := pg_cut (L := L) hw.1 (by omega)
  have hI : trIn (cutN p L) L 0 (.nd b p m v l r) := ⟨k1, rfl, hb1⟩
  have hJ : trIn (cutN p L) L 1 (.nd b0 a n (some x) .nil .nil) := ⟨k2, k4.symm, hb⟩
  have hwJ : trWf (.nd b0 a n (some x) .nil .nil) := ⟨ha, trivial, trivial, trivial, trivial⟩
  have hJg := fun c k => (put_nil ha x b0).get c k
  refine ⟨⟨hg, hI, hJ, hw, hwJ⟩, fun c k => ?_, fun c k i h j1 j2 j3 => ?_, ?_⟩
  · have hgt : trGet c k (.nd b1 (cutN p L) L none (.nd b p m v l r) (.nd b0 a n (some x) .nil .nil)) = if CvN (cutN p L) L c k then (if cutN p L = c ∧ L = k then none else if bitN c L = 0 then trGet c k (.nd b p m v l r) else trGet c k (.nd b0 a n (some x) .nil .nil)) else none := rfl
    rw [hgt, hJg]
    by_cases e : a = c ∧ n = k
    · obtain ⟨rfl, rfl⟩ := e
      have hc : CvN (cutN p L) L a n := ⟨by omega, k4.symm⟩
      rw [if_pos hc, if_neg (by omega), if_neg (by omega), if_pos ⟨rfl, rfl⟩, if_pos ⟨rfl, rfl⟩]
    · simp only [e, if_false]
      by_cases h : CvN (cutN p L) L c k ∧ L < k ∧ bitN c L = 0
      · rw [if_pos h.1, if_neg (by omega), if_pos h.2.2]
      · rw [trGet_under hw hI h]
        by_cases h3 : CvN (cutN p L) L c k
        · rw [if_pos h3]
          by_cases h4 : cutN p L = c ∧ L = k
          · rw [if_pos h4]
          · rw [if_neg h4]
            by_cases h5 : bitN c L = 0
            · rw [if_pos h5]
            · rw [if_neg h5]; rfl
        · rw [if_neg h3]
  · obtain ⟨i1, i2, i3⟩ := h
    have hkL : k < L := by
      refine Nat.lt_of_not_le fun hle => ?_
      rcases Nat.lt_or_ge L k with h | h
      · exact k5 (bit_same (i2.trans j2.symm) h (by have := hw.1.2.1; omega))
      · have : L = k := by omega
        subst this
        exact k5 (i3.trans j3.symm)
    have e : cutN (cutN p L) k = cutN p k := cutN_cutN p (by omega) (by omega)
    refine ⟨hkL, e.trans i2, ?_⟩
    rw [bit_same (x := cutN p L) (y := p) (m := L) (cutN_cutN p (Nat.le_refl _) (by omega)) hkL (by omega), i3]
  · rw [trGet_top h1]
    simp [trCnt]
/-! ### A prefix is taken out -/
structure CutR (a n : Nat) (t t' : Tr α) : Prop where
  wf : trWf t'
  get : ∀ c k, trGet c k t' = if a = c ∧ n = k then none else trGet c k t
  inn : ∀ c k i, trIn c k i t → trIn c k i t'
  cnt : (trGet a n t).isSome = true → trCnt t' + 1 = trCnt t
/-- A node that is idle, or not: what stands in its place. -/
def trLean : Tr α → Tr α
  | .nil => .nil
  | .nd b a n (some x) l r => .nd b a n (some x) l r
  | .nd b a n none .nil r => r
  | .nd b a n none l .nil => l
  | .nd b a n none l r => .nd b a n none l r
theorem trIn_down {c k i b p m : Nat} {v : Option α} {l r t : Tr α} {j : Nat} (hw : trWf (.nd b p m v l r)) (h : trIn c k i (.nd b p m v l r)) (ht : trIn p m j t) : trIn c k i t := by
  cases t with
  | nil => trivial
  | nd b2 p2 m2 v2 l2 r2 =>
    obtain ⟨h1, h2, h3⟩ := h
    obtain ⟨k1, k2, k3⟩ := ht
    have hm := hw.1.2.1
    have e : cutN p2 m = cutN p m := by rw [k2, hw.1.2.2]
    exact ⟨by omega, by rw [cut_less e (by omega) hm, h2], by rw [bit_same e h1 hm, h3]⟩
theorem lean_right {c k b p m : Nat} {r : Tr α} (hw : trWf (.nd b p m none .nil r)) : trGet c k r = trGet c k (.nd b p m none .nil r) := by
  obtain ⟨hg, hl, hr, hwl, hwr⟩ := hw
  cases e : trGet c k r with
  | some x =>
    obtain ⟨h1, h2, h3, h4⟩ := trGet_in r hwr hr e
    have hc : CvN p m c k := ⟨by omega, h2⟩
    simp only [trGet, if_pos hc, if_neg (show ¬ (p = c ∧ m = k) by omega), if_neg (show ¬ bitN c m = 0 by omega), e]
  | none => simp [trGet, e]
theorem lean_left {c k b p m : Nat} {l : Tr α} (hw : trWf (.nd b p m none l .nil)) : trGet c k l = trGet c k (.nd b p m none l .nil) := by
  obtain ⟨hg, hl, hr, hwl, hwr⟩ := hw
  cases e : trGet c k l with
  | some x =>
    obtain ⟨h1, h2, h3, h4⟩ := trGet_in l hwl hl e
    have hc : CvN p m c k := ⟨by omega, h2⟩
    simp only [trGet, if_pos hc, if_neg (show ¬ (p = c ∧ m = k) by omega), if_pos h3, e]
  | none => simp [trGet, e]
theorem trLean_ok {b p m : Nat} {v : Option α} {l r : Tr α} (hw : trWf (.nd b p m v l r)) : trWf (trLean (.nd b p m v l r)) ∧ (∀ c k, trGet c k (trLean (.nd b p m v l r)) = trGet c k (.nd b p m v l r)) ∧
    (∀ c k i, trIn c k i (.nd b p m v l r) → trIn c k i (trLean (.nd b p m v l r))) ∧ trCnt (trLean (.nd b p m v l r)) = trCnt (.nd b p m v l r) := by
  cases v with
  | some x => exact ⟨hw, fun _ _ => rfl, fun _ _ _ h => h, rfl⟩
  | none =>
    cases l with
    | nil =>
      refine ⟨hw.2.2.2.2, fun c k => lean_right hw, fun c k i h => trIn_down hw h hw.2.2.1, ?_⟩
      simp [trLean, trCnt]
    | nd b2 p2 m2 v2 l2 r2 =>
      cases r with
      | nil =>
        refine ⟨hw.2.2.2.1, fun c k => lean_left hw, fun c k i h => trIn_down hw h hw.2.1, ?_⟩
        simp [trLean, trCnt]
      | nd b3 p3 m3 v3 l3 r3 => exact ⟨hw, fun _ _ => rfl, fun _ _ _ h => h, rfl⟩
theorem cut_lean {a n b p m : Nat} {v : Option α} {l r t : Tr α} (h : CutR a n t (.nd b p m v l r)) : CutR a n t (trLean (.nd b p m v l r)) := by
  obtain ⟨h1, h2, h3, h4⟩ := trLean_ok h.wf
  exact ⟨h1, fun c k => (h2 c k).trans (h.get c k), fun c k i hi => h3 c k i (h.inn c k i hi), fun hs => by rw [h4]; exact h.cnt hs⟩
theorem cut_here {b a n : Nat} {v : Option α} {l r : Tr α} (hw : trWf (.nd b a n v l r)) : CutR a n (.nd b a n v l r) (.nd b a n none l r) := by
  have hr := cvN_refl hw.1
  refine ⟨hw, fun c k => ?_, fun c k i h => h, ?_⟩
  · simp only [trGet]
    by_cases e : a = c ∧ n = k
    · obtain ⟨rfl, rfl⟩ := e
      simp [hr]
    · simp only [e, if_false]
  · cases v <;> simp [trCnt, trGet, hr]
theorem cut_left {b p m a n : Nat} {v : Option α} {l l' r : Tr α} (hw : trWf (.nd b p m v l r)) (hc : CvN p m a n) (hne : ¬ (p = a ∧ m = n)) (hb : bitN a m = 0) (hl : CutR a n l l') :
    CutR a n (.nd b p m v l r) (.nd b p m v l' r) := by
  obtain ⟨hg, h1, h2, h3, h4⟩ := hw
  refine ⟨⟨hg, hl.inn _ _ _ h1, h2, hl.wf, h4⟩, fun c k => ?_, fun c k i h => h, ?_⟩
  · simp only [trGet, hl.get]
    by_cases e : a = c ∧ n = k
    · obtain ⟨rfl, rfl⟩ := e
      simp [hc, hne, hb]
    · simp only [e, if_false]
  · simp only [trCnt, trGet, if_pos hc, if_neg hne, if_pos hb]
    intro h
    have := hl.cnt h
    omega
theorem cut_right {b p m a n : Nat} {v : Option α} {l r r' : Tr α} (hw : trWf (.nd b p m v l r)) (hc : CvN p m a n) (hne : ¬ (p = a ∧ m = n)) (hb : bitN a m = 1) (hr : CutR a n r r') :
    CutR a n (.nd b p m v l r) (.nd b p m v l r') := by
  obtain ⟨hg, h1, h2, h3, h4⟩ := hw
  have hb0 : ¬ bitN a m = 0 := by omega
  refine ⟨⟨hg, h1, hr.inn _ _ _ h2, h3, hr.wf⟩, fun c k => ?_, fun c k i h => h, ?_⟩
  · simp only [trGet, hr.get]
    by_cases e : a = c ∧ n = k
    · obtain ⟨rfl, rfl⟩ := e
      simp [hc, hne, hb0]
    · simp only [e, if_false]
  · simp only [trCnt, trGet, if_pos hc, if_neg hne, if_neg hb0]
    intro h
    have := hr.cnt h
    omega
/-! ### The same, told of lists in order -/
def lkL (a n : Nat) (L : List (Nat × Nat × α)) : Option α := (L.find? (fun z => decide (a = z.1 ∧ n = z.2.1))).map (·.2.2)
def putL (a n : Nat) (x : α) : List (Nat × Nat × α) → List (Nat × Nat × α)
  | [] => [(a, n, x)]
  | z :: L => if a < z.1 ∨ a = z.1 ∧ n < z.2.1 then (a, n, x) :: z :: L else if a = z.1 ∧ n = z.2.1 then (a, n, x) :: L else z :: putL a n x L
def cutL (a n : Nat) (L : List (Nat × Nat × α)) : List (Nat × Nat × α) := L.filter (fun z => !decide (a = z.1 ∧ n = z.2.1))
theorem lkL_mem {a n : Nat} {x : α} {L : List (Nat × Nat × α)} (hs : L.Pairwise PLt) : lkL a n L = some x ↔ (a, n, x) ∈ L := by
  induction L with
  | nil => simp [lkL]
  | cons z L ih =>
    have hs2 := List.pairwise_cons.1 hs
    unfold lkL at ih ⊢
    rw [List.find?_cons]
    by_cases e : a = z.1 ∧ n = z.2.1
    · rw [decide_eq_true e]
      simp only [Option.map_some, Option.some.injEq, List.mem_cons]
      obtain ⟨z1, z2, z3⟩ := z
      obtain ⟨rfl, rfl⟩ := e
      constructor
      · rintro rfl; exact .inl rfl
      · rintro (h | h)
        · cases h; rfl
        · have := hs2.1 _ h
          unfold PLt at this
          simp only at this
          omega
    · rw [decide_eq_false e]
      simp only [ih hs2.2, List.mem_cons]
      constructor
      · exact .inr
      · rintro (rfl | h)
        · exact absurd ⟨rfl, rfl⟩ e
        · exact h
theorem putL_mem {a n : Nat} {x : α} {L : List (Nat × Nat × α)} (hs : L.Pairwise PLt) (z : Nat × Nat × α) : z ∈ putL a n x L ↔ z = (a, n, x) ∨ z ∈ L ∧ ¬ (a = z.1 ∧ n = z.2.1) := by
  induction L with
  | nil => simp [putL]
  | cons y L ih =>
    have hs2 := List.pairwise_cons.1 hs
    have hy : ∀ z ∈ L, y.1 < z.1 ∨ y.1 = z.1 ∧ y.2.1 < z.2.1 := hs2.1
    unfold putL
    split
    · rename_i h
      simp only [List.mem_cons]
      constructor
      · rintro (h1 | rfl | h1)
        · exact .inl h1
        · exact .inr ⟨.inl rfl, by omega⟩
        · exact .inr ⟨.inr h1, by have := hy _ h1; omega⟩
      · rintro (h1 | ⟨h1 | h1, _⟩)
        · exact .inl h1
        · exact .inr (.inl h1)
        · exact .inr (.inr h1)
    · split
      · rename_i h1 h2
        simp only [List.mem_cons]
        constructor
        · rintro (h3 | h3)
          · exact .inl h3
          · exact .inr ⟨.inr h3, by have := hy _ h3; omega⟩
        · rintro (h3 | ⟨rfl | h3, h4⟩)
          · exact .inl h3
          · exact absurd h2 h4
          · exact .inr h3
      · rename_i h1 h2
        simp only [List.mem_cons, ih hs2.2]
        constructor
        · rintro (rfl | h3 | ⟨h3, h4⟩)
          · exact .inr ⟨.inl rfl, h2⟩
          · exact .inl h3
          · exact .inr ⟨.inr h3, h4⟩
        · rintro (h3 | ⟨h3 | h3, h4⟩)
          · exact .inr (.inl h3)
          · exact .inl h3
          · exact .inr (.inr ⟨h3, h4⟩)
theorem putL_sorted {a n : Nat} {x : α} {L : List (Nat × Nat × α)} (hs : L.Pairwise PLt) : (putL a n x L).Pairwise PLt := by
  induction L with
  | nil => simp [putL]
  | cons y L ih =>
    have hs2 := List.pairwise_cons.1 hs
    have hy : ∀ z ∈ L, y.1 < z.1 ∨ y.1 = z.1 ∧ y.2.1 < z.2.1 := hs2.1
    unfold putL
    split
    · rename_i h
      refine List.pairwise_cons.2 ⟨fun z hz => ?_, hs⟩
      unfold PLt
      rcases List.mem_cons.1 hz with rfl | hz
      · exact h
      · have := hy z hz; simp only; omega
    · split
      · rename_i h1 h2
        refine List.pairwise_cons.2 ⟨fun z hz => ?_, hs2.2⟩
        have := hy z hz
        unfold PLt
        simp only; omega
      · rename_i h1 h2
        refine List.pairwise_cons.2 ⟨fun z hz => ?_, ih hs2.2⟩
        rcases (putL_mem hs2.2 z).1 hz with rfl | ⟨hz, _⟩
        · unfold PLt; simp only; omega
        · exact hs2.1 z hz
theorem trGet_lk {a n : Nat} {t : Tr α} (hw : trWf t) : trGet a n t = lkL a n (trL t) := by
  cases e : trGet a n t with
  | some x => exact ((lkL_mem (trL_sorted t hw)).2 ((trL_mem t hw).2 e)).symm
  | none =>
    cases e2 : lkL a n (trL t) with
    | none => rfl
    | some x =>
      rw [(trL_mem t hw).1 ((lkL_mem (trL_sorted t hw)).1 e2)] at e
      cases e
theorem PutR.list {a n : Nat} {x : α} {t t' : Tr α} (hw : trWf t) (h : PutR a n x t t') : trL t' = putL a n x (trL t) := by
  have hs := trL_sorted t hw
  refine plt_ext _ _ (trL_sorted t' h.wf) (putL_sorted hs) fun z => ?_
  obtain ⟨c, k, y⟩ := z
  rw [trL_mem t' h.wf, h.get, putL_mem hs]
  simp only [trL_mem t hw, Prod.mk.injEq]
  by_cases e : a = c ∧ n = k
  · obtain ⟨rfl, rfl⟩ := e
    simp [eq_comm]
  · rw [if_neg e]
    constructor
    · exact fun h => .inr ⟨h, e⟩
    · rintro (⟨rfl, rfl, _⟩ | ⟨h, _⟩)
      · exact absurd ⟨rfl, rfl⟩ e
      · exact h
theorem CutR.list {a n : Nat} {t t' : Tr α} (hw : trWf t) (h : CutR a n t t') : trL t' = cutL a n (trL t) := by
  have hs := trL_sorted t hw
  refine plt_ext _ _ (trL_sorted t' h.wf) (hs.sublist List.filter_sublist) fun z => ?_
  obtain ⟨c, k, y⟩ := z
  unfold cutL
  rw [trL_mem t' h.wf, h.get, List.mem_filter, trL_mem t hw]
  by_cases e : a = c ∧ n = k
  · simp [e]
  · simp [e]
end
end Go.Proofs.YtcinjckajnnhmaaGreat
set_option linter.unusedSimpArgs false
set_option linter.unusedVariables false
namespace Go.Proofs.YtcinjckajnnhmaaGreat
open Go.RowKit
def Rise (l : List Nat) : Prop := l.Pairwise (· < ·)
/-- A number laid into a set. -/
def putN (l : List Nat) (n : Nat) : List Nat := if l.contains n then l else l.takeWhile (· < n) ++ n :: l.dropWhile (· < n)
def setOf (l : List Nat) : List Nat := l.foldl putN []
theorem rise_ext : ∀ {a b : List Nat}, Rise a → Rise b → (∀ x, x ∈ a ↔ x ∈ b) → a = b
  | [], [], _, _, _ => rfl
  | [], y :: b, _, _, h => absurd ((h y).2 (by simp)) (by simp)
  | x :: a, [], _, _, h => absurd ((h x).1 (by simp)) (by simp)
  | x :: a, y :: b, ha, hb, h => by
    obtain ⟨ha1, ha2⟩ := List.pairwise_cons.1 ha
    obtain ⟨hb1, hb2⟩ := List.pairwise_cons.1 hb
    have e : x = y := by
      rcases List.mem_cons.1 ((h x).1 (by simp)) with e | h1
      · exact e
      · rcases List.mem_cons.1 ((h y).2 (by simp)) with e | h2
        · exact e.symm
        · have := ha1 y h2; have := hb1 x h1; omega
    subst e
    congr 1
    refine rise_ext ha2 hb2 fun z => ?_
    have hz := h z
    simp only [List.mem_cons] at hz
    constructor
    · intro hm
      rcases hz.1 (.inr hm) with e | h1
      · subst e; exact absurd (ha1 z hm) (by omega)
      · exact h1
    · intro hm
      rcases hz.2 (.inr hm) with e | h1
      · subst e; exact absurd (hb1 z hm) (by omega)
      · exact h1
theorem contains_iff (l : List Nat) (n : Nat) : l.contains n = true ↔ n ∈ l := by simp
theorem putN_mem (l : List Nat) (n x : Nat) : x ∈ putN l n ↔ x = n ∨ x ∈ l := by
  unfold putN
  by_cases h : l.contains n = true
  · rw [if_pos h]
    constructor
    · exact .inr
    · rintro (rfl | h1)
      · exact (contains_iff _ _).1 h
      · exact h1
  · rw [if_neg h, List.mem_append, List.mem_cons]
    have e := List.takeWhile_append_dropWhile (p := fun y => decide (y < n)) (l := l)
    have hm : x ∈ l ↔ x ∈ l.takeWhile (· < n) ∨ x ∈ l.dropWhile (· < n) := by rw [← List.mem_append, e]
    rw [hm]
    constructor
    · rintro (h1 | h1 | h1)
      · exact .inr (.inl h1)
      · exact .inl h1
      · exact .inr (.inr h1)
    · rintro (h1 | h1 | h1)
      · exact .inr (.inl h1)
      · exact .inl h1
      · exact .inr (.inr h1)
theorem drop_ge {n : Nat} : ∀ {l : List Nat}, Rise l → ∀ x ∈ l.dropWhile (· < n), n ≤ x
  | [], _, x, hx => by simp at hx
  | y :: l, h, x, hx => by
    obtain ⟨h1, h2⟩ := List.pairwise_cons.1 h
    by_cases hy : y < n
    · rw [List.dropWhile_cons_of_pos (by simpa using hy)] at hx
      exact drop_ge h2 x hx
    · rw [List.dropWhile_cons_of_neg (by simpa using hy)] at hx
      rcases List.mem_cons.1 hx with rfl | hx
      · omega
      · have := h1 x hx; omega
theorem take_lt {n : Nat} : ∀ {l : List Nat}, ∀ x ∈ l.takeWhile (· < n), x < n
  | [], x, hx => by simp at hx
  | y :: l, x, hx => by
    by_cases hy : y < n
    · rw [List.takeWhile_cons_of_pos (by simpa using hy)] at hx
      rcases List.mem_cons.1 hx with rfl | hx
      · exact hy
      · exact take_lt x hx
    · rw [List.takeWhile_cons_of_neg (by simpa using hy)] at hx
      simp at hx
theorem putN_rise {l : List Nat} (h : Rise l) (n : Nat) : Rise (putN l n) := by
  unfold putN
  by_cases hc : l.contains n = true
  · rw [if_pos hc]; exact h
  · rw [if_neg hc]
    have e := List.takeWhile_append_dropWhile (p := fun y => decide (y < n)) (l := l)
    have hn : n ∉ l := fun hm => hc ((contains_iff _ _).2 hm)
    have h0 := h
    unfold Rise at h ⊢
    rw [← e] at h
    obtain ⟨p1, p2, p3⟩ := List.pairwise_append.1 h
    refine List.pairwise_append.2 ⟨p1, List.pairwise_cons.2 ⟨fun x hx => ?_, p2⟩, fun x hx y hy => ?_⟩
    · have h1 := drop_ge h0 x hx
      have : x ≠ n := fun he => hn (he ▸ (List.dropWhile_sublist _).subset hx)
      omega
    · have h1 := take_lt x hx
      rcases List.mem_cons.1 hy with rfl | hy
      · exact h1
      · exact p3 x hx y hy
theorem setOf_aux : ∀ (l acc : List Nat), Rise acc → Rise (l.foldl putN acc) ∧ ∀ x, x ∈ l.foldl putN acc ↔ x ∈ acc ∨ x ∈ l
  | [], acc, h => ⟨h, fun x => by simp⟩
  | y :: l, acc, h => by
    obtain ⟨h1, h2⟩ := setOf_aux l (putN acc y) (putN_rise h y)
    refine ⟨h1, fun x => ?_⟩
    rw [List.foldl_cons, h2 x, putN_mem, List.mem_cons]
    constructor
    · rintro ((h | h) | h)
      · exact .inr (.inl h)
      · exact .inl h
      · exact .inr (.inr h)
    · rintro (h | h | h)
      · exact .inl (.inr h)
      · exact .inl (.inl h)
      · exact .inr h
theorem setOf_rise (l : List Nat) : Rise (setOf l) := (setOf_aux l [] List.Pairwise.nil).1
theorem setOf_mem (l : List Nat) (x : Nat) : x ∈ setOf l ↔ x ∈ l := by
  have := (setOf_aux l [] List.Pairwise.nil).2 x
  simpa [setOf] using this
theorem U32s.drop_ {w : World} {g o n c : Nat} {l : List Nat} (h : U32s w (some ⟨g, o, none⟩) n c l) {k : Nat} (hk : k < n) : Reads w w.heap.size 1 (some ⟨g, o + k, none⟩) (n - k) (u32c (l.drop k)) := by
  refine ⟨by simp [u32c, h.1], fun _ => ?_⟩
  obtain ⟨g', o', hA, hg, hc⟩ := h.2.2.2.2 (by omega)
  cases hA
  refine ⟨_, rfl, hg, fun j u hu => ?_⟩
  simp only [u32c, List.getElem?_map, Option.map_eq_some_iff, List.getElem?_drop] at hu
  obtain ⟨x, hx, rfl⟩ := hu
  have := hc (k + j) x hx
  rw [show (⟨g, o + k, none⟩ : Addr).add j = ⟨g, o + (k + j), none⟩ by unfold Addr.add; split <;> simp_all [Nat.add_assoc]]
  exact this
theorem Reads.keepB {w w' : World} {B size n : Nat} {A : Option Addr} {xs : List Value} (h : Reads w B size A n xs) (hb : Below B w w') : Reads w' B size A n xs := h.below hb
theorem own_made0 (w : World) : (w.alloc (.cells #[] 22)).ownsRow w.heap.size 22 1 (.slice (some ⟨w.heap.size, 0, none⟩) 0 0) 0 [] := World.ownsRow_made _ _ _ (Nat.le_refl _) (by simp [maxLen]) (by simp)
end Go.Proofs.YtcinjckajnnhmaaGreat
set_option linter.unusedSimpArgs false
set_option linter.unusedVariables false
namespace Go.Proofs.YtcinjckajnnhmaaGreat
open Go.RowKit
theorem own_set {w : World} {base e size n g i : Nat} {v : Value} {xs : List Value} (h : w.ownsRow base e size v n xs) (hne : v.ownBlock ≠ some g) (u : Value) : (w.setCell ⟨g, i, none⟩ u).ownsRow base e size v n xs :=
  h.kept (only_setCell (World.grownBy.refl w (some g)) (p := ⟨g, i, none⟩) (.inl rfl) u) (.inr hne)
end Go.Proofs.YtcinjckajnnhmaaGreat
set_option linter.unusedSimpArgs false
set_option linter.unusedVariables false
namespace Go.Proofs.YtcinjckajnnhmaaGreat
open Go.RowKit
open Go.Sort (swp insInner insOuter insertionSort)
/-- Where Compact stands: q of d's numbers are gone over, the first k cells of d' hold them, each once. -/
structure CompInv (d d' : Array Nat) (k q : Nat) : Prop where
  size : d'.size = d.size
  le : 1 ≤ k ∧ k ≤ q ∧ q ≤ d.size
  rest : ∀ i, q ≤ i + 1 → d'[i]! = d[i]! ∨ i + 1 = q
  rise : ∀ i, i + 1 < k → d'[i]! < d'[i + 1]!
  last : d'[k - 1]! = d[q - 1]!
  mem : ∀ x, (∃ i, i < k ∧ d'[i]! = x) ↔ (∃ i, i < q ∧ d[i]! = x)
def Up (d : Array Nat) : Prop := ∀ i, i + 1 < d.size → d[i]! ≤ d[i + 1]!
theorem get_set (d : Array Nat) (k x i : Nat) (hk : k < d.size) : (d.setIfInBounds k x)[i]! = if i = k then x else d[i]! := by
  simp only [getElem!_def, Array.getElem?_setIfInBounds]
  by_cases h : k = i
  · subst h; simp [hk]
  · have : ¬ i = k := fun e => h e.symm
    simp [h, this]
theorem set_self (d : Array Nat) (k : Nat) : d.setIfInBounds k d[k]! = d := by
  apply Array.ext_getElem?
  intro i
  rw [Array.getElem?_setIfInBounds]
  by_cases h : k = i
  · subst h
    by_cases hk : k < d.size
    · simp [hk]
    · simp [hk]
  · simp [h]
theorem CompInv.start {d : Array Nat} (h : 1 ≤ d.size) : CompInv d d 1 1 := ⟨rfl, by omega, fun _ _ => .inl rfl, fun i hi => by omega, rfl, fun x => Iff.rfl⟩
theorem CompInv.skip {d d' : Array Nat} {k q : Nat} (h : CompInv d d' k q) (hq : q < d.size) (he : d[q]! = d[q - 1]!) : CompInv d d' k (q + 1) := by
  obtain ⟨h1, h2, h3, h4, h5, h6⟩ := h
  refine ⟨h1, by omega, fun i hi => ?_, h4, by rw [h5, Nat.add_sub_cancel, he], fun x => ?_⟩
  · rcases h3 i (by omega) with h | h
    · exact .inl h
    · omega
  · rw [h6 x]
    constructor
    · rintro ⟨i, hi, hx⟩; exact ⟨i, by omega, hx⟩
    · rintro ⟨i, hi, hx⟩
      by_cases hiq : i < q
      · exact ⟨i, hiq, hx⟩
      · obtain rfl : i = q := by omega
        exact ⟨i - 1, by omega, by rw [← he]; exact hx⟩
theorem CompInv.put {d d' : Array Nat} {k q : Nat} (h : CompInv d d' k q) (hu : Up d) (hq : q < d.size) (hne : d[q]! ≠ d[q - 1]!) : CompInv d (d'.setIfInBounds k d[q]!) (k + 1) (q + 1) := by
  obtain ⟨h1, h2, h3, h4, h5, h6⟩ := h
  have hk : k < d'.size := by omega
  have hlt : d[q - 1]! < d[q]! := by
    have := hu (q - 1) (by omega)
    rw [show q - 1 + 1 = q by omega] at this
    omega
  refine ⟨by simpa using h1, by omega, fun i hi => ?_, fun i hi => ?_, ?_, fun x => ?_⟩
  · rw [get_set _ _ _ _ hk]
    by_cases hik : i = k
    · subst hik
      rw [if_pos rfl]
      by_cases hqk : q = i
      · left; rw [hqk]
      · omega
    · rw [if_neg hik]
      rcases h3 i (by omega) with h | h
      · exact .inl h
      · omega
  · rw [get_set _ _ _ _ hk, get_set _ _ _ _ hk, if_neg (by omega)]
    by_cases hik : i + 1 = k
    · rw [if_pos hik]
      have : i = k - 1 := by omega
      rw [this, h5]; exact hlt
    · rw [if_neg hik]; exact h4 i (by omega)
  · rw [Nat.add_sub_cancel, Nat.add_sub_cancel, get_set _ _ _ _ hk, if_pos rfl]
  · constructor
    · rintro ⟨i, hi, hx⟩
      rw [get_set _ _ _ _ hk] at hx
      by_cases hik : i = k
      · rw [if_pos hik] at hx; exact ⟨q, by omega, hx⟩
      · rw [if_neg hik] at hx
        obtain ⟨j, hj, hjx⟩ := (h6 x).1 ⟨i, by omega, hx⟩
        exact ⟨j, by omega, hjx⟩
    · rintro ⟨i, hi, hx⟩
      by_cases hiq : i = q
      · subst hiq
        exact ⟨k, by omega, by rw [get_set _ _ _ _ hk, if_pos rfl]; exact hx⟩
      · obtain ⟨j, hj, hjx⟩ := (h6 x).2 ⟨i, by omega, hx⟩
        exact ⟨j, by omega, by rw [get_set _ _ _ _ hk, if_neg (by omega)]; exact hjx⟩
theorem CompInv.grow {d : Array Nat} {k : Nat} (h : CompInv d d k k) (hu : Up d) (hk : k < d.size) (hne : d[k]! ≠ d[k - 1]!) : CompInv d d (k + 1) (k + 1) := by
  have := h.put hu hk hne
  rwa [set_self] at this
theorem CompInv.done {d d' : Array Nat} {k : Nat} (h : CompInv d d' k d.size) : d'.toList.take k = setOf d.toList := by
  obtain ⟨h1, h2, h3, h4, h5, h6⟩ := h
  have hg : ∀ (e : Array Nat) i, i < e.size → e.toList[i]? = some (e[i]!) := fun e i hi => by simp [hi]
  refine rise_ext ?_ (setOf_rise _) fun x => ?_
  · have hmono : ∀ j i, i < j → j < k → d'[i]! < d'[j]! := by
      intro j
      induction j with
      | zero => intro i hi; omega
      | succ j ih =>
        intro i hi hj
        have hs := h4 j hj
        by_cases hij : i = j
        · subst hij; exact hs
        · have := ih i (by omega) (by omega); omega
    unfold Rise
    rw [List.pairwise_iff_getElem]
    intro i j hi hj hij
    rw [List.length_take] at hi hj
    have a := hg d' i (by omega)
    have b := hg d' j (by omega)
    rw [List.getElem_take, List.getElem_take]
    rw [List.getElem?_eq_getElem (by simp; omega)] at a b
    rw [Option.some.inj a, Option.some.inj b]
    exact hmono j i hij (by omega)
  · rw [setOf_mem]
    constructor
    · intro hx
      obtain ⟨i, hi⟩ := List.getElem?_of_mem hx
      rw [List.getElem?_take] at hi
      split at hi
      · rename_i hik
        have hsz : i < d'.size := by have := (List.getElem?_eq_some_iff.1 hi).1; simpa using this
        rw [hg d' i hsz] at hi
        obtain ⟨j, hj, hjx⟩ := (h6 x).1 ⟨i, hik, Option.some.inj hi⟩
        exact List.mem_of_getElem? ((hg d j hj).trans (by rw [hjx]))
      · cases hi
    · intro hx
      obtain ⟨i, hi⟩ := List.getElem?_of_mem hx
      have hsz : i < d.size := by have := (List.getElem?_eq_some_iff.1 hi).1; simpa using this
      rw [hg d i hsz] at hi
      obtain ⟨j, hj, hjx⟩ := (h6 x).2 ⟨i, hsz, Option.some.inj hi⟩
      refine List.mem_of_getElem? (i := j) ?_
      rw [List.getElem?_take, if_pos hj, hg d' j (by omega), hjx]
theorem below_clear {base g : Nat} (hg : base ≤ g) : ∀ (vs : List Value) (j : Nat) {a w : World}, Below base a w → Below base a (w.setCells g j vs)
  | [], _, _, _, h => h
  | v :: vs, j, a, w, h => below_clear hg vs (j + 1) (h.setCell (p := ⟨g, j, none⟩) hg v)
end Go.Proofs.YtcinjckajnnhmaaGreat
set_option linter.unusedSimpArgs false
set_option linter.unusedVariables false
namespace Go.Proofs.YtcinjckajnnhmaaGreat
open Go.RowKit
theorem own_below {w w' : World} {base e size n : Nat} {v : Value} {xs : List Value} (h : w.ownsRow base e size v n xs) (hb : Below w.heap.size w w') : w'.ownsRow base e size v n xs :=
  ⟨h.1, h.2.imp id (fun ⟨g, cap, cur, e1, e2, e3, rest⟩ => ⟨g, cap, cur, e1, e2, (hb.block g (Array.getElem?_eq_some_iff.1 e3).1).trans e3, rest⟩)⟩
end Go.Proofs.YtcinjckajnnhmaaGreat
set_option linter.unusedSimpArgs false
set_option linter.unusedVariables false
namespace Go.Proofs.YtcinjckajnnhmaaGreat
open Go.RowKit
attribute [local go_sem] Oper.semAt_some
theorem blk_new' {w : World} {g : Nat} (t : TypeId) (cs : Array Value) (h : g = w.heap.size) : Blk (w.alloc (.cells cs t)) g t cs := by subst h; exact Blk.new w t cs
theorem KeepsFrom.below {lo : Nat} {A B : World} (hb : Below A.heap.size A B) : KeepsFrom lo A B :=
  ⟨hb.size, fun k o _ hk _ => (hb.block k (Array.getElem?_eq_some_iff.1 hk).1).trans hk⟩
theorem Blk.put {W : World} {g D : Nat} {t : TypeId} {cs : Array Value} (h : Blk W g t cs) (hne : g ≠ D) (o : Obj) : Blk (W.putObj D o) g t cs := (World.putObj_heap_other hne).trans h
end Go.Proofs.YtcinjckajnnhmaaGreat
set_option linter.unusedSimpArgs false
set_option linter.unusedVariables false
namespace Go.Proofs.YtcinjckajnnhmaaGreat
open Go.RowKit Go.WideShapes Go.ChangeShapes
attribute [local go_sem] Oper.semAt_some
theorem ret_i64 {i j : Int} (h : i = j) : Ending.returned (.int .i64 i) = .returned (.int .i64 j) := by rw [h]
end Go.Proofs.YtcinjckajnnhmaaGreat
set_option linter.unusedSimpArgs false
set_option linter.unusedVariables false
namespace Go.Proofs.YtcinjckajnnhmaaGreat
open Go.RowKit
theorem Own32.u32s' {w w' : World} {v : Value} {l : List Nat} (h : Own32 w w' v l) (hb : ∀ x ∈ l, x < 4294967296) : ∃ A c, v = .slice A l.length c ∧ U32s w' A l.length c l := by
  obtain ⟨A, n, c, rfl, hu⟩ := h.u32s hb
  have := hu.1
  subst this
  exact ⟨A, c, rfl, hu⟩
end Go.Proofs.YtcinjckajnnhmaaGreat
set_option linter.unusedSimpArgs false
set_option linter.unusedVariables false
namespace Go.Proofs.YtcinjckajnnhmaaGreat
open Go.RowKit Go.WideShapes Go.ChangeShapes
attribute [local go_sem] Oper.semAt_some
theorem LstAt.keepW {α : Type} {sz : Nat} {R : World → List Value → α → Prop} {w w' : World} {A : Option Addr} {n c : Nat} {l : List α} (h : LstAt sz R w A n c l) (hR : ∀ vs x, R w vs x → R w' vs x) (hs : w.heap.size ≤ w'.heap.size)
    (hc : ∀ (ad : Addr) (i : Nat), A = some ad → w'.cell? ⟨ad.block, i, none⟩ = w.cell? ⟨ad.block, i, none⟩) : LstAt sz R w' A n c l := by
  refine ⟨h.1, h.2.1, h.2.2.1, fun hn => ?_⟩
  obtain ⟨g, o, hA, hg, hcc⟩ := h.2.2.2 hn
  refine ⟨g, o, hA, Nat.lt_of_lt_of_le hg hs, fun k x hk => ?_⟩
  obtain ⟨vs, h1, h2, h3⟩ := hcc k x hk
  exact ⟨vs, h1, hR _ _ h2, fun j v hv => (hc _ _ hA).trans (h3 j v hv)⟩
end Go.Proofs.YtcinjckajnnhmaaGreat
set_option linter.unusedSimpArgs false
set_option linter.unusedVariables false
namespace Go.Proofs.YtcinjckajnnhmaaGreat
open Go.RowKit Go.WideShapes Go.ChangeShapes
attribute [local go_sem] Oper.semAt_some
theorem own_low_block {w : World} {base n size : Nat} {e : TypeId} {v : Value} {xs : List Value} (h : w.ownsRow base e size v n xs) : ∀ k, v.ownBlock = some k → base ≤ k := by
  intro k hk
  rcases h.2 with ⟨rfl, _⟩ | ⟨g, cap, cur, rfl, hb, _⟩
  · simp [Value.ownBlock] at hk
  · have : g = k := by simpa [Value.ownBlock] using hk
    rw [← this]; exact hb
theorem own_baseLe {w : World} {b b' n size : Nat} {e : TypeId} {v : Value} {xs : List Value} (h : w.ownsRow b e size v n xs) (hb : b' ≤ b) : w.ownsRow b' e size v n xs := by
  refine ⟨h.1, ?_⟩
  rcases h.2 with h2 | ⟨g, cap, cur, h1, h2, h3⟩
  · exact .inl h2
  · exact .inr ⟨g, cap, cur, h1, Nat.le_trans hb h2, h3⟩
end Go.Proofs.YtcinjckajnnhmaaGreat
set_option linter.unusedSimpArgs false
set_option linter.unusedVariables false
namespace Go.Proofs.YtcinjckajnnhmaaGreat
open Go.RowKit Go.WideShapes Go.ChangeShapes
def AgB (B : Nat) (ob : Option Nat) (w w' : World) : Prop := w.heap.size ≤ w'.heap.size ∧ ∀ (k : Nat) (o : Obj), B ≤ k → w.heap[k]? = some o → o.isCells = true → some k ≠ ob → w'.heap[k]? = some o
/-- R says something of blocks of cells from B on alone, and nothing of block ob. -/
def FrB (B : Nat) (ob : Option Nat) (R : World → Prop) (w : World) : Prop := ∀ w', AgB B ob w w' → R w'
theorem heap_lt {w : World} {k : Nat} {o : Obj} (h : w.heap[k]? = some o) : k < w.heap.size := (Array.getElem?_eq_some_iff.1 h).1
theorem FrB.here {B : Nat} {ob : Option Nat} {R : World → Prop} {w : World} (h : FrB B ob R w) : R w := h w ⟨Nat.le_refl _, fun _ _ _ h _ _ => h⟩
theorem FrB.ag {B : Nat} {ob : Option Nat} {R : World → Prop} {w w' : World} (h : FrB B ob R w) (ha : AgB B ob w w') : FrB B ob R w' := fun w2 h2 =>
  h w2 ⟨Nat.le_trans ha.1 h2.1, fun k o h0 h1 hc h3 => h2.2 k o h0 (ha.2 k o h0 h1 hc h3) hc h3⟩
theorem AgB.below {B : Nat} {ob : Option Nat} {w w' : World} (hb : Below w.heap.size w w') : AgB B ob w w' := ⟨hb.size, fun k o _ h1 _ _ => (hb.block k (heap_lt h1)).trans h1⟩
theorem AgB.grown {B : Nat} {ob : Option Nat} {w w' : World} (hg : w.grownBy w' ob) : AgB B ob w w' := ⟨hg.size, fun k o _ h1 _ h2 => (hg.block k (heap_lt h1) h2).trans h1⟩
/-- A block below B, or one that is no cells, turns. -/
theorem AgB.turned {B : Nat} {ob row : Option Nat} {w w' : World} (hg : w.grownBy w' row) (hr : ∀ r, row = some r → r < B ∨ ∃ o : Obj, w.heap[r]? = some o ∧ o.isCells = false) : AgB B ob w w' :=
  ⟨hg.size, fun k o h0 h1 hc _ => (hg.block k (heap_lt h1) (fun e => by
    rcases hr k e.symm with h | ⟨o', h, hc'⟩
    · omega
    · rw [h1] at h; injection h with h; subst h; rw [hc] at hc'; cases hc')).trans h1⟩
theorem AgB.set {B : Nat} {ob : Option Nat} (w : World) {p : Addr} (hp : p.block < B) (v : Value) : AgB B ob w (w.setCell p v) :=
  ⟨by simp [World.setCell], fun k o h0 h1 _ _ => (Below.heap_setCell w p v k (by rintro rfl; omega)).trans h1⟩
theorem FrB.below {B : Nat} {ob : Option Nat} {R : World → Prop} {w w' : World} (h : FrB B ob R w) (hb : Below w.heap.size w w') : FrB B ob R w' := h.ag (.below hb)
theorem FrB.grown {B : Nat} {ob : Option Nat} {R : World → Prop} {w w' : World} (h : FrB B ob R w) (hg : w.grownBy w' ob) : FrB B ob R w' := h.ag (.grown hg)
theorem FrB.set {B : Nat} {ob : Option Nat} {R : World → Prop} {w : World} (h : FrB B ob R w) {p : Addr} (hp : p.block < B) (v : Value) : FrB B ob R (w.setCell p v) := h.ag (.set w hp v)
/-- The row moved to a new block. -/
theorem FrB.moved {B : Nat} {ob : Option Nat} {R : World → Prop} {w w' : World} (h : FrB B ob R w) (hg : w.grownBy w' ob) : FrB B (some w.heap.size) R w' := fun w2 h2 =>
  h w2 ⟨Nat.le_trans hg.size h2.1, fun k o h0 h1 hc h3 => h2.2 k o h0 ((hg.block k (heap_lt h1) h3).trans h1) hc (by intro e; injection e with e; have := heap_lt h1; omega)⟩
theorem FrB.less {B B' : Nat} {ob : Option Nat} {R : World → Prop} {w : World} (h : FrB B' ob R w) (hb : B ≤ B') : FrB B ob R w := fun w2 h2 => h w2 ⟨h2.1, fun k o h0 => h2.2 k o (Nat.le_trans hb h0)⟩
theorem FrB.none_ {B : Nat} {ob : Option Nat} {R : World → Prop} {w : World} (h : FrB B ob R w) : FrB B none R w := fun w2 h2 => h w2 ⟨h2.1, fun k o h0 h1 hc _ => h2.2 k o h0 h1 hc (by simp)⟩
theorem FrB.imp {B : Nat} {ob : Option Nat} {R S : World → Prop} {w : World} (h : FrB B ob R w) (hi : ∀ w, R w → S w) : FrB B ob S w := fun w2 h2 => hi _ (h w2 h2)
theorem FrB.and {B : Nat} {ob : Option Nat} {R S : World → Prop} {w : World} (h : FrB B ob R w) (h' : FrB B ob S w) : FrB B ob (fun w => R w ∧ S w) w := fun w2 h2 => ⟨h w2 h2, h' w2 h2⟩
/-- All cells lie as they lay. -/
def CellsLike (w w' : World) : Prop := w.heap.size ≤ w'.heap.size ∧ ∀ (k : Nat) (o : Obj), w.heap[k]? = some o → o.isCells = true → w'.heap[k]? = some o
/-- What is said of all that lies says nothing of a block that does not lie yet. -/
theorem FrB.of_mono {R : World → Prop} {w : World} {ob : Option Nat} (hR : ∀ w', CellsLike w w' → R w') (hob : ∀ k, ob = some k → w.heap.size ≤ k) : FrB 0 ob R w := fun w2 h2 =>
  hR w2 ⟨h2.1, fun k o h1 hc => h2.2 k o (Nat.zero_le _) h1 hc (by rintro rfl; have := hob k rfl; have := heap_lt h1; omega)⟩
theorem cell_kept_ag {w w' : World} {a : Addr} {v : Value} (h : w.cell? a = some v) (hk : ∀ o : Obj, w.heap[a.block]? = some o → o.isCells = true → w'.heap[a.block]? = some o) : w'.cell? a = some v := by
  have h0 := h
  unfold World.cell? at h
  split at h
  · rename_i c t z he
    have h2 := hk _ he rfl
    rw [← h0, World.cell?_of_block (h2.trans he.symm)]
  · cases h
theorem u32s_fr {w : World} {A : Option Addr} {n c B : Nat} {ob : Option Nat} {l : List Nat} (h : U32s w A n c l) (hA : 0 < n → ∀ a, A = some a → B ≤ a.block ∧ some a.block ≠ ob) : FrB B ob (fun w => U32s w A n c l) w := by
  intro w' ha
  refine ⟨h.1, h.2.1, h.2.2.1, h.2.2.2.1, fun hn => ?_⟩
  obtain ⟨g, o, e, hg, hc⟩ := h.2.2.2.2 hn
  obtain ⟨h1, h2⟩ := hA hn _ e
  exact ⟨g, o, e, Nat.lt_of_lt_of_le hg ha.1, fun k x hk => cell_kept_ag (a := ⟨g, o + k, none⟩) (hc k x hk) (fun ob' e1 e2 => ha.2 g ob' h1 e1 e2 h2)⟩
theorem own_u32_fr {w : World} {b n c B : Nat} {A : Option Addr} {ob : Option Nat} {l : List Nat} (h : w.ownsRow b 22 1 (.slice A n c) n (u32c l)) (hl : ∀ y ∈ l, y < 4294967296) (hB : B ≤ b) (hob : ∀ k, ob = some k → k < b) : FrB B ob (fun w => U32s w A n c l) w :=
  u32s_fr (U32s.of_own h hl) fun _ a e => by
    have := own_low_block h a.block (by rw [e]; rfl)
    exact ⟨by omega, by rintro e; have := hob _ e.symm; omega⟩
section
variable {α : Type} {sz : Nat} {R : World → List Value → α → Prop} {w w' : World} {A : Option Addr} {n c B B' : Nat} {l : List α} {t : TypeId}
/-- A row of one's own among the blocks from B on, its elements' own things (of blocks from B' on) beside it. -/
def LOw (sz : Nat) (t : TypeId) (R : World → List Value → α → Prop) (w : World) (B B' : Nat) (A : Option Addr) (n c : Nat) (l : List α) (xs : List Value) : Prop :=
  w.ownsRow B t sz (.slice A n c) n xs ∧ Chunks sz (fun w vs x => FrB B' (Value.slice A n c).ownBlock (fun w => R w vs x) w) w xs l
theorem LOw.nil : LOw sz t R w B B' none 0 0 [] [] := ⟨⟨by simp, .inl ⟨rfl, rfl⟩⟩, ⟨by simp, fun k x hk => by simp at hk⟩⟩
theorem LOw.here {xs : List Value} (h : LOw sz t R w B B' A n c l xs) : Chunks sz R w xs l := ⟨h.2.1, fun k x hk => (h.2.2 k x hk).here⟩
theorem LOw.lst {xs : List Value} (hsz : 0 < sz) (h : LOw sz t R w B B' A n c l xs) : LstAt sz R w A n c l := LstAt.of_own hsz h.1 h.here
theorem LOw.below {xs : List Value} (h : LOw sz t R w B B' A n c l xs) (hb : Below w.heap.size w w') : LOw sz t R w' B B' A n c l xs :=
  ⟨own_below h.1 hb, h.2.1, fun k x hk => (h.2.2 k x hk).below hb⟩
theorem LOw.less {xs : List Value} {B1 B2 : Nat} (h : LOw sz t R w B B' A n c l xs) (h1 : B1 ≤ B) (h2 : B2 ≤ B') : LOw sz t R w B1 B2 A n c l xs :=
  ⟨own_baseLe h.1 h1, h.2.1, fun k x hk => (h.2.2 k x hk).less h2⟩
theorem LOw.set {xs : List Value} {H i : Nat} (h : LOw sz t R w B B' A n c l xs) (h1 : H < B) (h2 : H < B') (v : Value) : LOw sz t R (w.setCell ⟨H, i, none⟩ v) B B' A n c l xs :=
  ⟨own_set h.1 (fun e => by have := own_low_block h.1 _ e; omega) v, h.2.1, fun k x hk => (h.2.2 k x hk).set h2 v⟩
/-- Behind an append. -/
theorem LOw.push {xs ys : List Value} {l' : List α} {m : Nat} {v' : Value} (h : LOw sz t R w B B' A n c l xs) (hy : Chunks sz (fun w vs x => FrB B' (Value.slice A n c).ownBlock (fun w => R w vs x) w) w ys l')
    (ho : w'.ownsRow B t sz v' (n + m) (xs ++ ys)) (hg : w.grownBy w' (Value.slice A n c).ownBlock) (hor : v'.ownBlock = (Value.slice A n c).ownBlock ∨ v'.ownBlock = some w.heap.size) :
    ∃ A' c', v' = .slice A' (n + m) c' ∧ LOw sz t R w' B B' A' (n + m) c' (l ++ l') (xs ++ ys) := by
  obtain ⟨A', c', rfl⟩ := own_slice ho
  refine ⟨A', c', rfl, ho, ?_⟩
  have hc : Chunks sz (fun w vs x => FrB B' (Value.slice A n c).ownBlock (fun w => R w vs x) w) w (xs ++ ys) (l ++ l') := h.2.app_ hy
  rcases hor with e | e
  · rw [e]; exact ⟨hc.1, fun k x hk => (hc.2 k x hk).grown hg⟩
  · rw [e]; exact ⟨hc.1, fun k x hk => (hc.2 k x hk).moved hg⟩
/-- The whole list says nothing of other blocks. -/
theorem LOw.fr {xs : List Value} (hsz : 0 < sz) (h : LOw sz t R w B B' A n c l xs) (hB : B' ≤ B) : FrB B' none (fun w => LstAt sz R w A n c l) w := by
  intro w2 h2
  refine LstAt.of_own (base := B) (e := t) (xs := xs) hsz ⟨h.1.1, ?_⟩ ⟨h.2.1, fun k x hk => ?_⟩
  · rcases h.1.2 with h3 | ⟨g, cap, cur, e1, e2, e3, rest⟩
    · exact .inl h3
    · exact .inr ⟨g, cap, cur, e1, e2, h2.2 g _ (by omega) e3 rfl (by simp), rest⟩
  · exact (h.2.2 k x hk).none_ w2 h2
/-- Whatever turns that is no cells, or lies below: the row and its things stay. -/
theorem LOw.ag {xs : List Value} (h : LOw sz t R w B B' A n c l xs) (hB : B' ≤ B) {row : Option Nat} (hg : w.grownBy w' row) (hr : ∀ r, row = some r → r < B' ∨ ∃ o : Obj, w.heap[r]? = some o ∧ o.isCells = false) : LOw sz t R w' B B' A n c l xs := by
  refine ⟨⟨h.1.1, ?_⟩, h.2.1, fun k x hk => (h.2.2 k x hk).ag (.turned hg hr)⟩
  rcases h.1.2 with h3 | ⟨g, cap, cur, e1, e2, e3, rest⟩
  · exact .inl h3
  · exact .inr ⟨g, cap, cur, e1, e2, (AgB.turned (B := B') (ob := none) hg hr).2 g _ (by omega) e3 rfl (by simp), rest⟩
def SLike (R : World → List Value → α → Prop) : Prop := ∀ (w w' : World) (vs : List Value) (x : α), CellsLike w w' → R w vs x → R w' vs x
theorem CellsLike.below {w w' : World} (hb : Below w.heap.size w w') : CellsLike w w' := ⟨hb.size, fun k o h _ => (hb.block k (heap_lt h)).trans h⟩
theorem SLike.mono (h : SLike R) : SMono R := fun w w' vs x hb => h w w' vs x (.below hb)
/-- A list that lies is apart from a block that does not lie yet. -/
theorem chunks_fr {xs : List Value} (hR : SLike R) (h : Chunks sz R w xs l) {ob : Option Nat} (hob : ∀ k, ob = some k → w.heap.size ≤ k) :
    Chunks sz (fun w vs x => FrB 0 ob (fun w => R w vs x) w) w xs l := ⟨h.1, fun k x hk => FrB.of_mono (fun w' h1 => hR w w' _ _ h1 (h.2 k x hk)) hob⟩
theorem chunks_fr_below {xs : List Value} {ob : Option Nat} (h : Chunks sz (fun w vs x => FrB B' ob (fun w => R w vs x) w) w xs l) (hb : Below w.heap.size w w') :
    Chunks sz (fun w vs x => FrB B' ob (fun w => R w vs x) w) w' xs l := ⟨h.1, fun k x hk => (h.2 k x hk).below hb⟩
theorem chunk1_fr {vs : List Value} {x : α} {ob : Option Nat} (hl : vs.length = sz) (h : FrB B' ob (fun w => R w vs x) w) : Chunks sz (fun w vs x => FrB B' ob (fun w => R w vs x) w) w vs [x] := Chunks.one_ hl h
end
end Go.Proofs.YtcinjckajnnhmaaGreat
set_option linter.unusedSimpArgs false
set_option linter.unusedVariables false
namespace Go.Proofs.YtcinjckajnnhmaaGreat
open Go.RowKit Go.WideShapes Go.ChangeShapes
structure SG where
  k : Int
  r : List Nat
def sgR (w : World) (vs : List Value) (x : SG) : Prop := ∃ B m d, vs = [.int .i64 x.k, .slice B m d] ∧ U32s w B m d x.r
theorem sgMono : SMono sgR := fun _ _ _ _ hb ⟨B, m, d, e, h⟩ => ⟨B, m, d, e, h.below hb⟩
/-- A piece whose numbers are the call's own. -/
theorem sg_fr {w : World} {b n c B : Nat} {k : Int} {A : Option Addr} {ob : Option Nat} {l : List Nat} (h : w.ownsRow b 22 1 (.slice A n c) n (u32c l)) (hl : ∀ y ∈ l, y < 4294967296) (hB : B ≤ b) (hob : ∀ k, ob = some k → k < b) :
    FrB B ob (fun w => sgR w [.int .i64 k, .slice A n c] ⟨k, l⟩) w := (own_u32_fr h hl hB hob).imp fun _ hu => ⟨A, n, c, rfl, hu⟩
theorem SGat {w : World} {A : Option Addr} {n c : Nat} {l : List SG} (h : LstAt 2 sgR w A n c l) {k : Nat} (hk : k < n) :
    ∃ (g o : Nat) (b : Int) (B : Option Addr) (m d : Nat) (r : List Nat), A = some ⟨g, o, none⟩ ∧ g < w.heap.size ∧ l[k]? = some ⟨b, r⟩ ∧ U32s w B m d r ∧ w.cell? ⟨g, o + k * 2, none⟩ = some (.int .i64 b) ∧ w.cell? ⟨g, o + k * 2 + 1, none⟩ = some (.slice B m d) := by
  obtain ⟨g, o, ⟨b, r⟩, vs, hA, hg, hx, _, ⟨B, m, d, rfl, hr⟩, hc⟩ := h.at_ hk
  exact ⟨g, o, b, B, m, d, r, hA, hg, hx, hr, hc 0 _ rfl, hc 1 _ rfl⟩
end Go.Proofs.YtcinjckajnnhmaaGreat
set_option linter.unusedSimpArgs false
set_option linter.unusedVariables false
namespace Go.Proofs.YtcinjckajnnhmaaGreat
open Go.RowKit Go.WideShapes Go.ChangeShapes
attribute [local go_sem] Oper.semAt_some
theorem reads_blkN {w : World} {g B n sz : Nat} {t : TypeId} {cs : Array Value} {xs : List Value} (h : Blk w g t cs) (hB : g < B) (hx : cs.toList = xs) (hn : xs.length = n * sz) : Reads w B sz (some ⟨g, 0, none⟩) n xs :=
  ⟨hn, fun _ => ⟨_, rfl, hB, fun j u hu => by
    have e : (⟨g, 0, none⟩ : Addr).add j = ⟨g, j, none⟩ := by unfold Addr.add; split <;> simp_all
    rw [e, h.cell j, ← hu, ← hx]; simp⟩⟩
end Go.Proofs.YtcinjckajnnhmaaGreat
set_option linter.unusedSimpArgs false
set_option linter.unusedVariables false
namespace Go.Proofs.YtcinjckajnnhmaaGreat
open Go.RowKit Go.WideShapes Go.ChangeShapes
attribute [local go_sem] Oper.semAt_some
set_option maxRecDepth 100000 in
theorem doesZ1 (w : World) : Calls Tryz.prog 218 #[.agg #[.int .i64 0, .bool false, .string ⟨#[]⟩, .string ⟨#[]⟩, .string ⟨#[]⟩, .bool false, .int .u32 0, .int .i64 0, .int .u32 0, .int .u32 0, .int .i64 0, .slice none 0 0, .int .u32 0, .int .i64 0], .int .i64 1] w (GoodP false w) := by
  have HB := hide ((Below.refl w.heap.size w).alloc (Nat.le_refl _) (.cells #[.int .i64 0, .bool false, .string ⟨#[]⟩, .string ⟨#[]⟩, .string ⟨#[]⟩, .bool false, .int .u32 0, .int .i64 0, .int .u32 0, .int .u32 0, .int .i64 0, .slice none 0 0, .int .u32 0, .int .i64 0] 216))
  go_enter Tryz.func218, Tryz.ntmps218
  go_wp2
  go_ret
  exact ⟨rfl, HB.out⟩
set_option maxRecDepth 100000 in
theorem doesZ2 (w : World) : Calls Tryz.prog 218 #[.agg #[.int .i64 0, .bool false, .string ⟨#[]⟩, .string ⟨#[]⟩, .string ⟨#[]⟩, .bool false, .int .u32 0, .int .i64 0, .int .u32 0, .int .u32 0, .int .i64 0, .slice none 0 0, .int .u32 0, .int .i64 0], .int .i64 2] w (GoodP false w) := by
  have HB := hide ((Below.refl w.heap.size w).alloc (Nat.le_refl _) (.cells #[.int .i64 0, .bool false, .string ⟨#[]⟩, .string ⟨#[]⟩, .string ⟨#[]⟩, .bool false, .int .u32 0, .int .i64 0, .int .u32 0, .int .u32 0, .int .i64 0, .slice none 0 0, .int .u32 0, .int .i64 0] 216))
  go_enter Tryz.func218, Tryz.ntmps218
  go_wp2
  go_ret
  exact ⟨rfl, HB.out⟩
set_option maxRecDepth 100000 in
theorem doesZ4 (w : World) : Calls Tryz.prog 218 #[.agg #[.int .i64 0, .bool false, .string ⟨#[]⟩, .string ⟨#[]⟩, .string ⟨#[]⟩, .bool false, .int .u32 0, .int .i64 0, .int .u32 0, .int .u32 0, .int .i64 0, .slice none 0 0, .int .u32 0, .int .i64 0], .int .i64 4] w (GoodP false w) := by
  have HB := hide ((Below.refl w.heap.size w).alloc (Nat.le_refl _) (.cells #[.int .i64 0, .bool false, .string ⟨#[]⟩, .string ⟨#[]⟩, .string ⟨#[]⟩, .bool false, .int .u32 0, .int .i64 0, .int .u32 0, .int .u32 0, .int .i64 0, .slice none 0 0, .int .u32 0, .int .i64 0] 216))
  go_enter Tryz.func218, Tryz.ntmps218
  go_wp2
  go_ret
  exact ⟨rfl, HB.out⟩
set_option maxRecDepth 100000 in
theorem doesZ56 (w : World) : Calls Tryz.prog 218 #[.agg #[.int .i64 0, .bool false, .string ⟨#[]⟩, .string ⟨#[]⟩, .string ⟨#[]⟩, .bool false, .int .u32 0, .int .i64 0, .int .u32 0, .int .u32 0, .int .i64 0, .slice none 0 0, .int .u32 0, .int .i64 0], .int .i64 56] w (GoodP false w) := by
  have HB := hide ((Below.refl w.heap.size w).alloc (Nat.le_refl _) (.cells #[.int .i64 0, .bool false, .string ⟨#[]⟩, .string ⟨#[]⟩, .string ⟨#[]⟩, .bool false, .int .u32 0, .int .i64 0, .int .u32 0, .int .u32 0, .int .i64 0, .slice none 0 0, .int .u32 0, .int .i64 0] 216))
  go_enter Tryz.func218, Tryz.ntmps218
  go_wp2
  go_ret
  exact ⟨rfl, HB.out⟩
set_option maxRecDepth 100000 in
theorem doesZ64 (w : World) : Calls Tryz.prog 218 #[.agg #[.int .i64 0, .bool false, .string ⟨#[]⟩, .string ⟨#[]⟩, .string ⟨#[]⟩, .bool false, .int .u32 0, .int .i64 0, .int .u32 0, .int .u32 0, .int .i64 0, .slice none 0 0, .int .u32 0, .int .i64 0], .int .i64 64] w (GoodP false w) := by
  have HB := hide ((Below.refl w.heap.size w).alloc (Nat.le_refl _) (.cells #[.int .i64 0, .bool false, .string ⟨#[]⟩, .string ⟨#[]⟩, .string ⟨#[]⟩, .bool false, .int .u32 0, .int .i64 0, .int .u32 0, .int .u32 0, .int .i64 0, .slice none 0 0, .int .u32 0, .int .i64 0] 216))
  go_enter Tryz.func218, Tryz.ntmps218
  go_wp2
  go_ret
  exact ⟨rfl, HB.out⟩
end Go.Proofs.YtcinjckajnnhmaaGreat
set_option linter.unusedSimpArgs false
set_option linter.unusedVariables false
namespace Go.Proofs.YtcinjckajnnhmaaGreat
open Go.RowKit Go.WideShapes Go.ChangeShapes
attribute [local go_sem] Oper.semAt_some
theorem own_block_lt {w : World} {base n size : Nat} {e : TypeId} {v : Value} {xs : List Value} (h : w.ownsRow base e size v n xs) : ∀ k, v.ownBlock = some k → k < w.heap.size := by
  intro k hk
  rcases h.2 with ⟨rfl, _⟩ | ⟨g, cap, cur, rfl, hb, hh, _⟩
  · simp [Value.ownBlock] at hk
  · have : g = k := by simpa [Value.ownBlock] using hk
    subst this
    exact (Array.getElem?_eq_some_iff.1 hh).1
end Go.Proofs.YtcinjckajnnhmaaGreat
set_option linter.unusedSimpArgs false
set_option linter.unusedVariables false
namespace Go.Proofs.YtcinjckajnnhmaaGreat
open Go.RowKit Go.Lib Go.Shelf
theorem sizeSetCells (b : Nat) : ∀ (vs : List Value) (o : Nat) (w : World), (w.setCells b o vs).heap.size = w.heap.size
  | [], _, _ => rfl
  | v :: vs, o, w => by rw [World.setCells, sizeSetCells b vs]; simp [World.setCell]
theorem own_kept {w w' : World} {base e size n : Nat} {v : Value} {xs : List Value} (h : w.ownsRow base e size v n xs) (hb : Below w.heap.size w w') : w'.ownsRow base e size v n xs :=
  ⟨h.1, h.2.imp id (fun ⟨g, cap, cur, e1, e2, e3, rest⟩ => ⟨g, cap, cur, e1, e2, (hb.block g (Array.getElem?_eq_some_iff.1 e3).1).trans e3, rest⟩)⟩
theorem cloneAt (ad : Addr) (n c : Nat) (l : List Nat) (w : World) (h : U32s w (some ad) n c l) (hn : n ≤ 10000) :
    Calls Tryz.prog 128 #[.slice (some ad) n c] w fun e w' => ∃ v, e = .returned v ∧ Own32 w w' v l := by
  obtain ⟨i0, hi, hz0, hz1, hz2⟩ := info_parts info32
  have HR := hide h.reads
  have HL := hide h.1
  have hnil := fun w => Lib.run_eql_slice_nil (P := Tryz.prog) w
  clear h
  go_enter Tryz.func128, Tryz.ntmps128
  go_wp2_with (at_builtin; refine wpList_append_any _ rfl (.tmp 5) (.tmp 6) 26 rfl w.heap.size 22 i0 _ 1 4 Tryz.underlying26 hi hz0 hz1 hz2 rfl (by decide) (.slice (some ⟨w.heap.size, 0, none⟩) 0 0) 0 [] rfl (own_made0 w) w.heap.size (some ad) n c (u32c l) rfl (HR.out.alloc (Nat.le_refl _) _) (u32c_one _) (by unfold maxLen; omega) (by omega) (by simp) ?_; intro v' w1 hown' hgrow _)
  go_ret
  refine ⟨_, rfl, ?_, ?_⟩
  · rw [HL.out]; simpa using hown'
  · exact ((Below.refl _ _).alloc (Nat.le_refl _) _).grown hgrow (by simp) (fun k hk => by simp [Value.ownBlock] at hk; omega)
/-- slices.Clone of numbers, nil among them. -/
theorem cloneAll_any (A : Option Addr) (n c : Nat) (l : List Nat) (w : World) (h : U32s w A n c l) (hn : n ≤ 10000) :
    Calls Tryz.prog 128 #[.slice A n c] w fun e w' => ∃ v, e = .returned v ∧ Own32 w w' v l := by
  cases A with
  | none =>
    have h0 : n = 0 := by
      rcases Nat.eq_zero_or_pos n with h1 | h1
      · exact h1
      · obtain ⟨g, o, hA, _⟩ := h.2.2.2.2 h1
        cases hA
    subst h0
    have hl : Hid (l = []) := hide (List.eq_nil_of_length_eq_zero h.1)
    have hnil := fun w => Lib.run_eql_slice_nil (P := Tryz.prog) w
    clear h
    go_enter Tryz.func128, Tryz.ntmps128
    go_wp2
    go_ret
    refine ⟨_, rfl, ?_, Below.refl _ _⟩
    rw [hl.out]
    exact World.ownsRow_nil _ _ _ _
  | some ad => exact cloneAt ad n c l w h hn
end Go.Proofs.YtcinjckajnnhmaaGreat
set_option linter.unusedSimpArgs false
set_option linter.unusedVariables false
namespace Go.Proofs.YtcinjckajnnhmaaGreat
open Go.RowKit Go.WideShapes Go.ChangeShapes
attribute [local go_sem] Oper.semAt_some
theorem segInfo : (Tryz.prog.info? 133).map (fun i => (i.zero, i.size, i.bytes)) = some (some (.agg #[.int .i64 0, .slice none 0 0]), 2, 32) := by kernel_rfl
/-- What path.pieces, path.norm, .. hand back: segments in memory of the call's own. -/
def SegP (l : List SG) (w : World) (e : Ending) (w' : World) : Prop := ∃ A n c xs, e = .returned (.slice A n c) ∧ LOw 2 133 sgR w' w.heap.size w.heap.size A n c l xs ∧ Below w.heap.size w w'
end Go.Proofs.YtcinjckajnnhmaaGreat
set_option linter.unusedSimpArgs false
set_option linter.unusedVariables false
namespace Go.Proofs.YtcinjckajnnhmaaGreat
open Go.RowKit Go.WideShapes Go.ChangeShapes
attribute [local go_sem] Oper.semAt_some
theorem below_drew {w : World} : Below w.heap.size w w.drew := ⟨rfl, rfl, rfl, Nat.le_refl _, fun _ _ => rfl⟩
end Go.Proofs.YtcinjckajnnhmaaGreat
set_option linter.unusedSimpArgs false
set_option linter.unusedVariables false
namespace Go.Proofs.YtcinjckajnnhmaaGreat
open Go.RowKit Go.WideShapes Go.ChangeShapes
attribute [local go_sem] Oper.semAt_some
def AgS (S : Nat → Prop) (ob : Option Nat) (w w' : World) : Prop := w.heap.size ≤ w'.heap.size ∧ ∀ (k : Nat) (o : Obj), S k → w.heap[k]? = some o → o.isCells = true → some k ≠ ob → w'.heap[k]? = some o
def FrS (S : Nat → Prop) (ob : Option Nat) (R : World → Prop) (w : World) : Prop := ∀ w', AgS S ob w w' → R w'
theorem frs_here {S : Nat → Prop} {ob : Option Nat} {R : World → Prop} {w : World} (h : FrS S ob R w) : R w := h w ⟨Nat.le_refl _, fun _ _ _ h _ _ => h⟩
theorem frs_ag {S : Nat → Prop} {ob : Option Nat} {R : World → Prop} {w w' : World} (h : FrS S ob R w) (ha : AgS S ob w w') : FrS S ob R w' := fun w2 h2 =>
  h w2 ⟨Nat.le_trans ha.1 h2.1, fun k o h0 h1 hc h3 => h2.2 k o h0 (ha.2 k o h0 h1 hc h3) hc h3⟩
end Go.Proofs.YtcinjckajnnhmaaGreat
set_option linter.unusedSimpArgs false
set_option linter.unusedVariables false
namespace Go.Proofs.YtcinjckajnnhmaaGreat
open Go.RowKit Go.WideShapes Go.ChangeShapes
structure ChgS (S : Nat → Prop) (w w' : World) : Prop where
  os : w'.os = w.os
  tape : w'.tape = w.tape
  output : w'.output = w.output
  size : w.heap.size ≤ w'.heap.size
  block : ∀ k, k < w.heap.size → ¬ S k → w'.heap[k]? = w.heap[k]?
section
variable {S S1 S' F : Nat → Prop} {w w1 w' : World} {g B : Nat} {t : TypeId} {cs : Array Value}
theorem chg_refl (S : Nat → Prop) (w : World) : ChgS S w w := ⟨rfl, rfl, rfl, Nat.le_refl _, fun _ _ _ => rfl⟩
theorem chg_below (hb : Below w.heap.size w w') : ChgS S w w' := ⟨hb.os, hb.tape, hb.output, hb.size, fun k hk _ => hb.block k hk⟩
theorem chg_trans (h : ChgS S w w1) (h' : ChgS S1 w1 w') (hs : ∀ k, S1 k → S k ∨ w.heap.size ≤ k) : ChgS S w w' :=
  ⟨h'.os.trans h.os, h'.tape.trans h.tape, h'.output.trans h.output, Nat.le_trans h.size h'.size, fun k hk hn =>
    (h'.block k (Nat.lt_of_lt_of_le hk h.size) (fun h1 => (hs k h1).elim hn (fun h2 => by omega))).trans (h.block k hk hn)⟩
theorem chg_mono (h : ChgS S w w') (hs : ∀ k, S k → S' k ∨ w.heap.size ≤ k) : ChgS S' w w' :=
  ⟨h.os, h.tape, h.output, h.size, fun k hk hn => h.block k hk (fun h1 => (hs k h1).elim hn (fun h2 => by omega))⟩
theorem chg_set {p : Addr} (hp : S p.block) (v : Value) : ChgS S w (w.setCell p v) :=
  ⟨rfl, rfl, rfl, by simp [World.setCell], fun k _ hn => Below.heap_setCell w p v k (by rintro rfl; exact hn hp)⟩
theorem chg_sets {H : Nat} (hp : S H) : ∀ (vs : List Value) (i : Nat) {w : World}, ChgS S w (w.setCells H i vs)
  | [], _, w => chg_refl S w
  | v :: vs, i, w => chg_trans (chg_set (p := ⟨H, i, none⟩) hp v) (chg_sets hp vs (i + 1)) (fun k h => .inl h)
theorem chg_drew (n : Nat) : ChgS S w (w.drewN n) := ⟨rfl, rfl, rfl, Nat.le_refl _, fun _ _ _ => rfl⟩
theorem chg_to_below (h : ChgS S w w') (hB : B ≤ w.heap.size) (hs : ∀ k, S k → B ≤ k) : Below B w w' :=
  ⟨h.os, h.tape, h.output, h.size, fun k hk => h.block k (by omega) (fun h1 => by have := hs k h1; omega)⟩
theorem chg_blk (h : ChgS S w w') (hk : Blk w g t cs) (hg : ¬ S g) : Blk w' g t cs := (h.block g hk.lt hg).trans hk
theorem chg_ags {ob : Option Nat} (h : ChgS S w w') (hF : ∀ k, F k → ¬ S k) : AgS F ob w w' := ⟨h.size, fun k o h0 h1 _ _ => (h.block k (heap_lt h1) (hF k h0)).trans h1⟩
theorem chg_grown {row : Option Nat} (hg : w.grownBy w' row) (hr : ∀ r, row = some r → S r) : ChgS S w w' :=
  ⟨hg.os, hg.tape, hg.output, hg.size, fun k hk hn => hg.block k hk (fun e => hn (hr k e.symm))⟩
theorem frs_more {ob : Option Nat} {R : World → Prop} (h : FrS S ob R w) (hs : ∀ k, S k → S' k) : FrS S' ob R w := fun w2 h2 => h w2 ⟨h2.1, fun k o h0 => h2.2 k o (hs k h0)⟩
theorem frs_chg {ob : Option Nat} {R : World → Prop} (h : FrS F ob R w) (hc : ChgS S w w') (hF : ∀ k, F k → ¬ S k) : FrS F ob R w' := frs_ag h (chg_ags hc hF)
/-- What is said of blocks from B on is said of those that lie. -/
theorem frs_of_frb {R : World → Prop} (h : FrB B none R w) : FrS (fun k => B ≤ k ∧ k < w.heap.size) none R w := fun w2 h2 =>
  h w2 ⟨h2.1, fun k o h0 h1 hc h3 => h2.2 k o ⟨h0, heap_lt h1⟩ h1 hc h3⟩
end
section
variable {α : Type}
def trPtr : Tr α → Value
  | .nil => .pointer none
  | .nd b _ _ _ _ _ => .pointer (some ⟨b, 0, none⟩)
def ndC (a n : Nat) (vs : List Value) (p : Bool) (c : Nat) (x y : Value) : Array Value := ([Value.int .u32 (a : Int), .int .i64 (n : Int)] ++ vs ++ [.bool p, .int .i64 (c : Int), x, y]).toArray
/-- So many values, each of one cell. -/
def VOk (sz : Nat) (vs : List Value) : Prop := vs.length = sz ∧ ∀ u ∈ vs, u.oneCell' = true
def TrW (sz : Nat) (T : TypeId) (F : Nat → Prop) (R : World → List Value → α → Prop) (w : World) : Tr α → Prop
  | .nil => True
  | .nd b a n v l r => (∃ vs : List Value, VOk sz vs ∧ Blk w b T (ndC a n vs v.isSome (trCnt l + trCnt r + (if v.isSome then 1 else 0)) (trPtr l) (trPtr r)) ∧ ∀ x, v = some x → FrS F none (fun w => R w vs x) w) ∧
      TrW sz T F R w l ∧ TrW sz T F R w r
/-- All that is said of a tree in memory. -/
structure TrA (sz : Nat) (T : TypeId) (F : Nat → Prop) (R : World → List Value → α → Prop) (w : World) (t : Tr α) : Prop where
  mem : TrW sz T F R w t
  wf : trWf t
  nodup : (trB t).Nodup
  far : ∀ k ∈ trB t, ¬ F k
variable {sz : Nat} {T : TypeId} {F F' S : Nat → Prop} {R : World → List Value → α → Prop} {w w' : World} {t : Tr α}
theorem TrW.lt : ∀ {t : Tr α}, TrW sz T F R w t → ∀ k ∈ trB t, k < w.heap.size
  | .nil, _, k, hk => by simp [trB] at hk
  | .nd b a n v l r, h, k, hk => by
      obtain ⟨⟨vs, _, hb, _⟩, hl, hr⟩ := h
      simp only [trB, List.mem_cons, List.mem_append] at hk
      rcases hk with rfl | hk | hk
      · exact hb.lt
      · exact TrW.lt hl k hk
      · exact TrW.lt hr k hk
theorem TrW.chg : ∀ {t : Tr α}, TrW sz T F R w t → ChgS S w w' → (∀ k ∈ trB t, ¬ S k) → (∀ k, F k → ¬ S k) → TrW sz T F R w' t
  | .nil, _, _, _, _ => trivial
  | .nd b a n v l r, h, hc, hs, hF => by
      obtain ⟨⟨vs, h1, hb, h2⟩, hl, hr⟩ := h
      refine ⟨⟨vs, h1, chg_blk hc hb (hs b (by simp [trB])), fun x e => frs_chg (h2 x e) hc hF⟩, TrW.chg hl hc (fun k hk => hs k ?_) hF, TrW.chg hr hc (fun k hk => hs k ?_) hF⟩
      · simp [trB, hk]
      · simp [trB, hk]
theorem TrW.more : ∀ {t : Tr α}, TrW sz T F R w t → (∀ k, F k → F' k) → TrW sz T F' R w t
  | .nil, _, _ => trivial
  | .nd b a n v l r, h, hF => by
      obtain ⟨⟨vs, h1, hb, h2⟩, hl, hr⟩ := h
      exact ⟨⟨vs, h1, hb, fun x e => frs_more (h2 x e) hF⟩, TrW.more hl hF, TrW.more hr hF⟩
theorem TrA.chg (h : TrA sz T F R w t) (hc : ChgS S w w') (hs : ∀ k ∈ trB t, ¬ S k) (hF : ∀ k, F k → ¬ S k) : TrA sz T F R w' t := ⟨h.mem.chg hc hs hF, h.wf, h.nodup, h.far⟩
theorem TrA.more (h : TrA sz T F R w t) (hF : ∀ k, F k → F' k) (hs : ∀ k ∈ trB t, ¬ F' k) : TrA sz T F' R w t := ⟨h.mem.more hF, h.wf, h.nodup, hs⟩
theorem TrA.nil_ : TrA sz T F R w (.nil : Tr α) := ⟨trivial, trivial, by simp [trB], by simp [trB]⟩
/-- A node: its own block, and both halves. -/
structure NdA (sz : Nat) (T : TypeId) (F : Nat → Prop) (R : World → List Value → α → Prop) (w : World) (b a n : Nat) (v : Option α) (l r : Tr α) (vs : List Value) : Prop where
  len : VOk sz vs
  blk : Blk w b T (ndC a n vs v.isSome (trCnt l + trCnt r + (if v.isSome then 1 else 0)) (trPtr l) (trPtr r))
  val : ∀ x, v = some x → FrS F none (fun w => R w vs x) w
  left : TrA sz T F R w l
  right : TrA sz T F R w r
  wf : trWf (.nd b a n v l r)
  bl : b ∉ trB l
  br : b ∉ trB r
  bf : ¬ F b
  lr : ∀ k ∈ trB l, k ∉ trB r
theorem TrA.node {b a n : Nat} {v : Option α} {l r : Tr α} (h : TrA sz T F R w (.nd b a n v l r)) : ∃ vs, NdA sz T F R w b a n v l r vs := by
  obtain ⟨⟨⟨vs, h1, hb, h2⟩, hl, hr⟩, hw, hn, hf⟩ := h
  have hn2 := List.nodup_cons.1 hn
  have hn3 := List.nodup_append.1 hn2.2
  have hm : ∀ k ∈ trB l, k ∈ trB (.nd b a n v l r) := fun k hk => by simp [trB, hk]
  have hm2 : ∀ k ∈ trB r, k ∈ trB (.nd b a n v l r) := fun k hk => by simp [trB, hk]
  exact ⟨vs, h1, hb, h2, ⟨hl, hw.2.2.2.1, hn3.1, fun k hk => hf k (hm k hk)⟩, ⟨hr, hw.2.2.2.2, hn3.2.1, fun k hk => hf k (hm2 k hk)⟩, hw, fun hk => hn2.1 (List.mem_append.2 (.inl hk)), fun hk => hn2.1 (List.mem_append.2 (.inr hk)), hf b (by simp [trB]), fun k h1 h2 => hn3.2.2 k h1 k h2 rfl⟩
theorem NdA.tree {b a n : Nat} {v : Option α} {l r : Tr α} {vs : List Value} (h : NdA sz T F R w b a n v l r vs) : TrA sz T F R w (.nd b a n v l r) := by
  refine ⟨⟨⟨vs, h.len, h.blk, h.val⟩, h.left.mem, h.right.mem⟩, h.wf, ?_, ?_⟩
  · refine List.nodup_cons.2 ⟨fun hk => ?_, List.nodup_append.2 ⟨h.left.nodup, h.right.nodup, fun k h1 k2 h2 e => by subst e; exact h.lr k h1 h2⟩⟩
    rcases List.mem_append.1 hk with hk | hk
    · exact h.bl hk
    · exact h.br hk
  · intro k hk
    simp only [trB, List.mem_cons, List.mem_append] at hk
    rcases hk with rfl | hk | hk
    · exact h.bf
    · exact h.left.far k hk
    · exact h.right.far k hk
theorem trCnt_le : ∀ t : Tr α, trCnt t ≤ (trB t).length
  | .nil => Nat.le_refl _
  | .nd b a n v l r => by
      have h1 := trCnt_le l
      have h2 := trCnt_le r
      simp only [trCnt, trB, List.length_cons, List.length_append]
      split <;> omega
end
end Go.Proofs.YtcinjckajnnhmaaGreat
set_option linter.unusedSimpArgs false
set_option linter.unusedVariables false
namespace Go.Proofs.YtcinjckajnnhmaaGreat
open Go.RowKit Go.WideShapes Go.ChangeShapes
structure AT where
  has : Int
  org : Int
  path : List SG
  hop : Int
  med : Int
  pref : Int
  aas : Int
  aid : Int
  comms : List Nat
end Go.Proofs.YtcinjckajnnhmaaGreat
set_option linter.unusedSimpArgs false
set_option linter.unusedVariables false
namespace Go.Proofs.YtcinjckajnnhmaaGreat
open Go.RowKit Go.WideShapes Go.ChangeShapes
attribute [local go_sem] Oper.semAt_some
abbrev atV (h o : Int) (A : Option Addr) (n c : Nat) (hp md pf aa ai : Int) (B : Option Addr) (m d : Nat) : Value := .agg #[.int .i64 h, .int .i64 o, .slice A n c, .int .u32 hp, .int .u32 md, .int .u32 pf, .int .u32 aa, .int .u32 ai, .slice B m d]
abbrev atC (h o : Int) (A : Option Addr) (n c : Nat) (hp md pf aa ai : Int) (B : Option Addr) (m d : Nat) : Array Value := #[.int .i64 h, .int .i64 o, .slice A n c, .int .u32 hp, .int .u32 md, .int .u32 pf, .int .u32 aa, .int .u32 ai, .slice B m d]
abbrev zeroC : Array Value := atC 0 0 none 0 0 0 0 0 0 0 none 0 0
theorem blk9 {w : World} {g : Nat} {t : TypeId} {v0 v1 v2 v3 v4 v5 v6 v7 v8 : Value} (h : Blk w g t #[v0, v1, v2, v3, v4, v5, v6, v7, v8]) :
    w.cell? ⟨g, 0, none⟩ = some v0 ∧ w.cell? ⟨g, 1, none⟩ = some v1 ∧ w.cell? ⟨g, 2, none⟩ = some v2 ∧ w.cell? ⟨g, 3, none⟩ = some v3 ∧ w.cell? ⟨g, 4, none⟩ = some v4 ∧ w.cell? ⟨g, 5, none⟩ = some v5 ∧ w.cell? ⟨g, 6, none⟩ = some v6 ∧ w.cell? ⟨g, 7, none⟩ = some v7 ∧ w.cell? ⟨g, 8, none⟩ = some v8 :=
  ⟨h.cell 0, h.cell 1, h.cell 2, h.cell 3, h.cell 4, h.cell 5, h.cell 6, h.cell 7, h.cell 8⟩
theorem blk_sets {g : Nat} {t : TypeId} : ∀ (vs pre old : List Value) {w : World}, Blk w g t (pre ++ old).toArray → old.length = vs.length → Blk (w.setCells g pre.length vs) g t (pre ++ vs).toArray
  | [], pre, old, w, h, hl => by
    obtain rfl := List.length_eq_zero_iff.1 hl
    exact h
  | v :: vs, pre, [], w, h, hl => by simp at hl
  | v :: vs, pre, x :: old, w, h, hl => by
    have h1 := h.set_ pre.length v
    rw [List.setIfInBounds_toArray, List.set_append_right _ _ (Nat.le_refl _), Nat.sub_self, List.set_cons_zero] at h1
    have h2 : Blk (w.setCell ⟨g, pre.length, none⟩ v) g t ((pre ++ [v]) ++ old).toArray := by rw [List.append_assoc]; exact h1
    have h3 := blk_sets vs (pre ++ [v]) old h2 (by simpa using hl)
    rw [List.length_append, List.append_assoc] at h3
    exact h3
theorem blk9_set {w : World} {g : Nat} {t : TypeId} {u0 u1 u2 u3 u4 u5 u6 u7 u8 v0 v1 v2 v3 v4 v5 v6 v7 v8 : Value} (h : Blk w g t #[u0, u1, u2, u3, u4, u5, u6, u7, u8]) :
    Blk (w.setCells g 0 [v0, v1, v2, v3, v4, v5, v6, v7, v8]) g t #[v0, v1, v2, v3, v4, v5, v6, v7, v8] := by
  exact blk_sets [v0, v1, v2, v3, v4, v5, v6, v7, v8] [] [u0, u1, u2, u3, u4, u5, u6, u7, u8] h rfl
theorem low_sets {α : Type} {sz : Nat} {t : TypeId} {R : World → List Value → α → Prop} {A : Option Addr} {n c B B' H : Nat} {l : List α} {xs : List Value} : ∀ (vs : List Value) (i : Nat) {w : World}, LOw sz t R w B B' A n c l xs → H < B → H < B' → LOw sz t R (w.setCells H i vs) B B' A n c l xs
  | [], _, _, h, _, _ => h
  | v :: vs, i, _, h, h1, h2 => low_sets vs (i + 1) (h.set h1 h2 v) h1 h2
theorem below_sets {B H : Nat} {w : World} : ∀ (vs : List Value) (i : Nat) {w' : World}, Below B w w' → B ≤ H → Below B w (w'.setCells H i vs)
  | [], _, _, h, _ => h
  | v :: vs, i, _, h, h1 => below_sets vs (i + 1) (h.setCell h1 v) h1
/-- Attributes of one's own: all that lies behind them lies from b on. -/
def AtO (b : Nat) (w : World) (x : AT) (v : Value) : Prop := ∃ A n c xs B m d, v = atV x.has x.org A n c x.hop x.med x.pref x.aas x.aid B m d ∧ LOw 2 133 sgR w b b A n c x.path xs ∧ FrB b none (fun w => U32s w B m d x.comms) w
/-- Attributes wherever they lie. -/
def AtR (w : World) (x : AT) (v : Value) : Prop := ∃ A n c B m d, v = atV x.has x.org A n c x.hop x.med x.pref x.aas x.aid B m d ∧ LstAt 2 sgR w A n c x.path ∧ U32s w B m d x.comms
theorem AtO.rd {b : Nat} {w : World} {x : AT} {v : Value} (h : AtO b w x v) : AtR w x v := by
  obtain ⟨A, n, c, xs, B, m, d, e, h1, h2⟩ := h
  exact ⟨A, n, c, B, m, d, e, h1.lst (by decide), h2.here⟩
theorem AtR.below {w w' : World} {x : AT} {v : Value} (h : AtR w x v) (hb : Below w.heap.size w w') : AtR w' x v := by
  obtain ⟨A, n, c, B, m, d, e, h1, h2⟩ := h
  exact ⟨A, n, c, B, m, d, e, h1.below sgMono hb, h2.below hb⟩
theorem AtO.below {b : Nat} {w w' : World} {x : AT} {v : Value} (h : AtO b w x v) (hb : Below w.heap.size w w') : AtO b w' x v := by
  obtain ⟨A, n, c, xs, B, m, d, e, h1, h2⟩ := h
  exact ⟨A, n, c, xs, B, m, d, e, h1.below hb, h2.below hb⟩
theorem AtO.less {b b' : Nat} {w : World} {x : AT} {v : Value} (h : AtO b w x v) (hl : b' ≤ b) : AtO b' w x v := by
  obtain ⟨A, n, c, xs, B, m, d, e, h1, h2⟩ := h
  exact ⟨A, n, c, xs, B, m, d, e, h1.less hl hl, h2.less hl⟩
theorem AtO.set_ {b H i : Nat} {w : World} {x : AT} {v : Value} (h : AtO b w x v) (hH : H < b) (u : Value) : AtO b (w.setCell ⟨H, i, none⟩ u) x v := by
  obtain ⟨A, n, c, xs, B, m, d, e, h1, h2⟩ := h
  exact ⟨A, n, c, xs, B, m, d, e, h1.set hH hH u, h2.set (p := ⟨H, i, none⟩) hH u⟩
theorem AtO.sets {b H : Nat} {x : AT} {v : Value} : ∀ (vs : List Value) (i : Nat) {w : World}, AtO b w x v → H < b → AtO b (w.setCells H i vs) x v
  | [], _, _, h, _ => h
  | u :: vs, i, _, h, h1 => AtO.sets vs (i + 1) (h.set_ h1 u) h1
def AtP (x : AT) (w : World) (e : Ending) (w' : World) : Prop := ∃ v, e = .returned v ∧ AtO w.heap.size w' x v ∧ Below w.heap.size w w'
end Go.Proofs.YtcinjckajnnhmaaGreat
set_option linter.unusedSimpArgs false
set_option linter.unusedVariables false
namespace Go.Proofs.YtcinjckajnnhmaaGreat
open Go.RowKit Go.WideShapes Go.ChangeShapes
attribute [local go_sem] Oper.semAt_some
def cutSG (x : SG) : SG := ⟨x.k, x.r.take 300⟩
def cutP (l : List SG) : List SG := (l.take 12).map cutSG
set_option maxRecDepth 100000 in
set_option maxHeartbeats 8000000 in
theorem pathFew_any (A : Option Addr) (n c : Nat) (l : List SG) (w : World) (h : LstAt 2 sgR w A n c l) :
    Calls Tryz.prog 134 #[.slice A n c] w (SegP (cutP l) w) := by
  obtain ⟨i0, hi, hz0, hz1, hz2⟩ := info_parts segInfo
  have hln := h.1
  have hnc := h.2.1
  have hmx := h.2.2.1
  unfold maxLen at hmx
  have HLs := hide h
  have HL0 : Hid (LOw 2 133 sgR (w.alloc (.cells #[] 133)) w.heap.size w.heap.size (some ⟨w.heap.size, 0, none⟩) 0 0 [] []) := hide ⟨w.ownsRow_lit #[] 0 (Nat.le_refl _) (by unfold maxLen; omega) rfl, by simp, fun k x hk => by simp at hk⟩
  have HB0 : Hid (Below w.heap.size w (w.alloc (.cells #[] 133))) := hide ((Below.refl _ w).alloc (Nat.le_refl _) _)
  clear h
  go_enter Tryz.func134, Tryz.ntmps134
  go_wp2
  go_loopw [3, 4] (fun vo iv wr => ∃ (q : Nat) (A1 : Option Addr) (n1 c1 : Nat) (xs : List Value), q ≤ n ∧ q ≤ 12 ∧ iv = .int .i64 (q : Nat) ∧ vo = .slice A1 n1 c1 ∧ LOw 2 133 sgR wr w.heap.size w.heap.size A1 n1 c1 ((l.take q).map cutSG) xs ∧ Below w.heap.size w wr) (fun _ iv _ => n - (intOf iv).toNat)
  case atStart => exact ⟨0, some ⟨w.heap.size, 0, none⟩, 0, 0, [], Nat.zero_le _, Nat.zero_le _, rfl, rfl, HL0.out, HB0.out⟩
  case round =>
    obtain ⟨q, A1, n1, c1, xs, hq, hq12, rfl, rfl, hlo, hbel⟩ := hrel
    have HLo := hide hlo
    have HBe := hide hbel
    have hs1 := hbel.size
    have hn1 := (hlo.lst (by decide)).1
    rw [List.length_map, List.length_take] at hn1
    by_cases hlt : q < n ∧ q < 12
    · obtain ⟨hlt, hl12⟩ := hlt
      obtain ⟨g, o, b, Bq, m, d, r, rfl, hg, hx, hr, hc0, hc1⟩ := SGat (HLs.out.below sgMono hbel) hlt
      obtain ⟨RT, hRT⟩ : ∃ RT, r.take 300 = RT := ⟨_, rfl⟩
      have HE : Hid ((l.take (q + 1)).map cutSG = (l.take q).map cutSG ++ [⟨b, RT⟩]) := hide (by rw [List.take_add_one, hx, ← hRT]; simp [cutSG])
      have HZ0 := hide hc0
      have HZ1 := hide hc1
      have HUr := hide hr
      have HRT := hide hRT
      have HRb : Hid (∀ y ∈ RT, y < 4294967296) := hide (by rw [← hRT]; exact fun y hy => hr.2.2.2.1 y (List.mem_of_mem_take hy))
      have q1 : (q : Int) < (n : Int) := by omega
      have q2 : (q : Int) < 12 := by omega
      have q0 : (0 : Int) ≤ (q : Int) := by omega
      have hwq : IntKind.i64.wrap ((q : Int) + 1) = (q : Int) + 1 := by rw [IntKind.wrap_i64]; omega
      clear hlo hbel hx hr hc0 hc1 hRT
      go_wp2
      have Hmn := hide (show AllMono [(fun v _ => v = Value.slice A1 n1 c1), (fun v _ => v = .slice (some ⟨g, o, none⟩) n c), (fun v _ => v = .int .i64 (q : Int)), (fun v _ => v = .pointer (some ⟨g, o + q * 2, none⟩)), (fun v _ => v = .pointer (some ⟨g, o + q * 2, none⟩)), (fun v _ => v = .int .i64 b), (fun v _ => v = .slice (some ⟨g, o, none⟩) n c), (fun v _ => v = .int .i64 (q : Int)), (fun v _ => v = .pointer (some ⟨g, o + q * 2, none⟩)), (fun v _ => v = .pointer (some ⟨g, o + q * 2 + 1, none⟩)), (fun v _ => v = Value.slice Bq m d), (fun v W2 => ∃ A c, v = Value.slice A RT.length c ∧ W2.ownsRow wr.heap.size 22 1 (.slice A RT.length c) RT.length (u32c RT)), (fun v W2 => ∃ A c, v = .agg #[.int .i64 b, .slice A RT.length c] ∧ W2.ownsRow wr.heap.size 22 1 (.slice A RT.length c) RT.length (u32c RT)), (fun v W2 => ∃ R A c, v = .slice (some ⟨R, 0, none⟩) 1 1 ∧ Blk W2 R 133 #[.int .i64 b, .slice A RT.length c] ∧ W2.ownsRow wr.heap.size 22 1 (.slice A RT.length c) RT.length (u32c RT))] from ⟨fun _ _ _ _ h => h, fun _ _ _ _ h => h, fun _ _ _ _ h => h, fun _ _ _ _ h => h, fun _ _ _ _ h => h, fun _ _ _ _ h => h, fun _ _ _ _ h => h, fun _ _ _ _ h => h, fun _ _ _ _ h => h, fun _ _ _ _ h => h, fun _ _ _ _ h => h, fun v w2 w3 hb ⟨A, c, e, h⟩ => ⟨A, c, e, own_below h hb⟩, fun v w2 w3 hb ⟨A, c, e, h⟩ => ⟨A, c, e, own_below h hb⟩, fun v w2 w3 hb ⟨R, A, c, e, h1, h3⟩ => ⟨R, A, c, e, h1.below hb h1.lt, own_below h3 hb⟩, trivial⟩)
      refine wp_region_relT 14 _ (by kernel_rfl) (by kernel_rfl) (by kernel_rfl) (by kernel_rfl) (by kernel_rfl) (relMono _ Hmn.out) ⟨?_, ?_, ?_, ?_, ?_, ?_, ?_, ?_, ?_, ?_, ?_, ?_, ?_, ?_, trivial⟩ ?_
      · refine relStep_plain rfl ?_
        intro Ac w5 hp
        have hb := hp.bel
        have a3 : Ac.eval (.tmp 3) = Value.slice A1 n1 c1 := hp.out 3 (by rfl)
        have hc := evalC Ac; have hf := evalF Ac; have hgl := evalG Ac
        obtain ⟨ρ, hρ⟩ : ∃ ρ, Ac.eval = ρ := ⟨_, rfl⟩
        rw [hρ] at a3 hc hf hgl
        exact relPure hρ (Value.slice A1 n1 c1) (by simp [go_sem, hc, hf, hgl, ↓IntWalk.iteOmega, a3, *]) rfl
      · refine relStep_plain rfl ?_
        intro Ac w5 hp
        have hb := hp.bel
        have a0 : Ac.eval (.tmp 0) = .slice (some ⟨g, o, none⟩) n c := hp.out 0 (by rfl)
        have hc := evalC Ac; have hf := evalF Ac; have hgl := evalG Ac
        obtain ⟨ρ, hρ⟩ : ∃ ρ, Ac.eval = ρ := ⟨_, rfl⟩
        rw [hρ] at a0 hc hf hgl
        exact relPure hρ (.slice (some ⟨g, o, none⟩) n c) (by simp [go_sem, hc, hf, hgl, ↓IntWalk.iteOmega, a0, *]) rfl
      · refine relStep_plain rfl ?_
        intro Ac w5 hp
        have hb := hp.bel
        have a4 : Ac.eval (.tmp 4) = .int .i64 (q : Int) := hp.out 4 (by rfl)
        have hc := evalC Ac; have hf := evalF Ac; have hgl := evalG Ac
        obtain ⟨ρ, hρ⟩ : ∃ ρ, Ac.eval = ρ := ⟨_, rfl⟩
        rw [hρ] at a4 hc hf hgl
        exact relPure hρ (.int .i64 (q : Int)) (by simp [go_sem, hc, hf, hgl, ↓IntWalk.iteOmega, a4, *]) rfl
      · refine relStep_plain rfl ?_
        intro Ac w5 hp
        have hb := hp.bel
        have a17 : Ac.eval (.tmp 17) = .slice (some ⟨g, o, none⟩) n c := hp.dep 1 (by kernel_rfl)
        have a18 : Ac.eval (.tmp 18) = .int .i64 (q : Int) := hp.dep 2 (by kernel_rfl)
        have hc := evalC Ac; have hf := evalF Ac; have hgl := evalG Ac
        obtain ⟨ρ, hρ⟩ : ∃ ρ, Ac.eval = ρ := ⟨_, rfl⟩
        rw [hρ] at a17 a18 hc hf hgl
        exact relPure hρ (.pointer (some ⟨g, o + q * 2, none⟩)) (by simp [go_sem, hc, hf, hgl, ↓IntWalk.iteOmega, a17, a18, *]) rfl
      · refine relStep_plain rfl ?_
        intro Ac w5 hp
        have hb := hp.bel
        have a19 : Ac.eval (.tmp 19) = .pointer (some ⟨g, o + q * 2, none⟩) := hp.dep 3 (by kernel_rfl)
        have hc := evalC Ac; have hf := evalF Ac; have hgl := evalG Ac
        obtain ⟨ρ, hρ⟩ : ∃ ρ, Ac.eval = ρ := ⟨_, rfl⟩
        rw [hρ] at a19 hc hf hgl
        exact relPure hρ (.pointer (some ⟨g, o + q * 2, none⟩)) (by simp [go_sem, hc, hf, hgl, ↓IntWalk.iteOmega, a19, *]) rfl
      · refine relStep_plain rfl ?_
        intro Ac w5 hp
        have hb := hp.bel
        have a20 : Ac.eval (.tmp 20) = .pointer (some ⟨g, o + q * 2, none⟩) := hp.dep 4 (by kernel_rfl)
        have z0 : w5.cell? ⟨g, o + q * 2, none⟩ = some (.int .i64 b) := (hb.cell hg).trans HZ0.out
        have hc := evalC Ac; have hf := evalF Ac; have hgl := evalG Ac
        obtain ⟨ρ, hρ⟩ : ∃ ρ, Ac.eval = ρ := ⟨_, rfl⟩
        rw [hρ] at a20 hc hf hgl
        exact relPure hρ (.int .i64 b) (by simp [go_sem, hc, hf, hgl, ↓IntWalk.iteOmega, a20, *]) rfl
      · refine relStep_plain rfl ?_
        intro Ac w5 hp
        have hb := hp.bel
        have a0 : Ac.eval (.tmp 0) = .slice (some ⟨g, o, none⟩) n c := hp.out 0 (by rfl)
        have hc := evalC Ac; have hf := evalF Ac; have hgl := evalG Ac
        obtain ⟨ρ, hρ⟩ : ∃ ρ, Ac.eval = ρ := ⟨_, rfl⟩
        rw [hρ] at a0 hc hf hgl
        exact relPure hρ (.slice (some ⟨g, o, none⟩) n c) (by simp [go_sem, hc, hf, hgl, ↓IntWalk.iteOmega, a0, *]) rfl
      · refine relStep_plain rfl ?_
        intro Ac w5 hp
        have hb := hp.bel
        have a4 : Ac.eval (.tmp 4) = .int .i64 (q : Int) := hp.out 4 (by rfl)
        have hc := evalC Ac; have hf := evalF Ac; have hgl := evalG Ac
        obtain ⟨ρ, hρ⟩ : ∃ ρ, Ac.eval = ρ := ⟨_, rfl⟩
        rw [hρ] at a4 hc hf hgl
        exact relPure hρ (.int .i64 (q : Int)) (by simp [go_sem, hc, hf, hgl, ↓IntWalk.iteOmega, a4, *]) rfl
      · refine relStep_plain rfl ?_
        intro Ac w5 hp
        have hb := hp.bel
        have a22 : Ac.eval (.tmp 22) = .slice (some ⟨g, o, none⟩) n c := hp.dep 6 (by kernel_rfl)
        have a23 : Ac.eval (.tmp 23) = .int .i64 (q : Int) := hp.dep 7 (by kernel_rfl)
        have hc := evalC Ac; have hf := evalF Ac; have hgl := evalG Ac
        obtain ⟨ρ, hρ⟩ : ∃ ρ, Ac.eval = ρ := ⟨_, rfl⟩
        rw [hρ] at a22 a23 hc hf hgl
        exact relPure hρ (.pointer (some ⟨g, o + q * 2, none⟩)) (by simp [go_sem, hc, hf, hgl, ↓IntWalk.iteOmega, a22, a23, *]) rfl
      · refine relStep_plain rfl ?_
        intro Ac w5 hp
        have hb := hp.bel
        have a24 : Ac.eval (.tmp 24) = .pointer (some ⟨g, o + q * 2, none⟩) := hp.dep 8 (by kernel_rfl)
        have hc := evalC Ac; have hf := evalF Ac; have hgl := evalG Ac
        obtain ⟨ρ, hρ⟩ : ∃ ρ, Ac.eval = ρ := ⟨_, rfl⟩
        rw [hρ] at a24 hc hf hgl
        exact relPure hρ (.pointer (some ⟨g, o + q * 2 + 1, none⟩)) (by simp [go_sem, hc, hf, hgl, ↓IntWalk.iteOmega, a24, *]) rfl
      · refine relStep_plain rfl ?_
        intro Ac w5 hp
        have hb := hp.bel
        have a25 : Ac.eval (.tmp 25) = .pointer (some ⟨g, o + q * 2 + 1, none⟩) := hp.dep 9 (by kernel_rfl)
        have z1 : w5.cell? ⟨g, o + q * 2 + 1, none⟩ = some (.slice Bq m d) := (hb.cell hg).trans HZ1.out
        have hc := evalC Ac; have hf := evalF Ac; have hgl := evalG Ac
        obtain ⟨ρ, hρ⟩ : ∃ ρ, Ac.eval = ρ := ⟨_, rfl⟩
        rw [hρ] at a25 hc hf hgl
        exact relPure hρ (Value.slice Bq m d) (by simp [go_sem, hc, hf, hgl, ↓IntWalk.iteOmega, a25, *]) rfl
      · refine relStep_plain rfl ?_
        intro Ac w5 hp
        have hb := hp.bel
        have a26 : Ac.eval (.tmp 26) = Value.slice Bq m d := hp.dep 10 (by kernel_rfl)
        have hc := evalC Ac; have hf := evalF Ac; have hgl := evalG Ac
        obtain ⟨ρ, hρ⟩ : ∃ ρ, Ac.eval = ρ := ⟨_, rfl⟩
        rw [hρ] at a26 hc hf hgl
        refine relCall hρ 135 #[Value.slice Bq m d, .int .i64 300] (by simp [go_sem, hc, hf, hgl, ↓IntWalk.iteOmega, a26, *]) ?_
        refine (few_any Bq m d r 300 (by decide) w5 (HUr.out.below hb)).mono ?_
        rintro e w6 ⟨v6, rfl, ho6, hb6⟩
        rw [HRT.out] at ho6
        obtain ⟨A6, c6, rfl⟩ := own_slice ho6
        exact ⟨_, rfl, ⟨A6, c6, rfl, own_baseLe ho6 hb.size⟩, hb6⟩
      · refine relStep_plain rfl ?_
        intro Ac w5 hp
        have hb := hp.bel
        have a21 : Ac.eval (.tmp 21) = .int .i64 b := hp.dep 5 (by kernel_rfl)
        obtain ⟨A27, c27, a27, ho27⟩ := hp.dep 11 (by kernel_rfl)
        change Ac.eval (.tmp 27) = _ at a27
        have hc := evalC Ac; have hf := evalF Ac; have hgl := evalG Ac
        obtain ⟨ρ, hρ⟩ : ∃ ρ, Ac.eval = ρ := ⟨_, rfl⟩
        rw [hρ] at a21 a27 hc hf hgl
        exact relPure hρ (.agg #[.int .i64 b, .slice A27 RT.length c27]) (by simp [go_sem, hc, hf, hgl, ↓IntWalk.iteOmega, a21, a27, *]) ⟨A27, c27, rfl, ho27⟩
      · refine relStep_plain rfl ?_
        intro Ac w5 hp
        have hb := hp.bel
        obtain ⟨A28, c28, a28, ho28⟩ := hp.dep 12 (by kernel_rfl)
        change Ac.eval (.tmp 28) = _ at a28
        have hc := evalC Ac; have hf := evalF Ac; have hgl := evalG Ac
        obtain ⟨ρ, hρ⟩ : ∃ ρ, Ac.eval = ρ := ⟨_, rfl⟩
        rw [hρ] at a28 hc hf hgl
        exact relVal hρ (.slice (some ⟨w5.heap.size, 0, none⟩) 1 1) (w5.alloc (.cells #[.int .i64 b, .slice A28 RT.length c28] 133)) (by simp [go_sem, hc, hf, hgl, ↓IntWalk.iteOmega, a28]) ⟨w5.heap.size, A28, c28, rfl, Blk.new w5 _ _, ho28.alloc _⟩ ((Below.refl _ _).alloc (Nat.le_refl _) _)
      intro u w8 hb7 hall
      have e16 : u 0 = Value.slice A1 n1 c1 := relAll_at hall (i := 0) (by decide +kernel)
      obtain ⟨R29, A29, c29, e29, hR29, ho29⟩ := relAll_at hall (i := 13) (by decide +kernel)
      change u 13 = _ at e29
      clear hall
      simp only [List.drop_succ_cons, List.drop_zero, List.take_succ_cons, List.take_zero, putAll, Act.put, List.setIfInBounds_toArray, List.set_cons_zero, List.set_cons_succ, Nat.zero_add, Nat.reduceAdd, e16, e29]
      have hsw := hb7.size
      have HLo8 := hide (HLo.out.below hb7)
      have HB8 := hide (HBe.out.trans (hb7.mono hs1))
      refine wpList_append_any w8 rfl (.tmp 16) (.tmp 29) 25 rfl w.heap.size 133 i0 _ 2 32 Tryz.underlying25 hi hz0 hz1 hz2 rfl (by decide) (.slice A1 n1 c1) n1 xs rfl HLo8.out.1 w8.heap.size (some ⟨R29, 0, none⟩) 1 1 [.int .i64 b, .slice A29 RT.length c29] rfl (reads_blkN hR29 hR29.lt rfl rfl) (by simp [Value.oneCell']) (by unfold maxLen; omega) (by omega) (by omega) ?_
      intro v2 w9 h2 h3 h4
      obtain ⟨A4, c4, rfl, hlo4⟩ := LOw.push HLo8.out (chunk1_fr rfl (sg_fr ho29 HRb.out hs1 (fun k hk => own_block_lt HLo.out.1 k hk))) h2 h3 h4
      have HL9 := hide hlo4
      have HB9 := hide (HB8.out.grown h3 (by omega) (fun k hk => own_low_block HLo.out.1 k hk))
      clear hlo4 h2 h3 h4 hb7 hR29 ho29 e16 e29
      go_wp2
      go_roundw
      case rel => exact ⟨q + 1, A4, n1 + 1, c4, _, by omega, by omega, by go_num, rfl, by rw [HE.out]; exact HL9.out, HB9.out⟩
      case measure => simp [intOf]; omega
    · have HF : Hid (LOw 2 133 sgR wr w.heap.size w.heap.size A1 n1 c1 (cutP l) xs) := hide (by
        have e : l.take q = l.take 12 := by
          by_cases h12 : q = 12
          · rw [h12]
          · rw [List.take_of_length_le (by omega), List.take_of_length_le (by omega)]
        rw [e] at hlo
        exact hlo)
      clear hlo hbel
      by_cases hqn : q < n
      · have e1 : decide ((q : Int) < (n : Int)) = true := decide_eq_true (by omega)
        have e2 : decide ((q : Int) < 12) = false := decide_eq_false (by omega)
        clear hlt
        go_wp2
        go_ret
        exact ⟨A1, n1, c1, xs, rfl, HF.out, HBe.out⟩
      · have e1 : decide ((q : Int) < (n : Int)) = false := decide_eq_false (by omega)
        clear hlt
        go_wp2
        go_ret
        exact ⟨A1, n1, c1, xs, rfl, HF.out, HBe.out⟩
end Go.Proofs.YtcinjckajnnhmaaGreat
set_option linter.unusedSimpArgs false
set_option linter.unusedVariables false
namespace Go.Proofs.YtcinjckajnnhmaaGreat
open Go.RowKit Go.WideShapes Go.ChangeShapes
attribute [local go_sem] Oper.semAt_some
theorem exec_store {P : Program} {ρ : Operand → Value} {o : Oper} {t : TypeId} {a v : Operand} (ho : o.op = .store t a v) {x y : Value} (ha : ρ a = x) (hv : ρ v = y) {w w' : World} (h : (Instr.storeAt t x y).run P w = .ok () w') : (execOp ρ o).run P w = .ok .skip w' := by
  unfold execOp
  rw [ho]
  simp only [ha, hv, Sem.run_bind, h, Result.andThen_ok]
  rfl
end Go.Proofs.YtcinjckajnnhmaaGreat
set_option linter.unusedSimpArgs false
set_option linter.unusedVariables false
namespace Go.Proofs.YtcinjckajnnhmaaGreat
open Go.RowKit Go.WideShapes Go.ChangeShapes
attribute [local go_sem] Oper.semAt_some
def cutA (x : AT) : AT := ⟨x.has, x.org, cutP x.path, x.hop, x.med, x.pref, x.aas, x.aid, x.comms.take 260⟩
abbrev bxC (X : AT) (x2 x8 : Value) : Array Value := #[.int .i64 X.has, .int .i64 X.org, x2, .int .u32 X.hop, .int .u32 X.med, .int .u32 X.pref, .int .u32 X.aas, .int .u32 X.aid, x8]
def SlA (b : Nat) (P : List SG) (v : Value) (W : World) : Prop := ∃ A n c xs, v = .slice A n c ∧ LOw 2 133 sgR W b b A n c P xs
def SlB (b : Nat) (C : List Nat) (v : Value) (W : World) : Prop := ∃ B m d, v = .slice B m d ∧ FrB b none (fun w => U32s w B m d C) W
def BxA (H : Nat) (X : AT) (W : World) : Prop := ∃ x2 x8, Blk W H 28 (bxC X x2 x8) ∧ Blk W (H + 1) 28 zeroC
def StA (H b : Nat) (X : AT) (P : List SG) (W : World) : Prop := ∃ x2 x8, Blk W H 28 (bxC X x2 x8) ∧ Blk W (H + 1) 28 zeroC ∧ SlA b P x2 W
def StB (H b : Nat) (X : AT) (C : List Nat) (W : World) : Prop := ∃ x2 x8, Blk W H 28 (bxC X x2 x8) ∧ Blk W (H + 1) 28 zeroC ∧ SlB b C x8 W
section
variable {H b i : Nat} {X : AT} {P : List SG} {C : List Nat} {v u : Value} {W W' : World}
theorem SlA.below (h : SlA b P v W) (hb : Below W.heap.size W W') : SlA b P v W' := by
  obtain ⟨A, n, c, xs, e, hl⟩ := h
  exact ⟨A, n, c, xs, e, hl.below hb⟩
theorem SlB.below (h : SlB b C v W) (hb : Below W.heap.size W W') : SlB b C v W' := by
  obtain ⟨A, n, c, e, hl⟩ := h
  exact ⟨A, n, c, e, hl.below hb⟩
theorem SlA.setv (h : SlA b P v W) (hH : H < b) : SlA b P v (W.setCell ⟨H, i, none⟩ u) := by
  obtain ⟨A, n, c, xs, e, hl⟩ := h
  exact ⟨A, n, c, xs, e, hl.set hH hH u⟩
theorem SlB.setv (h : SlB b C v W) (hH : H < b) : SlB b C v (W.setCell ⟨H, i, none⟩ u) := by
  obtain ⟨A, n, c, e, hl⟩ := h
  exact ⟨A, n, c, e, hl.set (p := ⟨H, i, none⟩) hH u⟩
theorem BxA.lt_ (h : BxA H X W) : H < W.heap.size := by
  obtain ⟨x2, x8, h, _⟩ := h
  exact h.lt
theorem blk_up {t : TypeId} {cs : Array Value} (h : Blk W (H + 1) t cs) : Blk (W.setCell ⟨H, i, none⟩ u) (H + 1) t cs := h.far (p := ⟨H, i, none⟩) (by show H + 1 ≠ H; omega) u
theorem BxA.below (h : BxA H X W) (hb : Below W.heap.size W W') : BxA H X W' := by
  obtain ⟨x2, x8, h, hz⟩ := h
  exact ⟨x2, x8, h.below hb h.lt, hz.below hb hz.lt⟩
theorem BxA.set2 (h : BxA H X W) (u : Value) : BxA H X (W.setCell ⟨H, 2, none⟩ u) := by
  obtain ⟨x2, x8, h, hz⟩ := h
  exact ⟨u, x8, h.set_ 2 u, blk_up hz⟩
theorem BxA.set8 (h : BxA H X W) (u : Value) : BxA H X (W.setCell ⟨H, 8, none⟩ u) := by
  obtain ⟨x2, x8, h, hz⟩ := h
  exact ⟨x2, u, h.set_ 8 u, blk_up hz⟩
theorem StA.below (h : StA H b X P W) (hb : Below W.heap.size W W') : StA H b X P W' := by
  obtain ⟨x2, x8, h, hz, hs⟩ := h
  exact ⟨x2, x8, h.below hb h.lt, hz.below hb hz.lt, hs.below hb⟩
theorem StB.below (h : StB H b X C W) (hb : Below W.heap.size W W') : StB H b X C W' := by
  obtain ⟨x2, x8, h, hz, hs⟩ := h
  exact ⟨x2, x8, h.below hb h.lt, hz.below hb hz.lt, hs.below hb⟩
theorem StA.set8 (h : StA H b X P W) (hH : H < b) : StA H b X P (W.setCell ⟨H, 8, none⟩ u) := by
  obtain ⟨x2, x8, h, hz, hs⟩ := h
  exact ⟨x2, u, h.set_ 8 u, blk_up hz, hs.setv hH⟩
theorem StB.set2 (h : StB H b X C W) (hH : H < b) : StB H b X C (W.setCell ⟨H, 2, none⟩ u) := by
  obtain ⟨x2, x8, h, hz, hs⟩ := h
  exact ⟨u, x8, h.set_ 2 u, blk_up hz, hs.setv hH⟩
theorem st_both (h : StA H b X P W) (h' : StB H b X C W) : ∃ A n c xs B m d, Blk W H 28 (bxC X (.slice A n c) (.slice B m d)) ∧ Blk W (H + 1) 28 zeroC ∧ LOw 2 133 sgR W b b A n c P xs ∧ FrB b none (fun w => U32s w B m d C) W := by
  obtain ⟨x2, x8, h1, hz, A, n, c, xs, rfl, hl⟩ := h
  obtain ⟨y2, y8, h2, _, B, m, d, rfl, hu⟩ := h'
  have e := (h1.cell 8).symm.trans (h2.cell 8)
  simp only [List.getElem?_toArray, List.getElem?_cons_succ, List.getElem?_cons_zero, Option.some.injEq] at e
  subst e
  exact ⟨A, n, c, xs, B, m, d, h1, hz, hl, hu⟩
theorem cell_set_ne {j : Nat} (hne : i ≠ j) : (W.setCell ⟨H, i, none⟩ u).cell? ⟨H, j, none⟩ = W.cell? ⟨H, j, none⟩ := by
  refine World.cell?_setCell_other _ _ _ _ ?_
  intro e
  cases e
  exact hne rfl
/-- One cell of a box stored. -/
theorem st1A {tc : TypeId} {f n c : Nat} {A : Option Addr} {cs : Array Value} (h : Blk W H tc cs) (hf : cs[f]?.isSome = true) :
    (Instr.storeAt 25 (.pointer (some ⟨H, f, none⟩)) (.slice A n c)).run Tryz.prog W = .ok () (W.setCell ⟨H, f, none⟩ (.slice A n c)) := by
  have hc := h.cell f
  have hz := h.frozen f
  obtain ⟨x, hx⟩ := Option.isSome_iff_exists.1 hf
  rw [hx] at hc
  simp [go_sem, hc, hz]
theorem st1B {tc : TypeId} {f n c : Nat} {A : Option Addr} {cs : Array Value} (h : Blk W H tc cs) (hf : cs[f]?.isSome = true) :
    (Instr.storeAt 26 (.pointer (some ⟨H, f, none⟩)) (.slice A n c)).run Tryz.prog W = .ok () (W.setCell ⟨H, f, none⟩ (.slice A n c)) := by
  have hc := h.cell f
  have hz := h.frozen f
  obtain ⟨x, hx⟩ := Option.isSome_iff_exists.1 hf
  rw [hx] at hc
  simp [go_sem, hc, hz]
end
set_option maxRecDepth 100000 in
set_option maxHeartbeats 8000000 in
theorem attrsFew_any (X : AT) (v : Value) (w : World) (hv : AtR w X v) : Calls Tryz.prog 72 #[v] w (AtP (cutA X) w) := by
  obtain ⟨A, n, c, Bb, m, d, rfl, hP, hC⟩ := hv
  obtain ⟨w1, hw1⟩ : ∃ w1, ((w.alloc (.cells (bxC X (.slice A n c) (.slice Bb m d)) 28)).alloc (.cells zeroC 28)) = w1 := ⟨_, rfl⟩
  have hb1 : Below w.heap.size w w1 := hw1 ▸ ((Below.refl _ w).alloc (Nat.le_refl _) _).alloc (by simp) _
  have HKb : Hid (Blk w1 w.heap.size 28 (bxC X (.slice A n c) (.slice Bb m d))) := hide (hw1 ▸ (Blk.new w _ _).alloc _)
  have HKz : Hid (Blk w1 (w.heap.size + 1) 28 zeroC) := hide (hw1 ▸ blk_new' _ _ (by simp))
  have HLt : Hid (w.heap.size < w1.heap.size) := hide HKb.out.lt
  have HP := hide hP
  have HC := hide hC
  have HB1 := hide hb1
  have HW1 := hide hw1
  obtain ⟨PN, hPN⟩ : ∃ P, cutP X.path = P := ⟨_, rfl⟩
  obtain ⟨CN, hCN⟩ : ∃ C, X.comms.take 260 = C := ⟨_, rfl⟩
  have HCNb : Hid (∀ y ∈ CN, y < 4294967296) := hide (fun y hy => by rw [← hCN] at hy; exact hC.2.2.2.1 y (List.mem_of_mem_take hy))
  have HPN := hide hPN
  have HCN := hide hCN
  have HX : Hid (cutA X = ⟨X.has, X.org, PN, X.hop, X.med, X.pref, X.aas, X.aid, CN⟩) := hide (by unfold cutA; rw [hPN, hCN])
  clear hw1 hb1 hP hC hPN hCN
  go_enter Tryz.func72, Tryz.ntmps72
  go_upto_region 1 with fail
  rw [HW1.out]
  refine wp_region_relH 10 w.heap.size (Nat.le_of_lt HLt.out) [(fun v _ => v = .pointer (some ⟨w.heap.size, 2, none⟩)), (fun v _ => v = .slice A n c), (SlA w1.heap.size PN), (fun v _ => v = .pointer (some ⟨w.heap.size, 8, none⟩)), (fun v _ => v = .slice Bb m d), (SlB w1.heap.size CN), (fun v _ => v = .pointer (some ⟨w.heap.size, 2, none⟩)), (fun _ W => StA w.heap.size w1.heap.size X PN W ), (fun v _ => v = .pointer (some ⟨w.heap.size, 8, none⟩)), (fun _ W => StB w.heap.size w1.heap.size X CN W )] (fun i W => BxA w.heap.size X W ∧ (i = 1 → W.cell? ⟨w.heap.size, 2, none⟩ = some (.slice A n c)) ∧ (i = 4 → W.cell? ⟨w.heap.size, 8, none⟩ = some (.slice Bb m d))) (fun i Wa Wb => if i = 7 then ∃ v, Wb = Wa.setCell ⟨w.heap.size, 2, none⟩ v else if i = 9 then ∃ v, Wb = Wa.setCell ⟨w.heap.size, 8, none⟩ v else Below Wa.heap.size Wa Wb) (by kernel_rfl) (by kernel_rfl) (by kernel_rfl) (by kernel_rfl) (by kernel_rfl) ?hE ?hR ?hP ?h0 ⟨?_, ?_, ?_, ?_, ?_, ?_, ?_, ?_, ?_, ?_, trivial⟩ ?_
  case hE =>
    intro i2 wa wb hB he
    split at he
    · obtain ⟨u, rfl⟩ := he
      exact (Below.refl w.heap.size wa).setCell (p := ⟨w.heap.size, 2, none⟩) (Nat.le_refl _) u
    · split at he
      · obtain ⟨u, rfl⟩ := he
        exact (Below.refl w.heap.size wa).setCell (p := ⟨w.heap.size, 8, none⟩) (Nat.le_refl _) u
      · exact he.mono hB
  case hR =>
    intro i2 j2 v2 wa wb hij hB he h
    split at he
    · rename_i hj2
      subst hj2
      refine keepAll_at (E := fun wa wb => ∃ v, wb = wa.setCell ⟨w.heap.size, 2, none⟩ v) (x := 7) (k := 0) ?_ (by omega) he h
      exact ⟨fun _ v wa wb he h => h, fun _ v wa wb he h => h, fun _ v wa wb he h => by obtain ⟨u, rfl⟩ := he; exact SlA.setv h HLt.out, fun _ v wa wb he h => h, fun _ v wa wb he h => h, fun _ v wa wb he h => by obtain ⟨u, rfl⟩ := he; exact SlB.setv h HLt.out, fun _ v wa wb he h => h, fun hn => absurd rfl hn, fun _ v wa wb he h => h, fun _ v wa wb he h => by obtain ⟨u, rfl⟩ := he; exact StB.set2 h HLt.out, trivial⟩
    · split at he
      · rename_i hj2
        subst hj2
        refine keepAll_at (E := fun wa wb => ∃ v, wb = wa.setCell ⟨w.heap.size, 8, none⟩ v) (x := 9) (k := 0) ?_ (by omega) he h
        exact ⟨fun _ v wa wb he h => h, fun _ v wa wb he h => h, fun _ v wa wb he h => by obtain ⟨u, rfl⟩ := he; exact SlA.setv h HLt.out, fun _ v wa wb he h => h, fun _ v wa wb he h => h, fun _ v wa wb he h => by obtain ⟨u, rfl⟩ := he; exact SlB.setv h HLt.out, fun _ v wa wb he h => h, fun _ v wa wb he h => by obtain ⟨u, rfl⟩ := he; exact StA.set8 h HLt.out, fun _ v wa wb he h => h, fun hn => absurd rfl hn, trivial⟩
      · refine relMono _ ?_ i2 v2 wa wb he h
        exact ⟨fun _ _ _ _ h => h, fun _ _ _ _ h => h, fun v w2 w3 hb h => SlA.below h hb, fun _ _ _ _ h => h, fun _ _ _ _ h => h, fun v w2 w3 hb h => SlB.below h hb, fun _ _ _ _ h => h, fun v w1 w2 hb h => StA.below h hb, fun _ _ _ _ h => h, fun v w1 w2 hb h => StB.below h hb, trivial⟩
  case hP =>
    intro i2 j2 wa wb hij hnb hB he h
    split at he
    · rename_i hj2
      subst hj2
      obtain ⟨u, rfl⟩ := he
      refine ⟨h.1.set2 u, fun e => ?_, fun e => (cell_set_ne (by decide)).trans (h.2.2 e)⟩
      subst e
      exact absurd hnb (by decide +kernel)
    · split at he
      · rename_i hj2
        subst hj2
        obtain ⟨u, rfl⟩ := he
        refine ⟨h.1.set8 u, fun e => (cell_set_ne (by decide)).trans (h.2.1 e), fun e => ?_⟩
        subst e
        exact absurd hnb (by decide +kernel)
      · exact ⟨h.1.below he, fun e => (he.cell h.1.lt_).trans (h.2.1 e), fun e => (he.cell h.1.lt_).trans (h.2.2 e)⟩
  case h0 =>
    intro j2 hj2
    exact ⟨⟨_, _, HKb.out.drew, HKz.out.drew⟩, fun _ => HKb.out.cell 2, fun _ => HKb.out.cell 8⟩
  · refine relG_plain rfl rfl (fun _ _ h => h) ?_
    intro Ac w5 hp
    have hb := hp.bel
    have a1 : Ac.eval (.tmp 1) = .pointer (some ⟨w.heap.size, 0, none⟩) := hp.out 1 (by rfl)
    have hc := evalC Ac; have hf := evalF Ac; have hgl := evalG Ac
    obtain ⟨ρ, hρ⟩ : ∃ ρ, Ac.eval = ρ := ⟨_, rfl⟩
    rw [hρ] at a1 hc hf hgl
    exact relPure hρ (.pointer (some ⟨w.heap.size, 2, none⟩)) (by simp [go_sem, hc, hf, hgl, ↓IntWalk.iteOmega, a1, *]) rfl
  · refine relG_plain rfl rfl (fun _ _ h => h) ?_
    intro Ac w5 hp
    have hb := hp.bel
    have a3 : Ac.eval (.tmp 3) = .pointer (some ⟨w.heap.size, 2, none⟩) := hp.dep 0 (by kernel_rfl)
    have z2 := hp.pre.2.1 rfl
    have hc := evalC Ac; have hf := evalF Ac; have hgl := evalG Ac
    obtain ⟨ρ, hρ⟩ : ∃ ρ, Ac.eval = ρ := ⟨_, rfl⟩
    rw [hρ] at a3 hc hf hgl
    exact relPure hρ (.slice A n c) (by simp [go_sem, hc, hf, hgl, ↓IntWalk.iteOmega, a3, *]) rfl
  · refine relG_plain rfl rfl (fun _ _ h => h) ?_
    intro Ac w5 hp
    have hb := hp.bel
    have a4 : Ac.eval (.tmp 4) = .slice A n c := hp.dep 1 (by kernel_rfl)
    have hc := evalC Ac; have hf := evalF Ac; have hgl := evalG Ac
    obtain ⟨ρ, hρ⟩ : ∃ ρ, Ac.eval = ρ := ⟨_, rfl⟩
    rw [hρ] at a4 hc hf hgl
    refine relCall hρ 134 #[.slice A n c] (by simp [go_sem, hc, hf, hgl, ↓IntWalk.iteOmega, a4, *]) ?_
    refine (pathFew_any A n c X.path w5 (HP.out.below sgMono (HB1.out.trans hp.bel))).mono ?_
    intro e w6 hmv
    unfold SegP at hmv
    obtain ⟨A6, n6, c6, xs6, rfl, hl6, hb6⟩ := hmv
    rw [HPN.out] at hl6
    exact ⟨_, rfl, ⟨A6, n6, c6, xs6, rfl, hl6.less hp.bel.size hp.bel.size⟩, hb6⟩
  · refine relG_plain rfl rfl (fun _ _ h => h) ?_
    intro Ac w5 hp
    have hb := hp.bel
    have a1 : Ac.eval (.tmp 1) = .pointer (some ⟨w.heap.size, 0, none⟩) := hp.out 1 (by rfl)
    have hc := evalC Ac; have hf := evalF Ac; have hgl := evalG Ac
    obtain ⟨ρ, hρ⟩ : ∃ ρ, Ac.eval = ρ := ⟨_, rfl⟩
    rw [hρ] at a1 hc hf hgl
    exact relPure hρ (.pointer (some ⟨w.heap.size, 8, none⟩)) (by simp [go_sem, hc, hf, hgl, ↓IntWalk.iteOmega, a1, *]) rfl
  · refine relG_plain rfl rfl (fun _ _ h => h) ?_
    intro Ac w5 hp
    have hb := hp.bel
    have a6 : Ac.eval (.tmp 6) = .pointer (some ⟨w.heap.size, 8, none⟩) := hp.dep 3 (by kernel_rfl)
    have z8 := hp.pre.2.2 rfl
    have hc := evalC Ac; have hf := evalF Ac; have hgl := evalG Ac
    obtain ⟨ρ, hρ⟩ : ∃ ρ, Ac.eval = ρ := ⟨_, rfl⟩
    rw [hρ] at a6 hc hf hgl
    exact relPure hρ (.slice Bb m d) (by simp [go_sem, hc, hf, hgl, ↓IntWalk.iteOmega, a6, *]) rfl
  · refine relG_plain rfl rfl (fun _ _ h => h) ?_
    intro Ac w5 hp
    have hb := hp.bel
    have a7 : Ac.eval (.tmp 7) = .slice Bb m d := hp.dep 4 (by kernel_rfl)
    have hc := evalC Ac; have hf := evalF Ac; have hgl := evalG Ac
    obtain ⟨ρ, hρ⟩ : ∃ ρ, Ac.eval = ρ := ⟨_, rfl⟩
    rw [hρ] at a7 hc hf hgl
    refine relCall hρ 135 #[.slice Bb m d, .int .i64 (260 : Nat)] (by simp [go_sem, hc, hf, hgl, ↓IntWalk.iteOmega, a7, *]) ?_
    refine (few_any Bb m d X.comms 260 (by decide) w5 (HC.out.below (HB1.out.trans hp.bel))).mono ?_
    rintro e w6 ⟨v6, rfl, ho6, hb6⟩
    rw [HCN.out] at ho6
    obtain ⟨A6, c6, rfl⟩ := own_slice ho6
    exact ⟨_, rfl, ⟨A6, _, c6, rfl, own_u32_fr ho6 HCNb.out hp.bel.size (fun k hk => by cases hk)⟩, hb6⟩
  · refine relG_plain rfl rfl (fun _ _ h => h) ?_
    intro Ac w5 hp
    have hb := hp.bel
    have a1 : Ac.eval (.tmp 1) = .pointer (some ⟨w.heap.size, 0, none⟩) := hp.out 1 (by rfl)
    have hc := evalC Ac; have hf := evalF Ac; have hgl := evalG Ac
    obtain ⟨ρ, hρ⟩ : ∃ ρ, Ac.eval = ρ := ⟨_, rfl⟩
    rw [hρ] at a1 hc hf hgl
    exact relPure hρ (.pointer (some ⟨w.heap.size, 2, none⟩)) (by simp [go_sem, hc, hf, hgl, ↓IntWalk.iteOmega, a1, *]) rfl
  · refine relG_store rfl ?_
    intro Ac w5 hp
    have hb := hp.bel
    have a9 : Ac.eval (.tmp 9) = .pointer (some ⟨w.heap.size, 2, none⟩) := hp.dep 6 (by kernel_rfl)
    obtain ⟨A5, n5, c5, xs5, a5, hl5⟩ := hp.dep 2 (by kernel_rfl)
    change Ac.eval (.tmp 5) = _ at a5
    have a9 : Ac.eval (.tmp 9) = .pointer (some ⟨w.heap.size, 2, none⟩) := hp.dep 6 (by kernel_rfl)
    obtain ⟨A5, n5, c5, xs5, ec, hl5⟩ := hp.dep 2 (by kernel_rfl)
    change Ac.eval (.tmp 5) = _ at ec
    obtain ⟨x2, x8, hk, hz⟩ := hp.pre.1
    have HK := hide hk
    have HZ := hide (hz.far (p := ⟨w.heap.size, 2, none⟩) (by show w.heap.size + 1 ≠ w.heap.size; omega) (.slice A5 n5 c5))
    have HL := hide hl5
    clear hp
    refine ⟨w5.setCell ⟨w.heap.size, 2, none⟩ (.slice A5 n5 c5), .inl (exec_store rfl a9 ec (st1A HK.out rfl)), ?_, ⟨_, rfl⟩⟩
    exact ⟨_, x8, HK.out.set_ 2 _, HZ.out, ⟨A5, n5, c5, xs5, rfl, HL.out.set HLt.out HLt.out _⟩⟩
  · refine relG_plain rfl rfl (fun _ _ h => h) ?_
    intro Ac w5 hp
    have hb := hp.bel
    have a1 : Ac.eval (.tmp 1) = .pointer (some ⟨w.heap.size, 0, none⟩) := hp.out 1 (by rfl)
    have hc := evalC Ac; have hf := evalF Ac; have hgl := evalG Ac
    obtain ⟨ρ, hρ⟩ : ∃ ρ, Ac.eval = ρ := ⟨_, rfl⟩
    rw [hρ] at a1 hc hf hgl
    exact relPure hρ (.pointer (some ⟨w.heap.size, 8, none⟩)) (by simp [go_sem, hc, hf, hgl, ↓IntWalk.iteOmega, a1, *]) rfl
  · refine relG_store rfl ?_
    intro Ac w5 hp
    have hb := hp.bel
    have a10 : Ac.eval (.tmp 10) = .pointer (some ⟨w.heap.size, 8, none⟩) := hp.dep 8 (by kernel_rfl)
    obtain ⟨A8, n8, c8, a8, hu8⟩ := hp.dep 5 (by kernel_rfl)
    change Ac.eval (.tmp 8) = _ at a8
    have a10 : Ac.eval (.tmp 10) = .pointer (some ⟨w.heap.size, 8, none⟩) := hp.dep 8 (by kernel_rfl)
    obtain ⟨A8, n8, c8, ec, hu8⟩ := hp.dep 5 (by kernel_rfl)
    change Ac.eval (.tmp 8) = _ at ec
    obtain ⟨x2, x8, hk, hz⟩ := hp.pre.1
    have HK := hide hk
    have HZ := hide (hz.far (p := ⟨w.heap.size, 8, none⟩) (by show w.heap.size + 1 ≠ w.heap.size; omega) (.slice A8 n8 c8))
    have HL := hide hu8
    clear hp
    refine ⟨w5.setCell ⟨w.heap.size, 8, none⟩ (.slice A8 n8 c8), .inl (exec_store rfl a10 ec (st1B HK.out rfl)), ?_, ⟨_, rfl⟩⟩
    exact ⟨x2, _, HK.out.set_ 8 _, HZ.out, ⟨A8, n8, c8, rfl, HL.out.set (p := ⟨w.heap.size, 8, none⟩) HLt.out _⟩⟩
  intro u w7 hb7 hall
  have efin : StA w.heap.size w1.heap.size X PN w7  := relAll_at hall (i := 7) (by decide +kernel)
  have efin1 : StB w.heap.size w1.heap.size X CN w7  := relAll_at hall (i := 9) (by decide +kernel)
  clear hall
  simp only [List.drop_succ_cons, List.drop_zero, List.take_succ_cons, List.take_zero, putAll, Act.put, List.setIfInBounds_toArray, List.set_cons_zero, List.set_cons_succ, Nat.zero_add, Nat.reduceAdd, ]
  obtain ⟨A8, n8, c8, xs8, B8, m8, d8, hk, hz, hl, hu⟩ := st_both efin efin1
  have HK := hide hk
  have HZ := hide hz
  have HB7 := hide (HB1.out.trans hb7)
  have HO := hide (show AtO w1.heap.size w7 ⟨X.has, X.org, PN, X.hop, X.med, X.pref, X.aas, X.aid, CN⟩ (atV X.has X.org A8 n8 c8 X.hop X.med X.pref X.aas X.aid B8 m8 d8) from ⟨A8, n8, c8, xs8, B8, m8, d8, rfl, hl, hu⟩)
  rw [← HX.out] at HO
  have hlt : w.heap.size + 1 < w1.heap.size := HKz.out.lt
  clear efin efin1 hk hz hl hu hb7
  obtain ⟨a0, a1, a2, a3, a4, a5, a6, a7, a8⟩ := blk9 HK.out
  obtain ⟨z0, z1, z2, z3, z4, z5, z6, z7, z8⟩ := blk9 HZ.out
  have zf := fun i => HZ.out.frozen i
  go_wp2
  change bodyPost _ _ _ _ _ (w7.setCells (w.heap.size + 1) 0 [.int .i64 X.has, .int .i64 X.org, .slice A8 n8 c8, .int .u32 X.hop, .int .u32 X.med, .int .u32 X.pref, .int .u32 X.aas, .int .u32 X.aid, .slice B8 m8 d8])
  obtain ⟨wF, hwF⟩ : ∃ x, w7.setCells (w.heap.size + 1) 0 [.int .i64 X.has, .int .i64 X.org, .slice A8 n8 c8, .int .u32 X.hop, .int .u32 X.med, .int .u32 X.pref, .int .u32 X.aas, .int .u32 X.aid, .slice B8 m8 d8] = x := ⟨_, rfl⟩
  have HFk := hide (hwF ▸ blk9_set HZ.out : Blk wF (w.heap.size + 1) 28 (atC X.has X.org A8 n8 c8 X.hop X.med X.pref X.aas X.aid B8 m8 d8))
  have HFo := hide (hwF ▸ AtO.sets _ 0 HO.out hlt : AtO w1.heap.size wF (cutA X) (atV X.has X.org A8 n8 c8 X.hop X.med X.pref X.aas X.aid B8 m8 d8))
  have HFb := hide (hwF ▸ below_sets _ 0 HB7.out (by omega) : Below w.heap.size w wF)
  rw [hwF]
  clear hwF z0 z1 z2 z3 z4 z5 z6 z7 z8 zf a0 a1 a2 a3 a4 a5 a6 a7 a8
  obtain ⟨z0, z1, z2, z3, z4, z5, z6, z7, z8⟩ := blk9 HFk.out
  exact bodyPost_ret (v := atV X.has X.org A8 n8 c8 X.hop X.med X.pref X.aas X.aid B8 m8 d8) (by simp [results, Tryz.results72, go_sem, z0, z1, z2, z3, z4, z5, z6, z7, z8]) rfl ⟨_, rfl, HFo.out.less (b' := w.heap.size) (by omega), HFb.out⟩
end Go.Proofs.YtcinjckajnnhmaaGreat
set_option linter.unusedSimpArgs false
set_option linter.unusedVariables false
namespace Go.Proofs.YtcinjckajnnhmaaGreat
open Go.RowKit Go.WideShapes Go.ChangeShapes
attribute [local go_sem] Oper.semAt_some
theorem blk16 {w : World} {g : Nat} {t : TypeId} {v0 v1 v2 v3 v4 v5 v6 v7 v8 v9 v10 v11 v12 v13 v14 v15 : Value} (h : Blk w g t #[v0, v1, v2, v3, v4, v5, v6, v7, v8, v9, v10, v11, v12, v13, v14, v15]) :
    w.cell? ⟨g, 0, none⟩ = some v0 ∧ w.cell? ⟨g, 1, none⟩ = some v1 ∧ w.cell? ⟨g, 2, none⟩ = some v2 ∧ w.cell? ⟨g, 3, none⟩ = some v3 ∧ w.cell? ⟨g, 4, none⟩ = some v4 ∧ w.cell? ⟨g, 5, none⟩ = some v5 ∧ w.cell? ⟨g, 6, none⟩ = some v6 ∧ w.cell? ⟨g, 7, none⟩ = some v7 ∧ w.cell? ⟨g, 8, none⟩ = some v8 ∧ w.cell? ⟨g, 9, none⟩ = some v9 ∧ w.cell? ⟨g, 10, none⟩ = some v10 ∧ w.cell? ⟨g, 11, none⟩ = some v11 ∧ w.cell? ⟨g, 12, none⟩ = some v12 ∧ w.cell? ⟨g, 13, none⟩ = some v13 ∧ w.cell? ⟨g, 14, none⟩ = some v14 ∧ w.cell? ⟨g, 15, none⟩ = some v15 :=
  ⟨h.cell 0, h.cell 1, h.cell 2, h.cell 3, h.cell 4, h.cell 5, h.cell 6, h.cell 7, h.cell 8, h.cell 9, h.cell 10, h.cell 11, h.cell 12, h.cell 13, h.cell 14, h.cell 15⟩
abbrev rtC (pa pl h o : Int) (A : Option Addr) (n c : Nat) (hp md pf aa ai : Int) (B : Option Addr) (m d : Nat) (rp ra ri : Int) (inn loc : Bool) : Array Value :=
  #[.int .u32 pa, .int .i64 pl, .int .i64 h, .int .i64 o, .slice A n c, .int .u32 hp, .int .u32 md, .int .u32 pf, .int .u32 aa, .int .u32 ai, .slice B m d, .int .u32 rp, .int .u32 ra, .int .u32 ri, .bool inn, .bool loc]
end Go.Proofs.YtcinjckajnnhmaaGreat
set_option linter.unusedSimpArgs false
set_option linter.unusedVariables false
namespace Go.Proofs.YtcinjckajnnhmaaGreat
open Go.RowKit Go.WideShapes Go.ChangeShapes
attribute [local go_sem] Oper.semAt_some
/-- A route, its attributes wherever they lie. -/
structure RT where
  pa : Int
  pl : Int
  at_ : AT
  A : Option Addr
  n : Nat
  c : Nat
  B : Option Addr
  m : Nat
  d : Nat
  rp : Int
  ra : Int
  ri : Int
  inn : Bool
  loc : Bool
abbrev rtV (r : RT) : Array Value := rtC r.pa r.pl r.at_.has r.at_.org r.A r.n r.c r.at_.hop r.at_.med r.at_.pref r.at_.aas r.at_.aid r.B r.m r.d r.rp r.ra r.ri r.inn r.loc
theorem blk_sets_far {g H : Nat} {t : TypeId} {cs : Array Value} (hne : g ≠ H) : ∀ (vs : List Value) (i : Nat) {w : World}, Blk w g t cs → Blk (w.setCells H i vs) g t cs
  | [], _, _, h => h
  | v :: vs, i, _, h => blk_sets_far hne vs (i + 1) (h.far (p := ⟨H, i, none⟩) hne v)
/-- What lies behind attributes at these addresses, from b on. -/
def PU (b : Nat) (w : World) (A : Option Addr) (n c : Nat) (B : Option Addr) (m d : Nat) (P : List SG) (C : List Nat) : Prop := (∃ xs, LOw 2 133 sgR w b b A n c P xs) ∧ FrB b none (fun w => U32s w B m d C) w
section
variable {b H : Nat} {w w' : World} {A : Option Addr} {n c : Nat} {B : Option Addr} {m d : Nat} {P : List SG} {C : List Nat}
theorem PU.below (h : PU b w A n c B m d P C) (hb : Below w.heap.size w w') : PU b w' A n c B m d P C := by
  obtain ⟨⟨xs, h1⟩, h2⟩ := h
  exact ⟨⟨xs, h1.below hb⟩, h2.below hb⟩
theorem PU.set_ {i : Nat} (h : PU b w A n c B m d P C) (hH : H < b) (v : Value) : PU b (w.setCell ⟨H, i, none⟩ v) A n c B m d P C := by
  obtain ⟨⟨xs, h1⟩, h2⟩ := h
  exact ⟨⟨xs, h1.set hH hH v⟩, h2.set (p := ⟨H, i, none⟩) hH v⟩
theorem PU.less {b' : Nat} (h : PU b w A n c B m d P C) (hl : b' ≤ b) : PU b' w A n c B m d P C := by
  obtain ⟨⟨xs, h1⟩, h2⟩ := h
  exact ⟨⟨xs, h1.less hl hl⟩, h2.less hl⟩
theorem PU.lst (h : PU b w A n c B m d P C) : LstAt 2 sgR w A n c P := by obtain ⟨⟨xs, h1⟩, h2⟩ := h; exact h1.lst (by decide)
theorem PU.u32 (h : PU b w A n c B m d P C) : U32s w B m d C := h.2.here
end
theorem PU.sets {b H : Nat} {A : Option Addr} {n c : Nat} {B : Option Addr} {m d : Nat} {P : List SG} {C : List Nat} : ∀ (vs : List Value) (i : Nat) {w : World}, PU b w A n c B m d P C → H < b → PU b (w.setCells H i vs) A n c B m d P C
  | [], _, _, h, _ => h
  | v :: vs, i, _, h, h1 => PU.sets vs (i + 1) (h.set_ h1 v) h1
end Go.Proofs.YtcinjckajnnhmaaGreat
set_option linter.unusedSimpArgs false
set_option linter.unusedVariables false
namespace Go.Proofs.YtcinjckajnnhmaaGreat
open Go.RowKit Go.WideShapes Go.ChangeShapes
attribute [local go_sem] Oper.semAt_some
theorem low_litF (Bq : Nat) (w : World) : LOw 2 133 sgR (w.alloc (.cells #[] 133)) w.heap.size Bq (some ⟨w.heap.size, 0, none⟩) 0 0 [] [] :=
  ⟨w.ownsRow_lit #[] 0 (Nat.le_refl _) (by unfold maxLen; omega) rfl, by simp, fun k x hk => by simp at hk⟩
end Go.Proofs.YtcinjckajnnhmaaGreat
set_option linter.unusedSimpArgs false
set_option linter.unusedVariables false
namespace Go.Proofs.YtcinjckajnnhmaaGreat
open Go.RowKit Go.WideShapes Go.ChangeShapes
attribute [local go_sem] Oper.semAt_some
set_option maxRecDepth 100000 in
theorem cloneE_seg (A : Option Addr) (c : Nat) (w : World) : Calls Tryz.prog 217 #[.slice A 0 c] w (SegP [] w) := by
  have hnil := fun w => Lib.run_eql_slice_nil (P := Tryz.prog) w
  cases A with
  | none =>
    go_enter Tryz.func217, Tryz.ntmps217
    go_wp2
    go_ret
    exact ⟨none, 0, 0, [], rfl, LOw.nil, Below.refl _ _⟩
  | some a =>
    have HB := hide ((Below.refl w.heap.size w).alloc (Nat.le_refl _) (.cells #[] 133))
    have HL := hide (low_litF w.heap.size w)
    go_enter Tryz.func217, Tryz.ntmps217
    go_wp2
    go_ret
    exact ⟨_, 0, 0, [], rfl, HL.out, HB.out⟩
abbrev clZ : Array Value := #[.int .i64 0, .bool false, .string ⟨#[]⟩, .string ⟨#[]⟩, .string ⟨#[]⟩, .bool false, .int .u32 0, .int .i64 0, .int .u32 0, .int .u32 0, .int .i64 0, .slice none 0 0, .int .u32 0, .int .i64 0]
theorem blk14 {w : World} {g : Nat} {t : TypeId} {v0 v1 v2 v3 v4 v5 v6 v7 v8 v9 v10 v11 v12 v13 : Value} (h : Blk w g t #[v0, v1, v2, v3, v4, v5, v6, v7, v8, v9, v10, v11, v12, v13]) :
    w.cell? ⟨g, 0, none⟩ = some v0 ∧ w.cell? ⟨g, 1, none⟩ = some v1 ∧ w.cell? ⟨g, 2, none⟩ = some v2 ∧ w.cell? ⟨g, 3, none⟩ = some v3 ∧ w.cell? ⟨g, 4, none⟩ = some v4 ∧ w.cell? ⟨g, 5, none⟩ = some v5 ∧ w.cell? ⟨g, 6, none⟩ = some v6 ∧ w.cell? ⟨g, 7, none⟩ = some v7 ∧ w.cell? ⟨g, 8, none⟩ = some v8 ∧ w.cell? ⟨g, 9, none⟩ = some v9 ∧ w.cell? ⟨g, 10, none⟩ = some v10 ∧ w.cell? ⟨g, 11, none⟩ = some v11 ∧ w.cell? ⟨g, 12, none⟩ = some v12 ∧ w.cell? ⟨g, 13, none⟩ = some v13 :=
  ⟨h.cell 0, h.cell 1, h.cell 2, h.cell 3, h.cell 4, h.cell 5, h.cell 6, h.cell 7, h.cell 8, h.cell 9, h.cell 10, h.cell 11, h.cell 12, h.cell 13⟩
set_option maxRecDepth 100000 in
set_option maxHeartbeats 8000000 in
theorem setZn_any (X : AT) (hp0 : X.path = []) (hc0 : X.comms = []) (v : Value) (w : World) (hv : AtR w X v) : Calls Tryz.prog 181 #[.agg clZ, v] w (AtP X w) := by
  obtain ⟨A, n, c, Bb, m, d, rfl, hP, hC⟩ := hv
  obtain rfl : n = 0 := by rw [← hP.1, hp0]; rfl
  obtain rfl : m = 0 := by rw [← hC.1, hc0]; rfl
  rw [hc0] at hC
  obtain ⟨w1, hw1⟩ : ∃ w1, (((w.alloc (.cells clZ 216)).alloc (.cells (bxC X (.slice A 0 c) (.slice Bb 0 d)) 28)).alloc (.cells zeroC 28)) = w1 := ⟨_, rfl⟩
  have hb1 : Below w.heap.size w w1 := hw1 ▸ (((Below.refl _ w).alloc (Nat.le_refl _) _).alloc (by simp) _).alloc (by simp; omega) _
  have HCl : Hid (Blk w1 w.heap.size 216 clZ) := hide (hw1 ▸ ((Blk.new w _ _).alloc _).alloc _)
  have HKb : Hid (Blk w1 (w.heap.size + 1) 28 (bxC X (.slice A 0 c) (.slice Bb 0 d))) := hide (hw1 ▸ (blk_new' _ _ (by simp)).alloc _)
  have HKz : Hid (Blk w1 ((w.heap.size + 1) + 1) 28 zeroC) := hide (hw1 ▸ blk_new' _ _ (by simp))
  have HLt : Hid (w.heap.size + 1 < w1.heap.size) := hide HKb.out.lt
  have HC := hide hC
  have HB1 := hide hb1
  have HW1 := hide hw1
  have HCNb : Hid (∀ y ∈ ([] : List Nat), y < 4294967296) := hide (by simp)
  have HX : Hid (X = ⟨X.has, X.org, [], X.hop, X.med, X.pref, X.aas, X.aid, []⟩) := hide (by obtain ⟨h, o, pl, hp, md, pf, aa, ai, cl⟩ := X; simp only at hp0 hc0; subst hp0 hc0; rfl)
  clear hw1 hb1 hP hC hp0 hc0
  go_enter Tryz.func181, Tryz.ntmps181
  go_upto_region 1 with fail
  rw [HW1.out]
  refine wp_region_relH 10 (w.heap.size + 1) (Nat.le_of_lt HLt.out) [(fun v _ => v = .pointer (some ⟨w.heap.size + 1, 2, none⟩)), (fun v _ => v = .slice A 0 c), (SlA w1.heap.size []), (fun v _ => v = .pointer (some ⟨w.heap.size + 1, 8, none⟩)), (fun v _ => v = .slice Bb 0 d), (SlB w1.heap.size []), (fun v _ => v = .pointer (some ⟨w.heap.size + 1, 2, none⟩)), (fun _ W => StA (w.heap.size + 1) w1.heap.size X [] W ), (fun v _ => v = .pointer (some ⟨w.heap.size + 1, 8, none⟩)), (fun _ W => StB (w.heap.size + 1) w1.heap.size X [] W )] (fun i W => BxA (w.heap.size + 1) X W ∧ (i = 1 → W.cell? ⟨w.heap.size + 1, 2, none⟩ = some (.slice A 0 c)) ∧ (i = 4 → W.cell? ⟨w.heap.size + 1, 8, none⟩ = some (.slice Bb 0 d))) (fun i Wa Wb => if i = 7 then ∃ v, Wb = Wa.setCell ⟨w.heap.size + 1, 2, none⟩ v else if i = 9 then ∃ v, Wb = Wa.setCell ⟨w.heap.size + 1, 8, none⟩ v else Below Wa.heap.size Wa Wb) (by kernel_rfl) (by kernel_rfl) (by kernel_rfl) (by kernel_rfl) (by kernel_rfl) ?hE ?hR ?hP ?h0 ⟨?_, ?_, ?_, ?_, ?_, ?_, ?_, ?_, ?_, ?_, trivial⟩ ?_
  case hE =>
    intro i2 wa wb hB he
    split at he
    · obtain ⟨u, rfl⟩ := he
      exact (Below.refl (w.heap.size + 1) wa).setCell (p := ⟨w.heap.size + 1, 2, none⟩) (Nat.le_refl _) u
    · split at he
      · obtain ⟨u, rfl⟩ := he
        exact (Below.refl (w.heap.size + 1) wa).setCell (p := ⟨w.heap.size + 1, 8, none⟩) (Nat.le_refl _) u
      · exact he.mono hB
  case hR =>
    intro i2 j2 v2 wa wb hij hB he h
    split at he
    · rename_i hj2
      subst hj2
      refine keepAll_at (E := fun wa wb => ∃ v, wb = wa.setCell ⟨w.heap.size + 1, 2, none⟩ v) (x := 7) (k := 0) ?_ (by omega) he h
      exact ⟨fun _ v wa wb he h => h, fun _ v wa wb he h => h, fun _ v wa wb he h => by obtain ⟨u, rfl⟩ := he; exact SlA.setv h HLt.out, fun _ v wa wb he h => h, fun _ v wa wb he h => h, fun _ v wa wb he h => by obtain ⟨u, rfl⟩ := he; exact SlB.setv h HLt.out, fun _ v wa wb he h => h, fun hn => absurd rfl hn, fun _ v wa wb he h => h, fun _ v wa wb he h => by obtain ⟨u, rfl⟩ := he; exact StB.set2 h HLt.out, trivial⟩
    · split at he
      · rename_i hj2
        subst hj2
        refine keepAll_at (E := fun wa wb => ∃ v, wb = wa.setCell ⟨w.heap.size + 1, 8, none⟩ v) (x := 9) (k := 0) ?_ (by omega) he h
        exact ⟨fun _ v wa wb he h => h, fun _ v wa wb he h => h, fun _ v wa wb he h => by obtain ⟨u, rfl⟩ := he; exact SlA.setv h HLt.out, fun _ v wa wb he h => h, fun _ v wa wb he h => h, fun _ v wa wb he h => by obtain ⟨u, rfl⟩ := he; exact SlB.setv h HLt.out, fun _ v wa wb he h => h, fun _ v wa wb he h => by obtain ⟨u, rfl⟩ := he; exact StA.set8 h HLt.out, fun _ v wa wb he h => h, fun hn => absurd rfl hn, trivial⟩
      · refine relMono _ ?_ i2 v2 wa wb he h
        exact ⟨fun _ _ _ _ h => h, fun _ _ _ _ h => h, fun v w2 w3 hb h => SlA.below h hb, fun _ _ _ _ h => h, fun _ _ _ _ h => h, fun v w2 w3 hb h => SlB.below h hb, fun _ _ _ _ h => h, fun v w1 w2 hb h => StA.below h hb, fun _ _ _ _ h => h, fun v w1 w2 hb h => StB.below h hb, trivial⟩
  case hP =>
    intro i2 j2 wa wb hij hnb hB he h
    split at he
    · rename_i hj2
      subst hj2
      obtain ⟨u, rfl⟩ := he
      refine ⟨h.1.set2 u, fun e => ?_, fun e => (cell_set_ne (by decide)).trans (h.2.2 e)⟩
      subst e
      exact absurd hnb (by decide +kernel)
    · split at he
      · rename_i hj2
        subst hj2
        obtain ⟨u, rfl⟩ := he
        refine ⟨h.1.set8 u, fun e => (cell_set_ne (by decide)).trans (h.2.1 e), fun e => ?_⟩
        subst e
        exact absurd hnb (by decide +kernel)
      · exact ⟨h.1.below he, fun e => (he.cell h.1.lt_).trans (h.2.1 e), fun e => (he.cell h.1.lt_).trans (h.2.2 e)⟩
  case h0 =>
    intro j2 hj2
    exact ⟨⟨_, _, HKb.out.drew, HKz.out.drew⟩, fun _ => HKb.out.cell 2, fun _ => HKb.out.cell 8⟩
  · refine relG_plain rfl rfl (fun _ _ h => h) ?_
    intro Ac w5 hp
    have hb := hp.bel
    have a3 : Ac.eval (.tmp 3) = .pointer (some ⟨w.heap.size + 1, 0, none⟩) := hp.out 3 (by rfl)
    have hc := evalC Ac; have hf := evalF Ac; have hgl := evalG Ac
    obtain ⟨ρ, hρ⟩ : ∃ ρ, Ac.eval = ρ := ⟨_, rfl⟩
    rw [hρ] at a3 hc hf hgl
    exact relPure hρ (.pointer (some ⟨w.heap.size + 1, 2, none⟩)) (by simp [go_sem, hc, hf, hgl, ↓IntWalk.iteOmega, a3, *]) rfl
  · refine relG_plain rfl rfl (fun _ _ h => h) ?_
    intro Ac w5 hp
    have hb := hp.bel
    have a6 : Ac.eval (.tmp 6) = .pointer (some ⟨w.heap.size + 1, 2, none⟩) := hp.dep 0 (by kernel_rfl)
    have z2 := hp.pre.2.1 rfl
    have hc := evalC Ac; have hf := evalF Ac; have hgl := evalG Ac
    obtain ⟨ρ, hρ⟩ : ∃ ρ, Ac.eval = ρ := ⟨_, rfl⟩
    rw [hρ] at a6 hc hf hgl
    exact relPure hρ (.slice A 0 c) (by simp [go_sem, hc, hf, hgl, ↓IntWalk.iteOmega, a6, *]) rfl
  · refine relG_plain rfl rfl (fun _ _ h => h) ?_
    intro Ac w5 hp
    have hb := hp.bel
    have a7 : Ac.eval (.tmp 7) = .slice A 0 c := hp.dep 1 (by kernel_rfl)
    have hc := evalC Ac; have hf := evalF Ac; have hgl := evalG Ac
    obtain ⟨ρ, hρ⟩ : ∃ ρ, Ac.eval = ρ := ⟨_, rfl⟩
    rw [hρ] at a7 hc hf hgl
    refine relCall hρ 217 #[.slice A 0 c] (by simp [go_sem, hc, hf, hgl, ↓IntWalk.iteOmega, a7, *]) ?_
    refine (cloneE_seg A c w5).mono ?_
    intro e w6 hmv
    unfold SegP at hmv
    obtain ⟨A6, n6, c6, xs6, rfl, hl6, hb6⟩ := hmv
    exact ⟨_, rfl, ⟨A6, n6, c6, xs6, rfl, hl6.less hp.bel.size hp.bel.size⟩, hb6⟩
  · refine relG_plain rfl rfl (fun _ _ h => h) ?_
    intro Ac w5 hp
    have hb := hp.bel
    have a3 : Ac.eval (.tmp 3) = .pointer (some ⟨w.heap.size + 1, 0, none⟩) := hp.out 3 (by rfl)
    have hc := evalC Ac; have hf := evalF Ac; have hgl := evalG Ac
    obtain ⟨ρ, hρ⟩ : ∃ ρ, Ac.eval = ρ := ⟨_, rfl⟩
    rw [hρ] at a3 hc hf hgl
    exact relPure hρ (.pointer (some ⟨w.heap.size + 1, 8, none⟩)) (by simp [go_sem, hc, hf, hgl, ↓IntWalk.iteOmega, a3, *]) rfl
  · refine relG_plain rfl rfl (fun _ _ h => h) ?_
    intro Ac w5 hp
    have hb := hp.bel
    have a9 : Ac.eval (.tmp 9) = .pointer (some ⟨w.heap.size + 1, 8, none⟩) := hp.dep 3 (by kernel_rfl)
    have z8 := hp.pre.2.2 rfl
    have hc := evalC Ac; have hf := evalF Ac; have hgl := evalG Ac
    obtain ⟨ρ, hρ⟩ : ∃ ρ, Ac.eval = ρ := ⟨_, rfl⟩
    rw [hρ] at a9 hc hf hgl
    exact relPure hρ (.slice Bb 0 d) (by simp [go_sem, hc, hf, hgl, ↓IntWalk.iteOmega, a9, *]) rfl
  · refine relG_plain rfl rfl (fun _ _ h => h) ?_
    intro Ac w5 hp
    have hb := hp.bel
    have a10 : Ac.eval (.tmp 10) = .slice Bb 0 d := hp.dep 4 (by kernel_rfl)
    have hc := evalC Ac; have hf := evalF Ac; have hgl := evalG Ac
    obtain ⟨ρ, hρ⟩ : ∃ ρ, Ac.eval = ρ := ⟨_, rfl⟩
    rw [hρ] at a10 hc hf hgl
    refine relCall hρ 128 #[.slice Bb 0 d] (by simp [go_sem, hc, hf, hgl, ↓IntWalk.iteOmega, a10, *]) ?_
    refine (cloneAll_any Bb 0 d [] w5 (HC.out.below (HB1.out.trans (hp.bel.mono (Nat.le_succ _)))) (by omega)).mono ?_
    rintro e w6 ⟨v6, rfl, ho6, hb6⟩
    obtain ⟨A6, c6, rfl⟩ := own_slice ho6
    exact ⟨_, rfl, ⟨A6, _, c6, rfl, own_u32_fr ho6 HCNb.out hp.bel.size (fun k hk => by cases hk)⟩, hb6⟩
  · refine relG_plain rfl rfl (fun _ _ h => h) ?_
    intro Ac w5 hp
    have hb := hp.bel
    have a3 : Ac.eval (.tmp 3) = .pointer (some ⟨w.heap.size + 1, 0, none⟩) := hp.out 3 (by rfl)
    have hc := evalC Ac; have hf := evalF Ac; have hgl := evalG Ac
    obtain ⟨ρ, hρ⟩ : ∃ ρ, Ac.eval = ρ := ⟨_, rfl⟩
    rw [hρ] at a3 hc hf hgl
    exact relPure hρ (.pointer (some ⟨w.heap.size + 1, 2, none⟩)) (by simp [go_sem, hc, hf, hgl, ↓IntWalk.iteOmega, a3, *]) rfl
  · refine relG_store rfl ?_
    intro Ac w5 hp
    have hb := hp.bel
    have a12 : Ac.eval (.tmp 12) = .pointer (some ⟨w.heap.size + 1, 2, none⟩) := hp.dep 6 (by kernel_rfl)
    obtain ⟨A5, n5, c5, xs5, a8, hl5⟩ := hp.dep 2 (by kernel_rfl)
    change Ac.eval (.tmp 8) = _ at a8
    have a12 : Ac.eval (.tmp 12) = .pointer (some ⟨w.heap.size + 1, 2, none⟩) := hp.dep 6 (by kernel_rfl)
    obtain ⟨A5, n5, c5, xs5, ec, hl5⟩ := hp.dep 2 (by kernel_rfl)
    change Ac.eval (.tmp 8) = _ at ec
    obtain ⟨x2, x8, hk, hz⟩ := hp.pre.1
    have HK := hide hk
    have HZ := hide (hz.far (p := ⟨w.heap.size + 1, 2, none⟩) (by show (w.heap.size + 1) + 1 ≠ w.heap.size + 1; omega) (.slice A5 n5 c5))
    have HL := hide hl5
    clear hp
    refine ⟨w5.setCell ⟨w.heap.size + 1, 2, none⟩ (.slice A5 n5 c5), .inl (exec_store rfl a12 ec (st1A HK.out rfl)), ?_, ⟨_, rfl⟩⟩
    exact ⟨_, x8, HK.out.set_ 2 _, HZ.out, ⟨A5, n5, c5, xs5, rfl, HL.out.set HLt.out HLt.out _⟩⟩
  · refine relG_plain rfl rfl (fun _ _ h => h) ?_
    intro Ac w5 hp
    have hb := hp.bel
    have a3 : Ac.eval (.tmp 3) = .pointer (some ⟨w.heap.size + 1, 0, none⟩) := hp.out 3 (by rfl)
    have hc := evalC Ac; have hf := evalF Ac; have hgl := evalG Ac
    obtain ⟨ρ, hρ⟩ : ∃ ρ, Ac.eval = ρ := ⟨_, rfl⟩
    rw [hρ] at a3 hc hf hgl
    exact relPure hρ (.pointer (some ⟨w.heap.size + 1, 8, none⟩)) (by simp [go_sem, hc, hf, hgl, ↓IntWalk.iteOmega, a3, *]) rfl
  · refine relG_store rfl ?_
    intro Ac w5 hp
    have hb := hp.bel
    have a13 : Ac.eval (.tmp 13) = .pointer (some ⟨w.heap.size + 1, 8, none⟩) := hp.dep 8 (by kernel_rfl)
    obtain ⟨A8, n8, c8, a11, hu8⟩ := hp.dep 5 (by kernel_rfl)
    change Ac.eval (.tmp 11) = _ at a11
    have a13 : Ac.eval (.tmp 13) = .pointer (some ⟨w.heap.size + 1, 8, none⟩) := hp.dep 8 (by kernel_rfl)
    obtain ⟨A8, n8, c8, ec, hu8⟩ := hp.dep 5 (by kernel_rfl)
    change Ac.eval (.tmp 11) = _ at ec
    obtain ⟨x2, x8, hk, hz⟩ := hp.pre.1
    have HK := hide hk
    have HZ := hide (hz.far (p := ⟨w.heap.size + 1, 8, none⟩) (by show (w.heap.size + 1) + 1 ≠ w.heap.size + 1; omega) (.slice A8 n8 c8))
    have HL := hide hu8
    clear hp
    refine ⟨w5.setCell ⟨w.heap.size + 1, 8, none⟩ (.slice A8 n8 c8), .inl (exec_store rfl a13 ec (st1B HK.out rfl)), ?_, ⟨_, rfl⟩⟩
    exact ⟨x2, _, HK.out.set_ 8 _, HZ.out, ⟨A8, n8, c8, rfl, HL.out.set (p := ⟨w.heap.size + 1, 8, none⟩) HLt.out _⟩⟩
  intro u w7 hb7 hall
  have efin : StA (w.heap.size + 1) w1.heap.size X [] w7  := relAll_at hall (i := 7) (by decide +kernel)
  have efin1 : StB (w.heap.size + 1) w1.heap.size X [] w7  := relAll_at hall (i := 9) (by decide +kernel)
  clear hall
  simp only [List.drop_succ_cons, List.drop_zero, List.take_succ_cons, List.take_zero, putAll, Act.put, List.setIfInBounds_toArray, List.set_cons_zero, List.set_cons_succ, Nat.zero_add, Nat.reduceAdd, ]
  obtain ⟨A8, n8, c8, xs8, B8, m8, d8, hk, hz, hl, hu⟩ := st_both efin efin1
  obtain rfl : n8 = 0 := by rw [← (hl.lst (by decide)).1]; rfl
  have HK := hide hk
  have HZ := hide hz
  have HCl := hide (HCl.out.below hb7 (Nat.lt_succ_self _))
  have HB7 := hide (HB1.out.trans (hb7.mono (Nat.le_succ _)))
  have HO := hide (show AtO w1.heap.size w7 ⟨X.has, X.org, [], X.hop, X.med, X.pref, X.aas, X.aid, []⟩ (atV X.has X.org A8 0 c8 X.hop X.med X.pref X.aas X.aid B8 m8 d8) from ⟨A8, 0, c8, xs8, B8, m8, d8, rfl, hl, hu⟩)
  rw [← HX.out] at HO
  clear efin efin1 hk hz hl hu hb7
  have a2 := HK.out.cell 2
  go_wp2
  clear a2
  go_loopw [17] (fun iv wr => iv = .int .i64 0 ∧ wr = w7) (fun _ _ => 0)
  case atStart => exact ⟨rfl, rfl⟩
  case round =>
    obtain ⟨rfl, rfl⟩ := hrel
    obtain ⟨c0, c1, c2, c3, c4, c5, c6, c7, c8_, c9, c10, c11, c12, c13⟩ := blk14 HCl.out
    go_wp2_with fail
    refine (doesZ1 _).mono ?_
    rintro e x0 ⟨rfl, hb⟩
    have HCl := hide (HCl.out.below hb HCl.out.lt)
    have HK := hide (HK.out.below hb HK.out.lt)
    have HZ := hide (HZ.out.below hb HZ.out.lt)
    have HO := hide (HO.out.below hb)
    have HB7 := hide (HB7.out.trans (hb.mono HB7.out.size))
    clear hb c0 c1 c2 c3 c4 c5 c6 c7 c8_ c9 c10 c11 c12 c13
    obtain ⟨c0, c1, c2, c3, c4, c5, c6, c7, c8_, c9, c10, c11, c12, c13⟩ := blk14 HCl.out
    go_wp2_with fail
    refine (doesZ2 _).mono ?_
    rintro e x1 ⟨rfl, hb⟩
    have HCl := hide (HCl.out.below hb HCl.out.lt)
    have HK := hide (HK.out.below hb HK.out.lt)
    have HZ := hide (HZ.out.below hb HZ.out.lt)
    have HO := hide (HO.out.below hb)
    have HB7 := hide (HB7.out.trans (hb.mono HB7.out.size))
    clear hb c0 c1 c2 c3 c4 c5 c6 c7 c8_ c9 c10 c11 c12 c13
    obtain ⟨c0, c1, c2, c3, c4, c5, c6, c7, c8_, c9, c10, c11, c12, c13⟩ := blk14 HCl.out
    go_wp2_with fail
    refine (doesZ4 _).mono ?_
    rintro e x2 ⟨rfl, hb⟩
    have HCl := hide (HCl.out.below hb HCl.out.lt)
    have HK := hide (HK.out.below hb HK.out.lt)
    have HZ := hide (HZ.out.below hb HZ.out.lt)
    have HO := hide (HO.out.below hb)
    have HB7 := hide (HB7.out.trans (hb.mono HB7.out.size))
    clear hb c0 c1 c2 c3 c4 c5 c6 c7 c8_ c9 c10 c11 c12 c13
    obtain ⟨c0, c1, c2, c3, c4, c5, c6, c7, c8_, c9, c10, c11, c12, c13⟩ := blk14 HCl.out
    go_wp2_with fail
    refine (doesZ56 _).mono ?_
    rintro e x3 ⟨rfl, hb⟩
    have HCl := hide (HCl.out.below hb HCl.out.lt)
    have HK := hide (HK.out.below hb HK.out.lt)
    have HZ := hide (HZ.out.below hb HZ.out.lt)
    have HO := hide (HO.out.below hb)
    have HB7 := hide (HB7.out.trans (hb.mono HB7.out.size))
    clear hb c0 c1 c2 c3 c4 c5 c6 c7 c8_ c9 c10 c11 c12 c13
    obtain ⟨c0, c1, c2, c3, c4, c5, c6, c7, c8_, c9, c10, c11, c12, c13⟩ := blk14 HCl.out
    go_wp2_with fail
    refine (doesZ64 _).mono ?_
    rintro e x4 ⟨rfl, hb⟩
    have HCl := hide (HCl.out.below hb HCl.out.lt)
    have HK := hide (HK.out.below hb HK.out.lt)
    have HZ := hide (HZ.out.below hb HZ.out.lt)
    have HO := hide (HO.out.below hb)
    have HB7 := hide (HB7.out.trans (hb.mono HB7.out.size))
    clear hb c0 c1 c2 c3 c4 c5 c6 c7 c8_ c9 c10 c11 c12 c13
    obtain ⟨a0, a1, a2, a3, a4, a5, a6, a7, a8⟩ := blk9 HK.out
    obtain ⟨z0, z1, z2, z3, z4, z5, z6, z7, z8⟩ := blk9 HZ.out
    have zf := fun i => HZ.out.frozen i
    have hlt : w.heap.size + 1 + 1 < w1.heap.size := HKz.out.lt
    go_wp2
    change bodyPost _ _ _ _ _ (x4.setCells (w.heap.size + 1 + 1) 0 [.int .i64 X.has, .int .i64 X.org, .slice A8 0 c8, .int .u32 X.hop, .int .u32 X.med, .int .u32 X.pref, .int .u32 X.aas, .int .u32 X.aid, .slice B8 m8 d8])
    obtain ⟨wF, hwF⟩ : ∃ x, x4.setCells (w.heap.size + 1 + 1) 0 [.int .i64 X.has, .int .i64 X.org, .slice A8 0 c8, .int .u32 X.hop, .int .u32 X.med, .int .u32 X.pref, .int .u32 X.aas, .int .u32 X.aid, .slice B8 m8 d8] = x := ⟨_, rfl⟩
    have HFk := hide (hwF ▸ blk9_set HZ.out : Blk wF (w.heap.size + 1 + 1) 28 (atC X.has X.org A8 0 c8 X.hop X.med X.pref X.aas X.aid B8 m8 d8))
    have HFo := hide (hwF ▸ AtO.sets _ 0 HO.out hlt : AtO w1.heap.size wF X (atV X.has X.org A8 0 c8 X.hop X.med X.pref X.aas X.aid B8 m8 d8))
    have HFb := hide (hwF ▸ below_sets _ 0 HB7.out (by omega) : Below w.heap.size w wF)
    rw [hwF]
    clear hwF z0 z1 z2 z3 z4 z5 z6 z7 z8 zf a0 a1 a2 a3 a4 a5 a6 a7 a8
    obtain ⟨z0, z1, z2, z3, z4, z5, z6, z7, z8⟩ := blk9 HFk.out
    exact bodyPost_ret (v := atV X.has X.org A8 0 c8 X.hop X.med X.pref X.aas X.aid B8 m8 d8) (by simp [results, Tryz.results181, go_sem, z0, z1, z2, z3, z4, z5, z6, z7, z8]) rfl ⟨_, rfl, HFo.out.less (b' := w.heap.size) (by omega), HFb.out⟩
end Go.Proofs.YtcinjckajnnhmaaGreat
set_option linter.unusedSimpArgs false
set_option linter.unusedVariables false
namespace Go.Proofs.YtcinjckajnnhmaaGreat
open Go.RowKit Go.WideShapes Go.ChangeShapes
attribute [local go_sem] Oper.semAt_some
def EvP (X : AT) (b : Bool) (w : World) (e : Ending) (w' : World) : Prop := ∃ v, e = .returned (.tuple #[v, .bool b]) ∧ AtO w.heap.size w' X v ∧ Below w.heap.size w w'
abbrev liC (L1 L2 L3 L4 : Option Addr × Nat × Nat) : Array Value := #[.slice L1.1 L1.2.1 L1.2.2, .slice L2.1 L2.2.1 L2.2.2, .slice L3.1 L3.2.1 L3.2.2, .slice L4.1 L4.2.1 L4.2.2]
set_option maxRecDepth 100000 in
set_option maxHeartbeats 8000000 in
theorem evalE0_any (L1 L2 L3 L4 : Option Addr × Nat × Nat) (pa pl : Int) (X : AT) (hp0 : X.path = []) (hc0 : X.comms = []) (v : Value) (w : World) (hv : AtR w X v) :
    Calls Tryz.prog 133 #[.agg (liC L1 L2 L3 L4), .string ⟨#[]⟩, .agg #[.int .u32 pa, .int .i64 pl], v] w (EvP X true w) := by
  obtain ⟨A, n, c, B, m, d, rfl, hP, hC⟩ := hv
  obtain ⟨w0, hw0⟩ : ∃ w0, ((((w.alloc (.cells (liC L1 L2 L3 L4) 38)).alloc (.cells #[.int .u32 pa, .int .i64 pl] 24)).alloc (.cells (atC X.has X.org A n c X.hop X.med X.pref X.aas X.aid B m d) 28)).alloc (.cells zeroC 28)) = w0 := ⟨_, rfl⟩
  have hb0 : Below w.heap.size w w0 := hw0 ▸ ((((Below.refl _ w).alloc (Nat.le_refl _) _).alloc (by simp) _).alloc (by simp; omega) _).alloc (by simp; omega) _
  have HK : Hid (Blk w0 (w.heap.size + 1 + 1 + 1) 28 zeroC) := hide (hw0 ▸ blk_new' _ _ (by simp))
  have HN := hide (setZn_any X hp0 hc0 (atV X.has X.org A n c X.hop X.med X.pref X.aas X.aid B m d) w0 ⟨A, n, c, B, m, d, rfl, hP.below sgMono hb0, hC.below hb0⟩)
  have HB0 := hide hb0
  have HW0 := hide hw0
  clear hw0 hb0 hP hC hp0 hc0
  go_enter Tryz.func133, Tryz.ntmps133
  go_wp2_with fail
  rw [HW0.out]
  refine HN.out.mono ?_
  rintro e w1 ⟨v, rfl, ho, hb⟩
  obtain ⟨A1, n1, c1, xs1, B1, m1, d1, rfl, hl, hu⟩ := ho
  have hlt : w.heap.size + 1 + 1 + 1 < w0.heap.size := HK.out.lt
  have HK1 := hide (HK.out.below hb hlt)
  have HB1 := hide (HB0.out.trans (hb.mono HB0.out.size))
  have HO := hide (show AtO w0.heap.size w1 X (atV X.has X.org A1 n1 c1 X.hop X.med X.pref X.aas X.aid B1 m1 d1) from ⟨A1, n1, c1, xs1, B1, m1, d1, rfl, hl, hu⟩)
  obtain ⟨z0, z1, z2, z3, z4, z5, z6, z7, z8⟩ := blk9 HK1.out
  have zf := fun i => HK1.out.frozen i
  clear hl hu hb
  go_wp2
  change bodyPost _ _ _ _ _ (w1.setCells (w.heap.size + 1 + 1 + 1) 0 [.int .i64 X.has, .int .i64 X.org, .slice A1 n1 c1, .int .u32 X.hop, .int .u32 X.med, .int .u32 X.pref, .int .u32 X.aas, .int .u32 X.aid, .slice B1 m1 d1])
  obtain ⟨wF, hwF⟩ : ∃ x, w1.setCells (w.heap.size + 1 + 1 + 1) 0 [.int .i64 X.has, .int .i64 X.org, .slice A1 n1 c1, .int .u32 X.hop, .int .u32 X.med, .int .u32 X.pref, .int .u32 X.aas, .int .u32 X.aid, .slice B1 m1 d1] = x := ⟨_, rfl⟩
  have HFk := hide (hwF ▸ blk9_set HK1.out : Blk wF (w.heap.size + 1 + 1 + 1) 28 (atC X.has X.org A1 n1 c1 X.hop X.med X.pref X.aas X.aid B1 m1 d1))
  have HFo := hide (hwF ▸ AtO.sets _ 0 HO.out hlt : AtO w0.heap.size wF X (atV X.has X.org A1 n1 c1 X.hop X.med X.pref X.aas X.aid B1 m1 d1))
  have HFb := hide (hwF ▸ below_sets _ 0 HB1.out (by omega) : Below w.heap.size w wF)
  rw [hwF]
  clear hwF z0 z1 z2 z3 z4 z5 z6 z7 z8 zf
  obtain ⟨z0, z1, z2, z3, z4, z5, z6, z7, z8⟩ := blk9 HFk.out
  exact bodyPost_ret (v := .tuple #[atV X.has X.org A1 n1 c1 X.hop X.med X.pref X.aas X.aid B1 m1 d1, .bool true]) (by simp [results, Tryz.results133, go_sem, z0, z1, z2, z3, z4, z5, z6, z7, z8]) rfl ⟨_, rfl, HFo.out.less (b' := w.heap.size) (by omega), HFb.out⟩
end Go.Proofs.YtcinjckajnnhmaaGreat
set_option linter.unusedSimpArgs false
set_option linter.unusedVariables false
namespace Go.Proofs.YtcinjckajnnhmaaGreat
open Go.RowKit Go.WideShapes Go.ChangeShapes
attribute [local go_sem] Oper.semAt_some
abbrev zeroR : Array Value := rtC 0 0 0 0 none 0 0 0 0 0 0 0 none 0 0 0 0 0 false false
theorem blk16_set {w : World} {g : Nat} {t : TypeId} {u0 u1 u2 u3 u4 u5 u6 u7 u8 u9 u10 u11 u12 u13 u14 u15 v0 v1 v2 v3 v4 v5 v6 v7 v8 v9 v10 v11 v12 v13 v14 v15 : Value} (h : Blk w g t #[u0, u1, u2, u3, u4, u5, u6, u7, u8, u9, u10, u11, u12, u13, u14, u15]) :
    Blk (w.setCells g 0 [v0, v1, v2, v3, v4, v5, v6, v7, v8, v9, v10, v11, v12, v13, v14, v15]) g t #[v0, v1, v2, v3, v4, v5, v6, v7, v8, v9, v10, v11, v12, v13, v14, v15] :=
  blk_sets [v0, v1, v2, v3, v4, v5, v6, v7, v8, v9, v10, v11, v12, v13, v14, v15] [] [u0, u1, u2, u3, u4, u5, u6, u7, u8, u9, u10, u11, u12, u13, u14, u15] h rfl
theorem blkBelow2 (w : World) (a b : Obj) : Below w.heap.size w ((w.alloc a).alloc b) := ((Below.refl _ w).alloc (Nat.le_refl _) _).alloc (by simp) _
end Go.Proofs.YtcinjckajnnhmaaGreat
set_option linter.unusedSimpArgs false
set_option linter.unusedVariables false
namespace Go.Proofs.YtcinjckajnnhmaaGreat
open Go.RowKit Go.WideShapes Go.ChangeShapes
attribute [local go_sem] Oper.semAt_some
theorem fr_setsB {S : World → Prop} {B H : Nat} : ∀ (vs : List Value) (i : Nat) {w : World}, FrB B none S w → H < B → FrB B none S (w.setCells H i vs)
  | [], _, _, h, _ => h
  | v :: vs, i, w, h, hH => fr_setsB vs (i + 1) (h.set (p := ⟨H, i, none⟩) hH v) hH
-- REFN
end Go.Proofs.YtcinjckajnnhmaaGreat
set_option linter.unusedSimpArgs false
set_option linter.unusedVariables false
namespace Go.Proofs.YtcinjckajnnhmaaGreat
open Go.RowKit Go.WideShapes Go.ChangeShapes
attribute [local go_sem] Oper.semAt_some
theorem blk_setsM {g : Nat} {t : TypeId} (suf : List Value) : ∀ (vs pre old : List Value) {w : World}, Blk w g t (pre ++ (old ++ suf)).toArray → old.length = vs.length → Blk (w.setCells g pre.length vs) g t (pre ++ (vs ++ suf)).toArray
  | [], pre, old, w, h, hl => by
    obtain rfl := List.length_eq_zero_iff.1 hl
    exact h
  | v :: vs, pre, [], w, h, hl => by simp at hl
  | v :: vs, pre, x :: old, w, h, hl => by
    have h1 := h.set_ pre.length v
    rw [List.setIfInBounds_toArray, List.set_append_right _ _ (Nat.le_refl _), Nat.sub_self, List.cons_append, List.set_cons_zero] at h1
    have h2 : Blk (w.setCell ⟨g, pre.length, none⟩ v) g t ((pre ++ [v]) ++ (old ++ suf)).toArray := by rw [List.append_assoc]; exact h1
    have h3 := blk_setsM suf vs (pre ++ [v]) old h2 (by simpa using hl)
    rw [List.length_append, List.append_assoc] at h3
    exact h3
def RtR (w : World) (r : RT) : Prop := LstAt 2 sgR w r.A r.n r.c r.at_.path ∧ U32s w r.B r.m r.d r.at_.comms
theorem RtR.below {w w' : World} {r : RT} (h : RtR w r) (hb : Below w.heap.size w w') : RtR w' r := ⟨h.1.below sgMono hb, h.2.below hb⟩
def cutRT (r : RT) (A : Option Addr) (n c : Nat) (B : Option Addr) (m d : Nat) : RT := ⟨r.pa, r.pl, cutA r.at_, A, n, c, B, m, d, r.rp, r.ra, r.ri, r.inn, r.loc⟩
set_option maxRecDepth 100000 in
set_option maxHeartbeats 8000000 in
theorem lawOne_any (r : RT) (w : World) (hr : RtR w r) : Calls Tryz.prog 12 #[.agg (rtV r)] w fun e w' => ∃ A n c B m d, e = .returned (.agg (rtV (cutRT r A n c B m d))) ∧ PU w.heap.size w' A n c B m d (cutA r.at_).path (cutA r.at_).comms ∧ Below w.heap.size w w' := by
  obtain ⟨w1, hw1⟩ : ∃ w1, (w.alloc (.cells (rtV r) 30)).alloc (.cells zeroR 30) = w1 := ⟨_, rfl⟩
  have hb1 : Below w.heap.size w w1 := hw1 ▸ blkBelow2 w _ _
  have HK : Hid (Blk w1 w.heap.size 30 (rtV r)) := hide (hw1 ▸ (Blk.new w _ _).alloc _)
  have HZ : Hid (Blk w1 (w.heap.size + 1) 30 zeroR) := hide (hw1 ▸ blk_new' _ _ (by simp))
  have HFw := hide (attrsFew_any r.at_ (atV r.at_.has r.at_.org r.A r.n r.c r.at_.hop r.at_.med r.at_.pref r.at_.aas r.at_.aid r.B r.m r.d) w1 ⟨r.A, r.n, r.c, r.B, r.m, r.d, rfl, hr.1.below sgMono hb1, hr.2.below hb1⟩)
  have HB1 := hide hb1
  have HW1 := hide hw1
  clear hw1 hb1 hr
  obtain ⟨X, hX⟩ : ∃ X, cutA r.at_ = X := ⟨_, rfl⟩
  rw [hX] at HFw
  have HX := hide hX
  clear hX
  go_enter Tryz.func12, Tryz.ntmps12
  go_wp2_with fail
  rw [HW1.out]
  refine HFw.out.mono ?_
  rintro e w2 ⟨v, rfl, ho, hb⟩
  obtain ⟨A1, n1, c1, xs1, B1, m1, d1, rfl, hl, hu⟩ := ho
  have hlt : w.heap.size + 1 < w1.heap.size := HZ.out.lt
  have HK2 := hide (HK.out.below hb HK.out.lt)
  have HZ2 := hide (HZ.out.below hb HZ.out.lt)
  have HB2 := hide (HB1.out.trans (hb.mono HB1.out.size))
  have HL2 := hide hl
  have HU2 := hide hu
  clear hl hu hb
  obtain ⟨k0, k1, k2, k3, k4, k5, k6, k7, k8, k9, k10, k11, k12, k13, k14, k15⟩ := blk16 HK2.out
  have kf := fun i => HK2.out.frozen i
  go_upto_region 2 with fail
  change Code.wp _ _ _ _ (w2.setCells w.heap.size 2 [.int .i64 X.has, .int .i64 X.org, .slice A1 n1 c1, .int .u32 X.hop, .int .u32 X.med, .int .u32 X.pref, .int .u32 X.aas, .int .u32 X.aid, .slice B1 m1 d1])
  obtain ⟨w3, hw3⟩ : ∃ x, w2.setCells w.heap.size 2 [.int .i64 X.has, .int .i64 X.org, .slice A1 n1 c1, .int .u32 X.hop, .int .u32 X.med, .int .u32 X.pref, .int .u32 X.aas, .int .u32 X.aid, .slice B1 m1 d1] = x := ⟨_, rfl⟩
  have HK3 := hide (hw3 ▸ blk_setsM [.int .u32 r.rp, .int .u32 r.ra, .int .u32 r.ri, .bool r.inn, .bool r.loc] [.int .i64 X.has, .int .i64 X.org, .slice A1 n1 c1, .int .u32 X.hop, .int .u32 X.med, .int .u32 X.pref, .int .u32 X.aas, .int .u32 X.aid, .slice B1 m1 d1] [.int .u32 r.pa, .int .i64 r.pl] [.int .i64 r.at_.has, .int .i64 r.at_.org, .slice r.A r.n r.c, .int .u32 r.at_.hop, .int .u32 r.at_.med, .int .u32 r.at_.pref, .int .u32 r.at_.aas, .int .u32 r.at_.aid, .slice r.B r.m r.d] HK2.out rfl : Blk w3 w.heap.size 30 ([.int .u32 r.pa, .int .i64 r.pl, .int .i64 X.has, .int .i64 X.org, .slice A1 n1 c1, .int .u32 X.hop, .int .u32 X.med, .int .u32 X.pref, .int .u32 X.aas, .int .u32 X.aid, .slice B1 m1 d1, .int .u32 r.rp, .int .u32 r.ra, .int .u32 r.ri, .bool r.inn, .bool r.loc]).toArray)
  have HZ3 := hide (hw3 ▸ blk_sets_far (H := w.heap.size) (by omega) [.int .i64 X.has, .int .i64 X.org, .slice A1 n1 c1, .int .u32 X.hop, .int .u32 X.med, .int .u32 X.pref, .int .u32 X.aas, .int .u32 X.aid, .slice B1 m1 d1] 2 HZ2.out : Blk w3 (w.heap.size + 1) 30 zeroR)
  have HL3 := hide (hw3 ▸ low_sets [.int .i64 X.has, .int .i64 X.org, .slice A1 n1 c1, .int .u32 X.hop, .int .u32 X.med, .int .u32 X.pref, .int .u32 X.aas, .int .u32 X.aid, .slice B1 m1 d1] 2 HL2.out (by omega) (by omega) : LOw 2 133 sgR w3 w1.heap.size w1.heap.size A1 n1 c1 X.path xs1)
  have HU3 := hide (hw3 ▸ fr_setsB [.int .i64 X.has, .int .i64 X.org, .slice A1 n1 c1, .int .u32 X.hop, .int .u32 X.med, .int .u32 X.pref, .int .u32 X.aas, .int .u32 X.aid, .slice B1 m1 d1] 2 HU2.out (by omega) : FrB w1.heap.size none (fun w => U32s w B1 m1 d1 X.comms) w3)
  have HB3 := hide (hw3 ▸ below_sets [.int .i64 X.has, .int .i64 X.org, .slice A1 n1 c1, .int .u32 X.hop, .int .u32 X.med, .int .u32 X.pref, .int .u32 X.aas, .int .u32 X.aid, .slice B1 m1 d1] 2 HB2.out (Nat.le_refl _) : Below w.heap.size w w3)
  rw [hw3]
  clear hw3 k0 k1 k2 k3 k4 k5 k6 k7 k8 k9 k10 k11 k12 k13 k14 k15 kf HK2 HZ2 HL2 HU2
  obtain ⟨k0, k1, k2, k3, k4, k5, k6, k7, k8, k9, k10, k11, k12, k13, k14, k15⟩ := blk16 HK3.out
  obtain ⟨z0, z1, z2, z3, z4, z5, z6, z7, z8, z9, z10, z11, z12, z13, z14, z15⟩ := blk16 HZ3.out
  have zf := fun i => HZ3.out.frozen i
  go_wp2
  change bodyPost _ _ _ _ _ (w3.setCells (w.heap.size + 1) 0 [.int .u32 r.pa, .int .i64 r.pl, .int .i64 X.has, .int .i64 X.org, .slice A1 n1 c1, .int .u32 X.hop, .int .u32 X.med, .int .u32 X.pref, .int .u32 X.aas, .int .u32 X.aid, .slice B1 m1 d1, .int .u32 r.rp, .int .u32 r.ra, .int .u32 r.ri, .bool r.inn, .bool r.loc])
  obtain ⟨wF, hwF⟩ : ∃ x, w3.setCells (w.heap.size + 1) 0 [.int .u32 r.pa, .int .i64 r.pl, .int .i64 X.has, .int .i64 X.org, .slice A1 n1 c1, .int .u32 X.hop, .int .u32 X.med, .int .u32 X.pref, .int .u32 X.aas, .int .u32 X.aid, .slice B1 m1 d1, .int .u32 r.rp, .int .u32 r.ra, .int .u32 r.ri, .bool r.inn, .bool r.loc] = x := ⟨_, rfl⟩
  have HFk := hide (hwF ▸ blk16_set HZ3.out : Blk wF (w.heap.size + 1) 30 ([.int .u32 r.pa, .int .i64 r.pl, .int .i64 X.has, .int .i64 X.org, .slice A1 n1 c1, .int .u32 X.hop, .int .u32 X.med, .int .u32 X.pref, .int .u32 X.aas, .int .u32 X.aid, .slice B1 m1 d1, .int .u32 r.rp, .int .u32 r.ra, .int .u32 r.ri, .bool r.inn, .bool r.loc]).toArray)
  have HFl := hide (hwF ▸ low_sets [.int .u32 r.pa, .int .i64 r.pl, .int .i64 X.has, .int .i64 X.org, .slice A1 n1 c1, .int .u32 X.hop, .int .u32 X.med, .int .u32 X.pref, .int .u32 X.aas, .int .u32 X.aid, .slice B1 m1 d1, .int .u32 r.rp, .int .u32 r.ra, .int .u32 r.ri, .bool r.inn, .bool r.loc] 0 HL3.out (by omega) (by omega) : LOw 2 133 sgR wF w1.heap.size w1.heap.size A1 n1 c1 X.path xs1)
  have HFu := hide (hwF ▸ fr_setsB [.int .u32 r.pa, .int .i64 r.pl, .int .i64 X.has, .int .i64 X.org, .slice A1 n1 c1, .int .u32 X.hop, .int .u32 X.med, .int .u32 X.pref, .int .u32 X.aas, .int .u32 X.aid, .slice B1 m1 d1, .int .u32 r.rp, .int .u32 r.ra, .int .u32 r.ri, .bool r.inn, .bool r.loc] 0 HU3.out (by omega) : FrB w1.heap.size none (fun w => U32s w B1 m1 d1 X.comms) wF)
  have HFb := hide (hwF ▸ below_sets [.int .u32 r.pa, .int .i64 r.pl, .int .i64 X.has, .int .i64 X.org, .slice A1 n1 c1, .int .u32 X.hop, .int .u32 X.med, .int .u32 X.pref, .int .u32 X.aas, .int .u32 X.aid, .slice B1 m1 d1, .int .u32 r.rp, .int .u32 r.ra, .int .u32 r.ri, .bool r.inn, .bool r.loc] 0 HB3.out (by omega) : Below w.heap.size w wF)
  rw [hwF]
  clear hwF z0 z1 z2 z3 z4 z5 z6 z7 z8 z9 z10 z11 z12 z13 z14 z15 zf k0 k1 k2 k3 k4 k5 k6 k7 k8 k9 k10 k11 k12 k13 k14 k15
  obtain ⟨z0, z1, z2, z3, z4, z5, z6, z7, z8, z9, z10, z11, z12, z13, z14, z15⟩ := blk16 HFk.out
  refine bodyPost_ret (v := .agg ([.int .u32 r.pa, .int .i64 r.pl, .int .i64 X.has, .int .i64 X.org, .slice A1 n1 c1, .int .u32 X.hop, .int .u32 X.med, .int .u32 X.pref, .int .u32 X.aas, .int .u32 X.aid, .slice B1 m1 d1, .int .u32 r.rp, .int .u32 r.ra, .int .u32 r.ri, .bool r.inn, .bool r.loc]).toArray) (by simp [results, Tryz.results12, go_sem, z0, z1, z2, z3, z4, z5, z6, z7, z8, z9, z10, z11, z12, z13, z14, z15]) rfl ⟨A1, n1, c1, B1, m1, d1, ?_, ?_, HFb.out⟩
  · unfold cutRT
    rw [HX.out]
  · rw [HX.out]
    exact (show PU w1.heap.size wF A1 n1 c1 B1 m1 d1 X.path X.comms from ⟨⟨xs1, HFl.out⟩, HFu.out⟩).less (by omega)
end Go.Proofs.YtcinjckajnnhmaaGreat
set_option linter.unusedSimpArgs false
set_option linter.unusedVariables false
namespace Go.Proofs.YtcinjckajnnhmaaGreat
open Go.RowKit Go.WideShapes Go.ChangeShapes
attribute [local go_sem] Oper.semAt_some
set_option maxRecDepth 100000 in
theorem side_any (a n b m : Nat) (hb : b < 4294967296) (hn : n ≤ 31) (w : World) : Calls Tryz.prog 186 #[.agg #[.int .u32 (a : Int), .int .i64 (n : Int)], .agg #[.int .u32 (b : Int), .int .i64 (m : Int)]] w fun e w' => e = .returned (.int .i64 ((bitN b n : Nat) : Int)) ∧ Below w.heap.size w w' := by
  have HB := hide (blkBelow2 w (.cells #[.int .u32 (a : Int), .int .i64 (n : Int)] 24) (.cells #[.int .u32 (b : Int), .int .i64 (m : Int)] 24))
  obtain ⟨k0, k1, k2, k3⟩ := boxes w (.int .u32 (a : Int)) (.int .i64 (n : Int)) (.int .u32 (b : Int)) (.int .i64 (m : Int)) 24 24
  have HBi := hide (fun W => bit_in b n hb hn W)
  clear k0 k1 k2 k3
  go_enter Tryz.func186, Tryz.ntmps186
  go_wp2_with fail
  refine (HBi.out _).mono ?_
  rintro e w1 ⟨rfl, rfl⟩
  go_wp2
  go_ret
  exact ⟨rfl, HB.out⟩
theorem covB_pg {a n b m : Nat} (ha : PG a n) (hb : PG b m) : covB a (n : Int) b (m : Int) = decide (CvN a n b m) := by
  have h1 := ha.2.1
  have h2 := hb.2.1
  have h3 := ha.2.2
  have h4 := hb.2.2
  unfold covB hasB goodB
  simp only [Int.toNat_natCast, h3, h4, BEq.rfl, Bool.and_true]
  rw [Bool.eq_iff_iff]
  simp only [Bool.and_eq_true, decide_eq_true_eq, beq_iff_eq]
  unfold CvN
  constructor
  · rintro ⟨⟨h5, h6⟩, h7, h8⟩
    exact ⟨by omega, h8⟩
  · rintro ⟨h5, h6⟩
    exact ⟨⟨⟨by omega, by omega⟩, by omega⟩, ⟨by omega, by omega⟩, h6⟩
theorem cov_pg {a n b m : Nat} (ha : PG a n) (hb : PG b m) (w : World) : Calls Tryz.prog 185 #[.agg #[.int .u32 (a : Int), .int .i64 (n : Int)], .agg #[.int .u32 (b : Int), .int .i64 (m : Int)]] w (GoodP (decide (CvN a n b m)) w) := by
  rw [← covB_pg ha hb]
  exact Covers_any a n b m ha.1 hb.1 (by omega) (by have := ha.2.1; omega) (by omega) (by have := hb.2.1; omega) w
theorem good_pg {a n : Nat} (h : PG a n) : goodB a (n : Int) = true := by
  have h1 := h.2.1
  have h2 := h.2.2
  unfold goodB
  simp only [Int.toNat_natCast, h2, BEq.rfl, Bool.and_true, Bool.and_eq_true, decide_eq_true_eq]
  omega
theorem blkBelow3q (w : World) (o1 o2 o3 : Obj) : Below w.heap.size w (((w.alloc o1).alloc o2).alloc o3) := (blkBelow2 w o1 o2).alloc (by simp; omega) _
theorem trPtr_ptr {α : Type} (t : Tr α) : ∃ q, trPtr t = .pointer q := by cases t <;> exact ⟨_, rfl⟩
end Go.Proofs.YtcinjckajnnhmaaGreat
set_option linter.unusedSimpArgs false
set_option linter.unusedVariables false
namespace Go.Proofs.YtcinjckajnnhmaaGreat
open Go.RowKit Go.WideShapes Go.ChangeShapes
attribute [local go_sem] Oper.semAt_some
/-- The node of a prefix. -/
def trFind {α : Type} (c k : Nat) : Tr α → Tr α
  | .nil => .nil
  | .nd b a n v l r => if CvN a n c k then (if a = c ∧ n = k then .nd b a n v l r else if bitN c n = 0 then trFind c k l else trFind c k r) else .nil
/-- How far down a node stands: for a measure. -/
def trDown (a : Act) (w : World) : Nat := match a.tmps.getD 5 undef with
  | .pointer (some p) => 33 - cellNat w ⟨p.block, 1, none⟩
  | _ => 0
def trRank {α : Type} : Tr α → Nat
  | .nil => 0
  | .nd _ _ n _ _ _ => 33 - n
theorem trRank_in {α : Type} {a n i : Nat} {t : Tr α} (h : trIn a n i t) (hn : n ≤ 32) : trRank t < 33 - n := by
  cases t with
  | nil => show 0 < 33 - n; omega
  | nd b p m v l r => have := h.1; show 33 - m < 33 - n; omega
/-- A scope in whose midst the label stands that its jumps go to: one walk of what lies behind the label serves the first time and every jump. -/
theorem wp_scope_mid {P : Program} {Q : Exit → Act → World → Prop} {a : Act} {w : World} {c X : Code} (l : Nat) (J : Act → World → Prop) (μ : Act → World → Nat) (hf : findLabel c l = some (.seq .skip X))
    (first : (∀ a w, J a w → X.wp P (Exit.jump l J Q) a w) → c.wp P (Exit.jump l J Q) a w) (pass : ∀ a w, J a w → X.wp P (Exit.jump l (fun a' w' => J a' w' ∧ μ a' w' < μ a w) Q) a w) : (Code.scope c).wp P Q a w :=
  wp_scope_jumps l J μ hf (first fun a w h => wp_mono (pass a w h) fun e a w h => by cases e <;> first | exact h | exact ⟨h.1, h.2.1⟩) (fun a w h => wp_seq (wp_skip (pass a w h)))
theorem blkBelow1 (w : World) (o1 : Obj) : Below w.heap.size w (w.alloc o1) := (Below.refl _ w).alloc (Nat.le_refl _) _
end Go.Proofs.YtcinjckajnnhmaaGreat
set_option linter.unusedSimpArgs false
set_option linter.unusedVariables false
namespace Go.Proofs.YtcinjckajnnhmaaGreat
open Go.RowKit Go.WideShapes Go.ChangeShapes
attribute [local go_sem] Oper.semAt_some
/-- Prefixes in memory. -/
def pxC (l : List (Nat × Nat)) : List Value := l.flatMap fun x => [.int .u32 (x.1 : Int), .int .i64 (x.2 : Int)]
theorem pxInfo : (Tryz.prog.info? 24).map (fun i => (i.zero, i.size, i.bytes)) = some (some (.agg #[.int .u32 0, .int .i64 0]), 2, 16) := by kernel_rfl
theorem trGet_find {α : Type} (c k : Nat) : ∀ t : Tr α, trGet c k t = (match trFind c k t with | .nil => none | .nd _ _ _ v _ _ => v)
  | .nil => rfl
  | .nd b a n v l r => by
      have h1 := trGet_find c k l
      have h2 := trGet_find c k r
      unfold trGet trFind
      split
      · split
        · rfl
        · split
          · exact h1
          · exact h2
      · rfl
theorem trFind_w {α : Type} {sz : Nat} {T : TypeId} {F : Nat → Prop} {R : World → List Value → α → Prop} {w : World} (c k : Nat) : ∀ t : Tr α, TrW sz T F R w t → TrW sz T F R w (trFind c k t)
  | .nil, _ => trivial
  | .nd b a n v l r, h => by
      unfold trFind
      split
      · split
        · exact h
        · split
          · exact trFind_w c k l h.2.1
          · exact trFind_w c k r h.2.2
      · trivial
end Go.Proofs.YtcinjckajnnhmaaGreat
set_option linter.unusedSimpArgs false
set_option linter.unusedVariables false
namespace Go.Proofs.YtcinjckajnnhmaaGreat
open Go.RowKit Go.WideShapes Go.ChangeShapes
attribute [local go_sem] Oper.semAt_some
def pxR (w : World) (vs : List Value) (x : Nat × Nat) : Prop := vs = [.int .u32 (x.1 : Int), .int .i64 (x.2 : Int)]
theorem pxMono : SMono pxR := fun _ _ _ _ _ h => h
theorem pxC_chunks (w : World) : ∀ l : List (Nat × Nat), Chunks 2 pxR w (pxC l) l
  | [] => Chunks.nil_
  | x :: l => by
      have h : pxC (x :: l) = [.int .u32 (x.1 : Int), .int .i64 (x.2 : Int)] ++ pxC l := by simp [pxC]
      rw [h]
      exact Chunks.app_ (l := [x]) (Chunks.one_ rfl rfl) (pxC_chunks w l)
theorem own_pxs {w : World} {b n c : Nat} {A : Option Addr} {l : List (Nat × Nat)} (h : w.ownsRow b 24 2 (.slice A n c) n (pxC l)) : LstAt 2 pxR w A n c l := LstAt.of_own (by decide) h (pxC_chunks w l)
end Go.Proofs.YtcinjckajnnhmaaGreat
set_option linter.unusedSimpArgs false
set_option linter.unusedVariables false
namespace Go.Proofs.YtcinjckajnnhmaaGreat
open Go.RowKit Go.WideShapes Go.ChangeShapes
attribute [local go_sem] Oper.semAt_some
set_option maxRecDepth 100000 in
theorem pxCompact_nil (w : World) : Calls Tryz.prog 154 #[.slice none 0 0] w fun e w' => e = .returned (.slice none 0 0) ∧ w' = w := by
  have hnil := fun w => Lib.run_eql_slice_nil (P := Tryz.prog) w
  go_enter Tryz.func154, Tryz.ntmps154
  go_wp2
  go_ret
  exact ⟨rfl, rfl⟩
set_option maxRecDepth 100000 in
theorem pxIns_nil (f : Value) (w : World) : Calls Tryz.prog 238 #[.slice none 0 0, .int .i64 0, .int .i64 0, f] w fun e w' => e = .returned (.tuple #[]) ∧ w' = w := by
  go_enter Tryz.func238, Tryz.ntmps238
  go_wp2
  go_loopw [8] (fun iv wr => iv = .int .i64 1 ∧ wr = w) (fun iv _ => 0)
  case atStart => exact ⟨rfl, rfl⟩
  case round =>
    obtain ⟨rfl, rfl⟩ := hrel
    go_wp2
    refine bodyPost_end (results_none rfl _ _ _) rfl ?_
    exact ⟨rfl, rfl⟩
set_option maxRecDepth 100000 in
set_option maxHeartbeats 4000000 in
theorem pxPdq_nil (f : Value) (k : Int) (w : World) : Calls Tryz.prog 195 #[.slice none 0 0, .int .i64 0, .int .i64 0, .int .i64 k, f] w fun e w' => e = .returned (.tuple #[]) ∧ w' = w := by
  have H := hide (pxIns_nil f w)
  go_enter Tryz.func195, Tryz.ntmps195
  go_wp2
  go_loopw [1, 2] (fun a b wr => a = .int .i64 0 ∧ b = .int .i64 0 ∧ wr = w) (fun _ _ _ => 0)
  case atStart => exact ⟨rfl, rfl, rfl⟩
  case round =>
    obtain ⟨rfl, rfl, rfl⟩ := hrel
    go_wp2_with fail
    refine H.out.mono ?_
    rintro e w1 ⟨rfl, rfl⟩
    go_wp2
    refine bodyPost_ret (results_none rfl _ _ _) rfl ?_
    exact ⟨rfl, rfl⟩
set_option maxRecDepth 100000 in
theorem pxSortF_nil (f : Value) (w : World) : Calls Tryz.prog 152 #[.slice none 0 0, f] w fun e w' => e = .returned (.tuple #[]) ∧ w' = w := by
  have HL := hide (Tryz.bits_Len 0 w (by omega) (by omega))
  have H := hide (fun k w => pxPdq_nil f k w)
  go_enter Tryz.func152, Tryz.ntmps152
  go_wp2_with fail
  refine HL.out.mono ?_
  rintro e w1 ⟨rfl, rfl⟩
  go_wp2_with fail
  refine (H.out _ _).mono ?_
  rintro e w1 ⟨rfl, rfl⟩
  go_wp2
  refine bodyPost_end (results_none rfl _ _ _) rfl ?_
  exact ⟨rfl, rfl⟩
end Go.Proofs.YtcinjckajnnhmaaGreat
set_option linter.unusedSimpArgs false
set_option linter.unusedVariables false
namespace Go.Proofs.YtcinjckajnnhmaaGreat
open Go.RowKit Go.WideShapes Go.ChangeShapes
attribute [local go_sem] Oper.semAt_some
theorem pg8 : PG 167772160 8 := ⟨by decide, by decide, by decide⟩
end Go.Proofs.YtcinjckajnnhmaaGreat
