import Derived.Test.YtmffmkjgdjgmeaaGreatRl1
import Derived.Test.YtmffmkjgdjgmeaaGreatRlSh
import Derived.Shelf.Strings.Builder1
import Derived.Shelf.Strings.Builder2
import Derived.Shelf.Strings.OnBuilder
import Derived.Shelf.LaysM
import Derived.Lib.ItoaMem
import Derived.StillTailTactics
import Derived.Lib.PathFns
import Derived.Lib.IndexBytes
import Derived.RangeFuncWrites
import Derived.RangeFuncNested
import Derived.RangeFuncBound
import Derived.RangeFuncLeaves
import Derived.RangeFuncBox
import Derived.Shelf.Abstract
import Derived.OwnWalkIn
import Derived.TacticsInMore
import Derived.LoopNIn
import Derived.LoopIn
import Derived.Deep.RegionLaw
import Derived.Sort.LotA
import Derived.BigRegion
import Derived.Lib.SmallJoins
import Derived.Lib.ParseIntBCases
import Derived.Lib.IndexMore
import Derived.Shelf.Vars
import Derived.Lib.AtoiAllCases
import Derived.SliceStrings
import Derived.BigRegionIn
import Derived.Deep.RegionHeld3
import Derived.RangeFuncOwn
import Derived.Sort.WalkA6
import Derived.Sort.WalkB3
import Derived.Sort.WalkC4
import Derived.Sort.WalkA14
import Derived.Sort.Walk11
import Derived.Sort.Walk7
import Derived.Sort.Walk13
import Derived.Sort.Row
import Derived.Lib.Walk
import Derived.Lib.Strings
import Derived.BigGuard
import Derived.BigCall
import Derived.CellFam
import Derived.Deep.LoopGhost
import Derived.Sort.LotC
import Derived.Deep.RegionWith
import Derived.RowKit
import Derived.Sort.LotD3
import Derived.Sort.LotD4
import Derived.Sort.Grow
import Derived.Sort.AtCall
import Derived.Sort.LotD5
import Derived.Laws.Bits64
import Derived.Laws.Bits64b
import Derived.Sort.EncStr
import Derived.Sort.LotD1
import Derived.Sort.LotB
import Derived.Deep.Cut
import Derived.Sort.Walk13a
import Derived.Sort.AssemblyPlain
set_option linter.unusedSimpArgs false
set_option linter.unusedVariables false
namespace Go.Proofs.YtmffmkjgdjgmeaaGreat
open Go.RowKit
set_option maxHeartbeats 400000 in
theorem Covers_any (a : Nat) (n : Int) (b : Nat) (m : Int) (ha : a < 4294967296) (hb : b < 4294967296) (h1 : -9223372036854775808 ≤ n) (h2 : n ≤ 9223372036854775807) (h3 : -9223372036854775808 ≤ m) (h4 : m ≤ 9223372036854775807) (w : World) :
  Calls Tryz.prog 256 #[pfx a n, pfx b m] w (GoodP (covB a n b m) w) := by
 have hc := covers_any a n b m ha hb h1 h2 h3 h4; unfold pfx at hc ⊢; have HC := hide hc; clear hc; obtain ⟨k0, k1, k2, k3⟩ := boxes w (.int .u32 (a : Int)) (.int .i64 n) (.int .u32 (b : Int)) (.int .i64 m) 24 24
 go_enter Tryz.func256, Tryz.ntmps256
 go_wp2_with fail
 refine (HC.out _).mono ?_; rintro e w1 ⟨rfl, hb1⟩; obtain ⟨x1, rfl⟩ := far_of_below hb1; go_wp2; go_ret; exact ⟨rfl, below_boxes _ _ _ _⟩
theorem isNaNU_any (a : Nat) (w : World) : Calls Tryz.prog 370 #[.int .u32 a] w fun e w' => e = .returned (.bool false) ∧ w' = w := by
 go_enter Tryz.func370, Tryz.ntmps370
 go_wp2; go_ret; exact ⟨by simp, rfl⟩
def cmpN (a b : Nat) : Int := if a < b then -1 else if b < a then 1 else 0
set_option maxHeartbeats 400000 in
theorem compareU_any (a b : Nat) (w : World) : Calls Tryz.prog 284 #[.int .u32 a, .int .u32 b] w fun e w' => e = .returned (.int .i64 (cmpN a b)) ∧ w' = w := by
 rcases Nat.lt_trichotomy a b with h | h | h
 ·have hf := hide (show cmpN a b = -1 by unfold cmpN; rw [if_pos h])
  go_enter Tryz.func284, Tryz.ntmps284
  go_wp2_with fail
  refine (isNaNU_any a _).mono ?_; rintro e w1 ⟨rfl, rfl⟩
  go_wp2_with fail
  refine (isNaNU_any b _).mono ?_; rintro e w1 ⟨rfl, rfl⟩; go_wp2; go_ret; exact ⟨by rw [hf.out]; rfl, rfl⟩
 ·have hf := hide (show cmpN a b = 0 by unfold cmpN; rw [if_neg (by omega), if_neg (by omega)]); subst h
  go_enter Tryz.func284, Tryz.ntmps284
  go_wp2_with fail
  refine (isNaNU_any a _).mono ?_; rintro e w1 ⟨rfl, rfl⟩
  go_wp2_with fail
  refine (isNaNU_any a _).mono ?_; rintro e w1 ⟨rfl, rfl⟩; go_wp2; go_ret; exact ⟨by rw [hf.out]; rfl, rfl⟩
 ·have hf := hide (show cmpN a b = 1 by unfold cmpN; rw [if_neg (by omega), if_pos h]); have hnn : ¬ a < b := (by omega)
  go_enter Tryz.func284, Tryz.ntmps284
  go_wp2_with fail
  refine (isNaNU_any a _).mono ?_; rintro e w1 ⟨rfl, rfl⟩
  go_wp2_with fail
  refine (isNaNU_any b _).mono ?_; rintro e w1 ⟨rfl, rfl⟩; go_wp2; go_ret; exact ⟨by rw [hf.out]; rfl, rfl⟩
set_option maxHeartbeats 400000 in
theorem or_any (g : Nat) (x y : Int) (w : World) (c0 : w.cell? ⟨g, 0, none⟩ = some (.int .i64 x)) (c1 : w.cell? ⟨g, 1, none⟩ = some (.int .i64 y)) :
  Calls Tryz.prog 283 #[.slice (some ⟨g, 0, none⟩) 2 2] w fun e w' => e = .returned (.int .i64 (if x = 0 then y else x)) ∧ w' = w := by
 go_enter Tryz.func283, Tryz.ntmps283
 go_wp2
 go_loop [8] (fun i => ∃ k : Nat, k ≤ 2 ∧ i = .int .i64 k ∧ (0 < k → x = 0) ∧ (1 < k → y = 0)) (fun i => 2 - (intOf i).toNat)
 case atStart => exact ⟨0, by omega, rfl, by omega, by omega⟩
 case round =>
  obtain ⟨k, hk, rfl, hx, hy⟩ := hrel; rcases (show k = 0 ∨ k = 1 ∨ k = 2 by omega) with h | h | h
  ·subst h; by_cases h0 : x = 0
   ·subst h0; go_wp2
    go_round
    case rel => exact ⟨1, by omega, by go_num, by simp, by omega⟩
    case measure => simp [intOf]
   ·go_wp2; go_ret; exact ⟨rfl, rfl⟩
  ·subst h; have h0 := hx (by omega); subst h0; by_cases h1 : y = 0
   ·subst h1; go_wp2
    go_round
    case rel => exact ⟨2, by omega, by go_num, by simp, by simp⟩
    case measure => simp [intOf]
   ·go_wp2; go_ret; exact ⟨rfl, rfl⟩
  ·subst h; have h0 := hx (by omega); have h1 := hy (by omega); subst h0 h1; go_wp2; go_ret; exact ⟨rfl, rfl⟩
def cmpP (a : Nat) (n : Int) (b : Nat) (m : Int) : Int := if a < b ∨ (a = b ∧ n < m) then -1 else if a = b ∧ n = m then 0 else 1
theorem wpList_gen {P : Program} {ops : Array Oper} {Q : Exit → Act → World → Prop} {l : List Oper} {a : Act} {w : World} (I : World → Prop) (h0 : I w) (h : ∀ w3, I w3 → wpList P ops Q l a w3) : wpList P ops Q l a w := h w h0
theorem or_cmp (a : Nat) (n : Int) (b : Nat) (m : Int) : (if cmpN a b = 0 then Lib.compareInt n m else cmpN a b) = cmpP a n b m := by
 unfold cmpN cmpP Lib.compareInt; split <;> split <;> (try split) <;> (try split) <;> omega
theorem code_gen {P : Program} {c : Code} {Q : Exit → Act → World → Prop} {a : Act} {w : World} (I : World → Prop) (h0 : I w) (h : ∀ w3, I w3 → c.wp P Q a w3) : c.wp P Q a w := h w h0
def comN (a b : Nat) : Nat := 32 - Lib.bitLen (a ^^^ b)
theorem xor_div (a b s : Nat) : (a ^^^ b) / 2 ^ s = (a / 2 ^ s) ^^^ (b / 2 ^ s) := by
 rw [← Nat.shiftRight_eq_div_pow, ← Nat.shiftRight_eq_div_pow, ← Nat.shiftRight_eq_div_pow, Nat.shiftRight_xor_distrib]
theorem xor_zero {a b : Nat} (h : a ^^^ b = 0) : a = b := by
 have : a ^^^ b ^^^ b = b := (by rw [h]; simp)
 rwa [Nat.xor_assoc, Nat.xor_self, Nat.xor_zero] at this
theorem xor_lt32 (a b : Nat) (ha : a < 4294967296) (hb : b < 4294967296) : a ^^^ b < 4294967296 := Nat.xor_lt_two_pow (n := 32) ha hb
theorem div_same {a b s : Nat} (h : a ^^^ b < 2 ^ s) : a / 2 ^ s = b / 2 ^ s := by
 apply xor_zero
 rw [← xor_div]; exact Nat.div_eq_of_lt h
theorem lt_of_div {a b s : Nat} (h : a / 2 ^ s = b / 2 ^ s) : a ^^^ b < 2 ^ s := by
 have e := xor_div a b s; rw [h, Nat.xor_self] at e; exact (Nat.div_eq_zero_iff_lt (Nat.two_pow_pos s)).1 e
theorem bitLen_bounds (x : Nat) (hx : x < 4294967296) : Lib.bitLen x ≤ 32 ∧ x < 2 ^ Lib.bitLen x ∧ (x ≠ 0 → 2 ^ (Lib.bitLen x - 1) ≤ x) := by
 have hle := Lib.bitLen_le x 32 (by omega) hx; refine ⟨hle, ?_⟩; by_cases h0 : x = 0
 ·subst h0; refine ⟨Nat.two_pow_pos _, fun h => absurd rfl h⟩
 ·have := Lib.bitLenAux_bounds 64 x (by omega) h0; exact ⟨this.2.2, fun _ => this.2.1⟩
theorem com_cut (a b L : Nat) (ha : a < 4294967296) (hb : b < 4294967296) (hL : L ≤ comN a b) : cutN a L = cutN b L := by
 have hx := bitLen_bounds (a ^^^ b) (xor_lt32 a b ha hb); unfold comN at hL; rw [cutN_eq_iff]
 apply div_same
 exact Nat.lt_of_lt_of_le hx.2.1 (Nat.pow_le_pow_right (by decide) (by omega))
theorem com_next (a b : Nat) (ha : a < 4294967296) (hb : b < 4294967296) (hL : comN a b < 32) : bitN a (comN a b) ≠ bitN b (comN a b) := by
 have hx := bitLen_bounds (a ^^^ b) (xor_lt32 a b ha hb); have h1 := com_cut a b (comN a b) ha hb (Nat.le_refl _); rw [cutN_eq_iff] at h1; intro h2; unfold bitN at h2; obtain ⟨z, hz⟩ : ∃ z, comN a b = z := ⟨_, rfl⟩
 rw [hz] at h1 h2 hL; have e : (2 : Nat) ^ (32 - z) = 2 ^ (31 - z) * 2 := (by rw [← Nat.pow_succ]; congr 1; omega)
 rw [e, ← Nat.div_div_eq_div_mul, ← Nat.div_div_eq_div_mul] at h1; have h3 : a / 2 ^ (31 - z) = b / 2 ^ (31 - z) := (by omega)
 have h4 := lt_of_div h3
 have hne : a ^^^ b ≠ 0 := by
  intro h0; unfold comN at hz; rw [h0] at hz; have : Lib.bitLen 0 = 0 := (by decide)
  omega
 have h5 := hx.2.2 hne; unfold comN at hz; rw [show Lib.bitLen (a ^^^ b) - 1 = 31 - z by omega] at h5; omega
theorem lz_any (a b : Nat) (ha : a < 4294967296) (hb : b < 4294967296) (w : World) : Calls Tryz.prog 373 #[.int .u32 (bits .xor .u32 (a : Int) (b : Int))] w fun e w' => e = .returned (.int .i64 ((comN a b : Nat) : Int)) ∧ w' = w := by
 rw [u32_xor_nat a b ha hb]; have hx := xor_lt32 a b ha hb; have hl := (bitLen_bounds _ hx).1; refine (Tryz.bits_LeadingZeros32 ((a ^^^ b : Nat) : Int) w (by omega) (by omega)).mono ?_; rintro e w' ⟨rfl, rfl⟩; refine ⟨?_, rfl⟩; unfold comN; rw [Int.toNat_natCast]
 congr 2
 omega
theorem min3 (z k j : Nat) : (if (j : Int) < (if k < z then (k : Int) else (z : Int)) then (j : Int) else if k < z then (k : Int) else (z : Int)) = ((min (min z k) j : Nat) : Int) := by
 split <;> split <;> omega
set_option maxRecDepth 100000 in
set_option maxHeartbeats 1000000 in
theorem common_good (a k : Nat) (b j : Nat) (ha : a < 4294967296) (hb : b < 4294967296) (hk : k ≤ 32) (hj : j ≤ 32) (hg : goodB a (k : Int) = true) (hh : goodB b (j : Int) = true) (w : World) :
  Calls Tryz.prog 292 #[pfx a k, pfx b j] w fun e w' => e = .returned (pfx (cutN a (min (min (comN a b) k) j)) ((min (min (comN a b) k) j : Nat) : Int)) ∧ Below w.heap.size w w' := by
 have hg1 := good_any a k ha (by omega) (by omega); have hh1 := good_any b j hb (by omega) (by omega); rw [hg] at hg1; rw [hh] at hh1; unfold pfx at hg1 hh1 ⊢; have HG := hide hg1; have HH := hide hh1; have HL := hide (lz_any a b ha hb); obtain ⟨z, hz⟩ : ∃ z, comN a b = z := ⟨_, rfl⟩
 have hz32 : z ≤ 32 := (by rw [← hz]; unfold comN; omega)
 rw [hz] at HL ⊢; have HA := hide ha; clear hg hh hg1 hh1 hz ha hb
 go_enter Tryz.func292, Tryz.ntmps292
 go_wp2_with fail
 refine (HG.out _).mono ?_; rintro e w1 ⟨rfl, hb1⟩; have B0 : Blk w1 w.heap.size 24 #[.int .u32 (a : Int), .int .i64 (k : Int)] := (((Blk.new w _ _).alloc _).alloc _).below hb1 (by simp; omega); have B1 : Blk w1 (w.heap.size + 1) 24 #[.int .u32 (b : Int), .int .i64 (j : Int)] := ((by simpa using Blk.new (w.alloc (.cells #[.int .u32 (a : Int), .int .i64 (k : Int)] 24)) 24 #[.int .u32 (b : Int), .int .i64 (j : Int)] : Blk _ (w.heap.size + 1) _ _).alloc _).below hb1 (by simp); have B2 : Blk w1 (w.heap.size + 2) 24 #[.int .u32 0, .int .i64 0] := (by simpa using Blk.new ((w.alloc (.cells #[.int .u32 (a : Int), .int .i64 (k : Int)] 24)).alloc (.cells #[.int .u32 (b : Int), .int .i64 (j : Int)] 24)) 24 #[.int .u32 0, .int .i64 0] : Blk _ (w.heap.size + 2) _ _).below hb1 (by simp); have hbw : Below w.heap.size w w1 := ((((Below.refl _ w).alloc (Nat.le_refl _) _).alloc (by simp) _).alloc (by simp; omega) _).trans (hb1.mono (by simp; omega)); have s0 := B1.cell 0; have s1 := B1.cell 1; simp at s0 s1; clear hb1
 go_wp2_with fail
 refine (HH.out _).mono ?_; rintro e w2 ⟨rfl, hb2⟩; have C0 := B0.below hb2 B0.lt; have C1 := B1.below hb2 B1.lt; have C2 := B2.below hb2 B2.lt; have hbw2 := hbw.trans (hb2.mono hbw.size); clear s0 s1 B0 B1 B2 hbw hb2; have r0 := C0.cell 0; have r1 := C0.cell 1; have s0 := C1.cell 0; have s1 := C1.cell 1; simp at r0 r1 s0 s1
 go_wp2_with fail
 refine wp_region_still_lit (by kernel_rfl) (by kernel_rfl) ?_
 repeat (first | still_step | still_call (HL.out _))
 rw [min3]; have hL32 : min (min z k) j ≤ 32 := (by omega)
 obtain ⟨L, hLe⟩ : ∃ L, min (min z k) j = L := ⟨_, rfl⟩
 rw [hLe] at hL32 ⊢; have HE := hide hLe; have HM := hide (fun w => (mask_in L hL32 w).mono (R' := fun e w' => e = .returned (.int .u32 ((maskN L : Nat) : Int)) ∧ w' = w) fun _ _ h => ⟨h.1, h.2.symm⟩); clear hLe; refine wpStill_nil ?_; change Exit.then _ _ _ _ (World.drew w2)
 go_wp2_with fail
 refine code_gen (fun w3 => Blk w3 w.heap.size 24 #[.int .u32 (a : Int), .int .i64 (k : Int)] ∧ Blk w3 (w.heap.size + 2) 24 #[.int .u32 0, .int .i64 0] ∧ Below w.heap.size w w3) ⟨C0.drew, C2.drew, hbw2.drew⟩ ?_; clear r0 r1 s0 s1 C0 C1 C2 hbw2; rintro w3 ⟨C0, C2, hbw2⟩; have r0 := C0.cell 0; have r1 := C0.cell 1; simp at r0 r1; refine wp_region_still_tail 7 (by kernel_rfl) (by kernel_rfl) ?_; simp only [List.take_succ_cons, List.take_zero, List.drop_succ_cons, List.drop_zero]
 repeat (first | still_step | still_call (HM.out _))
 refine wpStill_nil ?_; refine wpList_gen (fun w4 => Blk w4 (w.heap.size + 2) 24 #[.int .u32 0, .int .i64 0] ∧ Below w.heap.size w w4) ⟨C2.drew, hbw2.drew⟩ ?_; clear r0 r1 C0 C2 hbw2; rintro w4 ⟨C2, hbw⟩; have t0 := C2.cell 0; have t1 := C2.cell 1; have q0 := C2.frozen 0; have q1 := C2.frozen 1; simp at t0 t1; have hand : Hid (bits .and .u32 (a : Int) ((maskN L : Nat) : Int) = ((cutN a L : Nat) : Int)) := hide (by rw [u32_and_nat _ _ HA.out (maskN_lt L), and_mask a L HA.out hL32]); rw [hand.out]; go_wp2; refine bodyPost_ret (v := .agg #[.int .u32 ((cutN a L : Nat) : Int), .int .i64 (L : Int)]) (by simp [results, Tryz.results292, go_sem, t0, t1, q0, q1]) rfl ⟨by rw [HE.out], ?_⟩; exact (hbw.setCell (by simp; omega) _).setCell (by simp; omega) _
end Go.Proofs.YtmffmkjgdjgmeaaGreat
namespace Go.Proofs.YtmffmkjgdjgmeaaGreat
def PG (a n : Nat) : Prop := a < 4294967296 ∧ n ≤ 32 ∧ cutN a n = a
def CvN (a n b m : Nat) : Prop := n ≤ m ∧ cutN b n = a
instance cvN_dec (a n b m : Nat) : Decidable (CvN a n b m) := by unfold CvN; infer_instance
theorem cvN_refl {a n : Nat} (h : PG a n) : CvN a n a n := ⟨Nat.le_refl _, h.2.2⟩
theorem cvN_same {a n b m : Nat} (h : CvN a n b m) (hb : PG b m) (e : n = m) : a = b := by subst e; rw [← h.2, hb.2.2]
theorem div_more (x : Nat) {i m : Nat} (hi : i < m) (hm : m ≤ 32) : x / 2 ^ (31 - i) = x / 2 ^ (32 - m) / 2 ^ (m - 1 - i) := by
 rw [Nat.div_div_eq_div_mul, ← Nat.pow_add]
 congr 2
 omega
theorem bit_same {x y i m : Nat} (h : cutN x m = cutN y m) (hi : i < m) (hm : m ≤ 32) : bitN x i = bitN y i := by
 unfold bitN; rw [div_more x hi hm, div_more y hi hm, (cutN_eq_iff x y m).1 h]
theorem cut_less {x y i m : Nat} (h : cutN x m = cutN y m) (hi : i ≤ m) (hm : m ≤ 32) : cutN x i = cutN y i := by
 rw [← cutN_cutN x hi hm, ← cutN_cutN y hi hm, h]
theorem bitN_01 (a i : Nat) : bitN a i = 0 ∨ bitN a i = 1 := by have := bitN_lt a i; omega
theorem lt_of_bit {x y m : Nat} (h : cutN x m = cutN y m) (hm : m < 32) (hx : bitN x m = 0) (hy : bitN y m = 1) : x < y := by
 unfold bitN at hx hy; have e := (cutN_eq_iff x y m).1 h; have e1 : x / 2 ^ (32 - m) = x / 2 ^ (31 - m) / 2 := (by rw [Nat.div_div_eq_div_mul, ← Nat.pow_succ]; congr 2; omega)
 have e2 : y / 2 ^ (32 - m) = y / 2 ^ (31 - m) / 2 := (by rw [Nat.div_div_eq_div_mul, ← Nat.pow_succ]; congr 2; omega)
 rw [e1, e2] at e; have : x / 2 ^ (31 - m) < y / 2 ^ (31 - m) := (by omega)
 exact Nat.lt_of_not_le fun hle => by have := Nat.div_le_div_right (c := 2 ^ (31 - m)) hle; omega
def comL (a n b m : Nat) : Nat := min (min (comN a b) n) m
theorem com_apart {a n b m : Nat} (ha : PG a n) (hb : PG b m) (h1 : ¬ CvN a n b m) (h2 : ¬ CvN b m a n) :
  comL a n b m < n ∧ comL a n b m < m ∧ comL a n b m < 32 ∧ cutN a (comL a n b m) = cutN b (comL a n b m) ∧ bitN a (comL a n b m) ≠ bitN b (comL a n b m) := by
 have hk := fun L hL => com_cut a b L ha.1 hb.1 hL
 have hlt : comN a b < n ∧ comN a b < m := by
  refine Classical.byContradiction fun hn => ?_; rcases Nat.le_total n m with hle | hle
  ·refine h1 ⟨hle, ?_⟩; rw [← hk n (by omega)]; exact ha.2.2
  ·refine h2 ⟨hle, ?_⟩; rw [hk m (by omega)]; exact hb.2.2
 have e : comL a n b m = comN a b := (by unfold comL; omega)
 have h32 : comN a b < 32 := (by have := ha.2.1; omega)
 rw [e]; exact ⟨hlt.1, hlt.2, h32, hk _ (Nat.le_refl _), com_next a b ha.1 hb.1 h32⟩
theorem pg_cut {a n L : Nat} (h : PG a n) (hL : L ≤ n) : PG (cutN a L) L := by
 have h3 := h.2.1; exact ⟨Nat.lt_of_le_of_lt (cutN_le _ _) h.1, by omega, cutN_cutN a (Nat.le_refl _) (by omega)⟩
inductive Tr (α : Type) where
  | nil : Tr α
  | nd (b a n : Nat) (v : Option α) (l r : Tr α) : Tr α
section
variable {α : Type}
def trIn (c k i : Nat) : Tr α → Prop
  | .nil => True
  | .nd _ a n _ _ _ => k < n ∧ cutN a k = c ∧ bitN a k = i
def trWf : Tr α → Prop
  | .nil => True
  | .nd _ a n _ l r => PG a n ∧ trIn a n 0 l ∧ trIn a n 1 r ∧ trWf l ∧ trWf r
def trCnt : Tr α → Nat
  | .nil => 0
  | .nd _ _ _ v l r => trCnt l + trCnt r + (if v.isSome then 1 else 0)
def trB : Tr α → List Nat
  | .nil => []
  | .nd b _ _ _ l r => b :: (trB l ++ trB r)
def trGet (c k : Nat) : Tr α → Option α
  | .nil => none
  | .nd _ a n v l r => if CvN a n c k then (if a = c ∧ n = k then v else if bitN c n = 0 then trGet c k l else trGet c k r) else none
def trL : Tr α → List (Nat × Nat × α)
  | .nil => []
  | .nd _ a n v l r => (match v with | some x => [(a, n, x)] | none => []) ++ (trL l ++ trL r)
theorem trL_len : ∀ t : Tr α, (trL t).length = trCnt t
 | .nil => rfl
 | .nd _ a n v l r => by
   have h1 := trL_len l; have h2 := trL_len r
   cases v <;> simp [trL, trCnt, h1, h2] <;> omega
theorem trGet_in {c k : Nat} : ∀ (t : Tr α) {a n i : Nat} {x : α}, trWf t → trIn a n i t → trGet c k t = some x → n < k ∧ cutN c n = a ∧ bitN c n = i ∧ PG c k
 | .nil, _, _, _, _, _, _, h => by simp [trGet] at h
 | .nd _ p m v l r, a, n, i, x, hw, hi, h => by
   obtain ⟨hg, hl, hr, hwl, hwr⟩ := hw; obtain ⟨h1, h2, h3⟩ := hi; unfold trGet at h; split at h
   ·rename_i hc; have h4 : n < k := Nat.lt_of_lt_of_le h1 hc.1; have h5 : cutN c m = p := hc.2; have hm := hg.2.1; have h6 : cutN c m = cutN p m := (by rw [h5, hg.2.2])
    refine ⟨h4, by rw [cut_less h6 (by omega) hm, h2], by rw [bit_same h6 h1 hm, h3], ?_⟩; split at h
    ·rename_i he; obtain ⟨rfl, rfl⟩ := he; exact hg
    ·split at h
     ·exact (trGet_in l hwl hl h).2.2.2
     ·exact (trGet_in r hwr hr h).2.2.2
   ·cases h
theorem trGet_pg {c k : Nat} {x : α} (t : Tr α) (hw : trWf t) (h : trGet c k t = some x) : PG c k := by
 cases t with
 | nil => simp [trGet] at h
 | nd b p m v l r =>
  obtain ⟨hg, hl, hr, hwl, hwr⟩ := hw; unfold trGet at h; split at h
  ·split at h
   ·rename_i he; obtain ⟨rfl, rfl⟩ := he; exact hg
   ·split at h
    ·exact (trGet_in l hwl hl h).2.2.2
    ·exact (trGet_in r hwr hr h).2.2.2
  ·cases h
theorem trL_mem {c k : Nat} {x : α} : ∀ (t : Tr α), trWf t → ((c, k, x) ∈ trL t ↔ trGet c k t = some x)
 | .nil, _ => by simp [trL, trGet]
 | .nd _ p m v l r, hw => by
   obtain ⟨hg, hl, hr, hwl, hwr⟩ := hw; have il := trL_mem l hwl (c := c) (k := k) (x := x); have ir := trL_mem r hwr (c := c) (k := k) (x := x); simp only [trL, List.mem_append, il, ir]; constructor
   ·rintro (h | h | h)
    ·cases v with
     | none => simp at h
     | some y =>
      simp only [List.mem_singleton, Prod.mk.injEq] at h; obtain ⟨rfl, rfl, rfl⟩ := h; simp [trGet, cvN_refl hg]
    ·obtain ⟨h1, h2, h3, h4⟩ := trGet_in l hwl hl h; have hc : CvN p m c k := ⟨by omega, h2⟩
     simp only [trGet, if_pos hc, if_neg (show ¬ (p = c ∧ m = k) by omega), if_pos h3, h]
    ·obtain ⟨h1, h2, h3, h4⟩ := trGet_in r hwr hr h; have hc : CvN p m c k := ⟨by omega, h2⟩
     simp only [trGet, if_pos hc, if_neg (show ¬ (p = c ∧ m = k) by omega), if_neg (show ¬ bitN c m = 0 by omega), h]
   ·intro h; unfold trGet at h; split at h
    ·split at h
     ·rename_i he; obtain ⟨rfl, rfl⟩ := he; subst h
      simp
     ·split at h
      ·exact .inr (.inl h)
      ·exact .inr (.inr h)
    ·cases h
def PLt (x y : Nat × Nat × α) : Prop := x.1 < y.1 ∨ x.1 = y.1 ∧ x.2.1 < y.2.1
theorem trL_sorted : ∀ t : Tr α, trWf t → (trL t).Pairwise PLt
 | .nil, _ => List.Pairwise.nil
 | .nd _ p m v l r, hw => by
   obtain ⟨hg, hl, hr, hwl, hwr⟩ := hw; have inl : ∀ y ∈ trL l, m < y.2.1 ∧ cutN y.1 m = p ∧ bitN y.1 m = 0 ∧ PG y.1 y.2.1 := fun y hy => trGet_in l hwl hl ((trL_mem l hwl).1 hy); have inr : ∀ y ∈ trL r, m < y.2.1 ∧ cutN y.1 m = p ∧ bitN y.1 m = 1 ∧ PG y.1 y.2.1 := fun y hy => trGet_in r hwr hr ((trL_mem r hwr).1 hy); have hle : ∀ y : Nat × Nat × α, cutN y.1 m = p → p ≤ y.1 := fun y h => by rw [← h]; exact cutN_le _ _
   have hk : (trL l ++ trL r).Pairwise PLt := by
    refine List.pairwise_append.2 ⟨trL_sorted l hwl, trL_sorted r hwr, fun x hx y hy => ?_⟩; obtain ⟨h1, h2, h3, h4⟩ := inl x hx; obtain ⟨k1, k2, k3, k4⟩ := inr y hy; exact .inl (lt_of_bit (h2.trans k2.symm) (by have := h4.2.1; omega) h3 k3)
   cases v with
   | none => simpa [trL] using hk
   | some x =>
    show ((p, m, x) :: (trL l ++ trL r)).Pairwise PLt; refine List.pairwise_cons.2 ⟨fun y hy => ?_, hk⟩
    have : m < y.2.1 ∧ p ≤ y.1 := by
     rcases List.mem_append.1 hy with h | h
     ·exact ⟨(inl y h).1, hle y (inl y h).2.1⟩
     ·exact ⟨(inr y h).1, hle y (inr y h).2.1⟩
    unfold PLt; simp only; omega
theorem plt_irr (x y : Nat × Nat × α) (h : PLt x y) (h' : PLt y x) : False := by unfold PLt at h h'; omega
theorem plt_ext : ∀ (l r : List (Nat × Nat × α)), l.Pairwise PLt → r.Pairwise PLt → (∀ z, z ∈ l ↔ z ∈ r) → l = r
 | [], [], _, _, _ => rfl
 | [], y :: r, _, _, h => absurd ((h y).2 List.mem_cons_self) (by simp)
 | x :: l, [], _, _, h => absurd ((h x).1 List.mem_cons_self) (by simp)
 | x :: l, y :: r, hl, hr, h => by
   have hl2 := List.pairwise_cons.1 hl; have hr2 := List.pairwise_cons.1 hr
   have e : x = y := by
    rcases List.mem_cons.1 ((h x).1 List.mem_cons_self) with h1 | h1
    ·exact h1
    ·rcases List.mem_cons.1 ((h y).2 List.mem_cons_self) with h2 | h2
     ·exact h2.symm
     ·exact absurd (hr2.1 x h1) (fun h3 => plt_irr _ _ h3 (hl2.1 y h2))
   subst e; rw [plt_ext l r hl2.2 hr2.2 fun z => ?_]; constructor
   ·intro hz; rcases List.mem_cons.1 ((h z).1 (List.mem_cons_of_mem _ hz)) with h1 | h1
    ·subst h1; exact absurd (hl2.1 z hz) (fun h3 => plt_irr _ _ h3 h3)
    ·exact h1
   ·intro hz; rcases List.mem_cons.1 ((h z).2 (List.mem_cons_of_mem _ hz)) with h1 | h1
    ·subst h1; exact absurd (hr2.1 z hz) (fun h3 => plt_irr _ _ h3 h3)
    ·exact h1
structure PutR (a n : Nat) (x : α) (t t' : Tr α) : Prop where
  wf : trWf t'
  get : ∀ c k, trGet c k t' = if a = c ∧ n = k then some x else trGet c k t
  inn : ∀ c k i, trIn c k i t → k < n → cutN a k = c → bitN a k = i → trIn c k i t'
  cnt : trCnt t' = trCnt t + (if (trGet a n t).isSome then 0 else 1)
theorem put_nil {a n : Nat} (h : PG a n) (x : α) (b : Nat) : PutR a n x (.nil : Tr α) (.nd b a n (some x) .nil .nil) := by
 refine ⟨⟨h, trivial, trivial, trivial, trivial⟩, fun c k => ?_, fun c k i _ h1 h2 h3 => ⟨h1, h2, h3⟩, by simp [trCnt, trGet]⟩; simp only [trGet]; by_cases e : a = c ∧ n = k
 ·obtain ⟨rfl, rfl⟩ := e; simp [cvN_refl h]
 ·simp [e]
theorem put_here {b a n : Nat} {v : Option α} {l r : Tr α} (hw : trWf (.nd b a n v l r)) (x : α) : PutR a n x (.nd b a n v l r) (.nd b a n (some x) l r) := by
 have hr := cvN_refl hw.1; refine ⟨hw, fun c k => ?_, fun c k i h _ _ _ => h, ?_⟩
 ·simp only [trGet]; by_cases e : a = c ∧ n = k
  ·obtain ⟨rfl, rfl⟩ := e; simp [hr]
  ·simp only [e, if_false]
 ·cases v <;> simp [trCnt, trGet, hr]
theorem put_left {b p m a n : Nat} {v : Option α} {l l' r : Tr α} {x : α} (hw : trWf (.nd b p m v l r)) (ha : PG a n) (hc : CvN p m a n) (hne : ¬ (p = a ∧ m = n)) (hb : bitN a m = 0) (hl : PutR a n x l l') :
  PutR a n x (.nd b p m v l r) (.nd b p m v l' r) := by
 obtain ⟨hg, h1, h2, h3, h4⟩ := hw; have hlt : m < n := Nat.lt_of_le_of_ne hc.1 fun e => hne ⟨cvN_same hc ha e, e⟩; refine ⟨⟨hg, hl.inn _ _ _ h1 hlt hc.2 hb, h2, hl.wf, h4⟩, fun c k => ?_, fun c k i h _ _ _ => h, ?_⟩
 ·simp only [trGet, hl.get]; by_cases e : a = c ∧ n = k
  ·obtain ⟨rfl, rfl⟩ := e; simp [hc, hne, hb]
  ·simp only [e, if_false]
 ·simp only [trCnt, hl.cnt, trGet, if_pos hc, if_neg hne, if_pos hb]; omega
theorem put_right {b p m a n : Nat} {v : Option α} {l r r' : Tr α} {x : α} (hw : trWf (.nd b p m v l r)) (ha : PG a n) (hc : CvN p m a n) (hne : ¬ (p = a ∧ m = n)) (hb : bitN a m = 1) (hr : PutR a n x r r') :
  PutR a n x (.nd b p m v l r) (.nd b p m v l r') := by
 obtain ⟨hg, h1, h2, h3, h4⟩ := hw; have hlt : m < n := Nat.lt_of_le_of_ne hc.1 fun e => hne ⟨cvN_same hc ha e, e⟩; have hb0 : ¬ bitN a m = 0 := (by omega)
 refine ⟨⟨hg, h1, hr.inn _ _ _ h2 hlt hc.2 hb, h3, hr.wf⟩, fun c k => ?_, fun c k i h _ _ _ => h, ?_⟩
 ·simp only [trGet, hr.get]; by_cases e : a = c ∧ n = k
  ·obtain ⟨rfl, rfl⟩ := e; simp [hc, hne, hb0]
  ·simp only [e, if_false]
 ·simp only [trCnt, hr.cnt, trGet, if_pos hc, if_neg hne, if_neg hb0]; omega
theorem trGet_under {a n c k : Nat} {t : Tr α} {i : Nat} (hw : trWf t) (hi : trIn a n i t) (h : ¬ (CvN a n c k ∧ n < k ∧ bitN c n = i)) : trGet c k t = none := by
 cases e : trGet c k t with
 | none => rfl
 | some x =>
  obtain ⟨h1, h2, h3, _⟩ := trGet_in t hw hi e; exact absurd ⟨⟨by omega, h2⟩, h1, h3⟩ h
theorem put_above0 {b0 b p m a n : Nat} {v : Option α} {l r : Tr α} {x : α} (hw : trWf (.nd b p m v l r)) (ha : PG a n) (hc : CvN a n p m) (hne : ¬ (p = a ∧ m = n)) (hb : bitN p n = 0) :
  PutR a n x (.nd b p m v l r) (.nd b0 a n (some x) (.nd b p m v l r) .nil) := by
 have hlt : n < m := Nat.lt_of_le_of_ne hc.1 fun e => hne ⟨(cvN_same hc hw.1 e).symm, e.symm⟩; have hI : trIn a n 0 (.nd b p m v l r) := ⟨hlt, hc.2, hb⟩
 refine ⟨⟨ha, hI, trivial, hw, trivial⟩, fun c k => ?_, fun c k i h h1 h2 h3 => ⟨h1, h2, h3⟩, ?_⟩
 ·by_cases e : a = c ∧ n = k
  ·obtain ⟨rfl, rfl⟩ := e; simp [trGet, cvN_refl ha]
  ·rw [if_neg e]; by_cases h : CvN a n c k ∧ bitN c n = 0
   ·simp only [trGet, if_pos h.1, if_neg e, if_pos h.2]
   ·rw [trGet_under hw hI (fun h' => h ⟨h'.1, h'.2.2⟩)]; by_cases h1 : CvN a n c k
    ·have h2 : ¬ bitN c n = 0 := fun h2 => h ⟨h1, h2⟩; simp [trGet, h1, e, h2]
    ·simp [trGet, h1]
 ·rw [trGet_under hw hI (fun h' => by omega)]; simp [trCnt]
theorem put_above1 {b0 b p m a n : Nat} {v : Option α} {l r : Tr α} {x : α} (hw : trWf (.nd b p m v l r)) (ha : PG a n) (hc : CvN a n p m) (hne : ¬ (p = a ∧ m = n)) (hb : bitN p n = 1) :
  PutR a n x (.nd b p m v l r) (.nd b0 a n (some x) .nil (.nd b p m v l r)) := by
 have hlt : n < m := Nat.lt_of_le_of_ne hc.1 fun e => hne ⟨(cvN_same hc hw.1 e).symm, e.symm⟩; have hI : trIn a n 1 (.nd b p m v l r) := ⟨hlt, hc.2, hb⟩
 refine ⟨⟨ha, trivial, hI, trivial, hw⟩, fun c k => ?_, fun c k i h h1 h2 h3 => ⟨h1, h2, h3⟩, ?_⟩
 ·by_cases e : a = c ∧ n = k
  ·obtain ⟨rfl, rfl⟩ := e; simp [trGet, cvN_refl ha]
  ·rw [if_neg e]; by_cases h : CvN a n c k ∧ bitN c n = 1
   ·have h2 : ¬ bitN c n = 0 := (by have := h.2; omega)
    simp only [trGet, if_pos h.1, if_neg e, if_neg h2]
   ·rw [trGet_under hw hI (fun h' => h ⟨h'.1, h'.2.2⟩)]; by_cases h1 : CvN a n c k
    ·have h2 : bitN c n = 0 := by rcases bitN_01 c n with h3 | h3; exact h3; exact absurd ⟨h1, h3⟩ h
     simp [trGet, h1, e, h2]
    ·simp [trGet, h1]
 ·rw [trGet_under hw hI (fun h' => by omega)]; simp [trCnt]
theorem trGet_top {b p m c k : Nat} {v : Option α} {l r : Tr α} (h : ¬ CvN p m c k) : trGet c k (.nd b p m v l r) = none := by simp [trGet, h]
theorem put_both0 {b0 b1 b p m a n : Nat} {v : Option α} {l r : Tr α} {x : α} (hw : trWf (.nd b p m v l r)) (ha : PG a n) (h1 : ¬ CvN p m a n) (h2 : ¬ CvN a n p m) (hb : bitN a (comL p m a n) = 0) :
  PutR a n x (.nd b p m v l r) (.nd b1 (cutN p (comL p m a n)) (comL p m a n) none (.nd b0 a n (some x) .nil .nil) (.nd b p m v l r)) := by
 obtain ⟨k1, k2, k3, k4, k5⟩ := com_apart hw.1 ha h1 h2
 generalize comL p m a n = L at *
 have hb1 : bitN p L = 1 := by rcases bitN_01 p L with h | h; omega; exact h
 have hg := pg_cut (L := L) hw.1 (by omega); have hI : trIn (cutN p L) L 1 (.nd b p m v l r) := ⟨k1, rfl, hb1⟩
 have hJ : trIn (cutN p L) L 0 (.nd b0 a n (some x) .nil .nil) := ⟨k2, k4.symm, hb⟩
 have hwJ : trWf (.nd b0 a n (some x) .nil .nil) := ⟨ha, trivial, trivial, trivial, trivial⟩
 have hJg := fun c k => (put_nil ha x b0).get c k; refine ⟨⟨hg, hJ, hI, hwJ, hw⟩, fun c k => ?_, fun c k i h j1 j2 j3 => ?_, ?_⟩
 ·have hgt : trGet c k (.nd b1 (cutN p L) L none (.nd b0 a n (some x) .nil .nil) (.nd b p m v l r)) = if CvN (cutN p L) L c k then (if cutN p L = c ∧ L = k then none else if bitN c L = 0 then trGet c k (.nd b0 a n (some x) .nil .nil) else trGet c k (.nd b p m v l r)) else none := rfl; rw [hgt, hJg]; by_cases e : a = c ∧ n = k
  ·obtain ⟨rfl, rfl⟩ := e; have hc : CvN (cutN p L) L a n := ⟨by omega, k4.symm⟩
   rw [if_pos hc, if_neg (by omega), if_pos hb, if_pos ⟨rfl, rfl⟩, if_pos ⟨rfl, rfl⟩]
  ·simp only [e, if_false]; by_cases h : CvN (cutN p L) L c k ∧ L < k ∧ bitN c L = 1
   ·rw [if_pos h.1, if_neg (by omega), if_neg (by omega)]
   ·rw [trGet_under hw hI h]; by_cases h3 : CvN (cutN p L) L c k
    ·rw [if_pos h3]; by_cases h4 : cutN p L = c ∧ L = k
     ·rw [if_pos h4]
     ·rw [if_neg h4]; by_cases h5 : bitN c L = 0
      ·rw [if_pos h5]; rfl
      ·rw [if_neg h5]
    ·rw [if_neg h3]
 ·obtain ⟨i1, i2, i3⟩ := h
  have hkL : k < L := by
   refine Nat.lt_of_not_le fun hle => ?_; rcases Nat.lt_or_ge L k with h | h
   ·exact k5 (bit_same (i2.trans j2.symm) h (by have := hw.1.2.1; omega))
   ·have : L = k := (by omega)
    subst this; exact k5 (i3.trans j3.symm)
  have e : cutN (cutN p L) k = cutN p k := cutN_cutN p (by omega) (by omega); refine ⟨hkL, e.trans i2, ?_⟩; rw [bit_same (x := cutN p L) (y := p) (m := L) (cutN_cutN p (Nat.le_refl _) (by omega)) hkL (by omega), i3]
 ·rw [trGet_top h1]; simp [trCnt]; omega
theorem put_both1 {b0 b1 b p m a n : Nat} {v : Option α} {l r : Tr α} {x : α} (hw : trWf (.nd b p m v l r)) (ha : PG a n) (h1 : ¬ CvN p m a n) (h2 : ¬ CvN a n p m) (hb : bitN a (comL p m a n) = 1) :
  PutR a n x (.nd b p m v l r) (.nd b1 (cutN p (comL p m a n)) (comL p m a n) none (.nd b p m v l r) (.nd b0 a n (some x) .nil .nil)) := by
 obtain ⟨k1, k2, k3, k4, k5⟩ := com_apart hw.1 ha h1 h2
 generalize comL p m a n = L at *
 have hb1 : bitN p L = 0 := by rcases bitN_01 p L with h | h; exact h; omega
 have hg := pg_cut (L := L) hw.1 (by omega); have hI : trIn (cutN p L) L 0 (.nd b p m v l r) := ⟨k1, rfl, hb1⟩
 have hJ : trIn (cutN p L) L 1 (.nd b0 a n (some x) .nil .nil) := ⟨k2, k4.symm, hb⟩
 have hwJ : trWf (.nd b0 a n (some x) .nil .nil) := ⟨ha, trivial, trivial, trivial, trivial⟩
 have hJg := fun c k => (put_nil ha x b0).get c k; refine ⟨⟨hg, hI, hJ, hw, hwJ⟩, fun c k => ?_, fun c k i h j1 j2 j3 => ?_, ?_⟩
 ·have hgt : trGet c k (.nd b1 (cutN p L) L none (.nd b p m v l r) (.nd b0 a n (some x) .nil .nil)) = if CvN (cutN p L) L c k then (if cutN p L = c ∧ L = k then none else if bitN c L = 0 then trGet c k (.nd b p m v l r) else trGet c k (.nd b0 a n (some x) .nil .nil)) else none := rfl; rw [hgt, hJg]; by_cases e : a = c ∧ n = k
  ·obtain ⟨rfl, rfl⟩ := e; have hc : CvN (cutN p L) L a n := ⟨by omega, k4.symm⟩
   rw [if_pos hc, if_neg (by omega), if_neg (by omega), if_pos ⟨rfl, rfl⟩, if_pos ⟨rfl, rfl⟩]
  ·simp only [e, if_false]; by_cases h : CvN (cutN p L) L c k ∧ L < k ∧ bitN c L = 0
   ·rw [if_pos h.1, if_neg (by omega), if_pos h.2.2]
   ·rw [trGet_under hw hI h]; by_cases h3 : CvN (cutN p L) L c k
    ·rw [if_pos h3]; by_cases h4 : cutN p L = c ∧ L = k
     ·rw [if_pos h4]
     ·rw [if_neg h4]; by_cases h5 : bitN c L = 0
      ·rw [if_pos h5]
      ·rw [if_neg h5]; rfl
    ·rw [if_neg h3]
 ·obtain ⟨i1, i2, i3⟩ := h
  have hkL : k < L := by
   refine Nat.lt_of_not_le fun hle => ?_; rcases Nat.lt_or_ge L k with h | h
   ·exact k5 (bit_same (i2.trans j2.symm) h (by have := hw.1.2.1; omega))
   ·have : L = k := (by omega)
    subst this; exact k5 (i3.trans j3.symm)
  have e : cutN (cutN p L) k = cutN p k := cutN_cutN p (by omega) (by omega); refine ⟨hkL, e.trans i2, ?_⟩; rw [bit_same (x := cutN p L) (y := p) (m := L) (cutN_cutN p (Nat.le_refl _) (by omega)) hkL (by omega), i3]
 ·rw [trGet_top h1]; simp [trCnt]
structure CutR (a n : Nat) (t t' : Tr α) : Prop where
  wf : trWf t'
  get : ∀ c k, trGet c k t' = if a = c ∧ n = k then none else trGet c k t
  inn : ∀ c k i, trIn c k i t → trIn c k i t'
  cnt : (trGet a n t).isSome = true → trCnt t' + 1 = trCnt t
def trLean : Tr α → Tr α
  | .nil => .nil
  | .nd b a n (some x) l r => .nd b a n (some x) l r
  | .nd b a n none .nil r => r
  | .nd b a n none l .nil => l
  | .nd b a n none l r => .nd b a n none l r
theorem trIn_down {c k i b p m : Nat} {v : Option α} {l r t : Tr α} {j : Nat} (hw : trWf (.nd b p m v l r)) (h : trIn c k i (.nd b p m v l r)) (ht : trIn p m j t) : trIn c k i t := by
 cases t with
 | nil => trivial
 | nd b2 p2 m2 v2 l2 r2 =>
  obtain ⟨h1, h2, h3⟩ := h; obtain ⟨k1, k2, k3⟩ := ht; have hm := hw.1.2.1; have e : cutN p2 m = cutN p m := (by rw [k2, hw.1.2.2])
  exact ⟨by omega, by rw [cut_less e (by omega) hm, h2], by rw [bit_same e h1 hm, h3]⟩
theorem lean_right {c k b p m : Nat} {r : Tr α} (hw : trWf (.nd b p m none .nil r)) : trGet c k r = trGet c k (.nd b p m none .nil r) := by
 obtain ⟨hg, hl, hr, hwl, hwr⟩ := hw
 cases e : trGet c k r with
 | some x =>
  obtain ⟨h1, h2, h3, h4⟩ := trGet_in r hwr hr e; have hc : CvN p m c k := ⟨by omega, h2⟩
  simp only [trGet, if_pos hc, if_neg (show ¬ (p = c ∧ m = k) by omega), if_neg (show ¬ bitN c m = 0 by omega), e]
 | none => simp [trGet, e]
theorem lean_left {c k b p m : Nat} {l : Tr α} (hw : trWf (.nd b p m none l .nil)) : trGet c k l = trGet c k (.nd b p m none l .nil) := by
 obtain ⟨hg, hl, hr, hwl, hwr⟩ := hw
 cases e : trGet c k l with
 | some x =>
  obtain ⟨h1, h2, h3, h4⟩ := trGet_in l hwl hl e; have hc : CvN p m c k := ⟨by omega, h2⟩
  simp only [trGet, if_pos hc, if_neg (show ¬ (p = c ∧ m = k) by omega), if_pos h3, e]
 | none => simp [trGet, e]
theorem trLean_ok {b p m : Nat} {v : Option α} {l r : Tr α} (hw : trWf (.nd b p m v l r)) : trWf (trLean (.nd b p m v l r)) ∧ (∀ c k, trGet c k (trLean (.nd b p m v l r)) = trGet c k (.nd b p m v l r)) ∧
  (∀ c k i, trIn c k i (.nd b p m v l r) → trIn c k i (trLean (.nd b p m v l r))) ∧ trCnt (trLean (.nd b p m v l r)) = trCnt (.nd b p m v l r) := by
 cases v with
 | some x => exact ⟨hw, fun _ _ => rfl, fun _ _ _ h => h, rfl⟩
 | none =>
  cases l with
  | nil =>
   refine ⟨hw.2.2.2.2, fun c k => lean_right hw, fun c k i h => trIn_down hw h hw.2.2.1, ?_⟩; simp [trLean, trCnt]
  | nd b2 p2 m2 v2 l2 r2 =>
   cases r with
   | nil =>
    refine ⟨hw.2.2.2.1, fun c k => lean_left hw, fun c k i h => trIn_down hw h hw.2.1, ?_⟩; simp [trLean, trCnt]
   | nd b3 p3 m3 v3 l3 r3 => exact ⟨hw, fun _ _ => rfl, fun _ _ _ h => h, rfl⟩
theorem cut_lean {a n b p m : Nat} {v : Option α} {l r t : Tr α} (h : CutR a n t (.nd b p m v l r)) : CutR a n t (trLean (.nd b p m v l r)) := by
 obtain ⟨h1, h2, h3, h4⟩ := trLean_ok h.wf; exact ⟨h1, fun c k => (h2 c k).trans (h.get c k), fun c k i hi => h3 c k i (h.inn c k i hi), fun hs => by rw [h4]; exact h.cnt hs⟩
theorem cut_here {b a n : Nat} {v : Option α} {l r : Tr α} (hw : trWf (.nd b a n v l r)) : CutR a n (.nd b a n v l r) (.nd b a n none l r) := by
 have hr := cvN_refl hw.1; refine ⟨hw, fun c k => ?_, fun c k i h => h, ?_⟩
 ·simp only [trGet]; by_cases e : a = c ∧ n = k
  ·obtain ⟨rfl, rfl⟩ := e; simp [hr]
  ·simp only [e, if_false]
 ·cases v <;> simp [trCnt, trGet, hr]
theorem cut_left {b p m a n : Nat} {v : Option α} {l l' r : Tr α} (hw : trWf (.nd b p m v l r)) (hc : CvN p m a n) (hne : ¬ (p = a ∧ m = n)) (hb : bitN a m = 0) (hl : CutR a n l l') :
  CutR a n (.nd b p m v l r) (.nd b p m v l' r) := by
 obtain ⟨hg, h1, h2, h3, h4⟩ := hw; refine ⟨⟨hg, hl.inn _ _ _ h1, h2, hl.wf, h4⟩, fun c k => ?_, fun c k i h => h, ?_⟩
 ·simp only [trGet, hl.get]; by_cases e : a = c ∧ n = k
  ·obtain ⟨rfl, rfl⟩ := e; simp [hc, hne, hb]
  ·simp only [e, if_false]
 ·simp only [trCnt, trGet, if_pos hc, if_neg hne, if_pos hb]; intro h; have := hl.cnt h; omega
theorem cut_right {b p m a n : Nat} {v : Option α} {l r r' : Tr α} (hw : trWf (.nd b p m v l r)) (hc : CvN p m a n) (hne : ¬ (p = a ∧ m = n)) (hb : bitN a m = 1) (hr : CutR a n r r') :
  CutR a n (.nd b p m v l r) (.nd b p m v l r') := by
 obtain ⟨hg, h1, h2, h3, h4⟩ := hw; have hb0 : ¬ bitN a m = 0 := (by omega)
 refine ⟨⟨hg, h1, hr.inn _ _ _ h2, h3, hr.wf⟩, fun c k => ?_, fun c k i h => h, ?_⟩
 ·simp only [trGet, hr.get]; by_cases e : a = c ∧ n = k
  ·obtain ⟨rfl, rfl⟩ := e; simp [hc, hne, hb0]
  ·simp only [e, if_false]
 ·simp only [trCnt, trGet, if_pos hc, if_neg hne, if_neg hb0]; intro h; have := hr.cnt h; omega
def lkL (a n : Nat) (L : List (Nat × Nat × α)) : Option α := (L.find? (fun z => decide (a = z.1 ∧ n = z.2.1))).map (·.2.2)
def putL (a n : Nat) (x : α) : List (Nat × Nat × α) → List (Nat × Nat × α)
  | [] => [(a, n, x)]
  | z :: L => if a < z.1 ∨ a = z.1 ∧ n < z.2.1 then (a, n, x) :: z :: L else if a = z.1 ∧ n = z.2.1 then (a, n, x) :: L else z :: putL a n x L
def cutL (a n : Nat) (L : List (Nat × Nat × α)) : List (Nat × Nat × α) := L.filter (fun z => !decide (a = z.1 ∧ n = z.2.1))
theorem lkL_mem {a n : Nat} {x : α} {L : List (Nat × Nat × α)} (hs : L.Pairwise PLt) : lkL a n L = some x ↔ (a, n, x) ∈ L := by
 induction L with
 | nil => simp [lkL]
 | cons z L ih =>
  have hs2 := List.pairwise_cons.1 hs; unfold lkL at ih ⊢; rw [List.find?_cons]; by_cases e : a = z.1 ∧ n = z.2.1
  ·rw [decide_eq_true e]; simp only [Option.map_some, Option.some.injEq, List.mem_cons]; obtain ⟨z1, z2, z3⟩ := z; obtain ⟨rfl, rfl⟩ := e; constructor
   ·rintro rfl; exact .inl rfl
   ·rintro (h | h)
    ·cases h; rfl
    ·have := hs2.1 _ h; unfold PLt at this; simp only at this; omega
  ·rw [decide_eq_false e]; simp only [ih hs2.2, List.mem_cons]; constructor
   ·exact .inr
   ·rintro (rfl | h)
    ·exact absurd ⟨rfl, rfl⟩ e
    ·exact h
theorem putL_mem {a n : Nat} {x : α} {L : List (Nat × Nat × α)} (hs : L.Pairwise PLt) (z : Nat × Nat × α) : z ∈ putL a n x L ↔ z = (a, n, x) ∨ z ∈ L ∧ ¬ (a = z.1 ∧ n = z.2.1) := by
 induction L with
 | nil => simp [putL]
 | cons y L ih =>
  have hs2 := List.pairwise_cons.1 hs; have hy : ∀ z ∈ L, y.1 < z.1 ∨ y.1 = z.1 ∧ y.2.1 < z.2.1 := hs2.1; unfold putL; split
  ·rename_i h; simp only [List.mem_cons]; constructor
   ·rintro (h1 | rfl | h1)
    ·exact .inl h1
    ·exact .inr ⟨.inl rfl, by omega⟩
    ·exact .inr ⟨.inr h1, by have := hy _ h1; omega⟩
   ·rintro (h1 | ⟨h1 | h1, _⟩)
    ·exact .inl h1
    ·exact .inr (.inl h1)
    ·exact .inr (.inr h1)
  ·split
   ·rename_i h1 h2; simp only [List.mem_cons]; constructor
    ·rintro (h3 | h3)
     ·exact .inl h3
     ·exact .inr ⟨.inr h3, by have := hy _ h3; omega⟩
    ·rintro (h3 | ⟨rfl | h3, h4⟩)
     ·exact .inl h3
     ·exact absurd h2 h4
     ·exact .inr h3
   ·rename_i h1 h2; simp only [List.mem_cons, ih hs2.2]; constructor
    ·rintro (rfl | h3 | ⟨h3, h4⟩)
     ·exact .inr ⟨.inl rfl, h2⟩
     ·exact .inl h3
     ·exact .inr ⟨.inr h3, h4⟩
    ·rintro (h3 | ⟨h3 | h3, h4⟩)
     ·exact .inr (.inl h3)
     ·exact .inl h3
     ·exact .inr (.inr ⟨h3, h4⟩)
theorem putL_sorted {a n : Nat} {x : α} {L : List (Nat × Nat × α)} (hs : L.Pairwise PLt) : (putL a n x L).Pairwise PLt := by
 induction L with
 | nil => simp [putL]
 | cons y L ih =>
  have hs2 := List.pairwise_cons.1 hs; have hy : ∀ z ∈ L, y.1 < z.1 ∨ y.1 = z.1 ∧ y.2.1 < z.2.1 := hs2.1; unfold putL; split
  ·rename_i h; refine List.pairwise_cons.2 ⟨fun z hz => ?_, hs⟩; unfold PLt; rcases List.mem_cons.1 hz with rfl | hz
   ·exact h
   ·have := hy z hz; simp only; omega
  ·split
   ·rename_i h1 h2; refine List.pairwise_cons.2 ⟨fun z hz => ?_, hs2.2⟩; have := hy z hz; unfold PLt; simp only; omega
   ·rename_i h1 h2; refine List.pairwise_cons.2 ⟨fun z hz => ?_, ih hs2.2⟩; rcases (putL_mem hs2.2 z).1 hz with rfl | ⟨hz, _⟩
    ·unfold PLt; simp only; omega
    ·exact hs2.1 z hz
theorem trGet_lk {a n : Nat} {t : Tr α} (hw : trWf t) : trGet a n t = lkL a n (trL t) := by
 cases e : trGet a n t with
 | some x => exact ((lkL_mem (trL_sorted t hw)).2 ((trL_mem t hw).2 e)).symm
 | none =>
  cases e2 : lkL a n (trL t) with
  | none => rfl
  | some x =>
   rw [(trL_mem t hw).1 ((lkL_mem (trL_sorted t hw)).1 e2)] at e
   cases e
theorem PutR.list {a n : Nat} {x : α} {t t' : Tr α} (hw : trWf t) (h : PutR a n x t t') : trL t' = putL a n x (trL t) := by
 have hs := trL_sorted t hw; refine plt_ext _ _ (trL_sorted t' h.wf) (putL_sorted hs) fun z => ?_; obtain ⟨c, k, y⟩ := z; rw [trL_mem t' h.wf, h.get, putL_mem hs]; simp only [trL_mem t hw, Prod.mk.injEq]; by_cases e : a = c ∧ n = k
 ·obtain ⟨rfl, rfl⟩ := e; simp [eq_comm]
 ·rw [if_neg e]; constructor
  ·exact fun h => .inr ⟨h, e⟩
  ·rintro (⟨rfl, rfl, _⟩ | ⟨h, _⟩)
   ·exact absurd ⟨rfl, rfl⟩ e
   ·exact h
theorem CutR.list {a n : Nat} {t t' : Tr α} (hw : trWf t) (h : CutR a n t t') : trL t' = cutL a n (trL t) := by
 have hs := trL_sorted t hw; refine plt_ext _ _ (trL_sorted t' h.wf) (hs.sublist List.filter_sublist) fun z => ?_; obtain ⟨c, k, y⟩ := z; unfold cutL; rw [trL_mem t' h.wf, h.get, List.mem_filter, trL_mem t hw]; by_cases e : a = c ∧ n = k
 ·simp [e]
 ·simp [e]
end
end Go.Proofs.YtmffmkjgdjgmeaaGreat
namespace Go.Proofs.YtmffmkjgdjgmeaaGreat
open Go.RowKit
structure KpR (b0 b1 : Nat) (A B : World) : Prop where
  size : A.heap.size ≤ B.heap.size
  same : ∀ k, b0 ≤ k → k < b1 → B.heap[k]? = A.heap[k]?
theorem KpR.refl (b0 b1 : Nat) (A : World) : KpR b0 b1 A A := ⟨Nat.le_refl _, fun _ _ _ => rfl⟩
theorem KpR.trans {b0 b1 : Nat} {A B C : World} (h : KpR b0 b1 A B) (k : KpR b0 b1 B C) : KpR b0 b1 A C :=
 ⟨Nat.le_trans h.size k.size, fun i h0 h1 => (k.same i h0 h1).trans (h.same i h0 h1)⟩
theorem KpR.put {b0 b1 : Nat} (A : World) {l : Nat} (o : Obj) (hl : b1 ≤ l) : KpR b0 b1 A (A.putObj l o) :=
 ⟨by simp, fun k _ h1 => World.putObj_heap_other (by omega)⟩
theorem KpR.alloc {b0 b1 : Nat} (A : World) (o : Obj) (hl : b1 ≤ A.heap.size) : KpR b0 b1 A (A.alloc o) :=
 ⟨by simp, fun k _ h1 => Below.heap_alloc A o k (by omega)⟩
theorem KpR.of_below {b0 b1 n0 : Nat} {A B : World} (h : Below n0 A B) (hs : A.heap.size ≤ B.heap.size) (hl : b1 ≤ n0) : KpR b0 b1 A B :=
 ⟨hs, fun k _ h1 => h.block k (by omega)⟩
def AbB {β : Type} (b0 : Nat) (J : β → World → Prop) : Prop :=
  ∀ s A B, J s A → A.grownBy B (some b0) → J s B
def AbO {β : Type} (lo b0 : Nat) (I : β → World → Prop) : Prop :=
  ∀ s A B row, I s A → A.grownBy B row → (∀ r, row = some r → r = b0 ∨ (lo ≤ r ∧ ∃ o : Obj, A.heap[r]? = some o ∧ o.isCells = false)) → I s B
theorem AbO.put {β : Type} {lo b0 : Nat} {I : β → World → Prop} (h : AbO lo b0 I) {s : β} {A : World} {l : Nat} {o : Obj} (o' : Obj) (hs : I s A) (hlo : lo ≤ l) (hl : A.heap[l]? = some o) (ho : o.isCells = false) : I s (A.putObj l o') :=
 h s A _ (some l) hs (grownBy_putObj' A l o') (fun r e => by cases e; exact .inr ⟨hlo, o, hl, ho⟩)
def SeqCell {α : Type} (F : Fence) (n : Nat) (P : Program) (g : Nat) (lb : Array Value) (encs : α → Array Value) (b0 b1 : Nat) (xs : List α) (l : Nat) (W : World) : Prop :=
  ∀ (J Jx : List α → World → Prop), AbB b0 J → AbB b0 Jx →
    (∀ pre x post W1, pre ++ x :: post = xs → J pre W1 → YieldAt F (n - 1) P l (encs x) W1 fun e W' =>
      (e = .returned (.bool true) ∧ J (pre ++ [x]) W' ∧ KpR b0 b1 W1 W') ∨ (e = .returned (.bool false) ∧ Jx (pre ++ [x]) W')) →
    J [] W →
    CallsIn F n P g (#[.func (.yield l) #[] #[]] ++ lb) W fun e W' => (∃ v, e = .returned v) ∧ (J xs W' ∨ ∃ pre x post, pre ++ x :: post = xs ∧ Jx (pre ++ [x]) W')
def cellPost {α : Type} (lo b0 b1 : Nat) (I : List α → World → Prop) (Ix : Code → List α → World → Prop) (xs : List α) (W : World) : Exit → Act → World → Prop
  | .normal, _, W' => KeepsFrom lo W W' ∧ KpR b0 b1 W W' ∧ I xs W'
  | .ret, _, W' => KeepsFrom lo W W' ∧ Ix .ret xs W'
  | .exit id, _, W' => KeepsFrom lo W W' ∧ Ix (.exit id) xs W'
  | .goto t, _, W' => KeepsFrom lo W W' ∧ Ix (.goto t) xs W'
  | .panic _, _, _ => False
  | .outgrown, _, _ => False
theorem wpIn_rangeFunc_cell {F : Fence} {n : Nat} {P : Program} {α : Type} {g : Operand} {ps : Array Tmp} {assign body : Code} {Q : Exit → Act → World → Prop} {a : Act} {w : World}
    (hro : F.round = none) (h1 : 1 ≤ n) {gf : Nat} {lb : Array Value} (hg : a.eval g = .func (.func gf) #[] lb) (hFg : F.fn gf) (eg : ∀ args w, (callFunc gf args).run P w = .ok (.enter gf args) w)
    {encs : α → Array Value} {b0 b1 : Nat} (hb01 : b0 < b1) (hb1 : b1 ≤ w.heap.size) {xs : List α} (hseq : ∀ l W, KpR b0 b1 w W → SeqCell F (n - 1) P gf lb encs b0 b1 xs l W) (hps : ∀ x, (encs x).size = ps.size)
    (I : List α → World → Prop) (Ix : Code → List α → World → Prop) (hI : AbO w.heap.size b0 I) (hIx : ∀ c, AbO w.heap.size b0 (Ix c)) (h0 : I [] w) (a1 : α → Act)
    (hassign : ∀ (l : Nat) (x : α) (W : World) (K : Act → World → Prop), K (a1 x) W →
      assign.wpIn (F.inRound l) (n - 1 - 1) P (Exit.then K (fun _ _ _ => False)) { tmps := (ps.zip (encs x)).foldl (fun t (p, v) => t.setIfInBounds p v) a.tmps, defers := [] } W)
    (hbody : ∀ (l : Nat) (pre : List α) (x : α) (post : List α) (W : World), pre ++ x :: post = xs → I pre W → body.wpIn (F.inRound l) (n - 1 - 1) P (cellPost w.heap.size b0 b1 I Ix (pre ++ [x]) W) (a1 x) W)
    (hdone : ∀ (D : Nat) (W : World), w.heap.size ≤ D → I xs W → W.heap[D]? = some (.deferred (some [])) → Q .normal { a with defers := { target := .collected D, args := #[] } :: a.defers } W)
    (hstop : ∀ (D : Nat) (c : Code) (pre : List α) (x : α) (post : List α) (W : World), w.heap.size ≤ D → pre ++ x :: post = xs → Ix c (pre ++ [x]) W → W.heap[D]? = some (.deferred (some [])) → c.wpIn F n P Q { a with defers := { target := .collected D, args := #[] } :: a.defers } W) :
    (Code.rangeFunc g ps assign body).wpIn F n P Q a w := by
  apply wpIn_rangeFunc
  intro fn hfn; rw [hro]
  -- the record, in each of its states; the two blocks that the statement lays
  let R : LoopState → Option Code → Obj := fun st pe => .loop { state := st, pending := pe, fn, tmps := a.tmps, params := ps, assign, body, defers := w.heap.size }
  let dl := w.heap.size
  let rl := w.heap.size + 1
  have hlaid : ∃ W1, (w.alloc (.deferred (some []))).alloc (R .ready none) = W1 ∧ W1.heap[rl]? = some (R .ready none) ∧ W1.heap[dl]? = some (.deferred (some [])) ∧ I [] W1 ∧ KpR b0 b1 w W1 := by
    refine ⟨_, rfl, ?_, ?_, ?_, ?_⟩
    · have := World.alloc_heap_new (w.alloc (.deferred (some []))) (R .ready none)
      rwa [World.size_alloc] at this
    · exact (Below.heap_alloc _ _ _ (by simp [dl])).trans (World.alloc_heap_new w _)
    · exact hI _ _ _ none (hI _ _ _ none h0 (World.grownBy_alloc w _ none) (by simp)) (World.grownBy_alloc _ _ none) (by simp)
    · exact (KpR.alloc w _ hb1).trans (KpR.alloc _ _ (by simp; omega))
  obtain ⟨W1, hW1, hr1, hd1, hi1, hk1⟩ := hlaid
  refine ⟨rl, [{ target := .collected dl, args := #[] }], W1, { target := .fn (.func gf) lb, args := #[.func (.yield rl) #[] #[]] }, W1, gf,
    #[.func (.yield rl) #[] #[]] ++ lb, W1, ?_, ?_, ?_, ?_, fun _ => h1, ?_⟩
  · rw [← hW1]; exact run_enterLoop_outer _ _ _ _ _
  · simp only [resolve, hg]; simp [go_sem]
  · intro f' hf'; simp [Target.leads] at hf'; subst hf'; exact hFg
  · simp [invoke, go_sem, eg]
  -- a block of the loop's own, through a store into the iterator's block
  have hold : ∀ {A B : World} {k : Nat} {o : Obj}, w.heap.size ≤ k → A.grownBy B (some b0) → A.heap[k]? = some o → B.heap[k]? = some o := by
    intro A B k o hk hgr ho; exact (hgr.block k (Array.getElem?_eq_some_iff.1 ho).1 (by simp; omega)).trans ho
  have hab : ∀ {I : List α → World → Prop}, AbO w.heap.size b0 I → ∀ s A B, I s A → A.grownBy B (some b0) → I s B := fun h s A B hs hgr => h s A B _ hs hgr (fun r e => .inl (by cases e; rfl))
  refine (hseq rl W1 hk1
    (fun pre W => I pre W ∧ W.heap[rl]? = some (R .ready none) ∧ W.heap[dl]? = some (.deferred (some [])))
    (fun pre W => ∃ c, Ix c pre W ∧ W.heap[rl]? = some (R .done (some c)) ∧ W.heap[dl]? = some (.deferred (some [])))
    (fun s A B hs hgr => ⟨hab hI s A B hs.1 hgr, hold (by simp [rl]) hgr hs.2.1, hold (by simp [dl]) hgr hs.2.2⟩)
    (fun s A B hs hgr => by
      obtain ⟨c, hc, hl, hd⟩ := hs; exact ⟨c, hab (hIx c) s A B hc hgr, hold (by simp [rl]) hgr hl, hold (by simp [dl]) hgr hd⟩)
    ?_ ⟨hi1, hr1, hd1⟩).mono ?_
  · -- one round
    rintro pre x post W hx ⟨hi, hl, hd⟩; have hlt : rl < W.heap.size := (Array.getElem?_eq_some_iff.1 hl).1; refine ⟨fn, _, assign, body, run_yield (P := P) (args := encs x) hl (hps x), roundIn_of_wpIn hfn (hassign _ x W _ ⟨_, run_beginRound hl rfl, ?_⟩)⟩; have hlb : (W.putObj rl (R .busy none)).heap[rl]? = some (R .busy none) := World.putObj_heap_same hlt; have hdb : (W.putObj rl (R .busy none)).heap[dl]? = some (.deferred (some [])) := (World.putObj_heap_other (by simp [rl, dl])).trans hd; refine wpIn_mono (hbody rl pre x post _ hx (hI.put _ hi (by simp [rl]) hl rfl)) ?_
    have fin : ∀ (jump : Option Code) (W3 : World), KeepsFrom w.heap.size (W.putObj rl (R .busy none)) W3 →
        (Instr.endRound rl jump).run P W3 = .ok (.bool jump.isNone) (W3.putObj rl (R (if jump.isNone then .ready else .done) jump)) ∧
        W3.heap[rl]? = some (R .busy none) ∧
        (W3.putObj rl (R (if jump.isNone then .ready else .done) jump)).heap[rl]? = some (R (if jump.isNone then .ready else .done) jump) ∧
        (W3.putObj rl (R (if jump.isNone then .ready else .done) jump)).heap[dl]? = some (.deferred (some [])) := by
      intro jump W3 hk3; have hl3 := hk3.same _ _ (by simp [rl]) hlb rfl; exact ⟨run_endRound (P := P) jump hl3, hl3, World.putObj_heap_same (Array.getElem?_eq_some_iff.1 hl3).1, (World.putObj_heap_other (by simp [rl, dl])).trans (hk3.same _ _ (by simp [dl]) hdb rfl)⟩
    rintro e a3 W3 hp
    cases e with
    | normal =>
      obtain ⟨hk3, hkp3, hi3⟩ := hp; obtain ⟨hr, hl3, hl4, hd4⟩ := fin none W3 hk3; exact ⟨_, _, hr, .inl ⟨rfl, ⟨hI.put _ hi3 (by simp [rl]) hl3 rfl, hl4, hd4⟩, ((KpR.put W _ (by simp [rl]; omega)).trans hkp3).trans (KpR.put _ _ (by simp [rl]; omega))⟩⟩
    | ret =>
      obtain ⟨hk3, hi3⟩ := hp; obtain ⟨hr, hl3, hl4, hd4⟩ := fin (some .ret) W3 hk3; exact ⟨_, _, hr, .inr ⟨rfl, .ret, (hIx _).put _ hi3 (by simp [rl]) hl3 rfl, hl4, hd4⟩⟩
    | exit id =>
      obtain ⟨hk3, hi3⟩ := hp; obtain ⟨hr, hl3, hl4, hd4⟩ := fin (some (.exit id)) W3 hk3; exact ⟨_, _, hr, .inr ⟨rfl, .exit id, (hIx _).put _ hi3 (by simp [rl]) hl3 rfl, hl4, hd4⟩⟩
    | goto t =>
      obtain ⟨hk3, hi3⟩ := hp; obtain ⟨hr, hl3, hl4, hd4⟩ := fin (some (.goto t)) W3 hk3; exact ⟨_, _, hr, .inr ⟨rfl, .goto t, (hIx _).put _ hi3 (by simp [rl]) hl3 rfl, hl4, hd4⟩⟩
    | panic ch => exact hp.elim
    | outgrown => exact hp.elim
  · -- behind the iterator
    rintro e W2 ⟨⟨v, rfl⟩, (⟨hi, hl, hd⟩ | ⟨pre, x, post, hx, c, hi, hl, hd⟩)⟩
    · exact ⟨none, _, run_endLoop (P := P) hl (by simp), hdone _ _ (Nat.le_refl _) (hI.put _ hi (by simp [rl]) hl rfl) ((World.putObj_heap_other (by simp [rl, dl])).trans hd)⟩
    · exact ⟨some c, _, run_endLoop (P := P) hl (by simp), hstop _ c pre x post _ (Nat.le_refl _) hx ((hIx c).put _ hi (by simp [rl]) hl rfl) ((World.putObj_heap_other (by simp [rl, dl])).trans hd)⟩
theorem KpR.blk {b0 b1 : Nat} {A B : World} (h : KpR b0 b1 A B) {g : Nat} {t : TypeId} {cs : Array Value} (h0 : b0 ≤ g) (h1 : g < b1) (hb : Blk A g t cs) : Blk B g t cs := (h.same g h0 h1).trans hb
def Rise (l : List Nat) : Prop := l.Pairwise (· < ·)
def putN (l : List Nat) (n : Nat) : List Nat := if l.contains n then l else l.takeWhile (· < n) ++ n :: l.dropWhile (· < n)
def setOf (l : List Nat) : List Nat := l.foldl putN []
theorem rise_ext : ∀ {a b : List Nat}, Rise a → Rise b → (∀ x, x ∈ a ↔ x ∈ b) → a = b
 | [], [], _, _, _ => rfl
 | [], y :: b, _, _, h => absurd ((h y).2 (by simp)) (by simp)
 | x :: a, [], _, _, h => absurd ((h x).1 (by simp)) (by simp)
 | x :: a, y :: b, ha, hb, h => by
  obtain ⟨ha1, ha2⟩ := List.pairwise_cons.1 ha; obtain ⟨hb1, hb2⟩ := List.pairwise_cons.1 hb
  have e : x = y := by
   rcases List.mem_cons.1 ((h x).1 (by simp)) with e | h1
   ·exact e
   ·rcases List.mem_cons.1 ((h y).2 (by simp)) with e | h2
    ·exact e.symm
    ·have := ha1 y h2; have := hb1 x h1; omega
  subst e
  congr 1
  refine rise_ext ha2 hb2 fun z => ?_; have hz := h z; simp only [List.mem_cons] at hz; constructor
  ·intro hm; rcases hz.1 (.inr hm) with e | h1
   ·subst e; exact absurd (ha1 z hm) (by omega)
   ·exact h1
  ·intro hm; rcases hz.2 (.inr hm) with e | h1
   ·subst e; exact absurd (hb1 z hm) (by omega)
   ·exact h1
theorem contains_iff (l : List Nat) (n : Nat) : l.contains n = true ↔ n ∈ l := by simp
theorem putN_mem (l : List Nat) (n x : Nat) : x ∈ putN l n ↔ x = n ∨ x ∈ l := by
 unfold putN; by_cases h : l.contains n = true
 ·rw [if_pos h]; constructor
  ·exact .inr
  ·rintro (rfl | h1)
   ·exact (contains_iff _ _).1 h
   ·exact h1
 ·rw [if_neg h, List.mem_append, List.mem_cons]; have e := List.takeWhile_append_dropWhile (p := fun y => decide (y < n)) (l := l); have hm : x ∈ l ↔ x ∈ l.takeWhile (· < n) ∨ x ∈ l.dropWhile (· < n) := (by rw [← List.mem_append, e])
  rw [hm]; constructor
  ·rintro (h1 | h1 | h1)
   ·exact .inr (.inl h1)
   ·exact .inl h1
   ·exact .inr (.inr h1)
  ·rintro (h1 | h1 | h1)
   ·exact .inr (.inl h1)
   ·exact .inl h1
   ·exact .inr (.inr h1)
theorem drop_ge {n : Nat} : ∀ {l : List Nat}, Rise l → ∀ x ∈ l.dropWhile (· < n), n ≤ x
 | [], _, x, hx => by simp at hx
 | y :: l, h, x, hx => by
  obtain ⟨h1, h2⟩ := List.pairwise_cons.1 h; by_cases hy : y < n
  ·rw [List.dropWhile_cons_of_pos (by simpa using hy)] at hx; exact drop_ge h2 x hx
  ·rw [List.dropWhile_cons_of_neg (by simpa using hy)] at hx; rcases List.mem_cons.1 hx with rfl | hx
   ·omega
   ·have := h1 x hx; omega
theorem take_lt {n : Nat} : ∀ {l : List Nat}, ∀ x ∈ l.takeWhile (· < n), x < n
 | [], x, hx => by simp at hx
 | y :: l, x, hx => by
  by_cases hy : y < n
  ·rw [List.takeWhile_cons_of_pos (by simpa using hy)] at hx; rcases List.mem_cons.1 hx with rfl | hx
   ·exact hy
   ·exact take_lt x hx
  ·rw [List.takeWhile_cons_of_neg (by simpa using hy)] at hx; simp at hx
theorem putN_rise {l : List Nat} (h : Rise l) (n : Nat) : Rise (putN l n) := by
 unfold putN; by_cases hc : l.contains n = true
 ·rw [if_pos hc]; exact h
 ·rw [if_neg hc]; have e := List.takeWhile_append_dropWhile (p := fun y => decide (y < n)) (l := l); have hn : n ∉ l := fun hm => hc ((contains_iff _ _).2 hm); have h0 := h; unfold Rise at h ⊢; rw [← e] at h; obtain ⟨p1, p2, p3⟩ := List.pairwise_append.1 h; refine List.pairwise_append.2 ⟨p1, List.pairwise_cons.2 ⟨fun x hx => ?_, p2⟩, fun x hx y hy => ?_⟩
  ·have h1 := drop_ge h0 x hx; have : x ≠ n := fun he => hn (he ▸ (List.dropWhile_sublist _).subset hx); omega
  ·have h1 := take_lt x hx; rcases List.mem_cons.1 hy with rfl | hy
   ·exact h1
   ·exact p3 x hx y hy
theorem setOf_aux : ∀ (l acc : List Nat), Rise acc → Rise (l.foldl putN acc) ∧ ∀ x, x ∈ l.foldl putN acc ↔ x ∈ acc ∨ x ∈ l
 | [], acc, h => ⟨h, fun x => by simp⟩
 | y :: l, acc, h => by
  obtain ⟨h1, h2⟩ := setOf_aux l (putN acc y) (putN_rise h y); refine ⟨h1, fun x => ?_⟩; rw [List.foldl_cons, h2 x, putN_mem, List.mem_cons]; constructor
  ·rintro ((h | h) | h)
   ·exact .inr (.inl h)
   ·exact .inl h
   ·exact .inr (.inr h)
  ·rintro (h | h | h)
   ·exact .inl (.inr h)
   ·exact .inl (.inl h)
   ·exact .inr h
theorem setOf_rise (l : List Nat) : Rise (setOf l) := (setOf_aux l [] List.Pairwise.nil).1
theorem setOf_mem (l : List Nat) (x : Nat) : x ∈ setOf l ↔ x ∈ l := by
 have := (setOf_aux l [] List.Pairwise.nil).2 x; simpa [setOf] using this
theorem putN_len (l : List Nat) (n : Nat) : (putN l n).length ≤ l.length + 1 := by
 unfold putN; by_cases h : l.contains n = true
 ·rw [if_pos h]; omega
 ·rw [if_neg h]; have e := congrArg List.length (List.takeWhile_append_dropWhile (p := fun y => decide (y < n)) (l := l)); rw [List.length_append] at e ⊢; rw [List.length_cons]; omega
theorem setOf_len_aux : ∀ (l acc : List Nat), (l.foldl putN acc).length ≤ acc.length + l.length
 | [], acc => by simp
 | y :: l, acc => by
  have h1 := setOf_len_aux l (putN acc y); have h2 := putN_len acc y; rw [List.foldl_cons, List.length_cons]; omega
theorem setOf_len (l : List Nat) : (setOf l).length ≤ l.length := by simpa [setOf] using setOf_len_aux l []
theorem take_snoc_eq {l : List Nat} {k x : Nat} (h : l[k]? = some x) : l.take (k + 1) = l.take k ++ [x] := by rw [List.take_add_one, h]; rfl
set_option maxHeartbeats 1000000 in
theorem refSame_any (A : Option Addr) (n c : Nat) (l : List Nat) (B : Option Addr) (m d : Nat) (r : List Nat) (w : World) (h : U32s w A n c l) (h' : U32s w B m d r) :
    Calls Tryz.prog 79 #[.slice A n c, .slice B m d] w fun e w' => e = .returned (.bool (decide (l = r))) ∧ Below w.heap.size w w' := by
  have hm1 := h.2.2.1; have hn1 := h.2.1; have hm2 := h'.2.2.1; have hn2 := h'.2.1; unfold maxLen at hm1 hm2; by_cases hnm : n = m
  · subst hnm; have HU := hide h; have HV := hide h'; clear h h'
    go_enter Tryz.func79, Tryz.ntmps79
    go_wp2
    go_loopw [5] (fun i wr => ∃ k : Nat, k ≤ n ∧ i = .int .i64 k ∧ l.take k = r.take k ∧ ∃ q, wr = w.drewN q) (fun i _ => n - (intOf i).toNat)
    case atStart => exact ⟨0, Nat.zero_le _, rfl, by simp, 0, rfl⟩
    case round =>
      obtain ⟨k, hk, rfl, heq, q, rfl⟩ := hrel; have HN := hide heq; clear heq; by_cases hlt : k < n
      · obtain ⟨g, o, x, rfl, hg, hx, hx2, hc⟩ := HU.out.at_ hlt; obtain ⟨g', o', y, rfl, hg', hy, hy2, hc'⟩ := HV.out.at_ hlt; have hi0 : (0 : Int) ≤ (k : Int) := (by omega)
        have hi1 : (k : Int) < (n : Int) := (by omega)
        by_cases hxy : x = y
        · subst hxy; have hn3 := hide (show l.take (k + 1) = r.take (k + 1) by rw [take_snoc_eq hx, take_snoc_eq hy, HN.out]); clear hx hy; go_wp2
          go_quiet (fail)
          go_wp2
          go_roundw
          case rel => exact ⟨k + 1, by omega, by go_num, hn3.out, _, rfl⟩
          case measure => simp [intOf]; omega
        · have he : ((x : Int) != (y : Int)) = true := (by simp; omega)
          have hf := hide (show decide (l = r) = false by
            rw [decide_eq_false_iff_not]; rintro rfl; rw [hx] at hy; exact hxy (Option.some.inj hy))
          clear hxy hx hy; go_wp2
          go_quiet (fail)
          go_wp2; go_ret; exact ⟨ret_bool hf.out.symm, below_drewN (below_drewN (Below.refl _ _) _) _⟩
      · obtain rfl : k = n := (by omega)
        have hf := hide (show decide (l = r) = true by
          rw [decide_eq_true_eq]; have := HN.out
          rwa [List.take_of_length_le (by rw [HU.out.1]; exact Nat.le_refl _), List.take_of_length_le (by rw [HV.out.1]; exact Nat.le_refl _)] at this)
        go_wp2; go_ret; exact ⟨ret_bool hf.out.symm, below_drewN (Below.refl _ _) _⟩
  · have hf := hide (show decide (l = r) = false by
      rw [decide_eq_false_iff_not]; rintro rfl; exact hnm (h.1.symm.trans h'.1))
    have he : ((n : Int) != (m : Int)) = true := (by simp; omega)
    clear h h' hnm
    go_enter Tryz.func79, Tryz.ntmps79
    go_wp2; go_ret; exact ⟨ret_bool hf.out.symm, Below.refl _ _⟩
set_option maxHeartbeats 1000000 in
theorem slEqual_any (A : Option Addr) (n c : Nat) (l : List Nat) (B : Option Addr) (m d : Nat) (r : List Nat) (w : World) (h : U32s w A n c l) (h' : U32s w B m d r) :
    Calls Tryz.prog 402 #[.slice A n c, .slice B m d] w fun e w' => e = .returned (.bool (decide (l = r))) ∧ Below w.heap.size w w' := by
  have hm1 := h.2.2.1; have hn1 := h.2.1; have hm2 := h'.2.2.1; have hn2 := h'.2.1; unfold maxLen at hm1 hm2; by_cases hnm : n = m
  · subst hnm; have HU := hide h; have HV := hide h'; clear h h'
    go_enter Tryz.func402, Tryz.ntmps402
    go_wp2
    go_loopw [13] (fun i wr => ∃ k : Nat, k ≤ n ∧ i = .int .i64 k ∧ l.take k = r.take k ∧ ∃ q, wr = w.drewN q) (fun i _ => n - (intOf i).toNat)
    case atStart => exact ⟨0, Nat.zero_le _, rfl, by simp, 0, rfl⟩
    case round =>
      obtain ⟨k, hk, rfl, heq, q, rfl⟩ := hrel; have HN := hide heq; clear heq; by_cases hlt : k < n
      · obtain ⟨g, o, x, rfl, hg, hx, hx2, hc⟩ := HU.out.at_ hlt; obtain ⟨g', o', y, rfl, hg', hy, hy2, hc'⟩ := HV.out.at_ hlt; have hi0 : (0 : Int) ≤ (k : Int) := (by omega)
        have hi1 : (k : Int) < (n : Int) := (by omega)
        by_cases hxy : x = y
        · subst hxy; have hn3 := hide (show l.take (k + 1) = r.take (k + 1) by rw [take_snoc_eq hx, take_snoc_eq hy, HN.out]); clear hx hy; go_wp2
          go_quiet (fail)
          go_wp2
          go_roundw
          case rel => exact ⟨k + 1, by omega, by go_num, hn3.out, _, rfl⟩
          case measure => simp [intOf]; omega
        · have he : ((x : Int) != (y : Int)) = true := (by simp; omega)
          have hf := hide (show decide (l = r) = false by
            rw [decide_eq_false_iff_not]; rintro rfl; rw [hx] at hy; exact hxy (Option.some.inj hy))
          clear hxy hx hy; go_wp2
          go_quiet (fail)
          go_wp2; go_ret; exact ⟨ret_bool hf.out.symm, below_drewN (below_drewN (Below.refl _ _) _) _⟩
      · obtain rfl : k = n := (by omega)
        have hf := hide (show decide (l = r) = true by
          rw [decide_eq_true_eq]; have := HN.out
          rwa [List.take_of_length_le (by rw [HU.out.1]; exact Nat.le_refl _), List.take_of_length_le (by rw [HV.out.1]; exact Nat.le_refl _)] at this)
        go_wp2; go_ret; exact ⟨ret_bool hf.out.symm, below_drewN (Below.refl _ _) _⟩
  · have hf := hide (show decide (l = r) = false by
      rw [decide_eq_false_iff_not]; rintro rfl; exact hnm (h.1.symm.trans h'.1))
    have he : ((n : Int) != (m : Int)) = true := (by simp; omega)
    clear h h' hnm
    go_enter Tryz.func402, Tryz.ntmps402
    go_wp2; go_ret; exact ⟨ret_bool hf.out.symm, Below.refl _ _⟩
def lowN (l : List Nat) (x : Nat) : Nat := (l.takeWhile (· < x)).length
theorem reads_one {w : World} {g : Nat} {u : Value} (h : w.cell? ⟨g, 0, none⟩ = some u) : Reads w w.heap.size 1 (some ⟨g, 0, none⟩) 1 [u] :=
  ⟨rfl, fun _ => ⟨_, rfl, World.block_lt_of_cell? w _ h, fun j v hv => by
    cases j with
    | zero => cases hv; exact h
    | succ j => simp at hv⟩⟩
theorem reads_nil (w : World) (B size : Nat) (A : Option Addr) : Reads w B size A 0 [] := ⟨by simp, fun h => absurd h (by omega)⟩
theorem U32s.drop_ {w : World} {g o n c : Nat} {l : List Nat} (h : U32s w (some ⟨g, o, none⟩) n c l) {k : Nat} (hk : k < n) : Reads w w.heap.size 1 (some ⟨g, o + k, none⟩) (n - k) (u32c (l.drop k)) := by
 refine ⟨by simp [u32c, h.1], fun _ => ?_⟩; obtain ⟨g', o', hA, hg, hc⟩ := h.2.2.2.2 (by omega)
 cases hA
 refine ⟨_, rfl, hg, fun j u hu => ?_⟩; simp only [u32c, List.getElem?_map, Option.map_eq_some_iff, List.getElem?_drop] at hu; obtain ⟨x, hx, rfl⟩ := hu; have := hc (k + j) x hx; rw [show (⟨g, o + k, none⟩ : Addr).add j = ⟨g, o + (k + j), none⟩ by unfold Addr.add; split <;> simp_all [Nat.add_assoc]]; exact this
theorem Reads.keepB {w w' : World} {B size n : Nat} {A : Option Addr} {xs : List Value} (h : Reads w B size A n xs) (hb : Below B w w') : Reads w' B size A n xs := h.below hb
theorem putN_eq {l : List Nat} {x : Nat} (h : x ∉ l) : putN l x = l.take (lowN l x) ++ x :: l.drop (lowN l x) := by
 unfold putN lowN; rw [if_neg (by simpa using h)]; have e := List.takeWhile_append_dropWhile (p := fun y => decide (y < x)) (l := l)
 have h1 : l.take (l.takeWhile (fun y => decide (y < x))).length = l.takeWhile (fun y => decide (y < x)) := by
  have := congrArg (List.take (l.takeWhile (fun y => decide (y < x))).length) e; rw [List.take_left' rfl] at this; exact this.symm
 have h2 : l.drop (l.takeWhile (fun y => decide (y < x))).length = l.dropWhile (fun y => decide (y < x)) := by
  have := congrArg (List.drop (l.takeWhile (fun y => decide (y < x))).length) e; rw [List.drop_left' rfl] at this; exact this.symm
 rw [h1, h2]
theorem step_append_one {P : Program} {w : World} {ops : Array Oper} {o : Oper} {a : Act} {K : Act → World → Prop} {Q : Exit → Act → World → Prop} {E : Prop} (hgd : o.guard = none) (s x : Operand) (t : TypeId)
  (ho : o.op = .call { callee := .builtin .append, args := #[s, x], argTypes := #[t, t] })
  (base : Nat) (e : TypeId) (i : TypeInfo) (z : Value) (bytes : Nat) (ht : P.underlying t = some (.slice e)) (hi : P.info? e = some i) (hz : i.zero = some z)
  (hsize : i.size = 1) (hby : i.bytes = bytes) (hzs : z.cells.size = 1)
  (v : Value) (n : Nat) (xs : List Value) (hs : a.eval s = v) (hown : w.ownsRow base e 1 v n xs)
  (g c : Nat) (u : Value) (hx : a.eval x = .slice (some ⟨g, 0, none⟩) 1 c) (hc : w.cell? ⟨g, 0, none⟩ = some u) (h1 : u.oneCell' = true)
  (h63 : n + 1 ≤ maxLen) (hbytes : (n + 1) * bytes ≤ 140737488355328) (hbase : base ≤ w.heap.size)
  (h : ∀ v' w', w'.ownsRow base e 1 v' (n + 1) (xs ++ [u]) → w.grownBy w' v.ownBlock → (v'.ownBlock = v.ownBlock ∨ v'.ownBlock = some w.heap.size) → K (a.put o.dst v') w') :
  if Region.wanted o (yielded ops a.tmps) = true then Oper.wp P o a w K Q else E :=
 step_append_any w hgd s x t ho base e i z 1 bytes ht hi hz hsize hby hzs (by decide) v n xs hs hown w.heap.size (some ⟨g, 0, none⟩) 1 c [u] hx (reads_one hc) (by simpa using h1) h63 hbytes hbase h
theorem own_made0 (w : World) : (w.alloc (.cells #[] 22)).ownsRow w.heap.size 22 1 (.slice (some ⟨w.heap.size, 0, none⟩) 0 0) 0 [] := World.ownsRow_made _ _ _ (Nat.le_refl _) (by simp [maxLen]) (by simp)
theorem own_made1 (w : World) (o : Obj) : ((w.alloc o).alloc (.cells #[] 22)).ownsRow w.heap.size 22 1 (.slice (some ⟨w.heap.size + 1, 0, none⟩) 0 0) 0 [] := by
 have := World.ownsRow_made (base := w.heap.size) (e := 22) (size := 1) (w.alloc o) #[] 0 (by simp) (by simp [maxLen]) (by simp); simpa using this
theorem lowN_first : ∀ {l : List Nat} {x i : Nat}, i ≤ l.length → (∀ k y, k < i → l[k]? = some y → y < x) → (∀ y, l[i]? = some y → ¬ y < x) → lowN l x = i
 | [], x, i, h, _, _ => by simp [lowN]; simp at h; omega
 | z :: l, x, 0, h, h1, h2 => by
  have := h2 z rfl; unfold lowN; rw [List.takeWhile_cons_of_neg (by simpa using this)]; rfl
 | z :: l, x, i + 1, h, h1, h2 => by
  have := h1 0 z (by omega) rfl; have ih := lowN_first (l := l) (x := x) (i := i) (by simp at h; omega) (fun k y hk hy => h1 (k + 1) y (by omega) (by simpa using hy)) (fun y hy => h2 y (by simpa using hy)); unfold lowN at ih ⊢; rw [List.takeWhile_cons_of_pos (by simpa using this), List.length_cons, ih]
theorem put_end {w3 : World} {base k m x : Nat} {v3 : Value} {l : List Nat} (hx : x < 4294967296) (hl : ∀ y ∈ l, y < 4294967296) (hp : putN l x = l.take (lowN l x) ++ x :: l.drop (lowN l x)) (hk : lowN l x = k) (hm : 0 < m)
  (h : w3.ownsRow base 22 1 v3 m ([] ++ u32c (l.take k) ++ [.int .u32 (x : Int)] ++ u32c (l.drop k))) : ∃ g3 c3, v3 = .slice (some ⟨g3, 0, none⟩) m c3 ∧ U32s w3 (some ⟨g3, 0, none⟩) m c3 (putN l x) := by
 obtain ⟨A, c3, rfl⟩ := own_slice h; obtain ⟨g3, cap, hv, _, _⟩ := h.form hm
 cases hv
 have e : [] ++ u32c (l.take k) ++ [.int .u32 (x : Int)] ++ u32c (l.drop k) = u32c (putN l x) := (by rw [hp, hk]; simp [u32c])
 rw [e] at h; refine ⟨g3, _, rfl, U32s.of_own h fun y hy => ?_⟩; rcases (putN_mem l x y).1 hy with rfl | hy
 ·exact hx
 ·exact hl y hy
theorem own_set {w : World} {base e size n g i : Nat} {v : Value} {xs : List Value} (h : w.ownsRow base e size v n xs) (hne : v.ownBlock ≠ some g) (u : Value) : (w.setCell ⟨g, i, none⟩ u).ownsRow base e size v n xs :=
 h.kept (only_setCell (World.grownBy.refl w (some g)) (p := ⟨g, i, none⟩) (.inl rfl) u) (.inr hne)
def U32lo (B : Nat) (w : World) (A : Option Addr) (n c : Nat) (l : List Nat) : Prop := U32s w A n c l ∧ (0 < n → ∃ g o, A = some ⟨g, o, none⟩ ∧ g < B)
theorem U32lo.start {w : World} {A : Option Addr} {n c : Nat} {l : List Nat} (h : U32s w A n c l) : U32lo w.heap.size w A n c l :=
 ⟨h, fun hn => by obtain ⟨g, o, hA, hg, _⟩ := h.2.2.2.2 hn; exact ⟨g, o, hA, hg⟩⟩
theorem U32lo.keep {B : Nat} {w w' : World} {A : Option Addr} {n c : Nat} {l : List Nat} (h : U32lo B w A n c l) (hb : Below B w w') : U32lo B w' A n c l := by
 refine ⟨⟨h.1.1, h.1.2.1, h.1.2.2.1, h.1.2.2.2.1, fun hn => ?_⟩, h.2⟩; obtain ⟨g, o, hA, hg, hc⟩ := h.1.2.2.2.2 hn; obtain ⟨g', o', hA', hg'⟩ := h.2 hn; rw [hA] at hA'
 cases hA'
 exact ⟨g, o, hA, Nat.lt_of_lt_of_le hg hb.size, fun k x hk => (hb.cell (by exact hg')).trans (hc k x hk)⟩
theorem U32lo.tail {B : Nat} {w : World} {g o n c x : Nat} {l : List Nat} (h : U32lo B w (some ⟨g, o, none⟩) n c (x :: l)) (A' : Option Addr) (hA : 1 < n → A' = some ⟨g, o + 1, none⟩) : U32lo B w A' (n - 1) (c - 1) l := by
 have hl := h.1.1; simp at hl; have hc := h.1.2.1; have hm := h.1.2.2.1; unfold maxLen at hm; refine ⟨⟨by omega, by omega, by unfold maxLen; omega, fun y hy => h.1.2.2.2.1 y (by simp [hy]), fun hn => ?_⟩, fun hn => ?_⟩
 ·obtain ⟨g', o', hA', hg, hcell⟩ := h.1.2.2.2.2 (by omega)
  cases hA'
  exact ⟨g, o + 1, hA (by omega), hg, fun k y hk => by rw [Nat.add_assoc]; exact hcell (1 + k) y (by rw [Nat.add_comm]; simpa using hk)⟩
 ·obtain ⟨g', o', hA', hg⟩ := h.2 (by omega)
  cases hA'
  exact ⟨g, o + 1, hA (by omega), hg⟩
theorem U32lo.head {B : Nat} {w : World} {A : Option Addr} {n c x : Nat} {l : List Nat} (h : U32lo B w A n c (x :: l)) : ∃ g o, A = some ⟨g, o, none⟩ ∧ g < B ∧ x < 4294967296 ∧ w.cell? ⟨g, o, none⟩ = some (.int .u32 (x : Int)) ∧ 1 ≤ n := by
 have hl := h.1.1; simp at hl; obtain ⟨g, o, hA, hg, hcell⟩ := h.1.2.2.2.2 (by omega); obtain ⟨g', o', hA', hg'⟩ := h.2 (by omega); rw [hA] at hA'
 cases hA'
 exact ⟨g, o, hA, hg', h.1.2.2.2.1 x (by simp), by simpa using hcell 0 x rfl, by omega⟩
theorem setOf_snoc (l : List Nat) (x : Nat) : setOf (l ++ [x]) = putN (setOf l) x := by simp [setOf, List.foldl_append]
end Go.Proofs.YtmffmkjgdjgmeaaGreat
namespace Go.Proofs.YtmffmkjgdjgmeaaGreat
open Go.RowKit
open Go.Sort (swp insInner insOuter insertionSort)
def RowN (base g cap : Nat) (w : World) (d : Array Nat) : Prop := w.ownsRow base 22 1 (.slice (some ⟨g, 0, none⟩) d.size cap) d.size (u32c d.toList) ∧ (∀ x ∈ d.toList, x < 4294967296) ∧ base ≤ g ∧ g < w.heap.size ∧ d.size ≤ cap ∧ cap ≤ maxLen
theorem RowN.cell {base g cap : Nat} {w : World} {d : Array Nat} (h : RowN base g cap w d) {j : Nat} (hj : j < d.size) : w.cell? ⟨g, j, none⟩ = some (.int .u32 ((d[j]! : Nat) : Int)) := by
 rw [h.1.cellAt j (by omega)]; simp [u32c, hj]
theorem RowN.drewN {base g cap : Nat} {w : World} {d : Array Nat} (h : RowN base g cap w d) (n : Nat) : RowN base g cap (w.drewN n) d := h
theorem RowN.drew {base g cap : Nat} {w : World} {d : Array Nat} (h : RowN base g cap w d) : RowN base g cap w.drew d := h
theorem RowN.set_ {base g cap : Nat} {w : World} {d : Array Nat} (h : RowN base g cap w d) {i x : Nat} (hx : x < 4294967296) : RowN base g cap (w.setCell ⟨g, i, none⟩ (.int .u32 (x : Int))) (d.setIfInBounds i x) := by
 obtain ⟨h1, h2, h3, h4, h5, h6⟩ := h; refine ⟨?_, fun y hy => ?_, h3, by simpa [World.setCell] using h4, by simpa using h5, h6⟩
 ·have := h1.stored i (.int .u32 (x : Int)); have e : u32c (d.setIfInBounds i x).toList = (u32c d.toList).set i (.int .u32 (x : Int)) := (by simp [u32c, List.map_set])
  rw [e]; simpa using this.1
 ·have hy' : y ∈ d.toList.set i x := (by simpa using hy)
  rcases List.mem_or_eq_of_mem_set hy' with h | h
  ·exact h2 y h
  ·omega
theorem RowN.val {base g cap : Nat} {w : World} {d : Array Nat} (h : RowN base g cap w d) (j : Nat) : (d[j]! : Nat) < 4294967296 := by
 by_cases hj : j < d.size
 ·rw [getElem!_pos d j hj]; exact h.2.1 _ (by simp)
 ·rw [getElem!_neg d j hj]; decide
theorem RowN.swp {base g cap : Nat} {w : World} {d : Array Nat} (h : RowN base g cap w d) (i j : Nat) : RowN base g cap ((w.setCell ⟨g, i, none⟩ (.int .u32 ((d[j]! : Nat) : Int))).setCell ⟨g, j, none⟩ (.int .u32 ((d[i]! : Nat) : Int))) (swp d i j) :=
 (h.set_ (h.val j)).set_ (h.val i)
theorem swp_comm {d : Array Nat} {i j : Nat} (h : i ≠ j) : (d.setIfInBounds j d[i]!).setIfInBounds i d[j]! = swp d i j := by
 unfold Go.Sort.swp
 apply Array.ext_getElem?
 intro k; simp only [Array.getElem?_setIfInBounds]; by_cases h1 : i = k <;> by_cases h2 : j = k <;> simp_all
theorem RowN.swp' {base g cap : Nat} {w : World} {d : Array Nat} (h : RowN base g cap w d) {i j : Nat} (hij : i ≠ j) : RowN base g cap ((w.setCell ⟨g, j, none⟩ (.int .u32 ((d[i]! : Nat) : Int))).setCell ⟨g, i, none⟩ (.int .u32 ((d[j]! : Nat) : Int))) (Go.Sort.swp d i j) := by
 rw [← swp_comm hij]; exact (h.set_ (h.val i)).set_ (h.val j)
def jn (l : List Nat) : List UInt8 := l.foldl (fun acc x => (if acc = [] then [] else acc ++ [32]) ++ Lib.decDigits x) []
structure CompInv (d d' : Array Nat) (k q : Nat) : Prop where
  size : d'.size = d.size
  le : 1 ≤ k ∧ k ≤ q ∧ q ≤ d.size
  rest : ∀ i, q ≤ i + 1 → d'[i]! = d[i]! ∨ i + 1 = q
  rise : ∀ i, i + 1 < k → d'[i]! < d'[i + 1]!
  last : d'[k - 1]! = d[q - 1]!
  mem : ∀ x, (∃ i, i < k ∧ d'[i]! = x) ↔ (∃ i, i < q ∧ d[i]! = x)
def Up (d : Array Nat) : Prop := ∀ i, i + 1 < d.size → d[i]! ≤ d[i + 1]!
theorem get_set (d : Array Nat) (k x i : Nat) (hk : k < d.size) : (d.setIfInBounds k x)[i]! = if i = k then x else d[i]! := by
 simp only [getElem!_def, Array.getElem?_setIfInBounds]; by_cases h : k = i
 ·subst h; simp [hk]
 ·have : ¬ i = k := fun e => h e.symm; simp [h, this]
theorem set_self (d : Array Nat) (k : Nat) : d.setIfInBounds k d[k]! = d := by
 apply Array.ext_getElem?
 intro i; rw [Array.getElem?_setIfInBounds]; by_cases h : k = i
 ·subst h; by_cases hk : k < d.size
  ·simp [hk]
  ·simp [hk]
 ·simp [h]
theorem CompInv.start {d : Array Nat} (h : 1 ≤ d.size) : CompInv d d 1 1 := ⟨rfl, by omega, fun _ _ => .inl rfl, fun i hi => by omega, rfl, fun x => Iff.rfl⟩
theorem CompInv.skip {d d' : Array Nat} {k q : Nat} (h : CompInv d d' k q) (hq : q < d.size) (he : d[q]! = d[q - 1]!) : CompInv d d' k (q + 1) := by
 obtain ⟨h1, h2, h3, h4, h5, h6⟩ := h; refine ⟨h1, by omega, fun i hi => ?_, h4, by rw [h5, Nat.add_sub_cancel, he], fun x => ?_⟩
 ·rcases h3 i (by omega) with h | h
  ·exact .inl h
  ·omega
 ·rw [h6 x]; constructor
  ·rintro ⟨i, hi, hx⟩; exact ⟨i, by omega, hx⟩
  ·rintro ⟨i, hi, hx⟩; by_cases hiq : i < q
   ·exact ⟨i, hiq, hx⟩
   ·obtain rfl : i = q := (by omega)
    exact ⟨i - 1, by omega, by rw [← he]; exact hx⟩
theorem CompInv.put {d d' : Array Nat} {k q : Nat} (h : CompInv d d' k q) (hu : Up d) (hq : q < d.size) (hne : d[q]! ≠ d[q - 1]!) : CompInv d (d'.setIfInBounds k d[q]!) (k + 1) (q + 1) := by
 obtain ⟨h1, h2, h3, h4, h5, h6⟩ := h; have hk : k < d'.size := (by omega)
 have hlt : d[q - 1]! < d[q]! := by
  have := hu (q - 1) (by omega); rw [show q - 1 + 1 = q by omega] at this; omega
 refine ⟨by simpa using h1, by omega, fun i hi => ?_, fun i hi => ?_, ?_, fun x => ?_⟩
 ·rw [get_set _ _ _ _ hk]; by_cases hik : i = k
  ·subst hik; rw [if_pos rfl]; by_cases hqk : q = i
   ·left; rw [hqk]
   ·omega
  ·rw [if_neg hik]; rcases h3 i (by omega) with h | h
   ·exact .inl h
   ·omega
 ·rw [get_set _ _ _ _ hk, get_set _ _ _ _ hk, if_neg (by omega)]; by_cases hik : i + 1 = k
  ·rw [if_pos hik]; have : i = k - 1 := (by omega)
   rw [this, h5]; exact hlt
  ·rw [if_neg hik]; exact h4 i (by omega)
 ·rw [Nat.add_sub_cancel, Nat.add_sub_cancel, get_set _ _ _ _ hk, if_pos rfl]
 ·constructor
  ·rintro ⟨i, hi, hx⟩; rw [get_set _ _ _ _ hk] at hx; by_cases hik : i = k
   ·rw [if_pos hik] at hx; exact ⟨q, by omega, hx⟩
   ·rw [if_neg hik] at hx; obtain ⟨j, hj, hjx⟩ := (h6 x).1 ⟨i, by omega, hx⟩; exact ⟨j, by omega, hjx⟩
  ·rintro ⟨i, hi, hx⟩; by_cases hiq : i = q
   ·subst hiq; exact ⟨k, by omega, by rw [get_set _ _ _ _ hk, if_pos rfl]; exact hx⟩
   ·obtain ⟨j, hj, hjx⟩ := (h6 x).2 ⟨i, by omega, hx⟩; exact ⟨j, by omega, by rw [get_set _ _ _ _ hk, if_neg (by omega)]; exact hjx⟩
theorem CompInv.grow {d : Array Nat} {k : Nat} (h : CompInv d d k k) (hu : Up d) (hk : k < d.size) (hne : d[k]! ≠ d[k - 1]!) : CompInv d d (k + 1) (k + 1) := by
 have := h.put hu hk hne
 rwa [set_self] at this
theorem CompInv.done {d d' : Array Nat} {k : Nat} (h : CompInv d d' k d.size) : d'.toList.take k = setOf d.toList := by
 obtain ⟨h1, h2, h3, h4, h5, h6⟩ := h; have hg : ∀ (e : Array Nat) i, i < e.size → e.toList[i]? = some (e[i]!) := fun e i hi => by simp [hi]
 refine rise_ext ?_ (setOf_rise _) fun x => ?_
 ·have hmono : ∀ j i, i < j → j < k → d'[i]! < d'[j]! := by
   intro j
   induction j with
   | zero => intro i hi; omega
   | succ j ih =>
    intro i hi hj; have hs := h4 j hj; by_cases hij : i = j
    ·subst hij; exact hs
    ·have := ih i (by omega) (by omega); omega
  unfold Rise; rw [List.pairwise_iff_getElem]; intro i j hi hj hij; rw [List.length_take] at hi hj; have a := hg d' i (by omega); have b := hg d' j (by omega); rw [List.getElem_take, List.getElem_take]; rw [List.getElem?_eq_getElem (by simp; omega)] at a b; rw [Option.some.inj a, Option.some.inj b]; exact hmono j i hij (by omega)
 ·rw [setOf_mem]; constructor
  ·intro hx; obtain ⟨i, hi⟩ := List.getElem?_of_mem hx; rw [List.getElem?_take] at hi; split at hi
   ·rename_i hik; have hsz : i < d'.size := (by have := (List.getElem?_eq_some_iff.1 hi).1; simpa using this)
    rw [hg d' i hsz] at hi; obtain ⟨j, hj, hjx⟩ := (h6 x).1 ⟨i, hik, Option.some.inj hi⟩; exact List.mem_of_getElem? ((hg d j hj).trans (by rw [hjx]))
   ·cases hi
  ·intro hx; obtain ⟨i, hi⟩ := List.getElem?_of_mem hx; have hsz : i < d.size := (by have := (List.getElem?_eq_some_iff.1 hi).1; simpa using this)
   rw [hg d i hsz] at hi; obtain ⟨j, hj, hjx⟩ := (h6 x).2 ⟨i, hsz, Option.some.inj hi⟩; refine List.mem_of_getElem? (i := j) ?_; rw [List.getElem?_take, if_pos hj, hg d' j (by omega), hjx]
theorem RowN.cut {base g cap k : Nat} {w : World} {d : Array Nat} (h : RowN base g cap w d) (hk : k ≤ d.size) : w.ownsRow base 22 1 (.slice (some ⟨g, 0, none⟩) k cap) k (u32c (d.toList.take k)) := by
 obtain ⟨h1, h2, h3, h4, h5, h6⟩ := h; rcases h1.2 with ⟨hv, _⟩ | ⟨g', cap', cur, hv, r1, r2, r3, r4, r5, r6⟩
 ·cases hv
 ·cases hv
  refine ⟨by simp [u32c]; omega, .inr ⟨g, cap, cur, rfl, r1, r2, by omega, r4, r5, ?_⟩⟩; have e : u32c (d.toList.take k) = (u32c d.toList).take k := (by simp [u32c, List.map_take])
  rw [e, ← r6, List.take_take]
  congr 1; omega
theorem own_clear {base g cap k : Nat} {xs : List Value} : ∀ (vs : List Value) (j : Nat) {w : World}, w.ownsRow base 22 1 (.slice (some ⟨g, 0, none⟩) k cap) k xs → k ≤ j → (w.setCells g j vs).ownsRow base 22 1 (.slice (some ⟨g, 0, none⟩) k cap) k xs
 | [], _, _, h, _ => h
 | v :: vs, j, w, h, hj => by
  refine own_clear vs (j + 1) ?_ (by omega); have := (h.stored j v).1
  rwa [List.set_eq_of_length_le (by have := h.1; simp at this; omega)] at this
theorem below_clear {base g : Nat} (hg : base ≤ g) : ∀ (vs : List Value) (j : Nat) {a w : World}, Below base a w → Below base a (w.setCells g j vs)
 | [], _, _, _, h => h
 | v :: vs, j, a, w, h => below_clear hg vs (j + 1) (h.setCell (p := ⟨g, j, none⟩) hg v)
theorem clearRun (w : World) (g o n c : Nat) (hn : 0 < n) (hc : ∀ j, j < n → (w.cell? ⟨g, o + j, none⟩).isSome = true) (hf : ∀ j, j < n → w.frozen? ⟨g, o + j, none⟩ = false) (ty : TypeId) :
  (Builtin.clear_ #[26] ty #[.slice (some ⟨g, o, none⟩) n c]).run Tryz.prog w = .ok (.tuple #[]) (w.setCells g o (List.replicate n (.int .u32 0))) :=
 Lib.run_clear_slice w 26 22 ty (.int .u32 0) Tryz.underlying26 Tryz.zeroValue22 rfl rfl g o n c hn hc hf
set_option maxRecDepth 100000 in
set_option maxHeartbeats 4000000 in
theorem compact_any (base g cap : Nat) (d : Array Nat) (w : World) (h : RowN base g cap w d) (hu : Up d) (hsz : d.size ≤ 100000) (hs1 : 1 ≤ d.size) :
    Calls Tryz.prog 389 #[.slice (some ⟨g, 0, none⟩) d.size cap] w fun e w' => ∃ m, e = .returned (.slice (some ⟨g, 0, none⟩) m cap) ∧ m = (setOf d.toList).length ∧ w'.ownsRow base 22 1 (.slice (some ⟨g, 0, none⟩) m cap) m (u32c (setOf d.toList)) ∧ Below base w w' := by
  have HR := hide h; have HUp := hide hu; have hcap := h.2.2.2.2.2; have hdc := h.2.2.2.2.1; have hbg := h.2.2.1; unfold maxLen at hcap; have hfree := fun w (h : RowN base g cap w d) => h; obtain ⟨n, hn⟩ : ∃ n, d.size = n := ⟨_, rfl⟩
  have HSt := hide (CompInv.start (d := d) hs1)
  have HFin : Hid (∀ (w' : World) (d' : Array Nat) (k : Nat), RowN base g cap w' d' → CompInv d d' k d.size → w'.ownsRow base 22 1 (.slice (some ⟨g, 0, none⟩) k cap) k (u32c (setOf d.toList)) ∧ k = (setOf d.toList).length) := hide (fun w' d' k hr hi => by
    have h1 := hr.cut (k := k) (by have := hi.size; have := hi.le; omega); rw [hi.done] at h1; refine ⟨h1, ?_⟩; have := congrArg List.length hi.done; rw [List.length_take] at this; have hh := hi.size; have hl := hi.le; simp at this; omega)
  rw [hn] at hsz hdc hs1 HFin ⊢; have HN := hide hn; clear h hu hn hfree; by_cases h2 : n < 2
  · obtain rfl : n = 1 := (by omega)
    have HF := hide (HFin.out w d 1 HR.out HSt.out)
    go_enter Tryz.func389, Tryz.ntmps389
    go_wp2; go_ret; exact ⟨_, rfl, HF.out.2, HF.out.1, Below.refl _ _⟩
  · go_enter Tryz.func389, Tryz.ntmps389
    go_wp2
    go_loopw [3] (fun i wr => ∃ k : Nat, k ≤ n ∧ i = .int .i64 k ∧ CompInv d d k k ∧ ∃ q, wr = w.drewN q) (fun i _ => n - (intOf i).toNat)
    case atStart => exact ⟨1, by omega, rfl, HSt.out, 0, rfl⟩
    case round =>
      obtain ⟨k, hk, rfl, hinv, q, rfl⟩ := hrel; have HI := hide hinv; have hk1 := hinv.le.1; clear hinv; by_cases hlt : k < n
      · obtain ⟨p, rfl⟩ : ∃ p, k = p + 1 := ⟨k - 1, by omega⟩
        have hc1 := HR.out.cell (j := p + 1) (by rw [HN.out]; omega); have hc2 := HR.out.cell (j := p) (by rw [HN.out]; omega); obtain ⟨x, hx⟩ : ∃ x, d[p + 1]! = x := ⟨_, rfl⟩
        obtain ⟨y, hy⟩ : ∃ y, d[p]! = y := ⟨_, rfl⟩
        rw [hx] at hc1; rw [hy] at hc2; have HX := hide hx; have HY := hide hy; clear hx hy; have hi0 : (0 : Int) ≤ (p : Int) := (by omega)
        have hi1 : (p : Int) + 1 < (n : Int) := (by omega)
        have hi2 : (p : Int) < (n : Int) := (by omega)
        have hi3 : (0 : Int) ≤ (p : Int) + 1 := (by omega)
        by_cases hxy : x = y
        · have he : ((x : Int) == (y : Int)) = true := (by simp [hxy])
          have HXY := hide hxy; clear hxy
          have HI2 : Hid (CompInv d d (p + 1) (p + 1 + (0 + 1))) := hide (by
            have := HI.out.skip (by rw [HN.out]; exact hlt) (by rw [Nat.add_sub_cancel, HX.out, HY.out]; exact HXY.out); exact this)
          have hcp : ¬ cap = p + 1 := (by omega)
          have hi4 : (p : Int) + 1 ≤ (n : Int) := (by omega)
          have hi5 : (n : Int) ≤ (cap : Int) := (by omega)
          go_wp2
          go_quiet (fail)
          go_wp2; obtain ⟨wo, hwo⟩ : ∃ wo, (w.drewN q).drewN nq = wo := ⟨_, rfl⟩
          have HRo : Hid (RowN base g cap wo d) := hide (by rw [← hwo]; exact (HR.out.drewN q).drewN nq); have HBo : Hid (Below base w wo) := hide (by rw [← hwo]; exact below_drewN (below_drewN (Below.refl _ _) _) _); obtain ⟨p0, hp0⟩ : ∃ p0, p = p0 := ⟨_, rfl⟩
          subst hp0
          go_loopw [3, 5] (fun a b wr => ∃ (k r : Nat) (d' : Array Nat), a = .int .i64 k ∧ b = .int .i64 ((r : Int) + 1) ∧ r + 1 ≤ n - (p + 1) ∧ CompInv d d' k (p + 1 + (r + 1)) ∧ k < p + 1 + (r + 1) ∧ d'[p + 1 + r]! = d[p + 1 + r]! ∧ RowN base g cap wr d' ∧ Below base w wr) (fun _ b _ => n - (intOf b).toNat)
          case atStart => exact ⟨p + 1, 0, d, by go_num, by go_num, by omega, HI2.out, by omega, rfl, by first | exact (HR.out.drewN _) | exact (HR.out.drewN _).drewN _, by first | exact below_drewN (Below.refl _ _) _ | exact below_drewN (below_drewN (Below.refl _ _) _) _⟩
          case round =>
            obtain ⟨k, r, d', rfl, rfl, hr, hinv, hkq, hrr, hrow, hbel⟩ := hrel; have HI3 := hide hinv; have HRR := hide hrr; have HR3 := hide hrow; have HB3 := hide hbel; have hds := hinv.size; have hle := hinv.le; rw [HN.out] at hds hle; clear hinv hrr hbel; by_cases hlt2 : r + 1 < n - (p + 1)
            · have hc3 := hrow.cell (j := p + 1 + (r + 1)) (by omega); have hc4 := hrow.cell (j := p + 1 + r) (by omega); have hfz := hrow.1.frozenAt k; have hck := hrow.cell (j := k) (by omega); clear hrow; obtain ⟨x2, hx2⟩ : ∃ x2, d[p + 1 + (r + 1)]! = x2 := ⟨_, rfl⟩
              obtain ⟨y2, hy2⟩ : ∃ y2, d[p + 1 + r]! = y2 := ⟨_, rfl⟩
              have hdx : d'[p + 1 + (r + 1)]! = x2 := by
                rcases HI3.out.rest (p + 1 + (r + 1)) (by omega) with h | h
                · rw [h, hx2]
                · omega
              rw [hdx] at hc3; rw [HRR.out, hy2] at hc4; have HX2 := hide hx2; have HY2 := hide hy2; have HDX := hide hdx; have hx3 : x2 < 4294967296 := (by rw [← hdx]; exact HR3.out.val _)
              clear hx2 hy2 hdx; have hj0 : (0 : Int) ≤ (r : Int) := (by omega)
              have hj1 : (0 : Int) ≤ (r : Int) + 1 := (by omega)
              have hj2 : (r : Int) + 1 < (n : Int) - ((p : Int) + 1) := (by omega)
              have hj3 : (r : Int) < (n : Int) - ((p : Int) + 1) := (by omega)
              have hj4 : (k : Int) < (n : Int) := (by omega)
              by_cases hxy2 : x2 = y2
              · have he2 : ((x2 : Int) != (y2 : Int)) = false := (by simp [hxy2])
                have HI4 : Hid (CompInv d d' k (p + 1 + (r + 1 + 1))) := hide (by
                  have := HI3.out.skip (by rw [HN.out]; omega) (by rw [show p + 1 + (r + 1) - 1 = p + 1 + r by omega, HX2.out, HY2.out]; exact hxy2); exact this)
                clear hxy2; go_wp2
                go_quiet (fail)
                go_wp2
                go_roundw
                case rel => exact ⟨k, r + 1, d', rfl, by go_num, by omega, HI4.out, by omega, by rw [show p + 1 + (r + 1) = p + 1 + (r + 1) from rfl, HDX.out, HX2.out], HR3.out.drewN _, below_drewN HB3.out _⟩
                case measure => simp [intOf]; omega
              · have he2 : ((x2 : Int) != (y2 : Int)) = true := (by simp; omega)
                have HI4 : Hid (CompInv d (d'.setIfInBounds k x2) (k + 1) (p + 1 + (r + 1 + 1))) := hide (by
                  have := HI3.out.put HUp.out (by rw [HN.out]; omega) (by rw [show p + 1 + (r + 1) - 1 = p + 1 + r by omega, HX2.out, HY2.out]; exact hxy2); rw [HX2.out] at this; exact this)
                clear hxy2; go_wp2
                go_quiet (fail)
                go_wp2
                go_roundw
                case rel => exact ⟨k + 1, r + 1, d'.setIfInBounds k x2, by go_num, by go_num, by omega, HI4.out, by omega, by rw [get_set _ _ _ _ (by omega), if_neg (by omega), HDX.out, HX2.out], (HR3.out.drewN _).set_ hx3, (below_drewN HB3.out _).setCell (by exact HR3.out.2.2.1) _⟩
                case measure => simp [intOf]; omega
            · have hkn : k < n := (by omega)
              have hrn : p + 1 + (r + 1) = n := (by omega)
              have HI4 : Hid (CompInv d d' k d.size) := hide (by rw [HN.out, ← hrn]; exact HI3.out); have hcl := clearRun wr g k (n - k) (cap - k) (by omega) (fun j hj => by rw [HR3.out.cell (by omega)]; rfl) (fun j hj => HR3.out.1.frozenAt (k + j)); have HF : Hid (wr.ownsRow base 22 1 (.slice (some ⟨g, 0, none⟩) k cap) k (u32c (setOf d.toList)) ∧ k = (setOf d.toList).length) := hide (HFin.out wr d' k HR3.out (by have := HI4.out; rwa [HN.out] at this)); have hck : ¬ cap = k := (by omega)
              have hj4 : (k : Int) < (n : Int) := (by omega)
              clear hrow hrn; go_wp2; go_ret; exact ⟨_, rfl, HF.out.2, own_clear _ _ HF.out.1 (Nat.le_refl _), below_clear (by exact HR3.out.2.2.1) _ _ HB3.out⟩
        · have he : ((x : Int) == (y : Int)) = false := (by simp; omega)
          have HI2 := hide (HI.out.grow HUp.out (by rw [HN.out]; exact hlt) (by rw [Nat.add_sub_cancel, HX.out, HY.out]; exact hxy)); clear hxy; go_wp2
          go_quiet (fail)
          go_wp2
          go_roundw
          case rel => exact ⟨p + 1 + 1, by omega, by go_num, HI2.out, _, rfl⟩
          case measure => simp [intOf]; omega
      · obtain rfl : k = n := (by omega)
        have HF := hide (HFin.out (w.drewN q) d k (HR.out.drewN q) (by have := HI.out; rwa [← HN.out] at this ⊢)); go_wp2; go_ret; exact ⟨_, rfl, HF.out.2, HF.out.1, below_drewN (Below.refl _ _) _⟩
theorem row_of_own {base : Nat} {w : World} {v : Value} {l : List Nat} (h : w.ownsRow base 22 1 v l.length (u32c l)) (hl : 0 < l.length) (hb : ∀ x ∈ l, x < 4294967296) :
  ∃ g cap, v = .slice (some ⟨g, 0, none⟩) l.length cap ∧ RowN base g cap w l.toArray := by
 rcases h.2 with ⟨_, h0⟩ | ⟨g, cap, cur, hv, h1, h2, h3, h4, h5, h6⟩
 ·omega
 ·subst hv; refine ⟨g, cap, rfl, ?_, by simpa using hb, h1, (Array.getElem?_eq_some_iff.1 h2).1, by simpa using h3, h4⟩; simpa using h
theorem setOf_perm {l r : List Nat} (h : ∀ x, x ∈ l ↔ x ∈ r) : setOf l = setOf r :=
 rise_ext (setOf_rise _) (setOf_rise _) fun x => by rw [setOf_mem, setOf_mem, h]
end Go.Proofs.YtmffmkjgdjgmeaaGreat
namespace Go.Proofs.YtmffmkjgdjgmeaaGreat
open Go.RowKit
theorem own_below {w w' : World} {base e size n : Nat} {v : Value} {xs : List Value} (h : w.ownsRow base e size v n xs) (hb : Below w.heap.size w w') : w'.ownsRow base e size v n xs :=
 ⟨h.1, h.2.imp id (fun ⟨g, cap, cur, e1, e2, e3, rest⟩ => ⟨g, cap, cur, e1, e2, (hb.block g (Array.getElem?_eq_some_iff.1 e3).1).trans e3, rest⟩)⟩
end Go.Proofs.YtmffmkjgdjgmeaaGreat
namespace Go.Proofs.YtmffmkjgdjgmeaaGreat
open Go.RowKit
attribute [local go_sem] Oper.semAt_some
theorem blk_new' {w : World} {g : Nat} (t : TypeId) (cs : Array Value) (h : g = w.heap.size) : Blk (w.alloc (.cells cs t)) g t cs := by subst h; exact Blk.new w t cs
theorem KeepsFrom.below {lo : Nat} {A B : World} (hb : Below A.heap.size A B) : KeepsFrom lo A B :=
 ⟨hb.size, fun k o _ hk _ => (hb.block k (Array.getElem?_eq_some_iff.1 hk).1).trans hk⟩
theorem own_cells {w : World} {base e size n : Nat} {v : Value} {xs : List Value} (h : w.ownsRow base e size v n xs) : ∀ r, v.ownBlock = some r → base ≤ r ∧ ∃ o : Obj, w.heap[r]? = some o ∧ o.isCells = true := by
 intro r hr; rcases h.2 with ⟨rfl, _⟩ | ⟨g, cap, cur, rfl, h6, hgc, _⟩
 ·cases hr
 ·cases hr
  exact ⟨h6, _, hgc, rfl⟩
theorem Blk.put {W : World} {g D : Nat} {t : TypeId} {cs : Array Value} (h : Blk W g t cs) (hne : g ≠ D) (o : Obj) : Blk (W.putObj D o) g t cs := (World.putObj_heap_other hne).trans h
theorem below_put {H D : Nat} {a W : World} {o : Obj} (h : Below H a W) (hK : W.heap[D]? = some o) (hD : H ≤ D) (o' : Obj) : Below H a (W.putObj D o') :=
 h.grown (grownBy_putObj' W D o') (by have := (Array.getElem?_eq_some_iff.1 hK).1; omega) (fun k e => by cases e; exact hD)
end Go.Proofs.YtmffmkjgdjgmeaaGreat
namespace Go.Proofs.YtmffmkjgdjgmeaaGreat
open Go.RowKit Go.WideShapes Go.ChangeShapes
attribute [local go_sem] Oper.semAt_some
theorem ret_i64 {i j : Int} (h : i = j) : Ending.returned (.int .i64 i) = .returned (.int .i64 j) := by rw [h]
end Go.Proofs.YtmffmkjgdjgmeaaGreat
namespace Go.Proofs.YtmffmkjgdjgmeaaGreat
open Go.RowKit
set_option maxRecDepth 100000 in
open Go.WideShapes Go.ChangeShapes Go.ChangeAt Go.ChangeMaps in
theorem prefix_open {H : Type} {enc : TypeId × Value → H} {W : World} {r : Reach} {b0 : Nat} {v : Value} {d : DataW H} {p : List MemPlace} (hv : Value.okWide Tryz.prog W r b0 24 v)
  (h : DataW.Trod enc Tryz.prog W 0 (fun _ => true) true 24 v d p) :
  ∃ (a : Nat) (n : Int), v = pfx a n ∧ a < 4294967296 ∧ -9223372036854775808 ≤ n ∧ n ≤ 9223372036854775807 := by
 obtain ⟨v0, v1, y0, y1, k, rfl, _, _, h0, h1⟩ := Go.Joins.open_agg2 Tryz.underlying24 (by kernel_rfl) (by kernel_rfl) hv h; obtain ⟨z0, e0, _, w0⟩ := DataW.trod_int Tryz.underlying22 h0; obtain ⟨z1, e1, _, w1⟩ := DataW.trod_int Tryz.underlying3 h1; obtain rfl : v0 = _ := (by simpa using e0)
 obtain rfl : v1 = _ := (by simpa using e1)
 have c0 : 0 ≤ z0 ∧ z0 ≤ 4294967295 := (by simpa [Lit.wf, IntKind.min, IntKind.max, IntKind.signed, IntKind.bits] using w0)
 have c1 : -9223372036854775808 ≤ z1 ∧ z1 ≤ 9223372036854775807 := (by simpa [Lit.wf, IntKind.min, IntKind.max, IntKind.signed, IntKind.bits] using w1)
 obtain ⟨a, rfl⟩ := Int.eq_ofNat_of_zero_le c0.1; exact ⟨a, z1, rfl, by omega, c1.1, c1.2⟩
end Go.Proofs.YtmffmkjgdjgmeaaGreat
namespace Go.Proofs.YtmffmkjgdjgmeaaGreat
open Go.RowKit
attribute [local go_sem] Oper.semAt_some
theorem KpR.setC {b0 b1 : Nat} (A : World) {p : Addr} (v : Value) (hp : p.block < b0) : KpR b0 b1 A (A.setCell p v) :=
 ⟨(KeepsOthers.setCell A p v).size, fun k h0 _ => Below.heap_setCell A p v k (by omega)⟩
theorem own_sets {w : World} {base e size n H i : Nat} {v u : Value} {xs : List Value} (h : w.ownsRow base e size v n xs) (hb : H < base) : (w.setCell ⟨H, i, none⟩ u).ownsRow base e size v n xs :=
 own_set h (fun e => by have := (own_cells h _ e).1; omega) _
set_option maxHeartbeats 400000 in
theorem index32_any (A : Option Addr) (n c : Nat) (l : List Nat) (x : Nat) (w : World) (h : U32s w A n c l) :
    Calls Tryz.prog 407 #[.slice A n c, .int .u32 x] w fun e w' => ∃ i : Int, e = .returned (.int .i64 i) ∧ decide (0 ≤ i) = decide (x ∈ l) ∧ w = w' := by
  have hm := h.2.2.1; have hnc := h.2.1; unfold maxLen at hm; have HU := hide h; clear h
  go_enter Tryz.func407, Tryz.ntmps407
  go_wp2
  go_loop [8] (fun i => ∃ k : Nat, k ≤ n ∧ i = .int .i64 k ∧ x ∉ l.take k) (fun i => n - (intOf i).toNat)
  case atStart => exact ⟨0, Nat.zero_le _, rfl, by simp⟩
  case round =>
    obtain ⟨k, hk, rfl, hno⟩ := hrel; have HN := hide hno; clear hno; by_cases hlt : k < n
    · obtain ⟨g, o, y, rfl, hg, hy, hy2, hc⟩ := HU.out.at_ hlt; by_cases hxy : x = y
      · have hin := hide (show decide ((0 : Int) ≤ (k : Int)) = decide (x ∈ l) by
          have : x ∈ l := List.mem_of_getElem? (hxy ▸ hy); simp [this])
        have he : ((x : Int) == (y : Int)) = true := (by rw [hxy]; simp)
        clear hxy hy; go_wp2; go_ret; exact ⟨_, rfl, by first | exact hin.out | exact decide_eq_decide.1 hin.out, rfl⟩
      · have he : ((x : Int) == (y : Int)) = false := (by simp; omega)
        have hn2 := hide (show x ∉ l.take (k + 1) by
          rw [List.take_add_one, hy]; have := HN.out; simp only [List.mem_append, Option.toList_some, List.mem_singleton, not_or]; exact ⟨this, hxy⟩)
        clear hxy hy; go_wp2
        go_round
        case rel => exact ⟨k + 1, by omega, by go_num, hn2.out⟩
        case measure => simp [intOf]; omega
    · obtain rfl : k = n := (by omega)
      have hf := hide (show decide ((0 : Int) ≤ -1) = decide (x ∈ l) by
        have := HN.out; rw [List.take_of_length_le (by rw [HU.out.1]; exact Nat.le_refl _)] at this; simpa using this)
      go_wp2; go_ret; exact ⟨_, rfl, by first | exact hf.out | exact decide_eq_decide.1 hf.out, rfl⟩
theorem contains32_any (A : Option Addr) (n c : Nat) (l : List Nat) (x : Nat) (w : World) (h : U32s w A n c l) :
  Calls Tryz.prog 358 #[.slice A n c, .int .u32 x] w fun e w' => e = .returned (.bool (l.contains x)) ∧ w = w' := by
 have HI := hide (index32_any A n c l x w h); clear h
 go_enter Tryz.func358, Tryz.ntmps358
 go_wp2_with fail
 refine HI.out.mono ?_; rintro e w1 ⟨i, rfl, hd, rfl⟩; have HD := hide hd; clear hd; go_wp2; go_ret; exact ⟨ret_bool (by rw [HD.out]; simp), rfl⟩
end Go.Proofs.YtmffmkjgdjgmeaaGreat
namespace Go.Proofs.YtmffmkjgdjgmeaaGreat
open Go.RowKit
theorem Own32.u32s' {w w' : World} {v : Value} {l : List Nat} (h : Own32 w w' v l) (hb : ∀ x ∈ l, x < 4294967296) : ∃ A c, v = .slice A l.length c ∧ U32s w' A l.length c l := by
 obtain ⟨A, n, c, rfl, hu⟩ := h.u32s hb; have := hu.1; subst this; exact ⟨A, c, rfl, hu⟩
theorem u32c_app (a b : List Nat) : u32c (a ++ b) = u32c a ++ u32c b := by simp [u32c]
end Go.Proofs.YtmffmkjgdjgmeaaGreat
namespace Go.Proofs.YtmffmkjgdjgmeaaGreat
open Go.RowKit Go.WideShapes Go.ChangeShapes
attribute [local go_sem] Oper.semAt_some
theorem LstAt.keepW {α : Type} {sz : Nat} {R : World → List Value → α → Prop} {w w' : World} {A : Option Addr} {n c : Nat} {l : List α} (h : LstAt sz R w A n c l) (hR : ∀ vs x, R w vs x → R w' vs x) (hs : w.heap.size ≤ w'.heap.size)
  (hc : ∀ (ad : Addr) (i : Nat), A = some ad → w'.cell? ⟨ad.block, i, none⟩ = w.cell? ⟨ad.block, i, none⟩) : LstAt sz R w' A n c l := by
 refine ⟨h.1, h.2.1, h.2.2.1, fun hn => ?_⟩; obtain ⟨g, o, hA, hg, hcc⟩ := h.2.2.2 hn; refine ⟨g, o, hA, Nat.lt_of_lt_of_le hg hs, fun k x hk => ?_⟩; obtain ⟨vs, h1, h2, h3⟩ := hcc k x hk; exact ⟨vs, h1, hR _ _ h2, fun j v hv => (hc _ _ hA).trans (h3 j v hv)⟩
theorem own_low_block {w : World} {base n size : Nat} {e : TypeId} {v : Value} {xs : List Value} (h : w.ownsRow base e size v n xs) : ∀ k, v.ownBlock = some k → base ≤ k := by
 intro k hk; rcases h.2 with ⟨rfl, _⟩ | ⟨g, cap, cur, rfl, hb, _⟩
 ·simp [Value.ownBlock] at hk
 ·have : g = k := (by simpa [Value.ownBlock] using hk)
  rw [← this]; exact hb
theorem own_baseLe {w : World} {b b' n size : Nat} {e : TypeId} {v : Value} {xs : List Value} (h : w.ownsRow b e size v n xs) (hb : b' ≤ b) : w.ownsRow b' e size v n xs := by
 refine ⟨h.1, ?_⟩; rcases h.2 with h2 | ⟨g, cap, cur, h1, h2, h3⟩
 ·exact .inl h2
 ·exact .inr ⟨g, cap, cur, h1, Nat.le_trans hb h2, h3⟩
end Go.Proofs.YtmffmkjgdjgmeaaGreat
namespace Go.Proofs.YtmffmkjgdjgmeaaGreat
open Go.RowKit Go.WideShapes Go.ChangeShapes
def AgB (B : Nat) (ob : Option Nat) (w w' : World) : Prop := w.heap.size ≤ w'.heap.size ∧ ∀ (k : Nat) (o : Obj), B ≤ k → w.heap[k]? = some o → o.isCells = true → some k ≠ ob → w'.heap[k]? = some o
def FrB (B : Nat) (ob : Option Nat) (R : World → Prop) (w : World) : Prop := ∀ w', AgB B ob w w' → R w'
theorem heap_lt {w : World} {k : Nat} {o : Obj} (h : w.heap[k]? = some o) : k < w.heap.size := (Array.getElem?_eq_some_iff.1 h).1
theorem FrB.here {B : Nat} {ob : Option Nat} {R : World → Prop} {w : World} (h : FrB B ob R w) : R w := h w ⟨Nat.le_refl _, fun _ _ _ h _ _ => h⟩
theorem FrB.ag {B : Nat} {ob : Option Nat} {R : World → Prop} {w w' : World} (h : FrB B ob R w) (ha : AgB B ob w w') : FrB B ob R w' := fun w2 h2 =>
 h w2 ⟨Nat.le_trans ha.1 h2.1, fun k o h0 h1 hc h3 => h2.2 k o h0 (ha.2 k o h0 h1 hc h3) hc h3⟩
theorem AgB.below {B : Nat} {ob : Option Nat} {w w' : World} (hb : Below w.heap.size w w') : AgB B ob w w' := ⟨hb.size, fun k o _ h1 _ _ => (hb.block k (heap_lt h1)).trans h1⟩
theorem AgB.grown {B : Nat} {ob : Option Nat} {w w' : World} (hg : w.grownBy w' ob) : AgB B ob w w' := ⟨hg.size, fun k o _ h1 _ h2 => (hg.block k (heap_lt h1) h2).trans h1⟩
theorem AgB.turned {B : Nat} {ob row : Option Nat} {w w' : World} (hg : w.grownBy w' row) (hr : ∀ r, row = some r → r < B ∨ ∃ o : Obj, w.heap[r]? = some o ∧ o.isCells = false) : AgB B ob w w' :=
  ⟨hg.size, fun k o h0 h1 hc _ => (hg.block k (heap_lt h1) (fun e => by
    rcases hr k e.symm with h | ⟨o', h, hc'⟩
    · omega
    · rw [h1] at h; injection h with h; subst h; rw [hc] at hc'; cases hc')).trans h1⟩
theorem AgB.set {B : Nat} {ob : Option Nat} (w : World) {p : Addr} (hp : p.block < B) (v : Value) : AgB B ob w (w.setCell p v) :=
 ⟨by simp [World.setCell], fun k o h0 h1 _ _ => (Below.heap_setCell w p v k (by rintro rfl; omega)).trans h1⟩
theorem FrB.below {B : Nat} {ob : Option Nat} {R : World → Prop} {w w' : World} (h : FrB B ob R w) (hb : Below w.heap.size w w') : FrB B ob R w' := h.ag (.below hb)
theorem FrB.grown {B : Nat} {ob : Option Nat} {R : World → Prop} {w w' : World} (h : FrB B ob R w) (hg : w.grownBy w' ob) : FrB B ob R w' := h.ag (.grown hg)
theorem FrB.set {B : Nat} {ob : Option Nat} {R : World → Prop} {w : World} (h : FrB B ob R w) {p : Addr} (hp : p.block < B) (v : Value) : FrB B ob R (w.setCell p v) := h.ag (.set w hp v)
theorem FrB.moved {B : Nat} {ob : Option Nat} {R : World → Prop} {w w' : World} (h : FrB B ob R w) (hg : w.grownBy w' ob) : FrB B (some w.heap.size) R w' := fun w2 h2 =>
 h w2 ⟨Nat.le_trans hg.size h2.1, fun k o h0 h1 hc h3 => h2.2 k o h0 ((hg.block k (heap_lt h1) h3).trans h1) hc (by intro e; injection e with e; have := heap_lt h1; omega)⟩
theorem FrB.less {B B' : Nat} {ob : Option Nat} {R : World → Prop} {w : World} (h : FrB B' ob R w) (hb : B ≤ B') : FrB B ob R w := fun w2 h2 => h w2 ⟨h2.1, fun k o h0 => h2.2 k o (Nat.le_trans hb h0)⟩
theorem FrB.none_ {B : Nat} {ob : Option Nat} {R : World → Prop} {w : World} (h : FrB B ob R w) : FrB B none R w := fun w2 h2 => h w2 ⟨h2.1, fun k o h0 h1 hc _ => h2.2 k o h0 h1 hc (by simp)⟩
theorem FrB.imp {B : Nat} {ob : Option Nat} {R S : World → Prop} {w : World} (h : FrB B ob R w) (hi : ∀ w, R w → S w) : FrB B ob S w := fun w2 h2 => hi _ (h w2 h2)
theorem FrB.and {B : Nat} {ob : Option Nat} {R S : World → Prop} {w : World} (h : FrB B ob R w) (h' : FrB B ob S w) : FrB B ob (fun w => R w ∧ S w) w := fun w2 h2 => ⟨h w2 h2, h' w2 h2⟩
def CellsLike (w w' : World) : Prop := w.heap.size ≤ w'.heap.size ∧ ∀ (k : Nat) (o : Obj), w.heap[k]? = some o → o.isCells = true → w'.heap[k]? = some o
theorem FrB.of_mono {R : World → Prop} {w : World} {ob : Option Nat} (hR : ∀ w', CellsLike w w' → R w') (hob : ∀ k, ob = some k → w.heap.size ≤ k) : FrB 0 ob R w := fun w2 h2 =>
 hR w2 ⟨h2.1, fun k o h1 hc => h2.2 k o (Nat.zero_le _) h1 hc (by rintro rfl; have := hob k rfl; have := heap_lt h1; omega)⟩
theorem cell_kept_ag {w w' : World} {a : Addr} {v : Value} (h : w.cell? a = some v) (hk : ∀ o : Obj, w.heap[a.block]? = some o → o.isCells = true → w'.heap[a.block]? = some o) : w'.cell? a = some v := by
 have h0 := h; unfold World.cell? at h; split at h
 ·rename_i c t z he; have h2 := hk _ he rfl; rw [← h0, World.cell?_of_block (h2.trans he.symm)]
 ·cases h
theorem u32s_fr {w : World} {A : Option Addr} {n c B : Nat} {ob : Option Nat} {l : List Nat} (h : U32s w A n c l) (hA : 0 < n → ∀ a, A = some a → B ≤ a.block ∧ some a.block ≠ ob) : FrB B ob (fun w => U32s w A n c l) w := by
 intro w' ha; refine ⟨h.1, h.2.1, h.2.2.1, h.2.2.2.1, fun hn => ?_⟩; obtain ⟨g, o, e, hg, hc⟩ := h.2.2.2.2 hn; obtain ⟨h1, h2⟩ := hA hn _ e; exact ⟨g, o, e, Nat.lt_of_lt_of_le hg ha.1, fun k x hk => cell_kept_ag (a := ⟨g, o + k, none⟩) (hc k x hk) (fun ob' e1 e2 => ha.2 g ob' h1 e1 e2 h2)⟩
theorem own_u32_fr {w : World} {b n c B : Nat} {A : Option Addr} {ob : Option Nat} {l : List Nat} (h : w.ownsRow b 22 1 (.slice A n c) n (u32c l)) (hl : ∀ y ∈ l, y < 4294967296) (hB : B ≤ b) (hob : ∀ k, ob = some k → k < b) : FrB B ob (fun w => U32s w A n c l) w :=
 u32s_fr (U32s.of_own h hl) fun _ a e => by
  have := own_low_block h a.block (by rw [e]; rfl); exact ⟨by omega, by rintro e; have := hob _ e.symm; omega⟩
section
variable {α : Type} {sz : Nat} {R : World → List Value → α → Prop} {w w' : World} {A : Option Addr} {n c B B' : Nat} {l : List α} {t : TypeId}
def LOw (sz : Nat) (t : TypeId) (R : World → List Value → α → Prop) (w : World) (B B' : Nat) (A : Option Addr) (n c : Nat) (l : List α) (xs : List Value) : Prop :=
  w.ownsRow B t sz (.slice A n c) n xs ∧ Chunks sz (fun w vs x => FrB B' (Value.slice A n c).ownBlock (fun w => R w vs x) w) w xs l
theorem LOw.nil : LOw sz t R w B B' none 0 0 [] [] := ⟨⟨by simp, .inl ⟨rfl, rfl⟩⟩, ⟨by simp, fun k x hk => by simp at hk⟩⟩
theorem LOw.here {xs : List Value} (h : LOw sz t R w B B' A n c l xs) : Chunks sz R w xs l := ⟨h.2.1, fun k x hk => (h.2.2 k x hk).here⟩
theorem LOw.lst {xs : List Value} (hsz : 0 < sz) (h : LOw sz t R w B B' A n c l xs) : LstAt sz R w A n c l := LstAt.of_own hsz h.1 h.here
theorem LOw.below {xs : List Value} (h : LOw sz t R w B B' A n c l xs) (hb : Below w.heap.size w w') : LOw sz t R w' B B' A n c l xs :=
 ⟨own_below h.1 hb, h.2.1, fun k x hk => (h.2.2 k x hk).below hb⟩
theorem LOw.less {xs : List Value} {B1 B2 : Nat} (h : LOw sz t R w B B' A n c l xs) (h1 : B1 ≤ B) (h2 : B2 ≤ B') : LOw sz t R w B1 B2 A n c l xs :=
 ⟨own_baseLe h.1 h1, h.2.1, fun k x hk => (h.2.2 k x hk).less h2⟩
theorem LOw.set {xs : List Value} {H i : Nat} (h : LOw sz t R w B B' A n c l xs) (h1 : H < B) (h2 : H < B') (v : Value) : LOw sz t R (w.setCell ⟨H, i, none⟩ v) B B' A n c l xs :=
 ⟨own_set h.1 (fun e => by have := own_low_block h.1 _ e; omega) v, h.2.1, fun k x hk => (h.2.2 k x hk).set h2 v⟩
theorem LOw.push {xs ys : List Value} {l' : List α} {m : Nat} {v' : Value} (h : LOw sz t R w B B' A n c l xs) (hy : Chunks sz (fun w vs x => FrB B' (Value.slice A n c).ownBlock (fun w => R w vs x) w) w ys l')
  (ho : w'.ownsRow B t sz v' (n + m) (xs ++ ys)) (hg : w.grownBy w' (Value.slice A n c).ownBlock) (hor : v'.ownBlock = (Value.slice A n c).ownBlock ∨ v'.ownBlock = some w.heap.size) :
  ∃ A' c', v' = .slice A' (n + m) c' ∧ LOw sz t R w' B B' A' (n + m) c' (l ++ l') (xs ++ ys) := by
 obtain ⟨A', c', rfl⟩ := own_slice ho; refine ⟨A', c', rfl, ho, ?_⟩; have hc : Chunks sz (fun w vs x => FrB B' (Value.slice A n c).ownBlock (fun w => R w vs x) w) w (xs ++ ys) (l ++ l') := h.2.app_ hy; rcases hor with e | e
 ·rw [e]; exact ⟨hc.1, fun k x hk => (hc.2 k x hk).grown hg⟩
 ·rw [e]; exact ⟨hc.1, fun k x hk => (hc.2 k x hk).moved hg⟩
theorem LOw.fr {xs : List Value} (hsz : 0 < sz) (h : LOw sz t R w B B' A n c l xs) (hB : B' ≤ B) : FrB B' none (fun w => LstAt sz R w A n c l) w := by
 intro w2 h2; refine LstAt.of_own (base := B) (e := t) (xs := xs) hsz ⟨h.1.1, ?_⟩ ⟨h.2.1, fun k x hk => ?_⟩
 ·rcases h.1.2 with h3 | ⟨g, cap, cur, e1, e2, e3, rest⟩
  ·exact .inl h3
  ·exact .inr ⟨g, cap, cur, e1, e2, h2.2 g _ (by omega) e3 rfl (by simp), rest⟩
 ·exact (h.2.2 k x hk).none_ w2 h2
theorem LOw.ag {xs : List Value} (h : LOw sz t R w B B' A n c l xs) (hB : B' ≤ B) {row : Option Nat} (hg : w.grownBy w' row) (hr : ∀ r, row = some r → r < B' ∨ ∃ o : Obj, w.heap[r]? = some o ∧ o.isCells = false) : LOw sz t R w' B B' A n c l xs := by
 refine ⟨⟨h.1.1, ?_⟩, h.2.1, fun k x hk => (h.2.2 k x hk).ag (.turned hg hr)⟩; rcases h.1.2 with h3 | ⟨g, cap, cur, e1, e2, e3, rest⟩
 ·exact .inl h3
 ·exact .inr ⟨g, cap, cur, e1, e2, (AgB.turned (B := B') (ob := none) hg hr).2 g _ (by omega) e3 rfl (by simp), rest⟩
def SLike (R : World → List Value → α → Prop) : Prop := ∀ (w w' : World) (vs : List Value) (x : α), CellsLike w w' → R w vs x → R w' vs x
theorem CellsLike.below {w w' : World} (hb : Below w.heap.size w w') : CellsLike w w' := ⟨hb.size, fun k o h _ => (hb.block k (heap_lt h)).trans h⟩
theorem SLike.mono (h : SLike R) : SMono R := fun w w' vs x hb => h w w' vs x (.below hb)
theorem chunks_fr {xs : List Value} (hR : SLike R) (h : Chunks sz R w xs l) {ob : Option Nat} (hob : ∀ k, ob = some k → w.heap.size ≤ k) :
  Chunks sz (fun w vs x => FrB 0 ob (fun w => R w vs x) w) w xs l := ⟨h.1, fun k x hk => FrB.of_mono (fun w' h1 => hR w w' _ _ h1 (h.2 k x hk)) hob⟩
theorem chunks_fr_below {xs : List Value} {ob : Option Nat} (h : Chunks sz (fun w vs x => FrB B' ob (fun w => R w vs x) w) w xs l) (hb : Below w.heap.size w w') :
  Chunks sz (fun w vs x => FrB B' ob (fun w => R w vs x) w) w' xs l := ⟨h.1, fun k x hk => (h.2 k x hk).below hb⟩
theorem chunk1_fr {vs : List Value} {x : α} {ob : Option Nat} (hl : vs.length = sz) (h : FrB B' ob (fun w => R w vs x) w) : Chunks sz (fun w vs x => FrB B' ob (fun w => R w vs x) w) w vs [x] := Chunks.one_ hl h
end
end Go.Proofs.YtmffmkjgdjgmeaaGreat
namespace Go.Proofs.YtmffmkjgdjgmeaaGreat
open Go.RowKit Go.WideShapes Go.ChangeShapes
structure SG where
  k : Int
  r : List Nat
def sgR (w : World) (vs : List Value) (x : SG) : Prop := ∃ B m d, vs = [.int .i64 x.k, .slice B m d] ∧ U32s w B m d x.r
theorem sgMono : SMono sgR := fun _ _ _ _ hb ⟨B, m, d, e, h⟩ => ⟨B, m, d, e, h.below hb⟩
theorem sgOne : SOne sgR := by
 rintro w vs x ⟨B, m, d, rfl, _⟩ u hu; simp at hu; rcases hu with rfl | rfl <;> rfl
theorem sg_fr {w : World} {b n c B : Nat} {k : Int} {A : Option Addr} {ob : Option Nat} {l : List Nat} (h : w.ownsRow b 22 1 (.slice A n c) n (u32c l)) (hl : ∀ y ∈ l, y < 4294967296) (hB : B ≤ b) (hob : ∀ k, ob = some k → k < b) :
  FrB B ob (fun w => sgR w [.int .i64 k, .slice A n c] ⟨k, l⟩) w := (own_u32_fr h hl hB hob).imp fun _ hu => ⟨A, n, c, rfl, hu⟩
theorem sg_fr' {w : World} {n c B : Nat} {k : Int} {A : Option Addr} {ob : Option Nat} {l : List Nat} (h : U32s w A n c l) (hA : 0 < n → ∀ a, A = some a → B ≤ a.block ∧ some a.block ≠ ob) :
  FrB B ob (fun w => sgR w [.int .i64 k, .slice A n c] ⟨k, l⟩) w := (u32s_fr h hA).imp fun _ hu => ⟨A, n, c, rfl, hu⟩
theorem SGat {w : World} {A : Option Addr} {n c : Nat} {l : List SG} (h : LstAt 2 sgR w A n c l) {k : Nat} (hk : k < n) :
  ∃ (g o : Nat) (b : Int) (B : Option Addr) (m d : Nat) (r : List Nat), A = some ⟨g, o, none⟩ ∧ g < w.heap.size ∧ l[k]? = some ⟨b, r⟩ ∧ U32s w B m d r ∧ w.cell? ⟨g, o + k * 2, none⟩ = some (.int .i64 b) ∧ w.cell? ⟨g, o + k * 2 + 1, none⟩ = some (.slice B m d) := by
 obtain ⟨g, o, ⟨b, r⟩, vs, hA, hg, hx, _, ⟨B, m, d, rfl, hr⟩, hc⟩ := h.at_ hk; exact ⟨g, o, b, B, m, d, r, hA, hg, hx, hr, hc 0 _ rfl, hc 1 _ rfl⟩
def putS (l : List SG) (n : Nat) : List SG := match l.getLast? with
  | some x => if x.k = 2 ∧ x.r.length < 255 then l.dropLast ++ [⟨2, x.r ++ [n]⟩] else l ++ [⟨2, [n]⟩]
  | none => [⟨2, [n]⟩]
def stepS (out : List SG) (x : SG) : List SG := if x.k = 2 then x.r.foldl putS out else if x.k = 1 ∧ x.r ≠ [] then out ++ [⟨1, setOf x.r⟩] else out
def normS (l : List SG) : List SG := l.foldl stepS []
def shutS (l : List SG) : Prop := ∀ x, l.getLast? = some x → ¬ (x.k = 2 ∧ x.r.length < 255)
theorem shutS_nil : shutS [] := by intro x h; simp at h
theorem putS_app {out q : List SG} {n : Nat} (h : shutS out) : putS (out ++ q) n = out ++ putS q n := by
 rcases List.eq_nil_or_concat q with rfl | ⟨q', x, rfl⟩
 ·rw [List.append_nil]; unfold putS
  cases hx : out.getLast? with
  | none => rw [List.getLast?_eq_none_iff] at hx; subst hx; rfl
  | some x => simp only [if_neg (h x hx)]; rfl
 ·unfold putS; rw [List.concat_eq_append, ← List.append_assoc, List.getLast?_concat, List.getLast?_concat]; simp only; split
  ·rw [List.dropLast_concat, List.dropLast_concat, List.append_assoc]
  ·simp [List.append_assoc]
theorem putS_fold {out : List SG} (h : shutS out) : ∀ (xs : List Nat) (q : List SG), xs.foldl putS (out ++ q) = out ++ xs.foldl putS q
 | [], q => rfl
 | x :: xs, q => by rw [List.foldl_cons, List.foldl_cons, putS_app h, putS_fold h xs]
theorem putS_fill (q : List SG) : ∀ (xs r : List Nat), r.length + xs.length ≤ 255 → xs.foldl putS (q ++ [⟨2, r⟩]) = q ++ [⟨2, r ++ xs⟩]
 | [], r, _ => by simp
 | x :: xs, r, h => by
  rw [List.length_cons] at h
  have e : putS (q ++ [⟨2, r⟩]) x = q ++ [⟨2, r ++ [x]⟩] := by
   unfold putS; rw [List.getLast?_concat]; simp only; rw [if_pos ⟨trivial, by show r.length < 255; omega⟩, List.dropLast_concat]
  rw [List.foldl_cons, e, putS_fill q xs (r ++ [x]) (by simp; omega), List.append_assoc]; rfl
theorem putS_fill0 {q : List SG} (h : shutS q) : ∀ (xs : List Nat), xs ≠ [] → xs.length ≤ 255 → xs.foldl putS q = q ++ [⟨2, xs⟩]
 | [], h0, _ => absurd rfl h0
 | x :: xs, _, hl => by
  rw [List.length_cons] at hl
  have e : putS q x = q ++ [⟨2, [x]⟩] := by
   have := putS_app (q := []) (n := x) h; rw [List.append_nil] at this; rw [this]; rfl
  rw [List.foldl_cons, e, putS_fill q xs [x] (by simp; omega)]; rfl
theorem shutS_full (q : List SG) (xs : List Nat) (h : xs.length = 255) : shutS (q ++ [⟨2, xs⟩]) := by
 intro x hx; rw [List.getLast?_concat] at hx; injection hx with hx
 subst hx; intro ⟨_, h2⟩; have h3 : xs.length < 255 := h2; omega
theorem shutS_set (q : List SG) (xs : List Nat) : shutS (q ++ [⟨1, xs⟩]) := by
 intro x hx; rw [List.getLast?_concat] at hx; injection hx with hx
 subst hx; intro ⟨h1, _⟩; have h3 : (1 : Int) = 2 := h1; omega
theorem putS_len (l : List SG) (n : Nat) : (putS l n).length ≤ l.length + 1 := by
 unfold putS; split
 ·rename_i x hx; split
  ·have hne : l ≠ [] := (by rintro rfl; simp at hx)
   have := List.length_pos_iff.2 hne; rw [List.length_append, List.length_dropLast]; simp only [List.length_cons, List.length_nil]; omega
  ·simp
 ·simp
theorem putS_foldlen : ∀ (xs : List Nat) (l : List SG), (xs.foldl putS l).length ≤ l.length + xs.length
 | [], l => by simp
 | x :: xs, l => by
  have h1 := putS_foldlen xs (putS l x); have h2 := putS_len l x; rw [List.foldl_cons, List.length_cons]; omega
def chunkS (run : List Nat) : List SG := run.foldl putS []
theorem chunkS_len (run : List Nat) : (chunkS run).length ≤ run.length := by simpa [chunkS] using putS_foldlen run []
theorem chunkS_step (run : List Nat) (i : Nat) (h : shutS (chunkS (run.take i))) (hi : i < run.length) :
  chunkS (run.take (i + 255)) = chunkS (run.take i) ++ [⟨2, (run.drop i).take 255⟩] ∧ (i + 255 ≤ run.length → shutS (chunkS (run.take (i + 255)))) := by
 have e : run.take (i + 255) = run.take i ++ (run.drop i).take 255 := List.take_add
 have h1 : chunkS (run.take (i + 255)) = chunkS (run.take i) ++ [⟨2, (run.drop i).take 255⟩] := by
  unfold chunkS at h ⊢; rw [e, List.foldl_append]; exact putS_fill0 h _ (by intro h0; have := congrArg List.length h0; simp at this; omega) (by simp; omega)
 exact ⟨h1, fun hle => by rw [h1]; exact shutS_full _ _ (by simp; omega)⟩
theorem stepS_run {out : List SG} (h : shutS out) (run xs : List Nat) : stepS (out ++ chunkS run) ⟨2, xs⟩ = out ++ chunkS (run ++ xs) := by
 unfold stepS; rw [if_pos rfl, putS_fold h]; unfold chunkS; rw [List.foldl_append]
theorem stepS_set (out : List SG) (xs : List Nat) (h : xs ≠ []) : stepS out ⟨1, xs⟩ = out ++ [⟨1, setOf xs⟩] := by
 unfold stepS; rw [if_neg (show ¬ ((1 : Int) = 2) by decide), if_pos ⟨rfl, h⟩]
theorem stepS_none (out : List SG) (x : SG) (h2 : x.k ≠ 2) (h1 : x.k ≠ 1 ∨ x.r = []) : stepS out x = out := by
 unfold stepS; rw [if_neg h2, if_neg (by rintro ⟨a, b⟩; rcases h1 with h | h; exact h a; exact b h)]
end Go.Proofs.YtmffmkjgdjgmeaaGreat
namespace Go.Proofs.YtmffmkjgdjgmeaaGreat
open Go.RowKit Go.WideShapes Go.ChangeShapes
attribute [local go_sem] Oper.semAt_some
def chunkN (m : Nat) : Nat := (m + 254) / 255
def chunkE (A : Option Addr) (m : Nat) (k : Nat) : Array Value := #[.slice (A.map fun a => ⟨a.block, a.off + k * 255, none⟩) (min 255 (m - k * 255)) (min 255 (m - k * 255))]
theorem range_cut {k n : Nat} (h : k < n) : List.range k ++ k :: ((List.range n).drop (k + 1)) = List.range n := by
 have e := List.take_append_drop k (List.range n); rw [List.take_range, Nat.min_eq_left (by omega)] at e
 have e2 : (List.range n).drop k = k :: (List.range n).drop (k + 1) := by
  rw [List.drop_eq_getElem_cons (by simpa using h), List.getElem_range]
 rw [e2] at e; exact e
set_option maxRecDepth 100000 in
set_option maxHeartbeats 4000000 in
theorem chunk1_in (n : Nat) (hn : 1 ≤ n) (l b0 : Nat) (A : Option Addr) (m c : Nat) (hA : 0 < m → ∃ g o, A = some ⟨g, o, none⟩) (hmc : m ≤ c) (hc : c ≤ maxLen) (hm1 : m ≤ 1000000) (W : World)
  (h0 : Blk W b0 26 #[.slice A m c]) (h1 : Blk W (b0 + 1) 3 #[.int .i64 255]) :
  SeqCell Fence.wide n Tryz.prog 422 #[.pointer (some ⟨b0, 0, none⟩), .pointer (some ⟨b0 + 1, 0, none⟩)] (chunkE A m) b0 (b0 + 2) (List.range (chunkN m)) l W := by
 intro J Jx hJ hJx hY hJ0; show CallsIn Fence.wide n Tryz.prog 422 #[.func (.yield l) #[] #[], .pointer (some ⟨b0, 0, none⟩), .pointer (some ⟨b0 + 1, 0, none⟩)] W _; refine callsIn_of_wp Tryz.func422 rfl trivial ?_ rfl; simp only [Tryz.ntmps422, List.size_toArray, List.length_cons, List.length_nil, Nat.reduceAdd, Nat.reduceSub, Array.replicate_succ, Array.replicate_zero, List.push_toArray, List.append_toArray, List.nil_append, List.cons_append]; unfold maxLen at hc
 gi_wp2
 gi_loopw [4] (fun v wr => ∃ k i : Nat, i = k * 255 ∧ k ≤ chunkN m ∧ v = .int .i64 (i : Nat) ∧ J (List.range k) wr ∧ Blk wr b0 26 #[.slice A m c] ∧ Blk wr (b0 + 1) 3 #[.int .i64 255])
  (fun v _ => m + 255 - (intOf v).toNat)
 case atStart => exact ⟨0, 0, rfl, Nat.zero_le _, rfl, hJ0, h0, h1⟩
 case round =>
  obtain ⟨k, i, hi, hk, rfl, hj, k0, k1⟩ := hrel; have d0 := k0.cell 0; have d1 := k1.cell 0; by_cases hlt : i < m
  ·have hkl : k < chunkN m := (by unfold chunkN; omega)
   obtain ⟨g, o, rfl⟩ := hA (by omega); have hx := range_cut hkl; have hgd : wr.grownBy wr.drew (some b0) := ⟨rfl, rfl, rfl, Nat.le_refl _, fun _ _ _ => rfl⟩
   have hy := hY (List.range k) k _ wr.drew hx (hJ _ _ _ hj hgd); obtain ⟨fn, tmps, assign, body, hy, hR⟩ := hy; obtain ⟨q, hq⟩ : ∃ q, min 255 (m - i) = q := ⟨_, rfl⟩
   unfold chunkE at hy; rw [← hi] at hy; rw [hq] at hy; simp only [Option.map_some] at hy; have hqi : min (255 : Int) ((m - i : Nat) : Int) = (q : Int) := (by omega)
   have htn : ((i : Int) + (q : Int)).toNat - i = q := (by omega)
   have hqm : i + q ≤ m := (by omega)
   have hw1 : IntKind.i64.wrap ((i : Int) + (q : Int)) = (i : Int) + (q : Int) := (by rw [IntKind.wrap_i64]; omega)
   have hw2 : IntKind.i64.wrap ((i : Int) + 255) = (i : Int) + 255 := (by rw [IntKind.wrap_i64]; omega)
   clear hgd; have Hi := hide hi; have Hq := hide hq; clear hi hq
   gi_wp2
   gi_region
   gi_wp2
   refine hR.mono ?_; rintro e W3 (⟨rfl, hJ3, hk3⟩ | ⟨rfl, hJx3⟩)
   ·have k03 := hk3.blk (Nat.le_refl _) (by omega) k0.drew; have k13 := hk3.blk (by omega) (by omega) k1.drew; have d13 := k13.cell 0
    gi_wp2
    go_roundw
    case rel => exact ⟨k + 1, i + 255, by have := Hi.out; omega, by omega, by go_num, by rw [List.range_succ]; exact hJ3, k03, k13⟩
    case measure => simp [intOf]; omega
   ·gi_wp2
    refine bodyPost_ret (results_none rfl _ _ _) rfl ?_; exact ⟨⟨_, rfl⟩, .inr ⟨_, _, _, hx, hJx3⟩⟩
  ·have hkl : k = chunkN m := (by unfold chunkN at hk ⊢; omega)
   subst hkl
   gi_wp2
   go_end0
   exact ⟨⟨_, rfl⟩, .inl hj⟩
theorem Chunk_any (A : Option Addr) (m c : Nat) (w : World) : Calls Tryz.prog 394 #[.slice A m c, .int .i64 255] w fun e w' =>
  e = .returned (.func (.func 422) #[] #[.pointer (some ⟨w.heap.size, 0, none⟩), .pointer (some ⟨w.heap.size + 1, 0, none⟩)]) ∧
  w' = (w.alloc (.cells #[.slice A m c] 26)).alloc (.cells #[.int .i64 255] 3) := by
 go_enter Tryz.func394, Tryz.ntmps394
 go_wp2; go_ret; exact ⟨rfl, rfl⟩
end Go.Proofs.YtmffmkjgdjgmeaaGreat
namespace Go.Proofs.YtmffmkjgdjgmeaaGreat
open Go.RowKit Go.WideShapes Go.ChangeShapes
def nStep (s : List SG × List Nat) (x : SG) : List SG × List Nat := if x.k = 2 then (s.1, s.2 ++ x.r) else if x.k = 1 ∧ x.r ≠ [] then (s.1 ++ chunkS s.2 ++ [⟨1, setOf x.r⟩], []) else s
def nFold (l : List SG) : List SG × List Nat := l.foldl nStep ([], [])
theorem nStep_shut {s : List SG × List Nat} (h : shutS s.1) (x : SG) : shutS (nStep s x).1 := by
 unfold nStep; split
 ·exact h
 ·split
  ·exact shutS_set _ _
  ·exact h
theorem nStep_step {s : List SG × List Nat} (h : shutS s.1) (x : SG) : stepS (s.1 ++ chunkS s.2) x = (nStep s x).1 ++ chunkS (nStep s x).2 := by
 obtain ⟨k, r⟩ := x; unfold nStep; by_cases h2 : k = 2
 ·subst h2; rw [if_pos rfl]; exact stepS_run h _ _
 ·rw [if_neg h2]; by_cases h1 : k = 1 ∧ r ≠ []
  ·rw [if_pos h1]; obtain ⟨rfl, hr⟩ := h1; rw [stepS_set _ _ hr]; simp [chunkS]
  ·rw [if_neg h1]; refine stepS_none _ _ h2 ?_; by_cases h3 : k = 1
   ·right
    exact Classical.byContradiction fun hr => h1 ⟨h3, hr⟩
   ·exact .inl h3
theorem nFold_from (l : List SG) : ∀ s : List SG × List Nat, shutS s.1 → shutS (l.foldl nStep s).1 ∧ l.foldl stepS (s.1 ++ chunkS s.2) = (l.foldl nStep s).1 ++ chunkS (l.foldl nStep s).2 := by
 induction l with
 | nil => exact fun s h => ⟨h, rfl⟩
 | cons x l ih =>
  intro s h; rw [List.foldl_cons, List.foldl_cons, nStep_step h]; exact ih _ (nStep_shut h x)
theorem nFold_norm (l : List SG) : normS l = (nFold l).1 ++ chunkS (nFold l).2 := by
 have := (nFold_from l ([], []) shutS_nil).2; simpa [normS, nFold, chunkS] using this
theorem nFold_snoc (l : List SG) (i : Nat) (x : SG) (h : l[i]? = some x) : nFold (l.take (i + 1)) = nStep (nFold (l.take i)) x := by
 unfold nFold; rw [List.take_add_one, h]; simp [List.foldl_append]
def numS (l : List SG) : Nat := (l.map fun x => x.r.length).sum
theorem numS_take_le (l : List SG) (i : Nat) : numS (l.take i) ≤ numS l := by
 have e : l = l.take i ++ l.drop i := (List.take_append_drop i l).symm
 have : numS l = numS (l.take i) + numS (l.drop i) := by
  have h := congrArg numS e; rw [h]; unfold numS; rw [List.map_append, List.sum_append]
 omega
theorem numS_snoc (l : List SG) (i : Nat) (x : SG) (h : l[i]? = some x) : numS (l.take (i + 1)) = numS (l.take i) + x.r.length := by
 rw [List.take_add_one, h]; simp [numS]
theorem nFold_len (l : List SG) : (nFold l).1.length + (nFold l).2.length ≤ numS l := by
 have key : ∀ (l : List SG) (s : List SG × List Nat), (l.foldl nStep s).1.length + (l.foldl nStep s).2.length ≤ s.1.length + s.2.length + numS l := by
  intro l
  induction l with
  | nil => intro s; simp [numS]
  | cons x l ih =>
   intro s; have h1 := ih (nStep s x)
   have h2 : (nStep s x).1.length + (nStep s x).2.length ≤ s.1.length + s.2.length + x.r.length := by
    unfold nStep; split
    ·simp; omega
    ·split
     ·rename_i hx; have := chunkS_len s.2; have : 0 < x.r.length := List.length_pos_iff.2 hx.2
      simp; omega
     ·omega
   have h3 : numS (x :: l) = x.r.length + numS l := (by simp [numS])
   rw [List.foldl_cons]; omega
 simpa [nFold] using key l ([], [])
theorem normS_len (l : List SG) : (normS l).length ≤ numS l := by
 have h1 := nFold_len l; have h2 := chunkS_len (nFold l).2; rw [nFold_norm, List.length_append]; omega
theorem fr_apart {B B' : Nat} {ob : Option Nat} {R : World → Prop} {w : World} (h : FrB B' none R w) (hB : B ≤ B') (hob : ∀ g, ob = some g → g < B') : FrB B ob R w := fun w2 h2 =>
 h w2 ⟨h2.1, fun k o hk h1 hc _ => h2.2 k o (Nat.le_trans hB hk) h1 hc (fun e => by have := hob k e.symm; omega)⟩
theorem low_chunks {α : Type} {sz : Nat} {R : World → List Value → α → Prop} {w : World} {A : Option Addr} {n c B B' : Nat} {l : List α} {t : TypeId} {xs : List Value} (h : LOw sz t R w B B' A n c l xs) {B1 : Nat} {ob : Option Nat} (hB : B1 ≤ B') (hob : ∀ g, ob = some g → g < B') :
  Chunks sz (fun w vs x => FrB B1 ob (fun w => R w vs x) w) w xs l := ⟨h.2.1, fun k x hk => fr_apart (h.2.2 k x hk).none_ hB hob⟩
end Go.Proofs.YtmffmkjgdjgmeaaGreat
namespace Go.Proofs.YtmffmkjgdjgmeaaGreat
open Go.RowKit Go.WideShapes Go.ChangeShapes
attribute [local go_sem] Oper.semAt_some
theorem reads_blkN {w : World} {g B n sz : Nat} {t : TypeId} {cs : Array Value} {xs : List Value} (h : Blk w g t cs) (hB : g < B) (hx : cs.toList = xs) (hn : xs.length = n * sz) : Reads w B sz (some ⟨g, 0, none⟩) n xs :=
  ⟨hn, fun _ => ⟨_, rfl, hB, fun j u hu => by
    have e : (⟨g, 0, none⟩ : Addr).add j = ⟨g, j, none⟩ := by unfold Addr.add; split <;> simp_all
    rw [e, h.cell j, ← hu, ← hx]; simp⟩⟩
theorem own_block_lt {w : World} {base n size : Nat} {e : TypeId} {v : Value} {xs : List Value} (h : w.ownsRow base e size v n xs) : ∀ k, v.ownBlock = some k → k < w.heap.size := by
 intro k hk; rcases h.2 with ⟨rfl, _⟩ | ⟨g, cap, cur, rfl, hb, hh, _⟩
 ·simp [Value.ownBlock] at hk
 ·have : g = k := (by simpa [Value.ownBlock] using hk)
  subst this; exact (Array.getElem?_eq_some_iff.1 hh).1
end Go.Proofs.YtmffmkjgdjgmeaaGreat
namespace Go.Proofs.YtmffmkjgdjgmeaaGreat
open Go.RowKit Go.Sort
set_option maxHeartbeats 1000000 in
theorem cmp_isNaN_u32 (x : Int) (w : World) : Calls Tryz.prog 370 #[.int .u32 x] w fun e w' => e = .returned (.bool false) ∧ w' = w := by
 go_enter Tryz.func370, Tryz.ntmps370
 go_wp2; go_ret; exact ⟨by simp, rfl⟩
set_option maxHeartbeats 1000000 in
theorem cmp_Less_u32 (x y : Int) (w : World) : Calls Tryz.prog 440 #[.int .u32 x, .int .u32 y] w fun e w' => e = .returned (.bool (Sort.ltInt x y)) ∧ w' = w := by
 go_enter Tryz.func440, Tryz.ntmps440
 go_wp2_with (go_at_call 370; refine (cmp_isNaN_u32 _ _).mono ?_; rintro e w' ⟨rfl, rfl⟩)
 go_ret; exact ⟨rfl, rfl⟩
theorem insertionSort_u32 (blk off cap a b : Nat) (d : Array Int) (w : World) (hH : Holds (Value.int .u32) w blk off d) (hab : a ≤ b) (hb : b ≤ d.size) (hsz : d.size < 4611686018427387904) :
    Calls Tryz.prog 434 #[.slice (some ⟨blk, off, none⟩) d.size cap, .int .i64 a, .int .i64 b] w fun e w' =>
      e = .returned (.tuple #[]) ∧ ∃ n, w' = putRow (Value.int .u32) (Sort.ahead w n) blk off (Sort.insertionSort ltInt d a b) := by
  go_enter Tryz.func434, Tryz.ntmps434
  go_wp2
  go_loopw [6] (fun vi wr => ∃ (i n : Nat) (dk : Array Int), vi = .int .i64 i ∧ a < i ∧ i ≤ b + 1 ∧ dk.size = d.size ∧ wr = putRow (Value.int .u32) (Sort.ahead w n) blk off dk ∧
      insOuter ltInt a b i dk = insOuter ltInt a b (a + 1) d) (fun vi _ => b + 1 - (intOf vi).toNat)
  case atStart => exact ⟨a + 1, 0, d, by go_num, by omega, by omega, rfl, (putRow_self _ _ _ _ _ hH).symm, rfl⟩
  case round =>
    obtain ⟨i, n, dk, rfl, hai, hib, hsk, hwr, hO⟩ := hrel; have HO : Hid (insOuter ltInt a b i dk = insOuter ltInt a b (a + 1) d) := hO; clear hO; go_wp2
    ·
      go_loopw [7] (fun vj wr2 => ∃ (j m : Nat) (dj : Array Int), vj = .int .i64 j ∧ a ≤ j ∧ j ≤ i ∧ dj.size = d.size ∧ wr2 = putRow (Value.int .u32) (Sort.ahead w m) blk off dj ∧
          insInner ltInt a j dj = insInner ltInt a i dk) (fun vj _ => (intOf vj).toNat)
      case atStart => exact ⟨i, n, dk, rfl, by omega, Nat.le_refl _, hsk, rfl, rfl⟩
      case round =>
        obtain ⟨j, m, dj, rfl, haj, hji, hsj, hw2, hI⟩ := hrel; have hlt : i < b := (by assumption)
        obtain ⟨G, hG⟩ : ∃ G : Nat → Int, ∀ t, G t = dj[t]! := ⟨fun t => dj[t]!, fun _ => rfl⟩
        have hcw : ∀ t, t < d.size → wr.cell? ⟨blk, off + t, none⟩ = some (.int .u32 (G t)) := fun t ht => by
          rw [hw2, hG]; exact cell?_putRow _ _ _ _ d dj (holds_ahead _ _ _ _ _ _ hH) hsj t (by omega)
        have hfw : ∀ t, t < d.size → wr.frozen? ⟨blk, off + t, none⟩ = false := fun t ht => by
          rw [hw2, frozen?_putRow]; exact ((holds_ahead _ _ m _ _ _ hH) t ht).2
        have HW : Hid (wr = putRow (Value.int .u32) (Sort.ahead w m) blk off dj) := hw2; have HG : Hid (∀ t, G t = dj[t]!) := hG; have HI : Hid (insInner ltInt a j dj = insInner ltInt a i dk) := hI; clear hw2 hG hI hH
        have out : (j ≤ a ∨ ltInt dj[j]! dj[j - 1]! = false) → ∀ q, ∃ i' n' dk', Value.int .i64 ((i : Int) + 1) = .int .i64 (i' : Nat) ∧ a < i' ∧ i' ≤ b + 1 ∧ dk'.size = d.size ∧
            wr.drewN q = putRow (Value.int .u32) (Sort.ahead w n') blk off dk' ∧ insOuter ltInt a b i' dk' = insOuter ltInt a b (a + 1) d := fun hs q =>
          ⟨i + 1, m + q, dj, by go_num, by omega, by omega, hsj, by rw [HW.out]; exact putRow_drewN _ _ _ _ _ _ _,
            by rw [← HO.out, insOuter_go _ _ _ _ _ hlt, ← HI.out, insInner_stop _ _ _ _ hs]⟩
        have OUT : Hid _ := out; clear out; go_wp2; by_cases hja : a < j
        · go_quiet (first | (go_at_call 440; refine Calls.quiet_of_same (cmp_Less_u32 _ _ _)))
          go_wp2
          ·
            have hl : ltInt (G j) (G (j - 1)) = true := (by assumption)
            go_region
            all_goals go_wp2
            go_roundw
            case rel =>
              refine ⟨j - 1, m + (nq + 1), swp dj j (j - 1), by congr 1; omega, by omega, by omega, by rw [size_swp]; exact hsj, ?_, ?_⟩
              · rw [HW.out, HG.out, HG.out]; exact swap_worldA _ w m (nq + 1) blk off dj j (j - 1) (by omega) (by omega)
              · rw [← HI.out, insInner_go ltInt a j dj hja (by rw [← HG.out, ← HG.out]; exact hl)]
            case measure => simp [intOf]; omega
          ·
            have hl : ltInt (G j) (G (j - 1)) = false := (by assumption)
            go_roundw
            case rel => exact OUT.out (Or.inr (by rw [← HG.out, ← HG.out]; exact hl)) nq
            case measure => simp [intOf]; omega
        · go_quiet (first | (go_at_call 440; refine Calls.quiet_of_same (cmp_Less_u32 _ _ _)))
          go_wp2
          go_roundw
          case rel => exact OUT.out (Or.inl (by omega)) nq
          case measure => simp [intOf]; omega
    ·
      have hge : ¬ i < b := (by assumption)
      go_end0
      exact ⟨rfl, n, by unfold Sort.insertionSort; rw [← HO.out, insOuter_stop _ _ _ _ _ hge]⟩
abbrev encU : Int → Value := fun x => Value.int .u32 x
set_option maxHeartbeats 1600000 in
set_option maxRecDepth 1000000 in
theorem reverseRange_u32 (blk off cap : Nat) (d : Array Int) (a b : Nat) (w : World) (hH : Holds encU w blk off d) (hab : a ≤ b) (hb : b ≤ d.size) (hsz : d.size < 4611686018427387904) :
    Calls Tryz.prog 438 #[.slice (some ⟨blk, off, none⟩) d.size cap, .int .i64 a, .int .i64 b] w fun e w' => e = .returned (.tuple #[]) ∧ ∃ n, w' = putRow encU (Sort.ahead w n) blk off (reverseRange d a b) := by
  go_enter Tryz.func438, Tryz.ntmps438
  go_wp2
  go_loopg [6, 7] (b - a) (fun k s6 s7 wr => ∃ (i jn : Nat) (jz : Int) (dk : Array Int) (n : Nat), s6 = .int .i64 i ∧ s7 = .int .i64 jz ∧ ((i : Int) < jz → jz = jn ∧ jn < d.size) ∧ (¬ (i : Int) < jz → ¬ i < jn) ∧ jn - i ≤ k ∧
    dk.size = d.size ∧ wr = putRow encU (Sort.ahead w n) blk off dk ∧ reverseLoop i jn dk = reverseLoop a (b - 1) d)
  case atStart => exact ⟨a, b - 1, (b : Int) - 1, d, 0, rfl, rfl, fun h => ⟨by omega, by omega⟩, fun h => by omega, by omega, rfl, (putRow_self encU w blk off d hH).symm, rfl⟩
  case round =>
    obtain ⟨i, jn, jz, dk, n, rfl, rfl, h1, h2, hk, hds, hwr, heq⟩ := hrel; by_cases hlt : (i : Int) < jz
    · obtain ⟨rfl, hjn⟩ := h1 hlt; have hij : i < jn := (by omega)
      have hHk : Holds encU wr blk off dk := (by rw [hwr]; exact holds_putRow encU _ blk off d dk (holds_ahead encU w n blk off d hH) hds)
      obtain ⟨ci, fi⟩ := hHk i (by omega); obtain ⟨cj, fj⟩ := hHk jn (by omega); have A : Aside (wr = putRow encU (Sort.ahead w n) blk off dk) := hwr; clear hwr hHk hH h1 h2
      go_wp2_with fail
      go_region
      go_wp2
      go_roundg (jn - 1 - (i + 1))
      case measure => omega
      case rel =>
        rw [reverseLoop, if_pos hij] at heq
        exact ⟨i + 1, jn - 1, (jn : Int) - 1, swp dk i jn, n + 1, by simp, rfl, fun h => ⟨by omega, by omega⟩, fun h => by omega, Nat.le_refl _, by rw [size_swp]; exact hds,
          swap_world encU (by omega) (by omega) A.out (by simp [encU, getElem!_pos, show jn < dk.size by omega]) rfl, heq⟩
    · have hnot := h2 hlt; go_wp2
      go_end0
      refine ⟨rfl, n, ?_⟩; rw [reverseLoop, if_neg hnot] at heq; rw [reverseRange, ← heq]
set_option maxHeartbeats 1600000 in
set_option maxRecDepth 100000 in
theorem partialInsertionSort_u32 (blk off cap a b : Nat) (d : Array Int) (w : World) (hH : Holds (Value.int .u32) w blk off d) (hab : a < b) (hb : b ≤ d.size) (hsz : d.size < 4611686018427387904) :
    Calls Tryz.prog 439 #[.slice (some ⟨blk, off, none⟩) d.size cap, .int .i64 a, .int .i64 b] w fun e w' =>
      e = .returned (.bool (Sort.partialInsertionSort ltInt d a b).2) ∧ ∃ n, w' = putRow (Value.int .u32) (Sort.ahead w n) blk off (Sort.partialInsertionSort ltInt d a b).1 := by
  have HH : Hid (Holds (Value.int .u32) w blk off d) := hH; have HST : Hid (w = putRow (Value.int .u32) (Sort.ahead w 0) blk off d) := (putRow_self _ _ _ _ _ hH).symm; clear hH
  go_enter Tryz.func439, Tryz.ntmps439
  go_wp2
  go_loopw [7, 8] (fun vi vs wr => ∃ (i s n : Nat) (dk : Array Int), vi = .int .i64 i ∧ vs = .int .i64 s ∧ s ≤ 5 ∧ a < i ∧ i ≤ b ∧ dk.size = d.size ∧ wr = putRow (Value.int .u32) (Sort.ahead w n) blk off dk ∧
      partialIns ltInt a b (5 - s) i dk = partialIns ltInt a b 5 (a + 1) d) (fun _ vs _ => 5 - (intOf vs).toNat)
  case atStart => exact ⟨a + 1, 0, 0, d, by go_num, rfl, by omega, by omega, by omega, rfl, HST.out, rfl⟩
  case round =>
    obtain ⟨i, s, n, dk, rfl, rfl, hs5, hai, hib, hsk, hwr, hO⟩ := hrel; have HO : Hid (partialIns ltInt a b (5 - s) i dk = partialIns ltInt a b 5 (a + 1) d) := hO; clear hO; go_wp2
    ·
      have hs : s < 5 := (by omega)
      go_loopw [7] (fun vi wr2 => ∃ (k m : Nat), vi = .int .i64 k ∧ i ≤ k ∧ k ≤ b ∧ wr2 = putRow (Value.int .u32) (Sort.ahead w m) blk off dk ∧ scanSorted ltInt dk b k = scanSorted ltInt dk b i) (fun vi _ => b - (intOf vi).toNat)
      case atStart => exact ⟨i, n, rfl, Nat.le_refl _, hib, rfl, rfl⟩
      case round =>
        obtain ⟨k, m, rfl, hik, hkb, hw2, hS⟩ := hrel; obtain ⟨G, hG⟩ : ∃ G : Nat → Int, ∀ t, G t = dk[t]! := ⟨fun t => dk[t]!, fun _ => rfl⟩
        have hcw : ∀ t, t < d.size → wr.cell? ⟨blk, off + t, none⟩ = some (.int .u32 (G t)) := fun t ht => by
          rw [hw2, hG]; exact cell?_putRow _ _ _ _ d dk (holds_ahead _ _ _ _ _ _ HH.out) hsk t (by omega)
        have hfw : ∀ t, t < d.size → wr.frozen? ⟨blk, off + t, none⟩ = false := fun t ht => by
          rw [hw2, frozen?_putRow]; exact ((holds_ahead _ _ m _ _ _ HH.out) t ht).2
        have HW : Hid (wr = putRow (Value.int .u32) (Sort.ahead w m) blk off dk) := hw2; have HG : Hid (∀ t, G t = dk[t]!) := hG; have HS : Hid (scanSorted ltInt dk b k = scanSorted ltInt dk b i) := hS; clear hw2 hG hS; go_wp2; by_cases hkb' : k < b
        · go_quiet (first | (go_at_call 440; refine Calls.quiet_of_same (cmp_Less_u32 _ _ _)))
          go_wp2
          all_goals first
            | (at_end
               have hl : ltInt (G k) (G (k - 1)) = false := by
                 have h : (!ltInt (G k) (G (k - 1))) = true := (by assumption)
                 simpa using h
               go_roundw
               case rel => exact ⟨k + 1, m + nq, by go_num, by omega, by omega, by rw [HW.out]; exact putRow_drewN _ _ _ _ _ _ _, by rw [← HS.out, scanSorted_go ltInt dk b k hkb' (by rw [← HG.out, ← HG.out]; exact hl)]⟩
               case measure => simp [intOf]; omega)
            | (have hl : ltInt (G k) (G (k - 1)) = true := by
                 have h : (!ltInt (G k) (G (k - 1))) = false := (by assumption)
                 simpa using h
               have HK : Hid (scanSorted ltInt dk b i = k) := by
                 show scanSorted ltInt dk b i = k; rw [← HS.out, scanSorted_stop ltInt dk b k (Or.inr (by rw [← HG.out, ← HG.out]; exact hl))]
               first
                 | (at_ret
                    have hv : Sort.partialInsertionSort ltInt d a b = (dk, false) := by
                      unfold Sort.partialInsertionSort; rw [← HO.out, pi_short ltInt a b s i dk hs (by rw [HK.out]; omega) (by omega)]
                    rw [hv]; go_ret; exact ⟨rfl, m + nq, by rw [HW.out]; exact putRow_drewN _ _ _ _ _ _ _⟩)
                 | (at_region 11
                    have h50 : ¬ b - a < 50 := (by omega)
                    go_region
                    have hsw : ((wr.drewN (nq + 1)).setCell ⟨blk, off + k, none⟩ (.int .u32 (G (k - 1)))).setCell ⟨blk, off + (k - 1), none⟩ (.int .u32 (G k)) = putRow (Value.int .u32) (Sort.ahead w (m + (nq + 1))) blk off (swp dk k (k - 1)) := by
                      rw [HW.out, HG.out, HG.out]; exact swap_worldA _ w m (nq + 1) blk off dk k (k - 1) (by omega) (by omega)
                    have hs1 : (swp dk k (k - 1)).size = d.size := (by rw [size_swp]; exact hsk)
                    go_wp2
                    all_goals first
                      | (at_loop
                         have hka : k - a ≥ 2 := (by omega)
                         go_loopw [9] (fun vj wr2 => ∃ (j m2 : Nat) (dj : Array Int), vj = .int .i64 j ∧ j ≤ k - 1 ∧ dj.size = d.size ∧ wr2 = putRow (Value.int .u32) (Sort.ahead w m2) blk off dj ∧
                             shiftDown ltInt j dj = shiftDown ltInt (k - 1) (swp dk k (k - 1))) (fun vj _ => (intOf vj).toNat)
                         case atStart => exact ⟨k - 1, _, (swp dk k (k - 1)), by congr 1; omega, Nat.le_refl _, hs1, rfl, rfl⟩
                         case round =>
                           obtain ⟨j, m2, dj, rfl, hjk, hsj, hw2, hDn⟩ := hrel; obtain ⟨G, hG⟩ : ∃ G : Nat → Int, ∀ t, G t = dj[t]! := ⟨fun t => dj[t]!, fun _ => rfl⟩
                           have hcw : ∀ t, t < d.size → wr.cell? ⟨blk, off + t, none⟩ = some (.int .u32 (G t)) := fun t ht => by
                             rw [hw2, hG]; exact cell?_putRow _ _ _ _ d dj (holds_ahead _ _ _ _ _ _ HH.out) hsj t (by omega)
                           have hfw : ∀ t, t < d.size → wr.frozen? ⟨blk, off + t, none⟩ = false := fun t ht => by
                             rw [hw2, frozen?_putRow]; exact ((holds_ahead _ _ m2 _ _ _ HH.out) t ht).2
                           have HW : Hid (wr = putRow (Value.int .u32) (Sort.ahead w m2) blk off dj) := hw2; have HG : Hid (∀ t, G t = dj[t]!) := hG; have HDn : Hid (shiftDown ltInt j dj = shiftDown ltInt (k - 1) (swp dk k (k - 1))) := hDn; clear hw2 hG hDn hsw; go_wp2
                           all_goals first
                             | (at_region 16
                                go_quiet (first | (go_at_call 440; refine Calls.quiet_of_same (cmp_Less_u32 _ _ _)))
                                go_wp2
                                all_goals first
                                  | (at_region 17
                                     have hl : ltInt (G j) (G (j - 1)) = true := by
                                       have h : (!ltInt (G j) (G (j - 1))) = false := (by assumption)
                                       simpa using h
                                     go_region
                                     all_goals go_wp2
                                     go_roundw
                                     case rel =>
                                       refine ⟨j - 1, m2 + (nq + 1), swp dj j (j - 1), by congr 1; omega, by omega, by rw [size_swp]; exact hsj, ?_, ?_⟩
                                       · rw [HW.out, HG.out, HG.out]; exact swap_worldA _ w m2 (nq + 1) blk off dj j (j - 1) (by omega) (by omega)
                                       · rw [← HDn.out, shiftDown_go ltInt j dj (by omega) (by rw [← HG.out, ← HG.out]; exact hl)]
                                     case measure => simp [intOf]; omega)
                                  | (-- break
                                     have hl : ltInt (G j) (G (j - 1)) = false := by
                                       have h : (!ltInt (G j) (G (j - 1))) = true := (by assumption)
                                       simpa using h
                                     have HD : Hid (fixDown ltInt a k (swp dk k (k - 1)) = dj) := by
                                       show fixDown ltInt a k (swp dk k (k - 1)) = dj; unfold fixDown; rw [if_pos hka, ← HDn.out, shiftDown_stop ltInt j dj (Or.inr (by rw [← HG.out, ← HG.out]; exact hl))]
                                     first
                                       | (at_end
                                          go_roundw
                                          case rel =>
                                            refine ⟨k, s + 1, _, dj, rfl, by go_num, by omega, by omega, by omega, hsj, (by first | rfl | exact HW.out | (rw [HW.out]; exact putRow_drewN _ _ _ _ _ _ _)), ?_⟩; rw [← HO.out, pi_go ltInt a b s i k dk hs HK.out (by omega) (by omega), HD.out, show fixUp ltInt b k dj = dj from by unfold fixUp; rw [if_neg (by omega)]]
                                          case measure => simp [intOf]; omega)
                                       | (at_loop
                                          go_loopw [10] (fun vj wr2 => ∃ (j m3 : Nat) (du : Array Int), vj = .int .i64 j ∧ k + 1 ≤ j ∧ j ≤ b ∧ du.size = d.size ∧ wr2 = putRow (Value.int .u32) (Sort.ahead w m3) blk off du ∧
                                              shiftUp ltInt b j du = shiftUp ltInt b (k + 1) dj) (fun vj _ => b - (intOf vj).toNat)
                                          case atStart => exact ⟨k + 1, _, dj, by go_num, Nat.le_refl _, by omega, hsj, (by first | rfl | exact HW.out | (rw [HW.out]; exact putRow_drewN _ _ _ _ _ _ _)), rfl⟩
                                          case round =>
                                            obtain ⟨j, m3, du, rfl, hkj, hjb, hsu, hw3, hU⟩ := hrel; obtain ⟨G, hG⟩ : ∃ G : Nat → Int, ∀ t, G t = du[t]! := ⟨fun t => du[t]!, fun _ => rfl⟩
                                            have hcw : ∀ t, t < d.size → wr.cell? ⟨blk, off + t, none⟩ = some (.int .u32 (G t)) := fun t ht => by
                                              rw [hw3, hG]; exact cell?_putRow _ _ _ _ d du (holds_ahead _ _ _ _ _ _ HH.out) hsu t (by omega)
                                            have hfw : ∀ t, t < d.size → wr.frozen? ⟨blk, off + t, none⟩ = false := fun t ht => by
                                              rw [hw3, frozen?_putRow]; exact ((holds_ahead _ _ m3 _ _ _ HH.out) t ht).2
                                            have HW : Hid (wr = putRow (Value.int .u32) (Sort.ahead w m3) blk off du) := hw3; have HG : Hid (∀ t, G t = du[t]!) := hG; have HU : Hid (shiftUp ltInt b j du = shiftUp ltInt b (k + 1) dj) := hU; clear hw3 hG hU; go_wp2
                                            all_goals first
                                              | (at_region 22
                                                 go_quiet (first | (go_at_call 440; refine Calls.quiet_of_same (cmp_Less_u32 _ _ _)))
                                                 go_wp2
                                                 all_goals first
                                                   | (at_region 23
                                                      have hl : ltInt (G j) (G (j - 1)) = true := by
                                                        have h : (!ltInt (G j) (G (j - 1))) = false := (by assumption)
                                                        simpa using h
                                                      go_region
                                                      all_goals go_wp2
                                                      go_roundw
                                                      case rel =>
                                                        refine ⟨j + 1, m3 + (nq + 1), swp du j (j - 1), by go_num, by omega, by omega, by rw [size_swp]; exact hsu, ?_, ?_⟩
                                                        · rw [HW.out, HG.out, HG.out]; exact swap_worldA _ w m3 (nq + 1) blk off du j (j - 1) (by omega) (by omega)
                                                        · rw [← HU.out, shiftUp_go ltInt b j du (by omega) (by rw [← HG.out, ← HG.out]; exact hl)]
                                                      case measure => simp [intOf]; omega)
                                                   | (at_end
                                                      have hl : ltInt (G j) (G (j - 1)) = false := by
                                                        have h : (!ltInt (G j) (G (j - 1))) = true := (by assumption)
                                                        simpa using h
                                                      go_roundw
                                                      case rel =>
                                                        refine ⟨k, s + 1, _, du, rfl, by go_num, by omega, by omega, by omega, hsu, (by first | rfl | exact HW.out | (rw [HW.out]; exact putRow_drewN _ _ _ _ _ _ _)), ?_⟩; rw [← HO.out, pi_go ltInt a b s i k dk hs HK.out (by omega) (by omega), HD.out, show fixUp ltInt b k dj = du from by unfold fixUp; rw [if_pos (by omega), ← HU.out, shiftUp_stop ltInt b j du (Or.inr (by rw [← HG.out, ← HG.out]; exact hl))]]
                                                      case measure => simp [intOf]; omega))
                                              | (at_end
                                                 go_roundw
                                                 case rel =>
                                                   refine ⟨k, s + 1, _, du, rfl, by go_num, by omega, by omega, by omega, hsu, (by first | rfl | exact HW.out | (rw [HW.out]; exact putRow_drewN _ _ _ _ _ _ _)), ?_⟩; rw [← HO.out, pi_go ltInt a b s i k dk hs HK.out (by omega) (by omega), HD.out, show fixUp ltInt b k dj = du from by unfold fixUp; rw [if_pos (by omega), ← HU.out, shiftUp_stop ltInt b j du (Or.inl (by omega))]]
                                                 case measure => simp [intOf]; omega))))
                             | (-- j < 1
                                have HD : Hid (fixDown ltInt a k (swp dk k (k - 1)) = dj) := by
                                  show fixDown ltInt a k (swp dk k (k - 1)) = dj; unfold fixDown; rw [if_pos hka, ← HDn.out, shiftDown_stop ltInt j dj (Or.inl (by omega))]
                                first
                                  | (at_end
                                     go_roundw
                                     case rel =>
                                       refine ⟨k, s + 1, _, dj, rfl, by go_num, by omega, by omega, by omega, hsj, (by first | rfl | exact HW.out | (rw [HW.out]; exact putRow_drewN _ _ _ _ _ _ _)), ?_⟩; rw [← HO.out, pi_go ltInt a b s i k dk hs HK.out (by omega) (by omega), HD.out, show fixUp ltInt b k dj = dj from by unfold fixUp; rw [if_neg (by omega)]]
                                     case measure => simp [intOf]; omega)
                                  | (at_loop
                                     go_loopw [10] (fun vj wr2 => ∃ (j m3 : Nat) (du : Array Int), vj = .int .i64 j ∧ k + 1 ≤ j ∧ j ≤ b ∧ du.size = d.size ∧ wr2 = putRow (Value.int .u32) (Sort.ahead w m3) blk off du ∧
                                         shiftUp ltInt b j du = shiftUp ltInt b (k + 1) dj) (fun vj _ => b - (intOf vj).toNat)
                                     case atStart => exact ⟨k + 1, _, dj, by go_num, Nat.le_refl _, by omega, hsj, (by first | rfl | exact HW.out | (rw [HW.out]; exact putRow_drewN _ _ _ _ _ _ _)), rfl⟩
                                     case round =>
                                       obtain ⟨j, m3, du, rfl, hkj, hjb, hsu, hw3, hU⟩ := hrel; obtain ⟨G, hG⟩ : ∃ G : Nat → Int, ∀ t, G t = du[t]! := ⟨fun t => du[t]!, fun _ => rfl⟩
                                       have hcw : ∀ t, t < d.size → wr.cell? ⟨blk, off + t, none⟩ = some (.int .u32 (G t)) := fun t ht => by
                                         rw [hw3, hG]; exact cell?_putRow _ _ _ _ d du (holds_ahead _ _ _ _ _ _ HH.out) hsu t (by omega)
                                       have hfw : ∀ t, t < d.size → wr.frozen? ⟨blk, off + t, none⟩ = false := fun t ht => by
                                         rw [hw3, frozen?_putRow]; exact ((holds_ahead _ _ m3 _ _ _ HH.out) t ht).2
                                       have HW : Hid (wr = putRow (Value.int .u32) (Sort.ahead w m3) blk off du) := hw3; have HG : Hid (∀ t, G t = du[t]!) := hG; have HU : Hid (shiftUp ltInt b j du = shiftUp ltInt b (k + 1) dj) := hU; clear hw3 hG hU; go_wp2
                                       all_goals first
                                         | (at_region 22
                                            go_quiet (first | (go_at_call 440; refine Calls.quiet_of_same (cmp_Less_u32 _ _ _)))
                                            go_wp2
                                            all_goals first
                                              | (at_region 23
                                                 have hl : ltInt (G j) (G (j - 1)) = true := by
                                                   have h : (!ltInt (G j) (G (j - 1))) = false := (by assumption)
                                                   simpa using h
                                                 go_region
                                                 all_goals go_wp2
                                                 go_roundw
                                                 case rel =>
                                                   refine ⟨j + 1, m3 + (nq + 1), swp du j (j - 1), by go_num, by omega, by omega, by rw [size_swp]; exact hsu, ?_, ?_⟩
                                                   · rw [HW.out, HG.out, HG.out]; exact swap_worldA _ w m3 (nq + 1) blk off du j (j - 1) (by omega) (by omega)
                                                   · rw [← HU.out, shiftUp_go ltInt b j du (by omega) (by rw [← HG.out, ← HG.out]; exact hl)]
                                                 case measure => simp [intOf]; omega)
                                              | (at_end
                                                 have hl : ltInt (G j) (G (j - 1)) = false := by
                                                   have h : (!ltInt (G j) (G (j - 1))) = true := (by assumption)
                                                   simpa using h
                                                 go_roundw
                                                 case rel =>
                                                   refine ⟨k, s + 1, _, du, rfl, by go_num, by omega, by omega, by omega, hsu, (by first | rfl | exact HW.out | (rw [HW.out]; exact putRow_drewN _ _ _ _ _ _ _)), ?_⟩; rw [← HO.out, pi_go ltInt a b s i k dk hs HK.out (by omega) (by omega), HD.out, show fixUp ltInt b k dj = du from by unfold fixUp; rw [if_pos (by omega), ← HU.out, shiftUp_stop ltInt b j du (Or.inr (by rw [← HG.out, ← HG.out]; exact hl))]]
                                                 case measure => simp [intOf]; omega))
                                         | (at_end
                                            go_roundw
                                            case rel =>
                                              refine ⟨k, s + 1, _, du, rfl, by go_num, by omega, by omega, by omega, hsu, (by first | rfl | exact HW.out | (rw [HW.out]; exact putRow_drewN _ _ _ _ _ _ _)), ?_⟩; rw [← HO.out, pi_go ltInt a b s i k dk hs HK.out (by omega) (by omega), HD.out, show fixUp ltInt b k dj = du from by unfold fixUp; rw [if_pos (by omega), ← HU.out, shiftUp_stop ltInt b j du (Or.inl (by omega))]]
                                            case measure => simp [intOf]; omega))))
                      | (-- i - a < 2
                         have HD : Hid (fixDown ltInt a k (swp dk k (k - 1)) = (swp dk k (k - 1))) := by
                           show fixDown ltInt a k (swp dk k (k - 1)) = (swp dk k (k - 1))
                           unfold fixDown; rw [if_neg (by omega)]
                         first
                           | (at_end
                              go_roundw
                              case rel =>
                                refine ⟨k, s + 1, _, (swp dk k (k - 1)), rfl, by go_num, by omega, by omega, by omega, hs1, (by first | rfl | exact HW.out | (rw [HW.out]; exact putRow_drewN _ _ _ _ _ _ _)), ?_⟩; rw [← HO.out, pi_go ltInt a b s i k dk hs HK.out (by omega) (by omega), HD.out, show fixUp ltInt b k (swp dk k (k - 1)) = (swp dk k (k - 1)) from by unfold fixUp; rw [if_neg (by omega)]]
                              case measure => simp [intOf]; omega)
                           | (at_loop
                              go_loopw [10] (fun vj wr2 => ∃ (j m3 : Nat) (du : Array Int), vj = .int .i64 j ∧ k + 1 ≤ j ∧ j ≤ b ∧ du.size = d.size ∧ wr2 = putRow (Value.int .u32) (Sort.ahead w m3) blk off du ∧
                                  shiftUp ltInt b j du = shiftUp ltInt b (k + 1) (swp dk k (k - 1))) (fun vj _ => b - (intOf vj).toNat)
                              case atStart => exact ⟨k + 1, _, (swp dk k (k - 1)), by go_num, Nat.le_refl _, by omega, hs1, (by first | rfl | exact HW.out | (rw [HW.out]; exact putRow_drewN _ _ _ _ _ _ _)), rfl⟩
                              case round =>
                                obtain ⟨j, m3, du, rfl, hkj, hjb, hsu, hw3, hU⟩ := hrel; obtain ⟨G, hG⟩ : ∃ G : Nat → Int, ∀ t, G t = du[t]! := ⟨fun t => du[t]!, fun _ => rfl⟩
                                have hcw : ∀ t, t < d.size → wr.cell? ⟨blk, off + t, none⟩ = some (.int .u32 (G t)) := fun t ht => by
                                  rw [hw3, hG]; exact cell?_putRow _ _ _ _ d du (holds_ahead _ _ _ _ _ _ HH.out) hsu t (by omega)
                                have hfw : ∀ t, t < d.size → wr.frozen? ⟨blk, off + t, none⟩ = false := fun t ht => by
                                  rw [hw3, frozen?_putRow]; exact ((holds_ahead _ _ m3 _ _ _ HH.out) t ht).2
                                have HW : Hid (wr = putRow (Value.int .u32) (Sort.ahead w m3) blk off du) := hw3; have HG : Hid (∀ t, G t = du[t]!) := hG; have HU : Hid (shiftUp ltInt b j du = shiftUp ltInt b (k + 1) (swp dk k (k - 1))) := hU; clear hw3 hG hU; go_wp2
                                all_goals first
                                  | (at_region 22
                                     go_quiet (first | (go_at_call 440; refine Calls.quiet_of_same (cmp_Less_u32 _ _ _)))
                                     go_wp2
                                     all_goals first
                                       | (at_region 23
                                          have hl : ltInt (G j) (G (j - 1)) = true := by
                                            have h : (!ltInt (G j) (G (j - 1))) = false := (by assumption)
                                            simpa using h
                                          go_region
                                          all_goals go_wp2
                                          go_roundw
                                          case rel =>
                                            refine ⟨j + 1, m3 + (nq + 1), swp du j (j - 1), by go_num, by omega, by omega, by rw [size_swp]; exact hsu, ?_, ?_⟩
                                            · rw [HW.out, HG.out, HG.out]; exact swap_worldA _ w m3 (nq + 1) blk off du j (j - 1) (by omega) (by omega)
                                            · rw [← HU.out, shiftUp_go ltInt b j du (by omega) (by rw [← HG.out, ← HG.out]; exact hl)]
                                          case measure => simp [intOf]; omega)
                                       | (at_end
                                          have hl : ltInt (G j) (G (j - 1)) = false := by
                                            have h : (!ltInt (G j) (G (j - 1))) = true := (by assumption)
                                            simpa using h
                                          go_roundw
                                          case rel =>
                                            refine ⟨k, s + 1, _, du, rfl, by go_num, by omega, by omega, by omega, hsu, (by first | rfl | exact HW.out | (rw [HW.out]; exact putRow_drewN _ _ _ _ _ _ _)), ?_⟩; rw [← HO.out, pi_go ltInt a b s i k dk hs HK.out (by omega) (by omega), HD.out, show fixUp ltInt b k (swp dk k (k - 1)) = du from by unfold fixUp; rw [if_pos (by omega), ← HU.out, shiftUp_stop ltInt b j du (Or.inr (by rw [← HG.out, ← HG.out]; exact hl))]]
                                          case measure => simp [intOf]; omega))
                                  | (at_end
                                     go_roundw
                                     case rel =>
                                       refine ⟨k, s + 1, _, du, rfl, by go_num, by omega, by omega, by omega, hsu, (by first | rfl | exact HW.out | (rw [HW.out]; exact putRow_drewN _ _ _ _ _ _ _)), ?_⟩; rw [← HO.out, pi_go ltInt a b s i k dk hs HK.out (by omega) (by omega), HD.out, show fixUp ltInt b k (swp dk k (k - 1)) = du from by unfold fixUp; rw [if_pos (by omega), ← HU.out, shiftUp_stop ltInt b j du (Or.inl (by omega))]]
                                     case measure => simp [intOf]; omega)))))
        ·
          go_quiet (first | (go_at_call 440; refine Calls.quiet_of_same (cmp_Less_u32 _ _ _)))
          go_wp2; obtain rfl : k = b := (by omega)
          have hv : Sort.partialInsertionSort ltInt d a k = (dk, true) := by
            unfold Sort.partialInsertionSort; rw [← HO.out, pi_true ltInt a k s i dk hs (by rw [← HS.out, scanSorted_stop ltInt dk k k (Or.inl (by omega))])]
          rw [hv]; go_ret; exact ⟨rfl, m + nq, by rw [HW.out]; exact putRow_drewN _ _ _ _ _ _ _⟩
    ·
      obtain rfl : s = 5 := (by omega)
      have hv : Sort.partialInsertionSort ltInt d a b = (dk, false) := by
        unfold Sort.partialInsertionSort; rw [← HO.out, pi_end]
      rw [hv]; go_ret; exact ⟨rfl, n, rfl⟩
set_option maxHeartbeats 3200000 in
set_option maxRecDepth 1000000 in
theorem siftDown_u32 (blk off len cap : Nat) (d : Array Int) (hlen : d.size = len) (lo hi first : Nat) (w : World) (hH : Holds encU w blk off d) (hlo : lo ≤ hi) (hb : first + hi ≤ d.size) (hsz : d.size < 4611686018427387904) :
  Calls Tryz.prog 449 #[.slice (some ⟨blk, off, none⟩) len cap, .int .i64 lo, .int .i64 hi, .int .i64 first] w fun e w' => e = .returned (.tuple #[]) ∧ ∃ n, w' = putRow encU (Sort.ahead w n) blk off (siftDown ltInt hi first lo d) := by
 subst hlen
 go_enter Tryz.func449, Tryz.ntmps449
 go_wp2
 go_loopg [8] (hi - lo) (fun k s8 wr => ∃ (root : Nat) (dk : Array Int) (n : Nat), s8 = .int .i64 root ∧ root ≤ hi ∧ hi - root ≤ k ∧ dk.size = d.size ∧ wr = putRow encU (Sort.ahead w n) blk off dk ∧ siftDown ltInt hi first root dk = siftDown ltInt hi first lo d)
 case atStart => exact ⟨lo, d, 0, rfl, hlo, Nat.le_refl _, rfl, (putRow_self encU w blk off d hH).symm, rfl⟩
 case round =>
  obtain ⟨root, dk, n, rfl, hr, hk, hds, hwr, heq⟩ := hrel; have hHk : Holds encU wr blk off dk := (by rw [hwr]; exact holds_putRow encU _ blk off d dk (holds_ahead encU w n blk off d hH) hds)
  have hcw : ∀ t, t < d.size → wr.cell? ⟨blk, off + t, none⟩ = some (.int .u32 dk[t]!) := fun t ht => (hHk t (by omega)).1; have hfw : ∀ t, t < d.size → wr.frozen? ⟨blk, off + t, none⟩ = false := fun t ht => (hHk t (by omega)).2; have A : Aside (wr = putRow encU (Sort.ahead w n) blk off dk) := hwr; clear hwr hH hHk; by_cases h0 : hi ≤ 2 * root + 1
  ·
   have h0z : (hi : Int) ≤ 2 * (root : Int) + 1 := (by omega)
   go_wp2
   go_end0
   refine ⟨rfl, n, ?_⟩; rw [A.out, ← heq, sd_end ltInt dk h0]
  ·
   have h0z : ¬ ((hi : Int) ≤ 2 * (root : Int) + 1) := (by omega)
   by_cases h1 : 2 * root + 2 < hi
   ·have h1z : 2 * (root : Int) + 1 + 1 < (hi : Int) := (by omega)
    go_wp2_with fail
    go_big_quiet (first | (go_at_call 440; refine Calls.quiet_of_same (cmp_Less_u32 _ _ _)))
    go_wp2_with fail
    ·
     have hL : ltInt dk[first + 2 * root + 1]! dk[first + 2 * root + 2]! = true := (by assumption)
     revert nq; intro nq1
     have hcw2 : ∀ t, t < d.size → (wr.drewN nq1).cell? ⟨blk, off + t, none⟩ = some (.int .u32 dk[t]!) := hcw; have hfw2 : ∀ t, t < d.size → (wr.drewN nq1).frozen? ⟨blk, off + t, none⟩ = false := hfw; have A2 : Aside (wr.drewN nq1 = putRow encU (Sort.ahead w (n + nq1)) blk off dk) := drewN_world encU A.out nq1; clear hcw hfw A
     generalize wr.drewN nq1 = wr2 at hcw2 hfw2 A2 ⊢
     go_big_quiet (first | (go_at_call 440; refine Calls.quiet_of_same (cmp_Less_u32 _ _ _)))
     go_wp2_with fail
     ·
      have hS : ltInt dk[first + root]! dk[first + 2 * root + 2]! = false := by
       have : (!ltInt dk[first + root]! dk[first + 2 * root + 2]!) = true := (by assumption)
       simpa using this
      (try simp only [Exit.inBlock, Exit.then]); refine bodyPost_ret (results_none rfl _ _ _) rfl ?_
      refine ⟨rfl, n + nq1 + nq, ?_⟩; rw [drewN_world encU A2.out nq, ← heq, sd_right_stop ltInt dk h1 hL hS]
     ·
      have hG : ltInt dk[first + root]! dk[first + 2 * root + 2]! = true := by
       have : (!ltInt dk[first + root]! dk[first + 2 * root + 2]!) = false := (by assumption)
       simpa using this
      have hcw3 : ∀ t, t < d.size → (wr2.drewN nq).cell? ⟨blk, off + t, none⟩ = some (.int .u32 dk[t]!) := hcw2; have hfw3 : ∀ t, t < d.size → (wr2.drewN nq).frozen? ⟨blk, off + t, none⟩ = false := hfw2; have A3 : Aside (wr2.drewN nq = putRow encU (Sort.ahead w (n + nq1 + nq)) blk off dk) := drewN_world encU A2.out nq; clear hcw2 hfw2 A2
      generalize wr2.drewN nq = wr3 at hcw3 hfw3 A3 ⊢
      go_region
      go_wp2
      go_roundg (hi - (2 * root + 2))
      case measure => omega
      case rel =>
       refine ⟨2 * root + 2, swp dk (first + root) (first + (2 * root + 1 + 1)), n + nq1 + nq + 1, by simp <;> omega, by omega, Nat.le_refl _, by rw [size_swp]; exact hds, swap_world encU (by omega) (by omega) A3.out rfl rfl, ?_⟩; rw [← heq, sd_right_go ltInt dk h1 hL hG]
    ·
     have hL : ltInt dk[first + 2 * root + 1]! dk[first + 2 * root + 2]! = false := (by assumption)
     revert nq; intro nq1
     have hcw2 : ∀ t, t < d.size → (wr.drewN nq1).cell? ⟨blk, off + t, none⟩ = some (.int .u32 dk[t]!) := hcw; have hfw2 : ∀ t, t < d.size → (wr.drewN nq1).frozen? ⟨blk, off + t, none⟩ = false := hfw; have A2 : Aside (wr.drewN nq1 = putRow encU (Sort.ahead w (n + nq1)) blk off dk) := drewN_world encU A.out nq1; clear hcw hfw A
     generalize wr.drewN nq1 = wr2 at hcw2 hfw2 A2 ⊢
     go_big_quiet (first | (go_at_call 440; refine Calls.quiet_of_same (cmp_Less_u32 _ _ _)))
     go_wp2_with fail
     ·
      have hS : ltInt dk[first + root]! dk[first + 2 * root + 1]! = false := by
       have : (!ltInt dk[first + root]! dk[first + 2 * root + 1]!) = true := (by assumption)
       simpa using this
      (try simp only [Exit.inBlock, Exit.then]); refine bodyPost_ret (results_none rfl _ _ _) rfl ?_
      refine ⟨rfl, n + nq1 + nq, ?_⟩; rw [drewN_world encU A2.out nq, ← heq, sd_left_stop ltInt dk (by omega) (fun _ => hL) hS]
     ·
      have hG : ltInt dk[first + root]! dk[first + 2 * root + 1]! = true := by
       have : (!ltInt dk[first + root]! dk[first + 2 * root + 1]!) = false := (by assumption)
       simpa using this
      have hcw3 : ∀ t, t < d.size → (wr2.drewN nq).cell? ⟨blk, off + t, none⟩ = some (.int .u32 dk[t]!) := hcw2; have hfw3 : ∀ t, t < d.size → (wr2.drewN nq).frozen? ⟨blk, off + t, none⟩ = false := hfw2; have A3 : Aside (wr2.drewN nq = putRow encU (Sort.ahead w (n + nq1 + nq)) blk off dk) := drewN_world encU A2.out nq; clear hcw2 hfw2 A2
      generalize wr2.drewN nq = wr3 at hcw3 hfw3 A3 ⊢
      go_region
      go_wp2
      go_roundg (hi - (2 * root + 1))
      case measure => omega
      case rel =>
       refine ⟨2 * root + 1, swp dk (first + root) (first + (2 * root + 1)), n + nq1 + nq + 1, by simp <;> omega, by omega, Nat.le_refl _, by rw [size_swp]; exact hds, swap_world encU (by omega) (by omega) A3.out rfl rfl, ?_⟩; rw [← heq, sd_left_go ltInt dk (by omega) (fun _ => hL) hG]
   ·
    have h1z : decide (2 * (root : Int) + 1 + 1 < (hi : Int)) = false := decide_eq_false (by omega)
    go_wp2_with fail
    go_big_quiet (first | (go_at_call 440; refine Calls.quiet_of_same (cmp_Less_u32 _ _ _)))
    go_wp2_with fail
    revert nq; intro nq1
    have hcw2 : ∀ t, t < d.size → (wr.drewN nq1).cell? ⟨blk, off + t, none⟩ = some (.int .u32 dk[t]!) := hcw; have hfw2 : ∀ t, t < d.size → (wr.drewN nq1).frozen? ⟨blk, off + t, none⟩ = false := hfw; have A2 : Aside (wr.drewN nq1 = putRow encU (Sort.ahead w (n + nq1)) blk off dk) := drewN_world encU A.out nq1; clear hcw hfw A
    generalize wr.drewN nq1 = wr2 at hcw2 hfw2 A2 ⊢
    go_big_quiet (first | (go_at_call 440; refine Calls.quiet_of_same (cmp_Less_u32 _ _ _)))
    go_wp2_with fail
    ·
     have hS : ltInt dk[first + root]! dk[first + 2 * root + 1]! = false := by
      have : (!ltInt dk[first + root]! dk[first + 2 * root + 1]!) = true := (by assumption)
      simpa using this
     (try simp only [Exit.inBlock, Exit.then]); refine bodyPost_ret (results_none rfl _ _ _) rfl ?_
     refine ⟨rfl, n + nq1 + nq, ?_⟩; rw [drewN_world encU A2.out nq, ← heq, sd_left_stop ltInt dk (by omega) (fun h => absurd h h1) hS]
    ·
     have hG : ltInt dk[first + root]! dk[first + 2 * root + 1]! = true := by
      have : (!ltInt dk[first + root]! dk[first + 2 * root + 1]!) = false := (by assumption)
      simpa using this
     have hcw3 : ∀ t, t < d.size → (wr2.drewN nq).cell? ⟨blk, off + t, none⟩ = some (.int .u32 dk[t]!) := hcw2; have hfw3 : ∀ t, t < d.size → (wr2.drewN nq).frozen? ⟨blk, off + t, none⟩ = false := hfw2; have A3 : Aside (wr2.drewN nq = putRow encU (Sort.ahead w (n + nq1 + nq)) blk off dk) := drewN_world encU A2.out nq; clear hcw2 hfw2 A2
     generalize wr2.drewN nq = wr3 at hcw3 hfw3 A3 ⊢
     go_region
     go_wp2
     go_roundg (hi - (2 * root + 1))
     case measure => omega
     case rel =>
      refine ⟨2 * root + 1, swp dk (first + root) (first + (2 * root + 1)), n + nq1 + nq + 1, by simp <;> omega, by omega, Nat.le_refl _, by rw [size_swp]; exact hds, swap_world encU (by omega) (by omega) A3.out rfl rfl, ?_⟩; rw [← heq, sd_left_go ltInt dk (by omega) (fun h => absurd h h1) hG]
set_option maxHeartbeats 3200000 in
set_option maxRecDepth 1000000 in
theorem heapSort_u32 (blk off len cap : Nat) (d : Array Int) (hlen : d.size = len) (a b : Nat) (w : World) (hH : Holds encU w blk off d) (hab : a ≤ b) (hb : b ≤ d.size) (hsz : d.size < 4611686018427387904) :
    Calls Tryz.prog 435 #[.slice (some ⟨blk, off, none⟩) len cap, .int .i64 a, .int .i64 b] w fun e w' => e = .returned (.tuple #[]) ∧ ∃ n, w' = putRow encU (Sort.ahead w n) blk off (heapSort ltInt d a b) := by
  subst hlen; have ecast : ((b - a : Nat) : Int) = (b : Int) - (a : Int) := (by omega)
  go_enter Tryz.func435, Tryz.ntmps435
  go_wp2
  go_loopg [9] ((b - a - 1) / 2 + 1) (fun k s9 wr => s9 = .int .i64 ((k : Int) - 1) ∧ k ≤ (b - a - 1) / 2 + 1 ∧ ∃ (dk : Array Int) (n : Nat), dk.size = d.size ∧ wr = putRow encU (Sort.ahead w n) blk off dk ∧
    heapBuild ltInt (b - a) a k dk = heapBuild ltInt (b - a) a ((b - a - 1) / 2 + 1) d)
  case atStart => exact ⟨by rw [half_start hab], Nat.le_refl _, d, 0, rfl, (putRow_self encU w blk off d hH).symm, rfl⟩
  case round =>
    obtain ⟨rfl, hkk, dk, n, hds, hwr, heq⟩ := hrel; have hHk : Holds encU wr blk off dk := (by rw [hwr]; exact holds_putRow encU _ blk off d dk (holds_ahead encU w n blk off d hH) hds)
    have A : Aside (wr = putRow encU (Sort.ahead w n) blk off dk) := hwr; clear hwr
    cases gk with
    | zero =>
      have hB : dk = heapBuild ltInt (b - a) a ((b - a - 1) / 2 + 1) d := heq; clear heq hHk hkk; go_wp2
      go_loopg [10] (b - a) (fun k s10 wr2 => s10 = .int .i64 ((k : Int) - 1) ∧ k ≤ b - a ∧ ∃ (dj : Array Int) (n2 : Nat), dj.size = d.size ∧ wr2 = putRow encU (Sort.ahead w n2) blk off dj ∧ heapPop ltInt a k dj = heapPop ltInt a (b - a) dk)
      case atStart => exact ⟨by rw [ecast], Nat.le_refl _, dk, n, hds, A.out, rfl⟩
      case round =>
        obtain ⟨rfl, hkk, dj, n2, hdj, hwr2, heq2⟩ := hrel
        cases gk with
        | zero =>
          go_wp2
          go_end0
          refine ⟨rfl, n2, ?_⟩; have e : dj = heapSort ltInt d a b := (by rw [heapSort, ← hB, ← heq2]; rfl)
          rw [← e]
        | succ k =>
          have hHj : Holds encU wr blk off dj := (by rw [hwr2]; exact holds_putRow encU _ blk off d dj (holds_ahead encU w n2 blk off d hH) hdj)
          have hcw : ∀ t, t < d.size → wr.cell? ⟨blk, off + t, none⟩ = some (.int .u32 dj[t]!) := fun t ht => (hHj t (by omega)).1; have hfw : ∀ t, t < d.size → wr.frozen? ⟨blk, off + t, none⟩ = false := fun t ht => (hHj t (by omega)).2; have A2 : Aside (wr = putRow encU (Sort.ahead w n2) blk off dj) := hwr2; clear hwr2 hHj; rcases Nat.eq_zero_or_pos k with hk0 | hkp
          · subst hk0
            go_wp2_with fail
            go_region
            go_wp2_with fail
            rw [swap_world encU (i := a) (j := a) (by omega) (by omega) A2.out rfl rfl]; refine (siftDown_u32 blk off d.size cap (swp dj a (a)) (by rw [size_swp]; exact hdj) 0 0 a _ (holds_putRow encU _ blk off d _ (holds_ahead encU w (n2 + 1) blk off d hH) (by rw [size_swp]; exact hdj)) (Nat.zero_le _) (by rw [size_swp]; omega) (by rw [size_swp]; omega)).mono ?_; rintro e w1 ⟨rfl, m, hw1⟩; go_wp2
            go_roundg 0
            case measure => omega
            case rel =>
              refine ⟨by simp, by omega, siftDown ltInt 0 a 0 (swp dj a (a)), n2 + 1 + m, by rw [size_siftDown ltInt _ _ _ _ _ (Nat.le_refl _), size_swp]; exact hdj, ?_, heq2⟩
              first
                | rw [hw1, putRow_ahead_putRow encU w (n2 + 1) m blk off _ _ (size_siftDown ltInt _ _ _ _ _ (Nat.le_refl _))]
                | rw [putRow_ahead_putRow encU w (n2 + 1) m blk off _ _ (size_siftDown ltInt _ _ _ _ _ (Nat.le_refl _))]
          · skip
            go_wp2_with fail
            go_region
            go_wp2_with fail
            rw [swap_world encU (i := a) (j := a + k) (by omega) (by omega) A2.out rfl rfl]; refine (siftDown_u32 blk off d.size cap (swp dj a (a + k)) (by rw [size_swp]; exact hdj) 0 k a _ (holds_putRow encU _ blk off d _ (holds_ahead encU w (n2 + 1) blk off d hH) (by rw [size_swp]; exact hdj)) (Nat.zero_le _) (by rw [size_swp]; omega) (by rw [size_swp]; omega)).mono ?_; rintro e w1 ⟨rfl, m, hw1⟩; go_wp2
            go_roundg k
            case measure => omega
            case rel =>
              refine ⟨by simp, by omega, siftDown ltInt k a 0 (swp dj a (a + k)), n2 + 1 + m, by rw [size_siftDown ltInt _ _ _ _ _ (Nat.le_refl _), size_swp]; exact hdj, ?_, heq2⟩
              first
                | rw [hw1, putRow_ahead_putRow encU w (n2 + 1) m blk off _ _ (size_siftDown ltInt _ _ _ _ _ (Nat.le_refl _))]
                | rw [putRow_ahead_putRow encU w (n2 + 1) m blk off _ _ (size_siftDown ltInt _ _ _ _ _ (Nat.le_refl _))]
    | succ k =>
      have hcall := siftDown_u32 blk off d.size cap dk hds k (b - a) a wr hHk (by omega) (by omega) (by omega); rw [ecast] at hcall
      go_wp2_with (go_at_call 449; refine hcall.mono ?_; rintro e w1 ⟨rfl, m, hw1⟩)
      go_roundg k
      case measure => omega
      case rel =>
        refine ⟨by simp, by omega, siftDown ltInt (b - a) a k dk, n + m, by rw [size_siftDown ltInt _ _ _ _ _ (Nat.le_refl _)]; exact hds, ?_, heq⟩; rw [A.out, putRow_ahead_putRow encU w n m blk off dk _ (size_siftDown ltInt _ _ _ _ _ (Nat.le_refl _))]
set_option maxHeartbeats 6400000 in
set_option maxRecDepth 100000 in
theorem partitionEqual_u32 (blk off cap a b pivot : Nat) (d : Array Int) (w : World) (hH : Holds (Value.int .u32) w blk off d) (hap : a ≤ pivot) (hpb : pivot < b) (hb : b ≤ d.size) (hsz : d.size < 4611686018427387904) :
    Calls Tryz.prog 441 #[.slice (some ⟨blk, off, none⟩) d.size cap, .int .i64 a, .int .i64 b, .int .i64 pivot] w fun e w' =>
      e = .returned (.int .i64 (Sort.partitionEqual Sort.ltInt d a b pivot).1) ∧ ∃ n, w' = (putRow (Value.int .u32) w blk off (Sort.partitionEqual Sort.ltInt d a b pivot).2).drewN n := by
  have hla : a < d.size := (by omega)
  have hlp : pivot < d.size := (by omega)
  obtain ⟨G, hG⟩ : ∃ G : Nat → Int, ∀ j, G j = d[j]! := ⟨fun j => d[j]!, fun _ => rfl⟩
  have ca : w.cell? ⟨blk, off + a, none⟩ = some (.int .u32 (G a)) := (by rw [hG]; exact (hH a hla).1)
  have fa := (hH a hla).2; have cp : w.cell? ⟨blk, off + pivot, none⟩ = some (.int .u32 (G pivot)) := (by rw [hG]; exact (hH pivot hlp).1)
  have fp := (hH pivot hlp).2; obtain ⟨v', hy'⟩ := cell?_setCell_some (w := w) (p := ⟨blk, off + a, none⟩) (x := .int .u32 (G pivot)) (q := ⟨blk, off + pivot, none⟩) cp; have AG : Hid (∀ j, G j = d[j]!) := hG; have AH : Hid (Holds (Value.int .u32) w blk off d) := hH; clear hG hH
  go_enter Tryz.func441, Tryz.ntmps441
  go_wp2
  go_region
  go_wp2
  go_loopw [9, 10] (fun vi vj wr => ∃ (i j n : Nat) (dk : Array Int), vi = .int .i64 i ∧ vj = .int .i64 j ∧ a < i ∧ i ≤ j + 1 ∧ j < b ∧ dk.size = d.size ∧ wr = (putRow (Value.int .u32) w blk off dk).drewN n ∧
      Sort.partEqLoop Sort.ltInt a i j dk = Sort.partEqLoop Sort.ltInt a (a + 1) (b - 1) (Sort.swp d a pivot))
    (fun vi vj _ => (intOf vj).toNat + 1 - (intOf vi).toNat)
  case atStart =>
    refine ⟨a + 1, b - 1, 1, Sort.swp d a pivot, by go_num, by go_num, by omega, by omega, by omega, size_swp _ _ _, ?_, rfl⟩; have e := swap_worldC (Value.int .u32) w blk off d 0 a pivot hla hlp; rw [putRow_self _ w blk off d AH.out] at e; rw [AG.out a, AG.out pivot]; exact e
  case round =>
    obtain ⟨i, j, n, dk, rfl, rfl, hai, hij, hjb, hs, hw, heq⟩ := hrel; clear ca fa cp fp hy' v' AG
    rename World => W1
    have hHk : Holds (Value.int .u32) W1 blk off dk := by
      rw [hw]; exact holds_putRow (Value.int .u32) w blk off d dk AH.out hs
    obtain ⟨Gk, hG⟩ : ∃ Gk : Nat → Int, ∀ t, Gk t = dk[t]! := ⟨fun t => dk[t]!, fun _ => rfl⟩
    have hc : ∀ t, t < d.size → W1.cell? ⟨blk, off + t, none⟩ = some (.int .u32 (Gk t)) := fun t ht => by rw [hG]; exact (hHk t (by omega)).1
    have hf : ∀ t, t < d.size → W1.frozen? ⟨blk, off + t, none⟩ = false := fun t ht => (hHk t (by omega)).2; have AG : Hid (∀ t, Gk t = dk[t]!) := hG; have AW : Hid (W1 = (putRow (Value.int .u32) w blk off dk).drewN n) := hw; have AE : Hid (Sort.partEqLoop Sort.ltInt a i j dk = Sort.partEqLoop Sort.ltInt a (a + 1) (b - 1) (Sort.swp d a pivot)) := heq; clear hG hw heq hHk; go_wp2
    go_loopw [9] (fun vi w1 => ∃ (i' n1 : Nat), vi = .int .i64 i' ∧ i ≤ i' ∧ i' ≤ j + 1 ∧ w1 = W1.drewN n1 ∧
        Hid (Sort.scanUp (fun x => !Sort.ltInt dk[a]! x) dk j i' = Sort.scanUp (fun x => !Sort.ltInt dk[a]! x) dk j i))
      (fun vi _ => j + 1 - (intOf vi).toNat)
    case atStart => exact ⟨i, 0, rfl, Nat.le_refl _, hij, rfl, rfl⟩
    case round =>
      obtain ⟨i', n1, rfl, hii, hij', hw1, hsc⟩ := hrel; have hcw : ∀ t, t < d.size → wr.cell? ⟨blk, off + t, none⟩ = some (.int .u32 (Gk t)) := fun t ht => by rw [hw1]; exact hc t ht
      have HW1 : Hid (wr = W1.drewN n1) := hw1; clear hw1; by_cases hle : i' ≤ j
      · go_wp2_with fail
        go_big_quiet (first | (go_at_call 440; refine Calls.quiet_of_same (cmp_Less_u32 _ _ _)))
        go_wp2
        ·
          have ht : (!Sort.ltInt (Gk a) (Gk i')) = true := (by assumption)
          go_roundw
          case rel => exact ⟨i' + 1, n1 + nq, by go_num, by omega, by omega, by rw [HW1.out, World.drewN_drewN], (scanUp_go (fun x => !Sort.ltInt dk[a]! x) dk j i' hle (by rw [← AG.out a, ← AG.out i']; exact ht)).symm.trans hsc.out⟩
          case measure => simp [intOf]; omega
        ·
          have ht : (!Sort.ltInt (Gk a) (Gk i')) = false := (by assumption)
          have hi2 : Hid (i' = Sort.scanUp (fun x => !Sort.ltInt dk[a]! x) dk j i) := (scanUp_end (fun x => !Sort.ltInt dk[a]! x) dk j i' (Or.inr (by rw [← AG.out a, ← AG.out i']; exact ht))).symm.trans hsc.out; clear ht; have hw2 : wr.drewN nq = W1.drewN (n1 + nq) := (by rw [HW1.out, World.drewN_drewN])
          clear hcw HW1 hsc
          go_loopw [10] (fun vj w2 => ∃ (j' n2 : Nat), vj = .int .i64 j' ∧ j' ≤ j ∧ i' ≤ j' + 1 ∧ w2 = W1.drewN n2 ∧
              Hid (Sort.scanDown (fun x => Sort.ltInt dk[a]! x) dk i' j' = Sort.scanDown (fun x => Sort.ltInt dk[a]! x) dk i' j))
            (fun vj _ => (intOf vj).toNat)
          case atStart => exact ⟨j, n1 + nq, rfl, Nat.le_refl _, hij', hw2, rfl⟩
          case round =>
            clear hw2; obtain ⟨j', n2, rfl, hjj, hij2, hw2, hsd⟩ := hrel; have hcw : ∀ t, t < d.size → wr.cell? ⟨blk, off + t, none⟩ = some (.int .u32 (Gk t)) := fun t ht => by rw [hw2]; exact hc t ht
            have HW2 : Hid (wr = W1.drewN n2) := hw2; clear hw2; by_cases hle2 : i' ≤ j'
            · go_wp2_with fail
              go_big_quiet (first | (go_at_call 440; refine Calls.quiet_of_same (cmp_Less_u32 _ _ _)))
              go_wp2
              ·
                have ht : Sort.ltInt (Gk a) (Gk j') = true := (by assumption)
                go_roundw
                case rel => exact ⟨j' - 1, n2 + nq, by go_num, by omega, by omega, by rw [HW2.out, World.drewN_drewN], (scanDown_go (fun x => Sort.ltInt dk[a]! x) dk i' j' hle2 (by omega) (by rw [← AG.out a, ← AG.out j']; exact ht)).symm.trans hsd.out⟩
                case measure => simp [intOf]; omega
              ·
                have ht : Sort.ltInt (Gk a) (Gk j') = false := (by assumption)
                have hj2 : Hid (j' = Sort.scanDown (fun x => Sort.ltInt dk[a]! x) dk i' j) := (scanDown_end (fun x => Sort.ltInt dk[a]! x) dk i' j' (Or.inr (by rw [← AG.out a, ← AG.out j']; exact ht))).symm.trans hsd.out; clear hcw hsd ht; have hw3 : wr.drewN nq = W1.drewN (n2 + nq) := (by rw [HW2.out, World.drewN_drewN])
                generalize wr.drewN nq = W3 at hw3 ⊢
                have hc3 : ∀ t, t < d.size → W3.cell? ⟨blk, off + t, none⟩ = some (.int .u32 (Gk t)) := fun t ht => by rw [hw3]; exact hc t ht
                have hf3 : ∀ t, t < d.size → W3.frozen? ⟨blk, off + t, none⟩ = false := fun t ht => by rw [hw3]; exact hf t ht
                have HW3 : Hid (W3 = W1.drewN (n2 + nq)) := hw3; clear hw3; obtain ⟨v3, hy3⟩ := cell?_setCell_some (w := W3) (p := ⟨blk, off + i', none⟩) (x := .int .u32 (Gk j')) (q := ⟨blk, off + j', none⟩) (hc3 j' (by omega)); have hlt3 := scans_lt Sort.ltInt a i j dk (by omega) hi2.out hj2.out hle2; go_wp2
                go_region
                all_goals go_wp2
                all_goals go_roundw
                case rel =>
                  refine ⟨i' + 1, j' - 1, n + (n2 + nq) + 1, Sort.swp dk i' j', by go_num, by go_num, by omega, by omega, by omega, by rw [size_swp]; exact hs, ?_, ?_⟩
                  · rw [HW3.out, AW.out, World.drewN_drewN, AG.out i', AG.out j']; exact swap_worldC (Value.int .u32) w blk off dk _ i' j' (by omega) (by omega)
                  · rw [← AE.out]; exact (partEq_go Sort.ltInt a i j dk hi2.out hj2.out (by omega)).symm
                case measure => simp [intOf]; omega
            · go_wp2_with fail
              go_big_quiet (first | (go_at_call 440; refine Calls.quiet_of_same (cmp_Less_u32 _ _ _)))
              have hj2 : Hid (j' = Sort.scanDown (fun x => Sort.ltInt dk[a]! x) dk i' j) := (scanDown_end (fun x => Sort.ltInt dk[a]! x) dk i' j' (Or.inl hle2)).symm.trans hsd.out; clear hcw hsd; have hw3 : wr.drewN nq = W1.drewN (n2 + nq) := (by rw [HW2.out, World.drewN_drewN])
              generalize wr.drewN nq = W3 at hw3 ⊢
              have hc3 : ∀ t, t < d.size → W3.cell? ⟨blk, off + t, none⟩ = some (.int .u32 (Gk t)) := fun t ht => by rw [hw3]; exact hc t ht
              have hf3 : ∀ t, t < d.size → W3.frozen? ⟨blk, off + t, none⟩ = false := fun t ht => by rw [hw3]; exact hf t ht
              have HW3 : Hid (W3 = W1.drewN (n2 + nq)) := hw3; clear hw3; go_wp2; go_ret; have e := partEq_break Sort.ltInt a i j dk hi2.out hj2.out (by omega); refine ⟨?_, n + (n2 + nq), ?_⟩
              · unfold Sort.partitionEqual; rw [← AE.out, e]; rfl
              · unfold Sort.partitionEqual; rw [← AE.out, e, HW3.out, AW.out, World.drewN_drewN]
      · go_wp2_with fail
        go_big_quiet (first | (go_at_call 440; refine Calls.quiet_of_same (cmp_Less_u32 _ _ _)))
        go_wp2; have hi2 : Hid (i' = Sort.scanUp (fun x => !Sort.ltInt dk[a]! x) dk j i) := (scanUp_end (fun x => !Sort.ltInt dk[a]! x) dk j i' (Or.inl hle)).symm.trans hsc.out; have hw2 : wr.drewN nq = W1.drewN (n1 + nq) := (by rw [HW1.out, World.drewN_drewN])
        clear hcw HW1 hsc
        go_loopw [10] (fun vj w2 => ∃ (j' n2 : Nat), vj = .int .i64 j' ∧ j' ≤ j ∧ i' ≤ j' + 1 ∧ w2 = W1.drewN n2 ∧
            Hid (Sort.scanDown (fun x => Sort.ltInt dk[a]! x) dk i' j' = Sort.scanDown (fun x => Sort.ltInt dk[a]! x) dk i' j))
          (fun vj _ => (intOf vj).toNat)
        case atStart => exact ⟨j, n1 + nq, rfl, Nat.le_refl _, hij', hw2, rfl⟩
        case round =>
          clear hw2; obtain ⟨j', n2, rfl, hjj, hij2, hw2, hsd⟩ := hrel; have hcw : ∀ t, t < d.size → wr.cell? ⟨blk, off + t, none⟩ = some (.int .u32 (Gk t)) := fun t ht => by rw [hw2]; exact hc t ht
          have HW2 : Hid (wr = W1.drewN n2) := hw2; clear hw2; by_cases hle2 : i' ≤ j'
          · exfalso; omega
          · go_wp2_with fail
            go_big_quiet (first | (go_at_call 440; refine Calls.quiet_of_same (cmp_Less_u32 _ _ _)))
            have hj2 : Hid (j' = Sort.scanDown (fun x => Sort.ltInt dk[a]! x) dk i' j) := (scanDown_end (fun x => Sort.ltInt dk[a]! x) dk i' j' (Or.inl hle2)).symm.trans hsd.out; clear hcw hsd; have hw3 : wr.drewN nq = W1.drewN (n2 + nq) := (by rw [HW2.out, World.drewN_drewN])
            generalize wr.drewN nq = W3 at hw3 ⊢
            have hc3 : ∀ t, t < d.size → W3.cell? ⟨blk, off + t, none⟩ = some (.int .u32 (Gk t)) := fun t ht => by rw [hw3]; exact hc t ht
            have hf3 : ∀ t, t < d.size → W3.frozen? ⟨blk, off + t, none⟩ = false := fun t ht => by rw [hw3]; exact hf t ht
            have HW3 : Hid (W3 = W1.drewN (n2 + nq)) := hw3; clear hw3; go_wp2; go_ret; have e := partEq_break Sort.ltInt a i j dk hi2.out hj2.out (by omega); refine ⟨?_, n + (n2 + nq), ?_⟩
            · unfold Sort.partitionEqual; rw [← AE.out, e]; rfl
            · unfold Sort.partitionEqual; rw [← AE.out, e, HW3.out, AW.out, World.drewN_drewN]
theorem partitionEqualOrdered_u32 (blk off cap a b pivot : Nat) (d : Array Int) (w : World) (hH : Holds (Value.int .u32) w blk off d) (hap : a ≤ pivot) (hpb : pivot < b) (hb : b ≤ d.size) (hsz : d.size < 4611686018427387904) :
  Calls Tryz.prog 441 #[.slice (some ⟨blk, off, none⟩) d.size cap, .int .i64 a, .int .i64 b, .int .i64 pivot] w fun e w' =>
   e = .returned (.int .i64 (Sort.partitionEqual Sort.ltInt d a b pivot).1) ∧ ∃ n, w' = putRow (Value.int .u32) (Sort.ahead w n) blk off (Sort.partitionEqual Sort.ltInt d a b pivot).2 :=
 (partitionEqual_u32 blk off cap a b pivot d w hH hap hpb hb hsz).mono fun _ _ ⟨he, n, hw⟩ => ⟨he, n, hw⟩
end Go.Proofs.YtmffmkjgdjgmeaaGreat
