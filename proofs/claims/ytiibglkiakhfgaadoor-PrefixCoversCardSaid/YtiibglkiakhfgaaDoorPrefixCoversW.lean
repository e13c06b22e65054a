import Derived.Test.YtiibglkiakhfgaaDoorPrefixMakesW
import Derived.Test.YtiibglkiakhfgaaDoorPrefixHalvesF
import Derived.StillTailTactics
set_option linter.unusedSimpArgs false
set_option linter.unusedVariables false
namespace Go.Proofs.YtiibglkiakhfgaaDoor
open Go.RowKit
/-- How many bits two addresses have in common. -/
def comN (a b : Nat) : Nat := 32 - Lib.bitLen (a ^^^ b)
theorem xor_div (a b s : Nat) : (a ^^^ b) / 2 ^ s = (a / 2 ^ s) ^^^ (b / 2 ^ s) := by
  rw [← Nat.shiftRight_eq_div_pow, ← Nat.shiftRight_eq_div_pow, ← Nat.shiftRight_eq_div_pow, Nat.shiftRight_xor_distrib]
theorem xor_zero {a b : Nat} (h : a ^^^ b = 0) : a = b := by
  have : a ^^^ b ^^^ b = b := by rw [h]; simp
  rwa [Nat.xor_assoc, Nat.xor_self, Nat.xor_zero] at this
theorem xor_lt32 (a b : Nat) (ha : a < 4294967296) (hb : b < 4294967296) : a ^^^ b < 4294967296 := Nat.xor_lt_two_pow (n := 32) ha hb
theorem div_same {a b s : Nat} (h : a ^^^ b < 2 ^ s) : a / 2 ^ s = b / 2 ^ s := by
  apply xor_zero
  rw [← xor_div]
  exact Nat.div_eq_of_lt h
theorem lt_of_div {a b s : Nat} (h : a / 2 ^ s = b / 2 ^ s) : a ^^^ b < 2 ^ s := by
  have e := xor_div a b s
  rw [h, Nat.xor_self] at e
  exact (Nat.div_eq_zero_iff_lt (Nat.two_pow_pos s)).1 e
theorem bitLen_bounds (x : Nat) (hx : x < 4294967296) : Lib.bitLen x ≤ 32 ∧ x < 2 ^ Lib.bitLen x ∧ (x ≠ 0 → 2 ^ (Lib.bitLen x - 1) ≤ x) := by
  have hle := Lib.bitLen_le x 32 (by omega) hx
  refine ⟨hle, ?_⟩
  by_cases h0 : x = 0
  · subst h0; refine ⟨Nat.two_pow_pos _, fun h => absurd rfl h⟩
  · have := Lib.bitLenAux_bounds 64 x (by omega) h0
    exact ⟨this.2.2, fun _ => this.2.1⟩
theorem com_cut (a b L : Nat) (ha : a < 4294967296) (hb : b < 4294967296) (hL : L ≤ comN a b) : cutN a L = cutN b L := by
  have hx := bitLen_bounds (a ^^^ b) (xor_lt32 a b ha hb)
  unfold comN at hL
  rw [cutN_eq_iff]
  apply div_same
  exact Nat.lt_of_lt_of_le hx.2.1 (Nat.pow_le_pow_right (by decide) (by omega))
theorem com_next (a b : Nat) (ha : a < 4294967296) (hb : b < 4294967296) (hL : comN a b < 32) : bitN a (comN a b) ≠ bitN b (comN a b) := by
  have hx := bitLen_bounds (a ^^^ b) (xor_lt32 a b ha hb)
  have h1 := com_cut a b (comN a b) ha hb (Nat.le_refl _)
  rw [cutN_eq_iff] at h1
  intro h2
  unfold bitN at h2
  obtain ⟨z, hz⟩ : ∃ z, comN a b = z := ⟨_, rfl⟩
  rw [hz] at h1 h2 hL
  have e : (2 : Nat) ^ (32 - z) = 2 ^ (31 - z) * 2 := by rw [← Nat.pow_succ]; congr 1; omega
  rw [e, ← Nat.div_div_eq_div_mul, ← Nat.div_div_eq_div_mul] at h1
  have h3 : a / 2 ^ (31 - z) = b / 2 ^ (31 - z) := by omega
  have h4 := lt_of_div h3
  have hne : a ^^^ b ≠ 0 := by
    intro h0
    unfold comN at hz
    rw [h0] at hz
    have : Lib.bitLen 0 = 0 := by decide
    omega
  have h5 := hx.2.2 hne
  unfold comN at hz
  rw [show Lib.bitLen (a ^^^ b) - 1 = 31 - z by omega] at h5
  omega
theorem lz_any (a b : Nat) (ha : a < 4294967296) (hb : b < 4294967296) (w : World) : Calls Tryd.prog 102 #[.int .u32 (bits .xor .u32 (a : Int) (b : Int))] w fun e w' => e = .returned (.int .i64 ((comN a b : Nat) : Int)) ∧ w' = w := by
  rw [u32_xor_nat a b ha hb]
  have hx := xor_lt32 a b ha hb
  have hl := (bitLen_bounds _ hx).1
  refine (Tryd.bits_LeadingZeros32 ((a ^^^ b : Nat) : Int) w (by omega) (by omega)).mono ?_
  rintro e w' ⟨rfl, rfl⟩
  refine ⟨?_, rfl⟩
  unfold comN
  rw [Int.toNat_natCast]
  congr 2
  omega

theorem min3 (z k j : Nat) : (if (j : Int) < (if k < z then (k : Int) else (z : Int)) then (j : Int) else if k < z then (k : Int) else (z : Int)) = ((min (min z k) j : Nat) : Int) := by
  split <;> split <;> omega
set_option maxRecDepth 100000 in
set_option maxHeartbeats 1000000 in
theorem common_good (a k : Nat) (b j : Nat) (ha : a < 4294967296) (hb : b < 4294967296) (hk : k ≤ 32) (hj : j ≤ 32) (hg : goodB a (k : Int) = true) (hh : goodB b (j : Int) = true) (w : World) :
    Calls Tryd.prog 44 #[pfx a k, pfx b j] w fun e w' => e = .returned (pfx (cutN a (min (min (comN a b) k) j)) ((min (min (comN a b) k) j : Nat) : Int)) ∧ Below w.heap.size w w' := by
  have hg1 := good_any a k ha (by omega) (by omega)
  have hh1 := good_any b j hb (by omega) (by omega)
  rw [hg] at hg1
  rw [hh] at hh1
  unfold pfx at hg1 hh1 ⊢
  have HG := hide hg1
  have HH := hide hh1
  have HL := hide (lz_any a b ha hb)
  obtain ⟨z, hz⟩ : ∃ z, comN a b = z := ⟨_, rfl⟩
  have hz32 : z ≤ 32 := by rw [← hz]; unfold comN; omega
  rw [hz] at HL ⊢
  have HA := hide ha
  clear hg hh hg1 hh1 hz ha hb
  go_enter Tryd.func44, Tryd.ntmps44
  go_wp2_with fail
  refine (HG.out _).mono ?_
  rintro e w1 ⟨rfl, hb1⟩
  have B0 : Blk w1 w.heap.size 46 #[.int .u32 (a : Int), .int .i64 (k : Int)] := (((Blk.new w _ _).alloc _).alloc _).below hb1 (by simp; omega)
  have B1 : Blk w1 (w.heap.size + 1) 46 #[.int .u32 (b : Int), .int .i64 (j : Int)] := ((by simpa using Blk.new (w.alloc (.cells #[.int .u32 (a : Int), .int .i64 (k : Int)] 46)) 46 #[.int .u32 (b : Int), .int .i64 (j : Int)] : Blk _ (w.heap.size + 1) _ _).alloc _).below hb1 (by simp)
  have B2 : Blk w1 (w.heap.size + 2) 46 #[.int .u32 0, .int .i64 0] := (by simpa using Blk.new ((w.alloc (.cells #[.int .u32 (a : Int), .int .i64 (k : Int)] 46)).alloc (.cells #[.int .u32 (b : Int), .int .i64 (j : Int)] 46)) 46 #[.int .u32 0, .int .i64 0] : Blk _ (w.heap.size + 2) _ _).below hb1 (by simp)
  have hbw : Below w.heap.size w w1 := ((((Below.refl _ w).alloc (Nat.le_refl _) _).alloc (by simp) _).alloc (by simp; omega) _).trans (hb1.mono (by simp; omega))
  have s0 := B1.cell 0
  have s1 := B1.cell 1
  simp at s0 s1
  clear hb1
  go_wp2_with fail
  refine (HH.out _).mono ?_
  rintro e w2 ⟨rfl, hb2⟩
  have C0 := B0.below hb2 B0.lt
  have C1 := B1.below hb2 B1.lt
  have C2 := B2.below hb2 B2.lt
  have hbw2 := hbw.trans (hb2.mono hbw.size)
  clear s0 s1 B0 B1 B2 hbw hb2
  have r0 := C0.cell 0
  have r1 := C0.cell 1
  have s0 := C1.cell 0
  have s1 := C1.cell 1
  simp at r0 r1 s0 s1
  go_wp2_with fail
  refine wp_region_still_lit (by kernel_rfl) (by kernel_rfl) ?_
  repeat (first | still_step | still_call (HL.out _))
  rw [min3]
  have hL32 : min (min z k) j ≤ 32 := by omega
  obtain ⟨L, hLe⟩ : ∃ L, min (min z k) j = L := ⟨_, rfl⟩
  rw [hLe] at hL32 ⊢
  have HE := hide hLe
  have HM := hide (fun w => (mask_in L hL32 w).mono (R' := fun e w' => e = .returned (.int .u32 ((maskN L : Nat) : Int)) ∧ w' = w) fun _ _ h => ⟨h.1, h.2.symm⟩)
  clear hLe
  refine wpStill_nil ?_
  change Exit.then _ _ _ _ (World.drew w2)
  go_wp2_with fail
  refine code_gen (fun w3 => Blk w3 w.heap.size 46 #[.int .u32 (a : Int), .int .i64 (k : Int)] ∧ Blk w3 (w.heap.size + 2) 46 #[.int .u32 0, .int .i64 0] ∧ Below w.heap.size w w3) ⟨C0.drew, C2.drew, hbw2.drew⟩ ?_
  clear r0 r1 s0 s1 C0 C1 C2 hbw2
  rintro w3 ⟨C0, C2, hbw2⟩
  have r0 := C0.cell 0
  have r1 := C0.cell 1
  simp at r0 r1
  refine wp_region_still_tail 7 (by kernel_rfl) (by kernel_rfl) ?_
  simp only [List.take_succ_cons, List.take_zero, List.drop_succ_cons, List.drop_zero]
  repeat (first | still_step | still_call (HM.out _))
  refine wpStill_nil ?_
  refine wpList_gen (fun w4 => Blk w4 (w.heap.size + 2) 46 #[.int .u32 0, .int .i64 0] ∧ Below w.heap.size w w4) ⟨C2.drew, hbw2.drew⟩ ?_
  clear r0 r1 C0 C2 hbw2
  rintro w4 ⟨C2, hbw⟩
  have t0 := C2.cell 0
  have t1 := C2.cell 1
  have q0 := C2.frozen 0
  have q1 := C2.frozen 1
  simp at t0 t1
  have hand : Hid (bits .and .u32 (a : Int) ((maskN L : Nat) : Int) = ((cutN a L : Nat) : Int)) := hide (by rw [u32_and_nat _ _ HA.out (maskN_lt L), and_mask a L HA.out hL32])
  rw [hand.out]
  go_wp2
  refine bodyPost_ret (v := .agg #[.int .u32 ((cutN a L : Nat) : Int), .int .i64 (L : Int)]) (by simp [results, Tryd.results44, go_sem, t0, t1, q0, q1]) rfl ⟨by rw [HE.out], ?_⟩
  exact (hbw.setCell (by simp; omega) _).setCell (by simp; omega) _

set_option maxRecDepth 100000 in
set_option maxHeartbeats 1000000 in
theorem common_bad (a : Nat) (n : Int) (b : Nat) (m : Int) (ha : a < 4294967296) (hb : b < 4294967296) (h1 : -9223372036854775808 ≤ n) (h2 : n ≤ 9223372036854775807) (h3 : -9223372036854775808 ≤ m) (h4 : m ≤ 9223372036854775807)
    (hgh : (goodB a n && goodB b m) = false) (w : World) :
    Calls Tryd.prog 44 #[pfx a n, pfx b m] w fun e w' => e = .returned (pfx 0 0) ∧ Below w.heap.size w w' := by
  have hg1 := good_any a n ha h1 h2
  have hh1 := good_any b m hb h3 h4
  unfold pfx at hg1 hh1 ⊢
  have HH := hide hh1
  have HG := hide hg1
  obtain ⟨g, hg⟩ : ∃ g, goodB a n = g := ⟨_, rfl⟩
  obtain ⟨h, hh⟩ : ∃ h, goodB b m = h := ⟨_, rfl⟩
  rw [hg] at HG hgh
  rw [hh] at HH hgh
  clear hg1 hh1 hg hh ha hb h1 h2 h3 h4
  go_enter Tryd.func44, Tryd.ntmps44
  go_wp2_with fail
  refine (HG.out _).mono ?_
  rintro e w1 ⟨rfl, hb1⟩
  have B1 : Blk w1 (w.heap.size + 1) 46 #[.int .u32 (b : Int), .int .i64 m] := ((by simpa using Blk.new (w.alloc (.cells #[.int .u32 (a : Int), .int .i64 n] 46)) 46 #[.int .u32 (b : Int), .int .i64 m] : Blk _ (w.heap.size + 1) _ _).alloc _).below hb1 (by simp)
  have B2 : Blk w1 (w.heap.size + 2) 46 #[.int .u32 0, .int .i64 0] := (by simpa using Blk.new ((w.alloc (.cells #[.int .u32 (a : Int), .int .i64 n] 46)).alloc (.cells #[.int .u32 (b : Int), .int .i64 m] 46)) 46 #[.int .u32 0, .int .i64 0] : Blk _ (w.heap.size + 2) _ _).below hb1 (by simp)
  have hbw : Below w.heap.size w w1 := ((((Below.refl _ w).alloc (Nat.le_refl _) _).alloc (by simp) _).alloc (by simp; omega) _).trans (hb1.mono (by simp; omega))
  have s0 := B1.cell 0
  have s1 := B1.cell 1
  have t0 := B2.cell 0
  have t1 := B2.cell 1
  have q0 := B2.frozen 0
  have q1 := B2.frozen 1
  simp at s0 s1 t0 t1
  clear hb1
  cases g
  · go_wp2
    refine bodyPost_ret (v := .agg #[.int .u32 0, .int .i64 0]) (by simp [results, Tryd.results44, go_sem, t0, t1, q0, q1]) rfl ⟨rfl, ?_⟩
    exact (hbw.setCell (by simp; omega) _).setCell (by simp; omega) _
  · obtain rfl : h = false := by simpa using hgh
    go_wp2_with fail
    refine (HH.out _).mono ?_
    rintro e w2 ⟨rfl, hb2⟩
    have C2 := B2.below hb2 B2.lt
    have hbw2 := hbw.trans (hb2.mono hbw.size)
    clear s0 s1 t0 t1 q0 q1 B1 B2 hbw hb2
    have t0 := C2.cell 0
    have t1 := C2.cell 1
    have q0 := C2.frozen 0
    have q1 := C2.frozen 1
    simp at t0 t1
    go_wp2
    refine bodyPost_ret (v := .agg #[.int .u32 0, .int .i64 0]) (by simp [results, Tryd.results44, go_sem, t0, t1, q0, q1]) rfl ⟨rfl, ?_⟩
    exact (hbw2.setCell (by simp; omega) _).setCell (by simp; omega) _
structure RC (z : Nat) (i : Int) (y : Nat) (j : Int) (c : Bool) : Prop where
  l1 : z < 4294967296
  l2 : y < 4294967296
  cov : refCovB z i y j = c
theorem rc_call (z : Nat) (i : Int) (y : Nat) (j : Int) (c : Bool) (h : RC z i y j c) (w : World) : Calls Tryd.prog 37 #[.agg #[.int .u32 (z : Int), .int .i64 i], .agg #[.int .u32 (y : Int), .int .i64 j]] w (GoodP c w) := by
  have := refCovers_any z i y j h.l1 h.l2 w
  rwa [h.cov] at this
structure RB (z i u : Nat) : Prop where
  l1 : z < 4294967296
  l2 : i ≤ 31
  bit : bitN z i = u
theorem rb_call (z i u : Nat) (h : RB z i u) (w : World) : Calls Tryd.prog 34 #[.int .u32 (z : Int), .int .i64 (i : Int)] w fun e w' => e = .returned (.int .i64 (u : Int)) ∧ w = w' := by
  have := refBit_any z i h.l1 h.l2 w
  rwa [h.bit] at this
theorem cov_ref (a : Nat) (n : Int) (b : Nat) (m : Int) : covB a n b m = refCovB a n b m := by
  unfold covB refCovB hasB
  cases goodB a n <;> cases goodB b m <;> cases decide (n ≤ m) <;> simp
theorem has_ref (a : Nat) (n : Int) (x : Nat) : hasB a n x = refCovB a n x 32 := by
  have g3 : goodB x 32 = true := by
    rw [goodB_iff]; exact ⟨by omega, by omega, cutN_32 x⟩
  unfold hasB refCovB
  rw [g3]
  cases h : goodB a n
  · rfl
  · have := (goodB_iff a n).1 h
    simp [this.2.1]
/-- What two good ones have in common. -/
theorem common_law (a k b j : Nat) (ha : a < 4294967296) (hb : b < 4294967296) (hk : k ≤ 32) (hj : j ≤ 32) (hg : goodB a (k : Int) = true) (hh : goodB b (j : Int) = true) (L : Nat) (hL : min (min (comN a b) k) j = L) :
    refCovB (cutN a L) L a k = true ∧ refCovB (cutN a L) L b j = true ∧ (¬ L < k ∨ (L < k ∧ ¬ L < j) ∨ (L < k ∧ L < j ∧ L ≤ 31 ∧ bitN a L ≠ bitN b L)) := by
  have hL32 : L ≤ 32 := by omega
  have gc : goodB (cutN a L) (L : Int) = true := by
    rw [goodB_iff]; refine ⟨by omega, by omega, ?_⟩
    rw [Int.toNat_natCast]; exact cutN_cutN a (Nat.le_refl _) hL32
  have e := com_cut a b L ha hb (by omega)
  refine ⟨?_, ?_, ?_⟩
  · unfold refCovB
    rw [gc, hg, Int.toNat_natCast]
    have : (L : Int) ≤ k := by omega
    simp [this]
  · unfold refCovB
    rw [gc, hh, Int.toNat_natCast, e]
    have : (L : Int) ≤ j := by omega
    simp [this]
  · by_cases h1 : L < k
    · by_cases h2 : L < j
      · have e2 : comN a b = L := by omega
        have := com_next a b ha hb (by omega)
        rw [e2] at this
        exact Or.inr (Or.inr ⟨h1, h2, by omega, this⟩)
      · exact Or.inr (Or.inl ⟨h1, h2⟩)
    · exact Or.inl h1


set_option maxRecDepth 100000 in
set_option maxHeartbeats 8000000 in
theorem covers_E (a k x : Nat) (ha : a < 4294967296) (hx : x < 4294967296) (hk : k ≤ 32) (hg : goodB a (k : Int) = true) (w : World) (ht : Tab w) :
    Calls Tryd.prog 10 #[pfx a k, pfx a k, .int .u32 x] w (GoodP true w) := by
  obtain ⟨L, hL⟩ : ∃ L, min (min (comN a a) k) k = L := ⟨_, rfl⟩
  obtain ⟨f1, f2, f4⟩ := common_law a k a k ha ha hk hk hg hg L hL
  have qg := refGood_any a (k : Int) ha
  have qq := refGood_any a (k : Int) ha
  rw [hg] at qg
  rw [hg] at qq
  have qo := common_good a k a k ha ha hk hk hg hg
  rw [hL] at qo
  have qc := Covers_any a (k : Int) a (k : Int) ha ha (by omega) (by omega) (by omega) (by omega)
  have qw := Within_any a (k : Int) a (k : Int) ha ha (by omega) (by omega) (by omega) (by omega)
  have qh := Has_any a (k : Int) x ha hx (by omega) (by omega)
  have qm := Cmp_any a (k : Int) a (k : Int) ha ha (by omega) (by omega) (by omega) (by omega)
  have qr := refCmp_any a (k : Int) a (k : Int) ha ha
  have em : cmpB a (k : Int) a (k : Int) = cmpP a (k : Int) a (k : Int) := by simp [cmpB, hg, hg]
  rw [em] at qm
  rw [cov_ref] at qc qw
  rw [has_ref] at qh
  have vv : refCovB a (k : Int) a (k : Int) = true := by
    have := (goodB_iff a k).1 hg
    unfold refCovB; rw [hg]; simp; simpa using this.2.2
  rw [vv] at qc qw
  rw [show (true && !decide (a = a ∧ (k : Int) = (k : Int))) = false by simp] at qw
  have v1 : RC a k a k true := ⟨ha, ha, vv⟩
  have v3 : RC a k x 32 (refCovB a k x 32) := ⟨ha, hx, rfl⟩
  generalize refCovB a k x 32 = HX at *
  have hcl : cutN a L < 4294967296 := Nat.lt_of_le_of_lt (cutN_le _ _) ha
  have v4 : RC (cutN a L) L a k true := ⟨hcl, ha, f1⟩
  have v5 : RC (cutN a L) L a k true := ⟨hcl, ha, f2⟩
  generalize cutN a L = C at *
  generalize cmpP a (k : Int) a (k : Int) = M at *
  have v6 : L ≤ 31 → RB a L (bitN a L) := fun h => ⟨ha, h, rfl⟩
  have v7 : L ≤ 31 → RB a L (bitN a L) := fun h => ⟨ha, h, rfl⟩
  generalize bitN a L = u at *
  unfold pfx at qg qq qo qc qw qh qm qr ⊢
  have QG := hide qg
  have QQ := hide qq
  have QO := hide qo
  have QC := hide qc
  have QW := hide qw
  have QH := hide qh
  have QM := hide qm
  have QR := hide qr
  have HRC := hide rc_call
  have HRB := hide rb_call
  have V6 := hide v6
  have V7 := hide v7
  have F4 := hide f4
  clear qg qq qo qc qw qh qm qr em f1 f2 hcl v6 v7 f4 hL hg 
  obtain ⟨k0, k1, k2, k3⟩ := boxes w (.int .u32 (a : Int)) (.int .i64 (k : Int)) (.int .u32 (a : Int)) (.int .i64 (k : Int)) 46 46
  go_enter Tryd.func10, Tryd.ntmps10
  go_wp2_with fail
  refine (QG.out _).mono ?_
  rintro e w1 ⟨rfl, hb1⟩
  obtain ⟨x1, rfl⟩ := far_of_below hb1
  go_wp2_with fail
  refine (QQ.out _).mono ?_
  rintro e w2 ⟨rfl, hb2⟩
  obtain ⟨x2, rfl⟩ := far_below hb2
  go_wp2_with fail
  refine (QO.out _).mono ?_
  rintro e w3 ⟨rfl, hb3⟩
  obtain ⟨x3, rfl⟩ := far_below hb3
  clear hb1 hb2 hb3
  go_wp2_with fail
  have A0 := (((Blk.new w 46 #[.int .u32 (a : Int), .int .i64 (k : Int)]).alloc (.cells #[.int .u32 (a : Int), .int .i64 (k : Int)] 46)).below (below_far _ x3) (by simp; omega))
  have A1 := ((by simpa using Blk.new (w.alloc (.cells #[.int .u32 (a : Int), .int .i64 (k : Int)] 46)) 46 #[.int .u32 (a : Int), .int .i64 (k : Int)] : Blk ((w.alloc (.cells #[.int .u32 (a : Int), .int .i64 (k : Int)] 46)).alloc (.cells #[.int .u32 (a : Int), .int .i64 (k : Int)] 46)) (w.heap.size + 1) _ _).below (below_far _ x3) (by simp))
  have hbw := below_boxes w (.cells #[.int .u32 (a : Int), .int .i64 (k : Int)] 46) (.cells #[.int .u32 (a : Int), .int .i64 (k : Int)] 46) x3
  clear k0 k1 k2 k3
  generalize far ((w.alloc (.cells #[.int .u32 (a : Int), .int .i64 (k : Int)] 46)).alloc (.cells #[.int .u32 (a : Int), .int .i64 (k : Int)] 46)) x3 = w4 at *
  refine code_gen (fun w5 => Blk w5 w.heap.size 46 #[.int .u32 (a : Int), .int .i64 (k : Int)] ∧ Blk w5 (w.heap.size + 1) 46 #[.int .u32 (a : Int), .int .i64 (k : Int)] ∧ Blk w5 w4.heap.size 46 #[.int .u32 (C : Int), .int .i64 (L : Int)] ∧ Below w.heap.size w w5)
    ⟨A0.alloc _, A1.alloc _, Blk.new _ _ _, hbw.alloc hbw.size _⟩ ?_
  clear A0 A1 hbw
  rintro w5 ⟨D0, D1, D2, hbw⟩
  have k0 := fun y => cell?_far y (blk_read D0 (i := 0) rfl)
  have k1 := fun y => cell?_far y (blk_read D0 (i := 1) rfl)
  have k2 := fun y => cell?_far y (blk_read D1 (i := 0) rfl)
  have k3 := fun y => cell?_far y (blk_read D1 (i := 1) rfl)
  have k4 := fun y => cell?_far y (blk_read D2 (i := 0) rfl)
  have k5 := fun y => cell?_far y (blk_read D2 (i := 1) rfl)
  have hend : ∀ y, Below w.heap.size w (far w5 y) := fun y => hbw.trans ((below_far _ _).mono hbw.size)
  have hT : ∀ y, Tab (far w5 y) := fun y => ht.below (hend y)
  have HE := hide hend
  have HT := hide hT
  clear hend hT hbw D0 D1 D2
  refine wp_region_far (by kernel_rfl) (by kernel_rfl) ?_
  iterate 31 (go_big_quiet_step ((first | (go_at_call 37; exact far_call (HRC.out _ _ _ _ _ (by assumption) _)) | (go_at_call 34; exact far_same (HRB.out _ _ _ (by assumption) _)) | (go_at_call 38; exact far_call (QC.out _)) | (go_at_call 45; exact far_call (QW.out _)) | (go_at_call 40; exact far_call (QH.out _)) | (go_at_call 39; exact far_call (QM.out _)) | (go_at_call 46; exact far_call (QR.out _)) | (go_at_call 35; exact far_call (plives_any _ (HT.out _))))))
  refine wpQuiet_nil ?_
  rintro _ ⟨nq31, rfl⟩
  go_wp2_with fail
  refine wp_region_far2 (by kernel_rfl) (by kernel_rfl) ?_
  iterate 19 (go_big_quiet_step ((first | (go_at_call 37; exact far_call (HRC.out _ _ _ _ _ (by assumption) _)) | (go_at_call 34; exact far_same (HRB.out _ _ _ (by assumption) _)) | (go_at_call 38; exact far_call (QC.out _)) | (go_at_call 45; exact far_call (QW.out _)) | (go_at_call 40; exact far_call (QH.out _)) | (go_at_call 39; exact far_call (QM.out _)) | (go_at_call 46; exact far_call (QR.out _)) | (go_at_call 35; exact far_call (plives_any _ (HT.out _))))))
  refine wpQuiet_nil ?_
  rintro _ ⟨nq19, rfl⟩
  go_wp2_with fail
  rcases F4.out with h | ⟨h, h'⟩ | ⟨h, h', h31, hne⟩
  · have g1 : decide ((L : Int) < (k : Int)) = false := by simp; omega
    refine wp_region_far2 (by kernel_rfl) (by kernel_rfl) ?_
    iterate 26 (go_big_quiet_step ((first | (go_at_call 37; exact far_call (HRC.out _ _ _ _ _ (by assumption) _)) | (go_at_call 34; exact far_same (HRB.out _ _ _ (by assumption) _)) | (go_at_call 38; exact far_call (QC.out _)) | (go_at_call 45; exact far_call (QW.out _)) | (go_at_call 40; exact far_call (QH.out _)) | (go_at_call 39; exact far_call (QM.out _)) | (go_at_call 46; exact far_call (QR.out _)) | (go_at_call 35; exact far_call (plives_any _ (HT.out _))))))
    refine wpQuiet_nil ?_
    rintro _ ⟨nq26, rfl⟩
    go_wp2_with fail
    refine (plives_any _ (HT.out _)).mono ?_
    rintro e w7 ⟨rfl, hb7⟩
    obtain ⟨x7, rfl⟩ := far_below hb7
    go_wp2
    go_ret
    exact ⟨rfl, HE.out _⟩
  · exact absurd h h'
  · exact absurd rfl hne


set_option maxRecDepth 100000 in
set_option maxHeartbeats 8000000 in
theorem covers_F0 (a k b j x : Nat) (ha : a < 4294967296) (hb : b < 4294967296) (hx : x < 4294967296) (hk : k ≤ 32) (hj : j ≤ 32) (hg : goodB a (k : Int) = true) (hh : goodB b (j : Int) = true) (hv : refCovB b j a k = false) (w : World) (ht : Tab w) :
    Calls Tryd.prog 10 #[pfx a k, pfx b j, .int .u32 x] w (GoodP true w) := by
  obtain ⟨L, hL⟩ : ∃ L, min (min (comN a b) k) j = L := ⟨_, rfl⟩
  obtain ⟨f1, f2, f4⟩ := common_law a k b j ha hb hk hj hg hh L hL
  have qg := refGood_any a (k : Int) ha
  have qq := refGood_any b (j : Int) hb
  rw [hg] at qg
  rw [hh] at qq
  have qo := common_good a k b j ha hb hk hj hg hh
  rw [hL] at qo
  have qc := Covers_any a (k : Int) b (j : Int) ha hb (by omega) (by omega) (by omega) (by omega)
  have qw := Within_any a (k : Int) b (j : Int) ha hb (by omega) (by omega) (by omega) (by omega)
  have qh := Has_any a (k : Int) x ha hx (by omega) (by omega)
  have qm := Cmp_any a (k : Int) b (j : Int) ha hb (by omega) (by omega) (by omega) (by omega)
  have qr := refCmp_any a (k : Int) b (j : Int) ha hb
  have em : cmpB a (k : Int) b (j : Int) = cmpP a (k : Int) b (j : Int) := by simp [cmpB, hg, hh]
  rw [em] at qm
  rw [cov_ref] at qc qw
  rw [has_ref] at qh
  rw [hv] at qw
  rw [show (false && !decide (a = b ∧ (k : Int) = (j : Int))) = false by simp] at qw
  have v1 : RC a k b j (refCovB a k b j) := ⟨ha, hb, rfl⟩
  have v2 : RC b j a k (false) := ⟨hb, ha, hv⟩
  generalize refCovB a k b j = V at *
  have v3 : RC a k x 32 (refCovB a k x 32) := ⟨ha, hx, rfl⟩
  generalize refCovB a k x 32 = HX at *
  have hcl : cutN a L < 4294967296 := Nat.lt_of_le_of_lt (cutN_le _ _) ha
  have v4 : RC (cutN a L) L a k true := ⟨hcl, ha, f1⟩
  have v5 : RC (cutN a L) L b j true := ⟨hcl, hb, f2⟩
  generalize cutN a L = C at *
  generalize cmpP a (k : Int) b (j : Int) = M at *
  have v6 : L ≤ 31 → RB a L (bitN a L) := fun h => ⟨ha, h, rfl⟩
  have v7 : L ≤ 31 → RB b L (bitN b L) := fun h => ⟨hb, h, rfl⟩
  generalize bitN a L = u at *
  generalize bitN b L = u2 at *
  unfold pfx at qg qq qo qc qw qh qm qr ⊢
  have QG := hide qg
  have QQ := hide qq
  have QO := hide qo
  have QC := hide qc
  have QW := hide qw
  have QH := hide qh
  have QM := hide qm
  have QR := hide qr
  have HRC := hide rc_call
  have HRB := hide rb_call
  have V6 := hide v6
  have V7 := hide v7
  have F4 := hide f4
  clear qg qq qo qc qw qh qm qr em f1 f2 hcl v6 v7 f4 hL hg hh hv
  obtain ⟨k0, k1, k2, k3⟩ := boxes w (.int .u32 (a : Int)) (.int .i64 (k : Int)) (.int .u32 (b : Int)) (.int .i64 (j : Int)) 46 46
  go_enter Tryd.func10, Tryd.ntmps10
  go_wp2_with fail
  refine (QG.out _).mono ?_
  rintro e w1 ⟨rfl, hb1⟩
  obtain ⟨x1, rfl⟩ := far_of_below hb1
  go_wp2_with fail
  refine (QQ.out _).mono ?_
  rintro e w2 ⟨rfl, hb2⟩
  obtain ⟨x2, rfl⟩ := far_below hb2
  go_wp2_with fail
  refine (QO.out _).mono ?_
  rintro e w3 ⟨rfl, hb3⟩
  obtain ⟨x3, rfl⟩ := far_below hb3
  clear hb1 hb2 hb3
  go_wp2_with fail
  have A0 := (((Blk.new w 46 #[.int .u32 (a : Int), .int .i64 (k : Int)]).alloc (.cells #[.int .u32 (b : Int), .int .i64 (j : Int)] 46)).below (below_far _ x3) (by simp; omega))
  have A1 := ((by simpa using Blk.new (w.alloc (.cells #[.int .u32 (a : Int), .int .i64 (k : Int)] 46)) 46 #[.int .u32 (b : Int), .int .i64 (j : Int)] : Blk ((w.alloc (.cells #[.int .u32 (a : Int), .int .i64 (k : Int)] 46)).alloc (.cells #[.int .u32 (b : Int), .int .i64 (j : Int)] 46)) (w.heap.size + 1) _ _).below (below_far _ x3) (by simp))
  have hbw := below_boxes w (.cells #[.int .u32 (a : Int), .int .i64 (k : Int)] 46) (.cells #[.int .u32 (b : Int), .int .i64 (j : Int)] 46) x3
  clear k0 k1 k2 k3
  generalize far ((w.alloc (.cells #[.int .u32 (a : Int), .int .i64 (k : Int)] 46)).alloc (.cells #[.int .u32 (b : Int), .int .i64 (j : Int)] 46)) x3 = w4 at *
  refine code_gen (fun w5 => Blk w5 w.heap.size 46 #[.int .u32 (a : Int), .int .i64 (k : Int)] ∧ Blk w5 (w.heap.size + 1) 46 #[.int .u32 (b : Int), .int .i64 (j : Int)] ∧ Blk w5 w4.heap.size 46 #[.int .u32 (C : Int), .int .i64 (L : Int)] ∧ Below w.heap.size w w5)
    ⟨A0.alloc _, A1.alloc _, Blk.new _ _ _, hbw.alloc hbw.size _⟩ ?_
  clear A0 A1 hbw
  rintro w5 ⟨D0, D1, D2, hbw⟩
  have k0 := fun y => cell?_far y (blk_read D0 (i := 0) rfl)
  have k1 := fun y => cell?_far y (blk_read D0 (i := 1) rfl)
  have k2 := fun y => cell?_far y (blk_read D1 (i := 0) rfl)
  have k3 := fun y => cell?_far y (blk_read D1 (i := 1) rfl)
  have k4 := fun y => cell?_far y (blk_read D2 (i := 0) rfl)
  have k5 := fun y => cell?_far y (blk_read D2 (i := 1) rfl)
  have hend : ∀ y, Below w.heap.size w (far w5 y) := fun y => hbw.trans ((below_far _ _).mono hbw.size)
  have hT : ∀ y, Tab (far w5 y) := fun y => ht.below (hend y)
  have HE := hide hend
  have HT := hide hT
  clear hend hT hbw D0 D1 D2
  refine wp_region_far (by kernel_rfl) (by kernel_rfl) ?_
  iterate 31 (go_big_quiet_step ((first | (go_at_call 37; exact far_call (HRC.out _ _ _ _ _ (by assumption) _)) | (go_at_call 34; exact far_same (HRB.out _ _ _ (by assumption) _)) | (go_at_call 38; exact far_call (QC.out _)) | (go_at_call 45; exact far_call (QW.out _)) | (go_at_call 40; exact far_call (QH.out _)) | (go_at_call 39; exact far_call (QM.out _)) | (go_at_call 46; exact far_call (QR.out _)) | (go_at_call 35; exact far_call (plives_any _ (HT.out _))))))
  refine wpQuiet_nil ?_
  rintro _ ⟨nq31, rfl⟩
  go_wp2_with fail
  refine wp_region_far2 (by kernel_rfl) (by kernel_rfl) ?_
  iterate 19 (go_big_quiet_step ((first | (go_at_call 37; exact far_call (HRC.out _ _ _ _ _ (by assumption) _)) | (go_at_call 34; exact far_same (HRB.out _ _ _ (by assumption) _)) | (go_at_call 38; exact far_call (QC.out _)) | (go_at_call 45; exact far_call (QW.out _)) | (go_at_call 40; exact far_call (QH.out _)) | (go_at_call 39; exact far_call (QM.out _)) | (go_at_call 46; exact far_call (QR.out _)) | (go_at_call 35; exact far_call (plives_any _ (HT.out _))))))
  refine wpQuiet_nil ?_
  rintro _ ⟨nq19, rfl⟩
  go_wp2_with fail
  rcases F4.out with h | ⟨h, h'⟩ | ⟨h, h', h31, hne⟩
  · have g1 : decide ((L : Int) < (k : Int)) = false := by simp; omega
    refine wp_region_far2 (by kernel_rfl) (by kernel_rfl) ?_
    iterate 26 (go_big_quiet_step ((first | (go_at_call 37; exact far_call (HRC.out _ _ _ _ _ (by assumption) _)) | (go_at_call 34; exact far_same (HRB.out _ _ _ (by assumption) _)) | (go_at_call 38; exact far_call (QC.out _)) | (go_at_call 45; exact far_call (QW.out _)) | (go_at_call 40; exact far_call (QH.out _)) | (go_at_call 39; exact far_call (QM.out _)) | (go_at_call 46; exact far_call (QR.out _)) | (go_at_call 35; exact far_call (plives_any _ (HT.out _))))))
    refine wpQuiet_nil ?_
    rintro _ ⟨nq26, rfl⟩
    go_wp2_with fail
    refine (plives_any _ (HT.out _)).mono ?_
    rintro e w7 ⟨rfl, hb7⟩
    obtain ⟨x7, rfl⟩ := far_below hb7
    go_wp2
    go_ret
    exact ⟨rfl, HE.out _⟩
  · have g1 : decide ((L : Int) < (k : Int)) = true := by simp; omega
    have g2 : decide ((L : Int) < (j : Int)) = false := by simp; omega
    refine wp_region_far2 (by kernel_rfl) (by kernel_rfl) ?_
    iterate 26 (go_big_quiet_step ((first | (go_at_call 37; exact far_call (HRC.out _ _ _ _ _ (by assumption) _)) | (go_at_call 34; exact far_same (HRB.out _ _ _ (by assumption) _)) | (go_at_call 38; exact far_call (QC.out _)) | (go_at_call 45; exact far_call (QW.out _)) | (go_at_call 40; exact far_call (QH.out _)) | (go_at_call 39; exact far_call (QM.out _)) | (go_at_call 46; exact far_call (QR.out _)) | (go_at_call 35; exact far_call (plives_any _ (HT.out _))))))
    refine wpQuiet_nil ?_
    rintro _ ⟨nq26, rfl⟩
    go_wp2_with fail
    refine (plives_any _ (HT.out _)).mono ?_
    rintro e w7 ⟨rfl, hb7⟩
    obtain ⟨x7, rfl⟩ := far_below hb7
    go_wp2
    go_ret
    exact ⟨rfl, HE.out _⟩
  · have g1 : decide ((L : Int) < (k : Int)) = true := by simp; omega
    have g2 : decide ((L : Int) < (j : Int)) = true := by simp; omega
    have g3 : ((u : Int) == (u2 : Int)) = false := by simp; omega
    have g4 := V6.out h31
    have g5 := V7.out h31
    refine wp_region_far2 (by kernel_rfl) (by kernel_rfl) ?_
    iterate 26 (go_big_quiet_step ((first | (go_at_call 37; exact far_call (HRC.out _ _ _ _ _ (by assumption) _)) | (go_at_call 34; exact far_same (HRB.out _ _ _ (by assumption) _)) | (go_at_call 38; exact far_call (QC.out _)) | (go_at_call 45; exact far_call (QW.out _)) | (go_at_call 40; exact far_call (QH.out _)) | (go_at_call 39; exact far_call (QM.out _)) | (go_at_call 46; exact far_call (QR.out _)) | (go_at_call 35; exact far_call (plives_any _ (HT.out _))))))
    refine wpQuiet_nil ?_
    rintro _ ⟨nq26, rfl⟩
    go_wp2_with fail
    refine (plives_any _ (HT.out _)).mono ?_
    rintro e w7 ⟨rfl, hb7⟩
    obtain ⟨x7, rfl⟩ := far_below hb7
    go_wp2
    go_ret
    exact ⟨rfl, HE.out _⟩


set_option maxRecDepth 100000 in
set_option maxHeartbeats 8000000 in
theorem covers_F1 (a k b j x : Nat) (ha : a < 4294967296) (hb : b < 4294967296) (hx : x < 4294967296) (hk : k ≤ 32) (hj : j ≤ 32) (hg : goodB a (k : Int) = true) (hh : goodB b (j : Int) = true) (hv : refCovB b j a k = true) (hab : ¬ a = b) (w : World) (ht : Tab w) :
    Calls Tryd.prog 10 #[pfx a k, pfx b j, .int .u32 x] w (GoodP true w) := by
  obtain ⟨L, hL⟩ : ∃ L, min (min (comN a b) k) j = L := ⟨_, rfl⟩
  obtain ⟨f1, f2, f4⟩ := common_law a k b j ha hb hk hj hg hh L hL
  have qg := refGood_any a (k : Int) ha
  have qq := refGood_any b (j : Int) hb
  rw [hg] at qg
  rw [hh] at qq
  have qo := common_good a k b j ha hb hk hj hg hh
  rw [hL] at qo
  have qc := Covers_any a (k : Int) b (j : Int) ha hb (by omega) (by omega) (by omega) (by omega)
  have qw := Within_any a (k : Int) b (j : Int) ha hb (by omega) (by omega) (by omega) (by omega)
  have qh := Has_any a (k : Int) x ha hx (by omega) (by omega)
  have qm := Cmp_any a (k : Int) b (j : Int) ha hb (by omega) (by omega) (by omega) (by omega)
  have qr := refCmp_any a (k : Int) b (j : Int) ha hb
  have em : cmpB a (k : Int) b (j : Int) = cmpP a (k : Int) b (j : Int) := by simp [cmpB, hg, hh]
  rw [em] at qm
  rw [cov_ref] at qc qw
  rw [has_ref] at qh
  rw [hv] at qw
  rw [show (true && !decide (a = b ∧ (k : Int) = (j : Int))) = true by simp; omega] at qw
  have v1 : RC a k b j (refCovB a k b j) := ⟨ha, hb, rfl⟩
  have v2 : RC b j a k (true) := ⟨hb, ha, hv⟩
  generalize refCovB a k b j = V at *
  have v3 : RC a k x 32 (refCovB a k x 32) := ⟨ha, hx, rfl⟩
  generalize refCovB a k x 32 = HX at *
  have hcl : cutN a L < 4294967296 := Nat.lt_of_le_of_lt (cutN_le _ _) ha
  have v4 : RC (cutN a L) L a k true := ⟨hcl, ha, f1⟩
  have v5 : RC (cutN a L) L b j true := ⟨hcl, hb, f2⟩
  generalize cutN a L = C at *
  generalize cmpP a (k : Int) b (j : Int) = M at *
  have v6 : L ≤ 31 → RB a L (bitN a L) := fun h => ⟨ha, h, rfl⟩
  have v7 : L ≤ 31 → RB b L (bitN b L) := fun h => ⟨hb, h, rfl⟩
  generalize bitN a L = u at *
  generalize bitN b L = u2 at *
  unfold pfx at qg qq qo qc qw qh qm qr ⊢
  have QG := hide qg
  have QQ := hide qq
  have QO := hide qo
  have QC := hide qc
  have QW := hide qw
  have QH := hide qh
  have QM := hide qm
  have QR := hide qr
  have HRC := hide rc_call
  have HRB := hide rb_call
  have V6 := hide v6
  have V7 := hide v7
  have F4 := hide f4
  clear qg qq qo qc qw qh qm qr em f1 f2 hcl v6 v7 f4 hL hg hh hv
  obtain ⟨k0, k1, k2, k3⟩ := boxes w (.int .u32 (a : Int)) (.int .i64 (k : Int)) (.int .u32 (b : Int)) (.int .i64 (j : Int)) 46 46
  go_enter Tryd.func10, Tryd.ntmps10
  go_wp2_with fail
  refine (QG.out _).mono ?_
  rintro e w1 ⟨rfl, hb1⟩
  obtain ⟨x1, rfl⟩ := far_of_below hb1
  go_wp2_with fail
  refine (QQ.out _).mono ?_
  rintro e w2 ⟨rfl, hb2⟩
  obtain ⟨x2, rfl⟩ := far_below hb2
  go_wp2_with fail
  refine (QO.out _).mono ?_
  rintro e w3 ⟨rfl, hb3⟩
  obtain ⟨x3, rfl⟩ := far_below hb3
  clear hb1 hb2 hb3
  go_wp2_with fail
  have A0 := (((Blk.new w 46 #[.int .u32 (a : Int), .int .i64 (k : Int)]).alloc (.cells #[.int .u32 (b : Int), .int .i64 (j : Int)] 46)).below (below_far _ x3) (by simp; omega))
  have A1 := ((by simpa using Blk.new (w.alloc (.cells #[.int .u32 (a : Int), .int .i64 (k : Int)] 46)) 46 #[.int .u32 (b : Int), .int .i64 (j : Int)] : Blk ((w.alloc (.cells #[.int .u32 (a : Int), .int .i64 (k : Int)] 46)).alloc (.cells #[.int .u32 (b : Int), .int .i64 (j : Int)] 46)) (w.heap.size + 1) _ _).below (below_far _ x3) (by simp))
  have hbw := below_boxes w (.cells #[.int .u32 (a : Int), .int .i64 (k : Int)] 46) (.cells #[.int .u32 (b : Int), .int .i64 (j : Int)] 46) x3
  clear k0 k1 k2 k3
  generalize far ((w.alloc (.cells #[.int .u32 (a : Int), .int .i64 (k : Int)] 46)).alloc (.cells #[.int .u32 (b : Int), .int .i64 (j : Int)] 46)) x3 = w4 at *
  refine code_gen (fun w5 => Blk w5 w.heap.size 46 #[.int .u32 (a : Int), .int .i64 (k : Int)] ∧ Blk w5 (w.heap.size + 1) 46 #[.int .u32 (b : Int), .int .i64 (j : Int)] ∧ Blk w5 w4.heap.size 46 #[.int .u32 (C : Int), .int .i64 (L : Int)] ∧ Below w.heap.size w w5)
    ⟨A0.alloc _, A1.alloc _, Blk.new _ _ _, hbw.alloc hbw.size _⟩ ?_
  clear A0 A1 hbw
  rintro w5 ⟨D0, D1, D2, hbw⟩
  have k0 := fun y => cell?_far y (blk_read D0 (i := 0) rfl)
  have k1 := fun y => cell?_far y (blk_read D0 (i := 1) rfl)
  have k2 := fun y => cell?_far y (blk_read D1 (i := 0) rfl)
  have k3 := fun y => cell?_far y (blk_read D1 (i := 1) rfl)
  have k4 := fun y => cell?_far y (blk_read D2 (i := 0) rfl)
  have k5 := fun y => cell?_far y (blk_read D2 (i := 1) rfl)
  have hend : ∀ y, Below w.heap.size w (far w5 y) := fun y => hbw.trans ((below_far _ _).mono hbw.size)
  have hT : ∀ y, Tab (far w5 y) := fun y => ht.below (hend y)
  have HE := hide hend
  have HT := hide hT
  clear hend hT hbw D0 D1 D2
  refine wp_region_far (by kernel_rfl) (by kernel_rfl) ?_
  iterate 31 (go_big_quiet_step ((first | (go_at_call 37; exact far_call (HRC.out _ _ _ _ _ (by assumption) _)) | (go_at_call 34; exact far_same (HRB.out _ _ _ (by assumption) _)) | (go_at_call 38; exact far_call (QC.out _)) | (go_at_call 45; exact far_call (QW.out _)) | (go_at_call 40; exact far_call (QH.out _)) | (go_at_call 39; exact far_call (QM.out _)) | (go_at_call 46; exact far_call (QR.out _)) | (go_at_call 35; exact far_call (plives_any _ (HT.out _))))))
  refine wpQuiet_nil ?_
  rintro _ ⟨nq31, rfl⟩
  go_wp2_with fail
  refine wp_region_far2 (by kernel_rfl) (by kernel_rfl) ?_
  iterate 19 (go_big_quiet_step ((first | (go_at_call 37; exact far_call (HRC.out _ _ _ _ _ (by assumption) _)) | (go_at_call 34; exact far_same (HRB.out _ _ _ (by assumption) _)) | (go_at_call 38; exact far_call (QC.out _)) | (go_at_call 45; exact far_call (QW.out _)) | (go_at_call 40; exact far_call (QH.out _)) | (go_at_call 39; exact far_call (QM.out _)) | (go_at_call 46; exact far_call (QR.out _)) | (go_at_call 35; exact far_call (plives_any _ (HT.out _))))))
  refine wpQuiet_nil ?_
  rintro _ ⟨nq19, rfl⟩
  go_wp2_with fail
  rcases F4.out with h | ⟨h, h'⟩ | ⟨h, h', h31, hne⟩
  · have g1 : decide ((L : Int) < (k : Int)) = false := by simp; omega
    refine wp_region_far2 (by kernel_rfl) (by kernel_rfl) ?_
    iterate 26 (go_big_quiet_step ((first | (go_at_call 37; exact far_call (HRC.out _ _ _ _ _ (by assumption) _)) | (go_at_call 34; exact far_same (HRB.out _ _ _ (by assumption) _)) | (go_at_call 38; exact far_call (QC.out _)) | (go_at_call 45; exact far_call (QW.out _)) | (go_at_call 40; exact far_call (QH.out _)) | (go_at_call 39; exact far_call (QM.out _)) | (go_at_call 46; exact far_call (QR.out _)) | (go_at_call 35; exact far_call (plives_any _ (HT.out _))))))
    refine wpQuiet_nil ?_
    rintro _ ⟨nq26, rfl⟩
    go_wp2_with fail
    refine (plives_any _ (HT.out _)).mono ?_
    rintro e w7 ⟨rfl, hb7⟩
    obtain ⟨x7, rfl⟩ := far_below hb7
    go_wp2
    go_ret
    exact ⟨rfl, HE.out _⟩
  · have g1 : decide ((L : Int) < (k : Int)) = true := by simp; omega
    have g2 : decide ((L : Int) < (j : Int)) = false := by simp; omega
    refine wp_region_far2 (by kernel_rfl) (by kernel_rfl) ?_
    iterate 26 (go_big_quiet_step ((first | (go_at_call 37; exact far_call (HRC.out _ _ _ _ _ (by assumption) _)) | (go_at_call 34; exact far_same (HRB.out _ _ _ (by assumption) _)) | (go_at_call 38; exact far_call (QC.out _)) | (go_at_call 45; exact far_call (QW.out _)) | (go_at_call 40; exact far_call (QH.out _)) | (go_at_call 39; exact far_call (QM.out _)) | (go_at_call 46; exact far_call (QR.out _)) | (go_at_call 35; exact far_call (plives_any _ (HT.out _))))))
    refine wpQuiet_nil ?_
    rintro _ ⟨nq26, rfl⟩
    go_wp2_with fail
    refine (plives_any _ (HT.out _)).mono ?_
    rintro e w7 ⟨rfl, hb7⟩
    obtain ⟨x7, rfl⟩ := far_below hb7
    go_wp2
    go_ret
    exact ⟨rfl, HE.out _⟩
  · have g1 : decide ((L : Int) < (k : Int)) = true := by simp; omega
    have g2 : decide ((L : Int) < (j : Int)) = true := by simp; omega
    have g3 : ((u : Int) == (u2 : Int)) = false := by simp; omega
    have g4 := V6.out h31
    have g5 := V7.out h31
    refine wp_region_far2 (by kernel_rfl) (by kernel_rfl) ?_
    iterate 26 (go_big_quiet_step ((first | (go_at_call 37; exact far_call (HRC.out _ _ _ _ _ (by assumption) _)) | (go_at_call 34; exact far_same (HRB.out _ _ _ (by assumption) _)) | (go_at_call 38; exact far_call (QC.out _)) | (go_at_call 45; exact far_call (QW.out _)) | (go_at_call 40; exact far_call (QH.out _)) | (go_at_call 39; exact far_call (QM.out _)) | (go_at_call 46; exact far_call (QR.out _)) | (go_at_call 35; exact far_call (plives_any _ (HT.out _))))))
    refine wpQuiet_nil ?_
    rintro _ ⟨nq26, rfl⟩
    go_wp2_with fail
    refine (plives_any _ (HT.out _)).mono ?_
    rintro e w7 ⟨rfl, hb7⟩
    obtain ⟨x7, rfl⟩ := far_below hb7
    go_wp2
    go_ret
    exact ⟨rfl, HE.out _⟩


set_option maxRecDepth 100000 in
set_option maxHeartbeats 8000000 in
theorem covers_F2 (a k b j x : Nat) (ha : a < 4294967296) (hb : b < 4294967296) (hx : x < 4294967296) (hk : k ≤ 32) (hj : j ≤ 32) (hg : goodB a (k : Int) = true) (hh : goodB b (j : Int) = true) (hv : refCovB b j a k = true) (hkj : ¬ k = j) (hab : a = b) (w : World) (ht : Tab w) :
    Calls Tryd.prog 10 #[pfx a k, pfx b j, .int .u32 x] w (GoodP true w) := by
  obtain ⟨L, hL⟩ : ∃ L, min (min (comN a b) k) j = L := ⟨_, rfl⟩
  obtain ⟨f1, f2, f4⟩ := common_law a k b j ha hb hk hj hg hh L hL
  have qg := refGood_any a (k : Int) ha
  have qq := refGood_any b (j : Int) hb
  rw [hg] at qg
  rw [hh] at qq
  have qo := common_good a k b j ha hb hk hj hg hh
  rw [hL] at qo
  have qc := Covers_any a (k : Int) b (j : Int) ha hb (by omega) (by omega) (by omega) (by omega)
  have qw := Within_any a (k : Int) b (j : Int) ha hb (by omega) (by omega) (by omega) (by omega)
  have qh := Has_any a (k : Int) x ha hx (by omega) (by omega)
  have qm := Cmp_any a (k : Int) b (j : Int) ha hb (by omega) (by omega) (by omega) (by omega)
  have qr := refCmp_any a (k : Int) b (j : Int) ha hb
  have em : cmpB a (k : Int) b (j : Int) = cmpP a (k : Int) b (j : Int) := by simp [cmpB, hg, hh]
  rw [em] at qm
  rw [cov_ref] at qc qw
  rw [has_ref] at qh
  rw [hv] at qw
  rw [show (true && !decide (a = b ∧ (k : Int) = (j : Int))) = true by simp; omega] at qw
  have v1 : RC a k b j (refCovB a k b j) := ⟨ha, hb, rfl⟩
  have v2 : RC b j a k (true) := ⟨hb, ha, hv⟩
  generalize refCovB a k b j = V at *
  subst hab
  have v3 : RC a k x 32 (refCovB a k x 32) := ⟨ha, hx, rfl⟩
  generalize refCovB a k x 32 = HX at *
  have hcl : cutN a L < 4294967296 := Nat.lt_of_le_of_lt (cutN_le _ _) ha
  have v4 : RC (cutN a L) L a k true := ⟨hcl, ha, f1⟩
  have v5 : RC (cutN a L) L a j true := ⟨hcl, ha, f2⟩
  generalize cutN a L = C at *
  generalize cmpP a (k : Int) a (j : Int) = M at *
  have v6 : L ≤ 31 → RB a L (bitN a L) := fun h => ⟨ha, h, rfl⟩
  have v7 : L ≤ 31 → RB a L (bitN a L) := fun h => ⟨ha, h, rfl⟩
  generalize bitN a L = u at *
  unfold pfx at qg qq qo qc qw qh qm qr ⊢
  have QG := hide qg
  have QQ := hide qq
  have QO := hide qo
  have QC := hide qc
  have QW := hide qw
  have QH := hide qh
  have QM := hide qm
  have QR := hide qr
  have HRC := hide rc_call
  have HRB := hide rb_call
  have V6 := hide v6
  have V7 := hide v7
  have F4 := hide f4
  clear qg qq qo qc qw qh qm qr em f1 f2 hcl v6 v7 f4 hL hg hh hv
  obtain ⟨k0, k1, k2, k3⟩ := boxes w (.int .u32 (a : Int)) (.int .i64 (k : Int)) (.int .u32 (a : Int)) (.int .i64 (j : Int)) 46 46
  go_enter Tryd.func10, Tryd.ntmps10
  go_wp2_with fail
  refine (QG.out _).mono ?_
  rintro e w1 ⟨rfl, hb1⟩
  obtain ⟨x1, rfl⟩ := far_of_below hb1
  go_wp2_with fail
  refine (QQ.out _).mono ?_
  rintro e w2 ⟨rfl, hb2⟩
  obtain ⟨x2, rfl⟩ := far_below hb2
  go_wp2_with fail
  refine (QO.out _).mono ?_
  rintro e w3 ⟨rfl, hb3⟩
  obtain ⟨x3, rfl⟩ := far_below hb3
  clear hb1 hb2 hb3
  go_wp2_with fail
  have A0 := (((Blk.new w 46 #[.int .u32 (a : Int), .int .i64 (k : Int)]).alloc (.cells #[.int .u32 (a : Int), .int .i64 (j : Int)] 46)).below (below_far _ x3) (by simp; omega))
  have A1 := ((by simpa using Blk.new (w.alloc (.cells #[.int .u32 (a : Int), .int .i64 (k : Int)] 46)) 46 #[.int .u32 (a : Int), .int .i64 (j : Int)] : Blk ((w.alloc (.cells #[.int .u32 (a : Int), .int .i64 (k : Int)] 46)).alloc (.cells #[.int .u32 (a : Int), .int .i64 (j : Int)] 46)) (w.heap.size + 1) _ _).below (below_far _ x3) (by simp))
  have hbw := below_boxes w (.cells #[.int .u32 (a : Int), .int .i64 (k : Int)] 46) (.cells #[.int .u32 (a : Int), .int .i64 (j : Int)] 46) x3
  clear k0 k1 k2 k3
  generalize far ((w.alloc (.cells #[.int .u32 (a : Int), .int .i64 (k : Int)] 46)).alloc (.cells #[.int .u32 (a : Int), .int .i64 (j : Int)] 46)) x3 = w4 at *
  refine code_gen (fun w5 => Blk w5 w.heap.size 46 #[.int .u32 (a : Int), .int .i64 (k : Int)] ∧ Blk w5 (w.heap.size + 1) 46 #[.int .u32 (a : Int), .int .i64 (j : Int)] ∧ Blk w5 w4.heap.size 46 #[.int .u32 (C : Int), .int .i64 (L : Int)] ∧ Below w.heap.size w w5)
    ⟨A0.alloc _, A1.alloc _, Blk.new _ _ _, hbw.alloc hbw.size _⟩ ?_
  clear A0 A1 hbw
  rintro w5 ⟨D0, D1, D2, hbw⟩
  have k0 := fun y => cell?_far y (blk_read D0 (i := 0) rfl)
  have k1 := fun y => cell?_far y (blk_read D0 (i := 1) rfl)
  have k2 := fun y => cell?_far y (blk_read D1 (i := 0) rfl)
  have k3 := fun y => cell?_far y (blk_read D1 (i := 1) rfl)
  have k4 := fun y => cell?_far y (blk_read D2 (i := 0) rfl)
  have k5 := fun y => cell?_far y (blk_read D2 (i := 1) rfl)
  have hend : ∀ y, Below w.heap.size w (far w5 y) := fun y => hbw.trans ((below_far _ _).mono hbw.size)
  have hT : ∀ y, Tab (far w5 y) := fun y => ht.below (hend y)
  have HE := hide hend
  have HT := hide hT
  clear hend hT hbw D0 D1 D2
  refine wp_region_far (by kernel_rfl) (by kernel_rfl) ?_
  iterate 31 (go_big_quiet_step ((first | (go_at_call 37; exact far_call (HRC.out _ _ _ _ _ (by assumption) _)) | (go_at_call 34; exact far_same (HRB.out _ _ _ (by assumption) _)) | (go_at_call 38; exact far_call (QC.out _)) | (go_at_call 45; exact far_call (QW.out _)) | (go_at_call 40; exact far_call (QH.out _)) | (go_at_call 39; exact far_call (QM.out _)) | (go_at_call 46; exact far_call (QR.out _)) | (go_at_call 35; exact far_call (plives_any _ (HT.out _))))))
  refine wpQuiet_nil ?_
  rintro _ ⟨nq31, rfl⟩
  go_wp2_with fail
  refine wp_region_far2 (by kernel_rfl) (by kernel_rfl) ?_
  iterate 19 (go_big_quiet_step ((first | (go_at_call 37; exact far_call (HRC.out _ _ _ _ _ (by assumption) _)) | (go_at_call 34; exact far_same (HRB.out _ _ _ (by assumption) _)) | (go_at_call 38; exact far_call (QC.out _)) | (go_at_call 45; exact far_call (QW.out _)) | (go_at_call 40; exact far_call (QH.out _)) | (go_at_call 39; exact far_call (QM.out _)) | (go_at_call 46; exact far_call (QR.out _)) | (go_at_call 35; exact far_call (plives_any _ (HT.out _))))))
  refine wpQuiet_nil ?_
  rintro _ ⟨nq19, rfl⟩
  go_wp2_with fail
  rcases F4.out with h | ⟨h, h'⟩ | ⟨h, h', h31, hne⟩
  · have g1 : decide ((L : Int) < (k : Int)) = false := by simp; omega
    refine wp_region_far2 (by kernel_rfl) (by kernel_rfl) ?_
    iterate 26 (go_big_quiet_step ((first | (go_at_call 37; exact far_call (HRC.out _ _ _ _ _ (by assumption) _)) | (go_at_call 34; exact far_same (HRB.out _ _ _ (by assumption) _)) | (go_at_call 38; exact far_call (QC.out _)) | (go_at_call 45; exact far_call (QW.out _)) | (go_at_call 40; exact far_call (QH.out _)) | (go_at_call 39; exact far_call (QM.out _)) | (go_at_call 46; exact far_call (QR.out _)) | (go_at_call 35; exact far_call (plives_any _ (HT.out _))))))
    refine wpQuiet_nil ?_
    rintro _ ⟨nq26, rfl⟩
    go_wp2_with fail
    refine (plives_any _ (HT.out _)).mono ?_
    rintro e w7 ⟨rfl, hb7⟩
    obtain ⟨x7, rfl⟩ := far_below hb7
    go_wp2
    go_ret
    exact ⟨rfl, HE.out _⟩
  · have g1 : decide ((L : Int) < (k : Int)) = true := by simp; omega
    have g2 : decide ((L : Int) < (j : Int)) = false := by simp; omega
    refine wp_region_far2 (by kernel_rfl) (by kernel_rfl) ?_
    iterate 26 (go_big_quiet_step ((first | (go_at_call 37; exact far_call (HRC.out _ _ _ _ _ (by assumption) _)) | (go_at_call 34; exact far_same (HRB.out _ _ _ (by assumption) _)) | (go_at_call 38; exact far_call (QC.out _)) | (go_at_call 45; exact far_call (QW.out _)) | (go_at_call 40; exact far_call (QH.out _)) | (go_at_call 39; exact far_call (QM.out _)) | (go_at_call 46; exact far_call (QR.out _)) | (go_at_call 35; exact far_call (plives_any _ (HT.out _))))))
    refine wpQuiet_nil ?_
    rintro _ ⟨nq26, rfl⟩
    go_wp2_with fail
    refine (plives_any _ (HT.out _)).mono ?_
    rintro e w7 ⟨rfl, hb7⟩
    obtain ⟨x7, rfl⟩ := far_below hb7
    go_wp2
    go_ret
    exact ⟨rfl, HE.out _⟩
  · exact absurd rfl hne


set_option maxRecDepth 100000 in
set_option maxHeartbeats 8000000 in
theorem covers_bad1 (a : Nat) (n : Int) (b : Nat) (m : Int) (x : Nat) (ha : a < 4294967296) (hb : b < 4294967296) (hx : x < 4294967296) (h1 : -9223372036854775808 ≤ n) (h2 : n ≤ 9223372036854775807) (h3 : -9223372036854775808 ≤ m) (h4 : m ≤ 9223372036854775807)
    (hgh : (goodB a n && goodB b m) = false) (hga : goodB a n = false) (w : World) (ht : Tab w) :
    Calls Tryd.prog 10 #[pfx a n, pfx b m, .int .u32 x] w (GoodP true w) := by
  have hv : refCovB a n b m = false := by unfold refCovB; rw [hgh]; rfl
  have hv2 : refCovB b m a n = false := by unfold refCovB; rw [Bool.and_comm (goodB b m), hgh]; rfl
  have qg := refGood_any a n ha
  have qq := refGood_any b m hb
  rw [hga] at qg
  have qo := common_bad a n b m ha hb h1 h2 h3 h4 hgh
  have qc := Covers_any a n b m ha hb h1 h2 h3 h4
  have qw := Within_any a n b m ha hb h1 h2 h3 h4
  have qh := Has_any a n x ha hx h1 h2
  have qm := cmp_bad a n b m ha hb h1 h2 h3 h4 hgh
  rw [cov_ref, hv] at qc
  rw [cov_ref, hv2] at qw
  rw [show (false && !decide (a = b ∧ n = m)) = false by simp] at qw
  rw [has_ref] at qh
  have v1 : RC a n b m false := ⟨ha, hb, hv⟩
  have v2 : RC b m a n false := ⟨hb, ha, hv2⟩
  have v3 : RC a n x 32 (refCovB a n x 32) := ⟨ha, hx, rfl⟩
  generalize refCovB a n x 32 = HX at *
  unfold pfx at qg qq qo qc qw qh qm ⊢
  have QG := hide qg
  have QQ := hide qq
  have QO := hide qo
  have QC := hide qc
  have QW := hide qw
  have QH := hide qh
  have QM := hide qm
  have HRC := hide rc_call
  have HRB := True.intro
  clear qg qq qo qc qw qh qm hv hv2 hgh hga h1 h2 h3 h4
  obtain ⟨k0, k1, k2, k3⟩ := boxes w (.int .u32 (a : Int)) (.int .i64 n) (.int .u32 (b : Int)) (.int .i64 m) 46 46
  go_enter Tryd.func10, Tryd.ntmps10
  go_wp2_with fail
  refine (QG.out _).mono ?_
  rintro e w1 ⟨rfl, hb1⟩
  obtain ⟨x1, rfl⟩ := far_of_below hb1
  go_wp2_with fail
  refine (QO.out _).mono ?_
  rintro e w3 ⟨rfl, hb3⟩
  obtain ⟨x3, rfl⟩ := far_below hb3
  clear hb1 hb3
  go_wp2_with fail
  have A0 := (((Blk.new w 46 #[.int .u32 (a : Int), .int .i64 n]).alloc (.cells #[.int .u32 (b : Int), .int .i64 m] 46)).below (below_far _ x3) (by simp; omega))
  have A1 := ((by simpa using Blk.new (w.alloc (.cells #[.int .u32 (a : Int), .int .i64 n] 46)) 46 #[.int .u32 (b : Int), .int .i64 m] : Blk ((w.alloc (.cells #[.int .u32 (a : Int), .int .i64 n] 46)).alloc (.cells #[.int .u32 (b : Int), .int .i64 m] 46)) (w.heap.size + 1) _ _).below (below_far _ x3) (by simp))
  have hbw := below_boxes w (.cells #[.int .u32 (a : Int), .int .i64 n] 46) (.cells #[.int .u32 (b : Int), .int .i64 m] 46) x3
  clear k0 k1 k2 k3
  generalize far ((w.alloc (.cells #[.int .u32 (a : Int), .int .i64 n] 46)).alloc (.cells #[.int .u32 (b : Int), .int .i64 m] 46)) x3 = w4 at *
  refine code_gen (fun w5 => Blk w5 w.heap.size 46 #[.int .u32 (a : Int), .int .i64 n] ∧ Blk w5 (w.heap.size + 1) 46 #[.int .u32 (b : Int), .int .i64 m] ∧ Blk w5 w4.heap.size 46 #[.int .u32 0, .int .i64 0] ∧ Below w.heap.size w w5)
    ⟨A0.alloc _, A1.alloc _, Blk.new _ _ _, hbw.alloc hbw.size _⟩ ?_
  clear A0 A1 hbw
  rintro w5 ⟨D0, D1, D2, hbw⟩
  have k0 := fun y => cell?_far y (blk_read D0 (i := 0) rfl)
  have k1 := fun y => cell?_far y (blk_read D0 (i := 1) rfl)
  have k2 := fun y => cell?_far y (blk_read D1 (i := 0) rfl)
  have k3 := fun y => cell?_far y (blk_read D1 (i := 1) rfl)
  have k4 := fun y => cell?_far y (blk_read D2 (i := 0) rfl)
  have k5 := fun y => cell?_far y (blk_read D2 (i := 1) rfl)
  have hend : ∀ y, Below w.heap.size w (far w5 y) := fun y => hbw.trans ((below_far _ _).mono hbw.size)
  have hT : ∀ y, Tab (far w5 y) := fun y => ht.below (hend y)
  have HE := hide hend
  have HT := hide hT
  clear hend hT hbw D0 D1 D2
  refine wp_region_far (by kernel_rfl) (by kernel_rfl) ?_
  iterate 31 (go_big_quiet_step ((first | (go_at_call 37; exact far_call (HRC.out _ _ _ _ _ (by assumption) _)) | (go_at_call 38; exact far_call (QC.out _)) | (go_at_call 45; exact far_call (QW.out _)) | (go_at_call 40; exact far_call (QH.out _)) | (go_at_call 39; exact far_call (QM.out _)) | (go_at_call 35; exact far_call (plives_any _ (HT.out _))))))
  refine wpQuiet_nil ?_
  rintro _ ⟨nq31, rfl⟩
  go_wp2_with fail
  refine (QM.out _).mono ?_
  rintro e w6 ⟨rfl, hb6⟩
  obtain ⟨x6, rfl⟩ := far_below hb6
  go_wp2_with fail
  refine (plives_any _ (HT.out _)).mono ?_
  rintro e w7 ⟨rfl, hb7⟩
  obtain ⟨x7, rfl⟩ := far_below hb7
  go_wp2
  go_ret
  exact ⟨rfl, HE.out _⟩


set_option maxRecDepth 100000 in
set_option maxHeartbeats 8000000 in
theorem covers_bad2 (a : Nat) (n : Int) (b : Nat) (m : Int) (x : Nat) (ha : a < 4294967296) (hb : b < 4294967296) (hx : x < 4294967296) (h1 : -9223372036854775808 ≤ n) (h2 : n ≤ 9223372036854775807) (h3 : -9223372036854775808 ≤ m) (h4 : m ≤ 9223372036854775807)
    (hgh : (goodB a n && goodB b m) = false) (hga : goodB a n = true) (w : World) (ht : Tab w) :
    Calls Tryd.prog 10 #[pfx a n, pfx b m, .int .u32 x] w (GoodP true w) := by
  have hv : refCovB a n b m = false := by unfold refCovB; rw [hgh]; rfl
  have hv2 : refCovB b m a n = false := by unfold refCovB; rw [Bool.and_comm (goodB b m), hgh]; rfl
  have qg := refGood_any a n ha
  have qq := refGood_any b m hb
  rw [hga] at qg
  have qo := common_bad a n b m ha hb h1 h2 h3 h4 hgh
  have qc := Covers_any a n b m ha hb h1 h2 h3 h4
  have qw := Within_any a n b m ha hb h1 h2 h3 h4
  have qh := Has_any a n x ha hx h1 h2
  have qm := cmp_bad a n b m ha hb h1 h2 h3 h4 hgh
  rw [cov_ref, hv] at qc
  rw [cov_ref, hv2] at qw
  rw [show (false && !decide (a = b ∧ n = m)) = false by simp] at qw
  rw [has_ref] at qh
  have v1 : RC a n b m false := ⟨ha, hb, hv⟩
  have v2 : RC b m a n false := ⟨hb, ha, hv2⟩
  have v3 : RC a n x 32 (refCovB a n x 32) := ⟨ha, hx, rfl⟩
  generalize refCovB a n x 32 = HX at *
  have hgb : goodB b m = false := by rw [hga] at hgh; simpa using hgh
  rw [hgb] at qq
  clear hgb
  unfold pfx at qg qq qo qc qw qh qm ⊢
  have QG := hide qg
  have QQ := hide qq
  have QO := hide qo
  have QC := hide qc
  have QW := hide qw
  have QH := hide qh
  have QM := hide qm
  have HRC := hide rc_call
  have HRB := True.intro
  clear qg qq qo qc qw qh qm hv hv2 hgh hga h1 h2 h3 h4
  obtain ⟨k0, k1, k2, k3⟩ := boxes w (.int .u32 (a : Int)) (.int .i64 n) (.int .u32 (b : Int)) (.int .i64 m) 46 46
  go_enter Tryd.func10, Tryd.ntmps10
  go_wp2_with fail
  refine (QG.out _).mono ?_
  rintro e w1 ⟨rfl, hb1⟩
  obtain ⟨x1, rfl⟩ := far_of_below hb1
  go_wp2_with fail
  refine (QQ.out _).mono ?_
  rintro e w2 ⟨rfl, hb2⟩
  obtain ⟨x2, rfl⟩ := far_below hb2
  go_wp2_with fail
  refine (QO.out _).mono ?_
  rintro e w3 ⟨rfl, hb3⟩
  obtain ⟨x3, rfl⟩ := far_below hb3
  clear hb1 hb3
  go_wp2_with fail
  have A0 := (((Blk.new w 46 #[.int .u32 (a : Int), .int .i64 n]).alloc (.cells #[.int .u32 (b : Int), .int .i64 m] 46)).below (below_far _ x3) (by simp; omega))
  have A1 := ((by simpa using Blk.new (w.alloc (.cells #[.int .u32 (a : Int), .int .i64 n] 46)) 46 #[.int .u32 (b : Int), .int .i64 m] : Blk ((w.alloc (.cells #[.int .u32 (a : Int), .int .i64 n] 46)).alloc (.cells #[.int .u32 (b : Int), .int .i64 m] 46)) (w.heap.size + 1) _ _).below (below_far _ x3) (by simp))
  have hbw := below_boxes w (.cells #[.int .u32 (a : Int), .int .i64 n] 46) (.cells #[.int .u32 (b : Int), .int .i64 m] 46) x3
  clear k0 k1 k2 k3
  generalize far ((w.alloc (.cells #[.int .u32 (a : Int), .int .i64 n] 46)).alloc (.cells #[.int .u32 (b : Int), .int .i64 m] 46)) x3 = w4 at *
  refine code_gen (fun w5 => Blk w5 w.heap.size 46 #[.int .u32 (a : Int), .int .i64 n] ∧ Blk w5 (w.heap.size + 1) 46 #[.int .u32 (b : Int), .int .i64 m] ∧ Blk w5 w4.heap.size 46 #[.int .u32 0, .int .i64 0] ∧ Below w.heap.size w w5)
    ⟨A0.alloc _, A1.alloc _, Blk.new _ _ _, hbw.alloc hbw.size _⟩ ?_
  clear A0 A1 hbw
  rintro w5 ⟨D0, D1, D2, hbw⟩
  have k0 := fun y => cell?_far y (blk_read D0 (i := 0) rfl)
  have k1 := fun y => cell?_far y (blk_read D0 (i := 1) rfl)
  have k2 := fun y => cell?_far y (blk_read D1 (i := 0) rfl)
  have k3 := fun y => cell?_far y (blk_read D1 (i := 1) rfl)
  have k4 := fun y => cell?_far y (blk_read D2 (i := 0) rfl)
  have k5 := fun y => cell?_far y (blk_read D2 (i := 1) rfl)
  have hend : ∀ y, Below w.heap.size w (far w5 y) := fun y => hbw.trans ((below_far _ _).mono hbw.size)
  have hT : ∀ y, Tab (far w5 y) := fun y => ht.below (hend y)
  have HE := hide hend
  have HT := hide hT
  clear hend hT hbw D0 D1 D2
  refine wp_region_far (by kernel_rfl) (by kernel_rfl) ?_
  iterate 31 (go_big_quiet_step ((first | (go_at_call 37; exact far_call (HRC.out _ _ _ _ _ (by assumption) _)) | (go_at_call 38; exact far_call (QC.out _)) | (go_at_call 45; exact far_call (QW.out _)) | (go_at_call 40; exact far_call (QH.out _)) | (go_at_call 39; exact far_call (QM.out _)) | (go_at_call 35; exact far_call (plives_any _ (HT.out _))))))
  refine wpQuiet_nil ?_
  rintro _ ⟨nq31, rfl⟩
  go_wp2_with fail
  refine (QM.out _).mono ?_
  rintro e w6 ⟨rfl, hb6⟩
  obtain ⟨x6, rfl⟩ := far_below hb6
  go_wp2_with fail
  refine (plives_any _ (HT.out _)).mono ?_
  rintro e w7 ⟨rfl, hb7⟩
  obtain ⟨x7, rfl⟩ := far_below hb7
  go_wp2
  go_ret
  exact ⟨rfl, HE.out _⟩


theorem prefixCovers_any (a : Nat) (n : Int) (b : Nat) (m : Int) (x : Nat) (ha : a < 4294967296) (hb : b < 4294967296) (hx : x < 4294967296) (h1 : -9223372036854775808 ≤ n) (h2 : n ≤ 9223372036854775807) (h3 : -9223372036854775808 ≤ m) (h4 : m ≤ 9223372036854775807) (w : World) (ht : Tab w) :
    Calls Tryd.prog 10 #[pfx a n, pfx b m, .int .u32 x] w (GoodP true w) := by
  cases hgh : (goodB a n && goodB b m)
  · cases hga : goodB a n
    · exact covers_bad1 a n b m x ha hb hx h1 h2 h3 h4 hgh hga w ht
    · exact covers_bad2 a n b m x ha hb hx h1 h2 h3 h4 hgh hga w ht
  · simp only [Bool.and_eq_true] at hgh
    obtain ⟨hg, hh⟩ := hgh
    have g := (goodB_iff a n).1 hg
    have g' := (goodB_iff b m).1 hh
    obtain ⟨k, rfl⟩ := Int.eq_ofNat_of_zero_le g.1
    obtain ⟨j, rfl⟩ := Int.eq_ofNat_of_zero_le g'.1
    have hk : k ≤ 32 := by omega
    have hj : j ≤ 32 := by omega
    cases hv : refCovB b j a k
    · exact covers_F0 a k b j x ha hb hx hk hj hg hh hv w ht
    · by_cases hab : a = b
      · by_cases hkj : k = j
        · subst hab hkj
          exact covers_E a k x ha hx hk hg w ht
        · exact covers_F2 a k b j x ha hb hx hk hj hg hh hv hkj hab w ht
      · exact covers_F1 a k b j x ha hb hx hk hj hg hh hv hab w ht

end Go.Proofs.YtiibglkiakhfgaaDoor
