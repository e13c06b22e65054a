import Derived.Test.YtlfknndpbejbcaaGreatDoorSw1
import Derived.Test.YtlfknndpbejbcaaGreatDoorSwSh
import Derived.Shelf.Strings.Builder1
import Derived.Shelf.Strings.Builder2
import Derived.Shelf.Strings.OnBuilder
import Derived.Shelf.LaysM
import Derived.WalkKit
import Derived.ProofKit
import Derived.OpenShut
import Derived.Below
import Derived.Laws.OwnMore
import Derived.Laws.Rows
import Derived.Laws.MakeOwn
import Derived.Deep.AppendLies
import Derived.Deep.Draws
import Derived.Deep.OwnRows
import Derived.Deep.QuietTactic
import Derived.Maps.AppendAt
import Derived.RegionTactic
import Derived.OwnWalk
import Derived.ChangeSame
import Derived.Outline
import Derived.BigQuiet
import Derived.WalkMore
import Derived.ScopeJumps
import Derived.WalkLawsBesides
import Derived.WalkSpells
import Derived.Laws.BitsLemmas
import Derived.Laws.BitsAllLaws
import Derived.Deep.Quiet
import Derived.Lib.PathFns
import Derived.Lib.IndexBytes
import Derived.RangeFuncWrites
import Derived.RangeFuncNested
import Derived.RangeFuncBound
import Derived.RangeFuncCalls
import Derived.RangeFuncLeaves
import Derived.RangeFuncBox
import Derived.Shelf.Abstract
import Derived.Shelf.RegionOpen
import Derived.OwnWalkIn
import Derived.TacticsInMore
import Derived.LoopNIn
import Derived.LoopIn
import Derived.WideKeyArgs
import Derived.Deep.DeepHandedRow
import Derived.Deep.DeepWitnessRowRef
import Derived.Lib.LaidTab
import Derived.Lib.AppendIntMem
import Derived.LaidMore
import Derived.MakeChecks
import Derived.Lib.Itoa
import Derived.Lib.ItoaMem
import Derived.Lib.SmallJoins
import Derived.Lib.ParseIntBCases
import Derived.Lib.IndexMore
import Derived.Shelf.Vars
import Derived.BigRegion
import Derived.Lib.AtoiAllCases
import Derived.SliceStrings
import Derived.Deep.RegionLaw
import Derived.Sort.LotA
import Derived.BigRegionIn
import Derived.Lib.Strings
import Derived.Lib.Bytealg
import Derived.Deep.Slices
import Derived.StillTailTactics
import Derived.Deep.RegionHeld3
import Derived.Orders
import Derived.Shelf.Strings.SplitShaped
import Derived.Shelf.Strings.Prefix
import Derived.Shelf.Small.Strs
set_option linter.unusedSimpArgs false
set_option linter.unusedVariables false
namespace Go.Proofs.YtlfknndpbejbcaaGreatDoor
open Go.RowKit
/-- The pieces of a text that a byte parts. -/
def pieces (c : UInt8) : List UInt8 → List (List UInt8)
  | [] => [[]]
  | x :: l => if x = c then [] :: pieces c l else ((x :: (pieces c l).headD []) :: (pieces c l).tail)
theorem pieces_ne (c : UInt8) (l : List UInt8) : pieces c l ≠ [] := by
  cases l with
  | nil => simp [pieces]
  | cons x l => unfold pieces; split <;> simp
end Go.Proofs.YtlfknndpbejbcaaGreatDoor
set_option linter.unusedSimpArgs false
set_option linter.unusedVariables false
namespace Go.Proofs.YtlfknndpbejbcaaGreatDoor
open Go.RowKit
theorem itoa_any (n : Nat) (h : n ≤ 9223372036854775807) (w : World) (ht : Tab w) :
    Calls Tryz.prog 47 #[.int .i64 n] w fun e w' => e = .returned (.string (str (Lib.decDigits n))) ∧ Below w.heap.size w w' := by
  refine (Tryz.strconv_Itoa n (by omega) (by omega) w ht).mono ?_
  rintro e w' ⟨rfl, k, os, rfl⟩
  refine ⟨?_, Lib.below_grow _ _ (Nat.le_refl _) _ _⟩
  rw [Lib.itoa_nonneg]; rfl
end Go.Proofs.YtlfknndpbejbcaaGreatDoor
set_option linter.unusedSimpArgs false
set_option linter.unusedVariables false
namespace Go.Proofs.YtlfknndpbejbcaaGreatDoor
open Go.RowKit
def octN (a i : Nat) : Nat := a / 256 ^ (3 - i) % 256
def octS (a k i : Nat) : Value := .string (if i < k then str (Lib.decDigits (octN a i)) else ⟨#[]⟩)
def octs (a k : Nat) : Array Value := #[octS a k 0, octS a k 1, octS a k 2, octS a k 3]
def addrL (a : Nat) : List UInt8 := Lib.decDigits (octN a 0) ++ [46] ++ Lib.decDigits (octN a 1) ++ [46] ++ Lib.decDigits (octN a 2) ++ [46] ++ Lib.decDigits (octN a 3)
theorem octN_lt (a i : Nat) : octN a i < 256 := Nat.mod_lt _ (by decide)
theorem oct_len (a i : Nat) : (Lib.decDigits (octN a i)).length ≤ 3 := dec_len _ 2 (by have := octN_lt a i; omega)
theorem addrL_len (a : Nat) : (addrL a).length ≤ 15 := by
  have h0 := oct_len a 0; have h1 := oct_len a 1; have h2 := oct_len a 2; have h3 := oct_len a 3
  simp [addrL]; omega
theorem oct_walk (a s : Nat) (ha : a < 4294967296) : bits .and .u32 ((a : Int) / ((2 ^ s : Nat) : Int)) 255 = ((a / 2 ^ s % 256 : Nat) : Int) := by
  have e : (a : Int) / ((2 ^ s : Nat) : Int) = ((a / 2 ^ s : Nat) : Int) := by simp
  have h1 : a / 2 ^ s < 4294967296 := Nat.lt_of_le_of_lt (Nat.div_le_self _ _) ha
  rw [e, show (255 : Int) = ((255 : Nat) : Int) from rfl, u32_and_nat _ _ h1 (by decide), show (255 : Nat) = 2 ^ 8 - 1 from rfl, Nat.and_two_pow_sub_one_eq_mod]
theorem blk_read {w : World} {g : Nat} {t : TypeId} {cs : Array Value} (h : Blk w g t cs) {i : Nat} {v : Value} (hv : cs[i]? = some v) : w.cell? ⟨g, i, none⟩ = some v := (h.cell i).trans hv
theorem oct_arg0 (a : Nat) (ha : a < 4294967296) : RowKit.wrap64 (bits .and .u32 ((a : Int) / 16777216) 255) = ((octN a 0 : Nat) : Int) := by
  have := oct_walk a 24 ha
  rw [show ((2 ^ 24 : Nat) : Int) = 16777216 from rfl] at this
  rw [this]; have := octN_lt a 0; unfold octN RowKit.wrap64 at *; omega
theorem oct_arg1 (a : Nat) (ha : a < 4294967296) : RowKit.wrap64 (bits .and .u32 ((a : Int) / 65536) 255) = ((octN a 1 : Nat) : Int) := by
  have := oct_walk a 16 ha
  rw [show ((2 ^ 16 : Nat) : Int) = 65536 from rfl] at this
  rw [this]; have := octN_lt a 1; unfold octN RowKit.wrap64 at *; omega
theorem oct_arg2 (a : Nat) (ha : a < 4294967296) : RowKit.wrap64 (bits .and .u32 ((a : Int) / 256) 255) = ((octN a 2 : Nat) : Int) := by
  have := oct_walk a 8 ha
  rw [show ((2 ^ 8 : Nat) : Int) = 256 from rfl] at this
  rw [this]; have := octN_lt a 2; unfold octN RowKit.wrap64 at *; omega
theorem oct_arg3 (a : Nat) (ha : a < 4294967296) : RowKit.wrap64 (bits .and .u32 (a : Int) 255) = ((octN a 3 : Nat) : Int) := by
  have := oct_walk a 0 ha
  rw [show ((2 ^ 0 : Nat) : Int) = 1 from rfl, Int.ediv_one] at this
  rw [this]; have := octN_lt a 3; unfold octN RowKit.wrap64 at *; omega
theorem makeStr4 (w : World) : (Instr.makeSlice 37 (.int .i64 4) (.int .i64 4)).run Tryz.prog w = .ok (.slice (some ⟨w.heap.size, 0, none⟩) 4 4) (w.alloc (.cells #[.string ⟨#[]⟩, .string ⟨#[]⟩, .string ⟨#[]⟩, .string ⟨#[]⟩] 9)) := by kernel_rfl
set_option maxHeartbeats 1000000 in
theorem addr_any (a : Nat) (ha : a < 4294967296) (w : World) (ht : Tab w) :
    Calls Tryz.prog 64 #[.int .u32 a] w fun e w' => e = .returned (.string (str (addrL a))) ∧ Below w.heap.size w w' := by
  have hmk := makeStr4
  go_enter Tryz.func64, Tryz.ntmps64
  go_wp2
  go_loopw [8] (fun i wr => ∃ k : Nat, k ≤ 4 ∧ i = .int .i64 k ∧ Blk wr w.heap.size 9 (octs a k) ∧ Below w.heap.size w wr) (fun i _ => 4 - (intOf i).toNat)
  case atStart => exact ⟨0, by omega, rfl, Blk.new w _ _, (Below.refl _ _).alloc (Nat.le_refl _) _⟩
  case round =>
    obtain ⟨k, hk, rfl, hB, hbel⟩ := hrel
    have hz : w.heap.size < wr.heap.size := hB.lt
    have htr : Tab wr := ht.below hbel
    by_cases hlt : k < 4
    · rcases (show k = 0 ∨ k = 1 ∨ k = 2 ∨ k = 3 by omega) with h0 | h0 | h0 | h0
      · subst h0
        have he := hide (oct_arg0 a ha)
        have h256 := octN_lt a 0
        go_wp2_with fail
        rw [he.out]
        refine (itoa_any (octN a 0) (by omega) _ htr).mono ?_
        rintro e w1 ⟨rfl, hb1⟩
        have hB1 := hB.below hb1 hz
        have hfz := hB1.frozen 0
        have hcl := hide (hB1.cell 0)
        have hin : w1.cell? ⟨w.heap.size, 0, none⟩ = some (.string ⟨#[]⟩) := hcl.out
        go_wp2
        go_round
        case rel => exact ⟨1, by omega, by go_num, hB1.set_ 0 _, (hbel.trans (hb1.mono (by omega))).setCell (Nat.le_refl _) _⟩
        case measure => simp [intOf]
      · subst h0
        have he := hide (oct_arg1 a ha)
        have h256 := octN_lt a 1
        go_wp2_with fail
        rw [he.out]
        refine (itoa_any (octN a 1) (by omega) _ htr).mono ?_
        rintro e w1 ⟨rfl, hb1⟩
        have hB1 := hB.below hb1 hz
        have hfz := hB1.frozen 1
        have hcl := hide (hB1.cell 1)
        have hin : w1.cell? ⟨w.heap.size, 1, none⟩ = some (.string ⟨#[]⟩) := hcl.out
        go_wp2
        go_round
        case rel => exact ⟨2, by omega, by go_num, hB1.set_ 1 _, (hbel.trans (hb1.mono (by omega))).setCell (Nat.le_refl _) _⟩
        case measure => simp [intOf]
      · subst h0
        have he := hide (oct_arg2 a ha)
        have h256 := octN_lt a 2
        go_wp2_with fail
        rw [he.out]
        refine (itoa_any (octN a 2) (by omega) _ htr).mono ?_
        rintro e w1 ⟨rfl, hb1⟩
        have hB1 := hB.below hb1 hz
        have hfz := hB1.frozen 2
        have hcl := hide (hB1.cell 2)
        have hin : w1.cell? ⟨w.heap.size, 2, none⟩ = some (.string ⟨#[]⟩) := hcl.out
        go_wp2
        go_round
        case rel => exact ⟨3, by omega, by go_num, hB1.set_ 2 _, (hbel.trans (hb1.mono (by omega))).setCell (Nat.le_refl _) _⟩
        case measure => simp [intOf]
      · subst h0
        have he := hide (oct_arg3 a ha)
        have h256 := octN_lt a 3
        go_wp2_with fail
        rw [he.out]
        refine (itoa_any (octN a 3) (by omega) _ htr).mono ?_
        rintro e w1 ⟨rfl, hb1⟩
        have hB1 := hB.below hb1 hz
        have hfz := hB1.frozen 3
        have hcl := hide (hB1.cell 3)
        have hin : w1.cell? ⟨w.heap.size, 3, none⟩ = some (.string ⟨#[]⟩) := hcl.out
        go_wp2
        go_round
        case rel => exact ⟨4, by omega, by go_num, hB1.set_ 3 _, (hbel.trans (hb1.mono (by omega))).setCell (Nat.le_refl _) _⟩
        case measure => simp [intOf]
    · obtain rfl : k = 4 := by omega
      have l0 := oct_len a 0
      have l1 := oct_len a 1
      have l2 := oct_len a 2
      have l3 := oct_len a 3
      have c0 := hide (show wr.cell? ⟨w.heap.size, 0, none⟩ = some (.string (str (Lib.decDigits (octN a 0)))) from blk_read hB (i := 0) rfl)
      have c1 := hide (show wr.cell? ⟨w.heap.size, 1, none⟩ = some (.string (str (Lib.decDigits (octN a 1)))) from blk_read hB (i := 1) rfl)
      have c2 := hide (show wr.cell? ⟨w.heap.size, 2, none⟩ = some (.string (str (Lib.decDigits (octN a 2)))) from blk_read hB (i := 2) rfl)
      have c3 := hide (show wr.cell? ⟨w.heap.size, 3, none⟩ = some (.string (str (Lib.decDigits (octN a 3)))) from blk_read hB (i := 3) rfl)
      have HJ := hide (Tryz.strings_Join w.heap.size 0 4 [str (Lib.decDigits (octN a 0)), str (Lib.decDigits (octN a 1)), str (Lib.decDigits (octN a 2)), str (Lib.decDigits (octN a 3))] ⟨#[46]⟩ wr
        (by
          intro j x hj
          rcases (show j = 0 ∨ j = 1 ∨ j = 2 ∨ j = 3 ∨ 4 ≤ j by omega) with h | h | h | h | h
          · subst h; obtain rfl := Option.some.inj hj; simpa using c0.out
          · subst h; obtain rfl := Option.some.inj hj; simpa using c1.out
          · subst h; obtain rfl := Option.some.inj hj; simpa using c2.out
          · subst h; obtain rfl := Option.some.inj hj; simpa using c3.out
          · rw [List.getElem?_eq_none (by simpa using h)] at hj; cases hj)
        hz (by simp) (by simp) (by simp [Lib.join, str_data]; omega))
      go_wp2_with fail
      refine HJ.out.mono ?_
      rintro e w1 ⟨rfl, hb1⟩
      go_wp2
      go_ret
      refine ⟨?_, hbel.trans (hb1.mono (by omega))⟩
      refine ret_str ?_
      show str _ = str _
      congr 1
      simp [Lib.join, str_data, addrL]
end Go.Proofs.YtlfknndpbejbcaaGreatDoor
set_option linter.unusedSimpArgs false
set_option linter.unusedVariables false
namespace Go.Proofs.YtlfknndpbejbcaaGreatDoor
open Go.RowKit
theorem digit_slice (n : Nat) (h : n < 10) : (⟨#[48, 49, 50, 51, 52, 53, 54, 55, 56, 57]⟩ : ByteArray).extract n (n + 1) = str (Lib.decDigits n) := by
  have hh : ∀ n : Fin 10, (⟨#[48, 49, 50, 51, 52, 53, 54, 55, 56, 57]⟩ : ByteArray).extract n.val (n.val + 1) = str (Lib.decDigits n.val) := by decide +kernel
  exact hh ⟨n, h⟩
set_option maxHeartbeats 400000 in
theorem num_any (n : Nat) (h : n < 4294967296) (w : World) : Calls Tryz.prog 37 #[.int .u64 n] w fun e w' => e = .returned (.string (str (Lib.decDigits n))) ∧ w = w' := by
  induction n using Nat.strongRecOn generalizing w with
  | _ n ih =>
    by_cases hn : n < 10
    · have hd := hide (digit_slice n hn)
      go_enter Tryz.func37, Tryz.ntmps37
      go_wp2
      go_ret
      refine ⟨?_, rfl⟩
      rw [← hd.out]
      rfl
    · have hs := hide (show str (Lib.decDigits n) = str (Lib.decDigits (n / 10)) ++ str (Lib.decDigits (n % 10)) by
        rw [cat_str]; congr 1
        conv => lhs; rw [Lib.decDigits, dif_neg hn]
        congr 1
        rw [Lib.decDigits, dif_pos (by omega)])
      have l1 : (str (Lib.decDigits (n / 10))).size ≤ 10 := by rw [str_size]; exact dec_len _ 9 (by omega)
      have l2 : (str (Lib.decDigits (n % 10))).size ≤ 10 := by rw [str_size]; exact dec_len _ 9 (by omega)
      have h1 : Hid (∀ w, Calls Tryz.prog 37 #[.int .u64 ((n : Int) / 10)] w fun e w' => e = .returned (.string (str (Lib.decDigits (n / 10)))) ∧ w = w') := hide (fun w => ih (n / 10) (by omega) (by omega) w)
      have h2 : Hid (∀ w, Calls Tryz.prog 37 #[.int .u64 ((n : Int) % 10)] w fun e w' => e = .returned (.string (str (Lib.decDigits (n % 10)))) ∧ w = w') := hide (fun w => ih (n % 10) (by omega) (by omega) w)
      clear ih
      go_enter Tryz.func37, Tryz.ntmps37
      go_wp2_with fail
      refine (h1.out _).mono ?_
      rintro e w1 ⟨rfl, rfl⟩
      go_wp2_with fail
      refine (h2.out _).mono ?_
      rintro e w1 ⟨rfl, rfl⟩
      go_wp2
      go_ret
      refine ⟨?_, rfl⟩
      rw [hs.out]
      rfl
/-- What the library's own variables hold, as far as the calls here read them. -/
structure Env (w : World) : Prop where
  tab : Tab w
  most : ∃ m, w.cell? ⟨1, 0, none⟩ = some (.int .i64 m)
  syn : ∃ ev, w.cell? ⟨8, 0, none⟩ = some ev ∧ (ev = .nilIface ∨ ∃ te pe, ev = .iface te pe)
  rng : ∃ ev, w.cell? ⟨9, 0, none⟩ = some ev ∧ (ev = .nilIface ∨ ∃ te pe, ev = .iface te pe)
theorem Env.below {w w' : World} (h : Env w) (hb : Below w.heap.size w w') : Env w' :=
  ⟨h.tab.below hb, h.most.imp fun _ hm => (hb.cell (World.block_lt_of_cell? w _ hm)).trans hm, h.syn.imp fun _ hm => ⟨(hb.cell (World.block_lt_of_cell? w _ hm.1)).trans hm.1, hm.2⟩,
    h.rng.imp fun _ hm => ⟨(hb.cell (World.block_lt_of_cell? w _ hm.1)).trans hm.1, hm.2⟩⟩
theorem below_drewN0 (w : World) (n : Nat) : Below w.heap.size w (w.drewN n) := below_drewN (Below.refl _ w) n
theorem fold_ge (l : List UInt8) : ∀ acc : Nat, acc ≤ l.foldl (fun a c => 10 * a + (c.toNat - 48)) acc := by
  induction l with
  | nil => intro acc; exact Nat.le_refl _
  | cons c r ih => intro acc; exact Nat.le_trans (show acc ≤ 10 * acc + (c.toNat - 48) by omega) (ih _)
theorem parseM_fold (M : Nat) (hM : M < 1844674407370955162) (l : List UInt8) : ∀ acc : Nat, (∀ c ∈ l, 48 ≤ c.toNat ∧ c.toNat ≤ 57) → l.foldl (fun a c => 10 * a + (c.toNat - 48)) acc ≤ M →
    Lib.parseUintM M acc l = .ok (l.foldl (fun a c => 10 * a + (c.toNat - 48)) acc) := by
  induction l with
  | nil => intro acc _ _; rfl
  | cons c r ih =>
    intro acc hd hv
    have hc := hd c (by simp)
    simp only [List.foldl_cons] at hv ⊢
    have h2 := fold_ge r (10 * acc + (c.toNat - 48))
    unfold Lib.parseUintM
    rw [if_pos hc, if_neg (by omega), if_neg (by omega), show acc * 10 + (c.toNat - 48) = 10 * acc + (c.toNat - 48) by omega]
    exact ih _ (fun x hx => hd x (by simp [hx])) hv
theorem parse_dec (B u : Nat) (hB : 2 ^ B - 1 < 1844674407370955162) (hu : u ≤ 2 ^ B - 1) : Lib.parseUintB B (Lib.decDigits u) = .ok u := by
  unfold Lib.parseUintB
  rw [if_neg (dec_ne u)]
  have h1 := numOf_dec u
  unfold numOf at h1
  have := parseM_fold (2 ^ B - 1) hB (Lib.decDigits u) 0 (dec_dig u) (by rw [h1]; exact hu)
  rwa [h1] at this
theorem index_at (p : UInt8) (x y : List UInt8) (hx : ∀ c ∈ x, c ≠ p) : Lib.index (x ++ p :: y) [p] = (x.length : Int) := by
  induction x with
  | nil => simp [Lib.index]
  | cons c r ih =>
    have hc : c ≠ p := hx c (by simp)
    have := ih (fun d hd => hx d (by simp [hd]))
    rw [List.cons_append, Lib.index, this]
    have e : ([p] : List UInt8).isPrefixOf (c :: (r ++ p :: y)) = false := by first | (simp [List.isPrefixOf]; done) | simp [List.isPrefixOf, Ne.symm hc]
    rw [e]
    have e2 : ((r.length : Int) == -1) = false := by first | (simp; done) | (simp; omega)
    rw [e2]
    simp
end Go.Proofs.YtlfknndpbejbcaaGreatDoor
set_option linter.unusedSimpArgs false
set_option linter.unusedVariables false
namespace Go.Proofs.YtlfknndpbejbcaaGreatDoor
open Go.RowKit
theorem trod_error {H : Type} {enc : TypeId × Value → H} {P : Program} {w : World} {base : Nat} {spare : Nat → Bool} {held : Bool} {fuel : Nat} {t : TypeId} {cs : List Value} {x : DataW H × List MemPlace} {ms : Array (String × TypeId)}
    (ht : P.underlying t = some (.interface ms)) (h : DataW.trod enc P w base spare held fuel t cs = some x) : ∃ ev, cs = [ev] ∧ (ev = .nilIface ∨ ∃ te pe, ev = .iface te pe) := by
  cases fuel with
  | zero => simp [DataW.trod] at h
  | succ n =>
    unfold DataW.trod at h
    rw [ht] at h
    match cs, h with
    | [], h => simp at h
    | [v], h =>
      cases v <;> first | exact ⟨_, rfl, Or.inl rfl⟩ | exact ⟨_, rfl, Or.inr ⟨_, _, rfl⟩⟩ | (simp at h)
    | v :: v' :: r, h => simp at h
theorem err_of_mem {P : Program} {W : World} {name : String} {d : DataW Unit} {laid : List (String × DataW Unit)} {g : Nat} {t : TypeId} {ms : Array (String × TypeId)}
    (hg : P.globalNamed name = some g) (hty : (P.globals[g]?).map (·.type) = some t) (ht : P.underlying t = some (.interface ms)) (h : laidMet P laid W) (hm : (name, d) ∈ laid) :
    ∃ ev, W.cell? ⟨g, 0, none⟩ = some ev ∧ (ev = .nilIface ∨ ∃ te pe, ev = .iface te pe) := by
  obtain ⟨ps, hl, _⟩ := h
  obtain ⟨g', t', cs, fuel, p, hg', ht', hvar, hd⟩ := laidVars_mem hl hm
  obtain rfl := Option.some.inj (hg.symm.trans hg')
  obtain rfl := Option.some.inj (hty.symm.trans ht')
  obtain ⟨ev, hev, hh⟩ := trod_error ht hd
  have h0 := World.var?_cell hg hvar 0
  obtain ⟨l⟩ := cs
  simp at hev
  subst hev
  exact ⟨ev, by simpa using h0, hh⟩
theorem gSyn : Tryz.prog.globalNamed "strconv.ErrSyntax" = some 8 := by kernel_rfl
theorem gSynT : (Tryz.prog.globals[8]?).map (·.type) = some 59 := by kernel_rfl
theorem gRng : Tryz.prog.globalNamed "strconv.ErrRange" = some 9 := by kernel_rfl
theorem gRngT : (Tryz.prog.globals[9]?).map (·.type) = some 59 := by kernel_rfl
set_option maxRecDepth 100000 in
theorem env_of {W : World} {laid : List (String × DataW Unit)} {d1 d2 : DataW Unit} (ht : Tab W) (hh : (laid.all fun x => x.2.handleName?.isNone) = true) (hL : laidMetH Tryz.prog laid W) (hsh : W.ShapedOpen Tryz.prog)
    (m1 : ("strconv.ErrSyntax", d1) ∈ laid) (m2 : ("strconv.ErrRange", d2) ∈ laid) : Env W := by
  rw [MakeChecks.laidMetH_plain _ _ _ hh] at hL
  exact ⟨ht, Go.Proofs.cell_of_shapedOpen_int (zero := #[.int .i64 0]) (t := 3) hsh (of_decide_eq_true (by kernel_rfl)) (by kernel_rfl) rfl (by kernel_rfl) (by kernel_rfl) Tryz.underlying3,
    err_of_mem gSyn gSynT Tryz.underlying59 hL m1, err_of_mem gRng gRngT Tryz.underlying59 hL m2⟩
end Go.Proofs.YtlfknndpbejbcaaGreatDoor
set_option linter.unusedSimpArgs false
set_option linter.unusedVariables false
namespace Go.Proofs.YtlfknndpbejbcaaGreatDoor
open Go.RowKit
theorem parse10_fold (l : List UInt8) : ∀ acc : Nat, (∀ c ∈ l, 48 ≤ c.toNat ∧ c.toNat ≤ 57) → l.foldl (fun a c => 10 * a + (c.toNat - 48)) acc < 9223372036854775808 →
    Lib.parseUint10 acc l = .ok (l.foldl (fun a c => 10 * a + (c.toNat - 48)) acc) := by
  induction l with
  | nil => intro acc _ _; rfl
  | cons c r ih =>
    intro acc hd hv
    have hc := hd c (by simp)
    simp only [List.foldl_cons] at hv ⊢
    have h2 := fold_ge r (10 * acc + (c.toNat - 48))
    unfold Lib.parseUint10
    rw [if_pos hc, if_neg (by omega), if_neg (by omega), show acc * 10 + (c.toNat - 48) = 10 * acc + (c.toNat - 48) by omega]
    exact ih _ (fun x hx => hd x (by simp [hx])) hv
theorem atoi_dec (n : Nat) (hn : n < 9223372036854775808) : Lib.atoiAll (Lib.decDigits n) = .ok (n : Int) := by
  obtain ⟨c, r, hcr⟩ := List.exists_cons_of_ne_nil (dec_ne n)
  have hc := dec_dig n c (by rw [hcr]; simp)
  have h1 := numOf_dec n
  unfold numOf at h1
  have hp := parse10_fold (Lib.decDigits n) 0 (dec_dig n) (by rw [h1]; exact hn)
  rw [h1] at hp
  rw [hcr] at hp ⊢
  rw [Lib.atoiAll_plain c r (by omega) (by omega)]
  unfold Lib.parseMag
  rw [if_neg (by simp), hp]
  simp [Lib.signless]
  omega
/-- A text is a number's digits, and the number is not too great. -/
def numOk (l : List UInt8) (most : Int) : Bool := (l == Lib.decDigits (numOf l)) && decide (numOf l < 9223372036854775808) && decide ((numOf l : Int) ≤ most)
def numRes (l : List UInt8) (most : Int) : Value := if numOk l most then .tuple #[.int .i64 (numOf l : Nat), .bool true] else .tuple #[.int .i64 0, .bool false]
theorem numOk_iff (l : List UInt8) (most : Int) : numOk l most = true ↔ ∃ n : Nat, l = Lib.decDigits n ∧ n < 9223372036854775808 ∧ (n : Int) ≤ most ∧ numOf l = n := by
  unfold numOk
  simp only [Bool.and_eq_true, beq_iff_eq, decide_eq_true_eq]
  constructor
  · rintro ⟨⟨h1, h2⟩, h3⟩; exact ⟨_, h1, h2, h3, rfl⟩
  · rintro ⟨n, h1, h2, h3, h4⟩; rw [h4]; exact ⟨⟨h1, h2⟩, h3⟩
theorem numRes_no {l : List UInt8} {most : Int} (h : ∀ n : Nat, l = Lib.decDigits n → n < 9223372036854775808 → (n : Int) ≤ most → False) : numRes l most = .tuple #[.int .i64 0, .bool false] := by
  unfold numRes
  rw [if_neg]
  intro hk
  obtain ⟨n, h1, h2, h3, _⟩ := (numOk_iff l most).1 hk
  exact h n h1 h2 h3
theorem numRes_yes {n : Nat} {most : Int} (h1 : n < 9223372036854775808) (h2 : (n : Int) ≤ most) : numRes (Lib.decDigits n) most = .tuple #[.int .i64 (n : Nat), .bool true] := by
  unfold numRes
  rw [if_pos ((numOk_iff _ _).2 ⟨n, rfl, h1, h2, numOf_dec n⟩), numOf_dec]
theorem atoi_any (s : ByteArray) (hs : s.size ≤ 1000000) (w : World) (he : Env w) : Calls Tryz.prog 92 #[.string s] w fun e w' => Below w.heap.size w w' ∧
    ((∃ v : Int, -9223372036854775808 ≤ v ∧ v ≤ 9223372036854775807 ∧ Lib.atoiAll s.data.toList = .ok v ∧ e = .returned (.tuple #[.int .i64 v, .nilIface])) ∨
     (∃ (v : Int) (te : TypeId) (pe : Value), (∀ x, Lib.atoiAll s.data.toList ≠ .ok x) ∧ e = .returned (.tuple #[.int .i64 v, .iface te pe]))) := by
  rcases h : Lib.atoiAll s.data.toList with v | _ | _
  · 
    have hb := Lib.atoiAll_bounds h
    refine (Tryz.strconv_Atoi_ok s (by omega) v h w).mono ?_
    rintro e w' ⟨rfl, hw⟩
    refine ⟨?_, Or.inl ⟨v, hb.1, hb.2, rfl, rfl⟩⟩
    rcases hw with rfl | ⟨t, rfl⟩
    · exact Below.refl _ _
    · exact Go.Joins.below_bytesWorld _ _ _ _ (Nat.le_refl _)
  · 
    obtain ⟨ev, hv, hev⟩ := he.syn
    refine (Tryz.strconv_Atoi_syntax s (by omega) h ev w hv hev).mono ?_
    rintro e w' ⟨N, rfl, _, _, hb⟩
    exact ⟨hb, Or.inr ⟨0, _, _, by simp, rfl⟩⟩
  · 
    obtain ⟨ev, hv, hev⟩ := he.rng
    refine (Tryz.strconv_Atoi_range s (by omega) h ev w hv hev).mono ?_
    rintro e w' ⟨N, rfl, _, _, hb⟩
    exact ⟨hb, Or.inr ⟨_, _, _, by simp, rfl⟩⟩
set_option maxHeartbeats 1000000 in
theorem lexNumber_any (l : List UInt8) (hl : l.length ≤ 1000000) (most : Int) (w : World) (he : Env w) :
    Calls Tryz.prog 75 #[.string (str l), .int .i64 most] w fun e w' => e = .returned (numRes l most) ∧ Below w.heap.size w w' := by
  have HA := hide (atoi_any (str l) (by rw [str_size]; exact hl) w he)
  have HE := hide he
  clear he hl
  go_enter Tryz.func75, Tryz.ntmps75
  go_wp2_with fail
  refine HA.out.mono ?_
  rintro e w1 ⟨hb1, ⟨v, hv1, hv2, hp, rfl⟩ | ⟨v, te, pe, hp, rfl⟩⟩
  · rw [str_data] at hp
    have HP := hide hp
    have HB1 := hide hb1
    have he1 := hide (HE.out.below hb1)
    clear hp hb1
    have HNo : Hid (∀ n : Nat, l = Lib.decDigits n → n < 9223372036854775808 → v = n) := hide (fun n h1 h2 => by
      have := atoi_dec n h2
      rw [← h1, HP.out] at this
      exact Lib.NumEnd.ok.inj this)
    by_cases hv0 : v < 0
    · have hr := hide (numRes_no (l := l) (most := most) (fun n h1 h2 h3 => by have := HNo.out n h1 h2; omega))
      go_wp2
      go_ret2
      exact ⟨by rw [hr.out]; rfl, HB1.out⟩
    · obtain ⟨n, rfl⟩ := Int.eq_ofNat_of_zero_le (show 0 ≤ v by omega)
      by_cases hvm : (n : Int) > most
      · have hr := hide (numRes_no (l := l) (most := most) (fun k h1 h2 h3 => by have := HNo.out k h1 h2; omega))
        go_wp2
        go_ret2
        exact ⟨by rw [hr.out]; rfl, HB1.out⟩
      · have HI := hide (itoa_any n (by omega) w1 he1.out.tab)
        by_cases hq : l = Lib.decDigits n
        · have e1 : ((str (Lib.decDigits n)).toList == (str l).toList) = true := by rw [str_beq, hq]; simp
          have e2 : ((str (Lib.decDigits n)).toList != (str l).toList) = false := by unfold bne; rw [e1]; rfl
          have hr : Hid (numRes l most = .tuple #[.int .i64 (n : Nat), .bool true]) := hide (by rw [hq]; exact numRes_yes (by omega) (by omega))
          clear hq
          go_wp2_with fail
          refine HI.out.mono ?_
          rintro e w2 ⟨rfl, hb2⟩
          have HB2 := hide (HB1.out.trans (hb2.mono HB1.out.size))
          clear hb2
          go_wp2
          go_ret2
          exact ⟨by rw [hr.out]; rfl, HB2.out⟩
        · have e1 : ((str (Lib.decDigits n)).toList == (str l).toList) = false := by rw [str_beq]; simpa using fun h => hq h.symm
          have e2 : ((str (Lib.decDigits n)).toList != (str l).toList) = true := by unfold bne; rw [e1]; rfl
          have hr := hide (numRes_no (l := l) (most := most) (fun k h1 h2 h3 => by
            have := HNo.out k h1 h2
            have e : k = n := by omega
            exact hq (e ▸ h1)))
          clear hq
          go_wp2_with fail
          refine HI.out.mono ?_
          rintro e w2 ⟨rfl, hb2⟩
          have HB2 := hide (HB1.out.trans (hb2.mono HB1.out.size))
          clear hb2
          go_wp2
          go_ret2
          exact ⟨by rw [hr.out]; rfl, HB2.out⟩
  · rw [str_data] at hp
    have hr := hide (numRes_no (l := l) (most := most) (fun n h1 h2 h3 => by
      have := atoi_dec n h2
      rw [← h1] at this
      exact hp _ this))
    have HB1 := hide hb1
    clear hp hb1
    go_wp2
    go_ret2
    exact ⟨by rw [hr.out]; rfl, HB1.out⟩
end Go.Proofs.YtlfknndpbejbcaaGreatDoor
set_option linter.unusedSimpArgs false
set_option linter.unusedVariables false
namespace Go.Proofs.YtlfknndpbejbcaaGreatDoor
open Go.RowKit
/-- A slice of texts. -/
def StrsAt (w : World) (A : Option Addr) (n c : Nat) (l : List ByteArray) : Prop :=
  l.length = n ∧ n ≤ c ∧ c ≤ maxLen ∧ (∀ x ∈ l, x.size ≤ maxLen) ∧ (0 < n → ∃ g o, A = some ⟨g, o, none⟩ ∧ g < w.heap.size ∧ ∀ (k : Nat) (x : ByteArray), l[k]? = some x → w.cell? ⟨g, o + k, none⟩ = some (.string x))
theorem StrsAt.below {w w' : World} {A : Option Addr} {n c : Nat} {l : List ByteArray} {B : Nat} (h : StrsAt w A n c l) (hB : w.heap.size = B) (hb : Below B w w') : StrsAt w' A n c l := by
  subst hB
  refine ⟨h.1, h.2.1, h.2.2.1, h.2.2.2.1, fun hn => ?_⟩
  obtain ⟨g, o, hA, hg, hc⟩ := h.2.2.2.2 hn
  exact ⟨g, o, hA, Nat.lt_of_lt_of_le hg hb.size, fun k x hk => (hb.cell (by exact hg)).trans (hc k x hk)⟩
theorem StrsAt.at_ {w : World} {A : Option Addr} {n c : Nat} {l : List ByteArray} (h : StrsAt w A n c l) {k : Nat} (hk : k < n) :
    ∃ g o x, A = some ⟨g, o, none⟩ ∧ g < w.heap.size ∧ l[k]? = some x ∧ x.size ≤ maxLen ∧ w.cell? ⟨g, o + k, none⟩ = some (.string x) := by
  obtain ⟨g, o, hA, hg, hc⟩ := h.2.2.2.2 (by omega)
  have hx : l[k]? = some (l[k]'(by rw [h.1]; exact hk)) := List.getElem?_eq_getElem _
  exact ⟨g, o, _, hA, hg, hx, h.2.2.2.1 _ (List.getElem_mem _), hc k _ hx⟩
theorem infoStr : (Tryz.prog.info? 9).map (fun i => (i.zero, i.size, i.bytes)) = some (some (.string ⟨#[]⟩), 1, 16) := by kernel_rfl
def strv (l : List (List UInt8)) : List Value := l.map fun x => .string (str x)
theorem strv_one (l : List (List UInt8)) : ∀ u ∈ strv l, u.oneCell' = true := by
  intro u hu
  simp only [strv, List.mem_map] at hu
  obtain ⟨x, _, rfl⟩ := hu
  rfl
def jw (l : List (List UInt8)) : List UInt8 := Lib.join l [32]
/-- A word, somewhat cut. -/
def c30 (x : ByteArray) : List UInt8 := x.data.toList.take 30
end Go.Proofs.YtlfknndpbejbcaaGreatDoor
set_option linter.unusedSimpArgs false
set_option linter.unusedVariables false
namespace Go.Proofs.YtlfknndpbejbcaaGreatDoor
open Go.RowKit
theorem Reads.keepB {w w' : World} {B size n : Nat} {A : Option Addr} {xs : List Value} (h : Reads w B size A n xs) (hb : Below B w w') : Reads w' B size A n xs := h.below hb
end Go.Proofs.YtlfknndpbejbcaaGreatDoor
set_option linter.unusedSimpArgs false
set_option linter.unusedVariables false
namespace Go.Proofs.YtlfknndpbejbcaaGreatDoor
open Go.RowKit
theorem own_set {w : World} {base e size n g i : Nat} {v : Value} {xs : List Value} (h : w.ownsRow base e size v n xs) (hne : v.ownBlock ≠ some g) (u : Value) : (w.setCell ⟨g, i, none⟩ u).ownsRow base e size v n xs :=
  h.kept (only_setCell (World.grownBy.refl w (some g)) (p := ⟨g, i, none⟩) (.inl rfl) u) (.inr hne)
end Go.Proofs.YtlfknndpbejbcaaGreatDoor
set_option linter.unusedSimpArgs false
set_option linter.unusedVariables false
namespace Go.Proofs.YtlfknndpbejbcaaGreatDoor
open Go.RowKit
theorem pieces_cons_no {c : UInt8} {p : List UInt8} (h : c ∉ p) (r : List UInt8) : pieces c (p ++ c :: r) = p :: pieces c r := by
  induction p with
  | nil => simp [pieces]
  | cons x p ih =>
    have hx : x ≠ c := fun e => h (by simp [e])
    have := ih (fun hm => h (by simp [hm]))
    rw [List.cons_append]
    conv => lhs; unfold pieces
    rw [if_neg hx, this]; rfl
theorem pieces_no {c : UInt8} {p : List UInt8} (h : c ∉ p) : pieces c p = [p] := by
  induction p with
  | nil => rfl
  | cons x p ih =>
    have hx : x ≠ c := fun e => h (by simp [e])
    unfold pieces
    rw [if_neg hx, ih (fun hm => h (by simp [hm]))]; rfl
theorem jw_cons2 (a b : List UInt8) (r : List (List UInt8)) : jw (a :: b :: r) = a ++ 32 :: jw (b :: r) := by
  unfold jw
  rw [Lib.join_cons, Lib.join_cons]
  simp [Lib.joinTail]
theorem jw_one (a : List UInt8) : jw [a] = a := by
  unfold jw; rw [Lib.join_cons]; simp [Lib.joinTail]
theorem pieces_jw : ∀ (ps : List (List UInt8)), ps ≠ [] → (∀ p ∈ ps, (32 : UInt8) ∉ p) → pieces 32 (jw ps) = ps
  | [], h, _ => absurd rfl h
  | [a], _, h => by rw [jw_one]; exact pieces_no (h a (by simp))
  | a :: b :: r, _, h => by
    rw [jw_cons2, pieces_cons_no (h a (by simp)), pieces_jw (b :: r) (by simp) (fun p hp => h p (by simp [hp]))]
/-- The texts of several, with a blank between. -/
def ct (l : List Nat) : List UInt8 := jw (l.map commT)
end Go.Proofs.YtlfknndpbejbcaaGreatDoor
set_option linter.unusedSimpArgs false
set_option linter.unusedVariables false
namespace Go.Proofs.YtlfknndpbejbcaaGreatDoor
open Go.RowKit
theorem strv_snoc (l : List (List UInt8)) (x : List UInt8) : strv (l ++ [x]) = strv l ++ [.string (str x)] := by simp [strv]
theorem strv_len (l : List (List UInt8)) : (strv l).length = l.length := by simp [strv]
theorem own_below {w w' : World} {base e size n : Nat} {v : Value} {xs : List Value} (h : w.ownsRow base e size v n xs) (hb : Below w.heap.size w w') : w'.ownsRow base e size v n xs :=
  ⟨h.1, h.2.imp id (fun ⟨g, cap, cur, e1, e2, e3, rest⟩ => ⟨g, cap, cur, e1, e2, (hb.block g (Array.getElem?_eq_some_iff.1 e3).1).trans e3, rest⟩)⟩
end Go.Proofs.YtlfknndpbejbcaaGreatDoor
set_option linter.unusedSimpArgs false
set_option linter.unusedVariables false
namespace Go.Proofs.YtlfknndpbejbcaaGreatDoor
open Go.RowKit
attribute [local go_sem] Oper.semAt_some
theorem pieces_len (c : UInt8) : ∀ s : List UInt8, (pieces c s).length ≤ s.length + 1
  | [] => by simp [pieces]
  | x :: l => by
    have := pieces_len c l
    unfold pieces
    split
    · simp; omega
    · simp; omega
theorem blk_new' {w : World} {g : Nat} (t : TypeId) (cs : Array Value) (h : g = w.heap.size) : Blk (w.alloc (.cells cs t)) g t cs := by subst h; exact Blk.new w t cs
theorem KeepsFrom.below {lo : Nat} {A B : World} (hb : Below A.heap.size A B) : KeepsFrom lo A B :=
  ⟨hb.size, fun k o _ hk _ => (hb.block k (Array.getElem?_eq_some_iff.1 hk).1).trans hk⟩
theorem Blk.put {W : World} {g D : Nat} {t : TypeId} {cs : Array Value} (h : Blk W g t cs) (hne : g ≠ D) (o : Obj) : Blk (W.putObj D o) g t cs := (World.putObj_heap_other hne).trans h
end Go.Proofs.YtlfknndpbejbcaaGreatDoor
set_option linter.unusedSimpArgs false
set_option linter.unusedVariables false
namespace Go.Proofs.YtlfknndpbejbcaaGreatDoor
open Go.RowKit
/-- A text parted at a sign. -/
def parts (p : UInt8) : List UInt8 → List (List UInt8)
  | [] => [[]]
  | c :: r => if c = p then [] :: parts p r else match parts p r with
    | [] => [[c]]
    | h :: t => (c :: h) :: t
theorem parts_none (p : UInt8) : ∀ l : List UInt8, (∀ c ∈ l, c ≠ p) → parts p l = [l]
  | [], _ => rfl
  | c :: r, h => by
    have hc : c ≠ p := h c (by simp)
    have := parts_none p r (fun d hd => h d (by simp [hd]))
    rw [parts, if_neg hc, this]
theorem parts_at (p : UInt8) : ∀ x y : List UInt8, (∀ c ∈ x, c ≠ p) → parts p (x ++ p :: y) = x :: parts p y
  | [], y, _ => by simp [parts]
  | c :: r, y, h => by
    have hc : c ≠ p := h c (by simp)
    have := parts_at p r y (fun d hd => h d (by simp [hd]))
    rw [List.cons_append, parts, if_neg hc, this]
theorem split_or (p : UInt8) : ∀ l : List UInt8, (∀ c ∈ l, c ≠ p) ∨ ∃ x y, l = x ++ p :: y ∧ ∀ c ∈ x, c ≠ p
  | [] => .inl (by simp)
  | c :: r => by
    by_cases hc : c = p
    · subst hc; exact .inr ⟨[], r, rfl, by simp⟩
    · rcases split_or p r with h | ⟨x, y, rfl, hx⟩
      · refine .inl fun d hd => ?_
        rcases List.mem_cons.1 hd with rfl | hd
        · exact hc
        · exact h d hd
      · refine .inr ⟨c :: x, y, rfl, fun d hd => ?_⟩
        rcases List.mem_cons.1 hd with rfl | hd
        · exact hc
        · exact hx d hd
theorem splitK_parts (p : UInt8) : ∀ (n : Nat) (l : List UInt8), l.length ≤ n → Lib.splitK [p] 0 (Lib.count l [p]) l = parts p l
  | 0, l, h => by
    have : l = [] := List.eq_nil_of_length_eq_zero (by omega)
    subst this
    simp [Lib.count_one, Lib.splitK, parts]
  | n + 1, l, h => by
    rcases split_or p l with hl | ⟨x, y, rfl, hx⟩
    · rw [parts_none p l hl, Lib.count_one, List.count_eq_zero.2 (fun hm => hl p hm rfl)]
      rfl
    · have hc : Lib.count (x ++ p :: y) [p] = Lib.count y [p] + 1 := by
        rw [Lib.count_one, Lib.count_one, List.count_append, List.count_cons_self, List.count_eq_zero.2 (fun hm => hx p hm rfl)]; omega
      rw [hc, Lib.splitK, index_at p x y hx, if_neg (by simp), parts_at p x y hx]
      have e1 : ((x.length : Int).toNat + 0) = x.length := by omega
      have e2 : ((x.length : Int).toNat + [p].length) = x.length + 1 := by simp
      rw [e1, e2, List.take_left']
      · have e3 : (x ++ p :: y).drop (x.length + 1) = y := by simp
        rw [e3, splitK_parts p n y (by simp at h; omega)]
      · rfl
theorem splitB_parts (p : UInt8) (l : List UInt8) : Lib.splitB ⟨#[p]⟩ 0 (Lib.countB (str l) ⟨#[p]⟩) (str l) = (parts p l).map str := by
  have h := Lib.splitB_data ⟨#[p]⟩ 0 (Lib.countB (str l) ⟨#[p]⟩) (str l)
  have e : Lib.countB (str l) ⟨#[p]⟩ = Lib.count l [p] := by unfold Lib.countB; rw [str_data]
  rw [e] at h ⊢
  rw [str_data, splitK_parts p _ l (Nat.le_refl _)] at h
  rw [← h, List.map_map]
  have : (str ∘ fun x : ByteArray => x.data.toList) = id := by funext x; exact str_of x
  rw [this, List.map_id]
theorem countB_parts (p : UInt8) (l : List UInt8) : Lib.countB (str l) ⟨#[p]⟩ + 1 = (parts p l).length := by
  have := Lib.splitB_all ⟨#[p]⟩ (Nat.le_refl 1) 0 _ (str l) rfl
  rw [splitB_parts, List.length_map] at this
  exact this.symm
theorem parts_len (p : UInt8) : ∀ (n : Nat) (l : List UInt8), l.length ≤ n → (parts p l).length ≤ l.length + 1 ∧ ∀ x ∈ parts p l, x.length ≤ l.length
  | 0, l, h => by
    have : l = [] := List.eq_nil_of_length_eq_zero (by omega)
    subst this
    simp [parts]
  | n + 1, l, h => by
    rcases split_or p l with hl | ⟨x, y, rfl, hx⟩
    · rw [parts_none p l hl]; simp
    · obtain ⟨h1, h2⟩ := parts_len p n y (by simp at h; omega)
      rw [parts_at p x y hx]
      refine ⟨by simp; omega, fun z hz => ?_⟩
      rcases List.mem_cons.1 hz with rfl | hz
      · simp
      · have := h2 z hz; simp; omega
/-- strconv.ParseUint at 8 bits: the number and nil, or a number and an error. -/
theorem pu8_any (s : ByteArray) (hs : s.size ≤ 1000000) (w : World) (he : Env w) : Calls Tryz.prog 101 #[.string s, .int .i64 10, .int .i64 8] w fun e w' => Below w.heap.size w w' ∧
    ((∃ u, u < 256 ∧ Lib.parseUintB 8 s.data.toList = .ok u ∧ e = .returned (.tuple #[.int .u64 (u : Int), .nilIface])) ∨
     (∃ (u : Nat) (te : TypeId) (pe : Value), u < 256 ∧ (∀ x, Lib.parseUintB 8 s.data.toList ≠ .ok x) ∧ e = .returned (.tuple #[.int .u64 (u : Int), .iface te pe]))) := by
  rcases h : Lib.parseUintB 8 s.data.toList with u | _ | _
  · 
    have hu := Lib.parseUintB_le h
    refine (Tryz.strconv_ParseUint_10_at8_ok s (by omega) u h w).mono ?_
    rintro e w' ⟨rfl, hw⟩
    refine ⟨?_, Or.inl ⟨u, by omega, rfl, rfl⟩⟩
    rcases hw with rfl | rfl
    · exact Below.refl _ _
    · exact Go.Joins.below_bytesWorld _ _ _ _ (Nat.le_refl _)
  · 
    obtain ⟨ev, hv, hev⟩ := he.syn
    refine (Tryz.strconv_ParseUint_10_at8_syntax s (by omega) h ev w hv hev).mono ?_
    rintro e w' ⟨N, rfl, _, _, hb⟩
    exact ⟨hb, Or.inr ⟨0, _, _, by omega, by simp, rfl⟩⟩
  · 
    obtain ⟨ev, hv, hev⟩ := he.rng
    refine (Tryz.strconv_ParseUint_10_at8_range s (by omega) h ev w hv hev).mono ?_
    rintro e w' ⟨N, rfl, _, _, hb⟩
    exact ⟨hb, Or.inr ⟨255, _, _, by omega, by simp, rfl⟩⟩
theorem parts_addr (a : Nat) : parts 46 (addrL a) = [Lib.decDigits (octN a 0), Lib.decDigits (octN a 1), Lib.decDigits (octN a 2), Lib.decDigits (octN a 3)] := by
  have e : addrL a = Lib.decDigits (octN a 0) ++ 46 :: (Lib.decDigits (octN a 1) ++ 46 :: (Lib.decDigits (octN a 2) ++ 46 :: Lib.decDigits (octN a 3))) := by simp [addrL]
  rw [e, parts_at _ _ _ (dec_no (by decide) _), parts_at _ _ _ (dec_no (by decide) _), parts_at _ _ _ (dec_no (by decide) _), parts_none _ _ (dec_no (by decide) _)]
/-- An address's first k bytes. -/
def accN (x k : Nat) : Nat := x / 256 ^ (4 - k)
theorem accN_zero (x : Nat) (h : x < 4294967296) : accN x 0 = 0 := by unfold accN; exact Nat.div_eq_of_lt h
theorem accN_four (x : Nat) : accN x 4 = x := by unfold accN; simp
theorem accN_succ (x k : Nat) (h : k < 4) : accN x (k + 1) = accN x k * 256 + octN x k := by
  unfold accN octN
  rcases (show k = 0 ∨ k = 1 ∨ k = 2 ∨ k = 3 by omega) with rfl | rfl | rfl | rfl
  all_goals (simp only [Nat.reduceAdd, Nat.reduceSub, Nat.reducePow]; omega)
theorem accN_lt (x k : Nat) (h : x < 4294967296) (hk : k < 4) : accN x k < 16777216 := by
  unfold accN
  rcases (show k = 0 ∨ k = 1 ∨ k = 2 ∨ k = 3 by omega) with rfl | rfl | rfl | rfl
  all_goals (simp only [Nat.reduceAdd, Nat.reduceSub, Nat.reducePow]; omega)
/-- What the parts of a text at hand say of an address whose text it is. -/
def AccOf (l : List UInt8) (k A : Nat) : Prop := ∀ x, x < 4294967296 → l = addrL x → A = accN x k
def SplitP (l : List UInt8) (w : World) (e : Ending) (w' : World) : Prop :=
  e = .returned (.slice (some ⟨w.heap.size, 0, none⟩) (parts 46 l).length (parts 46 l).length) ∧ Below w.heap.size w w' ∧ ∀ j x, (parts 46 l)[j]? = some x → w'.cell? ⟨w.heap.size, j, none⟩ = some (.string (str x))
theorem split46 (l : List UInt8) (hl : l.length ≤ 1000000) (w : World) (he : Env w) : Calls Tryz.prog 25 #[.string (str l), .string ⟨#[46]⟩] w (SplitP l w) := by
  obtain ⟨m, hm⟩ := he.most
  have h := Tryz.strings_Split (str l) ⟨#[46]⟩ m w (by rw [str_size]; omega) hm (by decide)
  rw [splitB_parts, countB_parts] at h
  refine h.mono ?_
  rintro e w' ⟨rfl, rfl⟩
  refine ⟨rfl, (Below.refl _ _).alloc (Nat.le_refl _) _, fun j x hj => ?_⟩
  have hb := (Blk.new w 9 (((parts 46 l).map str).map Value.string).toArray).cell j
  rw [hb]
  simp [hj]
def PAddrP (l : List UInt8) (w : World) (e : Ending) (w' : World) : Prop :=
  Below w.heap.size w w' ∧ ∃ (a : Nat) (b : Bool), a < 4294967296 ∧ e = .returned (.tuple #[.int .u32 (a : Int), .bool b]) ∧ (b = true → l = addrL a) ∧ (∀ x, x < 4294967296 → l = addrL x → b = true ∧ a = x)
theorem oct_or (A u : Nat) (hu : u < 256) : A * 256 % 4294967296 ||| u = A * 256 % 4294967296 + u := by
  have h : A * 256 % 4294967296 = 2 ^ 8 * (A % 16777216) := by omega
  rw [h, Nat.two_pow_add_eq_or_of_lt (by omega)]
set_option maxRecDepth 100000 in
set_option maxHeartbeats 1000000 in
theorem paddr_any (l : List UInt8) (hl : l.length ≤ 1000000) (w : World) (he : Env w) : Calls Tryz.prog 91 #[.string (str l)] w (PAddrP l w) := by
  have HS := hide (split46 l (by omega) w he)
  have HE := hide he
  have HL := hide hl
  obtain ⟨ps, hps⟩ : ∃ ps, parts 46 l = ps := ⟨_, rfl⟩
  obtain ⟨n, hn⟩ : ∃ n, ps.length = n := ⟨_, rfl⟩
  have hlen := parts_len 46 _ l (Nat.le_refl _)
  rw [hps] at hlen
  have hn1 : n ≤ 1000001 := by omega
  have HX := hide hlen.2
  have HPS := hide hps
  have HN := hide hn
  have HAd : Hid (∀ x, l = addrL x → n = 4 ∧ ∀ k, k < 4 → ps[k]? = some (Lib.decDigits (octN x k))) := hide (fun x hx => by
    have e := parts_addr x
    rw [← hx, HPS.out] at e
    subst e
    refine ⟨HN.out.symm, fun k hk => ?_⟩
    rcases (show k = 0 ∨ k = 1 ∨ k = 2 ∨ k = 3 by omega) with rfl | rfl | rfl | rfl <;> rfl)
  clear he hl hps hn hlen
  go_enter Tryz.func91, Tryz.ntmps91
  go_wp2_with fail
  refine HS.out.mono ?_
  rintro e w1 ⟨rfl, hb1, hcells⟩
  rw [HPS.out, HN.out]
  rw [HPS.out] at hcells
  have HC := hide hcells
  have HB1 := hide hb1
  clear hcells hb1
  go_wp2
  go_loopw [4, 14] (fun a i wr => ∃ k A : Nat, k ≤ n ∧ A < 4294967296 ∧ i = .int .i64 k ∧ a = .int .u32 A ∧ Below w1.heap.size w1 wr ∧ AccOf l k A) (fun _ i _ => n - (intOf i).toNat)
  case atStart => exact ⟨0, 0, by omega, by omega, rfl, rfl, Below.refl _ _, fun x hx _ => (accN_zero x hx).symm⟩
  case round =>
    obtain ⟨k, A, hk, hA, rfl, rfl, hbel, hacc⟩ := hrel
    have HA := hide hacc
    have HBel := hide hbel
    clear hacc hbel
    have her := hide (HE.out.below (HB1.out.trans (HBel.out.mono HB1.out.size)))
    by_cases hlt : k < n
    · obtain ⟨x, hx⟩ : ∃ x, ps[k]? = some x := ⟨ps[k]'(by rw [HN.out]; exact hlt), List.getElem?_eq_getElem _⟩
      have HXK := hide hx
      have hc0 := HC.out k x hx
      have hc : wr.cell? ⟨w.heap.size, k, none⟩ = some (.string (str x)) := (HBel.out.cell (World.block_lt_of_cell? _ _ hc0)).trans hc0
      have HP := hide (pu8_any (str x) (by rw [str_size]; have := HX.out x (List.mem_of_getElem? hx); have := HL.out; omega) wr her.out)
      have HOk : Hid (∀ t, t < 4294967296 → l = addrL t → k < 4 ∧ Lib.parseUintB 8 (str x).data.toList = .ok (octN t k)) := hide (fun t ht hlt2 => by
        obtain ⟨h4, hp⟩ := HAd.out t hlt2
        have e := Option.some.inj ((hp k (by omega)).symm.trans HXK.out)
        refine ⟨by omega, ?_⟩
        rw [str_data, ← e]
        exact parse_dec 8 _ (by decide) (by have := octN_lt t k; omega))
      clear hx hc0
      go_wp2_with fail
      refine HP.out.mono ?_
      rintro e w3 ⟨hb3, ⟨u, hu, hp, rfl⟩ | ⟨u, te, pe, hu, hp, rfl⟩⟩
      · have HPU := hide hp
        have HB3 := hide hb3
        clear hp hb3
        go_wp2
        go_roundw
        case rel =>
          refine ⟨k + 1, A * 256 % 4294967296 + u, by omega, by omega, by go_num, ?_, HBel.out.trans (HB3.out.mono HBel.out.size), fun t ht hlt2 => ?_⟩
          · rw [show ((A : Int) * 256 % 4294967296) = ((A * 256 % 4294967296 : Nat) : Int) by omega, u32_or_nat _ _ (by omega) (by omega), oct_or A u hu]
          · obtain ⟨h4, hp⟩ := HOk.out t ht hlt2
            have e := Lib.NumEnd.ok.inj (HPU.out.symm.trans hp)
            have hacc := HA.out t ht hlt2
            have := accN_lt t k ht h4
            rw [accN_succ t k h4, ← hacc, ← e, Nat.mod_eq_of_lt (by omega)]
        case measure => simp [intOf]; omega
      · have HPU := hide hp
        have HB3 := hide hb3
        clear hp hb3
        go_wp2
        go_ret2
        refine ⟨HB1.out.trans ((HBel.out.trans (HB3.out.mono HBel.out.size)).mono HB1.out.size), 0, false, by omega, rfl, fun h => by simp at h, fun t ht hlt2 => ?_⟩
        exact absurd (HOk.out t ht hlt2).2 (HPU.out _)
    · obtain rfl : k = n := by omega
      have hbw := hide (HB1.out.trans (HBel.out.mono HB1.out.size))
      by_cases h4 : k = 4
      · subst h4
        have HT := hide (addr_any A hA wr her.out.tab)
        have hq := hide (str_beq (addrL A) l)
        go_wp2_with fail
        refine HT.out.mono ?_
        rintro e w5 ⟨rfl, hb5⟩
        go_wp2
        go_ret2
        refine ⟨hbw.out.trans (hb5.mono hbw.out.size), A, (addrL A == l), hA, by rw [← hq.out]; rfl, fun h => by simpa using (beq_iff_eq.1 h).symm, fun t ht hlt2 => ?_⟩
        have e := HA.out t ht hlt2
        rw [accN_four] at e
        exact ⟨by rw [hlt2, e]; simp, e⟩
      · have he4 : ((k : Int) == 4) = false := by simp; omega
        go_wp2
        go_ret2
        exact ⟨hbw.out, A, false, hA, rfl, fun h => by simp at h, fun t ht hlt2 => absurd (HAd.out t hlt2).1 h4⟩
set_option maxHeartbeats 400000 in
theorem PAddr_any (l : List UInt8) (hl : l.length ≤ 1000000) (w : World) (he : Env w) : Calls Tryz.prog 74 #[.string (str l)] w fun e w' => Below w.heap.size w w' ∧
    ((∃ a : Nat, a < 4294967296 ∧ l = addrL a ∧ e = .returned (.tuple #[.int .u32 (a : Int), .int .i64 0])) ∨
     ((∀ x, x < 4294967296 → l ≠ addrL x) ∧ e = .returned (.tuple #[.int .u32 0, .int .i64 2]))) := by
  have HP := hide (paddr_any l hl w he)
  clear hl he
  go_enter Tryz.func74, Tryz.ntmps74
  go_wp2_with fail
  refine HP.out.mono ?_
  rintro e w1 ⟨hb1, a, b, ha, rfl, h1, h2⟩
  have H1 := hide h1
  have H2 := hide h2
  have HB := hide hb1
  clear h1 h2 hb1
  cases b
  · go_wp2
    go_ret2
    exact ⟨HB.out, Or.inr ⟨fun x hx hl => absurd (H2.out x hx hl).1 (by simp), rfl⟩⟩
  · go_wp2
    go_ret2
    exact ⟨HB.out, Or.inl ⟨a, ha, H1.out (by simp), rfl⟩⟩
set_option maxHeartbeats 400000 in
theorem Addr_any (a : Nat) (ha : a < 4294967296) (w : World) (ht : Tab w) :
    Calls Tryz.prog 46 #[.int .u32 a] w fun e w' => e = .returned (.string (str (addrL a))) ∧ Below w.heap.size w w' := by
  have HX := hide (addr_any a ha w ht)
  go_enter Tryz.func46, Tryz.ntmps46
  go_wp2_with fail
  refine HX.out.mono ?_
  rintro e w1 ⟨rfl, hb1⟩
  go_wp2
  go_ret
  exact ⟨rfl, hb1⟩
set_option maxHeartbeats 1000000 in
theorem refAddr_any (a : Nat) (ha : a < 4294967296) (w : World) :
    Calls Tryz.prog 35 #[.int .u32 a] w fun e w' => e = .returned (.string (str (addrL a))) ∧ w = w' := by
  have q0 : Hid (∀ w, Calls Tryz.prog 37 #[.int .u64 ((a : Int) / 16777216)] w fun e w' => e = .returned (.string (str (Lib.decDigits (octN a 0)))) ∧ w = w') := hide (fun w => by
    have := num_any (octN a 0) (by have := octN_lt a 0; omega) w
    rwa [show ((octN a 0 : Nat) : Int) = (a : Int) / 16777216 by unfold octN; omega] at this)
  have q1 : Hid (∀ w, Calls Tryz.prog 37 #[.int .u64 ((a : Int) / 65536 % 256)] w fun e w' => e = .returned (.string (str (Lib.decDigits (octN a 1)))) ∧ w = w') := hide (fun w => by
    have := num_any (octN a 1) (by have := octN_lt a 1; omega) w
    rwa [show ((octN a 1 : Nat) : Int) = (a : Int) / 65536 % 256 by unfold octN; omega] at this)
  have q2 : Hid (∀ w, Calls Tryz.prog 37 #[.int .u64 ((a : Int) / 256 % 256)] w fun e w' => e = .returned (.string (str (Lib.decDigits (octN a 2)))) ∧ w = w') := hide (fun w => by
    have := num_any (octN a 2) (by have := octN_lt a 2; omega) w
    rwa [show ((octN a 2 : Nat) : Int) = (a : Int) / 256 % 256 by unfold octN; omega] at this)
  have q3 : Hid (∀ w, Calls Tryz.prog 37 #[.int .u64 ((a : Int) % 256)] w fun e w' => e = .returned (.string (str (Lib.decDigits (octN a 3)))) ∧ w = w') := hide (fun w => by
    have := num_any (octN a 3) (by have := octN_lt a 3; omega) w
    rwa [show ((octN a 3 : Nat) : Int) = (a : Int) % 256 by unfold octN; omega] at this)
  have l0 : (str (Lib.decDigits (octN a 0))).size ≤ 3 := by rw [str_size]; exact oct_len a 0
  have l1 : (str (Lib.decDigits (octN a 1))).size ≤ 3 := by rw [str_size]; exact oct_len a 1
  have l2 : (str (Lib.decDigits (octN a 2))).size ≤ 3 := by rw [str_size]; exact oct_len a 2
  have l3 : (str (Lib.decDigits (octN a 3))).size ≤ 3 := by rw [str_size]; exact oct_len a 3
  go_enter Tryz.func35, Tryz.ntmps35
  go_wp2_with fail
  refine (q0.out _).mono ?_
  rintro e w1 ⟨rfl, rfl⟩
  go_wp2_with fail
  refine (q1.out _).mono ?_
  rintro e w1 ⟨rfl, rfl⟩
  go_wp2_with fail
  refine (q2.out _).mono ?_
  rintro e w1 ⟨rfl, rfl⟩
  go_wp2_with fail
  refine (q3.out _).mono ?_
  rintro e w1 ⟨rfl, rfl⟩
  go_wp2
  go_ret
  refine ⟨ret_str ?_, rfl⟩
  show str _ ++ str [46] ++ str _ ++ str [46] ++ str _ ++ str [46] ++ str _ = _
  rw [cat_str, cat_str, cat_str, cat_str, cat_str, cat_str]
  rfl
end Go.Proofs.YtlfknndpbejbcaaGreatDoor
set_option linter.unusedSimpArgs false
set_option linter.unusedVariables false
namespace Go.Proofs.YtlfknndpbejbcaaGreatDoor
open Go.RowKit
theorem addrL_inj {a b : Nat} (ha : a < 4294967296) (hb : b < 4294967296) (h : addrL a = addrL b) : a = b := by
  have e := congrArg (parts 46) h
  rw [parts_addr, parts_addr] at e
  simp only [List.cons.injEq, and_true] at e
  obtain ⟨e0, e1, e2, e3⟩ := e
  have q0 := dec_inj e0; have q1 := dec_inj e1; have q2 := dec_inj e2; have q3 := dec_inj e3
  unfold octN at q0 q1 q2 q3
  simp only [Nat.reduceSub, Nat.reducePow, Nat.sub_zero, Nat.sub_self, Nat.pow_zero, Nat.div_one] at q0 q1 q2 q3
  omega
end Go.Proofs.YtlfknndpbejbcaaGreatDoor
set_option linter.unusedSimpArgs false
set_option linter.unusedVariables false
namespace Go.Proofs.YtlfknndpbejbcaaGreatDoor
open Go.RowKit
def dgs : List UInt8 := [48, 49, 50, 51, 52, 53, 54, 55, 56, 57, 97, 98, 99, 100, 101, 102]
def dgN (n : Nat) : UInt8 := dgs.getD n 0
def hexD (b : List UInt8) : List UInt8 := b.flatMap fun c => [dgN (c.toNat / 16), dgN (c.toNat % 16)]
def hexT (b : List UInt8) : List UInt8 := if b = [] then [45] else hexD b
/-- The byte of two digits, as the code reckons it: a text's other bytes count as -1. -/
def unN (h l : Int) : Nat := ((bits .or .i64 (wrap64 (h * 16)) (bits .and .i64 l 15)) % 256).toNat
def unV (a b : UInt8) : UInt8 := UInt8.ofNat (unN (Lib.indexByte dgs a) (Lib.indexByte dgs b))
def unD : List UInt8 → List UInt8
  | a :: b :: r => unV a b :: unD r
  | _ => []
def unT (s : List UInt8) : List UInt8 := if s = [45] then [] else unD s
theorem unV_dg (c : UInt8) : unV (dgN (c.toNat / 16)) (dgN (c.toNat % 16)) = c := by
  have h : ∀ n : Fin 256, unV (dgN (n.val / 16)) (dgN (n.val % 16)) = UInt8.ofNat n.val := by decide +kernel
  have := h ⟨c.toNat, c.toNat_lt⟩
  rw [this]
  simp
theorem unV_val (a b : UInt8) : ((unV a b).toNat : Int) = bits .or .i64 (wrap64 (Lib.indexByte dgs a * 16)) (bits .and .i64 (Lib.indexByte dgs b) 15) % 256 := by
  unfold unV unN
  generalize bits .or .i64 (wrap64 (Lib.indexByte dgs a * 16)) (bits .and .i64 (Lib.indexByte dgs b) 15) = x
  rw [UInt8.toNat_ofNat']
  omega
theorem hexD_cons (c : UInt8) (b : List UInt8) : hexD (c :: b) = dgN (c.toNat / 16) :: dgN (c.toNat % 16) :: hexD b := by simp [hexD]
theorem unD_hexD : ∀ b : List UInt8, unD (hexD b) = b
  | [] => rfl
  | c :: b => by rw [hexD_cons, unD, unV_dg, unD_hexD b]
theorem hexD_len : ∀ b : List UInt8, (hexD b).length = 2 * b.length
  | [] => rfl
  | c :: b => by rw [hexD_cons, List.length_cons, List.length_cons, hexD_len b, List.length_cons]; omega
theorem hexT_len (b : List UInt8) : (hexT b).length ≤ 2 * b.length + 1 := by
  unfold hexT
  split
  · simp
  · rw [hexD_len]; omega
theorem unT_hexT (b : List UInt8) : unT (hexT b) = b := by
  unfold unT hexT
  by_cases h : b = []
  · rw [if_pos h, if_pos rfl, h]
  · rw [if_neg h, if_neg, unD_hexD]
    intro e
    have := congrArg List.length e
    rw [hexD_len] at this
    simp at this; omega
theorem dgN_mem (n : Nat) (h : n < 16) : dgN n ∈ dgs := by
  have : ∀ n : Fin 16, dgN n.val ∈ dgs := by decide +kernel
  exact this ⟨n, h⟩
theorem hexT_no (b : List UInt8) : ∀ x ∈ hexT b, x ≠ 32 ∧ x ≠ 10 := by
  intro x hx
  unfold hexT at hx
  split at hx
  · simp at hx; subst hx; decide
  · obtain ⟨c, _, hc⟩ := List.mem_flatMap.1 hx
    have hd : ∀ y ∈ dgs, y ≠ 32 ∧ y ≠ 10 := by decide
    have hlt := c.toNat_lt
    rcases List.mem_cons.1 hc with rfl | hc
    · exact hd _ (dgN_mem _ (by omega))
    · rcases List.mem_cons.1 hc with rfl | hc
      · exact hd _ (dgN_mem _ (by omega))
      · cases hc
structure MV where
  k : Int
  p : Nat
  n : Int
  b : List UInt8
  t : List UInt8
  oa : Nat
  oh : Int
  oi : Nat
  fo : Bool
def mv0 : MV := ⟨0, 0, 0, [], [], 0, 0, 0, false⟩
def mvGood (m : MV) : Bool :=
  if m.k = 8 then decide (1 ≤ m.n ∧ m.n ≤ 1048576)
  else if m.k = 5 then decide (m.b.length ≤ 4096)
  else if m.k = 7 then decide (m.t.length ≤ 100000) && (decide (m.t = []) || decide (m.t.getLast? = some 10))
  else if m.k = 9 then decide (0 ≤ m.oh ∧ m.oh ≤ 65535) && m.fo
  else decide (1 ≤ m.k ∧ m.k ≤ 10)
def mvOnly (m : MV) : MV :=
  if m.k < 1 ∨ 10 < m.k then mv0
  else ⟨m.k, if m.k = 6 ∨ m.k = 7 then 0 else m.p, if m.k = 8 then m.n else 0, if m.k = 5 then m.b else [], if m.k = 7 then m.t else [], if m.k = 9 then m.oa else 0, if m.k = 9 then m.oh else 0, if m.k = 9 then m.oi else 0, if m.k = 9 then m.fo else false⟩
def wordsM : List (List UInt8) := [[115, 116, 97, 114, 116], [115, 116, 111, 112], [117, 112], [100, 111, 119, 110], [98, 121, 116, 101, 115], [116, 105, 99, 107], [99, 111, 110, 102, 105, 103], [116, 97, 107, 101], [114, 105, 118, 97, 108], [114, 101, 115, 101, 116]]
def wordM (k : Int) : List UInt8 := wordsM.getD (k - 1).toNat []
/-- A text's lines, each of which ends in a line feed. -/
def linesM (t : List UInt8) : List (List UInt8) := (pieces 10 t).dropLast
def tailM (m : MV) : List (List UInt8) :=
  if m.k = 5 then [hexT m.b] else if m.k = 8 then [Lib.decDigits m.n.toNat] else if m.k = 9 then [Lib.decDigits m.oa, Lib.decDigits m.oh.toNat, addrL m.oi] else if m.k = 7 then [Lib.decDigits (linesM m.t).length] else []
def headM (m : MV) : List (List UInt8) := wordM m.k :: ((if m.k = 6 ∨ m.k = 7 then [] else [addrL m.p]) ++ tailM m)
def behM (m : MV) : List (List UInt8) := if m.k = 7 then (linesM m.t).map (124 :: ·) else []
def shownM (m : MV) : List (List UInt8) := jw (headM m) :: behM m
/-- Lines as a text. -/
def feedT (l : List (List UInt8)) : List UInt8 := l.flatMap (· ++ [10])
noncomputable def addrP (w : List UInt8) : Nat := by
  classical
  exact if h : ∃ a, a < 4294967296 ∧ w = addrL a then h.choose else 0
def numP (w : List UInt8) (most : Int) : Nat := if numOk w most then numOf w else 0
theorem addrP_of {a : Nat} (h : a < 4294967296) : addrP (addrL a) = a := by
  unfold addrP
  have he : ∃ x, x < 4294967296 ∧ addrL a = addrL x := ⟨a, h, rfl⟩
  rw [dif_pos he]
  exact (addrL_inj h he.choose_spec.1 he.choose_spec.2).symm
theorem addrP_lt (w : List UInt8) : addrP w < 4294967296 := by
  unfold addrP
  split
  · rename_i h; exact h.choose_spec.1
  · omega
theorem numP_of {n : Nat} {most : Int} (h1 : n < 9223372036854775808) (h2 : (n : Int) ≤ most) : numP (Lib.decDigits n) most = n := by
  unfold numP
  rw [if_pos ((numOk_iff _ _).2 ⟨n, rfl, h1, h2, numOf_dec n⟩), numOf_dec]
theorem numP_le (w : List UInt8) {most : Int} (h : 0 ≤ most) : (numP w most : Int) ≤ most := by
  unfold numP
  split
  · rename_i hk
    obtain ⟨n, _, _, h3, h4⟩ := (numOk_iff w most).1 hk
    rw [h4]; exact h3
  · exact h
def idxW : List (List UInt8) → List UInt8 → Int
  | [], _ => -1
  | x :: l, w => if w = x then 0 else if 0 ≤ idxW l w then idxW l w + 1 else -1
def nthW (l : List (List UInt8)) (i : Nat) : List UInt8 := l.getD i []
/-- A move's first line, as far as it goes, and how many lines it has behind. -/
noncomputable def moveP (line : List UInt8) : MV × Nat :=
  let l := pieces 32 line
  let k := idxW wordsM (nthW l 0) + 1
  if k = 7 then (⟨7, 0, 0, [], [], 0, 0, 0, false⟩, numP (nthW l 1) 1048576)
  else if k = 6 then (⟨6, 0, 0, [], [], 0, 0, 0, false⟩, 0)
  else if k = 5 then (⟨5, addrP (nthW l 1), 0, unT (nthW l 2), [], 0, 0, 0, false⟩, 0)
  else if k = 8 then (⟨8, addrP (nthW l 1), numP (nthW l 2) 1048576, [], [], 0, 0, 0, false⟩, 0)
  else if k = 9 then (⟨9, addrP (nthW l 1), 0, [], [], numP (nthW l 2) 4294967295, numP (nthW l 3) 65535, addrP (nthW l 4), true⟩, 0)
  else (⟨k, addrP (nthW l 1), 0, [], [], 0, 0, 0, false⟩, 0)
def joinB (l : List (List UInt8)) : List UInt8 := l.flatMap fun x => Lib.trimPrefix x [124] ++ [10]
noncomputable def fullM (ls : List (List UInt8)) : MV := { (moveP (ls.headD [])).1 with t := joinB ((ls.drop 1).take (moveP (ls.headD [])).2) }
/-- The move with which lines begin, and how many it has. -/
noncomputable def nextP (ls : List (List UInt8)) : Option (MV × Nat) :=
  if ls.length ≤ (moveP (ls.headD [])).2 then none
  else if mvGood (fullM ls) && decide (shownM (fullM ls) = ls.take ((moveP (ls.headD [])).2 + 1)) then some (fullM ls, (moveP (ls.headD [])).2 + 1) else none
theorem wordM_idx (k : Int) (h1 : 1 ≤ k) (h2 : k ≤ 10) : idxW wordsM (wordM k) = k - 1 := by
  have h : ∀ n : Fin 10, idxW wordsM (wordM ((n.val : Int) + 1)) = (n.val : Int) := by decide +kernel
  have := h ⟨(k - 1).toNat, by omega⟩
  rw [show (((k - 1).toNat : Nat) : Int) + 1 = k by omega] at this
  rw [this]
  show (((k - 1).toNat : Nat) : Int) = k - 1
  omega
theorem wordM_no (k : Int) : ∀ x ∈ wordM k, x ≠ 32 ∧ x ≠ 10 := by
  have h : ∀ w ∈ wordsM, ∀ x ∈ w, x ≠ 32 ∧ x ≠ 10 := by decide
  intro x hx
  unfold wordM at hx
  by_cases hk : (k - 1).toNat < wordsM.length
  · have e : wordsM.getD (k - 1).toNat [] = wordsM[(k - 1).toNat] := by rw [List.getD_eq_getElem?_getD, List.getElem?_eq_getElem hk]; rfl
    rw [e] at hx
    exact h _ (List.getElem_mem hk) x hx
  · rw [List.getD_eq_getElem?_getD, List.getElem?_eq_none (by omega)] at hx
    cases hx
theorem dec_no2 (n : Nat) : ∀ x ∈ Lib.decDigits n, x ≠ 32 ∧ x ≠ 10 := fun x hx => ⟨dec_no (by decide) n x hx, dec_no (by decide) n x hx⟩
theorem addr_no2 (a : Nat) : ∀ x ∈ addrL a, x ≠ 32 ∧ x ≠ 10 := by
  intro x hx
  unfold addrL at hx
  simp only [List.mem_append, List.mem_cons, List.not_mem_nil, or_false] at hx
  rcases hx with (((((hx | rfl) | hx) | rfl) | hx) | rfl) | hx
  all_goals first | exact dec_no2 _ x hx | decide
theorem tailM_no (m : MV) : ∀ w ∈ tailM m, ∀ x ∈ w, x ≠ 32 ∧ x ≠ 10 := by
  intro w hw x hx
  unfold tailM at hw
  split at hw
  · simp at hw; subst hw; exact hexT_no _ x hx
  · split at hw
    · simp at hw; subst hw; exact dec_no2 _ x hx
    · split at hw
      · simp at hw
        rcases hw with rfl | rfl | rfl
        · exact dec_no2 _ x hx
        · exact dec_no2 _ x hx
        · exact addr_no2 _ x hx
      · split at hw
        · simp at hw; subst hw; exact dec_no2 _ x hx
        · cases hw
theorem headM_no (m : MV) : ∀ w ∈ headM m, ∀ x ∈ w, x ≠ 32 ∧ x ≠ 10 := by
  intro w hw x hx
  unfold headM at hw
  rcases List.mem_cons.1 hw with rfl | hw
  · exact wordM_no _ x hx
  · rcases List.mem_append.1 hw with hw | hw
    · split at hw
      · cases hw
      · simp at hw; subst hw; exact addr_no2 _ x hx
    · exact tailM_no m w hw x hx
theorem headM_pieces (m : MV) : pieces 32 (jw (headM m)) = headM m :=
  pieces_jw _ (by unfold headM; simp) (fun w hw h => (headM_no m w hw 32 h).1 rfl)
theorem feed_all : ∀ t : List UInt8, feedT ((pieces 10 t).dropLast) ++ ((pieces 10 t).getLast (pieces_ne 10 t)) = t
  | [] => by simp [pieces, feedT]
  | x :: l => by
    have ih := feed_all l
    obtain ⟨p, ps, hp⟩ : ∃ p ps, pieces 10 l = p :: ps := by
      cases h : pieces 10 l with
      | nil => exact absurd h (pieces_ne 10 l)
      | cons p ps => exact ⟨p, ps, rfl⟩
    by_cases hx : x = 10
    · have e : pieces 10 (x :: l) = [] :: p :: ps := by unfold pieces; rw [if_pos hx, hp]
      simp only [e]
      simp only [hp] at ih
      rw [List.dropLast_cons_of_ne_nil (by simp), List.getLast_cons (by simp), hx]
      show feedT ([] :: (p :: ps).dropLast) ++ _ = _
      unfold feedT at ih ⊢
      rw [List.flatMap_cons]
      simp only [List.nil_append, List.cons_append, List.append_assoc]
      rw [ih]
    · have e : pieces 10 (x :: l) = (x :: p) :: ps := by conv => lhs; unfold pieces
                                                         rw [if_neg hx, hp]; rfl
      simp only [e]
      simp only [hp] at ih
      cases ps with
      | nil => simpa [feedT] using ih
      | cons q qs =>
        rw [List.dropLast_cons_of_ne_nil (by simp), List.getLast_cons (by simp)] at ih ⊢
        unfold feedT at ih ⊢
        rw [List.flatMap_cons] at ih ⊢
        simp only [List.append_assoc, List.cons_append] at ih ⊢
        rw [ih]
theorem pieces_no10 : ∀ (t : List UInt8), ∀ p ∈ pieces 10 t, (10 : UInt8) ∉ p
  | [] => by simp [pieces]
  | x :: l => by
    have ih := pieces_no10 l
    obtain ⟨p, ps, hp⟩ : ∃ p ps, pieces 10 l = p :: ps := by
      cases h : pieces 10 l with
      | nil => exact absurd h (pieces_ne 10 l)
      | cons p ps => exact ⟨p, ps, rfl⟩
    rw [hp] at ih
    intro q hq
    by_cases hx : x = 10
    · have e : pieces 10 (x :: l) = [] :: p :: ps := by unfold pieces; rw [if_pos hx, hp]
      rw [e] at hq
      rcases List.mem_cons.1 hq with rfl | hq
      · simp
      · exact ih q hq
    · have e : pieces 10 (x :: l) = (x :: p) :: ps := by conv => lhs; unfold pieces
                                                         rw [if_neg hx, hp]; rfl
      rw [e] at hq
      rcases List.mem_cons.1 hq with rfl | hq
      · intro h
        rcases List.mem_cons.1 h with h | h
        · exact hx h.symm
        · exact ih p (by simp) h
      · exact ih q (by simp [hq])
/-- Lines come back from their text. -/
theorem pieces_feed : ∀ (l : List (List UInt8)), (∀ p ∈ l, (10 : UInt8) ∉ p) → pieces 10 (feedT l) = l ++ [[]]
  | [], _ => rfl
  | p :: l, h => by
    unfold feedT
    rw [List.flatMap_cons, List.append_assoc]
    show pieces 10 (p ++ 10 :: feedT l) = _
    rw [pieces_cons_no (h p (by simp)), pieces_feed l (fun q hq => h q (by simp [hq]))]
    rfl
theorem feed_lines {t : List UInt8} (h : t = [] ∨ t.getLast? = some 10) : feedT (linesM t) = t := by
  have ha := feed_all t
  have hn := pieces_no10 t _ (List.getLast_mem (pieces_ne 10 t))
  unfold linesM
  have : (pieces 10 t).getLast (pieces_ne 10 t) = [] := by
    obtain ⟨z, hz⟩ : ∃ z, (pieces 10 t).getLast (pieces_ne 10 t) = z := ⟨_, rfl⟩
    rw [hz] at ha hn ⊢
    rcases z.eq_nil_or_concat with rfl | ⟨z', c, rfl⟩
    · rfl
    · exfalso
      rcases h with rfl | h
      · have := congrArg List.length ha
        simp at this
      · rw [← ha] at h
        simp at h
        subst h
        exact hn (by simp)
  rw [this, List.append_nil] at ha
  exact ha
theorem linesM_len (t : List UInt8) : (linesM t).length ≤ t.length := by
  have := pieces_len 10 t
  unfold linesM
  rw [List.length_dropLast]
  omega
structure MvOk (m : MV) : Prop where
  p : m.p < 4294967296
  oa : m.oa < 4294967296
  oi : m.oi < 4294967296
  k : -9223372036854775808 ≤ m.k ∧ m.k ≤ 9223372036854775807
  n : -9223372036854775808 ≤ m.n ∧ m.n ≤ 9223372036854775807
  oh : -9223372036854775808 ≤ m.oh ∧ m.oh ≤ 9223372036854775807
theorem mvGood_k {m : MV} (h : mvGood m = true) : 1 ≤ m.k ∧ m.k ≤ 10 := by
  unfold mvGood at h
  split at h
  · omega
  · split at h
    · omega
    · split at h
      · omega
      · split at h
        · omega
        · simpa using h
theorem moveP_head {m : MV} (ok : MvOk m) (hg : mvGood m = true) : moveP (jw (headM m)) = ({ mvOnly m with t := [] }, (behM m).length) := by
  have hk := mvGood_k hg
  have hi : idxW wordsM (nthW (headM m) 0) + 1 = m.k := by
    show idxW wordsM (wordM m.k) + 1 = m.k
    rw [wordM_idx _ hk.1 hk.2]; omega
  unfold moveP
  rw [headM_pieces]
  simp only [hi]
  have hr : ¬ (m.k < 1 ∨ 10 < m.k) := by omega
  unfold mvOnly behM
  rw [if_neg hr]
  by_cases h7 : m.k = 7
  · have e1 : nthW (headM m) 1 = Lib.decDigits (linesM m.t).length := by
      unfold nthW headM tailM
      simp [h7]
    have hl : (linesM m.t).length ≤ 100000 := by
      unfold mvGood at hg
      rw [h7] at hg
      simp at hg
      have := linesM_len m.t
      omega
    simp only [h7, if_true, e1]
    rw [numP_of (by omega) (by omega), List.length_map]
    simp
  · by_cases h6 : m.k = 6
    · simp [h6]
    · have ea : nthW (headM m) 1 = addrL m.p := by
        unfold nthW headM
        simp [h6, h7]
      by_cases h5 : m.k = 5
      · have e2 : nthW (headM m) 2 = hexT m.b := by
          unfold nthW headM tailM
          simp [h5]
        simp [h5, ea, e2, unT_hexT, addrP_of ok.p]
      · by_cases h8 : m.k = 8
        · have e2 : nthW (headM m) 2 = Lib.decDigits m.n.toNat := by
            unfold nthW headM tailM
            simp [h8]
          have hn : 1 ≤ m.n ∧ m.n ≤ 1048576 := by
            unfold mvGood at hg
            simpa [h8] using hg
          simp only [h8, ea, e2]
          rw [addrP_of ok.p, numP_of (by omega) (by omega)]
          simp
          omega
        · by_cases h9 : m.k = 9
          · have e2 : nthW (headM m) 2 = Lib.decDigits m.oa := by
              unfold nthW headM tailM
              simp [h9]
            have e3 : nthW (headM m) 3 = Lib.decDigits m.oh.toNat := by
              unfold nthW headM tailM
              simp [h9]
            have e4 : nthW (headM m) 4 = addrL m.oi := by
              unfold nthW headM tailM
              simp [h9]
            have hn : (0 ≤ m.oh ∧ m.oh ≤ 65535) ∧ m.fo = true := by
              unfold mvGood at hg
              simpa [h9] using hg
            have := ok.oa
            simp only [h9, ea, e2, e3, e4]
            rw [addrP_of ok.p, addrP_of ok.oi, numP_of (n := m.oa) (most := 4294967295) (by omega) (by omega), numP_of (n := m.oh.toNat) (most := 65535) (by omega) (by omega)]
            simp [hn.2]
            omega
          · simp [h5, h6, h7, h8, h9, ea, addrP_of ok.p]
theorem joinB_bar (l : List (List UInt8)) : joinB (l.map (124 :: ·)) = feedT l := by
  unfold joinB feedT
  rw [List.flatMap_map]
  congr 1
theorem fullM_shown {m : MV} (ok : MvOk m) (hg : mvGood m = true) (r : List (List UInt8)) : fullM (shownM m ++ r) = mvOnly m := by
  have hk := mvGood_k hg
  have hr : ¬ (m.k < 1 ∨ 10 < m.k) := by omega
  unfold fullM
  have e : (shownM m ++ r).headD [] = jw (headM m) := rfl
  rw [e, moveP_head ok hg]
  have e2 : ((shownM m ++ r).drop 1).take (behM m).length = behM m := by
    show (behM m ++ r).take (behM m).length = behM m
    rw [List.take_append_of_le_length (Nat.le_refl _), List.take_length]
  simp only [e2]
  unfold behM mvOnly
  rw [if_neg hr]
  by_cases h7 : m.k = 7
  · simp only [h7, if_true]
    rw [joinB_bar, feed_lines]
    unfold mvGood at hg
    simp [h7] at hg
    exact hg.2
  · simp [h7, joinB]
theorem mvGood_only {m : MV} (h : 1 ≤ m.k ∧ m.k ≤ 10) : mvGood (mvOnly m) = mvGood m := by
  have hr : ¬ (m.k < 1 ∨ 10 < m.k) := by omega
  unfold mvGood mvOnly
  rw [if_neg hr]
  simp only
  split
  · rfl
  · split
    · rfl
    · split
      · rfl
      · split <;> rfl
theorem shown_only {m : MV} (h : 1 ≤ m.k ∧ m.k ≤ 10) : shownM (mvOnly m) = shownM m := by
  have hr : ¬ (m.k < 1 ∨ 10 < m.k) := by omega
  unfold shownM headM behM tailM mvOnly
  rw [if_neg hr]
  simp only
  by_cases h7 : m.k = 7
  · simp [h7]
  · by_cases h6 : m.k = 6
    · simp [h6]
    · by_cases h5 : m.k = 5
      · simp [h5]
      · by_cases h8 : m.k = 8
        · simp [h8]
        · by_cases h9 : m.k = 9 <;> simp [h5, h6, h7, h8, h9]
theorem nextP_shown {m : MV} (ok : MvOk m) (hg : mvGood m = true) (r : List (List UInt8)) : nextP (shownM m ++ r) = some (mvOnly m, (shownM m).length) := by
  have hk := mvGood_k hg
  unfold nextP
  have e : (shownM m ++ r).headD [] = jw (headM m) := rfl
  rw [e, moveP_head ok hg, fullM_shown ok hg]
  have hl : (shownM m ++ r).length = (behM m).length + 1 + r.length := by simp [shownM]; omega
  rw [if_neg (by rw [hl]; simp; omega)]
  have ht : (shownM m ++ r).take ((behM m).length + 1) = shownM m := by
    rw [List.take_append_of_le_length (by simp [shownM]), List.take_of_length_le (by simp [shownM])]
  simp only [ht]
  rw [mvGood_only hk, hg, shown_only hk]
  simp [shownM]
/-- What is read is what is shown. -/
theorem nextP_sound {ls : List (List UInt8)} {m : MV} {k : Nat} (h : nextP ls = some (m, k)) : mvGood m = true ∧ shownM m = ls.take k ∧ k = (shownM m).length ∧ 1 ≤ k ∧ k ≤ ls.length ∧ m = fullM ls := by
  unfold nextP at h
  split at h
  · cases h
  · rename_i hn
    split at h
    · rename_i hc
      simp only [Option.some.injEq, Prod.mk.injEq] at h
      obtain ⟨rfl, rfl⟩ := h
      simp only [Bool.and_eq_true, decide_eq_true_eq] at hc
      exact ⟨hc.1, hc.2, by rw [hc.2, List.length_take]; omega, by omega, by omega, rfl⟩
    · cases h
theorem fullM_only {ls : List (List UInt8)} (h : mvGood (fullM ls) = true) : mvOnly (fullM ls) = fullM ls ∧ MvOk (fullM ls) := by
  have hk := mvGood_k h
  have hr : ¬ ((fullM ls).k < 1 ∨ 10 < (fullM ls).k) := by omega
  obtain ⟨f, hf⟩ : ∃ f, fullM ls = f := ⟨_, rfl⟩
  have hf2 := hf
  unfold fullM moveP at hf2
  rw [hf] at hk hr ⊢
  have hA := addrP_lt
  have hN1 : (numP (nthW (pieces 32 (ls.headD [])) 2) 1048576 : Int) ≤ 1048576 := numP_le _ (by decide)
  have hN2 : (numP (nthW (pieces 32 (ls.headD [])) 2) 4294967295 : Int) ≤ 4294967295 := numP_le _ (by decide)
  have hN3 : (numP (nthW (pieces 32 (ls.headD [])) 3) 65535 : Int) ≤ 65535 := numP_le _ (by decide)
  unfold mvOnly
  rw [if_neg hr]
  simp only at hf2
  generalize idxW wordsM (nthW (pieces 32 (ls.headD [])) 0) + 1 = q at hf2
  generalize numP (nthW (pieces 32 (ls.headD [])) 2) 1048576 = n1 at hf2 hN1
  generalize numP (nthW (pieces 32 (ls.headD [])) 2) 4294967295 = n2 at hf2 hN2
  generalize numP (nthW (pieces 32 (ls.headD [])) 3) 65535 = n3 at hf2 hN3
  split at hf2
  · subst hf2
    exact ⟨by simp, by simp, by simp, by simp, by simp, by simp, by simp⟩
  · rename_i h7
    split at hf2
    · subst hf2
      exact ⟨by simp [joinB], by simp, by simp, by simp, by simp, by simp, by simp⟩
    · rename_i h6
      split at hf2
      · subst hf2
        exact ⟨by simp [joinB], hA _, by simp, by simp, by simp, by simp, by simp⟩
      · rename_i h5
        split at hf2
        · subst hf2
          exact ⟨by simp [joinB], hA _, by simp, by simp, by simp, ⟨by show (-9223372036854775808 : Int) ≤ (n1 : Int); omega, by show (n1 : Int) ≤ 9223372036854775807; omega⟩, by simp⟩
        · rename_i h8
          split at hf2
          · subst hf2
            exact ⟨by simp [joinB], hA _, by show n2 < 4294967296; omega, hA _, by simp, by simp, ⟨by show (-9223372036854775808 : Int) ≤ (n3 : Int); omega, by show (n3 : Int) ≤ 9223372036854775807; omega⟩⟩
          · rename_i h9
            subst hf2
            simp only at hk
            exact ⟨by simp [joinB, h5, h6, h7, h8, h9], hA _, by simp, by simp, ⟨by show (-9223372036854775808 : Int) ≤ q; omega, by show q ≤ 9223372036854775807; omega⟩, by simp, by simp⟩
inductive RdTo (ls : List (List UInt8)) : Nat → List MV → Prop
  | zero : RdTo ls 0 []
  | step {i : Nat} {out : List MV} {m : MV} {k : Nat} : RdTo ls i out → i < ls.length → nextP (ls.drop i) = some (m, k) → RdTo ls (i + k) (out ++ [m])
theorem RdTo.le {ls : List (List UInt8)} {i : Nat} {out : List MV} (h : RdTo ls i out) : i ≤ ls.length := by
  cases h with
  | zero => omega
  | step h1 h2 h3 =>
    have := (nextP_sound h3).2.2.2.2.1
    rw [List.length_drop] at this
    omega
theorem RdTo.sound {ls : List (List UInt8)} {i : Nat} {out : List MV} (h : RdTo ls i out) : out.flatMap shownM = ls.take i ∧ ∀ m ∈ out, mvGood m = true ∧ mvOnly m = m ∧ MvOk m := by
  induction h with
  | zero => simp
  | step h1 h2 h3 ih =>
    rename_i i out m k
    obtain ⟨a1, a2, a3, a4, a5, a6⟩ := nextP_sound h3
    refine ⟨?_, fun x hx => ?_⟩
    · rw [List.flatMap_append, ih.1, List.take_add]
      simp [a2]
    · rcases List.mem_append.1 hx with hx | hx
      · exact ih.2 x hx
      · simp at hx
        subst hx
        have := fullM_only (a6 ▸ a1)
        rw [← a6] at this
        exact ⟨a1, this.1, this.2⟩
theorem RdTo.all : ∀ (ms : List MV) (ls : List (List UInt8)) (i : Nat) (out : List MV), RdTo ls i out → ls.drop i = ms.flatMap shownM → (∀ m ∈ ms, mvGood m = true ∧ MvOk m) → RdTo ls ls.length (out ++ ms.map mvOnly)
  | [], ls, i, out, h, hd, _ => by
    have hl := h.le
    have : ls.length ≤ i := by
      have := congrArg List.length hd
      simp at this; omega
    rw [show ls.length = i by omega]
    simpa using h
  | m :: ms, ls, i, out, h, hd, hm => by
    rw [List.flatMap_cons] at hd
    obtain ⟨hg, ok⟩ := hm m (by simp)
    have hn : nextP (ls.drop i) = some (mvOnly m, (shownM m).length) := by rw [hd]; exact nextP_shown ok hg _
    have hi : i < ls.length := by
      have := congrArg List.length hd
      simp [shownM] at this; omega
    have := RdTo.all ms ls _ _ (h.step hi hn) (by rw [← List.drop_drop, hd]; simp) (fun x hx => hm x (by simp [hx]))
    simpa using this
end Go.Proofs.YtlfknndpbejbcaaGreatDoor
set_option linter.unusedSimpArgs false
set_option linter.unusedVariables false
namespace Go.Proofs.YtlfknndpbejbcaaGreatDoor
open Go.RowKit
theorem joinTail_len : ∀ ws : List (List UInt8), (Lib.joinTail [32] ws).length = (ws.map List.length).sum + ws.length
  | [] => by simp [Lib.joinTail]
  | w :: ws => by
    have := joinTail_len ws
    simp [Lib.joinTail] at this ⊢
    omega
theorem jw_len2 (ws : List (List UInt8)) : (jw ws).length ≤ (ws.map List.length).sum + ws.length := by
  cases ws with
  | nil => simp [jw, Lib.join_nil]
  | cons w ws =>
    unfold jw
    rw [Lib.join_cons, List.length_append, joinTail_len]
    simp; omega
end Go.Proofs.YtlfknndpbejbcaaGreatDoor
set_option linter.unusedSimpArgs false
set_option linter.unusedVariables false
namespace Go.Proofs.YtlfknndpbejbcaaGreatDoor
open Go.RowKit
theorem joinOwn2 (A : Option Addr) (k c base : Nat) (l : List (List UInt8)) (w : World) (h : w.ownsRow base 9 1 (.slice A k c) k (strv l)) (hk : k ≤ 1000) (hl : (jw l).length ≤ 100000) :
    Calls Tryz.prog 80 #[.slice A k c, .string ⟨#[32]⟩] w fun e w' => e = .returned (.string (str (jw l))) ∧ Below w.heap.size w w' := by
  have hlk : l.length = k := by have := h.1; simp [strv] at this; omega
  by_cases hk0 : k = 0
  · subst hk0
    obtain rfl : l = [] := List.eq_nil_of_length_eq_zero hlk
    refine (Tryz.strings_Join_none A c ⟨#[32]⟩ w).mono ?_
    rintro e w' ⟨rfl, rfl⟩
    exact ⟨rfl, Below.refl _ _⟩
  · obtain ⟨g, cap, hv, _, hlt⟩ := h.form (by omega)
    cases hv
    have hcap : k ≤ c := by
      rcases h.2 with ⟨hv, h0⟩ | ⟨g', cap', cur, hv, _, _, hnc, _⟩
      · cases hv
      · cases hv; exact hnc
    have hm : (l.map str).map (·.data.toList) = l := by rw [List.map_map]; exact (List.map_congr_left (fun x _ => str_data x)).trans (List.map_id l)
    have hj := Tryz.strings_Join g 0 c (l.map str) ⟨#[32]⟩ w (fun j x hx => by
        have := h.cells (g := g) rfl j (.string x) (by simp only [strv, List.getElem?_map] at hx ⊢; rw [Option.map_eq_some_iff] at hx ⊢; obtain ⟨y, hy, rfl⟩ := hx; exact ⟨y, hy, rfl⟩)
        rw [show (⟨g, 0, none⟩ : Addr).add j = ⟨g, 0 + j, none⟩ by unfold Addr.add; split <;> simp_all] at this
        exact this) hlt (by simp; omega) (by simp; omega) (by
        rw [hm]
        unfold jw at hl
        show (Lib.join l [32]).length ≤ _
        omega)
    rw [hm, List.length_map, hlk] at hj
    refine hj.mono ?_
    rintro e w' ⟨rfl, hb⟩
    exact ⟨rfl, hb⟩
set_option maxHeartbeats 1000000 in
theorem lextext2 (A : Option Addr) (k c base : Nat) (l : List (List UInt8)) (w : World) (h : w.ownsRow base 9 1 (.slice A k c) k (strv l)) (hk : k ≤ 1000) (hl : (jw l).length ≤ 100000) :
    Calls Tryz.prog 68 #[.slice A k c] w fun e w' => e = .returned (.string (str (jw l))) ∧ Below w.heap.size w w' := by
  have HJ := hide (joinOwn2 A k c base l w h hk hl)
  clear h hl
  go_enter Tryz.func68, Tryz.ntmps68
  go_wp2_with fail
  refine HJ.out.mono ?_
  rintro e w1 ⟨rfl, hb⟩
  have HB := hide hb
  clear hb
  go_wp2
  go_ret
  exact ⟨rfl, HB.out⟩
theorem builder_strA (B b : Nat) (l : List UInt8) (w : World) (h : Lib.IsBuilder 57 5 B b (Lib.byteCells l) w) (hBw : B ≤ w.heap.size) :
    Calls Tryz.prog 32 #[.pointer (some ⟨b, 0, none⟩)] w fun e w' => e = .returned (.string ⟨l.toArray⟩) ∧ Below B w w' := Any.Builder_String_any { Tryz.lays156 with } Tryz.Builder_Extra_156 B b l w h hBw
end Go.Proofs.YtlfknndpbejbcaaGreatDoor
set_option linter.unusedSimpArgs false
set_option linter.unusedVariables false
namespace Go.Proofs.YtlfknndpbejbcaaGreatDoor
open Go.RowKit Go.WideShapes Go.ChangeShapes
attribute [local go_sem] Oper.semAt_some
theorem ret_i64 {i j : Int} (h : i = j) : Ending.returned (.int .i64 i) = .returned (.int .i64 j) := by rw [h]
end Go.Proofs.YtlfknndpbejbcaaGreatDoor
set_option linter.unusedSimpArgs false
set_option linter.unusedVariables false
namespace Go.Proofs.YtlfknndpbejbcaaGreatDoor
open Go.RowKit
attribute [local go_sem] Oper.semAt_some
end Go.Proofs.YtlfknndpbejbcaaGreatDoor
set_option linter.unusedSimpArgs false
set_option linter.unusedVariables false
namespace Go.Proofs.YtlfknndpbejbcaaGreatDoor
open Go.RowKit
attribute [local go_sem] Oper.semAt_some
end Go.Proofs.YtlfknndpbejbcaaGreatDoor
set_option linter.unusedSimpArgs false
set_option linter.unusedVariables false
namespace Go.Proofs.YtlfknndpbejbcaaGreatDoor
open Go.RowKit
attribute [local go_sem] Oper.semAt_some
theorem own_other {w w3 : World} {o : Obj} {base base' size size' n n' : Nat} {e e' : TypeId} {v v' : Value} {xs xs' : List Value} (h : w.ownsRow base e size v n xs) (h2 : w.ownsRow base' e' size' v' n' xs') (hne : e ≠ e')
    (hg : (w.alloc o).grownBy w3 v'.ownBlock) : w3.ownsRow base e size v n xs := by
  refine (h.alloc o).kept hg ?_
  rcases h.2 with ⟨e1, _⟩ | ⟨g, cap, cur, e1, _, hgc, _⟩
  · left; rw [e1]; rfl
  · right
    rcases h2.2 with ⟨e2, _⟩ | ⟨g', cap', cur', e2, _, hgc', _⟩
    · rw [e1, e2]; simp [Value.ownBlock]
    · rw [e1, e2]
      intro hh
      have : g = g' := by simpa [Value.ownBlock] using hh
      subst this
      rw [hgc] at hgc'
      injection hgc' with hgc'
      injection hgc' with _ h3
      exact hne h3
end Go.Proofs.YtlfknndpbejbcaaGreatDoor
set_option linter.unusedSimpArgs false
set_option linter.unusedVariables false
namespace Go.Proofs.YtlfknndpbejbcaaGreatDoor
open Go.RowKit
attribute [local go_sem] Oper.semAt_some
end Go.Proofs.YtlfknndpbejbcaaGreatDoor
set_option linter.unusedSimpArgs false
set_option linter.unusedVariables false
namespace Go.Proofs.YtlfknndpbejbcaaGreatDoor
open Go.RowKit
attribute [local go_sem] Oper.semAt_some
def zeros20 : Array Value := #[Value.int .u8 0, Value.int .u8 0, Value.int .u8 0, Value.int .u8 0, Value.int .u8 0, Value.int .u8 0, Value.int .u8 0, Value.int .u8 0, Value.int .u8 0, Value.int .u8 0, Value.int .u8 0, Value.int .u8 0, Value.int .u8 0, Value.int .u8 0, Value.int .u8 0, Value.int .u8 0, Value.int .u8 0, Value.int .u8 0, Value.int .u8 0, Value.int .u8 0, Value.int .u8 0, Value.int .u8 0, Value.int .u8 0, Value.int .u8 0]
theorem zeros20_at (i : Nat) (h : i < 24) : zeros20[i]? = some (.int .u8 0) := by
  have e : zeros20 = Array.replicate 24 (.int .u8 0) := rfl
  rw [e, Array.getElem?_replicate, if_pos h]
theorem holds20 (w : World) (T : TypeId) (nd : Nat) (hs : nd ≤ 20) : Go.Sort.Holds (fun (b : UInt8) => Value.int .u8 (b.toNat : Int)) (w.alloc (.cells zeros20 T)) w.heap.size 0 (Array.replicate nd (0 : UInt8)) := fun j hj => by
  have hj' : j < nd := by simpa using hj
  refine ⟨?_, World.frozen?_alloc_new _ _ _ _⟩
  rw [World.cell?_alloc_new, zeros20_at _ (by omega), getElem!_pos _ j hj]
  simp
theorem fin20 (w : World) (o : Obj) (dk : Array UInt8) (k : Nat) : ∃ os, (Go.Sort.putRow (fun (b : UInt8) => Value.int .u8 (b.toNat : Int)) (w.alloc o) w.heap.size 0 dk).drewN k = Go.Sort.grow (w.drewN k) os := by
  rw [Go.Sort.alloc_eq_grow]
  obtain ⟨os', _, e⟩ := Go.Sort.putRow_grow_new (fun (b : UInt8) => Value.int .u8 (b.toNat : Int)) w #[o] w.heap.size 0 dk (Nat.le_refl _)
  exact ⟨os', by rw [e]; rfl⟩
set_option maxHeartbeats 6400000 in
set_option maxRecDepth 100000 in
/-- strconv.FormatUint at base 10, for every uint64. -/
theorem fmtU_any (u : Nat) (h : u < 18446744073709551616) (w : World) (ht : Tab w) : Calls Tryz.prog 48 #[.int .u64 u, .int .i64 10] w fun e w' => e = .returned (.string (str (Lib.decDigits u))) ∧ Below w.heap.size w w' := by
  have HF : Hid (Calls Tryz.prog 66 #[.int .u64 u, .int .i64 10] w fun e w' => e = .returned (.string (str (Lib.decDigits u))) ∧ Below w.heap.size w w') := hide (by
    by_cases hs : u < 100
    · have HS := hide (fun w => Tryz.internal_strconv_small u hs w)
      go_enter Tryz.func66, Tryz.ntmps66
      go_wp2_with fail
      refine (HS.out _).mono ?_
      rintro e w1 ⟨rfl, rfl⟩
      go_wp2
      go_ret
      exact ⟨rfl, Below.refl _ _⟩
    · have hu1 : 1 ≤ u := by omega
      have hnd20 : Lib.nDigits u ≤ 20 := by have := Lib.numDigits_eq u hu1 h; split at this <;> omega
      have hal : Tryz.prog.arrayLen 104 = 24 := by kernel_rfl
      have hsl1 : ∀ W, (Instr.sliceAt 104 (.pointer (some ⟨w.heap.size, 0, none⟩)) none (some (.int .i64 (Lib.nDigits u : Int))) none).run Tryz.prog W = .ok (.slice (some ⟨w.heap.size, 0, none⟩) (Lib.nDigits u) 24) W := fun W => by
        rw [run_sliceAt_array_h W 104 ⟨w.heap.size, 0, none⟩ (by simp [Program.arrayLen, Program.elem, Tryz.underlying104]) .i64 (Lib.nDigits u : Int) (by omega) (by rw [hal]; omega)]
        go_simp
      have hH0 := holds20 w 104 (Lib.nDigits u) hnd20
      have hfmt := Tryz.internal_strconv_formatBase10 w.heap.size 0 24 u (Array.replicate (Lib.nDigits u) 0) (w.alloc (.cells zeros20 104)) hH0 (by rw [Array.size_replicate]; exact Lib.lt_pow_nDigits u) h (by rw [Array.size_replicate]; omega)
      rw [Array.size_replicate] at hfmt
      have HH0 := hide hH0
      have HT := hide ht
      clear hH0 hal ht
      go_enter Tryz.func66, Tryz.ntmps66
      go_wp2_with (first
        | (go_at_call 83; refine (Tryz.internal_strconv_numDigits u hu1 h _ (Lib.tabIs_alloc HT.out _)).mono ?_; rintro e w' ⟨rfl, rfl⟩))
      go_at_call 84
      refine hfmt.mono ?_
      rintro e w' ⟨rfl, k, v', dk, rfl, hF⟩
      have hcv : (convert 28 9 (.slice (some ⟨w.heap.size, 0, none⟩) (Lib.nDigits u) 24)).run Tryz.prog ((Go.Sort.putRow (fun (b : UInt8) => Value.int .u8 (b.toNat : Int)) (w.alloc (.cells zeros20 104)) w.heap.size 0 dk).drewN k) = .ok (.string ⟨(Lib.decDigits u).toArray⟩) ((Go.Sort.putRow (fun (b : UInt8) => Value.int .u8 (b.toNat : Int)) (w.alloc (.cells zeros20 104)) w.heap.size 0 dk).drewN k) := by
        have h := run_convert_bytes_back (P := Tryz.prog) ((Go.Sort.putRow (fun (b : UInt8) => Value.int .u8 (b.toNat : Int)) (w.alloc (.cells zeros20 104)) w.heap.size 0 dk).drewN k) 28 9 5 ⟨w.heap.size, 0, none⟩ 24 (Lib.decDigits u) Tryz.underlying28 Tryz.underlying5 Tryz.underlying9 (fun j hj => by
          rw [Lib.row_is_numeral hF j hj, Lib.add_plain, World.cell?_drewN]
          exact Go.Sort.cell?_putRow (fun (b : UInt8) => Value.int .u8 (b.toNat : Int)) _ w.heap.size 0 _ dk HH0.out (by rw [hF.size, Array.size_replicate]) j (by rw [hF.size]; rw [Lib.decDigits_length] at hj; exact hj))
        rw [Lib.decDigits_length] at h
        exact h
      go_wp2
      go_ret
      obtain ⟨os, eo⟩ := fin20 w (.cells zeros20 104) dk k
      refine ⟨rfl, ?_⟩
      rw [eo]
      exact Lib.below_grow _ _ (Nat.le_refl _) _ _)
  go_enter Tryz.func48, Tryz.ntmps48
  go_wp2_with fail
  refine HF.out.mono ?_
  rintro e w1 ⟨rfl, hb⟩
  have HB := hide hb
  clear hb
  go_wp2
  go_ret
  exact ⟨rfl, HB.out⟩
end Go.Proofs.YtlfknndpbejbcaaGreatDoor
set_option linter.unusedSimpArgs false
set_option linter.unusedVariables false
namespace Go.Proofs.YtlfknndpbejbcaaGreatDoor
open Go.RowKit
attribute [local go_sem] Oper.semAt_some
end Go.Proofs.YtlfknndpbejbcaaGreatDoor
set_option linter.unusedSimpArgs false
set_option linter.unusedVariables false
namespace Go.Proofs.YtlfknndpbejbcaaGreatDoor
open Go.RowKit
attribute [local go_sem] Oper.semAt_some
theorem own_oneS {w : World} {base : Nat} (x : Value) (hb : base ≤ w.heap.size) : (w.alloc (.cells #[x] 9)).ownsRow base 9 1 (.slice (some ⟨w.heap.size, 0, none⟩) 1 1) 1 [x] :=
  ⟨rfl, .inr ⟨w.heap.size, 1, #[x], rfl, hb, heap_alloc_new w _, Nat.le_refl _, by simp [maxLen], rfl, by simp⟩⟩
theorem StrsAt.of_own {w : World} {base n c : Nat} {A : Option Addr} {l : List (List UInt8)} (h : w.ownsRow base 9 1 (.slice A n c) n (strv l)) (hb : ∀ x ∈ l, x.length ≤ maxLen) : StrsAt w A n c (l.map str) := by
  have hl : l.length = n := by have := h.1; rw [strv_len] at this; omega
  have hsz : ∀ x ∈ l.map str, x.size ≤ maxLen := fun x hx => by
    obtain ⟨y, hy, rfl⟩ := List.mem_map.1 hx
    rw [str_size]; exact hb y hy
  rcases h.2 with ⟨hv, h0⟩ | ⟨g, cap, cur, hv, _, hh, hnc, hm, _⟩
  · injection hv with e1 e2 e3
    subst e2 e3
    exact ⟨by simp [hl], Nat.le_refl _, by simp [maxLen], hsz, fun h => by omega⟩
  · injection hv with e1 _ e3
    subst e1 e3
    refine ⟨by simp [hl], hnc, hm, hsz, fun _ => ⟨g, 0, rfl, (Array.getElem?_eq_some_iff.1 hh).1, fun k x hk => ?_⟩⟩
    rw [List.getElem?_map, Option.map_eq_some_iff] at hk
    obtain ⟨y, hy, rfl⟩ := hk
    have := h.cells (g := g) rfl k (.string (str y)) (by simp [strv, hy])
    rw [show (⟨g, 0, none⟩ : Addr).add k = ⟨g, 0 + k, none⟩ by unfold Addr.add; split <;> simp_all] at this
    exact this
set_option maxHeartbeats 1000000 in
theorem strEq_any (A B : Option Addr) (n c m d : Nat) (xs ys : List ByteArray) (w : World) (hx : StrsAt w A n c xs) (hy : StrsAt w B m d ys) :
    Calls Tryz.prog 41 #[.slice A n c, .slice B m d] w fun e w' => e = .returned (.bool (decide (xs = ys))) ∧ Below w.heap.size w w' := by
  have hm1 := hx.2.2.1
  have hm2 := hy.2.2.1
  have hnc := hx.2.1
  have hmd := hy.2.1
  unfold maxLen at hm1 hm2
  by_cases hnm : n = m
  · subst hnm
    by_cases h0 : n = 0
    · subst h0
      refine (Tryz.slices_Equal_string_empty A B c 0 d w (by omega)).mono ?_
      rintro e w' ⟨rfl, rfl⟩
      refine ⟨ret_bool ?_, Below.refl _ _⟩
      rw [List.eq_nil_of_length_eq_zero hx.1, List.eq_nil_of_length_eq_zero hy.1]; rfl
    · obtain ⟨g, o, rfl, hg, hc⟩ := hx.2.2.2.2 (by omega)
      obtain ⟨g2, o2, rfl, hg2, hc2⟩ := hy.2.2.2.2 (by omega)
      refine (Tryz.slices_Equal_string g o n c g2 o2 n d xs ys w (by rw [hx.1]; exact Nat.le_refl _) (by rw [hy.1]; exact Nat.le_refl _) (by omega) (by omega) (fun j hj => ?_) (fun j hj => ?_)).mono ?_
      · rw [hc j _ (List.getElem?_eq_getElem hj)]; simp [List.getD, hj]
      · rw [hc2 j _ (List.getElem?_eq_getElem hj)]; simp [List.getD, hj]
      · rintro e w' ⟨rfl, q, rfl⟩
        refine ⟨ret_bool ?_, below_drewN0 _ _⟩
        rw [List.take_of_length_le (by rw [hx.1]; exact Nat.le_refl _), List.take_of_length_le (by rw [hy.1]; exact Nat.le_refl _)]
  · have hne : decide (n = m) = false := decide_eq_false hnm
    have hne2 : ((n : Int) != (m : Int)) = true := by simp; omega
    have HR := hide (show decide (xs = ys) = false by
      refine decide_eq_false fun e => hnm ?_
      rw [← hx.1, ← hy.1, e])
    clear hx hy hnm
    go_enter Tryz.func41, Tryz.ntmps41
    go_wp2
    go_ret
    exact ⟨ret_bool HR.out.symm, Below.refl _ _⟩
end Go.Proofs.YtlfknndpbejbcaaGreatDoor
set_option linter.unusedSimpArgs false
set_option linter.unusedVariables false
namespace Go.Proofs.YtlfknndpbejbcaaGreatDoor
open Go.RowKit
attribute [local go_sem] Oper.semAt_some
end Go.Proofs.YtlfknndpbejbcaaGreatDoor
set_option linter.unusedSimpArgs false
set_option linter.unusedVariables false
namespace Go.Proofs.YtlfknndpbejbcaaGreatDoor
open Go.RowKit
attribute [local go_sem] Oper.semAt_some
theorem lexTextB_any (A : Option Addr) (k c base : Nat) (l : List (List UInt8)) (w : World) (h : w.ownsRow base 9 1 (.slice A k c) k (strv l)) (hk : k ≤ 1000) (hl : (jw l).length ≤ 100000) :
    Calls Tryz.prog 50 #[.slice A k c] w fun e w' => e = .returned (.string (str (jw l))) ∧ Below w.heap.size w w' := by
  have HX := hide (lextext2 A k c base l w h hk hl)
  clear h
  go_enter Tryz.func50, Tryz.ntmps50
  go_wp2_with fail
  refine HX.out.mono ?_
  rintro e w1 ⟨rfl, hb⟩
  have HB := hide hb
  clear hb
  go_wp2
  go_ret
  exact ⟨rfl, HB.out⟩
end Go.Proofs.YtlfknndpbejbcaaGreatDoor
set_option linter.unusedSimpArgs false
set_option linter.unusedVariables false
namespace Go.Proofs.YtlfknndpbejbcaaGreatDoor
open Go.RowKit
attribute [local go_sem] Oper.semAt_some
theorem parts_pieces (p : UInt8) : ∀ l : List UInt8, parts p l = pieces p l
  | [] => rfl
  | c :: r => by
    rw [parts, pieces, parts_pieces p r]
    split
    · rfl
    · cases h : pieces p r with
      | nil => exact absurd h (pieces_ne p r)
      | cons a t => rfl
end Go.Proofs.YtlfknndpbejbcaaGreatDoor
set_option linter.unusedSimpArgs false
set_option linter.unusedVariables false
namespace Go.Proofs.YtlfknndpbejbcaaGreatDoor
open Go.RowKit
attribute [local go_sem] Oper.semAt_some
def SplP (c : UInt8) (l : List UInt8) (w : World) (e : Ending) (w' : World) : Prop :=
  e = .returned (.slice (some ⟨w.heap.size, 0, none⟩) (pieces c l).length (pieces c l).length) ∧ Below w.heap.size w w' ∧ w.heap.size < w'.heap.size ∧ ∀ j x, (pieces c l)[j]? = some x → w'.cell? ⟨w.heap.size, j, none⟩ = some (.string (str x))
theorem split_any (c : UInt8) (l : List UInt8) (hl : l.length ≤ 100000) (w : World) (he : Env w) : Calls Tryz.prog 25 #[.string (str l), .string ⟨#[c]⟩] w (SplP c l w) := by
  obtain ⟨m, hm⟩ := he.most
  have h := Tryz.strings_Split (str l) ⟨#[c]⟩ m w (by rw [str_size]; omega) hm (by show 1 ≤ (⟨#[c]⟩ : ByteArray).size; simp [ByteArray.size])
  rw [splitB_parts, countB_parts, parts_pieces] at h
  refine h.mono ?_
  rintro e w' ⟨rfl, rfl⟩
  refine ⟨rfl, (Below.refl _ _).alloc (Nat.le_refl _) _, by simp, fun j x hj => ?_⟩
  have hb := (Blk.new w 9 (((pieces c l).map str).map Value.string).toArray).cell j
  rw [hb]
  simp [hj]
end Go.Proofs.YtlfknndpbejbcaaGreatDoor
set_option linter.unusedSimpArgs false
set_option linter.unusedVariables false
namespace Go.Proofs.YtlfknndpbejbcaaGreatDoor
open Go.RowKit Go.WideShapes Go.ChangeShapes
attribute [local go_sem] Oper.semAt_some
theorem LstAt.keepW {α : Type} {sz : Nat} {R : World → List Value → α → Prop} {w w' : World} {A : Option Addr} {n c : Nat} {l : List α} (h : LstAt sz R w A n c l) (hR : ∀ vs x, R w vs x → R w' vs x) (hs : w.heap.size ≤ w'.heap.size)
    (hc : ∀ (ad : Addr) (i : Nat), A = some ad → w'.cell? ⟨ad.block, i, none⟩ = w.cell? ⟨ad.block, i, none⟩) : LstAt sz R w' A n c l := by
  refine ⟨h.1, h.2.1, h.2.2.1, fun hn => ?_⟩
  obtain ⟨g, o, hA, hg, hcc⟩ := h.2.2.2 hn
  refine ⟨g, o, hA, Nat.lt_of_lt_of_le hg hs, fun k x hk => ?_⟩
  obtain ⟨vs, h1, h2, h3⟩ := hcc k x hk
  exact ⟨vs, h1, hR _ _ h2, fun j v hv => (hc _ _ hA).trans (h3 j v hv)⟩
end Go.Proofs.YtlfknndpbejbcaaGreatDoor
set_option linter.unusedSimpArgs false
set_option linter.unusedVariables false
namespace Go.Proofs.YtlfknndpbejbcaaGreatDoor
open Go.RowKit Go.WideShapes Go.ChangeShapes
attribute [local go_sem] Oper.semAt_some
theorem own_low_block {w : World} {base n size : Nat} {e : TypeId} {v : Value} {xs : List Value} (h : w.ownsRow base e size v n xs) : ∀ k, v.ownBlock = some k → base ≤ k := by
  intro k hk
  rcases h.2 with ⟨rfl, _⟩ | ⟨g, cap, cur, rfl, hb, _⟩
  · simp [Value.ownBlock] at hk
  · have : g = k := by simpa [Value.ownBlock] using hk
    rw [← this]; exact hb
theorem own_baseLe {w : World} {b b' n size : Nat} {e : TypeId} {v : Value} {xs : List Value} (h : w.ownsRow b e size v n xs) (hb : b' ≤ b) : w.ownsRow b' e size v n xs := by
  refine ⟨h.1, ?_⟩
  rcases h.2 with h2 | ⟨g, cap, cur, h1, h2, h3⟩
  · exact .inl h2
  · exact .inr ⟨g, cap, cur, h1, Nat.le_trans hb h2, h3⟩
end Go.Proofs.YtlfknndpbejbcaaGreatDoor
set_option linter.unusedSimpArgs false
set_option linter.unusedVariables false
namespace Go.Proofs.YtlfknndpbejbcaaGreatDoor
open Go.RowKit Go.WideShapes Go.ChangeShapes
attribute [local go_sem] Oper.semAt_some
theorem reads_blkN {w : World} {g B n sz : Nat} {t : TypeId} {cs : Array Value} {xs : List Value} (h : Blk w g t cs) (hB : g < B) (hx : cs.toList = xs) (hn : xs.length = n * sz) : Reads w B sz (some ⟨g, 0, none⟩) n xs :=
  ⟨hn, fun _ => ⟨_, rfl, hB, fun j u hu => by
    have e : (⟨g, 0, none⟩ : Addr).add j = ⟨g, j, none⟩ := by unfold Addr.add; split <;> simp_all
    rw [e, h.cell j, ← hu, ← hx]; simp⟩⟩
end Go.Proofs.YtlfknndpbejbcaaGreatDoor
set_option linter.unusedSimpArgs false
set_option linter.unusedVariables false
namespace Go.Proofs.YtlfknndpbejbcaaGreatDoor
open Go.RowKit Go.WideShapes Go.ChangeShapes
attribute [local go_sem] Oper.semAt_some
def byR (w : World) (vs : List Value) (x : UInt8) : Prop := vs = [.int .u8 (x.toNat : Int)]
theorem byMono : SMono byR := fun _ _ _ _ _ h => h
theorem BYat {w : World} {A : Option Addr} {n c : Nat} {l : List UInt8} (h : LstAt 1 byR w A n c l) {k : Nat} (hk : k < n) :
    ∃ (g o : Nat) (x : UInt8), A = some ⟨g, o, none⟩ ∧ g < w.heap.size ∧ l[k]? = some x ∧ w.cell? ⟨g, o + k, none⟩ = some (.int .u8 (x.toNat : Int)) := by
  obtain ⟨g, o, x, vs, hA, hg, hx, _, rfl, hc⟩ := h.at_ hk
  exact ⟨g, o, x, hA, hg, hx, by have := hc 0 _ rfl; simpa using this⟩
def byB (l : List UInt8) : List Value := l.map fun x => .int .u8 (x.toNat : Int)
theorem byB_len (l : List UInt8) : (byB l).length = l.length := by simp [byB]
theorem byB_chunks {w : World} : ∀ l : List UInt8, Chunks 1 byR w (byB l) l
  | [] => Chunks.nil_
  | x :: l => by
    have := (Chunks.one_ (sz := 1) (R := byR) (w := w) (vs := [.int .u8 (x.toNat : Int)]) (x := x) rfl rfl).app_ (byB_chunks l)
    simpa [byB] using this
theorem by_lst {B : Nat} {w : World} {A : Option Addr} {n c : Nat} {l : List UInt8} (h : w.ownsRow B 5 1 (.slice A n c) n (byB l)) : LstAt 1 byR w A n c l := LstAt.of_own (by decide) h (byB_chunks l)
theorem sU8Info : (Tryz.prog.info? 5).map (fun i => (i.zero, i.size, i.bytes)) = some (some (.int .u8 0), 1, 1) := by kernel_rfl
set_option maxRecDepth 100000 in
theorem builder_wb (B b : Nat) (bs : List Value) (c : Int) (w : World) (h : Lib.IsBuilder 57 5 B b bs w) (hlen : bs.length + 1 ≤ 1000000000) (hBw : B ≤ w.heap.size) :
    Calls Tryz.prog 43 #[.pointer (some ⟨b, 0, none⟩), .int .u8 c] w fun e w' => e = .returned .nilIface ∧ (Lib.BuilderAt 57 5 B b (.pointer (some ⟨b, 0, none⟩)) (bs ++ [.int .u8 c]) w' ∧ Below B w w') := by
  obtain ⟨i0, hi, hz0, hz1, hz2⟩ := info_parts sU8Info
  have HC := hide (Any.Builder_copyCheck { Tryz.lays156 with } Tryz.Builder_Extra_156.toX72 B b bs w h)
  obtain ⟨n, hn⟩ : ∃ n, bs.length = n := ⟨_, rfl⟩
  have HN := hide hn
  rw [hn] at hlen
  clear h hn
  go_enter Tryz.func43, Tryz.ntmps43
  go_wp2_with fail
  refine HC.out.mono ?_
  rintro e w1 ⟨rfl, h1, hb1⟩
  obtain ⟨hB, v, hbk, hown, hne⟩ := h1
  rw [HN.out] at hown
  obtain ⟨A, c0, rfl⟩ := own_slice hown
  have hk : Blk w1 b 57 #[.pointer (some ⟨b, 0, none⟩), .slice A n c0] := hbk
  have HK := hide hk
  have HO := hide hown
  have HB1 := hide hb1
  have x1 := hk.cell 1
  have hs := hb1.size
  clear hbk hk hown hb1
  go_wp2_with (at_builtin; refine wpList_append_any _ rfl (.tmp 11) (.tmp 13) 28 rfl B 5 i0 _ 1 1 Tryz.underlying28 hi hz0 hz1 hz2 rfl (by decide) (.slice A n c0) n _ rfl (HO.out.alloc _) (w1.heap.size + 1) (some ⟨w1.heap.size, 0, none⟩) 1 1 [.int .u8 c] rfl (reads_blkN (Blk.new _ _ _) (Nat.lt_succ_self _) rfl rfl) (by simp [Value.oneCell']) (by unfold maxLen; omega) (by omega) (by simp; omega) ?_; intro v' w3 hown' hgrow hat; have HO3 := hide hown'; have HK3 := hide ((HK.out.alloc _).grown hgrow (fun e => hne e.symm)); have HB3 : Hid (Below B w w3) := hide (Below.grown (HB1.out.alloc (by omega) _) hgrow (by simp; omega) (fun k hk => own_low_block HO.out k hk)); clear hown' hgrow hat; obtain ⟨A', c', rfl⟩ := own_slice HO3.out; have f1 := HK3.out.frozen 1; have y1 := HK3.out.cell 1)
  go_ret
  refine ⟨rfl, ⟨hB, _, (HK3.out.set_ 1 _), ?_, own_blk_ne HO3.out HK3.out (by decide)⟩, HB3.out.setCell (p := ⟨b, 1, none⟩) hB _⟩
  have := own_set (i := 1) HO3.out (own_blk_ne HO3.out HK3.out (by decide)) (.slice A' (n + 1) c')
  simpa [HN.out] using this
theorem bytes_one (l : List UInt8) (x : UInt8) : Lib.byteCells l ++ [.int .u8 (x.toNat : Int)] = Lib.byteCells (l ++ [x]) := by
  simp [Lib.byteCells]
theorem dg_get (i : Nat) (h : i < (⟨#[48, 49, 50, 51, 52, 53, 54, 55, 56, 57, 97, 98, 99, 100, 101, 102]⟩ : ByteArray).size) : (⟨#[48, 49, 50, 51, 52, 53, 54, 55, 56, 57, 97, 98, 99, 100, 101, 102]⟩ : ByteArray)[i] = dgN i := by
  have h16 : i < 16 := h
  have hh : ∀ n : Fin 16, ((⟨#[48, 49, 50, 51, 52, 53, 54, 55, 56, 57, 97, 98, 99, 100, 101, 102]⟩ : ByteArray)[n.val]'n.isLt) = dgN n.val := by decide +kernel
  exact hh ⟨i, h16⟩
set_option maxRecDepth 100000 in
set_option maxHeartbeats 2000000 in
theorem hex_any (A : Option Addr) (n c : Nat) (l : List UInt8) (w : World) (h : LstAt 1 byR w A n c l) (hn : n ≤ 1000000) :
    Calls Tryz.prog 28 #[.slice A n c] w fun e w' => e = .returned (.string (str (hexT l))) ∧ Below w.heap.size w w' := by
  have hm := h.2.2.1
  have hnc := h.2.1
  unfold maxLen at hm
  have HU := hide h
  by_cases h0 : n = 0
  · subst h0
    have hl : Hid (hexT l = [45]) := hide (by rw [List.eq_nil_of_length_eq_zero h.1]; rfl)
    clear h
    go_enter Tryz.func28, Tryz.ntmps28
    go_wp2
    go_ret
    exact ⟨by rw [hl.out]; rfl, Below.refl _ _⟩
  · have hne : decide (n = 0) = false := decide_eq_false h0
    have hne2 : ((n : Int) == 0) = false := by simp; omega
    have hl : Hid (hexT l = hexD l) := hide (by unfold hexT; rw [if_neg (fun e => h0 (by rw [← h.1, e]; rfl))])
    have HBl : Hid (Lib.IsBuilder 57 5 w.heap.size w.heap.size (Lib.byteCells []) (w.alloc (.cells #[.pointer none, .slice none 0 0] 57))) := hide (Lib.fresh_isBuilder 57 5 w)
    have HBe := hide ((Below.refl w.heap.size w).alloc (Nat.le_refl _) (.cells #[.pointer none, .slice none 0 0] 57))
    clear h
    go_enter Tryz.func28, Tryz.ntmps28
    go_wp2
    go_loopw [11] (fun iv wr => ∃ k : Nat, k ≤ n ∧ iv = .int .i64 (k : Nat) ∧ Lib.IsBuilder 57 5 w.heap.size w.heap.size (Lib.byteCells (hexD (l.take k))) wr ∧ Below w.heap.size w wr) (fun iv _ => n - (intOf iv).toNat)
    case atStart => exact ⟨0, Nat.zero_le _, rfl, HBl.out, HBe.out⟩
    case round =>
      obtain ⟨k, hk, rfl, hb, hbel⟩ := hrel
      have HB := hide hb
      have HBel := hide hbel
      have hsz := hbel.size
      by_cases hlt : k < n
      · obtain ⟨g, o, x, rfl, hg, hx, hc⟩ := BYat (HU.out.below byMono hbel) hlt
        have HX := hide hx
        have hlen := hexD_len (l.take k)
        rw [List.length_take] at hlen
        clear hb hbel hx
        have q0 : (0 : Int) ≤ (x.toNat : Int) / 16 := by omega
        have q1 : (x.toNat : Int) / 16 < 16 := by have := x.toNat_lt; omega
        have r0 : (0 : Int) ≤ (x.toNat : Int) % 16 := by omega
        have r1 : (x.toNat : Int) % 16 < 16 := by omega
        have HSn : Hid (Lib.byteCells (hexD (l.take k)) ++ [.int .u8 ((dgN (x.toNat / 16)).toNat : Int)] ++ [.int .u8 ((dgN (x.toNat % 16)).toNat : Int)] = Lib.byteCells (hexD (l.take (k + 1)))) := hide (by
          rw [List.take_add_one, HX.out]
          unfold hexD
          rw [List.flatMap_append, bytes_one, bytes_one]
          simp)
        go_wp2_with fail
        rw [dg_get]
        refine (builder_wb _ _ _ _ _ HB.out (by rw [Lib.byteCells_length]; omega) hsz).mono ?_
        rintro e w2 ⟨rfl, hb2, hbel2⟩
        have HB2 := hide hb2
        have HBel2 := hide (HBel.out.trans hbel2)
        have hs2 := HBel2.out.size
        clear hb2 hbel2
        go_wp2_with fail
        rw [dg_get]
        refine (builder_wb _ _ _ _ _ (.inr HB2.out) (by rw [List.length_append, Lib.byteCells_length]; simp; omega) hs2).mono ?_
        rintro e w3 ⟨rfl, hb3, hbel3⟩
        have HB3 : Hid (Lib.IsBuilder 57 5 w.heap.size w.heap.size (Lib.byteCells (hexD (l.take (k + 1)))) w3) := hide (by
          rw [HSn.out] at hb3
          exact .inr hb3)
        have HBel3 := hide (HBel2.out.trans hbel3)
        clear hb3 hbel3
        go_wp2
        go_roundw
        case rel => exact ⟨k + 1, by omega, by go_num, HB3.out, HBel3.out⟩
        case measure => simp [intOf]; omega
      · obtain rfl : k = n := by omega
        have HB2 : Hid (Lib.IsBuilder 57 5 w.heap.size w.heap.size (Lib.byteCells (hexD l)) wr) := hide (by
          have := HB.out
          rwa [List.take_of_length_le (by rw [HU.out.1]; exact Nat.le_refl _)] at this)
        clear hb hbel
        go_wp2_with fail
        refine (builder_strA _ _ _ _ HB2.out hsz).mono ?_
        rintro e w2 ⟨rfl, hbel2⟩
        have HBel2 := hide (HBel.out.trans hbel2)
        clear hbel2
        go_wp2
        go_ret
        exact ⟨by rw [hl.out]; rfl, HBel2.out⟩
end Go.Proofs.YtlfknndpbejbcaaGreatDoor
set_option linter.unusedSimpArgs false
set_option linter.unusedVariables false
namespace Go.Proofs.YtlfknndpbejbcaaGreatDoor
open Go.RowKit Go.WideShapes Go.ChangeShapes
theorem bytes_beq (s t : ByteArray) : (s.toList == t.toList) = decide (s = t) := by
  rw [← str_of s, ← str_of t, str_beq]
  by_cases h : s.data.toList = t.data.toList
  · rw [h]; simp
  · rw [beq_eq_false_iff_ne.2 h, decide_eq_false fun e => h (str_inj e)]
end Go.Proofs.YtlfknndpbejbcaaGreatDoor
set_option linter.unusedSimpArgs false
set_option linter.unusedVariables false
namespace Go.Proofs.YtlfknndpbejbcaaGreatDoor
open Go.RowKit Go.WideShapes Go.ChangeShapes
attribute [local go_sem] Oper.semAt_some
set_option maxRecDepth 100000 in
theorem sIndex_any (x : ByteArray) (A : Option Addr) (n c : Nat) (l : List ByteArray) (w : World) (h : StrsAt w A n c l) :
    Calls Tryz.prog 56 #[.slice A n c, .string x] w fun e w' => e = .returned (.int .i64 (idxP (fun y => decide (x = y)) l)) ∧ w' = w := by
  have hm := h.2.2.1
  have hnc := h.2.1
  unfold maxLen at hm
  have HU := hide h
  clear h
  go_enter Tryz.func56, Tryz.ntmps56
  go_wp2
  go_loopw [8] (fun i wr => ∃ k : Nat, k ≤ n ∧ i = .int .i64 k ∧ (∀ y ∈ l.take k, decide (x = y) = false) ∧ wr = w) (fun i _ => n - (intOf i).toNat)
  case atStart => exact ⟨0, Nat.zero_le _, rfl, by simp, rfl⟩
  case round =>
    obtain ⟨k, hk, rfl, hno, rfl⟩ := hrel
    have HN := hide hno
    clear hno
    by_cases hlt : k < n
    · obtain ⟨g, o, y, rfl, hg, hy, hs, hc⟩ := HU.out.at_ hlt
      have HY := hide hy
      obtain ⟨q, hq⟩ : ∃ q, decide (x = y) = q := ⟨_, rfl⟩
      have hb := bytes_beq x y
      have HQ := hide hq
      rw [hq] at hb
      clear hy hq
      cases q
      · have hn2 := hide (show ∀ z ∈ l.take (k + 1), decide (x = z) = false by
          intro z hz
          rw [List.take_add_one, HY.out, List.mem_append] at hz
          rcases hz with hz | hz
          · exact HN.out z hz
          · simp at hz; subst hz; exact HQ.out)
        go_wp2
        go_roundw
        case rel => exact ⟨k + 1, by omega, by go_num, hn2.out, by first | rfl | trivial⟩
        case measure => simp [intOf]; omega
      · have hin := hide (idxP_at (fun y => decide (x = y)) l k _ HN.out HY.out HQ.out)
        go_wp2
        go_ret
        exact ⟨ret_i64 hin.out.symm, rfl⟩
    · obtain rfl : k = n := by omega
      have hf := hide (idxP_none (fun y => decide (x = y)) l (fun y hy => HN.out y (by rw [List.take_of_length_le (by rw [HU.out.1]; exact Nat.le_refl _)]; exact hy)))
      go_wp2
      go_ret
      exact ⟨ret_i64 hf.out.symm, rfl⟩
set_option maxRecDepth 100000 in
set_option maxHeartbeats 2000000 in
theorem textSame_any (A B : Option Addr) (n c m d : Nat) (xs ys : List ByteArray) (w : World) (hx : StrsAt w A n c xs) (hy : StrsAt w B m d ys) :
    Calls Tryz.prog 23 #[.slice A n c, .slice B m d] w (GoodP (decide (xs = ys)) w) := by
  have hm1 := hx.2.2.1
  have hm2 := hy.2.2.1
  have hnc := hx.2.1
  have hmd := hy.2.1
  unfold maxLen at hm1 hm2
  by_cases hnm : n = m
  · subst hnm
    have HX := hide hx
    have HY := hide hy
    have hn1 : ((n : Int) != (n : Int)) = false := by simp
    clear hx hy
    go_enter Tryz.func23, Tryz.ntmps23
    go_wp2
    go_loopw [5] (fun i wr => ∃ k : Nat, k ≤ n ∧ i = .int .i64 k ∧ xs.take k = ys.take k ∧ Below w.heap.size w wr) (fun i _ => n - (intOf i).toNat)
    case atStart => exact ⟨0, Nat.zero_le _, rfl, by simp, Below.refl _ _⟩
    case round =>
      obtain ⟨k, hk, rfl, hno, hb⟩ := hrel
      have HN := hide hno
      have HB := hide hb
      clear hno
      by_cases hlt : k < n
      · obtain ⟨g, o, x, rfl, hg, hxk, hsx, hcx⟩ := (HX.out.below rfl hb).at_ hlt
        obtain ⟨g2, o2, y, rfl, hg2, hyk, hsy, hcy⟩ := (HY.out.below rfl hb).at_ hlt
        have HXk := hide hxk
        have HYk := hide hyk
        obtain ⟨q, hq⟩ : ∃ q, decide (x = y) = q := ⟨_, rfl⟩
        have hbe := bytes_beq x y
        rw [hq] at hbe
        have hbn : (x.toList != y.toList) = !q := by rw [bne, hbe]
        have HQ := hide hq
        have hi0 : (0 : Int) ≤ (k : Int) := by omega
        have hi1 : (k : Int) < (n : Int) := by omega
        clear hxk hyk hq hb
        cases q
        · have HR := hide (show decide (xs = ys) = false by
            refine decide_eq_false fun e => ?_
            subst e
            have := HXk.out.symm.trans HYk.out
            injection this with this
            exact absurd this (by simpa using HQ.out))
          simp only [Bool.not_false] at hbn
          go_wp2
          go_quiet (fail)
          go_wp2
          go_ret
          exact ⟨ret_bool HR.out.symm, by first | exact below_drewN HB.out _ | exact HB.out⟩
        · have HR := hide (show xs.take (k + 1) = ys.take (k + 1) by
            have : x = y := by simpa using HQ.out
            rw [List.take_add_one, List.take_add_one, HXk.out, HYk.out, HN.out, this])
          simp only [Bool.not_true] at hbn
          go_wp2
          go_quiet (fail)
          go_wp2
          go_roundw
          case rel => exact ⟨k + 1, by omega, by go_num, HR.out, by first | exact below_drewN HB.out _ | exact HB.out⟩
          case measure => simp [intOf]; omega
      · obtain rfl : k = n := by omega
        have HR := hide (show decide (xs = ys) = true by
          refine decide_eq_true ?_
          have h1 := HX.out.1
          have h2 := HY.out.1
          have := HN.out
          rwa [List.take_of_length_le (by omega), List.take_of_length_le (by omega)] at this)
        clear hb
        go_wp2
        go_ret
        exact ⟨ret_bool HR.out.symm, HB.out⟩
  · have hne : decide (n = m) = false := decide_eq_false hnm
    have hne2 : ((n : Int) != (m : Int)) = true := by simp; omega
    have HR := hide (show decide (xs = ys) = false by
      refine decide_eq_false fun e => hnm ?_
      rw [← hx.1, ← hy.1, e])
    clear hx hy hnm
    go_enter Tryz.func23, Tryz.ntmps23
    go_wp2
    go_ret
    exact ⟨ret_bool HR.out.symm, Below.refl _ _⟩
end Go.Proofs.YtlfknndpbejbcaaGreatDoor
set_option linter.unusedSimpArgs false
set_option linter.unusedVariables false
namespace Go.Proofs.YtlfknndpbejbcaaGreatDoor
open Go.RowKit Go.WideShapes Go.ChangeShapes
attribute [local go_sem] Oper.semAt_some
def SpTab (w : World) : Prop := Lib.TabIs Tryz.prog w "strings.asciiSpace" .u8 Lib.asciiSpaceTab
theorem strs_blk {w : World} {g : Nat} {l : List (List UInt8)} (h : Blk w g 9 (l.map fun x => Value.string ⟨x.toArray⟩).toArray) (hs : ∀ x ∈ l, x.length ≤ 9223372036854775807) (hl : l.length ≤ 9223372036854775807) : StrsAt w (some ⟨g, 0, none⟩) l.length l.length (l.map str) := by
  refine ⟨by simp, Nat.le_refl _, by unfold maxLen; omega, fun x hx => ?_, fun hn => ⟨g, 0, rfl, h.lt, fun k x hk => ?_⟩⟩
  · obtain ⟨y, hy, rfl⟩ := List.mem_map.1 hx
    rw [str_size]
    have := hs y hy
    unfold maxLen; omega
  · rw [Nat.zero_add, h.cell k]
    rw [List.getElem?_map, Option.map_eq_some_iff] at hk
    obtain ⟨y, hy, rfl⟩ := hk
    simp [hy, str]
set_option maxRecDepth 100000 in
theorem words_any (w : World) (ht : SpTab w) :
    Calls Tryz.prog 45 #[] w fun e w' => e = .returned (.slice (some ⟨w.heap.size, 0, none⟩) 10 10) ∧ Below w.heap.size w w' ∧ StrsAt w' (some ⟨w.heap.size, 0, none⟩) 10 10 (wordsM.map str) := by
  have hf : Lib.fields (⟨#[115, 116, 97, 114, 116, 32, 115, 116, 111, 112, 32, 117, 112, 32, 100, 111, 119, 110, 32, 98, 121, 116, 101, 115, 32, 116, 105, 99, 107, 32, 99, 111, 110, 102, 105, 103, 32, 116, 97, 107, 101, 32, 114, 105, 118, 97, 108, 32, 114, 101, 115, 101, 116]⟩ : ByteArray).data.toList = wordsM := by decide +kernel
  have hc := Tryz.strings_Fields_laid ⟨#[115, 116, 97, 114, 116, 32, 115, 116, 111, 112, 32, 117, 112, 32, 100, 111, 119, 110, 32, 98, 121, 116, 101, 115, 32, 116, 105, 99, 107, 32, 99, 111, 110, 102, 105, 103, 32, 116, 97, 107, 101, 32, 114, 105, 118, 97, 108, 32, 114, 101, 115, 101, 116]⟩ w (by decide) (by
    intro j b hb
    have h : ∀ x ∈ (⟨#[115, 116, 97, 114, 116, 32, 115, 116, 111, 112, 32, 117, 112, 32, 100, 111, 119, 110, 32, 98, 121, 116, 101, 115, 32, 116, 105, 99, 107, 32, 99, 111, 110, 102, 105, 103, 32, 116, 97, 107, 101, 32, 114, 105, 118, 97, 108, 32, 114, 101, 115, 101, 116]⟩ : ByteArray).data.toList, x.toNat < 128 := by decide
    exact h b (List.mem_of_getElem? hb)) ht
  rw [hf] at hc
  have HC := hide hc
  clear hc hf ht
  go_enter Tryz.func45, Tryz.ntmps45
  go_wp2_with fail
  refine HC.out.mono ?_
  rintro e w1 ⟨rfl, rfl⟩
  have HS : Hid (StrsAt (w.alloc (.cells (wordsM.map fun x => Value.string ⟨x.toArray⟩).toArray 9)) (some ⟨w.heap.size, 0, none⟩) 10 10 (wordsM.map str)) := hide (strs_blk (l := wordsM) (Blk.new w _ _) (by decide) (by decide))
  have HB := hide ((Below.refl w.heap.size w).alloc (Nat.le_refl _) (.cells (wordsM.map fun x => Value.string ⟨x.toArray⟩).toArray 9))
  go_wp2
  go_ret
  exact ⟨rfl, HB.out, HS.out⟩
def RdAt (w : World) (g : Nat) (ws : List (List UInt8)) : Prop := ∃ A n c, Blk w g 85 #[.slice A n c] ∧ StrsAt w A n c (ws.map str) ∧ ∀ a, A = some a → a.block < g
theorem RdAt.below {w w' : World} {g : Nat} {ws : List (List UInt8)} (h : RdAt w g ws) (hb : Below w.heap.size w w') : RdAt w' g ws := by
  obtain ⟨A, n, c, h1, h2, h3⟩ := h
  exact ⟨A, n, c, h1.below hb h1.lt, h2.below rfl hb, h3⟩
theorem grown_of {w w' : World} {row : Option Nat} (h : Below w.heap.size w w') : w.grownBy w' row := ⟨h.os, h.tape, h.output, h.size, fun k hk _ => h.block k hk⟩
theorem below_of {w w' : World} {g B : Nat} (h : w.grownBy w' (some g)) (hg : B ≤ g) (hB : B ≤ w.heap.size) : Below B w w' := ⟨h.os, h.tape, h.output, h.size, fun k hk => h.block k (by omega) (by simp; omega)⟩
set_option maxRecDepth 100000 in
theorem sword_any (g : Nat) (ws : List (List UInt8)) (w : World) (h : RdAt w g ws) :
    Calls Tryz.prog 57 #[.pointer (some ⟨g, 0, none⟩)] w fun e w' => e = .returned (.string (str (ws.headD []))) ∧ w.grownBy w' (some g) ∧ RdAt w' g ws.tail := by
  obtain ⟨A, n, c, hk, h, hA⟩ := h
  have hm := h.2.2.1
  have hnc := h.2.1
  unfold maxLen at hm
  have HU := hide h
  have HK := hide hk
  have k0 := hk.cell 0
  have f0 := hk.frozen 0
  have hl := h.1
  rw [List.length_map] at hl
  by_cases h0 : n = 0
  · subst h0
    have hl2 : Hid (ws = []) := hide (List.eq_nil_of_length_eq_zero hl)
    have HA := hide hA
    clear h hk hl hA
    go_enter Tryz.func57, Tryz.ntmps57
    go_wp2
    go_ret
    refine ⟨by rw [hl2.out]; rfl, grown_of (Below.refl _ _), _, _, _, HK.out, ?_, HA.out⟩
    have := HU.out
    rw [hl2.out] at this ⊢
    exact this
  · obtain ⟨g1, o, x, rfl, hg, hx, hxs, hc⟩ := h.at_ (k := 0) (by omega)
    have hlt1 : g1 < g := hA _ rfl
    have hne1 : g1 ≠ g := Nat.ne_of_lt hlt1
    have hne : decide (n = 0) = false := decide_eq_false h0
    have hne2 : ((n : Int) == 0) = false := by simp; omega
    have h1n : (1 : Int) ≤ (n : Int) := by omega
    have h1c : (1 : Int) ≤ (c : Int) := by omega
    have hnc2 : (n : Int) ≤ (c : Int) := by omega
    have hn0 : (0 : Int) < (n : Int) := by omega
    have hc0 : w.cell? ⟨g1, o, none⟩ = some (.string x) := by simpa using hc
    have HW : Hid (∃ y r, ws = y :: r ∧ x = str y) := hide (by
      cases ws with
      | nil => simp at hx
      | cons y r => simp at hx; exact ⟨y, r, rfl, hx.symm⟩)
    have HNe := hide hne1
    have HEnd : Hid (∀ (o2 n2 c2 : Nat), (o2 = o + 1 ∨ n = 1) → n2 = n - 1 → c2 = c - 1 → w.grownBy (w.setCell ⟨g, 0, none⟩ (.slice (some ⟨g1, o2, none⟩) n2 c2)) (some g) ∧ RdAt (w.setCell ⟨g, 0, none⟩ (.slice (some ⟨g1, o2, none⟩) n2 c2)) g ws.tail) := hide (by
      rintro o2 n2 c2 ho rfl rfl
      refine ⟨⟨rfl, rfl, rfl, by simp [World.setCell], fun k hk hne => ?_⟩, _, _, _, HK.out.set_ 0 _, ?_, fun a ha => by cases ha; exact hlt1⟩
      · simp only [World.setCell, Array.getElem?_modify]
        rw [if_neg (fun e => hne (by rw [e]))]
      · have hu := HU.out
        obtain ⟨y, r, rfl, _⟩ := HW.out
        refine ⟨by rw [← hu.1]; simp, by omega, by unfold maxLen; omega, fun z hz => hu.2.2.2.1 z (by simp at hz ⊢; exact .inr hz), fun hn2 => ⟨g1, o2, rfl, by simpa [World.setCell] using hg, fun k z hz => ?_⟩⟩
        have ho2 : o2 = o + 1 := by rcases ho with h | h <;> omega
        subst ho2
        obtain ⟨g3, o3, hA3, _, hc3⟩ := hu.2.2.2.2 (by omega)
        cases hA3
        have := hc3 (k + 1) z (by simpa using hz)
        rw [World.cell?_setCell_other _ _ _ _ (by rintro e; injection e with e1; exact HNe.out e1.symm)]
        rw [show o + 1 + k = o + (k + 1) by omega]
        exact this)
    clear h hk hx hc hA hl hne1
    go_enter Tryz.func57, Tryz.ntmps57
    go_wp2
    all_goals go_ret
    all_goals
      obtain ⟨y, r, hws, hxy⟩ := HW.out
      first
        | exact ⟨by rw [hws, hxy]; rfl, HEnd.out (o + 1) (n - 1) (c - 1) (.inl rfl) rfl rfl⟩
        | exact ⟨by rw [hws, hxy]; rfl, HEnd.out o (n - 1) 0 (.inr (by omega)) rfl (by omega)⟩
theorem headD_len {ws : List (List UInt8)} {B : Nat} (h : ∀ x ∈ ws, x.length ≤ B) : (ws.headD []).length ≤ B := by
  cases ws with
  | nil => simp
  | cons y r => exact h y (by simp)
set_option maxRecDepth 100000 in
theorem radd_any (w0 : World) (g : Nat) (ws : List (List UInt8)) (w : World) (h : RdAt w g ws) (hl : ∀ x ∈ ws, x.length ≤ 1000000) (he : Env w0) (hb : Below w0.heap.size w0 w) (hg : w0.heap.size ≤ g) :
    Calls Tryz.prog 58 #[.pointer (some ⟨g, 0, none⟩)] w fun e w' => e = .returned (.int .u32 (addrP (ws.headD []) : Int)) ∧ w.grownBy w' (some g) ∧ RdAt w' g ws.tail := by
  have HW := hide (sword_any g ws w h)
  have hhd := headD_len hl
  obtain ⟨x, hx⟩ : ∃ x, ws.headD [] = x := ⟨_, rfl⟩
  rw [hx] at HW hhd ⊢
  have HB := hide hb
  have HA := hide (fun (W : World) (hbw : Below w0.heap.size w0 W) => PAddr_any x hhd W (he.below hbw))
  clear h he hl hx hb
  go_enter Tryz.func58, Tryz.ntmps58
  go_wp2_with fail
  refine HW.out.mono ?_
  rintro e w1 ⟨rfl, hg1, hr1⟩
  have HG1 := hide hg1
  have HR1 := hide hr1
  have HP := hide (HA.out w1 (HB.out.trans (below_of hg1 hg HB.out.size)))
  clear hg1 hr1
  go_wp2_with fail
  refine HP.out.mono ?_
  rintro e w2 ⟨hb2, ⟨a, ha, rfl, rfl⟩ | ⟨hno, rfl⟩⟩
  · have hv := hide (addrP_of ha)
    have HG2 := hide (HG1.out.trans (grown_of hb2))
    have HR2 := hide (HR1.out.below hb2)
    clear hb2
    go_wp2
    go_ret
    exact ⟨by rw [hv.out]; rfl, HG2.out, HR2.out⟩
  · have hv : Hid (addrP x = 0) := hide (by
      unfold addrP
      rw [dif_neg]
      rintro ⟨a, ha, e⟩
      exact hno a ha e)
    have HG2 := hide (HG1.out.trans (grown_of hb2))
    have HR2 := hide (HR1.out.below hb2)
    clear hb2 hno
    go_wp2
    go_ret
    exact ⟨by rw [hv.out]; rfl, HG2.out, HR2.out⟩
set_option maxRecDepth 100000 in
theorem rnum_any (w0 : World) (g : Nat) (ws : List (List UInt8)) (most : Int) (w : World) (h : RdAt w g ws) (hl : ∀ x ∈ ws, x.length ≤ 1000000) (he : Env w0) (hb : Below w0.heap.size w0 w) (hg : w0.heap.size ≤ g) :
    Calls Tryz.prog 59 #[.pointer (some ⟨g, 0, none⟩), .int .i64 most] w fun e w' => e = .returned (.int .i64 (numP (ws.headD []) most : Int)) ∧ w.grownBy w' (some g) ∧ RdAt w' g ws.tail := by
  have HW := hide (sword_any g ws w h)
  have hhd := headD_len hl
  obtain ⟨x, hx⟩ : ∃ x, ws.headD [] = x := ⟨_, rfl⟩
  rw [hx] at HW hhd ⊢
  have HB := hide hb
  have HA := hide (fun (W : World) (hbw : Below w0.heap.size w0 W) => lexNumber_any x hhd most W (he.below hbw))
  have hres : ∃ b, numRes x most = .tuple #[.int .i64 (numP x most : Int), .bool b] := by
    unfold numRes numP
    split
    · exact ⟨_, rfl⟩
    · exact ⟨_, rfl⟩
  obtain ⟨b, hb1⟩ := hres
  rw [hb1] at HA
  obtain ⟨q, hq⟩ : ∃ q : Nat, numP x most = q := ⟨_, rfl⟩
  rw [hq] at HA ⊢
  clear h he hl hx hb hb1 hq
  go_enter Tryz.func59, Tryz.ntmps59
  go_wp2_with fail
  refine HW.out.mono ?_
  rintro e w1 ⟨rfl, hg1, hr1⟩
  have HG1 := hide hg1
  have HR1 := hide hr1
  have HP := hide (HA.out w1 (HB.out.trans (below_of hg1 hg HB.out.size)))
  clear hg1 hr1
  go_wp2_with fail
  refine HP.out.mono ?_
  rintro e w2 ⟨rfl, hb2⟩
  have HG2 := hide (HG1.out.trans (grown_of hb2))
  have HR2 := hide (HR1.out.below hb2)
  clear hb2
  go_wp2
  go_ret
  exact ⟨rfl, HG2.out, HR2.out⟩
end Go.Proofs.YtlfknndpbejbcaaGreatDoor
set_option linter.unusedSimpArgs false
set_option linter.unusedVariables false
namespace Go.Proofs.YtlfknndpbejbcaaGreatDoor
open Go.RowKit
attribute [local go_sem] Oper.semAt_some
theorem str_at {s : List UInt8} {S : ByteArray} (hS : str s = S) (k : Nat) (h : k < S.size) : s[k]? = some S[k] := by
  subst hS
  rw [List.getElem?_eq_getElem (by rw [str_size] at h; exact h)]
  simp [str, ByteArray.getElem_eq_getElem_data]
end Go.Proofs.YtlfknndpbejbcaaGreatDoor
set_option linter.unusedSimpArgs false
set_option linter.unusedVariables false
namespace Go.Proofs.YtlfknndpbejbcaaGreatDoor
open Go.RowKit Go.WideShapes Go.ChangeShapes
attribute [local go_sem] Oper.semAt_some
theorem unD_step : ∀ (j : Nat) (l : List UInt8) (a b : UInt8), l[2 * j]? = some a → l[2 * j + 1]? = some b → unD (l.take (2 * (j + 1))) = unD (l.take (2 * j)) ++ [unV a b]
  | 0, l, a, b, ha, hb => by
    match l, ha, hb with
    | x :: y :: r, ha, hb =>
      simp at ha hb
      subst ha hb
      simp [unD]
  | j + 1, l, a, b, ha, hb => by
    match l, ha, hb with
    | [], ha, hb => simp at ha
    | [x], ha, hb => rw [show 2 * (j + 1) = 2 * j + 1 + 1 by omega] at ha; simp at ha
    | x :: y :: r, ha, hb =>
      have ih := unD_step j r a b (by simpa [show 2 * (j + 1) = 2 * j + 1 + 1 by omega] using ha) (by simpa [show 2 * (j + 1) + 1 = 2 * j + 1 + 1 + 1 by omega] using hb)
      have e1 : (x :: y :: r).take (2 * (j + 1 + 1)) = x :: y :: r.take (2 * (j + 1)) := by rw [show 2 * (j + 1 + 1) = 2 * (j + 1) + 1 + 1 by omega, List.take_succ_cons, List.take_succ_cons]
      have e2 : (x :: y :: r).take (2 * (j + 1)) = x :: y :: r.take (2 * j) := by rw [show 2 * (j + 1) = 2 * j + 1 + 1 by omega, List.take_succ_cons, List.take_succ_cons]
      rw [e1, e2]
      simp only [unD, ih]
      rfl
theorem unD_odd : ∀ (j : Nat) (l : List UInt8), l.length ≤ 2 * j + 1 → unD (l.take (2 * j)) = unD l
  | 0, l, h => by
    match l, h with
    | [], _ => rfl
    | [x], _ => rfl
  | j + 1, l, h => by
    match l, h with
    | [], _ => simp
    | [x], _ => rw [show 2 * (j + 1) = 2 * j + 1 + 1 by omega]; simp
    | x :: y :: r, h =>
      rw [show 2 * (j + 1) = 2 * j + 1 + 1 by omega]
      simp only [List.take_succ_cons, unD]
      rw [unD_odd j r (by simp at h; omega)]
theorem unD_len : ∀ (l : List UInt8), (unD l).length ≤ l.length
  | [] => by simp [unD]
  | [x] => by simp [unD]
  | x :: y :: r => by simp only [unD, List.length_cons]; have := unD_len r; omega
set_option maxRecDepth 100000 in
set_option maxHeartbeats 4000000 in
theorem unhex_any (l : List UInt8) (hl : l.length ≤ 1000000) (w : World) :
    Calls Tryz.prog 27 #[.string (str l)] w fun e w' => ∃ v, e = .returned (.tuple #[v, .bool (decide (hexT (unT l) = l))]) ∧ w'.ownsRow w.heap.size 5 1 v (unT l).length (byB (unT l)) ∧ Below w.heap.size w w' := by
  obtain ⟨i0, hi, hz0, hz1, hz2⟩ := info_parts sU8Info
  by_cases hm : l = [45]
  · subst hm
    have HX := hide (fun W => hex_any none 0 0 [] W LstAt.none_ (by omega))
    have e1 : ((str (hexT [])).toList == [45]) = true := by decide +kernel
    have e2 : ((str [45]).toList != [45]) = false := by decide +kernel
    have e4 : ((str [45]).toList == [45]) = true := by decide +kernel
    have e3 : ((str (hexT [])).toList == (str [45]).toList) = true := by decide +kernel
    have hu : Hid (unT [45] = []) := hide rfl
    have hd : Hid (decide (hexT [] = [45]) = true) := hide (by decide +kernel)
    obtain ⟨S, hS⟩ : ∃ S, str [45] = S := ⟨_, rfl⟩
    rw [hS] at e2 e3 e4 ⊢
    clear hS
    go_enter Tryz.func27, Tryz.ntmps27
    go_wp2_with fail
    refine (HX.out _).mono ?_
    rintro e w2 ⟨rfl, hb2⟩
    have HB2 := hide hb2
    clear hb2
    go_wp2
    go_ret2
    exact ⟨_, by rw [hu.out, hd.out]; rfl, by rw [hu.out]; exact ⟨rfl, .inl ⟨rfl, rfl⟩⟩, HB2.out⟩
  · have ht : ((str l).toList == [45]) = false := by unfold str; rw [ByteArray.toList_mk]; simpa using hm
    have htn : ((str l).toList != [45]) = true := by rw [bne, ht]; rfl
    have HU : Hid (unT l = unD l) := hide (by unfold unT; rw [if_neg hm])
    have hsz : (str l).size = l.length := str_size l
    have hsb1 : (str l).size ≤ 1000000 := by rw [hsz]; exact hl
    obtain ⟨S, hS⟩ : ∃ S, str l = S := ⟨_, rfl⟩
    rw [hS] at ht htn hsz hsb1 ⊢
    have HS := hide hS
    have HN := hide hsz
    have HI := hide (fun (c : Int) (W : World) => Tryz.strings_IndexByte ⟨#[48, 49, 50, 51, 52, 53, 54, 55, 56, 57, 97, 98, 99, 100, 101, 102]⟩ c W)
    clear hm hS hsz
    go_enter Tryz.func27, Tryz.ntmps27
    go_wp2
    go_loopw [4, 5] (fun vv iv wr => ∃ j : Nat, 2 * j ≤ S.size ∧ iv = .int .i64 ((2 * j : Nat) : Int) ∧ wr.ownsRow w.heap.size 5 1 vv (unD (l.take (2 * j))).length (byB (unD (l.take (2 * j)))) ∧ Below w.heap.size w wr) (fun _ iv _ => S.size - (intOf iv).toNat)
    case atStart => exact ⟨0, by omega, rfl, ⟨rfl, .inl ⟨rfl, rfl⟩⟩, Below.refl _ _⟩
    case round =>
      obtain ⟨j, hj, rfl, hown, hbel⟩ := hrel
      have HB := hide hbel
      have hlen := unD_len (l.take (2 * j))
      rw [List.length_take] at hlen
      obtain ⟨o, ho⟩ : ∃ o, unD (l.take (2 * j)) = o := ⟨_, rfl⟩
      rw [ho] at hown hlen
      obtain ⟨N, hN⟩ : ∃ N, o.length = N := ⟨_, rfl⟩
      rw [hN] at hown hlen
      have HOo := hide ho
      have HNN := hide hN
      obtain ⟨A', c', rfl⟩ := own_slice hown
      have HO := hide hown
      have hsb := hbel.size
      clear hown hbel ho hN
      obtain ⟨i, hi2⟩ : ∃ i, 2 * j = i := ⟨_, rfl⟩
      rw [hi2] at hj hlen ⊢
      have HI2 := hide hi2
      clear hi2
      by_cases hlt : i + 1 < S.size
      · have q0 : (0 : Int) ≤ (i : Int) := by omega
        have q1 : (i : Int) < (S.size : Int) := by omega
        have q2 : (0 : Int) ≤ (i : Int) + 1 := by omega
        have q3 : (i : Int) + 1 < (S.size : Int) := by omega
        have hwr : IntKind.i64.wrap ((i : Int) + 1) = (i : Int) + 1 := by rw [IntKind.wrap_i64]; omega
        obtain ⟨a, ha⟩ : ∃ a, l[i]? = some a := ⟨_, List.getElem?_eq_getElem (by have := HN.out; omega)⟩
        obtain ⟨b, hb⟩ : ∃ b, l[i + 1]? = some b := ⟨_, List.getElem?_eq_getElem (by have := HN.out; omega)⟩
        have hSa : ∀ h : i < S.size, S[i]'h = a := fun h => by
          have := str_at HS.out i h
          rw [ha] at this
          injection this with this
          exact this.symm
        have hSb : ∀ h : i + 1 < S.size, S[i + 1]'h = b := fun h => by
          have := str_at HS.out (i + 1) h
          rw [hb] at this
          injection this with this
          exact this.symm
        have HSt := hide (unD_step j l a b (by rw [HI2.out]; exact ha) (by rw [HI2.out]; exact hb))
        obtain ⟨hi1, hh1⟩ : ∃ x, Lib.indexByte (⟨#[48, 49, 50, 51, 52, 53, 54, 55, 56, 57, 97, 98, 99, 100, 101, 102]⟩ : ByteArray).data.toList (a.toNat : Int).toNat.toUInt8 = x := ⟨_, rfl⟩
        obtain ⟨lo1, hl1⟩ : ∃ x, Lib.indexByte (⟨#[48, 49, 50, 51, 52, 53, 54, 55, 56, 57, 97, 98, 99, 100, 101, 102]⟩ : ByteArray).data.toList (b.toNat : Int).toNat.toUInt8 = x := ⟨_, rfl⟩
        have Hhi1 := hide hh1
        have Hlo1 := hide hl1
        clear ha hb hh1 hl1
        go_wp2
        refine wp_region_rel [(fun v _ => v = .string S), (fun v _ => v = .int .i64 (i : Int)), (fun v _ => v = .int .u8 (a.toNat : Int)), (fun v _ => v = .int .i64 hi1), (fun v _ => v = .string S), (fun v _ => v = .int .i64 (i : Int)), (fun v _ => v = .int .i64 ((i : Int) + 1)), (fun v _ => v = .int .u8 (b.toNat : Int)), (fun v _ => v = .int .i64 lo1), (fun v _ => v = .int .i64 hi1), (fun v _ => v = .int .i64 lo1)] (by kernel_rfl) (by kernel_rfl) (relMono _ ⟨fun _ _ _ _ h => h, fun _ _ _ _ h => h, fun _ _ _ _ h => h, fun _ _ _ _ h => h, fun _ _ _ _ h => h, fun _ _ _ _ h => h, fun _ _ _ _ h => h, fun _ _ _ _ h => h, fun _ _ _ _ h => h, fun _ _ _ _ h => h, fun _ _ _ _ h => h, trivial⟩) ⟨?_, ?_, ?_, ?_, ?_, ?_, ?_, ?_, ?_, ?_, ?_, trivial⟩ ?_
        · refine relStep_plain rfl ?_
          intro Ac w5 hp
          have hb := hp.bel
          have a0 : Ac.eval (.tmp 0) = .string S := hp.out 0 (by rfl)
          have hc := evalC Ac; have hf := evalF Ac; have hgl := evalG Ac
          obtain ⟨ρ, hρ⟩ : ∃ ρ, Ac.eval = ρ := ⟨_, rfl⟩
          rw [hρ] at a0 hc hf hgl
          exact relPure hρ (.string S) (by simp [go_sem, hc, hf, hgl, ↓IntWalk.iteOmega, a0, *]) rfl
        · refine relStep_plain rfl ?_
          intro Ac w5 hp
          have hb := hp.bel
          have a5 : Ac.eval (.tmp 5) = .int .i64 (i : Int) := hp.out 5 (by rfl)
          have hc := evalC Ac; have hf := evalF Ac; have hgl := evalG Ac
          obtain ⟨ρ, hρ⟩ : ∃ ρ, Ac.eval = ρ := ⟨_, rfl⟩
          rw [hρ] at a5 hc hf hgl
          exact relPure hρ (.int .i64 (i : Int)) (by simp [go_sem, hc, hf, hgl, ↓IntWalk.iteOmega, a5, *]) rfl
        · refine relStep_plain rfl ?_
          intro Ac w5 hp
          have hb := hp.bel
          have a17 : Ac.eval (.tmp 17) = .string S := hp.dep 0 (by kernel_rfl)
          have a18 : Ac.eval (.tmp 18) = .int .i64 (i : Int) := hp.dep 1 (by kernel_rfl)
          have hc := evalC Ac; have hf := evalF Ac; have hgl := evalG Ac
          obtain ⟨ρ, hρ⟩ : ∃ ρ, Ac.eval = ρ := ⟨_, rfl⟩
          rw [hρ] at a17 a18 hc hf hgl
          exact relPure hρ (.int .u8 (a.toNat : Int)) (by simp [go_sem, hc, hf, hgl, ↓IntWalk.iteOmega, a17, a18, *]) rfl
        · refine relStep_plain rfl ?_
          intro Ac w5 hp
          have hb := hp.bel
          have a19 : Ac.eval (.tmp 19) = .int .u8 (a.toNat : Int) := hp.dep 2 (by kernel_rfl)
          have hc := evalC Ac; have hf := evalF Ac; have hgl := evalG Ac
          obtain ⟨ρ, hρ⟩ : ∃ ρ, Ac.eval = ρ := ⟨_, rfl⟩
          rw [hρ] at a19 hc hf hgl
          refine relCall hρ 42 #[.string ⟨#[48, 49, 50, 51, 52, 53, 54, 55, 56, 57, 97, 98, 99, 100, 101, 102]⟩, .int .u8 (a.toNat : Int)] (by simp [go_sem, hc, hf, hgl, ↓IntWalk.iteOmega, a19, *]) ?_
          refine (HI.out _ w5).mono ?_
          rintro e w6 ⟨rfl, rfl⟩
          exact ⟨_, rfl, by rw [Hhi1.out]; rfl, Below.refl _ _⟩
        · refine relStep_plain rfl ?_
          intro Ac w5 hp
          have hb := hp.bel
          have a0 : Ac.eval (.tmp 0) = .string S := hp.out 0 (by rfl)
          have hc := evalC Ac; have hf := evalF Ac; have hgl := evalG Ac
          obtain ⟨ρ, hρ⟩ : ∃ ρ, Ac.eval = ρ := ⟨_, rfl⟩
          rw [hρ] at a0 hc hf hgl
          exact relPure hρ (.string S) (by simp [go_sem, hc, hf, hgl, ↓IntWalk.iteOmega, a0, *]) rfl
        · refine relStep_plain rfl ?_
          intro Ac w5 hp
          have hb := hp.bel
          have a5 : Ac.eval (.tmp 5) = .int .i64 (i : Int) := hp.out 5 (by rfl)
          have hc := evalC Ac; have hf := evalF Ac; have hgl := evalG Ac
          obtain ⟨ρ, hρ⟩ : ∃ ρ, Ac.eval = ρ := ⟨_, rfl⟩
          rw [hρ] at a5 hc hf hgl
          exact relPure hρ (.int .i64 (i : Int)) (by simp [go_sem, hc, hf, hgl, ↓IntWalk.iteOmega, a5, *]) rfl
        · refine relStep_plain rfl ?_
          intro Ac w5 hp
          have hb := hp.bel
          have a22 : Ac.eval (.tmp 22) = .int .i64 (i : Int) := hp.dep 5 (by kernel_rfl)
          have hc := evalC Ac; have hf := evalF Ac; have hgl := evalG Ac
          obtain ⟨ρ, hρ⟩ : ∃ ρ, Ac.eval = ρ := ⟨_, rfl⟩
          rw [hρ] at a22 hc hf hgl
          exact relPure hρ (.int .i64 ((i : Int) + 1)) (by simp [go_sem, hc, hf, hgl, ↓IntWalk.iteOmega, a22, *]) rfl
        · refine relStep_plain rfl ?_
          intro Ac w5 hp
          have hb := hp.bel
          have a21 : Ac.eval (.tmp 21) = .string S := hp.dep 4 (by kernel_rfl)
          have a23 : Ac.eval (.tmp 23) = .int .i64 ((i : Int) + 1) := hp.dep 6 (by kernel_rfl)
          have hc := evalC Ac; have hf := evalF Ac; have hgl := evalG Ac
          obtain ⟨ρ, hρ⟩ : ∃ ρ, Ac.eval = ρ := ⟨_, rfl⟩
          rw [hρ] at a21 a23 hc hf hgl
          exact relPure hρ (.int .u8 (b.toNat : Int)) (by simp [go_sem, hc, hf, hgl, ↓IntWalk.iteOmega, a21, a23, *]) rfl
        · refine relStep_plain rfl ?_
          intro Ac w5 hp
          have hb := hp.bel
          have a24 : Ac.eval (.tmp 24) = .int .u8 (b.toNat : Int) := hp.dep 7 (by kernel_rfl)
          have hc := evalC Ac; have hf := evalF Ac; have hgl := evalG Ac
          obtain ⟨ρ, hρ⟩ : ∃ ρ, Ac.eval = ρ := ⟨_, rfl⟩
          rw [hρ] at a24 hc hf hgl
          refine relCall hρ 42 #[.string ⟨#[48, 49, 50, 51, 52, 53, 54, 55, 56, 57, 97, 98, 99, 100, 101, 102]⟩, .int .u8 (b.toNat : Int)] (by simp [go_sem, hc, hf, hgl, ↓IntWalk.iteOmega, a24, *]) ?_
          refine (HI.out _ w5).mono ?_
          rintro e w6 ⟨rfl, rfl⟩
          exact ⟨_, rfl, by rw [Hlo1.out]; rfl, Below.refl _ _⟩
        · refine relStep_plain rfl ?_
          intro Ac w5 hp
          have hb := hp.bel
          have a20 : Ac.eval (.tmp 20) = .int .i64 hi1 := hp.dep 3 (by kernel_rfl)
          have hc := evalC Ac; have hf := evalF Ac; have hgl := evalG Ac
          obtain ⟨ρ, hρ⟩ : ∃ ρ, Ac.eval = ρ := ⟨_, rfl⟩
          rw [hρ] at a20 hc hf hgl
          exact relPure hρ (.int .i64 hi1) (by simp [go_sem, hc, hf, hgl, ↓IntWalk.iteOmega, a20, *]) rfl
        · refine relStep_plain rfl ?_
          intro Ac w5 hp
          have hb := hp.bel
          have a25 : Ac.eval (.tmp 25) = .int .i64 lo1 := hp.dep 8 (by kernel_rfl)
          have hc := evalC Ac; have hf := evalF Ac; have hgl := evalG Ac
          obtain ⟨ρ, hρ⟩ : ∃ ρ, Ac.eval = ρ := ⟨_, rfl⟩
          rw [hρ] at a25 hc hf hgl
          exact relPure hρ (.int .i64 lo1) (by simp [go_sem, hc, hf, hgl, ↓IntWalk.iteOmega, a25, *]) rfl
        intro u w8 hb7 hall
        have e6 : u 9 = .int .i64 hi1 := relAll_at hall (i := 9) (by decide +kernel)
        have e7 : u 10 = .int .i64 lo1 := relAll_at hall (i := 10) (by decide +kernel)
        clear hall
        simp only [List.drop_succ_cons, List.drop_zero, List.take_succ_cons, List.take_zero, putAll, Act.put, List.setIfInBounds_toArray, List.set_cons_zero, List.set_cons_succ, Nat.zero_add, Nat.reduceAdd, e6, e7]
        have HV : Hid (Value.int .u8 (bits .or .i64 (wrap64 (hi1 * 16)) (bits .and .i64 lo1 15) % 256) = .int .u8 ((unV a b).toNat : Int)) := hide (by
          rw [unV_val, ← Hhi1.out, ← Hlo1.out]
          simp [dgs])
        have HO8 := hide (own_below HO.out hb7)
        have hs8 := hb7.size
        go_wp2_with (at_builtin; refine wpList_append_any _ rfl (.tmp 26) (.tmp 33) 28 rfl w.heap.size 5 i0 _ 1 1 Tryz.underlying28 hi hz0 hz1 hz2 rfl (by decide) (.slice A' N c') N _ rfl (HO8.out.alloc _) (w8.heap.size + 1) (some ⟨w8.heap.size, 0, none⟩) 1 1 [_] rfl (reads_blkN (Blk.new _ _ _) (Nat.lt_succ_self _) rfl rfl) (by simp [Value.oneCell']) (by unfold maxLen; omega) (by omega) (by simp; omega) ?_; intro v' w3 hown' hgrow hat; have HO3 := hide hown'; have HB3 : Hid (Below w.heap.size w w3) := hide (Below.grown ((HB.out.trans (hb7.mono (by omega))).alloc (by omega) _) hgrow (by simp; omega) (fun k hk => own_low_block HO8.out k hk)); clear hown' hgrow hat)
        go_roundw
        case rel =>
          refine ⟨j + 1, by have := HI2.out; omega, by have := HI2.out; go_num, ?_, HB3.out⟩
          rw [HSt.out, HOo.out, List.length_append, HNN.out]
          have h3 := HO3.out
          rw [HV.out] at h3
          simpa [byB] using h3
        case measure => simp [intOf]; omega
      · have HE : Hid (unT l = o) := hide (by
          rw [HU.out, ← HOo.out, unD_odd j l (by have := HI2.out; have := HN.out; omega)])
        have q1 : decide ((i : Int) + 1 < (S.size : Int)) = false := by simp; omega
        have hwr : IntKind.i64.wrap ((i : Int) + 1) = (i : Int) + 1 := by rw [IntKind.wrap_i64]; omega
        have HX := hide (hex_any A' N c' o wr (by_lst HO.out) (by omega))
        have hbe := str_beq (hexT o) l
        rw [HS.out] at hbe
        have hbd : (hexT o == l) = decide (hexT o = l) := by by_cases h : hexT o = l <;> simp [h]
        obtain ⟨z, hz⟩ : ∃ z, decide (hexT o = l) = z := ⟨_, rfl⟩
        rw [hbd, hz] at hbe
        have HZ := hide hz
        clear hbd hz
        go_wp2_with fail
        refine HX.out.mono ?_
        rintro e w2 ⟨rfl, hb2⟩
        have HO2 := hide (own_below HO.out hb2)
        have HB2 := hide (HB.out.trans (hb2.mono hsb))
        clear hb2
        go_wp2
        go_ret2
        exact ⟨_, by rw [HE.out, HZ.out]; rfl, by rw [HE.out, HNN.out]; exact HO2.out, HB2.out⟩
end Go.Proofs.YtlfknndpbejbcaaGreatDoor
set_option linter.unusedSimpArgs false
set_option linter.unusedVariables false
namespace Go.Proofs.YtlfknndpbejbcaaGreatDoor
open Go.RowKit Go.WideShapes Go.ChangeShapes
attribute [local go_sem] Oper.semAt_some
def mvV (m : MV) (v : Value) : Value := .agg #[.int .i64 m.k, .int .u32 (m.p : Int), .int .i64 m.n, v, .string (str m.t), .int .u32 (m.oa : Int), .int .i64 m.oh, .int .u32 (m.oi : Int), .bool m.fo]
def mvC (m : MV) (v : Value) : List Value := [.int .i64 m.k, .int .u32 (m.p : Int), .int .i64 m.n, v, .string (str m.t), .int .u32 (m.oa : Int), .int .i64 m.oh, .int .u32 (m.oi : Int), .bool m.fo]
theorem suffix10 (t : List UInt8) (h : t ≠ []) : Lib.hasSuffix t [10] = decide (t.getLast? = some 10) := by
  unfold Lib.hasSuffix
  rcases t.eq_nil_or_concat with rfl | ⟨r, c, rfl⟩
  · exact absurd rfl h
  · rw [Bool.eq_iff_iff, List.isSuffixOf_iff_suffix, decide_eq_true_iff]
    simp only [List.concat_eq_append, List.getLast?_append, List.getLast?_singleton, Option.some_or, Option.some.injEq]
    constructor
    · rintro ⟨s, hs⟩
      have := congrArg List.getLast? hs
      simp at this
      exact this.symm
    · rintro rfl
      exact ⟨r, rfl⟩
set_option maxRecDepth 100000 in
set_option maxHeartbeats 2000000 in
theorem sgood_any (m : MV) (A : Option Addr) (n c : Nat) (w : World) (hb : m.b.length = n) (ht : m.t.length ≤ 9223372036854775807) :
    Calls Tryz.prog 29 #[mvV m (.slice A n c)] w (GoodP (mvGood m) w) := by
  obtain ⟨k, p, nn, b, t, oa, oh, oi, fo⟩ := m
  simp only at hb ht
  have HB := hide ((Below.refl w.heap.size w).alloc (Nat.le_refl _) (.cells #[.int .i64 k, .int .u32 (p : Int), .int .i64 nn, .slice A n c, .string (str t), .int .u32 (oa : Int), .int .i64 oh, .int .u32 (oi : Int), .bool fo] 32))
  have HK := hide (Blk.new w 32 #[.int .i64 k, .int .u32 (p : Int), .int .i64 nn, .slice A n c, .string (str t), .int .u32 (oa : Int), .int .i64 oh, .int .u32 (oi : Int), .bool fo])
  have c0 := HK.out.cell 0
  have c2 := HK.out.cell 2
  have c3 := HK.out.cell 3
  have c4 := HK.out.cell 4
  have c6 := HK.out.cell 6
  have c8 := HK.out.cell 8
  have Hb := hide hb
  clear hb
  unfold mvV
  simp only
  by_cases h8 : k = 8
  · subst h8
    have HR : Hid (mvGood ⟨8, p, nn, b, t, oa, oh, oi, fo⟩ = (decide (1 ≤ nn) && decide (nn ≤ 1048576))) := hide (by unfold mvGood; simp)
    rw [HR.out]
    obtain ⟨q1, hq1⟩ : ∃ q, decide (1 ≤ nn) = q := ⟨_, rfl⟩
    obtain ⟨q2, hq2⟩ : ∃ q, decide (nn ≤ 1048576) = q := ⟨_, rfl⟩
    rw [hq1, hq2]
    cases q1
    · go_enter Tryz.func29, Tryz.ntmps29
      go_wp2
      go_ret
      exact ⟨rfl, HB.out⟩
    · go_enter Tryz.func29, Tryz.ntmps29
      go_wp2
      go_ret
      exact ⟨by simp, HB.out⟩
  · have e8 : (k == 8) = false := by simpa using h8
    by_cases h5 : k = 5
    · subst h5
      have HR : Hid (mvGood ⟨5, p, nn, b, t, oa, oh, oi, fo⟩ = decide ((n : Int) ≤ 4096)) := hide (by unfold mvGood; simp [Hb.out]; omega)
      rw [HR.out]
      go_enter Tryz.func29, Tryz.ntmps29
      go_wp2
      go_ret
      exact ⟨by simp, HB.out⟩
    · have e5 : (k == 5) = false := by simpa using h5
      by_cases h7 : k = 7
      · subst h7
        have hsz : (str t).size = t.length := str_size t
        have HR : Hid (mvGood ⟨7, p, nn, b, t, oa, oh, oi, fo⟩ = (decide ((t.length : Int) ≤ 100000) && (decide (t = []) || decide (t.getLast? = some 10)))) := hide (by
          unfold mvGood
          simp only [show ((7 : Int) = 8) = False by simp, show ((7 : Int) = 5) = False by simp, if_false, if_true]
          congr 1
          simp only [decide_eq_decide]; omega)
        rw [HR.out]
        have hS := hide (Tryz.strings_HasSuffix (str t) ⟨#[10]⟩)
        have HSf : Hid (t ≠ [] → Lib.hasSuffix (str t).data.toList (⟨#[10]⟩ : ByteArray).data.toList = decide (t.getLast? = some 10)) := hide (fun h => by rw [str_data]; exact suffix10 t h)
        have hte : ((str t).toList == []) = decide (t = []) := by
          unfold str; rw [ByteArray.toList_mk]
          cases t <;> simp
        obtain ⟨T, hT⟩ : ∃ T, str t = T := ⟨_, rfl⟩
        rw [hT] at hsz hte hS HSf HB HK c0 c2 c3 c4 c6 c8 ⊢
        obtain ⟨q1, hq1⟩ : ∃ q, decide ((t.length : Int) ≤ 100000) = q := ⟨_, rfl⟩
        rw [hq1]
        have hq1s : decide ((T.size : Int) ≤ 100000) = q1 := by rw [hsz]; exact hq1
        have HSz := hide hsz
        clear hsz hq1 hT
        cases q1
        · go_enter Tryz.func29, Tryz.ntmps29
          go_wp2
          go_ret
          exact ⟨rfl, HB.out⟩
        · by_cases hn0 : t = []
          · have hte2 : (T.toList == []) = true := by rw [hte]; exact decide_eq_true hn0
            have HF : Hid (decide (t = []) = true) := hide (decide_eq_true hn0)
            clear hte hn0
            go_enter Tryz.func29, Tryz.ntmps29
            go_wp2
            go_ret
            exact ⟨by rw [HF.out]; rfl, HB.out⟩
          · have hte2 : (T.toList == []) = false := by rw [hte]; exact decide_eq_false hn0
            have HF : Hid (decide (t = []) = false) := hide (decide_eq_false hn0)
            have HL := hide (HSf.out hn0)
            clear hte hn0
            have HC := hide (fun W => hS.out W (by rw [HSz.out]; exact ht))
            go_enter Tryz.func29, Tryz.ntmps29
            go_wp2_with fail
            refine (HC.out _).mono ?_
            rintro e w2 ⟨rfl, rfl⟩
            rw [HL.out]
            go_wp2
            go_ret
            exact ⟨by rw [HF.out]; simp, HB.out⟩
      · have e7 : (k == 7) = false := by simpa using h7
        by_cases h9 : k = 9
        · subst h9
          have HR : Hid (mvGood ⟨9, p, nn, b, t, oa, oh, oi, fo⟩ = (decide (0 ≤ oh) && decide (oh ≤ 65535) && fo)) := hide (by unfold mvGood; simp)
          rw [HR.out]
          obtain ⟨q1, hq1⟩ : ∃ q, decide (0 ≤ oh) = q := ⟨_, rfl⟩
          obtain ⟨q2, hq2⟩ : ∃ q, decide (oh ≤ 65535) = q := ⟨_, rfl⟩
          rw [hq1, hq2]
          cases q1 <;> cases q2
          all_goals
            go_enter Tryz.func29, Tryz.ntmps29
            go_wp2
            go_ret
            exact ⟨by simp, HB.out⟩
        · have e9 : (k == 9) = false := by simpa using h9
          have HR : Hid (mvGood ⟨k, p, nn, b, t, oa, oh, oi, fo⟩ = (decide (1 ≤ k) && decide (k ≤ 10))) := hide (by unfold mvGood; simp [h5, h7, h8, h9])
          rw [HR.out]
          obtain ⟨q1, hq1⟩ : ∃ q, decide (1 ≤ k) = q := ⟨_, rfl⟩
          obtain ⟨q2, hq2⟩ : ∃ q, decide (k ≤ 10) = q := ⟨_, rfl⟩
          rw [hq1, hq2]
          clear h5 h7 h8 h9
          cases q1
          all_goals
            go_enter Tryz.func29, Tryz.ntmps29
            go_wp2
            go_ret
            exact ⟨by simp, HB.out⟩
end Go.Proofs.YtlfknndpbejbcaaGreatDoor
set_option linter.unusedSimpArgs false
set_option linter.unusedVariables false
namespace Go.Proofs.YtlfknndpbejbcaaGreatDoor
open Go.RowKit Go.WideShapes Go.ChangeShapes
attribute [local go_sem] Oper.semAt_some
theorem idxW_P (w : List UInt8) : ∀ l : List (List UInt8), idxP (fun y => decide (str w = y)) (l.map str) = idxW l w
  | [] => rfl
  | x :: l => by
    have ih := idxW_P w l
    by_cases h : w = x
    · subst h; simp [idxP, idxW]
    · have h2 : str w ≠ str x := fun e => h (str_inj e)
      simp only [List.map_cons, idxP, idxW, ih, h, h2, decide_false, if_false]
      rfl
theorem idxW_bd (w : List UInt8) : ∀ l : List (List UInt8), -1 ≤ idxW l w ∧ idxW l w < l.length
  | [] => by simp [idxW]
  | x :: l => by
    have ih := idxW_bd w l
    unfold idxW
    split
    · simp
    · split
      · simp; omega
      · simp; omega
theorem pieces_each (c : UInt8) : ∀ (l : List UInt8), ∀ p ∈ pieces c l, p.length ≤ l.length
  | [] => by simp [pieces]
  | x :: l => by
    have ih := pieces_each c l
    intro p hp
    unfold pieces at hp
    split at hp
    · rcases List.mem_cons.1 hp with rfl | hp
      · simp
      · have := ih p hp; simp; omega
    · cases hq : pieces c l with
      | nil => exact absurd hq (pieces_ne c l)
      | cons a r =>
        rw [hq] at hp ih
        rcases List.mem_cons.1 hp with rfl | hp
        · have := ih a (by simp); simp; omega
        · have := ih p (by simp at hp ⊢; exact .inr hp); simp; omega
theorem nthW_zero (l : List (List UInt8)) : nthW l 0 = l.headD [] := by cases l <;> rfl
theorem nthW_succ (l : List (List UInt8)) (i : Nat) : nthW l (i + 1) = nthW l.tail i := by cases l <;> simp [nthW]
theorem spl_strs {c : UInt8} {l : List UInt8} {w w' : World} (h3 : w.heap.size < w'.heap.size) (hc : ∀ j x, (pieces c l)[j]? = some x → w'.cell? ⟨w.heap.size, j, none⟩ = some (.string (str x))) (hl : l.length ≤ 1000000) : StrsAt w' (some ⟨w.heap.size, 0, none⟩) (pieces c l).length (pieces c l).length ((pieces c l).map str) := by
  have h1 := pieces_len c l
  refine ⟨by simp, Nat.le_refl _, by unfold maxLen; omega, fun x hx => ?_, fun hn => ⟨_, 0, rfl, h3, fun k x hk => ?_⟩⟩
  · obtain ⟨y, hy, rfl⟩ := List.mem_map.1 hx
    rw [str_size]
    have := pieces_each c l y hy
    unfold maxLen; omega
  · rw [List.getElem?_map, Option.map_eq_some_iff] at hk
    obtain ⟨y, hy, rfl⟩ := hk
    rw [Nat.zero_add]
    exact hc k y hy
theorem StrsAt.grown_ {w w' : World} {g : Nat} {A : Option Addr} {n c : Nat} {l : List ByteArray} (h : StrsAt w A n c l) (hg : w.grownBy w' (some g)) (hA : ∀ a, A = some a → a.block ≠ g) : StrsAt w' A n c l := by
  refine ⟨h.1, h.2.1, h.2.2.1, h.2.2.2.1, fun hn => ?_⟩
  obtain ⟨b, o, rfl, hb, hc⟩ := h.2.2.2.2 hn
  refine ⟨b, o, rfl, Nat.lt_of_lt_of_le hb hg.size, fun k x hk => ?_⟩
  rw [World.cell?_of_block (hg.block b hb (by simp; exact hA _ rfl))]
  exact hc k x hk
theorem RdAt.set_ {w : World} {g g3 i : Nat} {ws : List (List UInt8)} {u : Value} (h : RdAt w g ws) (hg : g < g3) : RdAt (w.setCell ⟨g3, i, none⟩ u) g ws := by
  obtain ⟨A, n, c, h1, h2, h3⟩ := h
  refine ⟨A, n, c, h1.far (by show g ≠ g3; omega) _, ?_, h3⟩
  refine h2.grown_ (g := g3) ⟨rfl, rfl, rfl, by simp [World.setCell], fun k hk hne => ?_⟩ (fun a ha => by have := h3 a ha; omega)
  simp only [World.setCell, Array.getElem?_modify]
  rw [if_neg (fun e => hne (by rw [e]))]
structure MvSt (w W : World) (g2 g3 : Nat) (ws : List (List UInt8)) (m : MV) (v : Value) : Prop where
  res : Blk W w.heap.size 32 #[.int .i64 0, .int .u32 0, .int .i64 0, .slice none 0 0, .string ⟨#[]⟩, .int .u32 0, .int .i64 0, .int .u32 0, .bool false]
  rd : RdAt W g2 ws
  mb : Blk W g3 32 (mvC m v).toArray
  own : W.ownsRow (w.heap.size + 1) 5 1 v m.b.length (byB m.b)
  bel : Below w.heap.size w W
  lt : w.heap.size < g2 ∧ g2 < g3
theorem MvSt.grown_ {w W W' : World} {g2 g3 : Nat} {ws ws' : List (List UInt8)} {m : MV} {v : Value} (h : MvSt w W g2 g3 ws m v) (hg : W.grownBy W' (some g2)) (hr : RdAt W' g2 ws') : MvSt w W' g2 g3 ws' m v := by
  obtain ⟨A, n, c, hk, _, _⟩ := h.rd
  exact ⟨h.res.grown hg (by simp; have := h.lt.1; omega), hr, h.mb.grown hg (by simp; have := h.lt.2; omega), h.own.kept hg (.inr (own_blk_ne h.own hk (by decide))), h.bel.trans (below_of hg (Nat.le_of_lt h.lt.1) h.bel.size), h.lt⟩
theorem MvSt.below {w W W' : World} {g2 g3 : Nat} {ws : List (List UInt8)} {m : MV} {v : Value} (h : MvSt w W g2 g3 ws m v) (hb : Below W.heap.size W W') : MvSt w W' g2 g3 ws m v :=
  ⟨h.res.below hb h.res.lt, h.rd.below hb, h.mb.below hb h.mb.lt, own_below h.own hb, h.bel.trans (hb.mono h.bel.size), h.lt⟩
theorem MvSt.set_ {w W : World} {g2 g3 : Nat} {ws : List (List UInt8)} {m m' : MV} {v v' : Value} (h : MvSt w W g2 g3 ws m v) (i : Nat) (u : Value) (he : (mvC m v).toArray.setIfInBounds i u = (mvC m' v').toArray) (ho : W.ownsRow (w.heap.size + 1) 5 1 v' m'.b.length (byB m'.b)) : MvSt w (W.setCell ⟨g3, i, none⟩ u) g2 g3 ws m' v' :=
  ⟨h.res.far (by show w.heap.size ≠ g3; have := h.lt; omega) _, h.rd.set_ h.lt.2, he ▸ h.mb.set_ i u, own_set ho (own_blk_ne ho h.mb (by decide)) u, h.bel.setCell (p := ⟨g3, i, none⟩) (by show w.heap.size ≤ g3; have := h.lt; omega) u, h.lt⟩
def MoveP (line : List UInt8) (w : World) (e : Ending) (w' : World) : Prop := ∃ v, e = .returned (.tuple #[mvV (moveP line).1 v, .int .i64 ((moveP line).2 : Int)]) ∧ w'.ownsRow w.heap.size 5 1 v (moveP line).1.b.length (byB (moveP line).1.b) ∧ Below w.heap.size w w'
theorem SpTab.below {w w' : World} (h : SpTab w) (hb : Below w.heap.size w w') : SpTab w' := Lib.tabBelow_of_tabIs h w' hb
set_option maxRecDepth 100000 in
set_option maxHeartbeats 8000000 in
theorem move_any (line : List UInt8) (hl : line.length ≤ 100000) (w : World) (he : Env w) (ht : SpTab w) : Calls Tryz.prog 39 #[.string (str line)] w (MoveP line w) := by
  have hB0 : Below w.heap.size w (w.alloc (.cells #[.int .i64 0, .int .u32 0, .int .i64 0, .slice none 0 0, .string ⟨#[]⟩, .int .u32 0, .int .i64 0, .int .u32 0, .bool false] 32)) := (Below.refl _ w).alloc (Nat.le_refl _) _
  have hR0 : Blk (w.alloc (.cells #[.int .i64 0, .int .u32 0, .int .i64 0, .slice none 0 0, .string ⟨#[]⟩, .int .u32 0, .int .i64 0, .int .u32 0, .bool false] 32)) w.heap.size 32 #[.int .i64 0, .int .u32 0, .int .i64 0, .slice none 0 0, .string ⟨#[]⟩, .int .u32 0, .int .i64 0, .int .u32 0, .bool false] := Blk.new w _ _
  have HSp := hide (split_any 32 line hl _ (he.below hB0))
  have HEn := hide he
  have HTb := hide ht
  have HB0 := hide hB0
  have HR0 := hide hR0
  have hpl := pieces_len 32 line
  have hpe := pieces_each 32 line
  obtain ⟨ws, hws⟩ : ∃ ws, pieces 32 line = ws := ⟨_, rfl⟩
  have HMv : Hid (moveP line = moveP line) := hide rfl
  have HWs := hide hws
  obtain ⟨T, hT⟩ : ∃ T, str line = T := ⟨_, rfl⟩
  rw [hT] at HSp ⊢
  clear he ht hB0 hR0 hT
  go_enter Tryz.func39, Tryz.ntmps39
  go_wp2_with fail
  refine HSp.out.mono ?_
  rintro e w1 ⟨rfl, hb1, hs1, hc1⟩
  have hst := spl_strs hs1 hc1 (by omega)
  rw [HWs.out] at hst hpl hpe ⊢
  obtain ⟨n0, hn0⟩ : ∃ n, ws.length = n := ⟨_, rfl⟩
  rw [hn0] at hst hpl ⊢
  have HPe : Hid (∀ x ∈ ws, x.length ≤ 1000000) := hide (fun x hx => by have := hpe x hx; omega)
  have HB1 := hide (HB0.out.trans (hb1.mono HB0.out.size))
  have HR1 := hide (HR0.out.below hb1 HR0.out.lt)
  have hal : Below w1.heap.size w1 (w1.alloc (.cells #[.slice (some ⟨w.heap.size + 1, 0, none⟩) n0 n0] 85)) := (Below.refl _ _).alloc (Nat.le_refl _) _
  have HRd1 : Hid (RdAt (w1.alloc (.cells #[.slice (some ⟨w.heap.size + 1, 0, none⟩) n0 n0] 85)) w1.heap.size ws) := hide ⟨some ⟨w.heap.size + 1, 0, none⟩, n0, n0, Blk.new _ _ _, by have := hst.below rfl hal; simpa using this, fun a ha => by cases ha; simpa using hs1⟩
  have HB1b := hide (HB1.out.trans (hal.mono HB1.out.size))
  have HR1b := hide (HR1.out.below hal HR1.out.lt)
  have HWo := hide (words_any _ (HTb.out.below HB1b.out))
  have hlt1 : w.heap.size < w1.heap.size := by simp at hs1; omega
  clear hst hb1 hs1 hc1 hal hpl hpe hws hn0
  go_wp2_with fail
  refine HWo.out.mono ?_
  rintro e w2 ⟨rfl, hb2, hwd⟩
  have HRd2 := hide (HRd1.out.below hb2)
  have HB2 := hide (HB1b.out.trans (hb2.mono HB1b.out.size))
  have HR2 := hide (HR1b.out.below hb2 HR1b.out.lt)
  have HWd := hide hwd
  obtain ⟨a0, ha0⟩ : ∃ x, ws.headD [] = x := ⟨_, rfl⟩
  obtain ⟨ws1, hws1⟩ : ∃ x, ws.tail = x := ⟨_, rfl⟩
  have HCw := hide (sword_any w1.heap.size ws w2 HRd2.out)
  rw [ha0, hws1] at HCw
  have HA0 := hide ha0
  have HWs1 := hide hws1
  clear ha0 hws1
  clear hb2 hwd
  go_wp2_with fail
  refine HCw.out.mono ?_
  rintro e w3 ⟨rfl, hg3, hr3⟩
  have HWd3 : Hid (StrsAt w3 (some ⟨w1.heap.size + 1, 0, none⟩) 10 10 (wordsM.map str)) := hide (by
    have h := HWd.out.grown_ hg3 (fun a ha => by cases ha; simp)
    have e : (w1.alloc (.cells #[.slice (some ⟨w.heap.size + 1, 0, none⟩) n0 n0] 85)).heap.size = w1.heap.size + 1 := by simp
    rw [e] at h
    exact h)
  have HB3 := hide (HB2.out.trans (below_of hg3 (Nat.le_of_lt hlt1) HB2.out.size))
  have HR3 := hide (HR2.out.grown hg3 (by simp; omega))
  have HRd3 := hide hr3
  have HIx := hide (sIndex_any (str a0) _ 10 10 _ w3 HWd3.out)
  rw [idxW_P] at HIx
  have hbd := idxW_bd a0 wordsM
  obtain ⟨q, hq⟩ : ∃ q, idxW wordsM a0 = q := ⟨_, rfl⟩
  rw [hq] at HIx hbd
  have HQ := hide hq
  have hq1 : -1 ≤ q := hbd.1
  have hq2 : q < 10 := hbd.2
  obtain ⟨k, hk⟩ : ∃ k, q + 1 = k := ⟨_, rfl⟩
  have hwr : IntKind.i64.wrap (q + 1) = k := by rw [IntKind.wrap_i64]; omega
  have hk1 : 0 ≤ k := by omega
  have hk2 : k ≤ 10 := by omega
  have HKq : Hid (idxW wordsM a0 + 1 = k) := hide (by rw [HQ.out]; exact hk)
  clear hk
  have hs3 := hg3.size
  have hlt3 : w1.heap.size < w3.heap.size := by obtain ⟨A, n, c, hk, _, _⟩ := hr3; exact hk.lt
  clear hg3 hr3 hq hbd
  go_wp2_with fail
  refine HIx.out.mono ?_
  rintro e w4 ⟨rfl, hw4⟩
  have hw4b := hw4.symm
  subst hw4b
  have HM0 : Hid (MvSt w (w3.alloc (.cells #[.int .i64 k, .int .u32 0, .int .i64 0, .slice none 0 0, .string ⟨#[]⟩, .int .u32 0, .int .i64 0, .int .u32 0, .bool false] 32)) w1.heap.size w3.heap.size ws1 ⟨k, 0, 0, [], [], 0, 0, 0, false⟩ (.slice none 0 0)) := hide
    ⟨HR3.out.alloc _, HRd3.out.below ((Below.refl _ _).alloc (Nat.le_refl _) _), Blk.new _ _ _, ⟨rfl, .inl ⟨rfl, rfl⟩⟩, HB3.out.alloc HB3.out.size _, hlt1, hlt3⟩
  have HEq : Hid (∀ x, moveP line = x ↔ moveP line = x) := hide (fun x => Iff.rfl)
  have HMP : Hid (nthW (pieces 32 line) 0 = a0) := hide (by rw [HWs.out, ← HA0.out]; unfold nthW; cases ws <;> rfl)
  by_cases h6 : k = 6
  · subst h6
    have c0 : (w3.alloc (.cells #[.int .i64 6, .int .u32 0, .int .i64 0, .slice none 0 0, .string ⟨#[]⟩, .int .u32 0, .int .i64 0, .int .u32 0, .bool false] 32)).cell? ⟨w3.heap.size, 0, none⟩ = some (.int .i64 6) := HM0.out.mb.cell 0
    have c1 : (w3.alloc (.cells #[.int .i64 6, .int .u32 0, .int .i64 0, .slice none 0 0, .string ⟨#[]⟩, .int .u32 0, .int .i64 0, .int .u32 0, .bool false] 32)).cell? ⟨w3.heap.size, 1, none⟩ = some (.int .u32 0) := HM0.out.mb.cell 1
    have c2 : (w3.alloc (.cells #[.int .i64 6, .int .u32 0, .int .i64 0, .slice none 0 0, .string ⟨#[]⟩, .int .u32 0, .int .i64 0, .int .u32 0, .bool false] 32)).cell? ⟨w3.heap.size, 2, none⟩ = some (.int .i64 0) := HM0.out.mb.cell 2
    have c3 : (w3.alloc (.cells #[.int .i64 6, .int .u32 0, .int .i64 0, .slice none 0 0, .string ⟨#[]⟩, .int .u32 0, .int .i64 0, .int .u32 0, .bool false] 32)).cell? ⟨w3.heap.size, 3, none⟩ = some (.slice none 0 0) := HM0.out.mb.cell 3
    have c4 : (w3.alloc (.cells #[.int .i64 6, .int .u32 0, .int .i64 0, .slice none 0 0, .string ⟨#[]⟩, .int .u32 0, .int .i64 0, .int .u32 0, .bool false] 32)).cell? ⟨w3.heap.size, 4, none⟩ = some (.string ⟨#[]⟩) := HM0.out.mb.cell 4
    have c5 : (w3.alloc (.cells #[.int .i64 6, .int .u32 0, .int .i64 0, .slice none 0 0, .string ⟨#[]⟩, .int .u32 0, .int .i64 0, .int .u32 0, .bool false] 32)).cell? ⟨w3.heap.size, 5, none⟩ = some (.int .u32 0) := HM0.out.mb.cell 5
    have c6 : (w3.alloc (.cells #[.int .i64 6, .int .u32 0, .int .i64 0, .slice none 0 0, .string ⟨#[]⟩, .int .u32 0, .int .i64 0, .int .u32 0, .bool false] 32)).cell? ⟨w3.heap.size, 6, none⟩ = some (.int .i64 0) := HM0.out.mb.cell 6
    have c7 : (w3.alloc (.cells #[.int .i64 6, .int .u32 0, .int .i64 0, .slice none 0 0, .string ⟨#[]⟩, .int .u32 0, .int .i64 0, .int .u32 0, .bool false] 32)).cell? ⟨w3.heap.size, 7, none⟩ = some (.int .u32 0) := HM0.out.mb.cell 7
    have c8 : (w3.alloc (.cells #[.int .i64 6, .int .u32 0, .int .i64 0, .slice none 0 0, .string ⟨#[]⟩, .int .u32 0, .int .i64 0, .int .u32 0, .bool false] 32)).cell? ⟨w3.heap.size, 8, none⟩ = some (.bool false) := HM0.out.mb.cell 8
    have r0 := HM0.out.res.cell 0
    have rf0 := HM0.out.res.frozen 0
    have r1 := HM0.out.res.cell 1
    have rf1 := HM0.out.res.frozen 1
    have r2 := HM0.out.res.cell 2
    have rf2 := HM0.out.res.frozen 2
    have r3 := HM0.out.res.cell 3
    have rf3 := HM0.out.res.frozen 3
    have r4 := HM0.out.res.cell 4
    have rf4 := HM0.out.res.frozen 4
    have r5 := HM0.out.res.cell 5
    have rf5 := HM0.out.res.frozen 5
    have r6 := HM0.out.res.cell 6
    have rf6 := HM0.out.res.frozen 6
    have r7 := HM0.out.res.cell 7
    have rf7 := HM0.out.res.frozen 7
    have r8 := HM0.out.res.cell 8
    have rf8 := HM0.out.res.frozen 8
    have HF := hide (((((((((HM0.out.res.set_ 0 (.int .i64 6)).set_ 1 (.int .u32 0)).set_ 2 (.int .i64 0)).set_ 3 (.slice none 0 0)).set_ 4 (.string ⟨#[]⟩)).set_ 5 (.int .u32 0)).set_ 6 (.int .i64 0)).set_ 7 (.int .u32 0)).set_ 8 (.bool false))
    have HBF := hide (((((((((HM0.out.bel.setCell (p := ⟨w.heap.size, 0, none⟩) (Nat.le_refl _) (.int .i64 6)).setCell (p := ⟨w.heap.size, 1, none⟩) (Nat.le_refl _) (.int .u32 0)).setCell (p := ⟨w.heap.size, 2, none⟩) (Nat.le_refl _) (.int .i64 0)).setCell (p := ⟨w.heap.size, 3, none⟩) (Nat.le_refl _) (.slice none 0 0)).setCell (p := ⟨w.heap.size, 4, none⟩) (Nat.le_refl _) (.string ⟨#[]⟩)).setCell (p := ⟨w.heap.size, 5, none⟩) (Nat.le_refl _) (.int .u32 0)).setCell (p := ⟨w.heap.size, 6, none⟩) (Nat.le_refl _) (.int .i64 0)).setCell (p := ⟨w.heap.size, 7, none⟩) (Nat.le_refl _) (.int .u32 0)).setCell (p := ⟨w.heap.size, 8, none⟩) (Nat.le_refl _) (.bool false))
    have HOF := hide (own_set (g := w.heap.size) (i := 8) (own_set (g := w.heap.size) (i := 7) (own_set (g := w.heap.size) (i := 6) (own_set (g := w.heap.size) (i := 5) (own_set (g := w.heap.size) (i := 4) (own_set (g := w.heap.size) (i := 3) (own_set (g := w.heap.size) (i := 2) (own_set (g := w.heap.size) (i := 1) (own_set (g := w.heap.size) (i := 0) HM0.out.own (fun e => by have := own_low_block HM0.out.own _ e; omega) (.int .i64 6)) (fun e => by have := own_low_block HM0.out.own _ e; omega) (.int .u32 0)) (fun e => by have := own_low_block HM0.out.own _ e; omega) (.int .i64 0)) (fun e => by have := own_low_block HM0.out.own _ e; omega) (.slice none 0 0)) (fun e => by have := own_low_block HM0.out.own _ e; omega) (.string ⟨#[]⟩)) (fun e => by have := own_low_block HM0.out.own _ e; omega) (.int .u32 0)) (fun e => by have := own_low_block HM0.out.own _ e; omega) (.int .i64 0)) (fun e => by have := own_low_block HM0.out.own _ e; omega) (.int .u32 0)) (fun e => by have := own_low_block HM0.out.own _ e; omega) (.bool false))
    go_wp2
    have u0 := HF.out.cell 0
    have u1 := HF.out.cell 1
    have u2 := HF.out.cell 2
    have u3 := HF.out.cell 3
    have u4 := HF.out.cell 4
    have u5 := HF.out.cell 5
    have u6 := HF.out.cell 6
    have u7 := HF.out.cell 7
    have u8 := HF.out.cell 8
    have HEqn : Hid (moveP line = (⟨6, 0, 0, [], [], 0, 0, 0, false⟩, 0)) := hide (by unfold moveP; simp only [HMP.out, HKq.out]; simp)
    refine bodyPost_ret (v := .tuple #[.agg #[.int .i64 6, .int .u32 0, .int .i64 0, .slice none 0 0, .string ⟨#[]⟩, .int .u32 0, .int .i64 0, .int .u32 0, .bool false], .int .i64 (0 : Nat)]) (by simp [results, Tryz.results39, go_sem, u0, u1, u2, u3, u4, u5, u6, u7, u8]) rfl ⟨.slice none 0 0, by rw [HEqn.out]; rfl, by rw [HEqn.out]; exact own_baseLe HOF.out (Nat.le_succ _), HBF.out⟩
  · have e6 : (k == 6) = false := by simpa using h6
    have e6n : (k != 6) = true := by simpa using h6
    by_cases h7 : k = 7
    · subst h7
      obtain ⟨a1, ha1⟩ : ∃ x, ws1.headD [] = x := ⟨_, rfl⟩
      obtain ⟨ws2, hws2⟩ : ∃ x, ws1.tail = x := ⟨_, rfl⟩
      obtain ⟨n7, hn7⟩ : ∃ x : Nat, numP a1 1048576 = x := ⟨_, rfl⟩
      have HPe1 : Hid (∀ x ∈ ws1, x.length ≤ 1000000) := hide (fun x hx => HPe.out x (by rw [← HWs1.out] at hx; exact List.mem_of_mem_tail hx))
      obtain ⟨PM, hPM⟩ : ∃ PM, PM = (fun (W : World) (x : List (List UInt8)) => MvSt w W w1.heap.size w3.heap.size x ⟨7, 0, 0, [], [], 0, 0, 0, false⟩ (.slice none 0 0)) := ⟨_, rfl⟩
      have HPM : Hid (∀ W x, PM W x ↔ MvSt w W w1.heap.size w3.heap.size x ⟨7, 0, 0, [], [], 0, 0, 0, false⟩ (.slice none 0 0)) := hide (fun W x => by rw [hPM])
      have HC7 : Hid (∀ W, PM W ws1 → Calls Tryz.prog 59 #[.pointer (some ⟨w1.heap.size, 0, none⟩), .int .i64 1048576] W fun e w2 => e = .returned (.int .i64 (n7 : Int)) ∧ W.grownBy w2 (some w1.heap.size) ∧ RdAt w2 w1.heap.size ws2) := hide (fun W h => by
        have h := (HPM.out _ _).1 h
        have := rnum_any w w1.heap.size ws1 1048576 W h.rd HPe1.out HEn.out h.bel (Nat.le_of_lt hlt1)
        rwa [ha1, hws2, hn7] at this)
      have HN7 := hide hn7
      have HP0 : Hid (PM (w3.alloc (.cells #[.int .i64 7, .int .u32 0, .int .i64 0, .slice none 0 0, .string ⟨#[]⟩, .int .u32 0, .int .i64 0, .int .u32 0, .bool false] 32)) ws1) := hide ((HPM.out _ _).2 HM0.out)
      have HA1 := hide ha1
      have HWs2 := hide hws2
      clear hn7 ha1 hws2 hPM
      have HMP1 : Hid (nthW (pieces 32 line) 1 = a1) := hide (by rw [HWs.out, nthW_succ, HWs1.out, nthW_zero, HA1.out])
      have c0 : (w3.alloc (.cells #[.int .i64 7, .int .u32 0, .int .i64 0, .slice none 0 0, .string ⟨#[]⟩, .int .u32 0, .int .i64 0, .int .u32 0, .bool false] 32)).cell? ⟨w3.heap.size, 0, none⟩ = some (.int .i64 7) := HM0.out.mb.cell 0
      go_wp2
      clear c0
      refine wp_region_relET 3 w.heap.size HM0.out.bel.size [(fun v _ => v = .agg #[.int .i64 7, .int .u32 0, .int .i64 0, .slice none 0 0, .string ⟨#[]⟩, .int .u32 0, .int .i64 0, .int .u32 0, .bool false]), (fun v _ => v = .pointer (some ⟨w1.heap.size, 0, none⟩)), (fun v W => v = .int .i64 (n7 : Int) ∧ PM W ws2)] (fun i W => (i = 2 → PM W ws1) ∧ (i = 0 → ∃ x, PM W x)) (fun i Wa Wb => if i = 2 then Wa.grownBy Wb (some w1.heap.size) ∧ RdAt Wb w1.heap.size ws2 else Below Wa.heap.size Wa Wb) (fun _ _ _ _ => True) (by kernel_rfl) (by kernel_rfl) (by kernel_rfl) (by kernel_rfl) (by kernel_rfl) ?hE ?hR ?hP (fun _ _ _ _ _ => trivial) ?h0 ⟨?_, ?_, ?_, trivial⟩ ?_
      case hE =>
        intro i Wa Wb hB he
        split at he
        · exact below_of he.1 (Nat.le_of_lt hlt1) hB
        · exact he.mono hB
      case hR =>
        intro i j v Wa Wb hij hB he h
        match i with
        | 0 => exact h
        | 1 => exact h
        | 2 =>
          split at he
          · omega
          · exact ⟨h.1, (HPM.out _ _).2 (((HPM.out _ _).1 h.2).below he)⟩
        | i + 3 => simp [relAt]
      case hP =>
        intro i j Wa Wb hij hB he h
        split at he
        · exact ⟨fun e => by omega, fun e => by obtain ⟨x, hx⟩ := h.2 e; exact ⟨ws2, (HPM.out _ _).2 (((HPM.out _ _).1 hx).grown_ he.1 he.2)⟩⟩
        · exact ⟨fun e => (HPM.out _ _).2 (((HPM.out _ _).1 (h.1 e)).below he), fun e => by obtain ⟨x, hx⟩ := h.2 e; exact ⟨x, (HPM.out _ _).2 (((HPM.out _ _).1 hx).below he)⟩⟩
      case h0 =>
        intro j _
        have h := (HPM.out _ _).2 (((HPM.out _ _).1 HP0.out).below (below_drewN (Below.refl _ _) 1))
        exact ⟨fun _ => h, fun _ => ⟨_, h⟩⟩
      · refine relE_of rfl (fun _ _ _ => trivial) ?_
        intro Dn Ac w5 hp
        obtain ⟨x, hx⟩ := hp.pre.2 rfl
        have hx := (HPM.out _ _).1 hx
        have a5 : Ac.eval (.tmp 5) = .pointer (some ⟨w3.heap.size, 0, none⟩) := hp.out 5 (by rfl)
        have c0 : w5.cell? ⟨w3.heap.size, 0, none⟩ = some (.int .i64 7) := hx.mb.cell 0
        have c1 : w5.cell? ⟨w3.heap.size, 1, none⟩ = some (.int .u32 0) := hx.mb.cell 1
        have c2 : w5.cell? ⟨w3.heap.size, 2, none⟩ = some (.int .i64 0) := hx.mb.cell 2
        have c3 : w5.cell? ⟨w3.heap.size, 3, none⟩ = some (.slice none 0 0) := hx.mb.cell 3
        have c4 : w5.cell? ⟨w3.heap.size, 4, none⟩ = some (.string ⟨#[]⟩) := hx.mb.cell 4
        have c5 : w5.cell? ⟨w3.heap.size, 5, none⟩ = some (.int .u32 0) := hx.mb.cell 5
        have c6 : w5.cell? ⟨w3.heap.size, 6, none⟩ = some (.int .i64 0) := hx.mb.cell 6
        have c7 : w5.cell? ⟨w3.heap.size, 7, none⟩ = some (.int .u32 0) := hx.mb.cell 7
        have c8 : w5.cell? ⟨w3.heap.size, 8, none⟩ = some (.bool false) := hx.mb.cell 8
        clear hx hp
        have hc := evalC Ac; have hf := evalF Ac; have hgl := evalG Ac
        obtain ⟨ρ, hρ⟩ : ∃ ρ, Ac.eval = ρ := ⟨_, rfl⟩
        rw [hρ] at a5 hc hf hgl
        exact relPure hρ (.agg #[.int .i64 7, .int .u32 0, .int .i64 0, .slice none 0 0, .string ⟨#[]⟩, .int .u32 0, .int .i64 0, .int .u32 0, .bool false]) (by simp [go_sem, hc, hf, hgl, ↓IntWalk.iteOmega, a5, *]) rfl
      · refine relE_of rfl (fun _ _ _ => trivial) ?_
        intro Dn Ac w5 hp
        have a4 : Ac.eval (.tmp 4) = .pointer (some ⟨w1.heap.size, 0, none⟩) := hp.out 4 (by rfl)
        have hc := evalC Ac; have hf := evalF Ac; have hgl := evalG Ac
        obtain ⟨ρ, hρ⟩ : ∃ ρ, Ac.eval = ρ := ⟨_, rfl⟩
        rw [hρ] at a4 hc hf hgl
        exact relPure hρ (.pointer (some ⟨w1.heap.size, 0, none⟩)) (by simp [go_sem, hc, hf, hgl, ↓IntWalk.iteOmega, a4]) rfl
      · intro Dn Ac w5 hp
        have hpre := hp.pre.1 rfl
        have a59 : Ac.eval (.tmp 59) = .pointer (some ⟨w1.heap.size, 0, none⟩) := hp.dep 1 (by kernel_rfl)
        have hc := evalC Ac; have hf := evalF Ac; have hgl := evalG Ac
        unfold Oper.wp
        rw [show (execOp Ac.eval _).run Tryz.prog w5 = .ok (.enter 59 #[.pointer (some ⟨w1.heap.size, 0, none⟩), .int .i64 1048576]) w5 from by
          obtain ⟨ρ, hρ⟩ : ∃ ρ, Ac.eval = ρ := ⟨_, rfl⟩
          rw [hρ] at a59 hc hf hgl ⊢
          simp [go_sem, hc, hf, hgl, ↓IntWalk.iteOmega, a59], Oper.upon_enter]
        refine (HC7.out w5 hpre).mono ?_
        rintro e w6 ⟨rfl, hg6, hr6⟩
        exact ⟨_, rfl, ⟨rfl, (HPM.out _ _).2 (((HPM.out _ _).1 hpre).grown_ hg6 hr6)⟩, (show (if (2 : Nat) = 2 then w5.grownBy w6 (some w1.heap.size) ∧ RdAt w6 w1.heap.size ws2 else Below w5.heap.size w5 w6) from by rw [if_pos rfl]; exact ⟨hg6, hr6⟩), fun _ _ => trivial⟩
      · intro u w8 hb7 hall _
        have e0 : u 0 = .agg #[.int .i64 7, .int .u32 0, .int .i64 0, .slice none 0 0, .string ⟨#[]⟩, .int .u32 0, .int .i64 0, .int .u32 0, .bool false] := relAll_at hall (i := 0) (by decide +kernel)
        have e2 : u 2 = .int .i64 (n7 : Int) := (relAll_at hall (i := 2) (by decide +kernel)).1
        have hm8 : PM w8 ws2 := (relAll_at hall (i := 2) (by decide +kernel)).2
        have HM8 := hide ((HPM.out _ _).1 hm8)
        clear hall hb7 hm8
        simp only [List.drop_succ_cons, List.drop_zero, List.take_succ_cons, List.take_zero, putAll, Act.put, List.setIfInBounds_toArray, List.set_cons_zero, List.set_cons_succ, Nat.zero_add, Nat.reduceAdd, e0, e2]
        have c0 : w8.cell? ⟨w3.heap.size, 0, none⟩ = some (.int .i64 7) := HM8.out.mb.cell 0
        have c1 : w8.cell? ⟨w3.heap.size, 1, none⟩ = some (.int .u32 0) := HM8.out.mb.cell 1
        have c2 : w8.cell? ⟨w3.heap.size, 2, none⟩ = some (.int .i64 0) := HM8.out.mb.cell 2
        have c3 : w8.cell? ⟨w3.heap.size, 3, none⟩ = some (.slice none 0 0) := HM8.out.mb.cell 3
        have c4 : w8.cell? ⟨w3.heap.size, 4, none⟩ = some (.string ⟨#[]⟩) := HM8.out.mb.cell 4
        have c5 : w8.cell? ⟨w3.heap.size, 5, none⟩ = some (.int .u32 0) := HM8.out.mb.cell 5
        have c6 : w8.cell? ⟨w3.heap.size, 6, none⟩ = some (.int .i64 0) := HM8.out.mb.cell 6
        have c7 : w8.cell? ⟨w3.heap.size, 7, none⟩ = some (.int .u32 0) := HM8.out.mb.cell 7
        have c8 : w8.cell? ⟨w3.heap.size, 8, none⟩ = some (.bool false) := HM8.out.mb.cell 8
        have r0 := HM8.out.res.cell 0
        have rf0 := HM8.out.res.frozen 0
        have r1 := HM8.out.res.cell 1
        have rf1 := HM8.out.res.frozen 1
        have r2 := HM8.out.res.cell 2
        have rf2 := HM8.out.res.frozen 2
        have r3 := HM8.out.res.cell 3
        have rf3 := HM8.out.res.frozen 3
        have r4 := HM8.out.res.cell 4
        have rf4 := HM8.out.res.frozen 4
        have r5 := HM8.out.res.cell 5
        have rf5 := HM8.out.res.frozen 5
        have r6 := HM8.out.res.cell 6
        have rf6 := HM8.out.res.frozen 6
        have r7 := HM8.out.res.cell 7
        have rf7 := HM8.out.res.frozen 7
        have r8 := HM8.out.res.cell 8
        have rf8 := HM8.out.res.frozen 8
        have HF := hide (((((((((HM8.out.res.set_ 0 (.int .i64 7)).set_ 1 (.int .u32 0)).set_ 2 (.int .i64 0)).set_ 3 (.slice none 0 0)).set_ 4 (.string ⟨#[]⟩)).set_ 5 (.int .u32 0)).set_ 6 (.int .i64 0)).set_ 7 (.int .u32 0)).set_ 8 (.bool false))
        have HBF := hide (((((((((HM8.out.bel.setCell (p := ⟨w.heap.size, 0, none⟩) (Nat.le_refl _) (.int .i64 7)).setCell (p := ⟨w.heap.size, 1, none⟩) (Nat.le_refl _) (.int .u32 0)).setCell (p := ⟨w.heap.size, 2, none⟩) (Nat.le_refl _) (.int .i64 0)).setCell (p := ⟨w.heap.size, 3, none⟩) (Nat.le_refl _) (.slice none 0 0)).setCell (p := ⟨w.heap.size, 4, none⟩) (Nat.le_refl _) (.string ⟨#[]⟩)).setCell (p := ⟨w.heap.size, 5, none⟩) (Nat.le_refl _) (.int .u32 0)).setCell (p := ⟨w.heap.size, 6, none⟩) (Nat.le_refl _) (.int .i64 0)).setCell (p := ⟨w.heap.size, 7, none⟩) (Nat.le_refl _) (.int .u32 0)).setCell (p := ⟨w.heap.size, 8, none⟩) (Nat.le_refl _) (.bool false))
        have HOF := hide (own_set (g := w.heap.size) (i := 8) (own_set (g := w.heap.size) (i := 7) (own_set (g := w.heap.size) (i := 6) (own_set (g := w.heap.size) (i := 5) (own_set (g := w.heap.size) (i := 4) (own_set (g := w.heap.size) (i := 3) (own_set (g := w.heap.size) (i := 2) (own_set (g := w.heap.size) (i := 1) (own_set (g := w.heap.size) (i := 0) HM8.out.own (fun e => by have := own_low_block HM8.out.own _ e; omega) (.int .i64 7)) (fun e => by have := own_low_block HM8.out.own _ e; omega) (.int .u32 0)) (fun e => by have := own_low_block HM8.out.own _ e; omega) (.int .i64 0)) (fun e => by have := own_low_block HM8.out.own _ e; omega) (.slice none 0 0)) (fun e => by have := own_low_block HM8.out.own _ e; omega) (.string ⟨#[]⟩)) (fun e => by have := own_low_block HM8.out.own _ e; omega) (.int .u32 0)) (fun e => by have := own_low_block HM8.out.own _ e; omega) (.int .i64 0)) (fun e => by have := own_low_block HM8.out.own _ e; omega) (.int .u32 0)) (fun e => by have := own_low_block HM8.out.own _ e; omega) (.bool false))
        go_wp2
        have u0 := HF.out.cell 0
        have u1 := HF.out.cell 1
        have u2 := HF.out.cell 2
        have u3 := HF.out.cell 3
        have u4 := HF.out.cell 4
        have u5 := HF.out.cell 5
        have u6 := HF.out.cell 6
        have u7 := HF.out.cell 7
        have u8 := HF.out.cell 8
        have HEqn : Hid (moveP line = (⟨7, 0, 0, [], [], 0, 0, 0, false⟩, n7)) := hide (by unfold moveP; simp only [HMP.out, HKq.out, HMP1.out, HN7.out]; simp)
        refine bodyPost_ret (v := .tuple #[.agg #[.int .i64 7, .int .u32 0, .int .i64 0, .slice none 0 0, .string ⟨#[]⟩, .int .u32 0, .int .i64 0, .int .u32 0, .bool false], .int .i64 (n7 : Nat)]) (by simp [results, Tryz.results39, go_sem, u0, u1, u2, u3, u4, u5, u6, u7, u8]) rfl ⟨.slice none 0 0, by rw [HEqn.out]; rfl, by rw [HEqn.out]; exact own_baseLe HOF.out (Nat.le_succ _), HBF.out⟩
    have e7 : (k == 7) = false := by simpa using h7
    have e7n : (k != 7) = true := by simpa using h7
    have HPe1 : Hid (∀ x ∈ ws1, x.length ≤ 1000000) := hide (fun x hx => HPe.out x (by rw [← HWs1.out] at hx; exact List.mem_of_mem_tail hx))
    obtain ⟨a1, ha1⟩ : ∃ x, ws1.headD [] = x := ⟨_, rfl⟩
    obtain ⟨ws2, hws2⟩ : ∃ x, ws1.tail = x := ⟨_, rfl⟩
    obtain ⟨p1, hp1⟩ : ∃ x, addrP a1 = x := ⟨_, rfl⟩
    have HP1 := hide hp1
    have HCa := hide (radd_any w w1.heap.size ws1 _ HM0.out.rd HPe1.out HEn.out HM0.out.bel (Nat.le_of_lt hlt1))
    rw [ha1, hws2, hp1] at HCa
    clear hp1
    have HA1 := hide ha1
    have HWs2 := hide hws2
    clear ha1 hws2
    have HMP1 : Hid (nthW (pieces 32 line) 1 = a1) := hide (by rw [HWs.out, nthW_succ, HWs1.out, nthW_zero, HA1.out])
    have HPe2 : Hid (∀ x ∈ ws2, x.length ≤ 1000000) := hide (fun x hx => HPe1.out x (by rw [← HWs2.out] at hx; exact List.mem_of_mem_tail hx))
    have c0 : (w3.alloc (.cells #[.int .i64 k, .int .u32 0, .int .i64 0, .slice none 0 0, .string ⟨#[]⟩, .int .u32 0, .int .i64 0, .int .u32 0, .bool false] 32)).cell? ⟨w3.heap.size, 0, none⟩ = some (.int .i64 k) := HM0.out.mb.cell 0
    go_wp2_with fail
    refine HCa.out.mono ?_
    rintro e w5 ⟨rfl, hg5, hr5⟩
    clear c0
    have HM1 := hide (HM0.out.grown_ hg5 hr5)
    have f1 := HM1.out.mb.frozen 1
    have d1 : w5.cell? ⟨w3.heap.size, 1, none⟩ = some (.int .u32 0) := HM1.out.mb.cell 1
    have HM2 : Hid (MvSt w (w5.setCell ⟨w3.heap.size, 1, none⟩ (.int .u32 (p1 : Int))) w1.heap.size w3.heap.size ws2 ⟨k, p1, 0, [], [], 0, 0, 0, false⟩ (.slice none 0 0)) := hide (HM1.out.set_ 1 _ rfl HM1.out.own)
    have c0 : (w5.setCell ⟨w3.heap.size, 1, none⟩ (.int .u32 (p1 : Int))).cell? ⟨w3.heap.size, 0, none⟩ = some (.int .i64 k) := HM2.out.mb.cell 0
    clear hg5 hr5
    by_cases h5 : k = 5
    · subst h5
      obtain ⟨a2, ha2⟩ : ∃ x, ws2.headD [] = x := ⟨_, rfl⟩
      obtain ⟨ws3, hws3⟩ : ∃ x, ws2.tail = x := ⟨_, rfl⟩
      have HCw2 := hide (sword_any w1.heap.size ws2 _ HM2.out.rd)
      rw [ha2, hws3] at HCw2
      have HA2 := hide ha2
      have HWs3 := hide hws3
      clear ha2 hws3
      have HMP2 : Hid (nthW (pieces 32 line) 2 = a2) := hide (by rw [HWs.out, nthW_succ, HWs1.out, nthW_succ, HWs2.out, nthW_zero, HA2.out])
      have hal2 : a2.length ≤ 1000000 := by rw [← HA2.out]; exact headD_len HPe2.out
      go_wp2_with fail
      refine HCw2.out.mono ?_
      rintro e w6 ⟨rfl, hg6, hr6⟩
      clear c0 f1 d1
      have HM3 := hide (HM2.out.grown_ hg6 hr6)
      have HUn := hide (unhex_any a2 hal2 w6)
      clear hg6 hr6 hal2
      go_wp2_with fail
      refine HUn.out.mono ?_
      rintro e w7 ⟨v7, rfl, ho7, hb7⟩
      obtain ⟨bb, hbb⟩ : ∃ x, unT a2 = x := ⟨_, rfl⟩
      rw [hbb] at ho7
      obtain ⟨n7, hn7⟩ : ∃ n, bb.length = n := ⟨_, rfl⟩
      rw [hn7] at ho7
      obtain ⟨A7, cp7, rfl⟩ := own_slice ho7
      have HBb := hide hbb
      have HN7 := hide hn7
      have HO7 : Hid (w7.ownsRow (w.heap.size + 1) 5 1 (.slice A7 n7 cp7) n7 (byB bb)) := hide (own_baseLe ho7 (by have := HM3.out.mb.lt; have := HM3.out.lt; omega))
      have HM4 := hide (HM3.out.below hb7)
      clear ho7 hb7 hbb hn7
      have f3 := HM4.out.mb.frozen 3
      have d3 : w7.cell? ⟨w3.heap.size, 3, none⟩ = some (.slice none 0 0) := HM4.out.mb.cell 3
      have HM5 : Hid (MvSt w (w7.setCell ⟨w3.heap.size, 3, none⟩ (.slice A7 n7 cp7)) w1.heap.size w3.heap.size ws3 ⟨5, p1, 0, bb, [], 0, 0, 0, false⟩ (.slice A7 n7 cp7)) := hide (HM4.out.set_ 3 _ rfl (by show w7.ownsRow _ _ _ _ bb.length _; rw [HN7.out]; exact HO7.out))
      have c0 : (w7.setCell ⟨w3.heap.size, 3, none⟩ (.slice A7 n7 cp7)).cell? ⟨w3.heap.size, 0, none⟩ = some (.int .i64 5) := HM5.out.mb.cell 0
      have c1 : (w7.setCell ⟨w3.heap.size, 3, none⟩ (.slice A7 n7 cp7)).cell? ⟨w3.heap.size, 1, none⟩ = some (.int .u32 (p1 : Int)) := HM5.out.mb.cell 1
      have c2 : (w7.setCell ⟨w3.heap.size, 3, none⟩ (.slice A7 n7 cp7)).cell? ⟨w3.heap.size, 2, none⟩ = some (.int .i64 0) := HM5.out.mb.cell 2
      have c3 : (w7.setCell ⟨w3.heap.size, 3, none⟩ (.slice A7 n7 cp7)).cell? ⟨w3.heap.size, 3, none⟩ = some (.slice A7 n7 cp7) := HM5.out.mb.cell 3
      have c4 : (w7.setCell ⟨w3.heap.size, 3, none⟩ (.slice A7 n7 cp7)).cell? ⟨w3.heap.size, 4, none⟩ = some (.string ⟨#[]⟩) := HM5.out.mb.cell 4
      have c5 : (w7.setCell ⟨w3.heap.size, 3, none⟩ (.slice A7 n7 cp7)).cell? ⟨w3.heap.size, 5, none⟩ = some (.int .u32 0) := HM5.out.mb.cell 5
      have c6 : (w7.setCell ⟨w3.heap.size, 3, none⟩ (.slice A7 n7 cp7)).cell? ⟨w3.heap.size, 6, none⟩ = some (.int .i64 0) := HM5.out.mb.cell 6
      have c7 : (w7.setCell ⟨w3.heap.size, 3, none⟩ (.slice A7 n7 cp7)).cell? ⟨w3.heap.size, 7, none⟩ = some (.int .u32 0) := HM5.out.mb.cell 7
      have c8 : (w7.setCell ⟨w3.heap.size, 3, none⟩ (.slice A7 n7 cp7)).cell? ⟨w3.heap.size, 8, none⟩ = some (.bool false) := HM5.out.mb.cell 8
      have r0 := HM5.out.res.cell 0
      have rf0 := HM5.out.res.frozen 0
      have r1 := HM5.out.res.cell 1
      have rf1 := HM5.out.res.frozen 1
      have r2 := HM5.out.res.cell 2
      have rf2 := HM5.out.res.frozen 2
      have r3 := HM5.out.res.cell 3
      have rf3 := HM5.out.res.frozen 3
      have r4 := HM5.out.res.cell 4
      have rf4 := HM5.out.res.frozen 4
      have r5 := HM5.out.res.cell 5
      have rf5 := HM5.out.res.frozen 5
      have r6 := HM5.out.res.cell 6
      have rf6 := HM5.out.res.frozen 6
      have r7 := HM5.out.res.cell 7
      have rf7 := HM5.out.res.frozen 7
      have r8 := HM5.out.res.cell 8
      have rf8 := HM5.out.res.frozen 8
      have HF := hide (((((((((HM5.out.res.set_ 0 (.int .i64 5)).set_ 1 (.int .u32 (p1 : Int))).set_ 2 (.int .i64 0)).set_ 3 (.slice A7 n7 cp7)).set_ 4 (.string ⟨#[]⟩)).set_ 5 (.int .u32 0)).set_ 6 (.int .i64 0)).set_ 7 (.int .u32 0)).set_ 8 (.bool false))
      have HBF := hide (((((((((HM5.out.bel.setCell (p := ⟨w.heap.size, 0, none⟩) (Nat.le_refl _) (.int .i64 5)).setCell (p := ⟨w.heap.size, 1, none⟩) (Nat.le_refl _) (.int .u32 (p1 : Int))).setCell (p := ⟨w.heap.size, 2, none⟩) (Nat.le_refl _) (.int .i64 0)).setCell (p := ⟨w.heap.size, 3, none⟩) (Nat.le_refl _) (.slice A7 n7 cp7)).setCell (p := ⟨w.heap.size, 4, none⟩) (Nat.le_refl _) (.string ⟨#[]⟩)).setCell (p := ⟨w.heap.size, 5, none⟩) (Nat.le_refl _) (.int .u32 0)).setCell (p := ⟨w.heap.size, 6, none⟩) (Nat.le_refl _) (.int .i64 0)).setCell (p := ⟨w.heap.size, 7, none⟩) (Nat.le_refl _) (.int .u32 0)).setCell (p := ⟨w.heap.size, 8, none⟩) (Nat.le_refl _) (.bool false))
      have HOF := hide (own_set (g := w.heap.size) (i := 8) (own_set (g := w.heap.size) (i := 7) (own_set (g := w.heap.size) (i := 6) (own_set (g := w.heap.size) (i := 5) (own_set (g := w.heap.size) (i := 4) (own_set (g := w.heap.size) (i := 3) (own_set (g := w.heap.size) (i := 2) (own_set (g := w.heap.size) (i := 1) (own_set (g := w.heap.size) (i := 0) HM5.out.own (fun e => by have := own_low_block HM5.out.own _ e; omega) (.int .i64 5)) (fun e => by have := own_low_block HM5.out.own _ e; omega) (.int .u32 (p1 : Int))) (fun e => by have := own_low_block HM5.out.own _ e; omega) (.int .i64 0)) (fun e => by have := own_low_block HM5.out.own _ e; omega) (.slice A7 n7 cp7)) (fun e => by have := own_low_block HM5.out.own _ e; omega) (.string ⟨#[]⟩)) (fun e => by have := own_low_block HM5.out.own _ e; omega) (.int .u32 0)) (fun e => by have := own_low_block HM5.out.own _ e; omega) (.int .i64 0)) (fun e => by have := own_low_block HM5.out.own _ e; omega) (.int .u32 0)) (fun e => by have := own_low_block HM5.out.own _ e; omega) (.bool false))
      go_wp2
      have u0 := HF.out.cell 0
      have u1 := HF.out.cell 1
      have u2 := HF.out.cell 2
      have u3 := HF.out.cell 3
      have u4 := HF.out.cell 4
      have u5 := HF.out.cell 5
      have u6 := HF.out.cell 6
      have u7 := HF.out.cell 7
      have u8 := HF.out.cell 8
      have HEqn : Hid (moveP line = (⟨5, p1, 0, bb, [], 0, 0, 0, false⟩, 0)) := hide (by unfold moveP; simp only [HMP.out, HKq.out, HMP1.out, HP1.out, HMP2.out, HBb.out]; simp)
      refine bodyPost_ret (v := .tuple #[.agg #[.int .i64 5, .int .u32 (p1 : Int), .int .i64 0, .slice A7 n7 cp7, .string ⟨#[]⟩, .int .u32 0, .int .i64 0, .int .u32 0, .bool false], .int .i64 (0 : Nat)]) (by simp [results, Tryz.results39, go_sem, u0, u1, u2, u3, u4, u5, u6, u7, u8]) rfl ⟨.slice A7 n7 cp7, by rw [HEqn.out]; rfl, by rw [HEqn.out]; exact own_baseLe HOF.out (Nat.le_succ _), HBF.out⟩
    · have e5 : (k == 5) = false := by simpa using h5
      by_cases h8 : k = 8
      · subst h8
        obtain ⟨a2, ha2⟩ : ∃ x, ws2.headD [] = x := ⟨_, rfl⟩
        obtain ⟨ws3, hws3⟩ : ∃ x, ws2.tail = x := ⟨_, rfl⟩
        obtain ⟨n8, hn8⟩ : ∃ x : Nat, numP a2 1048576 = x := ⟨_, rfl⟩
        have HCn := hide (rnum_any w w1.heap.size ws2 1048576 _ HM2.out.rd HPe2.out HEn.out HM2.out.bel (Nat.le_of_lt hlt1))
        rw [ha2, hws3, hn8] at HCn
        have HN8 := hide hn8
        clear hn8
        have HA2 := hide ha2
        have HWs3 := hide hws3
        clear ha2 hws3
        have HMP2 : Hid (nthW (pieces 32 line) 2 = a2) := hide (by rw [HWs.out, nthW_succ, HWs1.out, nthW_succ, HWs2.out, nthW_zero, HA2.out])
        go_wp2_with fail
        refine HCn.out.mono ?_
        rintro e w6 ⟨rfl, hg6, hr6⟩
        clear c0 f1 d1
        have HM3 := hide (HM2.out.grown_ hg6 hr6)
        clear hg6 hr6
        have f2 := HM3.out.mb.frozen 2
        have d2 : w6.cell? ⟨w3.heap.size, 2, none⟩ = some (.int .i64 0) := HM3.out.mb.cell 2
        have HM5 : Hid (MvSt w (w6.setCell ⟨w3.heap.size, 2, none⟩ (.int .i64 (n8 : Int))) w1.heap.size w3.heap.size ws3 ⟨8, p1, (n8 : Int), [], [], 0, 0, 0, false⟩ (.slice none 0 0)) := hide (HM3.out.set_ 2 _ rfl HM3.out.own)
        have c0 : (w6.setCell ⟨w3.heap.size, 2, none⟩ (.int .i64 (n8 : Int))).cell? ⟨w3.heap.size, 0, none⟩ = some (.int .i64 8) := HM5.out.mb.cell 0
        have c1 : (w6.setCell ⟨w3.heap.size, 2, none⟩ (.int .i64 (n8 : Int))).cell? ⟨w3.heap.size, 1, none⟩ = some (.int .u32 (p1 : Int)) := HM5.out.mb.cell 1
        have c2 : (w6.setCell ⟨w3.heap.size, 2, none⟩ (.int .i64 (n8 : Int))).cell? ⟨w3.heap.size, 2, none⟩ = some (.int .i64 (n8 : Int)) := HM5.out.mb.cell 2
        have c3 : (w6.setCell ⟨w3.heap.size, 2, none⟩ (.int .i64 (n8 : Int))).cell? ⟨w3.heap.size, 3, none⟩ = some (.slice none 0 0) := HM5.out.mb.cell 3
        have c4 : (w6.setCell ⟨w3.heap.size, 2, none⟩ (.int .i64 (n8 : Int))).cell? ⟨w3.heap.size, 4, none⟩ = some (.string ⟨#[]⟩) := HM5.out.mb.cell 4
        have c5 : (w6.setCell ⟨w3.heap.size, 2, none⟩ (.int .i64 (n8 : Int))).cell? ⟨w3.heap.size, 5, none⟩ = some (.int .u32 0) := HM5.out.mb.cell 5
        have c6 : (w6.setCell ⟨w3.heap.size, 2, none⟩ (.int .i64 (n8 : Int))).cell? ⟨w3.heap.size, 6, none⟩ = some (.int .i64 0) := HM5.out.mb.cell 6
        have c7 : (w6.setCell ⟨w3.heap.size, 2, none⟩ (.int .i64 (n8 : Int))).cell? ⟨w3.heap.size, 7, none⟩ = some (.int .u32 0) := HM5.out.mb.cell 7
        have c8 : (w6.setCell ⟨w3.heap.size, 2, none⟩ (.int .i64 (n8 : Int))).cell? ⟨w3.heap.size, 8, none⟩ = some (.bool false) := HM5.out.mb.cell 8
        have r0 := HM5.out.res.cell 0
        have rf0 := HM5.out.res.frozen 0
        have r1 := HM5.out.res.cell 1
        have rf1 := HM5.out.res.frozen 1
        have r2 := HM5.out.res.cell 2
        have rf2 := HM5.out.res.frozen 2
        have r3 := HM5.out.res.cell 3
        have rf3 := HM5.out.res.frozen 3
        have r4 := HM5.out.res.cell 4
        have rf4 := HM5.out.res.frozen 4
        have r5 := HM5.out.res.cell 5
        have rf5 := HM5.out.res.frozen 5
        have r6 := HM5.out.res.cell 6
        have rf6 := HM5.out.res.frozen 6
        have r7 := HM5.out.res.cell 7
        have rf7 := HM5.out.res.frozen 7
        have r8 := HM5.out.res.cell 8
        have rf8 := HM5.out.res.frozen 8
        have HF := hide (((((((((HM5.out.res.set_ 0 (.int .i64 8)).set_ 1 (.int .u32 (p1 : Int))).set_ 2 (.int .i64 (n8 : Int))).set_ 3 (.slice none 0 0)).set_ 4 (.string ⟨#[]⟩)).set_ 5 (.int .u32 0)).set_ 6 (.int .i64 0)).set_ 7 (.int .u32 0)).set_ 8 (.bool false))
        have HBF := hide (((((((((HM5.out.bel.setCell (p := ⟨w.heap.size, 0, none⟩) (Nat.le_refl _) (.int .i64 8)).setCell (p := ⟨w.heap.size, 1, none⟩) (Nat.le_refl _) (.int .u32 (p1 : Int))).setCell (p := ⟨w.heap.size, 2, none⟩) (Nat.le_refl _) (.int .i64 (n8 : Int))).setCell (p := ⟨w.heap.size, 3, none⟩) (Nat.le_refl _) (.slice none 0 0)).setCell (p := ⟨w.heap.size, 4, none⟩) (Nat.le_refl _) (.string ⟨#[]⟩)).setCell (p := ⟨w.heap.size, 5, none⟩) (Nat.le_refl _) (.int .u32 0)).setCell (p := ⟨w.heap.size, 6, none⟩) (Nat.le_refl _) (.int .i64 0)).setCell (p := ⟨w.heap.size, 7, none⟩) (Nat.le_refl _) (.int .u32 0)).setCell (p := ⟨w.heap.size, 8, none⟩) (Nat.le_refl _) (.bool false))
        have HOF := hide (own_set (g := w.heap.size) (i := 8) (own_set (g := w.heap.size) (i := 7) (own_set (g := w.heap.size) (i := 6) (own_set (g := w.heap.size) (i := 5) (own_set (g := w.heap.size) (i := 4) (own_set (g := w.heap.size) (i := 3) (own_set (g := w.heap.size) (i := 2) (own_set (g := w.heap.size) (i := 1) (own_set (g := w.heap.size) (i := 0) HM5.out.own (fun e => by have := own_low_block HM5.out.own _ e; omega) (.int .i64 8)) (fun e => by have := own_low_block HM5.out.own _ e; omega) (.int .u32 (p1 : Int))) (fun e => by have := own_low_block HM5.out.own _ e; omega) (.int .i64 (n8 : Int))) (fun e => by have := own_low_block HM5.out.own _ e; omega) (.slice none 0 0)) (fun e => by have := own_low_block HM5.out.own _ e; omega) (.string ⟨#[]⟩)) (fun e => by have := own_low_block HM5.out.own _ e; omega) (.int .u32 0)) (fun e => by have := own_low_block HM5.out.own _ e; omega) (.int .i64 0)) (fun e => by have := own_low_block HM5.out.own _ e; omega) (.int .u32 0)) (fun e => by have := own_low_block HM5.out.own _ e; omega) (.bool false))
        go_wp2
        have u0 := HF.out.cell 0
        have u1 := HF.out.cell 1
        have u2 := HF.out.cell 2
        have u3 := HF.out.cell 3
        have u4 := HF.out.cell 4
        have u5 := HF.out.cell 5
        have u6 := HF.out.cell 6
        have u7 := HF.out.cell 7
        have u8 := HF.out.cell 8
        have HEqn : Hid (moveP line = (⟨8, p1, (n8 : Int), [], [], 0, 0, 0, false⟩, 0)) := hide (by unfold moveP; simp only [HMP.out, HKq.out, HMP1.out, HP1.out, HMP2.out, HN8.out]; simp)
        refine bodyPost_ret (v := .tuple #[.agg #[.int .i64 8, .int .u32 (p1 : Int), .int .i64 (n8 : Int), .slice none 0 0, .string ⟨#[]⟩, .int .u32 0, .int .i64 0, .int .u32 0, .bool false], .int .i64 (0 : Nat)]) (by simp [results, Tryz.results39, go_sem, u0, u1, u2, u3, u4, u5, u6, u7, u8]) rfl ⟨.slice none 0 0, by rw [HEqn.out]; rfl, by rw [HEqn.out]; exact own_baseLe HOF.out (Nat.le_succ _), HBF.out⟩
      · have e8 : (k == 8) = false := by simpa using h8
        by_cases h9 : k = 9
        · subst h9
          obtain ⟨a2, ha2⟩ : ∃ x, ws2.headD [] = x := ⟨_, rfl⟩
          obtain ⟨ws3, hws3⟩ : ∃ x, ws2.tail = x := ⟨_, rfl⟩
          obtain ⟨n9, hn9⟩ : ∃ x : Nat, numP a2 4294967295 = x := ⟨_, rfl⟩
          have hle9 : (n9 : Int) ≤ 4294967295 := by rw [← hn9]; exact numP_le _ (by decide)
          have hmod9 : (n9 : Int) % 4294967296 = (n9 : Int) := by omega
          have HCn := hide (rnum_any w w1.heap.size ws2 4294967295 _ HM2.out.rd HPe2.out HEn.out HM2.out.bel (Nat.le_of_lt hlt1))
          rw [ha2, hws3, hn9] at HCn
          have HN9 := hide hn9
          clear hn9
          have HA2 := hide ha2
          have HWs3 := hide hws3
          clear ha2 hws3
          have HMP2 : Hid (nthW (pieces 32 line) 2 = a2) := hide (by rw [HWs.out, nthW_succ, HWs1.out, nthW_succ, HWs2.out, nthW_zero, HA2.out])
          have HPe3 : Hid (∀ x ∈ ws3, x.length ≤ 1000000) := hide (fun x hx => HPe2.out x (by rw [← HWs3.out] at hx; exact List.mem_of_mem_tail hx))
          go_wp2_with fail
          refine HCn.out.mono ?_
          rintro e w6 ⟨rfl, hg6, hr6⟩
          clear c0 f1 d1
          have HM3 := hide (HM2.out.grown_ hg6 hr6)
          clear hg6 hr6
          obtain ⟨a3, ha3⟩ : ∃ x, ws3.headD [] = x := ⟨_, rfl⟩
          obtain ⟨ws4, hws4⟩ : ∃ x, ws3.tail = x := ⟨_, rfl⟩
          obtain ⟨m9, hm9⟩ : ∃ x : Nat, numP a3 65535 = x := ⟨_, rfl⟩
          have HCm := hide (rnum_any w w1.heap.size ws3 65535 _ HM3.out.rd HPe3.out HEn.out HM3.out.bel (Nat.le_of_lt hlt1))
          rw [ha3, hws4, hm9] at HCm
          have HN93 := hide hm9
          clear hm9
          have HA3 := hide ha3
          have HWs4 := hide hws4
          clear ha3 hws4
          have HMP3 : Hid (nthW (pieces 32 line) 3 = a3) := hide (by rw [HWs.out, nthW_succ, HWs1.out, nthW_succ, HWs2.out, nthW_succ, HWs3.out, nthW_zero, HA3.out])
          have HPe4 : Hid (∀ x ∈ ws4, x.length ≤ 1000000) := hide (fun x hx => HPe3.out x (by rw [← HWs4.out] at hx; exact List.mem_of_mem_tail hx))
          go_wp2_with fail
          refine HCm.out.mono ?_
          rintro e w7 ⟨rfl, hg7, hr7⟩
          have HM4 := hide (HM3.out.grown_ hg7 hr7)
          clear hg7 hr7
          have f5 := HM4.out.mb.frozen 5
          have d5 : w7.cell? ⟨w3.heap.size, 5, none⟩ = some (.int .u32 0) := HM4.out.mb.cell 5
          have f6 := HM4.out.mb.frozen 6
          have d6 : w7.cell? ⟨w3.heap.size, 6, none⟩ = some (.int .i64 0) := HM4.out.mb.cell 6
          have f7 := HM4.out.mb.frozen 7
          have d7 : w7.cell? ⟨w3.heap.size, 7, none⟩ = some (.int .u32 0) := HM4.out.mb.cell 7
          have f8 := HM4.out.mb.frozen 8
          have d8 : w7.cell? ⟨w3.heap.size, 8, none⟩ = some (.bool false) := HM4.out.mb.cell 8
          have HMa : Hid (MvSt w _ w1.heap.size w3.heap.size ws4 ⟨9, p1, 0, [], [], n9, 0, 0, false⟩ (.slice none 0 0)) := hide (HM4.out.set_ 5 (.int .u32 (n9 : Int)) rfl HM4.out.own)
          have HMb : Hid (MvSt w _ w1.heap.size w3.heap.size ws4 ⟨9, p1, 0, [], [], n9, (m9 : Int), 0, false⟩ (.slice none 0 0)) := hide (HMa.out.set_ 6 (.int .i64 (m9 : Int)) rfl HMa.out.own)
          have HMc : Hid (MvSt w _ w1.heap.size w3.heap.size ws4 ⟨9, p1, 0, [], [], n9, (m9 : Int), 0, false⟩ (.slice none 0 0)) := hide (HMb.out.set_ 7 (.int .u32 0) rfl HMb.out.own)
          have HM5 : Hid (MvSt w ((((w7.setCell ⟨w3.heap.size, 5, none⟩ (.int .u32 (n9 : Int))).setCell ⟨w3.heap.size, 6, none⟩ (.int .i64 (m9 : Int))).setCell ⟨w3.heap.size, 7, none⟩ (.int .u32 0)).setCell ⟨w3.heap.size, 8, none⟩ (.bool true)) w1.heap.size w3.heap.size ws4 ⟨9, p1, 0, [], [], n9, (m9 : Int), 0, true⟩ (.slice none 0 0)) := hide (HMc.out.set_ 8 (.bool true) rfl HMc.out.own)
          obtain ⟨a4, ha4⟩ : ∃ x, ws4.headD [] = x := ⟨_, rfl⟩
          obtain ⟨ws5, hws5⟩ : ∃ x, ws4.tail = x := ⟨_, rfl⟩
          obtain ⟨p4, hp4⟩ : ∃ x, addrP a4 = x := ⟨_, rfl⟩
          have HCa4 := hide (radd_any w w1.heap.size ws4 _ HM5.out.rd HPe4.out HEn.out HM5.out.bel (Nat.le_of_lt hlt1))
          rw [ha4, hws5, hp4] at HCa4
          have HP4 := hide hp4
          clear hp4
          have HA4 := hide ha4
          have HWs5 := hide hws5
          clear ha4 hws5
          have HMP4 : Hid (nthW (pieces 32 line) 4 = a4) := hide (by rw [HWs.out, nthW_succ, HWs1.out, nthW_succ, HWs2.out, nthW_succ, HWs3.out, nthW_succ, HWs4.out, nthW_zero, HA4.out])
          go_wp2_with fail
          refine HCa4.out.mono ?_
          rintro e w8 ⟨rfl, hg8, hr8⟩
          clear f5 d5 f6 d6 f7 d7 f8 d8
          have HM6 := hide (HM5.out.grown_ hg8 hr8)
          clear hg8 hr8
          have f7 := HM6.out.mb.frozen 7
          have d7 : w8.cell? ⟨w3.heap.size, 7, none⟩ = some (.int .u32 0) := HM6.out.mb.cell 7
          have HM7 : Hid (MvSt w (w8.setCell ⟨w3.heap.size, 7, none⟩ (.int .u32 (p4 : Int))) w1.heap.size w3.heap.size ws5 ⟨9, p1, 0, [], [], n9, (m9 : Int), p4, true⟩ (.slice none 0 0)) := hide (HM6.out.set_ 7 _ rfl HM6.out.own)
          have c0 : (w8.setCell ⟨w3.heap.size, 7, none⟩ (.int .u32 (p4 : Int))).cell? ⟨w3.heap.size, 0, none⟩ = some (.int .i64 9) := HM7.out.mb.cell 0
          have c1 : (w8.setCell ⟨w3.heap.size, 7, none⟩ (.int .u32 (p4 : Int))).cell? ⟨w3.heap.size, 1, none⟩ = some (.int .u32 (p1 : Int)) := HM7.out.mb.cell 1
          have c2 : (w8.setCell ⟨w3.heap.size, 7, none⟩ (.int .u32 (p4 : Int))).cell? ⟨w3.heap.size, 2, none⟩ = some (.int .i64 0) := HM7.out.mb.cell 2
          have c3 : (w8.setCell ⟨w3.heap.size, 7, none⟩ (.int .u32 (p4 : Int))).cell? ⟨w3.heap.size, 3, none⟩ = some (.slice none 0 0) := HM7.out.mb.cell 3
          have c4 : (w8.setCell ⟨w3.heap.size, 7, none⟩ (.int .u32 (p4 : Int))).cell? ⟨w3.heap.size, 4, none⟩ = some (.string ⟨#[]⟩) := HM7.out.mb.cell 4
          have c5 : (w8.setCell ⟨w3.heap.size, 7, none⟩ (.int .u32 (p4 : Int))).cell? ⟨w3.heap.size, 5, none⟩ = some (.int .u32 (n9 : Int)) := HM7.out.mb.cell 5
          have c6 : (w8.setCell ⟨w3.heap.size, 7, none⟩ (.int .u32 (p4 : Int))).cell? ⟨w3.heap.size, 6, none⟩ = some (.int .i64 (m9 : Int)) := HM7.out.mb.cell 6
          have c7 : (w8.setCell ⟨w3.heap.size, 7, none⟩ (.int .u32 (p4 : Int))).cell? ⟨w3.heap.size, 7, none⟩ = some (.int .u32 (p4 : Int)) := HM7.out.mb.cell 7
          have c8 : (w8.setCell ⟨w3.heap.size, 7, none⟩ (.int .u32 (p4 : Int))).cell? ⟨w3.heap.size, 8, none⟩ = some (.bool true) := HM7.out.mb.cell 8
          have r0 := HM7.out.res.cell 0
          have rf0 := HM7.out.res.frozen 0
          have r1 := HM7.out.res.cell 1
          have rf1 := HM7.out.res.frozen 1
          have r2 := HM7.out.res.cell 2
          have rf2 := HM7.out.res.frozen 2
          have r3 := HM7.out.res.cell 3
          have rf3 := HM7.out.res.frozen 3
          have r4 := HM7.out.res.cell 4
          have rf4 := HM7.out.res.frozen 4
          have r5 := HM7.out.res.cell 5
          have rf5 := HM7.out.res.frozen 5
          have r6 := HM7.out.res.cell 6
          have rf6 := HM7.out.res.frozen 6
          have r7 := HM7.out.res.cell 7
          have rf7 := HM7.out.res.frozen 7
          have r8 := HM7.out.res.cell 8
          have rf8 := HM7.out.res.frozen 8
          have HF := hide (((((((((HM7.out.res.set_ 0 (.int .i64 9)).set_ 1 (.int .u32 (p1 : Int))).set_ 2 (.int .i64 0)).set_ 3 (.slice none 0 0)).set_ 4 (.string ⟨#[]⟩)).set_ 5 (.int .u32 (n9 : Int))).set_ 6 (.int .i64 (m9 : Int))).set_ 7 (.int .u32 (p4 : Int))).set_ 8 (.bool true))
          have HBF := hide (((((((((HM7.out.bel.setCell (p := ⟨w.heap.size, 0, none⟩) (Nat.le_refl _) (.int .i64 9)).setCell (p := ⟨w.heap.size, 1, none⟩) (Nat.le_refl _) (.int .u32 (p1 : Int))).setCell (p := ⟨w.heap.size, 2, none⟩) (Nat.le_refl _) (.int .i64 0)).setCell (p := ⟨w.heap.size, 3, none⟩) (Nat.le_refl _) (.slice none 0 0)).setCell (p := ⟨w.heap.size, 4, none⟩) (Nat.le_refl _) (.string ⟨#[]⟩)).setCell (p := ⟨w.heap.size, 5, none⟩) (Nat.le_refl _) (.int .u32 (n9 : Int))).setCell (p := ⟨w.heap.size, 6, none⟩) (Nat.le_refl _) (.int .i64 (m9 : Int))).setCell (p := ⟨w.heap.size, 7, none⟩) (Nat.le_refl _) (.int .u32 (p4 : Int))).setCell (p := ⟨w.heap.size, 8, none⟩) (Nat.le_refl _) (.bool true))
          have HOF := hide (own_set (g := w.heap.size) (i := 8) (own_set (g := w.heap.size) (i := 7) (own_set (g := w.heap.size) (i := 6) (own_set (g := w.heap.size) (i := 5) (own_set (g := w.heap.size) (i := 4) (own_set (g := w.heap.size) (i := 3) (own_set (g := w.heap.size) (i := 2) (own_set (g := w.heap.size) (i := 1) (own_set (g := w.heap.size) (i := 0) HM7.out.own (fun e => by have := own_low_block HM7.out.own _ e; omega) (.int .i64 9)) (fun e => by have := own_low_block HM7.out.own _ e; omega) (.int .u32 (p1 : Int))) (fun e => by have := own_low_block HM7.out.own _ e; omega) (.int .i64 0)) (fun e => by have := own_low_block HM7.out.own _ e; omega) (.slice none 0 0)) (fun e => by have := own_low_block HM7.out.own _ e; omega) (.string ⟨#[]⟩)) (fun e => by have := own_low_block HM7.out.own _ e; omega) (.int .u32 (n9 : Int))) (fun e => by have := own_low_block HM7.out.own _ e; omega) (.int .i64 (m9 : Int))) (fun e => by have := own_low_block HM7.out.own _ e; omega) (.int .u32 (p4 : Int))) (fun e => by have := own_low_block HM7.out.own _ e; omega) (.bool true))
          go_wp2
          have u0 := HF.out.cell 0
          have u1 := HF.out.cell 1
          have u2 := HF.out.cell 2
          have u3 := HF.out.cell 3
          have u4 := HF.out.cell 4
          have u5 := HF.out.cell 5
          have u6 := HF.out.cell 6
          have u7 := HF.out.cell 7
          have u8 := HF.out.cell 8
          have HEqn : Hid (moveP line = (⟨9, p1, 0, [], [], n9, (m9 : Int), p4, true⟩, 0)) := hide (by unfold moveP; simp only [HMP.out, HKq.out, HMP1.out, HP1.out, HMP2.out, HN9.out, HMP3.out, HN93.out, HMP4.out, HP4.out]; simp)
          refine bodyPost_ret (v := .tuple #[.agg #[.int .i64 9, .int .u32 (p1 : Int), .int .i64 0, .slice none 0 0, .string ⟨#[]⟩, .int .u32 (n9 : Int), .int .i64 (m9 : Int), .int .u32 (p4 : Int), .bool true], .int .i64 (0 : Nat)]) (by simp [results, Tryz.results39, go_sem, u0, u1, u2, u3, u4, u5, u6, u7, u8]) rfl ⟨.slice none 0 0, by rw [HEqn.out]; rfl, by rw [HEqn.out]; exact own_baseLe HOF.out (Nat.le_succ _), HBF.out⟩
        · have e9 : (k == 9) = false := by simpa using h9
          have c0 : (w5.setCell ⟨w3.heap.size, 1, none⟩ (.int .u32 (p1 : Int))).cell? ⟨w3.heap.size, 0, none⟩ = some (.int .i64 k) := HM2.out.mb.cell 0
          have c1 : (w5.setCell ⟨w3.heap.size, 1, none⟩ (.int .u32 (p1 : Int))).cell? ⟨w3.heap.size, 1, none⟩ = some (.int .u32 (p1 : Int)) := HM2.out.mb.cell 1
          have c2 : (w5.setCell ⟨w3.heap.size, 1, none⟩ (.int .u32 (p1 : Int))).cell? ⟨w3.heap.size, 2, none⟩ = some (.int .i64 0) := HM2.out.mb.cell 2
          have c3 : (w5.setCell ⟨w3.heap.size, 1, none⟩ (.int .u32 (p1 : Int))).cell? ⟨w3.heap.size, 3, none⟩ = some (.slice none 0 0) := HM2.out.mb.cell 3
          have c4 : (w5.setCell ⟨w3.heap.size, 1, none⟩ (.int .u32 (p1 : Int))).cell? ⟨w3.heap.size, 4, none⟩ = some (.string ⟨#[]⟩) := HM2.out.mb.cell 4
          have c5 : (w5.setCell ⟨w3.heap.size, 1, none⟩ (.int .u32 (p1 : Int))).cell? ⟨w3.heap.size, 5, none⟩ = some (.int .u32 0) := HM2.out.mb.cell 5
          have c6 : (w5.setCell ⟨w3.heap.size, 1, none⟩ (.int .u32 (p1 : Int))).cell? ⟨w3.heap.size, 6, none⟩ = some (.int .i64 0) := HM2.out.mb.cell 6
          have c7 : (w5.setCell ⟨w3.heap.size, 1, none⟩ (.int .u32 (p1 : Int))).cell? ⟨w3.heap.size, 7, none⟩ = some (.int .u32 0) := HM2.out.mb.cell 7
          have c8 : (w5.setCell ⟨w3.heap.size, 1, none⟩ (.int .u32 (p1 : Int))).cell? ⟨w3.heap.size, 8, none⟩ = some (.bool false) := HM2.out.mb.cell 8
          have r0 := HM2.out.res.cell 0
          have rf0 := HM2.out.res.frozen 0
          have r1 := HM2.out.res.cell 1
          have rf1 := HM2.out.res.frozen 1
          have r2 := HM2.out.res.cell 2
          have rf2 := HM2.out.res.frozen 2
          have r3 := HM2.out.res.cell 3
          have rf3 := HM2.out.res.frozen 3
          have r4 := HM2.out.res.cell 4
          have rf4 := HM2.out.res.frozen 4
          have r5 := HM2.out.res.cell 5
          have rf5 := HM2.out.res.frozen 5
          have r6 := HM2.out.res.cell 6
          have rf6 := HM2.out.res.frozen 6
          have r7 := HM2.out.res.cell 7
          have rf7 := HM2.out.res.frozen 7
          have r8 := HM2.out.res.cell 8
          have rf8 := HM2.out.res.frozen 8
          have HF := hide (((((((((HM2.out.res.set_ 0 (.int .i64 k)).set_ 1 (.int .u32 (p1 : Int))).set_ 2 (.int .i64 0)).set_ 3 (.slice none 0 0)).set_ 4 (.string ⟨#[]⟩)).set_ 5 (.int .u32 0)).set_ 6 (.int .i64 0)).set_ 7 (.int .u32 0)).set_ 8 (.bool false))
          have HBF := hide (((((((((HM2.out.bel.setCell (p := ⟨w.heap.size, 0, none⟩) (Nat.le_refl _) (.int .i64 k)).setCell (p := ⟨w.heap.size, 1, none⟩) (Nat.le_refl _) (.int .u32 (p1 : Int))).setCell (p := ⟨w.heap.size, 2, none⟩) (Nat.le_refl _) (.int .i64 0)).setCell (p := ⟨w.heap.size, 3, none⟩) (Nat.le_refl _) (.slice none 0 0)).setCell (p := ⟨w.heap.size, 4, none⟩) (Nat.le_refl _) (.string ⟨#[]⟩)).setCell (p := ⟨w.heap.size, 5, none⟩) (Nat.le_refl _) (.int .u32 0)).setCell (p := ⟨w.heap.size, 6, none⟩) (Nat.le_refl _) (.int .i64 0)).setCell (p := ⟨w.heap.size, 7, none⟩) (Nat.le_refl _) (.int .u32 0)).setCell (p := ⟨w.heap.size, 8, none⟩) (Nat.le_refl _) (.bool false))
          have HOF := hide (own_set (g := w.heap.size) (i := 8) (own_set (g := w.heap.size) (i := 7) (own_set (g := w.heap.size) (i := 6) (own_set (g := w.heap.size) (i := 5) (own_set (g := w.heap.size) (i := 4) (own_set (g := w.heap.size) (i := 3) (own_set (g := w.heap.size) (i := 2) (own_set (g := w.heap.size) (i := 1) (own_set (g := w.heap.size) (i := 0) HM2.out.own (fun e => by have := own_low_block HM2.out.own _ e; omega) (.int .i64 k)) (fun e => by have := own_low_block HM2.out.own _ e; omega) (.int .u32 (p1 : Int))) (fun e => by have := own_low_block HM2.out.own _ e; omega) (.int .i64 0)) (fun e => by have := own_low_block HM2.out.own _ e; omega) (.slice none 0 0)) (fun e => by have := own_low_block HM2.out.own _ e; omega) (.string ⟨#[]⟩)) (fun e => by have := own_low_block HM2.out.own _ e; omega) (.int .u32 0)) (fun e => by have := own_low_block HM2.out.own _ e; omega) (.int .i64 0)) (fun e => by have := own_low_block HM2.out.own _ e; omega) (.int .u32 0)) (fun e => by have := own_low_block HM2.out.own _ e; omega) (.bool false))
          go_wp2
          have u0 := HF.out.cell 0
          have u1 := HF.out.cell 1
          have u2 := HF.out.cell 2
          have u3 := HF.out.cell 3
          have u4 := HF.out.cell 4
          have u5 := HF.out.cell 5
          have u6 := HF.out.cell 6
          have u7 := HF.out.cell 7
          have u8 := HF.out.cell 8
          have HEqn : Hid (moveP line = (⟨k, p1, 0, [], [], 0, 0, 0, false⟩, 0)) := hide (by unfold moveP; simp only [HMP.out, HKq.out, HMP1.out, HP1.out]; rw [if_neg h7, if_neg h6, if_neg h5, if_neg h8, if_neg h9])
          refine bodyPost_ret (v := .tuple #[.agg #[.int .i64 k, .int .u32 (p1 : Int), .int .i64 0, .slice none 0 0, .string ⟨#[]⟩, .int .u32 0, .int .i64 0, .int .u32 0, .bool false], .int .i64 (0 : Nat)]) (by simp [results, Tryz.results39, go_sem, u0, u1, u2, u3, u4, u5, u6, u7, u8]) rfl ⟨.slice none 0 0, by rw [HEqn.out]; rfl, by rw [HEqn.out]; exact own_baseLe HOF.out (Nat.le_succ _), HBF.out⟩
end Go.Proofs.YtlfknndpbejbcaaGreatDoor
set_option linter.unusedSimpArgs false
set_option linter.unusedVariables false
namespace Go.Proofs.YtlfknndpbejbcaaGreatDoor
open Go.RowKit Go.WideShapes Go.ChangeShapes
attribute [local go_sem] Oper.semAt_some
theorem pieces_end : ∀ (r : List UInt8), pieces 10 (r ++ [10]) = pieces 10 r ++ [[]]
  | [] => rfl
  | x :: l => by
    have ih := pieces_end l
    rw [List.cons_append]
    by_cases hx : x = 10
    · have e1 : pieces 10 (x :: (l ++ [10])) = [] :: pieces 10 (l ++ [10]) := by conv => lhs; unfold pieces
                                                                                 rw [if_pos hx]
      have e2 : pieces 10 (x :: l) = [] :: pieces 10 l := by conv => lhs; unfold pieces
                                                             rw [if_pos hx]
      rw [e1, e2, ih]; rfl
    · have e1 : pieces 10 (x :: (l ++ [10])) = (x :: (pieces 10 (l ++ [10])).headD []) :: (pieces 10 (l ++ [10])).tail := by conv => lhs; unfold pieces
                                                                                                                             rw [if_neg hx]
      have e2 : pieces 10 (x :: l) = (x :: (pieces 10 l).headD []) :: (pieces 10 l).tail := by conv => lhs; unfold pieces
                                                                                               rw [if_neg hx]
      rw [e1, e2, ih]
      cases h : pieces 10 l with
      | nil => exact absurd h (pieces_ne 10 l)
      | cons p ps => rfl
theorem linesM_end (r : List UInt8) : linesM (r ++ [10]) = pieces 10 r := by
  unfold linesM
  rw [pieces_end, List.dropLast_concat]
theorem trim10 (r : List UInt8) : Lib.trimSuffix (r ++ [10]) [10] = r := by
  have h : Lib.hasSuffix (r ++ [10]) [10] = true := by
    unfold Lib.hasSuffix
    rw [List.isSuffixOf_iff_suffix]
    exact ⟨r, rfl⟩
  unfold Lib.trimSuffix
  rw [if_pos h]
  simp
set_option maxRecDepth 100000 in
theorem texts_any (t : List UInt8) (ht : t = [] ∨ t.getLast? = some 10) (hl : t.length ≤ 100000) (w : World) (he : Env w) :
    Calls Tryz.prog 49 #[.string (str t)] w fun e w' => ∃ A n c, e = .returned (.slice A n c) ∧ StrsAt w' A n c ((linesM t).map str) ∧ Below w.heap.size w w' := by
  by_cases h0 : t = []
  · subst h0
    have e1 : ((str []).toList == []) = true := by decide +kernel
    have HL : Hid (linesM [] = []) := hide rfl
    obtain ⟨T, hT⟩ : ∃ T, str [] = T := ⟨_, rfl⟩
    rw [hT] at e1 ⊢
    clear hT ht
    go_enter Tryz.func49, Tryz.ntmps49
    go_wp2
    go_ret
    exact ⟨none, 0, 0, rfl, by rw [HL.out]; exact ⟨rfl, Nat.le_refl _, by simp [maxLen], by simp, fun h => absurd h (by omega)⟩, Below.refl _ _⟩
  · obtain ⟨r, rfl⟩ : ∃ r, t = r ++ [10] := by
      rcases ht with h | h
      · exact absurd h h0
      · rcases t.eq_nil_or_concat with rfl | ⟨r, c, rfl⟩
        · exact absurd rfl h0
        · simp at h
          subst h
          exact ⟨r, by simp⟩
    have e1 : ((str (r ++ [10])).toList == []) = false := by
      unfold str; rw [ByteArray.toList_mk]
      cases r <;> rfl
    have HT := hide (fun W => Tryz.strings_TrimSuffix (str (r ++ [10])) ⟨#[10]⟩ W (by rw [str_size]; omega))
    have HTr : Hid ((⟨(Lib.trimSuffix (str (r ++ [10])).data.toList (⟨#[10]⟩ : ByteArray).data.toList).toArray⟩ : ByteArray) = str r) := hide (by
      rw [str_data]
      show (⟨(Lib.trimSuffix (r ++ [10]) [10]).toArray⟩ : ByteArray) = _
      rw [trim10]; rfl)
    have HS := hide (split_any 10 r (by simp at hl; omega) w he)
    have HL := hide (linesM_end r)
    have hlr : r.length ≤ 1000000 := by simp at hl; omega
    obtain ⟨T, hT⟩ : ∃ T, str (r ++ [10]) = T := ⟨_, rfl⟩
    rw [hT] at e1 HT HTr ⊢
    clear hT ht h0 he hl
    go_enter Tryz.func49, Tryz.ntmps49
    go_wp2_with fail
    refine (HT.out _).mono ?_
    rintro e w1 ⟨rfl, rfl⟩
    rw [HTr.out]
    go_wp2_with fail
    refine HS.out.mono ?_
    rintro e w2 ⟨rfl, hb, hs, hc⟩
    have HSt := hide (spl_strs hs hc hlr)
    have HB := hide hb
    clear hb hs hc
    go_wp2
    go_ret
    exact ⟨_, _, _, rfl, by rw [HL.out]; exact HSt.out, HB.out⟩
end Go.Proofs.YtlfknndpbejbcaaGreatDoor
