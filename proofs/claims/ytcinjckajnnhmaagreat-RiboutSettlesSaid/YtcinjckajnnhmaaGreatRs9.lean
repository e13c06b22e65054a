import Derived.Test.YtcinjckajnnhmaaGreatRs8
import Derived.WalkKit
import Derived.ProofKit
import Derived.OpenShut
import Derived.Below
import Derived.Laws.OwnMore
import Derived.Laws.Rows
import Derived.Laws.MakeOwn
import Derived.Deep.AppendLies
import Derived.Deep.Draws
import Derived.Deep.OwnRows
import Derived.Deep.QuietTactic
import Derived.Maps.AppendAt
import Derived.RegionTactic
import Derived.OwnWalk
import Derived.ChangeSame
import Derived.Outline
import Derived.BigQuiet
import Derived.WalkMore
import Derived.ScopeJumps
import Derived.WalkLawsBesides
import Derived.WalkSpells
import Derived.Laws.BitsLemmas
import Derived.Laws.BitsAllLaws
import Derived.WideKeyArgs
import Derived.Deep.DeepHandedRow
import Derived.Deep.DeepWitnessRowRef
import Derived.Lib.LaidTab
import Derived.Lib.AppendIntMem
import Derived.LaidMore
import Derived.MakeChecks
import Derived.Lib.Itoa
import Derived.Lib.ItoaMem
import Derived.Deep.Quiet
import Derived.Deep.Slices
import Derived.BigRegion
import Derived.Orders
import Derived.OrdersIn
import Derived.RangeFuncCalls
import Derived.Shelf.RegionOpen
import Derived.StillTailTactics
import Derived.Lib.PathFns
import Derived.Lib.IndexBytes
import Derived.RangeFuncWrites
import Derived.RangeFuncNested
import Derived.RangeFuncBound
import Derived.RangeFuncLeaves
import Derived.RangeFuncBox
import Derived.Shelf.Abstract
import Derived.OwnWalkIn
import Derived.TacticsInMore
import Derived.LoopNIn
import Derived.LoopIn
import Derived.Lib.SmallJoins
import Derived.Lib.ParseIntBCases
import Derived.Lib.IndexMore
import Derived.Shelf.Vars
import Derived.Lib.AtoiAllCases
import Derived.SliceStrings
import Derived.Deep.RegionLaw
import Derived.Sort.LotA
import Derived.BigRegionIn
import Derived.Deep.RegionHeld3
import Derived.RangeFuncOwn
import Derived.Sort.WalkA6
import Derived.Sort.WalkB3
import Derived.Sort.WalkC4
import Derived.Sort.WalkA14
import Derived.Sort.Walk11
import Derived.Sort.Walk7
import Derived.Sort.Walk13
import Derived.Sort.Row
import Derived.Lib.Walk
import Derived.Lib.Strings
import Derived.BigGuard
import Derived.BigCall
import Derived.CellFam
import Derived.Deep.LoopGhost
import Derived.Sort.LotC
import Derived.Deep.RegionWith
import Derived.RowKit
import Derived.Sort.LotD3
import Derived.Sort.LotD4
import Derived.Sort.Grow
import Derived.Sort.AtCall
import Derived.Sort.LotD5
import Derived.Laws.Bits64
import Derived.Laws.Bits64b
import Derived.Sort.EncStr
import Derived.Sort.LotD1
import Derived.Sort.LotB
import Derived.Deep.Cut
import Derived.Sort.Walk13a
import Derived.Sort.AssemblyPlain
import Derived.Shelf.Spec.SlicesInsertGrow
import Derived.Deep.MidRow
import Derived.Lib.RowBridge
import Derived.Laws.CopyOwn
import Derived.Lib.AppendZerosOnto
import Derived.Deep.DeepCutAuto
import Derived.Lib.Bytealg
import Derived.Shelf.Strings.SplitShaped
import Derived.Shelf.Strings.Prefix
import Derived.Shelf.Small.Strs
import Derived.Lib.QuietBelow
import Derived.Shelf.SlSortCmp.WholeK
import Derived.Deep.CutBlock
import Derived.Lib.SlTrimSet
import Derived.Shelf.Strings.BuilderK
import Derived.Laws.BytesString
import Derived.Laws.IdiomStrings
set_option linter.unusedSimpArgs false
set_option linter.unusedVariables false
namespace Go.Proofs.YtcinjckajnnhmaaGreat
open Go.RowKit Go.WideShapes Go.ChangeShapes
attribute [local go_sem] Oper.semAt_some
instance pg_dec (a n : Nat) : Decidable (PG a n) := by unfold PG; infer_instance
def pK (x : Nat × Nat) : Nat := x.1 * 64 + x.2
def unK (x : Nat) : Nat × Nat := (x / 64, x % 64)
theorem unK_pK {x : Nat × Nat} (h : PG x.1 x.2) : unK (pK x) = x := by
 obtain ⟨a, n⟩ := x; have h2 := h.2.1; simp only at h2; unfold unK pK; simp only [Prod.mk.injEq]; omega
def nk (x : Nat) : Nat := if PG (x / 64) (x % 64) then x else 0
theorem nk_pg (x : Nat) : PG (nk x / 64) (nk x % 64) := by
 unfold nk; split
 ·assumption
 ·decide
theorem nk_of {x : Nat} (h : PG (x / 64) (x % 64)) : nk x = x := by unfold nk; rw [if_pos h]
theorem nk_pK {x : Nat × Nat} (h : PG x.1 x.2) : nk (pK x) = pK x := by
 refine nk_of ?_; have := unK_pK h; unfold unK at this; rw [← this] at h; exact h
def enK (x : Nat) : List Value := [.int .u32 ((nk x / 64 : Nat) : Int), .int .i64 ((nk x % 64 : Nat) : Int)]
theorem enK_len (x : Nat) : (enK x).length = 2 := rfl
theorem enK_of {x : Nat} (h : nk x = x) : enK x = [.int .u32 ((x / 64 : Nat) : Int), .int .i64 ((x % 64 : Nat) : Int)] := by unfold enK; rw [h]
def cfK (x y : Nat) : Int := if nk x < nk y then -1 else if nk x = nk y then 0 else 1
theorem cmpK (x y : Nat) : cmpP (nk x / 64) ((nk x % 64 : Nat) : Int) (nk y / 64) ((nk y % 64 : Nat) : Int) = cfK x y := by
 unfold cmpP cfK; have h1 := (nk_pg x).2.1; have h2 := (nk_pg y).2.1
 generalize nk x = u at *
 generalize nk y = v at *
 by_cases h : u < v
 ·rw [if_pos h, if_pos (by omega)]
 ·rw [if_neg h, if_neg (by omega)]; by_cases h3 : u = v
  ·subst h3; simp
  ·rw [if_neg h3, if_neg (by omega)]
def pkC (l : List Nat) : List Value := l.flatMap enK
theorem flat2 {α β : Type} (f : α → List β) (hf : ∀ x, (f x).length = 2) : ∀ (l : List α) (j i : Nat) (x : α), l[j]? = some x → i < 2 → (l.flatMap f)[j * 2 + i]? = (f x)[i]?
 | [], _, _, _, h, _ => by simp at h
 | y :: l, 0, i, x, h, hi => by
   simp only [List.getElem?_cons_zero, Option.some.injEq] at h; subst h; rw [List.flatMap_cons, List.getElem?_append_left (by rw [hf]; omega)]
   simp
 | y :: l, j + 1, i, x, h, hi => by
   rw [List.flatMap_cons, List.getElem?_append_right (by rw [hf]; omega), hf, show (j + 1) * 2 + i - 2 = j * 2 + i by omega]; exact flat2 f hf l j i x (by simpa using h) hi
theorem flat2_len {α β : Type} (f : α → List β) (hf : ∀ x, (f x).length = 2) (l : List α) : (l.flatMap f).length = l.length * 2 := by
 induction l with
 | nil => rfl
 | cons x l ih => rw [List.flatMap_cons, List.length_append, hf, ih, List.length_cons]; omega
theorem two_of {α : Type} : ∀ {l : List α}, l.length = 2 → ∃ p q, l = [p, q]
 | [p, q], _ => ⟨p, q, rfl⟩
 | [], h => by simp at h
 | [_], h => by simp at h
 | _ :: _ :: _ :: _, h => by simp at h
theorem flat2_set {α β : Type} (f : α → List β) (hf : ∀ x, (f x).length = 2) : ∀ (l : List α) (k : Nat) (x : α) (u v : β), f x = [u, v] → ((l.flatMap f).set (k * 2) u).set (k * 2 + 1) v = (l.set k x).flatMap f
 | [], k, x, u, v, h => by simp
 | y :: l, 0, x, u, v, h => by
   obtain ⟨p, q, hp⟩ := two_of (hf y); simp [List.flatMap_cons, hp, h]
 | y :: l, k + 1, x, u, v, h => by
   obtain ⟨p, q, hp⟩ := two_of (hf y); have := flat2_set f hf l k x u v h; simp only [List.set_cons_succ, List.flatMap_cons, hp, ← this]; rw [show (k + 1) * 2 = k * 2 + 1 + 1 by omega]
   simp
theorem flat2_take {α β : Type} (f : α → List β) (hf : ∀ x, (f x).length = 2) : ∀ (l : List α) (k : Nat), (l.take k).flatMap f = (l.flatMap f).take (k * 2)
 | [], k => by simp
 | y :: l, 0 => by simp
 | y :: l, k + 1 => by
   rw [List.take_succ_cons, List.flatMap_cons, List.flatMap_cons, flat2_take f hf l k, show (k + 1) * 2 = 2 + k * 2 by omega, ← hf y, List.take_length_add_append]
theorem pkC_len (l : List Nat) : (pkC l).length = l.length * 2 := flat2_len enK enK_len l
theorem pkC_pxC : ∀ (l : List Nat), (∀ x ∈ l, nk x = x) → pkC l = pxC (l.map unK)
 | [], _ => rfl
 | x :: l, h => by
   have ih := pkC_pxC l (fun y hy => h y (List.mem_cons_of_mem _ hy)); unfold pkC pxC at *; rw [List.map_cons, List.flatMap_cons, List.flatMap_cons, ih, enK_of (h x (List.mem_cons_self ..))]
   rfl
theorem map_unK {l : List (Nat × Nat)} (h : ∀ x ∈ l, PG x.1 x.2) : (l.map pK).map unK = l := by
 rw [List.map_map]
 conv => rhs; rw [← List.map_id l]
 exact List.map_congr_left fun x hx => unK_pK (h x hx)
def PkRow (base g cap : Nat) (w : World) (d : Array Nat) : Prop := w.ownsRow base 24 2 (.slice (some ⟨g, 0, none⟩) d.size cap) d.size (pkC d.toList) ∧ (∀ x ∈ d.toList, nk x = x) ∧ base ≤ g ∧ g < w.heap.size ∧ d.size ≤ cap ∧ cap ≤ maxLen
theorem PkRow.val {base g cap : Nat} {w : World} {d : Array Nat} (h : PkRow base g cap w d) (j : Nat) : nk (d[j]! : Nat) = d[j]! := by
 by_cases hj : j < d.size
 ·rw [getElem!_pos d j hj]; exact h.2.1 _ (by simp)
 ·rw [getElem!_neg d j hj]; decide
theorem PkRow.cell {base g cap : Nat} {w : World} {d : Array Nat} (h : PkRow base g cap w d) {j : Nat} (hj : j < d.size) : w.cell? ⟨g, j * 2, none⟩ = some (.int .u32 ((d[j]! / 64 : Nat) : Int)) ∧ w.cell? ⟨g, j * 2 + 1, none⟩ = some (.int .i64 ((d[j]! % 64 : Nat) : Int)) := by
 have hx : d.toList[j]? = some d[j]! := (by simp [hj])
 have e := enK_of (h.val j); constructor
 ·rw [h.1.cellAt _ (by omega)]; have := flat2 enK enK_len d.toList j 0 _ hx (by omega); rw [Nat.add_zero, e] at this; exact this
 ·rw [h.1.cellAt _ (by omega)]; have := flat2 enK enK_len d.toList j 1 _ hx (by omega); rw [e] at this; exact this
theorem PkRow.drewN {base g cap : Nat} {w : World} {d : Array Nat} (h : PkRow base g cap w d) (n : Nat) : PkRow base g cap (w.drewN n) d := h
theorem PkRow.set_ {base g cap : Nat} {w : World} {d : Array Nat} (h : PkRow base g cap w d) {k x : Nat} (hx : nk x = x) : PkRow base g cap (w.setCells g (k * 2) [.int .u32 ((x / 64 : Nat) : Int), .int .i64 ((x % 64 : Nat) : Int)]) (d.setIfInBounds k x) := by
 obtain ⟨h1, h2, h3, h4, h5, h6⟩ := h; have e1 := (h1.stored (k * 2) (.int .u32 ((x / 64 : Nat) : Int))).1; have e2 := (e1.stored (k * 2 + 1) (.int .i64 ((x % 64 : Nat) : Int))).1; unfold pkC at e2; rw [flat2_set enK enK_len d.toList k x _ _ (enK_of hx)] at e2; refine ⟨?_, fun y hy => ?_, h3, by simpa [World.setCells, World.setCell] using h4, by simpa using h5, h6⟩
 ·unfold pkC; simpa [World.setCells] using e2
 ·have hy' : y ∈ d.toList.set k x := (by simpa using hy)
  rcases List.mem_or_eq_of_mem_set hy' with h | h
  ·exact h2 y h
  ·rw [h]; exact hx
theorem own_setCellsK {base g n cap e sz : Nat} : ∀ (vs : List Value) (j : Nat) {w : World} {xs : List Value}, w.ownsRow base e sz (.slice (some ⟨g, 0, none⟩) n cap) n xs → j + vs.length ≤ n * sz →
  (w.setCells g j vs).ownsRow base e sz (.slice (some ⟨g, 0, none⟩) n cap) n (xs.take j ++ vs ++ xs.drop (j + vs.length))
 | [], j, w, xs, h, _ => by simpa [World.setCells] using h
 | v :: vs, j, w, xs, h, hj => by
  have hl : xs.length = n * sz := h.1; have hj' : j + (vs.length + 1) ≤ n * sz := (by simpa using hj)
  have h1 := (h.stored j v).1; have h2 := own_setCellsK vs (j + 1) h1 (by omega)
  have e1 : (xs.set j v).take (j + 1) = xs.take j ++ [v] := by
   rw [List.take_add_one, List.take_set_of_le (by omega), List.getElem?_set_self (by omega)]
   rfl
  have e2 : (xs.set j v).drop (j + 1 + vs.length) = xs.drop (j + (v :: vs).length) := by
   rw [List.drop_set_of_lt (by omega)]
   congr 1
   simp; omega
  rw [e1, e2] at h2; simpa [World.setCells, List.append_assoc] using h2
theorem PkRow.cut {base g cap k : Nat} {w : World} {d : Array Nat} (h : PkRow base g cap w d) (hk : k ≤ d.size) : w.ownsRow base 24 2 (.slice (some ⟨g, 0, none⟩) k cap) k (pkC (d.toList.take k)) := by
 obtain ⟨h1, h2, h3, h4, h5, h6⟩ := h; rcases h1.2 with ⟨hv, _⟩ | ⟨g', cap', cur, hv, r1, r2, r3, r4, r5, r6⟩
 ·cases hv
 ·cases hv
  refine ⟨by rw [pkC_len, List.length_take]; simp; omega, .inr ⟨g, cap, cur, rfl, r1, r2, by omega, r4, r5, ?_⟩⟩; have e : pkC (d.toList.take k) = (pkC d.toList).take (k * 2) := flat2_take enK enK_len _ _; rw [e, ← r6, List.take_take]
  congr 1; omega
theorem own_clearK {base g cap k e sz : Nat} {xs : List Value} : ∀ (vs : List Value) (j : Nat) {w : World}, w.ownsRow base e sz (.slice (some ⟨g, 0, none⟩) k cap) k xs → k * sz ≤ j → (w.setCells g j vs).ownsRow base e sz (.slice (some ⟨g, 0, none⟩) k cap) k xs
 | [], _, _, h, _ => h
 | v :: vs, j, w, h, hj => by
  refine own_clearK vs (j + 1) ?_ (by omega); have := (h.stored j v).1
  rwa [List.set_eq_of_length_le (by have := h.1; omega)] at this
def sortP (l : List (Nat × Nat)) : List (Nat × Nat) := (setOf (l.map pK)).map unK
def PZ (a : Nat) (m : Int) : Prop := a < 4294967296 ∧ -9223372036854775808 ≤ m ∧ m ≤ 9223372036854775807
def pzR (w : World) (vs : List Value) (x : Nat × Int) : Prop := vs = [.int .u32 (x.1 : Int), .int .i64 x.2] ∧ PZ x.1 x.2
theorem pzMono : SMono pzR := fun _ _ _ _ _ h => h
theorem PZat {w : World} {A : Option Addr} {n c k : Nat} {l : List (Nat × Int)} (h : LstAt 2 pzR w A n c l) (hk : k < n) : ∃ g o a m, A = some ⟨g, o, none⟩ ∧ g < w.heap.size ∧ l[k]? = some (a, m) ∧ PZ a m ∧ w.cell? ⟨g, o + k * 2, none⟩ = some (.int .u32 (a : Int)) ∧ w.cell? ⟨g, o + k * 2 + 1, none⟩ = some (.int .i64 m) := by
 obtain ⟨h1, h2, h3, h4⟩ := h; obtain ⟨g, o, rfl, hg, hc⟩ := h4 (by omega); have hx : l[k]? = some l[k] := List.getElem?_eq_getElem (by omega); obtain ⟨vs, hl, ⟨rfl, hr⟩, hcs⟩ := hc k _ hx; exact ⟨g, o, _, _, rfl, hg, hx, hr, hcs 0 _ rfl, hcs 1 _ rfl⟩
def zP (x : Nat × Nat) : Nat × Int := (x.1, (x.2 : Int))
theorem pz_of_pg {a n : Nat} (h : PG a n) : PZ a (n : Int) := by
 have h1 := h.1; have h2 := h.2.1; exact ⟨h1, by omega, by omega⟩
theorem pz_of_px {w : World} {A : Option Addr} {n c : Nat} {l : List (Nat × Nat)} (h : LstAt 2 pxR w A n c l) (hg : ∀ x ∈ l, PG x.1 x.2) : LstAt 2 pzR w A n c (l.map zP) := by
 obtain ⟨h1, h2, h3, h4⟩ := h; refine ⟨by simpa using h1, h2, h3, fun hn => ?_⟩; obtain ⟨g, o, hA, hlt, hc⟩ := h4 hn; refine ⟨g, o, hA, hlt, fun k x hk => ?_⟩; rw [List.getElem?_map] at hk
 cases hz : l[k]? with
 | none => rw [hz] at hk; cases hk
 | some z =>
  rw [hz] at hk; simp only [Option.map_some, Option.some.injEq] at hk; subst hk; obtain ⟨vs, hl, rfl, hcs⟩ := hc k z hz; exact ⟨_, rfl, ⟨rfl, pz_of_pg (hg _ (List.mem_of_getElem? hz))⟩, hcs⟩
set_option maxRecDepth 100000 in
theorem pzIndex0_any (F : FuncId) (p : (Nat × Int) → Bool) (A : Option Addr) (n c : Nat) (l : List (Nat × Int)) (w : World) (h : LstAt 2 pzR w A n c l) (hF : ∀ (args : Array Value) (W : World), (callFunc F args).run Tryz.prog W = .ok (.enter F args) W)
    (HF : ∀ (a : Nat) (m : Int) (W : World), Below w.heap.size w W → PZ a m → Calls Tryz.prog F #[.agg #[.int .u32 (a : Int), .int .i64 m]] W (GoodP (p (a, m)) W)) :
    Calls Tryz.prog 194 #[.slice A n c, .func (.func F) #[] #[]] w fun e w' => e = .returned (.int .i64 (idxP p l)) ∧ Below w.heap.size w w' := by
  have hm := h.2.2.1; have hnc := h.2.1; unfold maxLen at hm; have HU := hide h; have HP := hide HF; have HE := hide hF; clear h HF hF
  go_enter Tryz.func194, Tryz.ntmps194
  go_wp2
  go_loopw [8] (fun i wr => ∃ k : Nat, k ≤ n ∧ i = .int .i64 k ∧ (∀ y ∈ l.take k, p y = false) ∧ Below w.heap.size w wr) (fun i _ => n - (intOf i).toNat)
  case atStart => exact ⟨0, Nat.zero_le _, rfl, by simp, Below.refl _ _⟩
  case round =>
    obtain ⟨k, hk, rfl, hno, hb⟩ := hrel; have HN := hide hno; have HA := hide (HU.out.below pzMono hb); have HB := hide hb; have hsz := hb.size; clear hno hb; by_cases hlt : k < n
    · obtain ⟨g, o, a, m, rfl, hg, hy, hok, c0, c1⟩ := PZat HA.out hlt; have HO := hide (HP.out a m wr HB.out hok); have HY := hide hy; clear hy; obtain ⟨q, hq⟩ : ∃ q, p (a, m) = q := ⟨_, rfl⟩
      rw [hq] at HO; have HQ := hide hq; clear hq hok
      go_wp2_with fail
      rw [HE.out, Oper.upon_enter]; refine HO.out.mono ?_; rintro e w1 ⟨rfl, hb1⟩; have HB1 := hide (HB.out.trans (hb1.mono hsz)); clear hb1
      cases q
      · have hn2 := hide (show ∀ y ∈ l.take (k + 1), p y = false by
          intro y hy; rw [List.take_add_one, HY.out, List.mem_append] at hy; rcases hy with hy | hy
          · exact HN.out y hy
          · simp at hy; subst hy; exact HQ.out)
        go_wp2
        go_roundw
        case rel => exact ⟨k + 1, by omega, by go_num, hn2.out, HB1.out⟩
        case measure => simp [intOf]; omega
      · have hin := hide (idxP_at p l k _ HN.out HY.out HQ.out); go_wp2; go_ret; exact ⟨ret_i64 hin.out.symm, HB1.out⟩
    · obtain rfl : k = n := (by omega)
      have hf := hide (idxP_none p l (fun y hy => HN.out y (by rw [List.take_of_length_le (by rw [HU.out.1]; exact Nat.le_refl _)]; exact hy))); go_wp2; go_ret; exact ⟨ret_i64 hf.out.symm, HB.out⟩
theorem nOdd_any (a : Nat) (m : Int) (h : PZ a m) (w : World) : Calls Tryz.prog 151 #[.agg #[.int .u32 (a : Int), .int .i64 m]] w (GoodP (!goodB a m) w) := by
 have H := hide (fun W => Good_any a m h.1 h.2.1 h.2.2 W); unfold pfx at H; obtain ⟨q, hq⟩ : ∃ q, goodB a m = q := ⟨_, rfl⟩
 rw [hq] at H ⊢; clear hq h
 go_enter Tryz.func151, Tryz.ntmps151
 go_wp2_with fail
 refine (H.out _).mono ?_; rintro e w1 ⟨rfl, hb⟩; rw [World.size_alloc] at hb; have HB := hide (((Below.refl _ w).alloc (Nat.le_refl _) _).trans (hb.mono (Nat.le_succ _))); clear hb
 cases q
 ·go_wp2; go_ret; exact ⟨rfl, HB.out⟩
 ·go_wp2; go_ret; exact ⟨rfl, HB.out⟩
set_option maxRecDepth 100000 in
theorem pxDelete_good (A : Option Addr) (n c : Nat) (l : List (Nat × Nat)) (w : World) (h : LstAt 2 pxR w A n c l) (hg : ∀ x ∈ l, PG x.1 x.2) :
    Calls Tryz.prog 150 #[.slice A n c, .func (.func 151) #[] #[]] w fun e w' => e = .returned (.slice A n c) ∧ Below w.heap.size w w' := by
  have H := hide (pzIndex0_any 151 (fun x => !goodB x.1 x.2) A n c (l.map zP) w (pz_of_px h hg) (fun args W => by simp [callFunc, go_sem, Tryz.func151]; rfl) (fun a m W _ hz => nOdd_any a m hz W))
  have hi : idxP (fun x : Nat × Int => !goodB x.1 x.2) (l.map zP) = -1 := idxP_none _ _ (fun y hy => by
    obtain ⟨x, hx, rfl⟩ := List.mem_map.1 hy; have := good_pg (hg x hx); unfold zP; simp [this])
  rw [hi] at H; clear h hg hi
  go_enter Tryz.func150, Tryz.ntmps150
  go_wp2_with fail
  refine H.out.mono ?_; rintro e w1 ⟨rfl, hb⟩; have HB := hide hb; clear hb; go_wp2; go_ret; exact ⟨rfl, HB.out⟩
theorem own_made0P (w : World) : (w.alloc (.cells #[] 24)).ownsRow w.heap.size 24 2 (.slice (some ⟨w.heap.size, 0, none⟩) 0 0) 0 [] := World.ownsRow_made _ _ _ (Nat.le_refl _) (by simp [maxLen]) (by simp)
theorem pxC_one (l : List (Nat × Nat)) : ∀ v ∈ pxC l, v.oneCell' = true := by
 intro v hv; unfold pxC at hv; simp only [List.mem_flatMap] at hv; obtain ⟨x, _, hx⟩ := hv; simp at hx; rcases hx with rfl | rfl <;> rfl
theorem pxC_chunks_eq : ∀ {xs : List Value} {l : List (Nat × Nat)} {w : World}, Chunks 2 pxR w xs l → xs = pxC l := by
 intro xs l w h; obtain ⟨h1, h2⟩ := h
 apply List.ext_getElem?
 intro t; by_cases ht : t < l.length * 2
 ·have hx : l[t / 2]? = some l[t / 2] := List.getElem?_eq_getElem (by omega); have h3 := h2 (t / 2) _ hx; unfold pxR at h3; have h4 := flat2 (fun x : Nat × Nat => [Value.int .u32 (x.1 : Int), .int .i64 (x.2 : Int)]) (fun _ => rfl) l (t / 2) (t % 2) _ hx (by omega); rw [show t / 2 * 2 + t % 2 = t by omega] at h4; unfold pxC; rw [h4, ← h3, List.getElem?_take, if_pos (by omega), List.getElem?_drop, show t / 2 * 2 + t % 2 = t by omega]
 ·rw [List.getElem?_eq_none (by omega), List.getElem?_eq_none (by unfold pxC; rw [flat2_len _ (fun _ => rfl)]; omega)]
set_option maxRecDepth 100000 in
theorem pxClone_any (A : Option Addr) (n c : Nat) (l : List (Nat × Nat)) (w : World) (h : LstAt 2 pxR w A n c l) (hn : n ≤ 100000) :
  Calls Tryz.prog 116 #[.slice A n c] w fun e w' => ∃ v, e = .returned v ∧ w'.ownsRow w.heap.size 24 2 v n (pxC l) ∧ Below w.heap.size w w' := by
 obtain ⟨i0, hi, hz0, hz1, hz2⟩ := info_parts pxInfo; obtain ⟨xs, hr, hx⟩ := h.reads (by decide); obtain rfl := pxC_chunks_eq hx; have HR := hide hr; have hnil := fun w => Lib.run_eql_slice_nil (P := Tryz.prog) w
 cases A with
 | none =>
  have h0 : n = 0 := by
   rcases Nat.eq_zero_or_pos n with h1 | h1
   ·exact h1
   ·obtain ⟨g, o, hA, _⟩ := h.2.2.2 h1
    cases hA
  subst h0; have hl : Hid (l = []) := hide (List.eq_nil_of_length_eq_zero h.1); clear h hr hx HR
  go_enter Tryz.func116, Tryz.ntmps116
  go_wp2; go_ret; refine ⟨_, rfl, ?_, Below.refl _ _⟩; rw [hl.out]; exact World.ownsRow_nil _ _ _ _
 | some ad =>
  clear h hr hx
  go_enter Tryz.func116, Tryz.ntmps116
  go_wp2_with (at_builtin; refine wpList_append_any _ rfl (.tmp 5) (.tmp 6) 45 rfl w.heap.size 24 i0 _ 2 16 Tryz.underlying45 hi hz0 hz1 hz2 rfl (by decide) (.slice (some ⟨w.heap.size, 0, none⟩) 0 0) 0 [] rfl (own_made0P w) w.heap.size (some ad) n c (pxC l) rfl (HR.out.alloc (Nat.le_refl _) _) (pxC_one _) (by unfold maxLen; omega) (by omega) (by simp) ?_; intro v' w1 hown' hgrow _)
  go_ret; refine ⟨_, rfl, ?_, ?_⟩
  ·simpa using hown'
  ·exact ((Below.refl _ _).alloc (Nat.le_refl _) _).grown hgrow (by simp) (fun k hk => by simp [Value.ownBlock] at hk; omega)
theorem gr_far {W x : World} : (far W x).drawn = x.drawn := rfl
set_option maxHeartbeats 400000 in
theorem goodD (a n : Nat) (h : PG a n) (w : World) : Calls Tryz.prog 130 #[pfx a (n : Int)] w fun e w' => e = .returned (.bool true) ∧ Below w.heap.size w w' ∧ w.drawn ≤ w'.drawn := by
 have hn : (n : Int) ≤ 32 := (by have := h.2.1; omega)
 have hn0 : (0 : Int) ≤ (n : Int) := (by omega)
 have hf := hide (show (bits .andNot .u32 (a : Int) ((maskN n : Nat) : Int) == 0) = true by rw [good_test a n h.1 h.2.1, h.2.2]; simp); have HM := hide (fun W => mask_in n h.2.1 W); unfold pfx; clear h
 go_enter Tryz.func130, Tryz.ntmps130
 go_wp2
 go_quiet ((go_at_call 177; exact quiet_left (HM.out _)))
 go_wp2; go_ret; refine ⟨?_, below_drewN ((Below.refl _ _).alloc (Nat.le_refl _) _) _, Nat.le_add_right _ _⟩; rw [hf.out]; rfl
set_option maxRecDepth 100000 in
set_option maxHeartbeats 1000000 in
theorem cmpD (a n b m : Nat) (hg : PG a n) (hh : PG b m) (w : World) :
  Calls Tryz.prog 153 #[pfx a (n : Int), pfx b (m : Int)] w fun e w' => e = .returned (.int .i64 (cmpP a n b m)) ∧ Below w.heap.size w w' ∧ w.drawn ≤ w'.drawn := by
 have hg1 := goodD a n hg; have hh1 := goodD b m hh; unfold pfx at hg1 hh1 ⊢; have HG := hide hg1; have HH := hide hh1; have hf := hide (or_cmp a n b m); obtain ⟨k0, k1, k2, k3⟩ := boxes w (.int .u32 (a : Int)) (.int .i64 n) (.int .u32 (b : Int)) (.int .i64 m) 24 24; clear hg hh hg1 hh1
 go_enter Tryz.func153, Tryz.ntmps153
 go_wp2_with fail
 refine (HG.out _).mono ?_; rintro e w1 ⟨rfl, hb1, hd1⟩; obtain ⟨x1, rfl⟩ := far_of_below hb1; have HD1 := hide hd1; clear hd1
 go_wp2_with fail
 refine (HH.out _).mono ?_; rintro e w2 ⟨rfl, hb2, hd2⟩; obtain ⟨x2, rfl⟩ := far_below hb2; have HD2 := hide hd2; clear hd2
 go_wp2_with fail
 refine wp_region_still_tail 10 (by kernel_rfl) (by kernel_rfl) ?_; simp only [List.take_succ_cons, List.take_zero, List.drop_succ_cons, List.drop_zero]
 repeat (first | still_step | still_call (compareU_any a b _) | still_call (Tryz.cmp_Compare_int n m _))
 try refine wpStill_nil ?_
 refine wpList_gen (fun w3 => Below w.heap.size w w3 ∧ w.drawn ≤ w3.drawn) ⟨(below_boxes w _ _ x2).drew, ?_⟩ ?_
 ·have h1 := HD1.out; have h2 := HD2.out; simp only [World.drawn_alloc, World.drawn_drew, gr_far] at h1 h2 ⊢; omega
 intro w3 ⟨hb3, hd3⟩; clear hb1 hb2 k0 k1 k2 k3 HG HH HD1 HD2
 go_wp2_with fail
 refine (or_any w3.heap.size (cmpN a b) (Lib.compareInt n m) _ (by simp) (by simp)).mono ?_; rintro e w4 ⟨rfl, rfl⟩; rw [hf.out]; go_wp2; go_ret; exact ⟨rfl, hb3.alloc (hb3.size) _, by simpa using hd3⟩
theorem gr_of {w w' : World} (hb : Below w.heap.size w w') (hd : w.drawn ≤ w'.drawn) : ∃ q os, w' = Go.Sort.grow (w.drewN q) os := by
 obtain ⟨p, rfl⟩ := regrown_of_below hb; have hd' : w.drawn ≤ p.d := hd; refine ⟨p.d - w.drawn, p.os, ?_⟩; unfold World.drewN redrawn; rw [show w.drawn + (p.d - w.drawn) = p.d by omega]
theorem run_clear_sliceK {P : Program} (w : World) (t e ty : TypeId) (z : Value) (ht : P.underlying t = some (.slice e)) (hv : ∀ w, (zeroValue e).run P w = .ok z w) (h1 : ∀ v ∈ z.cells, v.oneCell' = true) (h0 : 0 < z.cells.size) (b o n c : Nat) (hn : 0 < n)
  (hc : ∀ j, j < n * z.cells.size → (w.cell? ⟨b, o + j, none⟩).isSome = true) (hf : ∀ j, j < n * z.cells.size → w.frozen? ⟨b, o + j, none⟩ = false) :
  (Builtin.clear_ #[t] ty #[.slice (some ⟨b, o, none⟩) n c]).run P w = .ok (.tuple #[]) (w.setCells b o (Builtin.zeroCells z.cells n).toList) := by
 have hl : (Builtin.zeroCells z.cells n).toList.length = n * z.cells.size := (by simp [Builtin.zeroCells])
 have ho : ∀ v ∈ (Builtin.zeroCells z.cells n).toList, v.oneCell' = true := by
  intro v hv'; simp only [Builtin.zeroCells, Array.toList_map, List.mem_map] at hv'; obtain ⟨i, _, rfl⟩ := hv'; have hi : i % z.cells.size < z.cells.size := Nat.mod_lt _ h0; rw [getElem!_pos z.cells _ hi]; exact h1 _ (Array.getElem_mem hi)
 have hst := run_storeCells_cells (P := P) b o (Builtin.zeroCells z.cells n).toList 0 w (by rw [hl]; simpa using hc) (by rw [hl]; simpa using hf) ho; simp only [Nat.add_zero] at hst; obtain ⟨m, rfl⟩ : ∃ m, n = m + 1 := ⟨n - 1, by omega⟩
 simp [Builtin.clear_, run_underlying ht, hv, hst]
theorem clearRunP (w : World) (g o n c : Nat) (hn : 0 < n) (hc : ∀ j, j < n * 2 → (w.cell? ⟨g, o + j, none⟩).isSome = true) (hf : ∀ j, j < n * 2 → w.frozen? ⟨g, o + j, none⟩ = false) (ty : TypeId) :
  (Builtin.clear_ #[45] ty #[.slice (some ⟨g, o, none⟩) n c]).run Tryz.prog w = .ok (.tuple #[]) (w.setCells g o (Builtin.zeroCells #[.int .u32 0, .int .i64 0] n).toList) :=
 run_clear_sliceK w 45 24 ty (.agg #[.int .u32 0, .int .i64 0]) Tryz.underlying45 Tryz.zeroValue24 (by intro v hv; simp [Value.cells] at hv; rcases hv with rfl | rfl <;> rfl) (by simp [Value.cells]) g o n c hn hc hf
set_option maxRecDepth 100000 in
set_option maxHeartbeats 4000000 in
theorem pxCompact_any (base g cap : Nat) (d : Array Nat) (w : World) (h : PkRow base g cap w d) (hu : Up d) (hsz : d.size ≤ 100000) :
    Calls Tryz.prog 154 #[.slice (some ⟨g, 0, none⟩) d.size cap] w fun e w' => ∃ m, e = .returned (.slice (some ⟨g, 0, none⟩) m cap) ∧ m = (setOf d.toList).length ∧ w'.ownsRow base 24 2 (.slice (some ⟨g, 0, none⟩) m cap) m (pkC (setOf d.toList)) ∧ Below base w w' := by
  have HR := hide h; have HUp := hide hu; have hcap := h.2.2.2.2.2; have hdc := h.2.2.2.2.1; have hbg := h.2.2.1; unfold maxLen at hcap; obtain ⟨n, hn⟩ : ∃ n, d.size = n := ⟨_, rfl⟩
  have HFin : Hid (∀ (w' : World) (d' : Array Nat) (k : Nat), PkRow base g cap w' d' → CompInv d d' k d.size → w'.ownsRow base 24 2 (.slice (some ⟨g, 0, none⟩) k cap) k (pkC (setOf d.toList)) ∧ k = (setOf d.toList).length) := hide (fun w' d' k hr hi => by
    have h1 := hr.cut (k := k) (by have := hi.size; have := hi.le; omega); rw [hi.done] at h1; refine ⟨h1, ?_⟩; have := congrArg List.length hi.done; rw [List.length_take] at this; have hh := hi.size; have hl := hi.le; simp at this; omega)
  rw [hn] at hsz hdc HFin ⊢; have HN := hide hn; clear h hu hn; by_cases h2 : n < 2
  · have HF : Hid (w.ownsRow base 24 2 (.slice (some ⟨g, 0, none⟩) n cap) n (pkC (setOf d.toList)) ∧ n = (setOf d.toList).length) := hide (by
      have h1 := HR.out.1; rw [HN.out] at h1
      have e : setOf d.toList = d.toList := by
        have hl : d.toList.length = n := (by simpa using HN.out)
        match hd : d.toList, hl with
        | [], _ => rfl
        | [x], _ => rfl
        | x :: y :: l, hl => simp at hl; omega
      rw [e]; exact ⟨h1, by simpa using HN.out.symm⟩)
    go_enter Tryz.func154, Tryz.ntmps154
    go_wp2; go_ret; exact ⟨_, rfl, HF.out.2, HF.out.1, Below.refl _ _⟩
  · have HSt := hide (CompInv.start (d := d) (by rw [HN.out]; omega))
    go_enter Tryz.func154, Tryz.ntmps154
    go_wp2
    go_loopw [3] (fun i wr => ∃ k : Nat, k ≤ n ∧ i = .int .i64 k ∧ CompInv d d k k ∧ ∃ q, wr = w.drewN q) (fun i _ => n - (intOf i).toNat)
    case atStart => exact ⟨1, by omega, rfl, HSt.out, 0, rfl⟩
    case round =>
      obtain ⟨k, hk, rfl, hinv, q, rfl⟩ := hrel; have HI := hide hinv; have hk1 := hinv.le.1; clear hinv; by_cases hlt : k < n
      · obtain ⟨p, rfl⟩ : ∃ p, k = p + 1 := ⟨k - 1, by omega⟩
        obtain ⟨hc1, hd1⟩ := HR.out.cell (j := p + 1) (by rw [HN.out]; omega); obtain ⟨hc2, hd2⟩ := HR.out.cell (j := p) (by rw [HN.out]; omega); obtain ⟨x, hx⟩ : ∃ x, d[p + 1]! = x := ⟨_, rfl⟩
        obtain ⟨y, hy⟩ : ∃ y, d[p]! = y := ⟨_, rfl⟩
        rw [hx] at hc1 hd1; rw [hy] at hc2 hd2; obtain ⟨xa, hxa⟩ : ∃ a, x / 64 = a := ⟨_, rfl⟩
        obtain ⟨xm, hxm⟩ : ∃ a, x % 64 = a := ⟨_, rfl⟩
        obtain ⟨ya, hya⟩ : ∃ a, y / 64 = a := ⟨_, rfl⟩
        obtain ⟨ym, hym⟩ : ∃ a, y % 64 = a := ⟨_, rfl⟩
        rw [hxa] at hc1; rw [hxm] at hd1; rw [hya] at hc2; rw [hym] at hd2; have HX := hide hx; have HY := hide hy; have hi0 : (0 : Int) ≤ (p : Int) := (by omega)
        have hi1 : (p : Int) + 1 < (n : Int) := (by omega)
        have hi2 : (p : Int) < (n : Int) := (by omega)
        have hi3 : (0 : Int) ≤ (p : Int) + 1 := (by omega)
        have hwp : IntKind.i64.wrap (p : Int) = (p : Int) := (by rw [IntKind.wrap_i64]; omega)
        by_cases hxy : x = y
        · have HXY := hide hxy
          have HI2 : Hid (CompInv d d (p + 1) (p + 1 + (0 + 1))) := hide (by
            have := HI.out.skip (by rw [HN.out]; exact hlt) (by rw [Nat.add_sub_cancel, HX.out, HY.out]; exact HXY.out); exact this)
          obtain rfl : xa = ya := (by omega)
          obtain rfl : xm = ym := (by omega)
          have hcp : ¬ cap = p + 1 := (by omega)
          have hi4 : (p : Int) + 1 ≤ (n : Int) := (by omega)
          have hi5 : (n : Int) ≤ (cap : Int) := (by omega)
          clear hxy hx hy hxa hxm hya hym; go_wp2
          go_quiet (fail)
          go_wp2; obtain ⟨wo, hwo⟩ : ∃ wo, (w.drewN q).drewN nq = wo := ⟨_, rfl⟩
          have HRo : Hid (PkRow base g cap wo d) := hide (by rw [← hwo]; exact (HR.out.drewN q).drewN nq); have HBo : Hid (Below base w wo) := hide (by rw [← hwo]; exact below_drewN (below_drewN (Below.refl _ _) _) _); obtain ⟨p0, hp0⟩ : ∃ p0, p = p0 := ⟨_, rfl⟩
          subst hp0; clear hc1 hd1 hc2 hd2
          go_loopw [3, 5] (fun a b wr => ∃ (k r : Nat) (d' : Array Nat), a = .int .i64 k ∧ b = .int .i64 ((r : Int) + 1) ∧ r + 1 ≤ n - (p + 1) ∧ CompInv d d' k (p + 1 + (r + 1)) ∧ k < p + 1 + (r + 1) ∧ d'[p + 1 + r]! = d[p + 1 + r]! ∧ PkRow base g cap wr d' ∧ Below base w wr) (fun _ b _ => n - (intOf b).toNat)
          case atStart => exact ⟨p + 1, 0, d, by go_num, by go_num, by omega, HI2.out, by omega, rfl, by first | exact (HR.out.drewN _) | exact (HR.out.drewN _).drewN _, by first | exact below_drewN (Below.refl _ _) _ | exact below_drewN (below_drewN (Below.refl _ _) _) _⟩
          case round =>
            obtain ⟨k, r, d', rfl, rfl, hr, hinv, hkq, hrr, hrow, hbel⟩ := hrel; have HI3 := hide hinv; have HRR := hide hrr; have HR3 := hide hrow; have HB3 := hide hbel; have hds := hinv.size; have hle := hinv.le; rw [HN.out] at hds hle; clear hinv hrr hbel; by_cases hlt2 : r + 1 < n - (p + 1)
            · obtain ⟨hc3, hd3⟩ := hrow.cell (j := p + 1 + (r + 1)) (by omega); obtain ⟨hc4, hd4⟩ := hrow.cell (j := p + 1 + r) (by omega); have hfz := hrow.1.frozenAt (k * 2); have hfz2 := hrow.1.frozenAt (k * 2 + 1); obtain ⟨hck, hdk⟩ := hrow.cell (j := k) (by omega); clear hrow; obtain ⟨x2, hx2⟩ : ∃ x2, d[p + 1 + (r + 1)]! = x2 := ⟨_, rfl⟩
              obtain ⟨y2, hy2⟩ : ∃ y2, d[p + 1 + r]! = y2 := ⟨_, rfl⟩
              obtain ⟨z2, hz2⟩ : ∃ z2, d'[k]! = z2 := ⟨_, rfl⟩
              have hdx : d'[p + 1 + (r + 1)]! = x2 := by
                rcases HI3.out.rest (p + 1 + (r + 1)) (by omega) with h | h
                · rw [h, hx2]
                · omega
              rw [hdx] at hc3 hd3; rw [HRR.out, hy2] at hc4 hd4; rw [hz2] at hck hdk; have HX2 := hide hx2; have HY2 := hide hy2; have HDX := hide hdx; have hx3 : nk x2 = x2 := (by rw [← hdx]; exact HR3.out.val _)
              have HX3 := hide hx3; obtain ⟨ua, hua⟩ : ∃ a, x2 / 64 = a := ⟨_, rfl⟩
              obtain ⟨um, hum⟩ : ∃ a, x2 % 64 = a := ⟨_, rfl⟩
              obtain ⟨va, hva⟩ : ∃ a, y2 / 64 = a := ⟨_, rfl⟩
              obtain ⟨vm, hvm⟩ : ∃ a, y2 % 64 = a := ⟨_, rfl⟩
              have HSt2 := hide (fun nq => (HR3.out.drewN nq).set_ (k := k) hx3); simp only [hua, hum] at HSt2; rw [hua] at hc3; rw [hum] at hd3; rw [hva] at hc4; rw [hvm] at hd4; obtain ⟨za, hza⟩ : ∃ a, z2 / 64 = a := ⟨_, rfl⟩
              obtain ⟨zm, hzm⟩ : ∃ a, z2 % 64 = a := ⟨_, rfl⟩
              rw [hza] at hck; rw [hzm] at hdk; clear hx2 hy2 hdx hz2 hx3 hza hzm; have hj0 : (0 : Int) ≤ (r : Int) := (by omega)
              have hj1 : (0 : Int) ≤ (r : Int) + 1 := (by omega)
              have hj2 : (r : Int) + 1 < (n : Int) - ((p : Int) + 1) := (by omega)
              have hj3 : (r : Int) < (n : Int) - ((p : Int) + 1) := (by omega)
              have hj4 : (k : Int) < (n : Int) := (by omega)
              have hwr : IntKind.i64.wrap (r : Int) = (r : Int) := (by rw [IntKind.wrap_i64]; omega)
              have ho1 : 0 + (p + 1) * 2 + (r + 1) * 2 = (p + 1 + (r + 1)) * 2 := (by omega)
              have ho2 : (p + 1) * 2 + (r + 1) * 2 = (p + 1 + (r + 1)) * 2 := (by omega)
              have ho3 : (p + 1) * 2 + r * 2 = (p + 1 + r) * 2 := (by omega)
              by_cases hxy2 : x2 = y2
              · have HI4 : Hid (CompInv d d' k (p + 1 + (r + 1 + 1))) := hide (by
                  have := HI3.out.skip (by rw [HN.out]; omega) (by rw [show p + 1 + (r + 1) - 1 = p + 1 + r by omega, HX2.out, HY2.out]; exact hxy2); exact this)
                obtain rfl : ua = va := (by omega)
                obtain rfl : um = vm := (by omega)
                clear hxy2 hua hum hva hvm; go_wp2
                go_quiet (fail)
                go_wp2
                go_roundw
                case rel => exact ⟨k, r + 1, d', rfl, by go_num, by omega, HI4.out, by omega, by rw [show p + 1 + (r + 1) = p + 1 + (r + 1) from rfl, HDX.out, HX2.out], HR3.out.drewN _, below_drewN HB3.out _⟩
                case measure => simp [intOf]; omega
              · have HI4 : Hid (CompInv d (d'.setIfInBounds k x2) (k + 1) (p + 1 + (r + 1 + 1))) := hide (by
                  have := HI3.out.put HUp.out (by rw [HN.out]; omega) (by rw [show p + 1 + (r + 1) - 1 = p + 1 + r by omega, HX2.out, HY2.out]; exact hxy2); rw [HX2.out] at this; exact this)
                have hne : ¬ (ua = va ∧ um = vm) := fun h => by omega
                clear hxy2 hua hum hva hvm; by_cases hua2 : ua = va
                · subst hua2; have he2 : ((um : Int) == (vm : Int)) = false := (by simp; omega)
                  clear hne; go_wp2
                  go_quiet (fail)
                  go_wp2
                  go_roundw
                  case rel => exact ⟨k + 1, r + 1, d'.setIfInBounds k x2, by go_num, by go_num, by omega, HI4.out, by omega, by rw [get_set _ _ _ _ (by omega), if_neg (by omega), HDX.out, HX2.out], by exact HSt2.out _, by exact below_clear (by exact HR3.out.2.2.1) [_, _] (k * 2) (below_drewN HB3.out _)⟩
                  case measure => simp [intOf]; omega
                · have he2 : ((ua : Int) == (va : Int)) = false := (by simp; omega)
                  clear hne hua2; go_wp2
                  go_quiet (fail)
                  go_wp2
                  go_roundw
                  case rel => exact ⟨k + 1, r + 1, d'.setIfInBounds k x2, by go_num, by go_num, by omega, HI4.out, by omega, by rw [get_set _ _ _ _ (by omega), if_neg (by omega), HDX.out, HX2.out], by exact HSt2.out _, by exact below_clear (by exact HR3.out.2.2.1) [_, _] (k * 2) (below_drewN HB3.out _)⟩
                  case measure => simp [intOf]; omega
            · have hkn : k < n := (by omega)
              have hrn : p + 1 + (r + 1) = n := (by omega)
              have HI4 : Hid (CompInv d d' k d.size) := hide (by rw [HN.out, ← hrn]; exact HI3.out)
              have hcl := clearRunP wr g (k * 2) (n - k) (cap - k) (by omega) (fun j hj => by
                have := HR3.out.1.cellAt (k * 2 + j) (by omega); rw [this, List.getElem?_eq_getElem (by rw [pkC_len]; simp; omega)]
                rfl) (fun j hj => HR3.out.1.frozenAt (k * 2 + j))
              have HF : Hid (wr.ownsRow base 24 2 (.slice (some ⟨g, 0, none⟩) k cap) k (pkC (setOf d.toList)) ∧ k = (setOf d.toList).length) := hide (HFin.out wr d' k HR3.out (by have := HI4.out; rwa [HN.out] at this)); have hck : ¬ cap = k := (by omega)
              have hj4 : (k : Int) < (n : Int) := (by omega)
              clear hrow hrn; go_wp2; go_ret; exact ⟨_, rfl, HF.out.2, own_clearK _ _ HF.out.1 (Nat.le_refl _), below_clear (by exact HR3.out.2.2.1) _ _ HB3.out⟩
        · have HI2 := hide (HI.out.grow HUp.out (by rw [HN.out]; exact hlt) (by rw [Nat.add_sub_cancel, HX.out, HY.out]; exact hxy)); have hne : ¬ (xa = ya ∧ xm = ym) := fun h => by omega
          clear hxy hx hy hxa hxm hya hym; by_cases hxa2 : xa = ya
          · subst hxa2; have he : ((xm : Int) == (ym : Int)) = false := (by simp; omega)
            clear hne; go_wp2
            go_quiet (fail)
            go_wp2
            go_roundw
            case rel => exact ⟨p + 1 + 1, by omega, by go_num, HI2.out, _, rfl⟩
            case measure => simp [intOf]; omega
          · have he : ((xa : Int) == (ya : Int)) = false := (by simp; omega)
            clear hne hxa2; go_wp2
            go_quiet (fail)
            go_wp2
            go_roundw
            case rel => exact ⟨p + 1 + 1, by omega, by go_num, HI2.out, _, rfl⟩
            case measure => simp [intOf]; omega
      · obtain rfl : k = n := (by omega)
        have HF := hide (HFin.out (w.drewN q) d k (HR.out.drewN q) (by have := HI.out; rwa [← HN.out] at this ⊢)); go_wp2; go_ret; exact ⟨_, rfl, HF.out.2, HF.out.1, below_drewN (Below.refl _ _) _⟩
end Go.Proofs.YtcinjckajnnhmaaGreat
set_option linter.unusedSimpArgs false
set_option linter.unusedVariables false
namespace Go.Proofs.YtcinjckajnnhmaaGreat
open Go.RowKit Go.WideShapes Go.ChangeShapes
attribute [local go_sem] Oper.semAt_some
theorem ltK (x y : Nat) : ltOf cfK x y = decide (nk x < nk y) := by
 unfold ltOf cfK; by_cases h : nk x < nk y
 ·simp [h]
 ·rw [if_neg h]; by_cases h2 : nk x = nk y
  ·simp [h2]
  ·simp [h, h2]
theorem swoK : Go.Sort.SWO (ltOf cfK) := by
 refine ⟨fun x => ?_, fun x y z h1 h2 => ?_, fun x y z h1 h2 => ?_⟩
 ·rw [ltK]; simp
 ·rw [ltK] at *; simp at *; omega
 ·rw [ltK] at *; simp at *; omega
theorem flatK_pk (d : Array Nat) : Go.Sort.flatK enK 2 d = (pkC d.toList).toArray := by
 refine Go.Sort.ext_get! (by simp [pkC_len]) fun t ht => ?_; have ht' : t < d.size * 2 := (by simpa using ht)
 rw [Go.Sort.get_flatK _ _ _ _ ht']; have hx : d.toList[t / 2]? = some d[t / 2]! := (by simp [show t / 2 < d.size by omega])
 have h1 := flat2 enK enK_len d.toList (t / 2) (t % 2) _ hx (by omega); rw [show t / 2 * 2 + t % 2 = t by omega] at h1; have h2 : t % 2 < (enK d[t / 2]!).length := (by rw [enK_len]; omega)
 have h3 : t < (pkC d.toList).toArray.size := (by simp [pkC_len]; omega)
 rw [getElem!_pos (enK d[t / 2]!) _ h2, getElem!_pos (pkC d.toList).toArray _ h3]; have h4 : t < (d.toList.flatMap enK).length := (by rw [flat2_len enK enK_len]; simpa using ht')
 rw [List.getElem?_eq_getElem h2, List.getElem?_eq_getElem h4] at h1; exact (Option.some.inj h1).symm
theorem PkRow.holds {base g cap : Nat} {w : World} {d : Array Nat} (h : PkRow base g cap w d) : Go.Sort.HoldsK enK 2 w g 0 d := by
 unfold Go.Sort.HoldsK; rw [flatK_pk]; intro t ht; have ht' : t < d.size * 2 := (by simpa [pkC_len] using ht)
 refine ⟨?_, h.1.frozenAt _⟩; rw [Nat.zero_add, h.1.cellAt t ht', getElem!_pos _ t ht]; simp [show t < (pkC d.toList).length by rw [pkC_len]; simpa using ht']
theorem PkRow.sorted {base g cap n : Nat} {w : World} {d d' : Array Nat} {os : Array Obj} (h : PkRow base g cap w d) (hs : d'.size = d.size) (hv : ∀ x ∈ d'.toList, nk x = x) :
  PkRow base g cap (sortWorldK enK 2 w g 0 n d' os) d' ∧ Below base w (sortWorldK enK 2 w g 0 n d' os) := by
 have hH := h.holds; unfold Go.Sort.HoldsK at hH; rw [flatK_pk] at hH; have hlen : (pkC d'.toList).length = (pkC d.toList).length := (by rw [pkC_len, pkC_len]; simp [hs])
 have e : sortWorldK enK 2 w g 0 n d' os = Go.Sort.grow ((w.drewN n).setCells g 0 (pkC d'.toList)) os := by
  unfold sortWorldK Go.Sort.putRowK; rw [flatK_pk, Go.Lib.putRow_eq_setCells id w g 0 (pkC d.toList).toArray (pkC d'.toList) n hH (by simp [hlen]), List.map_id]
 rw [e]; have h1 := own_setCellsK (pkC d'.toList) 0 (h.drewN n).1 (by rw [Nat.zero_add, pkC_len]; simp [hs])
 have e2 : List.take 0 (pkC d.toList) ++ pkC d'.toList ++ List.drop (0 + (pkC d'.toList).length) (pkC d.toList) = pkC d'.toList := by
  rw [Nat.zero_add, hlen, List.drop_length]; simp
 rw [e2] at h1; have hb1 : Below base w ((w.drewN n).setCells g 0 (pkC d'.toList)) := below_clear h.2.2.1 _ _ (below_drewN (Below.refl _ _) _); have hgs : Below ((w.drewN n).setCells g 0 (pkC d'.toList)).heap.size ((w.drewN n).setCells g 0 (pkC d'.toList)) (Go.Sort.grow ((w.drewN n).setCells g 0 (pkC d'.toList)) os) := Lib.below_grow _ _ (Nat.le_refl _) 0 os; have hbs : base ≤ w.heap.size := Nat.le_trans h.2.2.1 (Nat.le_of_lt h.2.2.2.1); have hszs : ((w.drewN n).setCells g 0 (pkC d'.toList)).heap.size = w.heap.size := sizeSetCells _ _ _ _; refine ⟨⟨?_, hv, h.2.2.1, Nat.lt_of_lt_of_le (by rw [hszs]; exact h.2.2.2.1) hgs.size, by rw [hs]; exact h.2.2.2.2.1, h.2.2.2.2.2⟩, hb1.trans (hgs.mono (by rw [hszs]; exact hbs))⟩; have := own_kept h1 hgs; rw [hs]; exact this
theorem up_of_sorted {d : Array Nat} (h : Go.Sort.SortedIn (ltOf cfK) 0 d.size d) (hv : ∀ j : Nat, nk (d[j]! : Nat) = d[j]!) : Up d := by
 intro i hi; have := h i (i + 1) (Nat.zero_le _) (by omega) hi; rw [ltK, hv, hv] at this; simpa using this
theorem cmpLaysK (g off size : Nat) (w : World) : CmpLays Tryz.prog 153 #[] enK 2 cfK g off size w := by
 intro m os dk hs x y; refine (cmpD _ _ _ _ (nk_pg x) (nk_pg y) _).mono ?_; rintro e w' ⟨rfl, hb, hd⟩; rw [cmpK]; exact ⟨rfl, gr_of hb hd⟩
theorem enK_one (x : Nat) : ∀ v ∈ enK x, v.oneCell' = true := by
 intro v hv; simp [enK] at hv; rcases hv with rfl | rfl <;> rfl
theorem permIn_whole {d d' : Array Nat} (h : Go.Sort.PermIn 0 d.size d d') : d'.size = d.size ∧ d'.toList.Perm d.toList := by
 obtain ⟨h1, _, h3⟩ := h; refine ⟨h1, ?_⟩; have e1 : d.extract 0 d.size = d := (by simp)
 have e2 : d'.extract 0 d.size = d' := (by rw [← h1]; simp)
 rw [e1, e2] at h3; exact h3
theorem pxSortF_any (base g cap : Nat) (d : Array Nat) (w : World) (h : PkRow base g cap w d) (hsz : d.size ≤ 100000) :
  Calls Tryz.prog 152 #[.slice (some ⟨g, 0, none⟩) d.size cap, .func (.func 153) #[] #[]] w fun e w' => e = .returned (.tuple #[]) ∧ ∃ d' : Array Nat, PkRow base g cap w' d' ∧ Up d' ∧ d'.size = d.size ∧ d'.toList.Perm d.toList ∧ Below base w w' := by
 refine (Tryz.slices_SortFunc_px enK enK_len enK_one cfK swoK 153 #[] g 0 cap d w (fun args W => by simp [callFunc, go_sem, Tryz.func153]; rfl) (cmpLaysK g 0 d.size w) h.holds h.2.2.2.1 (by omega)).mono ?_; rintro e w' ⟨rfl, d', n, os, hp, hs, rfl⟩; obtain ⟨hz, hpm⟩ := permIn_whole hp; have hv : ∀ x ∈ d'.toList, nk x = x := fun x hx => h.2.1 x ((hpm.mem_iff).1 hx); obtain ⟨hr, hb⟩ := h.sorted (n := n) (os := os) hz hv; exact ⟨rfl, d', hr, up_of_sorted (by rw [hz]; exact hs) (fun j => hr.val j), hz, hpm, hb⟩
theorem sortP_perm {l r : List Nat} (h : l.Perm r) : setOf l = setOf r :=
 rise_ext (setOf_rise _) (setOf_rise _) (fun x => by rw [setOf_mem, setOf_mem]; exact h.mem_iff)
theorem sortP_mem {l : List (Nat × Nat)} (hg : ∀ x ∈ l, PG x.1 x.2) (x : Nat × Nat) : x ∈ sortP l ↔ x ∈ l := by
 unfold sortP; constructor
 ·intro hx; obtain ⟨k, hk, rfl⟩ := List.mem_map.1 hx; rw [setOf_mem] at hk; obtain ⟨y, hy, rfl⟩ := List.mem_map.1 hk
  rwa [unK_pK (hg y hy)]
 ·intro hx; exact List.mem_map.2 ⟨pK x, (setOf_mem _ _).2 (List.mem_map.2 ⟨x, hx, rfl⟩), unK_pK (hg x hx)⟩
theorem pkC_map {l : List (Nat × Nat)} (hg : ∀ x ∈ l, PG x.1 x.2) : pkC (l.map pK) = pxC l := by
 rw [pkC_pxC _ (fun x hx => by obtain ⟨y, hy, rfl⟩ := List.mem_map.1 hx; exact nk_pK (hg y hy)), map_unK hg]
theorem pkC_setOf {l : List (Nat × Nat)} (hg : ∀ x ∈ l, PG x.1 x.2) : pkC (setOf (l.map pK)) = pxC (sortP l) :=
  pkC_pxC _ (fun x hx => by
    rw [setOf_mem] at hx; obtain ⟨y, hy, rfl⟩ := List.mem_map.1 hx; exact nk_pK (hg y hy))
set_option maxRecDepth 100000 in
set_option maxHeartbeats 4000000 in
theorem nSort_any (A : Option Addr) (n c : Nat) (l : List (Nat × Nat)) (w : World) (h : LstAt 2 pxR w A n c l) (hg : ∀ x ∈ l, PG x.1 x.2) (hn : n ≤ 100000) :
    Calls Tryz.prog 87 #[.slice A n c] w fun e w' => ∃ A' c', e = .returned (.slice A' (sortP l).length c') ∧ w'.ownsRow w.heap.size 24 2 (.slice A' (sortP l).length c') (sortP l).length (pxC (sortP l)) ∧ Below w.heap.size w w' := by
  have H1 := hide (pxClone_any A n c l w h hn); have H2 := hide (fun A c W (h : LstAt 2 pxR W A n c l) => pxDelete_good A n c l W h hg); have H3 := hide (fun f W => pxSortF_nil f W); have H4 := hide (fun W => pxCompact_nil W); have H5 := hide (fun base g cap (d : Array Nat) W (hr : PkRow base g cap W d) (hz : d.size ≤ 100000) => pxSortF_any base g cap d W hr hz); have H6 := hide (fun base g cap (d : Array Nat) W (hr : PkRow base g cap W d) hu (hz : d.size ≤ 100000) => pxCompact_any base g cap d W hr hu hz); have HG := hide hg; have hln := h.1; clear h hg
  go_enter Tryz.func87, Tryz.ntmps87
  go_wp2_with fail
  refine H1.out.mono ?_; rintro e w1 ⟨v, rfl, ho, hb1⟩; rcases ho.2 with ⟨rfl, h0⟩ | ⟨g, cap, cur, rfl, hbg, hcur, hnc, hcm, _, _⟩
  · subst h0; have hl : l = [] := List.eq_nil_of_length_eq_zero hln; have HB1 := hide hb1; have HE : Hid (sortP l = []) := hide (by rw [hl]; rfl); have H2' := hide (H2.out none 0 w1 (by rw [hl]; exact LstAt.none_)); clear ho hb1 hl
    go_wp2_with fail
    refine H2'.out.mono ?_; rintro e w2 ⟨rfl, hb2⟩; have HB2 := hide (HB1.out.trans (hb2.mono HB1.out.size)); clear hb2
    go_wp2_with fail
    refine (H3.out _ _).mono ?_; rintro e w3 ⟨rfl, rfl⟩
    go_wp2_with fail
    refine (H4.out _).mono ?_; rintro e w3 ⟨rfl, rfl⟩; go_wp2; go_ret; refine ⟨none, 0, by rw [HE.out]; rfl, ?_, HB2.out⟩; rw [HE.out]; exact World.ownsRow_nil _ _ _ _
  · have hgl : g < w1.heap.size := (Array.getElem?_eq_some_iff.1 hcur).1; obtain ⟨d, hd⟩ : ∃ d : Array Nat, (l.map pK).toArray = d := ⟨_, rfl⟩
    have hdt : d.toList = l.map pK := (by rw [← hd])
    have hds : d.size = n := (by rw [← hd]; simp [hln])
    have hbs := hb1.size
    have HR1 : Hid (PkRow w.heap.size g cap w1 d) := hide ⟨by rw [hdt, pkC_map HG.out, hds]; exact ho, fun x hx => by
      rw [hdt] at hx; obtain ⟨y, hy, rfl⟩ := List.mem_map.1 hx; exact nk_pK (HG.out y hy), hbg, hgl, by omega, hcm⟩
    have H2' := hide (H2.out (some ⟨g, 0, none⟩) cap w1 (own_pxs ho)); have HB1 := hide hb1; have HDt := hide hdt; have HDs := hide hds; clear ho hb1 hd hdt hds hcur
    go_wp2_with fail
    refine H2'.out.mono ?_; rintro e w2 ⟨rfl, hb2⟩; have HB2 := hide (HB1.out.trans (hb2.mono HB1.out.size)); have HR2 : Hid (PkRow w.heap.size g cap w2 d) := hide ⟨own_kept HR1.out.1 hb2, HR1.out.2.1, HR1.out.2.2.1, Nat.lt_of_lt_of_le HR1.out.2.2.2.1 hb2.size, HR1.out.2.2.2.2⟩; have H5' := hide (H5.out _ _ _ d w2 HR2.out (by rw [HDs.out]; exact hn)); rw [HDs.out] at H5'; clear hb2
    go_wp2_with fail
    refine H5'.out.mono ?_; rintro e w3 ⟨rfl, d', hr3, hu3, hz3, hp3, hb3⟩; have HR3 := hide hr3; have HP3 := hide hp3; have HZ3 := hide hz3; have HB3 := hide (HB2.out.trans hb3); have H6' := hide (H6.out _ _ _ d' w3 hr3 hu3 (by rw [hz3]; exact hn)); rw [hz3] at H6'; clear hr3 hu3 hz3 hp3 hb3
    go_wp2_with fail
    refine H6'.out.mono ?_; rintro e w4 ⟨m, rfl, hm, ho4, hb4⟩; have HM := hide hm; have HO4 := hide ho4; have HB4 := hide (HB3.out.trans hb4); clear hm ho4 hb4; go_wp2; go_ret; have e1 : setOf d'.toList = setOf (l.map pK) := (by rw [sortP_perm HP3.out, HDt.out])
    have e2 : (sortP l).length = m := (by rw [HM.out, e1]; simp [sortP])
    have ho := HO4.out; rw [e1, pkC_setOf HG.out] at ho; exact ⟨some ⟨g, 0, none⟩, cap, by rw [e2]; rfl, by rw [e2]; exact ho, HB4.out⟩
end Go.Proofs.YtcinjckajnnhmaaGreat
set_option linter.unusedSimpArgs false
set_option linter.unusedVariables false
namespace Go.Proofs.YtcinjckajnnhmaaGreat
open Go.RowKit Go.WideShapes Go.ChangeShapes
attribute [local go_sem] Oper.semAt_some
def pfR (_ : World) (vs : List Value) (x : Nat × Nat) : Prop := ∃ h o A n c hp md pf aa ai B m d, vs = [.int .u32 (x.1 : Int), .int .i64 (x.2 : Int), .int .i64 h, .int .i64 o, .slice A n c, .int .u32 hp, .int .u32 md, .int .u32 pf, .int .u32 aa, .int .u32 ai, .slice B m d]
def RowK (B0 : Nat) (w : World) (v : Value) (K : List (Nat × Nat)) : Prop := ∃ A c xs, v = .slice A K.length c ∧ w.ownsRow B0 71 11 (.slice A K.length c) K.length xs ∧ Chunks 11 pfR w xs K
theorem pfMono : SMono pfR := fun _ _ _ _ _ h => h
theorem pfOne : SOne pfR := by
 rintro w vs x ⟨h, o, A, n, c, hp, md, pf, aa, ai, B, m, d, rfl⟩ u hu; simp only [List.mem_cons, List.not_mem_nil, or_false] at hu; rcases hu with rfl | rfl | rfl | rfl | rfl | rfl | rfl | rfl | rfl | rfl | rfl <;> rfl
theorem RowK.below {B0 : Nat} {w w' : World} {v : Value} {K : List (Nat × Nat)} (h : RowK B0 w v K) (hb : Below w.heap.size w w') : RowK B0 w' v K := by
 obtain ⟨A, c, xs, e, h1, h2⟩ := h; exact ⟨A, c, xs, e, own_below h1 hb, h2.mono_ pfMono hb⟩
theorem RowK.of_low {B0 B1 : Nat} {w : World} {A : Option Addr} {n c : Nat} {L : List (Nat × Nat × AT)} {xs : List Value} (h : LOw 11 71 tdR w B1 B1 A n c (L.map tdN) xs) (hB : B0 ≤ B1) : RowK B0 w (.slice A n c) (keyL L) := by
 have hn : (keyL L).length = n := (by have := (h.lst (by decide)).1; unfold keyL; rw [List.length_map] at this ⊢; exact this)
 refine ⟨A, c, xs, by rw [hn], by rw [hn]; exact own_baseLe h.1 hB, ?_, fun k x hk => ?_⟩
 ·have := h.2.1; unfold keyL
  rwa [List.length_map] at this ⊢
 ·unfold keyL at hk; rw [List.getElem?_map] at hk
  cases hz : L[k]? with
  | none => rw [hz] at hk; simp at hk
  | some z =>
   rw [hz] at hk; simp only [Option.map_some, Option.some.injEq] at hk; subst hk; obtain ⟨A1, k1, c1, B1, m1, d1, e, _⟩ := (h.2.2 k (tdN z) (by rw [List.getElem?_map, hz]; rfl)).here; exact ⟨_, _, _, _, _, _, _, _, _, _, _, _, _, e⟩
structure TwoX (i j k : Nat) (B0 : Nat) (K1 K2 : List (Nat × Nat)) (D : Nat → Bool) (u : Nat → Value) (w : World) : Prop where
  d1 : D k = true → D i = true ∧ D j = true
  a : D i = true → D k = false → RowK B0 w (u i) K1
  b : D j = true → D k = false → RowK B0 w (u j) K2
  c : D k = true → RowK B0 w (u k) (K1 ++ K2)
section
variable {i j k B0 : Nat} {K1 K2 : List (Nat × Nat)} {D : Nat → Bool} {u : Nat → Value} {w w' : World} {v : Value}
theorem two_start (u : Nat → Value) (w : World) : TwoX i j k B0 K1 K2 (fun _ => false) u w := by constructor <;> intro h <;> cases h
theorem two_other {q : Nat} (h : TwoX i j k B0 K1 K2 D u w) (hb : Below w.heap.size w w') (h1 : q ≠ i) (h2 : q ≠ j) (h3 : q ≠ k) : TwoX i j k B0 K1 K2 (updD D q) (updU u q v) w' := by
 have e : ∀ x, x ≠ q → updD D q x = D x ∧ updU u q v x = u x := fun x hx => by simp [updD, updU, hx]
 refine ⟨?_, ?_, ?_, ?_⟩
 ·rw [(e i h1.symm).1, (e j h2.symm).1, (e k h3.symm).1]; exact h.d1
 ·rw [(e i h1.symm).1, (e k h3.symm).1, (e i h1.symm).2]; exact fun x y => (h.a x y).below hb
 ·rw [(e j h2.symm).1, (e k h3.symm).1, (e j h2.symm).2]; exact fun x y => (h.b x y).below hb
 ·rw [(e k h3.symm).1, (e k h3.symm).2]; exact fun x => (h.c x).below hb
theorem two_a (h : TwoX i j k B0 K1 K2 D u w) (hb : Below w.heap.size w w') (hij : i ≠ j) (hik : i ≠ k) (hno : D i = false) (hr : RowK B0 w' v K1) : TwoX i j k B0 K1 K2 (updD D i) (updU u i v) w' := by
 have hk : D k = false := by
  cases hk : D k with
  | false => rfl
  | true => have := (h.d1 hk).1; rw [hno] at this; cases this
 refine ⟨?_, ?_, ?_, ?_⟩
 ·simp [updD, hik.symm, hk]
 ·simp only [updU, if_pos]; exact fun _ _ => hr
 ·simp only [updU, updD, if_neg hij.symm, if_neg hik.symm]; exact fun x y => (h.b x y).below hb
 ·simp [updD, hik.symm, hk]
theorem two_b (h : TwoX i j k B0 K1 K2 D u w) (hb : Below w.heap.size w w') (hij : i ≠ j) (hjk : j ≠ k) (hno : D j = false) (hr : RowK B0 w' v K2) : TwoX i j k B0 K1 K2 (updD D j) (updU u j v) w' := by
 have hk : D k = false := by
  cases hk : D k with
  | false => rfl
  | true => have := (h.d1 hk).2; rw [hno] at this; cases this
 refine ⟨?_, ?_, ?_, ?_⟩
 ·simp [updD, hjk.symm, hk]
 ·simp only [updU, updD, if_neg hij, if_neg hjk.symm]; exact fun x y => (h.a x y).below hb
 ·simp only [updU, if_pos]; exact fun _ _ => hr
 ·simp [updD, hjk.symm, hk]
theorem two_c (hik : i ≠ k) (hjk : j ≠ k) (h1 : D i = true) (h2 : D j = true) (hr : RowK B0 w' v (K1 ++ K2)) : TwoX i j k B0 K1 K2 (updD D k) (updU u k v) w' := by
 refine ⟨?_, ?_, ?_, ?_⟩
 ·simp [updD, hik, hjk, h1, h2]
 ·simp [updD]
 ·simp [updD]
 ·simp only [updU, if_pos]; exact fun _ => hr
end
set_option maxRecDepth 100000 in
set_option maxHeartbeats 8000000 in
theorem pendG_any (r ga gt m l : Nat) (Fa Ft : Nat → Prop) (ta tt : Tr AT) (w : World) (h : RSt r ga gt m l Fa Ft ta tt w) (hct : trCnt ta + trCnt tt ≤ 90000) :
  Calls Tryz.prog 25 #[.pointer (some ⟨r, 0, none⟩)] w fun e w' => ∃ A n c, e = .returned (.slice A n c) ∧ LstAt 2 pxR w' A n c (sortP (keyL ((trL ta).filter (lackG tt)) ++ keyL ((trL tt).filter (lackG ta)))) ∧ Below w.heap.size w w' := by
 obtain ⟨i0, hi, hz0, hz1, hz2⟩ := info_parts toldInfo; obtain ⟨j0, hj, hy0, hy1, hy2⟩ := info_parts pxInfo; have HLa := hide (fun W (hb : Below w.heap.size w W) => lacksG_any Fa Ft ga gt ta tt W (h.aim.below hb) (h.told.below hb) (fun z hz => (h.paths.1 z hz).1) (fun z hz => (h.paths.2 z hz).2)); have HLb := hide (fun W (hb : Below w.heap.size w W) => lacksG_any Ft Fa gt ga tt ta W (h.told.below hb) (h.aim.below hb) (fun z hz => (h.paths.2 z hz).1) (fun z hz => (h.paths.1 z hz).2))
 have hl1 : (keyL ((trL ta).filter (lackG tt))).length ≤ trCnt ta := by
  have := List.length_filter_le (lackG tt) (trL ta); rw [trL_len] at this; unfold keyL; rw [List.length_map]; exact this
 have hl2 : (keyL ((trL tt).filter (lackG ta))).length ≤ trCnt tt := by
  have := List.length_filter_le (lackG ta) (trL tt); rw [trL_len] at this; unfold keyL; rw [List.length_map]; exact this
 have hg : ∀ x ∈ keyL ((trL ta).filter (lackG tt)) ++ keyL ((trL tt).filter (lackG ta)), PG x.1 x.2 := fun x hx => by
  unfold keyL at hx; rcases List.mem_append.1 hx with hx | hx
  ·obtain ⟨z, hz, rfl⟩ := List.mem_map.1 hx; exact trGet_pg ta h.aim.tree.wf ((trL_mem ta h.aim.tree.wf).1 (List.mem_filter.1 hz).1)
  ·obtain ⟨z, hz, rfl⟩ := List.mem_map.1 hx; exact trGet_pg tt h.told.tree.wf ((trL_mem tt h.told.tree.wf).1 (List.mem_filter.1 hz).1)
 obtain ⟨K1, hK1⟩ : ∃ K, keyL ((trL ta).filter (lackG tt)) = K := ⟨_, rfl⟩
 obtain ⟨K2, hK2⟩ : ∃ K, keyL ((trL tt).filter (lackG ta)) = K := ⟨_, rfl⟩
 rw [hK1] at hl1 hg ⊢; rw [hK2] at hl2 hg ⊢; have HEK1 := hide hK1; have HEK2 := hide hK2; obtain ⟨K, hK⟩ : ∃ K, K1 ++ K2 = K := ⟨_, rfl⟩
 rw [hK] at hg ⊢; have HKK := hide hK; have HG := hide hg; obtain ⟨N, hN⟩ : ∃ N, K1.length + K2.length = N := ⟨_, rfl⟩
 have HN12 := hide hN; have hN9 : N ≤ 90000 := (by omega)
 have HRr := hide h.blk; have z0 := h.blk.lt; clear h hct hK1 hK2 hg z0 hK; have hl1 : K1.length ≤ 90000 := (by omega)
 have hl2 : K2.length ≤ 90000 := (by omega)
 clear hN
 go_enter Tryz.func25, Tryz.ntmps25
 go_upto_region 4 with fail
 have Hmn := hide (show AllMono [(fun v _ => v = .pointer (some ⟨r, 0, none⟩)), (fun v _ => v = .pointer (some ⟨r, 0, none⟩)), (fun v _ => v = .pointer (some ⟨r, 0, none⟩)), (fun v _ => v = .pointer (some ⟨ga, 0, none⟩)), (fun v _ => v = .pointer (some ⟨r, 0, none⟩)), (fun v _ => v = .pointer (some ⟨r, 0, none⟩)), (fun v _ => v = .pointer (some ⟨r, 1, none⟩)), (fun v _ => v = .pointer (some ⟨gt, 0, none⟩)), (fun v _ => ∃ A c, v = .slice A K1.length c), (fun v _ => v = .pointer (some ⟨r, 0, none⟩)), (fun v _ => v = .pointer (some ⟨r, 0, none⟩)), (fun v _ => v = .pointer (some ⟨r, 1, none⟩)), (fun v _ => v = .pointer (some ⟨gt, 0, none⟩)), (fun v _ => v = .pointer (some ⟨r, 0, none⟩)), (fun v _ => v = .pointer (some ⟨r, 0, none⟩)), (fun v _ => v = .pointer (some ⟨r, 0, none⟩)), (fun v _ => v = .pointer (some ⟨ga, 0, none⟩)), (fun v _ => ∃ A c, v = .slice A K2.length c), (fun v _ => ∃ A c, v = .slice A N c), (fun v _ => v = .int .i64 (N : Int)), (fun v _ => v = .int .i64 0)] from ⟨fun _ _ _ _ h => h, fun _ _ _ _ h => h, fun _ _ _ _ h => h, fun _ _ _ _ h => h, fun _ _ _ _ h => h, fun _ _ _ _ h => h, fun _ _ _ _ h => h, fun _ _ _ _ h => h, fun v w1 w2 hb h => h, fun _ _ _ _ h => h, fun _ _ _ _ h => h, fun _ _ _ _ h => h, fun _ _ _ _ h => h, fun _ _ _ _ h => h, fun _ _ _ _ h => h, fun _ _ _ _ h => h, fun _ _ _ _ h => h, fun v w1 w2 hb h => h, fun _ _ _ _ h => h, fun _ _ _ _ h => h, fun _ _ _ _ h => h, trivial⟩); have Hfl := hide (show AllFlat [(fun v _ => v = .pointer (some ⟨r, 0, none⟩)), (fun v _ => v = .pointer (some ⟨r, 0, none⟩)), (fun v _ => v = .pointer (some ⟨r, 0, none⟩)), (fun v _ => v = .pointer (some ⟨ga, 0, none⟩)), (fun v _ => v = .pointer (some ⟨r, 0, none⟩)), (fun v _ => v = .pointer (some ⟨r, 0, none⟩)), (fun v _ => v = .pointer (some ⟨r, 1, none⟩)), (fun v _ => v = .pointer (some ⟨gt, 0, none⟩)), (fun v _ => ∃ A c, v = .slice A K1.length c), (fun v _ => v = .pointer (some ⟨r, 0, none⟩)), (fun v _ => v = .pointer (some ⟨r, 0, none⟩)), (fun v _ => v = .pointer (some ⟨r, 1, none⟩)), (fun v _ => v = .pointer (some ⟨gt, 0, none⟩)), (fun v _ => v = .pointer (some ⟨r, 0, none⟩)), (fun v _ => v = .pointer (some ⟨r, 0, none⟩)), (fun v _ => v = .pointer (some ⟨r, 0, none⟩)), (fun v _ => v = .pointer (some ⟨ga, 0, none⟩)), (fun v _ => ∃ A c, v = .slice A K2.length c), (fun v _ => ∃ A c, v = .slice A N c), (fun v _ => v = .int .i64 (N : Int)), (fun v _ => v = .int .i64 0)] from by repeat (first | exact trivial | refine ⟨fun _ _ _ h => h, ?_⟩)); refine wp_region_relX 21 w.heap.size (Nat.le_refl _) [(fun v _ => v = .pointer (some ⟨r, 0, none⟩)), (fun v _ => v = .pointer (some ⟨r, 0, none⟩)), (fun v _ => v = .pointer (some ⟨r, 0, none⟩)), (fun v _ => v = .pointer (some ⟨ga, 0, none⟩)), (fun v _ => v = .pointer (some ⟨r, 0, none⟩)), (fun v _ => v = .pointer (some ⟨r, 0, none⟩)), (fun v _ => v = .pointer (some ⟨r, 1, none⟩)), (fun v _ => v = .pointer (some ⟨gt, 0, none⟩)), (fun v _ => ∃ A c, v = .slice A K1.length c), (fun v _ => v = .pointer (some ⟨r, 0, none⟩)), (fun v _ => v = .pointer (some ⟨r, 0, none⟩)), (fun v _ => v = .pointer (some ⟨r, 1, none⟩)), (fun v _ => v = .pointer (some ⟨gt, 0, none⟩)), (fun v _ => v = .pointer (some ⟨r, 0, none⟩)), (fun v _ => v = .pointer (some ⟨r, 0, none⟩)), (fun v _ => v = .pointer (some ⟨r, 0, none⟩)), (fun v _ => v = .pointer (some ⟨ga, 0, none⟩)), (fun v _ => ∃ A c, v = .slice A K2.length c), (fun v _ => ∃ A c, v = .slice A N c), (fun v _ => v = .int .i64 (N : Int)), (fun v _ => v = .int .i64 0)] (TwoX 8 17 18 w.heap.size K1 K2) (by kernel_rfl) (by kernel_rfl) (by kernel_rfl) (by kernel_rfl) (by kernel_rfl) (two_start _ _) ⟨?_, ?_, ?_, ?_, ?_, ?_, ?_, ?_, ?_, ?_, ?_, ?_, ?_, ?_, ?_, ?_, ?_, ?_, ?_, ?_, ?_, trivial⟩ ?_
 ·refine relX_plain rfl rfl Hmn.out (Nat.le_refl _) (fun D u v wa wb hb h => two_other h hb (by decide) (by decide) (by decide)) ?_; intro Dn Ac w5 hp; have a0 : Ac.eval (.tmp 0) = .pointer (some ⟨r, 0, none⟩) := hp.out 0 (by rfl); exact relPureX (.pointer (some ⟨r, 0, none⟩)) (fun ρ hρ h1 h2 h3 => by rw [hρ] at a0; simp [go_sem, ↓IntWalk.iteOmega, *]) rfl
 ·refine relX_plain rfl rfl Hmn.out (Nat.le_refl _) (fun D u v wa wb hb h => two_other h hb (by decide) (by decide) (by decide)) ?_; intro Dn Ac w5 hp; have a8 : Ac.eval (.tmp 8) = .pointer (some ⟨r, 0, none⟩) := hp.dep 0 (by kernel_rfl); exact relPureX (.pointer (some ⟨r, 0, none⟩)) (fun ρ hρ h1 h2 h3 => by rw [hρ] at a8; simp [go_sem, ↓IntWalk.iteOmega, *]) rfl
 ·refine relX_plain rfl rfl Hmn.out (Nat.le_refl _) (fun D u v wa wb hb h => two_other h hb (by decide) (by decide) (by decide)) ?_; intro Dn Ac w5 hp; have a9 : Ac.eval (.tmp 9) = .pointer (some ⟨r, 0, none⟩) := hp.dep 1 (by kernel_rfl); exact relPureX (.pointer (some ⟨r, 0, none⟩)) (fun ρ hρ h1 h2 h3 => by rw [hρ] at a9; simp [go_sem, ↓IntWalk.iteOmega, *]) rfl
 ·refine relX_plain rfl rfl Hmn.out (Nat.le_refl _) (fun D u v wa wb hb h => two_other h hb (by decide) (by decide) (by decide)) ?_; intro Dn Ac w5 hp; have hb := hp.bel; have a10 : Ac.eval (.tmp 10) = .pointer (some ⟨r, 0, none⟩) := hp.dep 2 (by kernel_rfl); have hr5 := HRr.out.below hb HRr.out.lt; have z0 : w5.cell? ⟨r, 0, none⟩ = some (.pointer (some ⟨ga, 0, none⟩)) := hr5.cell 0; have z1 : w5.cell? ⟨r, 1, none⟩ = some (.pointer (some ⟨gt, 0, none⟩)) := hr5.cell 1; exact relPureX (.pointer (some ⟨ga, 0, none⟩)) (fun ρ hρ h1 h2 h3 => by rw [hρ] at a10; simp [go_sem, ↓IntWalk.iteOmega, *]) rfl
 ·refine relX_plain rfl rfl Hmn.out (Nat.le_refl _) (fun D u v wa wb hb h => two_other h hb (by decide) (by decide) (by decide)) ?_; intro Dn Ac w5 hp; have a0 : Ac.eval (.tmp 0) = .pointer (some ⟨r, 0, none⟩) := hp.out 0 (by rfl); exact relPureX (.pointer (some ⟨r, 0, none⟩)) (fun ρ hρ h1 h2 h3 => by rw [hρ] at a0; simp [go_sem, ↓IntWalk.iteOmega, *]) rfl
 ·refine relX_plain rfl rfl Hmn.out (Nat.le_refl _) (fun D u v wa wb hb h => two_other h hb (by decide) (by decide) (by decide)) ?_; intro Dn Ac w5 hp; have a12 : Ac.eval (.tmp 12) = .pointer (some ⟨r, 0, none⟩) := hp.dep 4 (by kernel_rfl); exact relPureX (.pointer (some ⟨r, 0, none⟩)) (fun ρ hρ h1 h2 h3 => by rw [hρ] at a12; simp [go_sem, ↓IntWalk.iteOmega, *]) rfl
 ·refine relX_plain rfl rfl Hmn.out (Nat.le_refl _) (fun D u v wa wb hb h => two_other h hb (by decide) (by decide) (by decide)) ?_; intro Dn Ac w5 hp; have a13 : Ac.eval (.tmp 13) = .pointer (some ⟨r, 0, none⟩) := hp.dep 5 (by kernel_rfl); exact relPureX (.pointer (some ⟨r, 1, none⟩)) (fun ρ hρ h1 h2 h3 => by rw [hρ] at a13; simp [go_sem, ↓IntWalk.iteOmega, *]) rfl
 ·refine relX_plain rfl rfl Hmn.out (Nat.le_refl _) (fun D u v wa wb hb h => two_other h hb (by decide) (by decide) (by decide)) ?_; intro Dn Ac w5 hp; have hb := hp.bel; have a14 : Ac.eval (.tmp 14) = .pointer (some ⟨r, 1, none⟩) := hp.dep 6 (by kernel_rfl); have hr5 := HRr.out.below hb HRr.out.lt; have z0 : w5.cell? ⟨r, 0, none⟩ = some (.pointer (some ⟨ga, 0, none⟩)) := hr5.cell 0; have z1 : w5.cell? ⟨r, 1, none⟩ = some (.pointer (some ⟨gt, 0, none⟩)) := hr5.cell 1; exact relPureX (.pointer (some ⟨gt, 0, none⟩)) (fun ρ hρ h1 h2 h3 => by rw [hρ] at a14; simp [go_sem, ↓IntWalk.iteOmega, *]) rfl
 ·refine relX_op rfl rfl Hmn.out (Nat.le_refl _) ?_; intro Dn Ac w5 hp; have hb := hp.bel; have a11 : Ac.eval (.tmp 11) = .pointer (some ⟨ga, 0, none⟩) := hp.dep 3 (by kernel_rfl); have a15 : Ac.eval (.tmp 15) = .pointer (some ⟨gt, 0, none⟩) := hp.dep 7 (by kernel_rfl); obtain ⟨ρ, hρ, hc, hf, hgl⟩ := evalX Ac; rw [hρ] at a11 a15; refine relCallS hρ 84 #[.pointer (some ⟨ga, 0, none⟩), .pointer (some ⟨gt, 0, none⟩)] (by simp [go_sem, ↓IntWalk.iteOmega, *]) ?_; refine (HLa.out w5 hb).mono ?_; rintro e w6 ⟨A6, n6, c6, xs6, rfl, hl6, hb6, _⟩; have hR6 := RowK.of_low hl6 hb.size; rw [HEK1.out] at hR6; obtain ⟨A7, c7, xs7, e7, h7⟩ := hR6; rw [e7]; exact ⟨_, rfl, ⟨A7, c7, rfl⟩, hb6, two_a hp.ext hb6 (by decide) (by decide) hp.no ⟨A7, c7, xs7, rfl, h7⟩⟩
 ·refine relX_plain rfl rfl Hmn.out (Nat.le_refl _) (fun D u v wa wb hb h => two_other h hb (by decide) (by decide) (by decide)) ?_; intro Dn Ac w5 hp; have a0 : Ac.eval (.tmp 0) = .pointer (some ⟨r, 0, none⟩) := hp.out 0 (by rfl); exact relPureX (.pointer (some ⟨r, 0, none⟩)) (fun ρ hρ h1 h2 h3 => by rw [hρ] at a0; simp [go_sem, ↓IntWalk.iteOmega, *]) rfl
 ·refine relX_plain rfl rfl Hmn.out (Nat.le_refl _) (fun D u v wa wb hb h => two_other h hb (by decide) (by decide) (by decide)) ?_; intro Dn Ac w5 hp; have a17 : Ac.eval (.tmp 17) = .pointer (some ⟨r, 0, none⟩) := hp.dep 9 (by kernel_rfl); exact relPureX (.pointer (some ⟨r, 0, none⟩)) (fun ρ hρ h1 h2 h3 => by rw [hρ] at a17; simp [go_sem, ↓IntWalk.iteOmega, *]) rfl
 ·refine relX_plain rfl rfl Hmn.out (Nat.le_refl _) (fun D u v wa wb hb h => two_other h hb (by decide) (by decide) (by decide)) ?_; intro Dn Ac w5 hp; have a18 : Ac.eval (.tmp 18) = .pointer (some ⟨r, 0, none⟩) := hp.dep 10 (by kernel_rfl); exact relPureX (.pointer (some ⟨r, 1, none⟩)) (fun ρ hρ h1 h2 h3 => by rw [hρ] at a18; simp [go_sem, ↓IntWalk.iteOmega, *]) rfl
 ·refine relX_plain rfl rfl Hmn.out (Nat.le_refl _) (fun D u v wa wb hb h => two_other h hb (by decide) (by decide) (by decide)) ?_; intro Dn Ac w5 hp; have hb := hp.bel; have a19 : Ac.eval (.tmp 19) = .pointer (some ⟨r, 1, none⟩) := hp.dep 11 (by kernel_rfl); have hr5 := HRr.out.below hb HRr.out.lt; have z0 : w5.cell? ⟨r, 0, none⟩ = some (.pointer (some ⟨ga, 0, none⟩)) := hr5.cell 0; have z1 : w5.cell? ⟨r, 1, none⟩ = some (.pointer (some ⟨gt, 0, none⟩)) := hr5.cell 1; exact relPureX (.pointer (some ⟨gt, 0, none⟩)) (fun ρ hρ h1 h2 h3 => by rw [hρ] at a19; simp [go_sem, ↓IntWalk.iteOmega, *]) rfl
 ·refine relX_plain rfl rfl Hmn.out (Nat.le_refl _) (fun D u v wa wb hb h => two_other h hb (by decide) (by decide) (by decide)) ?_; intro Dn Ac w5 hp; have a0 : Ac.eval (.tmp 0) = .pointer (some ⟨r, 0, none⟩) := hp.out 0 (by rfl); exact relPureX (.pointer (some ⟨r, 0, none⟩)) (fun ρ hρ h1 h2 h3 => by rw [hρ] at a0; simp [go_sem, ↓IntWalk.iteOmega, *]) rfl
 ·refine relX_plain rfl rfl Hmn.out (Nat.le_refl _) (fun D u v wa wb hb h => two_other h hb (by decide) (by decide) (by decide)) ?_; intro Dn Ac w5 hp; have a21 : Ac.eval (.tmp 21) = .pointer (some ⟨r, 0, none⟩) := hp.dep 13 (by kernel_rfl); exact relPureX (.pointer (some ⟨r, 0, none⟩)) (fun ρ hρ h1 h2 h3 => by rw [hρ] at a21; simp [go_sem, ↓IntWalk.iteOmega, *]) rfl
 ·refine relX_plain rfl rfl Hmn.out (Nat.le_refl _) (fun D u v wa wb hb h => two_other h hb (by decide) (by decide) (by decide)) ?_; intro Dn Ac w5 hp; have a22 : Ac.eval (.tmp 22) = .pointer (some ⟨r, 0, none⟩) := hp.dep 14 (by kernel_rfl); exact relPureX (.pointer (some ⟨r, 0, none⟩)) (fun ρ hρ h1 h2 h3 => by rw [hρ] at a22; simp [go_sem, ↓IntWalk.iteOmega, *]) rfl
 ·refine relX_plain rfl rfl Hmn.out (Nat.le_refl _) (fun D u v wa wb hb h => two_other h hb (by decide) (by decide) (by decide)) ?_; intro Dn Ac w5 hp; have hb := hp.bel; have a23 : Ac.eval (.tmp 23) = .pointer (some ⟨r, 0, none⟩) := hp.dep 15 (by kernel_rfl); have hr5 := HRr.out.below hb HRr.out.lt; have z0 : w5.cell? ⟨r, 0, none⟩ = some (.pointer (some ⟨ga, 0, none⟩)) := hr5.cell 0; have z1 : w5.cell? ⟨r, 1, none⟩ = some (.pointer (some ⟨gt, 0, none⟩)) := hr5.cell 1; exact relPureX (.pointer (some ⟨ga, 0, none⟩)) (fun ρ hρ h1 h2 h3 => by rw [hρ] at a23; simp [go_sem, ↓IntWalk.iteOmega, *]) rfl
 ·refine relX_op rfl rfl Hmn.out (Nat.le_refl _) ?_; intro Dn Ac w5 hp; have hb := hp.bel; have a20 : Ac.eval (.tmp 20) = .pointer (some ⟨gt, 0, none⟩) := hp.dep 12 (by kernel_rfl); have a24 : Ac.eval (.tmp 24) = .pointer (some ⟨ga, 0, none⟩) := hp.dep 16 (by kernel_rfl); obtain ⟨ρ, hρ, hc, hf, hgl⟩ := evalX Ac; rw [hρ] at a20 a24; refine relCallS hρ 84 #[.pointer (some ⟨gt, 0, none⟩), .pointer (some ⟨ga, 0, none⟩)] (by simp [go_sem, ↓IntWalk.iteOmega, *]) ?_; refine (HLb.out w5 hb).mono ?_; rintro e w6 ⟨A6, n6, c6, xs6, rfl, hl6, hb6, _⟩; have hR6 := RowK.of_low hl6 hb.size; rw [HEK2.out] at hR6; obtain ⟨A7, c7, xs7, e7, h7⟩ := hR6; rw [e7]; exact ⟨_, rfl, ⟨A7, c7, rfl⟩, hb6, two_b hp.ext hb6 (by decide) (by decide) hp.no ⟨A7, c7, xs7, rfl, h7⟩⟩
 ·refine relX_app rfl rfl ?_; intro Dn Ac w5 hp; have hb := hp.bel; obtain ⟨A16, c16, a16⟩ := hp.dep 8 (by kernel_rfl); change Ac.eval (.tmp 16) = _ at a16; obtain ⟨A25, c25, a25⟩ := hp.dep 17 (by kernel_rfl); change Ac.eval (.tmp 25) = _ at a25; have hd1 := hp.dn 8 (by kernel_rfl); have hd2 := hp.dn 17 (by kernel_rfl); obtain ⟨A1, c1, xs1, e1, ho1, hc1⟩ := hp.ext.a hd1 hp.no; obtain ⟨A2, c2, xs2, e2, ho2, hc2⟩ := hp.ext.b hd2 hp.no; change Ac.eval (.tmp 16) = _ at e1; change Ac.eval (.tmp 25) = _ at e2; refine wp_append_any w5 (.tmp 16) (.tmp 25) 51 rfl w.heap.size 71 i0 _ 11 104 Tryz.underlying51 hi hz0 hz1 hz2 rfl (by decide) (.slice A1 K1.length c1) K1.length xs1 e1 ho1 w5.heap.size A2 K2.length c2 xs2 e2 (reads_own_ (by decide) ho2) (Chunks.ones pfOne hc2 (by decide)) (by unfold maxLen; omega) (by omega) hb.size ?_; intro v2 w6 h2 h3 h4; obtain ⟨A4, c4, rfl⟩ := own_slice h2; have hRw : RowK w.heap.size w6 (.slice A4 (K1.length + K2.length) c4) (K1 ++ K2) := ⟨A4, c4, _, by rw [List.length_append], by rw [List.length_append]; exact h2, Chunks.app_ (w := w6) ⟨hc1.1, hc1.2⟩ ⟨hc2.1, hc2.2⟩⟩
  exact ⟨_, rfl, ⟨A4, c4, by rw [HN12.out]⟩, (Below.refl w.heap.size w5).grown h3 hb.size (fun k hk => own_low_block ho1 k hk), fun j _ hj => relFlat _ Hfl.out _ _ _ _ (hp.has j hj), two_c (by decide) (by decide) hd1 hd2 hRw⟩
 ·refine relX_plain rfl rfl Hmn.out (Nat.le_refl _) (fun D u v wa wb hb h => two_other h hb (by decide) (by decide) (by decide)) ?_; intro Dn Ac w5 hp; obtain ⟨A26, c26, a26⟩ := hp.dep 18 (by kernel_rfl); change Ac.eval (.tmp 26) = _ at a26; exact relPureX (.int .i64 (N : Int)) (fun ρ hρ h1 h2 h3 => by rw [hρ] at a26; simp [go_sem, ↓IntWalk.iteOmega, *]) rfl
 ·refine relX_plain rfl rfl Hmn.out (Nat.le_refl _) (fun D u v wa wb hb h => two_other h hb (by decide) (by decide) (by decide)) ?_; intro Dn Ac w5 hp; exact relPureX (.int .i64 0) (fun ρ hρ h1 h2 h3 => by simp [go_sem, ↓IntWalk.iteOmega, *]) rfl
 intro u w3 hb7 hall hox; obtain ⟨A26, c26, e26⟩ := relAll_at hall (i := 18) (by decide +kernel); change u 18 = _ at e26; have e27 : u 19 = .int .i64 (N : Int) := relAll_at hall (i := 19) (by decide +kernel); have e28 : u 20 = .int .i64 0 := relAll_at hall (i := 20) (by decide +kernel); clear hall; simp only [List.drop_succ_cons, List.drop_zero, List.take_succ_cons, List.take_zero, putAll, Act.put, List.setIfInBounds_toArray, List.set_cons_zero, List.set_cons_succ, Nat.zero_add, Nat.reduceAdd, e26, e27, e28]; obtain ⟨A3, c3, xs3, hv3, ho3, hc3⟩ := hox.c (by decide); change u 18 = _ at hv3; rw [e26] at hv3; have hK := HKK.out; have hKN : K.length = N := (by rw [← hK, List.length_append, HN12.out])
 rw [hK] at ho3 hc3 hv3; rw [hKN] at ho3 hv3; injection hv3 with hv1 _ hv2
 subst hv1 hv2; have HKN := hide hKN; have HB3 := hide hb7; have hL3 : LstAt 11 pfR w3 A26 N c26 K := LstAt.of_own (by decide) ho3 hc3; have HL3 := hide hL3; have hs3 := hb7.size; have hcm := hL3.2.2.1; have hNc := hL3.2.1; unfold maxLen at hcm; have hcl : w.heap.size ≤ w3.heap.size := hs3; clear hb7 hox hL3 ho3 hc3 e26 e27 e28 hK hKN; go_wp2
 go_loopw [3, 28] (fun vo iv wr => ∃ (q : Nat) (A1 : Option Addr) (c1 : Nat), q ≤ N ∧ iv = .int .i64 (q : Nat) ∧ vo = .slice A1 q c1 ∧ wr.ownsRow w3.heap.size 24 2 (.slice A1 q c1) q (pxC (K.take q)) ∧ Below w3.heap.size w3 wr) (fun _ iv _ => N - (intOf iv).toNat)
 case atStart => exact ⟨0, none, 0, Nat.zero_le _, rfl, rfl, ⟨by simp [pxC], .inl ⟨rfl, rfl⟩⟩, Below.refl _ _⟩
 case round =>
  obtain ⟨q, A1, c1, hq, rfl, rfl, ho, hbel⟩ := hrel; have HO := hide ho; have HBe := hide hbel; have hs1 := hbel.size; by_cases hlt : q < N
  ·obtain ⟨g3, o3, x, vs, rfl, hg3, hx, _, hvs, hcs⟩ := (HL3.out.below pfMono hbel).at_ hlt; obtain ⟨h, o, A, n, c, hp, md, pf, aa, ai, B, m, d, rfl⟩ := hvs; have HTk : Hid (K.take (q + 1) = K.take q ++ [x]) := hide (by rw [List.take_add_one, hx]; rfl); obtain ⟨a, n0⟩ := x; have q1 : (q : Int) < (N : Int) := (by omega)
   have q0 : (0 : Int) ≤ (q : Int) := (by omega)
   have hwq : IntKind.i64.wrap ((q : Int) + 1) = (q : Int) + 1 := (by rw [IntKind.wrap_i64]; omega)
   have f0 : wr.cell? ⟨g3, o3 + q * 11, none⟩ = some (.int .u32 (a : Int)) := hcs 0 _ rfl; have f1 : wr.cell? ⟨g3, o3 + q * 11 + 1, none⟩ = some (.int .i64 (n0 : Int)) := hcs 1 _ rfl; have f2 : wr.cell? ⟨g3, o3 + q * 11 + 2, none⟩ = some (.int .i64 h) := hcs 2 _ rfl; have f3 : wr.cell? ⟨g3, o3 + q * 11 + 3, none⟩ = some (.int .i64 o) := hcs 3 _ rfl; have f4 : wr.cell? ⟨g3, o3 + q * 11 + 4, none⟩ = some (.slice A n c) := hcs 4 _ rfl; have f5 : wr.cell? ⟨g3, o3 + q * 11 + 5, none⟩ = some (.int .u32 hp) := hcs 5 _ rfl; have f6 : wr.cell? ⟨g3, o3 + q * 11 + 6, none⟩ = some (.int .u32 md) := hcs 6 _ rfl; have f7 : wr.cell? ⟨g3, o3 + q * 11 + 7, none⟩ = some (.int .u32 pf) := hcs 7 _ rfl; have f8 : wr.cell? ⟨g3, o3 + q * 11 + 8, none⟩ = some (.int .u32 aa) := hcs 8 _ rfl; have f9 : wr.cell? ⟨g3, o3 + q * 11 + 9, none⟩ = some (.int .u32 ai) := hcs 9 _ rfl; have f10 : wr.cell? ⟨g3, o3 + q * 11 + 10, none⟩ = some (.slice B m d) := hcs 10 _ rfl; obtain ⟨w4, hw4⟩ : ∃ W, wr.alloc (.cells #[.int .u32 (a : Int), .int .i64 (n0 : Int), .int .i64 h, .int .i64 o, .slice A n c, .int .u32 hp, .int .u32 md, .int .u32 pf, .int .u32 aa, .int .u32 ai, .slice B m d] 71) = W := ⟨_, rfl⟩
   have hb4 : Below wr.heap.size wr w4 := hw4 ▸ blkBelow1 wr _; have HBx : Hid (Blk w4 wr.heap.size 71 #[.int .u32 (a : Int), .int .i64 (n0 : Int), .int .i64 h, .int .i64 o, .slice A n c, .int .u32 hp, .int .u32 md, .int .u32 pf, .int .u32 aa, .int .u32 ai, .slice B m d]) := hide (hw4 ▸ Blk.new wr _ _); have HB4 := hide hb4; have HW4 := hide hw4; have hs4 := hb4.size; have HO4 := hide (own_below HO.out hb4); clear ho hbel hcs hx hw4 hb4
   go_upto_region 7 with fail
   rw [HW4.out]; have y0 : w4.cell? ⟨wr.heap.size, 0, none⟩ = some (.int .u32 (a : Int)) := HBx.out.cell 0; have y1 : w4.cell? ⟨wr.heap.size, 1, none⟩ = some (.int .i64 (n0 : Int)) := HBx.out.cell 1
   go_wp2_with (at_builtin; refine wpList_append_any _ rfl (.tmp 32) (.tmp 35) 45 rfl w3.heap.size 24 j0 _ 2 16 Tryz.underlying45 hj hy0 hy1 hy2 rfl (by decide) (.slice A1 q c1) q _ rfl (HO4.out.alloc _) (w4.heap.size + 1) (some ⟨w4.heap.size, 0, none⟩) 1 1 [.int .u32 (a : Int), .int .i64 (n0 : Int)] rfl (reads_blkN (Blk.new _ _ _) (by simp) rfl rfl) (by simp [Value.oneCell']) (by unfold maxLen; omega) (by omega) (by simp; omega) ?_; intro v' w9 h5 h6 h7; obtain ⟨A4, c4, rfl⟩ := own_slice h5; have HO5 := hide h5; have HB9 := hide ((HBe.out.trans ((HB4.out.trans ((blkBelow1 w4 _).mono hs4)).mono hs1)).grown h6 (by simp; omega) (fun k hk => own_low_block HO4.out k hk)); clear h5 h6 h7 y0 y1)
   go_roundw
   case rel =>
    refine ⟨q + 1, A4, c4, by omega, by go_num, rfl, ?_, HB9.out⟩; have e2 : pxC (K.take q ++ [(a, n0)]) = pxC (K.take q) ++ [.int .u32 (a : Int), .int .i64 (n0 : Int)] := pxC_app _ _ _; rw [HTk.out, e2]; exact HO5.out
   case measure => simp [intOf]; omega
  ·obtain rfl : q = N := (by omega)
   have e1 : decide ((q : Int) < (q : Int)) = false := (by simp)
   have htk : K.take q = K := List.take_of_length_le (by rw [HKN.out]; exact Nat.le_refl _); rw [htk] at ho; have HP := hide (own_pxs ho); have hsr := hbel.size; have HSn := hide (fun W (hb : Below wr.heap.size wr W) => nSort_any A1 q c1 K W ((own_pxs ho).below pxMono hb) HG.out (by omega)); clear ho htk HO hbel
   go_wp2_with fail
   refine (HSn.out _ (Below.refl _ _)).mono ?_; rintro e w9 ⟨A9, c9, rfl, ho9, hb9⟩; have HP9 := hide (own_pxs ho9); have HB9 := hide hb9; clear ho9 hb9; go_wp2; go_ret; exact ⟨A9, _, c9, rfl, HP9.out, (HB3.out.trans (HBe.out.mono hs3)).trans (HB9.out.mono (Nat.le_trans hs3 hsr))⟩
end Go.Proofs.YtcinjckajnnhmaaGreat
set_option linter.unusedSimpArgs false
set_option linter.unusedVariables false
namespace Go.Proofs.YtcinjckajnnhmaaGreat
open Go.RowKit Go.WideShapes Go.ChangeShapes
attribute [local go_sem] Oper.semAt_some
theorem aimL_take {L : List TD} {q : Nat} {x : TD} (h : L[q]? = some x) : aimL (L.take (q + 1)) = aimPut (aimL (L.take q)) x := by
 rw [← aimL_push, List.take_add_one, h]; rfl
theorem tok_path {L : List TD} (hR : ∀ x ∈ L, TdOk x) : ∀ z ∈ aimL L, z.1 < 4294967296 := fun z hz => by
 obtain ⟨x, hx, _, _, e, _⟩ := aimL_mem z hz; obtain ⟨⟨a, ha, hab⟩, _⟩ := hR x hx; rw [e, ha, Int.toNat_natCast]; exact hab
set_option maxRecDepth 100000 in
set_option maxHeartbeats 8000000 in
theorem refAim36_any (A : Option Addr) (n c : Nat) (L : List TD) (w : World) (h : LstAt 11 tdR w A n c L) (hR : ∀ x ∈ L, TdOk x ∧ x.at_.path.length ≤ 100000) (hn : n ≤ 10000) :
  Calls Tryz.prog 24 #[.slice A n c] w fun e w' => ∃ A' n' c', e = .returned (.slice A' n' c') ∧ LF (fun j => w.heap.size ≤ j ∧ j < w'.heap.size) w' A' n' c' ((aimL L).map tdZ) ∧ Below w.heap.size w w' := by
 have hln := h.1; have hnc := h.2.1; have hmx := h.2.2.1; unfold maxLen at hmx; have HL := hide h; have HLn := hide hln; have HRg := hide hR; have HRt : Hid (∀ x ∈ L, TdOk x) := hide (fun x hx => (hR x hx).1); obtain ⟨w0, hw0⟩ : ∃ W, w.alloc (.cells #[] 71) = W := ⟨_, rfl⟩
 have hb0 : Below w.heap.size w w0 := hw0 ▸ blkBelow1 w _; have HO0 : Hid (w0.ownsRow w.heap.size 71 11 (.slice (some ⟨w.heap.size, 0, none⟩) 0 0) 0 []) := hide (hw0 ▸ World.ownsRow_lit w #[] 0 (Nat.le_refl _) (by unfold maxLen; omega) rfl); have HF0 : Hid (LF (fun j => w.heap.size ≤ j ∧ j < w0.heap.size) w0 (some ⟨w.heap.size, 0, none⟩) 0 0 []) := hide ⟨LstAt.of_own (by decide) HO0.out Chunks.nil_, fun h => absurd h (by omega)⟩; have HB0 := hide hb0; have HW0 := hide hw0; clear h hln hR hw0 hb0
 go_enter Tryz.func24, Tryz.ntmps24
 go_wp2; rw [HW0.out]
 go_loopw [3, 4] (fun vo iv wr => ∃ (q n1 c1 : Nat) (A1 : Option Addr), q ≤ n ∧ n1 ≤ q ∧ iv = .int .i64 (q : Nat) ∧ vo = .slice A1 n1 c1 ∧ LF (fun j => w.heap.size ≤ j ∧ j < wr.heap.size) wr A1 n1 c1 ((aimL (L.take q)).map tdZ) ∧ Below w.heap.size w wr) (fun _ iv _ => n - (intOf iv).toNat)
 case atStart => exact ⟨0, 0, 0, some ⟨w.heap.size, 0, none⟩, Nat.zero_le _, Nat.le_refl _, rfl, rfl, HF0.out, HB0.out⟩
 case round =>
  obtain ⟨q, n1, c1, A1, hq, hnq, rfl, rfl, hlf, hbel⟩ := hrel; have HLf := hide hlf; have HBe := hide hbel; have hsr := hbel.size; by_cases hlt : q < n
  ·obtain ⟨g, o, x, XA, xn, xc, XB, xm, xd, rfl, hg, hx, hxr, hxu, hcs⟩ := TDat (HL.out.below tdMono hbel) hlt; have HTk := hide (aimL_take hx); have hxm := HRg.out x (List.mem_of_getElem? hx); obtain ⟨xa, n0, X⟩ := x; obtain ⟨⟨⟨a, ha, hab⟩, hn1, hn2, hok⟩, hpl⟩ := hxm; simp only at ha hn1 hn2 hok hxr hxu hcs hpl; subst ha; have HOk := hide hok; have HXn : Hid (xn ≤ 100000) := hide (by have := hxr.1; omega); have HXm : Hid (xm ≤ 10000) := hide (by have h1 := hxu.1; have h2 := hok.2; omega); have HXr := hide hxr; have HXu := hide hxu; have HCs := hide hcs; obtain ⟨Y, hY⟩ : ∃ Y, normA X = Y := ⟨_, rfl⟩
   have HY := hide hY; have q1 : (q : Int) < (n : Int) := (by omega)
   have q0 : (0 : Int) ≤ (q : Int) := (by omega)
   have hwq : IntKind.i64.wrap ((q : Int) + 1) = (q : Int) + 1 := (by rw [IntKind.wrap_i64]; omega)
   have f0 : wr.cell? ⟨g, o + q * 11, none⟩ = some (.int .u32 (a : Int)) := hcs 0 _ rfl; have f1 : wr.cell? ⟨g, o + q * 11 + 1, none⟩ = some (.int .i64 n0) := hcs 1 _ rfl; have HGd := hide (fun W => refGood_any a n0 hab W); obtain ⟨GB, hGB⟩ : ∃ b, goodB a n0 = b := ⟨_, rfl⟩
   rw [hGB] at HGd; unfold pfx at HGd; have HGB := hide hGB; clear hlf hbel hx hxr hxu hcs hok hpl hY hGB
   go_wp2_with fail
   refine (HGd.out _).mono ?_; rintro e w4 ⟨rfl, hb4⟩; have HB4 := hide hb4; have HBe4 := hide (HBe.out.trans (hb4.mono hsr)); have hs4 := hb4.size
   cases GB with
   | false =>
    have HLf4 := hide (((HLf.out.below hb4).more (F' := fun j => w.heap.size ≤ j ∧ j < w4.heap.size) (fun k hk => ⟨hk.1, by omega⟩))); clear hb4 f0 f1; go_wp2
    go_roundw
    case rel =>
     refine ⟨q + 1, n1, c1, A1, by omega, by omega, by go_num, rfl, ?_, HBe4.out⟩; rw [HTk.out]; unfold aimPut; rw [if_neg (by simp only [Int.toNat_natCast]; rw [HGB.out]; simp)]; exact HLf4.out
    case measure => simp [intOf]; omega
   | true =>
    obtain ⟨w5q, h5q⟩ : ∃ W, W = wr := ⟨_, rfl⟩
    subst h5q; obtain ⟨wr, hwr⟩ : ∃ W, W = w4 := ⟨_, rfl⟩
    subst hwr; have HXr := hide (HXr.out.below sgMono hb4); have HXu := hide (HXu.out.below hb4); have HCs : Hid (∀ (j : Nat) (v : Value), [.int .u32 (a : Int), .int .i64 n0, .int .i64 X.has, .int .i64 X.org, .slice XA xn xc, .int .u32 X.hop, .int .u32 X.med, .int .u32 X.pref, .int .u32 X.aas, .int .u32 X.aid, .slice XB xm xd][j]? = some v → wr.cell? ⟨g, o + q * 11 + j, none⟩ = some v) := hide (fun j v hj => (hb4.cell hg).trans (HCs.out j v hj)); have hg : g < wr.heap.size := Nat.lt_of_lt_of_le hg hb4.size; have HLf4 := hide (HLf.out.below hb4); obtain ⟨hPg, hn0⟩ := pg_good hab HGB.out; obtain ⟨m0, hm0⟩ : ∃ m : Nat, n0.toNat = m := ⟨_, rfl⟩
    rw [hm0] at hn0 hPg; have HPg := hide hPg; have HN0 := hide hn0; have HM0 := hide hm0; clear hb4 f0 f1 hPg hn0 hm0
    go_upto_region 6 with fail
    have Hmn := hide (show AllMono [(fun v _ => v = .slice A1 n1 c1), (fun v _ => v = .slice (some ⟨g, o, none⟩) n c), (fun v _ => v = .int .i64 (q : Int)), (fun v _ => v = .pointer (some ⟨g, o + q * 11, none⟩)), (fun v _ => v = .pointer (some ⟨g, o + q * 11, none⟩)), (fun v _ => v = .agg #[.int .u32 (a : Int), .int .i64 n0]), (fun v _ => v = .slice (some ⟨g, o, none⟩) n c), (fun v _ => v = .int .i64 (q : Int)), (fun v _ => v = .pointer (some ⟨g, o + q * 11, none⟩)), (fun v _ => v = .pointer (some ⟨g, o + q * 11 + 2, none⟩)), (fun v _ => v = atV X.has X.org XA xn xc X.hop X.med X.pref X.aas X.aid XB xm xd), (fun v W2 => ∃ A n c B m d, v = atV Y.has Y.org A n c Y.hop Y.med Y.pref Y.aas Y.aid B m d ∧ (∃ xs, LOw 2 133 sgR W2 wr.heap.size wr.heap.size A n c Y.path xs) ∧ FrB wr.heap.size none (fun w => U32s w B m d Y.comms) W2), (fun v W2 => ∃ A n c B m d, v = .agg #[.int .u32 (a : Int), .int .i64 n0, .int .i64 Y.has, .int .i64 Y.org, .slice A n c, .int .u32 Y.hop, .int .u32 Y.med, .int .u32 Y.pref, .int .u32 Y.aas, .int .u32 Y.aid, .slice B m d] ∧ (∃ xs, LOw 2 133 sgR W2 wr.heap.size wr.heap.size A n c Y.path xs) ∧ FrB wr.heap.size none (fun w => U32s w B m d Y.comms) W2)] from ⟨fun _ _ _ _ h => h, fun _ _ _ _ h => h, fun _ _ _ _ h => h, fun _ _ _ _ h => h, fun _ _ _ _ h => h, fun _ _ _ _ h => h, fun _ _ _ _ h => h, fun _ _ _ _ h => h, fun _ _ _ _ h => h, fun _ _ _ _ h => h, fun _ _ _ _ h => h, fun v w2 w3 hb ⟨A, n, c, B, m, d, e, ⟨xs, h1⟩, h2⟩ => ⟨A, n, c, B, m, d, e, ⟨xs, h1.below hb⟩, h2.below hb⟩, fun v w2 w3 hb ⟨A, n, c, B, m, d, e, ⟨xs, h1⟩, h2⟩ => ⟨A, n, c, B, m, d, e, ⟨xs, h1.below hb⟩, h2.below hb⟩, trivial⟩); refine wp_region_relT 13 _ (by kernel_rfl) (by kernel_rfl) (by kernel_rfl) (by kernel_rfl) (by kernel_rfl) (relMono _ Hmn.out) ⟨?_, ?_, ?_, ?_, ?_, ?_, ?_, ?_, ?_, ?_, ?_, ?_, ?_, trivial⟩ ?_
    ·refine relStep_plain rfl ?_; intro Ac w5 hp; have a3 : Ac.eval (.tmp 3) = .slice A1 n1 c1 := hp.out 3 (by rfl); exact relPureX (.slice A1 n1 c1) (fun ρ hρ h1 h2 h3 => by rw [hρ] at a3; simp [go_sem, ↓IntWalk.iteOmega, *]) rfl
    ·refine relStep_plain rfl ?_; intro Ac w5 hp; have a0 : Ac.eval (.tmp 0) = .slice (some ⟨g, o, none⟩) n c := hp.out 0 (by rfl); exact relPureX (.slice (some ⟨g, o, none⟩) n c) (fun ρ hρ h1 h2 h3 => by rw [hρ] at a0; simp [go_sem, ↓IntWalk.iteOmega, *]) rfl
    ·refine relStep_plain rfl ?_; intro Ac w5 hp; have a4 : Ac.eval (.tmp 4) = .int .i64 (q : Int) := hp.out 4 (by rfl); exact relPureX (.int .i64 (q : Int)) (fun ρ hρ h1 h2 h3 => by rw [hρ] at a4; simp [go_sem, ↓IntWalk.iteOmega, *]) rfl
    ·refine relStep_plain rfl ?_; intro Ac w5 hp; have a19 : Ac.eval (.tmp 19) = .slice (some ⟨g, o, none⟩) n c := hp.dep 1 (by kernel_rfl); have a20 : Ac.eval (.tmp 20) = .int .i64 (q : Int) := hp.dep 2 (by kernel_rfl); exact relPureX (.pointer (some ⟨g, o + q * 11, none⟩)) (fun ρ hρ h1 h2 h3 => by rw [hρ] at a19 a20; simp [go_sem, ↓IntWalk.iteOmega, *]) rfl
    ·refine relStep_plain rfl ?_; intro Ac w5 hp; have a21 : Ac.eval (.tmp 21) = .pointer (some ⟨g, o + q * 11, none⟩) := hp.dep 3 (by kernel_rfl); exact relPureX (.pointer (some ⟨g, o + q * 11, none⟩)) (fun ρ hρ h1 h2 h3 => by rw [hρ] at a21; simp [go_sem, ↓IntWalk.iteOmega, *]) rfl
    ·refine relStep_plain rfl ?_; intro Ac w5 hp; have hb := hp.bel; have a22 : Ac.eval (.tmp 22) = .pointer (some ⟨g, o + q * 11, none⟩) := hp.dep 4 (by kernel_rfl); have f0 : w5.cell? ⟨g, o + q * 11, none⟩ = some (.int .u32 (a : Int)) := (hb.cell hg).trans (HCs.out 0 _ rfl); have f1 : w5.cell? ⟨g, o + q * 11 + 1, none⟩ = some (.int .i64 n0) := (hb.cell hg).trans (HCs.out 1 _ rfl); have f2 : w5.cell? ⟨g, o + q * 11 + 2, none⟩ = some (.int .i64 X.has) := (hb.cell hg).trans (HCs.out 2 _ rfl); have f3 : w5.cell? ⟨g, o + q * 11 + 3, none⟩ = some (.int .i64 X.org) := (hb.cell hg).trans (HCs.out 3 _ rfl); have f4 : w5.cell? ⟨g, o + q * 11 + 4, none⟩ = some (.slice XA xn xc) := (hb.cell hg).trans (HCs.out 4 _ rfl); have f5 : w5.cell? ⟨g, o + q * 11 + 5, none⟩ = some (.int .u32 X.hop) := (hb.cell hg).trans (HCs.out 5 _ rfl); have f6 : w5.cell? ⟨g, o + q * 11 + 6, none⟩ = some (.int .u32 X.med) := (hb.cell hg).trans (HCs.out 6 _ rfl); have f7 : w5.cell? ⟨g, o + q * 11 + 7, none⟩ = some (.int .u32 X.pref) := (hb.cell hg).trans (HCs.out 7 _ rfl); have f8 : w5.cell? ⟨g, o + q * 11 + 8, none⟩ = some (.int .u32 X.aas) := (hb.cell hg).trans (HCs.out 8 _ rfl); have f9 : w5.cell? ⟨g, o + q * 11 + 9, none⟩ = some (.int .u32 X.aid) := (hb.cell hg).trans (HCs.out 9 _ rfl); have f10 : w5.cell? ⟨g, o + q * 11 + 10, none⟩ = some (.slice XB xm xd) := (hb.cell hg).trans (HCs.out 10 _ rfl); exact relPureX (.agg #[.int .u32 (a : Int), .int .i64 n0]) (fun ρ hρ h1 h2 h3 => by rw [hρ] at a22; simp [go_sem, ↓IntWalk.iteOmega, *]) rfl
    ·refine relStep_plain rfl ?_; intro Ac w5 hp; have a0 : Ac.eval (.tmp 0) = .slice (some ⟨g, o, none⟩) n c := hp.out 0 (by rfl); exact relPureX (.slice (some ⟨g, o, none⟩) n c) (fun ρ hρ h1 h2 h3 => by rw [hρ] at a0; simp [go_sem, ↓IntWalk.iteOmega, *]) rfl
    ·refine relStep_plain rfl ?_; intro Ac w5 hp; have a4 : Ac.eval (.tmp 4) = .int .i64 (q : Int) := hp.out 4 (by rfl); exact relPureX (.int .i64 (q : Int)) (fun ρ hρ h1 h2 h3 => by rw [hρ] at a4; simp [go_sem, ↓IntWalk.iteOmega, *]) rfl
    ·refine relStep_plain rfl ?_; intro Ac w5 hp; have a24 : Ac.eval (.tmp 24) = .slice (some ⟨g, o, none⟩) n c := hp.dep 6 (by kernel_rfl); have a25 : Ac.eval (.tmp 25) = .int .i64 (q : Int) := hp.dep 7 (by kernel_rfl); exact relPureX (.pointer (some ⟨g, o + q * 11, none⟩)) (fun ρ hρ h1 h2 h3 => by rw [hρ] at a24 a25; simp [go_sem, ↓IntWalk.iteOmega, *]) rfl
    ·refine relStep_plain rfl ?_; intro Ac w5 hp; have a26 : Ac.eval (.tmp 26) = .pointer (some ⟨g, o + q * 11, none⟩) := hp.dep 8 (by kernel_rfl); exact relPureX (.pointer (some ⟨g, o + q * 11 + 2, none⟩)) (fun ρ hρ h1 h2 h3 => by rw [hρ] at a26; simp [go_sem, ↓IntWalk.iteOmega, *]) rfl
    ·refine relStep_plain rfl ?_; intro Ac w5 hp; have hb := hp.bel; have a27 : Ac.eval (.tmp 27) = .pointer (some ⟨g, o + q * 11 + 2, none⟩) := hp.dep 9 (by kernel_rfl); have f0 : w5.cell? ⟨g, o + q * 11, none⟩ = some (.int .u32 (a : Int)) := (hb.cell hg).trans (HCs.out 0 _ rfl); have f1 : w5.cell? ⟨g, o + q * 11 + 1, none⟩ = some (.int .i64 n0) := (hb.cell hg).trans (HCs.out 1 _ rfl); have f2 : w5.cell? ⟨g, o + q * 11 + 2, none⟩ = some (.int .i64 X.has) := (hb.cell hg).trans (HCs.out 2 _ rfl); have f3 : w5.cell? ⟨g, o + q * 11 + 3, none⟩ = some (.int .i64 X.org) := (hb.cell hg).trans (HCs.out 3 _ rfl); have f4 : w5.cell? ⟨g, o + q * 11 + 4, none⟩ = some (.slice XA xn xc) := (hb.cell hg).trans (HCs.out 4 _ rfl); have f5 : w5.cell? ⟨g, o + q * 11 + 5, none⟩ = some (.int .u32 X.hop) := (hb.cell hg).trans (HCs.out 5 _ rfl); have f6 : w5.cell? ⟨g, o + q * 11 + 6, none⟩ = some (.int .u32 X.med) := (hb.cell hg).trans (HCs.out 6 _ rfl); have f7 : w5.cell? ⟨g, o + q * 11 + 7, none⟩ = some (.int .u32 X.pref) := (hb.cell hg).trans (HCs.out 7 _ rfl); have f8 : w5.cell? ⟨g, o + q * 11 + 8, none⟩ = some (.int .u32 X.aas) := (hb.cell hg).trans (HCs.out 8 _ rfl); have f9 : w5.cell? ⟨g, o + q * 11 + 9, none⟩ = some (.int .u32 X.aid) := (hb.cell hg).trans (HCs.out 9 _ rfl); have f10 : w5.cell? ⟨g, o + q * 11 + 10, none⟩ = some (.slice XB xm xd) := (hb.cell hg).trans (HCs.out 10 _ rfl); exact relPureX (atV X.has X.org XA xn xc X.hop X.med X.pref X.aas X.aid XB xm xd) (fun ρ hρ h1 h2 h3 => by rw [hρ] at a27; simp [go_sem, ↓IntWalk.iteOmega, *]) rfl
    ·refine relStep_plain rfl ?_; intro Ac w5 hp; have hb := hp.bel; have a28 : Ac.eval (.tmp 28) = atV X.has X.org XA xn xc X.hop X.med X.pref X.aas X.aid XB xm xd := hp.dep 10 (by kernel_rfl); obtain ⟨ρ, hρ, hc, hf, hgl⟩ := evalX Ac; rw [hρ] at a28; refine relCall hρ 86 #[atV X.has X.org XA xn xc X.hop X.med X.pref X.aas X.aid XB xm xd] (by simp [go_sem, ↓IntWalk.iteOmega, *]) ?_; refine (refANorm_any X.has X.org XA xn xc X.hop X.med X.pref X.aas X.aid XB xm xd X.path X.comms w5 (HXr.out.below sgMono hb) (HXu.out.below hb) HOk.out.1 HXn.out HXm.out).mono ?_; rintro e w6 ⟨v6, rfl, ⟨A6, n6, c6, xs6, B6, m6, d6, rfl, hl6, hu6⟩, hb6⟩; have hY := HY.out; obtain ⟨x0, x1, x2, x3, x4, x5, x6, x7, x8⟩ := X; rw [hY] at hl6 hu6 ⊢; exact ⟨_, rfl, ⟨A6, n6, c6, B6, m6, d6, rfl, ⟨xs6, hl6.less hb.size hb.size⟩, hu6.less hb.size⟩, hb6⟩
    ·refine relStep_plain rfl ?_; intro Ac w5 hp; have a23 : Ac.eval (.tmp 23) = .agg #[.int .u32 (a : Int), .int .i64 n0] := hp.dep 5 (by kernel_rfl); obtain ⟨A29, n29, c29, B29, m29, d29, a29, ⟨xs29, hl29⟩, hu29⟩ := hp.dep 11 (by kernel_rfl); change Ac.eval (.tmp 29) = _ at a29; exact relPureX (.agg #[.int .u32 (a : Int), .int .i64 n0, .int .i64 Y.has, .int .i64 Y.org, .slice A29 n29 c29, .int .u32 Y.hop, .int .u32 Y.med, .int .u32 Y.pref, .int .u32 Y.aas, .int .u32 Y.aid, .slice B29 m29 d29]) (fun ρ hρ h1 h2 h3 => by rw [hρ] at a23 a29; simp [go_sem, ↓IntWalk.iteOmega, *]) ⟨A29, n29, c29, B29, m29, d29, rfl, ⟨xs29, hl29⟩, hu29⟩
    intro u w8 hb7 hall; have e18 : u 0 = .slice A1 n1 c1 := relAll_at hall (i := 0) (by decide +kernel); obtain ⟨A30, n30, c30, B30, m30, d30, e30, ⟨xs30, hl30⟩, hu30⟩ := relAll_at hall (i := 12) (by decide +kernel); change u 12 = _ at e30; clear hall; simp only [List.drop_succ_cons, List.drop_zero, List.take_succ_cons, List.take_zero, putAll, Act.put, List.setIfInBounds_toArray, List.set_cons_zero, List.set_cons_succ, Nat.zero_add, Nat.reduceAdd, e18, e30]; have hs8 := hb7.size; have HF8 : Hid (∀ k, (w.heap.size ≤ k ∧ k < w8.heap.size) → k < w8.heap.size) := hide (fun k hk => hk.2); have HLf8 := hide ((HLf4.out.below hb7).more (F' := fun j => w.heap.size ≤ j ∧ j < w8.heap.size) (fun k hk => ⟨hk.1, by omega⟩)); have HX8 : Hid (tdF (fun j => w.heap.size ≤ j ∧ j < w8.heap.size) w8 [.int .u32 (a : Int), .int .i64 n0, .int .i64 Y.has, .int .i64 Y.org, .slice A30 n30 c30, .int .u32 Y.hop, .int .u32 Y.med, .int .u32 Y.pref, .int .u32 Y.aas, .int .u32 Y.aid, .slice B30 m30 d30] ⟨(a : Int), n0, Y⟩) := hide (frs_more (frs_of_frb (td_fr (B := wr.heap.size) (ob := none) hl30 hu30 (Nat.le_refl _) (by simp))) (fun k hk => ⟨by omega, hk.2⟩)); have hn0 := HN0.out; subst hn0; have HPt := hide (refPut36_any (fun j => w.heap.size ≤ j ∧ j < w8.heap.size) A1 n1 c1 (aimL (L.take q)) a m0 Y A30 n30 c30 B30 m30 d30 w8 HLf8.out.lst HX8.out (aimL_sorted _) (tok_path (fun x hx => HRt.out x (List.mem_of_mem_take hx))) hab (by omega)); have HBe8 := hide (HBe4.out.trans (hb7.mono (by omega))); clear hb7 hl30 hu30
    go_wp2_with fail
    refine HPt.out.mono ?_; rintro e w9 ⟨A9, n9, c9, xs9, rfl, ho9, hc9, hb9⟩; have HLf9 := hide ((LF.of_own ho9 hc9 HF8.out hb9).more (F' := fun j => w.heap.size ≤ j ∧ j < w9.heap.size) (fun k hk => hk.elim (fun h => ⟨h.1, Nat.lt_of_lt_of_le h.2 hb9.size⟩) (fun h => ⟨by omega, h.2⟩)))
    have hn9 : n9 ≤ n1 + 1 := by
     have h1 := HLf9.out.lst.1; have h2 := HLf8.out.lst.1; have h3 := aimPut_len (aimL (L.take q)) ⟨(a : Int), (m0 : Int), X⟩
     have e : aimPut (aimL (L.take q)) ⟨(a : Int), (m0 : Int), X⟩ = putL a m0 Y (aimL (L.take q)) := by
      unfold aimPut; simp only [Int.toNat_natCast]; rw [if_pos HGB.out, HY.out]
     rw [e] at h3; rw [List.length_map] at h1 h2; omega
    have HBe9 := hide (HBe8.out.trans (hb9.mono (by omega))); clear ho9 hc9 hb9; go_wp2
    go_roundw
    case rel =>
     refine ⟨q + 1, n9, c9, A9, by omega, by omega, by go_num, rfl, ?_, HBe9.out⟩; rw [HTk.out]
     have e : aimPut (aimL (L.take q)) ⟨(a : Int), (m0 : Int), X⟩ = putL a m0 Y (aimL (L.take q)) := by
      unfold aimPut; simp only [Int.toNat_natCast]; rw [if_pos HGB.out, HY.out]
     rw [e]; exact HLf9.out
    case measure => simp [intOf]; omega
  ·obtain rfl : q = n := (by omega)
   have e1 : decide ((q : Int) < (q : Int)) = false := (by simp)
   rw [List.take_of_length_le (by rw [HLn.out]; exact Nat.le_refl _)] at hlf; have HLe := hide hlf; clear hlf hbel hlt HLf; go_wp2; go_ret; exact ⟨A1, n1, c1, rfl, HLe.out, HBe.out⟩
end Go.Proofs.YtcinjckajnnhmaaGreat
set_option linter.unusedSimpArgs false
set_option linter.unusedVariables false
namespace Go.Proofs.YtcinjckajnnhmaaGreat
open Go.RowKit Go.WideShapes Go.ChangeShapes
attribute [local go_sem] Oper.semAt_some
set_option maxRecDepth 100000 in
theorem toldG_any (r gt : Nat) (t : Tr AT) (F : Nat → Prop) (v0 v2 v3 : Value) (w : World) (hk : Blk w r 119 #[v0, .pointer (some ⟨gt, 0, none⟩), v2, v3]) (hT : TrT F w gt t) :
  Calls Tryz.prog 30 #[.pointer (some ⟨r, 0, none⟩)] w fun e w' => ∃ A c xs, e = .returned (.slice A (trCnt t) c) ∧ LOw 11 71 tdR w' w.heap.size w.heap.size A (trCnt t) c ((trL t).map tdN) xs ∧ Below w.heap.size w w' := by
 have HLi := hide (riblist_any F gt t w hT); have z1 : w.cell? ⟨r, 1, none⟩ = some (.pointer (some ⟨gt, 0, none⟩)) := hk.cell 1; obtain ⟨N, hN⟩ : ∃ N, trCnt t = N := ⟨_, rfl⟩
 rw [hN] at HLi ⊢; clear hk hT hN
 go_enter Tryz.func30, Tryz.ntmps30
 go_wp2_with fail
 refine HLi.out.mono ?_; rintro e w1 ⟨A, c, xs, rfl, hl, hb⟩; have HB := hide hb; have HL := hide hl; clear hl hb z1; go_wp2; go_ret; exact ⟨A, c, xs, rfl, HL.out, HB.out⟩
set_option maxRecDepth 100000 in
theorem leftG_any (r : Nat) (v0 v1 v2 : Value) (l : Int) (w : World) (hk : Blk w r 119 #[v0, v1, v2, .int .i64 l]) :
  Calls Tryz.prog 27 #[.pointer (some ⟨r, 0, none⟩)] w fun e w' => e = .returned (.int .i64 l) ∧ w' = w := by
 have z3 : w.cell? ⟨r, 3, none⟩ = some (.int .i64 l) := hk.cell 3; clear hk
 go_enter Tryz.func27, Tryz.ntmps27
 go_wp2; go_ret; exact ⟨rfl, rfl⟩
set_option maxRecDepth 100000 in
theorem tickG_any (r : Nat) (v0 v1 v2 : Value) (l : Nat) (w : World) (hk : Blk w r 119 #[v0, v1, v2, .int .i64 (l : Nat)]) (hl : l ≤ 65535) :
  Calls Tryz.prog 28 #[.pointer (some ⟨r, 0, none⟩)] w fun e w' => e = .returned (.tuple #[]) ∧ Blk w' r 119 #[v0, v1, v2, .int .i64 ((l - 1 : Nat) : Int)] ∧ ChgS (fun k => k = r) w w' := by
 have z3 : w.cell? ⟨r, 3, none⟩ = some (.int .i64 (l : Nat)) := hk.cell 3; have zf := hk.frozen 3; have HK := hide hk; clear hk; by_cases h0 : l = 0
 ·subst h0
  go_enter Tryz.func28, Tryz.ntmps28
  go_wp2; refine bodyPost_end (results_none rfl _ _ _) rfl ?_; exact ⟨rfl, HK.out, chg_refl _ _⟩
 ·have hd : decide (0 < (l : Int)) = true := (by simp; omega)
  have hd2 : decide (0 < l) = true := (by simp; omega)
  have hw : IntKind.i64.wrap ((l : Int) - 1) = ((l - 1 : Nat) : Int) := (by rw [IntKind.wrap_i64]; omega)
  have hp : 0 < l := (by omega)
  go_enter Tryz.func28, Tryz.ntmps28
  go_wp2; refine bodyPost_end (results_none rfl _ _ _) rfl ?_; exact ⟨rfl, HK.out.set_ 3 _, chg_set (S := fun k => k = r) (p := ⟨r, 3, none⟩) rfl _⟩
end Go.Proofs.YtcinjckajnnhmaaGreat
set_option linter.unusedSimpArgs false
set_option linter.unusedVariables false
namespace Go.Proofs.YtcinjckajnnhmaaGreat
open Go.RowKit Go.WideShapes Go.ChangeShapes
attribute [local go_sem] Oper.semAt_some
def inZ (n : Int) : Nat := if n < 0 then 0 else if 65535 < n then 65535 else n.toNat
theorem inZ_nat {n : Nat} (h : n ≤ 65535) : inZ (n : Int) = n := by unfold inZ; rw [if_neg (by omega), if_neg (by omega), Int.toNat_natCast]
set_option maxRecDepth 100000 in
theorem ribin_any (n : Int) (w : World) : Calls Tryz.prog 79 #[.int .i64 n] w fun e w' => e = .returned (.int .i64 (inZ n : Nat)) ∧ w' = w := by
 by_cases h1 : n < 0
 ·have e : inZ n = 0 := (by unfold inZ; rw [if_pos h1])
  have d1 : decide (n < 0) = true := decide_eq_true h1; have m1 : max n 0 = 0 := (by omega)
  have m2 : min (0 : Int) 65535 = 0 := (by decide)
  rw [e]; clear e
  go_enter Tryz.func79, Tryz.ntmps79
  go_wp2; go_ret; simp [*]
 ·by_cases h2 : 65535 < n
  ·have e : inZ n = 65535 := (by unfold inZ; rw [if_neg h1, if_pos h2])
   have d1 : decide (n < 0) = false := decide_eq_false h1; have d2 : decide (65535 < n) = true := decide_eq_true h2; have m1 : max n 0 = n := (by omega)
   have m2 : min n 65535 = 65535 := (by omega)
   rw [e]; clear e
   go_enter Tryz.func79, Tryz.ntmps79
   go_wp2; go_ret; simp [*]
  ·have e : ((inZ n : Nat) : Int) = n := (by unfold inZ; rw [if_neg h1, if_neg h2]; omega)
   have d1 : decide (n < 0) = false := decide_eq_false h1; have d2 : decide (65535 < n) = false := decide_eq_false h2; have m1 : max n 0 = n := (by omega)
   have m2 : min n 65535 = n := (by omega)
   rw [e]; clear e
   go_enter Tryz.func79, Tryz.ntmps79
   go_wp2; go_ret; simp [*]
set_option maxRecDepth 100000 in
theorem ribnewG_any (n : Int) (w : World) : Calls Tryz.prog 19 #[.int .i64 n] w fun e w' => ∃ ga gt r, e = .returned (.pointer (some ⟨r, 0, none⟩)) ∧ w.heap.size ≤ ga ∧ ga < gt ∧ gt < r ∧ Blk w' ga 201 #[.pointer none] ∧ Blk w' gt 201 #[.pointer none] ∧ Blk w' r 119 #[.pointer (some ⟨ga, 0, none⟩), .pointer (some ⟨gt, 0, none⟩), .int .i64 (inZ n : Nat), .int .i64 ((0 : Nat) : Int)] ∧ Below w.heap.size w w' := by
 have H := hide newA_any; have HI := hide (ribin_any n); obtain ⟨N, hN⟩ : ∃ N : Nat, inZ n = N := ⟨_, rfl⟩
 rw [hN] at HI ⊢; clear hN
 go_enter Tryz.func19, Tryz.ntmps19
 go_wp2_with fail
 refine (H.out _).mono ?_; rintro e w1 ⟨rfl, hk1, hb1⟩
 go_wp2_with fail
 refine (H.out _).mono ?_; rintro e w2 ⟨rfl, hk2, hb2⟩
 go_wp2_with fail
 refine (HI.out _).mono ?_; rintro e w3 ⟨rfl, rfl⟩; have HK1 := hide (hk1.below hb2 hk1.lt); have HK2 := hide hk2; have HB := hide (hb1.trans (hb2.mono hb1.size)); have h1 := hk1.lt; have h2 := hk2.lt; clear hk1 hk2 hb1 hb2; go_wp2; go_ret; exact ⟨w.heap.size, w1.heap.size, w3.heap.size, rfl, Nat.le_refl _, h1, h2, HK1.out.alloc _, HK2.out.alloc _, Blk.new _ _ _, HB.out.alloc (Nat.le_of_lt (Nat.lt_trans h1 h2)) _⟩
def RQ (O : Nat → Prop) (r m l : Nat) (LA LT : List (Nat × Nat × AT)) (w : World) : Prop := ∃ ga gt Fa Ft ta tt, RSt r ga gt m l Fa Ft ta tt w ∧ trL ta = LA ∧ trL tt = LT ∧ ∀ j, WrB r gt tt j → O j
def OrNew (O : Nat → Prop) (w : World) (j : Nat) : Prop := O j ∨ w.heap.size ≤ j
section
variable {O O' : Nat → Prop} {r m l : Nat} {LA LT : List (Nat × Nat × AT)} {w w' : World}
theorem RQ.below (h : RQ O r m l LA LT w) (hb : Below w.heap.size w w') : RQ O r m l LA LT w' := by
 obtain ⟨ga, gt, Fa, Ft, ta, tt, h1, h2, h3, h4⟩ := h; exact ⟨ga, gt, Fa, Ft, ta, tt, h1.below hb, h2, h3, h4⟩
theorem RQ.more (h : RQ O r m l LA LT w) (hO : ∀ j, O j → O' j) : RQ O' r m l LA LT w := by
 obtain ⟨ga, gt, Fa, Ft, ta, tt, h1, h2, h3, h4⟩ := h; exact ⟨ga, gt, Fa, Ft, ta, tt, h1, h2, h3, fun j hj => hO j (h4 j hj)⟩
theorem RQ.sorted (h : RQ O r m l LA LT w) : LA.Pairwise PLt ∧ LT.Pairwise PLt := by
 obtain ⟨ga, gt, Fa, Ft, ta, tt, h1, rfl, rfl, h4⟩ := h; exact ⟨trL_sorted ta h1.aim.tree.wf, trL_sorted tt h1.told.tree.wf⟩
theorem RQ.nrm (h : RQ O r m l LA LT w) : NrmA LA ∧ NrmA LT := by
 obtain ⟨ga, gt, Fa, Ft, ta, tt, h1, rfl, rfl, h4⟩ := h; exact ⟨h1.na, h1.nt⟩
theorem RQ.pg (h : RQ O r m l LA LT w) : (∀ z ∈ LA, PG z.1 z.2.1 ∧ z.2.2.path.length ≤ 100000) ∧ (∀ z ∈ LT, PG z.1 z.2.1 ∧ z.2.2.path.length ≤ 100000) := by
 obtain ⟨ga, gt, Fa, Ft, ta, tt, h1, rfl, rfl, h4⟩ := h; exact ⟨fun z hz => ⟨trGet_pg ta h1.aim.tree.wf ((trL_mem ta h1.aim.tree.wf).1 hz), (h1.paths.1 z hz).2⟩, fun z hz => ⟨trGet_pg tt h1.told.tree.wf ((trL_mem tt h1.told.tree.wf).1 hz), (h1.paths.2 z hz).2⟩⟩
theorem qnew_any (n : Int) (w : World) : Calls Tryz.prog 19 #[.int .i64 n] w fun e w' => ∃ r, e = .returned (.pointer (some ⟨r, 0, none⟩)) ∧ RQ (fun j => w.heap.size ≤ j) r (inZ n) 0 [] [] w' ∧ Below w.heap.size w w' := by
 refine (ribnewG_any n w).mono ?_; rintro e w' ⟨ga, gt, r, rfl, h1, h2, h3, k1, k2, k3, hb⟩; have hT : ∀ g : Nat, Blk w' g 201 #[.pointer none] → TrT (fun _ => False) w' g (.nil : Tr AT) := fun g hg => ⟨hg, TrA.nil_, by simp, by simp [trB], by simp, by simp [trL], by simp [trCnt]⟩
 refine ⟨r, rfl, ⟨ga, gt, fun _ => False, fun _ => False, .nil, .nil, ⟨k3, hT ga k1, hT gt k2, by simp [NrmA, trL], by simp [NrmA, trL], by simp, by simp, by omega, by omega, by simp [trB], by simp [trB], fun j hj => ?_⟩, rfl, rfl, fun j hj => ?_⟩, hb⟩
 ·rcases hj with rfl | hj
  ·exact ⟨by simp, by omega, by simp [trB]⟩
  ·simp [trB] at hj
 ·rcases hj with rfl | rfl | hj
  ·show w.heap.size ≤ j; omega
  ·show w.heap.size ≤ j; omega
  ·simp [trB] at hj
theorem qaim_any (A : Option Addr) (k c : Nat) (L : List TD) (h : RQ O r m l LA LT w) (hL : LF (fun j => ¬ O j) w A k c L) (hR : ∀ x ∈ L, TdOk x) (hk : k ≤ 20000) :
  Calls Tryz.prog 20 #[.pointer (some ⟨r, 0, none⟩), .slice A k c] w fun e w' => e = .returned (.tuple #[]) ∧ RQ (OrNew O w) r m l (aimL L) LT w' ∧ ChgS O w w' := by
 obtain ⟨ga, gt, Fa, Ft, ta, tt, h1, h2, rfl, h4⟩ := h; have hrO : O r := h4 r (.inl rfl); refine (aimG_any r gt (m : Nat) (l : Nat) _ A k c L w h1.blk (fun w' hc => lst_of_f (hL.chg hc (fun j hj e => hj (e ▸ hrO))).lst) hR hk).mono ?_; rintro e w' ⟨rfl, hk', ⟨t, F, hT, hF, hB, hg, hn⟩, hc⟩; have hl : trL t = aimL L := aim_list hT.tree.wf hR hg; have hrl := h1.blk.lt; have hgl := h1.told.root.lt; have hrF : ¬ F r := fun h => by have := hF r h; omega
 have hc2 : ChgS O w w' := chg_mono hc (fun k hk => .inl (by rw [hk]; exact hrO)); refine ⟨rfl, ⟨w.heap.size, gt, F, Ft, t, tt, ⟨hk', hT, h1.told.chg hc (fun j hj e => h1.rBt (e ▸ hj)) (fun j hj e => h1.rFt (e ▸ hj)) (fun e => h1.rgt e.symm), by rw [hl]; exact aimL_nrm L, h1.nt, hrF, h1.rFt, by omega, h1.rgt, fun h => by have := hB r h; omega, h1.rBt, fun j hj => ?_⟩, hl, rfl, fun j hj => .inl (h4 j hj)⟩, hc2⟩; have hjl : j < w.heap.size := h1.lt j (.inr hj); exact ⟨fun h => by have := hF j h; omega, by omega, fun h => by have := hB j h; omega⟩
theorem qgone_any (h : RQ O r m l LA LT w) :
  Calls Tryz.prog 22 #[.pointer (some ⟨r, 0, none⟩)] w fun e w' => ∃ A n c, e = .returned (.slice A n c) ∧ LstAt 2 pxR w' A n c (keyL (LT.filter (fun z => !(lkL z.1 z.2.1 LA).isSome))) ∧ RQ (OrNew O w) r m l LA (LT.filter (fun z => (lkL z.1 z.2.1 LA).isSome)) w' ∧ ChgS O w w' := by
 obtain ⟨ga, gt, Fa, Ft, ta, tt, h1, rfl, rfl, h4⟩ := h; refine (goneG_any r ga gt m l Fa Ft ta tt w h1).mono ?_; rintro e w' ⟨A, n, c, rfl, hl, tt', h5, h6, h7, h8, h9⟩; rw [notG_list h1.aim.tree.wf] at hl; rw [inG_list h1.aim.tree.wf] at h7; exact ⟨A, n, c, rfl, hl, ⟨ga, gt, Fa, Ft, ta, tt', h5, rfl, h7, fun j hj => .inl (h4 j (h6 j hj))⟩, chg_mono h9 (fun k hk => .inl (h4 k hk))⟩
theorem qhere_any (h : RQ O r m 0 LA LT w) (hn : LT.length + LA.length < 90000) :
  Calls Tryz.prog 23 #[.pointer (some ⟨r, 0, none⟩)] w fun e w' => ∃ A n c, e = .returned (.slice A n c) ∧ LstAt 11 tdR w' A n c ((LA.filter (lackL LT)).map tdZ) ∧ RQ (OrNew O w) r m (if (LA.filter (lackL LT)).length = 0 then 0 else m) LA ((LA.filter (lackL LT)).foldl putZ LT) w' ∧ ((LA.filter (lackL LT)).foldl putZ LT).length ≤ LT.length + LA.length ∧ ChgS O w w' := by
 obtain ⟨ga, gt, Fa, Ft, ta, tt, h1, rfl, rfl, h4⟩ := h; have e1 := lackG_list h1.told.tree.wf h1.na; have e2 : ((trL ta).filter (lackL (trL tt))).map tdN = ((trL ta).filter (lackL (trL tt))).map tdZ := tdN_Z (fun z hz => h1.na z (List.mem_filter.1 hz).1); rw [trL_len, trL_len] at hn; refine (hereG_any r ga gt m Fa Ft ta tt w h1 hn).mono ?_; rintro e w' ⟨A, n, c, rfl, hl, tt', Ft', h5, h6, h7, h8, h9⟩; rw [e1, e2] at hl; rw [e1] at h5 h7; refine ⟨A, n, c, rfl, hl, ⟨ga, gt, Fa, Ft', ta, tt', h5, rfl, h7, fun j hj => (h6 j hj).imp (h4 j) id⟩, ?_, chg_mono h9 (fun k hk => .inl (h4 k hk))⟩; rw [← h7, trL_len, trL_len, trL_len]; exact h8
theorem qhereL_any (h : RQ O r m (l + 1) LA LT w) :
  Calls Tryz.prog 23 #[.pointer (some ⟨r, 0, none⟩)] w fun e w' => e = .returned (.slice none 0 0) ∧ w' = w := by
 obtain ⟨ga, gt, Fa, Ft, ta, tt, h1, rfl, rfl, h4⟩ := h; exact hereL_any r ga gt m l Fa Ft ta tt w h1
theorem qpend_any (h : RQ O r m l LA LT w) (hn : LA.length + LT.length ≤ 90000) :
  Calls Tryz.prog 25 #[.pointer (some ⟨r, 0, none⟩)] w fun e w' => ∃ A n c, e = .returned (.slice A n c) ∧ LstAt 2 pxR w' A n c (sortP (keyL (LA.filter (lackL LT)) ++ keyL (LT.filter (lackL LA)))) ∧ Below w.heap.size w w' := by
 obtain ⟨ga, gt, Fa, Ft, ta, tt, h1, rfl, rfl, h4⟩ := h; rw [← lackG_list h1.told.tree.wf h1.na, ← lackG_list h1.aim.tree.wf h1.nt]; rw [trL_len, trL_len] at hn; exact pendG_any r ga gt m l Fa Ft ta tt w h1 hn
theorem qtold_any (h : RQ O r m l LA LT w) :
  Calls Tryz.prog 30 #[.pointer (some ⟨r, 0, none⟩)] w fun e w' => ∃ A n c, e = .returned (.slice A n c) ∧ LstAt 11 tdR w' A n c (LT.map tdZ) ∧ Below w.heap.size w w' := by
 obtain ⟨ga, gt, Fa, Ft, ta, tt, h1, rfl, rfl, h4⟩ := h; refine (toldG_any r gt tt Ft _ _ _ w h1.blk h1.told).mono ?_; rintro e w' ⟨A, c, xs, rfl, hl, hb⟩; rw [tdN_Z h1.nt] at hl; exact ⟨A, _, c, rfl, hl.lst (by decide), hb⟩
theorem qleft_any (h : RQ O r m l LA LT w) :
  Calls Tryz.prog 27 #[.pointer (some ⟨r, 0, none⟩)] w fun e w' => e = .returned (.int .i64 (l : Nat)) ∧ w' = w := by
 obtain ⟨ga, gt, Fa, Ft, ta, tt, h1, rfl, rfl, h4⟩ := h; exact leftG_any r _ _ _ (l : Nat) w h1.blk
theorem RQ.own (h : RQ O r m l LA LT w) (m' l' : Nat) (hk : ∀ ga gt : Nat, Blk w r 119 #[.pointer (some ⟨ga, 0, none⟩), .pointer (some ⟨gt, 0, none⟩), .int .i64 (m : Nat), .int .i64 (l : Nat)] → Blk w' r 119 #[.pointer (some ⟨ga, 0, none⟩), .pointer (some ⟨gt, 0, none⟩), .int .i64 (m' : Nat), .int .i64 (l' : Nat)]) (hc : ChgS (fun k => k = r) w w') : RQ O r m' l' LA LT w' := by
 obtain ⟨ga, gt, Fa, Ft, ta, tt, h1, rfl, rfl, h4⟩ := h; exact ⟨ga, gt, Fa, Ft, ta, tt, ⟨hk ga gt h1.blk, h1.aim.chg hc (fun j hj e => h1.rBa (e ▸ hj)) (fun j hj e => h1.rFa (e ▸ hj)) (fun e => h1.rga e.symm), h1.told.chg hc (fun j hj e => h1.rBt (e ▸ hj)) (fun j hj e => h1.rFt (e ▸ hj)) (fun e => h1.rgt e.symm), h1.na, h1.nt, h1.rFa, h1.rFt, h1.rga, h1.rgt, h1.rBa, h1.rBt, h1.ap⟩, rfl, rfl, h4⟩
theorem RQ.turns (h : RQ O r m l LA LT w) : O r ∧ ∃ ga gt : Nat, Blk w r 119 #[.pointer (some ⟨ga, 0, none⟩), .pointer (some ⟨gt, 0, none⟩), .int .i64 (m : Nat), .int .i64 (l : Nat)] := by
 obtain ⟨ga, gt, Fa, Ft, ta, tt, h1, rfl, rfl, h4⟩ := h; exact ⟨h4 r (.inl rfl), ga, gt, h1.blk⟩
theorem blk_det {g : Nat} {t t' : TypeId} {cs cs' : Array Value} (h : Blk w g t cs) (h' : Blk w g t' cs') : cs = cs' := by
 unfold Blk at h h'; rw [h] at h'; simp only [Option.some.injEq, Obj.cells.injEq] at h'; exact h'.1
theorem qtick_any (h : RQ O r m l LA LT w) (hl : l ≤ 65535) :
  Calls Tryz.prog 28 #[.pointer (some ⟨r, 0, none⟩)] w fun e w' => e = .returned (.tuple #[]) ∧ RQ O r m (l - 1) LA LT w' ∧ ChgS O w w' := by
 obtain ⟨hO, ga, gt, hk⟩ := h.turns; refine (tickG_any r _ _ _ l w hk hl).mono ?_; rintro e w' ⟨rfl, hk', hc⟩; refine ⟨rfl, h.own m (l - 1) (fun ga' gt' hk2 => ?_) hc, chg_mono hc (fun k hk => .inl (by rw [hk]; exact hO))⟩; have := blk_det hk hk2; simp only [Array.mk.injEq, List.cons.injEq, Value.pointer.injEq, Option.some.injEq, Addr.mk.injEq, and_true] at this; rw [← this.1, ← this.2]; exact hk'
end
end Go.Proofs.YtcinjckajnnhmaaGreat
set_option linter.unusedSimpArgs false
set_option linter.unusedVariables false
namespace Go.Proofs.YtcinjckajnnhmaaGreat
open Go.RowKit Go.WideShapes Go.ChangeShapes
def tdQ (w : World) (vs : List Value) (x : TD) : Prop := tdR w vs x ∧ (∃ a : Nat, x.a = (a : Int) ∧ a < 4294967296) ∧ -9223372036854775808 ≤ x.n ∧ x.n ≤ 9223372036854775807
theorem tdqMono : SMono tdQ := fun w w' vs x hb h => ⟨tdMono w w' vs x hb h.1, h.2⟩
structure AC where
  k : Int
  n : Int
  l : List TD
def acR (w : World) (vs : List Value) (x : AC) : Prop := ∃ A n c, vs = [.int .i64 x.k, .int .i64 x.n, .slice A n c] ∧ LstAt 11 tdQ w A n c x.l
theorem acMono : SMono acR := fun _ _ _ _ hb ⟨A, n, c, e, h⟩ => ⟨A, n, c, e, h.below tdqMono hb⟩
end Go.Proofs.YtcinjckajnnhmaaGreat
set_option linter.unusedSimpArgs false
set_option linter.unusedVariables false
namespace Go.Proofs.YtcinjckajnnhmaaGreat
open Go.RowKit Go.WideShapes Go.ChangeShapes
attribute [local go_sem] Oper.semAt_some
theorem atok_cut (X : AT) : AtOk (cutA X) := ⟨by have := cutP_num X.path; show numS (cutP X.path) ≤ 10000; omega, by show (X.comms.take 260).length ≤ 10000; rw [List.length_take]; omega⟩
theorem cutP_few (l : List SG) : (cutP l).length ≤ 12 := by unfold cutP; rw [List.length_map, List.length_take]; omega
theorem lstq_of {w : World} {A : Option Addr} {n c : Nat} {l : List TD} (h : LstAt 11 tdQ w A n c l) : LstAt 11 tdR w A n c l := lst_map (fun _ _ hr => hr.1) h
theorem lstq_ok {w : World} {A : Option Addr} {n c : Nat} {l : List TD} (h : LstAt 11 tdQ w A n c l) : ∀ x ∈ (l.take 12).map cutTD, TdOk x ∧ x.at_.path.length ≤ 100000 := fun x hx => by
 obtain ⟨y, hy, rfl⟩ := List.mem_map.1 hx; have hy := List.mem_of_mem_take hy; obtain ⟨k, hk⟩ := List.getElem?_of_mem hy; have hkl := (List.getElem?_eq_some_iff.1 hk).1; obtain ⟨h1, h2, h3, h4⟩ := h; obtain ⟨g, o, _, _, hc⟩ := h4 (by omega); obtain ⟨vs, _, hr, _⟩ := hc k y hk; refine ⟨⟨hr.2.1, hr.2.2.1, hr.2.2.2, atok_cut y.at_⟩, ?_⟩; have := cutP_few y.at_.path; show (cutP y.at_.path).length ≤ 100000; omega
section
variable {O O' : Nat → Prop} {r m l : Nat} {LA LT : List (Nat × Nat × AT)} {w w' : World}
theorem RQ.cap (h : RQ O r m l LA LT w) (hO : ∀ j, O j → j < w.heap.size → O' j) : RQ O' r m l LA LT w := by
 obtain ⟨ga, gt, Fa, Ft, ta, tt, h1, h2, h3, h4⟩ := h; exact ⟨ga, gt, Fa, Ft, ta, tt, h1, h2, h3, fun j hj => hO j (h4 j hj) (h1.lt j hj)⟩
theorem qhere2_any (h : RQ O r m l LA LT w) (hl : l ≤ m) (hn : LT.length + LA.length < 90000) :
  Calls Tryz.prog 23 #[.pointer (some ⟨r, 0, none⟩)] w fun e w' => ∃ A n c l' LT', e = .returned (.slice A n c) ∧ RQ (OrNew O w) r m l' LA LT' w' ∧ l' ≤ m ∧ LT'.length ≤ LT.length + LA.length ∧ ChgS O w w' := by
 cases l with
 | zero =>
  refine (qhere_any h hn).mono ?_; rintro e w' ⟨A, n, c, rfl, _, h1, h2, h3⟩; exact ⟨A, n, c, _, _, rfl, h1, by split <;> omega, h2, h3⟩
 | succ l =>
  refine (qhereL_any h).mono ?_; rintro e w' ⟨rfl, rfl⟩; exact ⟨none, 0, 0, _, _, rfl, h.more (fun j hj => .inl hj), hl, by omega, chg_refl _ _⟩
theorem aimL_len (L : List TD) : (aimL L).length ≤ L.length := by
 suffices h : ∀ (L : List TD) (acc : List (Nat × Nat × AT)), (L.foldl aimPut acc).length ≤ acc.length + L.length from by simpa [aimL] using h L []
 intro L
 induction L with
 | nil => intro acc; simp
 | cons x L ih =>
  intro acc; have h1 := ih (aimPut acc x); have h2 := aimPut_len acc x; rw [List.foldl_cons, List.length_cons]; omega
theorem few_len (l : List TD) : (aimL ((l.take 12).map cutTD)).length ≤ 12 := by
 have := aimL_len ((l.take 12).map cutTD); rw [List.length_map, List.length_take] at this; omega
end
theorem keyL_mem {L : List (Nat × Nat × AT)} {x : Nat × Nat} : x ∈ keyL L ↔ ∃ z ∈ L, (z.1, z.2.1) = x := by unfold keyL; exact List.mem_map
theorem pend_in {A T : List (Nat × Nat × AT)} (hA : A.Pairwise PLt) (hk : ∀ z ∈ T, (lkL z.1 z.2.1 A).isSome = true) : ∀ x ∈ keyL (A.filter (lackL T)) ++ keyL (T.filter (lackL A)), (lkL x.1 x.2 A).isSome = true := fun x hx => by
 rcases List.mem_append.1 hx with hx | hx
 ·obtain ⟨z, hz, rfl⟩ := keyL_mem.1 hx; rw [(lkL_mem (x := z.2.2) hA).2 (List.mem_filter.1 hz).1]
  rfl
 ·obtain ⟨z, hz, rfl⟩ := keyL_mem.1 hx; exact hk z (List.mem_filter.1 hz).1
theorem pend_some {A T : List (Nat × Nat × AT)} (hA : A.Pairwise PLt) (hT : T.Pairwise PLt) (hk : ∀ z ∈ T, (lkL z.1 z.2.1 A).isSome = true) (h : A.filter (lackL T) = []) : keyL (A.filter (lackL T)) ++ keyL (T.filter (lackL A)) = [] := by
 have e := settle_some hA hT hk h; subst e; rw [settle_same hA]
 rfl
theorem sortP_none {l : List (Nat × Nat)} (hg : ∀ x ∈ l, PG x.1 x.2) : (sortP l).length = 0 ↔ l = [] := by
 constructor
 ·intro h
  cases l with
  | nil => rfl
  | cons x l =>
   have := (sortP_mem hg x).2 List.mem_cons_self; rw [List.eq_nil_of_length_eq_zero h] at this
   cases this
 ·rintro rfl
  cases h : sortP [] with
  | nil => rfl
  | cons x l =>
   have := (sortP_mem (l := []) (by simp) x).1 (by rw [h]; exact List.mem_cons_self)
   cases this
def X00 : AT := ⟨0, 0, [], 0, 0, 0, 0, 0, []⟩
theorem norm_X00 : normA X00 = X00 := by
 have h : ∀ k, K8 k → attB 0 k = false := fun k hk => by rcases k8_cases hk with rfl | rfl | rfl | rfl | rfl | rfl | rfl | rfl <;> rfl
 have h0 : (nmH 0 : Int) = 0 := (by decide)
 unfold normA X00; simp only [h 1 (by unfold K8; omega), h 2 (by unfold K8; omega), h 3 (by unfold K8; omega), h 4 (by unfold K8; omega), h 5 (by unfold K8; omega), h 7 (by unfold K8; omega), h 8 (by unfold K8; omega), h0]
 rfl
theorem aim_X00 : aimL [⟨167772160, 8, X00⟩] = [(167772160, 8, X00)] := by
 have h : goodB 167772160 8 = true := (by decide)
 unfold aimL; rw [List.foldl_cons, List.foldl_nil]; unfold aimPut; rw [norm_X00]; show (if goodB 167772160 8 = true then _ else _) = _; rw [if_pos h]
 rfl
theorem same_X00 : sortP (keyL ([(167772160, 8, X00)].filter (lackL [(167772160, 8, X00)])) ++ keyL ([(167772160, 8, X00)].filter (lackL [(167772160, 8, X00)]))) = [] := by
 rw [settle_same (by simp)]; exact List.eq_nil_of_length_eq_zero ((sortP_none (l := []) (by simp)).2 rfl)
set_option maxRecDepth 100000 in
set_option maxHeartbeats 8000000 in
theorem lives36G_any (w : World) : Calls Tryz.prog 31 #[] w fun e w' => e = .returned (.bool true) ∧ Below w.heap.size w w' := by
  have HN := hide (qnew_any 0 w); have e0 : inZ 0 = 0 := rfl; rw [e0] at HN; have HSm := hide same_X00; clear e0
  go_enter Tryz.func31, Tryz.ntmps31
  go_wp2_with fail
  refine HN.out.mono ?_; rintro e w1 ⟨r, rfl, hq1, hb1⟩; obtain ⟨w2, hw2⟩ : ∃ W, w1.alloc (.cells #[.int .u32 167772160, .int .i64 8] 24) = W := ⟨_, rfl⟩
  have hb2 : Below w1.heap.size w1 w2 := hw2 ▸ blkBelow1 w1 _; have hp2 : Blk w2 w1.heap.size 24 #[.int .u32 167772160, .int .i64 8] := hw2 ▸ Blk.new w1 _ _; obtain ⟨w3, hw3⟩ : ∃ W, w2.alloc (.cells #[.int .u32 167772160, .int .i64 8, .int .i64 0, .int .i64 0, .slice none 0 0, .int .u32 0, .int .u32 0, .int .u32 0, .int .u32 0, .int .u32 0, .slice none 0 0] 71) = W := ⟨_, rfl⟩
  have hb3 : Below w2.heap.size w2 w3 := hw3 ▸ blkBelow1 w2 _; have hl3 : Blk w3 w2.heap.size 71 #[.int .u32 167772160, .int .i64 8, .int .i64 0, .int .i64 0, .slice none 0 0, .int .u32 0, .int .u32 0, .int .u32 0, .int .u32 0, .int .u32 0, .slice none 0 0] := hw3 ▸ Blk.new w2 _ _; have hs1 := hb1.size; have hs2 := hb2.size; have hs3 := hb3.size; have hpl := hp2.lt; have hq3 : RQ (fun j => w.heap.size ≤ j ∧ j < w1.heap.size) r 0 0 [] [] w3 := ((hq1.cap (fun j hj hl => ⟨hj, hl⟩)).below hb2).below hb3; have HQ3 := hide hq3; have HPb3 := hide (hp2.below hb3 hp2.lt); have HB3 := hide (hb1.trans ((hb2.trans (hb3.mono hs2)).mono hb1.size))
  have HAim := hide (qaim_any (some ⟨w2.heap.size, 0, none⟩) 1 1 [⟨167772160, 8, X00⟩] hq3 ⟨⟨rfl, Nat.le_refl _, by unfold maxLen; omega, fun _ => ⟨_, _, rfl, hl3.lt, fun k x hx => by
    have hk0 : k = 0 := by
      have := (List.getElem?_eq_some_iff.1 hx).1; simp at this; exact this
    subst hk0; simp only [List.getElem?_cons_zero, Option.some.injEq] at hx; subst hx; refine ⟨[.int .u32 167772160, .int .i64 8, .int .i64 0, .int .i64 0, .slice none 0 0, .int .u32 0, .int .u32 0, .int .u32 0, .int .u32 0, .int .u32 0, .slice none 0 0], rfl, fun w2 _ => ⟨none, 0, 0, none, 0, 0, rfl, LstAt.none_, rfl, Nat.le_refl _, Nat.zero_le _, by simp [X00], fun h => absurd h (by omega)⟩, fun j v hj => ?_⟩; rw [Nat.zero_mul, Nat.add_zero, Nat.zero_add, hl3.cell j]
    simpa using hj⟩⟩, fun _ a e hO => by cases e; have h := hO.2; simp only at h; omega⟩ (fun x hx => by
      simp only [List.mem_singleton] at hx; subst hx; exact ⟨⟨167772160, rfl, by omega⟩, by decide, by decide, by decide, by decide⟩) (by omega))
  rw [aim_X00] at HAim; have HW2 := hide hw2; have HW3 := hide hw3; have q0 : w2.cell? ⟨w1.heap.size, 0, none⟩ = some (.int .u32 167772160) := hp2.cell 0; have q1 : w2.cell? ⟨w1.heap.size, 1, none⟩ = some (.int .i64 8) := hp2.cell 1; clear hq1 hb1 hw2 hb2 hp2 hw3 hb3 hl3 hq3
  go_upto_region 3 with fail
  rw [HW2.out]
  go_wp2_with fail
  rw [HW3.out]; refine HAim.out.mono ?_; rintro e w4 ⟨rfl, hq4, hc4⟩; have HB4 := hide (HB3.out.trans (chg_to_below hc4 (by omega) (fun k hk => hk.1))); have HPb4 := hide (chg_blk hc4 HPb3.out (fun h => by have := h.2; omega)); have hs4 := hc4.size; have HHe := hide (qhere_any hq4 (by decide)); clear hq4 hc4 q0 q1
  go_wp2_with fail
  refine HHe.out.mono ?_; rintro e w5 ⟨A5, n5, c5, rfl, hl5, hq5, _, hc5⟩; have e5 : [(167772160, 8, X00)].filter (lackL []) = [(167772160, 8, X00)] := rfl; rw [e5] at hl5 hq5; obtain rfl : n5 = 1 := hl5.1.symm; obtain ⟨g3, o3, z, B1, k1, c1, B2, m2, d2, rfl, hg3, hz, _, _, hcs⟩ := TZat hl5 (show 0 < 1 by omega); simp only [List.getElem?_cons_zero, Option.some.injEq] at hz; subst hz; have HE0 : Hid (w5.cell? ⟨g3, o3, none⟩ = some (.int .u32 167772160)) := hide (by have := hcs 0 _ rfl; simpa using this); have HE1 : Hid (w5.cell? ⟨g3, o3 + 1, none⟩ = some (.int .i64 8)) := hide (by have := hcs 1 _ rfl; simpa using this); have HG3 := hide hg3; have hs5 := hc5.size; have HB5 := hide (HB4.out.trans (chg_to_below hc5 (by omega) (fun k hk => hk.elim (fun h => h.1) (fun h => by omega)))); have HPb := hide (chg_blk hc5 HPb4.out (fun h => h.elim (fun h => by have := h.2; omega) (fun h => by omega))); have HQ : Hid (RQ (OrNew (OrNew (fun j => w.heap.size ≤ j ∧ j < w1.heap.size) w3) w4) r 0 0 [(167772160, 8, X00)] [(167772160, 8, X00)] w5) := hide hq5; have hnc5 := hl5.2.1; have hmx5 := hl5.2.2.1; unfold maxLen at hmx5; obtain ⟨pb, hpb⟩ : ∃ b, w1.heap.size = b := ⟨_, rfl⟩
  rw [hpb] at HPb ⊢; clear hl5 hq5 hc5 hcs hg3 e5 HPb3 HPb4
  go_upto_region 5 with fail
  have Hmn := hide (show AllMono [(fun v _ => v = .slice (some ⟨g3, o3, none⟩) 1 c5), (fun v _ => v = .int .i64 1), (fun v _ => v = .bool true), (fun v _ => v = .bool true), (fun v _ => v = .slice (some ⟨g3, o3, none⟩) 1 c5), (fun v _ => v = .pointer (some ⟨g3, o3, none⟩)), (fun v _ => v = .pointer (some ⟨g3, o3, none⟩)), (fun v _ => v = .agg #[.int .u32 167772160, .int .i64 8]), (fun v _ => v = .agg #[.int .u32 167772160, .int .i64 8]), (fun v _ => v = .bool true), (fun v _ => v = .bool true), (fun v _ => v = .bool true), (fun v _ => v = .pointer (some ⟨r, 0, none⟩)), (fun v _ => ∃ A c, v = .slice A 1 c), (fun v _ => v = .int .i64 1), (fun v _ => v = .bool true), (fun v _ => v = .bool true), (fun v _ => v = .bool true), (fun v _ => v = .pointer (some ⟨r, 0, none⟩)), (fun v _ => ∃ A c, v = .slice A 0 c), (fun v _ => v = .int .i64 0), (fun v _ => v = .bool true), (fun v _ => v = .bool true)] from by repeat (first | exact trivial | refine ⟨fun _ _ _ _ h => h, ?_⟩)); refine wp_region_relT 23 _ (by kernel_rfl) (by kernel_rfl) (by kernel_rfl) (by kernel_rfl) (by kernel_rfl) (relMono _ Hmn.out) ⟨?_, ?_, ?_, ?_, ?_, ?_, ?_, ?_, ?_, ?_, ?_, ?_, ?_, ?_, ?_, ?_, ?_, ?_, ?_, ?_, ?_, ?_, ?_, trivial⟩ ?_
  · refine relStep_plain rfl ?_; intro Ac w5 hp; have a3 : Ac.eval (.tmp 3) = .slice (some ⟨g3, o3, none⟩) 1 c5 := hp.out 3 (by rfl); exact relPureX (.slice (some ⟨g3, o3, none⟩) 1 c5) (fun ρ hρ h1 h2 h3 => by rw [hρ] at a3; simp [go_sem, ↓IntWalk.iteOmega, *]) rfl
  · refine relStep_plain rfl ?_; intro Ac w5 hp; have a13 : Ac.eval (.tmp 13) = .slice (some ⟨g3, o3, none⟩) 1 c5 := hp.dep 0 (by kernel_rfl); exact relPureX (.int .i64 1) (fun ρ hρ h1 h2 h3 => by rw [hρ] at a13; simp [go_sem, ↓IntWalk.iteOmega, *]) rfl
  · refine relStep_plain rfl ?_; intro Ac w5 hp; have a14 : Ac.eval (.tmp 14) = .int .i64 1 := hp.dep 1 (by kernel_rfl); exact relPureX (.bool true) (fun ρ hρ h1 h2 h3 => by rw [hρ] at a14; simp [go_sem, ↓IntWalk.iteOmega, *]) rfl
  · refine relStep_plain rfl ?_; intro Ac w5 hp; have a15 : Ac.eval (.tmp 15) = .bool true := hp.dep 2 (by kernel_rfl); exact relPureX (.bool true) (fun ρ hρ h1 h2 h3 => by rw [hρ] at a15; simp [go_sem, ↓IntWalk.iteOmega, *]) rfl
  · refine relStep_guard (g := 3) (b := true) (x := true) rfl (by kernel_rfl) rfl (by kernel_rfl) rfl (fun _ _ h => h) ?_; intro Ac w5 hp; have a3 : Ac.eval (.tmp 3) = .slice (some ⟨g3, o3, none⟩) 1 c5 := hp.out 3 (by rfl); exact relPureX (.slice (some ⟨g3, o3, none⟩) 1 c5) (fun ρ hρ h1 h2 h3 => by rw [hρ] at a3; simp [go_sem, ↓IntWalk.iteOmega, *]) rfl
  · refine relStep_guard (g := 3) (b := true) (x := true) rfl (by kernel_rfl) rfl (by kernel_rfl) rfl (fun _ _ h => h) ?_; intro Ac w5 hp; have a17 : Ac.eval (.tmp 17) = .slice (some ⟨g3, o3, none⟩) 1 c5 := hp.dep 4 (by kernel_rfl); exact relPureX (.pointer (some ⟨g3, o3, none⟩)) (fun ρ hρ h1 h2 h3 => by rw [hρ] at a17; simp [go_sem, ↓IntWalk.iteOmega, *]) rfl
  · refine relStep_guard (g := 3) (b := true) (x := true) rfl (by kernel_rfl) rfl (by kernel_rfl) rfl (fun _ _ h => h) ?_; intro Ac w5 hp; have a18 : Ac.eval (.tmp 18) = .pointer (some ⟨g3, o3, none⟩) := hp.dep 5 (by kernel_rfl); exact relPureX (.pointer (some ⟨g3, o3, none⟩)) (fun ρ hρ h1 h2 h3 => by rw [hρ] at a18; simp [go_sem, ↓IntWalk.iteOmega, *]) rfl
  · refine relStep_guard (g := 3) (b := true) (x := true) rfl (by kernel_rfl) rfl (by kernel_rfl) rfl (fun _ _ h => h) ?_; intro Ac w5 hp; have hb := hp.bel; have a19 : Ac.eval (.tmp 19) = .pointer (some ⟨g3, o3, none⟩) := hp.dep 6 (by kernel_rfl); have e0 : w5.cell? ⟨g3, o3, none⟩ = some (.int .u32 167772160) := (hb.cell HG3.out).trans HE0.out; have e1 : w5.cell? ⟨g3, o3 + 1, none⟩ = some (.int .i64 8) := (hb.cell HG3.out).trans HE1.out; exact relPureX (.agg #[.int .u32 167772160, .int .i64 8]) (fun ρ hρ h1 h2 h3 => by rw [hρ] at a19; simp [go_sem, ↓IntWalk.iteOmega, *]) rfl
  · refine relStep_guard (g := 3) (b := true) (x := true) rfl (by kernel_rfl) rfl (by kernel_rfl) rfl (fun _ _ h => h) ?_; intro Ac w5 hp; have hb := hp.bel; have a2 : Ac.eval (.tmp 2) = .pointer (some ⟨pb, 0, none⟩) := hp.out 2 (by rfl); have hp5 := HPb.out.below hb HPb.out.lt; have p0 : w5.cell? ⟨pb, 0, none⟩ = some (.int .u32 167772160) := hp5.cell 0; have p1 : w5.cell? ⟨pb, 1, none⟩ = some (.int .i64 8) := hp5.cell 1; exact relPureX (.agg #[.int .u32 167772160, .int .i64 8]) (fun ρ hρ h1 h2 h3 => by rw [hρ] at a2; simp [go_sem, ↓IntWalk.iteOmega, *]) rfl
  · refine relStep_guard (g := 3) (b := true) (x := true) rfl (by kernel_rfl) rfl (by kernel_rfl) rfl (fun _ _ h => h) ?_; intro Ac w5 hp; have a20 : Ac.eval (.tmp 20) = .agg #[.int .u32 167772160, .int .i64 8] := hp.dep 7 (by kernel_rfl); have a21 : Ac.eval (.tmp 21) = .agg #[.int .u32 167772160, .int .i64 8] := hp.dep 8 (by kernel_rfl); exact relPureX (.bool true) (fun ρ hρ h1 h2 h3 => by rw [hρ] at a20 a21; simp [go_sem, ↓IntWalk.iteOmega, *]) rfl
  · refine relStep_plain rfl ?_; intro Ac w5 hp; have a16 : Ac.eval (.tmp 16) = .bool true := hp.dep 3 (by kernel_rfl); have a22 : Ac.eval (.tmp 22) = .bool true := hp.dep 9 (by kernel_rfl); exact relPureX (.bool true) (fun ρ hρ h1 h2 h3 => by rw [hρ] at a16 a22; simp [go_sem, ↓IntWalk.iteOmega, *]) rfl
  · refine relStep_plain rfl ?_; intro Ac w5 hp; have a23 : Ac.eval (.tmp 23) = .bool true := hp.dep 10 (by kernel_rfl); exact relPureX (.bool true) (fun ρ hρ h1 h2 h3 => by rw [hρ] at a23; simp [go_sem, ↓IntWalk.iteOmega, *]) rfl
  · refine relStep_guard (g := 11) (b := true) (x := true) rfl (by kernel_rfl) rfl (by kernel_rfl) rfl (fun _ _ h => h) ?_; intro Ac w5 hp; have a1 : Ac.eval (.tmp 1) = .pointer (some ⟨r, 0, none⟩) := hp.out 1 (by rfl); exact relPureX (.pointer (some ⟨r, 0, none⟩)) (fun ρ hρ h1 h2 h3 => by rw [hρ] at a1; simp [go_sem, ↓IntWalk.iteOmega, *]) rfl
  · refine relStep_guard (g := 11) (b := true) (x := true) rfl (by kernel_rfl) rfl (by kernel_rfl) rfl (fun _ _ h => h) ?_; intro Ac w5 hp; have hb := hp.bel; have a25 : Ac.eval (.tmp 25) = .pointer (some ⟨r, 0, none⟩) := hp.dep 12 (by kernel_rfl); obtain ⟨ρ, hρ, hc, hf, hgl⟩ := evalX Ac; rw [hρ] at a25; refine relCall hρ 30 #[.pointer (some ⟨r, 0, none⟩)] (by simp [go_sem, ↓IntWalk.iteOmega, *]) ?_; refine (qtold_any (HQ.out.below hb)).mono ?_; rintro e w6 ⟨A6, n6, c6, rfl, hl6, hb6⟩; obtain rfl : n6 = 1 := hl6.1.symm; exact ⟨_, rfl, ⟨A6, c6, rfl⟩, hb6⟩
  · refine relStep_guard (g := 11) (b := true) (x := true) rfl (by kernel_rfl) rfl (by kernel_rfl) rfl (fun _ _ h => h) ?_; intro Ac w5 hp; obtain ⟨A7, c7, a26⟩ := hp.dep 13 (by kernel_rfl); change Ac.eval (.tmp 26) = _ at a26; exact relPureX (.int .i64 1) (fun ρ hρ h1 h2 h3 => by rw [hρ] at a26; simp [go_sem, ↓IntWalk.iteOmega, *]) rfl
  · refine relStep_guard (g := 11) (b := true) (x := true) rfl (by kernel_rfl) rfl (by kernel_rfl) rfl (fun _ _ h => h) ?_; intro Ac w5 hp; have a27 : Ac.eval (.tmp 27) = .int .i64 1 := hp.dep 14 (by kernel_rfl); exact relPureX (.bool true) (fun ρ hρ h1 h2 h3 => by rw [hρ] at a27; simp [go_sem, ↓IntWalk.iteOmega, *]) rfl
  · refine relStep_plain rfl ?_; intro Ac w5 hp; have a24 : Ac.eval (.tmp 24) = .bool true := hp.dep 11 (by kernel_rfl); have a28 : Ac.eval (.tmp 28) = .bool true := hp.dep 15 (by kernel_rfl); exact relPureX (.bool true) (fun ρ hρ h1 h2 h3 => by rw [hρ] at a24 a28; simp [go_sem, ↓IntWalk.iteOmega, *]) rfl
  · refine relStep_plain rfl ?_; intro Ac w5 hp; have a29 : Ac.eval (.tmp 29) = .bool true := hp.dep 16 (by kernel_rfl); exact relPureX (.bool true) (fun ρ hρ h1 h2 h3 => by rw [hρ] at a29; simp [go_sem, ↓IntWalk.iteOmega, *]) rfl
  · refine relStep_guard (g := 17) (b := true) (x := true) rfl (by kernel_rfl) rfl (by kernel_rfl) rfl (fun _ _ h => h) ?_; intro Ac w5 hp; have a1 : Ac.eval (.tmp 1) = .pointer (some ⟨r, 0, none⟩) := hp.out 1 (by rfl); exact relPureX (.pointer (some ⟨r, 0, none⟩)) (fun ρ hρ h1 h2 h3 => by rw [hρ] at a1; simp [go_sem, ↓IntWalk.iteOmega, *]) rfl
  · refine relStep_guard (g := 17) (b := true) (x := true) rfl (by kernel_rfl) rfl (by kernel_rfl) rfl (fun _ _ h => h) ?_; intro Ac w5 hp; have hb := hp.bel; have a31 : Ac.eval (.tmp 31) = .pointer (some ⟨r, 0, none⟩) := hp.dep 18 (by kernel_rfl); obtain ⟨ρ, hρ, hc, hf, hgl⟩ := evalX Ac; rw [hρ] at a31; refine relCall hρ 25 #[.pointer (some ⟨r, 0, none⟩)] (by simp [go_sem, ↓IntWalk.iteOmega, *]) ?_; refine (qpend_any (HQ.out.below hb) (by decide)).mono ?_; rintro e w6 ⟨A6, n6, c6, rfl, hl6, hb6⟩; obtain rfl : n6 = 0 := (by have h1 := hl6.1; rw [HSm.out] at h1; exact h1.symm)
    exact ⟨_, rfl, ⟨A6, c6, rfl⟩, hb6⟩
  · refine relStep_guard (g := 17) (b := true) (x := true) rfl (by kernel_rfl) rfl (by kernel_rfl) rfl (fun _ _ h => h) ?_; intro Ac w5 hp; obtain ⟨A8, c8, a32⟩ := hp.dep 19 (by kernel_rfl); change Ac.eval (.tmp 32) = _ at a32; exact relPureX (.int .i64 0) (fun ρ hρ h1 h2 h3 => by rw [hρ] at a32; simp [go_sem, ↓IntWalk.iteOmega, *]) rfl
  · refine relStep_guard (g := 17) (b := true) (x := true) rfl (by kernel_rfl) rfl (by kernel_rfl) rfl (fun _ _ h => h) ?_; intro Ac w5 hp; have a33 : Ac.eval (.tmp 33) = .int .i64 0 := hp.dep 20 (by kernel_rfl); exact relPureX (.bool true) (fun ρ hρ h1 h2 h3 => by rw [hρ] at a33; simp [go_sem, ↓IntWalk.iteOmega, *]) rfl
  · refine relStep_plain rfl ?_; intro Ac w5 hp; have a30 : Ac.eval (.tmp 30) = .bool true := hp.dep 17 (by kernel_rfl); have a34 : Ac.eval (.tmp 34) = .bool true := hp.dep 21 (by kernel_rfl); exact relPureX (.bool true) (fun ρ hρ h1 h2 h3 => by rw [hρ] at a30 a34; simp [go_sem, ↓IntWalk.iteOmega, *]) rfl
  intro u w8 hb7 hall; have e35 : u 22 = .bool true := relAll_at hall (i := 22) (by decide +kernel); clear hall; simp only [List.drop_succ_cons, List.drop_zero, List.take_succ_cons, List.take_zero, putAll, Act.put, List.setIfInBounds_toArray, List.set_cons_zero, List.set_cons_succ, Nat.zero_add, Nat.reduceAdd, e35]; have HB8 := hide (HB5.out.trans (hb7.mono HB5.out.size)); clear hb7; go_wp2; go_ret; exact ⟨rfl, HB8.out⟩
end Go.Proofs.YtcinjckajnnhmaaGreat
set_option linter.unusedSimpArgs false
set_option linter.unusedVariables false
namespace Go.Proofs.YtcinjckajnnhmaaGreat
open Go.RowKit Go.WideShapes Go.ChangeShapes
attribute [local go_sem] Oper.semAt_some
set_option maxRecDepth 100000 in
set_option maxHeartbeats 16000000 in
theorem riboutSettles_any (m : Nat) (hm : m < 256) (A1 : Option Addr) (n1 c1 : Nat) (acts : List AC) (A2 : Option Addr) (n2 c2 : Nat) (l : List TD) (w : World) (h1 : LstAt 3 acR w A1 n1 c1 acts) (h2 : LstAt 11 tdQ w A2 n2 c2 l) :
    Calls Tryz.prog 4 #[.int .u8 (m : Nat), .slice A1 n1 c1, .slice A2 n2 c2] w fun e w' => e = .returned (.bool true) ∧ Below w.heap.size w w' := by
  have H1 := hide h1; have H2 := hide h2; have hnc1 := h1.2.1; have hmx1 := h1.2.2.1; unfold maxLen at hmx1; obtain ⟨N, hN⟩ : ∃ N, m % 20 = N := ⟨_, rfl⟩
  have hN20 : N < 20 := (by omega)
  have hm0 : (m : Int).tmod 20 = (N : Int) := (by rw [Int.tmod_eq_emod_of_nonneg (by omega)]; omega)
  have hw8 : IntKind.u8.wrap (N : Int) = (N : Int) := (by rw [IntKind.wrap_u8]; omega)
  have hw64 : IntKind.i64.wrap (N : Int) = (N : Int) := (by rw [IntKind.wrap_i64]; omega)
  have HNw := hide (qnew_any (N : Int) w); rw [inZ_nat (by omega)] at HNw; have HLv := hide lives36G_any; clear h1 h2 hm hN
  go_enter Tryz.func4, Tryz.ntmps4
  go_wp2_with fail
  refine HNw.out.mono ?_; rintro e w1 ⟨r, rfl, hq1, hb1⟩; have HQ1 := hide hq1; have HB1 := hide hb1; clear hq1 hb1
  go_upto_block 0 with fail
  go_cut [9] (fun s9 wc => ∃ (lf : Nat) (LA LT : List (Nat × Nat × AT)), RQ (fun j => w.heap.size ≤ j ∧ j < wc.heap.size) r N lf LA LT wc ∧ lf ≤ N ∧ LT.length ≤ 180 ∧ Below w.heap.size w wc)
  case first =>
    go_wp2_with fail
    go_loopw [9] (fun iv wr => ∃ (i lf : Nat) (LA LT : List (Nat × Nat × AT)), i ≤ n1 ∧ i ≤ 15 ∧ iv = .int .i64 (i : Nat) ∧ RQ (fun j => w.heap.size ≤ j ∧ j < wr.heap.size) r N lf LA LT wr ∧ lf ≤ N ∧ LT.length ≤ 12 * i ∧ Below w.heap.size w wr) (fun iv _ => n1 - (intOf iv).toNat)
    case atStart => exact ⟨0, 0, [], [], Nat.zero_le _, Nat.zero_le _, rfl, HQ1.out.cap (fun j hj hl => ⟨hj, hl⟩), Nat.zero_le _, by simp, HB1.out⟩
    case round =>
      obtain ⟨i, lf, LA, LT, hi, hi15, rfl, hq, hlf, hlt2, hbel⟩ := hrel; have HQ := hide hq; have HBe := hide hbel; have hsr := hbel.size; by_cases hlt : i < n1 ∧ i < 15
      · obtain ⟨hlt, hl15⟩ := hlt; obtain ⟨g, o, x, vs, rfl, hg, hx, _, ⟨B, k, c, rfl, hlq⟩, hcs⟩ := (H1.out.below acMono hbel).at_ hlt; have HLq := hide hlq; have f2 : wr.cell? ⟨g, o + i * 3 + 2, none⟩ = some (.slice B k c) := hcs 2 _ rfl; have q1 : (i : Int) < (n1 : Int) := (by omega)
        have q15 : (i : Int) < 15 := (by omega)
        have q0 : (0 : Int) ≤ (i : Int) := (by omega)
        have hwq : IntKind.i64.wrap ((i : Int) + 1) = (i : Int) + 1 := (by rw [IntKind.wrap_i64]; omega)
        obtain ⟨L, hL⟩ : ∃ L, (x.l.take 12).map cutTD = L := ⟨_, rfl⟩
        have HOk : Hid (∀ x ∈ L, TdOk x ∧ x.at_.path.length ≤ 100000) := hide (hL ▸ lstq_ok hlq); have HLl : Hid (L.length ≤ 12) := hide (by rw [← hL, List.length_map, List.length_take]; omega); have HFw := hide (fun W (hb : Below wr.heap.size wr W) => few36_any B k c x.l W ((lstq_of hlq).below tdMono hb)); rw [hL] at HFw; clear hq hbel hx hlq hcs hL
        go_wp2_with fail
        refine (HFw.out _ (Below.refl _ _)).mono ?_; rintro e w2 ⟨A3, n3, c3, xs3, rfl, hl3, hb2⟩; have hs2 := hb2.size; have HQ2 := hide (HQ.out.below hb2); have HB2 := hide (HBe.out.trans (hb2.mono hsr)); have hn3 : n3 ≤ 12 := (by have h1 := (hl3.lst (by decide)).1; have h2 := HLl.out; omega)
        have HL2 := hide ((LF.of_low hl3).more (F' := fun j => ¬ (w.heap.size ≤ j ∧ j < wr.heap.size)) (fun j hj h => by omega)); have HAi := hide (qaim_any A3 n3 c3 L HQ2.out HL2.out (fun x hx => (HOk.out x hx).1) (by omega)); clear hl3 hb2 f2
        go_wp2_with fail
        refine HAi.out.mono ?_; rintro e w3 ⟨rfl, hq3, hc3⟩; have hs3 := hc3.size; have HQ3 := hide hq3; have HB3 := hide (HB2.out.trans (chg_to_below hc3 (by omega) (fun k hk => hk.1))); have HGo := hide (qgone_any hq3); clear hq3 hc3
        go_wp2_with fail
        refine HGo.out.mono ?_; rintro e w4 ⟨A4, n4, c4, rfl, _, hq4, hc4⟩; have hs4 := hc4.size; have HB4 := hide (HB3.out.trans (chg_to_below hc4 (by omega) (fun k hk => hk.elim (fun h => h.1) (fun h => by omega)))); have HAl : Hid ((aimL L).length ≤ 12) := hide (by have := aimL_len L; have := HLl.out; omega); have hfl := List.length_filter_le (fun z => (lkL z.1 z.2.1 (aimL L)).isSome) LT; have HHe := hide (qhere2_any hq4 hlf (by have := HAl.out; omega)); have HFl := hide hfl; clear hq4 hc4 hfl
        go_wp2_with fail
        refine HHe.out.mono ?_; rintro e w5 ⟨A5, n5, c5, lf5, LT5, rfl, hq5, hl5, hn5, hc5⟩; have hs5 := hc5.size; have HB5 := hide (HB4.out.trans (chg_to_below hc5 (by omega) (fun k hk => hk.elim (fun h => h.elim (fun h => h.1) (fun h => by omega)) (fun h => by omega)))); have HQ5 := hide (hq5.cap (O' := fun j => w.heap.size ≤ j ∧ j < w5.heap.size) (fun j hj hl => ⟨hj.elim (fun h => h.elim (fun h => h.elim (fun h => h.1) (fun h => by omega)) (fun h => by omega)) (fun h => by omega), hl⟩)); have HN5 : Hid (LT5.length ≤ 12 * (i + 1)) := hide (by have := HAl.out; have := HFl.out; omega); clear hq5 hc5 hn5; go_wp2
        go_roundw
        case rel => exact ⟨i + 1, lf5, aimL L, LT5, by omega, by omega, by go_num, HQ5.out, hl5, HN5.out, HB5.out⟩
        case measure => simp [intOf]; omega
      · have HQm := hide hq; have HBm := hide hbel; have hLT : LT.length ≤ 180 := (by omega)
        clear hq hbel; by_cases hin : i < n1
        · have d2 : decide ((i : Int) < (n1 : Int)) = true := decide_eq_true (by omega); have d3 : decide ((i : Int) < 15) = false := decide_eq_false (by omega); clear hlt
          go_wp2_with fail
          go_meet
          exact ⟨lf, LA, LT, HQm.out, hlf, hLT, HBm.out⟩
        · have d2 : decide ((i : Int) < (n1 : Int)) = false := decide_eq_false (by omega); clear hlt
          go_wp2_with fail
          go_meet
          exact ⟨lf, LA, LT, HQm.out, hlf, hLT, HBm.out⟩
  case rest =>
    obtain ⟨lf, LA, LT, hq, hlf, hLT, hbel⟩ := hcut; obtain ⟨w6, h6⟩ : ∃ W, W = wc := ⟨_, rfl⟩
    subst h6; have HQ := hide hq; have HBe := hide hbel; have hsr := hbel.size; have HLT := hide hLT; obtain ⟨L, hL⟩ : ∃ L, (l.take 12).map cutTD = L := ⟨_, rfl⟩
    have HOk : Hid (∀ x ∈ L, TdOk x ∧ x.at_.path.length ≤ 100000) := hide (hL ▸ lstq_ok H2.out); have HLl : Hid (L.length ≤ 12) := hide (by rw [← hL, List.length_map, List.length_take]; omega); have HFw := hide (fun W (hb : Below w.heap.size w W) => few36_any A2 n2 c2 l W (lstq_of (H2.out.below tdqMono hb))); rw [hL] at HFw; clear hq hbel hL hLT
    go_wp2_with fail
    refine (HFw.out _ HBe.out).mono ?_; rintro e w7 ⟨A3, n3, c3, xs3, rfl, hl3, hb7⟩; have hs7 := hb7.size; have hn3 : n3 ≤ 12 := (by have h1 := (hl3.lst (by decide)).1; have h2 := HLl.out; omega)
    have HQ7 := hide (HQ.out.below hb7); have HL7 := hide ((LF.of_low hl3).more (F' := fun j => ¬ (w.heap.size ≤ j ∧ j < w6.heap.size)) (fun j hj h => by omega)); have HB7 := hide (HBe.out.trans (hb7.mono hsr)); have HAi := hide (qaim_any A3 n3 c3 L HQ7.out HL7.out (fun x hx => (HOk.out x hx).1) (by omega)); clear hl3 hb7
    go_wp2_with fail
    refine HAi.out.mono ?_; rintro e w8 ⟨rfl, hq8, hc8⟩; have hs8 := hc8.size; have HQ8 := hide (hq8.cap (O' := fun j => w.heap.size ≤ j ∧ j < w8.heap.size) (fun j hj hl => ⟨hj.elim (fun h => h.1) (fun h => by omega), hl⟩)); have HB8 := hide (HB7.out.trans (chg_to_below hc8 (by omega) (fun k hk => hk.1))); clear hq8 hc8 HQ7 HL7 HAi
    go_wp2_with fail
    refine (HFw.out _ HB8.out).mono ?_; rintro e w9 ⟨A4, n4, c4, xs4, rfl, hl4, hb9⟩; have hs9 := hb9.size; have hn4 : n4 ≤ 12 := (by have h1 := (hl4.lst (by decide)).1; have h2 := HLl.out; omega)
    have HRa := hide (refAim36_any A4 n4 c4 L w9 (hl4.lst (by decide)) HOk.out (by omega)); have HQ9 := hide (HQ8.out.below hb9); have HB9 := hide (HB8.out.trans (hb9.mono (by omega))); clear hl4 hb9
    go_wp2_with fail
    refine HRa.out.mono ?_; rintro e w10 ⟨A5, n5, c5, rfl, hlf5, hb10⟩; have hs10 := hb10.size; obtain ⟨OA, hOA⟩ : ∃ P : Nat → Prop, P = fun j => w.heap.size ≤ j ∧ ¬ (w9.heap.size ≤ j ∧ j < w10.heap.size) := ⟨_, rfl⟩
    obtain ⟨FA, hFA⟩ : ∃ P : Nat → Prop, (fun j => w9.heap.size ≤ j ∧ j < w10.heap.size) = P := ⟨_, rfl⟩
    have HOb : Hid (∀ j, OA j → w.heap.size ≤ j) := hide (fun j hj => by rw [hOA] at hj; exact hj.1); have HOf : Hid (∀ j, FA j → ¬ OA j) := hide (fun j hj h => by rw [hOA] at h; rw [← hFA] at hj; exact h.2 hj); have HOn : Hid (∀ j, w10.heap.size ≤ j → OA j) := hide (fun j hj => by rw [hOA]; exact ⟨by omega, fun h => by omega⟩); have HQ10 := hide ((HQ9.out.below hb10).more (O' := OA) (fun j hj => by rw [hOA]; exact ⟨hj.1, fun h => by omega⟩)); have HB10 := hide (HB9.out.trans (hb10.mono (by omega))); rw [hFA] at hlf5; obtain ⟨LA2, hLA2⟩ : ∃ K, aimL L = K := ⟨_, rfl⟩
    have HSA : Hid (LA2.Pairwise PLt) := hide (hLA2 ▸ aimL_sorted L); have HLA12 : Hid (LA2.length ≤ 12) := hide (by rw [← hLA2]; have := aimL_len L; have := HLl.out; omega); rw [hLA2] at HQ10 hlf5; have HLa10 := hide hlf5; have HGo := hide (qgone_any HQ10.out); clear hOA hFA hb10 hlf5 hLA2
    go_wp2_with fail
    refine HGo.out.mono ?_; rintro e w11 ⟨A6, n6, c6, rfl, _, hq11, hc11⟩; have hs11 := hc11.size; obtain ⟨T, hT⟩ : ∃ T, LT.filter (fun z => (lkL z.1 z.2.1 LA2).isSome) = T := ⟨_, rfl⟩
    have HKk : Hid (∀ z ∈ T, (lkL z.1 z.2.1 LA2).isSome = true) := hide (hT ▸ keep_keys); have HTl : Hid (T.length ≤ 180) := hide (by rw [← hT]; have := List.length_filter_le (fun z => (lkL z.1 z.2.1 LA2).isSome) LT; have := HLT.out; omega); rw [hT] at hq11; have HQ11 := hide (hq11.more (O' := OA) (fun j hj => hj.elim id (fun h => HOn.out j h))); have HLa11 := hide (HLa10.out.chg hc11 (fun k hk => HOf.out k hk)); have HB11 := hide (HB10.out.trans (chg_to_below hc11 (by omega) (fun k hk => HOb.out k hk))); have HPe := hide (qpend_any HQ11.out (by have := HTl.out; have := HLA12.out; omega)); have HST := hide HQ11.out.sorted.2; have HPg := hide HQ11.out.pg; clear hT hq11 hc11 HGo
    go_wp2_with fail
    refine HPe.out.mono ?_; rintro e w12 ⟨A7, P, c7, rfl, hp12, hb12⟩; have hs12 := hb12.size; have hPc := hp12.2.1; have hPm := hp12.2.2.1; unfold maxLen at hPm
    have HKg : Hid (∀ x ∈ keyL (LA2.filter (lackL T)) ++ keyL (T.filter (lackL LA2)), PG x.1 x.2) := hide (fun x hx => by
      rcases List.mem_append.1 hx with hx | hx
      · obtain ⟨z, hz, rfl⟩ := keyL_mem.1 hx; exact (HPg.out.1 z (List.mem_filter.1 hz).1).1
      · obtain ⟨z, hz, rfl⟩ := keyL_mem.1 hx; exact (HPg.out.2 z (List.mem_filter.1 hz).1).1)
    have HKin : Hid (∀ x ∈ sortP (keyL (LA2.filter (lackL T)) ++ keyL (T.filter (lackL LA2))), (lkL x.1 x.2 LA2).isSome = true) := hide (fun x hx => pend_in HSA.out HKk.out x ((sortP_mem HKg.out x).1 hx))
    have HP0 : Hid (LA2.filter (lackL T) = [] → P = 0) := hide (fun h => by
      have h1 := pend_some HSA.out HST.out HKk.out h; have h2 := hp12.1; rw [h1] at h2; have h3 := (sortP_none (l := []) (by simp)).2 rfl; omega)
    have HP12 := hide hp12; have HQ12 := hide (HQ11.out.below hb12); have HLa12 := hide (HLa11.out.below hb12); have HB12 := hide (HB11.out.trans (hb12.mono (by omega))); clear hp12 hb12 HPe HQ8 HQ9 HQ10 HRa HLa10 HLa11 HQ11; go_wp2
    go_loopw [12] (fun iv wr => ∃ j : Nat, j ≤ P ∧ iv = .int .i64 (j : Nat) ∧ Below w12.heap.size w12 wr) (fun iv _ => P - (intOf iv).toNat)
    case atStart => exact ⟨0, Nat.zero_le _, rfl, Below.refl _ _⟩
    case round =>
      obtain ⟨j, hj, rfl, hbel2⟩ := hrel; have HBe2 := hide hbel2; have hsr2 := hbel2.size; by_cases hjl : j < P
      · obtain ⟨g5, o5, a, b, rfl, hg5, hx5, f0, f1⟩ := PXat (HP12.out.below pxMono hbel2) hjl; have HIn : Hid ((lkL a b LA2).isSome = true) := hide (HKin.out (a, b) (List.mem_of_getElem? hx5)); have HAt := hide (refAt36_any A5 n5 c5 LA2 a b wr (lst_of_f (HLa12.out.below hbel2).lst)); have r1 : (j : Int) < (P : Int) := (by omega)
        have r0 : (0 : Int) ≤ (j : Int) := (by omega)
        have hwr : IntKind.i64.wrap ((j : Int) + 1) = (j : Int) + 1 := (by rw [IntKind.wrap_i64]; omega)
        clear hbel2 hx5
        go_wp2_with fail
        refine HAt.out.mono ?_; rintro e w14 ⟨k, rfl, hk, hb14⟩; have HB14 := hide (HBe2.out.trans (hb14.mono hsr2))
        obtain ⟨q, hkq⟩ : ∃ q : Nat, k = (q : Int) := by
          rcases hk with ⟨q, x, hkq, _⟩ | ⟨_, hno⟩
          · exact ⟨q, hkq⟩
          · have := HIn.out; rw [hno] at this
            cases this
        subst hkq; have dk : decide ((q : Int) < 0) = false := decide_eq_false (by omega); clear hk hb14; go_wp2
        go_roundw
        case rel => exact ⟨j + 1, by omega, by go_num, HB14.out⟩
        case measure => simp [intOf]; omega
      · obtain rfl : j = P := (by omega)
        have e1 : decide ((j : Int) < (j : Int)) = false := (by simp)
        obtain ⟨w13, h13⟩ : ∃ W, W = wr := ⟨_, rfl⟩
        subst h13; have HQ13 := hide (HQ12.out.below HBe2.out); have HLa13 := hide (HLa12.out.below HBe2.out); have HB13 := hide (HB12.out.trans (HBe2.out.mono (by omega))); clear hbel2 hjl
        go_upto_region 18 with fail
        go_cut [82] (fun s82 wc => s82 = .bool false ∧ ∃ (lf2 : Nat) (T2 : List (Nat × Nat × AT)), RQ OA r N lf2 LA2 T2 wc ∧ lf2 ≤ N ∧ (∀ z ∈ T2, (lkL z.1 z.2.1 LA2).isSome = true) ∧ T2.length ≤ 200 ∧ LF FA wc A5 n5 c5 (LA2.map tdZ) ∧ Below w.heap.size w wc ∧ w10.heap.size ≤ wc.heap.size)
        case first =>
          have hT2 : T.length ≤ 200 := (by have := HTl.out; omega)
          have hs13 : w10.heap.size ≤ w13.heap.size := (by omega)
          by_cases hP : j = 0
          · subst hP
            go_wp2_with fail
            go_meet
            exact ⟨rfl, lf, T, HQ13.out, hlf, HKk.out, hT2, HLa13.out, HB13.out, hs13⟩
          · have d67 : decide (0 < (j : Int)) = true := decide_eq_true (by omega); have d67' : decide (0 < j) = true := decide_eq_true (by omega); have p67 : 0 < j := (by omega)
            by_cases hN0 : N = 0
            · subst hN0
              go_wp2_with fail
              go_meet
              exact ⟨rfl, lf, T, HQ13.out, hlf, HKk.out, hT2, HLa13.out, HB13.out, hs13⟩
            · have d70 : decide (0 < (N : Int)) = true := decide_eq_true (by omega); have d70' : decide (0 < N) = true := decide_eq_true (by omega); have p70 : 0 < N := (by omega)
              have HLe := hide (qleft_any HQ13.out); by_cases hl0 : lf = 0
              · subst hl0; have HHe := hide (qhere_any HQ13.out (by have := HTl.out; have := HLA12.out; omega))
                go_wp2_with fail
                refine HLe.out.mono ?_; rintro e w14 ⟨rfl, rfl⟩
                go_wp2_with fail
                refine HHe.out.mono ?_; rintro e w15 ⟨A8, n8, c8, rfl, hl8, hq15, hn15, hc15⟩
                have hn8 : n8 ≠ 0 := fun e => by
                  have h1 := hl8.1; rw [e, List.length_map] at h1; exact hP (HP0.out (List.eq_nil_of_length_eq_zero h1))
                have d81 : ((n8 : Int) == 0) = false := (by simp; omega)
                have d81' : decide ((n8 : Int) = 0) = false := decide_eq_false (by omega); have p81 : ¬ n8 = 0 := hn8; rw [settle_fold HSA.out HST.out HKk.out] at hq15; have HQ15 := hide (hq15.more (O' := OA) (fun j hj => hj.elim id (fun h => HOn.out j (by omega)))); have HLa15 := hide (HLa13.out.chg hc15 (fun k hk => HOf.out k hk)); have HB15 := hide (HB13.out.trans (chg_to_below hc15 (by omega) (fun k hk => HOb.out k hk))); have hs15 : w10.heap.size ≤ w15.heap.size := Nat.le_trans hs13 hc15.size; clear hl8 hq15 hn15 hc15
                go_wp2_with fail
                go_meet
                exact ⟨rfl, _, LA2, HQ15.out, by split <;> omega, fun z hz => by rw [(lkL_mem (x := z.2.2) HSA.out).2 hz]; rfl, by have := HLA12.out; omega, HLa15.out, HB15.out, hs15⟩
              · have d75 : ((lf : Int) == 0) = false := (by simp; omega)
                have d75' : decide ((lf : Int) = 0) = false := decide_eq_false (by omega)
                go_wp2_with fail
                refine HLe.out.mono ?_; rintro e w14 ⟨rfl, rfl⟩
                go_wp2_with fail
                go_meet
                exact ⟨rfl, lf, T, HQ13.out, hlf, HKk.out, hT2, HLa13.out, HB13.out, hs13⟩
        case rest =>
          obtain ⟨rfl, lf2, T2, hq2, hlf2, hkk2, hT2, hla2, hb2, hs2⟩ := hcut; obtain ⟨w14, h14⟩ : ∃ W, W = wc := ⟨_, rfl⟩
          subst h14; have HQ14 := hide hq2; have HKk2 := hide hkk2; have HLa14 := hide hla2; have HB14 := hide hb2; clear hq2 hkk2 hla2 hb2; go_wp2
          go_loopw [13] (fun iv wr => ∃ (j lf3 : Nat), j ≤ N ∧ iv = .int .i64 (j : Nat) ∧ RQ OA r N lf3 LA2 T2 wr ∧ lf3 ≤ N - j ∧ LF FA wr A5 n5 c5 (LA2.map tdZ) ∧ Below w.heap.size w wr ∧ w10.heap.size ≤ wr.heap.size) (fun iv _ => N - (intOf iv).toNat)
          case atStart => exact ⟨0, lf2, Nat.zero_le _, rfl, HQ14.out, hlf2, HLa14.out, HB14.out, hs2⟩
          case round =>
            obtain ⟨j3, lf3, hj3, rfl, hq3, hlf3, hla3, hb3, hs3⟩ := hrel; have HQ3 := hide hq3; have HLa3 := hide hla3; have HB3 := hide hb3; by_cases hjl : j3 < N
            · have HTi := hide (qtick_any hq3 (by omega)); have r1 : (j3 : Int) < (N : Int) := (by omega)
              have hwr : IntKind.i64.wrap ((j3 : Int) + 1) = (j3 : Int) + 1 := (by rw [IntKind.wrap_i64]; omega)
              clear hq3 hla3 hb3
              go_wp2_with fail
              refine HTi.out.mono ?_; rintro e w15 ⟨rfl, hq15, hc15⟩; have HQ15 := hide hq15; have HLa15 := hide (HLa3.out.chg hc15 (fun k hk => HOf.out k hk)); have HB15 := hide (HB3.out.trans (chg_to_below hc15 (by omega) (fun k hk => HOb.out k hk))); have hs15 : w10.heap.size ≤ w15.heap.size := Nat.le_trans hs3 hc15.size; clear hq15 hc15; go_wp2
              go_roundw
              case rel => exact ⟨j3 + 1, lf3 - 1, by omega, by go_num, HQ15.out, by omega, HLa15.out, HB15.out, hs15⟩
              case measure => simp [intOf]; omega
            · obtain rfl : j3 = N := (by omega)
              obtain rfl : lf3 = 0 := (by omega)
              have e1 : decide ((j3 : Int) < (j3 : Int)) = false := (by simp)
              have HHe := hide (qhere_any hq3 (by have := HLA12.out; omega)); have HST2 := hide hq3.sorted.2; clear hq3 hla3 hb3 hjl
              go_wp2_with fail
              refine HHe.out.mono ?_; rintro e w16 ⟨A8, n8, c8, rfl, _, hq16, _, hc16⟩; rw [settle_fold HSA.out HST2.out HKk2.out] at hq16; have hpl := hq16.pg.1; have HTo := hide (qtold_any hq16); have HQ16 := hide hq16; have HLa16 := hide (HLa3.out.chg hc16 (fun k hk => HOf.out k hk)); have HB16 := hide (HB3.out.trans (chg_to_below hc16 (by omega) (fun k hk => HOb.out k hk))); have HPl := hide hpl; clear hq16 hc16 hpl
              go_wp2_with fail
              refine HTo.out.mono ?_; rintro e w17 ⟨A9, n9, c9, rfl, hl17, hb17⟩; have HSm := hide (toldSame_eq A9 A5 n9 c9 n5 c5 LA2 w17 hl17 (lst_of_f (HLa16.out.below hb17).lst) (fun z hz => (HPl.out z hz).2)); have HQ17 := hide (HQ16.out.below hb17); have HB17 := hide (HB16.out.trans (hb17.mono HB16.out.size)); clear hl17 hb17
              go_wp2_with fail
              refine HSm.out.mono ?_; rintro e w18 ⟨rfl, hb18⟩; have HPe := hide (qpend_any (HQ17.out.below hb18) (by have := HLA12.out; omega)); have HB18 := hide (HB17.out.trans (hb18.mono HB17.out.size)); clear hb18
              go_wp2_with fail
              refine HPe.out.mono ?_; rintro e w19 ⟨A10, n10, c10, rfl, hp19, hb19⟩
              obtain rfl : n10 = 0 := by
                have h1 := hp19.1; rw [settle_same HSA.out] at h1; have h3 := (sortP_none (l := []) (by simp)).2 rfl; have h4 : keyL ([] : List (Nat × Nat × AT)) ++ keyL ([] : List (Nat × Nat × AT)) = [] := rfl; rw [h4] at h1; omega
              have HB19 := hide (HB18.out.trans (hb19.mono HB18.out.size)); clear hp19 hb19
              go_wp2_with fail
              refine (HLv.out _).mono ?_; rintro e w20 ⟨rfl, hb20⟩; have HB20 := hide (HB19.out.trans (hb20.mono HB19.out.size)); clear hb20; go_wp2; go_ret; exact ⟨rfl, HB20.out⟩
end Go.Proofs.YtcinjckajnnhmaaGreat
set_option linter.unusedSimpArgs false
set_option linter.unusedVariables false
namespace Go.Proofs.YtcinjckajnnhmaaGreat
open Go.RowKit Go.WideShapes Go.ChangeShapes
attribute [local go_sem] Oper.semAt_some
abbrev atL (h o : Int) (A : Option Addr) (n c : Nat) (hp md pf aa ai : Int) (B : Option Addr) (m d : Nat) : List Value := [.int .i64 h, .int .i64 o, .slice A n c, .int .u32 hp, .int .u32 md, .int .u32 pf, .int .u32 aa, .int .u32 ai, .slice B m d]
end Go.Proofs.YtcinjckajnnhmaaGreat
set_option linter.unusedSimpArgs false
set_option linter.unusedVariables false
namespace Go.Proofs.YtcinjckajnnhmaaGreat
open Go.RowKit Go.WideShapes Go.ChangeShapes
set_option maxRecDepth 100000 in
theorem u32s_opens {H : Type} {enc : TypeId × Value → H} {W : World} {f : Nat} {v : Value} {x : DataW H × List MemPlace} (h : DataW.trod enc Tryz.prog W 0 (fun _ => true) true f 26 [v] = some x) :
  ∃ A n c l, v = .slice A n c ∧ U32s W A n c l := by
 have h1' : ∃ A n c, v = .slice A n c := by
  rcases DataW.trod_slice Tryz.underlying26 h with ⟨e, _⟩ | ⟨a, len, cap, elems, rest, n, _, e, _⟩
  ·exact ⟨none, 0, 0, by simpa using e⟩
  ·exact ⟨some a, len, cap, by simpa using e⟩
 obtain ⟨A, m, c, rfl⟩ := h1'; obtain ⟨l, hl⟩ := u32s_open (A := A) (n := m) (c := c) ⟨f, by simpa [Value.cells] using h⟩; exact ⟨A, m, c, l, rfl, hl⟩
set_option maxRecDepth 100000 in
theorem segs_open {H : Type} {enc : TypeId × Value → H} {W : World} {A : Option Addr} {n c : Nat} {d : DataW H} {p : List MemPlace}
    (h : DataW.Trod enc Tryz.prog W 0 (fun _ => true) true 25 (.slice A n c) d p) : ∃ l : List SG, LstAt 2 sgR W A n c l := by
  obtain ⟨fuel, hf⟩ := h
  obtain ⟨A', n', c', l, e, hl⟩ := lst_open (R := sgR) (sz := 2) Tryz.underlying25 (by kernel_rfl) (by decide) (fun f cs x hx => by
    obtain ⟨z0, z1, n, _, hl, g0, g1⟩ := trod_struct2 Tryz.underlying133 hx; have c2 : Tryz.prog.cellsOf 133 = 2 := (by kernel_rfl)
    have ci : Tryz.prog.cellsOf 3 = 1 := (by kernel_rfl)
    have cs1 : Tryz.prog.cellsOf 26 = 1 := (by kernel_rfl)
    rw [c2] at hl
    match cs, hl with
    | [v0, v1], _ =>
      simp only [ci, cs1, List.drop_zero, List.drop_succ_cons, List.take_succ_cons, List.take_zero] at g0 g1; obtain ⟨k, e0, _⟩ := DataW.trod_int Tryz.underlying3 g0; obtain ⟨A, m, c, l, rfl, hl⟩ := u32s_opens g1; simp only [List.cons.injEq, and_true] at e0; subst e0; exact ⟨⟨k, l⟩, A, m, c, rfl, hl⟩) hf
  obtain ⟨rfl, rfl, rfl⟩ : A = A' ∧ n = n' ∧ c = c' := (by simpa [Value.cells] using e)
  exact ⟨l, hl⟩
end Go.Proofs.YtcinjckajnnhmaaGreat
set_option linter.unusedSimpArgs false
set_option linter.unusedVariables false
namespace Go.Proofs.YtcinjckajnnhmaaGreat
open Go.RowKit Go.WideShapes Go.ChangeShapes Go.ChangeAt
theorem segs_opens {H : Type} {enc : TypeId × Value → H} {W : World} {f : Nat} {v : Value} {x : DataW H × List MemPlace} (h : DataW.trod enc Tryz.prog W 0 (fun _ => true) true f 25 [v] = some x) :
  ∃ A n c l, v = .slice A n c ∧ LstAt 2 sgR W A n c l := by
 have h1' : ∃ A n c, v = .slice A n c := by
  rcases DataW.trod_slice Tryz.underlying25 h with ⟨e, _⟩ | ⟨a, len, cap, elems, rest, n, _, e, _⟩
  ·exact ⟨none, 0, 0, by simpa using e⟩
  ·exact ⟨some a, len, cap, by simpa using e⟩
 obtain ⟨A, m, c, rfl⟩ := h1'; obtain ⟨l, hl⟩ := segs_open (A := A) (n := m) (c := c) ⟨f, by simpa [Value.cells] using h⟩; exact ⟨A, m, c, l, rfl, hl⟩
set_option maxRecDepth 100000 in
set_option maxHeartbeats 4000000 in
theorem at_opens {H : Type} {enc : TypeId × Value → H} {W : World} {f : Nat} {cs : List Value} {x : DataW H × List MemPlace} (h : DataW.trod enc Tryz.prog W 0 (fun _ => true) true f 28 cs = some x) : ∃ (X : AT) (A : Option Addr) (n c : Nat) (B : Option Addr) (m d : Nat), cs = atL X.has X.org A n c X.hop X.med X.pref X.aas X.aid B m d ∧ LstAt 2 sgR W A n c X.path ∧ U32s W B m d X.comms := by
 obtain ⟨xs, f2, _, rfl, hl, hlen, hf⟩ := DataW.trod_struct Tryz.underlying28 h; have c9 : Tryz.prog.cellsOf 28 = 9 := (by kernel_rfl)
 rw [c9] at hl
 match xs, hlen with
 | [y0, y1, y2, y3, y4, y5, y6, y7, y8], _ =>
 match cs, hl with
 | [v0, v1, v2, v3, v4, v5, v6, v7, v8], _ =>
  have h0 : DataW.trod enc Tryz.prog W 0 (fun _ => true) true f2 3 [v0] = some y0 := hf 0 _ rfl; have h1 : DataW.trod enc Tryz.prog W 0 (fun _ => true) true f2 3 [v1] = some y1 := hf 1 _ rfl; have h2 : DataW.trod enc Tryz.prog W 0 (fun _ => true) true f2 25 [v2] = some y2 := hf 2 _ rfl; have h3 : DataW.trod enc Tryz.prog W 0 (fun _ => true) true f2 22 [v3] = some y3 := hf 3 _ rfl; have h4 : DataW.trod enc Tryz.prog W 0 (fun _ => true) true f2 22 [v4] = some y4 := hf 4 _ rfl; have h5 : DataW.trod enc Tryz.prog W 0 (fun _ => true) true f2 22 [v5] = some y5 := hf 5 _ rfl; have h6 : DataW.trod enc Tryz.prog W 0 (fun _ => true) true f2 22 [v6] = some y6 := hf 6 _ rfl; have h7 : DataW.trod enc Tryz.prog W 0 (fun _ => true) true f2 22 [v7] = some y7 := hf 7 _ rfl; have h8 : DataW.trod enc Tryz.prog W 0 (fun _ => true) true f2 26 [v8] = some y8 := hf 8 _ rfl; clear hf; obtain ⟨q0, e0, _, j0⟩ := DataW.trod_int Tryz.underlying3 h0; obtain ⟨q1, e1, _, j1⟩ := DataW.trod_int Tryz.underlying3 h1; obtain ⟨A, n, c, pl, rfl, hP⟩ := segs_opens h2; obtain ⟨q3, e3, _, j3⟩ := DataW.trod_int Tryz.underlying22 h3; obtain ⟨q4, e4, _, j4⟩ := DataW.trod_int Tryz.underlying22 h4; obtain ⟨q5, e5, _, j5⟩ := DataW.trod_int Tryz.underlying22 h5; obtain ⟨q6, e6, _, j6⟩ := DataW.trod_int Tryz.underlying22 h6; obtain ⟨q7, e7, _, j7⟩ := DataW.trod_int Tryz.underlying22 h7; obtain ⟨B, m, d, cl, rfl, hC⟩ := u32s_opens h8; simp only [List.cons.injEq, and_true] at e0 e1 e3 e4 e5 e6 e7; subst e0 e1 e3 e4 e5 e6 e7; exact ⟨⟨q0, q1, pl, q3, q4, q5, q6, q7, cl⟩, A, n, c, B, m, d, rfl, hP, hC⟩
end Go.Proofs.YtcinjckajnnhmaaGreat
set_option linter.unusedSimpArgs false
set_option linter.unusedVariables false
namespace Go.Proofs.YtcinjckajnnhmaaGreat
open Go.RowKit Go.WideShapes Go.ChangeShapes Go.ChangeAt
set_option maxRecDepth 100000 in
set_option maxHeartbeats 4000000 in
theorem pf_opensR {H : Type} {enc : TypeId × Value → H} {W : World} {f : Nat} {cs : List Value} {x : DataW H × List MemPlace} (h : DataW.trod enc Tryz.prog W 0 (fun _ => true) true f 24 cs = some x) : ∃ (a : Nat) (b : Int), cs = [.int .u32 (a : Int), .int .i64 b] ∧ a < 4294967296 ∧ -9223372036854775808 ≤ b ∧ b ≤ 9223372036854775807 := by
 obtain ⟨xs, f2, _, rfl, hl, hlen, hf⟩ := DataW.trod_struct Tryz.underlying24 h; have c9 : Tryz.prog.cellsOf 24 = 2 := (by kernel_rfl)
 rw [c9] at hl
 match xs, hlen with
 | [y0, y1], _ =>
 match cs, hl with
 | [v0, v1], _ =>
  have h0 : DataW.trod enc Tryz.prog W 0 (fun _ => true) true f2 22 [v0] = some y0 := hf 0 _ rfl; have h1 : DataW.trod enc Tryz.prog W 0 (fun _ => true) true f2 3 [v1] = some y1 := hf 1 _ rfl; clear hf; obtain ⟨q0, e0, _, j0⟩ := DataW.trod_int Tryz.underlying22 h0; obtain ⟨q1, e1, _, j1⟩ := DataW.trod_int Tryz.underlying3 h1; simp only [List.cons.injEq, and_true] at e0 e1; subst e0 e1; have b0 : 0 ≤ q0 ∧ q0 ≤ 4294967295 := (by simpa [Lit.wf, IntKind.min, IntKind.max, IntKind.signed, IntKind.bits] using j0)
  have b1 : -9223372036854775808 ≤ q1 ∧ q1 ≤ 9223372036854775807 := (by simpa [Lit.wf, IntKind.min, IntKind.max, IntKind.signed, IntKind.bits] using j1)
  obtain ⟨a, rfl⟩ := Int.eq_ofNat_of_zero_le b0.1; exact ⟨a, q1, rfl, by omega, b1.1, b1.2⟩
end Go.Proofs.YtcinjckajnnhmaaGreat
set_option linter.unusedSimpArgs false
set_option linter.unusedVariables false
namespace Go.Proofs.YtcinjckajnnhmaaGreat
open Go.RowKit Go.WideShapes Go.ChangeShapes Go.ChangeAt
set_option maxRecDepth 100000 in
set_option maxHeartbeats 4000000 in
theorem td_opensQ {H : Type} {enc : TypeId × Value → H} {W : World} {f : Nat} {cs : List Value} {x : DataW H × List MemPlace} (h : DataW.trod enc Tryz.prog W 0 (fun _ => true) true f 71 cs = some x) : ∃ y, tdQ W cs y := by
 obtain ⟨xs, f2, _, rfl, hl, hlen, hf⟩ := DataW.trod_struct Tryz.underlying71 h; have c11 : Tryz.prog.cellsOf 71 = 11 := (by kernel_rfl)
 have cP : Tryz.prog.cellsOf 24 = 2 := (by kernel_rfl)
 have cA : Tryz.prog.cellsOf 28 = 9 := (by kernel_rfl)
 rw [c11] at hl
 match xs, hlen with
 | [y0, y1], _ =>
 match cs, hl with
 | [v0, v1, v2, v3, v4, v5, v6, v7, v8, v9, v10], _ =>
  have h0 : DataW.trod enc Tryz.prog W 0 (fun _ => true) true f2 24 [v0, v1] = some y0 := hf 0 _ rfl; have h1 : DataW.trod enc Tryz.prog W 0 (fun _ => true) true f2 28 [v2, v3, v4, v5, v6, v7, v8, v9, v10] = some y1 := hf 1 _ rfl; clear hf; obtain ⟨a, b, e0, hab, hb1, hb2⟩ := pf_opensR h0; obtain ⟨X, A, n, c, B, m, d, e1, hP, hC⟩ := at_opens h1; have e1 : [v2, v3, v4, v5, v6, v7, v8, v9, v10] = [.int .i64 X.has, .int .i64 X.org, .slice A n c, .int .u32 X.hop, .int .u32 X.med, .int .u32 X.pref, .int .u32 X.aas, .int .u32 X.aid, .slice B m d] := e1; simp only [List.cons.injEq, and_true] at e0 e1; obtain ⟨rfl, rfl⟩ := e0; obtain ⟨rfl, rfl, rfl, rfl, rfl, rfl, rfl, rfl, rfl⟩ := e1; exact ⟨⟨(a : Int), b, X⟩, ⟨A, n, c, B, m, d, rfl, hP, hC⟩, ⟨a, rfl, hab⟩, hb1, hb2⟩
theorem toldqs_open {H : Type} {enc : TypeId × Value → H} {W : World} {A : Option Addr} {n c : Nat} {d : DataW H} {p : List MemPlace}
  (h : DataW.Trod enc Tryz.prog W 0 (fun _ => true) true 51 (.slice A n c) d p) : ∃ l, LstAt 11 tdQ W A n c l := by
 obtain ⟨fuel, hf⟩ := h; obtain ⟨A', n', c', l, e, hl⟩ := lst_open (R := tdQ) (sz := 11) Tryz.underlying51 (by kernel_rfl) (by decide) (fun f cs x hx => td_opensQ hx) hf; have e2 : Value.slice A n c = .slice A' n' c' := (by simpa [Value.cells] using e)
 injection e2 with e1 e2 e3
 subst e1 e2 e3; exact ⟨l, hl⟩
theorem toldqs_opens {H : Type} {enc : TypeId × Value → H} {W : World} {f : Nat} {v : Value} {x : DataW H × List MemPlace} (h : DataW.trod enc Tryz.prog W 0 (fun _ => true) true f 51 [v] = some x) :
  ∃ A n c l, v = .slice A n c ∧ LstAt 11 tdQ W A n c l := by
 have h1' : ∃ A n c, v = .slice A n c := by
  rcases DataW.trod_slice Tryz.underlying51 h with ⟨e, _⟩ | ⟨a, len, cap, elems, rest, n, _, e, _⟩
  ·exact ⟨none, 0, 0, by simpa using e⟩
  ·exact ⟨some a, len, cap, by simpa using e⟩
 obtain ⟨A, m, c, rfl⟩ := h1'; obtain ⟨l, hl⟩ := toldqs_open (A := A) (n := m) (c := c) ⟨f, by simpa [Value.cells] using h⟩; exact ⟨A, m, c, l, rfl, hl⟩
set_option maxRecDepth 100000 in
set_option maxHeartbeats 4000000 in
theorem ac_opens {H : Type} {enc : TypeId × Value → H} {W : World} {f : Nat} {cs : List Value} {x : DataW H × List MemPlace} (h : DataW.trod enc Tryz.prog W 0 (fun _ => true) true f 57 cs = some x) : ∃ y, acR W cs y := by
 obtain ⟨xs, f2, _, rfl, hl, hlen, hf⟩ := DataW.trod_struct Tryz.underlying57 h; have c3 : Tryz.prog.cellsOf 57 = 3 := (by kernel_rfl)
 rw [c3] at hl
 match xs, hlen with
 | [y0, y1, y2], _ =>
 match cs, hl with
 | [v0, v1, v2], _ =>
  have h0 : DataW.trod enc Tryz.prog W 0 (fun _ => true) true f2 3 [v0] = some y0 := hf 0 _ rfl; have h1 : DataW.trod enc Tryz.prog W 0 (fun _ => true) true f2 3 [v1] = some y1 := hf 1 _ rfl; have h2 : DataW.trod enc Tryz.prog W 0 (fun _ => true) true f2 51 [v2] = some y2 := hf 2 _ rfl; clear hf; obtain ⟨q0, e0, _, j0⟩ := DataW.trod_int Tryz.underlying3 h0; obtain ⟨q1, e1, _, j1⟩ := DataW.trod_int Tryz.underlying3 h1; obtain ⟨A, n, c, l, rfl, hl2⟩ := toldqs_opens h2; simp only [List.cons.injEq, and_true] at e0 e1; subst e0 e1; exact ⟨⟨q0, q1, l⟩, A, n, c, rfl, hl2⟩
theorem acts_open {H : Type} {enc : TypeId × Value → H} {W : World} {A : Option Addr} {n c : Nat} {d : DataW H} {p : List MemPlace}
  (h : DataW.Trod enc Tryz.prog W 0 (fun _ => true) true 50 (.slice A n c) d p) : ∃ l, LstAt 3 acR W A n c l := by
 obtain ⟨fuel, hf⟩ := h; obtain ⟨A', n', c', l, e, hl⟩ := lst_open (R := acR) (sz := 3) Tryz.underlying50 (by kernel_rfl) (by decide) (fun f cs x hx => ac_opens hx) hf; have e2 : Value.slice A n c = .slice A' n' c' := (by simpa [Value.cells] using e)
 injection e2 with e1 e2 e3
 subst e1 e2 e3; exact ⟨l, hl⟩
end Go.Proofs.YtcinjckajnnhmaaGreat
set_option linter.unusedSimpArgs false
set_option linter.unusedVariables false
namespace Go.Proofs.YtcinjckajnnhmaaGreat
open Go.RowKit
structure GB (z : Nat) (j : Int) : Prop where
  lt : z < 4294967296
  good : goodB z j = true
end Go.Proofs.YtcinjckajnnhmaaGreat
