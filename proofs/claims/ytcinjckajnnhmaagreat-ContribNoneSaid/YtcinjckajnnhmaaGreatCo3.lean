import Derived.Test.YtcinjckajnnhmaaGreatCo2
import Derived.WalkKit
import Derived.ProofKit
import Derived.OpenShut
import Derived.Below
import Derived.Laws.OwnMore
import Derived.Laws.Rows
import Derived.Laws.MakeOwn
import Derived.Deep.AppendLies
import Derived.Deep.Draws
import Derived.Deep.OwnRows
import Derived.Deep.QuietTactic
import Derived.Maps.AppendAt
import Derived.RegionTactic
import Derived.OwnWalk
import Derived.ChangeSame
import Derived.Outline
import Derived.BigQuiet
import Derived.WalkMore
import Derived.ScopeJumps
import Derived.WalkLawsBesides
import Derived.WalkSpells
import Derived.Laws.BitsLemmas
import Derived.Laws.BitsAllLaws
import Derived.WideKeyArgs
import Derived.Deep.DeepHandedRow
import Derived.Deep.DeepWitnessRowRef
import Derived.Lib.LaidTab
import Derived.Lib.AppendIntMem
import Derived.LaidMore
import Derived.MakeChecks
import Derived.Lib.Itoa
import Derived.Lib.ItoaMem
import Derived.Deep.Quiet
import Derived.Deep.Slices
import Derived.BigRegion
import Derived.Orders
import Derived.OrdersIn
import Derived.RangeFuncCalls
import Derived.Shelf.RegionOpen
import Derived.StillTailTactics
import Derived.Lib.PathFns
import Derived.Lib.IndexBytes
import Derived.RangeFuncWrites
import Derived.RangeFuncNested
import Derived.RangeFuncBound
import Derived.RangeFuncLeaves
import Derived.RangeFuncBox
import Derived.Shelf.Abstract
import Derived.OwnWalkIn
import Derived.TacticsInMore
import Derived.LoopNIn
import Derived.LoopIn
import Derived.Lib.SmallJoins
import Derived.Lib.ParseIntBCases
import Derived.Lib.IndexMore
import Derived.Shelf.Vars
import Derived.Lib.AtoiAllCases
import Derived.SliceStrings
import Derived.Deep.RegionLaw
import Derived.Sort.LotA
import Derived.BigRegionIn
import Derived.Deep.RegionHeld3
import Derived.RangeFuncOwn
import Derived.Sort.WalkA6
import Derived.Sort.WalkB3
import Derived.Sort.WalkC4
import Derived.Sort.WalkA14
import Derived.Sort.Walk11
import Derived.Sort.Walk7
import Derived.Sort.Walk13
import Derived.Sort.Row
import Derived.Lib.Walk
import Derived.Lib.Strings
import Derived.BigGuard
import Derived.BigCall
import Derived.CellFam
import Derived.Deep.LoopGhost
import Derived.Sort.LotC
import Derived.Deep.RegionWith
import Derived.RowKit
import Derived.Sort.LotD3
import Derived.Sort.LotD4
import Derived.Sort.Grow
import Derived.Sort.AtCall
import Derived.Sort.LotD5
import Derived.Laws.Bits64
import Derived.Laws.Bits64b
import Derived.Sort.EncStr
import Derived.Sort.LotD1
import Derived.Sort.LotB
import Derived.Deep.Cut
import Derived.Sort.Walk13a
import Derived.Sort.AssemblyPlain
import Derived.Shelf.Spec.SlicesInsertGrow
import Derived.Deep.MidRow
import Derived.Lib.RowBridge
import Derived.Laws.CopyOwn
import Derived.Lib.AppendZerosOnto
import Derived.Deep.DeepCutAuto
import Derived.Lib.Bytealg
import Derived.Shelf.Strings.SplitShaped
import Derived.Shelf.Strings.Prefix
import Derived.Shelf.Small.Strs
import Derived.Lib.QuietBelow
import Derived.Shelf.SlSortCmp.WholeK
set_option linter.unusedSimpArgs false
set_option linter.unusedVariables false
namespace Go.Proofs.YtcinjckajnnhmaaGreat
open Go.RowKit Go.WideShapes Go.ChangeShapes
attribute [local go_sem] Oper.semAt_some
instance pg_dec (a n : Nat) : Decidable (PG a n) := by unfold PG; infer_instance
def pK (x : Nat × Nat) : Nat := x.1 * 64 + x.2
def unK (x : Nat) : Nat × Nat := (x / 64, x % 64)
theorem unK_pK {x : Nat × Nat} (h : PG x.1 x.2) : unK (pK x) = x := by
  obtain ⟨a, n⟩ := x
  have h2 := h.2.1
  simp only at h2
  unfold unK pK
  simp only [Prod.mk.injEq]
  omega
def nk (x : Nat) : Nat := if PG (x / 64) (x % 64) then x else 0
theorem nk_pg (x : Nat) : PG (nk x / 64) (nk x % 64) := by
  unfold nk
  split
  · assumption
  · decide
theorem nk_of {x : Nat} (h : PG (x / 64) (x % 64)) : nk x = x := by unfold nk; rw [if_pos h]
theorem nk_pK {x : Nat × Nat} (h : PG x.1 x.2) : nk (pK x) = pK x := by
  refine nk_of ?_
  have := unK_pK h
  unfold unK at this
  rw [← this] at h
  exact h
def enK (x : Nat) : List Value := [.int .u32 ((nk x / 64 : Nat) : Int), .int .i64 ((nk x % 64 : Nat) : Int)]
theorem enK_len (x : Nat) : (enK x).length = 2 := rfl
theorem enK_of {x : Nat} (h : nk x = x) : enK x = [.int .u32 ((x / 64 : Nat) : Int), .int .i64 ((x % 64 : Nat) : Int)] := by unfold enK; rw [h]
def cfK (x y : Nat) : Int := if nk x < nk y then -1 else if nk x = nk y then 0 else 1
theorem cmpK (x y : Nat) : cmpP (nk x / 64) ((nk x % 64 : Nat) : Int) (nk y / 64) ((nk y % 64 : Nat) : Int) = cfK x y := by
  unfold cmpP cfK
  have h1 := (nk_pg x).2.1
  have h2 := (nk_pg y).2.1
  generalize nk x = u at *
  generalize nk y = v at *
  by_cases h : u < v
  · rw [if_pos h, if_pos (by omega)]
  · rw [if_neg h, if_neg (by omega)]
    by_cases h3 : u = v
    · subst h3; simp
    · rw [if_neg h3, if_neg (by omega)]
def pkC (l : List Nat) : List Value := l.flatMap enK
theorem flat2 {α β : Type} (f : α → List β) (hf : ∀ x, (f x).length = 2) : ∀ (l : List α) (j i : Nat) (x : α), l[j]? = some x → i < 2 → (l.flatMap f)[j * 2 + i]? = (f x)[i]?
  | [], _, _, _, h, _ => by simp at h
  | y :: l, 0, i, x, h, hi => by
      simp only [List.getElem?_cons_zero, Option.some.injEq] at h
      subst h
      rw [List.flatMap_cons, List.getElem?_append_left (by rw [hf]; omega)]
      simp
  | y :: l, j + 1, i, x, h, hi => by
      rw [List.flatMap_cons, List.getElem?_append_right (by rw [hf]; omega), hf, show (j + 1) * 2 + i - 2 = j * 2 + i by omega]
      exact flat2 f hf l j i x (by simpa using h) hi
theorem flat2_len {α β : Type} (f : α → List β) (hf : ∀ x, (f x).length = 2) (l : List α) : (l.flatMap f).length = l.length * 2 := by
  induction l with
  | nil => rfl
  | cons x l ih => rw [List.flatMap_cons, List.length_append, hf, ih, List.length_cons]; omega
theorem two_of {α : Type} : ∀ {l : List α}, l.length = 2 → ∃ p q, l = [p, q]
  | [p, q], _ => ⟨p, q, rfl⟩
  | [], h => by simp at h
  | [_], h => by simp at h
  | _ :: _ :: _ :: _, h => by simp at h
theorem flat2_set {α β : Type} (f : α → List β) (hf : ∀ x, (f x).length = 2) : ∀ (l : List α) (k : Nat) (x : α) (u v : β), f x = [u, v] → ((l.flatMap f).set (k * 2) u).set (k * 2 + 1) v = (l.set k x).flatMap f
  | [], k, x, u, v, h => by simp
  | y :: l, 0, x, u, v, h => by
      obtain ⟨p, q, hp⟩ := two_of (hf y)
      simp [List.flatMap_cons, hp, h]
  | y :: l, k + 1, x, u, v, h => by
      obtain ⟨p, q, hp⟩ := two_of (hf y)
      have := flat2_set f hf l k x u v h
      simp only [List.set_cons_succ, List.flatMap_cons, hp, ← this]
      rw [show (k + 1) * 2 = k * 2 + 1 + 1 by omega]
      simp
theorem flat2_take {α β : Type} (f : α → List β) (hf : ∀ x, (f x).length = 2) : ∀ (l : List α) (k : Nat), (l.take k).flatMap f = (l.flatMap f).take (k * 2)
  | [], k => by simp
  | y :: l, 0 => by simp
  | y :: l, k + 1 => by
      rw [List.take_succ_cons, List.flatMap_cons, List.flatMap_cons, flat2_take f hf l k, show (k + 1) * 2 = 2 + k * 2 by omega, ← hf y, List.take_length_add_append]
theorem pkC_len (l : List Nat) : (pkC l).length = l.length * 2 := flat2_len enK enK_len l
theorem pkC_pxC : ∀ (l : List Nat), (∀ x ∈ l, nk x = x) → pkC l = pxC (l.map unK)
  | [], _ => rfl
  | x :: l, h => by
      have ih := pkC_pxC l (fun y hy => h y (List.mem_cons_of_mem _ hy))
      unfold pkC pxC at *
      rw [List.map_cons, List.flatMap_cons, List.flatMap_cons, ih, enK_of (h x (List.mem_cons_self ..))]
      rfl
theorem map_unK {l : List (Nat × Nat)} (h : ∀ x ∈ l, PG x.1 x.2) : (l.map pK).map unK = l := by
  rw [List.map_map]
  conv => rhs; rw [← List.map_id l]
  exact List.map_congr_left fun x hx => unK_pK (h x hx)
/-- A row of the call's own that holds the prefixes d. -/
def PkRow (base g cap : Nat) (w : World) (d : Array Nat) : Prop := w.ownsRow base 24 2 (.slice (some ⟨g, 0, none⟩) d.size cap) d.size (pkC d.toList) ∧ (∀ x ∈ d.toList, nk x = x) ∧ base ≤ g ∧ g < w.heap.size ∧ d.size ≤ cap ∧ cap ≤ maxLen
theorem PkRow.val {base g cap : Nat} {w : World} {d : Array Nat} (h : PkRow base g cap w d) (j : Nat) : nk (d[j]! : Nat) = d[j]! := by
  by_cases hj : j < d.size
  · rw [getElem!_pos d j hj]; exact h.2.1 _ (by simp)
  · rw [getElem!_neg d j hj]; decide
theorem PkRow.cell {base g cap : Nat} {w : World} {d : Array Nat} (h : PkRow base g cap w d) {j : Nat} (hj : j < d.size) : w.cell? ⟨g, j * 2, none⟩ = some (.int .u32 ((d[j]! / 64 : Nat) : Int)) ∧ w.cell? ⟨g, j * 2 + 1, none⟩ = some (.int .i64 ((d[j]! % 64 : Nat) : Int)) := by
  have hx : d.toList[j]? = some d[j]! := by simp [hj]
  have e := enK_of (h.val j)
  constructor
  · rw [h.1.cellAt _ (by omega)]
    have := flat2 enK enK_len d.toList j 0 _ hx (by omega)
    rw [Nat.add_zero, e] at this
    exact this
  · rw [h.1.cellAt _ (by omega)]
    have := flat2 enK enK_len d.toList j 1 _ hx (by omega)
    rw [e] at this
    exact this
theorem PkRow.drewN {base g cap : Nat} {w : World} {d : Array Nat} (h : PkRow base g cap w d) (n : Nat) : PkRow base g cap (w.drewN n) d := h
theorem PkRow.set_ {base g cap : Nat} {w : World} {d : Array Nat} (h : PkRow base g cap w d) {k x : Nat} (hx : nk x = x) : PkRow base g cap (w.setCells g (k * 2) [.int .u32 ((x / 64 : Nat) : Int), .int .i64 ((x % 64 : Nat) : Int)]) (d.setIfInBounds k x) := by
  obtain ⟨h1, h2, h3, h4, h5, h6⟩ := h
  have e1 := (h1.stored (k * 2) (.int .u32 ((x / 64 : Nat) : Int))).1
  have e2 := (e1.stored (k * 2 + 1) (.int .i64 ((x % 64 : Nat) : Int))).1
  unfold pkC at e2
  rw [flat2_set enK enK_len d.toList k x _ _ (enK_of hx)] at e2
  refine ⟨?_, fun y hy => ?_, h3, by simpa [World.setCells, World.setCell] using h4, by simpa using h5, h6⟩
  · unfold pkC
    simpa [World.setCells] using e2
  · have hy' : y ∈ d.toList.set k x := by simpa using hy
    rcases List.mem_or_eq_of_mem_set hy' with h | h
    · exact h2 y h
    · rw [h]; exact hx
theorem own_setCellsK {base g n cap e sz : Nat} : ∀ (vs : List Value) (j : Nat) {w : World} {xs : List Value}, w.ownsRow base e sz (.slice (some ⟨g, 0, none⟩) n cap) n xs → j + vs.length ≤ n * sz →
    (w.setCells g j vs).ownsRow base e sz (.slice (some ⟨g, 0, none⟩) n cap) n (xs.take j ++ vs ++ xs.drop (j + vs.length))
  | [], j, w, xs, h, _ => by simpa [World.setCells] using h
  | v :: vs, j, w, xs, h, hj => by
    have hl : xs.length = n * sz := h.1
    have hj' : j + (vs.length + 1) ≤ n * sz := by simpa using hj
    have h1 := (h.stored j v).1
    have h2 := own_setCellsK vs (j + 1) h1 (by omega)
    have e1 : (xs.set j v).take (j + 1) = xs.take j ++ [v] := by
      rw [List.take_add_one, List.take_set_of_le (by omega), List.getElem?_set_self (by omega)]
      rfl
    have e2 : (xs.set j v).drop (j + 1 + vs.length) = xs.drop (j + (v :: vs).length) := by
      rw [List.drop_set_of_lt (by omega)]
      congr 1
      simp; omega
    rw [e1, e2] at h2
    simpa [World.setCells, List.append_assoc] using h2
theorem PkRow.cut {base g cap k : Nat} {w : World} {d : Array Nat} (h : PkRow base g cap w d) (hk : k ≤ d.size) : w.ownsRow base 24 2 (.slice (some ⟨g, 0, none⟩) k cap) k (pkC (d.toList.take k)) := by
  obtain ⟨h1, h2, h3, h4, h5, h6⟩ := h
  rcases h1.2 with ⟨hv, _⟩ | ⟨g', cap', cur, hv, r1, r2, r3, r4, r5, r6⟩
  · cases hv
  · cases hv
    refine ⟨by rw [pkC_len, List.length_take]; simp; omega, .inr ⟨g, cap, cur, rfl, r1, r2, by omega, r4, r5, ?_⟩⟩
    have e : pkC (d.toList.take k) = (pkC d.toList).take (k * 2) := flat2_take enK enK_len _ _
    rw [e, ← r6, List.take_take]
    congr 1; omega
theorem own_clearK {base g cap k e sz : Nat} {xs : List Value} : ∀ (vs : List Value) (j : Nat) {w : World}, w.ownsRow base e sz (.slice (some ⟨g, 0, none⟩) k cap) k xs → k * sz ≤ j → (w.setCells g j vs).ownsRow base e sz (.slice (some ⟨g, 0, none⟩) k cap) k xs
  | [], _, _, h, _ => h
  | v :: vs, j, w, h, hj => by
    refine own_clearK vs (j + 1) ?_ (by omega)
    have := (h.stored j v).1
    rwa [List.set_eq_of_length_le (by have := h.1; omega)] at this
/-- A row that is read: of good prefixes. -/
def sortP (l : List (Nat × Nat)) : List (Nat × Nat) := (setOf (l.map pK)).map unK
def PZ (a : Nat) (m : Int) : Prop := a < 4294967296 ∧ -9223372036854775808 ≤ m ∧ m ≤ 9223372036854775807
def pzR (w : World) (vs : List Value) (x : Nat × Int) : Prop := vs = [.int .u32 (x.1 : Int), .int .i64 x.2] ∧ PZ x.1 x.2
theorem pzMono : SMono pzR := fun _ _ _ _ _ h => h
theorem PZat {w : World} {A : Option Addr} {n c k : Nat} {l : List (Nat × Int)} (h : LstAt 2 pzR w A n c l) (hk : k < n) : ∃ g o a m, A = some ⟨g, o, none⟩ ∧ g < w.heap.size ∧ l[k]? = some (a, m) ∧ PZ a m ∧ w.cell? ⟨g, o + k * 2, none⟩ = some (.int .u32 (a : Int)) ∧ w.cell? ⟨g, o + k * 2 + 1, none⟩ = some (.int .i64 m) := by
  obtain ⟨h1, h2, h3, h4⟩ := h
  obtain ⟨g, o, rfl, hg, hc⟩ := h4 (by omega)
  have hx : l[k]? = some l[k] := List.getElem?_eq_getElem (by omega)
  obtain ⟨vs, hl, ⟨rfl, hr⟩, hcs⟩ := hc k _ hx
  exact ⟨g, o, _, _, rfl, hg, hx, hr, hcs 0 _ rfl, hcs 1 _ rfl⟩
def zP (x : Nat × Nat) : Nat × Int := (x.1, (x.2 : Int))
theorem pz_of_pg {a n : Nat} (h : PG a n) : PZ a (n : Int) := by
  have h1 := h.1
  have h2 := h.2.1
  exact ⟨h1, by omega, by omega⟩
theorem pz_of_px {w : World} {A : Option Addr} {n c : Nat} {l : List (Nat × Nat)} (h : LstAt 2 pxR w A n c l) (hg : ∀ x ∈ l, PG x.1 x.2) : LstAt 2 pzR w A n c (l.map zP) := by
  obtain ⟨h1, h2, h3, h4⟩ := h
  refine ⟨by simpa using h1, h2, h3, fun hn => ?_⟩
  obtain ⟨g, o, hA, hlt, hc⟩ := h4 hn
  refine ⟨g, o, hA, hlt, fun k x hk => ?_⟩
  rw [List.getElem?_map] at hk
  cases hz : l[k]? with
  | none => rw [hz] at hk; cases hk
  | some z =>
    rw [hz] at hk
    simp only [Option.map_some, Option.some.injEq] at hk
    subst hk
    obtain ⟨vs, hl, rfl, hcs⟩ := hc k z hz
    exact ⟨_, rfl, ⟨rfl, pz_of_pg (hg _ (List.mem_of_getElem? hz))⟩, hcs⟩
set_option maxRecDepth 100000 in
theorem pzIndex0_any (F : FuncId) (p : (Nat × Int) → Bool) (A : Option Addr) (n c : Nat) (l : List (Nat × Int)) (w : World) (h : LstAt 2 pzR w A n c l) (hF : ∀ (args : Array Value) (W : World), (callFunc F args).run Tryz.prog W = .ok (.enter F args) W)
    (HF : ∀ (a : Nat) (m : Int) (W : World), Below w.heap.size w W → PZ a m → Calls Tryz.prog F #[.agg #[.int .u32 (a : Int), .int .i64 m]] W (GoodP (p (a, m)) W)) :
    Calls Tryz.prog 194 #[.slice A n c, .func (.func F) #[] #[]] w fun e w' => e = .returned (.int .i64 (idxP p l)) ∧ Below w.heap.size w w' := by
  have hm := h.2.2.1
  have hnc := h.2.1
  unfold maxLen at hm
  have HU := hide h
  have HP := hide HF
  have HE := hide hF
  clear h HF hF
  go_enter Tryz.func194, Tryz.ntmps194
  go_wp2
  go_loopw [8] (fun i wr => ∃ k : Nat, k ≤ n ∧ i = .int .i64 k ∧ (∀ y ∈ l.take k, p y = false) ∧ Below w.heap.size w wr) (fun i _ => n - (intOf i).toNat)
  case atStart => exact ⟨0, Nat.zero_le _, rfl, by simp, Below.refl _ _⟩
  case round =>
    obtain ⟨k, hk, rfl, hno, hb⟩ := hrel
    have HN := hide hno
    have HA := hide (HU.out.below pzMono hb)
    have HB := hide hb
    have hsz := hb.size
    clear hno hb
    by_cases hlt : k < n
    · obtain ⟨g, o, a, m, rfl, hg, hy, hok, c0, c1⟩ := PZat HA.out hlt
      have HO := hide (HP.out a m wr HB.out hok)
      have HY := hide hy
      clear hy
      obtain ⟨q, hq⟩ : ∃ q, p (a, m) = q := ⟨_, rfl⟩
      rw [hq] at HO
      have HQ := hide hq
      clear hq hok
      go_wp2_with fail
      rw [HE.out, Oper.upon_enter]
      refine HO.out.mono ?_
      rintro e w1 ⟨rfl, hb1⟩
      have HB1 := hide (HB.out.trans (hb1.mono hsz))
      clear hb1
      cases q
      · have hn2 := hide (show ∀ y ∈ l.take (k + 1), p y = false by
          intro y hy
          rw [List.take_add_one, HY.out, List.mem_append] at hy
          rcases hy with hy | hy
          · exact HN.out y hy
          · simp at hy; subst hy; exact HQ.out)
        go_wp2
        go_roundw
        case rel => exact ⟨k + 1, by omega, by go_num, hn2.out, HB1.out⟩
        case measure => simp [intOf]; omega
      · have hin := hide (idxP_at p l k _ HN.out HY.out HQ.out)
        go_wp2
        go_ret
        exact ⟨ret_i64 hin.out.symm, HB1.out⟩
    · obtain rfl : k = n := by omega
      have hf := hide (idxP_none p l (fun y hy => HN.out y (by rw [List.take_of_length_le (by rw [HU.out.1]; exact Nat.le_refl _)]; exact hy)))
      go_wp2
      go_ret
      exact ⟨ret_i64 hf.out.symm, HB.out⟩
theorem nOdd_any (a : Nat) (m : Int) (h : PZ a m) (w : World) : Calls Tryz.prog 151 #[.agg #[.int .u32 (a : Int), .int .i64 m]] w (GoodP (!goodB a m) w) := by
  have H := hide (fun W => Good_any a m h.1 h.2.1 h.2.2 W)
  unfold pfx at H
  obtain ⟨q, hq⟩ : ∃ q, goodB a m = q := ⟨_, rfl⟩
  rw [hq] at H ⊢
  clear hq h
  go_enter Tryz.func151, Tryz.ntmps151
  go_wp2_with fail
  refine (H.out _).mono ?_
  rintro e w1 ⟨rfl, hb⟩
  rw [World.size_alloc] at hb
  have HB := hide (((Below.refl _ w).alloc (Nat.le_refl _) _).trans (hb.mono (Nat.le_succ _)))
  clear hb
  cases q
  · go_wp2
    go_ret
    exact ⟨rfl, HB.out⟩
  · go_wp2
    go_ret
    exact ⟨rfl, HB.out⟩
set_option maxRecDepth 100000 in
theorem pxDelete_good (A : Option Addr) (n c : Nat) (l : List (Nat × Nat)) (w : World) (h : LstAt 2 pxR w A n c l) (hg : ∀ x ∈ l, PG x.1 x.2) :
    Calls Tryz.prog 150 #[.slice A n c, .func (.func 151) #[] #[]] w fun e w' => e = .returned (.slice A n c) ∧ Below w.heap.size w w' := by
  have H := hide (pzIndex0_any 151 (fun x => !goodB x.1 x.2) A n c (l.map zP) w (pz_of_px h hg) (fun args W => by simp [callFunc, go_sem, Tryz.func151]; rfl) (fun a m W _ hz => nOdd_any a m hz W))
  have hi : idxP (fun x : Nat × Int => !goodB x.1 x.2) (l.map zP) = -1 := idxP_none _ _ (fun y hy => by
    obtain ⟨x, hx, rfl⟩ := List.mem_map.1 hy
    have := good_pg (hg x hx)
    unfold zP
    simp [this])
  rw [hi] at H
  clear h hg hi
  go_enter Tryz.func150, Tryz.ntmps150
  go_wp2_with fail
  refine H.out.mono ?_
  rintro e w1 ⟨rfl, hb⟩
  have HB := hide hb
  clear hb
  go_wp2
  go_ret
  exact ⟨rfl, HB.out⟩
theorem own_made0P (w : World) : (w.alloc (.cells #[] 24)).ownsRow w.heap.size 24 2 (.slice (some ⟨w.heap.size, 0, none⟩) 0 0) 0 [] := World.ownsRow_made _ _ _ (Nat.le_refl _) (by simp [maxLen]) (by simp)
theorem pxC_one (l : List (Nat × Nat)) : ∀ v ∈ pxC l, v.oneCell' = true := by
  intro v hv
  unfold pxC at hv
  simp only [List.mem_flatMap] at hv
  obtain ⟨x, _, hx⟩ := hv
  simp at hx
  rcases hx with rfl | rfl <;> rfl
theorem pxC_chunks_eq : ∀ {xs : List Value} {l : List (Nat × Nat)} {w : World}, Chunks 2 pxR w xs l → xs = pxC l := by
  intro xs l w h
  obtain ⟨h1, h2⟩ := h
  apply List.ext_getElem?
  intro t
  by_cases ht : t < l.length * 2
  · have hx : l[t / 2]? = some l[t / 2] := List.getElem?_eq_getElem (by omega)
    have h3 := h2 (t / 2) _ hx
    unfold pxR at h3
    have h4 := flat2 (fun x : Nat × Nat => [Value.int .u32 (x.1 : Int), .int .i64 (x.2 : Int)]) (fun _ => rfl) l (t / 2) (t % 2) _ hx (by omega)
    rw [show t / 2 * 2 + t % 2 = t by omega] at h4
    unfold pxC
    rw [h4, ← h3, List.getElem?_take, if_pos (by omega), List.getElem?_drop, show t / 2 * 2 + t % 2 = t by omega]
  · rw [List.getElem?_eq_none (by omega), List.getElem?_eq_none (by unfold pxC; rw [flat2_len _ (fun _ => rfl)]; omega)]
set_option maxRecDepth 100000 in
theorem pxClone_any (A : Option Addr) (n c : Nat) (l : List (Nat × Nat)) (w : World) (h : LstAt 2 pxR w A n c l) (hn : n ≤ 100000) :
    Calls Tryz.prog 116 #[.slice A n c] w fun e w' => ∃ v, e = .returned v ∧ w'.ownsRow w.heap.size 24 2 v n (pxC l) ∧ Below w.heap.size w w' := by
  obtain ⟨i0, hi, hz0, hz1, hz2⟩ := info_parts pxInfo
  obtain ⟨xs, hr, hx⟩ := h.reads (by decide)
  obtain rfl := pxC_chunks_eq hx
  have HR := hide hr
  have hnil := fun w => Lib.run_eql_slice_nil (P := Tryz.prog) w
  cases A with
  | none =>
    have h0 : n = 0 := by
      rcases Nat.eq_zero_or_pos n with h1 | h1
      · exact h1
      · obtain ⟨g, o, hA, _⟩ := h.2.2.2 h1
        cases hA
    subst h0
    have hl : Hid (l = []) := hide (List.eq_nil_of_length_eq_zero h.1)
    clear h hr hx HR
    go_enter Tryz.func116, Tryz.ntmps116
    go_wp2
    go_ret
    refine ⟨_, rfl, ?_, Below.refl _ _⟩
    rw [hl.out]
    exact World.ownsRow_nil _ _ _ _
  | some ad =>
    clear h hr hx
    go_enter Tryz.func116, Tryz.ntmps116
    go_wp2_with (at_builtin; refine wpList_append_any _ rfl (.tmp 5) (.tmp 6) 45 rfl w.heap.size 24 i0 _ 2 16 Tryz.underlying45 hi hz0 hz1 hz2 rfl (by decide) (.slice (some ⟨w.heap.size, 0, none⟩) 0 0) 0 [] rfl (own_made0P w) w.heap.size (some ad) n c (pxC l) rfl (HR.out.alloc (Nat.le_refl _) _) (pxC_one _) (by unfold maxLen; omega) (by omega) (by simp) ?_; intro v' w1 hown' hgrow _)
    go_ret
    refine ⟨_, rfl, ?_, ?_⟩
    · simpa using hown'
    · exact ((Below.refl _ _).alloc (Nat.le_refl _) _).grown hgrow (by simp) (fun k hk => by simp [Value.ownBlock] at hk; omega)
theorem gr_far {W x : World} : (far W x).drawn = x.drawn := rfl
set_option maxHeartbeats 400000 in
theorem goodD (a n : Nat) (h : PG a n) (w : World) : Calls Tryz.prog 130 #[pfx a (n : Int)] w fun e w' => e = .returned (.bool true) ∧ Below w.heap.size w w' ∧ w.drawn ≤ w'.drawn := by
  have hn : (n : Int) ≤ 32 := by have := h.2.1; omega
  have hn0 : (0 : Int) ≤ (n : Int) := by omega
  have hf := hide (show (bits .andNot .u32 (a : Int) ((maskN n : Nat) : Int) == 0) = true by rw [good_test a n h.1 h.2.1, h.2.2]; simp)
  have HM := hide (fun W => mask_in n h.2.1 W)
  unfold pfx
  clear h
  go_enter Tryz.func130, Tryz.ntmps130
  go_wp2
  go_quiet ((go_at_call 177; exact quiet_left (HM.out _)))
  go_wp2
  go_ret
  refine ⟨?_, below_drewN ((Below.refl _ _).alloc (Nat.le_refl _) _) _, Nat.le_add_right _ _⟩
  rw [hf.out]; rfl
set_option maxRecDepth 100000 in
set_option maxHeartbeats 1000000 in
theorem cmpD (a n b m : Nat) (hg : PG a n) (hh : PG b m) (w : World) :
    Calls Tryz.prog 153 #[pfx a (n : Int), pfx b (m : Int)] w fun e w' => e = .returned (.int .i64 (cmpP a n b m)) ∧ Below w.heap.size w w' ∧ w.drawn ≤ w'.drawn := by
  have hg1 := goodD a n hg
  have hh1 := goodD b m hh
  unfold pfx at hg1 hh1 ⊢
  have HG := hide hg1
  have HH := hide hh1
  have hf := hide (or_cmp a n b m)
  obtain ⟨k0, k1, k2, k3⟩ := boxes w (.int .u32 (a : Int)) (.int .i64 n) (.int .u32 (b : Int)) (.int .i64 m) 24 24
  clear hg hh hg1 hh1
  go_enter Tryz.func153, Tryz.ntmps153
  go_wp2_with fail
  refine (HG.out _).mono ?_
  rintro e w1 ⟨rfl, hb1, hd1⟩
  obtain ⟨x1, rfl⟩ := far_of_below hb1
  have HD1 := hide hd1
  clear hd1
  go_wp2_with fail
  refine (HH.out _).mono ?_
  rintro e w2 ⟨rfl, hb2, hd2⟩
  obtain ⟨x2, rfl⟩ := far_below hb2
  have HD2 := hide hd2
  clear hd2
  go_wp2_with fail
  refine wp_region_still_tail 10 (by kernel_rfl) (by kernel_rfl) ?_
  simp only [List.take_succ_cons, List.take_zero, List.drop_succ_cons, List.drop_zero]
  repeat (first | still_step | still_call (compareU_any a b _) | still_call (Tryz.cmp_Compare_int n m _))
  try refine wpStill_nil ?_
  refine wpList_gen (fun w3 => Below w.heap.size w w3 ∧ w.drawn ≤ w3.drawn) ⟨(below_boxes w _ _ x2).drew, ?_⟩ ?_
  · have h1 := HD1.out
    have h2 := HD2.out
    simp only [World.drawn_alloc, World.drawn_drew, gr_far] at h1 h2 ⊢
    omega
  intro w3 ⟨hb3, hd3⟩
  clear hb1 hb2 k0 k1 k2 k3 HG HH HD1 HD2
  go_wp2_with fail
  refine (or_any w3.heap.size (cmpN a b) (Lib.compareInt n m) _ (by simp) (by simp)).mono ?_
  rintro e w4 ⟨rfl, rfl⟩
  rw [hf.out]
  go_wp2
  go_ret
  exact ⟨rfl, hb3.alloc (hb3.size) _, by simpa using hd3⟩
theorem gr_of {w w' : World} (hb : Below w.heap.size w w') (hd : w.drawn ≤ w'.drawn) : ∃ q os, w' = Go.Sort.grow (w.drewN q) os := by
  obtain ⟨p, rfl⟩ := regrown_of_below hb
  have hd' : w.drawn ≤ p.d := hd
  refine ⟨p.d - w.drawn, p.os, ?_⟩
  unfold World.drewN redrawn
  rw [show w.drawn + (p.d - w.drawn) = p.d by omega]
theorem run_clear_sliceK {P : Program} (w : World) (t e ty : TypeId) (z : Value) (ht : P.underlying t = some (.slice e)) (hv : ∀ w, (zeroValue e).run P w = .ok z w) (h1 : ∀ v ∈ z.cells, v.oneCell' = true) (h0 : 0 < z.cells.size) (b o n c : Nat) (hn : 0 < n)
    (hc : ∀ j, j < n * z.cells.size → (w.cell? ⟨b, o + j, none⟩).isSome = true) (hf : ∀ j, j < n * z.cells.size → w.frozen? ⟨b, o + j, none⟩ = false) :
    (Builtin.clear_ #[t] ty #[.slice (some ⟨b, o, none⟩) n c]).run P w = .ok (.tuple #[]) (w.setCells b o (Builtin.zeroCells z.cells n).toList) := by
  have hl : (Builtin.zeroCells z.cells n).toList.length = n * z.cells.size := by simp [Builtin.zeroCells]
  have ho : ∀ v ∈ (Builtin.zeroCells z.cells n).toList, v.oneCell' = true := by
    intro v hv'
    simp only [Builtin.zeroCells, Array.toList_map, List.mem_map] at hv'
    obtain ⟨i, _, rfl⟩ := hv'
    have hi : i % z.cells.size < z.cells.size := Nat.mod_lt _ h0
    rw [getElem!_pos z.cells _ hi]
    exact h1 _ (Array.getElem_mem hi)
  have hst := run_storeCells_cells (P := P) b o (Builtin.zeroCells z.cells n).toList 0 w (by rw [hl]; simpa using hc) (by rw [hl]; simpa using hf) ho
  simp only [Nat.add_zero] at hst
  obtain ⟨m, rfl⟩ : ∃ m, n = m + 1 := ⟨n - 1, by omega⟩
  simp [Builtin.clear_, run_underlying ht, hv, hst]
theorem clearRunP (w : World) (g o n c : Nat) (hn : 0 < n) (hc : ∀ j, j < n * 2 → (w.cell? ⟨g, o + j, none⟩).isSome = true) (hf : ∀ j, j < n * 2 → w.frozen? ⟨g, o + j, none⟩ = false) (ty : TypeId) :
    (Builtin.clear_ #[45] ty #[.slice (some ⟨g, o, none⟩) n c]).run Tryz.prog w = .ok (.tuple #[]) (w.setCells g o (Builtin.zeroCells #[.int .u32 0, .int .i64 0] n).toList) :=
  run_clear_sliceK w 45 24 ty (.agg #[.int .u32 0, .int .i64 0]) Tryz.underlying45 Tryz.zeroValue24 (by intro v hv; simp [Value.cells] at hv; rcases hv with rfl | rfl <;> rfl) (by simp [Value.cells]) g o n c hn hc hf
set_option maxRecDepth 100000 in
set_option maxHeartbeats 4000000 in
theorem pxCompact_any (base g cap : Nat) (d : Array Nat) (w : World) (h : PkRow base g cap w d) (hu : Up d) (hsz : d.size ≤ 100000) :
    Calls Tryz.prog 154 #[.slice (some ⟨g, 0, none⟩) d.size cap] w fun e w' => ∃ m, e = .returned (.slice (some ⟨g, 0, none⟩) m cap) ∧ m = (setOf d.toList).length ∧ w'.ownsRow base 24 2 (.slice (some ⟨g, 0, none⟩) m cap) m (pkC (setOf d.toList)) ∧ Below base w w' := by
  have HR := hide h
  have HUp := hide hu
  have hcap := h.2.2.2.2.2
  have hdc := h.2.2.2.2.1
  have hbg := h.2.2.1
  unfold maxLen at hcap
  obtain ⟨n, hn⟩ : ∃ n, d.size = n := ⟨_, rfl⟩
  have HFin : Hid (∀ (w' : World) (d' : Array Nat) (k : Nat), PkRow base g cap w' d' → CompInv d d' k d.size → w'.ownsRow base 24 2 (.slice (some ⟨g, 0, none⟩) k cap) k (pkC (setOf d.toList)) ∧ k = (setOf d.toList).length) := hide (fun w' d' k hr hi => by
    have h1 := hr.cut (k := k) (by have := hi.size; have := hi.le; omega)
    rw [hi.done] at h1
    refine ⟨h1, ?_⟩
    have := congrArg List.length hi.done
    rw [List.length_take] at this
    have hh := hi.size; have hl := hi.le
    simp at this; omega)
  rw [hn] at hsz hdc HFin ⊢
  have HN := hide hn
  clear h hu hn
  by_cases h2 : n < 2
  · have HF : Hid (w.ownsRow base 24 2 (.slice (some ⟨g, 0, none⟩) n cap) n (pkC (setOf d.toList)) ∧ n = (setOf d.toList).length) := hide (by
      have h1 := HR.out.1
      rw [HN.out] at h1
      have e : setOf d.toList = d.toList := by
        have hl : d.toList.length = n := by simpa using HN.out
        match hd : d.toList, hl with
        | [], _ => rfl
        | [x], _ => rfl
        | x :: y :: l, hl => simp at hl; omega
      rw [e]
      exact ⟨h1, by simpa using HN.out.symm⟩)
    go_enter Tryz.func154, Tryz.ntmps154
    go_wp2
    go_ret
    exact ⟨_, rfl, HF.out.2, HF.out.1, Below.refl _ _⟩
  · have HSt := hide (CompInv.start (d := d) (by rw [HN.out]; omega))
    go_enter Tryz.func154, Tryz.ntmps154
    go_wp2
    go_loopw [3] (fun i wr => ∃ k : Nat, k ≤ n ∧ i = .int .i64 k ∧ CompInv d d k k ∧ ∃ q, wr = w.drewN q) (fun i _ => n - (intOf i).toNat)
    case atStart => exact ⟨1, by omega, rfl, HSt.out, 0, rfl⟩
    case round =>
      obtain ⟨k, hk, rfl, hinv, q, rfl⟩ := hrel
      have HI := hide hinv
      have hk1 := hinv.le.1
      clear hinv
      by_cases hlt : k < n
      · obtain ⟨p, rfl⟩ : ∃ p, k = p + 1 := ⟨k - 1, by omega⟩
        obtain ⟨hc1, hd1⟩ := HR.out.cell (j := p + 1) (by rw [HN.out]; omega)
        obtain ⟨hc2, hd2⟩ := HR.out.cell (j := p) (by rw [HN.out]; omega)
        obtain ⟨x, hx⟩ : ∃ x, d[p + 1]! = x := ⟨_, rfl⟩
        obtain ⟨y, hy⟩ : ∃ y, d[p]! = y := ⟨_, rfl⟩
        rw [hx] at hc1 hd1
        rw [hy] at hc2 hd2
        obtain ⟨xa, hxa⟩ : ∃ a, x / 64 = a := ⟨_, rfl⟩
        obtain ⟨xm, hxm⟩ : ∃ a, x % 64 = a := ⟨_, rfl⟩
        obtain ⟨ya, hya⟩ : ∃ a, y / 64 = a := ⟨_, rfl⟩
        obtain ⟨ym, hym⟩ : ∃ a, y % 64 = a := ⟨_, rfl⟩
        rw [hxa] at hc1
        rw [hxm] at hd1
        rw [hya] at hc2
        rw [hym] at hd2
        have HX := hide hx
        have HY := hide hy
        have hi0 : (0 : Int) ≤ (p : Int) := by omega
        have hi1 : (p : Int) + 1 < (n : Int) := by omega
        have hi2 : (p : Int) < (n : Int) := by omega
        have hi3 : (0 : Int) ≤ (p : Int) + 1 := by omega
        have hwp : IntKind.i64.wrap (p : Int) = (p : Int) := by rw [IntKind.wrap_i64]; omega
        by_cases hxy : x = y
        · have HXY := hide hxy
          have HI2 : Hid (CompInv d d (p + 1) (p + 1 + (0 + 1))) := hide (by
            have := HI.out.skip (by rw [HN.out]; exact hlt) (by rw [Nat.add_sub_cancel, HX.out, HY.out]; exact HXY.out)
            exact this)
          obtain rfl : xa = ya := by omega
          obtain rfl : xm = ym := by omega
          have hcp : ¬ cap = p + 1 := by omega
          have hi4 : (p : Int) + 1 ≤ (n : Int) := by omega
          have hi5 : (n : Int) ≤ (cap : Int) := by omega
          clear hxy hx hy hxa hxm hya hym
          go_wp2
          go_quiet (fail)
          go_wp2
          obtain ⟨wo, hwo⟩ : ∃ wo, (w.drewN q).drewN nq = wo := ⟨_, rfl⟩
          have HRo : Hid (PkRow base g cap wo d) := hide (by rw [← hwo]; exact (HR.out.drewN q).drewN nq)
          have HBo : Hid (Below base w wo) := hide (by rw [← hwo]; exact below_drewN (below_drewN (Below.refl _ _) _) _)
          obtain ⟨p0, hp0⟩ : ∃ p0, p = p0 := ⟨_, rfl⟩
          subst hp0
          clear hc1 hd1 hc2 hd2
          go_loopw [3, 5] (fun a b wr => ∃ (k r : Nat) (d' : Array Nat), a = .int .i64 k ∧ b = .int .i64 ((r : Int) + 1) ∧ r + 1 ≤ n - (p + 1) ∧ CompInv d d' k (p + 1 + (r + 1)) ∧ k < p + 1 + (r + 1) ∧ d'[p + 1 + r]! = d[p + 1 + r]! ∧ PkRow base g cap wr d' ∧ Below base w wr) (fun _ b _ => n - (intOf b).toNat)
          case atStart => exact ⟨p + 1, 0, d, by go_num, by go_num, by omega, HI2.out, by omega, rfl, by first | exact (HR.out.drewN _) | exact (HR.out.drewN _).drewN _, by first | exact below_drewN (Below.refl _ _) _ | exact below_drewN (below_drewN (Below.refl _ _) _) _⟩
          case round =>
            obtain ⟨k, r, d', rfl, rfl, hr, hinv, hkq, hrr, hrow, hbel⟩ := hrel
            have HI3 := hide hinv
            have HRR := hide hrr
            have HR3 := hide hrow
            have HB3 := hide hbel
            have hds := hinv.size
            have hle := hinv.le
            rw [HN.out] at hds hle
            clear hinv hrr hbel
            by_cases hlt2 : r + 1 < n - (p + 1)
            · obtain ⟨hc3, hd3⟩ := hrow.cell (j := p + 1 + (r + 1)) (by omega)
              obtain ⟨hc4, hd4⟩ := hrow.cell (j := p + 1 + r) (by omega)
              have hfz := hrow.1.frozenAt (k * 2)
              have hfz2 := hrow.1.frozenAt (k * 2 + 1)
              obtain ⟨hck, hdk⟩ := hrow.cell (j := k) (by omega)
              clear hrow
              obtain ⟨x2, hx2⟩ : ∃ x2, d[p + 1 + (r + 1)]! = x2 := ⟨_, rfl⟩
              obtain ⟨y2, hy2⟩ : ∃ y2, d[p + 1 + r]! = y2 := ⟨_, rfl⟩
              obtain ⟨z2, hz2⟩ : ∃ z2, d'[k]! = z2 := ⟨_, rfl⟩
              have hdx : d'[p + 1 + (r + 1)]! = x2 := by
                rcases HI3.out.rest (p + 1 + (r + 1)) (by omega) with h | h
                · rw [h, hx2]
                · omega
              rw [hdx] at hc3 hd3
              rw [HRR.out, hy2] at hc4 hd4
              rw [hz2] at hck hdk
              have HX2 := hide hx2
              have HY2 := hide hy2
              have HDX := hide hdx
              have hx3 : nk x2 = x2 := by rw [← hdx]; exact HR3.out.val _
              have HX3 := hide hx3
              obtain ⟨ua, hua⟩ : ∃ a, x2 / 64 = a := ⟨_, rfl⟩
              obtain ⟨um, hum⟩ : ∃ a, x2 % 64 = a := ⟨_, rfl⟩
              obtain ⟨va, hva⟩ : ∃ a, y2 / 64 = a := ⟨_, rfl⟩
              obtain ⟨vm, hvm⟩ : ∃ a, y2 % 64 = a := ⟨_, rfl⟩
              have HSt2 := hide (fun nq => (HR3.out.drewN nq).set_ (k := k) hx3)
              simp only [hua, hum] at HSt2
              rw [hua] at hc3
              rw [hum] at hd3
              rw [hva] at hc4
              rw [hvm] at hd4
              obtain ⟨za, hza⟩ : ∃ a, z2 / 64 = a := ⟨_, rfl⟩
              obtain ⟨zm, hzm⟩ : ∃ a, z2 % 64 = a := ⟨_, rfl⟩
              rw [hza] at hck
              rw [hzm] at hdk
              clear hx2 hy2 hdx hz2 hx3 hza hzm
              have hj0 : (0 : Int) ≤ (r : Int) := by omega
              have hj1 : (0 : Int) ≤ (r : Int) + 1 := by omega
              have hj2 : (r : Int) + 1 < (n : Int) - ((p : Int) + 1) := by omega
              have hj3 : (r : Int) < (n : Int) - ((p : Int) + 1) := by omega
              have hj4 : (k : Int) < (n : Int) := by omega
              have hwr : IntKind.i64.wrap (r : Int) = (r : Int) := by rw [IntKind.wrap_i64]; omega
              have ho1 : 0 + (p + 1) * 2 + (r + 1) * 2 = (p + 1 + (r + 1)) * 2 := by omega
              have ho2 : (p + 1) * 2 + (r + 1) * 2 = (p + 1 + (r + 1)) * 2 := by omega
              have ho3 : (p + 1) * 2 + r * 2 = (p + 1 + r) * 2 := by omega
              by_cases hxy2 : x2 = y2
              · have HI4 : Hid (CompInv d d' k (p + 1 + (r + 1 + 1))) := hide (by
                  have := HI3.out.skip (by rw [HN.out]; omega) (by rw [show p + 1 + (r + 1) - 1 = p + 1 + r by omega, HX2.out, HY2.out]; exact hxy2)
                  exact this)
                obtain rfl : ua = va := by omega
                obtain rfl : um = vm := by omega
                clear hxy2 hua hum hva hvm
                go_wp2
                go_quiet (fail)
                go_wp2
                go_roundw
                case rel => exact ⟨k, r + 1, d', rfl, by go_num, by omega, HI4.out, by omega, by rw [show p + 1 + (r + 1) = p + 1 + (r + 1) from rfl, HDX.out, HX2.out], HR3.out.drewN _, below_drewN HB3.out _⟩
                case measure => simp [intOf]; omega
              · have HI4 : Hid (CompInv d (d'.setIfInBounds k x2) (k + 1) (p + 1 + (r + 1 + 1))) := hide (by
                  have := HI3.out.put HUp.out (by rw [HN.out]; omega) (by rw [show p + 1 + (r + 1) - 1 = p + 1 + r by omega, HX2.out, HY2.out]; exact hxy2)
                  rw [HX2.out] at this
                  exact this)
                have hne : ¬ (ua = va ∧ um = vm) := fun h => by omega
                clear hxy2 hua hum hva hvm
                by_cases hua2 : ua = va
                · subst hua2
                  have he2 : ((um : Int) == (vm : Int)) = false := by simp; omega
                  clear hne
                  go_wp2
                  go_quiet (fail)
                  go_wp2
                  go_roundw
                  case rel => exact ⟨k + 1, r + 1, d'.setIfInBounds k x2, by go_num, by go_num, by omega, HI4.out, by omega, by rw [get_set _ _ _ _ (by omega), if_neg (by omega), HDX.out, HX2.out], by exact HSt2.out _, by exact below_clear (by exact HR3.out.2.2.1) [_, _] (k * 2) (below_drewN HB3.out _)⟩
                  case measure => simp [intOf]; omega
                · have he2 : ((ua : Int) == (va : Int)) = false := by simp; omega
                  clear hne hua2
                  go_wp2
                  go_quiet (fail)
                  go_wp2
                  go_roundw
                  case rel => exact ⟨k + 1, r + 1, d'.setIfInBounds k x2, by go_num, by go_num, by omega, HI4.out, by omega, by rw [get_set _ _ _ _ (by omega), if_neg (by omega), HDX.out, HX2.out], by exact HSt2.out _, by exact below_clear (by exact HR3.out.2.2.1) [_, _] (k * 2) (below_drewN HB3.out _)⟩
                  case measure => simp [intOf]; omega
            · have hkn : k < n := by omega
              have hrn : p + 1 + (r + 1) = n := by omega
              have HI4 : Hid (CompInv d d' k d.size) := hide (by rw [HN.out, ← hrn]; exact HI3.out)
              have hcl := clearRunP wr g (k * 2) (n - k) (cap - k) (by omega) (fun j hj => by
                have := HR3.out.1.cellAt (k * 2 + j) (by omega)
                rw [this, List.getElem?_eq_getElem (by rw [pkC_len]; simp; omega)]
                rfl) (fun j hj => HR3.out.1.frozenAt (k * 2 + j))
              have HF : Hid (wr.ownsRow base 24 2 (.slice (some ⟨g, 0, none⟩) k cap) k (pkC (setOf d.toList)) ∧ k = (setOf d.toList).length) := hide (HFin.out wr d' k HR3.out (by have := HI4.out; rwa [HN.out] at this))
              have hck : ¬ cap = k := by omega
              have hj4 : (k : Int) < (n : Int) := by omega
              clear hrow hrn
              go_wp2
              go_ret
              exact ⟨_, rfl, HF.out.2, own_clearK _ _ HF.out.1 (Nat.le_refl _), below_clear (by exact HR3.out.2.2.1) _ _ HB3.out⟩
        · have HI2 := hide (HI.out.grow HUp.out (by rw [HN.out]; exact hlt) (by rw [Nat.add_sub_cancel, HX.out, HY.out]; exact hxy))
          have hne : ¬ (xa = ya ∧ xm = ym) := fun h => by omega
          clear hxy hx hy hxa hxm hya hym
          by_cases hxa2 : xa = ya
          · subst hxa2
            have he : ((xm : Int) == (ym : Int)) = false := by simp; omega
            clear hne
            go_wp2
            go_quiet (fail)
            go_wp2
            go_roundw
            case rel => exact ⟨p + 1 + 1, by omega, by go_num, HI2.out, _, rfl⟩
            case measure => simp [intOf]; omega
          · have he : ((xa : Int) == (ya : Int)) = false := by simp; omega
            clear hne hxa2
            go_wp2
            go_quiet (fail)
            go_wp2
            go_roundw
            case rel => exact ⟨p + 1 + 1, by omega, by go_num, HI2.out, _, rfl⟩
            case measure => simp [intOf]; omega
      · obtain rfl : k = n := by omega
        have HF := hide (HFin.out (w.drewN q) d k (HR.out.drewN q) (by have := HI.out; rwa [← HN.out] at this ⊢))
        go_wp2
        go_ret
        exact ⟨_, rfl, HF.out.2, HF.out.1, below_drewN (Below.refl _ _) _⟩
end Go.Proofs.YtcinjckajnnhmaaGreat
set_option linter.unusedSimpArgs false
set_option linter.unusedVariables false
namespace Go.Proofs.YtcinjckajnnhmaaGreat
open Go.RowKit Go.WideShapes Go.ChangeShapes
attribute [local go_sem] Oper.semAt_some
theorem ltK (x y : Nat) : ltOf cfK x y = decide (nk x < nk y) := by
  unfold ltOf cfK
  by_cases h : nk x < nk y
  · simp [h]
  · rw [if_neg h]
    by_cases h2 : nk x = nk y
    · simp [h2]
    · simp [h, h2]
theorem swoK : Go.Sort.SWO (ltOf cfK) := by
  refine ⟨fun x => ?_, fun x y z h1 h2 => ?_, fun x y z h1 h2 => ?_⟩
  · rw [ltK]; simp
  · rw [ltK] at *; simp at *; omega
  · rw [ltK] at *; simp at *; omega
theorem flatK_pk (d : Array Nat) : Go.Sort.flatK enK 2 d = (pkC d.toList).toArray := by
  refine Go.Sort.ext_get! (by simp [pkC_len]) fun t ht => ?_
  have ht' : t < d.size * 2 := by simpa using ht
  rw [Go.Sort.get_flatK _ _ _ _ ht']
  have hx : d.toList[t / 2]? = some d[t / 2]! := by simp [show t / 2 < d.size by omega]
  have h1 := flat2 enK enK_len d.toList (t / 2) (t % 2) _ hx (by omega)
  rw [show t / 2 * 2 + t % 2 = t by omega] at h1
  have h2 : t % 2 < (enK d[t / 2]!).length := by rw [enK_len]; omega
  have h3 : t < (pkC d.toList).toArray.size := by simp [pkC_len]; omega
  rw [getElem!_pos (enK d[t / 2]!) _ h2, getElem!_pos (pkC d.toList).toArray _ h3]
  have h4 : t < (d.toList.flatMap enK).length := by rw [flat2_len enK enK_len]; simpa using ht'
  rw [List.getElem?_eq_getElem h2, List.getElem?_eq_getElem h4] at h1
  exact (Option.some.inj h1).symm
theorem PkRow.holds {base g cap : Nat} {w : World} {d : Array Nat} (h : PkRow base g cap w d) : Go.Sort.HoldsK enK 2 w g 0 d := by
  unfold Go.Sort.HoldsK
  rw [flatK_pk]
  intro t ht
  have ht' : t < d.size * 2 := by simpa [pkC_len] using ht
  refine ⟨?_, h.1.frozenAt _⟩
  rw [Nat.zero_add, h.1.cellAt t ht', getElem!_pos _ t ht]
  simp [show t < (pkC d.toList).length by rw [pkC_len]; simpa using ht']
theorem PkRow.sorted {base g cap n : Nat} {w : World} {d d' : Array Nat} {os : Array Obj} (h : PkRow base g cap w d) (hs : d'.size = d.size) (hv : ∀ x ∈ d'.toList, nk x = x) :
    PkRow base g cap (sortWorldK enK 2 w g 0 n d' os) d' ∧ Below base w (sortWorldK enK 2 w g 0 n d' os) := by
  have hH := h.holds
  unfold Go.Sort.HoldsK at hH
  rw [flatK_pk] at hH
  have hlen : (pkC d'.toList).length = (pkC d.toList).length := by rw [pkC_len, pkC_len]; simp [hs]
  have e : sortWorldK enK 2 w g 0 n d' os = Go.Sort.grow ((w.drewN n).setCells g 0 (pkC d'.toList)) os := by
    unfold sortWorldK Go.Sort.putRowK
    rw [flatK_pk, Go.Lib.putRow_eq_setCells id w g 0 (pkC d.toList).toArray (pkC d'.toList) n hH (by simp [hlen]), List.map_id]
  rw [e]
  have h1 := own_setCellsK (pkC d'.toList) 0 (h.drewN n).1 (by rw [Nat.zero_add, pkC_len]; simp [hs])
  have e2 : List.take 0 (pkC d.toList) ++ pkC d'.toList ++ List.drop (0 + (pkC d'.toList).length) (pkC d.toList) = pkC d'.toList := by
    rw [Nat.zero_add, hlen, List.drop_length]; simp
  rw [e2] at h1
  have hb1 : Below base w ((w.drewN n).setCells g 0 (pkC d'.toList)) := below_clear h.2.2.1 _ _ (below_drewN (Below.refl _ _) _)
  have hgs : Below ((w.drewN n).setCells g 0 (pkC d'.toList)).heap.size ((w.drewN n).setCells g 0 (pkC d'.toList)) (Go.Sort.grow ((w.drewN n).setCells g 0 (pkC d'.toList)) os) := Lib.below_grow _ _ (Nat.le_refl _) 0 os
  have hbs : base ≤ w.heap.size := Nat.le_trans h.2.2.1 (Nat.le_of_lt h.2.2.2.1)
  have hszs : ((w.drewN n).setCells g 0 (pkC d'.toList)).heap.size = w.heap.size := sizeSetCells _ _ _ _
  refine ⟨⟨?_, hv, h.2.2.1, Nat.lt_of_lt_of_le (by rw [hszs]; exact h.2.2.2.1) hgs.size, by rw [hs]; exact h.2.2.2.2.1, h.2.2.2.2.2⟩, hb1.trans (hgs.mono (by rw [hszs]; exact hbs))⟩
  have := own_kept h1 hgs
  rw [hs]
  exact this
theorem up_of_sorted {d : Array Nat} (h : Go.Sort.SortedIn (ltOf cfK) 0 d.size d) (hv : ∀ j : Nat, nk (d[j]! : Nat) = d[j]!) : Up d := by
  intro i hi
  have := h i (i + 1) (Nat.zero_le _) (by omega) hi
  rw [ltK, hv, hv] at this
  simpa using this
theorem cmpLaysK (g off size : Nat) (w : World) : CmpLays Tryz.prog 153 #[] enK 2 cfK g off size w := by
  intro m os dk hs x y
  refine (cmpD _ _ _ _ (nk_pg x) (nk_pg y) _).mono ?_
  rintro e w' ⟨rfl, hb, hd⟩
  rw [cmpK]
  exact ⟨rfl, gr_of hb hd⟩
theorem enK_one (x : Nat) : ∀ v ∈ enK x, v.oneCell' = true := by
  intro v hv
  simp [enK] at hv
  rcases hv with rfl | rfl <;> rfl
theorem permIn_whole {d d' : Array Nat} (h : Go.Sort.PermIn 0 d.size d d') : d'.size = d.size ∧ d'.toList.Perm d.toList := by
  obtain ⟨h1, _, h3⟩ := h
  refine ⟨h1, ?_⟩
  have e1 : d.extract 0 d.size = d := by simp
  have e2 : d'.extract 0 d.size = d' := by rw [← h1]; simp
  rw [e1, e2] at h3
  exact h3
theorem pxSortF_any (base g cap : Nat) (d : Array Nat) (w : World) (h : PkRow base g cap w d) (hsz : d.size ≤ 100000) :
    Calls Tryz.prog 152 #[.slice (some ⟨g, 0, none⟩) d.size cap, .func (.func 153) #[] #[]] w fun e w' => e = .returned (.tuple #[]) ∧ ∃ d' : Array Nat, PkRow base g cap w' d' ∧ Up d' ∧ d'.size = d.size ∧ d'.toList.Perm d.toList ∧ Below base w w' := by
  refine (Tryz.slices_SortFunc_px enK enK_len enK_one cfK swoK 153 #[] g 0 cap d w (fun args W => by simp [callFunc, go_sem, Tryz.func153]; rfl) (cmpLaysK g 0 d.size w) h.holds h.2.2.2.1 (by omega)).mono ?_
  rintro e w' ⟨rfl, d', n, os, hp, hs, rfl⟩
  obtain ⟨hz, hpm⟩ := permIn_whole hp
  have hv : ∀ x ∈ d'.toList, nk x = x := fun x hx => h.2.1 x ((hpm.mem_iff).1 hx)
  obtain ⟨hr, hb⟩ := h.sorted (n := n) (os := os) hz hv
  exact ⟨rfl, d', hr, up_of_sorted (by rw [hz]; exact hs) (fun j => hr.val j), hz, hpm, hb⟩
theorem sortP_perm {l r : List Nat} (h : l.Perm r) : setOf l = setOf r :=
  rise_ext (setOf_rise _) (setOf_rise _) (fun x => by rw [setOf_mem, setOf_mem]; exact h.mem_iff)
theorem sortP_mem {l : List (Nat × Nat)} (hg : ∀ x ∈ l, PG x.1 x.2) (x : Nat × Nat) : x ∈ sortP l ↔ x ∈ l := by
  unfold sortP
  constructor
  · intro hx
    obtain ⟨k, hk, rfl⟩ := List.mem_map.1 hx
    rw [setOf_mem] at hk
    obtain ⟨y, hy, rfl⟩ := List.mem_map.1 hk
    rwa [unK_pK (hg y hy)]
  · intro hx
    exact List.mem_map.2 ⟨pK x, (setOf_mem _ _).2 (List.mem_map.2 ⟨x, hx, rfl⟩), unK_pK (hg x hx)⟩
theorem pkC_map {l : List (Nat × Nat)} (hg : ∀ x ∈ l, PG x.1 x.2) : pkC (l.map pK) = pxC l := by
  rw [pkC_pxC _ (fun x hx => by obtain ⟨y, hy, rfl⟩ := List.mem_map.1 hx; exact nk_pK (hg y hy)), map_unK hg]
theorem pkC_setOf {l : List (Nat × Nat)} (hg : ∀ x ∈ l, PG x.1 x.2) : pkC (setOf (l.map pK)) = pxC (sortP l) :=
  pkC_pxC _ (fun x hx => by
    rw [setOf_mem] at hx
    obtain ⟨y, hy, rfl⟩ := List.mem_map.1 hx
    exact nk_pK (hg y hy))
set_option maxRecDepth 100000 in
set_option maxHeartbeats 4000000 in
/-- nlri.Sort of good prefixes. -/
theorem nSort_any (A : Option Addr) (n c : Nat) (l : List (Nat × Nat)) (w : World) (h : LstAt 2 pxR w A n c l) (hg : ∀ x ∈ l, PG x.1 x.2) (hn : n ≤ 100000) :
    Calls Tryz.prog 87 #[.slice A n c] w fun e w' => ∃ A' c', e = .returned (.slice A' (sortP l).length c') ∧ w'.ownsRow w.heap.size 24 2 (.slice A' (sortP l).length c') (sortP l).length (pxC (sortP l)) ∧ Below w.heap.size w w' := by
  have H1 := hide (pxClone_any A n c l w h hn)
  have H2 := hide (fun A c W (h : LstAt 2 pxR W A n c l) => pxDelete_good A n c l W h hg)
  have H3 := hide (fun f W => pxSortF_nil f W)
  have H4 := hide (fun W => pxCompact_nil W)
  have H5 := hide (fun base g cap (d : Array Nat) W (hr : PkRow base g cap W d) (hz : d.size ≤ 100000) => pxSortF_any base g cap d W hr hz)
  have H6 := hide (fun base g cap (d : Array Nat) W (hr : PkRow base g cap W d) hu (hz : d.size ≤ 100000) => pxCompact_any base g cap d W hr hu hz)
  have HG := hide hg
  have hln := h.1
  clear h hg
  go_enter Tryz.func87, Tryz.ntmps87
  go_wp2_with fail
  refine H1.out.mono ?_
  rintro e w1 ⟨v, rfl, ho, hb1⟩
  rcases ho.2 with ⟨rfl, h0⟩ | ⟨g, cap, cur, rfl, hbg, hcur, hnc, hcm, _, _⟩
  · subst h0
    have hl : l = [] := List.eq_nil_of_length_eq_zero hln
    have HB1 := hide hb1
    have HE : Hid (sortP l = []) := hide (by rw [hl]; rfl)
    have H2' := hide (H2.out none 0 w1 (by rw [hl]; exact LstAt.none_))
    clear ho hb1 hl
    go_wp2_with fail
    refine H2'.out.mono ?_
    rintro e w2 ⟨rfl, hb2⟩
    have HB2 := hide (HB1.out.trans (hb2.mono HB1.out.size))
    clear hb2
    go_wp2_with fail
    refine (H3.out _ _).mono ?_
    rintro e w3 ⟨rfl, rfl⟩
    go_wp2_with fail
    refine (H4.out _).mono ?_
    rintro e w3 ⟨rfl, rfl⟩
    go_wp2
    go_ret
    refine ⟨none, 0, by rw [HE.out]; rfl, ?_, HB2.out⟩
    rw [HE.out]
    exact World.ownsRow_nil _ _ _ _
  · have hgl : g < w1.heap.size := (Array.getElem?_eq_some_iff.1 hcur).1
    obtain ⟨d, hd⟩ : ∃ d : Array Nat, (l.map pK).toArray = d := ⟨_, rfl⟩
    have hdt : d.toList = l.map pK := by rw [← hd]
    have hds : d.size = n := by rw [← hd]; simp [hln]
    have hbs := hb1.size
    have HR1 : Hid (PkRow w.heap.size g cap w1 d) := hide ⟨by rw [hdt, pkC_map HG.out, hds]; exact ho, fun x hx => by
      rw [hdt] at hx
      obtain ⟨y, hy, rfl⟩ := List.mem_map.1 hx
      exact nk_pK (HG.out y hy), hbg, hgl, by omega, hcm⟩
    have H2' := hide (H2.out (some ⟨g, 0, none⟩) cap w1 (own_pxs ho))
    have HB1 := hide hb1
    have HDt := hide hdt
    have HDs := hide hds
    clear ho hb1 hd hdt hds hcur
    go_wp2_with fail
    refine H2'.out.mono ?_
    rintro e w2 ⟨rfl, hb2⟩
    have HB2 := hide (HB1.out.trans (hb2.mono HB1.out.size))
    have HR2 : Hid (PkRow w.heap.size g cap w2 d) := hide ⟨own_kept HR1.out.1 hb2, HR1.out.2.1, HR1.out.2.2.1, Nat.lt_of_lt_of_le HR1.out.2.2.2.1 hb2.size, HR1.out.2.2.2.2⟩
    have H5' := hide (H5.out _ _ _ d w2 HR2.out (by rw [HDs.out]; exact hn))
    rw [HDs.out] at H5'
    clear hb2
    go_wp2_with fail
    refine H5'.out.mono ?_
    rintro e w3 ⟨rfl, d', hr3, hu3, hz3, hp3, hb3⟩
    have HR3 := hide hr3
    have HP3 := hide hp3
    have HZ3 := hide hz3
    have HB3 := hide (HB2.out.trans hb3)
    have H6' := hide (H6.out _ _ _ d' w3 hr3 hu3 (by rw [hz3]; exact hn))
    rw [hz3] at H6'
    clear hr3 hu3 hz3 hp3 hb3
    go_wp2_with fail
    refine H6'.out.mono ?_
    rintro e w4 ⟨m, rfl, hm, ho4, hb4⟩
    have HM := hide hm
    have HO4 := hide ho4
    have HB4 := hide (HB3.out.trans hb4)
    clear hm ho4 hb4
    go_wp2
    go_ret
    have e1 : setOf d'.toList = setOf (l.map pK) := by rw [sortP_perm HP3.out, HDt.out]
    have e2 : (sortP l).length = m := by rw [HM.out, e1]; simp [sortP]
    have ho := HO4.out
    rw [e1, pkC_setOf HG.out] at ho
    exact ⟨some ⟨g, 0, none⟩, cap, by rw [e2]; rfl, by rw [e2]; exact ho, HB4.out⟩
end Go.Proofs.YtcinjckajnnhmaaGreat
set_option linter.unusedSimpArgs false
set_option linter.unusedVariables false
namespace Go.Proofs.YtcinjckajnnhmaaGreat
open Go.RowKit Go.WideShapes Go.ChangeShapes
attribute [local go_sem] Oper.semAt_some
theorem lenE {l : List Value} (h0 : VOk 1 l) : ∃ v0, l = [v0] := by
  have h := h0.1
  clear h0
  obtain _ | ⟨v0, l⟩ := l
  · simp at h
  obtain _ | ⟨x, l⟩ := l
  · exact ⟨_, rfl⟩
  · simp at h
theorem trDownE {α : Type} {F : Nat → Prop} {R : World → List Value → α → Prop} {w : World} {s : Tr α} {a : Act} (h : TrW 1 226 F R w s) (e : a.tmps.getD 5 undef = trPtr s) : trDown a w = trRank s := by
  cases s with
  | nil => unfold trDown; rw [e]; rfl
  | nd b c n v l r =>
    obtain ⟨⟨vs, hv, hk, _⟩, _, _⟩ := h
    unfold trDown
    rw [e]
    have hz : w.cell? ⟨b, 1, none⟩ = some (.int .i64 (n : Int)) := hk.cell 1
    show 33 - cellNat w ⟨b, 1, none⟩ = 33 - n
    rw [cellNat_of hz]
def FindJE {α : Type} (F : Nat → Prop) (R : World → List Value → α → Prop) (g c k : Nat) (t : Tr α) (w : World) (a' : Act) (w' : World) : Prop := ∃ (s : Tr α) (xb : Nat) (l : List Value), a' = ⟨(.pointer (some ⟨g, 0, none⟩) :: .agg #[.int .u32 (c : Int), .int .i64 (k : Int)] :: undef :: .pointer (some ⟨xb, 0, none⟩) :: .pointer none :: trPtr s :: l).toArray, []⟩ ∧ l.length = 40 ∧
  TrW 1 226 F R w' s ∧ trWf s ∧ trFind c k s = trFind c k t ∧ Blk w' xb 24 #[.int .u32 (c : Int), .int .i64 (k : Int)] ∧ Below w.heap.size w w'
set_option maxRecDepth 100000 in
set_option maxHeartbeats 8000000 in
theorem findE_any {α : Type} {F : Nat → Prop} {R : World → List Value → α → Prop} (g c k : Nat) (t : Tr α) (w : World) (hc : PG c k) (hg : Blk w g 219 #[trPtr t]) (h : TrW 1 226 F R w t) (hw : trWf t) :
    Calls Tryz.prog 161 #[.pointer (some ⟨g, 0, none⟩), .agg #[.int .u32 (c : Int), .int .i64 (k : Int)]] w fun e w' => e = .returned (trPtr (trFind c k t)) ∧ Below w.heap.size w w' := by
  have HGd := hide (Good_any c (k : Int) hc.1 (by omega) (by have := hc.2.1; omega))
  rw [good_pg hc] at HGd
  unfold pfx at HGd
  obtain ⟨w0, hw0⟩ : ∃ w0, w.alloc (.cells #[.int .u32 (c : Int), .int .i64 (k : Int)] 24) = w0 := ⟨_, rfl⟩
  have hb0 : Below w.heap.size w w0 := hw0 ▸ blkBelow1 w _
  have HX0 : Hid (Blk w0 w.heap.size 24 #[.int .u32 (c : Int), .int .i64 (k : Int)]) := hide (hw0 ▸ Blk.new w _ _)
  have HB0 := hide hb0
  have HG := hide hg
  have HT := hide h
  have HWf := hide hw
  have HPc := hide hc
  have HW0 := hide hw0
  clear hw0 hb0 hg h hw hc
  go_enter Tryz.func161, Tryz.ntmps161
  have x0 : w0.cell? ⟨w.heap.size, 0, none⟩ = some (.int .u32 (c : Int)) := HX0.out.cell 0
  have x1 : w0.cell? ⟨w.heap.size, 1, none⟩ = some (.int .i64 (k : Int)) := HX0.out.cell 1
  go_wp2
  rw [HW0.out]
  refine wp_scope_mid 0 (FindJE F R g c k t w) trDown rfl ?_ ?_
  · intro HPass
    go_wp2_with fail
    refine (HGd.out _).mono ?_
    rintro e w1 ⟨rfl, hb1⟩
    have HB1 := hide (HB0.out.trans (hb1.mono HB0.out.size))
    have HX1 := hide (HX0.out.below hb1 HX0.out.lt)
    have z : w1.cell? ⟨g, 0, none⟩ = some (trPtr t) := (HG.out.below HB1.out HG.out.lt).cell 0
    clear hb1 x0 x1
    go_wp2
    go_step3
    rename_i hK
    refine hK _ _ (HPass _ _ ?_)
    refine ⟨t, w.heap.size, _, rfl, rfl, ?_⟩
    exact ⟨HT.out.chg (S := fun _ => False) (chg_below HB1.out) (by simp) (by simp), HWf.out, rfl, HX1.out, HB1.out⟩
  rintro a1 w2 ⟨s, xb, l0, rfl, hl0, hs, hsw, hsf, hxb, hb2⟩
  obtain ⟨u, rfl⟩ := list_fn hl0
  clear hl0 x0 x1
  rw [show (List.range 40).map u = [u 0, u 1, u 2, u 3, u 4, u 5, u 6, u 7, u 8, u 9, u 10, u 11, u 12, u 13, u 14, u 15, u 16, u 17, u 18, u 19, u 20, u 21, u 22, u 23, u 24, u 25, u 26, u 27, u 28, u 29, u 30, u 31, u 32, u 33, u 34, u 35, u 36, u 37, u 38, u 39] from rfl]
  have HX := hide hxb
  have HB2 := hide hb2
  have HSf := hide hsf
  clear hxb hb2 hsf HX0 HG HT HWf HGd
  cases s with
  | nil =>
    have e0 : trPtr (.nil : Tr α) = .pointer none := rfl
    rw [e0]
    have HR : Hid (trPtr (trFind c k t) = .pointer none) := hide (by rw [← HSf.out]; rfl)
    clear e0 hs hsw
    go_upto_region 4 with fail
    go_quiet (fail)
    go_wp2
    simp only [Exit.jump]
    go_ret
    exact ⟨by rw [HR.out]; rfl, below_drewN HB2.out _⟩
  | nd b a n v l r =>
    have e0 : trPtr (.nd b a n v l r) = .pointer (some ⟨b, 0, none⟩) := rfl
    rw [e0]
    clear e0
    obtain ⟨⟨vs, hv, hk, hval⟩, hl, hr⟩ := hs
    obtain ⟨v0, rfl⟩ := lenE hv
    obtain ⟨hga, hil, hir, hwl, hwr⟩ := hsw
    have HN := hide hk
    have HN0 := hide hk
    have HL := hide hl
    have HRr := hide hr
    have HGa := hide hga
    have HIl := hide hil
    have HIr := hide hir
    have HWl := hide hwl
    have HWr := hide hwr
    have HCv := hide (fun W => cov_pg hga HPc.out W)
    clear hk hl hr hga hil hir hwl hwr hv hval
    by_cases hcv : CvN a n c k
    · rw [decide_eq_true hcv] at HCv
      have HCvP := hide hcv
      clear hcv
      go_upto_region 4 with fail
      have Hmn := hide (show AllMono [(fun v _ => v = .pointer (some ⟨b, 0, none⟩)), (fun v _ => v = .bool false), (fun v _ => v = .bool false), (fun v _ => v = .pointer (some ⟨b, 0, none⟩)), (fun v _ => v = .pointer (some ⟨b, 0, none⟩)), (fun v _ => v = .pointer (some ⟨b, 0, none⟩)), (fun v _ => v = .agg #[.int .u32 (a : Int), .int .i64 (n : Int)]), (fun v _ => v = .agg #[.int .u32 (c : Int), .int .i64 (k : Int)]), (fun v _ => v = .bool true), (fun v _ => v = .bool false), (fun v _ => v = .bool false)] from ⟨fun _ _ _ _ h => h, fun _ _ _ _ h => h, fun _ _ _ _ h => h, fun _ _ _ _ h => h, fun _ _ _ _ h => h, fun _ _ _ _ h => h, fun _ _ _ _ h => h, fun _ _ _ _ h => h, fun _ _ _ _ h => h, fun _ _ _ _ h => h, fun _ _ _ _ h => h, trivial⟩)
      refine wp_region_rel _ (by kernel_rfl) (by kernel_rfl) (relMono _ Hmn.out) ⟨?_, ?_, ?_, ?_, ?_, ?_, ?_, ?_, ?_, ?_, ?_, trivial⟩ ?_
      · refine relStep_plain rfl ?_
        intro Ac w5 hp
        have hb := hp.bel
        have a5 : Ac.eval (.tmp 5) = .pointer (some ⟨b, 0, none⟩) := hp.out 5 (by rfl)
        have hc := evalC Ac; have hf := evalF Ac; have hgl := evalG Ac
        obtain ⟨ρ, hρ⟩ : ∃ ρ, Ac.eval = ρ := ⟨_, rfl⟩
        rw [hρ] at a5 hc hf hgl
        exact relPure hρ (.pointer (some ⟨b, 0, none⟩)) (by simp [go_sem, hc, hf, hgl, ↓IntWalk.iteOmega, a5, *]) rfl
      · refine relStep_plain rfl ?_
        intro Ac w5 hp
        have hb := hp.bel
        have a17 : Ac.eval (.tmp 17) = .pointer (some ⟨b, 0, none⟩) := hp.dep 0 (by kernel_rfl)
        have hc := evalC Ac; have hf := evalF Ac; have hgl := evalG Ac
        obtain ⟨ρ, hρ⟩ : ∃ ρ, Ac.eval = ρ := ⟨_, rfl⟩
        rw [hρ] at a17 hc hf hgl
        exact relPure hρ (.bool false) (by simp [go_sem, hc, hf, hgl, ↓IntWalk.iteOmega, a17, *]) rfl
      · refine relStep_plain rfl ?_
        intro Ac w5 hp
        have hb := hp.bel
        have a18 : Ac.eval (.tmp 18) = .bool false := hp.dep 1 (by kernel_rfl)
        have hc := evalC Ac; have hf := evalF Ac; have hgl := evalG Ac
        obtain ⟨ρ, hρ⟩ : ∃ ρ, Ac.eval = ρ := ⟨_, rfl⟩
        rw [hρ] at a18 hc hf hgl
        exact relPure hρ (.bool false) (by simp [go_sem, hc, hf, hgl, ↓IntWalk.iteOmega, a18, *]) rfl
      · refine relStep_guard (g := 2) (b := false) (x := false) rfl (by kernel_rfl) rfl (by kernel_rfl) rfl (fun _ _ h => h) ?_
        intro Ac w5 hp
        have hb := hp.bel
        have a5 : Ac.eval (.tmp 5) = .pointer (some ⟨b, 0, none⟩) := hp.out 5 (by rfl)
        have hc := evalC Ac; have hf := evalF Ac; have hgl := evalG Ac
        obtain ⟨ρ, hρ⟩ : ∃ ρ, Ac.eval = ρ := ⟨_, rfl⟩
        rw [hρ] at a5 hc hf hgl
        exact relPure hρ (.pointer (some ⟨b, 0, none⟩)) (by simp [go_sem, hc, hf, hgl, ↓IntWalk.iteOmega, a5, *]) rfl
      · refine relStep_guard (g := 2) (b := false) (x := false) rfl (by kernel_rfl) rfl (by kernel_rfl) rfl (fun _ _ h => h) ?_
        intro Ac w5 hp
        have hb := hp.bel
        have a20 : Ac.eval (.tmp 20) = .pointer (some ⟨b, 0, none⟩) := hp.dep 3 (by kernel_rfl)
        have hc := evalC Ac; have hf := evalF Ac; have hgl := evalG Ac
        obtain ⟨ρ, hρ⟩ : ∃ ρ, Ac.eval = ρ := ⟨_, rfl⟩
        rw [hρ] at a20 hc hf hgl
        exact relPure hρ (.pointer (some ⟨b, 0, none⟩)) (by simp [go_sem, hc, hf, hgl, ↓IntWalk.iteOmega, a20, *]) rfl
      · refine relStep_guard (g := 2) (b := false) (x := false) rfl (by kernel_rfl) rfl (by kernel_rfl) rfl (fun _ _ h => h) ?_
        intro Ac w5 hp
        have hb := hp.bel
        have a21 : Ac.eval (.tmp 21) = .pointer (some ⟨b, 0, none⟩) := hp.dep 4 (by kernel_rfl)
        have hc := evalC Ac; have hf := evalF Ac; have hgl := evalG Ac
        obtain ⟨ρ, hρ⟩ : ∃ ρ, Ac.eval = ρ := ⟨_, rfl⟩
        rw [hρ] at a21 hc hf hgl
        exact relPure hρ (.pointer (some ⟨b, 0, none⟩)) (by simp [go_sem, hc, hf, hgl, ↓IntWalk.iteOmega, a21, *]) rfl
      · refine relStep_guard (g := 2) (b := false) (x := false) rfl (by kernel_rfl) rfl (by kernel_rfl) rfl (fun _ _ h => h) ?_
        intro Ac w5 hp
        have hb := hp.bel
        have a22 : Ac.eval (.tmp 22) = .pointer (some ⟨b, 0, none⟩) := hp.dep 5 (by kernel_rfl)
        have hk5 := HN.out.below hb HN.out.lt
        have hx5 := HX.out.below hb HX.out.lt
        have y0 : w5.cell? ⟨b, 0, none⟩ = some (.int .u32 (a : Int)) := hk5.cell 0
        have y1 : w5.cell? ⟨b, 1, none⟩ = some (.int .i64 (n : Int)) := hk5.cell 1
        have x0 : w5.cell? ⟨xb, 0, none⟩ = some (.int .u32 (c : Int)) := hx5.cell 0
        have x1 : w5.cell? ⟨xb, 1, none⟩ = some (.int .i64 (k : Int)) := hx5.cell 1
        have hc := evalC Ac; have hf := evalF Ac; have hgl := evalG Ac
        obtain ⟨ρ, hρ⟩ : ∃ ρ, Ac.eval = ρ := ⟨_, rfl⟩
        rw [hρ] at a22 hc hf hgl
        exact relPure hρ (.agg #[.int .u32 (a : Int), .int .i64 (n : Int)]) (by simp [go_sem, hc, hf, hgl, ↓IntWalk.iteOmega, a22, *]) rfl
      · refine relStep_guard (g := 2) (b := false) (x := false) rfl (by kernel_rfl) rfl (by kernel_rfl) rfl (fun _ _ h => h) ?_
        intro Ac w5 hp
        have hb := hp.bel
        have a3 : Ac.eval (.tmp 3) = .pointer (some ⟨xb, 0, none⟩) := hp.out 3 (by rfl)
        have hk5 := HN.out.below hb HN.out.lt
        have hx5 := HX.out.below hb HX.out.lt
        have y0 : w5.cell? ⟨b, 0, none⟩ = some (.int .u32 (a : Int)) := hk5.cell 0
        have y1 : w5.cell? ⟨b, 1, none⟩ = some (.int .i64 (n : Int)) := hk5.cell 1
        have x0 : w5.cell? ⟨xb, 0, none⟩ = some (.int .u32 (c : Int)) := hx5.cell 0
        have x1 : w5.cell? ⟨xb, 1, none⟩ = some (.int .i64 (k : Int)) := hx5.cell 1
        have hc := evalC Ac; have hf := evalF Ac; have hgl := evalG Ac
        obtain ⟨ρ, hρ⟩ : ∃ ρ, Ac.eval = ρ := ⟨_, rfl⟩
        rw [hρ] at a3 hc hf hgl
        exact relPure hρ (.agg #[.int .u32 (c : Int), .int .i64 (k : Int)]) (by simp [go_sem, hc, hf, hgl, ↓IntWalk.iteOmega, a3, *]) rfl
      · refine relStep_guard (g := 2) (b := false) (x := false) rfl (by kernel_rfl) rfl (by kernel_rfl) rfl (fun _ _ h => h) ?_
        intro Ac w5 hp
        have hb := hp.bel
        have a23 : Ac.eval (.tmp 23) = .agg #[.int .u32 (a : Int), .int .i64 (n : Int)] := hp.dep 6 (by kernel_rfl)
        have a24 : Ac.eval (.tmp 24) = .agg #[.int .u32 (c : Int), .int .i64 (k : Int)] := hp.dep 7 (by kernel_rfl)
        have hc := evalC Ac; have hf := evalF Ac; have hgl := evalG Ac
        obtain ⟨ρ, hρ⟩ : ∃ ρ, Ac.eval = ρ := ⟨_, rfl⟩
        rw [hρ] at a23 a24 hc hf hgl
        refine relCall hρ 185 #[.agg #[.int .u32 (a : Int), .int .i64 (n : Int)], .agg #[.int .u32 (c : Int), .int .i64 (k : Int)]] (by simp [go_sem, hc, hf, hgl, ↓IntWalk.iteOmega, a23, a24, *]) ?_
        refine (HCv.out w5).mono ?_
        rintro e w6 ⟨rfl, hb6⟩
        exact ⟨_, rfl, rfl, hb6⟩
      · refine relStep_guard (g := 2) (b := false) (x := false) rfl (by kernel_rfl) rfl (by kernel_rfl) rfl (fun _ _ h => h) ?_
        intro Ac w5 hp
        have hb := hp.bel
        have a25 : Ac.eval (.tmp 25) = .bool true := hp.dep 8 (by kernel_rfl)
        have hc := evalC Ac; have hf := evalF Ac; have hgl := evalG Ac
        obtain ⟨ρ, hρ⟩ : ∃ ρ, Ac.eval = ρ := ⟨_, rfl⟩
        rw [hρ] at a25 hc hf hgl
        exact relPure hρ (.bool false) (by simp [go_sem, hc, hf, hgl, ↓IntWalk.iteOmega, a25, *]) rfl
      · refine relStep_plain rfl ?_
        intro Ac w5 hp
        have hb := hp.bel
        have a19 : Ac.eval (.tmp 19) = .bool false := hp.dep 2 (by kernel_rfl)
        have a26 : Ac.eval (.tmp 26) = .bool false := hp.dep 9 (by kernel_rfl)
        have hc := evalC Ac; have hf := evalF Ac; have hgl := evalG Ac
        obtain ⟨ρ, hρ⟩ : ∃ ρ, Ac.eval = ρ := ⟨_, rfl⟩
        rw [hρ] at a19 a26 hc hf hgl
        exact relPure hρ (.bool false) (by simp [go_sem, hc, hf, hgl, ↓IntWalk.iteOmega, a19, a26, *]) rfl
      intro u w7 hb7 hall
      have e27 : u 10 = .bool false := relAll_at hall (i := 10) (by decide +kernel)
      clear hall
      simp only [List.drop_succ_cons, List.drop_zero, List.take_succ_cons, List.take_zero, putAll, Act.put, List.setIfInBounds_toArray, List.set_cons_zero, List.set_cons_succ, Nat.zero_add, Nat.reduceAdd, e27]
      have HB7 := hide (HB2.out.trans (hb7.mono HB2.out.size))
      have HB27 := hide hb7
      have HX7 := hide (HX.out.below hb7 HX.out.lt)
      have HN7 := hide (HN.out.below hb7 HN.out.lt)
      clear hb7 HX HN
      have HN := hide HN7.out
      have HX := hide HX7.out
      clear HX7 HN7
      by_cases he : a = c ∧ n = k
      · obtain ⟨rfl, rfl⟩ := he
        have HR : Hid (trPtr (trFind a n t) = .pointer (some ⟨b, 0, none⟩)) := hide (by rw [← HSf.out, trFind, if_pos HCvP.out, if_pos ⟨rfl, rfl⟩]; rfl)
        go_upto_region 6 with fail
        have Hmn := hide (show AllMono [(fun v _ => v = .pointer (some ⟨b, 0, none⟩)), (fun v _ => v = .pointer (some ⟨b, 0, none⟩)), (fun v _ => v = .pointer (some ⟨b, 0, none⟩)), (fun v _ => v = .agg #[.int .u32 (a : Int), .int .i64 (n : Int)]), (fun v _ => v = .agg #[.int .u32 (a : Int), .int .i64 (n : Int)]), (fun v _ => v = .bool false)] from ⟨fun _ _ _ _ h => h, fun _ _ _ _ h => h, fun _ _ _ _ h => h, fun _ _ _ _ h => h, fun _ _ _ _ h => h, fun _ _ _ _ h => h, trivial⟩)
        refine wp_region_rel _ (by kernel_rfl) (by kernel_rfl) (relMono _ Hmn.out) ⟨?_, ?_, ?_, ?_, ?_, ?_, trivial⟩ ?_
        · refine relStep_plain rfl ?_
          intro Ac w5 hp
          have hb := hp.bel
          have a5 : Ac.eval (.tmp 5) = .pointer (some ⟨b, 0, none⟩) := hp.out 5 (by rfl)
          have hc := evalC Ac; have hf := evalF Ac; have hgl := evalG Ac
          obtain ⟨ρ, hρ⟩ : ∃ ρ, Ac.eval = ρ := ⟨_, rfl⟩
          rw [hρ] at a5 hc hf hgl
          exact relPure hρ (.pointer (some ⟨b, 0, none⟩)) (by simp [go_sem, hc, hf, hgl, ↓IntWalk.iteOmega, a5, *]) rfl
        · refine relStep_plain rfl ?_
          intro Ac w5 hp
          have hb := hp.bel
          have a28 : Ac.eval (.tmp 28) = .pointer (some ⟨b, 0, none⟩) := hp.dep 0 (by kernel_rfl)
          have hc := evalC Ac; have hf := evalF Ac; have hgl := evalG Ac
          obtain ⟨ρ, hρ⟩ : ∃ ρ, Ac.eval = ρ := ⟨_, rfl⟩
          rw [hρ] at a28 hc hf hgl
          exact relPure hρ (.pointer (some ⟨b, 0, none⟩)) (by simp [go_sem, hc, hf, hgl, ↓IntWalk.iteOmega, a28, *]) rfl
        · refine relStep_plain rfl ?_
          intro Ac w5 hp
          have hb := hp.bel
          have a29 : Ac.eval (.tmp 29) = .pointer (some ⟨b, 0, none⟩) := hp.dep 1 (by kernel_rfl)
          have hc := evalC Ac; have hf := evalF Ac; have hgl := evalG Ac
          obtain ⟨ρ, hρ⟩ : ∃ ρ, Ac.eval = ρ := ⟨_, rfl⟩
          rw [hρ] at a29 hc hf hgl
          exact relPure hρ (.pointer (some ⟨b, 0, none⟩)) (by simp [go_sem, hc, hf, hgl, ↓IntWalk.iteOmega, a29, *]) rfl
        · refine relStep_plain rfl ?_
          intro Ac w5 hp
          have hb := hp.bel
          have a30 : Ac.eval (.tmp 30) = .pointer (some ⟨b, 0, none⟩) := hp.dep 2 (by kernel_rfl)
          have hk5 := HN.out.below hb HN.out.lt
          have hx5 := HX.out.below hb HX.out.lt
          have y0 : w5.cell? ⟨b, 0, none⟩ = some (.int .u32 (a : Int)) := hk5.cell 0
          have y1 : w5.cell? ⟨b, 1, none⟩ = some (.int .i64 (n : Int)) := hk5.cell 1
          have x0 : w5.cell? ⟨xb, 0, none⟩ = some (.int .u32 (a : Int)) := hx5.cell 0
          have x1 : w5.cell? ⟨xb, 1, none⟩ = some (.int .i64 (n : Int)) := hx5.cell 1
          have hc := evalC Ac; have hf := evalF Ac; have hgl := evalG Ac
          obtain ⟨ρ, hρ⟩ : ∃ ρ, Ac.eval = ρ := ⟨_, rfl⟩
          rw [hρ] at a30 hc hf hgl
          exact relPure hρ (.agg #[.int .u32 (a : Int), .int .i64 (n : Int)]) (by simp [go_sem, hc, hf, hgl, ↓IntWalk.iteOmega, a30, *]) rfl
        · refine relStep_plain rfl ?_
          intro Ac w5 hp
          have hb := hp.bel
          have a3 : Ac.eval (.tmp 3) = .pointer (some ⟨xb, 0, none⟩) := hp.out 3 (by rfl)
          have hk5 := HN.out.below hb HN.out.lt
          have hx5 := HX.out.below hb HX.out.lt
          have y0 : w5.cell? ⟨b, 0, none⟩ = some (.int .u32 (a : Int)) := hk5.cell 0
          have y1 : w5.cell? ⟨b, 1, none⟩ = some (.int .i64 (n : Int)) := hk5.cell 1
          have x0 : w5.cell? ⟨xb, 0, none⟩ = some (.int .u32 (a : Int)) := hx5.cell 0
          have x1 : w5.cell? ⟨xb, 1, none⟩ = some (.int .i64 (n : Int)) := hx5.cell 1
          have hc := evalC Ac; have hf := evalF Ac; have hgl := evalG Ac
          obtain ⟨ρ, hρ⟩ : ∃ ρ, Ac.eval = ρ := ⟨_, rfl⟩
          rw [hρ] at a3 hc hf hgl
          exact relPure hρ (.agg #[.int .u32 (a : Int), .int .i64 (n : Int)]) (by simp [go_sem, hc, hf, hgl, ↓IntWalk.iteOmega, a3, *]) rfl
        · refine relStep_plain rfl ?_
          intro Ac w5 hp
          have hb := hp.bel
          have a31 : Ac.eval (.tmp 31) = .agg #[.int .u32 (a : Int), .int .i64 (n : Int)] := hp.dep 3 (by kernel_rfl)
          have a32 : Ac.eval (.tmp 32) = .agg #[.int .u32 (a : Int), .int .i64 (n : Int)] := hp.dep 4 (by kernel_rfl)
          have hc := evalC Ac; have hf := evalF Ac; have hgl := evalG Ac
          obtain ⟨ρ, hρ⟩ : ∃ ρ, Ac.eval = ρ := ⟨_, rfl⟩
          rw [hρ] at a31 a32 hc hf hgl
          exact relPure hρ (.bool false) (by simp [go_sem, hc, hf, hgl, ↓IntWalk.iteOmega, a31, a32, *]) rfl
        intro u w8 hb7 hall
        have e33 : u 5 = .bool false := relAll_at hall (i := 5) (by decide +kernel)
        clear hall
        simp only [List.drop_succ_cons, List.drop_zero, List.take_succ_cons, List.take_zero, putAll, Act.put, List.setIfInBounds_toArray, List.set_cons_zero, List.set_cons_succ, Nat.zero_add, Nat.reduceAdd, e33]
        have HB8 := hide (HB7.out.trans (hb7.mono HB7.out.size))
        clear hb7
        go_wp2
        simp only [Exit.jump]
        go_ret
        exact ⟨by rw [HR.out]; rfl, HB8.out⟩
      · have HNe := hide (show (a : Int) = (c : Int) → ¬ (n : Int) = (k : Int) from fun h1 h2 => he ⟨by omega, by omega⟩)
        have HE := hide he
        clear he
        have hlt : n < k := Nat.lt_of_le_of_ne HCvP.out.1 fun e => HE.out ⟨cvN_same HCvP.out HPc.out e, e⟩
        have hk32 := HPc.out.2.1
        have HSd := hide (fun W => side_any a n c k HPc.out.1 (by omega) W)
        have HRk := hide (show trDown ⟨(.pointer (some ⟨g, 0, none⟩) :: .agg #[.int .u32 (c : Int), .int .i64 (k : Int)] :: undef :: .pointer (some ⟨xb, 0, none⟩) :: .pointer none :: .pointer (some ⟨b, 0, none⟩) :: [u 0, u 1, u 2, u 3, u 4, u 5, u 6, u 7, u 8, u 9, u 10, u 11, u 12, u 13, u 14, u 15, u 16, u 17, u 18, u 19, u 20, u 21, u 22, u 23, u 24, u 25, u 26, u 27, u 28, u 29, u 30, u 31, u 32, u 33, u 34, u 35, u 36, u 37, u 38, u 39]).toArray, []⟩ w2 = 33 - n from congrArg (33 - ·) (cellNat_of (HN0.out.cell 1)))
        have HLt := hide hlt
        clear hlt hk32 HN0
        go_upto_region 6 with fail
        have Hmn := hide (show AllMono [(fun v _ => v = .pointer (some ⟨b, 0, none⟩)), (fun v _ => v = .pointer (some ⟨b, 0, none⟩)), (fun v _ => v = .pointer (some ⟨b, 0, none⟩)), (fun v _ => v = .agg #[.int .u32 (a : Int), .int .i64 (n : Int)]), (fun v _ => v = .agg #[.int .u32 (c : Int), .int .i64 (k : Int)]), (fun v _ => v = .bool true)] from ⟨fun _ _ _ _ h => h, fun _ _ _ _ h => h, fun _ _ _ _ h => h, fun _ _ _ _ h => h, fun _ _ _ _ h => h, fun _ _ _ _ h => h, trivial⟩)
        refine wp_region_rel _ (by kernel_rfl) (by kernel_rfl) (relMono _ Hmn.out) ⟨?_, ?_, ?_, ?_, ?_, ?_, trivial⟩ ?_
        · refine relStep_plain rfl ?_
          intro Ac w5 hp
          have hb := hp.bel
          have a5 : Ac.eval (.tmp 5) = .pointer (some ⟨b, 0, none⟩) := hp.out 5 (by rfl)
          have hc := evalC Ac; have hf := evalF Ac; have hgl := evalG Ac
          obtain ⟨ρ, hρ⟩ : ∃ ρ, Ac.eval = ρ := ⟨_, rfl⟩
          rw [hρ] at a5 hc hf hgl
          exact relPure hρ (.pointer (some ⟨b, 0, none⟩)) (by simp [go_sem, hc, hf, hgl, ↓IntWalk.iteOmega, a5, *]) rfl
        · refine relStep_plain rfl ?_
          intro Ac w5 hp
          have hb := hp.bel
          have a28 : Ac.eval (.tmp 28) = .pointer (some ⟨b, 0, none⟩) := hp.dep 0 (by kernel_rfl)
          have hc := evalC Ac; have hf := evalF Ac; have hgl := evalG Ac
          obtain ⟨ρ, hρ⟩ : ∃ ρ, Ac.eval = ρ := ⟨_, rfl⟩
          rw [hρ] at a28 hc hf hgl
          exact relPure hρ (.pointer (some ⟨b, 0, none⟩)) (by simp [go_sem, hc, hf, hgl, ↓IntWalk.iteOmega, a28, *]) rfl
        · refine relStep_plain rfl ?_
          intro Ac w5 hp
          have hb := hp.bel
          have a29 : Ac.eval (.tmp 29) = .pointer (some ⟨b, 0, none⟩) := hp.dep 1 (by kernel_rfl)
          have hc := evalC Ac; have hf := evalF Ac; have hgl := evalG Ac
          obtain ⟨ρ, hρ⟩ : ∃ ρ, Ac.eval = ρ := ⟨_, rfl⟩
          rw [hρ] at a29 hc hf hgl
          exact relPure hρ (.pointer (some ⟨b, 0, none⟩)) (by simp [go_sem, hc, hf, hgl, ↓IntWalk.iteOmega, a29, *]) rfl
        · refine relStep_plain rfl ?_
          intro Ac w5 hp
          have hb := hp.bel
          have a30 : Ac.eval (.tmp 30) = .pointer (some ⟨b, 0, none⟩) := hp.dep 2 (by kernel_rfl)
          have hk5 := HN.out.below hb HN.out.lt
          have hx5 := HX.out.below hb HX.out.lt
          have y0 : w5.cell? ⟨b, 0, none⟩ = some (.int .u32 (a : Int)) := hk5.cell 0
          have y1 : w5.cell? ⟨b, 1, none⟩ = some (.int .i64 (n : Int)) := hk5.cell 1
          have x0 : w5.cell? ⟨xb, 0, none⟩ = some (.int .u32 (c : Int)) := hx5.cell 0
          have x1 : w5.cell? ⟨xb, 1, none⟩ = some (.int .i64 (k : Int)) := hx5.cell 1
          have hc := evalC Ac; have hf := evalF Ac; have hgl := evalG Ac
          obtain ⟨ρ, hρ⟩ : ∃ ρ, Ac.eval = ρ := ⟨_, rfl⟩
          rw [hρ] at a30 hc hf hgl
          exact relPure hρ (.agg #[.int .u32 (a : Int), .int .i64 (n : Int)]) (by simp [go_sem, hc, hf, hgl, ↓IntWalk.iteOmega, a30, *]) rfl
        · refine relStep_plain rfl ?_
          intro Ac w5 hp
          have hb := hp.bel
          have a3 : Ac.eval (.tmp 3) = .pointer (some ⟨xb, 0, none⟩) := hp.out 3 (by rfl)
          have hk5 := HN.out.below hb HN.out.lt
          have hx5 := HX.out.below hb HX.out.lt
          have y0 : w5.cell? ⟨b, 0, none⟩ = some (.int .u32 (a : Int)) := hk5.cell 0
          have y1 : w5.cell? ⟨b, 1, none⟩ = some (.int .i64 (n : Int)) := hk5.cell 1
          have x0 : w5.cell? ⟨xb, 0, none⟩ = some (.int .u32 (c : Int)) := hx5.cell 0
          have x1 : w5.cell? ⟨xb, 1, none⟩ = some (.int .i64 (k : Int)) := hx5.cell 1
          have hc := evalC Ac; have hf := evalF Ac; have hgl := evalG Ac
          obtain ⟨ρ, hρ⟩ : ∃ ρ, Ac.eval = ρ := ⟨_, rfl⟩
          rw [hρ] at a3 hc hf hgl
          exact relPure hρ (.agg #[.int .u32 (c : Int), .int .i64 (k : Int)]) (by simp [go_sem, hc, hf, hgl, ↓IntWalk.iteOmega, a3, *]) rfl
        · refine relStep_plain rfl ?_
          intro Ac w5 hp
          have hb := hp.bel
          have a31 : Ac.eval (.tmp 31) = .agg #[.int .u32 (a : Int), .int .i64 (n : Int)] := hp.dep 3 (by kernel_rfl)
          have a32 : Ac.eval (.tmp 32) = .agg #[.int .u32 (c : Int), .int .i64 (k : Int)] := hp.dep 4 (by kernel_rfl)
          have hc := evalC Ac; have hf := evalF Ac; have hgl := evalG Ac
          obtain ⟨ρ, hρ⟩ : ∃ ρ, Ac.eval = ρ := ⟨_, rfl⟩
          rw [hρ] at a31 a32 hc hf hgl
          exact relPure hρ (.bool true) (by simp [go_sem, hc, hf, hgl, ↓IntWalk.iteOmega, a31, a32, *]; exact HNe.out) rfl
        intro u w8 hb7 hall
        have e33 : u 5 = .bool true := relAll_at hall (i := 5) (by decide +kernel)
        clear hall
        simp only [List.drop_succ_cons, List.drop_zero, List.take_succ_cons, List.take_zero, putAll, Act.put, List.setIfInBounds_toArray, List.set_cons_zero, List.set_cons_succ, Nat.zero_add, Nat.reduceAdd, e33]
        have HN8 := hide (HN.out.below hb7 HN.out.lt)
        have HX8 := hide (HX.out.below hb7 HX.out.lt)
        have HB28 := hide (HB27.out.trans (hb7.mono HB27.out.size))
        clear hb7 HN HX HB7 HB27
        have HN := hide HN8.out
        have HX := hide HX8.out
        clear HN8 HX8
        rcases bitN_01 c n with hbit | hbit
        all_goals
          have HBit := hide hbit
          clear hbit
          go_upto_region 7 with fail
        · skip
          have Hmn := hide (show AllMono [(fun v _ => v = .pointer (some ⟨b, 0, none⟩)), (fun v _ => v = .pointer (some ⟨b, 0, none⟩)), (fun v _ => v = .pointer (some ⟨b, 0, none⟩)), (fun v _ => v = .pointer (some ⟨b, 0, none⟩)), (fun v _ => v = .agg #[.int .u32 (a : Int), .int .i64 (n : Int)]), (fun v _ => v = .agg #[.int .u32 (c : Int), .int .i64 (k : Int)]), (fun v _ => v = .int .i64 0), (fun v _ => v = .pointer (some ⟨b, 0, none⟩)), (fun v _ => v = .pointer (some ⟨b, 5, none⟩)), (fun v _ => v = .pointer (some ⟨b, 5, none⟩)), (fun v _ => v = trPtr l)] from ⟨fun _ _ _ _ h => h, fun _ _ _ _ h => h, fun _ _ _ _ h => h, fun _ _ _ _ h => h, fun _ _ _ _ h => h, fun _ _ _ _ h => h, fun _ _ _ _ h => h, fun _ _ _ _ h => h, fun _ _ _ _ h => h, fun _ _ _ _ h => h, fun _ _ _ _ h => h, trivial⟩)
          refine wp_region_relT 11 _ (by kernel_rfl) (by kernel_rfl) (by kernel_rfl) (by kernel_rfl) (by kernel_rfl) (relMono _ Hmn.out) ⟨?_, ?_, ?_, ?_, ?_, ?_, ?_, ?_, ?_, ?_, ?_, trivial⟩ ?_
          · refine relStep_plain rfl ?_
            intro Ac w5 hp
            have hb := hp.bel
            have a5 : Ac.eval (.tmp 5) = .pointer (some ⟨b, 0, none⟩) := hp.out 5 (by rfl)
            have hc := evalC Ac; have hf := evalF Ac; have hgl := evalG Ac
            obtain ⟨ρ, hρ⟩ : ∃ ρ, Ac.eval = ρ := ⟨_, rfl⟩
            rw [hρ] at a5 hc hf hgl
            exact relPure hρ (.pointer (some ⟨b, 0, none⟩)) (by simp [go_sem, hc, hf, hgl, ↓IntWalk.iteOmega, a5, *]) rfl
          · refine relStep_plain rfl ?_
            intro Ac w5 hp
            have hb := hp.bel
            have a5 : Ac.eval (.tmp 5) = .pointer (some ⟨b, 0, none⟩) := hp.out 5 (by rfl)
            have hc := evalC Ac; have hf := evalF Ac; have hgl := evalG Ac
            obtain ⟨ρ, hρ⟩ : ∃ ρ, Ac.eval = ρ := ⟨_, rfl⟩
            rw [hρ] at a5 hc hf hgl
            exact relPure hρ (.pointer (some ⟨b, 0, none⟩)) (by simp [go_sem, hc, hf, hgl, ↓IntWalk.iteOmega, a5, *]) rfl
          · refine relStep_plain rfl ?_
            intro Ac w5 hp
            have hb := hp.bel
            have a35 : Ac.eval (.tmp 35) = .pointer (some ⟨b, 0, none⟩) := hp.dep 1 (by kernel_rfl)
            have hc := evalC Ac; have hf := evalF Ac; have hgl := evalG Ac
            obtain ⟨ρ, hρ⟩ : ∃ ρ, Ac.eval = ρ := ⟨_, rfl⟩
            rw [hρ] at a35 hc hf hgl
            exact relPure hρ (.pointer (some ⟨b, 0, none⟩)) (by simp [go_sem, hc, hf, hgl, ↓IntWalk.iteOmega, a35, *]) rfl
          · refine relStep_plain rfl ?_
            intro Ac w5 hp
            have hb := hp.bel
            have a36 : Ac.eval (.tmp 36) = .pointer (some ⟨b, 0, none⟩) := hp.dep 2 (by kernel_rfl)
            have hc := evalC Ac; have hf := evalF Ac; have hgl := evalG Ac
            obtain ⟨ρ, hρ⟩ : ∃ ρ, Ac.eval = ρ := ⟨_, rfl⟩
            rw [hρ] at a36 hc hf hgl
            exact relPure hρ (.pointer (some ⟨b, 0, none⟩)) (by simp [go_sem, hc, hf, hgl, ↓IntWalk.iteOmega, a36, *]) rfl
          · refine relStep_plain rfl ?_
            intro Ac w5 hp
            have hb := hp.bel
            have a37 : Ac.eval (.tmp 37) = .pointer (some ⟨b, 0, none⟩) := hp.dep 3 (by kernel_rfl)
            have hk5 := HN.out.below hb HN.out.lt
            have hx5 := HX.out.below hb HX.out.lt
            have y0 : w5.cell? ⟨b, 0, none⟩ = some (.int .u32 (a : Int)) := hk5.cell 0
            have y1 : w5.cell? ⟨b, 1, none⟩ = some (.int .i64 (n : Int)) := hk5.cell 1
            have y5 : w5.cell? ⟨b, 5, none⟩ = some (trPtr l) := hk5.cell 5
            have y6 : w5.cell? ⟨b, 6, none⟩ = some (trPtr r) := hk5.cell 6
            have x0 : w5.cell? ⟨xb, 0, none⟩ = some (.int .u32 (c : Int)) := hx5.cell 0
            have x1 : w5.cell? ⟨xb, 1, none⟩ = some (.int .i64 (k : Int)) := hx5.cell 1
            have hc := evalC Ac; have hf := evalF Ac; have hgl := evalG Ac
            obtain ⟨ρ, hρ⟩ : ∃ ρ, Ac.eval = ρ := ⟨_, rfl⟩
            rw [hρ] at a37 hc hf hgl
            exact relPure hρ (.agg #[.int .u32 (a : Int), .int .i64 (n : Int)]) (by simp [go_sem, hc, hf, hgl, ↓IntWalk.iteOmega, a37, *]) rfl
          · refine relStep_plain rfl ?_
            intro Ac w5 hp
            have hb := hp.bel
            have a3 : Ac.eval (.tmp 3) = .pointer (some ⟨xb, 0, none⟩) := hp.out 3 (by rfl)
            have hk5 := HN.out.below hb HN.out.lt
            have hx5 := HX.out.below hb HX.out.lt
            have y0 : w5.cell? ⟨b, 0, none⟩ = some (.int .u32 (a : Int)) := hk5.cell 0
            have y1 : w5.cell? ⟨b, 1, none⟩ = some (.int .i64 (n : Int)) := hk5.cell 1
            have y5 : w5.cell? ⟨b, 5, none⟩ = some (trPtr l) := hk5.cell 5
            have y6 : w5.cell? ⟨b, 6, none⟩ = some (trPtr r) := hk5.cell 6
            have x0 : w5.cell? ⟨xb, 0, none⟩ = some (.int .u32 (c : Int)) := hx5.cell 0
            have x1 : w5.cell? ⟨xb, 1, none⟩ = some (.int .i64 (k : Int)) := hx5.cell 1
            have hc := evalC Ac; have hf := evalF Ac; have hgl := evalG Ac
            obtain ⟨ρ, hρ⟩ : ∃ ρ, Ac.eval = ρ := ⟨_, rfl⟩
            rw [hρ] at a3 hc hf hgl
            exact relPure hρ (.agg #[.int .u32 (c : Int), .int .i64 (k : Int)]) (by simp [go_sem, hc, hf, hgl, ↓IntWalk.iteOmega, a3, *]) rfl
          · refine relStep_plain rfl ?_
            intro Ac w5 hp
            have hb := hp.bel
            have a38 : Ac.eval (.tmp 38) = .agg #[.int .u32 (a : Int), .int .i64 (n : Int)] := hp.dep 4 (by kernel_rfl)
            have a39 : Ac.eval (.tmp 39) = .agg #[.int .u32 (c : Int), .int .i64 (k : Int)] := hp.dep 5 (by kernel_rfl)
            have hc := evalC Ac; have hf := evalF Ac; have hgl := evalG Ac
            obtain ⟨ρ, hρ⟩ : ∃ ρ, Ac.eval = ρ := ⟨_, rfl⟩
            rw [hρ] at a38 a39 hc hf hgl
            refine relCall hρ 186 #[.agg #[.int .u32 (a : Int), .int .i64 (n : Int)], .agg #[.int .u32 (c : Int), .int .i64 (k : Int)]] (by simp [go_sem, hc, hf, hgl, ↓IntWalk.iteOmega, a38, a39, *]) ?_
            refine (HSd.out w5).mono ?_
            rintro e w6 ⟨rfl, hb6⟩
            exact ⟨_, rfl, by rw [HBit.out]; rfl, hb6⟩
          · refine relStep_plain rfl ?_
            intro Ac w5 hp
            have hb := hp.bel
            have a34 : Ac.eval (.tmp 34) = .pointer (some ⟨b, 0, none⟩) := hp.dep 0 (by kernel_rfl)
            have hc := evalC Ac; have hf := evalF Ac; have hgl := evalG Ac
            obtain ⟨ρ, hρ⟩ : ∃ ρ, Ac.eval = ρ := ⟨_, rfl⟩
            rw [hρ] at a34 hc hf hgl
            exact relPure hρ (.pointer (some ⟨b, 0, none⟩)) (by simp [go_sem, hc, hf, hgl, ↓IntWalk.iteOmega, a34, *]) rfl
          · refine relStep_plain rfl ?_
            intro Ac w5 hp
            have hb := hp.bel
            have a41 : Ac.eval (.tmp 41) = .pointer (some ⟨b, 0, none⟩) := hp.dep 7 (by kernel_rfl)
            have hc := evalC Ac; have hf := evalF Ac; have hgl := evalG Ac
            obtain ⟨ρ, hρ⟩ : ∃ ρ, Ac.eval = ρ := ⟨_, rfl⟩
            rw [hρ] at a41 hc hf hgl
            exact relPure hρ (.pointer (some ⟨b, 5, none⟩)) (by simp [go_sem, hc, hf, hgl, ↓IntWalk.iteOmega, a41, *]) rfl
          · refine relStep_plain rfl ?_
            intro Ac w5 hp
            have hb := hp.bel
            have a42 : Ac.eval (.tmp 42) = .pointer (some ⟨b, 5, none⟩) := hp.dep 8 (by kernel_rfl)
            have a40 : Ac.eval (.tmp 40) = .int .i64 0 := hp.dep 6 (by kernel_rfl)
            have hc := evalC Ac; have hf := evalF Ac; have hgl := evalG Ac
            obtain ⟨ρ, hρ⟩ : ∃ ρ, Ac.eval = ρ := ⟨_, rfl⟩
            rw [hρ] at a42 a40 hc hf hgl
            exact relPure hρ (.pointer (some ⟨b, 5, none⟩)) (by simp [go_sem, hc, hf, hgl, ↓IntWalk.iteOmega, a42, a40, *]) rfl
          · refine relStep_plain rfl ?_
            intro Ac w5 hp
            have hb := hp.bel
            have a43 : Ac.eval (.tmp 43) = .pointer (some ⟨b, 5, none⟩) := hp.dep 9 (by kernel_rfl)
            have hk5 := HN.out.below hb HN.out.lt
            have hx5 := HX.out.below hb HX.out.lt
            have y0 : w5.cell? ⟨b, 0, none⟩ = some (.int .u32 (a : Int)) := hk5.cell 0
            have y1 : w5.cell? ⟨b, 1, none⟩ = some (.int .i64 (n : Int)) := hk5.cell 1
            have y5 : w5.cell? ⟨b, 5, none⟩ = some (trPtr l) := hk5.cell 5
            have y6 : w5.cell? ⟨b, 6, none⟩ = some (trPtr r) := hk5.cell 6
            have x0 : w5.cell? ⟨xb, 0, none⟩ = some (.int .u32 (c : Int)) := hx5.cell 0
            have x1 : w5.cell? ⟨xb, 1, none⟩ = some (.int .i64 (k : Int)) := hx5.cell 1
            have hc := evalC Ac; have hf := evalF Ac; have hgl := evalG Ac
            obtain ⟨ρ, hρ⟩ : ∃ ρ, Ac.eval = ρ := ⟨_, rfl⟩
            rw [hρ] at a43 hc hf hgl
            exact relPure hρ (trPtr l) (by simp [go_sem, hc, hf, hgl, ↓IntWalk.iteOmega, a43, *]) rfl
          intro u w9 hb7 hall
          have e44 : u 10 = trPtr l := relAll_at hall (i := 10) (by decide +kernel)
          clear hall
          simp only [List.drop_succ_cons, List.drop_zero, List.take_succ_cons, List.take_zero, putAll, Act.put, List.setIfInBounds_toArray, List.set_cons_zero, List.set_cons_succ, Nat.zero_add, Nat.reduceAdd, e44]
          have HB9 := hide (HB28.out.trans (hb7.mono HB28.out.size))
          have HX9 := hide (HX.out.below hb7 HX.out.lt)
          clear hb7 HN HX
          go_wp2
          go_step3
          refine ⟨rfl, ⟨l, xb, _, rfl, rfl, HL.out.chg (S := fun _ => False) (chg_below HB9.out) (by simp) (by simp), HWl.out, ?_, HX9.out, HB2.out.trans (HB9.out.mono HB2.out.size)⟩, ?_⟩
          · rw [← HSf.out, trFind, if_pos HCvP.out, if_neg HE.out, if_pos HBit.out]
          · have h1 := trRank_in HIl.out HGa.out.2.1
            refine Nat.lt_of_le_of_lt (Nat.le_of_eq (trDownE (HL.out.chg (S := fun _ => False) (chg_below HB9.out) (by simp) (by simp)) ?_)) (Nat.lt_of_lt_of_eq h1 HRk.out.symm)
            rfl
        · skip
          have Hmn := hide (show AllMono [(fun v _ => v = .pointer (some ⟨b, 0, none⟩)), (fun v _ => v = .pointer (some ⟨b, 0, none⟩)), (fun v _ => v = .pointer (some ⟨b, 0, none⟩)), (fun v _ => v = .pointer (some ⟨b, 0, none⟩)), (fun v _ => v = .agg #[.int .u32 (a : Int), .int .i64 (n : Int)]), (fun v _ => v = .agg #[.int .u32 (c : Int), .int .i64 (k : Int)]), (fun v _ => v = .int .i64 1), (fun v _ => v = .pointer (some ⟨b, 0, none⟩)), (fun v _ => v = .pointer (some ⟨b, 5, none⟩)), (fun v _ => v = .pointer (some ⟨b, 6, none⟩)), (fun v _ => v = trPtr r)] from ⟨fun _ _ _ _ h => h, fun _ _ _ _ h => h, fun _ _ _ _ h => h, fun _ _ _ _ h => h, fun _ _ _ _ h => h, fun _ _ _ _ h => h, fun _ _ _ _ h => h, fun _ _ _ _ h => h, fun _ _ _ _ h => h, fun _ _ _ _ h => h, fun _ _ _ _ h => h, trivial⟩)
          refine wp_region_relT 11 _ (by kernel_rfl) (by kernel_rfl) (by kernel_rfl) (by kernel_rfl) (by kernel_rfl) (relMono _ Hmn.out) ⟨?_, ?_, ?_, ?_, ?_, ?_, ?_, ?_, ?_, ?_, ?_, trivial⟩ ?_
          · refine relStep_plain rfl ?_
            intro Ac w5 hp
            have hb := hp.bel
            have a5 : Ac.eval (.tmp 5) = .pointer (some ⟨b, 0, none⟩) := hp.out 5 (by rfl)
            have hc := evalC Ac; have hf := evalF Ac; have hgl := evalG Ac
            obtain ⟨ρ, hρ⟩ : ∃ ρ, Ac.eval = ρ := ⟨_, rfl⟩
            rw [hρ] at a5 hc hf hgl
            exact relPure hρ (.pointer (some ⟨b, 0, none⟩)) (by simp [go_sem, hc, hf, hgl, ↓IntWalk.iteOmega, a5, *]) rfl
          · refine relStep_plain rfl ?_
            intro Ac w5 hp
            have hb := hp.bel
            have a5 : Ac.eval (.tmp 5) = .pointer (some ⟨b, 0, none⟩) := hp.out 5 (by rfl)
            have hc := evalC Ac; have hf := evalF Ac; have hgl := evalG Ac
            obtain ⟨ρ, hρ⟩ : ∃ ρ, Ac.eval = ρ := ⟨_, rfl⟩
            rw [hρ] at a5 hc hf hgl
            exact relPure hρ (.pointer (some ⟨b, 0, none⟩)) (by simp [go_sem, hc, hf, hgl, ↓IntWalk.iteOmega, a5, *]) rfl
          · refine relStep_plain rfl ?_
            intro Ac w5 hp
            have hb := hp.bel
            have a35 : Ac.eval (.tmp 35) = .pointer (some ⟨b, 0, none⟩) := hp.dep 1 (by kernel_rfl)
            have hc := evalC Ac; have hf := evalF Ac; have hgl := evalG Ac
            obtain ⟨ρ, hρ⟩ : ∃ ρ, Ac.eval = ρ := ⟨_, rfl⟩
            rw [hρ] at a35 hc hf hgl
            exact relPure hρ (.pointer (some ⟨b, 0, none⟩)) (by simp [go_sem, hc, hf, hgl, ↓IntWalk.iteOmega, a35, *]) rfl
          · refine relStep_plain rfl ?_
            intro Ac w5 hp
            have hb := hp.bel
            have a36 : Ac.eval (.tmp 36) = .pointer (some ⟨b, 0, none⟩) := hp.dep 2 (by kernel_rfl)
            have hc := evalC Ac; have hf := evalF Ac; have hgl := evalG Ac
            obtain ⟨ρ, hρ⟩ : ∃ ρ, Ac.eval = ρ := ⟨_, rfl⟩
            rw [hρ] at a36 hc hf hgl
            exact relPure hρ (.pointer (some ⟨b, 0, none⟩)) (by simp [go_sem, hc, hf, hgl, ↓IntWalk.iteOmega, a36, *]) rfl
          · refine relStep_plain rfl ?_
            intro Ac w5 hp
            have hb := hp.bel
            have a37 : Ac.eval (.tmp 37) = .pointer (some ⟨b, 0, none⟩) := hp.dep 3 (by kernel_rfl)
            have hk5 := HN.out.below hb HN.out.lt
            have hx5 := HX.out.below hb HX.out.lt
            have y0 : w5.cell? ⟨b, 0, none⟩ = some (.int .u32 (a : Int)) := hk5.cell 0
            have y1 : w5.cell? ⟨b, 1, none⟩ = some (.int .i64 (n : Int)) := hk5.cell 1
            have y5 : w5.cell? ⟨b, 5, none⟩ = some (trPtr l) := hk5.cell 5
            have y6 : w5.cell? ⟨b, 6, none⟩ = some (trPtr r) := hk5.cell 6
            have x0 : w5.cell? ⟨xb, 0, none⟩ = some (.int .u32 (c : Int)) := hx5.cell 0
            have x1 : w5.cell? ⟨xb, 1, none⟩ = some (.int .i64 (k : Int)) := hx5.cell 1
            have hc := evalC Ac; have hf := evalF Ac; have hgl := evalG Ac
            obtain ⟨ρ, hρ⟩ : ∃ ρ, Ac.eval = ρ := ⟨_, rfl⟩
            rw [hρ] at a37 hc hf hgl
            exact relPure hρ (.agg #[.int .u32 (a : Int), .int .i64 (n : Int)]) (by simp [go_sem, hc, hf, hgl, ↓IntWalk.iteOmega, a37, *]) rfl
          · refine relStep_plain rfl ?_
            intro Ac w5 hp
            have hb := hp.bel
            have a3 : Ac.eval (.tmp 3) = .pointer (some ⟨xb, 0, none⟩) := hp.out 3 (by rfl)
            have hk5 := HN.out.below hb HN.out.lt
            have hx5 := HX.out.below hb HX.out.lt
            have y0 : w5.cell? ⟨b, 0, none⟩ = some (.int .u32 (a : Int)) := hk5.cell 0
            have y1 : w5.cell? ⟨b, 1, none⟩ = some (.int .i64 (n : Int)) := hk5.cell 1
            have y5 : w5.cell? ⟨b, 5, none⟩ = some (trPtr l) := hk5.cell 5
            have y6 : w5.cell? ⟨b, 6, none⟩ = some (trPtr r) := hk5.cell 6
            have x0 : w5.cell? ⟨xb, 0, none⟩ = some (.int .u32 (c : Int)) := hx5.cell 0
            have x1 : w5.cell? ⟨xb, 1, none⟩ = some (.int .i64 (k : Int)) := hx5.cell 1
            have hc := evalC Ac; have hf := evalF Ac; have hgl := evalG Ac
            obtain ⟨ρ, hρ⟩ : ∃ ρ, Ac.eval = ρ := ⟨_, rfl⟩
            rw [hρ] at a3 hc hf hgl
            exact relPure hρ (.agg #[.int .u32 (c : Int), .int .i64 (k : Int)]) (by simp [go_sem, hc, hf, hgl, ↓IntWalk.iteOmega, a3, *]) rfl
          · refine relStep_plain rfl ?_
            intro Ac w5 hp
            have hb := hp.bel
            have a38 : Ac.eval (.tmp 38) = .agg #[.int .u32 (a : Int), .int .i64 (n : Int)] := hp.dep 4 (by kernel_rfl)
            have a39 : Ac.eval (.tmp 39) = .agg #[.int .u32 (c : Int), .int .i64 (k : Int)] := hp.dep 5 (by kernel_rfl)
            have hc := evalC Ac; have hf := evalF Ac; have hgl := evalG Ac
            obtain ⟨ρ, hρ⟩ : ∃ ρ, Ac.eval = ρ := ⟨_, rfl⟩
            rw [hρ] at a38 a39 hc hf hgl
            refine relCall hρ 186 #[.agg #[.int .u32 (a : Int), .int .i64 (n : Int)], .agg #[.int .u32 (c : Int), .int .i64 (k : Int)]] (by simp [go_sem, hc, hf, hgl, ↓IntWalk.iteOmega, a38, a39, *]) ?_
            refine (HSd.out w5).mono ?_
            rintro e w6 ⟨rfl, hb6⟩
            exact ⟨_, rfl, by rw [HBit.out]; rfl, hb6⟩
          · refine relStep_plain rfl ?_
            intro Ac w5 hp
            have hb := hp.bel
            have a34 : Ac.eval (.tmp 34) = .pointer (some ⟨b, 0, none⟩) := hp.dep 0 (by kernel_rfl)
            have hc := evalC Ac; have hf := evalF Ac; have hgl := evalG Ac
            obtain ⟨ρ, hρ⟩ : ∃ ρ, Ac.eval = ρ := ⟨_, rfl⟩
            rw [hρ] at a34 hc hf hgl
            exact relPure hρ (.pointer (some ⟨b, 0, none⟩)) (by simp [go_sem, hc, hf, hgl, ↓IntWalk.iteOmega, a34, *]) rfl
          · refine relStep_plain rfl ?_
            intro Ac w5 hp
            have hb := hp.bel
            have a41 : Ac.eval (.tmp 41) = .pointer (some ⟨b, 0, none⟩) := hp.dep 7 (by kernel_rfl)
            have hc := evalC Ac; have hf := evalF Ac; have hgl := evalG Ac
            obtain ⟨ρ, hρ⟩ : ∃ ρ, Ac.eval = ρ := ⟨_, rfl⟩
            rw [hρ] at a41 hc hf hgl
            exact relPure hρ (.pointer (some ⟨b, 5, none⟩)) (by simp [go_sem, hc, hf, hgl, ↓IntWalk.iteOmega, a41, *]) rfl
          · refine relStep_plain rfl ?_
            intro Ac w5 hp
            have hb := hp.bel
            have a42 : Ac.eval (.tmp 42) = .pointer (some ⟨b, 5, none⟩) := hp.dep 8 (by kernel_rfl)
            have a40 : Ac.eval (.tmp 40) = .int .i64 1 := hp.dep 6 (by kernel_rfl)
            have hc := evalC Ac; have hf := evalF Ac; have hgl := evalG Ac
            obtain ⟨ρ, hρ⟩ : ∃ ρ, Ac.eval = ρ := ⟨_, rfl⟩
            rw [hρ] at a42 a40 hc hf hgl
            exact relPure hρ (.pointer (some ⟨b, 6, none⟩)) (by simp [go_sem, hc, hf, hgl, ↓IntWalk.iteOmega, a42, a40, *]) rfl
          · refine relStep_plain rfl ?_
            intro Ac w5 hp
            have hb := hp.bel
            have a43 : Ac.eval (.tmp 43) = .pointer (some ⟨b, 6, none⟩) := hp.dep 9 (by kernel_rfl)
            have hk5 := HN.out.below hb HN.out.lt
            have hx5 := HX.out.below hb HX.out.lt
            have y0 : w5.cell? ⟨b, 0, none⟩ = some (.int .u32 (a : Int)) := hk5.cell 0
            have y1 : w5.cell? ⟨b, 1, none⟩ = some (.int .i64 (n : Int)) := hk5.cell 1
            have y5 : w5.cell? ⟨b, 5, none⟩ = some (trPtr l) := hk5.cell 5
            have y6 : w5.cell? ⟨b, 6, none⟩ = some (trPtr r) := hk5.cell 6
            have x0 : w5.cell? ⟨xb, 0, none⟩ = some (.int .u32 (c : Int)) := hx5.cell 0
            have x1 : w5.cell? ⟨xb, 1, none⟩ = some (.int .i64 (k : Int)) := hx5.cell 1
            have hc := evalC Ac; have hf := evalF Ac; have hgl := evalG Ac
            obtain ⟨ρ, hρ⟩ : ∃ ρ, Ac.eval = ρ := ⟨_, rfl⟩
            rw [hρ] at a43 hc hf hgl
            exact relPure hρ (trPtr r) (by simp [go_sem, hc, hf, hgl, ↓IntWalk.iteOmega, a43, *]) rfl
          intro u w9 hb7 hall
          have e44 : u 10 = trPtr r := relAll_at hall (i := 10) (by decide +kernel)
          clear hall
          simp only [List.drop_succ_cons, List.drop_zero, List.take_succ_cons, List.take_zero, putAll, Act.put, List.setIfInBounds_toArray, List.set_cons_zero, List.set_cons_succ, Nat.zero_add, Nat.reduceAdd, e44]
          have HB9 := hide (HB28.out.trans (hb7.mono HB28.out.size))
          have HX9 := hide (HX.out.below hb7 HX.out.lt)
          clear hb7 HN HX
          go_wp2
          go_step3
          refine ⟨rfl, ⟨r, xb, _, rfl, rfl, HRr.out.chg (S := fun _ => False) (chg_below HB9.out) (by simp) (by simp), HWr.out, ?_, HX9.out, HB2.out.trans (HB9.out.mono HB2.out.size)⟩, ?_⟩
          · rw [← HSf.out, trFind, if_pos HCvP.out, if_neg HE.out, if_neg (by have := HBit.out; omega)]
          · have h1 := trRank_in HIr.out HGa.out.2.1
            refine Nat.lt_of_le_of_lt (Nat.le_of_eq (trDownE (HRr.out.chg (S := fun _ => False) (chg_below HB9.out) (by simp) (by simp)) ?_)) (Nat.lt_of_lt_of_eq h1 HRk.out.symm)
            rfl
    · rw [decide_eq_false hcv] at HCv
      have HR : Hid (trPtr (trFind c k t) = .pointer none) := hide (by rw [← HSf.out, trFind, if_neg hcv]; rfl)
      clear hcv
      go_upto_region 4 with fail
      have Hmn := hide (show AllMono [(fun v _ => v = .pointer (some ⟨b, 0, none⟩)), (fun v _ => v = .bool false), (fun v _ => v = .bool false), (fun v _ => v = .pointer (some ⟨b, 0, none⟩)), (fun v _ => v = .pointer (some ⟨b, 0, none⟩)), (fun v _ => v = .pointer (some ⟨b, 0, none⟩)), (fun v _ => v = .agg #[.int .u32 (a : Int), .int .i64 (n : Int)]), (fun v _ => v = .agg #[.int .u32 (c : Int), .int .i64 (k : Int)]), (fun v _ => v = .bool false), (fun v _ => v = .bool true), (fun v _ => v = .bool true)] from ⟨fun _ _ _ _ h => h, fun _ _ _ _ h => h, fun _ _ _ _ h => h, fun _ _ _ _ h => h, fun _ _ _ _ h => h, fun _ _ _ _ h => h, fun _ _ _ _ h => h, fun _ _ _ _ h => h, fun _ _ _ _ h => h, fun _ _ _ _ h => h, fun _ _ _ _ h => h, trivial⟩)
      refine wp_region_rel _ (by kernel_rfl) (by kernel_rfl) (relMono _ Hmn.out) ⟨?_, ?_, ?_, ?_, ?_, ?_, ?_, ?_, ?_, ?_, ?_, trivial⟩ ?_
      · refine relStep_plain rfl ?_
        intro Ac w5 hp
        have hb := hp.bel
        have a5 : Ac.eval (.tmp 5) = .pointer (some ⟨b, 0, none⟩) := hp.out 5 (by rfl)
        have hc := evalC Ac; have hf := evalF Ac; have hgl := evalG Ac
        obtain ⟨ρ, hρ⟩ : ∃ ρ, Ac.eval = ρ := ⟨_, rfl⟩
        rw [hρ] at a5 hc hf hgl
        exact relPure hρ (.pointer (some ⟨b, 0, none⟩)) (by simp [go_sem, hc, hf, hgl, ↓IntWalk.iteOmega, a5, *]) rfl
      · refine relStep_plain rfl ?_
        intro Ac w5 hp
        have hb := hp.bel
        have a17 : Ac.eval (.tmp 17) = .pointer (some ⟨b, 0, none⟩) := hp.dep 0 (by kernel_rfl)
        have hc := evalC Ac; have hf := evalF Ac; have hgl := evalG Ac
        obtain ⟨ρ, hρ⟩ : ∃ ρ, Ac.eval = ρ := ⟨_, rfl⟩
        rw [hρ] at a17 hc hf hgl
        exact relPure hρ (.bool false) (by simp [go_sem, hc, hf, hgl, ↓IntWalk.iteOmega, a17, *]) rfl
      · refine relStep_plain rfl ?_
        intro Ac w5 hp
        have hb := hp.bel
        have a18 : Ac.eval (.tmp 18) = .bool false := hp.dep 1 (by kernel_rfl)
        have hc := evalC Ac; have hf := evalF Ac; have hgl := evalG Ac
        obtain ⟨ρ, hρ⟩ : ∃ ρ, Ac.eval = ρ := ⟨_, rfl⟩
        rw [hρ] at a18 hc hf hgl
        exact relPure hρ (.bool false) (by simp [go_sem, hc, hf, hgl, ↓IntWalk.iteOmega, a18, *]) rfl
      · refine relStep_guard (g := 2) (b := false) (x := false) rfl (by kernel_rfl) rfl (by kernel_rfl) rfl (fun _ _ h => h) ?_
        intro Ac w5 hp
        have hb := hp.bel
        have a5 : Ac.eval (.tmp 5) = .pointer (some ⟨b, 0, none⟩) := hp.out 5 (by rfl)
        have hc := evalC Ac; have hf := evalF Ac; have hgl := evalG Ac
        obtain ⟨ρ, hρ⟩ : ∃ ρ, Ac.eval = ρ := ⟨_, rfl⟩
        rw [hρ] at a5 hc hf hgl
        exact relPure hρ (.pointer (some ⟨b, 0, none⟩)) (by simp [go_sem, hc, hf, hgl, ↓IntWalk.iteOmega, a5, *]) rfl
      · refine relStep_guard (g := 2) (b := false) (x := false) rfl (by kernel_rfl) rfl (by kernel_rfl) rfl (fun _ _ h => h) ?_
        intro Ac w5 hp
        have hb := hp.bel
        have a20 : Ac.eval (.tmp 20) = .pointer (some ⟨b, 0, none⟩) := hp.dep 3 (by kernel_rfl)
        have hc := evalC Ac; have hf := evalF Ac; have hgl := evalG Ac
        obtain ⟨ρ, hρ⟩ : ∃ ρ, Ac.eval = ρ := ⟨_, rfl⟩
        rw [hρ] at a20 hc hf hgl
        exact relPure hρ (.pointer (some ⟨b, 0, none⟩)) (by simp [go_sem, hc, hf, hgl, ↓IntWalk.iteOmega, a20, *]) rfl
      · refine relStep_guard (g := 2) (b := false) (x := false) rfl (by kernel_rfl) rfl (by kernel_rfl) rfl (fun _ _ h => h) ?_
        intro Ac w5 hp
        have hb := hp.bel
        have a21 : Ac.eval (.tmp 21) = .pointer (some ⟨b, 0, none⟩) := hp.dep 4 (by kernel_rfl)
        have hc := evalC Ac; have hf := evalF Ac; have hgl := evalG Ac
        obtain ⟨ρ, hρ⟩ : ∃ ρ, Ac.eval = ρ := ⟨_, rfl⟩
        rw [hρ] at a21 hc hf hgl
        exact relPure hρ (.pointer (some ⟨b, 0, none⟩)) (by simp [go_sem, hc, hf, hgl, ↓IntWalk.iteOmega, a21, *]) rfl
      · refine relStep_guard (g := 2) (b := false) (x := false) rfl (by kernel_rfl) rfl (by kernel_rfl) rfl (fun _ _ h => h) ?_
        intro Ac w5 hp
        have hb := hp.bel
        have a22 : Ac.eval (.tmp 22) = .pointer (some ⟨b, 0, none⟩) := hp.dep 5 (by kernel_rfl)
        have hk5 := HN.out.below hb HN.out.lt
        have hx5 := HX.out.below hb HX.out.lt
        have y0 : w5.cell? ⟨b, 0, none⟩ = some (.int .u32 (a : Int)) := hk5.cell 0
        have y1 : w5.cell? ⟨b, 1, none⟩ = some (.int .i64 (n : Int)) := hk5.cell 1
        have x0 : w5.cell? ⟨xb, 0, none⟩ = some (.int .u32 (c : Int)) := hx5.cell 0
        have x1 : w5.cell? ⟨xb, 1, none⟩ = some (.int .i64 (k : Int)) := hx5.cell 1
        have hc := evalC Ac; have hf := evalF Ac; have hgl := evalG Ac
        obtain ⟨ρ, hρ⟩ : ∃ ρ, Ac.eval = ρ := ⟨_, rfl⟩
        rw [hρ] at a22 hc hf hgl
        exact relPure hρ (.agg #[.int .u32 (a : Int), .int .i64 (n : Int)]) (by simp [go_sem, hc, hf, hgl, ↓IntWalk.iteOmega, a22, *]) rfl
      · refine relStep_guard (g := 2) (b := false) (x := false) rfl (by kernel_rfl) rfl (by kernel_rfl) rfl (fun _ _ h => h) ?_
        intro Ac w5 hp
        have hb := hp.bel
        have a3 : Ac.eval (.tmp 3) = .pointer (some ⟨xb, 0, none⟩) := hp.out 3 (by rfl)
        have hk5 := HN.out.below hb HN.out.lt
        have hx5 := HX.out.below hb HX.out.lt
        have y0 : w5.cell? ⟨b, 0, none⟩ = some (.int .u32 (a : Int)) := hk5.cell 0
        have y1 : w5.cell? ⟨b, 1, none⟩ = some (.int .i64 (n : Int)) := hk5.cell 1
        have x0 : w5.cell? ⟨xb, 0, none⟩ = some (.int .u32 (c : Int)) := hx5.cell 0
        have x1 : w5.cell? ⟨xb, 1, none⟩ = some (.int .i64 (k : Int)) := hx5.cell 1
        have hc := evalC Ac; have hf := evalF Ac; have hgl := evalG Ac
        obtain ⟨ρ, hρ⟩ : ∃ ρ, Ac.eval = ρ := ⟨_, rfl⟩
        rw [hρ] at a3 hc hf hgl
        exact relPure hρ (.agg #[.int .u32 (c : Int), .int .i64 (k : Int)]) (by simp [go_sem, hc, hf, hgl, ↓IntWalk.iteOmega, a3, *]) rfl
      · refine relStep_guard (g := 2) (b := false) (x := false) rfl (by kernel_rfl) rfl (by kernel_rfl) rfl (fun _ _ h => h) ?_
        intro Ac w5 hp
        have hb := hp.bel
        have a23 : Ac.eval (.tmp 23) = .agg #[.int .u32 (a : Int), .int .i64 (n : Int)] := hp.dep 6 (by kernel_rfl)
        have a24 : Ac.eval (.tmp 24) = .agg #[.int .u32 (c : Int), .int .i64 (k : Int)] := hp.dep 7 (by kernel_rfl)
        have hc := evalC Ac; have hf := evalF Ac; have hgl := evalG Ac
        obtain ⟨ρ, hρ⟩ : ∃ ρ, Ac.eval = ρ := ⟨_, rfl⟩
        rw [hρ] at a23 a24 hc hf hgl
        refine relCall hρ 185 #[.agg #[.int .u32 (a : Int), .int .i64 (n : Int)], .agg #[.int .u32 (c : Int), .int .i64 (k : Int)]] (by simp [go_sem, hc, hf, hgl, ↓IntWalk.iteOmega, a23, a24, *]) ?_
        refine (HCv.out w5).mono ?_
        rintro e w6 ⟨rfl, hb6⟩
        exact ⟨_, rfl, rfl, hb6⟩
      · refine relStep_guard (g := 2) (b := false) (x := false) rfl (by kernel_rfl) rfl (by kernel_rfl) rfl (fun _ _ h => h) ?_
        intro Ac w5 hp
        have hb := hp.bel
        have a25 : Ac.eval (.tmp 25) = .bool false := hp.dep 8 (by kernel_rfl)
        have hc := evalC Ac; have hf := evalF Ac; have hgl := evalG Ac
        obtain ⟨ρ, hρ⟩ : ∃ ρ, Ac.eval = ρ := ⟨_, rfl⟩
        rw [hρ] at a25 hc hf hgl
        exact relPure hρ (.bool true) (by simp [go_sem, hc, hf, hgl, ↓IntWalk.iteOmega, a25, *]) rfl
      · refine relStep_plain rfl ?_
        intro Ac w5 hp
        have hb := hp.bel
        have a19 : Ac.eval (.tmp 19) = .bool false := hp.dep 2 (by kernel_rfl)
        have a26 : Ac.eval (.tmp 26) = .bool true := hp.dep 9 (by kernel_rfl)
        have hc := evalC Ac; have hf := evalF Ac; have hgl := evalG Ac
        obtain ⟨ρ, hρ⟩ : ∃ ρ, Ac.eval = ρ := ⟨_, rfl⟩
        rw [hρ] at a19 a26 hc hf hgl
        exact relPure hρ (.bool true) (by simp [go_sem, hc, hf, hgl, ↓IntWalk.iteOmega, a19, a26, *]) rfl
      intro u w7 hb7 hall
      have e27 : u 10 = .bool true := relAll_at hall (i := 10) (by decide +kernel)
      clear hall
      simp only [List.drop_succ_cons, List.drop_zero, List.take_succ_cons, List.take_zero, putAll, Act.put, List.setIfInBounds_toArray, List.set_cons_zero, List.set_cons_succ, Nat.zero_add, Nat.reduceAdd, e27]
      have HB7 := hide (HB2.out.trans (hb7.mono HB2.out.size))
      clear hb7
      go_wp2
      simp only [Exit.jump]
      go_ret
      exact ⟨by rw [HR.out]; rfl, HB7.out⟩
set_option maxRecDepth 100000 in
theorem topE_any {α : Type} (g : Nat) (t : Tr α) (w : World) (hg : Blk w g 219 #[trPtr t]) : Calls Tryz.prog 170 #[.pointer (some ⟨g, 0, none⟩)] w fun e w' => e = .returned (trPtr t) ∧ w' = w := by
  have z : w.cell? ⟨g, 0, none⟩ = some (trPtr t) := hg.cell 0
  clear hg
  go_enter Tryz.func170, Tryz.ntmps170
  go_wp2
  go_ret
  exact ⟨rfl, rfl⟩
set_option maxRecDepth 100000 in
theorem newE_any (w : World) : Calls Tryz.prog 104 #[] w fun e w' => e = .returned (.pointer (some ⟨w.heap.size, 0, none⟩)) ∧ Blk w' w.heap.size 219 #[.pointer none] ∧ Below w.heap.size w w' := by
  have HB := hide (blkBelow1 w (.cells #[.pointer none] 219))
  have HK := hide (Blk.new w 219 #[.pointer none])
  go_enter Tryz.func104, Tryz.ntmps104
  go_wp2
  go_ret
  exact ⟨rfl, HK.out, HB.out⟩
set_option maxRecDepth 100000 in
set_option maxHeartbeats 4000000 in
theorem putnilE_any (a n : Nat) (vp : Option Addr) (w : World) :
    Calls Tryz.prog 162 #[.pointer none, .agg #[.int .u32 (a : Int), .int .i64 (n : Int)], .pointer vp] w fun e w' => ∃ b, e = .returned (.pointer (some ⟨b, 0, none⟩)) ∧ w.heap.size ≤ b ∧ Blk w' b 226 (ndC a n [.pointer vp] true 1 (.pointer none) (.pointer none)) ∧ Below w.heap.size w w' := by
  have HB := hide (blkBelow2 w (.cells #[.int .u32 (a : Int), .int .i64 (n : Int)] 24) (.cells (ndC a n [.pointer vp] true 1 (.pointer none) (.pointer none)) 226))
  have HK : Hid (Blk ((w.alloc (.cells #[.int .u32 (a : Int), .int .i64 (n : Int)] 24)).alloc (.cells (ndC a n [.pointer vp] true 1 (.pointer none) (.pointer none)) 226)) (w.heap.size + 1) 226 (ndC a n [.pointer vp] true 1 (.pointer none) (.pointer none))) := hide (blk_new' _ _ (by simp))
  go_enter Tryz.func162, Tryz.ntmps162
  go_wp2
  go_ret
  exact ⟨w.heap.size + 1, rfl, by omega, HK.out, HB.out⟩
set_option maxRecDepth 100000 in
set_option maxHeartbeats 8000000 in
theorem puteE_any {α : Type} {F : Nat → Prop} {R : World → List Value → α → Prop} (g a n : Nat) (x : α) (vp : Option Addr) (w : World) (ha : PG a n) (hg : Blk w g 219 #[.pointer none]) (hF : ∀ k, F k → k < w.heap.size) (hv : FrS F none (fun w => R w [.pointer vp] x) w) (hgF : ¬ F g) :
    Calls Tryz.prog 107 #[.pointer (some ⟨g, 0, none⟩), .agg #[.int .u32 (a : Int), .int .i64 (n : Int)], .pointer vp] w fun e w' => e = .returned (.tuple #[.pointer none, .bool false]) ∧ ∃ b, w.heap.size ≤ b ∧ Blk w' g 219 #[.pointer (some ⟨b, 0, none⟩)] ∧ TrA 1 226 F R w' (.nd b a n (some x) .nil .nil) ∧ ChgS (fun k => k = g) w w' := by
  obtain ⟨w0, hw0⟩ : ∃ w0, w.alloc (.cells #[.int .u32 (a : Int), .int .i64 (n : Int)] 24) = w0 := ⟨_, rfl⟩
  have hb0 : Below w.heap.size w w0 := hw0 ▸ blkBelow1 w _
  have HX0 : Hid (Blk w0 w.heap.size 24 #[.int .u32 (a : Int), .int .i64 (n : Int)]) := hide (hw0 ▸ Blk.new w _ _)
  have HGd := hide (Good_any a (n : Int) ha.1 (by omega) (by have := ha.2.1; omega))
  rw [good_pg ha] at HGd
  unfold pfx at HGd
  have HFd := hide (fun W (hb : Below w.heap.size w W) => findE_any (F := F) (R := R) g a n (.nil : Tr α) W ha (hg.below hb hg.lt) trivial trivial)
  have HG := hide hg
  have HW0 := hide hw0
  have HB0 := hide hb0
  have HFv := hide hv
  have HF := hide hF
  have HPa := hide ha
  have HgF := hide hgF
  clear hw0 hb0 hg hF hv ha hgF
  go_enter Tryz.func107, Tryz.ntmps107
  go_wp2_with fail
  rw [HW0.out]
  refine (HGd.out _).mono ?_
  rintro e w1 ⟨rfl, hb1⟩
  have HB1 := hide (HB0.out.trans (hb1.mono HB0.out.size))
  have HX1 := hide (HX0.out.below hb1 HX0.out.lt)
  have x0 : w1.cell? ⟨w.heap.size, 0, none⟩ = some (.int .u32 (a : Int)) := HX1.out.cell 0
  have x1 : w1.cell? ⟨w.heap.size, 1, none⟩ = some (.int .i64 (n : Int)) := HX1.out.cell 1
  clear hb1
  go_wp2_with fail
  refine (HFd.out _ HB1.out).mono ?_
  rintro e w2 ⟨rfl, hb2⟩
  have HB2 := hide (HB1.out.trans (hb2.mono HB1.out.size))
  have HX2 := hide (HX1.out.below hb2 HX1.out.lt)
  have HG2 := hide (HG.out.below HB2.out HG.out.lt)
  have e0 : trPtr (trFind a n (.nil : Tr α)) = .pointer none := rfl
  rw [e0]
  clear e0 hb2 x0 x1
  go_upto_region 7 with fail
  have Hmn := hide (show AllMono [(fun v _ => v = .pointer (some ⟨g, 0, none⟩)), (fun v _ => v = .pointer (some ⟨g, 0, none⟩)), (fun v _ => v = .pointer (some ⟨g, 0, none⟩)), (fun v _ => v = .pointer (some ⟨g, 0, none⟩)), (fun v _ => v = .pointer none), (fun v _ => v = .agg #[.int .u32 (a : Int), .int .i64 (n : Int)]), (fun v _ => v = .pointer vp), (fun v W => ∃ b, v = .pointer (some ⟨b, 0, none⟩) ∧ w2.heap.size ≤ b ∧ Blk W b 226 (ndC a n [.pointer vp] true 1 (.pointer none) (.pointer none))), (fun v _ => v = .pointer (some ⟨g, 0, none⟩)), (fun v _ => v = .pointer (some ⟨g, 0, none⟩))] from ⟨fun _ _ _ _ h => h, fun _ _ _ _ h => h, fun _ _ _ _ h => h, fun _ _ _ _ h => h, fun _ _ _ _ h => h, fun _ _ _ _ h => h, fun _ _ _ _ h => h, fun v W1 W2 hb ⟨b, e, h1, h2⟩ => ⟨b, e, h1, h2.below hb h2.lt⟩, fun _ _ _ _ h => h, fun _ _ _ _ h => h, trivial⟩)
  refine wp_region_relT 10 _ (by kernel_rfl) (by kernel_rfl) (by kernel_rfl) (by kernel_rfl) (by kernel_rfl) (relMono _ Hmn.out) ⟨?_, ?_, ?_, ?_, ?_, ?_, ?_, ?_, ?_, ?_, trivial⟩ ?_
  · refine relStep_plain rfl ?_
    intro Ac w5 hp
    have hb := hp.bel
    have a0 : Ac.eval (.tmp 0) = .pointer (some ⟨g, 0, none⟩) := hp.out 0 (by rfl)
    have hc := evalC Ac; have hf := evalF Ac; have hgl := evalG Ac
    obtain ⟨ρ, hρ⟩ : ∃ ρ, Ac.eval = ρ := ⟨_, rfl⟩
    rw [hρ] at a0 hc hf hgl
    exact relPure hρ (.pointer (some ⟨g, 0, none⟩)) (by simp [go_sem, hc, hf, hgl, ↓IntWalk.iteOmega, a0, *]) rfl
  · refine relStep_plain rfl ?_
    intro Ac w5 hp
    have hb := hp.bel
    have a0 : Ac.eval (.tmp 0) = .pointer (some ⟨g, 0, none⟩) := hp.out 0 (by rfl)
    have hc := evalC Ac; have hf := evalF Ac; have hgl := evalG Ac
    obtain ⟨ρ, hρ⟩ : ∃ ρ, Ac.eval = ρ := ⟨_, rfl⟩
    rw [hρ] at a0 hc hf hgl
    exact relPure hρ (.pointer (some ⟨g, 0, none⟩)) (by simp [go_sem, hc, hf, hgl, ↓IntWalk.iteOmega, a0, *]) rfl
  · refine relStep_plain rfl ?_
    intro Ac w5 hp
    have hb := hp.bel
    have a38 : Ac.eval (.tmp 38) = .pointer (some ⟨g, 0, none⟩) := hp.dep 1 (by kernel_rfl)
    have hc := evalC Ac; have hf := evalF Ac; have hgl := evalG Ac
    obtain ⟨ρ, hρ⟩ : ∃ ρ, Ac.eval = ρ := ⟨_, rfl⟩
    rw [hρ] at a38 hc hf hgl
    exact relPure hρ (.pointer (some ⟨g, 0, none⟩)) (by simp [go_sem, hc, hf, hgl, ↓IntWalk.iteOmega, a38, *]) rfl
  · refine relStep_plain rfl ?_
    intro Ac w5 hp
    have hb := hp.bel
    have a39 : Ac.eval (.tmp 39) = .pointer (some ⟨g, 0, none⟩) := hp.dep 2 (by kernel_rfl)
    have hc := evalC Ac; have hf := evalF Ac; have hgl := evalG Ac
    obtain ⟨ρ, hρ⟩ : ∃ ρ, Ac.eval = ρ := ⟨_, rfl⟩
    rw [hρ] at a39 hc hf hgl
    exact relPure hρ (.pointer (some ⟨g, 0, none⟩)) (by simp [go_sem, hc, hf, hgl, ↓IntWalk.iteOmega, a39, *]) rfl
  · refine relStep_plain rfl ?_
    intro Ac w5 hp
    have hb := hp.bel
    have a40 : Ac.eval (.tmp 40) = .pointer (some ⟨g, 0, none⟩) := hp.dep 3 (by kernel_rfl)
    have hg5 := HG2.out.below hb HG2.out.lt
    have z0 : w5.cell? ⟨g, 0, none⟩ = some (.pointer none) := hg5.cell 0
    have hc := evalC Ac; have hf := evalF Ac; have hgl := evalG Ac
    obtain ⟨ρ, hρ⟩ : ∃ ρ, Ac.eval = ρ := ⟨_, rfl⟩
    rw [hρ] at a40 hc hf hgl
    exact relPure hρ (.pointer none) (by simp [go_sem, hc, hf, hgl, ↓IntWalk.iteOmega, a40, *]) rfl
  · refine relStep_plain rfl ?_
    intro Ac w5 hp
    have hb := hp.bel
    have a4 : Ac.eval (.tmp 4) = .pointer (some ⟨w.heap.size, 0, none⟩) := hp.out 4 (by rfl)
    have hx5 := HX2.out.below hb HX2.out.lt
    have x0 : w5.cell? ⟨w.heap.size, 0, none⟩ = some (.int .u32 (a : Int)) := hx5.cell 0
    have x1 : w5.cell? ⟨w.heap.size, 1, none⟩ = some (.int .i64 (n : Int)) := hx5.cell 1
    have hc := evalC Ac; have hf := evalF Ac; have hgl := evalG Ac
    obtain ⟨ρ, hρ⟩ : ∃ ρ, Ac.eval = ρ := ⟨_, rfl⟩
    rw [hρ] at a4 hc hf hgl
    exact relPure hρ (.agg #[.int .u32 (a : Int), .int .i64 (n : Int)]) (by simp [go_sem, hc, hf, hgl, ↓IntWalk.iteOmega, a4, *]) rfl
  · refine relStep_plain rfl ?_
    intro Ac w5 hp
    have hb := hp.bel
    have a2 : Ac.eval (.tmp 2) = .pointer vp := hp.out 2 (by rfl)
    have hc := evalC Ac; have hf := evalF Ac; have hgl := evalG Ac
    obtain ⟨ρ, hρ⟩ : ∃ ρ, Ac.eval = ρ := ⟨_, rfl⟩
    rw [hρ] at a2 hc hf hgl
    exact relPure hρ (.pointer vp) (by simp [go_sem, hc, hf, hgl, ↓IntWalk.iteOmega, a2, *]) rfl
  · refine relStep_plain rfl ?_
    intro Ac w5 hp
    have hb := hp.bel
    have a41 : Ac.eval (.tmp 41) = .pointer none := hp.dep 4 (by kernel_rfl)
    have a42 : Ac.eval (.tmp 42) = .agg #[.int .u32 (a : Int), .int .i64 (n : Int)] := hp.dep 5 (by kernel_rfl)
    have a43 : Ac.eval (.tmp 43) = .pointer vp := hp.dep 6 (by kernel_rfl)
    have hc := evalC Ac; have hf := evalF Ac; have hgl := evalG Ac
    obtain ⟨ρ, hρ⟩ : ∃ ρ, Ac.eval = ρ := ⟨_, rfl⟩
    rw [hρ] at a41 a42 a43 hc hf hgl
    refine relCall hρ 162 #[.pointer none, .agg #[.int .u32 (a : Int), .int .i64 (n : Int)], .pointer vp] (by simp [go_sem, hc, hf, hgl, ↓IntWalk.iteOmega, a41, a42, a43, *]) ?_
    refine (putnilE_any a n vp w5).mono ?_
    rintro e w6 ⟨b, rfl, hb2, hk2, hb6⟩
    exact ⟨_, rfl, ⟨b, rfl, Nat.le_trans hp.bel.size hb2, hk2⟩, hb6⟩
  · refine relStep_plain rfl ?_
    intro Ac w5 hp
    have hb := hp.bel
    have a37 : Ac.eval (.tmp 37) = .pointer (some ⟨g, 0, none⟩) := hp.dep 0 (by kernel_rfl)
    have hc := evalC Ac; have hf := evalF Ac; have hgl := evalG Ac
    obtain ⟨ρ, hρ⟩ : ∃ ρ, Ac.eval = ρ := ⟨_, rfl⟩
    rw [hρ] at a37 hc hf hgl
    exact relPure hρ (.pointer (some ⟨g, 0, none⟩)) (by simp [go_sem, hc, hf, hgl, ↓IntWalk.iteOmega, a37, *]) rfl
  · refine relStep_plain rfl ?_
    intro Ac w5 hp
    have hb := hp.bel
    have a45 : Ac.eval (.tmp 45) = .pointer (some ⟨g, 0, none⟩) := hp.dep 8 (by kernel_rfl)
    have hc := evalC Ac; have hf := evalF Ac; have hgl := evalG Ac
    obtain ⟨ρ, hρ⟩ : ∃ ρ, Ac.eval = ρ := ⟨_, rfl⟩
    rw [hρ] at a45 hc hf hgl
    exact relPure hρ (.pointer (some ⟨g, 0, none⟩)) (by simp [go_sem, hc, hf, hgl, ↓IntWalk.iteOmega, a45, *]) rfl
  intro u w7 hb7 hall
  obtain ⟨b44, e44, hb44, hk44⟩ := relAll_at hall (i := 7) (by decide +kernel)
  change u 7 = _ at e44
  have e46 : u 9 = .pointer (some ⟨g, 0, none⟩) := relAll_at hall (i := 9) (by decide +kernel)
  clear hall
  simp only [List.drop_succ_cons, List.drop_zero, List.take_succ_cons, List.take_zero, putAll, Act.put, List.setIfInBounds_toArray, List.set_cons_zero, List.set_cons_succ, Nat.zero_add, Nat.reduceAdd, e44, e46]
  have HB7 := hide (HB2.out.trans (hb7.mono HB2.out.size))
  have HG7 := hide (HG2.out.below hb7 HG2.out.lt)
  have HK7 := hide hk44
  have hbg : w.heap.size ≤ b44 := Nat.le_trans HB2.out.size hb44
  have hgl := HG.out.lt
  have HKs : Hid (∀ u : Value, Blk (w7.setCell ⟨g, 0, none⟩ u) b44 226 (ndC a n [.pointer vp] true 1 (.pointer none) (.pointer none))) := hide fun u => HK7.out.far (p := ⟨g, 0, none⟩) (by show b44 ≠ g; omega) u
  have HGs : Hid (∀ u : Value, Blk (w7.setCell ⟨g, 0, none⟩ u) g 219 #[u]) := hide fun u => HG7.out.set_ 0 u
  have HCs : Hid (∀ u : Value, ChgS (fun k => k = g) w (w7.setCell ⟨g, 0, none⟩ u)) := hide fun u => chg_trans (chg_below HB7.out) (chg_set (S := fun k => k = g) (p := ⟨g, 0, none⟩) rfl u) (fun k h => .inl h)
  have zg : w7.cell? ⟨g, 0, none⟩ = some (.pointer none) := HG7.out.cell 0
  have zgf := HG7.out.frozen 0
  clear hb7 hk44 hb44
  go_wp2
  go_ret2
  refine ⟨rfl, b44, hbg, HGs.out _, ⟨⟨⟨[.pointer vp], ⟨rfl, by simp [Value.oneCell']⟩, HKs.out _, fun y hy => ?_⟩, trivial, trivial⟩, ⟨HPa.out, trivial, trivial, trivial, trivial⟩, by simp [trB], ?_⟩, HCs.out _⟩
  · injection hy with hy
    subst hy
    exact frs_chg HFv.out (HCs.out _) (fun k hk e => HgF.out (e ▸ hk))
  · intro k hk hFk
    simp only [trB, List.append_nil, List.mem_singleton] at hk
    subst hk
    have := HF.out _ hFk
    omega
set_option maxRecDepth 100000 in
set_option maxHeartbeats 4000000 in
theorem getE_any {α : Type} {F : Nat → Prop} {R : World → List Value → α → Prop} (g c k : Nat) (t : Tr α) (w : World) (hc : PG c k) (hg : Blk w g 219 #[trPtr t]) (h : TrW 1 226 F R w t) (hw : trWf t) :
    Calls Tryz.prog 106 #[.pointer (some ⟨g, 0, none⟩), .agg #[.int .u32 (c : Int), .int .i64 (k : Int)]] w fun e w' => Below w.heap.size w w' ∧ match trGet c k t with
      | some x => ∃ v0, e = .returned (.tuple #[v0, .bool true]) ∧ FrS F none (fun w => R w [v0] x) w'
      | none => e = .returned (.tuple #[.pointer none, .bool false]) := by
  obtain ⟨w0, hw0⟩ : ∃ w0, w.alloc (.cells #[.int .u32 (c : Int), .int .i64 (k : Int)] 24) = w0 := ⟨_, rfl⟩
  have hb0 : Below w.heap.size w w0 := hw0 ▸ blkBelow1 w _
  have HX0 : Hid (Blk w0 w.heap.size 24 #[.int .u32 (c : Int), .int .i64 (k : Int)]) := hide (hw0 ▸ Blk.new w _ _)
  have HFd := hide (findE_any (F := F) (R := R) g c k t w0 hc (hg.below hb0 hg.lt) (h.chg (S := fun _ => False) (chg_below hb0) (by simp) (by simp)) hw)
  have hgf := trGet_find c k t
  have hfw := trFind_w c k t h
  have HW0 := hide hw0
  have HB0 := hide hb0
  have x0 : w0.cell? ⟨w.heap.size, 0, none⟩ = some (.int .u32 (c : Int)) := HX0.out.cell 0
  have x1 : w0.cell? ⟨w.heap.size, 1, none⟩ = some (.int .i64 (k : Int)) := HX0.out.cell 1
  clear hw0 hb0 hg h hw hc
  obtain ⟨s, hs⟩ : ∃ s, trFind c k t = s := ⟨_, rfl⟩
  obtain ⟨o, ho⟩ : ∃ o, trGet c k t = o := ⟨_, rfl⟩
  rw [hs] at hfw hgf HFd
  rw [ho] at hgf ⊢
  clear hs ho
  cases s with
  | nil =>
    simp only at hgf
    subst hgf
    have e0 : trPtr (.nil : Tr α) = .pointer none := rfl
    rw [e0] at HFd
    clear hfw e0
    go_enter Tryz.func106, Tryz.ntmps106
    go_wp2_with fail
    rw [HW0.out]
    refine HFd.out.mono ?_
    rintro e w1 ⟨rfl, hb1⟩
    have HB1 := hide (HB0.out.trans (hb1.mono HB0.out.size))
    clear hb1 x0 x1
    go_wp2
    go_ret2
    exact ⟨HB1.out, rfl⟩
  | nd b p m v l r =>
    simp only at hgf
    have hgf2 := hgf.symm
    subst hgf2
    clear hgf
    obtain ⟨⟨vs, hv, hk, hval⟩, _, _⟩ := hfw
    obtain ⟨v0, rfl⟩ := lenE hv
    have HN := hide hk
    have HVl := hide hval
    have HOne := hide hv.2
    have e0 : trPtr (.nd b p m v l r : Tr α) = .pointer (some ⟨b, 0, none⟩) := rfl
    rw [e0] at HFd
    clear hk hval hv e0
    cases v with
    | none =>
      go_enter Tryz.func106, Tryz.ntmps106
      go_wp2_with fail
      rw [HW0.out]
      refine HFd.out.mono ?_
      rintro e w1 ⟨rfl, hb1⟩
      have HB1 := hide (HB0.out.trans (hb1.mono HB0.out.size))
      have yp : w1.cell? ⟨b, 3, none⟩ = some (.bool false) := (HN.out.below HB1.out HN.out.lt).cell 3
      clear hb1 x0 x1
      go_wp2
      go_ret2
      exact ⟨HB1.out, rfl⟩
    | some x =>
      go_enter Tryz.func106, Tryz.ntmps106
      go_wp2_with fail
      rw [HW0.out]
      refine HFd.out.mono ?_
      rintro e w1 ⟨rfl, hb1⟩
      have HB1 := hide (HB0.out.trans (hb1.mono HB0.out.size))
      have hN1 := HN.out.below HB1.out HN.out.lt
      have yp : w1.cell? ⟨b, 3, none⟩ = some (.bool true) := hN1.cell 3
      have y0 : w1.cell? ⟨b, 2, none⟩ = some v0 := hN1.cell 2
      clear hb1 hN1 x0 x1
      go_wp2
      go_ret2
      exact ⟨HB1.out, v0, rfl, frs_chg (HVl.out x rfl) (chg_below (S := fun _ => False) HB1.out) (by simp)⟩
end Go.Proofs.YtcinjckajnnhmaaGreat
set_option linter.unusedSimpArgs false
set_option linter.unusedVariables false
namespace Go.Proofs.YtcinjckajnnhmaaGreat
open Go.RowKit Go.WideShapes Go.ChangeShapes
attribute [local go_sem] Oper.semAt_some
theorem lenB {l : List Value} (h0 : VOk 1 l) : ∃ v0, l = [v0] := by
  have h := h0.1
  clear h0
  obtain _ | ⟨v0, l⟩ := l
  · simp at h
  obtain _ | ⟨x, l⟩ := l
  · exact ⟨_, rfl⟩
  · simp at h
set_option maxRecDepth 100000 in
theorem countB_any {α : Type} {F : Nat → Prop} {R : World → List Value → α → Prop} (t : Tr α) (w : World) (h : TrW 1 249 F R w t) : Calls Tryz.prog 137 #[trPtr t] w fun e w' => e = .returned (.int .i64 (trCnt t : Int)) ∧ w' = w := by
  cases t with
  | nil =>
    show Calls Tryz.prog 137 #[.pointer none] w _
    go_enter Tryz.func137, Tryz.ntmps137
    go_wp2
    go_ret
    exact ⟨rfl, rfl⟩
  | nd b a n v l r =>
    obtain ⟨⟨vs, hv, hk, _⟩, _, _⟩ := h
    obtain ⟨v0, rfl⟩ := lenB hv
    show Calls Tryz.prog 137 #[.pointer (some ⟨b, 0, none⟩)] w _
    have z : w.cell? ⟨b, 4, none⟩ = some (.int .i64 ((trCnt l + trCnt r + (if v.isSome then 1 else 0) : Nat) : Int)) := hk.cell 4
    have HR : Hid (trCnt (.nd b a n v l r) = trCnt l + trCnt r + (if v.isSome then 1 else 0)) := hide rfl
    obtain ⟨c, hc⟩ : ∃ c, trCnt l + trCnt r + (if v.isSome then 1 else 0) = c := ⟨_, rfl⟩
    rw [hc] at z HR
    clear hk hc
    go_enter Tryz.func137, Tryz.ntmps137
    go_wp2
    go_ret
    exact ⟨by rw [HR.out]; rfl, rfl⟩
theorem trDownB {α : Type} {F : Nat → Prop} {R : World → List Value → α → Prop} {w : World} {s : Tr α} {a : Act} (h : TrW 1 249 F R w s) (e : a.tmps.getD 5 undef = trPtr s) : trDown a w = trRank s := by
  cases s with
  | nil => unfold trDown; rw [e]; rfl
  | nd b c n v l r =>
    obtain ⟨⟨vs, hv, hk, _⟩, _, _⟩ := h
    unfold trDown
    rw [e]
    have hz : w.cell? ⟨b, 1, none⟩ = some (.int .i64 (n : Int)) := hk.cell 1
    show 33 - cellNat w ⟨b, 1, none⟩ = 33 - n
    rw [cellNat_of hz]
def FindJB {α : Type} (F : Nat → Prop) (R : World → List Value → α → Prop) (g c k : Nat) (t : Tr α) (w : World) (a' : Act) (w' : World) : Prop := ∃ (s : Tr α) (xb : Nat) (l : List Value), a' = ⟨(.pointer (some ⟨g, 0, none⟩) :: .agg #[.int .u32 (c : Int), .int .i64 (k : Int)] :: undef :: .pointer (some ⟨xb, 0, none⟩) :: .pointer none :: trPtr s :: l).toArray, []⟩ ∧ l.length = 40 ∧
  TrW 1 249 F R w' s ∧ trWf s ∧ trFind c k s = trFind c k t ∧ Blk w' xb 24 #[.int .u32 (c : Int), .int .i64 (k : Int)] ∧ Below w.heap.size w w'
set_option maxRecDepth 100000 in
set_option maxHeartbeats 8000000 in
theorem findB_any {α : Type} {F : Nat → Prop} {R : World → List Value → α → Prop} (g c k : Nat) (t : Tr α) (w : World) (hc : PG c k) (hg : Blk w g 192 #[trPtr t]) (h : TrW 1 249 F R w t) (hw : trWf t) :
    Calls Tryz.prog 209 #[.pointer (some ⟨g, 0, none⟩), .agg #[.int .u32 (c : Int), .int .i64 (k : Int)]] w fun e w' => e = .returned (trPtr (trFind c k t)) ∧ Below w.heap.size w w' := by
  have HGd := hide (Good_any c (k : Int) hc.1 (by omega) (by have := hc.2.1; omega))
  rw [good_pg hc] at HGd
  unfold pfx at HGd
  obtain ⟨w0, hw0⟩ : ∃ w0, w.alloc (.cells #[.int .u32 (c : Int), .int .i64 (k : Int)] 24) = w0 := ⟨_, rfl⟩
  have hb0 : Below w.heap.size w w0 := hw0 ▸ blkBelow1 w _
  have HX0 : Hid (Blk w0 w.heap.size 24 #[.int .u32 (c : Int), .int .i64 (k : Int)]) := hide (hw0 ▸ Blk.new w _ _)
  have HB0 := hide hb0
  have HG := hide hg
  have HT := hide h
  have HWf := hide hw
  have HPc := hide hc
  have HW0 := hide hw0
  clear hw0 hb0 hg h hw hc
  go_enter Tryz.func209, Tryz.ntmps209
  have x0 : w0.cell? ⟨w.heap.size, 0, none⟩ = some (.int .u32 (c : Int)) := HX0.out.cell 0
  have x1 : w0.cell? ⟨w.heap.size, 1, none⟩ = some (.int .i64 (k : Int)) := HX0.out.cell 1
  go_wp2
  rw [HW0.out]
  refine wp_scope_mid 0 (FindJB F R g c k t w) trDown rfl ?_ ?_
  · intro HPass
    go_wp2_with fail
    refine (HGd.out _).mono ?_
    rintro e w1 ⟨rfl, hb1⟩
    have HB1 := hide (HB0.out.trans (hb1.mono HB0.out.size))
    have HX1 := hide (HX0.out.below hb1 HX0.out.lt)
    have z : w1.cell? ⟨g, 0, none⟩ = some (trPtr t) := (HG.out.below HB1.out HG.out.lt).cell 0
    clear hb1 x0 x1
    go_wp2
    go_step3
    rename_i hK
    refine hK _ _ (HPass _ _ ?_)
    refine ⟨t, w.heap.size, _, rfl, rfl, ?_⟩
    exact ⟨HT.out.chg (S := fun _ => False) (chg_below HB1.out) (by simp) (by simp), HWf.out, rfl, HX1.out, HB1.out⟩
  rintro a1 w2 ⟨s, xb, l0, rfl, hl0, hs, hsw, hsf, hxb, hb2⟩
  obtain ⟨u, rfl⟩ := list_fn hl0
  clear hl0 x0 x1
  rw [show (List.range 40).map u = [u 0, u 1, u 2, u 3, u 4, u 5, u 6, u 7, u 8, u 9, u 10, u 11, u 12, u 13, u 14, u 15, u 16, u 17, u 18, u 19, u 20, u 21, u 22, u 23, u 24, u 25, u 26, u 27, u 28, u 29, u 30, u 31, u 32, u 33, u 34, u 35, u 36, u 37, u 38, u 39] from rfl]
  have HX := hide hxb
  have HB2 := hide hb2
  have HSf := hide hsf
  clear hxb hb2 hsf HX0 HG HT HWf HGd
  cases s with
  | nil =>
    have e0 : trPtr (.nil : Tr α) = .pointer none := rfl
    rw [e0]
    have HR : Hid (trPtr (trFind c k t) = .pointer none) := hide (by rw [← HSf.out]; rfl)
    clear e0 hs hsw
    go_upto_region 4 with fail
    go_quiet (fail)
    go_wp2
    simp only [Exit.jump]
    go_ret
    exact ⟨by rw [HR.out]; rfl, below_drewN HB2.out _⟩
  | nd b a n v l r =>
    have e0 : trPtr (.nd b a n v l r) = .pointer (some ⟨b, 0, none⟩) := rfl
    rw [e0]
    clear e0
    obtain ⟨⟨vs, hv, hk, hval⟩, hl, hr⟩ := hs
    obtain ⟨v0, rfl⟩ := lenB hv
    obtain ⟨hga, hil, hir, hwl, hwr⟩ := hsw
    have HN := hide hk
    have HN0 := hide hk
    have HL := hide hl
    have HRr := hide hr
    have HGa := hide hga
    have HIl := hide hil
    have HIr := hide hir
    have HWl := hide hwl
    have HWr := hide hwr
    have HCv := hide (fun W => cov_pg hga HPc.out W)
    clear hk hl hr hga hil hir hwl hwr hv hval
    by_cases hcv : CvN a n c k
    · rw [decide_eq_true hcv] at HCv
      have HCvP := hide hcv
      clear hcv
      go_upto_region 4 with fail
      have Hmn := hide (show AllMono [(fun v _ => v = .pointer (some ⟨b, 0, none⟩)), (fun v _ => v = .bool false), (fun v _ => v = .bool false), (fun v _ => v = .pointer (some ⟨b, 0, none⟩)), (fun v _ => v = .pointer (some ⟨b, 0, none⟩)), (fun v _ => v = .pointer (some ⟨b, 0, none⟩)), (fun v _ => v = .agg #[.int .u32 (a : Int), .int .i64 (n : Int)]), (fun v _ => v = .agg #[.int .u32 (c : Int), .int .i64 (k : Int)]), (fun v _ => v = .bool true), (fun v _ => v = .bool false), (fun v _ => v = .bool false)] from ⟨fun _ _ _ _ h => h, fun _ _ _ _ h => h, fun _ _ _ _ h => h, fun _ _ _ _ h => h, fun _ _ _ _ h => h, fun _ _ _ _ h => h, fun _ _ _ _ h => h, fun _ _ _ _ h => h, fun _ _ _ _ h => h, fun _ _ _ _ h => h, fun _ _ _ _ h => h, trivial⟩)
      refine wp_region_rel _ (by kernel_rfl) (by kernel_rfl) (relMono _ Hmn.out) ⟨?_, ?_, ?_, ?_, ?_, ?_, ?_, ?_, ?_, ?_, ?_, trivial⟩ ?_
      · refine relStep_plain rfl ?_
        intro Ac w5 hp
        have hb := hp.bel
        have a5 : Ac.eval (.tmp 5) = .pointer (some ⟨b, 0, none⟩) := hp.out 5 (by rfl)
        have hc := evalC Ac; have hf := evalF Ac; have hgl := evalG Ac
        obtain ⟨ρ, hρ⟩ : ∃ ρ, Ac.eval = ρ := ⟨_, rfl⟩
        rw [hρ] at a5 hc hf hgl
        exact relPure hρ (.pointer (some ⟨b, 0, none⟩)) (by simp [go_sem, hc, hf, hgl, ↓IntWalk.iteOmega, a5, *]) rfl
      · refine relStep_plain rfl ?_
        intro Ac w5 hp
        have hb := hp.bel
        have a17 : Ac.eval (.tmp 17) = .pointer (some ⟨b, 0, none⟩) := hp.dep 0 (by kernel_rfl)
        have hc := evalC Ac; have hf := evalF Ac; have hgl := evalG Ac
        obtain ⟨ρ, hρ⟩ : ∃ ρ, Ac.eval = ρ := ⟨_, rfl⟩
        rw [hρ] at a17 hc hf hgl
        exact relPure hρ (.bool false) (by simp [go_sem, hc, hf, hgl, ↓IntWalk.iteOmega, a17, *]) rfl
      · refine relStep_plain rfl ?_
        intro Ac w5 hp
        have hb := hp.bel
        have a18 : Ac.eval (.tmp 18) = .bool false := hp.dep 1 (by kernel_rfl)
        have hc := evalC Ac; have hf := evalF Ac; have hgl := evalG Ac
        obtain ⟨ρ, hρ⟩ : ∃ ρ, Ac.eval = ρ := ⟨_, rfl⟩
        rw [hρ] at a18 hc hf hgl
        exact relPure hρ (.bool false) (by simp [go_sem, hc, hf, hgl, ↓IntWalk.iteOmega, a18, *]) rfl
      · refine relStep_guard (g := 2) (b := false) (x := false) rfl (by kernel_rfl) rfl (by kernel_rfl) rfl (fun _ _ h => h) ?_
        intro Ac w5 hp
        have hb := hp.bel
        have a5 : Ac.eval (.tmp 5) = .pointer (some ⟨b, 0, none⟩) := hp.out 5 (by rfl)
        have hc := evalC Ac; have hf := evalF Ac; have hgl := evalG Ac
        obtain ⟨ρ, hρ⟩ : ∃ ρ, Ac.eval = ρ := ⟨_, rfl⟩
        rw [hρ] at a5 hc hf hgl
        exact relPure hρ (.pointer (some ⟨b, 0, none⟩)) (by simp [go_sem, hc, hf, hgl, ↓IntWalk.iteOmega, a5, *]) rfl
      · refine relStep_guard (g := 2) (b := false) (x := false) rfl (by kernel_rfl) rfl (by kernel_rfl) rfl (fun _ _ h => h) ?_
        intro Ac w5 hp
        have hb := hp.bel
        have a20 : Ac.eval (.tmp 20) = .pointer (some ⟨b, 0, none⟩) := hp.dep 3 (by kernel_rfl)
        have hc := evalC Ac; have hf := evalF Ac; have hgl := evalG Ac
        obtain ⟨ρ, hρ⟩ : ∃ ρ, Ac.eval = ρ := ⟨_, rfl⟩
        rw [hρ] at a20 hc hf hgl
        exact relPure hρ (.pointer (some ⟨b, 0, none⟩)) (by simp [go_sem, hc, hf, hgl, ↓IntWalk.iteOmega, a20, *]) rfl
      · refine relStep_guard (g := 2) (b := false) (x := false) rfl (by kernel_rfl) rfl (by kernel_rfl) rfl (fun _ _ h => h) ?_
        intro Ac w5 hp
        have hb := hp.bel
        have a21 : Ac.eval (.tmp 21) = .pointer (some ⟨b, 0, none⟩) := hp.dep 4 (by kernel_rfl)
        have hc := evalC Ac; have hf := evalF Ac; have hgl := evalG Ac
        obtain ⟨ρ, hρ⟩ : ∃ ρ, Ac.eval = ρ := ⟨_, rfl⟩
        rw [hρ] at a21 hc hf hgl
        exact relPure hρ (.pointer (some ⟨b, 0, none⟩)) (by simp [go_sem, hc, hf, hgl, ↓IntWalk.iteOmega, a21, *]) rfl
      · refine relStep_guard (g := 2) (b := false) (x := false) rfl (by kernel_rfl) rfl (by kernel_rfl) rfl (fun _ _ h => h) ?_
        intro Ac w5 hp
        have hb := hp.bel
        have a22 : Ac.eval (.tmp 22) = .pointer (some ⟨b, 0, none⟩) := hp.dep 5 (by kernel_rfl)
        have hk5 := HN.out.below hb HN.out.lt
        have hx5 := HX.out.below hb HX.out.lt
        have y0 : w5.cell? ⟨b, 0, none⟩ = some (.int .u32 (a : Int)) := hk5.cell 0
        have y1 : w5.cell? ⟨b, 1, none⟩ = some (.int .i64 (n : Int)) := hk5.cell 1
        have x0 : w5.cell? ⟨xb, 0, none⟩ = some (.int .u32 (c : Int)) := hx5.cell 0
        have x1 : w5.cell? ⟨xb, 1, none⟩ = some (.int .i64 (k : Int)) := hx5.cell 1
        have hc := evalC Ac; have hf := evalF Ac; have hgl := evalG Ac
        obtain ⟨ρ, hρ⟩ : ∃ ρ, Ac.eval = ρ := ⟨_, rfl⟩
        rw [hρ] at a22 hc hf hgl
        exact relPure hρ (.agg #[.int .u32 (a : Int), .int .i64 (n : Int)]) (by simp [go_sem, hc, hf, hgl, ↓IntWalk.iteOmega, a22, *]) rfl
      · refine relStep_guard (g := 2) (b := false) (x := false) rfl (by kernel_rfl) rfl (by kernel_rfl) rfl (fun _ _ h => h) ?_
        intro Ac w5 hp
        have hb := hp.bel
        have a3 : Ac.eval (.tmp 3) = .pointer (some ⟨xb, 0, none⟩) := hp.out 3 (by rfl)
        have hk5 := HN.out.below hb HN.out.lt
        have hx5 := HX.out.below hb HX.out.lt
        have y0 : w5.cell? ⟨b, 0, none⟩ = some (.int .u32 (a : Int)) := hk5.cell 0
        have y1 : w5.cell? ⟨b, 1, none⟩ = some (.int .i64 (n : Int)) := hk5.cell 1
        have x0 : w5.cell? ⟨xb, 0, none⟩ = some (.int .u32 (c : Int)) := hx5.cell 0
        have x1 : w5.cell? ⟨xb, 1, none⟩ = some (.int .i64 (k : Int)) := hx5.cell 1
        have hc := evalC Ac; have hf := evalF Ac; have hgl := evalG Ac
        obtain ⟨ρ, hρ⟩ : ∃ ρ, Ac.eval = ρ := ⟨_, rfl⟩
        rw [hρ] at a3 hc hf hgl
        exact relPure hρ (.agg #[.int .u32 (c : Int), .int .i64 (k : Int)]) (by simp [go_sem, hc, hf, hgl, ↓IntWalk.iteOmega, a3, *]) rfl
      · refine relStep_guard (g := 2) (b := false) (x := false) rfl (by kernel_rfl) rfl (by kernel_rfl) rfl (fun _ _ h => h) ?_
        intro Ac w5 hp
        have hb := hp.bel
        have a23 : Ac.eval (.tmp 23) = .agg #[.int .u32 (a : Int), .int .i64 (n : Int)] := hp.dep 6 (by kernel_rfl)
        have a24 : Ac.eval (.tmp 24) = .agg #[.int .u32 (c : Int), .int .i64 (k : Int)] := hp.dep 7 (by kernel_rfl)
        have hc := evalC Ac; have hf := evalF Ac; have hgl := evalG Ac
        obtain ⟨ρ, hρ⟩ : ∃ ρ, Ac.eval = ρ := ⟨_, rfl⟩
        rw [hρ] at a23 a24 hc hf hgl
        refine relCall hρ 185 #[.agg #[.int .u32 (a : Int), .int .i64 (n : Int)], .agg #[.int .u32 (c : Int), .int .i64 (k : Int)]] (by simp [go_sem, hc, hf, hgl, ↓IntWalk.iteOmega, a23, a24, *]) ?_
        refine (HCv.out w5).mono ?_
        rintro e w6 ⟨rfl, hb6⟩
        exact ⟨_, rfl, rfl, hb6⟩
      · refine relStep_guard (g := 2) (b := false) (x := false) rfl (by kernel_rfl) rfl (by kernel_rfl) rfl (fun _ _ h => h) ?_
        intro Ac w5 hp
        have hb := hp.bel
        have a25 : Ac.eval (.tmp 25) = .bool true := hp.dep 8 (by kernel_rfl)
        have hc := evalC Ac; have hf := evalF Ac; have hgl := evalG Ac
        obtain ⟨ρ, hρ⟩ : ∃ ρ, Ac.eval = ρ := ⟨_, rfl⟩
        rw [hρ] at a25 hc hf hgl
        exact relPure hρ (.bool false) (by simp [go_sem, hc, hf, hgl, ↓IntWalk.iteOmega, a25, *]) rfl
      · refine relStep_plain rfl ?_
        intro Ac w5 hp
        have hb := hp.bel
        have a19 : Ac.eval (.tmp 19) = .bool false := hp.dep 2 (by kernel_rfl)
        have a26 : Ac.eval (.tmp 26) = .bool false := hp.dep 9 (by kernel_rfl)
        have hc := evalC Ac; have hf := evalF Ac; have hgl := evalG Ac
        obtain ⟨ρ, hρ⟩ : ∃ ρ, Ac.eval = ρ := ⟨_, rfl⟩
        rw [hρ] at a19 a26 hc hf hgl
        exact relPure hρ (.bool false) (by simp [go_sem, hc, hf, hgl, ↓IntWalk.iteOmega, a19, a26, *]) rfl
      intro u w7 hb7 hall
      have e27 : u 10 = .bool false := relAll_at hall (i := 10) (by decide +kernel)
      clear hall
      simp only [List.drop_succ_cons, List.drop_zero, List.take_succ_cons, List.take_zero, putAll, Act.put, List.setIfInBounds_toArray, List.set_cons_zero, List.set_cons_succ, Nat.zero_add, Nat.reduceAdd, e27]
      have HB7 := hide (HB2.out.trans (hb7.mono HB2.out.size))
      have HB27 := hide hb7
      have HX7 := hide (HX.out.below hb7 HX.out.lt)
      have HN7 := hide (HN.out.below hb7 HN.out.lt)
      clear hb7 HX HN
      have HN := hide HN7.out
      have HX := hide HX7.out
      clear HX7 HN7
      by_cases he : a = c ∧ n = k
      · obtain ⟨rfl, rfl⟩ := he
        have HR : Hid (trPtr (trFind a n t) = .pointer (some ⟨b, 0, none⟩)) := hide (by rw [← HSf.out, trFind, if_pos HCvP.out, if_pos ⟨rfl, rfl⟩]; rfl)
        go_upto_region 6 with fail
        have Hmn := hide (show AllMono [(fun v _ => v = .pointer (some ⟨b, 0, none⟩)), (fun v _ => v = .pointer (some ⟨b, 0, none⟩)), (fun v _ => v = .pointer (some ⟨b, 0, none⟩)), (fun v _ => v = .agg #[.int .u32 (a : Int), .int .i64 (n : Int)]), (fun v _ => v = .agg #[.int .u32 (a : Int), .int .i64 (n : Int)]), (fun v _ => v = .bool false)] from ⟨fun _ _ _ _ h => h, fun _ _ _ _ h => h, fun _ _ _ _ h => h, fun _ _ _ _ h => h, fun _ _ _ _ h => h, fun _ _ _ _ h => h, trivial⟩)
        refine wp_region_rel _ (by kernel_rfl) (by kernel_rfl) (relMono _ Hmn.out) ⟨?_, ?_, ?_, ?_, ?_, ?_, trivial⟩ ?_
        · refine relStep_plain rfl ?_
          intro Ac w5 hp
          have hb := hp.bel
          have a5 : Ac.eval (.tmp 5) = .pointer (some ⟨b, 0, none⟩) := hp.out 5 (by rfl)
          have hc := evalC Ac; have hf := evalF Ac; have hgl := evalG Ac
          obtain ⟨ρ, hρ⟩ : ∃ ρ, Ac.eval = ρ := ⟨_, rfl⟩
          rw [hρ] at a5 hc hf hgl
          exact relPure hρ (.pointer (some ⟨b, 0, none⟩)) (by simp [go_sem, hc, hf, hgl, ↓IntWalk.iteOmega, a5, *]) rfl
        · refine relStep_plain rfl ?_
          intro Ac w5 hp
          have hb := hp.bel
          have a28 : Ac.eval (.tmp 28) = .pointer (some ⟨b, 0, none⟩) := hp.dep 0 (by kernel_rfl)
          have hc := evalC Ac; have hf := evalF Ac; have hgl := evalG Ac
          obtain ⟨ρ, hρ⟩ : ∃ ρ, Ac.eval = ρ := ⟨_, rfl⟩
          rw [hρ] at a28 hc hf hgl
          exact relPure hρ (.pointer (some ⟨b, 0, none⟩)) (by simp [go_sem, hc, hf, hgl, ↓IntWalk.iteOmega, a28, *]) rfl
        · refine relStep_plain rfl ?_
          intro Ac w5 hp
          have hb := hp.bel
          have a29 : Ac.eval (.tmp 29) = .pointer (some ⟨b, 0, none⟩) := hp.dep 1 (by kernel_rfl)
          have hc := evalC Ac; have hf := evalF Ac; have hgl := evalG Ac
          obtain ⟨ρ, hρ⟩ : ∃ ρ, Ac.eval = ρ := ⟨_, rfl⟩
          rw [hρ] at a29 hc hf hgl
          exact relPure hρ (.pointer (some ⟨b, 0, none⟩)) (by simp [go_sem, hc, hf, hgl, ↓IntWalk.iteOmega, a29, *]) rfl
        · refine relStep_plain rfl ?_
          intro Ac w5 hp
          have hb := hp.bel
          have a30 : Ac.eval (.tmp 30) = .pointer (some ⟨b, 0, none⟩) := hp.dep 2 (by kernel_rfl)
          have hk5 := HN.out.below hb HN.out.lt
          have hx5 := HX.out.below hb HX.out.lt
          have y0 : w5.cell? ⟨b, 0, none⟩ = some (.int .u32 (a : Int)) := hk5.cell 0
          have y1 : w5.cell? ⟨b, 1, none⟩ = some (.int .i64 (n : Int)) := hk5.cell 1
          have x0 : w5.cell? ⟨xb, 0, none⟩ = some (.int .u32 (a : Int)) := hx5.cell 0
          have x1 : w5.cell? ⟨xb, 1, none⟩ = some (.int .i64 (n : Int)) := hx5.cell 1
          have hc := evalC Ac; have hf := evalF Ac; have hgl := evalG Ac
          obtain ⟨ρ, hρ⟩ : ∃ ρ, Ac.eval = ρ := ⟨_, rfl⟩
          rw [hρ] at a30 hc hf hgl
          exact relPure hρ (.agg #[.int .u32 (a : Int), .int .i64 (n : Int)]) (by simp [go_sem, hc, hf, hgl, ↓IntWalk.iteOmega, a30, *]) rfl
        · refine relStep_plain rfl ?_
          intro Ac w5 hp
          have hb := hp.bel
          have a3 : Ac.eval (.tmp 3) = .pointer (some ⟨xb, 0, none⟩) := hp.out 3 (by rfl)
          have hk5 := HN.out.below hb HN.out.lt
          have hx5 := HX.out.below hb HX.out.lt
          have y0 : w5.cell? ⟨b, 0, none⟩ = some (.int .u32 (a : Int)) := hk5.cell 0
          have y1 : w5.cell? ⟨b, 1, none⟩ = some (.int .i64 (n : Int)) := hk5.cell 1
          have x0 : w5.cell? ⟨xb, 0, none⟩ = some (.int .u32 (a : Int)) := hx5.cell 0
          have x1 : w5.cell? ⟨xb, 1, none⟩ = some (.int .i64 (n : Int)) := hx5.cell 1
          have hc := evalC Ac; have hf := evalF Ac; have hgl := evalG Ac
          obtain ⟨ρ, hρ⟩ : ∃ ρ, Ac.eval = ρ := ⟨_, rfl⟩
          rw [hρ] at a3 hc hf hgl
          exact relPure hρ (.agg #[.int .u32 (a : Int), .int .i64 (n : Int)]) (by simp [go_sem, hc, hf, hgl, ↓IntWalk.iteOmega, a3, *]) rfl
        · refine relStep_plain rfl ?_
          intro Ac w5 hp
          have hb := hp.bel
          have a31 : Ac.eval (.tmp 31) = .agg #[.int .u32 (a : Int), .int .i64 (n : Int)] := hp.dep 3 (by kernel_rfl)
          have a32 : Ac.eval (.tmp 32) = .agg #[.int .u32 (a : Int), .int .i64 (n : Int)] := hp.dep 4 (by kernel_rfl)
          have hc := evalC Ac; have hf := evalF Ac; have hgl := evalG Ac
          obtain ⟨ρ, hρ⟩ : ∃ ρ, Ac.eval = ρ := ⟨_, rfl⟩
          rw [hρ] at a31 a32 hc hf hgl
          exact relPure hρ (.bool false) (by simp [go_sem, hc, hf, hgl, ↓IntWalk.iteOmega, a31, a32, *]) rfl
        intro u w8 hb7 hall
        have e33 : u 5 = .bool false := relAll_at hall (i := 5) (by decide +kernel)
        clear hall
        simp only [List.drop_succ_cons, List.drop_zero, List.take_succ_cons, List.take_zero, putAll, Act.put, List.setIfInBounds_toArray, List.set_cons_zero, List.set_cons_succ, Nat.zero_add, Nat.reduceAdd, e33]
        have HB8 := hide (HB7.out.trans (hb7.mono HB7.out.size))
        clear hb7
        go_wp2
        simp only [Exit.jump]
        go_ret
        exact ⟨by rw [HR.out]; rfl, HB8.out⟩
      · have HNe := hide (show (a : Int) = (c : Int) → ¬ (n : Int) = (k : Int) from fun h1 h2 => he ⟨by omega, by omega⟩)
        have HE := hide he
        clear he
        have hlt : n < k := Nat.lt_of_le_of_ne HCvP.out.1 fun e => HE.out ⟨cvN_same HCvP.out HPc.out e, e⟩
        have hk32 := HPc.out.2.1
        have HSd := hide (fun W => side_any a n c k HPc.out.1 (by omega) W)
        have HRk := hide (show trDown ⟨(.pointer (some ⟨g, 0, none⟩) :: .agg #[.int .u32 (c : Int), .int .i64 (k : Int)] :: undef :: .pointer (some ⟨xb, 0, none⟩) :: .pointer none :: .pointer (some ⟨b, 0, none⟩) :: [u 0, u 1, u 2, u 3, u 4, u 5, u 6, u 7, u 8, u 9, u 10, u 11, u 12, u 13, u 14, u 15, u 16, u 17, u 18, u 19, u 20, u 21, u 22, u 23, u 24, u 25, u 26, u 27, u 28, u 29, u 30, u 31, u 32, u 33, u 34, u 35, u 36, u 37, u 38, u 39]).toArray, []⟩ w2 = 33 - n from congrArg (33 - ·) (cellNat_of (HN0.out.cell 1)))
        have HLt := hide hlt
        clear hlt hk32 HN0
        go_upto_region 6 with fail
        have Hmn := hide (show AllMono [(fun v _ => v = .pointer (some ⟨b, 0, none⟩)), (fun v _ => v = .pointer (some ⟨b, 0, none⟩)), (fun v _ => v = .pointer (some ⟨b, 0, none⟩)), (fun v _ => v = .agg #[.int .u32 (a : Int), .int .i64 (n : Int)]), (fun v _ => v = .agg #[.int .u32 (c : Int), .int .i64 (k : Int)]), (fun v _ => v = .bool true)] from ⟨fun _ _ _ _ h => h, fun _ _ _ _ h => h, fun _ _ _ _ h => h, fun _ _ _ _ h => h, fun _ _ _ _ h => h, fun _ _ _ _ h => h, trivial⟩)
        refine wp_region_rel _ (by kernel_rfl) (by kernel_rfl) (relMono _ Hmn.out) ⟨?_, ?_, ?_, ?_, ?_, ?_, trivial⟩ ?_
        · refine relStep_plain rfl ?_
          intro Ac w5 hp
          have hb := hp.bel
          have a5 : Ac.eval (.tmp 5) = .pointer (some ⟨b, 0, none⟩) := hp.out 5 (by rfl)
          have hc := evalC Ac; have hf := evalF Ac; have hgl := evalG Ac
          obtain ⟨ρ, hρ⟩ : ∃ ρ, Ac.eval = ρ := ⟨_, rfl⟩
          rw [hρ] at a5 hc hf hgl
          exact relPure hρ (.pointer (some ⟨b, 0, none⟩)) (by simp [go_sem, hc, hf, hgl, ↓IntWalk.iteOmega, a5, *]) rfl
        · refine relStep_plain rfl ?_
          intro Ac w5 hp
          have hb := hp.bel
          have a28 : Ac.eval (.tmp 28) = .pointer (some ⟨b, 0, none⟩) := hp.dep 0 (by kernel_rfl)
          have hc := evalC Ac; have hf := evalF Ac; have hgl := evalG Ac
          obtain ⟨ρ, hρ⟩ : ∃ ρ, Ac.eval = ρ := ⟨_, rfl⟩
          rw [hρ] at a28 hc hf hgl
          exact relPure hρ (.pointer (some ⟨b, 0, none⟩)) (by simp [go_sem, hc, hf, hgl, ↓IntWalk.iteOmega, a28, *]) rfl
        · refine relStep_plain rfl ?_
          intro Ac w5 hp
          have hb := hp.bel
          have a29 : Ac.eval (.tmp 29) = .pointer (some ⟨b, 0, none⟩) := hp.dep 1 (by kernel_rfl)
          have hc := evalC Ac; have hf := evalF Ac; have hgl := evalG Ac
          obtain ⟨ρ, hρ⟩ : ∃ ρ, Ac.eval = ρ := ⟨_, rfl⟩
          rw [hρ] at a29 hc hf hgl
          exact relPure hρ (.pointer (some ⟨b, 0, none⟩)) (by simp [go_sem, hc, hf, hgl, ↓IntWalk.iteOmega, a29, *]) rfl
        · refine relStep_plain rfl ?_
          intro Ac w5 hp
          have hb := hp.bel
          have a30 : Ac.eval (.tmp 30) = .pointer (some ⟨b, 0, none⟩) := hp.dep 2 (by kernel_rfl)
          have hk5 := HN.out.below hb HN.out.lt
          have hx5 := HX.out.below hb HX.out.lt
          have y0 : w5.cell? ⟨b, 0, none⟩ = some (.int .u32 (a : Int)) := hk5.cell 0
          have y1 : w5.cell? ⟨b, 1, none⟩ = some (.int .i64 (n : Int)) := hk5.cell 1
          have x0 : w5.cell? ⟨xb, 0, none⟩ = some (.int .u32 (c : Int)) := hx5.cell 0
          have x1 : w5.cell? ⟨xb, 1, none⟩ = some (.int .i64 (k : Int)) := hx5.cell 1
          have hc := evalC Ac; have hf := evalF Ac; have hgl := evalG Ac
          obtain ⟨ρ, hρ⟩ : ∃ ρ, Ac.eval = ρ := ⟨_, rfl⟩
          rw [hρ] at a30 hc hf hgl
          exact relPure hρ (.agg #[.int .u32 (a : Int), .int .i64 (n : Int)]) (by simp [go_sem, hc, hf, hgl, ↓IntWalk.iteOmega, a30, *]) rfl
        · refine relStep_plain rfl ?_
          intro Ac w5 hp
          have hb := hp.bel
          have a3 : Ac.eval (.tmp 3) = .pointer (some ⟨xb, 0, none⟩) := hp.out 3 (by rfl)
          have hk5 := HN.out.below hb HN.out.lt
          have hx5 := HX.out.below hb HX.out.lt
          have y0 : w5.cell? ⟨b, 0, none⟩ = some (.int .u32 (a : Int)) := hk5.cell 0
          have y1 : w5.cell? ⟨b, 1, none⟩ = some (.int .i64 (n : Int)) := hk5.cell 1
          have x0 : w5.cell? ⟨xb, 0, none⟩ = some (.int .u32 (c : Int)) := hx5.cell 0
          have x1 : w5.cell? ⟨xb, 1, none⟩ = some (.int .i64 (k : Int)) := hx5.cell 1
          have hc := evalC Ac; have hf := evalF Ac; have hgl := evalG Ac
          obtain ⟨ρ, hρ⟩ : ∃ ρ, Ac.eval = ρ := ⟨_, rfl⟩
          rw [hρ] at a3 hc hf hgl
          exact relPure hρ (.agg #[.int .u32 (c : Int), .int .i64 (k : Int)]) (by simp [go_sem, hc, hf, hgl, ↓IntWalk.iteOmega, a3, *]) rfl
        · refine relStep_plain rfl ?_
          intro Ac w5 hp
          have hb := hp.bel
          have a31 : Ac.eval (.tmp 31) = .agg #[.int .u32 (a : Int), .int .i64 (n : Int)] := hp.dep 3 (by kernel_rfl)
          have a32 : Ac.eval (.tmp 32) = .agg #[.int .u32 (c : Int), .int .i64 (k : Int)] := hp.dep 4 (by kernel_rfl)
          have hc := evalC Ac; have hf := evalF Ac; have hgl := evalG Ac
          obtain ⟨ρ, hρ⟩ : ∃ ρ, Ac.eval = ρ := ⟨_, rfl⟩
          rw [hρ] at a31 a32 hc hf hgl
          exact relPure hρ (.bool true) (by simp [go_sem, hc, hf, hgl, ↓IntWalk.iteOmega, a31, a32, *]; exact HNe.out) rfl
        intro u w8 hb7 hall
        have e33 : u 5 = .bool true := relAll_at hall (i := 5) (by decide +kernel)
        clear hall
        simp only [List.drop_succ_cons, List.drop_zero, List.take_succ_cons, List.take_zero, putAll, Act.put, List.setIfInBounds_toArray, List.set_cons_zero, List.set_cons_succ, Nat.zero_add, Nat.reduceAdd, e33]
        have HN8 := hide (HN.out.below hb7 HN.out.lt)
        have HX8 := hide (HX.out.below hb7 HX.out.lt)
        have HB28 := hide (HB27.out.trans (hb7.mono HB27.out.size))
        clear hb7 HN HX HB7 HB27
        have HN := hide HN8.out
        have HX := hide HX8.out
        clear HN8 HX8
        rcases bitN_01 c n with hbit | hbit
        all_goals
          have HBit := hide hbit
          clear hbit
          go_upto_region 7 with fail
        · skip
          have Hmn := hide (show AllMono [(fun v _ => v = .pointer (some ⟨b, 0, none⟩)), (fun v _ => v = .pointer (some ⟨b, 0, none⟩)), (fun v _ => v = .pointer (some ⟨b, 0, none⟩)), (fun v _ => v = .pointer (some ⟨b, 0, none⟩)), (fun v _ => v = .agg #[.int .u32 (a : Int), .int .i64 (n : Int)]), (fun v _ => v = .agg #[.int .u32 (c : Int), .int .i64 (k : Int)]), (fun v _ => v = .int .i64 0), (fun v _ => v = .pointer (some ⟨b, 0, none⟩)), (fun v _ => v = .pointer (some ⟨b, 5, none⟩)), (fun v _ => v = .pointer (some ⟨b, 5, none⟩)), (fun v _ => v = trPtr l)] from ⟨fun _ _ _ _ h => h, fun _ _ _ _ h => h, fun _ _ _ _ h => h, fun _ _ _ _ h => h, fun _ _ _ _ h => h, fun _ _ _ _ h => h, fun _ _ _ _ h => h, fun _ _ _ _ h => h, fun _ _ _ _ h => h, fun _ _ _ _ h => h, fun _ _ _ _ h => h, trivial⟩)
          refine wp_region_relT 11 _ (by kernel_rfl) (by kernel_rfl) (by kernel_rfl) (by kernel_rfl) (by kernel_rfl) (relMono _ Hmn.out) ⟨?_, ?_, ?_, ?_, ?_, ?_, ?_, ?_, ?_, ?_, ?_, trivial⟩ ?_
          · refine relStep_plain rfl ?_
            intro Ac w5 hp
            have hb := hp.bel
            have a5 : Ac.eval (.tmp 5) = .pointer (some ⟨b, 0, none⟩) := hp.out 5 (by rfl)
            have hc := evalC Ac; have hf := evalF Ac; have hgl := evalG Ac
            obtain ⟨ρ, hρ⟩ : ∃ ρ, Ac.eval = ρ := ⟨_, rfl⟩
            rw [hρ] at a5 hc hf hgl
            exact relPure hρ (.pointer (some ⟨b, 0, none⟩)) (by simp [go_sem, hc, hf, hgl, ↓IntWalk.iteOmega, a5, *]) rfl
          · refine relStep_plain rfl ?_
            intro Ac w5 hp
            have hb := hp.bel
            have a5 : Ac.eval (.tmp 5) = .pointer (some ⟨b, 0, none⟩) := hp.out 5 (by rfl)
            have hc := evalC Ac; have hf := evalF Ac; have hgl := evalG Ac
            obtain ⟨ρ, hρ⟩ : ∃ ρ, Ac.eval = ρ := ⟨_, rfl⟩
            rw [hρ] at a5 hc hf hgl
            exact relPure hρ (.pointer (some ⟨b, 0, none⟩)) (by simp [go_sem, hc, hf, hgl, ↓IntWalk.iteOmega, a5, *]) rfl
          · refine relStep_plain rfl ?_
            intro Ac w5 hp
            have hb := hp.bel
            have a35 : Ac.eval (.tmp 35) = .pointer (some ⟨b, 0, none⟩) := hp.dep 1 (by kernel_rfl)
            have hc := evalC Ac; have hf := evalF Ac; have hgl := evalG Ac
            obtain ⟨ρ, hρ⟩ : ∃ ρ, Ac.eval = ρ := ⟨_, rfl⟩
            rw [hρ] at a35 hc hf hgl
            exact relPure hρ (.pointer (some ⟨b, 0, none⟩)) (by simp [go_sem, hc, hf, hgl, ↓IntWalk.iteOmega, a35, *]) rfl
          · refine relStep_plain rfl ?_
            intro Ac w5 hp
            have hb := hp.bel
            have a36 : Ac.eval (.tmp 36) = .pointer (some ⟨b, 0, none⟩) := hp.dep 2 (by kernel_rfl)
            have hc := evalC Ac; have hf := evalF Ac; have hgl := evalG Ac
            obtain ⟨ρ, hρ⟩ : ∃ ρ, Ac.eval = ρ := ⟨_, rfl⟩
            rw [hρ] at a36 hc hf hgl
            exact relPure hρ (.pointer (some ⟨b, 0, none⟩)) (by simp [go_sem, hc, hf, hgl, ↓IntWalk.iteOmega, a36, *]) rfl
          · refine relStep_plain rfl ?_
            intro Ac w5 hp
            have hb := hp.bel
            have a37 : Ac.eval (.tmp 37) = .pointer (some ⟨b, 0, none⟩) := hp.dep 3 (by kernel_rfl)
            have hk5 := HN.out.below hb HN.out.lt
            have hx5 := HX.out.below hb HX.out.lt
            have y0 : w5.cell? ⟨b, 0, none⟩ = some (.int .u32 (a : Int)) := hk5.cell 0
            have y1 : w5.cell? ⟨b, 1, none⟩ = some (.int .i64 (n : Int)) := hk5.cell 1
            have y5 : w5.cell? ⟨b, 5, none⟩ = some (trPtr l) := hk5.cell 5
            have y6 : w5.cell? ⟨b, 6, none⟩ = some (trPtr r) := hk5.cell 6
            have x0 : w5.cell? ⟨xb, 0, none⟩ = some (.int .u32 (c : Int)) := hx5.cell 0
            have x1 : w5.cell? ⟨xb, 1, none⟩ = some (.int .i64 (k : Int)) := hx5.cell 1
            have hc := evalC Ac; have hf := evalF Ac; have hgl := evalG Ac
            obtain ⟨ρ, hρ⟩ : ∃ ρ, Ac.eval = ρ := ⟨_, rfl⟩
            rw [hρ] at a37 hc hf hgl
            exact relPure hρ (.agg #[.int .u32 (a : Int), .int .i64 (n : Int)]) (by simp [go_sem, hc, hf, hgl, ↓IntWalk.iteOmega, a37, *]) rfl
          · refine relStep_plain rfl ?_
            intro Ac w5 hp
            have hb := hp.bel
            have a3 : Ac.eval (.tmp 3) = .pointer (some ⟨xb, 0, none⟩) := hp.out 3 (by rfl)
            have hk5 := HN.out.below hb HN.out.lt
            have hx5 := HX.out.below hb HX.out.lt
            have y0 : w5.cell? ⟨b, 0, none⟩ = some (.int .u32 (a : Int)) := hk5.cell 0
            have y1 : w5.cell? ⟨b, 1, none⟩ = some (.int .i64 (n : Int)) := hk5.cell 1
            have y5 : w5.cell? ⟨b, 5, none⟩ = some (trPtr l) := hk5.cell 5
            have y6 : w5.cell? ⟨b, 6, none⟩ = some (trPtr r) := hk5.cell 6
            have x0 : w5.cell? ⟨xb, 0, none⟩ = some (.int .u32 (c : Int)) := hx5.cell 0
            have x1 : w5.cell? ⟨xb, 1, none⟩ = some (.int .i64 (k : Int)) := hx5.cell 1
            have hc := evalC Ac; have hf := evalF Ac; have hgl := evalG Ac
            obtain ⟨ρ, hρ⟩ : ∃ ρ, Ac.eval = ρ := ⟨_, rfl⟩
            rw [hρ] at a3 hc hf hgl
            exact relPure hρ (.agg #[.int .u32 (c : Int), .int .i64 (k : Int)]) (by simp [go_sem, hc, hf, hgl, ↓IntWalk.iteOmega, a3, *]) rfl
          · refine relStep_plain rfl ?_
            intro Ac w5 hp
            have hb := hp.bel
            have a38 : Ac.eval (.tmp 38) = .agg #[.int .u32 (a : Int), .int .i64 (n : Int)] := hp.dep 4 (by kernel_rfl)
            have a39 : Ac.eval (.tmp 39) = .agg #[.int .u32 (c : Int), .int .i64 (k : Int)] := hp.dep 5 (by kernel_rfl)
            have hc := evalC Ac; have hf := evalF Ac; have hgl := evalG Ac
            obtain ⟨ρ, hρ⟩ : ∃ ρ, Ac.eval = ρ := ⟨_, rfl⟩
            rw [hρ] at a38 a39 hc hf hgl
            refine relCall hρ 186 #[.agg #[.int .u32 (a : Int), .int .i64 (n : Int)], .agg #[.int .u32 (c : Int), .int .i64 (k : Int)]] (by simp [go_sem, hc, hf, hgl, ↓IntWalk.iteOmega, a38, a39, *]) ?_
            refine (HSd.out w5).mono ?_
            rintro e w6 ⟨rfl, hb6⟩
            exact ⟨_, rfl, by rw [HBit.out]; rfl, hb6⟩
          · refine relStep_plain rfl ?_
            intro Ac w5 hp
            have hb := hp.bel
            have a34 : Ac.eval (.tmp 34) = .pointer (some ⟨b, 0, none⟩) := hp.dep 0 (by kernel_rfl)
            have hc := evalC Ac; have hf := evalF Ac; have hgl := evalG Ac
            obtain ⟨ρ, hρ⟩ : ∃ ρ, Ac.eval = ρ := ⟨_, rfl⟩
            rw [hρ] at a34 hc hf hgl
            exact relPure hρ (.pointer (some ⟨b, 0, none⟩)) (by simp [go_sem, hc, hf, hgl, ↓IntWalk.iteOmega, a34, *]) rfl
          · refine relStep_plain rfl ?_
            intro Ac w5 hp
            have hb := hp.bel
            have a41 : Ac.eval (.tmp 41) = .pointer (some ⟨b, 0, none⟩) := hp.dep 7 (by kernel_rfl)
            have hc := evalC Ac; have hf := evalF Ac; have hgl := evalG Ac
            obtain ⟨ρ, hρ⟩ : ∃ ρ, Ac.eval = ρ := ⟨_, rfl⟩
            rw [hρ] at a41 hc hf hgl
            exact relPure hρ (.pointer (some ⟨b, 5, none⟩)) (by simp [go_sem, hc, hf, hgl, ↓IntWalk.iteOmega, a41, *]) rfl
          · refine relStep_plain rfl ?_
            intro Ac w5 hp
            have hb := hp.bel
            have a42 : Ac.eval (.tmp 42) = .pointer (some ⟨b, 5, none⟩) := hp.dep 8 (by kernel_rfl)
            have a40 : Ac.eval (.tmp 40) = .int .i64 0 := hp.dep 6 (by kernel_rfl)
            have hc := evalC Ac; have hf := evalF Ac; have hgl := evalG Ac
            obtain ⟨ρ, hρ⟩ : ∃ ρ, Ac.eval = ρ := ⟨_, rfl⟩
            rw [hρ] at a42 a40 hc hf hgl
            exact relPure hρ (.pointer (some ⟨b, 5, none⟩)) (by simp [go_sem, hc, hf, hgl, ↓IntWalk.iteOmega, a42, a40, *]) rfl
          · refine relStep_plain rfl ?_
            intro Ac w5 hp
            have hb := hp.bel
            have a43 : Ac.eval (.tmp 43) = .pointer (some ⟨b, 5, none⟩) := hp.dep 9 (by kernel_rfl)
            have hk5 := HN.out.below hb HN.out.lt
            have hx5 := HX.out.below hb HX.out.lt
            have y0 : w5.cell? ⟨b, 0, none⟩ = some (.int .u32 (a : Int)) := hk5.cell 0
            have y1 : w5.cell? ⟨b, 1, none⟩ = some (.int .i64 (n : Int)) := hk5.cell 1
            have y5 : w5.cell? ⟨b, 5, none⟩ = some (trPtr l) := hk5.cell 5
            have y6 : w5.cell? ⟨b, 6, none⟩ = some (trPtr r) := hk5.cell 6
            have x0 : w5.cell? ⟨xb, 0, none⟩ = some (.int .u32 (c : Int)) := hx5.cell 0
            have x1 : w5.cell? ⟨xb, 1, none⟩ = some (.int .i64 (k : Int)) := hx5.cell 1
            have hc := evalC Ac; have hf := evalF Ac; have hgl := evalG Ac
            obtain ⟨ρ, hρ⟩ : ∃ ρ, Ac.eval = ρ := ⟨_, rfl⟩
            rw [hρ] at a43 hc hf hgl
            exact relPure hρ (trPtr l) (by simp [go_sem, hc, hf, hgl, ↓IntWalk.iteOmega, a43, *]) rfl
          intro u w9 hb7 hall
          have e44 : u 10 = trPtr l := relAll_at hall (i := 10) (by decide +kernel)
          clear hall
          simp only [List.drop_succ_cons, List.drop_zero, List.take_succ_cons, List.take_zero, putAll, Act.put, List.setIfInBounds_toArray, List.set_cons_zero, List.set_cons_succ, Nat.zero_add, Nat.reduceAdd, e44]
          have HB9 := hide (HB28.out.trans (hb7.mono HB28.out.size))
          have HX9 := hide (HX.out.below hb7 HX.out.lt)
          clear hb7 HN HX
          go_wp2
          go_step3
          refine ⟨rfl, ⟨l, xb, _, rfl, rfl, HL.out.chg (S := fun _ => False) (chg_below HB9.out) (by simp) (by simp), HWl.out, ?_, HX9.out, HB2.out.trans (HB9.out.mono HB2.out.size)⟩, ?_⟩
          · rw [← HSf.out, trFind, if_pos HCvP.out, if_neg HE.out, if_pos HBit.out]
          · have h1 := trRank_in HIl.out HGa.out.2.1
            refine Nat.lt_of_le_of_lt (Nat.le_of_eq (trDownB (HL.out.chg (S := fun _ => False) (chg_below HB9.out) (by simp) (by simp)) ?_)) (Nat.lt_of_lt_of_eq h1 HRk.out.symm)
            rfl
        · skip
          have Hmn := hide (show AllMono [(fun v _ => v = .pointer (some ⟨b, 0, none⟩)), (fun v _ => v = .pointer (some ⟨b, 0, none⟩)), (fun v _ => v = .pointer (some ⟨b, 0, none⟩)), (fun v _ => v = .pointer (some ⟨b, 0, none⟩)), (fun v _ => v = .agg #[.int .u32 (a : Int), .int .i64 (n : Int)]), (fun v _ => v = .agg #[.int .u32 (c : Int), .int .i64 (k : Int)]), (fun v _ => v = .int .i64 1), (fun v _ => v = .pointer (some ⟨b, 0, none⟩)), (fun v _ => v = .pointer (some ⟨b, 5, none⟩)), (fun v _ => v = .pointer (some ⟨b, 6, none⟩)), (fun v _ => v = trPtr r)] from ⟨fun _ _ _ _ h => h, fun _ _ _ _ h => h, fun _ _ _ _ h => h, fun _ _ _ _ h => h, fun _ _ _ _ h => h, fun _ _ _ _ h => h, fun _ _ _ _ h => h, fun _ _ _ _ h => h, fun _ _ _ _ h => h, fun _ _ _ _ h => h, fun _ _ _ _ h => h, trivial⟩)
          refine wp_region_relT 11 _ (by kernel_rfl) (by kernel_rfl) (by kernel_rfl) (by kernel_rfl) (by kernel_rfl) (relMono _ Hmn.out) ⟨?_, ?_, ?_, ?_, ?_, ?_, ?_, ?_, ?_, ?_, ?_, trivial⟩ ?_
          · refine relStep_plain rfl ?_
            intro Ac w5 hp
            have hb := hp.bel
            have a5 : Ac.eval (.tmp 5) = .pointer (some ⟨b, 0, none⟩) := hp.out 5 (by rfl)
            have hc := evalC Ac; have hf := evalF Ac; have hgl := evalG Ac
            obtain ⟨ρ, hρ⟩ : ∃ ρ, Ac.eval = ρ := ⟨_, rfl⟩
            rw [hρ] at a5 hc hf hgl
            exact relPure hρ (.pointer (some ⟨b, 0, none⟩)) (by simp [go_sem, hc, hf, hgl, ↓IntWalk.iteOmega, a5, *]) rfl
          · refine relStep_plain rfl ?_
            intro Ac w5 hp
            have hb := hp.bel
            have a5 : Ac.eval (.tmp 5) = .pointer (some ⟨b, 0, none⟩) := hp.out 5 (by rfl)
            have hc := evalC Ac; have hf := evalF Ac; have hgl := evalG Ac
            obtain ⟨ρ, hρ⟩ : ∃ ρ, Ac.eval = ρ := ⟨_, rfl⟩
            rw [hρ] at a5 hc hf hgl
            exact relPure hρ (.pointer (some ⟨b, 0, none⟩)) (by simp [go_sem, hc, hf, hgl, ↓IntWalk.iteOmega, a5, *]) rfl
          · refine relStep_plain rfl ?_
            intro Ac w5 hp
            have hb := hp.bel
            have a35 : Ac.eval (.tmp 35) = .pointer (some ⟨b, 0, none⟩) := hp.dep 1 (by kernel_rfl)
            have hc := evalC Ac; have hf := evalF Ac; have hgl := evalG Ac
            obtain ⟨ρ, hρ⟩ : ∃ ρ, Ac.eval = ρ := ⟨_, rfl⟩
            rw [hρ] at a35 hc hf hgl
            exact relPure hρ (.pointer (some ⟨b, 0, none⟩)) (by simp [go_sem, hc, hf, hgl, ↓IntWalk.iteOmega, a35, *]) rfl
          · refine relStep_plain rfl ?_
            intro Ac w5 hp
            have hb := hp.bel
            have a36 : Ac.eval (.tmp 36) = .pointer (some ⟨b, 0, none⟩) := hp.dep 2 (by kernel_rfl)
            have hc := evalC Ac; have hf := evalF Ac; have hgl := evalG Ac
            obtain ⟨ρ, hρ⟩ : ∃ ρ, Ac.eval = ρ := ⟨_, rfl⟩
            rw [hρ] at a36 hc hf hgl
            exact relPure hρ (.pointer (some ⟨b, 0, none⟩)) (by simp [go_sem, hc, hf, hgl, ↓IntWalk.iteOmega, a36, *]) rfl
          · refine relStep_plain rfl ?_
            intro Ac w5 hp
            have hb := hp.bel
            have a37 : Ac.eval (.tmp 37) = .pointer (some ⟨b, 0, none⟩) := hp.dep 3 (by kernel_rfl)
            have hk5 := HN.out.below hb HN.out.lt
            have hx5 := HX.out.below hb HX.out.lt
            have y0 : w5.cell? ⟨b, 0, none⟩ = some (.int .u32 (a : Int)) := hk5.cell 0
            have y1 : w5.cell? ⟨b, 1, none⟩ = some (.int .i64 (n : Int)) := hk5.cell 1
            have y5 : w5.cell? ⟨b, 5, none⟩ = some (trPtr l) := hk5.cell 5
            have y6 : w5.cell? ⟨b, 6, none⟩ = some (trPtr r) := hk5.cell 6
            have x0 : w5.cell? ⟨xb, 0, none⟩ = some (.int .u32 (c : Int)) := hx5.cell 0
            have x1 : w5.cell? ⟨xb, 1, none⟩ = some (.int .i64 (k : Int)) := hx5.cell 1
            have hc := evalC Ac; have hf := evalF Ac; have hgl := evalG Ac
            obtain ⟨ρ, hρ⟩ : ∃ ρ, Ac.eval = ρ := ⟨_, rfl⟩
            rw [hρ] at a37 hc hf hgl
            exact relPure hρ (.agg #[.int .u32 (a : Int), .int .i64 (n : Int)]) (by simp [go_sem, hc, hf, hgl, ↓IntWalk.iteOmega, a37, *]) rfl
          · refine relStep_plain rfl ?_
            intro Ac w5 hp
            have hb := hp.bel
            have a3 : Ac.eval (.tmp 3) = .pointer (some ⟨xb, 0, none⟩) := hp.out 3 (by rfl)
            have hk5 := HN.out.below hb HN.out.lt
            have hx5 := HX.out.below hb HX.out.lt
            have y0 : w5.cell? ⟨b, 0, none⟩ = some (.int .u32 (a : Int)) := hk5.cell 0
            have y1 : w5.cell? ⟨b, 1, none⟩ = some (.int .i64 (n : Int)) := hk5.cell 1
            have y5 : w5.cell? ⟨b, 5, none⟩ = some (trPtr l) := hk5.cell 5
            have y6 : w5.cell? ⟨b, 6, none⟩ = some (trPtr r) := hk5.cell 6
            have x0 : w5.cell? ⟨xb, 0, none⟩ = some (.int .u32 (c : Int)) := hx5.cell 0
            have x1 : w5.cell? ⟨xb, 1, none⟩ = some (.int .i64 (k : Int)) := hx5.cell 1
            have hc := evalC Ac; have hf := evalF Ac; have hgl := evalG Ac
            obtain ⟨ρ, hρ⟩ : ∃ ρ, Ac.eval = ρ := ⟨_, rfl⟩
            rw [hρ] at a3 hc hf hgl
            exact relPure hρ (.agg #[.int .u32 (c : Int), .int .i64 (k : Int)]) (by simp [go_sem, hc, hf, hgl, ↓IntWalk.iteOmega, a3, *]) rfl
          · refine relStep_plain rfl ?_
            intro Ac w5 hp
            have hb := hp.bel
            have a38 : Ac.eval (.tmp 38) = .agg #[.int .u32 (a : Int), .int .i64 (n : Int)] := hp.dep 4 (by kernel_rfl)
            have a39 : Ac.eval (.tmp 39) = .agg #[.int .u32 (c : Int), .int .i64 (k : Int)] := hp.dep 5 (by kernel_rfl)
            have hc := evalC Ac; have hf := evalF Ac; have hgl := evalG Ac
            obtain ⟨ρ, hρ⟩ : ∃ ρ, Ac.eval = ρ := ⟨_, rfl⟩
            rw [hρ] at a38 a39 hc hf hgl
            refine relCall hρ 186 #[.agg #[.int .u32 (a : Int), .int .i64 (n : Int)], .agg #[.int .u32 (c : Int), .int .i64 (k : Int)]] (by simp [go_sem, hc, hf, hgl, ↓IntWalk.iteOmega, a38, a39, *]) ?_
            refine (HSd.out w5).mono ?_
            rintro e w6 ⟨rfl, hb6⟩
            exact ⟨_, rfl, by rw [HBit.out]; rfl, hb6⟩
          · refine relStep_plain rfl ?_
            intro Ac w5 hp
            have hb := hp.bel
            have a34 : Ac.eval (.tmp 34) = .pointer (some ⟨b, 0, none⟩) := hp.dep 0 (by kernel_rfl)
            have hc := evalC Ac; have hf := evalF Ac; have hgl := evalG Ac
            obtain ⟨ρ, hρ⟩ : ∃ ρ, Ac.eval = ρ := ⟨_, rfl⟩
            rw [hρ] at a34 hc hf hgl
            exact relPure hρ (.pointer (some ⟨b, 0, none⟩)) (by simp [go_sem, hc, hf, hgl, ↓IntWalk.iteOmega, a34, *]) rfl
          · refine relStep_plain rfl ?_
            intro Ac w5 hp
            have hb := hp.bel
            have a41 : Ac.eval (.tmp 41) = .pointer (some ⟨b, 0, none⟩) := hp.dep 7 (by kernel_rfl)
            have hc := evalC Ac; have hf := evalF Ac; have hgl := evalG Ac
            obtain ⟨ρ, hρ⟩ : ∃ ρ, Ac.eval = ρ := ⟨_, rfl⟩
            rw [hρ] at a41 hc hf hgl
            exact relPure hρ (.pointer (some ⟨b, 5, none⟩)) (by simp [go_sem, hc, hf, hgl, ↓IntWalk.iteOmega, a41, *]) rfl
          · refine relStep_plain rfl ?_
            intro Ac w5 hp
            have hb := hp.bel
            have a42 : Ac.eval (.tmp 42) = .pointer (some ⟨b, 5, none⟩) := hp.dep 8 (by kernel_rfl)
            have a40 : Ac.eval (.tmp 40) = .int .i64 1 := hp.dep 6 (by kernel_rfl)
            have hc := evalC Ac; have hf := evalF Ac; have hgl := evalG Ac
            obtain ⟨ρ, hρ⟩ : ∃ ρ, Ac.eval = ρ := ⟨_, rfl⟩
            rw [hρ] at a42 a40 hc hf hgl
            exact relPure hρ (.pointer (some ⟨b, 6, none⟩)) (by simp [go_sem, hc, hf, hgl, ↓IntWalk.iteOmega, a42, a40, *]) rfl
          · refine relStep_plain rfl ?_
            intro Ac w5 hp
            have hb := hp.bel
            have a43 : Ac.eval (.tmp 43) = .pointer (some ⟨b, 6, none⟩) := hp.dep 9 (by kernel_rfl)
            have hk5 := HN.out.below hb HN.out.lt
            have hx5 := HX.out.below hb HX.out.lt
            have y0 : w5.cell? ⟨b, 0, none⟩ = some (.int .u32 (a : Int)) := hk5.cell 0
            have y1 : w5.cell? ⟨b, 1, none⟩ = some (.int .i64 (n : Int)) := hk5.cell 1
            have y5 : w5.cell? ⟨b, 5, none⟩ = some (trPtr l) := hk5.cell 5
            have y6 : w5.cell? ⟨b, 6, none⟩ = some (trPtr r) := hk5.cell 6
            have x0 : w5.cell? ⟨xb, 0, none⟩ = some (.int .u32 (c : Int)) := hx5.cell 0
            have x1 : w5.cell? ⟨xb, 1, none⟩ = some (.int .i64 (k : Int)) := hx5.cell 1
            have hc := evalC Ac; have hf := evalF Ac; have hgl := evalG Ac
            obtain ⟨ρ, hρ⟩ : ∃ ρ, Ac.eval = ρ := ⟨_, rfl⟩
            rw [hρ] at a43 hc hf hgl
            exact relPure hρ (trPtr r) (by simp [go_sem, hc, hf, hgl, ↓IntWalk.iteOmega, a43, *]) rfl
          intro u w9 hb7 hall
          have e44 : u 10 = trPtr r := relAll_at hall (i := 10) (by decide +kernel)
          clear hall
          simp only [List.drop_succ_cons, List.drop_zero, List.take_succ_cons, List.take_zero, putAll, Act.put, List.setIfInBounds_toArray, List.set_cons_zero, List.set_cons_succ, Nat.zero_add, Nat.reduceAdd, e44]
          have HB9 := hide (HB28.out.trans (hb7.mono HB28.out.size))
          have HX9 := hide (HX.out.below hb7 HX.out.lt)
          clear hb7 HN HX
          go_wp2
          go_step3
          refine ⟨rfl, ⟨r, xb, _, rfl, rfl, HRr.out.chg (S := fun _ => False) (chg_below HB9.out) (by simp) (by simp), HWr.out, ?_, HX9.out, HB2.out.trans (HB9.out.mono HB2.out.size)⟩, ?_⟩
          · rw [← HSf.out, trFind, if_pos HCvP.out, if_neg HE.out, if_neg (by have := HBit.out; omega)]
          · have h1 := trRank_in HIr.out HGa.out.2.1
            refine Nat.lt_of_le_of_lt (Nat.le_of_eq (trDownB (HRr.out.chg (S := fun _ => False) (chg_below HB9.out) (by simp) (by simp)) ?_)) (Nat.lt_of_lt_of_eq h1 HRk.out.symm)
            rfl
    · rw [decide_eq_false hcv] at HCv
      have HR : Hid (trPtr (trFind c k t) = .pointer none) := hide (by rw [← HSf.out, trFind, if_neg hcv]; rfl)
      clear hcv
      go_upto_region 4 with fail
      have Hmn := hide (show AllMono [(fun v _ => v = .pointer (some ⟨b, 0, none⟩)), (fun v _ => v = .bool false), (fun v _ => v = .bool false), (fun v _ => v = .pointer (some ⟨b, 0, none⟩)), (fun v _ => v = .pointer (some ⟨b, 0, none⟩)), (fun v _ => v = .pointer (some ⟨b, 0, none⟩)), (fun v _ => v = .agg #[.int .u32 (a : Int), .int .i64 (n : Int)]), (fun v _ => v = .agg #[.int .u32 (c : Int), .int .i64 (k : Int)]), (fun v _ => v = .bool false), (fun v _ => v = .bool true), (fun v _ => v = .bool true)] from ⟨fun _ _ _ _ h => h, fun _ _ _ _ h => h, fun _ _ _ _ h => h, fun _ _ _ _ h => h, fun _ _ _ _ h => h, fun _ _ _ _ h => h, fun _ _ _ _ h => h, fun _ _ _ _ h => h, fun _ _ _ _ h => h, fun _ _ _ _ h => h, fun _ _ _ _ h => h, trivial⟩)
      refine wp_region_rel _ (by kernel_rfl) (by kernel_rfl) (relMono _ Hmn.out) ⟨?_, ?_, ?_, ?_, ?_, ?_, ?_, ?_, ?_, ?_, ?_, trivial⟩ ?_
      · refine relStep_plain rfl ?_
        intro Ac w5 hp
        have hb := hp.bel
        have a5 : Ac.eval (.tmp 5) = .pointer (some ⟨b, 0, none⟩) := hp.out 5 (by rfl)
        have hc := evalC Ac; have hf := evalF Ac; have hgl := evalG Ac
        obtain ⟨ρ, hρ⟩ : ∃ ρ, Ac.eval = ρ := ⟨_, rfl⟩
        rw [hρ] at a5 hc hf hgl
        exact relPure hρ (.pointer (some ⟨b, 0, none⟩)) (by simp [go_sem, hc, hf, hgl, ↓IntWalk.iteOmega, a5, *]) rfl
      · refine relStep_plain rfl ?_
        intro Ac w5 hp
        have hb := hp.bel
        have a17 : Ac.eval (.tmp 17) = .pointer (some ⟨b, 0, none⟩) := hp.dep 0 (by kernel_rfl)
        have hc := evalC Ac; have hf := evalF Ac; have hgl := evalG Ac
        obtain ⟨ρ, hρ⟩ : ∃ ρ, Ac.eval = ρ := ⟨_, rfl⟩
        rw [hρ] at a17 hc hf hgl
        exact relPure hρ (.bool false) (by simp [go_sem, hc, hf, hgl, ↓IntWalk.iteOmega, a17, *]) rfl
      · refine relStep_plain rfl ?_
        intro Ac w5 hp
        have hb := hp.bel
        have a18 : Ac.eval (.tmp 18) = .bool false := hp.dep 1 (by kernel_rfl)
        have hc := evalC Ac; have hf := evalF Ac; have hgl := evalG Ac
        obtain ⟨ρ, hρ⟩ : ∃ ρ, Ac.eval = ρ := ⟨_, rfl⟩
        rw [hρ] at a18 hc hf hgl
        exact relPure hρ (.bool false) (by simp [go_sem, hc, hf, hgl, ↓IntWalk.iteOmega, a18, *]) rfl
      · refine relStep_guard (g := 2) (b := false) (x := false) rfl (by kernel_rfl) rfl (by kernel_rfl) rfl (fun _ _ h => h) ?_
        intro Ac w5 hp
        have hb := hp.bel
        have a5 : Ac.eval (.tmp 5) = .pointer (some ⟨b, 0, none⟩) := hp.out 5 (by rfl)
        have hc := evalC Ac; have hf := evalF Ac; have hgl := evalG Ac
        obtain ⟨ρ, hρ⟩ : ∃ ρ, Ac.eval = ρ := ⟨_, rfl⟩
        rw [hρ] at a5 hc hf hgl
        exact relPure hρ (.pointer (some ⟨b, 0, none⟩)) (by simp [go_sem, hc, hf, hgl, ↓IntWalk.iteOmega, a5, *]) rfl
      · refine relStep_guard (g := 2) (b := false) (x := false) rfl (by kernel_rfl) rfl (by kernel_rfl) rfl (fun _ _ h => h) ?_
        intro Ac w5 hp
        have hb := hp.bel
        have a20 : Ac.eval (.tmp 20) = .pointer (some ⟨b, 0, none⟩) := hp.dep 3 (by kernel_rfl)
        have hc := evalC Ac; have hf := evalF Ac; have hgl := evalG Ac
        obtain ⟨ρ, hρ⟩ : ∃ ρ, Ac.eval = ρ := ⟨_, rfl⟩
        rw [hρ] at a20 hc hf hgl
        exact relPure hρ (.pointer (some ⟨b, 0, none⟩)) (by simp [go_sem, hc, hf, hgl, ↓IntWalk.iteOmega, a20, *]) rfl
      · refine relStep_guard (g := 2) (b := false) (x := false) rfl (by kernel_rfl) rfl (by kernel_rfl) rfl (fun _ _ h => h) ?_
        intro Ac w5 hp
        have hb := hp.bel
        have a21 : Ac.eval (.tmp 21) = .pointer (some ⟨b, 0, none⟩) := hp.dep 4 (by kernel_rfl)
        have hc := evalC Ac; have hf := evalF Ac; have hgl := evalG Ac
        obtain ⟨ρ, hρ⟩ : ∃ ρ, Ac.eval = ρ := ⟨_, rfl⟩
        rw [hρ] at a21 hc hf hgl
        exact relPure hρ (.pointer (some ⟨b, 0, none⟩)) (by simp [go_sem, hc, hf, hgl, ↓IntWalk.iteOmega, a21, *]) rfl
      · refine relStep_guard (g := 2) (b := false) (x := false) rfl (by kernel_rfl) rfl (by kernel_rfl) rfl (fun _ _ h => h) ?_
        intro Ac w5 hp
        have hb := hp.bel
        have a22 : Ac.eval (.tmp 22) = .pointer (some ⟨b, 0, none⟩) := hp.dep 5 (by kernel_rfl)
        have hk5 := HN.out.below hb HN.out.lt
        have hx5 := HX.out.below hb HX.out.lt
        have y0 : w5.cell? ⟨b, 0, none⟩ = some (.int .u32 (a : Int)) := hk5.cell 0
        have y1 : w5.cell? ⟨b, 1, none⟩ = some (.int .i64 (n : Int)) := hk5.cell 1
        have x0 : w5.cell? ⟨xb, 0, none⟩ = some (.int .u32 (c : Int)) := hx5.cell 0
        have x1 : w5.cell? ⟨xb, 1, none⟩ = some (.int .i64 (k : Int)) := hx5.cell 1
        have hc := evalC Ac; have hf := evalF Ac; have hgl := evalG Ac
        obtain ⟨ρ, hρ⟩ : ∃ ρ, Ac.eval = ρ := ⟨_, rfl⟩
        rw [hρ] at a22 hc hf hgl
        exact relPure hρ (.agg #[.int .u32 (a : Int), .int .i64 (n : Int)]) (by simp [go_sem, hc, hf, hgl, ↓IntWalk.iteOmega, a22, *]) rfl
      · refine relStep_guard (g := 2) (b := false) (x := false) rfl (by kernel_rfl) rfl (by kernel_rfl) rfl (fun _ _ h => h) ?_
        intro Ac w5 hp
        have hb := hp.bel
        have a3 : Ac.eval (.tmp 3) = .pointer (some ⟨xb, 0, none⟩) := hp.out 3 (by rfl)
        have hk5 := HN.out.below hb HN.out.lt
        have hx5 := HX.out.below hb HX.out.lt
        have y0 : w5.cell? ⟨b, 0, none⟩ = some (.int .u32 (a : Int)) := hk5.cell 0
        have y1 : w5.cell? ⟨b, 1, none⟩ = some (.int .i64 (n : Int)) := hk5.cell 1
        have x0 : w5.cell? ⟨xb, 0, none⟩ = some (.int .u32 (c : Int)) := hx5.cell 0
        have x1 : w5.cell? ⟨xb, 1, none⟩ = some (.int .i64 (k : Int)) := hx5.cell 1
        have hc := evalC Ac; have hf := evalF Ac; have hgl := evalG Ac
        obtain ⟨ρ, hρ⟩ : ∃ ρ, Ac.eval = ρ := ⟨_, rfl⟩
        rw [hρ] at a3 hc hf hgl
        exact relPure hρ (.agg #[.int .u32 (c : Int), .int .i64 (k : Int)]) (by simp [go_sem, hc, hf, hgl, ↓IntWalk.iteOmega, a3, *]) rfl
      · refine relStep_guard (g := 2) (b := false) (x := false) rfl (by kernel_rfl) rfl (by kernel_rfl) rfl (fun _ _ h => h) ?_
        intro Ac w5 hp
        have hb := hp.bel
        have a23 : Ac.eval (.tmp 23) = .agg #[.int .u32 (a : Int), .int .i64 (n : Int)] := hp.dep 6 (by kernel_rfl)
        have a24 : Ac.eval (.tmp 24) = .agg #[.int .u32 (c : Int), .int .i64 (k : Int)] := hp.dep 7 (by kernel_rfl)
        have hc := evalC Ac; have hf := evalF Ac; have hgl := evalG Ac
        obtain ⟨ρ, hρ⟩ : ∃ ρ, Ac.eval = ρ := ⟨_, rfl⟩
        rw [hρ] at a23 a24 hc hf hgl
        refine relCall hρ 185 #[.agg #[.int .u32 (a : Int), .int .i64 (n : Int)], .agg #[.int .u32 (c : Int), .int .i64 (k : Int)]] (by simp [go_sem, hc, hf, hgl, ↓IntWalk.iteOmega, a23, a24, *]) ?_
        refine (HCv.out w5).mono ?_
        rintro e w6 ⟨rfl, hb6⟩
        exact ⟨_, rfl, rfl, hb6⟩
      · refine relStep_guard (g := 2) (b := false) (x := false) rfl (by kernel_rfl) rfl (by kernel_rfl) rfl (fun _ _ h => h) ?_
        intro Ac w5 hp
        have hb := hp.bel
        have a25 : Ac.eval (.tmp 25) = .bool false := hp.dep 8 (by kernel_rfl)
        have hc := evalC Ac; have hf := evalF Ac; have hgl := evalG Ac
        obtain ⟨ρ, hρ⟩ : ∃ ρ, Ac.eval = ρ := ⟨_, rfl⟩
        rw [hρ] at a25 hc hf hgl
        exact relPure hρ (.bool true) (by simp [go_sem, hc, hf, hgl, ↓IntWalk.iteOmega, a25, *]) rfl
      · refine relStep_plain rfl ?_
        intro Ac w5 hp
        have hb := hp.bel
        have a19 : Ac.eval (.tmp 19) = .bool false := hp.dep 2 (by kernel_rfl)
        have a26 : Ac.eval (.tmp 26) = .bool true := hp.dep 9 (by kernel_rfl)
        have hc := evalC Ac; have hf := evalF Ac; have hgl := evalG Ac
        obtain ⟨ρ, hρ⟩ : ∃ ρ, Ac.eval = ρ := ⟨_, rfl⟩
        rw [hρ] at a19 a26 hc hf hgl
        exact relPure hρ (.bool true) (by simp [go_sem, hc, hf, hgl, ↓IntWalk.iteOmega, a19, a26, *]) rfl
      intro u w7 hb7 hall
      have e27 : u 10 = .bool true := relAll_at hall (i := 10) (by decide +kernel)
      clear hall
      simp only [List.drop_succ_cons, List.drop_zero, List.take_succ_cons, List.take_zero, putAll, Act.put, List.setIfInBounds_toArray, List.set_cons_zero, List.set_cons_succ, Nat.zero_add, Nat.reduceAdd, e27]
      have HB7 := hide (HB2.out.trans (hb7.mono HB2.out.size))
      clear hb7
      go_wp2
      simp only [Exit.jump]
      go_ret
      exact ⟨by rw [HR.out]; rfl, HB7.out⟩
set_option maxRecDepth 100000 in
theorem topB_any {α : Type} (g : Nat) (t : Tr α) (w : World) (hg : Blk w g 192 #[trPtr t]) : Calls Tryz.prog 136 #[.pointer (some ⟨g, 0, none⟩)] w fun e w' => e = .returned (trPtr t) ∧ w' = w := by
  have z : w.cell? ⟨g, 0, none⟩ = some (trPtr t) := hg.cell 0
  clear hg
  go_enter Tryz.func136, Tryz.ntmps136
  go_wp2
  go_ret
  exact ⟨rfl, rfl⟩
set_option maxRecDepth 100000 in
theorem topB_nil (w : World) : Calls Tryz.prog 136 #[.pointer none] w fun e w' => e = .returned (.pointer none) ∧ w' = w := by
  go_enter Tryz.func136, Tryz.ntmps136
  go_wp2
  go_ret
  exact ⟨rfl, rfl⟩
set_option maxRecDepth 100000 in
theorem newB_any (w : World) : Calls Tryz.prog 66 #[] w fun e w' => e = .returned (.pointer (some ⟨w.heap.size, 0, none⟩)) ∧ Blk w' w.heap.size 192 #[.pointer none] ∧ Below w.heap.size w w' := by
  have HB := hide (blkBelow1 w (.cells #[.pointer none] 192))
  have HK := hide (Blk.new w 192 #[.pointer none])
  go_enter Tryz.func66, Tryz.ntmps66
  go_wp2
  go_ret
  exact ⟨rfl, HK.out, HB.out⟩
set_option maxRecDepth 100000 in
theorem tlenB_any {α : Type} {F : Nat → Prop} {R : World → List Value → α → Prop} (g : Nat) (t : Tr α) (w : World) (hg : Blk w g 192 #[trPtr t]) (h : TrW 1 249 F R w t) : Calls Tryz.prog 75 #[.pointer (some ⟨g, 0, none⟩)] w fun e w' => e = .returned (.int .i64 (trCnt t : Int)) ∧ w' = w := by
  have HT := hide (topB_any g t w hg)
  have HC := hide (countB_any t w h)
  clear hg h
  go_enter Tryz.func75, Tryz.ntmps75
  go_wp2_with fail
  refine HT.out.mono ?_
  rintro e w1 ⟨rfl, rfl⟩
  go_wp2_with fail
  refine HC.out.mono ?_
  rintro e w2 ⟨rfl, rfl⟩
  go_wp2
  go_ret
  exact ⟨rfl, rfl⟩
set_option maxRecDepth 100000 in
set_option maxHeartbeats 4000000 in
theorem putnilB_any (a n : Nat) (vb : Bool) (w : World) :
    Calls Tryz.prog 211 #[.pointer none, .agg #[.int .u32 (a : Int), .int .i64 (n : Int)], .bool vb] w fun e w' => ∃ b, e = .returned (.pointer (some ⟨b, 0, none⟩)) ∧ w.heap.size ≤ b ∧ Blk w' b 249 (ndC a n [.bool vb] true 1 (.pointer none) (.pointer none)) ∧ Below w.heap.size w w' := by
  have HB := hide (blkBelow2 w (.cells #[.int .u32 (a : Int), .int .i64 (n : Int)] 24) (.cells (ndC a n [.bool vb] true 1 (.pointer none) (.pointer none)) 249))
  have HK : Hid (Blk ((w.alloc (.cells #[.int .u32 (a : Int), .int .i64 (n : Int)] 24)).alloc (.cells (ndC a n [.bool vb] true 1 (.pointer none) (.pointer none)) 249)) (w.heap.size + 1) 249 (ndC a n [.bool vb] true 1 (.pointer none) (.pointer none))) := hide (blk_new' _ _ (by simp))
  go_enter Tryz.func211, Tryz.ntmps211
  go_wp2
  go_ret
  exact ⟨w.heap.size + 1, rfl, by omega, HK.out, HB.out⟩
set_option maxRecDepth 100000 in
set_option maxHeartbeats 8000000 in
theorem puteB_any {α : Type} {F : Nat → Prop} {R : World → List Value → α → Prop} (g a n : Nat) (x : α) (vb : Bool) (w : World) (ha : PG a n) (hg : Blk w g 192 #[.pointer none]) (hF : ∀ k, F k → k < w.heap.size) (hv : FrS F none (fun w => R w [.bool vb] x) w) (hgF : ¬ F g) :
    Calls Tryz.prog 167 #[.pointer (some ⟨g, 0, none⟩), .agg #[.int .u32 (a : Int), .int .i64 (n : Int)], .bool vb] w fun e w' => e = .returned (.tuple #[.bool false, .bool false]) ∧ ∃ b, w.heap.size ≤ b ∧ Blk w' g 192 #[.pointer (some ⟨b, 0, none⟩)] ∧ TrA 1 249 F R w' (.nd b a n (some x) .nil .nil) ∧ ChgS (fun k => k = g) w w' := by
  obtain ⟨w0, hw0⟩ : ∃ w0, w.alloc (.cells #[.int .u32 (a : Int), .int .i64 (n : Int)] 24) = w0 := ⟨_, rfl⟩
  have hb0 : Below w.heap.size w w0 := hw0 ▸ blkBelow1 w _
  have HX0 : Hid (Blk w0 w.heap.size 24 #[.int .u32 (a : Int), .int .i64 (n : Int)]) := hide (hw0 ▸ Blk.new w _ _)
  have HGd := hide (Good_any a (n : Int) ha.1 (by omega) (by have := ha.2.1; omega))
  rw [good_pg ha] at HGd
  unfold pfx at HGd
  have HFd := hide (fun W (hb : Below w.heap.size w W) => findB_any (F := F) (R := R) g a n (.nil : Tr α) W ha (hg.below hb hg.lt) trivial trivial)
  have HG := hide hg
  have HW0 := hide hw0
  have HB0 := hide hb0
  have HFv := hide hv
  have HF := hide hF
  have HPa := hide ha
  have HgF := hide hgF
  clear hw0 hb0 hg hF hv ha hgF
  go_enter Tryz.func167, Tryz.ntmps167
  go_wp2_with fail
  rw [HW0.out]
  refine (HGd.out _).mono ?_
  rintro e w1 ⟨rfl, hb1⟩
  have HB1 := hide (HB0.out.trans (hb1.mono HB0.out.size))
  have HX1 := hide (HX0.out.below hb1 HX0.out.lt)
  have x0 : w1.cell? ⟨w.heap.size, 0, none⟩ = some (.int .u32 (a : Int)) := HX1.out.cell 0
  have x1 : w1.cell? ⟨w.heap.size, 1, none⟩ = some (.int .i64 (n : Int)) := HX1.out.cell 1
  clear hb1
  go_wp2_with fail
  refine (HFd.out _ HB1.out).mono ?_
  rintro e w2 ⟨rfl, hb2⟩
  have HB2 := hide (HB1.out.trans (hb2.mono HB1.out.size))
  have HX2 := hide (HX1.out.below hb2 HX1.out.lt)
  have HG2 := hide (HG.out.below HB2.out HG.out.lt)
  have e0 : trPtr (trFind a n (.nil : Tr α)) = .pointer none := rfl
  rw [e0]
  clear e0 hb2 x0 x1
  go_upto_region 7 with fail
  have Hmn := hide (show AllMono [(fun v _ => v = .pointer (some ⟨g, 0, none⟩)), (fun v _ => v = .pointer (some ⟨g, 0, none⟩)), (fun v _ => v = .pointer (some ⟨g, 0, none⟩)), (fun v _ => v = .pointer (some ⟨g, 0, none⟩)), (fun v _ => v = .pointer none), (fun v _ => v = .agg #[.int .u32 (a : Int), .int .i64 (n : Int)]), (fun v _ => v = .bool vb), (fun v W => ∃ b, v = .pointer (some ⟨b, 0, none⟩) ∧ w2.heap.size ≤ b ∧ Blk W b 249 (ndC a n [.bool vb] true 1 (.pointer none) (.pointer none))), (fun v _ => v = .pointer (some ⟨g, 0, none⟩)), (fun v _ => v = .pointer (some ⟨g, 0, none⟩))] from ⟨fun _ _ _ _ h => h, fun _ _ _ _ h => h, fun _ _ _ _ h => h, fun _ _ _ _ h => h, fun _ _ _ _ h => h, fun _ _ _ _ h => h, fun _ _ _ _ h => h, fun v W1 W2 hb ⟨b, e, h1, h2⟩ => ⟨b, e, h1, h2.below hb h2.lt⟩, fun _ _ _ _ h => h, fun _ _ _ _ h => h, trivial⟩)
  refine wp_region_relT 10 _ (by kernel_rfl) (by kernel_rfl) (by kernel_rfl) (by kernel_rfl) (by kernel_rfl) (relMono _ Hmn.out) ⟨?_, ?_, ?_, ?_, ?_, ?_, ?_, ?_, ?_, ?_, trivial⟩ ?_
  · refine relStep_plain rfl ?_
    intro Ac w5 hp
    have hb := hp.bel
    have a0 : Ac.eval (.tmp 0) = .pointer (some ⟨g, 0, none⟩) := hp.out 0 (by rfl)
    have hc := evalC Ac; have hf := evalF Ac; have hgl := evalG Ac
    obtain ⟨ρ, hρ⟩ : ∃ ρ, Ac.eval = ρ := ⟨_, rfl⟩
    rw [hρ] at a0 hc hf hgl
    exact relPure hρ (.pointer (some ⟨g, 0, none⟩)) (by simp [go_sem, hc, hf, hgl, ↓IntWalk.iteOmega, a0, *]) rfl
  · refine relStep_plain rfl ?_
    intro Ac w5 hp
    have hb := hp.bel
    have a0 : Ac.eval (.tmp 0) = .pointer (some ⟨g, 0, none⟩) := hp.out 0 (by rfl)
    have hc := evalC Ac; have hf := evalF Ac; have hgl := evalG Ac
    obtain ⟨ρ, hρ⟩ : ∃ ρ, Ac.eval = ρ := ⟨_, rfl⟩
    rw [hρ] at a0 hc hf hgl
    exact relPure hρ (.pointer (some ⟨g, 0, none⟩)) (by simp [go_sem, hc, hf, hgl, ↓IntWalk.iteOmega, a0, *]) rfl
  · refine relStep_plain rfl ?_
    intro Ac w5 hp
    have hb := hp.bel
    have a38 : Ac.eval (.tmp 38) = .pointer (some ⟨g, 0, none⟩) := hp.dep 1 (by kernel_rfl)
    have hc := evalC Ac; have hf := evalF Ac; have hgl := evalG Ac
    obtain ⟨ρ, hρ⟩ : ∃ ρ, Ac.eval = ρ := ⟨_, rfl⟩
    rw [hρ] at a38 hc hf hgl
    exact relPure hρ (.pointer (some ⟨g, 0, none⟩)) (by simp [go_sem, hc, hf, hgl, ↓IntWalk.iteOmega, a38, *]) rfl
  · refine relStep_plain rfl ?_
    intro Ac w5 hp
    have hb := hp.bel
    have a39 : Ac.eval (.tmp 39) = .pointer (some ⟨g, 0, none⟩) := hp.dep 2 (by kernel_rfl)
    have hc := evalC Ac; have hf := evalF Ac; have hgl := evalG Ac
    obtain ⟨ρ, hρ⟩ : ∃ ρ, Ac.eval = ρ := ⟨_, rfl⟩
    rw [hρ] at a39 hc hf hgl
    exact relPure hρ (.pointer (some ⟨g, 0, none⟩)) (by simp [go_sem, hc, hf, hgl, ↓IntWalk.iteOmega, a39, *]) rfl
  · refine relStep_plain rfl ?_
    intro Ac w5 hp
    have hb := hp.bel
    have a40 : Ac.eval (.tmp 40) = .pointer (some ⟨g, 0, none⟩) := hp.dep 3 (by kernel_rfl)
    have hg5 := HG2.out.below hb HG2.out.lt
    have z0 : w5.cell? ⟨g, 0, none⟩ = some (.pointer none) := hg5.cell 0
    have hc := evalC Ac; have hf := evalF Ac; have hgl := evalG Ac
    obtain ⟨ρ, hρ⟩ : ∃ ρ, Ac.eval = ρ := ⟨_, rfl⟩
    rw [hρ] at a40 hc hf hgl
    exact relPure hρ (.pointer none) (by simp [go_sem, hc, hf, hgl, ↓IntWalk.iteOmega, a40, *]) rfl
  · refine relStep_plain rfl ?_
    intro Ac w5 hp
    have hb := hp.bel
    have a4 : Ac.eval (.tmp 4) = .pointer (some ⟨w.heap.size, 0, none⟩) := hp.out 4 (by rfl)
    have hx5 := HX2.out.below hb HX2.out.lt
    have x0 : w5.cell? ⟨w.heap.size, 0, none⟩ = some (.int .u32 (a : Int)) := hx5.cell 0
    have x1 : w5.cell? ⟨w.heap.size, 1, none⟩ = some (.int .i64 (n : Int)) := hx5.cell 1
    have hc := evalC Ac; have hf := evalF Ac; have hgl := evalG Ac
    obtain ⟨ρ, hρ⟩ : ∃ ρ, Ac.eval = ρ := ⟨_, rfl⟩
    rw [hρ] at a4 hc hf hgl
    exact relPure hρ (.agg #[.int .u32 (a : Int), .int .i64 (n : Int)]) (by simp [go_sem, hc, hf, hgl, ↓IntWalk.iteOmega, a4, *]) rfl
  · refine relStep_plain rfl ?_
    intro Ac w5 hp
    have hb := hp.bel
    have a2 : Ac.eval (.tmp 2) = .bool vb := hp.out 2 (by rfl)
    have hc := evalC Ac; have hf := evalF Ac; have hgl := evalG Ac
    obtain ⟨ρ, hρ⟩ : ∃ ρ, Ac.eval = ρ := ⟨_, rfl⟩
    rw [hρ] at a2 hc hf hgl
    exact relPure hρ (.bool vb) (by simp [go_sem, hc, hf, hgl, ↓IntWalk.iteOmega, a2, *]) rfl
  · refine relStep_plain rfl ?_
    intro Ac w5 hp
    have hb := hp.bel
    have a41 : Ac.eval (.tmp 41) = .pointer none := hp.dep 4 (by kernel_rfl)
    have a42 : Ac.eval (.tmp 42) = .agg #[.int .u32 (a : Int), .int .i64 (n : Int)] := hp.dep 5 (by kernel_rfl)
    have a43 : Ac.eval (.tmp 43) = .bool vb := hp.dep 6 (by kernel_rfl)
    have hc := evalC Ac; have hf := evalF Ac; have hgl := evalG Ac
    obtain ⟨ρ, hρ⟩ : ∃ ρ, Ac.eval = ρ := ⟨_, rfl⟩
    rw [hρ] at a41 a42 a43 hc hf hgl
    refine relCall hρ 211 #[.pointer none, .agg #[.int .u32 (a : Int), .int .i64 (n : Int)], .bool vb] (by simp [go_sem, hc, hf, hgl, ↓IntWalk.iteOmega, a41, a42, a43, *]) ?_
    refine (putnilB_any a n vb w5).mono ?_
    rintro e w6 ⟨b, rfl, hb2, hk2, hb6⟩
    exact ⟨_, rfl, ⟨b, rfl, Nat.le_trans hp.bel.size hb2, hk2⟩, hb6⟩
  · refine relStep_plain rfl ?_
    intro Ac w5 hp
    have hb := hp.bel
    have a37 : Ac.eval (.tmp 37) = .pointer (some ⟨g, 0, none⟩) := hp.dep 0 (by kernel_rfl)
    have hc := evalC Ac; have hf := evalF Ac; have hgl := evalG Ac
    obtain ⟨ρ, hρ⟩ : ∃ ρ, Ac.eval = ρ := ⟨_, rfl⟩
    rw [hρ] at a37 hc hf hgl
    exact relPure hρ (.pointer (some ⟨g, 0, none⟩)) (by simp [go_sem, hc, hf, hgl, ↓IntWalk.iteOmega, a37, *]) rfl
  · refine relStep_plain rfl ?_
    intro Ac w5 hp
    have hb := hp.bel
    have a45 : Ac.eval (.tmp 45) = .pointer (some ⟨g, 0, none⟩) := hp.dep 8 (by kernel_rfl)
    have hc := evalC Ac; have hf := evalF Ac; have hgl := evalG Ac
    obtain ⟨ρ, hρ⟩ : ∃ ρ, Ac.eval = ρ := ⟨_, rfl⟩
    rw [hρ] at a45 hc hf hgl
    exact relPure hρ (.pointer (some ⟨g, 0, none⟩)) (by simp [go_sem, hc, hf, hgl, ↓IntWalk.iteOmega, a45, *]) rfl
  intro u w7 hb7 hall
  obtain ⟨b44, e44, hb44, hk44⟩ := relAll_at hall (i := 7) (by decide +kernel)
  change u 7 = _ at e44
  have e46 : u 9 = .pointer (some ⟨g, 0, none⟩) := relAll_at hall (i := 9) (by decide +kernel)
  clear hall
  simp only [List.drop_succ_cons, List.drop_zero, List.take_succ_cons, List.take_zero, putAll, Act.put, List.setIfInBounds_toArray, List.set_cons_zero, List.set_cons_succ, Nat.zero_add, Nat.reduceAdd, e44, e46]
  have HB7 := hide (HB2.out.trans (hb7.mono HB2.out.size))
  have HG7 := hide (HG2.out.below hb7 HG2.out.lt)
  have HK7 := hide hk44
  have hbg : w.heap.size ≤ b44 := Nat.le_trans HB2.out.size hb44
  have hgl := HG.out.lt
  have HKs : Hid (∀ u : Value, Blk (w7.setCell ⟨g, 0, none⟩ u) b44 249 (ndC a n [.bool vb] true 1 (.pointer none) (.pointer none))) := hide fun u => HK7.out.far (p := ⟨g, 0, none⟩) (by show b44 ≠ g; omega) u
  have HGs : Hid (∀ u : Value, Blk (w7.setCell ⟨g, 0, none⟩ u) g 192 #[u]) := hide fun u => HG7.out.set_ 0 u
  have HCs : Hid (∀ u : Value, ChgS (fun k => k = g) w (w7.setCell ⟨g, 0, none⟩ u)) := hide fun u => chg_trans (chg_below HB7.out) (chg_set (S := fun k => k = g) (p := ⟨g, 0, none⟩) rfl u) (fun k h => .inl h)
  have zg : w7.cell? ⟨g, 0, none⟩ = some (.pointer none) := HG7.out.cell 0
  have zgf := HG7.out.frozen 0
  clear hb7 hk44 hb44
  go_wp2
  go_ret2
  refine ⟨rfl, b44, hbg, HGs.out _, ⟨⟨⟨[.bool vb], ⟨rfl, by simp [Value.oneCell']⟩, HKs.out _, fun y hy => ?_⟩, trivial, trivial⟩, ⟨HPa.out, trivial, trivial, trivial, trivial⟩, by simp [trB], ?_⟩, HCs.out _⟩
  · injection hy with hy
    subst hy
    exact frs_chg HFv.out (HCs.out _) (fun k hk e => HgF.out (e ▸ hk))
  · intro k hk hFk
    simp only [trB, List.append_nil, List.mem_singleton] at hk
    subst hk
    have := HF.out _ hFk
    omega
end Go.Proofs.YtcinjckajnnhmaaGreat
