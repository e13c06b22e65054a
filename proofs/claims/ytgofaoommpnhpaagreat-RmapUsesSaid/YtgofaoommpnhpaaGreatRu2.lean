import Derived.Test.YtgofaoommpnhpaaGreatRu1
import Derived.Shelf.Strings.Builder1
import Derived.Shelf.Strings.Builder2
import Derived.Shelf.Strings.OnBuilder
import Derived.Shelf.LaysM
import Derived.WalkKit
import Derived.ProofKit
import Derived.OpenShut
import Derived.Below
import Derived.Laws.OwnMore
import Derived.Laws.Rows
import Derived.Laws.MakeOwn
import Derived.Deep.AppendLies
import Derived.Deep.Draws
import Derived.Deep.OwnRows
import Derived.Deep.QuietTactic
import Derived.Maps.AppendAt
import Derived.RegionTactic
import Derived.OwnWalk
import Derived.ChangeSame
import Derived.Outline
import Derived.BigQuiet
import Derived.WalkMore
import Derived.ScopeJumps
import Derived.WalkLawsBesides
import Derived.WalkSpells
import Derived.WideKeyArgs
import Derived.Deep.DeepHandedRow
import Derived.Deep.DeepWitnessRowRef
import Derived.Lib.LaidTab
import Derived.Lib.AppendIntMem
import Derived.LaidMore
import Derived.MakeChecks
import Derived.Lib.Itoa
import Derived.Lib.ItoaMem
import Derived.Laws.BitsLemmas
import Derived.Laws.BitsAllLaws
import Derived.Deep.Quiet
import Derived.BigRegion
import Derived.Lib.SmallJoins
import Derived.Lib.ParseIntBCases
import Derived.Lib.IndexMore
import Derived.Shelf.Vars
import Derived.Lib.AtoiAllCases
import Derived.SliceStrings
import Derived.Deep.RegionLaw
import Derived.Lib.PathFns
import Derived.Lib.IndexBytes
import Derived.RangeFuncWrites
import Derived.RangeFuncNested
import Derived.RangeFuncBound
import Derived.RangeFuncCalls
import Derived.RangeFuncLeaves
import Derived.RangeFuncBox
import Derived.Shelf.Abstract
import Derived.Shelf.RegionOpen
import Derived.OwnWalkIn
import Derived.TacticsInMore
import Derived.LoopNIn
import Derived.LoopIn
import Derived.Sort.LotA
import Derived.BigRegionIn
import Derived.Deep.Slices
import Derived.StillTailTactics
import Derived.Deep.RegionHeld3
import Derived.Orders
set_option linter.unusedSimpArgs false
set_option linter.unusedVariables false
namespace Go.Proofs.YtgofaoommpnhpaaGreat
open Go.RowKit
/-- A slice of texts. -/
def StrsAt (w : World) (A : Option Addr) (n c : Nat) (l : List ByteArray) : Prop :=
  l.length = n ∧ n ≤ c ∧ c ≤ maxLen ∧ (∀ x ∈ l, x.size ≤ maxLen) ∧ (0 < n → ∃ g o, A = some ⟨g, o, none⟩ ∧ g < w.heap.size ∧ ∀ (k : Nat) (x : ByteArray), l[k]? = some x → w.cell? ⟨g, o + k, none⟩ = some (.string x))
theorem StrsAt.below {w w' : World} {A : Option Addr} {n c : Nat} {l : List ByteArray} {B : Nat} (h : StrsAt w A n c l) (hB : w.heap.size = B) (hb : Below B w w') : StrsAt w' A n c l := by
  subst hB
  refine ⟨h.1, h.2.1, h.2.2.1, h.2.2.2.1, fun hn => ?_⟩
  obtain ⟨g, o, hA, hg, hc⟩ := h.2.2.2.2 hn
  exact ⟨g, o, hA, Nat.lt_of_lt_of_le hg hb.size, fun k x hk => (hb.cell (by exact hg)).trans (hc k x hk)⟩
theorem StrsAt.at_ {w : World} {A : Option Addr} {n c : Nat} {l : List ByteArray} (h : StrsAt w A n c l) {k : Nat} (hk : k < n) :
    ∃ g o x, A = some ⟨g, o, none⟩ ∧ g < w.heap.size ∧ l[k]? = some x ∧ x.size ≤ maxLen ∧ w.cell? ⟨g, o + k, none⟩ = some (.string x) := by
  obtain ⟨g, o, hA, hg, hc⟩ := h.2.2.2.2 (by omega)
  have hx : l[k]? = some (l[k]'(by rw [h.1]; exact hk)) := List.getElem?_eq_getElem _
  exact ⟨g, o, _, hA, hg, hx, h.2.2.2.1 _ (List.getElem_mem _), hc k _ hx⟩
def strv (l : List (List UInt8)) : List Value := l.map fun x => .string (str x)
end Go.Proofs.YtgofaoommpnhpaaGreat
set_option linter.unusedSimpArgs false
set_option linter.unusedVariables false
namespace Go.Proofs.YtgofaoommpnhpaaGreat
open Go.RowKit
theorem U32s.drop_ {w : World} {g o n c : Nat} {l : List Nat} (h : U32s w (some ⟨g, o, none⟩) n c l) {k : Nat} (hk : k < n) : Reads w w.heap.size 1 (some ⟨g, o + k, none⟩) (n - k) (u32c (l.drop k)) := by
  refine ⟨by simp [u32c, h.1], fun _ => ?_⟩
  obtain ⟨g', o', hA, hg, hc⟩ := h.2.2.2.2 (by omega)
  cases hA
  refine ⟨_, rfl, hg, fun j u hu => ?_⟩
  simp only [u32c, List.getElem?_map, Option.map_eq_some_iff, List.getElem?_drop] at hu
  obtain ⟨x, hx, rfl⟩ := hu
  have := hc (k + j) x hx
  rw [show (⟨g, o + k, none⟩ : Addr).add j = ⟨g, o + (k + j), none⟩ by unfold Addr.add; split <;> simp_all [Nat.add_assoc]]
  exact this
theorem Reads.keepB {w w' : World} {B size n : Nat} {A : Option Addr} {xs : List Value} (h : Reads w B size A n xs) (hb : Below B w w') : Reads w' B size A n xs := h.below hb
end Go.Proofs.YtgofaoommpnhpaaGreat
set_option linter.unusedSimpArgs false
set_option linter.unusedVariables false
namespace Go.Proofs.YtgofaoommpnhpaaGreat
open Go.RowKit
theorem own_set {w : World} {base e size n g i : Nat} {v : Value} {xs : List Value} (h : w.ownsRow base e size v n xs) (hne : v.ownBlock ≠ some g) (u : Value) : (w.setCell ⟨g, i, none⟩ u).ownsRow base e size v n xs :=
  h.kept (only_setCell (World.grownBy.refl w (some g)) (p := ⟨g, i, none⟩) (.inl rfl) u) (.inr hne)
end Go.Proofs.YtgofaoommpnhpaaGreat
set_option linter.unusedSimpArgs false
set_option linter.unusedVariables false
namespace Go.Proofs.YtgofaoommpnhpaaGreat
open Go.RowKit
theorem strv_len (l : List (List UInt8)) : (strv l).length = l.length := by simp [strv]
theorem own_below {w w' : World} {base e size n : Nat} {v : Value} {xs : List Value} (h : w.ownsRow base e size v n xs) (hb : Below w.heap.size w w') : w'.ownsRow base e size v n xs :=
  ⟨h.1, h.2.imp id (fun ⟨g, cap, cur, e1, e2, e3, rest⟩ => ⟨g, cap, cur, e1, e2, (hb.block g (Array.getElem?_eq_some_iff.1 e3).1).trans e3, rest⟩)⟩
end Go.Proofs.YtgofaoommpnhpaaGreat
set_option linter.unusedSimpArgs false
set_option linter.unusedVariables false
namespace Go.Proofs.YtgofaoommpnhpaaGreat
open Go.RowKit
attribute [local go_sem] Oper.semAt_some
theorem blk_new' {w : World} {g : Nat} (t : TypeId) (cs : Array Value) (h : g = w.heap.size) : Blk (w.alloc (.cells cs t)) g t cs := by subst h; exact Blk.new w t cs
theorem KeepsFrom.below {lo : Nat} {A B : World} (hb : Below A.heap.size A B) : KeepsFrom lo A B :=
  ⟨hb.size, fun k o _ hk _ => (hb.block k (Array.getElem?_eq_some_iff.1 hk).1).trans hk⟩
theorem Blk.put {W : World} {g D : Nat} {t : TypeId} {cs : Array Value} (h : Blk W g t cs) (hne : g ≠ D) (o : Obj) : Blk (W.putObj D o) g t cs := (World.putObj_heap_other hne).trans h
end Go.Proofs.YtgofaoommpnhpaaGreat
set_option linter.unusedSimpArgs false
set_option linter.unusedVariables false
namespace Go.Proofs.YtgofaoommpnhpaaGreat
open Go.RowKit Go.WideShapes Go.ChangeShapes
attribute [local go_sem] Oper.semAt_some
theorem ret_i64 {i j : Int} (h : i = j) : Ending.returned (.int .i64 i) = .returned (.int .i64 j) := by rw [h]
end Go.Proofs.YtgofaoommpnhpaaGreat
set_option linter.unusedSimpArgs false
set_option linter.unusedVariables false
namespace Go.Proofs.YtgofaoommpnhpaaGreat
open Go.RowKit
attribute [local go_sem] Oper.semAt_some
end Go.Proofs.YtgofaoommpnhpaaGreat
set_option linter.unusedSimpArgs false
set_option linter.unusedVariables false
namespace Go.Proofs.YtgofaoommpnhpaaGreat
open Go.RowKit
attribute [local go_sem] Oper.semAt_some
end Go.Proofs.YtgofaoommpnhpaaGreat
set_option linter.unusedSimpArgs false
set_option linter.unusedVariables false
namespace Go.Proofs.YtgofaoommpnhpaaGreat
open Go.RowKit
attribute [local go_sem] Oper.semAt_some
theorem own_other {w w3 : World} {o : Obj} {base base' size size' n n' : Nat} {e e' : TypeId} {v v' : Value} {xs xs' : List Value} (h : w.ownsRow base e size v n xs) (h2 : w.ownsRow base' e' size' v' n' xs') (hne : e ≠ e')
    (hg : (w.alloc o).grownBy w3 v'.ownBlock) : w3.ownsRow base e size v n xs := by
  refine (h.alloc o).kept hg ?_
  rcases h.2 with ⟨e1, _⟩ | ⟨g, cap, cur, e1, _, hgc, _⟩
  · left; rw [e1]; rfl
  · right
    rcases h2.2 with ⟨e2, _⟩ | ⟨g', cap', cur', e2, _, hgc', _⟩
    · rw [e1, e2]; simp [Value.ownBlock]
    · rw [e1, e2]
      intro hh
      have : g = g' := by simpa [Value.ownBlock] using hh
      subst this
      rw [hgc] at hgc'
      injection hgc' with hgc'
      injection hgc' with _ h3
      exact hne h3
end Go.Proofs.YtgofaoommpnhpaaGreat
set_option linter.unusedSimpArgs false
set_option linter.unusedVariables false
namespace Go.Proofs.YtgofaoommpnhpaaGreat
open Go.RowKit
attribute [local go_sem] Oper.semAt_some
end Go.Proofs.YtgofaoommpnhpaaGreat
set_option linter.unusedSimpArgs false
set_option linter.unusedVariables false
namespace Go.Proofs.YtgofaoommpnhpaaGreat
open Go.RowKit
attribute [local go_sem] Oper.semAt_some
end Go.Proofs.YtgofaoommpnhpaaGreat
set_option linter.unusedSimpArgs false
set_option linter.unusedVariables false
namespace Go.Proofs.YtgofaoommpnhpaaGreat
open Go.RowKit
attribute [local go_sem] Oper.semAt_some
theorem StrsAt.of_own {w : World} {base n c : Nat} {A : Option Addr} {l : List (List UInt8)} (h : w.ownsRow base 9 1 (.slice A n c) n (strv l)) (hb : ∀ x ∈ l, x.length ≤ maxLen) : StrsAt w A n c (l.map str) := by
  have hl : l.length = n := by have := h.1; rw [strv_len] at this; omega
  have hsz : ∀ x ∈ l.map str, x.size ≤ maxLen := fun x hx => by
    obtain ⟨y, hy, rfl⟩ := List.mem_map.1 hx
    rw [str_size]; exact hb y hy
  rcases h.2 with ⟨hv, h0⟩ | ⟨g, cap, cur, hv, _, hh, hnc, hm, _⟩
  · injection hv with e1 e2 e3
    subst e2 e3
    exact ⟨by simp [hl], Nat.le_refl _, by simp [maxLen], hsz, fun h => by omega⟩
  · injection hv with e1 _ e3
    subst e1 e3
    refine ⟨by simp [hl], hnc, hm, hsz, fun _ => ⟨g, 0, rfl, (Array.getElem?_eq_some_iff.1 hh).1, fun k x hk => ?_⟩⟩
    rw [List.getElem?_map, Option.map_eq_some_iff] at hk
    obtain ⟨y, hy, rfl⟩ := hk
    have := h.cells (g := g) rfl k (.string (str y)) (by simp [strv, hy])
    rw [show (⟨g, 0, none⟩ : Addr).add k = ⟨g, 0 + k, none⟩ by unfold Addr.add; split <;> simp_all] at this
    exact this
end Go.Proofs.YtgofaoommpnhpaaGreat
set_option linter.unusedSimpArgs false
set_option linter.unusedVariables false
namespace Go.Proofs.YtgofaoommpnhpaaGreat
open Go.RowKit
attribute [local go_sem] Oper.semAt_some
end Go.Proofs.YtgofaoommpnhpaaGreat
set_option linter.unusedSimpArgs false
set_option linter.unusedVariables false
namespace Go.Proofs.YtgofaoommpnhpaaGreat
open Go.RowKit
attribute [local go_sem] Oper.semAt_some
/-- The laws' cutting copy, by what it owns; its length a letter. -/
theorem fewO_any (A : Option Addr) (n c : Nat) (l : List Nat) (most : Nat) (hmost : most ≤ 100000) (w : World) (h : U32s w A n c l) :
    Calls Tryz.prog 17 #[.slice A n c, .int .i64 most] w fun e w' => ∃ A' n' c', e = .returned (.slice A' n' c') ∧ w'.ownsRow w.heap.size 29 1 (.slice A' n' c') n' (u32c (l.take most)) ∧ Below w.heap.size w w' := by
  refine (few_any A n c l most hmost w h).mono ?_
  rintro e w' ⟨v, rfl, ho⟩
  obtain ⟨A', c', rfl⟩ := own_slice ho.1
  exact ⟨A', _, c', rfl, ho.1, ho.2⟩
end Go.Proofs.YtgofaoommpnhpaaGreat
set_option linter.unusedSimpArgs false
set_option linter.unusedVariables false
namespace Go.Proofs.YtgofaoommpnhpaaGreat
open Go.RowKit
theorem Own32.u32s' {w w' : World} {v : Value} {l : List Nat} (h : Own32 w w' v l) (hb : ∀ x ∈ l, x < 4294967296) : ∃ A c, v = .slice A l.length c ∧ U32s w' A l.length c l := by
  obtain ⟨A, n, c, rfl, hu⟩ := h.u32s hb
  have := hu.1
  subst this
  exact ⟨A, c, rfl, hu⟩
end Go.Proofs.YtgofaoommpnhpaaGreat
set_option linter.unusedSimpArgs false
set_option linter.unusedVariables false
namespace Go.Proofs.YtgofaoommpnhpaaGreat
open Go.RowKit Go.WideShapes Go.ChangeShapes
attribute [local go_sem] Oper.semAt_some
theorem LstAt.keepW {α : Type} {sz : Nat} {R : World → List Value → α → Prop} {w w' : World} {A : Option Addr} {n c : Nat} {l : List α} (h : LstAt sz R w A n c l) (hR : ∀ vs x, R w vs x → R w' vs x) (hs : w.heap.size ≤ w'.heap.size)
    (hc : ∀ (ad : Addr) (i : Nat), A = some ad → w'.cell? ⟨ad.block, i, none⟩ = w.cell? ⟨ad.block, i, none⟩) : LstAt sz R w' A n c l := by
  refine ⟨h.1, h.2.1, h.2.2.1, fun hn => ?_⟩
  obtain ⟨g, o, hA, hg, hcc⟩ := h.2.2.2 hn
  refine ⟨g, o, hA, Nat.lt_of_lt_of_le hg hs, fun k x hk => ?_⟩
  obtain ⟨vs, h1, h2, h3⟩ := hcc k x hk
  exact ⟨vs, h1, hR _ _ h2, fun j v hv => (hc _ _ hA).trans (h3 j v hv)⟩
end Go.Proofs.YtgofaoommpnhpaaGreat
set_option linter.unusedSimpArgs false
set_option linter.unusedVariables false
namespace Go.Proofs.YtgofaoommpnhpaaGreat
open Go.RowKit Go.WideShapes Go.ChangeShapes
attribute [local go_sem] Oper.semAt_some
theorem own_low_block {w : World} {base n size : Nat} {e : TypeId} {v : Value} {xs : List Value} (h : w.ownsRow base e size v n xs) : ∀ k, v.ownBlock = some k → base ≤ k := by
  intro k hk
  rcases h.2 with ⟨rfl, _⟩ | ⟨g, cap, cur, rfl, hb, _⟩
  · simp [Value.ownBlock] at hk
  · have : g = k := by simpa [Value.ownBlock] using hk
    rw [← this]; exact hb
theorem own_baseLe {w : World} {b b' n size : Nat} {e : TypeId} {v : Value} {xs : List Value} (h : w.ownsRow b e size v n xs) (hb : b' ≤ b) : w.ownsRow b' e size v n xs := by
  refine ⟨h.1, ?_⟩
  rcases h.2 with h2 | ⟨g, cap, cur, h1, h2, h3⟩
  · exact .inl h2
  · exact .inr ⟨g, cap, cur, h1, Nat.le_trans hb h2, h3⟩
end Go.Proofs.YtgofaoommpnhpaaGreat
set_option linter.unusedSimpArgs false
set_option linter.unusedVariables false
namespace Go.Proofs.YtgofaoommpnhpaaGreat
open Go.RowKit Go.WideShapes Go.ChangeShapes
attribute [local go_sem] Oper.semAt_some
theorem reads_blkN {w : World} {g B n sz : Nat} {t : TypeId} {cs : Array Value} {xs : List Value} (h : Blk w g t cs) (hB : g < B) (hx : cs.toList = xs) (hn : xs.length = n * sz) : Reads w B sz (some ⟨g, 0, none⟩) n xs :=
  ⟨hn, fun _ => ⟨_, rfl, hB, fun j u hu => by
    have e : (⟨g, 0, none⟩ : Addr).add j = ⟨g, j, none⟩ := by unfold Addr.add; split <;> simp_all
    rw [e, h.cell j, ← hu, ← hx]; simp⟩⟩
end Go.Proofs.YtgofaoommpnhpaaGreat
set_option linter.unusedSimpArgs false
set_option linter.unusedVariables false
namespace Go.Proofs.YtgofaoommpnhpaaGreat
open Go.RowKit Go.WideShapes Go.ChangeShapes
structure CU where
  seq : Int
  per : Bool
  pn : ByteArray
  an : ByteArray
  cn : ByteArray
  mi : Bool
  med : Nat
  sets : Int
  sp : Nat
  sm : Nat
  so : Int
  r : List Nat
  ah : Nat
  tm : Int
def cuV (x : CU) (v : Value) : List Value := [.int .i64 x.seq, .bool x.per, .string x.pn, .string x.an, .string x.cn, .bool x.mi, .int .u32 (x.med : Int), .int .i64 x.sets, .int .u32 (x.sp : Int), .int .u32 (x.sm : Int), .int .i64 x.so, v, .int .u32 (x.ah : Int), .int .i64 x.tm]
def i64B (x : Int) : Prop := -9223372036854775808 ≤ x ∧ x ≤ 9223372036854775807
structure CuOk (x : CU) : Prop where
  seq : i64B x.seq
  sets : i64B x.sets
  so : i64B x.so
  tm : i64B x.tm
  med : x.med < 4294967296
  sp : x.sp < 4294967296
  sm : x.sm < 4294967296
  ah : x.ah < 4294967296
  pn : x.pn.size ≤ maxLen
  an : x.an.size ≤ maxLen
  cn : x.cn.size ≤ maxLen
def cuR (w : World) (vs : List Value) (x : CU) : Prop := ∃ B m d, vs = cuV x (.slice B m d) ∧ CuOk x ∧ U32s w B m d x.r
theorem cuMono : SMono cuR := fun _ _ _ _ hb ⟨B, m, d, e, k, h⟩ => ⟨B, m, d, e, k, h.below hb⟩
def cutCU (x : CU) : CU := { x with r := x.r.take 34 }
theorem CuOk.cut {x : CU} (h : CuOk x) : CuOk (cutCU x) := ⟨h.seq, h.sets, h.so, h.tm, h.med, h.sp, h.sm, h.ah, h.pn, h.an, h.cn⟩
theorem CUat {w : World} {A : Option Addr} {n c : Nat} {l : List CU} (h : LstAt 14 cuR w A n c l) {k : Nat} (hk : k < n) :
    ∃ (g o : Nat) (x : CU) (B : Option Addr) (m d : Nat), A = some ⟨g, o, none⟩ ∧ g < w.heap.size ∧ l[k]? = some x ∧ CuOk x ∧ U32s w B m d x.r ∧ ∀ (j : Nat) (v : Value), (cuV x (.slice B m d))[j]? = some v → w.cell? ⟨g, o + k * 14 + j, none⟩ = some v := by
  obtain ⟨g, o, x, vs, hA, hg, hx, _, ⟨B, m, d, rfl, hk, hu⟩, hc⟩ := h.at_ hk
  exact ⟨g, o, x, B, m, d, hA, hg, hx, hk, hu, hc⟩
set_option maxRecDepth 100000 in
set_option maxHeartbeats 4000000 in
theorem cu_opens {H : Type} {enc : TypeId × Value → H} {W : World} {f : Nat} {cs : List Value} {x : DataW H × List MemPlace} (h : DataW.trod enc Tryz.prog W 0 (fun _ => true) true f 32 cs = some x) : ∃ y, cuR W cs y := by
  obtain ⟨xs, n, _, rfl, hl, hlen, hf⟩ := DataW.trod_struct Tryz.underlying32 h
  have c14 : Tryz.prog.cellsOf 32 = 14 := by kernel_rfl
  rw [c14] at hl
  match xs, hlen with
  | [y0, y1, y2, y3, y4, y5, y6, y7, y8, y9, y10, y11, y12, y13], _ =>
  match cs, hl with
  | [v0, v1, v2, v3, v4, v5, v6, v7, v8, v9, v10, v11, v12, v13], _ =>
    have h0 : DataW.trod enc Tryz.prog W 0 (fun _ => true) true n 3 [v0] = some y0 := hf 0 _ rfl
    have h1 : DataW.trod enc Tryz.prog W 0 (fun _ => true) true n 4 [v1] = some y1 := hf 1 _ rfl
    have h2 : DataW.trod enc Tryz.prog W 0 (fun _ => true) true n 9 [v2] = some y2 := hf 2 _ rfl
    have h3 : DataW.trod enc Tryz.prog W 0 (fun _ => true) true n 9 [v3] = some y3 := hf 3 _ rfl
    have h4 : DataW.trod enc Tryz.prog W 0 (fun _ => true) true n 9 [v4] = some y4 := hf 4 _ rfl
    have h5 : DataW.trod enc Tryz.prog W 0 (fun _ => true) true n 4 [v5] = some y5 := hf 5 _ rfl
    have h6 : DataW.trod enc Tryz.prog W 0 (fun _ => true) true n 29 [v6] = some y6 := hf 6 _ rfl
    have h7 : DataW.trod enc Tryz.prog W 0 (fun _ => true) true n 3 [v7] = some y7 := hf 7 _ rfl
    have h8 : DataW.trod enc Tryz.prog W 0 (fun _ => true) true n 29 [v8] = some y8 := hf 8 _ rfl
    have h9 : DataW.trod enc Tryz.prog W 0 (fun _ => true) true n 29 [v9] = some y9 := hf 9 _ rfl
    have h10 : DataW.trod enc Tryz.prog W 0 (fun _ => true) true n 3 [v10] = some y10 := hf 10 _ rfl
    have h11 : DataW.trod enc Tryz.prog W 0 (fun _ => true) true n 30 [v11] = some y11 := hf 11 _ rfl
    have h12 : DataW.trod enc Tryz.prog W 0 (fun _ => true) true n 29 [v12] = some y12 := hf 12 _ rfl
    have h13 : DataW.trod enc Tryz.prog W 0 (fun _ => true) true n 3 [v13] = some y13 := hf 13 _ rfl
    clear hf
    obtain ⟨seq, e0, _, w0⟩ := DataW.trod_int Tryz.underlying3 h0
    obtain ⟨per, e1, _⟩ := DataW.trod_bool Tryz.underlying4 h1
    obtain ⟨pn, e2, _, w2⟩ := DataW.trod_string Tryz.underlying9 h2
    obtain ⟨an, e3, _, w3⟩ := DataW.trod_string Tryz.underlying9 h3
    obtain ⟨cn, e4, _, w4⟩ := DataW.trod_string Tryz.underlying9 h4
    obtain ⟨mi, e5, _⟩ := DataW.trod_bool Tryz.underlying4 h5
    obtain ⟨med, e6, _, w6⟩ := DataW.trod_int Tryz.underlying29 h6
    obtain ⟨sets, e7, _, w7⟩ := DataW.trod_int Tryz.underlying3 h7
    obtain ⟨sp, e8, _, w8⟩ := DataW.trod_int Tryz.underlying29 h8
    obtain ⟨sm, e9, _, w9⟩ := DataW.trod_int Tryz.underlying29 h9
    obtain ⟨so, e10, _, w10⟩ := DataW.trod_int Tryz.underlying3 h10
    have h11' : ∃ A n c, v11 = .slice A n c := by
      rcases DataW.trod_slice Tryz.underlying30 h11 with ⟨e, _⟩ | ⟨a, len, cap, elems, rest, n, _, e, _⟩
      · exact ⟨none, 0, 0, by simpa using e⟩
      · exact ⟨some a, len, cap, by simpa using e⟩
    obtain ⟨A, m, c, rfl⟩ := h11'
    obtain ⟨l, hl⟩ := u32s_open (A := A) (n := m) (c := c) ⟨n, by simpa [Value.cells] using h11⟩
    obtain ⟨ah, e12, _, w12⟩ := DataW.trod_int Tryz.underlying29 h12
    obtain ⟨tm, e13, _, w13⟩ := DataW.trod_int Tryz.underlying3 h13
    simp only [List.cons.injEq, and_true] at e0 e1 e2 e3 e4 e5 e6 e7 e8 e9 e10 e12 e13
    subst e0 e1 e2 e3 e4 e5 e6 e7 e8 e9 e10 e12 e13
    have b6 : 0 ≤ med ∧ med ≤ 4294967295 := by simpa [Lit.wf, IntKind.min, IntKind.max, IntKind.signed, IntKind.bits] using w6
    have b8 : 0 ≤ sp ∧ sp ≤ 4294967295 := by simpa [Lit.wf, IntKind.min, IntKind.max, IntKind.signed, IntKind.bits] using w8
    have b9 : 0 ≤ sm ∧ sm ≤ 4294967295 := by simpa [Lit.wf, IntKind.min, IntKind.max, IntKind.signed, IntKind.bits] using w9
    have b12 : 0 ≤ ah ∧ ah ≤ 4294967295 := by simpa [Lit.wf, IntKind.min, IntKind.max, IntKind.signed, IntKind.bits] using w12
    have b0 : i64B seq := by simpa [i64B, Lit.wf, IntKind.min, IntKind.max, IntKind.signed, IntKind.bits] using w0
    have b7 : i64B sets := by simpa [i64B, Lit.wf, IntKind.min, IntKind.max, IntKind.signed, IntKind.bits] using w7
    have b10 : i64B so := by simpa [i64B, Lit.wf, IntKind.min, IntKind.max, IntKind.signed, IntKind.bits] using w10
    have b13 : i64B tm := by simpa [i64B, Lit.wf, IntKind.min, IntKind.max, IntKind.signed, IntKind.bits] using w13
    obtain ⟨med', rfl⟩ := Int.eq_ofNat_of_zero_le b6.1
    obtain ⟨sp', rfl⟩ := Int.eq_ofNat_of_zero_le b8.1
    obtain ⟨sm', rfl⟩ := Int.eq_ofNat_of_zero_le b9.1
    obtain ⟨ah', rfl⟩ := Int.eq_ofNat_of_zero_le b12.1
    exact ⟨⟨seq, per, pn, an, cn, mi, med', sets, sp', sm', so, l, ah', tm⟩, A, m, c, rfl, ⟨b0, b7, b10, b13, by show med' < _; omega, by show sp' < _; omega, by show sm' < _; omega, by show ah' < _; omega, w2, w3, w4⟩, hl⟩
set_option maxRecDepth 100000 in
theorem rmap_open {H : Type} {enc : TypeId × Value → H} {W : World} {r : Reach} {b0 : Nat} {v : Value} {d : DataW H} {p : List MemPlace} (hv : Value.okWide Tryz.prog W r b0 24 v)
    (h : DataW.Trod enc Tryz.prog W 0 (fun _ => true) true 24 v d p) :
    ∃ (s : ByteArray) (A : Option Addr) (n c : Nat) (l : List CU), v = .agg #[.string s, .slice A n c] ∧ s.size ≤ maxLen ∧ LstAt 14 cuR W A n c l := by
  obtain ⟨v0, v1, y0, y1, k, rfl, _, _, h0, h1⟩ := Go.Joins.open_agg2 Tryz.underlying24 (by kernel_rfl) (by kernel_rfl) hv h
  obtain ⟨s, e0, _, hs⟩ := DataW.trod_string Tryz.underlying9 h0
  obtain rfl : v0 = _ := by simpa using e0
  obtain ⟨A, n, c, l, e1, hl⟩ := lst_open (R := cuR) Tryz.underlying22 (sz := 14) (by kernel_rfl) (by decide) (fun f cs x hx => cu_opens hx) h1
  obtain rfl : v1 = _ := by simpa using e1
  exact ⟨s, A, n, c, l, rfl, hs, hl⟩
theorem cuInfo : (Tryz.prog.info? 32).map (fun i => (i.zero, i.size, i.bytes)) = some (some (.agg #[.int .i64 0, .bool false, .string ⟨#[]⟩, .string ⟨#[]⟩, .string ⟨#[]⟩, .bool false, .int .u32 0, .int .i64 0, .int .u32 0, .int .u32 0, .int .i64 0, .slice none 0 0, .int .u32 0, .int .i64 0]), 14, 136) := by kernel_rfl
/-- An element of a copy: its numbers in memory of the copy's own. -/
def cuO (B : Nat) (w : World) (vs : List Value) (x : CU) : Prop := ∃ v, vs = cuV x v ∧ CuOk x ∧ w.ownsRow B 29 1 v x.r.length (u32c x.r) ∧ ∀ y ∈ x.r, y < 4294967296
theorem cuOMono (B : Nat) : SMono (cuO B) := fun _ _ _ _ hb ⟨v, e, k, h, hy⟩ => ⟨v, e, k, own_below h hb, hy⟩
theorem cuO_R {B : Nat} {w : World} {vs : List Value} {x : CU} (h : cuO B w vs x) : cuR w vs x := by
  obtain ⟨v, rfl, hk, ho, hy⟩ := h
  obtain ⟨A, c, rfl⟩ := own_slice ho
  exact ⟨A, _, c, rfl, hk, U32s.of_own ho hy⟩
theorem cu_lst {B : Nat} {w : World} {A : Option Addr} {n c : Nat} {xs : List Value} {l : List CU} (h : w.ownsRow B 32 14 (.slice A n c) n xs) (hc : Chunks 14 (cuO B) w xs l) : LstAt 14 cuR w A n c l :=
  LstAt.of_own (by decide) h ⟨hc.1, fun k x hk => cuO_R (hc.2 k x hk)⟩
def hasSB (s : ByteArray) (o : List ByteArray) : Bool := o.any fun y => decide (s = y)
def namStep (o : List ByteArray) (s : ByteArray) : List ByteArray := if s.size ≠ 0 ∧ hasSB s o = false then o ++ [s] else o
def namB (l : List ByteArray) : List ByteArray := l.foldl namStep []
theorem namB_snoc {l : List ByteArray} {k : Nat} {x : ByteArray} (h : l[k]? = some x) : namB (l.take (k + 1)) = namStep (namB (l.take k)) x := by
  unfold namB
  rw [List.take_add_one, h]
  simp
theorem bytes_beq (s t : ByteArray) : (s.toList == t.toList) = decide (s = t) := by
  rw [← str_of s, ← str_of t, str_beq]
  by_cases h : s.data.toList = t.data.toList
  · rw [h]; simp
  · rw [beq_eq_false_iff_ne.2 h, decide_eq_false fun e => h (str_inj e)]
def strB (l : List ByteArray) : List Value := l.map .string
theorem strB_len (l : List ByteArray) : (strB l).length = l.length := by simp [strB]
theorem strsAt_of_ownB {w : World} {base n c : Nat} {A : Option Addr} {l : List ByteArray} (h : w.ownsRow base 9 1 (.slice A n c) n (strB l)) (hb : ∀ x ∈ l, x.size ≤ maxLen) : StrsAt w A n c l := by
  have hl : l.length = n := by have := h.1; rw [strB_len] at this; omega
  rcases h.2 with ⟨hv, h0⟩ | ⟨g, cap, cur, hv, _, hh, hnc, hm, _⟩
  · injection hv with e1 e2 e3
    subst e2 e3
    exact ⟨hl, Nat.le_refl _, by simp [maxLen], hb, fun h => by omega⟩
  · injection hv with e1 _ e3
    subst e1 e3
    refine ⟨hl, hnc, hm, hb, fun _ => ⟨g, 0, rfl, (Array.getElem?_eq_some_iff.1 hh).1, fun k x hk => ?_⟩⟩
    have := h.cells (g := g) rfl k (.string x) (by simp [strB, hk])
    rw [show (⟨g, 0, none⟩ : Addr).add k = ⟨g, 0 + k, none⟩ by unfold Addr.add; split <;> simp_all] at this
    exact this
theorem namB_mem {l : List ByteArray} {x : ByteArray} (h : x ∈ namB l) : x ∈ l := by
  have : ∀ (l o : List ByteArray), x ∈ l.foldl namStep o → x ∈ o ∨ x ∈ l := by
    intro l
    induction l with
    | nil => intro o h; exact .inl h
    | cons y l ih =>
      intro o h
      rcases ih _ h with h | h
      · unfold namStep at h
        split at h
        · rcases List.mem_append.1 h with h | h
          · exact .inl h
          · simp at h; subst h; exact .inr (by simp)
        · exact .inl h
      · exact .inr (by simp [h])
  rcases this l [] h with h | h
  · simp at h
  · exact h
theorem namB_len (l : List ByteArray) : (namB l).length ≤ l.length := by
  have : ∀ (l o : List ByteArray), (l.foldl namStep o).length ≤ o.length + l.length := by
    intro l
    induction l with
    | nil => intro o; simp
    | cons y l ih =>
      intro o
      refine Nat.le_trans (ih _) ?_
      unfold namStep
      split <;> simp <;> omega
  simpa [namB] using this l []
end Go.Proofs.YtgofaoommpnhpaaGreat
set_option linter.unusedSimpArgs false
set_option linter.unusedVariables false
namespace Go.Proofs.YtgofaoommpnhpaaGreat
open Go.RowKit Go.WideShapes Go.ChangeShapes
attribute [local go_sem] Oper.semAt_some
/-- The loop's state: the copy so far, its box at the third new block. -/
structure MpSt (w W : World) (s : ByteArray) (A : Option Addr) (n c : Nat) (ts : List CU) (V : Value) (i : Nat) : Prop where
  bl : Blk W w.heap.size 24 #[.string s, .slice A n c]
  rs : Blk W (w.heap.size + 1) 24 #[.string ⟨#[]⟩, .slice none 0 0]
  bo : Blk W (w.heap.size + 2) 24 #[.string s, V]
  own : ∃ xs, W.ownsRow (w.heap.size + 3) 32 14 V i xs ∧ Chunks 14 (cuO (w.heap.size + 3)) W xs ((ts.take i).map cutCU)
  bel : Below w.heap.size w W
theorem MpSt.below {w W W' : World} {s : ByteArray} {A : Option Addr} {n c : Nat} {ts : List CU} {V : Value} {i : Nat} (h : MpSt w W s A n c ts V i) (hb : Below W.heap.size W W') : MpSt w W' s A n c ts V i := by
  obtain ⟨xs, h1, h2⟩ := h.own
  exact ⟨h.bl.below hb h.bl.lt, h.rs.below hb h.rs.lt, h.bo.below hb h.bo.lt, ⟨xs, own_below h1 hb, h2.mono_ (cuOMono _) hb⟩, h.bel.trans (hb.mono h.bel.size)⟩
def RMapP (s : ByteArray) (l : List CU) (w : World) (e : Ending) (w' : World) : Prop := ∃ A n c xs, e = .returned (.agg #[.string s, .slice A n c]) ∧ w'.ownsRow w.heap.size 32 14 (.slice A n c) n xs ∧ Chunks 14 (cuO w.heap.size) w' xs l ∧ Below w.heap.size w w'
set_option maxRecDepth 100000 in
set_option maxHeartbeats 8000000 in
theorem lawMap_any (s : ByteArray) (A : Option Addr) (n c : Nat) (ts : List CU) (w : World) (h : LstAt 14 cuR w A n c ts) :
    Calls Tryz.prog 5 #[.agg #[.string s, .slice A n c]] w (RMapP s ((ts.take 102).map cutCU) w) := by
  obtain ⟨i0, hi, hz0, hz1, hz2⟩ := info_parts cuInfo
  have hm := h.2.2.1
  have hnc := h.2.1
  unfold maxLen at hm
  have hal : Below w.heap.size w (((w.alloc (.cells #[.string s, .slice A n c] 24)).alloc (.cells #[.string ⟨#[]⟩, .slice none 0 0] 24)).alloc (.cells #[.string s, .slice none 0 0] 24)) := (((Below.refl w.heap.size w).alloc (Nat.le_refl _) _).alloc (by simp) _).alloc (by simp; omega) _
  have HS0 : Hid (MpSt w (((w.alloc (.cells #[.string s, .slice A n c] 24)).alloc (.cells #[.string ⟨#[]⟩, .slice none 0 0] 24)).alloc (.cells #[.string s, .slice none 0 0] 24)) s A n c ts (.slice none 0 0) 0) := hide
    ⟨((Blk.new w _ _).alloc _).alloc _, (blk_new' _ _ (by simp)).alloc _, blk_new' _ _ (by simp), ⟨[], ⟨rfl, .inl ⟨rfl, rfl⟩⟩, Chunks.nil_⟩, hal⟩
  have HU := hide h
  clear h hal
  go_enter Tryz.func5, Tryz.ntmps5
  go_wp2
  go_loopw [4] (fun iv wr => ∃ i : Nat, i ≤ n ∧ i ≤ 102 ∧ iv = .int .i64 (i : Nat) ∧ ∃ V, MpSt w wr s A n c ts V i) (fun iv _ => n - (intOf iv).toNat)
  case atStart => exact ⟨0, Nat.zero_le _, by omega, rfl, _, HS0.out⟩
  case round =>
    obtain ⟨i, hin, hi102, rfl, V, hst⟩ := hrel
    have HST := hide hst
    have x0 := hst.bl.cell 0
    have x1 := hst.bl.cell 1
    have l0 := hst.bo.cell 0
    have l1 := hst.bo.cell 1
    have lf1 := hst.bo.frozen 1
    have hlw := hst.bo.lt
    clear hst
    obtain ⟨xs, hown, hch⟩ := HST.out.own
    obtain ⟨AL, cl, hVe⟩ := own_slice hown
    subst hVe
    have HO := hide hown
    have HCh := hide hch
    clear hown hch
    by_cases hgo : i < n ∧ i < 102
    · obtain ⟨hlt, h102⟩ := hgo
      have hbel := HST.out.bel
      obtain ⟨g, o, x, B, m, d, rfl, hg, hy, hok, hu, hc⟩ := CUat (HU.out.below cuMono hbel) hlt
      have HY := hide hy
      have HC := hide hc
      have HOK := hide hok
      obtain ⟨m5, hm5⟩ : ∃ m5, m5 = (x.r.take 34).length := ⟨_, rfl⟩
      have hm34 : m5 ≤ 34 := by rw [hm5, List.length_take]; omega
      have HM5 := hide hm5
      clear hm5
      have HFew := hide (fun (W : World) (hb : Below wr.heap.size wr W) => fewO_any B m d x.r 34 (by decide) W (hu.below hb))
      have hub := hu.2.2.2.1
      have HYB := hide hub
      clear hub hu
      have hd1 : decide ((i : Int) < 102) = true := by simp; omega
      have hi0 : (0 : Int) ≤ (i : Int) := by omega
      have hi1 : (i : Int) < (n : Int) := by omega
      have HBe := hide hbel
      obtain ⟨wo, hwo⟩ : ∃ wo, wo = wr := ⟨_, rfl⟩
      subst hwo
      have HBr : Hid (∀ W, Below wo.heap.size wo W → (W.cell? ⟨w.heap.size, 1, none⟩ = some (.slice (some ⟨g, o, none⟩) n c) ∧ W.cell? ⟨w.heap.size + 2, 1, none⟩ = some (.slice AL i cl) ∧ W.frozen? ⟨w.heap.size + 2, 1, none⟩ = false ∧ W.cell? ⟨g, o + i * 14, none⟩ = some (.int .i64 x.seq) ∧ W.cell? ⟨g, o + i * 14 + 1, none⟩ = some (.bool x.per) ∧ W.cell? ⟨g, o + i * 14 + 2, none⟩ = some (.string x.pn) ∧ W.cell? ⟨g, o + i * 14 + 3, none⟩ = some (.string x.an) ∧ W.cell? ⟨g, o + i * 14 + 4, none⟩ = some (.string x.cn) ∧ W.cell? ⟨g, o + i * 14 + 5, none⟩ = some (.bool x.mi) ∧ W.cell? ⟨g, o + i * 14 + 6, none⟩ = some (.int .u32 (x.med : Int)) ∧ W.cell? ⟨g, o + i * 14 + 7, none⟩ = some (.int .i64 x.sets) ∧ W.cell? ⟨g, o + i * 14 + 8, none⟩ = some (.int .u32 (x.sp : Int)) ∧ W.cell? ⟨g, o + i * 14 + 9, none⟩ = some (.int .u32 (x.sm : Int)) ∧ W.cell? ⟨g, o + i * 14 + 10, none⟩ = some (.int .i64 x.so) ∧ W.cell? ⟨g, o + i * 14 + 11, none⟩ = some (.slice B m d) ∧ W.cell? ⟨g, o + i * 14 + 12, none⟩ = some (.int .u32 (x.ah : Int)) ∧ W.cell? ⟨g, o + i * 14 + 13, none⟩ = some (.int .i64 x.tm))) := hide (fun W hb => ⟨(HST.out.below hb).bl.cell 1, (HST.out.below hb).bo.cell 1, (HST.out.below hb).bo.frozen 1, (hb.cell (p := ⟨g, o + i * 14, none⟩) hg).trans (hc 0 _ rfl), (hb.cell (p := ⟨g, o + i * 14 + 1, none⟩) hg).trans (hc 1 _ rfl), (hb.cell (p := ⟨g, o + i * 14 + 2, none⟩) hg).trans (hc 2 _ rfl), (hb.cell (p := ⟨g, o + i * 14 + 3, none⟩) hg).trans (hc 3 _ rfl), (hb.cell (p := ⟨g, o + i * 14 + 4, none⟩) hg).trans (hc 4 _ rfl), (hb.cell (p := ⟨g, o + i * 14 + 5, none⟩) hg).trans (hc 5 _ rfl), (hb.cell (p := ⟨g, o + i * 14 + 6, none⟩) hg).trans (hc 6 _ rfl), (hb.cell (p := ⟨g, o + i * 14 + 7, none⟩) hg).trans (hc 7 _ rfl), (hb.cell (p := ⟨g, o + i * 14 + 8, none⟩) hg).trans (hc 8 _ rfl), (hb.cell (p := ⟨g, o + i * 14 + 9, none⟩) hg).trans (hc 9 _ rfl), (hb.cell (p := ⟨g, o + i * 14 + 10, none⟩) hg).trans (hc 10 _ rfl), (hb.cell (p := ⟨g, o + i * 14 + 11, none⟩) hg).trans (hc 11 _ rfl), (hb.cell (p := ⟨g, o + i * 14 + 12, none⟩) hg).trans (hc 12 _ rfl), (hb.cell (p := ⟨g, o + i * 14 + 13, none⟩) hg).trans (hc 13 _ rfl)⟩)
      obtain ⟨e0, e1, e2, e3, e4, e5, e6, e7, e8, e9, e10, e11, e12, e13, e14, e15, e16⟩ := HBr.out wo (Below.refl _ _)
      clear hy hok hbel hc
      have HK0 : Hid (Blk (wo.alloc (.cells #[.int .i64 x.seq, .bool x.per, .string x.pn, .string x.an, .string x.cn, .bool x.mi, .int .u32 (x.med : Int), .int .i64 x.sets, .int .u32 (x.sp : Int), .int .u32 (x.sm : Int), .int .i64 x.so, .slice B m d, .int .u32 (x.ah : Int), .int .i64 x.tm] 32)) wo.heap.size 32 #[.int .i64 x.seq, .bool x.per, .string x.pn, .string x.an, .string x.cn, .bool x.mi, .int .u32 (x.med : Int), .int .i64 x.sets, .int .u32 (x.sp : Int), .int .u32 (x.sm : Int), .int .i64 x.so, .slice B m d, .int .u32 (x.ah : Int), .int .i64 x.tm]) := hide (Blk.new wo _ _)
      have HB0 : Hid (Below wo.heap.size wo (wo.alloc (.cells #[.int .i64 x.seq, .bool x.per, .string x.pn, .string x.an, .string x.cn, .bool x.mi, .int .u32 (x.med : Int), .int .i64 x.sets, .int .u32 (x.sp : Int), .int .u32 (x.sm : Int), .int .i64 x.so, .slice B m d, .int .u32 (x.ah : Int), .int .i64 x.tm] 32))) := hide ((Below.refl _ wo).alloc (Nat.le_refl _) _)
      go_wp2_with fail
      refine (HFew.out _ HB0.out).mono ?_
      rintro e w5 ⟨A5, n5, c5, rfl, hv5, hb5⟩
      obtain rfl : n5 = m5 := by have := hv5.1; rw [HM5.out]; simp only [u32c, List.length_map] at this; omega
      have HV5 := hide hv5
      have hk5 := HK0.out.below hb5 (by simp)
      have HB5 : Hid (Below wo.heap.size wo w5) := hide (HB0.out.trans (hb5.mono (by simp)))
      have HK5 : Hid (Blk w5 wo.heap.size 32 #[.int .i64 x.seq, .bool x.per, .string x.pn, .string x.an, .string x.cn, .bool x.mi, .int .u32 (x.med : Int), .int .i64 x.sets, .int .u32 (x.sp : Int), .int .u32 (x.sm : Int), .int .i64 x.so, .slice B m d, .int .u32 (x.ah : Int), .int .i64 x.tm]) := hide hk5
      have y11 := hk5.frozen 11
      have q11 := hk5.cell 11
      have HK6 : Hid (Blk (w5.setCell ⟨wo.heap.size, 11, none⟩ (.slice A5 n5 c5)) wo.heap.size 32 #[.int .i64 x.seq, .bool x.per, .string x.pn, .string x.an, .string x.cn, .bool x.mi, .int .u32 (x.med : Int), .int .i64 x.sets, .int .u32 (x.sp : Int), .int .u32 (x.sm : Int), .int .i64 x.so, .slice A5 n5 c5, .int .u32 (x.ah : Int), .int .i64 x.tm]) := hide (hk5.set_ 11 (.slice A5 n5 c5))
      have HB6 : Hid (Below wo.heap.size wo (w5.setCell ⟨wo.heap.size, 11, none⟩ (.slice A5 n5 c5))) := hide (HB5.out.setCell (p := ⟨wo.heap.size, 11, none⟩) (Nat.le_refl _) _)
      obtain ⟨g0, g1, gf1, gg0, gg1, gg2, gg3, gg4, gg5, gg6, gg7, gg8, gg9, gg10, gg11, gg12, gg13⟩ := HBr.out _ HB6.out
      clear gg0 gg1 gg2 gg3 gg4 gg5 gg6 gg7 gg8 gg9 gg10 gg11 gg12 gg13
      have HV6 := hide (own_set (g := wo.heap.size) (i := 11) HV5.out (fun e => by have := (own_low_block HV5.out _ e); simp at this; omega) (.slice A5 n5 c5))
      have HO6 := hide (own_below HO.out HB6.out)
      have kf0 := HK6.out.cell 0
      have kf1 := HK6.out.cell 1
      have kf2 := HK6.out.cell 2
      have kf3 := HK6.out.cell 3
      have kf4 := HK6.out.cell 4
      have kf5 := HK6.out.cell 5
      have kf6 := HK6.out.cell 6
      have kf7 := HK6.out.cell 7
      have kf8 := HK6.out.cell 8
      have kf9 := HK6.out.cell 9
      have kf10 := HK6.out.cell 10
      have kf11 := HK6.out.cell 11
      have kf12 := HK6.out.cell 12
      have kf13 := HK6.out.cell 13
      have hs6 := HB6.out.size
      go_wp2_with (at_builtin; refine wpList_append_any _ rfl (.tmp 30) (.tmp 32) 22 rfl (w.heap.size + 3) 32 i0 _ 14 136 Tryz.underlying22 hi hz0 hz1 hz2 rfl (by decide) (.slice AL i cl) i xs rfl (HO6.out.alloc _) (w5.heap.size + 1) (some ⟨w5.heap.size, 0, none⟩) 1 1 [.int .i64 x.seq, .bool x.per, .string x.pn, .string x.an, .string x.cn, .bool x.mi, .int .u32 (x.med : Int), .int .i64 x.sets, .int .u32 (x.sp : Int), .int .u32 (x.sm : Int), .int .i64 x.so, .slice A5 n5 c5, .int .u32 (x.ah : Int), .int .i64 x.tm] rfl (reads_blkN (blk_new' _ _ (by simp)) (Nat.lt_succ_self _) rfl rfl) (by simp [Value.oneCell']) (by unfold maxLen; omega) (by omega) (by simp at hs6 ⊢; omega) ?_; intro v6 w6 hown6 hg6 hor6; have HO7 := hide hown6; have HG7 := hide hg6; clear hown6 hg6 hor6; have HB7 : Hid (Below (w.heap.size + 3) wo w6) := hide (Below.grown (((HB6.out).mono (by omega)).alloc (by omega) _) HG7.out (by simp at hs6 ⊢; omega) (fun k hk => own_low_block HO6.out k hk)); obtain ⟨m1, mf1⟩ : w6.cell? ⟨w.heap.size + 2, 1, none⟩ = some (.slice AL i cl) ∧ w6.frozen? ⟨w.heap.size + 2, 1, none⟩ = false := ⟨(HST.out.bo.below HB7.out (by omega)).cell 1, (HST.out.bo.below HB7.out (by omega)).frozen 1⟩; obtain ⟨A6, c6, rfl⟩ := own_slice HO7.out)
      have HV7 : Hid (w6.ownsRow (w.heap.size + 3) 29 1 (.slice A5 n5 c5) n5 (u32c (x.r.take 34))) := hide (own_other (own_baseLe HV6.out (by show w.heap.size + 3 ≤ (wo.alloc _).heap.size; simp; omega)) HO6.out (by decide) HG7.out)
      have HNe : Hid ((Value.slice A6 (i + 1) c6).ownBlock ≠ some (w.heap.size + 2)) := hide (fun e => by have := own_low_block HO7.out _ e; omega)
      have HC6 : Hid (MpSt w (w6.setCell ⟨w.heap.size + 2, 1, none⟩ (.slice A6 (i + 1) c6)) s (some ⟨g, o, none⟩) n c ts (.slice A6 (i + 1) c6) (i + 1)) := hide
        ⟨(HST.out.bl.below HB7.out (by omega)).far (by show w.heap.size ≠ w.heap.size + 2; omega) _, (HST.out.rs.below HB7.out (by omega)).far (by show w.heap.size + 1 ≠ w.heap.size + 2; omega) _, (HST.out.bo.below HB7.out (by omega)).set_ 1 _,
          ⟨_, own_set HO7.out HNe.out _, by
            have h1 : Chunks 14 (cuO (w.heap.size + 3)) (w6.setCell ⟨w.heap.size + 2, 1, none⟩ (.slice A6 (i + 1) c6)) xs ((ts.take i).map cutCU) := ⟨HCh.out.1, fun k x hk => by
              obtain ⟨v, e, ok, hv, hyb⟩ := HCh.out.2 k x hk
              have hne2 : v.ownBlock ≠ some (w.heap.size + 2) := fun e => by have := own_low_block hv _ e; omega
              exact ⟨v, e, ok, own_set (own_other (own_below hv HB6.out) HO6.out (by decide) HG7.out) hne2 _, hyb⟩⟩
            have hne3 : (Value.slice A5 n5 c5).ownBlock ≠ some (w.heap.size + 2) := fun e => by have := own_low_block HV7.out _ e; omega
            have h2 : Chunks 14 (cuO (w.heap.size + 3)) (w6.setCell ⟨w.heap.size + 2, 1, none⟩ (.slice A6 (i + 1) c6)) [.int .i64 x.seq, .bool x.per, .string x.pn, .string x.an, .string x.cn, .bool x.mi, .int .u32 (x.med : Int), .int .i64 x.sets, .int .u32 (x.sp : Int), .int .u32 (x.sm : Int), .int .i64 x.so, .slice A5 n5 c5, .int .u32 (x.ah : Int), .int .i64 x.tm] [cutCU x] := Chunks.one_ rfl ⟨.slice A5 n5 c5, rfl, HOK.out.cut, by
              have := own_set HV7.out hne3 (.slice A6 (i + 1) c6) (i := 1)
              rw [HM5.out] at this ⊢
              exact this, fun y hy => HYB.out y (List.mem_of_mem_take hy)⟩
            have h3 := h1.app_ h2
            rw [show (ts.take (i + 1)).map cutCU = (ts.take i).map cutCU ++ [cutCU x] by rw [List.take_add_one, HY.out]; simp]
            exact h3⟩,
          (HST.out.bel.trans (HB7.out.mono (by omega))).setCell (p := ⟨w.heap.size + 2, 1, none⟩) (by show w.heap.size ≤ w.heap.size + 2; omega) _⟩
      go_wp2
      go_roundw
      case rel => exact ⟨i + 1, by omega, by omega, by go_num, _, HC6.out⟩
      case measure => simp [intOf]; omega
    · have hend : (decide (i < n) = false ∨ (i < n ∧ decide ((i : Int) < 102) = false)) := by
        by_cases hlt : i < n
        · exact .inr ⟨hlt, by simp; omega⟩
        · exact .inl (by simp; omega)
      have hts : (ts.take i).map cutCU = (ts.take 102).map cutCU := by
        have := HU.out.1
        by_cases hlt : i < n
        · rw [show i = 102 by omega]
        · rw [List.take_of_length_le (by omega), List.take_of_length_le (by omega)]
      have r0 := HST.out.rs.cell 0
      have r1 := HST.out.rs.cell 1
      have rf0 := HST.out.rs.frozen 0
      have rf1 := HST.out.rs.frozen 1
      have HEnd : Hid ((World.ownsRow ((wr.setCell ⟨w.heap.size + 1, 0, none⟩ (.string s)).setCell ⟨w.heap.size + 1, 1, none⟩ (.slice AL i cl)) w.heap.size 32 14 (.slice AL i cl) i xs ∧ Chunks 14 (cuO w.heap.size) ((wr.setCell ⟨w.heap.size + 1, 0, none⟩ (.string s)).setCell ⟨w.heap.size + 1, 1, none⟩ (.slice AL i cl)) xs ((ts.take 102).map cutCU)) ∧ Below w.heap.size w ((wr.setCell ⟨w.heap.size + 1, 0, none⟩ (.string s)).setCell ⟨w.heap.size + 1, 1, none⟩ (.slice AL i cl))) := hide (by
        rw [← hts]
        have hne : (Value.slice AL i cl).ownBlock ≠ some (w.heap.size + 1) := fun e => by have := own_low_block HO.out _ e; omega
        have ho := own_set (i := 1) (own_set (i := 0) HO.out hne (.string s)) hne (.slice AL i cl)
        refine ⟨⟨own_baseLe ho (by omega), HCh.out.1, fun k x hk => ?_⟩, (HST.out.bel.setCell (p := ⟨w.heap.size + 1, 0, none⟩) (by show w.heap.size ≤ w.heap.size + 1; omega) _).setCell (p := ⟨w.heap.size + 1, 1, none⟩) (by show w.heap.size ≤ w.heap.size + 1; omega) _⟩
        obtain ⟨v, e, ok, hv, hyb⟩ := HCh.out.2 k x hk
        have hne2 : v.ownBlock ≠ some (w.heap.size + 1) := fun e => by have := own_low_block hv _ e; omega
        exact ⟨v, e, ok, own_baseLe (own_set (i := 1) (own_set (i := 0) hv hne2 (.string s)) hne2 (.slice AL i cl)) (by omega), hyb⟩)
      clear hts
      rcases hend with hd | ⟨hlt, hd⟩
      · go_wp2
        refine bodyPost_ret (v := .agg #[.string s, .slice AL i cl]) (by simp [results, Tryz.results5, go_sem, r0, r1]) rfl ⟨AL, i, cl, xs, rfl, HEnd.out.1.1, HEnd.out.1.2, HEnd.out.2⟩
      · have hlt1 : decide (i < n) = true := by simp; omega
        go_wp2
        refine bodyPost_ret (v := .agg #[.string s, .slice AL i cl]) (by simp [results, Tryz.results5, go_sem, r0, r1]) rfl ⟨AL, i, cl, xs, rfl, HEnd.out.1.1, HEnd.out.1.2, HEnd.out.2⟩
end Go.Proofs.YtgofaoommpnhpaaGreat
set_option linter.unusedSimpArgs false
set_option linter.unusedVariables false
namespace Go.Proofs.YtgofaoommpnhpaaGreat
open Go.RowKit Go.WideShapes Go.ChangeShapes
attribute [local go_sem] Oper.semAt_some
theorem bytes_nil (s : ByteArray) : (s.toList == []) = decide (s.size = 0) := by
  rw [← str_of s, show (str s.data.toList).toList = s.data.toList by unfold str; rw [ByteArray.toList_mk]]
  cases h : s.data.toList with
  | nil => simp [str, h, ByteArray.size]
  | cons a l => simp [str, h, ByteArray.size]
set_option maxRecDepth 100000 in
theorem sIndex_any (x : ByteArray) (A : Option Addr) (n c : Nat) (l : List ByteArray) (w : World) (h : StrsAt w A n c l) :
    Calls Tryz.prog 92 #[.slice A n c, .string x] w fun e w' => e = .returned (.int .i64 (idxP (fun y => decide (x = y)) l)) ∧ w' = w := by
  have hm := h.2.2.1
  have hnc := h.2.1
  unfold maxLen at hm
  have HU := hide h
  clear h
  go_enter Tryz.func92, Tryz.ntmps92
  go_wp2
  go_loopw [8] (fun i wr => ∃ k : Nat, k ≤ n ∧ i = .int .i64 k ∧ (∀ y ∈ l.take k, decide (x = y) = false) ∧ wr = w) (fun i _ => n - (intOf i).toNat)
  case atStart => exact ⟨0, Nat.zero_le _, rfl, by simp, rfl⟩
  case round =>
    obtain ⟨k, hk, rfl, hno, rfl⟩ := hrel
    have HN := hide hno
    clear hno
    by_cases hlt : k < n
    · obtain ⟨g, o, y, rfl, hg, hy, hs, hc⟩ := HU.out.at_ hlt
      have HY := hide hy
      obtain ⟨q, hq⟩ : ∃ q, decide (x = y) = q := ⟨_, rfl⟩
      have hb := bytes_beq x y
      have HQ := hide hq
      rw [hq] at hb
      clear hy hq
      cases q
      · have hn2 := hide (show ∀ z ∈ l.take (k + 1), decide (x = z) = false by
          intro z hz
          rw [List.take_add_one, HY.out, List.mem_append] at hz
          rcases hz with hz | hz
          · exact HN.out z hz
          · simp at hz; subst hz; exact HQ.out)
        go_wp2
        go_roundw
        case rel => exact ⟨k + 1, by omega, by go_num, hn2.out, by first | rfl | trivial⟩
        case measure => simp [intOf]; omega
      · have hin := hide (idxP_at (fun y => decide (x = y)) l k _ HN.out HY.out HQ.out)
        go_wp2
        go_ret
        exact ⟨ret_i64 hin.out.symm, rfl⟩
    · obtain rfl : k = n := by omega
      have hf := hide (idxP_none (fun y => decide (x = y)) l (fun y hy => HN.out y (by rw [List.take_of_length_le (by rw [HU.out.1]; exact Nat.le_refl _)]; exact hy)))
      go_wp2
      go_ret
      exact ⟨ret_i64 hf.out.symm, rfl⟩
theorem sContains_any (x : ByteArray) (A : Option Addr) (n c : Nat) (l : List ByteArray) (w : World) (h : StrsAt w A n c l) :
    Calls Tryz.prog 57 #[.slice A n c, .string x] w fun e w' => e = .returned (.bool (hasSB x l)) ∧ w' = w := by
  have HI := hide (sIndex_any x A n c l w h)
  have hd := idxP_any (fun y => decide (x = y)) l
  change _ = hasSB x l at hd
  obtain ⟨q, hq⟩ : ∃ q, hasSB x l = q := ⟨_, rfl⟩
  obtain ⟨i, hi⟩ : ∃ i, idxP (fun y => decide (x = y)) l = i := ⟨_, rfl⟩
  rw [hi] at HI hd
  rw [hq] at hd ⊢
  clear h hi hq
  go_enter Tryz.func57, Tryz.ntmps57
  go_wp2_with fail
  refine HI.out.mono ?_
  rintro e w1 ⟨rfl, rfl⟩
  go_wp2
  go_ret
  exact ⟨rfl, rfl⟩
set_option maxRecDepth 100000 in
set_option maxHeartbeats 2000000 in
theorem textSame_any (A B : Option Addr) (n c m d : Nat) (xs ys : List ByteArray) (w : World) (hx : StrsAt w A n c xs) (hy : StrsAt w B m d ys) :
    Calls Tryz.prog 7 #[.slice A n c, .slice B m d] w (GoodP (decide (xs = ys)) w) := by
  have hm1 := hx.2.2.1
  have hm2 := hy.2.2.1
  have hnc := hx.2.1
  have hmd := hy.2.1
  unfold maxLen at hm1 hm2
  by_cases hnm : n = m
  · subst hnm
    have HX := hide hx
    have HY := hide hy
    have hn1 : ((n : Int) != (n : Int)) = false := by simp
    clear hx hy
    go_enter Tryz.func7, Tryz.ntmps7
    go_wp2
    go_loopw [5] (fun i wr => ∃ k : Nat, k ≤ n ∧ i = .int .i64 k ∧ xs.take k = ys.take k ∧ Below w.heap.size w wr) (fun i _ => n - (intOf i).toNat)
    case atStart => exact ⟨0, Nat.zero_le _, rfl, by simp, Below.refl _ _⟩
    case round =>
      obtain ⟨k, hk, rfl, hno, hb⟩ := hrel
      have HN := hide hno
      have HB := hide hb
      clear hno
      by_cases hlt : k < n
      · obtain ⟨g, o, x, rfl, hg, hxk, hsx, hcx⟩ := (HX.out.below rfl hb).at_ hlt
        obtain ⟨g2, o2, y, rfl, hg2, hyk, hsy, hcy⟩ := (HY.out.below rfl hb).at_ hlt
        have HXk := hide hxk
        have HYk := hide hyk
        obtain ⟨q, hq⟩ : ∃ q, decide (x = y) = q := ⟨_, rfl⟩
        have hbe := bytes_beq x y
        rw [hq] at hbe
        have hbn : (x.toList != y.toList) = !q := by rw [bne, hbe]
        have HQ := hide hq
        have hi0 : (0 : Int) ≤ (k : Int) := by omega
        have hi1 : (k : Int) < (n : Int) := by omega
        clear hxk hyk hq hb
        cases q
        · have HR := hide (show decide (xs = ys) = false by
            refine decide_eq_false fun e => ?_
            subst e
            have := HXk.out.symm.trans HYk.out
            injection this with this
            exact absurd this (by simpa using HQ.out))
          simp only [Bool.not_false] at hbn
          go_wp2
          go_quiet (fail)
          go_wp2
          go_ret
          exact ⟨ret_bool HR.out.symm, by first | exact below_drewN HB.out _ | exact HB.out⟩
        · have HR := hide (show xs.take (k + 1) = ys.take (k + 1) by
            have : x = y := by simpa using HQ.out
            rw [List.take_add_one, List.take_add_one, HXk.out, HYk.out, HN.out, this])
          simp only [Bool.not_true] at hbn
          go_wp2
          go_quiet (fail)
          go_wp2
          go_roundw
          case rel => exact ⟨k + 1, by omega, by go_num, HR.out, by first | exact below_drewN HB.out _ | exact HB.out⟩
          case measure => simp [intOf]; omega
      · obtain rfl : k = n := by omega
        have HR := hide (show decide (xs = ys) = true by
          refine decide_eq_true ?_
          have h1 := HX.out.1
          have h2 := HY.out.1
          have := HN.out
          rwa [List.take_of_length_le (by omega), List.take_of_length_le (by omega)] at this)
        clear hb
        go_wp2
        go_ret
        exact ⟨ret_bool HR.out.symm, HB.out⟩
  · have hne : decide (n = m) = false := decide_eq_false hnm
    have hne2 : ((n : Int) != (m : Int)) = true := by simp; omega
    have HR := hide (show decide (xs = ys) = false by
      refine decide_eq_false fun e => hnm ?_
      rw [← hx.1, ← hy.1, e])
    clear hx hy hnm
    go_enter Tryz.func7, Tryz.ntmps7
    go_wp2
    go_ret
    exact ⟨ret_bool HR.out.symm, Below.refl _ _⟩
theorem sInfo : (Tryz.prog.info? 9).map (fun i => (i.zero, i.size, i.bytes)) = some (some (.string ⟨#[]⟩), 1, 16) := by kernel_rfl
/-- Names that are there, and one more: what the inner loop has found when it comes to k. -/
def freshB (s : ByteArray) (o : List ByteArray) (k : Nat) : Bool := decide (s.size ≠ 0) && !hasSB s (o.take k)
set_option maxRecDepth 100000 in
set_option maxHeartbeats 4000000 in
theorem refNames_any (A : Option Addr) (n c : Nat) (l : List ByteArray) (w : World) (h : StrsAt w A n c l) (hn : n ≤ 1000000) :
    Calls Tryz.prog 8 #[.slice A n c] w fun e w' => ∃ v, e = .returned v ∧ w'.ownsRow w.heap.size 9 1 v (namB l).length (strB (namB l)) ∧ Below w.heap.size w w' := by
  obtain ⟨i0, hi, hz0, hz1, hz2⟩ := info_parts sInfo
  have hm := h.2.2.1
  have hnc := h.2.1
  unfold maxLen at hm
  have HU := hide h
  have HBy := hide (fun x hx => h.2.2.2.1 x hx)
  have H0 : Hid ((w.alloc (.cells #[] 9)).ownsRow w.heap.size 9 1 (.slice (some ⟨w.heap.size, 0, none⟩) 0 0) 0 [] ∧ Below w.heap.size w (w.alloc (.cells #[] 9))) := hide ⟨World.ownsRow_made _ _ _ (Nat.le_refl _) (by simp [maxLen]) (by simp), (Below.refl _ w).alloc (Nat.le_refl _) _⟩
  clear h
  go_enter Tryz.func8, Tryz.ntmps8
  go_wp2
  go_loopw [3, 4] (fun vv iv wr => ∃ i : Nat, i ≤ n ∧ iv = .int .i64 (i : Nat) ∧ wr.ownsRow w.heap.size 9 1 vv (namB (l.take i)).length (strB (namB (l.take i))) ∧ Below w.heap.size w wr) (fun _ iv _ => n - (intOf iv).toNat)
  case atStart => exact ⟨0, Nat.zero_le _, rfl, H0.out.1, H0.out.2⟩
  case round =>
    obtain ⟨i, hin, rfl, hown, hbel⟩ := hrel
    have hNl := namB_len (l.take i)
    have hob : ∀ y ∈ namB (l.take i), y.size ≤ maxLen := fun y hy => HBy.out y (List.mem_of_mem_take (namB_mem hy))
    obtain ⟨o, ho⟩ : ∃ o, namB (l.take i) = o := ⟨_, rfl⟩
    rw [ho] at hown hNl hob
    rw [List.length_take] at hNl
    obtain ⟨N, hN⟩ : ∃ N, o.length = N := ⟨_, rfl⟩
    rw [hN] at hown hNl
    obtain ⟨A', c', rfl⟩ := own_slice hown
    have HSt := hide (strsAt_of_ownB hown hob)
    have HO := hide hown
    have HB := hide hbel
    have HOo := hide ho
    have HNN := hide hN
    have hsz := hbel.size
    clear hown hob ho hN
    by_cases hlt : i < n
    · obtain ⟨g, o1, x, rfl, hg, hx, hxs, hc⟩ := (HU.out.below rfl hbel).at_ hlt
      have HX := hide hx
      have HStep := hide (namB_snoc hx)
      rw [HOo.out] at HStep
      have HXs := hide hxs
      have HCx := hide hc
      have hi0 : (0 : Int) ≤ (i : Int) := by omega
      have hi1 : (i : Int) < (n : Int) := by omega
      obtain ⟨z, hz⟩ : ∃ z, decide (x.size = 0) = z := ⟨_, rfl⟩
      have hbe := bytes_nil x
      rw [hz] at hbe
      have hbn : (x.toList != []) = !z := by rw [bne, hbe]
      have HZ := hide hz
      clear hx hxs hz hbel
      obtain ⟨wo, hwo⟩ : ∃ wo, wo = wr := ⟨_, rfl⟩
      subst hwo
      go_wp2
      go_loopw [5, 6] (fun bv kv wr => ∃ k : Nat, k ≤ N ∧ kv = .int .i64 (k : Nat) ∧ bv = .bool (freshB x o k) ∧ Below wo.heap.size wo wr) (fun _ kv _ => N - (intOf kv).toNat)
      case atStart => exact ⟨0, Nat.zero_le _, rfl, by have := HZ.out; unfold freshB hasSB; by_cases h0 : x.size = 0 <;> simp_all, Below.refl _ _⟩
      case round =>
        obtain ⟨k, hkN, rfl, rfl, hbk⟩ := hrel
        have HBk := hide hbk
        obtain ⟨q, hq⟩ : ∃ q, freshB x o k = q := ⟨_, rfl⟩
        have HQ := hide hq
        rw [hq]
        clear hq
        by_cases hkl : k < N
        · obtain ⟨g2, o2, y, rfl, hg2, hy, hys, hcy⟩ := (HSt.out.below rfl hbk).at_ hkl
          have hcx : wr.cell? ⟨g, o1 + i, none⟩ = some (.string x) := (hbk.cell (p := ⟨g, o1 + i, none⟩) hg).trans HCx.out
          have HY := hide hy
          have hk0 : (0 : Int) ≤ (k : Int) := by omega
          have hk1 : (k : Int) < (N : Int) := by omega
          clear hy hys hbk
          obtain ⟨u, hu⟩ : ∃ u, decide (y = x) = u := ⟨_, rfl⟩
          have hye := bytes_beq y x
          rw [hu] at hye
          have hyn : (y.toList != x.toList) = !u := by rw [bne, hye]
          have HF : Hid (freshB x o (k + 1) = (q && !u)) := hide (by
            rw [← HQ.out, ← hu]
            unfold freshB
            rw [List.take_add_one, HY.out]
            unfold hasSB
            rw [List.any_append]
            simp [Bool.and_assoc, eq_comm (a := x) (b := y)])
          clear hu
          cases q
          · clear hye hyn
            simp only [Bool.false_and] at HF
            go_wp2
            go_quiet (fail)
            go_wp2
            go_roundw
            case rel => exact ⟨k + 1, by omega, by go_num, by rw [HF.out], by first | exact below_drewN HBk.out _ | exact HBk.out⟩
            case measure => simp [intOf]; omega
          · simp only [Bool.true_and] at HF
            cases u
            · simp only [Bool.not_false] at hyn HF
              go_wp2
              go_quiet (fail)
              go_wp2
              go_roundw
              case rel => exact ⟨k + 1, by omega, by go_num, by rw [HF.out], by first | exact below_drewN HBk.out _ | exact HBk.out⟩
              case measure => simp [intOf]; omega
            · simp only [Bool.not_true] at hyn HF
              go_wp2
              go_quiet (fail)
              go_wp2
              go_roundw
              case rel => exact ⟨k + 1, by omega, by go_num, by rw [HF.out], by first | exact below_drewN HBk.out _ | exact HBk.out⟩
              case measure => simp [intOf]; omega
        · obtain rfl : k = N := by omega
          have hcx : wr.cell? ⟨g, o1 + i, none⟩ = some (.string x) := (hbk.cell (p := ⟨g, o1 + i, none⟩) hg).trans HCx.out
          have HFr : Hid (namStep o x = if q = true then o ++ [x] else o) := hide (by
            rw [← HQ.out]
            unfold namStep freshB
            rw [List.take_of_length_le (by rw [HNN.out]; exact Nat.le_refl _)]
            simp)
          have HO2 := hide (own_below HO.out hbk)
          have hs2 := hbk.size
          clear hbk
          cases q
          · have HE : Hid (namB (l.take (i + 1)) = o) := hide (by rw [HStep.out, HFr.out]; simp)
            go_wp2
            go_roundw
            case rel => exact ⟨i + 1, by omega, by go_num, by rw [HE.out, HNN.out]; exact HO2.out, HB.out.trans (HBk.out.mono (by omega))⟩
            case measure => simp [intOf]; omega
          · have HE : Hid (namB (l.take (i + 1)) = o ++ [x]) := hide (by rw [HStep.out, HFr.out]; simp)
            go_wp2_with (at_builtin; refine wpList_append_any _ rfl (.tmp 38) (.tmp 43) 26 rfl w.heap.size 9 i0 _ 1 16 Tryz.underlying26 hi hz0 hz1 hz2 rfl (by decide) (.slice A' k c') k _ rfl (HO2.out.alloc _) (wr.heap.size + 1) (some ⟨wr.heap.size, 0, none⟩) 1 1 [.string x] rfl (reads_blkN (Blk.new _ _ _) (Nat.lt_succ_self _) rfl rfl) (by simp [Value.oneCell']) (by unfold maxLen; omega) (by omega) (by simp; omega) ?_; intro v' w3 hown' hgrow hat; have HO3 := hide hown'; have HB3 : Hid (Below w.heap.size w w3) := hide (Below.grown ((HB.out.trans (HBk.out.mono (by omega))).alloc (by omega) _) hgrow (by simp; omega) (fun k hk => own_low_block HO2.out k hk)); clear hown' hgrow hat)
            go_roundw
            case rel => exact ⟨i + 1, by omega, by go_num, by rw [HE.out, List.length_append, HNN.out]; have := HO3.out; simpa [strB] using this, HB3.out⟩
            case measure => simp [intOf]; omega
    · obtain rfl : i = n := by omega
      have HE : Hid (namB l = o) := hide (by have := HOo.out; rwa [List.take_of_length_le (by rw [HU.out.1]; exact Nat.le_refl _)] at this)
      clear hbel
      go_wp2
      go_ret
      exact ⟨_, rfl, by rw [HE.out, HNN.out]; exact HO.out, HB.out⟩
theorem cuOk_mem {w : World} {A : Option Addr} {n c : Nat} {l : List CU} (h : LstAt 14 cuR w A n c l) : ∀ x ∈ l, CuOk x := by
  intro x hx
  obtain ⟨k, hk, rfl⟩ := List.getElem_of_mem hx
  obtain ⟨g, o, y, B, m, d, _, _, hy, hok, _⟩ := CUat h (k := k) (by rw [← h.1]; exact hk)
  rw [List.getElem?_eq_getElem hk] at hy
  injection hy with hy
  rw [hy]; exact hok
structure UsSt (w W : World) (s : ByteArray) (A : Option Addr) (n c : Nat) (v : Value) (o : List ByteArray) : Prop where
  bl : Blk W w.heap.size 24 #[.string s, .slice A n c]
  own : W.ownsRow w.heap.size 9 1 v o.length (strB o)
  bel : Below w.heap.size w W
theorem UsSt.below {w W W' : World} {s : ByteArray} {A : Option Addr} {n c : Nat} {v : Value} {o : List ByteArray} (h : UsSt w W s A n c v o) (hb : Below W.heap.size W W') : UsSt w W' s A n c v o :=
  ⟨h.bl.below hb h.bl.lt, own_below h.own hb, h.bel.trans (hb.mono h.bel.size)⟩
set_option maxRecDepth 100000 in
set_option maxHeartbeats 8000000 in
theorem uses_any (F : FuncId) (pf : CU → ByteArray) (s : ByteArray) (A : Option Addr) (n c : Nat) (ts : List CU) (w : World) (h : LstAt 14 cuR w A n c ts) (hn : n ≤ 1000000)
    (hF : ∀ (args : Array Value) (W : World), (callFunc F args).run Tryz.prog W = .ok (.enter F args) W) (hpf : ∀ x, CuOk x → (pf x).size ≤ maxLen)
    (HF : ∀ (x : CU) (B : Option Addr) (m d : Nat) (W : World), Calls Tryz.prog F #[.agg #[.int .i64 x.seq, .bool x.per, .string x.pn, .string x.an, .string x.cn, .bool x.mi, .int .u32 (x.med : Int), .int .i64 x.sets, .int .u32 (x.sp : Int), .int .u32 (x.sm : Int), .int .i64 x.so, .slice B m d, .int .u32 (x.ah : Int), .int .i64 x.tm]] W fun e w' => e = .returned (.string (pf x)) ∧ Below W.heap.size W w') :
    Calls Tryz.prog 18 #[.agg #[.string s, .slice A n c], .func (.func F) #[] #[]] w fun e w' => ∃ v, e = .returned v ∧ w'.ownsRow w.heap.size 9 1 v (namB (ts.map pf)).length (strB (namB (ts.map pf))) ∧ Below w.heap.size w w' := by
  obtain ⟨i0, hi, hz0, hz1, hz2⟩ := info_parts sInfo
  have hm := h.2.2.1
  have hnc := h.2.1
  unfold maxLen at hm
  have HU := hide h
  have HE := hide hF
  have HP := hide HF
  have HBy : Hid (∀ x ∈ ts.map pf, x.size ≤ maxLen) := hide (fun x hx => by
    obtain ⟨y, hy, rfl⟩ := List.mem_map.1 hx
    exact hpf y (cuOk_mem h y hy))
  have H0 : Hid (UsSt w (w.alloc (.cells #[.string s, .slice A n c] 24)) s A n c (.slice none 0 0) []) := hide ⟨Blk.new w _ _, ⟨rfl, .inl ⟨rfl, rfl⟩⟩, (Below.refl _ w).alloc (Nat.le_refl _) _⟩
  have x0 := H0.out.bl.cell 0
  have x1 := H0.out.bl.cell 1
  clear h hF HF hpf
  go_enter Tryz.func18, Tryz.ntmps18
  go_wp2
  go_loopw [5, 12] (fun vv iv wr => ∃ i : Nat, i ≤ n ∧ iv = .int .i64 (i : Nat) ∧ UsSt w wr s A n c vv (namB ((ts.map pf).take i))) (fun _ iv _ => n - (intOf iv).toNat)
  case atStart => exact ⟨0, Nat.zero_le _, rfl, H0.out⟩
  case round =>
    obtain ⟨i, hin, rfl, hst⟩ := hrel
    have hNl := namB_len ((ts.map pf).take i)
    have hob : ∀ y ∈ namB ((ts.map pf).take i), y.size ≤ maxLen := fun y hy => HBy.out y (List.mem_of_mem_take (namB_mem hy))
    obtain ⟨o, ho⟩ : ∃ o, namB ((ts.map pf).take i) = o := ⟨_, rfl⟩
    rw [ho] at hst hNl hob
    rw [List.length_take, List.length_map, HU.out.1] at hNl
    obtain ⟨N, hN⟩ : ∃ N, o.length = N := ⟨_, rfl⟩
    have hown := hst.own
    rw [hN] at hown hNl
    obtain ⟨A', c', rfl⟩ := own_slice hown
    have HO := hide hown
    have HST := hide hst
    have HOo := hide ho
    have HNN := hide hN
    have HOb := hide hob
    have hbel := hst.bel
    have hsz := hbel.size
    clear hown hob ho hN hst
    by_cases hlt : i < n
    · obtain ⟨g, o1, x, B, m, d, rfl, hg, hx, hok, hu, hc⟩ := CUat (HU.out.below cuMono hbel) hlt
      have HStep := hide (namB_snoc (l := ts.map pf) (k := i) (x := pf x) (by rw [List.getElem?_map, hx]; rfl))
      rw [HOo.out] at HStep
      have HC := hide hc
      have HFx := hide (fun (W : World) => HP.out x B m d W)
      obtain ⟨y, hy⟩ : ∃ y, pf x = y := ⟨_, rfl⟩
      rw [hy] at HFx HStep
      have hi0 : (0 : Int) ≤ (i : Int) := by omega
      have hi1 : (i : Int) < (n : Int) := by omega
      obtain ⟨z, hz⟩ : ∃ z, decide (y.size = 0) = z := ⟨_, rfl⟩
      have hbe := bytes_nil y
      rw [hz] at hbe
      have hbn : (y.toList != []) = !z := by rw [bne, hbe]
      have HZ := hide hz
      obtain ⟨ce0, ce1, ce2, ce3, ce4, ce5, ce6, ce7, ce8, ce9, ce10, ce11, ce12, ce13⟩ : wr.cell? ⟨g, o1 + i * 14, none⟩ = some (.int .i64 x.seq) ∧ wr.cell? ⟨g, o1 + i * 14 + 1, none⟩ = some (.bool x.per) ∧ wr.cell? ⟨g, o1 + i * 14 + 2, none⟩ = some (.string x.pn) ∧ wr.cell? ⟨g, o1 + i * 14 + 3, none⟩ = some (.string x.an) ∧ wr.cell? ⟨g, o1 + i * 14 + 4, none⟩ = some (.string x.cn) ∧ wr.cell? ⟨g, o1 + i * 14 + 5, none⟩ = some (.bool x.mi) ∧ wr.cell? ⟨g, o1 + i * 14 + 6, none⟩ = some (.int .u32 (x.med : Int)) ∧ wr.cell? ⟨g, o1 + i * 14 + 7, none⟩ = some (.int .i64 x.sets) ∧ wr.cell? ⟨g, o1 + i * 14 + 8, none⟩ = some (.int .u32 (x.sp : Int)) ∧ wr.cell? ⟨g, o1 + i * 14 + 9, none⟩ = some (.int .u32 (x.sm : Int)) ∧ wr.cell? ⟨g, o1 + i * 14 + 10, none⟩ = some (.int .i64 x.so) ∧ wr.cell? ⟨g, o1 + i * 14 + 11, none⟩ = some (.slice B m d) ∧ wr.cell? ⟨g, o1 + i * 14 + 12, none⟩ = some (.int .u32 (x.ah : Int)) ∧ wr.cell? ⟨g, o1 + i * 14 + 13, none⟩ = some (.int .i64 x.tm) := ⟨hc 0 _ rfl, hc 1 _ rfl, hc 2 _ rfl, hc 3 _ rfl, hc 4 _ rfl, hc 5 _ rfl, hc 6 _ rfl, hc 7 _ rfl, hc 8 _ rfl, hc 9 _ rfl, hc 10 _ rfl, hc 11 _ rfl, hc 12 _ rfl, hc 13 _ rfl⟩
      clear hx hz hbel hu hok hc
      obtain ⟨wo, hwo⟩ : ∃ wo, wo = wr := ⟨_, rfl⟩
      subst hwo
      have HK0 : Hid (Blk (wo.alloc (.cells #[.int .i64 x.seq, .bool x.per, .string x.pn, .string x.an, .string x.cn, .bool x.mi, .int .u32 (x.med : Int), .int .i64 x.sets, .int .u32 (x.sp : Int), .int .u32 (x.sm : Int), .int .i64 x.so, .slice B m d, .int .u32 (x.ah : Int), .int .i64 x.tm] 32)) wo.heap.size 32 #[.int .i64 x.seq, .bool x.per, .string x.pn, .string x.an, .string x.cn, .bool x.mi, .int .u32 (x.med : Int), .int .i64 x.sets, .int .u32 (x.sp : Int), .int .u32 (x.sm : Int), .int .i64 x.so, .slice B m d, .int .u32 (x.ah : Int), .int .i64 x.tm]) := hide (Blk.new wo _ _)
      have HB0 : Hid (Below wo.heap.size wo (wo.alloc (.cells #[.int .i64 x.seq, .bool x.per, .string x.pn, .string x.an, .string x.cn, .bool x.mi, .int .u32 (x.med : Int), .int .i64 x.sets, .int .u32 (x.sp : Int), .int .u32 (x.sm : Int), .int .i64 x.so, .slice B m d, .int .u32 (x.ah : Int), .int .i64 x.tm] 32))) := hide ((Below.refl _ wo).alloc (Nat.le_refl _) _)
      go_wp2_with fail
      rw [HE.out, Oper.upon_enter]
      refine (HFx.out _).mono ?_
      rintro e w2 ⟨rfl, hb2⟩
      have HB2 : Hid (Below wo.heap.size wo w2) := hide (HB0.out.trans (hb2.mono (by simp)))
      have HS2 := hide (HST.out.below HB2.out)
      have HO2 := hide (own_below HO.out HB2.out)
      have HSt2 := hide (strsAt_of_ownB HO2.out HOb.out)
      have hs2 := HB2.out.size
      clear hb2
      cases z
      · have HCo := hide (sContains_any y A' N c' o w2 HSt2.out)
        simp only [Bool.not_false] at hbn
        obtain ⟨u, hu⟩ : ∃ u, hasSB y o = u := ⟨_, rfl⟩
        rw [hu] at HCo
        have HFr : Hid (namStep o y = if u = true then o else o ++ [y]) := hide (by
          have hz : ¬ y.size = 0 := by simpa using HZ.out
          rw [← hu]
          unfold namStep
          cases hasSB y o <;> simp [hz])
        clear hu
        cases u
        · have HE2 : Hid (namB ((ts.map pf).take (i + 1)) = o ++ [y]) := hide (by rw [HStep.out, HFr.out]; simp)
          go_wp2_with fail
          refine HCo.out.mono ?_
          rintro e w3 ⟨rfl, rfl⟩
          go_wp2_with (at_builtin; refine wpList_append_any _ rfl (.tmp 27) (.tmp 29) 26 rfl w.heap.size 9 i0 _ 1 16 Tryz.underlying26 hi hz0 hz1 hz2 rfl (by decide) (.slice A' N c') N _ rfl (HO2.out.alloc _) (w3.heap.size + 1) (some ⟨w3.heap.size, 0, none⟩) 1 1 [.string y] rfl (reads_blkN (Blk.new _ _ _) (Nat.lt_succ_self _) rfl rfl) (by simp [Value.oneCell']) (by unfold maxLen; omega) (by omega) (by simp; omega) ?_; intro v' w4 hown' hgrow hat; have HO3 := hide hown'; have HB3 : Hid (Below w.heap.size w w4) := hide (Below.grown (HS2.out.bel.alloc (by omega) _) hgrow (by simp; omega) (fun k hk => own_low_block HO2.out k hk)); have HK3 : Hid (Blk w4 w.heap.size 24 #[.string s, .slice (some ⟨g, o1, none⟩) n c]) := hide ((HS2.out.bl.alloc _).grown hgrow (fun e => own_blk_ne HO2.out HS2.out.bl (by decide) e.symm)); clear hown' hgrow hat)
          go_roundw
          case rel => exact ⟨i + 1, by omega, by go_num, by rw [HE2.out]; exact ⟨HK3.out, by rw [List.length_append, HNN.out]; have := HO3.out; simpa [strB] using this, HB3.out⟩⟩
          case measure => simp [intOf]; omega
        · have HE2 : Hid (namB ((ts.map pf).take (i + 1)) = o) := hide (by rw [HStep.out, HFr.out]; simp)
          go_wp2_with fail
          refine HCo.out.mono ?_
          rintro e w3 ⟨rfl, rfl⟩
          go_wp2
          go_roundw
          case rel => exact ⟨i + 1, by omega, by go_num, by rw [HE2.out]; exact HS2.out⟩
          case measure => simp [intOf]; omega
      · have HE2 : Hid (namB ((ts.map pf).take (i + 1)) = o) := hide (by
          rw [HStep.out]
          have hz : y.size = 0 := by simpa using HZ.out
          unfold namStep; simp [hz])
        simp only [Bool.not_true] at hbn
        go_wp2
        go_roundw
        case rel => exact ⟨i + 1, by omega, by go_num, by rw [HE2.out]; exact HS2.out⟩
        case measure => simp [intOf]; omega
    · obtain rfl : i = n := by omega
      have HE2 : Hid (namB (ts.map pf) = o) := hide (by have := HOo.out; rwa [List.take_of_length_le (by rw [List.length_map, HU.out.1]; exact Nat.le_refl _)] at this)
      clear hbel
      go_wp2
      go_ret
      exact ⟨_, rfl, by rw [HE2.out, HNN.out]; exact HO.out, HST.out.bel⟩
set_option maxRecDepth 100000 in
theorem byPrefix_any (x : CU) (B : Option Addr) (m d : Nat) (w : World) : Calls Tryz.prog 19 #[.agg #[.int .i64 x.seq, .bool x.per, .string x.pn, .string x.an, .string x.cn, .bool x.mi, .int .u32 (x.med : Int), .int .i64 x.sets, .int .u32 (x.sp : Int), .int .u32 (x.sm : Int), .int .i64 x.so, .slice B m d, .int .u32 (x.ah : Int), .int .i64 x.tm]] w fun e w' => e = .returned (.string x.pn) ∧ Below w.heap.size w w' := by
  have HB := hide ((Below.refl w.heap.size w).alloc (Nat.le_refl _) (.cells #[.int .i64 x.seq, .bool x.per, .string x.pn, .string x.an, .string x.cn, .bool x.mi, .int .u32 (x.med : Int), .int .i64 x.sets, .int .u32 (x.sp : Int), .int .u32 (x.sm : Int), .int .i64 x.so, .slice B m d, .int .u32 (x.ah : Int), .int .i64 x.tm] 32))
  go_enter Tryz.func19, Tryz.ntmps19
  go_wp2
  go_ret
  exact ⟨rfl, HB.out⟩
set_option maxRecDepth 100000 in
theorem byPath_any (x : CU) (B : Option Addr) (m d : Nat) (w : World) : Calls Tryz.prog 20 #[.agg #[.int .i64 x.seq, .bool x.per, .string x.pn, .string x.an, .string x.cn, .bool x.mi, .int .u32 (x.med : Int), .int .i64 x.sets, .int .u32 (x.sp : Int), .int .u32 (x.sm : Int), .int .i64 x.so, .slice B m d, .int .u32 (x.ah : Int), .int .i64 x.tm]] w fun e w' => e = .returned (.string x.an) ∧ Below w.heap.size w w' := by
  have HB := hide ((Below.refl w.heap.size w).alloc (Nat.le_refl _) (.cells #[.int .i64 x.seq, .bool x.per, .string x.pn, .string x.an, .string x.cn, .bool x.mi, .int .u32 (x.med : Int), .int .i64 x.sets, .int .u32 (x.sp : Int), .int .u32 (x.sm : Int), .int .i64 x.so, .slice B m d, .int .u32 (x.ah : Int), .int .i64 x.tm] 32))
  go_enter Tryz.func20, Tryz.ntmps20
  go_wp2
  go_ret
  exact ⟨rfl, HB.out⟩
set_option maxRecDepth 100000 in
theorem byComm_any (x : CU) (B : Option Addr) (m d : Nat) (w : World) : Calls Tryz.prog 21 #[.agg #[.int .i64 x.seq, .bool x.per, .string x.pn, .string x.an, .string x.cn, .bool x.mi, .int .u32 (x.med : Int), .int .i64 x.sets, .int .u32 (x.sp : Int), .int .u32 (x.sm : Int), .int .i64 x.so, .slice B m d, .int .u32 (x.ah : Int), .int .i64 x.tm]] w fun e w' => e = .returned (.string x.cn) ∧ Below w.heap.size w w' := by
  have HB := hide ((Below.refl w.heap.size w).alloc (Nat.le_refl _) (.cells #[.int .i64 x.seq, .bool x.per, .string x.pn, .string x.an, .string x.cn, .bool x.mi, .int .u32 (x.med : Int), .int .i64 x.sets, .int .u32 (x.sp : Int), .int .u32 (x.sm : Int), .int .i64 x.so, .slice B m d, .int .u32 (x.ah : Int), .int .i64 x.tm] 32))
  go_enter Tryz.func21, Tryz.ntmps21
  go_wp2
  go_ret
  exact ⟨rfl, HB.out⟩
end Go.Proofs.YtgofaoommpnhpaaGreat
set_option linter.unusedSimpArgs false
set_option linter.unusedVariables false
namespace Go.Proofs.YtgofaoommpnhpaaGreat
open Go.RowKit Go.WideShapes Go.ChangeShapes
attribute [local go_sem] Oper.semAt_some
/-- A list with a name: its name. -/
def nmR (w : World) (vs : List Value) (s : ByteArray) : Prop := ∃ A n c, vs = [.string s, .slice A n c]
theorem nmMono : SMono nmR := fun _ _ _ _ _ h => h
theorem NMat {w : World} {A : Option Addr} {n c : Nat} {l : List ByteArray} (h : LstAt 2 nmR w A n c l) {k : Nat} (hk : k < n) :
    ∃ (g o : Nat) (s : ByteArray) (B : Option Addr) (m d : Nat), A = some ⟨g, o, none⟩ ∧ g < w.heap.size ∧ l[k]? = some s ∧ w.cell? ⟨g, o + k * 2, none⟩ = some (.string s) ∧ w.cell? ⟨g, o + k * 2 + 1, none⟩ = some (.slice B m d) := by
  obtain ⟨g, o, s, vs, hA, hg, hx, _, ⟨B, m, d, rfl⟩, hc⟩ := h.at_ hk
  exact ⟨g, o, s, B, m, d, hA, hg, hx, hc 0 _ rfl, hc 1 _ rfl⟩
def findV (A : Option Addr) (i : Int) : Value := if i < 0 then .pointer none else match A with
  | some a => .pointer (some (a.add (i.toNat * 2)))
  | none => .pointer none
set_option maxRecDepth 100000 in
theorem rmName_any (s : ByteArray) (A : Option Addr) (n c : Nat) (w : World) : Calls Tryz.prog 46 #[.agg #[.string s, .slice A n c]] w fun e w' => e = .returned (.string s) ∧ Below w.heap.size w w' := by
  have HB := hide ((Below.refl w.heap.size w).alloc (Nat.le_refl _) (.cells #[.string s, .slice A n c] 24))
  go_enter Tryz.func46, Tryz.ntmps46
  go_wp2
  go_ret
  exact ⟨rfl, HB.out⟩
set_option maxRecDepth 100000 in
theorem rmFind1_any (x y : ByteArray) (A : Option Addr) (n c : Nat) (p q : Nat) (w : World) (tp tq : TypeId) (hp : Blk w p tp #[.func (.func 46) #[] #[]]) (hq : Blk w q tq #[.string y]) :
    Calls Tryz.prog 121 #[.agg #[.string x, .slice A n c], .pointer (some ⟨p, 0, none⟩), .pointer (some ⟨q, 0, none⟩)] w (GoodP (decide (x = y)) w) := by
  have hb := bytes_beq x y
  obtain ⟨z, hz⟩ : ∃ z, decide (x = y) = z := ⟨_, rfl⟩
  rw [hz] at hb ⊢
  clear hz
  have HP := hide (hp.alloc (.cells #[.string x, .slice A n c] 24))
  have HQ := hide (hq.alloc (.cells #[.string x, .slice A n c] 24))
  have HX := hide (Blk.new w 24 #[.string x, .slice A n c])
  have HB := hide ((Below.refl w.heap.size w).alloc (Nat.le_refl _) (.cells #[.string x, .slice A n c] 24))
  have HN := hide (fun W => rmName_any x A n c W)
  clear hp hq
  go_enter Tryz.func121, Tryz.ntmps121
  go_wp2
  refine wp_region_rel [(fun v _ => v = .func (.func 46) #[] #[]), (fun v _ => v = .agg #[.string x, .slice A n c]), (fun v _ => v = .string x), (fun v _ => v = .string y), (fun v _ => v = .bool z), (fun v _ => v = .bool z)] (by kernel_rfl) (by kernel_rfl) (relMono _ ⟨fun _ _ _ _ h => h, fun _ _ _ _ h => h, fun _ _ _ _ h => h, fun _ _ _ _ h => h, fun _ _ _ _ h => h, fun _ _ _ _ h => h, trivial⟩) ⟨?_, ?_, ?_, ?_, ?_, ?_, trivial⟩ ?_
  · refine relStep_plain rfl ?_
    intro Ac w5 hp
    have hb := hp.bel
    have a1 : Ac.eval (.tmp 1) = .pointer (some ⟨p, 0, none⟩) := hp.out 1 (by rfl)
    have x0 := (HX.out.below hb (by simp)).cell 0
    have x1 := (HX.out.below hb (by simp)).cell 1
    have p0 := (HP.out.below hb HP.out.lt).cell 0
    have q0 := (HQ.out.below hb HQ.out.lt).cell 0
    have hc := evalC Ac; have hf := evalF Ac; have hgl := evalG Ac
    obtain ⟨ρ, hρ⟩ : ∃ ρ, Ac.eval = ρ := ⟨_, rfl⟩
    rw [hρ] at a1 hc hf hgl
    exact relPure hρ (.func (.func 46) #[] #[]) (by simp [go_sem, hc, hf, hgl, ↓IntWalk.iteOmega, a1, *]) rfl
  · refine relStep_plain rfl ?_
    intro Ac w5 hp
    have hb := hp.bel
    have a3 : Ac.eval (.tmp 3) = .pointer (some ⟨w.heap.size, 0, none⟩) := hp.out 3 (by rfl)
    have x0 := (HX.out.below hb (by simp)).cell 0
    have x1 := (HX.out.below hb (by simp)).cell 1
    have p0 := (HP.out.below hb HP.out.lt).cell 0
    have q0 := (HQ.out.below hb HQ.out.lt).cell 0
    have hc := evalC Ac; have hf := evalF Ac; have hgl := evalG Ac
    obtain ⟨ρ, hρ⟩ : ∃ ρ, Ac.eval = ρ := ⟨_, rfl⟩
    rw [hρ] at a3 hc hf hgl
    exact relPure hρ (.agg #[.string x, .slice A n c]) (by simp [go_sem, hc, hf, hgl, ↓IntWalk.iteOmega, a3, *]) rfl
  · refine relStep_plain rfl ?_
    intro Ac w5 hp
    have hb := hp.bel
    have a5 : Ac.eval (.tmp 5) = .func (.func 46) #[] #[] := hp.dep 0 (by kernel_rfl)
    have a6 : Ac.eval (.tmp 6) = .agg #[.string x, .slice A n c] := hp.dep 1 (by kernel_rfl)
    have hc := evalC Ac; have hf := evalF Ac; have hgl := evalG Ac
    obtain ⟨ρ, hρ⟩ : ∃ ρ, Ac.eval = ρ := ⟨_, rfl⟩
    rw [hρ] at a5 a6 hc hf hgl
    refine relCall hρ 46 #[.agg #[.string x, .slice A n c]] (by simp [go_sem, hc, hf, hgl, ↓IntWalk.iteOmega, a5, a6, callFunc, Tryz.func46, *]; rfl) ?_
    refine (HN.out w5).mono ?_
    rintro e w6 ⟨rfl, hb6⟩
    exact ⟨_, rfl, rfl, hb6⟩
  · refine relStep_plain rfl ?_
    intro Ac w5 hp
    have hb := hp.bel
    have a2 : Ac.eval (.tmp 2) = .pointer (some ⟨q, 0, none⟩) := hp.out 2 (by rfl)
    have x0 := (HX.out.below hb (by simp)).cell 0
    have x1 := (HX.out.below hb (by simp)).cell 1
    have p0 := (HP.out.below hb HP.out.lt).cell 0
    have q0 := (HQ.out.below hb HQ.out.lt).cell 0
    have hc := evalC Ac; have hf := evalF Ac; have hgl := evalG Ac
    obtain ⟨ρ, hρ⟩ : ∃ ρ, Ac.eval = ρ := ⟨_, rfl⟩
    rw [hρ] at a2 hc hf hgl
    exact relPure hρ (.string y) (by simp [go_sem, hc, hf, hgl, ↓IntWalk.iteOmega, a2, *]) rfl
  · refine relStep_plain rfl ?_
    intro Ac w5 hp
    have hb := hp.bel
    have a7 : Ac.eval (.tmp 7) = .string x := hp.dep 2 (by kernel_rfl)
    have a8 : Ac.eval (.tmp 8) = .string y := hp.dep 3 (by kernel_rfl)
    have hc := evalC Ac; have hf := evalF Ac; have hgl := evalG Ac
    obtain ⟨ρ, hρ⟩ : ∃ ρ, Ac.eval = ρ := ⟨_, rfl⟩
    rw [hρ] at a7 a8 hc hf hgl
    exact relPure hρ (.bool z) (by simp [go_sem, hc, hf, hgl, ↓IntWalk.iteOmega, a7, a8, *]) rfl
  · refine relStep_plain rfl ?_
    intro Ac w5 hp
    have hb := hp.bel
    have a9 : Ac.eval (.tmp 9) = .bool z := hp.dep 4 (by kernel_rfl)
    have hc := evalC Ac; have hf := evalF Ac; have hgl := evalG Ac
    obtain ⟨ρ, hρ⟩ : ∃ ρ, Ac.eval = ρ := ⟨_, rfl⟩
    rw [hρ] at a9 hc hf hgl
    exact relPure hρ (.bool z) (by simp [go_sem, hc, hf, hgl, ↓IntWalk.iteOmega, a9, *]) rfl
  intro u w8 hb7 hall
  have e4 : u 5 = .bool z := relAll_at hall (i := 5) (by decide +kernel)
  clear hall
  simp only [List.drop_succ_cons, List.drop_zero, List.take_succ_cons, List.take_zero, putAll, Act.put, List.setIfInBounds_toArray, List.set_cons_zero, List.set_cons_succ, Nat.zero_add, Nat.reduceAdd, e4]
  go_wp2
  go_ret
  exact ⟨rfl, HB.out.trans (hb7.mono (by simp))⟩
theorem call_rmFind1 (args : Array Value) (W : World) : (callFunc 121 args).run Tryz.prog W = .ok (.enter 121 args) W := by
  simp [callFunc, go_sem, Tryz.func121]
  rfl
set_option maxRecDepth 100000 in
/-- slices.IndexFunc, for a function with two captured values. -/
theorem rmIndex2_any (F : FuncId) (cap cap2 : Value) (p : ByteArray → Bool) (A : Option Addr) (n c : Nat) (l : List ByteArray) (w : World) (h : LstAt 2 nmR w A n c l) (hF : ∀ (args : Array Value) (W : World), (callFunc F args).run Tryz.prog W = .ok (.enter F args) W)
    (HF : ∀ (s : ByteArray) (B : Option Addr) (m d : Nat) (W : World), Below w.heap.size w W → Calls Tryz.prog F #[.agg #[.string s, .slice B m d], cap, cap2] W (GoodP (p s) W)) :
    Calls Tryz.prog 110 #[.slice A n c, .func (.func F) #[] #[cap, cap2]] w fun e w' => e = .returned (.int .i64 (idxP p l)) ∧ Below w.heap.size w w' := by
  have hm := h.2.2.1
  have hnc := h.2.1
  unfold maxLen at hm
  have HU := hide h
  have HP := hide HF
  have HE := hide hF
  clear h HF hF
  go_enter Tryz.func110, Tryz.ntmps110
  go_wp2
  go_loopw [8] (fun i wr => ∃ k : Nat, k ≤ n ∧ i = .int .i64 k ∧ (∀ y ∈ l.take k, p y = false) ∧ Below w.heap.size w wr) (fun i _ => n - (intOf i).toNat)
  case atStart => exact ⟨0, Nat.zero_le _, rfl, by simp, Below.refl _ _⟩
  case round =>
    obtain ⟨k, hk, rfl, hno, hb⟩ := hrel
    have HN := hide hno
    have HA := hide (HU.out.below nmMono hb)
    have HB := hide hb
    have hsz := hb.size
    clear hno hb
    by_cases hlt : k < n
    · obtain ⟨g, o, s, B, m, d, rfl, hg, hy, c0, c1⟩ := NMat HA.out hlt
      have HO := hide (HP.out s B m d wr HB.out)
      have HY := hide hy
      clear hy
      obtain ⟨q, hq⟩ : ∃ q, p s = q := ⟨_, rfl⟩
      rw [hq] at HO
      have HQ := hide hq
      clear hq
      go_wp2_with fail
      rw [HE.out, Oper.upon_enter]
      refine HO.out.mono ?_
      rintro e w1 ⟨rfl, hb1⟩
      have HB1 := hide (HB.out.trans (hb1.mono hsz))
      clear hb1
      cases q
      · have hn2 := hide (show ∀ y ∈ l.take (k + 1), p y = false by
          intro y hy
          rw [List.take_add_one, HY.out, List.mem_append] at hy
          rcases hy with hy | hy
          · exact HN.out y hy
          · simp at hy; subst hy; exact HQ.out)
        go_wp2
        go_roundw
        case rel => exact ⟨k + 1, by omega, by go_num, hn2.out, HB1.out⟩
        case measure => simp [intOf]; omega
      · have hin := hide (idxP_at p l k _ HN.out HY.out HQ.out)
        go_wp2
        go_ret
        exact ⟨ret_i64 hin.out.symm, HB1.out⟩
    · obtain rfl : k = n := by omega
      have hf := hide (idxP_none p l (fun y hy => HN.out y (by rw [List.take_of_length_le (by rw [HU.out.1]; exact Nat.le_refl _)]; exact hy)))
      go_wp2
      go_ret
      exact ⟨ret_i64 hf.out.symm, HB.out⟩
set_option maxRecDepth 100000 in
/-- The first of a list that has a name. -/
theorem rmFind_any (y : ByteArray) (A : Option Addr) (n c : Nat) (l : List ByteArray) (w : World) (h : LstAt 2 nmR w A n c l) :
    Calls Tryz.prog 94 #[.slice A n c, .string y, .func (.func 46) #[] #[]] w fun e w' => e = .returned (findV A (idxP (fun x => decide (x = y)) l)) ∧ Below w.heap.size w w' := by
  have hm := h.2.2.1
  have hnc := h.2.1
  unfold maxLen at hm
  have hal : Below w.heap.size w ((w.alloc (.cells #[.string y] 9)).alloc (.cells #[.func (.func 46) #[] #[]] 88)) := ((Below.refl _ w).alloc (Nat.le_refl _) _).alloc (by simp) _
  have hk1 : Blk ((w.alloc (.cells #[.string y] 9)).alloc (.cells #[.func (.func 46) #[] #[]] 88)) w.heap.size 9 #[.string y] := (Blk.new w _ _).alloc _
  have hk2 : Blk ((w.alloc (.cells #[.string y] 9)).alloc (.cells #[.func (.func 46) #[] #[]] 88)) (w.heap.size + 1) 88 #[.func (.func 46) #[] #[]] := blk_new' _ _ (by simp)
  have HI := hide (rmIndex2_any 121 (.pointer (some ⟨w.heap.size + 1, 0, none⟩)) (.pointer (some ⟨w.heap.size, 0, none⟩)) (fun x => decide (x = y)) A n c l _ (h.below nmMono hal) call_rmFind1 (fun s B m d W hb => rmFind1_any s y B m d _ _ W _ _ (hk2.below hb (by simp)) (hk1.below hb (by simp; omega))))
  have HB := hide hal
  have hcase := idxP_find (fun x => decide (x = y)) l
  obtain ⟨i, hi⟩ : ∃ i, idxP (fun x => decide (x = y)) l = i := ⟨_, rfl⟩
  rw [hi] at HI hcase ⊢
  have hA := h.2.2.2
  have hl := h.1
  clear h hi hk1 hk2 hal
  go_enter Tryz.func94, Tryz.ntmps94
  go_wp2_with fail
  refine HI.out.mono ?_
  rintro e w1 ⟨rfl, hb⟩
  have HB1 := hide (HB.out.trans (hb.mono (by simp; omega)))
  clear hb
  rcases hcase with ⟨rfl, _, _⟩ | ⟨k, x, rfl, hk, _, _, _, _⟩
  · have HR : Hid (Value.pointer none = findV A (-1)) := hide rfl
    go_wp2
    go_ret
    exact ⟨by rw [HR.out]; rfl, HB1.out⟩
  · obtain ⟨g, o, rfl, hg, _⟩ := hA (by omega)
    have HR : Hid (Value.pointer (some ⟨g, o + k * 2, none⟩) = findV (some ⟨g, o, none⟩) (k : Int)) := hide (by
      unfold findV
      rw [if_neg (by omega)]
      simp [Addr.add])
    have hi0 : (0 : Int) ≤ (k : Int) := by omega
    have hi1 : (k : Int) < (n : Int) := by omega
    go_wp2
    go_ret
    exact ⟨by rw [← HR.out]; rfl, HB1.out⟩
end Go.Proofs.YtgofaoommpnhpaaGreat
set_option linter.unusedSimpArgs false
set_option linter.unusedVariables false
namespace Go.Proofs.YtgofaoommpnhpaaGreat
open Go.RowKit Go.WideShapes Go.ChangeShapes
attribute [local go_sem] Oper.semAt_some
set_option maxRecDepth 100000 in
theorem doesZ1 (w : World) : Calls Tryz.prog 96 #[.agg #[.int .i64 0, .bool false, .string ⟨#[]⟩, .string ⟨#[]⟩, .string ⟨#[]⟩, .bool false, .int .u32 0, .int .i64 0, .int .u32 0, .int .u32 0, .int .i64 0, .slice none 0 0, .int .u32 0, .int .i64 0], .int .i64 1] w (GoodP false w) := by
  have HB := hide ((Below.refl w.heap.size w).alloc (Nat.le_refl _) (.cells #[.int .i64 0, .bool false, .string ⟨#[]⟩, .string ⟨#[]⟩, .string ⟨#[]⟩, .bool false, .int .u32 0, .int .i64 0, .int .u32 0, .int .u32 0, .int .i64 0, .slice none 0 0, .int .u32 0, .int .i64 0] 32))
  go_enter Tryz.func96, Tryz.ntmps96
  go_wp2
  go_ret
  exact ⟨rfl, HB.out⟩
set_option maxRecDepth 100000 in
theorem doesZ2 (w : World) : Calls Tryz.prog 96 #[.agg #[.int .i64 0, .bool false, .string ⟨#[]⟩, .string ⟨#[]⟩, .string ⟨#[]⟩, .bool false, .int .u32 0, .int .i64 0, .int .u32 0, .int .u32 0, .int .i64 0, .slice none 0 0, .int .u32 0, .int .i64 0], .int .i64 2] w (GoodP false w) := by
  have HB := hide ((Below.refl w.heap.size w).alloc (Nat.le_refl _) (.cells #[.int .i64 0, .bool false, .string ⟨#[]⟩, .string ⟨#[]⟩, .string ⟨#[]⟩, .bool false, .int .u32 0, .int .i64 0, .int .u32 0, .int .u32 0, .int .i64 0, .slice none 0 0, .int .u32 0, .int .i64 0] 32))
  go_enter Tryz.func96, Tryz.ntmps96
  go_wp2
  go_ret
  exact ⟨rfl, HB.out⟩
set_option maxRecDepth 100000 in
theorem doesZ4 (w : World) : Calls Tryz.prog 96 #[.agg #[.int .i64 0, .bool false, .string ⟨#[]⟩, .string ⟨#[]⟩, .string ⟨#[]⟩, .bool false, .int .u32 0, .int .i64 0, .int .u32 0, .int .u32 0, .int .i64 0, .slice none 0 0, .int .u32 0, .int .i64 0], .int .i64 4] w (GoodP false w) := by
  have HB := hide ((Below.refl w.heap.size w).alloc (Nat.le_refl _) (.cells #[.int .i64 0, .bool false, .string ⟨#[]⟩, .string ⟨#[]⟩, .string ⟨#[]⟩, .bool false, .int .u32 0, .int .i64 0, .int .u32 0, .int .u32 0, .int .i64 0, .slice none 0 0, .int .u32 0, .int .i64 0] 32))
  go_enter Tryz.func96, Tryz.ntmps96
  go_wp2
  go_ret
  exact ⟨rfl, HB.out⟩
set_option maxRecDepth 100000 in
theorem doesZ56 (w : World) : Calls Tryz.prog 96 #[.agg #[.int .i64 0, .bool false, .string ⟨#[]⟩, .string ⟨#[]⟩, .string ⟨#[]⟩, .bool false, .int .u32 0, .int .i64 0, .int .u32 0, .int .u32 0, .int .i64 0, .slice none 0 0, .int .u32 0, .int .i64 0], .int .i64 56] w (GoodP false w) := by
  have HB := hide ((Below.refl w.heap.size w).alloc (Nat.le_refl _) (.cells #[.int .i64 0, .bool false, .string ⟨#[]⟩, .string ⟨#[]⟩, .string ⟨#[]⟩, .bool false, .int .u32 0, .int .i64 0, .int .u32 0, .int .u32 0, .int .i64 0, .slice none 0 0, .int .u32 0, .int .i64 0] 32))
  go_enter Tryz.func96, Tryz.ntmps96
  go_wp2
  go_ret
  exact ⟨rfl, HB.out⟩
set_option maxRecDepth 100000 in
theorem doesZ64 (w : World) : Calls Tryz.prog 96 #[.agg #[.int .i64 0, .bool false, .string ⟨#[]⟩, .string ⟨#[]⟩, .string ⟨#[]⟩, .bool false, .int .u32 0, .int .i64 0, .int .u32 0, .int .u32 0, .int .i64 0, .slice none 0 0, .int .u32 0, .int .i64 0], .int .i64 64] w (GoodP false w) := by
  have HB := hide ((Below.refl w.heap.size w).alloc (Nat.le_refl _) (.cells #[.int .i64 0, .bool false, .string ⟨#[]⟩, .string ⟨#[]⟩, .string ⟨#[]⟩, .bool false, .int .u32 0, .int .i64 0, .int .u32 0, .int .u32 0, .int .i64 0, .slice none 0 0, .int .u32 0, .int .i64 0] 32))
  go_enter Tryz.func96, Tryz.ntmps96
  go_wp2
  go_ret
  exact ⟨rfl, HB.out⟩
set_option maxRecDepth 100000 in
theorem doesX1 (w : World) : Calls Tryz.prog 96 #[.agg #[.int .i64 1, .bool true, .string ⟨#[]⟩, .string ⟨#[]⟩, .string ⟨#[]⟩, .bool false, .int .u32 0, .int .i64 1, .int .u32 9, .int .u32 0, .int .i64 0, .slice none 0 0, .int .u32 0, .int .i64 0], .int .i64 1] w (GoodP true w) := by
  have HB := hide ((Below.refl w.heap.size w).alloc (Nat.le_refl _) (.cells #[.int .i64 1, .bool true, .string ⟨#[]⟩, .string ⟨#[]⟩, .string ⟨#[]⟩, .bool false, .int .u32 0, .int .i64 1, .int .u32 9, .int .u32 0, .int .i64 0, .slice none 0 0, .int .u32 0, .int .i64 0] 32))
  go_enter Tryz.func96, Tryz.ntmps96
  go_wp2
  go_ret
  exact ⟨rfl, HB.out⟩
set_option maxRecDepth 100000 in
theorem doesX2 (w : World) : Calls Tryz.prog 96 #[.agg #[.int .i64 1, .bool true, .string ⟨#[]⟩, .string ⟨#[]⟩, .string ⟨#[]⟩, .bool false, .int .u32 0, .int .i64 1, .int .u32 9, .int .u32 0, .int .i64 0, .slice none 0 0, .int .u32 0, .int .i64 0], .int .i64 2] w (GoodP false w) := by
  have HB := hide ((Below.refl w.heap.size w).alloc (Nat.le_refl _) (.cells #[.int .i64 1, .bool true, .string ⟨#[]⟩, .string ⟨#[]⟩, .string ⟨#[]⟩, .bool false, .int .u32 0, .int .i64 1, .int .u32 9, .int .u32 0, .int .i64 0, .slice none 0 0, .int .u32 0, .int .i64 0] 32))
  go_enter Tryz.func96, Tryz.ntmps96
  go_wp2
  go_ret
  exact ⟨rfl, HB.out⟩
set_option maxRecDepth 100000 in
theorem doesX4 (w : World) : Calls Tryz.prog 96 #[.agg #[.int .i64 1, .bool true, .string ⟨#[]⟩, .string ⟨#[]⟩, .string ⟨#[]⟩, .bool false, .int .u32 0, .int .i64 1, .int .u32 9, .int .u32 0, .int .i64 0, .slice none 0 0, .int .u32 0, .int .i64 0], .int .i64 4] w (GoodP false w) := by
  have HB := hide ((Below.refl w.heap.size w).alloc (Nat.le_refl _) (.cells #[.int .i64 1, .bool true, .string ⟨#[]⟩, .string ⟨#[]⟩, .string ⟨#[]⟩, .bool false, .int .u32 0, .int .i64 1, .int .u32 9, .int .u32 0, .int .i64 0, .slice none 0 0, .int .u32 0, .int .i64 0] 32))
  go_enter Tryz.func96, Tryz.ntmps96
  go_wp2
  go_ret
  exact ⟨rfl, HB.out⟩
set_option maxRecDepth 100000 in
theorem doesX56 (w : World) : Calls Tryz.prog 96 #[.agg #[.int .i64 1, .bool true, .string ⟨#[]⟩, .string ⟨#[]⟩, .string ⟨#[]⟩, .bool false, .int .u32 0, .int .i64 1, .int .u32 9, .int .u32 0, .int .i64 0, .slice none 0 0, .int .u32 0, .int .i64 0], .int .i64 56] w (GoodP false w) := by
  have HB := hide ((Below.refl w.heap.size w).alloc (Nat.le_refl _) (.cells #[.int .i64 1, .bool true, .string ⟨#[]⟩, .string ⟨#[]⟩, .string ⟨#[]⟩, .bool false, .int .u32 0, .int .i64 1, .int .u32 9, .int .u32 0, .int .i64 0, .slice none 0 0, .int .u32 0, .int .i64 0] 32))
  go_enter Tryz.func96, Tryz.ntmps96
  go_wp2
  go_ret
  exact ⟨rfl, HB.out⟩
set_option maxRecDepth 100000 in
theorem doesX64 (w : World) : Calls Tryz.prog 96 #[.agg #[.int .i64 1, .bool true, .string ⟨#[]⟩, .string ⟨#[]⟩, .string ⟨#[]⟩, .bool false, .int .u32 0, .int .i64 1, .int .u32 9, .int .u32 0, .int .i64 0, .slice none 0 0, .int .u32 0, .int .i64 0], .int .i64 64] w (GoodP false w) := by
  have HB := hide ((Below.refl w.heap.size w).alloc (Nat.le_refl _) (.cells #[.int .i64 1, .bool true, .string ⟨#[]⟩, .string ⟨#[]⟩, .string ⟨#[]⟩, .bool false, .int .u32 0, .int .i64 1, .int .u32 9, .int .u32 0, .int .i64 0, .slice none 0 0, .int .u32 0, .int .i64 0] 32))
  go_enter Tryz.func96, Tryz.ntmps96
  go_wp2
  go_ret
  exact ⟨rfl, HB.out⟩
theorem bits_an : Value.int .i64 (bits .andNot .i64 0 32) = Value.int .i64 0 := by kernel_rfl
theorem bits_or : Value.int .i64 (bits .or .i64 0 32) = Value.int .i64 32 := by kernel_rfl
set_option maxRecDepth 100000 in
theorem therePref (w : World) (g : Nat) (v1 v2 v3 v4 v5 v6 v7 v8 : Value) (h : Blk w g 53 #[.int .i64 0, v1, v2, v3, v4, v5, v6, v7, v8]) :
    Calls Tryz.prog 118 #[.pointer (some ⟨g, 0, none⟩), .int .i64 5, .bool true] w fun e w' => (∃ v, e = .returned v) ∧ w' = ((w.setCell ⟨g, 0, none⟩ (.int .i64 0)).setCell ⟨g, 0, none⟩ (.int .i64 32)).drew.drew := by
  have c0 := h.cell 0
  have f0 := h.frozen 0
  have h2 : Blk (w.setCell ⟨g, 0, none⟩ (.int .i64 0)).drew g 53 #[.int .i64 0, v1, v2, v3, v4, v5, v6, v7, v8] := (h.set_ 0 _).drew
  have HW := hide h2
  clear h h2
  go_enter Tryz.func118, Tryz.ntmps118
  go_wp2
  go_region
  rw [bits_an]
  obtain ⟨W1, hW1⟩ : ∃ W1, W1 = (w.setCell ⟨g, 0, none⟩ (.int .i64 0)).drew := ⟨_, rfl⟩
  rw [← hW1] at HW ⊢
  have HW1 := hide hW1
  clear hW1
  have c1 := HW.out.cell 0
  have f1 := HW.out.frozen 0
  clear c0 f0
  go_wp2
  go_region
  rw [bits_or]
  have hW1 := HW1.out
  subst hW1
  go_wp2
  refine bodyPost_end (results_none rfl _ _ _) rfl ?_
  exact ⟨⟨_, rfl⟩, rfl⟩
/-- A cell that is set to what it is. -/
theorem set_same {W : World} {g : Nat} {t : TypeId} {cs : Array Value} (h : Blk W g t cs) {i : Nat} {v : Value} (hv : cs[i]? = some v) : W.setCell ⟨g, i, none⟩ v = W := by
  unfold Blk at h
  have he : ∀ f : Obj → Obj, f (.cells cs t (0, 0)) = .cells cs t (0, 0) → W.heap.modify g f = W.heap := fun f hf => by
    apply Array.ext
    · simp
    · intro k h1 h2
      rw [Array.getElem_modify]
      split
      · rename_i e
        subst e
        have := (Array.getElem?_eq_some_iff.1 h).2
        rw [this, hf]
      · rfl
  have hcs : cs.setIfInBounds i v = cs := by
    apply Array.ext
    · simp
    · intro k h1 h2
      rw [Array.getElem_setIfInBounds]
      split
      · rename_i e
        subst e
        exact ((Array.getElem?_eq_some_iff.1 hv).2).symm
      · rfl
  unfold World.setCell
  simp only
  rw [he]
  simp [hcs]
set_option maxRecDepth 100000 in
theorem cloneNilSeg (w : World) : Calls Tryz.prog 116 #[.slice none 0 0] w fun e w' => e = .returned (.slice none 0 0) ∧ w' = w := by
  have hnil := fun w => Lib.run_eql_slice_nil (P := Tryz.prog) w
  go_enter Tryz.func116, Tryz.ntmps116
  go_wp2
  go_ret
  exact ⟨rfl, rfl⟩
set_option maxRecDepth 100000 in
theorem cloneNilU32 (w : World) : Calls Tryz.prog 117 #[.slice none 0 0] w fun e w' => e = .returned (.slice none 0 0) ∧ w' = w := by
  have hnil := fun w => Lib.run_eql_slice_nil (P := Tryz.prog) w
  go_enter Tryz.func117, Tryz.ntmps117
  go_wp2
  go_ret
  exact ⟨rfl, rfl⟩
set_option maxRecDepth 100000 in
set_option maxHeartbeats 4000000 in
theorem setZ_any (w : World) : Calls Tryz.prog 93 #[.agg #[.int .i64 0, .bool false, .string ⟨#[]⟩, .string ⟨#[]⟩, .string ⟨#[]⟩, .bool false, .int .u32 0, .int .i64 0, .int .u32 0, .int .u32 0, .int .i64 0, .slice none 0 0, .int .u32 0, .int .i64 0], .agg #[.int .i64 0, .int .i64 0, .slice none 0 0, .int .u32 0, .int .u32 0, .int .u32 0, .int .u32 0, .int .u32 0, .slice none 0 0]] w fun e w' => e = .returned (.agg #[.int .i64 0, .int .i64 0, .slice none 0 0, .int .u32 0, .int .u32 0, .int .u32 0, .int .u32 0, .int .u32 0, .slice none 0 0]) ∧ Below w.heap.size w w' := by
  obtain ⟨W, hW⟩ : ∃ W, W = ((w.alloc (.cells #[.int .i64 0, .bool false, .string ⟨#[]⟩, .string ⟨#[]⟩, .string ⟨#[]⟩, .bool false, .int .u32 0, .int .i64 0, .int .u32 0, .int .u32 0, .int .i64 0, .slice none 0 0, .int .u32 0, .int .i64 0] 32)).alloc (.cells #[.int .i64 0, .int .i64 0, .slice none 0 0, .int .u32 0, .int .u32 0, .int .u32 0, .int .u32 0, .int .u32 0, .slice none 0 0] 53)).alloc (.cells #[.int .i64 0, .int .i64 0, .slice none 0 0, .int .u32 0, .int .u32 0, .int .u32 0, .int .u32 0, .int .u32 0, .slice none 0 0] 53) := ⟨_, rfl⟩
  have HB : Hid (Below w.heap.size w W) := hide (by rw [hW]; exact (((Below.refl _ w).alloc (Nat.le_refl _) _).alloc (by simp) _).alloc (by simp; omega) _)
  have HC : Hid (Blk W w.heap.size 32 #[.int .i64 0, .bool false, .string ⟨#[]⟩, .string ⟨#[]⟩, .string ⟨#[]⟩, .bool false, .int .u32 0, .int .i64 0, .int .u32 0, .int .u32 0, .int .i64 0, .slice none 0 0, .int .u32 0, .int .i64 0]) := hide (by rw [hW]; exact ((Blk.new w _ _).alloc _).alloc _)
  have HA : Hid (Blk W (w.heap.size + 1) 53 #[.int .i64 0, .int .i64 0, .slice none 0 0, .int .u32 0, .int .u32 0, .int .u32 0, .int .u32 0, .int .u32 0, .slice none 0 0]) := hide (by rw [hW]; exact (blk_new' _ _ (by simp)).alloc _)
  have HR : Hid (Blk W (w.heap.size + 2) 53 #[.int .i64 0, .int .i64 0, .slice none 0 0, .int .u32 0, .int .u32 0, .int .u32 0, .int .u32 0, .int .u32 0, .slice none 0 0]) := hide (by rw [hW]; exact blk_new' _ _ (by simp))
  have a2 := HA.out.cell 2
  have a8 := HA.out.cell 8
  have b2 := HA.out.frozen 2
  have b8 := HA.out.frozen 8
  have S2 := hide (set_same HA.out (i := 2) (v := .slice none 0 0) rfl)
  have S8 := hide (set_same HA.out (i := 8) (v := .slice none 0 0) rfl)
  have HN1 := hide cloneNilSeg
  have HN2 := hide cloneNilU32
  go_enter Tryz.func93, Tryz.ntmps93
  go_wp2_with fail
  try rw [← hW]
  clear hW
  go_region_with (first
    | (go_at_call 116; refine (HN1.out _).mono ?_; rintro e w5 ⟨rfl, rfl⟩)
    | (go_at_call 117; refine (HN2.out _).mono ?_; rintro e w5 ⟨rfl, rfl⟩))
  all_goals simp only [S2.out, S8.out]
  all_goals
    clear a2 a8 b2 b8
    obtain ⟨W0, hW0⟩ : ∃ W0, W0 = W.drew := ⟨_, rfl⟩
    have HC0 : Hid (Blk W0 w.heap.size 32 #[.int .i64 0, .bool false, .string ⟨#[]⟩, .string ⟨#[]⟩, .string ⟨#[]⟩, .bool false, .int .u32 0, .int .i64 0, .int .u32 0, .int .u32 0, .int .i64 0, .slice none 0 0, .int .u32 0, .int .i64 0]) := hide (by rw [hW0]; exact HC.out.drew)
    have HA0 : Hid (Blk W0 (w.heap.size + 1) 53 #[.int .i64 0, .int .i64 0, .slice none 0 0, .int .u32 0, .int .u32 0, .int .u32 0, .int .u32 0, .int .u32 0, .slice none 0 0]) := hide (by rw [hW0]; exact HA.out.drew)
    have HR0 : Hid (Blk W0 (w.heap.size + 2) 53 #[.int .i64 0, .int .i64 0, .slice none 0 0, .int .u32 0, .int .u32 0, .int .u32 0, .int .u32 0, .int .u32 0, .slice none 0 0]) := hide (by rw [hW0]; exact HR.out.drew)
    have HB0 : Hid (Below w.heap.size w W0) := hide (by rw [hW0]; exact HB.out.drew)
    rw [← hW0]
    have x2 := HA0.out.cell 2
    clear hW0 HB HC HA HR S2 S8
    go_wp2
    go_loopw [17] (fun iv wr => iv = .int .i64 0 ∧ wr = W0) (fun _ _ => 0)
    case atStart => exact ⟨rfl, rfl⟩
    case round =>
      obtain ⟨rfl, rfl⟩ := hrel
      clear x2
      have c0 := HC0.out.cell 0
      have c1 := HC0.out.cell 1
      have c2 := HC0.out.cell 2
      have c3 := HC0.out.cell 3
      have c4 := HC0.out.cell 4
      have c5 := HC0.out.cell 5
      have c6 := HC0.out.cell 6
      have c7 := HC0.out.cell 7
      have c8 := HC0.out.cell 8
      have c9 := HC0.out.cell 9
      have c10 := HC0.out.cell 10
      have c11 := HC0.out.cell 11
      have c12 := HC0.out.cell 12
      have c13 := HC0.out.cell 13
      go_wp2_with fail
      refine (doesZ1 _).mono ?_
      rintro e w1 ⟨rfl, hb⟩
      clear c0 c1 c2 c3 c4 c5 c6 c7 c8 c9 c10 c11 c12 c13
      have HC1 := hide (HC0.out.below hb HC0.out.lt)
      have HA1 := hide (HA0.out.below hb HA0.out.lt)
      have HR1 := hide (HR0.out.below hb HR0.out.lt)
      have HB1 := hide (HB0.out.trans (hb.mono HB0.out.size))
      clear hb HC0 HA0 HR0 HB0
      have c0 := HC1.out.cell 0
      have c1 := HC1.out.cell 1
      have c2 := HC1.out.cell 2
      have c3 := HC1.out.cell 3
      have c4 := HC1.out.cell 4
      have c5 := HC1.out.cell 5
      have c6 := HC1.out.cell 6
      have c7 := HC1.out.cell 7
      have c8 := HC1.out.cell 8
      have c9 := HC1.out.cell 9
      have c10 := HC1.out.cell 10
      have c11 := HC1.out.cell 11
      have c12 := HC1.out.cell 12
      have c13 := HC1.out.cell 13
      go_wp2_with fail
      refine (doesZ2 _).mono ?_
      rintro e w2 ⟨rfl, hb⟩
      clear c0 c1 c2 c3 c4 c5 c6 c7 c8 c9 c10 c11 c12 c13
      have HC2 := hide (HC1.out.below hb HC1.out.lt)
      have HA2 := hide (HA1.out.below hb HA1.out.lt)
      have HR2 := hide (HR1.out.below hb HR1.out.lt)
      have HB2 := hide (HB1.out.trans (hb.mono HB1.out.size))
      clear hb HC1 HA1 HR1 HB1
      have c0 := HC2.out.cell 0
      have c1 := HC2.out.cell 1
      have c2 := HC2.out.cell 2
      have c3 := HC2.out.cell 3
      have c4 := HC2.out.cell 4
      have c5 := HC2.out.cell 5
      have c6 := HC2.out.cell 6
      have c7 := HC2.out.cell 7
      have c8 := HC2.out.cell 8
      have c9 := HC2.out.cell 9
      have c10 := HC2.out.cell 10
      have c11 := HC2.out.cell 11
      have c12 := HC2.out.cell 12
      have c13 := HC2.out.cell 13
      go_wp2_with fail
      refine (doesZ4 _).mono ?_
      rintro e w3 ⟨rfl, hb⟩
      clear c0 c1 c2 c3 c4 c5 c6 c7 c8 c9 c10 c11 c12 c13
      have HC3 := hide (HC2.out.below hb HC2.out.lt)
      have HA3 := hide (HA2.out.below hb HA2.out.lt)
      have HR3 := hide (HR2.out.below hb HR2.out.lt)
      have HB3 := hide (HB2.out.trans (hb.mono HB2.out.size))
      clear hb HC2 HA2 HR2 HB2
      have c0 := HC3.out.cell 0
      have c1 := HC3.out.cell 1
      have c2 := HC3.out.cell 2
      have c3 := HC3.out.cell 3
      have c4 := HC3.out.cell 4
      have c5 := HC3.out.cell 5
      have c6 := HC3.out.cell 6
      have c7 := HC3.out.cell 7
      have c8 := HC3.out.cell 8
      have c9 := HC3.out.cell 9
      have c10 := HC3.out.cell 10
      have c11 := HC3.out.cell 11
      have c12 := HC3.out.cell 12
      have c13 := HC3.out.cell 13
      go_wp2_with fail
      refine (doesZ56 _).mono ?_
      rintro e w4 ⟨rfl, hb⟩
      clear c0 c1 c2 c3 c4 c5 c6 c7 c8 c9 c10 c11 c12 c13
      have HC4 := hide (HC3.out.below hb HC3.out.lt)
      have HA4 := hide (HA3.out.below hb HA3.out.lt)
      have HR4 := hide (HR3.out.below hb HR3.out.lt)
      have HB4 := hide (HB3.out.trans (hb.mono HB3.out.size))
      clear hb HC3 HA3 HR3 HB3
      have c0 := HC4.out.cell 0
      have c1 := HC4.out.cell 1
      have c2 := HC4.out.cell 2
      have c3 := HC4.out.cell 3
      have c4 := HC4.out.cell 4
      have c5 := HC4.out.cell 5
      have c6 := HC4.out.cell 6
      have c7 := HC4.out.cell 7
      have c8 := HC4.out.cell 8
      have c9 := HC4.out.cell 9
      have c10 := HC4.out.cell 10
      have c11 := HC4.out.cell 11
      have c12 := HC4.out.cell 12
      have c13 := HC4.out.cell 13
      go_wp2_with fail
      refine (doesZ64 _).mono ?_
      rintro e w5 ⟨rfl, hb⟩
      clear c0 c1 c2 c3 c4 c5 c6 c7 c8 c9 c10 c11 c12 c13
      have HC5 := hide (HC4.out.below hb HC4.out.lt)
      have HA5 := hide (HA4.out.below hb HA4.out.lt)
      have HR5 := hide (HR4.out.below hb HR4.out.lt)
      have HB5 := hide (HB4.out.trans (hb.mono HB4.out.size))
      clear hb HC4 HA4 HR4 HB4
      have a0 := HA5.out.cell 0
      have r0 := HR5.out.cell 0
      have f0 := HR5.out.frozen 0
      have a1 := HA5.out.cell 1
      have r1 := HR5.out.cell 1
      have f1 := HR5.out.frozen 1
      have a2 := HA5.out.cell 2
      have r2 := HR5.out.cell 2
      have f2 := HR5.out.frozen 2
      have a3 := HA5.out.cell 3
      have r3 := HR5.out.cell 3
      have f3 := HR5.out.frozen 3
      have a4 := HA5.out.cell 4
      have r4 := HR5.out.cell 4
      have f4 := HR5.out.frozen 4
      have a5 := HA5.out.cell 5
      have r5 := HR5.out.cell 5
      have f5 := HR5.out.frozen 5
      have a6 := HA5.out.cell 6
      have r6 := HR5.out.cell 6
      have f6 := HR5.out.frozen 6
      have a7 := HA5.out.cell 7
      have r7 := HR5.out.cell 7
      have f7 := HR5.out.frozen 7
      have a8 := HA5.out.cell 8
      have r8 := HR5.out.cell 8
      have f8 := HR5.out.frozen 8
      have HF := hide (((((((((HR5.out.set_ 0 (.int .i64 0)).set_ 1 (.int .i64 0)).set_ 2 (.slice none 0 0)).set_ 3 (.int .u32 0)).set_ 4 (.int .u32 0)).set_ 5 (.int .u32 0)).set_ 6 (.int .u32 0)).set_ 7 (.int .u32 0)).set_ 8 (.slice none 0 0))
      have HBF := hide (((((((((HB5.out.setCell (p := ⟨w.heap.size + 2, 0, none⟩) (by show w.heap.size ≤ w.heap.size + 2; omega) (.int .i64 0)).setCell (p := ⟨w.heap.size + 2, 1, none⟩) (by show w.heap.size ≤ w.heap.size + 2; omega) (.int .i64 0)).setCell (p := ⟨w.heap.size + 2, 2, none⟩) (by show w.heap.size ≤ w.heap.size + 2; omega) (.slice none 0 0)).setCell (p := ⟨w.heap.size + 2, 3, none⟩) (by show w.heap.size ≤ w.heap.size + 2; omega) (.int .u32 0)).setCell (p := ⟨w.heap.size + 2, 4, none⟩) (by show w.heap.size ≤ w.heap.size + 2; omega) (.int .u32 0)).setCell (p := ⟨w.heap.size + 2, 5, none⟩) (by show w.heap.size ≤ w.heap.size + 2; omega) (.int .u32 0)).setCell (p := ⟨w.heap.size + 2, 6, none⟩) (by show w.heap.size ≤ w.heap.size + 2; omega) (.int .u32 0)).setCell (p := ⟨w.heap.size + 2, 7, none⟩) (by show w.heap.size ≤ w.heap.size + 2; omega) (.int .u32 0)).setCell (p := ⟨w.heap.size + 2, 8, none⟩) (by show w.heap.size ≤ w.heap.size + 2; omega) (.slice none 0 0))
      go_wp2
      have u0 := HF.out.cell 0
      have u1 := HF.out.cell 1
      have u2 := HF.out.cell 2
      have u3 := HF.out.cell 3
      have u4 := HF.out.cell 4
      have u5 := HF.out.cell 5
      have u6 := HF.out.cell 6
      have u7 := HF.out.cell 7
      have u8 := HF.out.cell 8
      refine bodyPost_ret (v := .agg #[.int .i64 0, .int .i64 0, .slice none 0 0, .int .u32 0, .int .u32 0, .int .u32 0, .int .u32 0, .int .u32 0, .slice none 0 0]) (by simp [results, Tryz.results93, go_sem, u0, u1, u2, u3, u4, u5, u6, u7, u8]) rfl ⟨rfl, HBF.out⟩
set_option maxRecDepth 100000 in
set_option maxHeartbeats 4000000 in
theorem setX_any (w : World) : Calls Tryz.prog 93 #[.agg #[.int .i64 1, .bool true, .string ⟨#[]⟩, .string ⟨#[]⟩, .string ⟨#[]⟩, .bool false, .int .u32 0, .int .i64 1, .int .u32 9, .int .u32 0, .int .i64 0, .slice none 0 0, .int .u32 0, .int .i64 0], .agg #[.int .i64 0, .int .i64 0, .slice none 0 0, .int .u32 0, .int .u32 0, .int .u32 0, .int .u32 0, .int .u32 0, .slice none 0 0]] w fun e w' => e = .returned (.agg #[.int .i64 32, .int .i64 0, .slice none 0 0, .int .u32 0, .int .u32 0, .int .u32 9, .int .u32 0, .int .u32 0, .slice none 0 0]) ∧ Below w.heap.size w w' := by
  obtain ⟨W, hW⟩ : ∃ W, W = ((w.alloc (.cells #[.int .i64 1, .bool true, .string ⟨#[]⟩, .string ⟨#[]⟩, .string ⟨#[]⟩, .bool false, .int .u32 0, .int .i64 1, .int .u32 9, .int .u32 0, .int .i64 0, .slice none 0 0, .int .u32 0, .int .i64 0] 32)).alloc (.cells #[.int .i64 0, .int .i64 0, .slice none 0 0, .int .u32 0, .int .u32 0, .int .u32 0, .int .u32 0, .int .u32 0, .slice none 0 0] 53)).alloc (.cells #[.int .i64 0, .int .i64 0, .slice none 0 0, .int .u32 0, .int .u32 0, .int .u32 0, .int .u32 0, .int .u32 0, .slice none 0 0] 53) := ⟨_, rfl⟩
  have HB : Hid (Below w.heap.size w W) := hide (by rw [hW]; exact (((Below.refl _ w).alloc (Nat.le_refl _) _).alloc (by simp) _).alloc (by simp; omega) _)
  have HC : Hid (Blk W w.heap.size 32 #[.int .i64 1, .bool true, .string ⟨#[]⟩, .string ⟨#[]⟩, .string ⟨#[]⟩, .bool false, .int .u32 0, .int .i64 1, .int .u32 9, .int .u32 0, .int .i64 0, .slice none 0 0, .int .u32 0, .int .i64 0]) := hide (by rw [hW]; exact ((Blk.new w _ _).alloc _).alloc _)
  have HA : Hid (Blk W (w.heap.size + 1) 53 #[.int .i64 0, .int .i64 0, .slice none 0 0, .int .u32 0, .int .u32 0, .int .u32 0, .int .u32 0, .int .u32 0, .slice none 0 0]) := hide (by rw [hW]; exact (blk_new' _ _ (by simp)).alloc _)
  have HR : Hid (Blk W (w.heap.size + 2) 53 #[.int .i64 0, .int .i64 0, .slice none 0 0, .int .u32 0, .int .u32 0, .int .u32 0, .int .u32 0, .int .u32 0, .slice none 0 0]) := hide (by rw [hW]; exact blk_new' _ _ (by simp))
  have a2 := HA.out.cell 2
  have a8 := HA.out.cell 8
  have b2 := HA.out.frozen 2
  have b8 := HA.out.frozen 8
  have S2 := hide (set_same HA.out (i := 2) (v := .slice none 0 0) rfl)
  have S8 := hide (set_same HA.out (i := 8) (v := .slice none 0 0) rfl)
  have HN1 := hide cloneNilSeg
  have HN2 := hide cloneNilU32
  go_enter Tryz.func93, Tryz.ntmps93
  go_wp2_with fail
  try rw [← hW]
  clear hW
  go_region_with (first
    | (go_at_call 116; refine (HN1.out _).mono ?_; rintro e w5 ⟨rfl, rfl⟩)
    | (go_at_call 117; refine (HN2.out _).mono ?_; rintro e w5 ⟨rfl, rfl⟩))
  all_goals simp only [S2.out, S8.out]
  all_goals
    clear a2 a8 b2 b8
    obtain ⟨W0, hW0⟩ : ∃ W0, W0 = W.drew := ⟨_, rfl⟩
    have HC0 : Hid (Blk W0 w.heap.size 32 #[.int .i64 1, .bool true, .string ⟨#[]⟩, .string ⟨#[]⟩, .string ⟨#[]⟩, .bool false, .int .u32 0, .int .i64 1, .int .u32 9, .int .u32 0, .int .i64 0, .slice none 0 0, .int .u32 0, .int .i64 0]) := hide (by rw [hW0]; exact HC.out.drew)
    have HA0 : Hid (Blk W0 (w.heap.size + 1) 53 #[.int .i64 0, .int .i64 0, .slice none 0 0, .int .u32 0, .int .u32 0, .int .u32 0, .int .u32 0, .int .u32 0, .slice none 0 0]) := hide (by rw [hW0]; exact HA.out.drew)
    have HR0 : Hid (Blk W0 (w.heap.size + 2) 53 #[.int .i64 0, .int .i64 0, .slice none 0 0, .int .u32 0, .int .u32 0, .int .u32 0, .int .u32 0, .int .u32 0, .slice none 0 0]) := hide (by rw [hW0]; exact HR.out.drew)
    have HB0 : Hid (Below w.heap.size w W0) := hide (by rw [hW0]; exact HB.out.drew)
    rw [← hW0]
    have x2 := HA0.out.cell 2
    clear hW0 HB HC HA HR S2 S8
    go_wp2
    go_loopw [17] (fun iv wr => iv = .int .i64 0 ∧ wr = W0) (fun _ _ => 0)
    case atStart => exact ⟨rfl, rfl⟩
    case round =>
      obtain ⟨rfl, rfl⟩ := hrel
      clear x2
      have c0 := HC0.out.cell 0
      have c1 := HC0.out.cell 1
      have c2 := HC0.out.cell 2
      have c3 := HC0.out.cell 3
      have c4 := HC0.out.cell 4
      have c5 := HC0.out.cell 5
      have c6 := HC0.out.cell 6
      have c7 := HC0.out.cell 7
      have c8 := HC0.out.cell 8
      have c9 := HC0.out.cell 9
      have c10 := HC0.out.cell 10
      have c11 := HC0.out.cell 11
      have c12 := HC0.out.cell 12
      have c13 := HC0.out.cell 13
      go_wp2_with fail
      refine (doesX1 _).mono ?_
      rintro e w1 ⟨rfl, hb⟩
      clear c0 c1 c2 c3 c4 c5 c6 c7 c8 c9 c10 c11 c12 c13
      have HC1 := hide (HC0.out.below hb HC0.out.lt)
      have HA1 := hide (HA0.out.below hb HA0.out.lt)
      have HR1 := hide (HR0.out.below hb HR0.out.lt)
      have HB1 := hide (HB0.out.trans (hb.mono HB0.out.size))
      clear hb HC0 HA0 HR0 HB0
      have c8 := HC1.out.cell 8
      have f5 := HA1.out.frozen 5
      have a5 := HA1.out.cell 5
      have HAs : Hid (Blk (w1.setCell ⟨w.heap.size + 1, 5, none⟩ (.int .u32 9)) (w.heap.size + 1) 53 #[.int .i64 0, .int .i64 0, .slice none 0 0, .int .u32 0, .int .u32 0, .int .u32 9, .int .u32 0, .int .u32 0, .slice none 0 0]) := hide (HA1.out.set_ 5 (.int .u32 9))
      go_wp2_with fail
      refine (therePref _ _ _ _ _ _ _ _ _ _ HAs.out).mono ?_
      rintro e w2 ⟨⟨v9, rfl⟩, hw9⟩
      clear c8 f5 a5
      have HA2 : Hid (Blk w2 (w.heap.size + 1) 53 #[.int .i64 32, .int .i64 0, .slice none 0 0, .int .u32 0, .int .u32 0, .int .u32 9, .int .u32 0, .int .u32 0, .slice none 0 0]) := hide (by rw [hw9]; exact ((HAs.out.set_ 0 _).set_ 0 _).drew.drew)
      have HC2 : Hid (Blk w2 w.heap.size 32 #[.int .i64 1, .bool true, .string ⟨#[]⟩, .string ⟨#[]⟩, .string ⟨#[]⟩, .bool false, .int .u32 0, .int .i64 1, .int .u32 9, .int .u32 0, .int .i64 0, .slice none 0 0, .int .u32 0, .int .i64 0]) := hide (by rw [hw9]; exact (((HC1.out.far (by simp) _).far (by simp) _).far (by simp) _).drew.drew)
      have HR2 : Hid (Blk w2 (w.heap.size + 2) 53 #[.int .i64 0, .int .i64 0, .slice none 0 0, .int .u32 0, .int .u32 0, .int .u32 0, .int .u32 0, .int .u32 0, .slice none 0 0]) := hide (by rw [hw9]; exact (((HR1.out.far (by simp) _).far (by simp) _).far (by simp) _).drew.drew)
      have HB2 : Hid (Below w.heap.size w w2) := hide (by rw [hw9]; exact (((HB1.out.setCell (p := ⟨w.heap.size + 1, 5, none⟩) (by show w.heap.size ≤ w.heap.size + 1; omega) _).setCell (p := ⟨w.heap.size + 1, 0, none⟩) (by show w.heap.size ≤ w.heap.size + 1; omega) _).setCell (p := ⟨w.heap.size + 1, 0, none⟩) (by show w.heap.size ≤ w.heap.size + 1; omega) _).drew.drew)
      clear hw9 HC1 HA1 HR1 HB1 HAs
      have c0 := HC2.out.cell 0
      have c1 := HC2.out.cell 1
      have c2 := HC2.out.cell 2
      have c3 := HC2.out.cell 3
      have c4 := HC2.out.cell 4
      have c5 := HC2.out.cell 5
      have c6 := HC2.out.cell 6
      have c7 := HC2.out.cell 7
      have c8 := HC2.out.cell 8
      have c9 := HC2.out.cell 9
      have c10 := HC2.out.cell 10
      have c11 := HC2.out.cell 11
      have c12 := HC2.out.cell 12
      have c13 := HC2.out.cell 13
      go_wp2_with fail
      refine (doesX2 _).mono ?_
      rintro e w3 ⟨rfl, hb⟩
      clear c0 c1 c2 c3 c4 c5 c6 c7 c8 c9 c10 c11 c12 c13
      have HC3 := hide (HC2.out.below hb HC2.out.lt)
      have HA3 := hide (HA2.out.below hb HA2.out.lt)
      have HR3 := hide (HR2.out.below hb HR2.out.lt)
      have HB3 := hide (HB2.out.trans (hb.mono HB2.out.size))
      clear hb HC2 HA2 HR2 HB2
      have c0 := HC3.out.cell 0
      have c1 := HC3.out.cell 1
      have c2 := HC3.out.cell 2
      have c3 := HC3.out.cell 3
      have c4 := HC3.out.cell 4
      have c5 := HC3.out.cell 5
      have c6 := HC3.out.cell 6
      have c7 := HC3.out.cell 7
      have c8 := HC3.out.cell 8
      have c9 := HC3.out.cell 9
      have c10 := HC3.out.cell 10
      have c11 := HC3.out.cell 11
      have c12 := HC3.out.cell 12
      have c13 := HC3.out.cell 13
      go_wp2_with fail
      refine (doesX4 _).mono ?_
      rintro e w4 ⟨rfl, hb⟩
      clear c0 c1 c2 c3 c4 c5 c6 c7 c8 c9 c10 c11 c12 c13
      have HC4 := hide (HC3.out.below hb HC3.out.lt)
      have HA4 := hide (HA3.out.below hb HA3.out.lt)
      have HR4 := hide (HR3.out.below hb HR3.out.lt)
      have HB4 := hide (HB3.out.trans (hb.mono HB3.out.size))
      clear hb HC3 HA3 HR3 HB3
      have c0 := HC4.out.cell 0
      have c1 := HC4.out.cell 1
      have c2 := HC4.out.cell 2
      have c3 := HC4.out.cell 3
      have c4 := HC4.out.cell 4
      have c5 := HC4.out.cell 5
      have c6 := HC4.out.cell 6
      have c7 := HC4.out.cell 7
      have c8 := HC4.out.cell 8
      have c9 := HC4.out.cell 9
      have c10 := HC4.out.cell 10
      have c11 := HC4.out.cell 11
      have c12 := HC4.out.cell 12
      have c13 := HC4.out.cell 13
      go_wp2_with fail
      refine (doesX56 _).mono ?_
      rintro e w5 ⟨rfl, hb⟩
      clear c0 c1 c2 c3 c4 c5 c6 c7 c8 c9 c10 c11 c12 c13
      have HC5 := hide (HC4.out.below hb HC4.out.lt)
      have HA5 := hide (HA4.out.below hb HA4.out.lt)
      have HR5 := hide (HR4.out.below hb HR4.out.lt)
      have HB5 := hide (HB4.out.trans (hb.mono HB4.out.size))
      clear hb HC4 HA4 HR4 HB4
      have c0 := HC5.out.cell 0
      have c1 := HC5.out.cell 1
      have c2 := HC5.out.cell 2
      have c3 := HC5.out.cell 3
      have c4 := HC5.out.cell 4
      have c5 := HC5.out.cell 5
      have c6 := HC5.out.cell 6
      have c7 := HC5.out.cell 7
      have c8 := HC5.out.cell 8
      have c9 := HC5.out.cell 9
      have c10 := HC5.out.cell 10
      have c11 := HC5.out.cell 11
      have c12 := HC5.out.cell 12
      have c13 := HC5.out.cell 13
      go_wp2_with fail
      refine (doesX64 _).mono ?_
      rintro e w6 ⟨rfl, hb⟩
      clear c0 c1 c2 c3 c4 c5 c6 c7 c8 c9 c10 c11 c12 c13
      have HC6 := hide (HC5.out.below hb HC5.out.lt)
      have HA6 := hide (HA5.out.below hb HA5.out.lt)
      have HR6 := hide (HR5.out.below hb HR5.out.lt)
      have HB6 := hide (HB5.out.trans (hb.mono HB5.out.size))
      clear hb HC5 HA5 HR5 HB5
      have a0 := HA6.out.cell 0
      have r0 := HR6.out.cell 0
      have f0 := HR6.out.frozen 0
      have a1 := HA6.out.cell 1
      have r1 := HR6.out.cell 1
      have f1 := HR6.out.frozen 1
      have a2 := HA6.out.cell 2
      have r2 := HR6.out.cell 2
      have f2 := HR6.out.frozen 2
      have a3 := HA6.out.cell 3
      have r3 := HR6.out.cell 3
      have f3 := HR6.out.frozen 3
      have a4 := HA6.out.cell 4
      have r4 := HR6.out.cell 4
      have f4 := HR6.out.frozen 4
      have a5 := HA6.out.cell 5
      have r5 := HR6.out.cell 5
      have f5 := HR6.out.frozen 5
      have a6 := HA6.out.cell 6
      have r6 := HR6.out.cell 6
      have f6 := HR6.out.frozen 6
      have a7 := HA6.out.cell 7
      have r7 := HR6.out.cell 7
      have f7 := HR6.out.frozen 7
      have a8 := HA6.out.cell 8
      have r8 := HR6.out.cell 8
      have f8 := HR6.out.frozen 8
      have HF := hide (((((((((HR6.out.set_ 0 (.int .i64 32)).set_ 1 (.int .i64 0)).set_ 2 (.slice none 0 0)).set_ 3 (.int .u32 0)).set_ 4 (.int .u32 0)).set_ 5 (.int .u32 9)).set_ 6 (.int .u32 0)).set_ 7 (.int .u32 0)).set_ 8 (.slice none 0 0))
      have HBF := hide (((((((((HB6.out.setCell (p := ⟨w.heap.size + 2, 0, none⟩) (by show w.heap.size ≤ w.heap.size + 2; omega) (.int .i64 32)).setCell (p := ⟨w.heap.size + 2, 1, none⟩) (by show w.heap.size ≤ w.heap.size + 2; omega) (.int .i64 0)).setCell (p := ⟨w.heap.size + 2, 2, none⟩) (by show w.heap.size ≤ w.heap.size + 2; omega) (.slice none 0 0)).setCell (p := ⟨w.heap.size + 2, 3, none⟩) (by show w.heap.size ≤ w.heap.size + 2; omega) (.int .u32 0)).setCell (p := ⟨w.heap.size + 2, 4, none⟩) (by show w.heap.size ≤ w.heap.size + 2; omega) (.int .u32 0)).setCell (p := ⟨w.heap.size + 2, 5, none⟩) (by show w.heap.size ≤ w.heap.size + 2; omega) (.int .u32 9)).setCell (p := ⟨w.heap.size + 2, 6, none⟩) (by show w.heap.size ≤ w.heap.size + 2; omega) (.int .u32 0)).setCell (p := ⟨w.heap.size + 2, 7, none⟩) (by show w.heap.size ≤ w.heap.size + 2; omega) (.int .u32 0)).setCell (p := ⟨w.heap.size + 2, 8, none⟩) (by show w.heap.size ≤ w.heap.size + 2; omega) (.slice none 0 0))
      go_wp2
      have u0 := HF.out.cell 0
      have u1 := HF.out.cell 1
      have u2 := HF.out.cell 2
      have u3 := HF.out.cell 3
      have u4 := HF.out.cell 4
      have u5 := HF.out.cell 5
      have u6 := HF.out.cell 6
      have u7 := HF.out.cell 7
      have u8 := HF.out.cell 8
      refine bodyPost_ret (v := .agg #[.int .i64 32, .int .i64 0, .slice none 0 0, .int .u32 0, .int .u32 0, .int .u32 9, .int .u32 0, .int .u32 0, .slice none 0 0]) (by simp [results, Tryz.results93, go_sem, u0, u1, u2, u3, u4, u5, u6, u7, u8]) rfl ⟨rfl, HBF.out⟩
end Go.Proofs.YtgofaoommpnhpaaGreat
set_option linter.unusedSimpArgs false
set_option linter.unusedVariables false
namespace Go.Proofs.YtgofaoommpnhpaaGreat
open Go.RowKit Go.WideShapes Go.ChangeShapes
attribute [local go_sem] Oper.semAt_some
/-- The map that the law's lives is about. -/
structure LvAt (W : World) (c r : Nat) : Prop where
  cl : Blk W c 32 #[.int .i64 1, .bool true, .string ⟨#[]⟩, .string ⟨#[]⟩, .string ⟨#[]⟩, .bool false, .int .u32 0, .int .i64 1, .int .u32 9, .int .u32 0, .int .i64 0, .slice none 0 0, .int .u32 0, .int .i64 0]
  rm : Blk W r 24 #[.string ⟨#[120]⟩, .slice (some ⟨c, 0, none⟩) 1 1]
theorem LvAt.below {W W' : World} {c r : Nat} (h : LvAt W c r) (hb : Below W.heap.size W W') : LvAt W' c r := ⟨h.cl.below hb h.cl.lt, h.rm.below hb h.rm.lt⟩
theorem LvAt.nm {W : World} {c r : Nat} (h : LvAt W c r) : LstAt 2 nmR W (some ⟨r, 0, none⟩) 1 1 [⟨#[120]⟩] := by
  refine ⟨rfl, Nat.le_refl _, by simp [maxLen], fun _ => ⟨r, 0, rfl, h.rm.lt, fun k x hk => ?_⟩⟩
  have hk0 : k = 0 := by have := (List.getElem?_eq_some_iff.1 hk).1; simpa using this
  subst hk0
  obtain rfl : (⟨#[120]⟩ : ByteArray) = x := by simpa using hk
  refine ⟨[.string ⟨#[120]⟩, .slice (some ⟨c, 0, none⟩) 1 1], rfl, ⟨_, _, _, rfl⟩, fun j v hv => ?_⟩
  rw [show (0 + 0 * 2 + j) = j by omega, h.rm.cell j, ← hv]
  simp
theorem lvFindX {W : World} {c r : Nat} (h : LvAt W c r) : Calls Tryz.prog 94 #[.slice (some ⟨r, 0, none⟩) 1 1, .string ⟨#[120]⟩, .func (.func 46) #[] #[]] W fun e w' => e = .returned (.pointer (some ⟨r, 0, none⟩)) ∧ Below W.heap.size W w' := by
  refine (rmFind_any ⟨#[120]⟩ _ 1 1 _ W h.nm).mono ?_
  rintro e w' ⟨rfl, hb⟩
  have hi : idxP (fun x => decide (x = (⟨#[120]⟩ : ByteArray))) [⟨#[120]⟩] = 0 := by decide +kernel
  rw [hi]
  exact ⟨rfl, hb⟩
theorem lvFindY {W : World} {c r : Nat} (h : LvAt W c r) : Calls Tryz.prog 94 #[.slice (some ⟨r, 0, none⟩) 1 1, .string ⟨#[121]⟩, .func (.func 46) #[] #[]] W fun e w' => e = .returned (.pointer none) ∧ Below W.heap.size W w' := by
  refine (rmFind_any ⟨#[121]⟩ _ 1 1 _ W h.nm).mono ?_
  rintro e w' ⟨rfl, hb⟩
  have hi : idxP (fun x => decide (x = (⟨#[121]⟩ : ByteArray))) [⟨#[120]⟩] = -1 := by decide +kernel
  rw [hi]
  exact ⟨rfl, hb⟩
set_option maxRecDepth 100000 in
set_option maxHeartbeats 2000000 in
theorem hitsX_any (R : Option Addr) (rn rc : Nat) (w : World) : Calls Tryz.prog 95 #[.agg #[.slice none 0 0, .slice none 0 0, .slice none 0 0, .slice R rn rc], .agg #[.int .i64 1, .bool true, .string ⟨#[]⟩, .string ⟨#[]⟩, .string ⟨#[]⟩, .bool false, .int .u32 0, .int .i64 1, .int .u32 9, .int .u32 0, .int .i64 0, .slice none 0 0, .int .u32 0, .int .i64 0], .agg #[.int .u32 0, .int .i64 0], .agg #[.int .i64 0, .int .i64 0, .slice none 0 0, .int .u32 0, .int .u32 0, .int .u32 0, .int .u32 0, .int .u32 0, .slice none 0 0]] w (GoodP true w) := by
  have HB : Hid (Below w.heap.size w ((((w.alloc (.cells #[.slice none 0 0, .slice none 0 0, .slice none 0 0, .slice R rn rc] 42)).alloc (.cells #[.int .i64 1, .bool true, .string ⟨#[]⟩, .string ⟨#[]⟩, .string ⟨#[]⟩, .bool false, .int .u32 0, .int .i64 1, .int .u32 9, .int .u32 0, .int .i64 0, .slice none 0 0, .int .u32 0, .int .i64 0] 32)).alloc (.cells #[.int .u32 0, .int .i64 0] 57)).alloc (.cells #[.int .i64 0, .int .i64 0, .slice none 0 0, .int .u32 0, .int .u32 0, .int .u32 0, .int .u32 0, .int .u32 0, .slice none 0 0] 53))) := hide (((((Below.refl w.heap.size w).alloc (by simp <;> omega) _).alloc (by simp <;> omega) _).alloc (by simp <;> omega) _).alloc (by simp <;> omega) _)
  have HK0 : Hid (Blk ((((w.alloc (.cells #[.slice none 0 0, .slice none 0 0, .slice none 0 0, .slice R rn rc] 42)).alloc (.cells #[.int .i64 1, .bool true, .string ⟨#[]⟩, .string ⟨#[]⟩, .string ⟨#[]⟩, .bool false, .int .u32 0, .int .i64 1, .int .u32 9, .int .u32 0, .int .i64 0, .slice none 0 0, .int .u32 0, .int .i64 0] 32)).alloc (.cells #[.int .u32 0, .int .i64 0] 57)).alloc (.cells #[.int .i64 0, .int .i64 0, .slice none 0 0, .int .u32 0, .int .u32 0, .int .u32 0, .int .u32 0, .int .u32 0, .slice none 0 0] 53)) w.heap.size 42 #[.slice none 0 0, .slice none 0 0, .slice none 0 0, .slice R rn rc]) := hide ((((Blk.new w _ _).alloc _).alloc _).alloc _)
  have HK1 : Hid (Blk ((((w.alloc (.cells #[.slice none 0 0, .slice none 0 0, .slice none 0 0, .slice R rn rc] 42)).alloc (.cells #[.int .i64 1, .bool true, .string ⟨#[]⟩, .string ⟨#[]⟩, .string ⟨#[]⟩, .bool false, .int .u32 0, .int .i64 1, .int .u32 9, .int .u32 0, .int .i64 0, .slice none 0 0, .int .u32 0, .int .i64 0] 32)).alloc (.cells #[.int .u32 0, .int .i64 0] 57)).alloc (.cells #[.int .i64 0, .int .i64 0, .slice none 0 0, .int .u32 0, .int .u32 0, .int .u32 0, .int .u32 0, .int .u32 0, .slice none 0 0] 53)) (w.heap.size + 1) 32 #[.int .i64 1, .bool true, .string ⟨#[]⟩, .string ⟨#[]⟩, .string ⟨#[]⟩, .bool false, .int .u32 0, .int .i64 1, .int .u32 9, .int .u32 0, .int .i64 0, .slice none 0 0, .int .u32 0, .int .i64 0]) := hide (((blk_new' _ _ (by simp)).alloc _).alloc _)
  have HK2 : Hid (Blk ((((w.alloc (.cells #[.slice none 0 0, .slice none 0 0, .slice none 0 0, .slice R rn rc] 42)).alloc (.cells #[.int .i64 1, .bool true, .string ⟨#[]⟩, .string ⟨#[]⟩, .string ⟨#[]⟩, .bool false, .int .u32 0, .int .i64 1, .int .u32 9, .int .u32 0, .int .i64 0, .slice none 0 0, .int .u32 0, .int .i64 0] 32)).alloc (.cells #[.int .u32 0, .int .i64 0] 57)).alloc (.cells #[.int .i64 0, .int .i64 0, .slice none 0 0, .int .u32 0, .int .u32 0, .int .u32 0, .int .u32 0, .int .u32 0, .slice none 0 0] 53)) (w.heap.size + 2) 57 #[.int .u32 0, .int .i64 0]) := hide ((blk_new' _ _ (by simp)).alloc _)
  have HK3 : Hid (Blk ((((w.alloc (.cells #[.slice none 0 0, .slice none 0 0, .slice none 0 0, .slice R rn rc] 42)).alloc (.cells #[.int .i64 1, .bool true, .string ⟨#[]⟩, .string ⟨#[]⟩, .string ⟨#[]⟩, .bool false, .int .u32 0, .int .i64 1, .int .u32 9, .int .u32 0, .int .i64 0, .slice none 0 0, .int .u32 0, .int .i64 0] 32)).alloc (.cells #[.int .u32 0, .int .i64 0] 57)).alloc (.cells #[.int .i64 0, .int .i64 0, .slice none 0 0, .int .u32 0, .int .u32 0, .int .u32 0, .int .u32 0, .int .u32 0, .slice none 0 0] 53)) (w.heap.size + 3) 53 #[.int .i64 0, .int .i64 0, .slice none 0 0, .int .u32 0, .int .u32 0, .int .u32 0, .int .u32 0, .int .u32 0, .slice none 0 0]) := hide (blk_new' _ _ (by simp))
  have x2 := HK1.out.cell 2
  have x3 := HK1.out.cell 3
  have x4 := HK1.out.cell 4
  have x5 := HK1.out.cell 5
  go_enter Tryz.func95, Tryz.ntmps95
  go_wp2
  go_ret
  exact ⟨rfl, HB.out⟩
set_option maxRecDepth 100000 in
set_option maxHeartbeats 4000000 in
theorem evalE_any (w : World) (c r : Nat) (h : LvAt w c r) : Calls Tryz.prog 58 #[.agg #[.slice none 0 0, .slice none 0 0, .slice none 0 0, .slice (some ⟨r, 0, none⟩) 1 1], .string ⟨#[]⟩, .agg #[.int .u32 0, .int .i64 0], .agg #[.int .i64 0, .int .i64 0, .slice none 0 0, .int .u32 0, .int .u32 0, .int .u32 0, .int .u32 0, .int .u32 0, .slice none 0 0]] w fun e w' => e = .returned (.tuple #[.agg #[.int .i64 0, .int .i64 0, .slice none 0 0, .int .u32 0, .int .u32 0, .int .u32 0, .int .u32 0, .int .u32 0, .slice none 0 0], .bool true]) ∧ Below w.heap.size w w' := by
  have HB : Hid (Below w.heap.size w ((((w.alloc (.cells #[.slice none 0 0, .slice none 0 0, .slice none 0 0, .slice (some ⟨r, 0, none⟩) 1 1] 42)).alloc (.cells #[.int .u32 0, .int .i64 0] 57)).alloc (.cells #[.int .i64 0, .int .i64 0, .slice none 0 0, .int .u32 0, .int .u32 0, .int .u32 0, .int .u32 0, .int .u32 0, .slice none 0 0] 53)).alloc (.cells #[.int .i64 0, .int .i64 0, .slice none 0 0, .int .u32 0, .int .u32 0, .int .u32 0, .int .u32 0, .int .u32 0, .slice none 0 0] 53))) := hide (((((Below.refl w.heap.size w).alloc (by simp <;> omega) _).alloc (by simp <;> omega) _).alloc (by simp <;> omega) _).alloc (by simp <;> omega) _)
  have HK0 : Hid (Blk ((((w.alloc (.cells #[.slice none 0 0, .slice none 0 0, .slice none 0 0, .slice (some ⟨r, 0, none⟩) 1 1] 42)).alloc (.cells #[.int .u32 0, .int .i64 0] 57)).alloc (.cells #[.int .i64 0, .int .i64 0, .slice none 0 0, .int .u32 0, .int .u32 0, .int .u32 0, .int .u32 0, .int .u32 0, .slice none 0 0] 53)).alloc (.cells #[.int .i64 0, .int .i64 0, .slice none 0 0, .int .u32 0, .int .u32 0, .int .u32 0, .int .u32 0, .int .u32 0, .slice none 0 0] 53)) w.heap.size 42 #[.slice none 0 0, .slice none 0 0, .slice none 0 0, .slice (some ⟨r, 0, none⟩) 1 1]) := hide ((((Blk.new w _ _).alloc _).alloc _).alloc _)
  have HK1 : Hid (Blk ((((w.alloc (.cells #[.slice none 0 0, .slice none 0 0, .slice none 0 0, .slice (some ⟨r, 0, none⟩) 1 1] 42)).alloc (.cells #[.int .u32 0, .int .i64 0] 57)).alloc (.cells #[.int .i64 0, .int .i64 0, .slice none 0 0, .int .u32 0, .int .u32 0, .int .u32 0, .int .u32 0, .int .u32 0, .slice none 0 0] 53)).alloc (.cells #[.int .i64 0, .int .i64 0, .slice none 0 0, .int .u32 0, .int .u32 0, .int .u32 0, .int .u32 0, .int .u32 0, .slice none 0 0] 53)) (w.heap.size + 1) 57 #[.int .u32 0, .int .i64 0]) := hide (((blk_new' _ _ (by simp)).alloc _).alloc _)
  have HK2 : Hid (Blk ((((w.alloc (.cells #[.slice none 0 0, .slice none 0 0, .slice none 0 0, .slice (some ⟨r, 0, none⟩) 1 1] 42)).alloc (.cells #[.int .u32 0, .int .i64 0] 57)).alloc (.cells #[.int .i64 0, .int .i64 0, .slice none 0 0, .int .u32 0, .int .u32 0, .int .u32 0, .int .u32 0, .int .u32 0, .slice none 0 0] 53)).alloc (.cells #[.int .i64 0, .int .i64 0, .slice none 0 0, .int .u32 0, .int .u32 0, .int .u32 0, .int .u32 0, .int .u32 0, .slice none 0 0] 53)) (w.heap.size + 2) 53 #[.int .i64 0, .int .i64 0, .slice none 0 0, .int .u32 0, .int .u32 0, .int .u32 0, .int .u32 0, .int .u32 0, .slice none 0 0]) := hide ((blk_new' _ _ (by simp)).alloc _)
  have HK3 : Hid (Blk ((((w.alloc (.cells #[.slice none 0 0, .slice none 0 0, .slice none 0 0, .slice (some ⟨r, 0, none⟩) 1 1] 42)).alloc (.cells #[.int .u32 0, .int .i64 0] 57)).alloc (.cells #[.int .i64 0, .int .i64 0, .slice none 0 0, .int .u32 0, .int .u32 0, .int .u32 0, .int .u32 0, .int .u32 0, .slice none 0 0] 53)).alloc (.cells #[.int .i64 0, .int .i64 0, .slice none 0 0, .int .u32 0, .int .u32 0, .int .u32 0, .int .u32 0, .int .u32 0, .slice none 0 0] 53)) (w.heap.size + 3) 53 #[.int .i64 0, .int .i64 0, .slice none 0 0, .int .u32 0, .int .u32 0, .int .u32 0, .int .u32 0, .int .u32 0, .slice none 0 0]) := hide (blk_new' _ _ (by simp))
  have HL := hide (h.below (HB.out))
  clear h
  go_enter Tryz.func58, Tryz.ntmps58
  have a0 := HK2.out.cell 0
  have a1 := HK2.out.cell 1
  have a2 := HK2.out.cell 2
  have a3 := HK2.out.cell 3
  have a4 := HK2.out.cell 4
  have a5 := HK2.out.cell 5
  have a6 := HK2.out.cell 6
  have a7 := HK2.out.cell 7
  have a8 := HK2.out.cell 8
  go_wp2_with fail
  refine (setZ_any _).mono ?_
  rintro e w1 ⟨rfl, hb⟩
  clear a0 a1 a2 a3 a4 a5 a6 a7 a8
  have HR1 := hide (HK3.out.below hb HK3.out.lt)
  have HB1 := hide (HB.out.trans (hb.mono HB.out.size))
  have r0 := HR1.out.cell 0
  have rf0 := HR1.out.frozen 0
  have r1 := HR1.out.cell 1
  have rf1 := HR1.out.frozen 1
  have r2 := HR1.out.cell 2
  have rf2 := HR1.out.frozen 2
  have r3 := HR1.out.cell 3
  have rf3 := HR1.out.frozen 3
  have r4 := HR1.out.cell 4
  have rf4 := HR1.out.frozen 4
  have r5 := HR1.out.cell 5
  have rf5 := HR1.out.frozen 5
  have r6 := HR1.out.cell 6
  have rf6 := HR1.out.frozen 6
  have r7 := HR1.out.cell 7
  have rf7 := HR1.out.frozen 7
  have r8 := HR1.out.cell 8
  have rf8 := HR1.out.frozen 8
  have HF := hide (((((((((HR1.out.set_ 0 (.int .i64 0)).set_ 1 (.int .i64 0)).set_ 2 (.slice none 0 0)).set_ 3 (.int .u32 0)).set_ 4 (.int .u32 0)).set_ 5 (.int .u32 0)).set_ 6 (.int .u32 0)).set_ 7 (.int .u32 0)).set_ 8 (.slice none 0 0))
  have HBF := hide (((((((((HB1.out.setCell (p := ⟨w.heap.size + 3, 0, none⟩) (by show w.heap.size ≤ w.heap.size + 3; omega) (.int .i64 0)).setCell (p := ⟨w.heap.size + 3, 1, none⟩) (by show w.heap.size ≤ w.heap.size + 3; omega) (.int .i64 0)).setCell (p := ⟨w.heap.size + 3, 2, none⟩) (by show w.heap.size ≤ w.heap.size + 3; omega) (.slice none 0 0)).setCell (p := ⟨w.heap.size + 3, 3, none⟩) (by show w.heap.size ≤ w.heap.size + 3; omega) (.int .u32 0)).setCell (p := ⟨w.heap.size + 3, 4, none⟩) (by show w.heap.size ≤ w.heap.size + 3; omega) (.int .u32 0)).setCell (p := ⟨w.heap.size + 3, 5, none⟩) (by show w.heap.size ≤ w.heap.size + 3; omega) (.int .u32 0)).setCell (p := ⟨w.heap.size + 3, 6, none⟩) (by show w.heap.size ≤ w.heap.size + 3; omega) (.int .u32 0)).setCell (p := ⟨w.heap.size + 3, 7, none⟩) (by show w.heap.size ≤ w.heap.size + 3; omega) (.int .u32 0)).setCell (p := ⟨w.heap.size + 3, 8, none⟩) (by show w.heap.size ≤ w.heap.size + 3; omega) (.slice none 0 0))
  go_wp2
  have u0 := HF.out.cell 0
  have u1 := HF.out.cell 1
  have u2 := HF.out.cell 2
  have u3 := HF.out.cell 3
  have u4 := HF.out.cell 4
  have u5 := HF.out.cell 5
  have u6 := HF.out.cell 6
  have u7 := HF.out.cell 7
  have u8 := HF.out.cell 8
  refine bodyPost_ret (v := .tuple #[.agg #[.int .i64 0, .int .i64 0, .slice none 0 0, .int .u32 0, .int .u32 0, .int .u32 0, .int .u32 0, .int .u32 0, .slice none 0 0], .bool true]) (by simp [results, Tryz.results58, go_sem, u0, u1, u2, u3, u4, u5, u6, u7, u8]) rfl ⟨rfl, HBF.out⟩
set_option maxRecDepth 100000 in
set_option maxHeartbeats 4000000 in
theorem evalY_any (w : World) (c r : Nat) (h : LvAt w c r) : Calls Tryz.prog 58 #[.agg #[.slice none 0 0, .slice none 0 0, .slice none 0 0, .slice (some ⟨r, 0, none⟩) 1 1], .string ⟨#[121]⟩, .agg #[.int .u32 0, .int .i64 0], .agg #[.int .i64 0, .int .i64 0, .slice none 0 0, .int .u32 0, .int .u32 0, .int .u32 0, .int .u32 0, .int .u32 0, .slice none 0 0]] w fun e w' => e = .returned (.tuple #[.agg #[.int .i64 0, .int .i64 0, .slice none 0 0, .int .u32 0, .int .u32 0, .int .u32 0, .int .u32 0, .int .u32 0, .slice none 0 0], .bool false]) ∧ Below w.heap.size w w' := by
  have HB : Hid (Below w.heap.size w ((((w.alloc (.cells #[.slice none 0 0, .slice none 0 0, .slice none 0 0, .slice (some ⟨r, 0, none⟩) 1 1] 42)).alloc (.cells #[.int .u32 0, .int .i64 0] 57)).alloc (.cells #[.int .i64 0, .int .i64 0, .slice none 0 0, .int .u32 0, .int .u32 0, .int .u32 0, .int .u32 0, .int .u32 0, .slice none 0 0] 53)).alloc (.cells #[.int .i64 0, .int .i64 0, .slice none 0 0, .int .u32 0, .int .u32 0, .int .u32 0, .int .u32 0, .int .u32 0, .slice none 0 0] 53))) := hide (((((Below.refl w.heap.size w).alloc (by simp <;> omega) _).alloc (by simp <;> omega) _).alloc (by simp <;> omega) _).alloc (by simp <;> omega) _)
  have HK0 : Hid (Blk ((((w.alloc (.cells #[.slice none 0 0, .slice none 0 0, .slice none 0 0, .slice (some ⟨r, 0, none⟩) 1 1] 42)).alloc (.cells #[.int .u32 0, .int .i64 0] 57)).alloc (.cells #[.int .i64 0, .int .i64 0, .slice none 0 0, .int .u32 0, .int .u32 0, .int .u32 0, .int .u32 0, .int .u32 0, .slice none 0 0] 53)).alloc (.cells #[.int .i64 0, .int .i64 0, .slice none 0 0, .int .u32 0, .int .u32 0, .int .u32 0, .int .u32 0, .int .u32 0, .slice none 0 0] 53)) w.heap.size 42 #[.slice none 0 0, .slice none 0 0, .slice none 0 0, .slice (some ⟨r, 0, none⟩) 1 1]) := hide ((((Blk.new w _ _).alloc _).alloc _).alloc _)
  have HK1 : Hid (Blk ((((w.alloc (.cells #[.slice none 0 0, .slice none 0 0, .slice none 0 0, .slice (some ⟨r, 0, none⟩) 1 1] 42)).alloc (.cells #[.int .u32 0, .int .i64 0] 57)).alloc (.cells #[.int .i64 0, .int .i64 0, .slice none 0 0, .int .u32 0, .int .u32 0, .int .u32 0, .int .u32 0, .int .u32 0, .slice none 0 0] 53)).alloc (.cells #[.int .i64 0, .int .i64 0, .slice none 0 0, .int .u32 0, .int .u32 0, .int .u32 0, .int .u32 0, .int .u32 0, .slice none 0 0] 53)) (w.heap.size + 1) 57 #[.int .u32 0, .int .i64 0]) := hide (((blk_new' _ _ (by simp)).alloc _).alloc _)
  have HK2 : Hid (Blk ((((w.alloc (.cells #[.slice none 0 0, .slice none 0 0, .slice none 0 0, .slice (some ⟨r, 0, none⟩) 1 1] 42)).alloc (.cells #[.int .u32 0, .int .i64 0] 57)).alloc (.cells #[.int .i64 0, .int .i64 0, .slice none 0 0, .int .u32 0, .int .u32 0, .int .u32 0, .int .u32 0, .int .u32 0, .slice none 0 0] 53)).alloc (.cells #[.int .i64 0, .int .i64 0, .slice none 0 0, .int .u32 0, .int .u32 0, .int .u32 0, .int .u32 0, .int .u32 0, .slice none 0 0] 53)) (w.heap.size + 2) 53 #[.int .i64 0, .int .i64 0, .slice none 0 0, .int .u32 0, .int .u32 0, .int .u32 0, .int .u32 0, .int .u32 0, .slice none 0 0]) := hide ((blk_new' _ _ (by simp)).alloc _)
  have HK3 : Hid (Blk ((((w.alloc (.cells #[.slice none 0 0, .slice none 0 0, .slice none 0 0, .slice (some ⟨r, 0, none⟩) 1 1] 42)).alloc (.cells #[.int .u32 0, .int .i64 0] 57)).alloc (.cells #[.int .i64 0, .int .i64 0, .slice none 0 0, .int .u32 0, .int .u32 0, .int .u32 0, .int .u32 0, .int .u32 0, .slice none 0 0] 53)).alloc (.cells #[.int .i64 0, .int .i64 0, .slice none 0 0, .int .u32 0, .int .u32 0, .int .u32 0, .int .u32 0, .int .u32 0, .slice none 0 0] 53)) (w.heap.size + 3) 53 #[.int .i64 0, .int .i64 0, .slice none 0 0, .int .u32 0, .int .u32 0, .int .u32 0, .int .u32 0, .int .u32 0, .slice none 0 0]) := hide (blk_new' _ _ (by simp))
  have HL := hide (h.below (HB.out))
  clear h
  go_enter Tryz.func58, Tryz.ntmps58
  have l3 := HK0.out.cell 3
  go_wp2_with fail
  refine (lvFindY HL.out).mono ?_
  rintro e w1 ⟨rfl, hb⟩
  clear l3
  have HM0 := hide (HK0.out.below hb HK0.out.lt)
  have HM1 := hide (HK1.out.below hb HK1.out.lt)
  have HM2 := hide (HK2.out.below hb HK2.out.lt)
  have HM3 := hide (HK3.out.below hb HK3.out.lt)
  have HB1 := hide (HB.out.trans (hb.mono HB.out.size))
  have HL1 := hide (HL.out.below hb)
  clear hb HK0 HK1 HK2 HK3 HB HL
  have a0 := HM2.out.cell 0
  have a1 := HM2.out.cell 1
  have a2 := HM2.out.cell 2
  have a3 := HM2.out.cell 3
  have a4 := HM2.out.cell 4
  have a5 := HM2.out.cell 5
  have a6 := HM2.out.cell 6
  have a7 := HM2.out.cell 7
  have a8 := HM2.out.cell 8
  go_wp2_with fail
  refine (setZ_any _).mono ?_
  rintro e w2 ⟨rfl, hb⟩
  clear a0 a1 a2 a3 a4 a5 a6 a7 a8
  have HR1 := hide (HM3.out.below hb HM3.out.lt)
  have HB2 := hide (HB1.out.trans (hb.mono HB1.out.size))
  have r0 := HR1.out.cell 0
  have rf0 := HR1.out.frozen 0
  have r1 := HR1.out.cell 1
  have rf1 := HR1.out.frozen 1
  have r2 := HR1.out.cell 2
  have rf2 := HR1.out.frozen 2
  have r3 := HR1.out.cell 3
  have rf3 := HR1.out.frozen 3
  have r4 := HR1.out.cell 4
  have rf4 := HR1.out.frozen 4
  have r5 := HR1.out.cell 5
  have rf5 := HR1.out.frozen 5
  have r6 := HR1.out.cell 6
  have rf6 := HR1.out.frozen 6
  have r7 := HR1.out.cell 7
  have rf7 := HR1.out.frozen 7
  have r8 := HR1.out.cell 8
  have rf8 := HR1.out.frozen 8
  have HF := hide (((((((((HR1.out.set_ 0 (.int .i64 0)).set_ 1 (.int .i64 0)).set_ 2 (.slice none 0 0)).set_ 3 (.int .u32 0)).set_ 4 (.int .u32 0)).set_ 5 (.int .u32 0)).set_ 6 (.int .u32 0)).set_ 7 (.int .u32 0)).set_ 8 (.slice none 0 0))
  have HBF := hide (((((((((HB2.out.setCell (p := ⟨w.heap.size + 3, 0, none⟩) (by show w.heap.size ≤ w.heap.size + 3; omega) (.int .i64 0)).setCell (p := ⟨w.heap.size + 3, 1, none⟩) (by show w.heap.size ≤ w.heap.size + 3; omega) (.int .i64 0)).setCell (p := ⟨w.heap.size + 3, 2, none⟩) (by show w.heap.size ≤ w.heap.size + 3; omega) (.slice none 0 0)).setCell (p := ⟨w.heap.size + 3, 3, none⟩) (by show w.heap.size ≤ w.heap.size + 3; omega) (.int .u32 0)).setCell (p := ⟨w.heap.size + 3, 4, none⟩) (by show w.heap.size ≤ w.heap.size + 3; omega) (.int .u32 0)).setCell (p := ⟨w.heap.size + 3, 5, none⟩) (by show w.heap.size ≤ w.heap.size + 3; omega) (.int .u32 0)).setCell (p := ⟨w.heap.size + 3, 6, none⟩) (by show w.heap.size ≤ w.heap.size + 3; omega) (.int .u32 0)).setCell (p := ⟨w.heap.size + 3, 7, none⟩) (by show w.heap.size ≤ w.heap.size + 3; omega) (.int .u32 0)).setCell (p := ⟨w.heap.size + 3, 8, none⟩) (by show w.heap.size ≤ w.heap.size + 3; omega) (.slice none 0 0))
  go_wp2
  have u0 := HF.out.cell 0
  have u1 := HF.out.cell 1
  have u2 := HF.out.cell 2
  have u3 := HF.out.cell 3
  have u4 := HF.out.cell 4
  have u5 := HF.out.cell 5
  have u6 := HF.out.cell 6
  have u7 := HF.out.cell 7
  have u8 := HF.out.cell 8
  refine bodyPost_ret (v := .tuple #[.agg #[.int .i64 0, .int .i64 0, .slice none 0 0, .int .u32 0, .int .u32 0, .int .u32 0, .int .u32 0, .int .u32 0, .slice none 0 0], .bool false]) (by simp [results, Tryz.results58, go_sem, u0, u1, u2, u3, u4, u5, u6, u7, u8]) rfl ⟨rfl, HBF.out⟩
set_option maxRecDepth 100000 in
set_option maxHeartbeats 4000000 in
theorem evalX_any (w : World) (c r : Nat) (h : LvAt w c r) : Calls Tryz.prog 58 #[.agg #[.slice none 0 0, .slice none 0 0, .slice none 0 0, .slice (some ⟨r, 0, none⟩) 1 1], .string ⟨#[120]⟩, .agg #[.int .u32 0, .int .i64 0], .agg #[.int .i64 0, .int .i64 0, .slice none 0 0, .int .u32 0, .int .u32 0, .int .u32 0, .int .u32 0, .int .u32 0, .slice none 0 0]] w fun e w' => e = .returned (.tuple #[.agg #[.int .i64 32, .int .i64 0, .slice none 0 0, .int .u32 0, .int .u32 0, .int .u32 9, .int .u32 0, .int .u32 0, .slice none 0 0], .bool true]) ∧ Below w.heap.size w w' := by
  have HB : Hid (Below w.heap.size w ((((w.alloc (.cells #[.slice none 0 0, .slice none 0 0, .slice none 0 0, .slice (some ⟨r, 0, none⟩) 1 1] 42)).alloc (.cells #[.int .u32 0, .int .i64 0] 57)).alloc (.cells #[.int .i64 0, .int .i64 0, .slice none 0 0, .int .u32 0, .int .u32 0, .int .u32 0, .int .u32 0, .int .u32 0, .slice none 0 0] 53)).alloc (.cells #[.int .i64 0, .int .i64 0, .slice none 0 0, .int .u32 0, .int .u32 0, .int .u32 0, .int .u32 0, .int .u32 0, .slice none 0 0] 53))) := hide (((((Below.refl w.heap.size w).alloc (by simp <;> omega) _).alloc (by simp <;> omega) _).alloc (by simp <;> omega) _).alloc (by simp <;> omega) _)
  have HK0 : Hid (Blk ((((w.alloc (.cells #[.slice none 0 0, .slice none 0 0, .slice none 0 0, .slice (some ⟨r, 0, none⟩) 1 1] 42)).alloc (.cells #[.int .u32 0, .int .i64 0] 57)).alloc (.cells #[.int .i64 0, .int .i64 0, .slice none 0 0, .int .u32 0, .int .u32 0, .int .u32 0, .int .u32 0, .int .u32 0, .slice none 0 0] 53)).alloc (.cells #[.int .i64 0, .int .i64 0, .slice none 0 0, .int .u32 0, .int .u32 0, .int .u32 0, .int .u32 0, .int .u32 0, .slice none 0 0] 53)) w.heap.size 42 #[.slice none 0 0, .slice none 0 0, .slice none 0 0, .slice (some ⟨r, 0, none⟩) 1 1]) := hide ((((Blk.new w _ _).alloc _).alloc _).alloc _)
  have HK1 : Hid (Blk ((((w.alloc (.cells #[.slice none 0 0, .slice none 0 0, .slice none 0 0, .slice (some ⟨r, 0, none⟩) 1 1] 42)).alloc (.cells #[.int .u32 0, .int .i64 0] 57)).alloc (.cells #[.int .i64 0, .int .i64 0, .slice none 0 0, .int .u32 0, .int .u32 0, .int .u32 0, .int .u32 0, .int .u32 0, .slice none 0 0] 53)).alloc (.cells #[.int .i64 0, .int .i64 0, .slice none 0 0, .int .u32 0, .int .u32 0, .int .u32 0, .int .u32 0, .int .u32 0, .slice none 0 0] 53)) (w.heap.size + 1) 57 #[.int .u32 0, .int .i64 0]) := hide (((blk_new' _ _ (by simp)).alloc _).alloc _)
  have HK2 : Hid (Blk ((((w.alloc (.cells #[.slice none 0 0, .slice none 0 0, .slice none 0 0, .slice (some ⟨r, 0, none⟩) 1 1] 42)).alloc (.cells #[.int .u32 0, .int .i64 0] 57)).alloc (.cells #[.int .i64 0, .int .i64 0, .slice none 0 0, .int .u32 0, .int .u32 0, .int .u32 0, .int .u32 0, .int .u32 0, .slice none 0 0] 53)).alloc (.cells #[.int .i64 0, .int .i64 0, .slice none 0 0, .int .u32 0, .int .u32 0, .int .u32 0, .int .u32 0, .int .u32 0, .slice none 0 0] 53)) (w.heap.size + 2) 53 #[.int .i64 0, .int .i64 0, .slice none 0 0, .int .u32 0, .int .u32 0, .int .u32 0, .int .u32 0, .int .u32 0, .slice none 0 0]) := hide ((blk_new' _ _ (by simp)).alloc _)
  have HK3 : Hid (Blk ((((w.alloc (.cells #[.slice none 0 0, .slice none 0 0, .slice none 0 0, .slice (some ⟨r, 0, none⟩) 1 1] 42)).alloc (.cells #[.int .u32 0, .int .i64 0] 57)).alloc (.cells #[.int .i64 0, .int .i64 0, .slice none 0 0, .int .u32 0, .int .u32 0, .int .u32 0, .int .u32 0, .int .u32 0, .slice none 0 0] 53)).alloc (.cells #[.int .i64 0, .int .i64 0, .slice none 0 0, .int .u32 0, .int .u32 0, .int .u32 0, .int .u32 0, .int .u32 0, .slice none 0 0] 53)) (w.heap.size + 3) 53 #[.int .i64 0, .int .i64 0, .slice none 0 0, .int .u32 0, .int .u32 0, .int .u32 0, .int .u32 0, .int .u32 0, .slice none 0 0]) := hide (blk_new' _ _ (by simp))
  have HL := hide (h.below (HB.out))
  clear h
  go_enter Tryz.func58, Tryz.ntmps58
  have l3 := HK0.out.cell 3
  go_wp2_with fail
  refine (lvFindX HL.out).mono ?_
  rintro e w1 ⟨rfl, hb⟩
  clear l3
  have HM0 := hide (HK0.out.below hb HK0.out.lt)
  have HM1 := hide (HK1.out.below hb HK1.out.lt)
  have HM2 := hide (HK2.out.below hb HK2.out.lt)
  have HM3 := hide (HK3.out.below hb HK3.out.lt)
  have HB1 := hide (HB.out.trans (hb.mono HB.out.size))
  have HL1 := hide (HL.out.below hb)
  clear hb HK0 HK1 HK2 HK3 HB HL
  have g1 := HL1.out.rm.cell 1
  go_wp2
  go_loopw [29] (fun iv wr => iv = .int .i64 0 ∧ wr = w1) (fun _ _ => 0)
  case atStart => exact ⟨rfl, rfl⟩
  case round =>
    obtain ⟨rfl, rfl⟩ := hrel
    clear g1
    obtain ⟨wo, hwo⟩ : ∃ wo, wo = wr := ⟨_, rfl⟩
    subst hwo
    have c0 := HL1.out.cl.cell 0
    have c1 := HL1.out.cl.cell 1
    have c2 := HL1.out.cl.cell 2
    have c3 := HL1.out.cl.cell 3
    have c4 := HL1.out.cl.cell 4
    have c5 := HL1.out.cl.cell 5
    have c6 := HL1.out.cl.cell 6
    have c7 := HL1.out.cl.cell 7
    have c8 := HL1.out.cl.cell 8
    have c9 := HL1.out.cl.cell 9
    have c10 := HL1.out.cl.cell 10
    have c11 := HL1.out.cl.cell 11
    have c12 := HL1.out.cl.cell 12
    have c13 := HL1.out.cl.cell 13
    have HQ : Hid (Blk (wo.alloc (.cells #[.int .i64 1, .bool true, .string ⟨#[]⟩, .string ⟨#[]⟩, .string ⟨#[]⟩, .bool false, .int .u32 0, .int .i64 1, .int .u32 9, .int .u32 0, .int .i64 0, .slice none 0 0, .int .u32 0, .int .i64 0] 32)) wo.heap.size 32 #[.int .i64 1, .bool true, .string ⟨#[]⟩, .string ⟨#[]⟩, .string ⟨#[]⟩, .bool false, .int .u32 0, .int .i64 1, .int .u32 9, .int .u32 0, .int .i64 0, .slice none 0 0, .int .u32 0, .int .i64 0]) := hide (Blk.new wo _ _)
    have HN0 := hide (HM0.out.alloc (.cells #[.int .i64 1, .bool true, .string ⟨#[]⟩, .string ⟨#[]⟩, .string ⟨#[]⟩, .bool false, .int .u32 0, .int .i64 1, .int .u32 9, .int .u32 0, .int .i64 0, .slice none 0 0, .int .u32 0, .int .i64 0] 32))
    have HN1 := hide (HM1.out.alloc (.cells #[.int .i64 1, .bool true, .string ⟨#[]⟩, .string ⟨#[]⟩, .string ⟨#[]⟩, .bool false, .int .u32 0, .int .i64 1, .int .u32 9, .int .u32 0, .int .i64 0, .slice none 0 0, .int .u32 0, .int .i64 0] 32))
    have HN2 := hide (HM2.out.alloc (.cells #[.int .i64 1, .bool true, .string ⟨#[]⟩, .string ⟨#[]⟩, .string ⟨#[]⟩, .bool false, .int .u32 0, .int .i64 1, .int .u32 9, .int .u32 0, .int .i64 0, .slice none 0 0, .int .u32 0, .int .i64 0] 32))
    have HN3 := hide (HM3.out.alloc (.cells #[.int .i64 1, .bool true, .string ⟨#[]⟩, .string ⟨#[]⟩, .string ⟨#[]⟩, .bool false, .int .u32 0, .int .i64 1, .int .u32 9, .int .u32 0, .int .i64 0, .slice none 0 0, .int .u32 0, .int .i64 0] 32))
    have HB2 : Hid (Below w.heap.size w (wo.alloc (.cells #[.int .i64 1, .bool true, .string ⟨#[]⟩, .string ⟨#[]⟩, .string ⟨#[]⟩, .bool false, .int .u32 0, .int .i64 1, .int .u32 9, .int .u32 0, .int .i64 0, .slice none 0 0, .int .u32 0, .int .i64 0] 32))) := hide (HB1.out.alloc HB1.out.size _)
    have l0 := HN0.out.cell 0
    have l1 := HN0.out.cell 1
    have l2 := HN0.out.cell 2
    have l3 := HN0.out.cell 3
    have p0 := HN1.out.cell 0
    have p1 := HN1.out.cell 1
    have a0 := HN2.out.cell 0
    have a1 := HN2.out.cell 1
    have a2 := HN2.out.cell 2
    have a3 := HN2.out.cell 3
    have a4 := HN2.out.cell 4
    have a5 := HN2.out.cell 5
    have a6 := HN2.out.cell 6
    have a7 := HN2.out.cell 7
    have a8 := HN2.out.cell 8
    go_wp2_with fail
    refine (hitsX_any _ _ _ _).mono ?_
    rintro e w2 ⟨rfl, hb⟩
    clear c0 c1 c2 c3 c4 c5 c6 c7 c8 c9 c10 c11 c12 c13 l0 l1 l2 l3 p0 p1 a0 a1 a2 a3 a4 a5 a6 a7 a8
    have HQ2 := hide (HQ.out.below hb HQ.out.lt)
    have HP2 := hide (HN2.out.below hb HN2.out.lt)
    have HP3 := hide (HN3.out.below hb HN3.out.lt)
    have HB3 := hide (HB2.out.trans (hb.mono HB2.out.size))
    clear hb HQ HN0 HN1 HN2 HN3 HB2 HM0 HM1 HM2 HM3 HB1
    have c0 := HQ2.out.cell 0
    have c1 := HQ2.out.cell 1
    have c2 := HQ2.out.cell 2
    have c3 := HQ2.out.cell 3
    have c4 := HQ2.out.cell 4
    have c5 := HQ2.out.cell 5
    have c6 := HQ2.out.cell 6
    have c7 := HQ2.out.cell 7
    have c8 := HQ2.out.cell 8
    have c9 := HQ2.out.cell 9
    have c10 := HQ2.out.cell 10
    have c11 := HQ2.out.cell 11
    have c12 := HQ2.out.cell 12
    have c13 := HQ2.out.cell 13
    have a0 := HP2.out.cell 0
    have a1 := HP2.out.cell 1
    have a2 := HP2.out.cell 2
    have a3 := HP2.out.cell 3
    have a4 := HP2.out.cell 4
    have a5 := HP2.out.cell 5
    have a6 := HP2.out.cell 6
    have a7 := HP2.out.cell 7
    have a8 := HP2.out.cell 8
    go_wp2_with fail
    refine (setX_any _).mono ?_
    rintro e w3 ⟨rfl, hb⟩
    clear c0 c1 c2 c3 c4 c5 c6 c7 c8 c9 c10 c11 c12 c13 a0 a1 a2 a3 a4 a5 a6 a7 a8
    have HR1 := hide (HP3.out.below hb HP3.out.lt)
    have HB4 := hide (HB3.out.trans (hb.mono HB3.out.size))
    have r0 := HR1.out.cell 0
    have rf0 := HR1.out.frozen 0
    have r1 := HR1.out.cell 1
    have rf1 := HR1.out.frozen 1
    have r2 := HR1.out.cell 2
    have rf2 := HR1.out.frozen 2
    have r3 := HR1.out.cell 3
    have rf3 := HR1.out.frozen 3
    have r4 := HR1.out.cell 4
    have rf4 := HR1.out.frozen 4
    have r5 := HR1.out.cell 5
    have rf5 := HR1.out.frozen 5
    have r6 := HR1.out.cell 6
    have rf6 := HR1.out.frozen 6
    have r7 := HR1.out.cell 7
    have rf7 := HR1.out.frozen 7
    have r8 := HR1.out.cell 8
    have rf8 := HR1.out.frozen 8
    have HF := hide (((((((((HR1.out.set_ 0 (.int .i64 32)).set_ 1 (.int .i64 0)).set_ 2 (.slice none 0 0)).set_ 3 (.int .u32 0)).set_ 4 (.int .u32 0)).set_ 5 (.int .u32 9)).set_ 6 (.int .u32 0)).set_ 7 (.int .u32 0)).set_ 8 (.slice none 0 0))
    have HBF := hide (((((((((HB4.out.setCell (p := ⟨w.heap.size + 3, 0, none⟩) (by show w.heap.size ≤ w.heap.size + 3; omega) (.int .i64 32)).setCell (p := ⟨w.heap.size + 3, 1, none⟩) (by show w.heap.size ≤ w.heap.size + 3; omega) (.int .i64 0)).setCell (p := ⟨w.heap.size + 3, 2, none⟩) (by show w.heap.size ≤ w.heap.size + 3; omega) (.slice none 0 0)).setCell (p := ⟨w.heap.size + 3, 3, none⟩) (by show w.heap.size ≤ w.heap.size + 3; omega) (.int .u32 0)).setCell (p := ⟨w.heap.size + 3, 4, none⟩) (by show w.heap.size ≤ w.heap.size + 3; omega) (.int .u32 0)).setCell (p := ⟨w.heap.size + 3, 5, none⟩) (by show w.heap.size ≤ w.heap.size + 3; omega) (.int .u32 9)).setCell (p := ⟨w.heap.size + 3, 6, none⟩) (by show w.heap.size ≤ w.heap.size + 3; omega) (.int .u32 0)).setCell (p := ⟨w.heap.size + 3, 7, none⟩) (by show w.heap.size ≤ w.heap.size + 3; omega) (.int .u32 0)).setCell (p := ⟨w.heap.size + 3, 8, none⟩) (by show w.heap.size ≤ w.heap.size + 3; omega) (.slice none 0 0))
    go_wp2
    have u0 := HF.out.cell 0
    have u1 := HF.out.cell 1
    have u2 := HF.out.cell 2
    have u3 := HF.out.cell 3
    have u4 := HF.out.cell 4
    have u5 := HF.out.cell 5
    have u6 := HF.out.cell 6
    have u7 := HF.out.cell 7
    have u8 := HF.out.cell 8
    refine bodyPost_ret (v := .tuple #[.agg #[.int .i64 32, .int .i64 0, .slice none 0 0, .int .u32 0, .int .u32 0, .int .u32 9, .int .u32 0, .int .u32 0, .slice none 0 0], .bool true]) (by simp [results, Tryz.results58, go_sem, u0, u1, u2, u3, u4, u5, u6, u7, u8]) rfl ⟨rfl, HBF.out⟩
set_option maxRecDepth 100000 in
set_option maxHeartbeats 4000000 in
theorem EvalX_any (w : World) (c r : Nat) (h : LvAt w c r) : Calls Tryz.prog 22 #[.agg #[.slice none 0 0, .slice none 0 0, .slice none 0 0, .slice (some ⟨r, 0, none⟩) 1 1], .string ⟨#[120]⟩, .agg #[.int .u32 0, .int .i64 0], .agg #[.int .i64 0, .int .i64 0, .slice none 0 0, .int .u32 0, .int .u32 0, .int .u32 0, .int .u32 0, .int .u32 0, .slice none 0 0]] w fun e w' => e = .returned (.tuple #[.agg #[.int .i64 32, .int .i64 0, .slice none 0 0, .int .u32 0, .int .u32 0, .int .u32 9, .int .u32 0, .int .u32 0, .slice none 0 0], .bool true]) ∧ Below w.heap.size w w' := by
  have HB : Hid (Below w.heap.size w ((((w.alloc (.cells #[.slice none 0 0, .slice none 0 0, .slice none 0 0, .slice (some ⟨r, 0, none⟩) 1 1] 42)).alloc (.cells #[.int .u32 0, .int .i64 0] 57)).alloc (.cells #[.int .i64 0, .int .i64 0, .slice none 0 0, .int .u32 0, .int .u32 0, .int .u32 0, .int .u32 0, .int .u32 0, .slice none 0 0] 53)).alloc (.cells #[.int .i64 0, .int .i64 0, .slice none 0 0, .int .u32 0, .int .u32 0, .int .u32 0, .int .u32 0, .int .u32 0, .slice none 0 0] 53))) := hide (((((Below.refl w.heap.size w).alloc (by simp <;> omega) _).alloc (by simp <;> omega) _).alloc (by simp <;> omega) _).alloc (by simp <;> omega) _)
  have HK0 : Hid (Blk ((((w.alloc (.cells #[.slice none 0 0, .slice none 0 0, .slice none 0 0, .slice (some ⟨r, 0, none⟩) 1 1] 42)).alloc (.cells #[.int .u32 0, .int .i64 0] 57)).alloc (.cells #[.int .i64 0, .int .i64 0, .slice none 0 0, .int .u32 0, .int .u32 0, .int .u32 0, .int .u32 0, .int .u32 0, .slice none 0 0] 53)).alloc (.cells #[.int .i64 0, .int .i64 0, .slice none 0 0, .int .u32 0, .int .u32 0, .int .u32 0, .int .u32 0, .int .u32 0, .slice none 0 0] 53)) w.heap.size 42 #[.slice none 0 0, .slice none 0 0, .slice none 0 0, .slice (some ⟨r, 0, none⟩) 1 1]) := hide ((((Blk.new w _ _).alloc _).alloc _).alloc _)
  have HK1 : Hid (Blk ((((w.alloc (.cells #[.slice none 0 0, .slice none 0 0, .slice none 0 0, .slice (some ⟨r, 0, none⟩) 1 1] 42)).alloc (.cells #[.int .u32 0, .int .i64 0] 57)).alloc (.cells #[.int .i64 0, .int .i64 0, .slice none 0 0, .int .u32 0, .int .u32 0, .int .u32 0, .int .u32 0, .int .u32 0, .slice none 0 0] 53)).alloc (.cells #[.int .i64 0, .int .i64 0, .slice none 0 0, .int .u32 0, .int .u32 0, .int .u32 0, .int .u32 0, .int .u32 0, .slice none 0 0] 53)) (w.heap.size + 1) 57 #[.int .u32 0, .int .i64 0]) := hide (((blk_new' _ _ (by simp)).alloc _).alloc _)
  have HK2 : Hid (Blk ((((w.alloc (.cells #[.slice none 0 0, .slice none 0 0, .slice none 0 0, .slice (some ⟨r, 0, none⟩) 1 1] 42)).alloc (.cells #[.int .u32 0, .int .i64 0] 57)).alloc (.cells #[.int .i64 0, .int .i64 0, .slice none 0 0, .int .u32 0, .int .u32 0, .int .u32 0, .int .u32 0, .int .u32 0, .slice none 0 0] 53)).alloc (.cells #[.int .i64 0, .int .i64 0, .slice none 0 0, .int .u32 0, .int .u32 0, .int .u32 0, .int .u32 0, .int .u32 0, .slice none 0 0] 53)) (w.heap.size + 2) 53 #[.int .i64 0, .int .i64 0, .slice none 0 0, .int .u32 0, .int .u32 0, .int .u32 0, .int .u32 0, .int .u32 0, .slice none 0 0]) := hide ((blk_new' _ _ (by simp)).alloc _)
  have HK3 : Hid (Blk ((((w.alloc (.cells #[.slice none 0 0, .slice none 0 0, .slice none 0 0, .slice (some ⟨r, 0, none⟩) 1 1] 42)).alloc (.cells #[.int .u32 0, .int .i64 0] 57)).alloc (.cells #[.int .i64 0, .int .i64 0, .slice none 0 0, .int .u32 0, .int .u32 0, .int .u32 0, .int .u32 0, .int .u32 0, .slice none 0 0] 53)).alloc (.cells #[.int .i64 0, .int .i64 0, .slice none 0 0, .int .u32 0, .int .u32 0, .int .u32 0, .int .u32 0, .int .u32 0, .slice none 0 0] 53)) (w.heap.size + 3) 53 #[.int .i64 0, .int .i64 0, .slice none 0 0, .int .u32 0, .int .u32 0, .int .u32 0, .int .u32 0, .int .u32 0, .slice none 0 0]) := hide (blk_new' _ _ (by simp))
  have HL := hide (h.below (HB.out))
  clear h
  have l0 := HK0.out.cell 0
  have l1 := HK0.out.cell 1
  have l2 := HK0.out.cell 2
  have l3 := HK0.out.cell 3
  have p0 := HK1.out.cell 0
  have p1 := HK1.out.cell 1
  have a0 := HK2.out.cell 0
  have a1 := HK2.out.cell 1
  have a2 := HK2.out.cell 2
  have a3 := HK2.out.cell 3
  have a4 := HK2.out.cell 4
  have a5 := HK2.out.cell 5
  have a6 := HK2.out.cell 6
  have a7 := HK2.out.cell 7
  have a8 := HK2.out.cell 8
  go_enter Tryz.func22, Tryz.ntmps22
  go_wp2_with fail
  refine (evalX_any _ _ _ HL.out).mono ?_
  rintro e w1 ⟨rfl, hb⟩
  clear l0 l1 l2 l3 p0 p1 a0 a1 a2 a3 a4 a5 a6 a7 a8
  have HR1 := hide (HK3.out.below hb HK3.out.lt)
  have HB1 := hide (HB.out.trans (hb.mono HB.out.size))
  have r0 := HR1.out.cell 0
  have rf0 := HR1.out.frozen 0
  have r1 := HR1.out.cell 1
  have rf1 := HR1.out.frozen 1
  have r2 := HR1.out.cell 2
  have rf2 := HR1.out.frozen 2
  have r3 := HR1.out.cell 3
  have rf3 := HR1.out.frozen 3
  have r4 := HR1.out.cell 4
  have rf4 := HR1.out.frozen 4
  have r5 := HR1.out.cell 5
  have rf5 := HR1.out.frozen 5
  have r6 := HR1.out.cell 6
  have rf6 := HR1.out.frozen 6
  have r7 := HR1.out.cell 7
  have rf7 := HR1.out.frozen 7
  have r8 := HR1.out.cell 8
  have rf8 := HR1.out.frozen 8
  have HF := hide (((((((((HR1.out.set_ 0 (.int .i64 32)).set_ 1 (.int .i64 0)).set_ 2 (.slice none 0 0)).set_ 3 (.int .u32 0)).set_ 4 (.int .u32 0)).set_ 5 (.int .u32 9)).set_ 6 (.int .u32 0)).set_ 7 (.int .u32 0)).set_ 8 (.slice none 0 0))
  have HBF := hide (((((((((HB1.out.setCell (p := ⟨w.heap.size + 3, 0, none⟩) (by show w.heap.size ≤ w.heap.size + 3; omega) (.int .i64 32)).setCell (p := ⟨w.heap.size + 3, 1, none⟩) (by show w.heap.size ≤ w.heap.size + 3; omega) (.int .i64 0)).setCell (p := ⟨w.heap.size + 3, 2, none⟩) (by show w.heap.size ≤ w.heap.size + 3; omega) (.slice none 0 0)).setCell (p := ⟨w.heap.size + 3, 3, none⟩) (by show w.heap.size ≤ w.heap.size + 3; omega) (.int .u32 0)).setCell (p := ⟨w.heap.size + 3, 4, none⟩) (by show w.heap.size ≤ w.heap.size + 3; omega) (.int .u32 0)).setCell (p := ⟨w.heap.size + 3, 5, none⟩) (by show w.heap.size ≤ w.heap.size + 3; omega) (.int .u32 9)).setCell (p := ⟨w.heap.size + 3, 6, none⟩) (by show w.heap.size ≤ w.heap.size + 3; omega) (.int .u32 0)).setCell (p := ⟨w.heap.size + 3, 7, none⟩) (by show w.heap.size ≤ w.heap.size + 3; omega) (.int .u32 0)).setCell (p := ⟨w.heap.size + 3, 8, none⟩) (by show w.heap.size ≤ w.heap.size + 3; omega) (.slice none 0 0))
  go_wp2
  have u0 := HF.out.cell 0
  have u1 := HF.out.cell 1
  have u2 := HF.out.cell 2
  have u3 := HF.out.cell 3
  have u4 := HF.out.cell 4
  have u5 := HF.out.cell 5
  have u6 := HF.out.cell 6
  have u7 := HF.out.cell 7
  have u8 := HF.out.cell 8
  refine bodyPost_ret (v := .tuple #[.agg #[.int .i64 32, .int .i64 0, .slice none 0 0, .int .u32 0, .int .u32 0, .int .u32 9, .int .u32 0, .int .u32 0, .slice none 0 0], .bool true]) (by simp [results, Tryz.results22, go_sem, u0, u1, u2, u3, u4, u5, u6, u7, u8]) rfl ⟨rfl, HBF.out⟩
set_option maxRecDepth 100000 in
set_option maxHeartbeats 4000000 in
theorem PermitsE_any (w : World) (c r : Nat) (h : LvAt w c r) : Calls Tryz.prog 23 #[.agg #[.slice none 0 0, .slice none 0 0, .slice none 0 0, .slice (some ⟨r, 0, none⟩) 1 1], .string ⟨#[]⟩, .agg #[.int .u32 0, .int .i64 0], .agg #[.int .i64 0, .int .i64 0, .slice none 0 0, .int .u32 0, .int .u32 0, .int .u32 0, .int .u32 0, .int .u32 0, .slice none 0 0]] w (GoodP true w) := by
  have HB : Hid (Below w.heap.size w (((w.alloc (.cells #[.slice none 0 0, .slice none 0 0, .slice none 0 0, .slice (some ⟨r, 0, none⟩) 1 1] 42)).alloc (.cells #[.int .u32 0, .int .i64 0] 57)).alloc (.cells #[.int .i64 0, .int .i64 0, .slice none 0 0, .int .u32 0, .int .u32 0, .int .u32 0, .int .u32 0, .int .u32 0, .slice none 0 0] 53))) := hide ((((Below.refl w.heap.size w).alloc (by simp <;> omega) _).alloc (by simp <;> omega) _).alloc (by simp <;> omega) _)
  have HK0 : Hid (Blk (((w.alloc (.cells #[.slice none 0 0, .slice none 0 0, .slice none 0 0, .slice (some ⟨r, 0, none⟩) 1 1] 42)).alloc (.cells #[.int .u32 0, .int .i64 0] 57)).alloc (.cells #[.int .i64 0, .int .i64 0, .slice none 0 0, .int .u32 0, .int .u32 0, .int .u32 0, .int .u32 0, .int .u32 0, .slice none 0 0] 53)) w.heap.size 42 #[.slice none 0 0, .slice none 0 0, .slice none 0 0, .slice (some ⟨r, 0, none⟩) 1 1]) := hide (((Blk.new w _ _).alloc _).alloc _)
  have HK1 : Hid (Blk (((w.alloc (.cells #[.slice none 0 0, .slice none 0 0, .slice none 0 0, .slice (some ⟨r, 0, none⟩) 1 1] 42)).alloc (.cells #[.int .u32 0, .int .i64 0] 57)).alloc (.cells #[.int .i64 0, .int .i64 0, .slice none 0 0, .int .u32 0, .int .u32 0, .int .u32 0, .int .u32 0, .int .u32 0, .slice none 0 0] 53)) (w.heap.size + 1) 57 #[.int .u32 0, .int .i64 0]) := hide ((blk_new' _ _ (by simp)).alloc _)
  have HK2 : Hid (Blk (((w.alloc (.cells #[.slice none 0 0, .slice none 0 0, .slice none 0 0, .slice (some ⟨r, 0, none⟩) 1 1] 42)).alloc (.cells #[.int .u32 0, .int .i64 0] 57)).alloc (.cells #[.int .i64 0, .int .i64 0, .slice none 0 0, .int .u32 0, .int .u32 0, .int .u32 0, .int .u32 0, .int .u32 0, .slice none 0 0] 53)) (w.heap.size + 2) 53 #[.int .i64 0, .int .i64 0, .slice none 0 0, .int .u32 0, .int .u32 0, .int .u32 0, .int .u32 0, .int .u32 0, .slice none 0 0]) := hide (blk_new' _ _ (by simp))
  have HL := hide (h.below (HB.out))
  clear h
  have l0 := HK0.out.cell 0
  have l1 := HK0.out.cell 1
  have l2 := HK0.out.cell 2
  have l3 := HK0.out.cell 3
  have p0 := HK1.out.cell 0
  have p1 := HK1.out.cell 1
  have a0 := HK2.out.cell 0
  have a1 := HK2.out.cell 1
  have a2 := HK2.out.cell 2
  have a3 := HK2.out.cell 3
  have a4 := HK2.out.cell 4
  have a5 := HK2.out.cell 5
  have a6 := HK2.out.cell 6
  have a7 := HK2.out.cell 7
  have a8 := HK2.out.cell 8
  go_enter Tryz.func23, Tryz.ntmps23
  go_wp2_with fail
  refine (evalE_any _ _ _ HL.out).mono ?_
  rintro e w1 ⟨rfl, hb⟩
  clear l0 l1 l2 l3 p0 p1 a0 a1 a2 a3 a4 a5 a6 a7 a8
  have HB1 := hide ((HB.out.trans (hb.mono HB.out.size)).alloc (Nat.le_trans HB.out.size hb.size) (.cells #[.int .i64 0, .int .i64 0, .slice none 0 0, .int .u32 0, .int .u32 0, .int .u32 0, .int .u32 0, .int .u32 0, .slice none 0 0] 53))
  go_wp2
  go_ret
  exact ⟨rfl, HB1.out⟩
set_option maxRecDepth 100000 in
set_option maxHeartbeats 4000000 in
theorem PermitsY_any (w : World) (c r : Nat) (h : LvAt w c r) : Calls Tryz.prog 23 #[.agg #[.slice none 0 0, .slice none 0 0, .slice none 0 0, .slice (some ⟨r, 0, none⟩) 1 1], .string ⟨#[121]⟩, .agg #[.int .u32 0, .int .i64 0], .agg #[.int .i64 0, .int .i64 0, .slice none 0 0, .int .u32 0, .int .u32 0, .int .u32 0, .int .u32 0, .int .u32 0, .slice none 0 0]] w (GoodP false w) := by
  have HB : Hid (Below w.heap.size w (((w.alloc (.cells #[.slice none 0 0, .slice none 0 0, .slice none 0 0, .slice (some ⟨r, 0, none⟩) 1 1] 42)).alloc (.cells #[.int .u32 0, .int .i64 0] 57)).alloc (.cells #[.int .i64 0, .int .i64 0, .slice none 0 0, .int .u32 0, .int .u32 0, .int .u32 0, .int .u32 0, .int .u32 0, .slice none 0 0] 53))) := hide ((((Below.refl w.heap.size w).alloc (by simp <;> omega) _).alloc (by simp <;> omega) _).alloc (by simp <;> omega) _)
  have HK0 : Hid (Blk (((w.alloc (.cells #[.slice none 0 0, .slice none 0 0, .slice none 0 0, .slice (some ⟨r, 0, none⟩) 1 1] 42)).alloc (.cells #[.int .u32 0, .int .i64 0] 57)).alloc (.cells #[.int .i64 0, .int .i64 0, .slice none 0 0, .int .u32 0, .int .u32 0, .int .u32 0, .int .u32 0, .int .u32 0, .slice none 0 0] 53)) w.heap.size 42 #[.slice none 0 0, .slice none 0 0, .slice none 0 0, .slice (some ⟨r, 0, none⟩) 1 1]) := hide (((Blk.new w _ _).alloc _).alloc _)
  have HK1 : Hid (Blk (((w.alloc (.cells #[.slice none 0 0, .slice none 0 0, .slice none 0 0, .slice (some ⟨r, 0, none⟩) 1 1] 42)).alloc (.cells #[.int .u32 0, .int .i64 0] 57)).alloc (.cells #[.int .i64 0, .int .i64 0, .slice none 0 0, .int .u32 0, .int .u32 0, .int .u32 0, .int .u32 0, .int .u32 0, .slice none 0 0] 53)) (w.heap.size + 1) 57 #[.int .u32 0, .int .i64 0]) := hide ((blk_new' _ _ (by simp)).alloc _)
  have HK2 : Hid (Blk (((w.alloc (.cells #[.slice none 0 0, .slice none 0 0, .slice none 0 0, .slice (some ⟨r, 0, none⟩) 1 1] 42)).alloc (.cells #[.int .u32 0, .int .i64 0] 57)).alloc (.cells #[.int .i64 0, .int .i64 0, .slice none 0 0, .int .u32 0, .int .u32 0, .int .u32 0, .int .u32 0, .int .u32 0, .slice none 0 0] 53)) (w.heap.size + 2) 53 #[.int .i64 0, .int .i64 0, .slice none 0 0, .int .u32 0, .int .u32 0, .int .u32 0, .int .u32 0, .int .u32 0, .slice none 0 0]) := hide (blk_new' _ _ (by simp))
  have HL := hide (h.below (HB.out))
  clear h
  have l0 := HK0.out.cell 0
  have l1 := HK0.out.cell 1
  have l2 := HK0.out.cell 2
  have l3 := HK0.out.cell 3
  have p0 := HK1.out.cell 0
  have p1 := HK1.out.cell 1
  have a0 := HK2.out.cell 0
  have a1 := HK2.out.cell 1
  have a2 := HK2.out.cell 2
  have a3 := HK2.out.cell 3
  have a4 := HK2.out.cell 4
  have a5 := HK2.out.cell 5
  have a6 := HK2.out.cell 6
  have a7 := HK2.out.cell 7
  have a8 := HK2.out.cell 8
  go_enter Tryz.func23, Tryz.ntmps23
  go_wp2_with fail
  refine (evalY_any _ _ _ HL.out).mono ?_
  rintro e w1 ⟨rfl, hb⟩
  clear l0 l1 l2 l3 p0 p1 a0 a1 a2 a3 a4 a5 a6 a7 a8
  have HB1 := hide ((HB.out.trans (hb.mono HB.out.size)).alloc (Nat.le_trans HB.out.size hb.size) (.cells #[.int .i64 0, .int .i64 0, .slice none 0 0, .int .u32 0, .int .u32 0, .int .u32 0, .int .u32 0, .int .u32 0, .slice none 0 0] 53))
  go_wp2
  go_ret
  exact ⟨rfl, HB1.out⟩
set_option maxRecDepth 100000 in
set_option maxHeartbeats 4000000 in
theorem lives20_any (w : World) : Calls Tryz.prog 9 #[] w (GoodP true w) := by
  have HB : Hid (Below w.heap.size w (((w.alloc (.cells #[.int .i64 1, .bool true, .string ⟨#[]⟩, .string ⟨#[]⟩, .string ⟨#[]⟩, .bool false, .int .u32 0, .int .i64 1, .int .u32 9, .int .u32 0, .int .i64 0, .slice none 0 0, .int .u32 0, .int .i64 0] 32)).alloc (.cells #[.string ⟨#[120]⟩, .slice (some ⟨w.heap.size, 0, none⟩) 1 1] 24)).alloc (.cells #[.slice none 0 0, .slice none 0 0, .slice none 0 0, .slice (some ⟨w.heap.size + 1, 0, none⟩) 1 1] 42))) := hide ((((Below.refl w.heap.size w).alloc (by simp <;> omega) _).alloc (by simp <;> omega) _).alloc (by simp <;> omega) _)
  have HK0 : Hid (Blk (((w.alloc (.cells #[.int .i64 1, .bool true, .string ⟨#[]⟩, .string ⟨#[]⟩, .string ⟨#[]⟩, .bool false, .int .u32 0, .int .i64 1, .int .u32 9, .int .u32 0, .int .i64 0, .slice none 0 0, .int .u32 0, .int .i64 0] 32)).alloc (.cells #[.string ⟨#[120]⟩, .slice (some ⟨w.heap.size, 0, none⟩) 1 1] 24)).alloc (.cells #[.slice none 0 0, .slice none 0 0, .slice none 0 0, .slice (some ⟨w.heap.size + 1, 0, none⟩) 1 1] 42)) w.heap.size 32 #[.int .i64 1, .bool true, .string ⟨#[]⟩, .string ⟨#[]⟩, .string ⟨#[]⟩, .bool false, .int .u32 0, .int .i64 1, .int .u32 9, .int .u32 0, .int .i64 0, .slice none 0 0, .int .u32 0, .int .i64 0]) := hide (((Blk.new w _ _).alloc _).alloc _)
  have HK1 : Hid (Blk (((w.alloc (.cells #[.int .i64 1, .bool true, .string ⟨#[]⟩, .string ⟨#[]⟩, .string ⟨#[]⟩, .bool false, .int .u32 0, .int .i64 1, .int .u32 9, .int .u32 0, .int .i64 0, .slice none 0 0, .int .u32 0, .int .i64 0] 32)).alloc (.cells #[.string ⟨#[120]⟩, .slice (some ⟨w.heap.size, 0, none⟩) 1 1] 24)).alloc (.cells #[.slice none 0 0, .slice none 0 0, .slice none 0 0, .slice (some ⟨w.heap.size + 1, 0, none⟩) 1 1] 42)) (w.heap.size + 1) 24 #[.string ⟨#[120]⟩, .slice (some ⟨w.heap.size, 0, none⟩) 1 1]) := hide ((blk_new' _ _ (by simp)).alloc _)
  have HK2 : Hid (Blk (((w.alloc (.cells #[.int .i64 1, .bool true, .string ⟨#[]⟩, .string ⟨#[]⟩, .string ⟨#[]⟩, .bool false, .int .u32 0, .int .i64 1, .int .u32 9, .int .u32 0, .int .i64 0, .slice none 0 0, .int .u32 0, .int .i64 0] 32)).alloc (.cells #[.string ⟨#[120]⟩, .slice (some ⟨w.heap.size, 0, none⟩) 1 1] 24)).alloc (.cells #[.slice none 0 0, .slice none 0 0, .slice none 0 0, .slice (some ⟨w.heap.size + 1, 0, none⟩) 1 1] 42)) (w.heap.size + 2) 42 #[.slice none 0 0, .slice none 0 0, .slice none 0 0, .slice (some ⟨w.heap.size + 1, 0, none⟩) 1 1]) := hide (blk_new' _ _ (by simp))
  have HL : Hid (LvAt (((w.alloc (.cells #[.int .i64 1, .bool true, .string ⟨#[]⟩, .string ⟨#[]⟩, .string ⟨#[]⟩, .bool false, .int .u32 0, .int .i64 1, .int .u32 9, .int .u32 0, .int .i64 0, .slice none 0 0, .int .u32 0, .int .i64 0] 32)).alloc (.cells #[.string ⟨#[120]⟩, .slice (some ⟨w.heap.size, 0, none⟩) 1 1] 24)).alloc (.cells #[.slice none 0 0, .slice none 0 0, .slice none 0 0, .slice (some ⟨w.heap.size + 1, 0, none⟩) 1 1] 42)) w.heap.size (w.heap.size + 1)) := hide ⟨HK0.out, HK1.out⟩
  have l0 := HK2.out.cell 0
  have l1 := HK2.out.cell 1
  have l2 := HK2.out.cell 2
  have l3 := HK2.out.cell 3
  go_enter Tryz.func9, Tryz.ntmps9
  go_wp2_with fail
  refine (EvalX_any _ _ _ HL.out).mono ?_
  rintro e w1 ⟨rfl, hb⟩
  clear l0 l1 l2 l3
  have hal : Below (((w.alloc (.cells #[.int .i64 1, .bool true, .string ⟨#[]⟩, .string ⟨#[]⟩, .string ⟨#[]⟩, .bool false, .int .u32 0, .int .i64 1, .int .u32 9, .int .u32 0, .int .i64 0, .slice none 0 0, .int .u32 0, .int .i64 0] 32)).alloc (.cells #[.string ⟨#[120]⟩, .slice (some ⟨w.heap.size, 0, none⟩) 1 1] 24)).alloc (.cells #[.slice none 0 0, .slice none 0 0, .slice none 0 0, .slice (some ⟨w.heap.size + 1, 0, none⟩) 1 1] 42)).heap.size (((w.alloc (.cells #[.int .i64 1, .bool true, .string ⟨#[]⟩, .string ⟨#[]⟩, .string ⟨#[]⟩, .bool false, .int .u32 0, .int .i64 1, .int .u32 9, .int .u32 0, .int .i64 0, .slice none 0 0, .int .u32 0, .int .i64 0] 32)).alloc (.cells #[.string ⟨#[120]⟩, .slice (some ⟨w.heap.size, 0, none⟩) 1 1] 24)).alloc (.cells #[.slice none 0 0, .slice none 0 0, .slice none 0 0, .slice (some ⟨w.heap.size + 1, 0, none⟩) 1 1] 42)) (w1.alloc (.cells #[.int .i64 32, .int .i64 0, .slice none 0 0, .int .u32 0, .int .u32 0, .int .u32 9, .int .u32 0, .int .u32 0, .slice none 0 0] 53)) := hb.alloc hb.size _
  have HL1 := hide (HL.out.below hal)
  have HM := hide (HK2.out.below hal HK2.out.lt)
  have HB1 := hide (HB.out.trans (hal.mono HB.out.size))
  have HX : Hid (Blk (w1.alloc (.cells #[.int .i64 32, .int .i64 0, .slice none 0 0, .int .u32 0, .int .u32 0, .int .u32 9, .int .u32 0, .int .u32 0, .slice none 0 0] 53)) w1.heap.size 53 #[.int .i64 32, .int .i64 0, .slice none 0 0, .int .u32 0, .int .u32 0, .int .u32 9, .int .u32 0, .int .u32 0, .slice none 0 0]) := hide (Blk.new w1 _ _)
  clear hal hb HL HK0 HK1 HK2 HB
  have l0 := HM.out.cell 0
  have l1 := HM.out.cell 1
  have l2 := HM.out.cell 2
  have l3 := HM.out.cell 3
  have x5 := HX.out.cell 5
  go_wp2_with fail
  refine (PermitsE_any _ _ _ HL1.out).mono ?_
  rintro e w2 ⟨rfl, hb⟩
  clear l0 l1 l2 l3 x5
  have HL2 := hide (HL1.out.below hb)
  have HM2 := hide (HM.out.below hb HM.out.lt)
  have HB2 := hide (HB1.out.trans (hb.mono HB1.out.size))
  clear hb HL1 HM HB1 HX
  have l0 := HM2.out.cell 0
  have l1 := HM2.out.cell 1
  have l2 := HM2.out.cell 2
  have l3 := HM2.out.cell 3
  go_wp2_with fail
  refine (PermitsY_any _ _ _ HL2.out).mono ?_
  rintro e w3 ⟨rfl, hb⟩
  clear l0 l1 l2 l3
  have HB3 := hide (HB2.out.trans (hb.mono HB2.out.size))
  clear hb HL2 HM2 HB2
  go_wp2
  go_ret
  exact ⟨rfl, HB3.out⟩
end Go.Proofs.YtgofaoommpnhpaaGreat
set_option linter.unusedSimpArgs false
set_option linter.unusedVariables false
namespace Go.Proofs.YtgofaoommpnhpaaGreat
open Go.RowKit Go.WideShapes Go.ChangeShapes
attribute [local go_sem] Oper.semAt_some
theorem call_byPrefix (args : Array Value) (W : World) : (callFunc 19 args).run Tryz.prog W = .ok (.enter 19 args) W := by
  simp [callFunc, go_sem, Tryz.func19]
  rfl
theorem call_byPath (args : Array Value) (W : World) : (callFunc 20 args).run Tryz.prog W = .ok (.enter 20 args) W := by
  simp [callFunc, go_sem, Tryz.func20]
  rfl
theorem call_byComm (args : Array Value) (W : World) : (callFunc 21 args).run Tryz.prog W = .ok (.enter 21 args) W := by
  simp [callFunc, go_sem, Tryz.func21]
  rfl
set_option maxRecDepth 100000 in
set_option maxHeartbeats 4000000 in
theorem rmapUses_any (s : ByteArray) (A : Option Addr) (n c : Nat) (ts : List CU) (w : World) (h : LstAt 14 cuR w A n c ts) (hn : n ≤ 1000000) :
    Calls Tryz.prog 6 #[.agg #[.string s, .slice A n c]] w fun e w' => ∃ v1 v2 v3, e = .returned (.tuple #[v1, v2, v3]) ∧ w'.ownsRow w.heap.size 9 1 v1 (namB (ts.map CU.pn)).length (strB (namB (ts.map CU.pn)))
      ∧ w'.ownsRow w.heap.size 9 1 v2 (namB (ts.map CU.an)).length (strB (namB (ts.map CU.an))) ∧ w'.ownsRow w.heap.size 9 1 v3 (namB (ts.map CU.cn)).length (strB (namB (ts.map CU.cn))) ∧ Below w.heap.size w w' := by
  have HX := hide (Blk.new w 24 #[.string s, .slice A n c])
  have hal : Below w.heap.size w (w.alloc (.cells #[.string s, .slice A n c] 24)) := (Below.refl _ w).alloc (Nat.le_refl _) _
  have HU := hide (fun (W : World) (hb : Below (w.alloc (.cells #[.string s, .slice A n c] 24)).heap.size (w.alloc (.cells #[.string s, .slice A n c] 24)) W) (pf : CU → ByteArray) (F : FuncId) hF hpf HF => uses_any F pf s A n c ts W ((h.below cuMono hal).below cuMono hb) hn hF hpf HF)
  have HB := hide hal
  clear h hal
  go_enter Tryz.func6, Tryz.ntmps6
  go_wp2
  refine wp_region_rel [(fun v _ => v = .agg #[.string s, .slice A n c]), (fun v W => ∃ y, v = y ∧ W.ownsRow w.heap.size 9 1 y (namB (ts.map CU.pn)).length (strB (namB (ts.map CU.pn)))), (fun v _ => v = .agg #[.string s, .slice A n c]), (fun v W => ∃ y, v = y ∧ W.ownsRow w.heap.size 9 1 y (namB (ts.map CU.an)).length (strB (namB (ts.map CU.an)))), (fun v _ => v = .agg #[.string s, .slice A n c]), (fun v W => ∃ y, v = y ∧ W.ownsRow w.heap.size 9 1 y (namB (ts.map CU.cn)).length (strB (namB (ts.map CU.cn)))), (fun v W => ∃ y, v = y ∧ W.ownsRow w.heap.size 9 1 y (namB (ts.map CU.pn)).length (strB (namB (ts.map CU.pn)))), (fun v W => ∃ y, v = y ∧ W.ownsRow w.heap.size 9 1 y (namB (ts.map CU.an)).length (strB (namB (ts.map CU.an)))), (fun v W => ∃ y, v = y ∧ W.ownsRow w.heap.size 9 1 y (namB (ts.map CU.cn)).length (strB (namB (ts.map CU.cn))))] (by kernel_rfl) (by kernel_rfl) (relMono _ ⟨fun _ _ _ _ h => h, fun v W W2 hb ⟨y, e, h⟩ => ⟨y, e, own_below h hb⟩, fun _ _ _ _ h => h, fun v W W2 hb ⟨y, e, h⟩ => ⟨y, e, own_below h hb⟩, fun _ _ _ _ h => h, fun v W W2 hb ⟨y, e, h⟩ => ⟨y, e, own_below h hb⟩, fun v W W2 hb ⟨y, e, h⟩ => ⟨y, e, own_below h hb⟩, fun v W W2 hb ⟨y, e, h⟩ => ⟨y, e, own_below h hb⟩, fun v W W2 hb ⟨y, e, h⟩ => ⟨y, e, own_below h hb⟩, trivial⟩) ⟨?_, ?_, ?_, ?_, ?_, ?_, ?_, ?_, ?_, trivial⟩ ?_
  · refine relStep_plain rfl ?_
    intro Ac w5 hp
    have hb := hp.bel
    have a1 : Ac.eval (.tmp 1) = .pointer (some ⟨w.heap.size, 0, none⟩) := hp.out 1 (by rfl)
    have x0 := (HX.out.below hb (by simp)).cell 0
    have x1 := (HX.out.below hb (by simp)).cell 1
    have hc := evalC Ac; have hf := evalF Ac; have hgl := evalG Ac
    obtain ⟨ρ, hρ⟩ : ∃ ρ, Ac.eval = ρ := ⟨_, rfl⟩
    rw [hρ] at a1 hc hf hgl
    exact relPure hρ (.agg #[.string s, .slice A n c]) (by simp [go_sem, hc, hf, hgl, ↓IntWalk.iteOmega, a1, *]) rfl
  · refine relStep_plain rfl ?_
    intro Ac w5 hp
    have hb := hp.bel
    have a5 : Ac.eval (.tmp 5) = .agg #[.string s, .slice A n c] := hp.dep 0 (by kernel_rfl)
    have hc := evalC Ac; have hf := evalF Ac; have hgl := evalG Ac
    obtain ⟨ρ, hρ⟩ : ∃ ρ, Ac.eval = ρ := ⟨_, rfl⟩
    rw [hρ] at a5 hc hf hgl
    refine relCall hρ 18 #[.agg #[.string s, .slice A n c], .func (.func 19) #[] #[]] (by simp [go_sem, hc, hf, hgl, ↓IntWalk.iteOmega, a5, *]) ?_
    refine (HU.out w5 hb CU.pn 19 call_byPrefix (fun x hx => hx.pn) (fun x B m d W => byPrefix_any x B m d W)).mono ?_
    rintro e w6 ⟨v6, rfl, ho6, hb6⟩
    exact ⟨_, rfl, ⟨_, rfl, own_baseLe ho6 (by have := hb.size; simp at this; omega)⟩, hb6⟩
  · refine relStep_plain rfl ?_
    intro Ac w5 hp
    have hb := hp.bel
    have a1 : Ac.eval (.tmp 1) = .pointer (some ⟨w.heap.size, 0, none⟩) := hp.out 1 (by rfl)
    have x0 := (HX.out.below hb (by simp)).cell 0
    have x1 := (HX.out.below hb (by simp)).cell 1
    have hc := evalC Ac; have hf := evalF Ac; have hgl := evalG Ac
    obtain ⟨ρ, hρ⟩ : ∃ ρ, Ac.eval = ρ := ⟨_, rfl⟩
    rw [hρ] at a1 hc hf hgl
    exact relPure hρ (.agg #[.string s, .slice A n c]) (by simp [go_sem, hc, hf, hgl, ↓IntWalk.iteOmega, a1, *]) rfl
  · refine relStep_plain rfl ?_
    intro Ac w5 hp
    have hb := hp.bel
    have a7 : Ac.eval (.tmp 7) = .agg #[.string s, .slice A n c] := hp.dep 2 (by kernel_rfl)
    have hc := evalC Ac; have hf := evalF Ac; have hgl := evalG Ac
    obtain ⟨ρ, hρ⟩ : ∃ ρ, Ac.eval = ρ := ⟨_, rfl⟩
    rw [hρ] at a7 hc hf hgl
    refine relCall hρ 18 #[.agg #[.string s, .slice A n c], .func (.func 20) #[] #[]] (by simp [go_sem, hc, hf, hgl, ↓IntWalk.iteOmega, a7, *]) ?_
    refine (HU.out w5 hb CU.an 20 call_byPath (fun x hx => hx.an) (fun x B m d W => byPath_any x B m d W)).mono ?_
    rintro e w6 ⟨v6, rfl, ho6, hb6⟩
    exact ⟨_, rfl, ⟨_, rfl, own_baseLe ho6 (by have := hb.size; simp at this; omega)⟩, hb6⟩
  · refine relStep_plain rfl ?_
    intro Ac w5 hp
    have hb := hp.bel
    have a1 : Ac.eval (.tmp 1) = .pointer (some ⟨w.heap.size, 0, none⟩) := hp.out 1 (by rfl)
    have x0 := (HX.out.below hb (by simp)).cell 0
    have x1 := (HX.out.below hb (by simp)).cell 1
    have hc := evalC Ac; have hf := evalF Ac; have hgl := evalG Ac
    obtain ⟨ρ, hρ⟩ : ∃ ρ, Ac.eval = ρ := ⟨_, rfl⟩
    rw [hρ] at a1 hc hf hgl
    exact relPure hρ (.agg #[.string s, .slice A n c]) (by simp [go_sem, hc, hf, hgl, ↓IntWalk.iteOmega, a1, *]) rfl
  · refine relStep_plain rfl ?_
    intro Ac w5 hp
    have hb := hp.bel
    have a9 : Ac.eval (.tmp 9) = .agg #[.string s, .slice A n c] := hp.dep 4 (by kernel_rfl)
    have hc := evalC Ac; have hf := evalF Ac; have hgl := evalG Ac
    obtain ⟨ρ, hρ⟩ : ∃ ρ, Ac.eval = ρ := ⟨_, rfl⟩
    rw [hρ] at a9 hc hf hgl
    refine relCall hρ 18 #[.agg #[.string s, .slice A n c], .func (.func 21) #[] #[]] (by simp [go_sem, hc, hf, hgl, ↓IntWalk.iteOmega, a9, *]) ?_
    refine (HU.out w5 hb CU.cn 21 call_byComm (fun x hx => hx.cn) (fun x B m d W => byComm_any x B m d W)).mono ?_
    rintro e w6 ⟨v6, rfl, ho6, hb6⟩
    exact ⟨_, rfl, ⟨_, rfl, own_baseLe ho6 (by have := hb.size; simp at this; omega)⟩, hb6⟩
  · refine relStep_plain rfl ?_
    intro Ac w5 hp
    have hb := hp.bel
    obtain ⟨y6, a6, ho6⟩ := hp.dep 1 (by kernel_rfl)
    change Ac.eval (.tmp 6) = _ at a6
    have hc := evalC Ac; have hf := evalF Ac; have hgl := evalG Ac
    obtain ⟨ρ, hρ⟩ : ∃ ρ, Ac.eval = ρ := ⟨_, rfl⟩
    rw [hρ] at a6 hc hf hgl
    exact relPure hρ (y6) (by simp [go_sem, hc, hf, hgl, ↓IntWalk.iteOmega, a6, *]) ⟨_, rfl, ho6⟩
  · refine relStep_plain rfl ?_
    intro Ac w5 hp
    have hb := hp.bel
    obtain ⟨y8, a8, ho8⟩ := hp.dep 3 (by kernel_rfl)
    change Ac.eval (.tmp 8) = _ at a8
    have hc := evalC Ac; have hf := evalF Ac; have hgl := evalG Ac
    obtain ⟨ρ, hρ⟩ : ∃ ρ, Ac.eval = ρ := ⟨_, rfl⟩
    rw [hρ] at a8 hc hf hgl
    exact relPure hρ (y8) (by simp [go_sem, hc, hf, hgl, ↓IntWalk.iteOmega, a8, *]) ⟨_, rfl, ho8⟩
  · refine relStep_plain rfl ?_
    intro Ac w5 hp
    have hb := hp.bel
    obtain ⟨y10, a10, ho10⟩ := hp.dep 5 (by kernel_rfl)
    change Ac.eval (.tmp 10) = _ at a10
    have hc := evalC Ac; have hf := evalF Ac; have hgl := evalG Ac
    obtain ⟨ρ, hρ⟩ : ∃ ρ, Ac.eval = ρ := ⟨_, rfl⟩
    rw [hρ] at a10 hc hf hgl
    exact relPure hρ (y10) (by simp [go_sem, hc, hf, hgl, ↓IntWalk.iteOmega, a10, *]) ⟨_, rfl, ho10⟩
  intro u w8 hb7 hall
  obtain ⟨y2, e2, ho2⟩ := relAll_at hall (i := 6) (by decide +kernel)
  change u 6 = _ at e2
  obtain ⟨y3, e3, ho3⟩ := relAll_at hall (i := 7) (by decide +kernel)
  change u 7 = _ at e3
  obtain ⟨y4, e4, ho4⟩ := relAll_at hall (i := 8) (by decide +kernel)
  change u 8 = _ at e4
  clear hall
  simp only [List.drop_succ_cons, List.drop_zero, List.take_succ_cons, List.take_zero, putAll, Act.put, List.setIfInBounds_toArray, List.set_cons_zero, List.set_cons_succ, Nat.zero_add, Nat.reduceAdd, e2, e3, e4]
  go_wp2
  refine bodyPost_ret (v := .tuple #[y2, y3, y4]) (by simp [results, Tryz.results6, go_sem]) rfl ⟨_, _, _, rfl, ho2, ho3, ho4, HB.out.trans (hb7.mono (by simp))⟩
theorem cutCU_twice (ts : List CU) : (((ts.take 102).map cutCU).take 102).map cutCU = (ts.take 102).map cutCU := by
  rw [← List.map_take, List.take_take, List.map_map]
  refine List.map_congr_left fun x _ => ?_
  simp [cutCU, List.take_take]
/-- A clause list of one's own stays, whatever is set below it. -/
theorem cu_setLow {w : World} {B g i n : Nat} {V u : Value} {xs : List Value} {l : List CU} (h : w.ownsRow B 32 14 V n xs) (hc : Chunks 14 (cuO B) w xs l) (hg : g < B) : (w.setCell ⟨g, i, none⟩ u).ownsRow B 32 14 V n xs ∧ Chunks 14 (cuO B) (w.setCell ⟨g, i, none⟩ u) xs l := by
  refine ⟨own_set h (fun e => by have := own_low_block h _ e; omega) u, hc.1, fun k x hk => ?_⟩
  obtain ⟨v, e, ok, hv, hyb⟩ := hc.2 k x hk
  exact ⟨v, e, ok, own_set hv (fun e => by have := own_low_block hv _ e; omega) u, hyb⟩
theorem own_block_lt {w : World} {base n size : Nat} {e : TypeId} {v : Value} {xs : List Value} (h : w.ownsRow base e size v n xs) : ∀ k, v.ownBlock = some k → k < w.heap.size := by
  intro k hk
  rcases h.2 with ⟨rfl, _⟩ | ⟨g, cap, cur, rfl, hb, hh, _⟩
  · simp [Value.ownBlock] at hk
  · have : g = k := by simpa [Value.ownBlock] using hk
    subst this
    exact (Array.getElem?_eq_some_iff.1 hh).1
def ApartV (v v' : Value) : Prop := ∀ q, v.ownBlock = some q → v'.ownBlock = some q → False
def bsRel (N : Nat) (x : ByteArray) (v : Value) (w : World) : Prop := ∃ R, v = .slice (some ⟨R, 0, none⟩) 1 1 ∧ Blk w R 9 #[.string x] ∧ N ≤ R
def apRel (B : Nat) (Y Z : Option Nat) (n : Nat) (xs : List Value) (v : Value) (w : World) : Prop := w.ownsRow B 9 1 v n xs ∧ ∀ q, v.ownBlock = some q → Y ≠ some q ∧ Z ≠ some q
theorem bsRel.below {N : Nat} {x : ByteArray} {v : Value} {w w' : World} (h : bsRel N x v w) (hb : Below w.heap.size w w') : bsRel N x v w' := by
  obtain ⟨R, e, h1, h2⟩ := h
  exact ⟨R, e, h1.below hb h1.lt, h2⟩
theorem bsRel.grown {N : Nat} {x : ByteArray} {v : Value} {w w' : World} {row : Option Nat} (h : bsRel N x v w) (hb : w.grownBy w' row) (hr : ∀ q, row = some q → q < N) : bsRel N x v w' := by
  obtain ⟨R, e, h1, h2⟩ := h
  exact ⟨R, e, h1.grown hb (fun e => by have := hr R e.symm; omega), h2⟩
theorem apRel.below {B : Nat} {Y Z : Option Nat} {n : Nat} {xs : List Value} {v : Value} {w w' : World} (h : apRel B Y Z n xs v w) (hb : Below w.heap.size w w') : apRel B Y Z n xs v w' := ⟨own_below h.1 hb, h.2⟩
theorem apRel.grown {B : Nat} {Y Z row : Option Nat} {n : Nat} {xs : List Value} {v : Value} {w w' : World} (h : apRel B Y Z n xs v w) (hb : w.grownBy w' row) (hr : ∀ q, v.ownBlock = some q → row ≠ some q) : apRel B Y Z n xs v w' := ⟨own_apartR h.1 hb (fun k hk e => hr k hk e.symm), h.2⟩
def effU (vx vy vz : Value) (i : Nat) (w w' : World) : Prop := if i = 8 then w.grownBy w' vx.ownBlock else if i = 17 then w.grownBy w' vy.ownBlock else if i = 26 then w.grownBy w' vz.ownBlock else Below w.heap.size w w'
def psU (B : Nat) (vx vy vz : Value) (n : Nat) (X Y Z : List Value) (i : Nat) (w : World) : Prop := (i = 8 → w.ownsRow B 9 1 vx n X) ∧ (i = 17 → w.ownsRow B 9 1 vy n Y) ∧ (i = 26 → w.ownsRow B 9 1 vz n Z)
def prU (i j : Nat) (v v' : Value) : Prop := i ≠ j → (i = 8 ∨ i = 17 ∨ i = 26) → (j = 8 ∨ j = 17 ∨ j = 26) → ApartV v v'
theorem prU_sym (i j : Nat) (v v' : Value) (h : prU i j v v') : prU j i v' v := fun hij hj hi q a b => h (fun e => hij e.symm) hi hj q b a
theorem effU_below {B n m k : Nat} {w0 : World} {vx vy vz : Value} {X Y Z : List Value} (hx : w0.ownsRow B 9 1 vx n X) (hy : w0.ownsRow B 9 1 vy m Y) (hz : w0.ownsRow B 9 1 vz k Z) : ∀ (i : Nat) (w w' : World), B ≤ w.heap.size → effU vx vy vz i w w' → Below B w w' := by
  intro i w w' hB he
  unfold effU at he
  split at he
  · exact Below.grown (Below.refl _ _) he hB (own_low_block hx)
  · split at he
    · exact Below.grown (Below.refl _ _) he hB (own_low_block hy)
    · split at he
      · exact Below.grown (Below.refl _ _) he hB (own_low_block hz)
      · exact he.mono hB
theorem psU_keep {B n : Nat} {vx vy vz : Value} {X Y Z : List Value} (xy : ApartV vx vy) (xz : ApartV vx vz) (yz : ApartV vy vz) : ∀ (i j : Nat) (w w' : World), i ≠ j → B ≤ w.heap.size → effU vx vy vz j w w' → psU B vx vy vz n X Y Z i w → psU B vx vy vz n X Y Z i w' := by
  intro i j w w' hij hB he h
  unfold effU at he
  split at he
  · exact ⟨fun e => by omega, fun e => own_apartR (h.2.1 e) he (fun k hk e2 => xy k e2.symm hk), fun e => own_apartR (h.2.2 e) he (fun k hk e2 => xz k e2.symm hk)⟩
  · split at he
    · exact ⟨fun e => own_apartR (h.1 e) he (fun k hk e2 => xy k hk e2.symm), fun e => by omega, fun e => own_apartR (h.2.2 e) he (fun k hk e2 => yz k e2.symm hk)⟩
    · split at he
      · exact ⟨fun e => own_apartR (h.1 e) he (fun k hk e2 => xz k hk e2.symm), fun e => own_apartR (h.2.1 e) he (fun k hk e2 => yz k hk e2.symm), fun e => by omega⟩
      · exact ⟨fun e => own_below (h.1 e) he, fun e => own_below (h.2.1 e) he, fun e => own_below (h.2.2 e) he⟩
structure RuSt (w3 W : World) (L : List CU) (vx vy vz : Value) (i : Nat) : Prop where
  bel : Below w3.heap.size w3 W
  rx : W.ownsRow w3.heap.size 9 1 vx i (strB ((L.map CU.pn).take i))
  ry : W.ownsRow w3.heap.size 9 1 vy i (strB ((L.map CU.an).take i))
  rz : W.ownsRow w3.heap.size 9 1 vz i (strB ((L.map CU.cn).take i))
  xy : ApartV vx vy
  xz : ApartV vx vz
  yz : ApartV vy vz
theorem RuSt.yx {w3 W : World} {L : List CU} {vx vy vz : Value} {i : Nat} (h : RuSt w3 W L vx vy vz i) : ApartV vy vx := fun q a b => h.xy q b a
theorem RuSt.zx {w3 W : World} {L : List CU} {vx vy vz : Value} {i : Nat} (h : RuSt w3 W L vx vy vz i) : ApartV vz vx := fun q a b => h.xz q b a
theorem RuSt.zy {w3 W : World} {L : List CU} {vx vy vz : Value} {i : Nat} (h : RuSt w3 W L vx vy vz i) : ApartV vz vy := fun q a b => h.yz q b a
theorem made_at (w : World) {g : Nat} (h : g = w.heap.size) : (w.alloc (.cells #[] 9)).ownsRow g 9 1 (.slice (some ⟨g, 0, none⟩) 0 0) 0 [] := by
  subst h
  exact World.ownsRow_made _ _ _ (Nat.le_refl _) (by simp [maxLen]) (by simp)
theorem strB_snoc {l : List ByteArray} {i : Nat} {x : ByteArray} (h : l[i]? = some x) : strB (l.take (i + 1)) = strB (l.take i) ++ [.string x] := by
  rw [List.take_add_one, h]; simp [strB]
theorem textSame_same (A B : Option Addr) (n c m d : Nat) (xs : List ByteArray) (w : World) (hx : StrsAt w A n c xs) (hy : StrsAt w B m d xs) : Calls Tryz.prog 7 #[.slice A n c, .slice B m d] w (GoodP true w) := by
  have h := textSame_any A B n c m d xs xs w hx hy
  rwa [decide_eq_true rfl] at h
end Go.Proofs.YtgofaoommpnhpaaGreat
