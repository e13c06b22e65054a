import Derived.Test.YtiibglkiakhfgaaDoorPrefixWalk
import Derived.Test.YtiibglkiakhfgaaDoorFar
import Derived.Test.YtiibglkiakhfgaaDoorShIdx
import Derived.Lib.PathFns
import Derived.Lib.IndexBytes
import Derived.RangeFuncWrites
import Derived.RangeFuncNested
import Derived.RangeFuncBound
import Derived.RangeFuncCalls
import Derived.RangeFuncLeaves
import Derived.RangeFuncBox
import Derived.Shelf.Abstract
import Derived.Shelf.RegionOpen
import Derived.OwnWalkIn
import Derived.TacticsInMore
import Derived.LoopNIn
import Derived.LoopIn
set_option linter.unusedSimpArgs false
set_option linter.unusedVariables false
namespace Go.Proofs.YtiibglkiakhfgaaDoor
open Go.RowKit
/-! ### A range over an iterator that keeps its own rest in a cell: block 'b0' is the iterator's own; blocks 'b0' to 'b1' are what it has captured. -/

/-- Across a round the captured blocks lie as they lay. -/
structure KpR (b0 b1 : Nat) (A B : World) : Prop where
  size : A.heap.size ≤ B.heap.size
  same : ∀ k, b0 ≤ k → k < b1 → B.heap[k]? = A.heap[k]?

theorem KpR.refl (b0 b1 : Nat) (A : World) : KpR b0 b1 A A := ⟨Nat.le_refl _, fun _ _ _ => rfl⟩
theorem KpR.trans {b0 b1 : Nat} {A B C : World} (h : KpR b0 b1 A B) (k : KpR b0 b1 B C) : KpR b0 b1 A C :=
  ⟨Nat.le_trans h.size k.size, fun i h0 h1 => (k.same i h0 h1).trans (h.same i h0 h1)⟩
theorem KpR.put {b0 b1 : Nat} (A : World) {l : Nat} (o : Obj) (hl : b1 ≤ l) : KpR b0 b1 A (A.putObj l o) :=
  ⟨by simp, fun k _ h1 => World.putObj_heap_other (by omega)⟩
theorem KpR.alloc {b0 b1 : Nat} (A : World) (o : Obj) (hl : b1 ≤ A.heap.size) : KpR b0 b1 A (A.alloc o) :=
  ⟨by simp, fun k _ h1 => Below.heap_alloc A o k (by omega)⟩
theorem KpR.of_below {b0 b1 n0 : Nat} {A B : World} (h : Below n0 A B) (hs : A.heap.size ≤ B.heap.size) (hl : b1 ≤ n0) : KpR b0 b1 A B :=
  ⟨hs, fun k _ h1 => h.block k (by omega)⟩

/-- An invariant that the iterator's own steps leave: new blocks, and stores into its own block. -/
def AbB {β : Type} (b0 : Nat) (J : β → World → Prop) : Prop :=
  ∀ s A B, J s A → A.grownBy B (some b0) → J s B

/-- An invariant that the loop's own steps leave too: its record and the block of deferred calls, which lie from 'lo' on. -/
def AbO {β : Type} (lo b0 : Nat) (I : β → World → Prop) : Prop :=
  ∀ s A B row, I s A → A.grownBy B row → (∀ r, row = some r → r = b0 ∨ (lo ≤ r ∧ ∃ o : Obj, A.heap[r]? = some o ∧ o.isCells = false)) → I s B

theorem AbO.put {β : Type} {lo b0 : Nat} {I : β → World → Prop} (h : AbO lo b0 I) {s : β} {A : World} {l : Nat} {o : Obj} (o' : Obj) (hs : I s A) (hlo : lo ≤ l) (hl : A.heap[l]? = some o) (ho : o.isCells = false) : I s (A.putObj l o') :=
  h s A _ (some l) hs (grownBy_putObj' A l o') (fun r e => by cases e; exact .inr ⟨hlo, o, hl, ho⟩)

/-- What the iterator promises, of the elements 'xs' in order. -/
def SeqCell {α : Type} (F : Fence) (n : Nat) (P : Program) (g : Nat) (lb : Array Value) (encs : α → Array Value) (b0 b1 : Nat) (xs : List α) (l : Nat) (W : World) : Prop :=
  ∀ (J Jx : List α → World → Prop), AbB b0 J → AbB b0 Jx →
    (∀ pre x post W1, pre ++ x :: post = xs → J pre W1 → YieldAt F (n - 1) P l (encs x) W1 fun e W' =>
      (e = .returned (.bool true) ∧ J (pre ++ [x]) W' ∧ KpR b0 b1 W1 W') ∨ (e = .returned (.bool false) ∧ Jx (pre ++ [x]) W')) →
    J [] W →
    CallsIn F n P g (#[.func (.yield l) #[] #[]] ++ lb) W fun e W' => (∃ v, e = .returned v) ∧ (J xs W' ∨ ∃ pre x post, pre ++ x :: post = xs ∧ Jx (pre ++ [x]) W')

/-- How a round's body is left. -/
def cellPost {α : Type} (lo b0 b1 : Nat) (I : List α → World → Prop) (Ix : Code → List α → World → Prop) (xs : List α) (W : World) : Exit → Act → World → Prop
  | .normal, _, W' => KeepsFrom lo W W' ∧ KpR b0 b1 W W' ∧ I xs W'
  | .ret, _, W' => KeepsFrom lo W W' ∧ Ix .ret xs W'
  | .exit id, _, W' => KeepsFrom lo W W' ∧ Ix (.exit id) xs W'
  | .goto t, _, W' => KeepsFrom lo W W' ∧ Ix (.goto t) xs W'
  | .panic _, _, _ => False
  | .outgrown, _, _ => False

theorem wpIn_rangeFunc_cell {F : Fence} {n : Nat} {P : Program} {α : Type} {g : Operand} {ps : Array Tmp} {assign body : Code} {Q : Exit → Act → World → Prop} {a : Act} {w : World}
    (hro : F.round = none) (h1 : 1 ≤ n) {gf : Nat} {lb : Array Value} (hg : a.eval g = .func (.func gf) #[] lb) (hFg : F.fn gf) (eg : ∀ args w, (callFunc gf args).run P w = .ok (.enter gf args) w)
    {encs : α → Array Value} {b0 b1 : Nat} (hb01 : b0 < b1) (hb1 : b1 ≤ w.heap.size) {xs : List α} (hseq : ∀ l W, KpR b0 b1 w W → SeqCell F (n - 1) P gf lb encs b0 b1 xs l W) (hps : ∀ x, (encs x).size = ps.size)
    (I : List α → World → Prop) (Ix : Code → List α → World → Prop) (hI : AbO w.heap.size b0 I) (hIx : ∀ c, AbO w.heap.size b0 (Ix c)) (h0 : I [] w) (a1 : α → Act)
    (hassign : ∀ (l : Nat) (x : α) (W : World) (K : Act → World → Prop), K (a1 x) W →
      assign.wpIn (F.inRound l) (n - 1 - 1) P (Exit.then K (fun _ _ _ => False)) { tmps := (ps.zip (encs x)).foldl (fun t (p, v) => t.setIfInBounds p v) a.tmps, defers := [] } W)
    (hbody : ∀ (l : Nat) (pre : List α) (x : α) (post : List α) (W : World), pre ++ x :: post = xs → I pre W → body.wpIn (F.inRound l) (n - 1 - 1) P (cellPost w.heap.size b0 b1 I Ix (pre ++ [x]) W) (a1 x) W)
    (hdone : ∀ (D : Nat) (W : World), w.heap.size ≤ D → I xs W → W.heap[D]? = some (.deferred (some [])) → Q .normal { a with defers := { target := .collected D, args := #[] } :: a.defers } W)
    (hstop : ∀ (D : Nat) (c : Code) (pre : List α) (x : α) (post : List α) (W : World), w.heap.size ≤ D → pre ++ x :: post = xs → Ix c (pre ++ [x]) W → W.heap[D]? = some (.deferred (some [])) → c.wpIn F n P Q { a with defers := { target := .collected D, args := #[] } :: a.defers } W) :
    (Code.rangeFunc g ps assign body).wpIn F n P Q a w := by
  apply wpIn_rangeFunc
  intro fn hfn
  rw [hro]
  -- the record, in each of its states; the two blocks that the statement lays
  let R : LoopState → Option Code → Obj := fun st pe => .loop { state := st, pending := pe, fn, tmps := a.tmps, params := ps, assign, body, defers := w.heap.size }
  let dl := w.heap.size
  let rl := w.heap.size + 1
  have hlaid : ∃ W1, (w.alloc (.deferred (some []))).alloc (R .ready none) = W1 ∧ W1.heap[rl]? = some (R .ready none) ∧ W1.heap[dl]? = some (.deferred (some [])) ∧ I [] W1 ∧ KpR b0 b1 w W1 := by
    refine ⟨_, rfl, ?_, ?_, ?_, ?_⟩
    · have := World.alloc_heap_new (w.alloc (.deferred (some []))) (R .ready none)
      rwa [World.size_alloc] at this
    · exact (Below.heap_alloc _ _ _ (by simp [dl])).trans (World.alloc_heap_new w _)
    · exact hI _ _ _ none (hI _ _ _ none h0 (World.grownBy_alloc w _ none) (by simp)) (World.grownBy_alloc _ _ none) (by simp)
    · exact (KpR.alloc w _ hb1).trans (KpR.alloc _ _ (by simp; omega))
  obtain ⟨W1, hW1, hr1, hd1, hi1, hk1⟩ := hlaid
  refine ⟨rl, [{ target := .collected dl, args := #[] }], W1, { target := .fn (.func gf) lb, args := #[.func (.yield rl) #[] #[]] }, W1, gf,
    #[.func (.yield rl) #[] #[]] ++ lb, W1, ?_, ?_, ?_, ?_, fun _ => h1, ?_⟩
  · rw [← hW1]; exact run_enterLoop_outer _ _ _ _ _
  · simp only [resolve, hg]
    simp [go_sem]
  · intro f' hf'; simp [Target.leads] at hf'; subst hf'; exact hFg
  · simp [invoke, go_sem, eg]
  -- a block of the loop's own, through a store into the iterator's block
  have hold : ∀ {A B : World} {k : Nat} {o : Obj}, w.heap.size ≤ k → A.grownBy B (some b0) → A.heap[k]? = some o → B.heap[k]? = some o := by
    intro A B k o hk hgr ho
    exact (hgr.block k (Array.getElem?_eq_some_iff.1 ho).1 (by simp; omega)).trans ho
  have hab : ∀ {I : List α → World → Prop}, AbO w.heap.size b0 I → ∀ s A B, I s A → A.grownBy B (some b0) → I s B := fun h s A B hs hgr => h s A B _ hs hgr (fun r e => .inl (by cases e; rfl))
  refine (hseq rl W1 hk1
    (fun pre W => I pre W ∧ W.heap[rl]? = some (R .ready none) ∧ W.heap[dl]? = some (.deferred (some [])))
    (fun pre W => ∃ c, Ix c pre W ∧ W.heap[rl]? = some (R .done (some c)) ∧ W.heap[dl]? = some (.deferred (some [])))
    (fun s A B hs hgr => ⟨hab hI s A B hs.1 hgr, hold (by simp [rl]) hgr hs.2.1, hold (by simp [dl]) hgr hs.2.2⟩)
    (fun s A B hs hgr => by
      obtain ⟨c, hc, hl, hd⟩ := hs
      exact ⟨c, hab (hIx c) s A B hc hgr, hold (by simp [rl]) hgr hl, hold (by simp [dl]) hgr hd⟩)
    ?_ ⟨hi1, hr1, hd1⟩).mono ?_
  · -- one round
    rintro pre x post W hx ⟨hi, hl, hd⟩
    have hlt : rl < W.heap.size := (Array.getElem?_eq_some_iff.1 hl).1
    refine ⟨fn, _, assign, body, run_yield (P := P) (args := encs x) hl (hps x), roundIn_of_wpIn hfn (hassign _ x W _ ⟨_, run_beginRound hl rfl, ?_⟩)⟩
    have hlb : (W.putObj rl (R .busy none)).heap[rl]? = some (R .busy none) := World.putObj_heap_same hlt
    have hdb : (W.putObj rl (R .busy none)).heap[dl]? = some (.deferred (some [])) := (World.putObj_heap_other (by simp [rl, dl])).trans hd
    refine wpIn_mono (hbody rl pre x post _ hx (hI.put _ hi (by simp [rl]) hl rfl)) ?_
    have fin : ∀ (jump : Option Code) (W3 : World), KeepsFrom w.heap.size (W.putObj rl (R .busy none)) W3 →
        (Instr.endRound rl jump).run P W3 = .ok (.bool jump.isNone) (W3.putObj rl (R (if jump.isNone then .ready else .done) jump)) ∧
        W3.heap[rl]? = some (R .busy none) ∧
        (W3.putObj rl (R (if jump.isNone then .ready else .done) jump)).heap[rl]? = some (R (if jump.isNone then .ready else .done) jump) ∧
        (W3.putObj rl (R (if jump.isNone then .ready else .done) jump)).heap[dl]? = some (.deferred (some [])) := by
      intro jump W3 hk3
      have hl3 := hk3.same _ _ (by simp [rl]) hlb rfl
      exact ⟨run_endRound (P := P) jump hl3, hl3, World.putObj_heap_same (Array.getElem?_eq_some_iff.1 hl3).1, (World.putObj_heap_other (by simp [rl, dl])).trans (hk3.same _ _ (by simp [dl]) hdb rfl)⟩
    rintro e a3 W3 hp
    cases e with
    | normal =>
      obtain ⟨hk3, hkp3, hi3⟩ := hp
      obtain ⟨hr, hl3, hl4, hd4⟩ := fin none W3 hk3
      exact ⟨_, _, hr, .inl ⟨rfl, ⟨hI.put _ hi3 (by simp [rl]) hl3 rfl, hl4, hd4⟩, ((KpR.put W _ (by simp [rl]; omega)).trans hkp3).trans (KpR.put _ _ (by simp [rl]; omega))⟩⟩
    | ret =>
      obtain ⟨hk3, hi3⟩ := hp
      obtain ⟨hr, hl3, hl4, hd4⟩ := fin (some .ret) W3 hk3
      exact ⟨_, _, hr, .inr ⟨rfl, .ret, (hIx _).put _ hi3 (by simp [rl]) hl3 rfl, hl4, hd4⟩⟩
    | exit id =>
      obtain ⟨hk3, hi3⟩ := hp
      obtain ⟨hr, hl3, hl4, hd4⟩ := fin (some (.exit id)) W3 hk3
      exact ⟨_, _, hr, .inr ⟨rfl, .exit id, (hIx _).put _ hi3 (by simp [rl]) hl3 rfl, hl4, hd4⟩⟩
    | goto t =>
      obtain ⟨hk3, hi3⟩ := hp
      obtain ⟨hr, hl3, hl4, hd4⟩ := fin (some (.goto t)) W3 hk3
      exact ⟨_, _, hr, .inr ⟨rfl, .goto t, (hIx _).put _ hi3 (by simp [rl]) hl3 rfl, hl4, hd4⟩⟩
    | panic ch => exact hp.elim
    | outgrown => exact hp.elim
  · -- behind the iterator
    rintro e W2 ⟨⟨v, rfl⟩, (⟨hi, hl, hd⟩ | ⟨pre, x, post, hx, c, hi, hl, hd⟩)⟩
    · exact ⟨none, _, run_endLoop (P := P) hl (by simp), hdone _ _ (Nat.le_refl _) (hI.put _ hi (by simp [rl]) hl rfl) ((World.putObj_heap_other (by simp [rl, dl])).trans hd)⟩
    · exact ⟨some c, _, run_endLoop (P := P) hl (by simp), hstop _ c pre x post _ (Nat.le_refl _) hx ((hIx c).put _ hi (by simp [rl]) hl rfl) ((World.putObj_heap_other (by simp [rl, dl])).trans hd)⟩

/-! ### The pieces of a text between a byte -/

/-- The pieces of a text that a byte parts. -/
def pieces (c : UInt8) : List UInt8 → List (List UInt8)
  | [] => [[]]
  | x :: l => if x = c then [] :: pieces c l else ((x :: (pieces c l).headD []) :: (pieces c l).tail)

theorem pieces_ne (c : UInt8) (l : List UInt8) : pieces c l ≠ [] := by
  cases l with
  | nil => simp [pieces]
  | cons x l => unfold pieces; split <;> simp

theorem pieces_step (c : UInt8) : ∀ l : List UInt8,
    (Lib.indexByte l c = -1 ∧ pieces c l = [l]) ∨
    ∃ i : Nat, Lib.indexByte l c = (i : Int) ∧ i < l.length ∧ pieces c l = l.take i :: pieces c (l.drop (i + 1))
  | [] => .inl ⟨rfl, rfl⟩
  | x :: l => by
    by_cases hx : x = c
    · refine .inr ⟨0, ?_, by simp, ?_⟩
      · simp [Lib.indexByte, hx]
      · simp [pieces, hx]
    · have hb : (x == c) = false := by simp [hx]
      rcases pieces_step c l with ⟨h, hp⟩ | ⟨i, h, hi, hp⟩
      · refine .inl ⟨?_, ?_⟩
        · unfold Lib.indexByte; rw [hb, h]; rfl
        · conv => lhs; unfold pieces
          rw [if_neg hx, hp]; rfl
      · refine .inr ⟨i + 1, ?_, by simp; omega, ?_⟩
        · have hn : ((i : Int) == -1) = false := by simp
          unfold Lib.indexByte; rw [hb, h, hn]; rfl
        · conv => lhs; unfold pieces
          rw [if_neg hx, hp]; rfl

theorem str_cut (l : List UInt8) (i : Nat) : (str l).extract 0 i = str (l.take i) := by
  rw [Lib.Pa.extract_upto, str_data]; rfl
theorem str_rest (l : List UInt8) (i : Nat) : (str l).extract i (str l).size = str (l.drop i) := by
  rw [Lib.Pa.extract_from, str_data]; rfl
/-- The size of the text in a cell, for a measure. -/
def cellStr (w : World) (p : Addr) : Nat := match w.cell? p with | some (.string s) => s.size + 1 | _ => 0
theorem cellStr_of {w : World} {p : Addr} {s : ByteArray} (h : w.cell? p = some (.string s)) : cellStr w p = s.size + 1 := by simp [cellStr, h]

/-! ### The iterator of strings.SplitSeq -/

theorem idx_one (l : List UInt8) (c : UInt8) (w : World) : Calls Tryd.prog 133 #[.string (str l), .string ⟨#[c]⟩] w fun e w' => e = .returned (.int .i64 (Lib.indexByte l c)) ∧ w' = w := by
  have h := Tryd.strings_Index_one (str l) c w
  rw [str_data] at h
  exact h

theorem KpR.blk {b0 b1 : Nat} {A B : World} (h : KpR b0 b1 A B) {g : Nat} {t : TypeId} {cs : Array Value} (h0 : b0 ≤ g) (h1 : g < b1) (hb : Blk A g t cs) : Blk B g t cs := (h.same g h0 h1).trans hb

theorem splitSeq1_in (n : Nat) (hn : 1 ≤ n) (l b0 : Nat) (c : UInt8) (s : List UInt8) (hs : s.length < 1000000) (xs : List (List UInt8)) (hxs : pieces c s = xs) (W : World)
    (h0 : Blk W b0 9 #[.string (str s)]) (h1 : Blk W (b0 + 1) 9 #[.string ⟨#[c]⟩]) (h2 : Blk W (b0 + 2) 3 #[.int .i64 0]) :
    SeqCell Fence.wide n Tryd.prog 166 #[.pointer (some ⟨b0 + 1, 0, none⟩), .pointer (some ⟨b0, 0, none⟩), .pointer (some ⟨b0 + 2, 0, none⟩)] (fun x : List UInt8 => #[.string (str x)]) b0 (b0 + 3) xs l W := by
  intro J Jx hJ hJx hY hJ0
  show CallsIn Fence.wide n Tryd.prog 166 #[.func (.yield l) #[] #[], .pointer (some ⟨b0 + 1, 0, none⟩), .pointer (some ⟨b0, 0, none⟩), .pointer (some ⟨b0 + 2, 0, none⟩)] W _
  refine callsIn_of_wp Tryd.func166 rfl trivial ?_ rfl
  simp only [Tryd.ntmps166, List.size_toArray, List.length_cons, List.length_nil, Nat.reduceAdd, Nat.reduceSub, Array.replicate_succ, Array.replicate_zero, List.push_toArray, List.append_toArray, List.nil_append, List.cons_append]
  have c1 := h1.cell 0
  gi_wp2
  gi_loopw [] (fun wr => ∃ (pre : List (List UInt8)) (r : List UInt8), pre ++ pieces c r = xs ∧ r.length < 1000000 ∧ J pre wr ∧ Blk wr b0 9 #[.string (str r)] ∧ Blk wr (b0 + 1) 9 #[.string ⟨#[c]⟩] ∧ Blk wr (b0 + 2) 3 #[.int .i64 0])
    (fun wr => cellStr wr ⟨b0, 0, none⟩)
  case atStart => exact ⟨[], s, hxs, hs, hJ0, h0, h1, h2⟩
  case round =>
    obtain ⟨pre, r, hx, hr, hj, k0, k1, k2⟩ := hrel
    have d0 := k0.cell 0
    have d1 := k1.cell 0
    have d2 := k2.cell 0
    have f0 := k0.frozen 0
    have hz := str_size r
    rcases pieces_step c r with ⟨hi, hp⟩ | ⟨i, hi, hil, hp⟩
    · rw [hp] at hx
      have hy := hY pre r [] wr hx hj
      obtain ⟨fn, tmps, assign, body, hy, hR⟩ := hy
      gi_wp2_with (refine ⟨trivial, ?_⟩; gi_at_call 133; refine (callsIn_wide.2 (idx_one r c _)).mono ?_; rintro e w1 ⟨rfl, rfl⟩; rw [hi])
      refine hR.mono ?_
      rintro e W3 (⟨rfl, hJ3, hk3⟩ | ⟨rfl, hJx3⟩)
      · gi_wp2
        go_end0
        exact ⟨⟨_, rfl⟩, .inl (by rw [← hx]; exact hJ3)⟩
      · gi_wp2
        go_end0
        exact ⟨⟨_, rfl⟩, .inr ⟨pre, r, [], hx, hJx3⟩⟩
    · rw [hp] at hx
      have hy := hY pre (r.take i) _ wr hx hj
      obtain ⟨fn, tmps, assign, body, hy, hR⟩ := hy
      rw [← str_cut r i] at hy
      have hi0 : decide ((i : Int) < 0) = false := by simp
      gi_wp2_with (refine ⟨trivial, ?_⟩; gi_at_call 133; refine (callsIn_wide.2 (idx_one r c _)).mono ?_; rintro e w1 ⟨rfl, rfl⟩; rw [hi])
      refine hR.mono ?_
      rintro e W3 (⟨rfl, hJ3, hk3⟩ | ⟨rfl, hJx3⟩)
      · have k03 := hk3.blk (Nat.le_refl _) (by omega) k0
        have k13 := hk3.blk (by omega) (by omega) k1
        have k23 := hk3.blk (by omega) (by omega) k2
        have d03 := k03.cell 0
        have d13 := k13.cell 0
        have f03 := k03.frozen 0
        gi_wp2
        have hv : (str r).extract (i + 1) r.length = str (r.drop (i + 1)) := by rw [← str_rest r (i + 1), str_size]
        have hgs := grownBy_setCell' W3 b0 (Value.string (str (r.drop (i + 1))))
        go_roundw
        case rel =>
          rw [hv]
          refine ⟨pre ++ [r.take i], r.drop (i + 1), by rw [← hx]; simp, by simp; omega, hJ _ _ _ hJ3 hgs, k03.set0 rfl, k13.far (by simp) _, k23.far (by simp) _⟩
        case measure =>
          rw [hv, cellStr_of ((k03.set0 rfl).cell 0), cellStr_of d0, str_size, str_size]
          simp; omega
      · gi_wp2
        refine bodyPost_ret (results_none rfl _ _ _) rfl ?_
        exact ⟨⟨_, rfl⟩, .inr ⟨pre, _, _, hx, hJx3⟩⟩

theorem splitSeq_any (s t : ByteArray) (w : World) : Calls Tryd.prog 134 #[.string s, .string t, .int .i64 0] w fun e w' =>
    e = .returned (.func (.func 166) #[] #[.pointer (some ⟨w.heap.size + 1, 0, none⟩), .pointer (some ⟨w.heap.size, 0, none⟩), .pointer (some ⟨w.heap.size + 2, 0, none⟩)]) ∧
    w' = ((w.alloc (.cells #[.string s] 9)).alloc (.cells #[.string t] 9)).alloc (.cells #[.int .i64 0] 3) := by
  go_enter Tryd.func134, Tryd.ntmps134
  go_wp2
  go_ret
  exact ⟨rfl, rfl⟩

theorem SplitSeq_any (s t : ByteArray) (w : World) : Calls Tryd.prog 88 #[.string s, .string t] w fun e w' =>
    e = .returned (.func (.func 166) #[] #[.pointer (some ⟨w.heap.size + 1, 0, none⟩), .pointer (some ⟨w.heap.size, 0, none⟩), .pointer (some ⟨w.heap.size + 2, 0, none⟩)]) ∧
    w' = ((w.alloc (.cells #[.string s] 9)).alloc (.cells #[.string t] 9)).alloc (.cells #[.int .i64 0] 3) := by
  go_enter Tryd.func88, Tryd.ntmps88
  go_wp2_with (go_at_call 134; refine (splitSeq_any _ _ _).mono ?_; rintro e w1 ⟨rfl, rfl⟩)
  go_ret
  exact ⟨rfl, rfl⟩
end Go.Proofs.YtiibglkiakhfgaaDoor
