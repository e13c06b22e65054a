import Derived.Test.YtiibglkiakhfgaaDoorCommAllB
import Derived.Test.YtiibglkiakhfgaaDoorLexLives
set_option linter.unusedSimpArgs false
set_option linter.unusedVariables false
namespace Go.Proofs.YtiibglkiakhfgaaDoor
open Go.RowKit
/-! ### lex.Lines -/
attribute [local go_sem] Oper.semAt_some

/-- A line that has words: its number, its text, where its words lie. -/
structure LRow where
  n : Nat
  p : List UInt8
  A : Option Addr
  c : Nat
def LRow.val (r : LRow) : Value := .slice r.A (cutR (str r.p)).length r.c
def LRow.cells (r : LRow) : List Value := [.int .i64 (r.n : Int), r.val]
def lcells (rs : List LRow) : List Value := rs.flatMap LRow.cells
theorem lcells_snoc (rs : List LRow) (r : LRow) : lcells (rs ++ [r]) = lcells rs ++ [.int .i64 (r.n : Int), r.val] := by simp [lcells, LRow.cells]
theorem lineInfo : (Tryd.prog.info? 62).map (fun i => (i.zero, i.size, i.bytes)) = some (some (.agg #[.int .i64 0, .slice none 0 0]), 2, 32) := by kernel_rfl

/-- The lines that have words, of pieces numbered behind k. -/
def keepN : Nat → List (List UInt8) → List (Nat × List UInt8)
  | _, [] => []
  | k, p :: ps => (if cutR (str p) = [] then [] else [(k + 1, p)]) ++ keepN (k + 1) ps
theorem keepN_snoc : ∀ (k : Nat) (ps : List (List UInt8)) (p : List UInt8), keepN k (ps ++ [p]) = keepN k ps ++ (if cutR (str p) = [] then [] else [(k + ps.length + 1, p)])
  | k, [], p => by simp [keepN]
  | k, q :: ps, p => by
    rw [List.cons_append, keepN, keepN, keepN_snoc (k + 1) ps p]
    simp only [List.length_cons, List.append_assoc]
    rw [show k + 1 + ps.length + 1 = k + (ps.length + 1) + 1 by omega]
theorem keepN_len : ∀ (k : Nat) (ps : List (List UInt8)), (keepN k ps).length ≤ ps.length
  | _, [] => by simp [keepN]
  | k, p :: ps => by
    have := keepN_len (k + 1) ps
    rw [keepN]
    split <;> simp <;> omega

/-- The world in which the loop begins. -/
def lnW (s : ByteArray) (w : World) : World :=
  ((((((w.alloc (.cells #[.slice none 0 0] 38)).alloc (.cells #[.int .i64 0, .int .i64 0, .int .i64 0] 41)).alloc (.cells #[.slice none 0 0] 38)).alloc (.cells #[.int .i64 0] 3)).alloc (.cells #[.string s] 9)).alloc (.cells #[.string ⟨#[10]⟩] 9)).alloc (.cells #[.int .i64 0] 3)
theorem lnW_size (s : ByteArray) (w : World) : (lnW s w).heap.size = w.heap.size + 7 := by simp [lnW]
theorem lnW_below (s : ByteArray) (w : World) : Below w.heap.size w (lnW s w) := by
  unfold lnW
  exact (((((((Below.refl _ w).alloc (Nat.le_refl _) _).alloc (by simp) _).alloc (by simp; omega) _).alloc (by simp; omega) _).alloc (by simp; omega) _).alloc (by simp; omega) _).alloc (by simp; omega) _
theorem lnW_blks (s : ByteArray) (w : World) : Blk (lnW s w) w.heap.size 38 #[.slice none 0 0] ∧ Blk (lnW s w) (w.heap.size + 1) 41 #[.int .i64 0, .int .i64 0, .int .i64 0] ∧ Blk (lnW s w) (w.heap.size + 2) 38 #[.slice none 0 0] ∧ Blk (lnW s w) (w.heap.size + 3) 3 #[.int .i64 0] ∧
    Blk (lnW s w) (w.heap.size + 4) 9 #[.string s] ∧ Blk (lnW s w) (w.heap.size + 4 + 1) 9 #[.string ⟨#[10]⟩] ∧ Blk (lnW s w) (w.heap.size + 4 + 2) 3 #[.int .i64 0] := by
  unfold lnW
  exact ⟨((((((Blk.new w _ _).alloc _).alloc _).alloc _).alloc _).alloc _).alloc _, (((((blk_new' _ _ (by simp)).alloc _).alloc _).alloc _).alloc _).alloc _, ((((blk_new' _ _ (by simp)).alloc _).alloc _).alloc _).alloc _, (((blk_new' _ _ (by simp)).alloc _).alloc _).alloc _, ((blk_new' _ _ (by simp)).alloc _).alloc _, (blk_new' _ _ (by simp)).alloc _, blk_new' _ _ (by simp)⟩

/-- The words of the lines, each in a row of its own. -/
def LWords (H : Nat) (W : World) (rs : List LRow) : Prop := ∀ r ∈ rs, W.ownsRow H 106 2 r.val (cutR (str r.p)).length (wcells (wlist (str r.p) (cutR (str r.p))))
/-- What the loop has. -/
structure LnSt (H : Nat) (w W : World) (k : Nat) (v : Value) (rs : List LRow) : Prop where
  c0 : Blk W H 38 #[.slice none 0 0]
  c1 : Blk W (H + 1) 41 #[.int .i64 0, .int .i64 0, .int .i64 0]
  c2 : Blk W (H + 2) 38 #[v]
  c3 : Blk W (H + 3) 3 #[.int .i64 (k : Nat)]
  own : W.ownsRow (H + 7) 62 2 v rs.length (lcells rs)
  wrd : LWords (H + 7) W rs
  bel : Below H w W
  siz : H + 7 ≤ W.heap.size
/-- .. where it has stopped at a line that errs. -/
structure LnEx (H : Nat) (w W : World) (l a c : Int) : Prop where
  c0 : Blk W H 38 #[.slice none 0 0]
  c1 : Blk W (H + 1) 41 #[.int .i64 l, .int .i64 a, .int .i64 c]
  bel : Below H w W

theorem blk_apart {A B : World} {b lo g : Nat} {row : Option Nat} {t : TypeId} {cs : Array Value} (h : Blk A g t cs) (hg : A.grownBy B row) (hr : ∀ r, row = some r → r = b ∨ (lo ≤ r ∧ ∃ o : Obj, A.heap[r]? = some o ∧ o.isCells = false)) (hn : g ≠ b) : Blk B g t cs :=
  h.grown hg (fun e => by
    rcases hr g e.symm with h' | ⟨_, o, ho, hc⟩
    · exact hn h'
    · unfold Blk at h; rw [h] at ho; cases ho; cases hc)
theorem ownR_apart {A B : World} {b lo base e size k : Nat} {row : Option Nat} {v : Value} {xs : List Value} (h : A.ownsRow base e size v k xs) (hb : b < base) (hg : A.grownBy B row) (hr : ∀ r, row = some r → r = b ∨ (lo ≤ r ∧ ∃ o : Obj, A.heap[r]? = some o ∧ o.isCells = false)) : B.ownsRow base e size v k xs :=
  h.kept hg (by
    rcases h.2 with ⟨rfl, _⟩ | ⟨g, cap, cur, rfl, h6, hgc, _⟩
    · exact .inl rfl
    · refine .inr (fun e => ?_)
      rcases hr g e.symm with h' | ⟨_, o, ho, hc⟩
      · omega
      · rw [hgc] at ho; cases ho; cases hc)
theorem belowR_apart {a A B : World} {H b lo : Nat} {row : Option Nat} (h : Below H a A) (hA : H ≤ A.heap.size) (hlo : H ≤ lo) (hb : H ≤ b) (hg : A.grownBy B row) (hr : ∀ r, row = some r → r = b ∨ (lo ≤ r ∧ ∃ o : Obj, A.heap[r]? = some o ∧ o.isCells = false)) : Below H a B :=
  h.grown hg hA (fun k hk => by rcases hr k hk with h' | ⟨h', _⟩ <;> omega)
theorem LnSt.abide {H k : Nat} {w A B : World} {v : Value} {rs : List LRow} {row : Option Nat} {lo : Nat} (h : LnSt H w A k v rs) (hlo : H ≤ lo) (hg : A.grownBy B row) (hr : ∀ r, row = some r → r = H + 4 ∨ (lo ≤ r ∧ ∃ o : Obj, A.heap[r]? = some o ∧ o.isCells = false)) : LnSt H w B k v rs :=
  ⟨blk_apart h.c0 hg hr (by omega), blk_apart h.c1 hg hr (by omega), blk_apart h.c2 hg hr (by omega), blk_apart h.c3 hg hr (by omega), ownR_apart h.own (by omega) hg hr, fun r hr' => ownR_apart (h.wrd r hr') (by omega) hg hr, belowR_apart h.bel (Nat.le_of_lt h.c0.lt) hlo (by omega) hg hr, Nat.le_trans h.siz hg.size⟩
theorem LnEx.abide {H : Nat} {w A B : World} {l a c : Int} {row : Option Nat} {lo : Nat} (h : LnEx H w A l a c) (hlo : H ≤ lo) (hg : A.grownBy B row) (hr : ∀ r, row = some r → r = H + 4 ∨ (lo ≤ r ∧ ∃ o : Obj, A.heap[r]? = some o ∧ o.isCells = false)) : LnEx H w B l a c :=
  ⟨blk_apart h.c0 hg hr (by omega), blk_apart h.c1 hg hr (by omega), belowR_apart h.bel (Nat.le_of_lt h.c0.lt) hlo (by omega) hg hr⟩
theorem LnSt.below {H k : Nat} {w A B : World} {v : Value} {rs : List LRow} (h : LnSt H w A k v rs) (hb : Below A.heap.size A B) : LnSt H w B k v rs :=
  ⟨h.c0.below hb h.c0.lt, h.c1.below hb h.c1.lt, h.c2.below hb h.c2.lt, h.c3.below hb h.c3.lt, own_below h.own hb, fun r hr => own_below (h.wrd r hr) hb, h.bel.trans (hb.mono (Nat.le_of_lt h.c0.lt)), Nat.le_trans h.siz hb.size⟩
/-- The number is counted on. -/
theorem LnSt.count {H k : Nat} {w A : World} {v : Value} {rs : List LRow} (h : LnSt H w A k v rs) {x : Int} (hx : x = ((k + 1 : Nat) : Int)) : LnSt H w (A.setCell ⟨H + 3, 0, none⟩ (.int .i64 x)) (k + 1) v rs := by
  subst hx
  refine ⟨h.c0.far (by simp) _, h.c1.far (by simp) _, h.c2.far (by simp) _, h.c3.set0 rfl, own_set h.own (own_blk_ne h.own h.c3 (by decide)) _, fun r hr => own_set (h.wrd r hr) (own_blk_ne (h.wrd r hr) h.c3 (by decide)) _, h.bel.setCell (p := ⟨H + 3, 0, none⟩) (by show H ≤ H + 3; omega) _, ?_⟩
  exact Nat.le_trans h.siz (KeepsOthers.setCell A _ _).size

theorem KpR.setC {b0 b1 : Nat} (A : World) {p : Addr} (v : Value) (hp : p.block < b0) : KpR b0 b1 A (A.setCell p v) :=
  ⟨(KeepsOthers.setCell A p v).size, fun k h0 _ => Below.heap_setCell A p v k (by omega)⟩
theorem ln_step0 {H lo : Nat} {W w2 : World} {u : Value} (hH : H + 7 ≤ W.heap.size) (hb : Below (W.setCell ⟨H + 3, 0, none⟩ u).heap.size (W.setCell ⟨H + 3, 0, none⟩ u) w2) : KeepsFrom lo W w2 ∧ KpR (H + 4) (H + 7) W w2 := by
  have hs := (KeepsOthers.setCell W ⟨H + 3, 0, none⟩ u).size
  exact ⟨((KeepsOthers.setCell W _ _).from lo).trans (KeepsFrom.below hb), (KpR.setC W u (by show H + 3 < H + 4; omega)).trans (KpR.of_below hb hb.size (by omega))⟩
theorem ln_step {H lo : Nat} {W w2 w3 : World} {o : Obj} {v v' u : Value} (hH : H + 7 ≤ W.heap.size) (hb : Below (W.setCell ⟨H + 3, 0, none⟩ u).heap.size (W.setCell ⟨H + 3, 0, none⟩ u) w2)
    (hv : ∀ r, v.ownBlock = some r → H + 7 ≤ r ∧ ∃ o' : Obj, (w2.alloc o).heap[r]? = some o' ∧ o'.isCells = true) (hg : (w2.alloc o).grownBy w3 v.ownBlock) :
    KeepsFrom lo W (w3.setCell ⟨H + 2, 0, none⟩ v') ∧ KpR (H + 4) (H + 7) W (w3.setCell ⟨H + 2, 0, none⟩ v') := by
  have h0 := ln_step0 (lo := lo) hH hb
  have hs := (KeepsOthers.setCell W ⟨H + 3, 0, none⟩ u).size
  have hs2 := hb.size
  constructor
  · refine ((h0.1.trans ((KeepsOthers.alloc w2 o).from lo)).trans ((KeepsOthers.of_grownBy hg (fun j o' hj ho => ?_)).from lo)).trans ((KeepsOthers.setCell _ _ _).from lo)
    obtain ⟨_, o2, h2, h3⟩ := hv j hj
    rw [h2] at ho; cases ho; exact h3
  · exact ((h0.2.trans (KpR.alloc w2 o (by omega))).trans ⟨hg.size, fun k h0 h1 => hg.block k (by simp; omega) (fun e => by have := (hv k e.symm).1; omega)⟩).trans (KpR.setC w3 v' (by show H + 2 < H + 4; omega))
theorem ln_put {H k : Nat} {w w2 w3 : World} {o : Obj} {v v' : Value} {rs : List LRow} {r : LRow} (h : LnSt H w w2 k v rs) (hw : w2.ownsRow (H + 7) 106 2 r.val (cutR (str r.p)).length (wcells (wlist (str r.p) (cutR (str r.p)))))
    (hown : w3.ownsRow (H + 7) 62 2 v' (rs.length + 1) (lcells rs ++ [.int .i64 (r.n : Int), r.val])) (hg : (w2.alloc o).grownBy w3 v.ownBlock) :
    LnSt H w (w3.setCell ⟨H + 2, 0, none⟩ v') k v' (rs ++ [r]) := by
  have hne : ∀ k, k < H + 7 → some k ≠ v.ownBlock := fun k hk e => by have := (own_cells h.own k e.symm).1; omega
  have hne' : v'.ownBlock ≠ some (H + 2) := fun e => by have := (own_cells hown _ e).1; omega
  have hsz := h.siz
  have hty : ∀ {r : LRow}, w2.ownsRow (H + 7) 106 2 r.val (cutR (str r.p)).length (wcells (wlist (str r.p) (cutR (str r.p)))) → (w3.setCell ⟨H + 2, 0, none⟩ v').ownsRow (H + 7) 106 2 r.val (cutR (str r.p)).length (wcells (wlist (str r.p) (cutR (str r.p)))) := by
    intro r hr
    have h1 : w3.ownsRow (H + 7) 106 2 r.val (cutR (str r.p)).length (wcells (wlist (str r.p) (cutR (str r.p)))) := by
      refine (hr.alloc o).kept hg ?_
      rcases hr.2 with ⟨e, _⟩ | ⟨g, cap, cur, e, _, hgc, _⟩
      · left; rw [e]; rfl
      · right
        rcases h.own.2 with ⟨e', _⟩ | ⟨g', cap', cur', e', _, hgc', _⟩
        · rw [e, e']; simp [Value.ownBlock]
        · rw [e, e']
          intro hh
          have : g = g' := by simpa [Value.ownBlock] using hh
          subst this
          rw [hgc] at hgc'; cases hgc'
    exact own_set h1 (fun e => by have := (own_cells h1 _ e).1; omega) _
  refine ⟨((h.c0.alloc o).grown hg (hne _ (by omega))).far (by simp) _, ((h.c1.alloc o).grown hg (hne _ (by omega))).far (by simp) _, ((h.c2.alloc o).grown hg (hne _ (by omega))).set0 rfl, ((h.c3.alloc o).grown hg (hne _ (by omega))).far (by simp) _, ?_, ?_, ?_, ?_⟩
  · rw [List.length_append, lcells_snoc]
    exact own_set hown hne' _
  · intro q hq
    rcases List.mem_append.1 hq with hq | hq
    · exact hty (h.wrd q hq)
    · rw [List.mem_singleton.1 hq]; exact hty hw
  · have hb := (h.bel.alloc (by omega) o).grown hg (by simp; omega) (fun k hk => by have := (own_cells h.own k hk).1; omega)
    exact hb.setCell (p := ⟨H + 2, 0, none⟩) (by show H ≤ H + 2; omega) _
  · have := hg.size
    have := (KeepsOthers.setCell w3 ⟨H + 2, 0, none⟩ v').size
    simp at *; omega

theorem ln_err {H lo k : Nat} {w W w1 : World} {u v : Value} {rs : List LRow} {X : Obj} (hb : Below (W.setCell ⟨H + 3, 0, none⟩ u).heap.size (W.setCell ⟨H + 3, 0, none⟩ u) w1) (h : LnSt H w w1 k v rs) (l a c : Int) :
    KeepsFrom lo W (((((w1.setCell ⟨H, 0, none⟩ (.slice none 0 0)).setCell ⟨H + 1, 0, none⟩ (.int .i64 l)).setCell ⟨H + 1, 1, none⟩ (.int .i64 a)).setCell ⟨H + 1, 2, none⟩ (.int .i64 c)).alloc X).drew ∧
    LnEx H w (((((w1.setCell ⟨H, 0, none⟩ (.slice none 0 0)).setCell ⟨H + 1, 0, none⟩ (.int .i64 l)).setCell ⟨H + 1, 1, none⟩ (.int .i64 a)).setCell ⟨H + 1, 2, none⟩ (.int .i64 c)).alloc X).drew l a c := by
  constructor
  · exact (((((((KeepsOthers.setCell W _ _).from lo).trans (KeepsFrom.below hb)).trans ((KeepsOthers.setCell _ _ _).from lo)).trans ((KeepsOthers.setCell _ _ _).from lo)).trans ((KeepsOthers.setCell _ _ _).from lo)).trans ((KeepsOthers.setCell _ _ _).from lo)).trans (((KeepsOthers.alloc _ X).from lo).trans ((KeepsOthers.drew _).from lo))
  · refine ⟨(((((h.c0.set0 rfl).far (by simp) _).far (by simp) _).far (by simp) _).alloc X).drew, ((((((h.c1.far (by simp) _).set_ 0 _).set_ 1 _).set_ 2 _).alloc X).drew), ?_⟩
    have hb4 := (((h.bel.setCell (p := ⟨H, 0, none⟩) (Nat.le_refl _) (.slice none 0 0)).setCell (p := ⟨H + 1, 0, none⟩) (by show H ≤ H + 1; omega) (.int .i64 l)).setCell (p := ⟨H + 1, 1, none⟩) (by show H ≤ H + 1; omega) (.int .i64 a)).setCell (p := ⟨H + 1, 2, none⟩) (by show H ≤ H + 1; omega) (.int .i64 c)
    exact (hb4.alloc (Nat.le_trans (Nat.le_of_lt h.c0.lt) (Nat.le_trans (KeepsOthers.setCell w1 _ _).size (Nat.le_trans (KeepsOthers.setCell _ _ _).size (Nat.le_trans (KeepsOthers.setCell _ _ _).size (KeepsOthers.setCell _ _ _).size)))) X).drew

/-- What lex.Lines hands back of a text that is not too long. -/
def LinesP (s : List UInt8) (w : World) (e : Ending) (w' : World) : Prop :=
  Below w.heap.size w w' ∧
  ((∃ pre p post, pieces 10 s = pre ++ p :: post ∧ (∀ x ∈ pre, (cutF (str x)).2 = 0) ∧ (cutF (str p)).2 ≠ 0 ∧
      e = .returned (.tuple #[.slice none 0 0, .agg #[.int .i64 ((pre.length + 1 : Nat) : Int), .int .i64 ((cutF (str p)).1 : Nat), .int .i64 ((cutF (str p)).2 : Nat)]])) ∨
   (∃ (A : Option Addr) (c : Nat) (rs : List LRow), (∀ x ∈ pieces 10 s, (cutF (str x)).2 = 0) ∧ rs.map (fun r => (r.n, r.p)) = keepN 0 (pieces 10 s) ∧
      e = .returned (.tuple #[.slice A rs.length c, .agg #[.int .i64 0, .int .i64 0, .int .i64 0]]) ∧ w'.ownsRow (w.heap.size + 7) 62 2 (.slice A rs.length c) rs.length (lcells rs) ∧ LWords (w.heap.size + 7) w' rs))

theorem own_put {w : World} {base e size n D : Nat} {v : Value} {xs : List Value} {o : Obj} (h : w.ownsRow base e size v n xs) (hK : w.heap[D]? = some o) (ho : o.isCells = false) (o' : Obj) : (w.putObj D o').ownsRow base e size v n xs :=
  h.kept (grownBy_putObj' w D o') (by
    rcases h.2 with ⟨rfl, _⟩ | ⟨g, cap, cur, rfl, _, hgc, _⟩
    · exact .inl rfl
    · refine .inr (fun e => ?_)
      have : g = D := by simpa [Value.ownBlock] using e
      subst this
      rw [hgc] at hK; cases hK; cases ho)
theorem own_sets {w : World} {base e size n H i : Nat} {v u : Value} {xs : List Value} (h : w.ownsRow base e size v n xs) (hb : H < base) : (w.setCell ⟨H, i, none⟩ u).ownsRow base e size v n xs :=
  own_set h (fun e => by have := (own_cells h _ e).1; omega) _

theorem ln_ret {s : List UInt8} {w W : World} {a : Act} {D : Nat} {A0 : Option Addr} {n0 m : Nat} {x y z : Int} (k0 : Blk W w.heap.size 38 #[.slice A0 n0 m]) (k1 : Blk W (w.heap.size + 1) 41 #[.int .i64 x, .int .i64 y, .int .i64 z]) (hK : W.heap[D]? = some (.deferred (some []))) (hD : w.heap.size + 7 ≤ D)
    (hd : a.defers = [{ target := .collected D, args := #[] }]) (t2 : a.tmps[2]?.getD undef = .pointer (some ⟨w.heap.size, 0, none⟩)) (t3 : a.tmps[3]?.getD undef = .pointer (some ⟨w.heap.size + 1, 0, none⟩))
    (R : LinesP s w (.returned (.tuple #[.slice A0 n0 m, .agg #[.int .i64 x, .int .i64 y, .int .i64 z]])) (W.putObj D (.deferred none))) : bodyPostM Fence.wide 5 Tryd.prog Tryd.f26 (LinesP s w) Exit.ret a W := by
  have j0 := k0.put (D := D) (by omega) (.deferred none)
  have j1 := k1.put (D := D) (by omega) (.deferred none)
  have e0 := j0.cell 0
  have e10 := j1.cell 0
  have e11 := j1.cell 1
  have e12 := j1.cell 2
  have f0 := j0.frozen 0
  have f10 := j1.frozen 0
  have f11 := j1.frozen 1
  have f12 := j1.frozen 2
  show LeavesInM Fence.wide 5 Tryd.prog Tryd.f26 a.tmps (LinesP s w) a.defers .returning W
  rw [hd]
  refine ⟨by simp, .inl ⟨_, _, rfl, run_takeDeferred hK, ?_⟩⟩
  refine ⟨.tuple #[.slice A0 n0 m, .agg #[.int .i64 x, .int .i64 y, .int .i64 z]], ?_, R⟩
  simp [results, Tryd.results26, go_sem, t2, t3, e0, e10, e11, e12, f0, f10, f11, f12]

set_option maxRecDepth 100000 in
set_option maxHeartbeats 4000000 in
theorem lines_any (s : List UInt8) (hs : s.length ≤ 100000) (hc : s.count 10 ≤ 2000) (w : World) :
    Calls Tryd.prog 26 #[.string (str s)] w (LinesP s w) := by
  have HC := hide (Tryd.strings_Count_one (str s) 10)
  have hct : Lib.countByte (str s).data.toList 10 = s.count 10 := by rw [str_data]; rfl
  rw [hct] at HC
  obtain ⟨z, hz⟩ : ∃ z, s.count 10 = z := ⟨_, rfl⟩
  rw [hz] at HC hc
  have hsz := str_size s
  have hl1 : decide ((100000 : Int) < (s.length : Int)) = false := by simp; omega
  have hl2 : decide ((2000 : Int) < (z : Int)) = false := by simp; omega
  clear hct hz
  refine (callsIn_wide (n := 5)).1 (callsIn_of_wp_marks Tryd.func26 rfl trivial ?_ rfl)
  simp only [Tryd.ntmps26, List.size_toArray, List.length_cons, List.length_nil, Nat.reduceAdd, Nat.reduceSub, Array.replicate_succ, Array.replicate_zero, List.push_toArray, List.append_toArray, List.nil_append, List.cons_append]
  gi_wp2_with (first | (refine ⟨trivial, ?_⟩; gi_at_call 87; refine (callsIn_wide.2 (HC.out _)).mono ?_; rintro e w1 ⟨rfl, rfl⟩) | (refine ⟨trivial, ?_⟩; gi_at_call 88; refine (callsIn_wide.2 (SplitSeq_any _ _ _)).mono ?_; rintro e w1 ⟨rfl, rfl⟩))
  obtain ⟨k0, k1, k2, k3, k4, k5, k6⟩ := lnW_blks (str s) w
  have hsz2 := lnW_size (str s) w
  refine wpIn_rangeFunc_cell (w := lnW (str s) w) rfl (by omega) (gf := 166) (lb := #[.pointer (some ⟨w.heap.size + 4 + 1, 0, none⟩), .pointer (some ⟨w.heap.size + 4, 0, none⟩), .pointer (some ⟨w.heap.size + 4 + 2, 0, none⟩)]) rfl trivial (enters_of Tryd.func166 (by kernel_rfl) rfl)
    (encs := fun x : List UInt8 => #[.string (str x)]) (b0 := w.heap.size + 4) (b1 := w.heap.size + 7) (by omega) (by omega) (xs := pieces 10 s)
    (fun l W hk => splitSeq1_in 4 (by omega) l (w.heap.size + 4) 10 s (by omega) _ rfl W (hk.blk (by omega) (by omega) k4) (hk.blk (by omega) (by omega) k5) (hk.blk (by omega) (by omega) k6)) (fun _ => rfl)
    (fun pre W => (∀ x ∈ pre, (cutF (str x)).2 = 0) ∧ ∃ (v : Value) (rs : List LRow), rs.map (fun r => (r.n, r.p)) = keepN 0 pre ∧ LnSt w.heap.size w W pre.length v rs)
    (fun c pre W => c = .ret ∧ ∃ qs p, pre = qs ++ [p] ∧ (∀ x ∈ qs, (cutF (str x)).2 = 0) ∧ (cutF (str p)).2 ≠ 0 ∧ LnEx w.heap.size w W (pre.length : Nat) ((cutF (str p)).1 : Nat) ((cutF (str p)).2 : Nat))
    (fun s A B row hs hg hr => by
      obtain ⟨h0, v, rs, h1, h3⟩ := hs
      exact ⟨h0, v, rs, h1, h3.abide (by omega) hg hr⟩)
    (fun c s A B row hs hg hr => by
      obtain ⟨h0, qs, p, h1, h2, h3, h4⟩ := hs
      exact ⟨h0, qs, p, h1, h2, h3, h4.abide (by omega) hg hr⟩)
    ⟨by simp, _, [], rfl, k0, k1, k2, k3, World.ownsRow_nil _ _ _ _, by simp [LWords], lnW_below _ _, by omega⟩
    (fun x => { tmps := #[.string (str s), undef, .pointer (some ⟨w.heap.size, 0, none⟩), .pointer (some ⟨w.heap.size + 1, 0, none⟩), .pointer (some ⟨w.heap.size + 2, 0, none⟩), .pointer (some ⟨w.heap.size + 3, 0, none⟩), .string (str x), undef, undef, .string (str s), .int .i64 (s.length : Nat), .bool false, .bool false, .string (str s), .int .i64 (z : Nat), .bool false, .bool false, undef, .string (str s),
        .func (.func 166) #[] #[.pointer (some ⟨w.heap.size + 4 + 1, 0, none⟩), .pointer (some ⟨w.heap.size + 4, 0, none⟩), .pointer (some ⟨w.heap.size + 4 + 2, 0, none⟩)], .string (str x), undef, undef, undef, undef, undef, undef, undef, undef, undef, undef, undef, undef, undef, undef, undef, undef, undef, undef, undef, undef, undef, undef, undef, undef], defers := [] }) ?assign ?body ?done ?stop
  case assign =>
    intro l x W K hK
    gi_wp2
    exact hK
  case body =>
    rintro l pre p post W hx ⟨hg0, v, rs, hrs, hst⟩
    have hlen : p.length ≤ 100000 := by
      have := piece_len 10 s p (by rw [← hx]; simp)
      omega
    have hpl : pre.length ≤ 100001 := by
      have h1 := pieces_len 10 s
      rw [← hx] at h1
      simp at h1; omega
    have hsW : w.heap.size + 7 ≤ W.heap.size := hst.siz
    have hps := str_size p
    have HS := hide (hst.count (x := (pre.length : Int) + 1) (by simp))
    have HCut := hide (fun w => lexcut_any (str p) w (by rw [hps]; unfold maxLen; omega))
    have d3 := hst.c3.cell 0
    have f3 := hst.c3.frozen 0
    have hwr : IntKind.wrap .i64 ((pre.length : Int) + 1) = (pre.length : Int) + 1 := by simp [IntKind.wrap, IntKind.bits, IntKind.signed]; omega
    have HRS := hide hrs
    have HG0 := hide hg0
    clear hrs hst hx hg0
    gi_wp2_with fail
    refine ⟨trivial, ?_⟩
    gi_at_call 89
    refine (CallsIn.inRound l (callsIn_wide.2 (HCut.out _))).mono ?_
    rintro e w1 ⟨A, c, rfl, hwd, hb1⟩
    have hs1 := hb1.size
    have HB1 := hide hb1
    have hws := (KeepsOthers.setCell W ⟨w.heap.size + 3, 0, none⟩ (.int .i64 ((pre.length : Int) + 1))).size
    obtain ⟨a0, ha0⟩ : ∃ a0, (cutF (str p)).1 = a0 := ⟨_, rfl⟩
    obtain ⟨cd, hcd⟩ : ∃ cd, (cutF (str p)).2 = cd := ⟨_, rfl⟩
    obtain ⟨k, hk⟩ : ∃ k, (cutR (str p)).length = k := ⟨_, rfl⟩
    rw [ha0, hcd, hk]
    rw [hk] at hwd
    have hal : Below w1.heap.size w1 (w1.alloc (.cells #[.int .i64 0, .int .i64 (a0 : Int), .int .i64 (cd : Int)] 41)) := (Below.refl _ w1).alloc (Nat.le_refl _) _
    have HS1 := hide (HS.out.below hb1)
    have HS2 := hide ((HS.out.below hb1).below hal)
    have HB2 := hide (hb1.trans (hal.mono hs1))
    have HWD := hide (own_below hwd hal)
    have HA0 := hide ha0
    have HCD := hide hcd
    have HK := hide hk
    obtain ⟨A0, c0, rfl⟩ := own_slice HS2.out.own
    have e2 := HS1.out.c2.cell 0
    have e3 := HS1.out.c3.cell 0
    have q2 := HS1.out.c2.frozen 0
    have e0 := HS1.out.c0.cell 0
    have q0 := HS1.out.c0.frozen 0
    have e10 := HS1.out.c1.cell 0
    have e11 := HS1.out.c1.cell 1
    have e12 := HS1.out.c1.cell 2
    have q10 := HS1.out.c1.frozen 0
    have q11 := HS1.out.c1.frozen 1
    have q12 := HS1.out.c1.frozen 2
    have g0 : w.heap.size < w1.heap.size := HS1.out.c0.lt
    have g1 : w.heap.size + 1 < w1.heap.size := HS1.out.c1.lt
    have g2 : w.heap.size + 2 < w1.heap.size := HS1.out.c2.lt
    have g3 : w.heap.size + 3 < w1.heap.size := HS1.out.c3.lt
    clear hwd hb1 ha0 hcd hk HCut hal
    by_cases hc0 : cd = 0
    · subst hc0
      have HG1 : Hid (∀ x ∈ pre ++ [p], (cutF (str x)).2 = 0) := hide (fun x hx => by
        rcases List.mem_append.1 hx with hx | hx
        · exact HG0.out x hx
        · rw [List.mem_singleton.1 hx]; exact HCD.out)
      by_cases hk0 : k = 0
      · subst hk0
        gi_wp2
        have hst := ln_step0 (lo := (lnW (str s) w).heap.size) hsW HB2.out
        exact ⟨hst.1, hst.2, HG1.out, _, rs, by rw [keepN_snoc, if_pos (List.eq_nil_of_length_eq_zero HK.out), List.append_nil]; exact HRS.out, by rw [List.length_append]; exact HS2.out⟩
      · have hk1 : decide (0 < k) = true := by simp; omega
        have hkr : Hid (cutR (str p) ≠ []) := hide (fun e => hk0 (by rw [← HK.out, e]; rfl))
        have hrl : rs.length ≤ 100001 := by
          have h1 := congrArg List.length HRS.out
          have h2 := keepN_len 0 pre
          rw [List.length_map] at h1; omega
        obtain ⟨i0, hi, hz0, hz1, hz2⟩ := info_parts lineInfo
        gi_wp2_with (gi_at_builtin; refine wpListIn_append_own _ rfl (.tmp 37) (.tmp 41) 38 rfl (w.heap.size + 7) 62 i0 _ 2 32 Tryd.underlying38 hi hz0 hz1 hz2 rfl (by decide) (.slice A0 rs.length c0) rs.length (lcells rs) rfl (HS2.out.own.alloc _) ⟨w1.heap.size + 1, 0, none⟩ 1 1 [.int .i64 ((pre.length : Int) + 1), .slice A k c] rfl rfl (two_new _ _ _ _ _) (by simp [Value.oneCell']) (by unfold maxLen; omega) (by omega) (by simp; omega) ?_; intro v' w3 hown' hgrow _; have HO := hide hown'; have HG := hide hgrow; obtain ⟨A', c', rfl⟩ := own_slice hown'; clear hown' hgrow; have k23 : Blk w3 (w.heap.size + 2) 38 #[.slice A0 rs.length c0] := (HS2.out.c2.alloc _).grown HG.out (fun e => by have := (own_cells HS2.out.own _ e.symm).1; omega); have d23 := k23.cell 0; have f23 := k23.frozen 0)
        have hst := ln_step (lo := (lnW (str s) w).heap.size) (v' := .slice A' (rs.length + 1) c') hsW HB2.out (own_cells (HS2.out.own.alloc _)) HG.out
        have hrv : (LRow.mk (pre.length + 1) p A c).val = .slice A k c := by show Value.slice A (cutR (str p)).length c = _; rw [HK.out]
        refine ⟨hst.1, hst.2, HG1.out, .slice A' (rs.length + 1) c', rs ++ [⟨pre.length + 1, p, A, c⟩], by rw [keepN_snoc, if_neg hkr.out, List.map_append, HRS.out]; simp, ?_⟩
        rw [List.length_append]
        refine ln_put HS2.out ?_ ?_ HG.out
        · rw [hrv]
          show World.ownsRow _ _ _ _ _ (cutR (str p)).length _
          rw [HK.out]
          exact own_low (base := w.heap.size + 7) (base' := (W.setCell ⟨w.heap.size + 3, 0, none⟩ (.int .i64 ((pre.length : Int) + 1))).heap.size - (w.heap.size + 7)) (by rw [Nat.add_sub_cancel' (by omega)]; exact HWD.out)
        · rw [hrv]; exact HO.out
    · have hc1 : ((cd : Int) == 0) = false := by simp; omega
      have hc2 : ((cd : Int) != 0) = true := by simp; omega
      gi_wp2
      have hll : (((pre ++ [p]).length : Nat) : Int) = (pre.length : Int) + 1 := by simp
      have HW := hide (ln_err (lo := (lnW (str s) w).heap.size) (X := .cells #[.int .i64 ((pre.length : Int) + 1), .int .i64 (a0 : Int), .int .i64 (cd : Int)] 41) HB1.out HS1.out ((pre.length : Int) + 1) (a0 : Int) (cd : Int))
      gi_region
      all_goals
        gi_wp2
        refine ⟨HW.out.1, rfl, pre, p, rfl, HG0.out, by rw [HCD.out]; exact hc0, ?_⟩
        rw [hll, HA0.out, HCD.out]
        exact HW.out.2
  case done =>
    rintro D W hD ⟨hg0, v, rs, hrs, hst⟩ hK
    obtain ⟨A0, c0, rfl⟩ := own_slice hst.own
    rw [hsz2] at hD
    have HS := hide hst
    have HRS := hide hrs
    have HG0 := hide hg0
    have e2 := hst.c2.cell 0
    have e0 := hst.c0.cell 0
    have e10 := hst.c1.cell 0
    have e11 := hst.c1.cell 1
    have e12 := hst.c1.cell 2
    have f0 := hst.c0.frozen 0
    have f10 := hst.c1.frozen 0
    have f11 := hst.c1.frozen 1
    have f12 := hst.c1.frozen 2
    clear hrs hst hg0
    gi_wp2
    have hK2 : (((((W.setCell ⟨w.heap.size, 0, none⟩ (.slice A0 rs.length c0)).setCell ⟨w.heap.size + 1, 0, none⟩ (.int .i64 0)).setCell ⟨w.heap.size + 1, 1, none⟩ (.int .i64 0)).setCell ⟨w.heap.size + 1, 2, none⟩ (.int .i64 0))).heap[D]? = some (.deferred (some [])) :=
      (KeepsOthers.setCell _ _ _).same D _ ((KeepsOthers.setCell _ _ _).same D _ ((KeepsOthers.setCell _ _ _).same D _ ((KeepsOthers.setCell _ _ _).same D _ hK rfl) rfl) rfl) rfl
    have hb4 := (((HS.out.bel.setCell (p := ⟨w.heap.size, 0, none⟩) (Nat.le_refl _) (.slice A0 rs.length c0)).setCell (p := ⟨w.heap.size + 1, 0, none⟩) (by show w.heap.size ≤ w.heap.size + 1; omega) (.int .i64 0)).setCell (p := ⟨w.heap.size + 1, 1, none⟩) (by show w.heap.size ≤ w.heap.size + 1; omega) (.int .i64 0)).setCell (p := ⟨w.heap.size + 1, 2, none⟩) (by show w.heap.size ≤ w.heap.size + 1; omega) (.int .i64 0)
    refine ln_ret ((((HS.out.c0.set0 rfl).far (by simp) _).far (by simp) _).far (by simp) _) ((((HS.out.c1.far (by simp) _).set_ 0 _).set_ 1 _).set_ 2 _) hK2 hD rfl rfl rfl ⟨below_put hb4 hK2 (by omega) _, .inr ⟨A0, c0, rs, HG0.out, HRS.out, rfl, ?_, fun r hr => ?_⟩⟩
    · exact own_put (own_sets (own_sets (own_sets (own_sets HS.out.own (by omega)) (by omega)) (by omega)) (by omega)) hK2 rfl _
    · exact own_put (own_sets (own_sets (own_sets (own_sets (HS.out.wrd r hr) (by omega)) (by omega)) (by omega)) (by omega)) hK2 rfl _
  case stop =>
    rintro D c pre x post W hD hx ⟨rfl, qs, p, hqs, hgood, hbad, hex⟩ hK
    rw [hsz2] at hD
    obtain ⟨rfl, rfl⟩ : qs = pre ∧ p = x := by
      have := List.append_inj' hqs rfl
      exact ⟨this.1.symm, by simpa using this.2.symm⟩
    have HX := hide hex
    have HXX := hide hx
    have HGD := hide hgood
    have HBD := hide hbad
    clear hex hx hgood hbad hqs
    gi_wp2
    refine ln_ret HX.out.c0 HX.out.c1 hK hD rfl rfl rfl ⟨below_put HX.out.bel hK (by omega) _, .inl ⟨qs, p, post, HXX.out.symm, HGD.out, HBD.out, ?_⟩⟩
    rw [List.length_append]; rfl
end Go.Proofs.YtiibglkiakhfgaaDoor
