import Derived.Test.YtcinjckajnnhmaaGreatRp7
import Derived.Deep.CutBlock
import Derived.Lib.QuietBelow
import Derived.Shelf.SlSortCmp.WholeK
set_option linter.unusedSimpArgs false
set_option linter.unusedVariables false
namespace Go.Proofs.YtcinjckajnnhmaaGreat
open Go.RowKit Go.WideShapes Go.ChangeShapes
attribute [local go_sem] Oper.semAt_some
structure P3X (T : TypeId) (sz p0 p1 pb p2 B0 n1 : Nat) (X1 cs : List Value) (D : Nat → Bool) (u : Nat → Value) (w : World) : Prop where
  d1 : D p1 = true → D p0 = true
  d2 : D p2 = true → D p1 = true ∧ D pb = true
  r0 : D p0 = true → D p1 = false → w.ownsRow B0 T sz (u p0) 0 []
  r1 : D p1 = true → D p2 = false → w.ownsRow B0 T sz (u p1) n1 X1
  r2 : D p2 = true → w.ownsRow B0 T sz (u p2) (n1 + 1) (X1 ++ cs)
  bx : D pb = true → D p2 = false → ∃ R, u pb = .slice (some ⟨R, 0, none⟩) 1 1 ∧ B0 ≤ R ∧ Blk w R T cs.toArray ∧ (D p0 = true → D p1 = false → (u p0).ownBlock ≠ some R) ∧ (D p1 = true → (u p1).ownBlock ≠ some R)
section
variable {T : TypeId} {sz p0 p1 pb p2 B0 n1 : Nat} {X1 cs : List Value} {D : Nat → Bool} {u : Nat → Value} {w w' : World} {v : Value}
theorem p3_start (u : Nat → Value) (w : World) : P3X T sz p0 p1 pb p2 B0 n1 X1 cs (fun _ => false) u w := by constructor <;> intro h <;> cases h
theorem upd_ne {q x : Nat} (hx : x ≠ q) : updD D q x = D x ∧ updU u q v x = u x := by simp [updD, updU, hx]
theorem upd_eq (q : Nat) : updD D q q = true ∧ updU u q v q = v := by simp [updD, updU]
theorem p3_other {q : Nat} (h : P3X T sz p0 p1 pb p2 B0 n1 X1 cs D u w) (hb : Below w.heap.size w w') (h0 : q ≠ p0) (h1 : q ≠ p1) (h2 : q ≠ pb) (h3 : q ≠ p2) : P3X T sz p0 p1 pb p2 B0 n1 X1 cs (updD D q) (updU u q v) w' := by
 have e0 := upd_ne (D := D) (u := u) (v := v) h0.symm; have e1 := upd_ne (D := D) (u := u) (v := v) h1.symm; have e2 := upd_ne (D := D) (u := u) (v := v) h2.symm; have e3 := upd_ne (D := D) (u := u) (v := v) h3.symm; refine ⟨?_, ?_, ?_, ?_, ?_, ?_⟩
 ·rw [e0.1, e1.1]; exact h.d1
 ·rw [e1.1, e2.1, e3.1]; exact h.d2
 ·rw [e0.1, e1.1, e0.2]; exact fun x y => own_below (h.r0 x y) hb
 ·rw [e1.1, e3.1, e1.2]; exact fun x y => own_below (h.r1 x y) hb
 ·rw [e3.1, e3.2]; exact fun x => own_below (h.r2 x) hb
 ·rw [e2.1, e3.1, e0.1, e1.1, e0.2, e1.2, e2.2]; intro x y; obtain ⟨R, e, hR, hk, h4, h5⟩ := h.bx x y; exact ⟨R, e, hR, hk.below hb hk.lt, h4, h5⟩
theorem p3_p0 (h : P3X T sz p0 p1 pb p2 B0 n1 X1 cs D u w) (hb : Below w.heap.size w w') (hno : D p0 = false) (h01 : p0 ≠ p1) (h0b : p0 ≠ pb) (h02 : p0 ≠ p2) (hr : w'.ownsRow B0 T sz v 0 []) (hv : ∀ k, v.ownBlock = some k → w.heap.size ≤ k) : P3X T sz p0 p1 pb p2 B0 n1 X1 cs (updD D p0) (updU u p0 v) w' := by
 have k1 : D p1 = false := by
  cases hk : D p1 with
  | false => rfl
  | true => have := h.d1 hk; rw [hno] at this; cases this
 have k2 : D p2 = false := by
  cases hk : D p2 with
  | false => rfl
  | true => have := (h.d2 hk).1; rw [k1] at this; cases this
 have e1 := upd_ne (D := D) (u := u) (v := v) h01.symm; have e2 := upd_ne (D := D) (u := u) (v := v) h0b.symm; have e3 := upd_ne (D := D) (u := u) (v := v) h02.symm; have e0 := upd_eq (D := D) (u := u) (v := v) p0; refine ⟨?_, ?_, ?_, ?_, ?_, ?_⟩
 ·rw [e1.1, k1]; intro h; cases h
 ·rw [e3.1, k2]; intro h; cases h
 ·rw [e0.2]; exact fun _ _ => hr
 ·rw [e1.1, k1]; intro h; cases h
 ·rw [e3.1, k2]; intro h; cases h
 ·rw [e2.1, e3.1, e0.1, e1.1, e0.2, e1.2, e2.2]; intro x y; obtain ⟨R, e, hR, hk, h4, h5⟩ := h.bx x y; exact ⟨R, e, hR, hk.below hb hk.lt, fun _ _ e => by have := hv R e; have := hk.lt; omega, h5⟩
theorem p3_pb (h : P3X T sz p0 p1 pb p2 B0 n1 X1 cs D u w) (hb : Below w.heap.size w w') (hno : D pb = false) (h01 : pb ≠ p0) (h0b : pb ≠ p1) (h02 : pb ≠ p2) {R : Nat} (hv : v = .slice (some ⟨R, 0, none⟩) 1 1) (hR : w.heap.size ≤ R) (hB : B0 ≤ w.heap.size) (hk : Blk w' R T cs.toArray) : P3X T sz p0 p1 pb p2 B0 n1 X1 cs (updD D pb) (updU u pb v) w' := by
 have k2 : D p2 = false := by
  cases hk : D p2 with
  | false => rfl
  | true => have := (h.d2 hk).2; rw [hno] at this; cases this
 have e0 := upd_ne (D := D) (u := u) (v := v) h01.symm; have e1 := upd_ne (D := D) (u := u) (v := v) h0b.symm; have e3 := upd_ne (D := D) (u := u) (v := v) h02.symm; have e2 := upd_eq (D := D) (u := u) (v := v) pb; refine ⟨?_, ?_, ?_, ?_, ?_, ?_⟩
 ·rw [e0.1, e1.1]; exact h.d1
 ·rw [e3.1, k2]; intro h; cases h
 ·rw [e0.1, e1.1, e0.2]; exact fun x y => own_below (h.r0 x y) hb
 ·rw [e1.1, e3.1, e1.2]; exact fun x y => own_below (h.r1 x y) hb
 ·rw [e3.1, k2]; intro h; cases h
 ·rw [e2.1, e2.2, e3.1, e0.1, e1.1, e0.2, e1.2]; intro _ _; exact ⟨R, hv, Nat.le_trans hB hR, hk, fun x y e => by have := own_block_lt (h.r0 x y) R e; omega, fun x e => by have := own_block_lt (h.r1 x k2) R e; omega⟩
theorem p3_p1 (h : P3X T sz p0 p1 pb p2 B0 n1 X1 cs D u w) (hno : D p1 = false) (hd0 : D p0 = true) (h01 : p1 ≠ p0) (h0b : p1 ≠ pb) (h02 : p1 ≠ p2) (hr : w'.ownsRow B0 T sz v n1 X1) (hg : w.grownBy w' (u p0).ownBlock) (hv : v.ownBlock = (u p0).ownBlock ∨ v.ownBlock = some w.heap.size) : P3X T sz p0 p1 pb p2 B0 n1 X1 cs (updD D p1) (updU u p1 v) w' := by
 have k2 : D p2 = false := by
  cases hk : D p2 with
  | false => rfl
  | true => have := (h.d2 hk).1; rw [hno] at this; cases this
 have e0 := upd_ne (D := D) (u := u) (v := v) h01.symm; have e2 := upd_ne (D := D) (u := u) (v := v) h0b.symm; have e3 := upd_ne (D := D) (u := u) (v := v) h02.symm; have e1 := upd_eq (D := D) (u := u) (v := v) p1; refine ⟨?_, ?_, ?_, ?_, ?_, ?_⟩
 ·rw [e0.1]; exact fun _ => hd0
 ·rw [e3.1, k2]; intro h; cases h
 ·rw [e1.1]; intro _ h; cases h
 ·rw [e1.2]; exact fun _ _ => hr
 ·rw [e3.1, k2]; intro h; cases h
 ·rw [e2.1, e2.2, e3.1, e0.1, e1.1, e1.2]; intro x y; obtain ⟨R, e, hR, hk, h4, h5⟩ := h.bx x y; refine ⟨R, e, hR, hk.grown hg (fun e => h4 hd0 hno e.symm), (fun _ h => by cases h), fun _ e => ?_⟩; rcases hv with e1 | e1
  ·exact h4 hd0 hno (e1 ▸ e)
  ·rw [e1] at e; injection e with e
   have := hk.lt; omega
theorem p3_p2 (h : P3X T sz p0 p1 pb p2 B0 n1 X1 cs D u w) (hd1 : D p1 = true) (hdb : D pb = true) (h01 : p2 ≠ p0) (h0b : p2 ≠ p1) (h02 : p2 ≠ pb) (hr : w'.ownsRow B0 T sz v (n1 + 1) (X1 ++ cs)) : P3X T sz p0 p1 pb p2 B0 n1 X1 cs (updD D p2) (updU u p2 v) w' := by
 have e0 := upd_ne (D := D) (u := u) (v := v) h01.symm; have e1 := upd_ne (D := D) (u := u) (v := v) h0b.symm; have e2 := upd_ne (D := D) (u := u) (v := v) h02.symm; have e3 := upd_eq (D := D) (u := u) (v := v) p2; refine ⟨?_, ?_, ?_, ?_, ?_, ?_⟩
 ·rw [e0.1, e1.1]; exact h.d1
 ·rw [e1.1, e2.1]; exact fun _ => ⟨hd1, hdb⟩
 ·rw [e1.1, hd1]; intro _ h; cases h
 ·rw [e3.1]; intro _ h; cases h
 ·rw [e3.2]; exact fun _ => hr
 ·rw [e3.1]; intro _ h; cases h
end
theorem relX_app {P : Program} {B : Nat} {Rs : List (Value → World → Prop)} {X : (Nat → Bool) → (Nat → Value) → World → Prop} {l : List Oper} {a : Act} {W : World} {Q : Exit → Act → World → Prop} {i : Nat} {o : Oper} (hg : o.guard = none) (hd : o.dst.isSome = true)
  (h : ∀ (D : Nat → Bool) (A : Act) (w : World), RelPreX Rs X l a B W i o D A w → o.wp P A w (fun A' w' => ∃ v, A' = A.put o.dst v ∧ relAt Rs i v w' ∧ Below B w w' ∧ (∀ j, j ≠ i → D j = true → relAt Rs j (valOf l A j) w') ∧ X (updD D i) (updU (fun j => valOf l A j) i v) w') Q) : RelStepX P B Rs X l a W Q i o := by
 intro D A w hp; rw [if_pos (by simp [Region.wanted, hg])]; refine Oper.wp_mono ?_ (h D A w hp); rintro A' w' ⟨v, rfl, hv, hb, hr, hx⟩; refine ⟨v, rfl, fun e => ?_, hv, hb, hr, hx⟩; rw [e] at hd
 cases hd
def tdF (F : Nat → Prop) (w : World) (vs : List Value) (x : TD) : Prop := FrS F none (fun w => tdR w vs x) w
section
variable {F F' S : Nat → Prop} {w w' : World} {vs xs : List Value} {x : TD} {A : Option Addr} {n c B : Nat} {l : List TD}
theorem tdf_here (h : tdF F w vs x) : tdR w vs x := frs_here h
theorem tdfMono (F : Nat → Prop) : SMono (tdF F) := fun _ _ _ _ hb h => frs_ag h (ags_below hb)
theorem tdf_more (hF : ∀ k, F k → F' k) (h : tdF F w vs x) : tdF F' w vs x := frs_more h hF
theorem tdf_base (hF : ∀ k, F k → k < B) (hb : Below B w w') (h : tdF F w vs x) : tdF F w' vs x := frs_ag h ⟨hb.size, fun k o h0 h1 _ _ => (hb.block k (hF k h0)).trans h1⟩
theorem tdf_chg (hF : ∀ k, F k → ¬ S k) (hc : ChgS S w w') (h : tdF F w vs x) : tdF F w' vs x := frs_chg h hc hF
theorem lst_of_f (h : LstAt 11 (tdF F) w A n c l) : LstAt 11 tdR w A n c l := lst_map (fun _ _ hr => tdf_here hr) h
theorem chunks_map {α : Type} {sz : Nat} {R S : World → List Value → α → Prop} {w w' : World} {l : List α} (hi : ∀ vs x, R w vs x → S w' vs x) (h : Chunks sz R w xs l) : Chunks sz S w' xs l := ⟨h.1, fun k x hk => hi _ _ (h.2 k x hk)⟩
structure LF (F : Nat → Prop) (w : World) (A : Option Addr) (n c : Nat) (l : List TD) : Prop where
  lst : LstAt 11 (tdF F) w A n c l
  row : 0 < n → ∀ a, A = some a → F a.block
theorem LF.chg (h : LF F w A n c l) (hc : ChgS S w w') (hF : ∀ k, F k → ¬ S k) : LF F w' A n c l := by
 refine ⟨⟨h.lst.1, h.lst.2.1, h.lst.2.2.1, fun hn => ?_⟩, h.row⟩; obtain ⟨g, o, e, hg, hx⟩ := h.lst.2.2.2 hn; have hFg := h.row hn _ e; refine ⟨g, o, e, Nat.lt_of_lt_of_le hg hc.size, fun k x hk => ?_⟩; obtain ⟨vs, h1, h2, h3⟩ := hx k x hk; exact ⟨vs, h1, tdf_chg hF hc h2, fun j v hj => (World.cell?_of_block (hc.block g hg (hF g hFg))).trans (h3 j v hj)⟩
theorem LF.below (h : LF F w A n c l) (hb : Below w.heap.size w w') : LF F w' A n c l := h.chg (S := fun _ => False) (chg_below hb) (by simp)
theorem LF.more (h : LF F w A n c l) (hF : ∀ k, F k → F' k) : LF F' w A n c l := ⟨lst_map (fun _ _ hr => tdf_more hF hr) h.lst, fun hn a e => hF _ (h.row hn a e)⟩
theorem LF.nil : LF F w none 0 0 [] := ⟨LstAt.none_, fun h => absurd h (by omega)⟩
theorem LF.of_own (h : w'.ownsRow B 71 11 (.slice A n c) n xs) (hc : Chunks 11 (tdF F) w xs l) (hF : ∀ k, F k → k < B) (hb : Below B w w') : LF (fun j => F j ∨ (B ≤ j ∧ j < w'.heap.size)) w' A n c l := by
 refine ⟨LstAt.of_own (by decide) h (chunks_map (fun vs x hr => tdf_more (fun k hk => .inl hk) (tdf_base hF hb hr)) hc), fun hn a e => .inr ⟨?_, ?_⟩⟩
 ·exact own_low_block h a.block (by rw [e]; rfl)
 ·exact own_block_lt h a.block (by rw [e]; rfl)
theorem LF.of_low {xs : List Value} (h : LOw 11 71 tdR w B B A n c l xs) : LF (fun j => B ≤ j ∧ j < w.heap.size) w A n c l := by
 refine ⟨LstAt.of_own (by decide) h.1 ⟨h.2.1, fun k x hk => ?_⟩, fun hn a e => ⟨own_low_block h.1 a.block (by rw [e]; rfl), own_block_lt h.1 a.block (by rw [e]; rfl)⟩⟩; exact frs_of_frb (h.2.2 k x hk).none_
theorem TFat {q : Nat} {L : List (Nat × Nat × AT)} (h : LstAt 11 (tdF F) w A n c (L.map tdZ)) (hq : q < n) : ∃ g o z B1 k1 c1 B2 m2 d2, A = some ⟨g, o, none⟩ ∧ g < w.heap.size ∧ L[q]? = some z ∧ tdF F w [.int .u32 (z.1 : Int), .int .i64 (z.2.1 : Int), .int .i64 z.2.2.has, .int .i64 z.2.2.org, .slice B1 k1 c1, .int .u32 z.2.2.hop, .int .u32 z.2.2.med, .int .u32 z.2.2.pref, .int .u32 z.2.2.aas, .int .u32 z.2.2.aid, .slice B2 m2 d2] (tdZ z) ∧ LstAt 2 sgR w B1 k1 c1 z.2.2.path ∧ U32s w B2 m2 d2 z.2.2.comms ∧ ∀ (j : Nat) (v : Value), [.int .u32 (z.1 : Int), .int .i64 (z.2.1 : Int), .int .i64 z.2.2.has, .int .i64 z.2.2.org, .slice B1 k1 c1, .int .u32 z.2.2.hop, .int .u32 z.2.2.med, .int .u32 z.2.2.pref, .int .u32 z.2.2.aas, .int .u32 z.2.2.aid, .slice B2 m2 d2][j]? = some v → w.cell? ⟨g, o + q * 11 + j, none⟩ = some v := by
 obtain ⟨h1, h2, h3, h4⟩ := h; obtain ⟨g, o, rfl, hg, hc⟩ := h4 (by omega); rw [List.length_map] at h1; obtain ⟨z, hx⟩ : ∃ z, L[q]? = some z := ⟨_, List.getElem?_eq_getElem (by omega)⟩
 obtain ⟨vs, hl, hf, hcs⟩ := hc q (tdZ z) (by rw [List.getElem?_map, hx]; rfl); obtain ⟨B1, k1, c1, B2, m2, d2, rfl, hr1, hr2⟩ := tdf_here hf; exact ⟨g, o, _, B1, k1, c1, B2, m2, d2, rfl, hg, hx, hf, hr1, hr2, hcs⟩
theorem own_some {v : Value} {k e sz n : Nat} (h : w.ownsRow B e sz v n xs) (hk : v.ownBlock = some k) : ∃ cap, v = .slice (some ⟨k, 0, none⟩) n cap := by
 rcases h.2 with ⟨rfl, _⟩ | ⟨g, cap, cur, rfl, _⟩
 ·simp [Value.ownBlock] at hk
 ·have : g = k := (by simpa [Value.ownBlock] using hk)
  subst this; exact ⟨cap, rfl⟩
end
theorem own_reads_take {w : World} {base n c i sz g : Nat} {e : TypeId} {xs : List Value} (h : w.ownsRow base e sz (.slice (some ⟨g, 0, none⟩) n c) n xs) (hi : i ≤ n) : Reads w w.heap.size sz (some ⟨g, 0, none⟩) i (xs.take (i * sz)) := by
 refine ⟨by rw [List.length_take, h.1]; exact Nat.min_eq_left (Nat.mul_le_mul_right _ hi), fun h0 => ⟨_, rfl, own_block_lt h g rfl, fun j u hu => ?_⟩⟩; rw [List.getElem?_take] at hu; split at hu
 ·exact h.cells (g := g) rfl j u hu
 ·cases hu
theorem own_reads_drop {w : World} {base n c i sz g : Nat} {e : TypeId} {xs : List Value} (h : w.ownsRow base e sz (.slice (some ⟨g, 0, none⟩) n c) n xs) (hi : i ≤ n) : Reads w w.heap.size sz (some ⟨g, i * sz, none⟩) (n - i) (xs.drop (i * sz)) := by
 refine ⟨by rw [List.length_drop, h.1, Nat.sub_mul], fun h0 => ⟨_, rfl, own_block_lt h g rfl, fun j u hu => ?_⟩⟩; rw [List.getElem?_drop] at hu; have := h.cells (g := g) rfl _ u hu; have e1 : ∀ o k : Nat, (⟨g, o, none⟩ : Addr).add k = ⟨g, o + k, none⟩ := fun o k => by unfold Addr.add; split <;> simp_all
 rw [e1] at this ⊢; rw [Nat.zero_add] at this; exact this
theorem chunk_drop {α : Type} {sz : Nat} {R : World → List Value → α → Prop} {w : World} {xs : List Value} {l : List α} (h : Chunks sz R w xs l) (i : Nat) (hi : i ≤ l.length) : Chunks sz R w (xs.drop (i * sz)) (l.drop i) := by
 refine ⟨by rw [List.length_drop, List.length_drop, h.1, Nat.sub_mul], fun k x hk => ?_⟩; rw [List.getElem?_drop] at hk; have := h.2 _ x hk; rw [List.drop_drop]; rw [Nat.add_mul] at this; exact this
theorem tdfOne (F : Nat → Prop) : SOne (tdF F) := by
 rintro w vs x h u hu; obtain ⟨A, k, c, B, m, d, rfl, _⟩ := tdf_here h; simp only [List.mem_cons, List.not_mem_nil, or_false] at hu; rcases hu with rfl | rfl | rfl | rfl | rfl | rfl | rfl | rfl | rfl | rfl | rfl <;> rfl
theorem cmp_lt (a2 m2 a n0 : Nat) : decide (cmpP a2 (m2 : Int) a (n0 : Int) < 0) = decide (a2 < a ∨ a2 = a ∧ m2 < n0) := by
 unfold cmpP; by_cases h : a2 < a ∨ a2 = a ∧ m2 < n0
 ·rw [if_pos (by omega), decide_eq_true h]; rfl
 ·rw [if_neg (by omega), decide_eq_false h]; split <;> rfl
set_option maxRecDepth 100000 in
set_option maxHeartbeats 16000000 in
theorem refPut36_any (F : Nat → Prop) (A : Option Addr) (n c : Nat) (L : List (Nat × Nat × AT)) (a n0 : Nat) (X : AT) (XA : Option Addr) (xk xc : Nat) (XB : Option Addr) (xm xd : Nat) (w : World) (h : LstAt 11 (tdF F) w A n c (L.map tdZ)) (hx : tdF F w [.int .u32 (a : Int), .int .i64 (n0 : Int), .int .i64 X.has, .int .i64 X.org, .slice XA xk xc, .int .u32 X.hop, .int .u32 X.med, .int .u32 X.pref, .int .u32 X.aas, .int .u32 X.aid, .slice XB xm xd] ⟨(a : Int), (n0 : Int), X⟩) (hs : L.Pairwise PLt) (hpg : ∀ z ∈ L, z.1 < 4294967296) (ha : a < 4294967296) (hn : n ≤ 20000) :
    Calls Tryz.prog 37 #[.slice A n c, .agg #[.int .u32 (a : Int), .int .i64 (n0 : Int), .int .i64 X.has, .int .i64 X.org, .slice XA xk xc, .int .u32 X.hop, .int .u32 X.med, .int .u32 X.pref, .int .u32 X.aas, .int .u32 X.aid, .slice XB xm xd]] w fun e w' => ∃ A' n' c' xs, e = .returned (.slice A' n' c') ∧ w'.ownsRow w.heap.size 71 11 (.slice A' n' c') n' xs ∧ Chunks 11 (tdF F) w xs ((putL a n0 X L).map tdZ) ∧ Below w.heap.size w w' := by
  obtain ⟨i0, hi, hz0, hz1, hz2⟩ := info_parts toldInfo; have hln : L.length = n := (by have := h.1; rwa [List.length_map] at this)
  have hnc := h.2.1; have hmx := h.2.2.1; unfold maxLen at hmx; have HL := hide h; have HLn := hide hln; have HXf := hide hx; have HS := hide hs; have HPg := hide hpg; obtain ⟨w0, hw0⟩ : ∃ W, (w.alloc (.cells #[.int .u32 (a : Int), .int .i64 (n0 : Int), .int .i64 X.has, .int .i64 X.org, .slice XA xk xc, .int .u32 X.hop, .int .u32 X.med, .int .u32 X.pref, .int .u32 X.aas, .int .u32 X.aid, .slice XB xm xd] 71)).alloc (.cells #[] 71) = W := ⟨_, rfl⟩
  have hb0 : Below w.heap.size w w0 := hw0 ▸ blkBelow2 w _ _; have HBx : Hid (Blk w0 w.heap.size 71 #[.int .u32 (a : Int), .int .i64 (n0 : Int), .int .i64 X.has, .int .i64 X.org, .slice XA xk xc, .int .u32 X.hop, .int .u32 X.med, .int .u32 X.pref, .int .u32 X.aas, .int .u32 X.aid, .slice XB xm xd]) := hide (hw0 ▸ (Blk.new w _ _).alloc _)
  have HO0 : Hid (w0.ownsRow (w.heap.size + 1) 71 11 (.slice (some ⟨w.heap.size + 1, 0, none⟩) 0 0) 0 []) := hide (by
    rw [← hw0]; have := World.ownsRow_lit (base := w.heap.size + 1) (e := 71) (size := 11) (w.alloc (.cells #[.int .u32 (a : Int), .int .i64 (n0 : Int), .int .i64 X.has, .int .i64 X.org, .slice XA xk xc, .int .u32 X.hop, .int .u32 X.med, .int .u32 X.pref, .int .u32 X.aas, .int .u32 X.aid, .slice XB xm xd] 71)) #[] 0 (by simp) (by unfold maxLen; omega) rfl; simpa using this)
  have hs0 : w.heap.size + 1 < w0.heap.size := (by rw [← hw0]; simp)
  have HB0 := hide hb0; have HW0 := hide hw0; clear h hln hx hs hpg hw0 hb0
  go_enter Tryz.func37, Tryz.ntmps37
  go_wp2; rw [HW0.out]
  go_loopw [5, 7] (fun vo iv wr => ∃ (q n1 g4 c1 : Nat) (xs : List Value), q ≤ n ∧ n1 ≤ q ∧ iv = .int .i64 (q : Nat) ∧ vo = .slice (some ⟨g4, 0, none⟩) n1 c1 ∧ wr.ownsRow (w.heap.size + 1) 71 11 (.slice (some ⟨g4, 0, none⟩) n1 c1) n1 xs ∧ Chunks 11 (tdF F) w xs (((L.take q).filter (fun z => !decide (a = z.1 ∧ n0 = z.2.1))).map tdZ) ∧ Below (w.heap.size + 1) w0 wr) (fun _ iv _ => n - (intOf iv).toNat)
  case atStart => exact ⟨0, 0, w.heap.size + 1, 0, [], Nat.zero_le _, Nat.le_refl _, rfl, rfl, HO0.out, Chunks.nil_, Below.refl _ _⟩
  case round =>
    obtain ⟨q, n1, g4, c1, xs, hq, hnq, rfl, rfl, hown, hck, hbel⟩ := hrel; have HO := hide hown; have HCk := hide hck; have HBe := hide hbel; have hsr := hbel.size; have hbw : Below w.heap.size w wr := HB0.out.trans (hbel.mono (by omega)); have HBw0 := hide hbw; have HBw := hide (HBx.out.below hbel (by omega))
    have hc1 : c1 ≤ maxLen ∧ n1 ≤ c1 := by
      rcases hown.2 with ⟨h1, _⟩ | ⟨g, cap, cur, h1, _, _, h2, h3, _⟩
      · cases h1
      · injection h1 with _ _ h4
        subst h4; exact ⟨h3, h2⟩
    obtain ⟨hc1, hnc1⟩ := hc1; unfold maxLen at hc1; by_cases hlt : q < n
    · obtain ⟨g, o, z, B1, k1, e1, B2, k2, d2, rfl, hg0, hz, htf, _, _, hcs⟩ := TFat HL.out hlt; have hg : g < wr.heap.size := Nat.lt_of_lt_of_le hg0 hbw.size; have HTk : Hid (L.take (q + 1) = L.take q ++ [z]) := hide (by rw [List.take_add_one, hz]; rfl); have HTf := hide htf; obtain ⟨a2, m2, Y⟩ := z; have HCs : Hid (∀ (j : Nat) (v : Value), [.int .u32 (a2 : Int), .int .i64 (m2 : Int), .int .i64 Y.has, .int .i64 Y.org, .slice B1 k1 e1, .int .u32 Y.hop, .int .u32 Y.med, .int .u32 Y.pref, .int .u32 Y.aas, .int .u32 Y.aid, .slice B2 k2 d2][j]? = some v → wr.cell? ⟨g, o + q * 11 + j, none⟩ = some v) := hide (fun j v hj => (hbw.cell hg0).trans (hcs j v hj)); have q1 : (q : Int) < (n : Int) := (by omega)
      have q0 : (0 : Int) ≤ (q : Int) := (by omega)
      have hwq : IntKind.i64.wrap ((q : Int) + 1) = (q : Int) + 1 := (by rw [IntKind.wrap_i64]; omega)
      obtain ⟨E, hE⟩ : ∃ b, ((a2 : Int) == (a : Int) && (m2 : Int) == (n0 : Int)) = b := ⟨_, rfl⟩
      have HE := hide hE
      have HEi : Hid (decide (a = a2 ∧ n0 = m2) = E) := hide (by
        rw [← hE, Bool.eq_iff_iff]; simp only [Bool.and_eq_true, beq_iff_eq, Int.ofNat_inj, decide_eq_true_eq]; exact ⟨fun ⟨x, y⟩ => ⟨x.symm, y.symm⟩, fun ⟨x, y⟩ => ⟨x.symm, y.symm⟩⟩)
      clear hown hck hbel hbw hz htf hcs hE; go_wp2; have Hmn := hide (show AllMono [(fun v _ => v = .slice (some ⟨g, o, none⟩) n c), (fun v _ => v = .int .i64 (q : Int)), (fun v _ => v = .pointer (some ⟨g, o + q * 11, none⟩)), (fun v _ => v = .pointer (some ⟨g, o + q * 11, none⟩)), (fun v _ => v = .agg #[.int .u32 (a2 : Int), .int .i64 (m2 : Int)]), (fun v _ => v = .pointer (some ⟨w.heap.size, 0, none⟩)), (fun v _ => v = .agg #[.int .u32 (a : Int), .int .i64 (n0 : Int)]), (fun v _ => v = .bool (!E))] from by repeat (first | exact trivial | refine ⟨fun _ _ _ _ h => h, ?_⟩)); refine wp_region_rel _ (by kernel_rfl) (by kernel_rfl) (relMono _ Hmn.out) ⟨?_, ?_, ?_, ?_, ?_, ?_, ?_, ?_, trivial⟩ ?_
      · exact relStep_plain rfl fun Ac w5 hp => pureM (.slice (some ⟨g, o, none⟩) n c) 0 (hp.out 0 (by rfl))
      · exact relStep_plain rfl fun Ac w5 hp => pureM (.int .i64 (q : Int)) 7 (hp.out 7 (by rfl))
      · exact relStep_plain rfl fun Ac w5 hp => pure2 (.pointer (some ⟨g, o + q * 11, none⟩)) 15 (.slice (some ⟨g, o, none⟩) n c) (hp.d 0) 16 (.int .i64 (q : Int)) (hp.d 1)
      · exact relStep_plain rfl fun Ac w5 hp => pureM (.pointer (some ⟨g, o + q * 11, none⟩)) 17 (hp.d 2)
      · refine relStep_plain rfl ?_; intro Ac w5 hp; have hb := hp.bel; have f0 : w5.cell? ⟨g, o + q * 11, none⟩ = some (.int .u32 (a2 : Int)) := (hb.cell hg).trans (HCs.out 0 _ rfl); have f1 : w5.cell? ⟨g, o + q * 11 + 1, none⟩ = some (.int .i64 (m2 : Int)) := (hb.cell hg).trans (HCs.out 1 _ rfl); exact pure1 (.agg #[.int .u32 (a2 : Int), .int .i64 (m2 : Int)]) 18 (.pointer (some ⟨g, o + q * 11, none⟩)) (hp.d 3)
      · exact relStep_plain rfl fun Ac w5 hp => pureM (.pointer (some ⟨w.heap.size, 0, none⟩)) 3 (hp.out 3 (by rfl))
      · refine relStep_plain rfl ?_; intro Ac w5 hp; have hb := hp.bel; have hx5 := HBw.out.below hb HBw.out.lt; have zb0 : w5.cell? ⟨w.heap.size, 0, none⟩ = some (.int .u32 (a : Int)) := hx5.cell 0; have zb1 : w5.cell? ⟨w.heap.size, 1, none⟩ = some (.int .i64 (n0 : Int)) := hx5.cell 1; exact pure1 (.agg #[.int .u32 (a : Int), .int .i64 (n0 : Int)]) 20 (.pointer (some ⟨w.heap.size, 0, none⟩)) (hp.d 5)
      · refine relStep_plain rfl ?_; intro Ac w5 hp; have a19 : Ac.eval (.tmp 19) = .agg #[.int .u32 (a2 : Int), .int .i64 (m2 : Int)] := hp.d 4; have a21 : Ac.eval (.tmp 21) = .agg #[.int .u32 (a : Int), .int .i64 (n0 : Int)] := hp.d 6; have heq := HE.out; exact relPureX (.bool (!E)) (fun ρ hρ h1 h2 h3 => by rw [hρ] at a19 a21; simp [go_sem, ↓IntWalk.iteOmega, *]; rw [← heq]; by_cases h1 : (a2 : Int) = (a : Int) <;> by_cases h2 : (m2 : Int) = (n0 : Int) <;> simp [h1, h2]) rfl
      intro u w8 hb7 hall; have e22 : u 7 = .bool (!E) := relAll_at hall (i := 7) (by decide +kernel); clear hall; simp only [List.drop_succ_cons, List.drop_zero, List.take_succ_cons, List.take_zero, putAll, Act.put, List.setIfInBounds_toArray, List.set_cons_zero, List.set_cons_succ, Nat.zero_add, Nat.reduceAdd, e22]; have HB8 := hide hb7; have hs8 := hb7.size; have HO8 := hide (own_below HO.out hb7); have HBel8 := hide (HBe.out.trans (hb7.mono (by omega))); clear hb7
      cases E with
      | true =>
        go_wp2
        go_roundw
        case rel =>
          refine ⟨q + 1, n1, g4, c1, xs, by omega, by omega, by go_num, rfl, HO8.out, ?_, HBel8.out⟩; rw [HTk.out, List.filter_append]; have e : [(a2, m2, Y)].filter (fun z => !decide (a = z.1 ∧ n0 = z.2.1)) = [] := (by rw [List.filter_cons]; simp only [HEi.out]; rfl)
          rw [e, List.append_nil]; exact HCk.out
        case measure => simp [intOf]; omega
      | false =>
        have hg8 : g < w8.heap.size := (by omega)
        have f0 : w8.cell? ⟨g, o + q * 11, none⟩ = some (.int .u32 (a2 : Int)) := (HB8.out.cell hg).trans (HCs.out 0 _ rfl); have f1 : w8.cell? ⟨g, o + q * 11 + 1, none⟩ = some (.int .i64 (m2 : Int)) := (HB8.out.cell hg).trans (HCs.out 1 _ rfl); have f2 : w8.cell? ⟨g, o + q * 11 + 2, none⟩ = some (.int .i64 Y.has) := (HB8.out.cell hg).trans (HCs.out 2 _ rfl); have f3 : w8.cell? ⟨g, o + q * 11 + 3, none⟩ = some (.int .i64 Y.org) := (HB8.out.cell hg).trans (HCs.out 3 _ rfl); have f4 : w8.cell? ⟨g, o + q * 11 + 4, none⟩ = some (.slice B1 k1 e1) := (HB8.out.cell hg).trans (HCs.out 4 _ rfl); have f5 : w8.cell? ⟨g, o + q * 11 + 5, none⟩ = some (.int .u32 Y.hop) := (HB8.out.cell hg).trans (HCs.out 5 _ rfl); have f6 : w8.cell? ⟨g, o + q * 11 + 6, none⟩ = some (.int .u32 Y.med) := (HB8.out.cell hg).trans (HCs.out 6 _ rfl); have f7 : w8.cell? ⟨g, o + q * 11 + 7, none⟩ = some (.int .u32 Y.pref) := (HB8.out.cell hg).trans (HCs.out 7 _ rfl); have f8 : w8.cell? ⟨g, o + q * 11 + 8, none⟩ = some (.int .u32 Y.aas) := (HB8.out.cell hg).trans (HCs.out 8 _ rfl); have f9 : w8.cell? ⟨g, o + q * 11 + 9, none⟩ = some (.int .u32 Y.aid) := (HB8.out.cell hg).trans (HCs.out 9 _ rfl); have f10 : w8.cell? ⟨g, o + q * 11 + 10, none⟩ = some (.slice B2 k2 d2) := (HB8.out.cell hg).trans (HCs.out 10 _ rfl)
        go_wp2_with (at_builtin; refine wpList_append_any _ rfl (.tmp 23) (.tmp 28) 51 rfl (w.heap.size + 1) 71 i0 _ 11 104 Tryz.underlying51 hi hz0 hz1 hz2 rfl (by decide) (.slice (some ⟨g4, 0, none⟩) n1 c1) n1 xs rfl (HO8.out.alloc _) (w8.heap.size + 1) (some ⟨w8.heap.size, 0, none⟩) 1 1 [.int .u32 (a2 : Int), .int .i64 (m2 : Int), .int .i64 Y.has, .int .i64 Y.org, .slice B1 k1 e1, .int .u32 Y.hop, .int .u32 Y.med, .int .u32 Y.pref, .int .u32 Y.aas, .int .u32 Y.aid, .slice B2 k2 d2] rfl (reads_blkN (Blk.new _ _ _) (by simp) rfl rfl) (by simp [Value.oneCell']) (by unfold maxLen; omega) (by omega) (by simp; omega) ?_; intro v' w9 h5 h6 h7; obtain ⟨g5, hg5⟩ : ∃ k, v'.ownBlock = some k := (by rcases h7 with h7 | h7; exact ⟨g4, h7⟩; exact ⟨_, h7⟩); obtain ⟨c5, rfl⟩ := own_some h5 hg5; have HO9 := hide h5; have HB9 := hide ((HBel8.out.trans ((Below.refl (w.heap.size + 1) w8).alloc (by omega) _)).grown h6 (by simp; omega) (fun k hk => own_low_block HO8.out k hk)); clear h5 h6 h7 hg5)
        go_roundw
        case rel =>
          refine ⟨q + 1, n1 + 1, g5, c5, _, by omega, by omega, by go_num, rfl, HO9.out, ?_, HB9.out⟩; rw [HTk.out, List.filter_append]; have e : [(a2, m2, Y)].filter (fun z => !decide (a = z.1 ∧ n0 = z.2.1)) = [(a2, m2, Y)] := (by rw [List.filter_cons]; simp only [HEi.out]; rfl)
          rw [e, List.map_append]; exact HCk.out.app_ (Chunks.one_ rfl HTf.out)
        case measure => simp [intOf]; omega
    · obtain rfl : q = n := (by omega)
      have e1 : decide ((q : Int) < (q : Int)) = false := (by simp)
      rw [List.take_of_length_le (by rw [HLn.out]; exact Nat.le_refl _)] at hck; obtain ⟨M, hM⟩ : ∃ M, L.filter (fun z => !decide (a = z.1 ∧ n0 = z.2.1)) = M := ⟨_, rfl⟩
      have hMl : M.length = n1 := by
        have h1 := hown.1; have h2 := hck.1; rw [hM, List.length_map] at h2; omega
      rw [hM] at hck; have HM := hide hM; have HMl := hide hMl; have HCk := hide hck; have HMg : Hid (∀ z ∈ M, z.1 < 4294967296) := hide (fun z hz => HPg.out z (by rw [← hM] at hz; exact (List.mem_filter.1 hz).1)); have HOne := hide (Chunks.ones (tdfOne F) hck (by decide)); obtain ⟨w6, h6⟩ : ∃ W, W = wr := ⟨_, rfl⟩
      subst h6; have HO6 := hide hown; have HBw6 := hide HBw.out; have HB6 := hide hbw; have hs6 := hsr; clear hown hck hbel hbw hlt hM hMl HBw HBw0 HBe HO HB0
      go_upto_block 2 with fail
      go_cut [6] (fun s6 wc => ∃ i : Nat, s6 = .int .i64 (i : Nat) ∧ i ≤ n1 ∧ Below w6.heap.size w6 wc ∧ M.take i ++ [(a, n0, X)] ++ M.drop i = putL a n0 X L)
      case rest =>
        obtain ⟨i, rfl, hiq, hbel, hput⟩ := hcut; obtain ⟨w7, h7⟩ : ∃ W, W = wc := ⟨_, rfl⟩
        subst h7; have HPut := hide hput; have HOw := hide (own_below HO6.out hbel); have HBw := hide (HBw6.out.below hbel HBw6.out.lt); have HBz := hide (HB6.out.trans (hbel.mono HB6.out.size)); have hzw : w.heap.size ≤ w7.heap.size := Nat.le_trans HB6.out.size hbel.size; have i0' : (0 : Int) ≤ (i : Int) := (by omega)
        have hi2 : (i : Int) ≤ (c1 : Int) := (by omega)
        have hi5 : (n1 : Int) ≤ (c1 : Int) := (by omega)
        have hi6 : (i : Int) ≤ (n1 : Int) := (by omega)
        clear hbel hput
        go_upto_region 9 with fail
        have Hmn := hide (show AllMono [(fun v _ => ∃ A, v = .slice A 0 0), (fun v _ => v = .slice (some ⟨g4, 0, none⟩) n1 c1), (fun v _ => v = .int .i64 (i : Int)), (fun v _ => v = .slice (some ⟨g4, 0, none⟩) i c1), (fun v _ => ∃ A c, v = .slice A i c), (fun v _ => v = .agg #[.int .u32 (a : Int), .int .i64 (n0 : Int), .int .i64 X.has, .int .i64 X.org, .slice XA xk xc, .int .u32 X.hop, .int .u32 X.med, .int .u32 X.pref, .int .u32 X.aas, .int .u32 X.aid, .slice XB xm xd]), (fun v _ => ∃ R, v = .slice (some ⟨R, 0, none⟩) 1 1), (fun v _ => ∃ A c, v = .slice A (i + 1) c), (fun v _ => v = .slice (some ⟨g4, 0, none⟩) n1 c1), (fun v _ => v = .int .i64 (i : Int)), (fun v _ => ∃ A c, v = .slice A (n1 - i) c ∧ (i < n1 → A = some ⟨g4, i * 11, none⟩))] from by repeat (first | exact trivial | refine ⟨fun _ _ _ _ h => h, ?_⟩)); have Hfl := hide (show AllFlat [(fun v _ => ∃ A, v = .slice A 0 0), (fun v _ => v = .slice (some ⟨g4, 0, none⟩) n1 c1), (fun v _ => v = .int .i64 (i : Int)), (fun v _ => v = .slice (some ⟨g4, 0, none⟩) i c1), (fun v _ => ∃ A c, v = .slice A i c), (fun v _ => v = .agg #[.int .u32 (a : Int), .int .i64 (n0 : Int), .int .i64 X.has, .int .i64 X.org, .slice XA xk xc, .int .u32 X.hop, .int .u32 X.med, .int .u32 X.pref, .int .u32 X.aas, .int .u32 X.aid, .slice XB xm xd]), (fun v _ => ∃ R, v = .slice (some ⟨R, 0, none⟩) 1 1), (fun v _ => ∃ A c, v = .slice A (i + 1) c), (fun v _ => v = .slice (some ⟨g4, 0, none⟩) n1 c1), (fun v _ => v = .int .i64 (i : Int)), (fun v _ => ∃ A c, v = .slice A (n1 - i) c ∧ (i < n1 → A = some ⟨g4, i * 11, none⟩))] from by repeat (first | exact trivial | refine ⟨fun _ _ _ h => h, ?_⟩)); refine wp_region_relX 11 w7.heap.size (Nat.le_refl _) [(fun v _ => ∃ A, v = .slice A 0 0), (fun v _ => v = .slice (some ⟨g4, 0, none⟩) n1 c1), (fun v _ => v = .int .i64 (i : Int)), (fun v _ => v = .slice (some ⟨g4, 0, none⟩) i c1), (fun v _ => ∃ A c, v = .slice A i c), (fun v _ => v = .agg #[.int .u32 (a : Int), .int .i64 (n0 : Int), .int .i64 X.has, .int .i64 X.org, .slice XA xk xc, .int .u32 X.hop, .int .u32 X.med, .int .u32 X.pref, .int .u32 X.aas, .int .u32 X.aid, .slice XB xm xd]), (fun v _ => ∃ R, v = .slice (some ⟨R, 0, none⟩) 1 1), (fun v _ => ∃ A c, v = .slice A (i + 1) c), (fun v _ => v = .slice (some ⟨g4, 0, none⟩) n1 c1), (fun v _ => v = .int .i64 (i : Int)), (fun v _ => ∃ A c, v = .slice A (n1 - i) c ∧ (i < n1 → A = some ⟨g4, i * 11, none⟩))] (P3X 71 11 0 4 6 7 w7.heap.size i (xs.take (i * 11)) [.int .u32 (a : Int), .int .i64 (n0 : Int), .int .i64 X.has, .int .i64 X.org, .slice XA xk xc, .int .u32 X.hop, .int .u32 X.med, .int .u32 X.pref, .int .u32 X.aas, .int .u32 X.aid, .slice XB xm xd]) (by kernel_rfl) (by kernel_rfl) (by kernel_rfl) (by kernel_rfl) (by kernel_rfl) (p3_start _ _) ⟨?_, ?_, ?_, ?_, ?_, ?_, ?_, ?_, ?_, ?_, ?_, trivial⟩ ?_
        · refine relX_op rfl rfl Hmn.out (Nat.le_refl _) ?_; intro Dn Ac w5 hp; have hb := hp.bel; obtain ⟨ρ, hρ, hc, hf, hgl⟩ := evalX Ac; refine relValS hρ (.slice (some ⟨w5.heap.size, 0, none⟩) 0 0) (w5.alloc (.cells #[] 71)) (by simp [go_sem, ↓IntWalk.iteOmega, *]) ⟨⟨_, rfl⟩, blkBelow1 w5 _, p3_p0 hp.ext (blkBelow1 w5 _) hp.no (by decide) (by decide) (by decide) (World.ownsRow_lit w5 #[] 0 hb.size (by unfold maxLen; omega) rfl) (fun k hk => by cases hk; exact Nat.le_refl _)⟩
        · refine relX_plain rfl rfl Hmn.out (Nat.le_refl _) (fun D u v wa wb hb h => p3_other h hb (by decide) (by decide) (by decide) (by decide)) ?_; intro Dn Ac w5 hp; have a5 : Ac.eval (.tmp 5) = .slice (some ⟨g4, 0, none⟩) n1 c1 := hp.out 5 (by rfl); exact relPureX (.slice (some ⟨g4, 0, none⟩) n1 c1) (fun ρ hρ h1 h2 h3 => by rw [hρ] at a5; simp [go_sem, ↓IntWalk.iteOmega, *]) rfl
        · refine relX_plain rfl rfl Hmn.out (Nat.le_refl _) (fun D u v wa wb hb h => p3_other h hb (by decide) (by decide) (by decide) (by decide)) ?_; intro Dn Ac w5 hp; have a6 : Ac.eval (.tmp 6) = .int .i64 (i : Int) := hp.out 6 (by rfl); exact relPureX (.int .i64 (i : Int)) (fun ρ hρ h1 h2 h3 => by rw [hρ] at a6; simp [go_sem, ↓IntWalk.iteOmega, *]) rfl
        · refine relX_plain rfl rfl Hmn.out (Nat.le_refl _) (fun D u v wa wb hb h => p3_other h hb (by decide) (by decide) (by decide) (by decide)) ?_; intro Dn Ac w5 hp; have a48 : Ac.eval (.tmp 48) = .slice (some ⟨g4, 0, none⟩) n1 c1 := hp.d 1; have a49 : Ac.eval (.tmp 49) = .int .i64 (i : Int) := hp.d 2; exact relPureX (.slice (some ⟨g4, 0, none⟩) i c1) (fun ρ hρ h1 h2 h3 => by rw [hρ] at a48 a49; simp [go_sem, ↓IntWalk.iteOmega, *]) rfl
        · refine relX_app rfl rfl ?_; intro Dn Ac w5 hp; have hb := hp.bel; obtain ⟨A47, a47⟩ := hp.d 0; change Ac.eval (.tmp 47) = _ at a47; have a50 : Ac.eval (.tmp 50) = .slice (some ⟨g4, 0, none⟩) i c1 := hp.d 3; have hd0 := hp.dn 0 (by kernel_rfl); have ho0 := hp.ext.r0 hd0 hp.no; change w5.ownsRow _ _ _ (Ac.eval (.tmp 47)) 0 [] at ho0; rw [a47] at ho0; refine wp_append_any w5 (.tmp 47) (.tmp 50) 51 rfl w7.heap.size 71 i0 _ 11 104 Tryz.underlying51 hi hz0 hz1 hz2 rfl (by decide) (.slice A47 0 0) 0 [] a47 ho0 w5.heap.size (some ⟨g4, 0, none⟩) i c1 (xs.take (i * 11)) a50 (own_reads_take (own_below HOw.out hb) hiq) (fun u hu => HOne.out u (List.mem_of_mem_take hu)) (by unfold maxLen; omega) (by omega) hb.size ?_; intro v2 w6 h2 h3 h4; obtain ⟨A4, c4, rfl⟩ := own_slice h2; rw [Nat.zero_add] at h2 h4 ⊢; refine ⟨_, rfl, ⟨A4, c4, rfl⟩, (Below.refl w7.heap.size w5).grown h3 hb.size (fun k hk => own_low_block ho0 k hk), fun j _ hj => relFlat _ Hfl.out _ _ _ _ (hp.has j hj), ?_⟩; refine p3_p1 hp.ext hp.no hd0 (by decide) (by decide) (by decide) h2 ?_ ?_
          · show World.grownBy _ _ (Ac.eval (.tmp 47)).ownBlock; rw [a47]; exact h3
          · show _ = (Ac.eval (.tmp 47)).ownBlock ∨ _; rw [a47]; exact h4
        · refine relX_plain rfl rfl Hmn.out (Nat.le_refl _) (fun D u v wa wb hb h => p3_other h hb (by decide) (by decide) (by decide) (by decide)) ?_; intro Dn Ac w5 hp; have hb := hp.bel; have a3 : Ac.eval (.tmp 3) = .pointer (some ⟨w.heap.size, 0, none⟩) := hp.out 3 (by rfl); have hx5 := HBw.out.below hb HBw.out.lt; have zb0 : w5.cell? ⟨w.heap.size, 0, none⟩ = some (.int .u32 (a : Int)) := hx5.cell 0; have zb1 : w5.cell? ⟨w.heap.size, 1, none⟩ = some (.int .i64 (n0 : Int)) := hx5.cell 1; have zb2 : w5.cell? ⟨w.heap.size, 2, none⟩ = some (.int .i64 X.has) := hx5.cell 2; have zb3 : w5.cell? ⟨w.heap.size, 3, none⟩ = some (.int .i64 X.org) := hx5.cell 3; have zb4 : w5.cell? ⟨w.heap.size, 4, none⟩ = some (.slice XA xk xc) := hx5.cell 4; have zb5 : w5.cell? ⟨w.heap.size, 5, none⟩ = some (.int .u32 X.hop) := hx5.cell 5; have zb6 : w5.cell? ⟨w.heap.size, 6, none⟩ = some (.int .u32 X.med) := hx5.cell 6; have zb7 : w5.cell? ⟨w.heap.size, 7, none⟩ = some (.int .u32 X.pref) := hx5.cell 7; have zb8 : w5.cell? ⟨w.heap.size, 8, none⟩ = some (.int .u32 X.aas) := hx5.cell 8; have zb9 : w5.cell? ⟨w.heap.size, 9, none⟩ = some (.int .u32 X.aid) := hx5.cell 9; have zb10 : w5.cell? ⟨w.heap.size, 10, none⟩ = some (.slice XB xm xd) := hx5.cell 10; exact relPureX (.agg #[.int .u32 (a : Int), .int .i64 (n0 : Int), .int .i64 X.has, .int .i64 X.org, .slice XA xk xc, .int .u32 X.hop, .int .u32 X.med, .int .u32 X.pref, .int .u32 X.aas, .int .u32 X.aid, .slice XB xm xd]) (fun ρ hρ h1 h2 h3 => by rw [hρ] at a3; simp [go_sem, ↓IntWalk.iteOmega, *]) rfl
        · refine relX_op rfl rfl Hmn.out (Nat.le_refl _) ?_; intro Dn Ac w5 hp; have hb := hp.bel; have a52 : Ac.eval (.tmp 52) = .agg #[.int .u32 (a : Int), .int .i64 (n0 : Int), .int .i64 X.has, .int .i64 X.org, .slice XA xk xc, .int .u32 X.hop, .int .u32 X.med, .int .u32 X.pref, .int .u32 X.aas, .int .u32 X.aid, .slice XB xm xd] := hp.d 5; obtain ⟨ρ, hρ, hc, hf, hgl⟩ := evalX Ac; rw [hρ] at a52; refine relValS hρ (.slice (some ⟨w5.heap.size, 0, none⟩) 1 1) (w5.alloc (.cells #[.int .u32 (a : Int), .int .i64 (n0 : Int), .int .i64 X.has, .int .i64 X.org, .slice XA xk xc, .int .u32 X.hop, .int .u32 X.med, .int .u32 X.pref, .int .u32 X.aas, .int .u32 X.aid, .slice XB xm xd] 71)) (by simp [go_sem, ↓IntWalk.iteOmega, *]) ⟨⟨_, rfl⟩, blkBelow1 w5 _, p3_pb hp.ext (blkBelow1 w5 _) hp.no (by decide) (by decide) (by decide) rfl (Nat.le_refl _) hb.size (Blk.new w5 _ _)⟩
        · refine relX_app rfl rfl ?_; intro Dn Ac w5 hp; have hb := hp.bel; obtain ⟨A51, c51, a51⟩ := hp.d 4; change Ac.eval (.tmp 51) = _ at a51; obtain ⟨R53, a53⟩ := hp.d 6; change Ac.eval (.tmp 53) = _ at a53; have hd1 := hp.dn 4 (by kernel_rfl); have hdb := hp.dn 6 (by kernel_rfl); have ho1 := hp.ext.r1 hd1 hp.no; change w5.ownsRow _ _ _ (Ac.eval (.tmp 51)) _ _ at ho1; rw [a51] at ho1; obtain ⟨R, eR, hR, hk, _, _⟩ := hp.ext.bx hdb hp.no; change Ac.eval (.tmp 53) = _ at eR; refine wp_append_any w5 (.tmp 51) (.tmp 53) 51 rfl w7.heap.size 71 i0 _ 11 104 Tryz.underlying51 hi hz0 hz1 hz2 rfl (by decide) (.slice A51 i c51) i _ a51 ho1 w5.heap.size (some ⟨R, 0, none⟩) 1 1 [.int .u32 (a : Int), .int .i64 (n0 : Int), .int .i64 X.has, .int .i64 X.org, .slice XA xk xc, .int .u32 X.hop, .int .u32 X.med, .int .u32 X.pref, .int .u32 X.aas, .int .u32 X.aid, .slice XB xm xd] eR (reads_blkN hk hk.lt rfl rfl) (by simp [Value.oneCell']) (by unfold maxLen; omega) (by omega) hb.size ?_; intro v2 w6 h2 h3 h4; obtain ⟨A4, c4, rfl⟩ := own_slice h2; exact ⟨_, rfl, ⟨A4, c4, rfl⟩, (Below.refl w7.heap.size w5).grown h3 hb.size (fun k hk => own_low_block ho1 k hk), fun j _ hj => relFlat _ Hfl.out _ _ _ _ (hp.has j hj), p3_p2 hp.ext hd1 hdb (by decide) (by decide) (by decide) h2⟩
        · refine relX_plain rfl rfl Hmn.out (Nat.le_refl _) (fun D u v wa wb hb h => p3_other h hb (by decide) (by decide) (by decide) (by decide)) ?_; intro Dn Ac w5 hp; have a5 : Ac.eval (.tmp 5) = .slice (some ⟨g4, 0, none⟩) n1 c1 := hp.out 5 (by rfl); exact relPureX (.slice (some ⟨g4, 0, none⟩) n1 c1) (fun ρ hρ h1 h2 h3 => by rw [hρ] at a5; simp [go_sem, ↓IntWalk.iteOmega, *]) rfl
        · refine relX_plain rfl rfl Hmn.out (Nat.le_refl _) (fun D u v wa wb hb h => p3_other h hb (by decide) (by decide) (by decide) (by decide)) ?_; intro Dn Ac w5 hp; have a6 : Ac.eval (.tmp 6) = .int .i64 (i : Int) := hp.out 6 (by rfl); exact relPureX (.int .i64 (i : Int)) (fun ρ hρ h1 h2 h3 => by rw [hρ] at a6; simp [go_sem, ↓IntWalk.iteOmega, *]) rfl
        · refine relX_plain rfl rfl Hmn.out (Nat.le_refl _) (fun D u v wa wb hb h => p3_other h hb (by decide) (by decide) (by decide) (by decide)) ?_; intro Dn Ac w5 hp; have a55 : Ac.eval (.tmp 55) = .slice (some ⟨g4, 0, none⟩) n1 c1 := hp.d 8; have a56 : Ac.eval (.tmp 56) = .int .i64 (i : Int) := hp.d 9; obtain ⟨ρ, hρ, hc, hf, hgl⟩ := evalX Ac; rw [hρ] at a55 a56; by_cases hlt : i < n1
          · have hi3 : (i : Int) < (c1 : Int) := (by omega)
            have hi4 : ¬ c1 = i := (by omega)
            exact relPure hρ (.slice (some ⟨g4, i * 11, none⟩) (n1 - i) (c1 - i)) (by simp [go_sem, ↓IntWalk.iteOmega, *]) ⟨_, _, rfl, fun _ => rfl⟩
          · have hin : i = n1 := (by omega)
            by_cases hi4 : c1 = i
            · exact relPure hρ (.slice (some ⟨g4, 0, none⟩) (n1 - i) (c1 - i)) (by simp [go_sem, ↓IntWalk.iteOmega, *]) ⟨_, _, rfl, fun h => absurd h hlt⟩
            · exact relPure hρ (.slice (some ⟨g4, i * 11, none⟩) (n1 - i) (c1 - i)) (by simp [go_sem, ↓IntWalk.iteOmega, *]) ⟨_, _, rfl, fun h => absurd h hlt⟩
        intro u w8 hb7 hall hox; obtain ⟨A54, c54, e54⟩ := relAll_at hall (i := 7) (by decide +kernel); change u 7 = _ at e54; obtain ⟨A57, c57, e57, hA57⟩ := relAll_at hall (i := 10) (by decide +kernel); change u 10 = _ at e57; clear hall; simp only [List.drop_succ_cons, List.drop_zero, List.take_succ_cons, List.take_zero, putAll, Act.put, List.setIfInBounds_toArray, List.set_cons_zero, List.set_cons_succ, Nat.zero_add, Nat.reduceAdd, e54, e57]; have hown8 := hox.r2 (by decide); change w8.ownsRow _ _ _ (u 7) _ _ at hown8; rw [e54] at hown8
        have hOd : Reads w8 w8.heap.size 11 A57 (n1 - i) (xs.drop (i * 11)) := by
          by_cases hlt2 : i < n1
          · rw [hA57 hlt2]; exact own_reads_drop (own_below HOw.out hb7) hiq
          · exact ⟨by have := HOw.out.1; rw [List.length_drop, this, Nat.sub_mul], fun h => absurd h (by omega)⟩
        refine wpList_append_any w8 rfl (.tmp 54) (.tmp 57) 51 rfl w7.heap.size 71 i0 _ 11 104 Tryz.underlying51 hi hz0 hz1 hz2 rfl (by decide) (.slice A54 (i + 1) c54) (i + 1) _ rfl hown8 w8.heap.size A57 (n1 - i) c57 (xs.drop (i * 11)) rfl hOd (fun u hu => HOne.out u (List.mem_of_mem_drop hu)) (by unfold maxLen; omega) (by omega) hb7.size ?_; intro v2 w9 h2 h3 h4; obtain ⟨A9, c9, rfl⟩ := own_slice h2; have HO9 := hide h2; have HB9 : Hid (Below w.heap.size w w9) := hide (HBz.out.trans (((hb7.trans ((Below.refl w7.heap.size w8).grown h3 hb7.size (fun k hk => own_low_block hown8 k hk))).mono hzw)))
        have HCk9 : Hid (Chunks 11 (tdF F) w (xs.take (i * 11) ++ [.int .u32 (a : Int), .int .i64 (n0 : Int), .int .i64 X.has, .int .i64 X.org, .slice XA xk xc, .int .u32 X.hop, .int .u32 X.med, .int .u32 X.pref, .int .u32 X.aas, .int .u32 X.aid, .slice XB xm xd] ++ xs.drop (i * 11)) ((putL a n0 X L).map tdZ)) := hide (by
          rw [← HPut.out, List.map_append, List.map_append, List.map_take, List.map_drop]; exact ((HCk.out.take_ i).app_ (Chunks.one_ rfl HXf.out)).app_ (chunk_drop HCk.out i (by rw [List.length_map, HMl.out]; exact hiq)))
        clear h2 h3 h4 hown8 hOd hox hb7 e54 e57 hA57; go_wp2; go_ret; exact ⟨A9, _, c9, rfl, _, own_baseLe HO9.out hzw, HCk9.out, HB9.out⟩
      go_wp2_with fail
      go_loopw [6] (fun iv wr => ∃ i : Nat, i ≤ n1 ∧ iv = .int .i64 (i : Nat) ∧ Below w6.heap.size w6 wr ∧ ∀ j (h : j < i) (h2 : j < M.length), (M[j].1 < a ∨ M[j].1 = a ∧ M[j].2.1 < n0)) (fun iv _ => n1 - (intOf iv).toNat)
      case atStart => exact ⟨0, Nat.zero_le _, rfl, Below.refl _ _, fun j h => absurd h (by omega)⟩
      case round =>
        obtain ⟨i, hiq, rfl, hbel, hlow⟩ := hrel; have HBe := hide hbel; have HLow := hide hlow; have HOw := hide (own_below HO6.out hbel); have HBw := hide (HBw6.out.below hbel HBw6.out.lt); have HBz := hide (HB6.out.trans (hbel.mono HB6.out.size)); have hzw : w.heap.size ≤ wr.heap.size := Nat.le_trans HB6.out.size hbel.size; have i0' : (0 : Int) ≤ (i : Int) := (by omega)
        have hi2 : (i : Int) ≤ (c1 : Int) := (by omega)
        have hi5 : (n1 : Int) ≤ (c1 : Int) := (by omega)
        have hi6 : (i : Int) ≤ (n1 : Int) := (by omega)
        have hwi : IntKind.i64.wrap ((i : Int) + 1) = (i : Int) + 1 := (by rw [IntKind.wrap_i64]; omega)
        by_cases hlt : i < n1
        · obtain ⟨z, hz⟩ : ∃ z, M[i]? = some z := ⟨_, List.getElem?_eq_getElem (by rw [HMl.out]; exact hlt)⟩
          have hvs := HCk.out.2 i (tdZ z) (by rw [List.getElem?_map, hz]; rfl); obtain ⟨B1, k1, e1, B2, k2, d2, hvq, _⟩ := tdf_here hvs
          have hcl : ∀ (j : Nat) (v : Value), ((xs.drop (i * 11)).take 11)[j]? = some v → wr.cell? ⟨g4, i * 11 + j, none⟩ = some v := fun j v hj => by
            rw [List.getElem?_take] at hj; split at hj
            · rw [List.getElem?_drop] at hj; have h1 := HOw.out.cells (g := g4) rfl _ _ hj; have e2 : (⟨g4, 0, none⟩ : Addr).add (i * 11 + j) = ⟨g4, i * 11 + j, none⟩ := by unfold Addr.add; split <;> simp_all
              rw [e2] at h1; exact h1
            · cases hj
          rw [hvq] at hcl; have HZ := hide hz; have hza := HMg.out z (List.mem_of_getElem? hz); obtain ⟨a2, m2, Y⟩ := z; have F0 : Hid (wr.cell? ⟨g4, i * 11, none⟩ = some (.int .u32 (a2 : Int))) := hide (hcl 0 _ rfl); have F1 : Hid (wr.cell? ⟨g4, i * 11 + 1, none⟩ = some (.int .i64 (m2 : Int))) := hide (hcl 1 _ rfl); have hg4 : g4 < wr.heap.size := own_block_lt HOw.out g4 rfl; have i1 : (i : Int) < (n1 : Int) := (by omega)
          obtain ⟨K, hK⟩ : ∃ K, cmpP a2 (m2 : Int) a (n0 : Int) = K := ⟨_, rfl⟩
          obtain ⟨LB, hLB⟩ : ∃ b, decide (K < 0) = b := ⟨_, rfl⟩
          have HLBi : Hid (decide (a2 < a ∨ a2 = a ∧ m2 < n0) = LB) := hide (by rw [← cmp_lt, hK]; exact hLB); have HLB := hide hLB; have HCm := hide (fun W => refCmp_any a2 (m2 : Int) a (n0 : Int) hza ha W); rw [hK] at HCm; unfold pfx at HCm; clear hbel hlow hvs hvq hcl hz hza hK hLB; go_wp2; have Hmn := hide (show AllMono [(fun v _ => v = .int .i64 (i : Int)), (fun v _ => v = .slice (some ⟨g4, 0, none⟩) n1 c1), (fun v _ => v = .int .i64 (n1 : Int)), (fun v _ => v = .bool true), (fun v _ => v = .bool true), (fun v _ => v = .slice (some ⟨g4, 0, none⟩) n1 c1), (fun v _ => v = .int .i64 (i : Int)), (fun v _ => v = .pointer (some ⟨g4, i * 11, none⟩)), (fun v _ => v = .pointer (some ⟨g4, i * 11, none⟩)), (fun v _ => v = .agg #[.int .u32 (a2 : Int), .int .i64 (m2 : Int)]), (fun v _ => v = .pointer (some ⟨w.heap.size, 0, none⟩)), (fun v _ => v = .agg #[.int .u32 (a : Int), .int .i64 (n0 : Int)]), (fun v _ => v = .int .i64 K), (fun v _ => v = .bool LB), (fun v _ => v = .bool LB)] from by repeat (first | exact trivial | refine ⟨fun _ _ _ _ h => h, ?_⟩)); refine wp_region_rel _ (by kernel_rfl) (by kernel_rfl) (relMono _ Hmn.out) ⟨?_, ?_, ?_, ?_, ?_, ?_, ?_, ?_, ?_, ?_, ?_, ?_, ?_, ?_, ?_, trivial⟩ ?_
          · exact relStep_plain rfl fun Ac w5 hp => pureM (.int .i64 (i : Int)) 6 (hp.out 6 (by rfl))
          · exact relStep_plain rfl fun Ac w5 hp => pureM (.slice (some ⟨g4, 0, none⟩) n1 c1) 5 (hp.out 5 (by rfl))
          · exact relStep_plain rfl fun Ac w5 hp => pure1 (.int .i64 (n1 : Int)) 31 (.slice (some ⟨g4, 0, none⟩) n1 c1) (hp.d 1)
          · exact relStep_plain rfl fun Ac w5 hp => pure2 (.bool true) 30 (.int .i64 (i : Int)) (hp.d 0) 32 (.int .i64 (n1 : Int)) (hp.d 2)
          · exact relStep_plain rfl fun Ac w5 hp => pureM (.bool true) 33 (hp.d 3)
          · exact rsG 4 true fun Ac w5 hp => pureM (.slice (some ⟨g4, 0, none⟩) n1 c1) 5 (hp.out 5 (by rfl))
          · exact rsG 4 true fun Ac w5 hp => pureM (.int .i64 (i : Int)) 6 (hp.out 6 (by rfl))
          · exact rsG 4 true fun Ac w5 hp => pure2 (.pointer (some ⟨g4, i * 11, none⟩)) 35 (.slice (some ⟨g4, 0, none⟩) n1 c1) (hp.d 5) 36 (.int .i64 (i : Int)) (hp.d 6)
          · exact rsG 4 true fun Ac w5 hp => pureM (.pointer (some ⟨g4, i * 11, none⟩)) 37 (hp.d 7)
          · refine rsG 4 true ?_; intro Ac w5 hp; have hb := hp.bel; have f0 : w5.cell? ⟨g4, i * 11, none⟩ = some (.int .u32 (a2 : Int)) := (hb.cell hg4).trans F0.out; have f1 : w5.cell? ⟨g4, i * 11 + 1, none⟩ = some (.int .i64 (m2 : Int)) := (hb.cell hg4).trans F1.out; exact pure1 (.agg #[.int .u32 (a2 : Int), .int .i64 (m2 : Int)]) 38 (.pointer (some ⟨g4, i * 11, none⟩)) (hp.d 8)
          · exact rsG 4 true fun Ac w5 hp => pureM (.pointer (some ⟨w.heap.size, 0, none⟩)) 3 (hp.out 3 (by rfl))
          · refine rsG 4 true ?_; intro Ac w5 hp; have hb := hp.bel; have hx5 := HBw.out.below hb HBw.out.lt; have zb0 : w5.cell? ⟨w.heap.size, 0, none⟩ = some (.int .u32 (a : Int)) := hx5.cell 0; have zb1 : w5.cell? ⟨w.heap.size, 1, none⟩ = some (.int .i64 (n0 : Int)) := hx5.cell 1; exact pure1 (.agg #[.int .u32 (a : Int), .int .i64 (n0 : Int)]) 40 (.pointer (some ⟨w.heap.size, 0, none⟩)) (hp.d 10)
          · refine rsG 4 true ?_; intro Ac w5 hp; have a39 : Ac.eval (.tmp 39) = .agg #[.int .u32 (a2 : Int), .int .i64 (m2 : Int)] := hp.d 9; have a41 : Ac.eval (.tmp 41) = .agg #[.int .u32 (a : Int), .int .i64 (n0 : Int)] := hp.d 11; obtain ⟨ρ, hρ, hc, hf, hgl⟩ := evalX Ac; rw [hρ] at a39 a41; refine relCall hρ 89 #[.agg #[.int .u32 (a2 : Int), .int .i64 (m2 : Int)], .agg #[.int .u32 (a : Int), .int .i64 (n0 : Int)]] (by simp [go_sem, ↓IntWalk.iteOmega, *]) ?_; refine (HCm.out w5).mono ?_; rintro e w6 ⟨rfl, hb6⟩; exact ⟨_, rfl, rfl, hb6⟩
          · refine rsG 4 true ?_; intro Ac w5 hp; have hlb := HLB.out; exact pure1 (.bool LB) 42 (.int .i64 K) (hp.d 12)
          · exact relStep_plain rfl fun Ac w5 hp => pure2 (.bool LB) 34 (.bool true) (hp.d 4) 43 (.bool LB) (hp.d 13)
          intro u w8 hb7 hall; have e44 : u 14 = .bool LB := relAll_at hall (i := 14) (by decide +kernel); clear hall; simp only [List.drop_succ_cons, List.drop_zero, List.take_succ_cons, List.take_zero, putAll, Act.put, List.setIfInBounds_toArray, List.set_cons_zero, List.set_cons_succ, Nat.zero_add, Nat.reduceAdd, e44]
          cases LB with
          | true =>
            have HB8 := hide (HBe.out.trans (hb7.mono HBe.out.size)); clear hb7; go_wp2
            go_roundw
            case rel =>
              refine ⟨i + 1, by omega, by go_num, HB8.out, fun j hj hj2 => ?_⟩; rcases Nat.lt_or_ge j i with h1 | h1
              · exact HLow.out j h1 hj2
              · obtain rfl : j = i := (by omega)
                have e2 : M[j] = (a2, m2, Y) := (by have := List.getElem?_eq_some_iff.1 HZ.out; exact this.2)
                rw [e2]; simpa using HLBi.out
            case measure => simp [intOf]; omega
          | false =>
            have HPut : Hid (M.take i ++ [(a, n0, X)] ++ M.drop i = putL a n0 X L) := hide (by
              have := putL_insert (x := X) (a := a) (n := n0) HS.out i; rw [HM.out] at this; refine this HLow.out (by rw [HMl.out]; exact hiq) (fun hi => ?_); have e2 : M[i] = (a2, m2, Y) := (by have := List.getElem?_eq_some_iff.1 HZ.out; exact this.2)
              rw [e2]; simpa using HLBi.out)
            have HBe8 := hide (HBe.out.trans (hb7.mono HBe.out.size)); clear hb7
            go_wp2_with fail
            go_meet
            exact ⟨i, rfl, hiq, HBe8.out, HPut.out⟩
        · have e1 : decide ((i : Int) < (n1 : Int)) = false := decide_eq_false (by omega); have e2' : decide (i < n1) = false := decide_eq_false hlt
          have HPut : Hid (M.take i ++ [(a, n0, X)] ++ M.drop i = putL a n0 X L) := hide (by
            have := putL_insert (x := X) (a := a) (n := n0) HS.out i; rw [HM.out] at this; exact this HLow.out (by rw [HMl.out]; exact hiq) (fun hi => absurd hi (by rw [HMl.out]; exact hlt)))
          clear hbel hlow; go_wp2; have Hmn := hide (show AllMono [(fun v _ => v = .int .i64 (i : Int)), (fun v _ => v = .slice (some ⟨g4, 0, none⟩) n1 c1), (fun v _ => v = .int .i64 (n1 : Int)), (fun v _ => v = .bool false), (fun v _ => v = .bool false), (fun v _ => v = undef), (fun v _ => v = undef), (fun v _ => v = undef), (fun v _ => v = undef), (fun v _ => v = undef), (fun v _ => v = undef), (fun v _ => v = undef), (fun v _ => v = undef), (fun v _ => v = undef), (fun v _ => v = .bool false)] from by repeat (first | exact trivial | refine ⟨fun _ _ _ _ h => h, ?_⟩)); refine wp_region_rel _ (by kernel_rfl) (by kernel_rfl) (relMono _ Hmn.out) ⟨?_, ?_, ?_, ?_, ?_, ?_, ?_, ?_, ?_, ?_, ?_, ?_, ?_, ?_, ?_, trivial⟩ ?_
          · exact relStep_plain rfl fun Ac w5 hp => pureM (.int .i64 (i : Int)) 6 (hp.out 6 (by rfl))
          · exact relStep_plain rfl fun Ac w5 hp => pureM (.slice (some ⟨g4, 0, none⟩) n1 c1) 5 (hp.out 5 (by rfl))
          · exact relStep_plain rfl fun Ac w5 hp => pure1 (.int .i64 (n1 : Int)) 31 (.slice (some ⟨g4, 0, none⟩) n1 c1) (hp.d 1)
          · exact relStep_plain rfl fun Ac w5 hp => pure2 (.bool false) 30 (.int .i64 (i : Int)) (hp.d 0) 32 (.int .i64 (n1 : Int)) (hp.d 2)
          · exact relStep_plain rfl fun Ac w5 hp => pureM (.bool false) 33 (hp.d 3)
          · exact rsN 4 true
          · exact rsN 4 true
          · exact rsN 4 true
          · exact rsN 4 true
          · exact rsN 4 true
          · exact rsN 4 true
          · exact rsN 4 true
          · exact rsN 4 true
          · exact rsN 4 true
          · exact relStep_plain rfl fun Ac w5 hp => pureM (.bool false) 34 (hp.d 4)
          intro u w8 hb7 hall; have e44 : u 14 = .bool false := relAll_at hall (i := 14) (by decide +kernel); clear hall; simp only [List.drop_succ_cons, List.drop_zero, List.take_succ_cons, List.take_zero, putAll, Act.put, List.setIfInBounds_toArray, List.set_cons_zero, List.set_cons_succ, Nat.zero_add, Nat.reduceAdd, e44]; have HBe8 := hide (HBe.out.trans (hb7.mono HBe.out.size)); clear hb7
          go_wp2_with fail
          go_meet
          exact ⟨i, rfl, hiq, HBe8.out, HPut.out⟩
end Go.Proofs.YtcinjckajnnhmaaGreat
namespace Go.Proofs.YtcinjckajnnhmaaGreat
open Go.RowKit Go.WideShapes Go.ChangeShapes
attribute [local go_sem] Oper.semAt_some
theorem list_take_succ {α : Type} {l l' : List α} {i : Nat} {x y : α} (h : l.take i = l'.take i) (hx : l[i]? = some x) (hy : l'[i]? = some y) (e : x = y) : l.take (i + 1) = l'.take (i + 1) := by
 rw [List.take_add_one, List.take_add_one, h, hx, hy, e]
set_option maxRecDepth 100000 in
set_option maxHeartbeats 8000000 in
theorem psany_any (A B : Option Addr) (n c m d : Nat) (l l' : List SG) (w : World) (h : LstAt 2 sgR w A n c l) (h' : LstAt 2 sgR w B m d l') (hn2 : n ≤ 100000) :
    Calls Tryz.prog 97 #[.slice A n c, .slice B m d] w (fun e w' => ∃ q : Bool, e = .returned (.bool q) ∧ (q = true ↔ l = l') ∧ Below w.heap.size w w') := by
  have hl1 := h.1; have hl2 := h'.1; by_cases hnm : n = m
  · subst hnm; have hnc := h.2.1; have hmx := h.2.2.1; have hnd := h'.2.1; have hmx2 := h'.2.2.1; unfold maxLen at hmx hmx2; have HL1 := hide h; have HL2 := hide h'; have HN1 := hide hl1; have HN2 := hide hl2; clear h h' hl1 hl2
    go_enter Tryz.func97, Tryz.ntmps97
    go_wp2
    go_loopw [5] (fun iv wr => ∃ i : Nat, i ≤ n ∧ iv = .int .i64 (i : Nat) ∧ Below w.heap.size w wr ∧ l.take i = l'.take i) (fun iv _ => n - (intOf iv).toNat)
    case atStart => exact ⟨0, Nat.zero_le _, rfl, Below.refl _ _, by simp⟩
    case round =>
      obtain ⟨i, hi, rfl, hbel, htk⟩ := hrel; have HBe := hide hbel; have HTk := hide htk; by_cases hlt : i < n
      · obtain ⟨g, o, b, B1, m1, d1, r, rfl, hg, hx, hr1, hz0, hz1⟩ := SGat (HL1.out.below sgMono hbel) hlt; obtain ⟨g2, o2, b2, B2, m2, d2, r2, rfl, hg2, hx2, hr2, hy0, hy1⟩ := SGat (HL2.out.below sgMono hbel) hlt; have HX := hide hx; have HX2 := hide hx2; have HZ0 := hide hz0; have HZ1 := hide hz1; have HY0 := hide hy0; have HY1 := hide hy1; have i1 : (i : Int) < (n : Int) := (by omega)
        have i0 : (0 : Int) ≤ (i : Int) := (by omega)
        have hwi : IntKind.i64.wrap ((i : Int) + 1) = (i : Int) + 1 := (by rw [IntKind.wrap_i64]; omega)
        obtain ⟨QQ, hQQ⟩ : ∃ q, decide (r = r2) = q := ⟨_, rfl⟩
        have HQQ := hide hQQ; have HSm := hide (fun W (hb : Below wr.heap.size wr W) => refSame_any B1 m1 d1 r B2 m2 d2 r2 W (hr1.below hb) (hr2.below hb)); rw [hQQ] at HSm; clear hbel htk hx hx2 hr1 hr2 hz0 hz1 hy0 hy1 hQQ; by_cases hbb : b = b2
        · subst hbb; go_wp2; have Hmn := hide (show AllMono [(isV (.slice (some ⟨g, o, none⟩) n c)), (isV (.int .i64 (i : Int))), (isV (ptv g (o + i * 2))), (isV (ptv g (o + i * 2))), (isV (.int .i64 b)), (isV (.slice (some ⟨g2, o2, none⟩) n d)), (isV (.int .i64 (i : Int))), (isV (ptv g2 (o2 + i * 2))), (isV (ptv g2 (o2 + i * 2))), (isV (.int .i64 b)), (isV (.bool false)), (isV (.bool false)), (isV (.slice (some ⟨g, o, none⟩) n c)), (isV (.int .i64 (i : Int))), (isV (ptv g (o + i * 2))), (isV (ptv g (o + i * 2 + 1))), (isV (.slice B1 m1 d1)), (isV (.slice (some ⟨g2, o2, none⟩) n d)), (isV (.int .i64 (i : Int))), (isV (ptv g2 (o2 + i * 2))), (isV (ptv g2 (o2 + i * 2 + 1))), (isV (.slice B2 m2 d2)), (isV (.bool QQ)), (isV (.bool (!QQ))), (isV (.bool (!QQ)))] from by repeat (first | exact trivial | refine ⟨fun _ _ _ _ h => h, ?_⟩)); refine wp_region_rel _ (by kernel_rfl) (by kernel_rfl) (relMono _ Hmn.out) ⟨?_, ?_, ?_, ?_, ?_, ?_, ?_, ?_, ?_, ?_, ?_, ?_, ?_, ?_, ?_, ?_, ?_, ?_, ?_, ?_, ?_, ?_, ?_, ?_, ?_, trivial⟩ ?_
          · exact relStep_plain rfl fun Ac w5 hp => pureM (.slice (some ⟨g, o, none⟩) n c) 0 (hp.out 0 (by rfl))
          · exact relStep_plain rfl fun Ac w5 hp => pureM (.int .i64 (i : Int)) 5 (hp.out 5 (by rfl))
          · exact relStep_plain rfl fun Ac w5 hp => pure2 (ptv g (o + i * 2)) 17 (.slice (some ⟨g, o, none⟩) n c) (hp.d 0) 18 (.int .i64 (i : Int)) (hp.d 1)
          · exact relStep_plain rfl fun Ac w5 hp => pureM (ptv g (o + i * 2)) 19 (hp.d 2)
          · refine relStep_plain rfl ?_; intro Ac w5 hp; have hb := hp.bel; have z0 : w5.cell? ⟨g, o + i * 2, none⟩ = some (.int .i64 b) := (hb.cell hg).trans HZ0.out; exact pure1 (.int .i64 b) 20 (ptv g (o + i * 2)) (hp.d 3)
          · exact relStep_plain rfl fun Ac w5 hp => pureM (.slice (some ⟨g2, o2, none⟩) n d) 1 (hp.out 1 (by rfl))
          · exact relStep_plain rfl fun Ac w5 hp => pureM (.int .i64 (i : Int)) 5 (hp.out 5 (by rfl))
          · exact relStep_plain rfl fun Ac w5 hp => pure2 (ptv g2 (o2 + i * 2)) 22 (.slice (some ⟨g2, o2, none⟩) n d) (hp.d 5) 23 (.int .i64 (i : Int)) (hp.d 6)
          · exact relStep_plain rfl fun Ac w5 hp => pureM (ptv g2 (o2 + i * 2)) 24 (hp.d 7)
          · refine relStep_plain rfl ?_; intro Ac w5 hp; have hb := hp.bel; have y0 : w5.cell? ⟨g2, o2 + i * 2, none⟩ = some (.int .i64 b) := (hb.cell hg2).trans HY0.out; exact pure1 (.int .i64 b) 25 (ptv g2 (o2 + i * 2)) (hp.d 8)
          · exact relStep_plain rfl fun Ac w5 hp => pure2 (.bool false) 21 (.int .i64 b) (hp.d 4) 26 (.int .i64 b) (hp.d 9)
          · exact relStep_plain rfl fun Ac w5 hp => pureM (.bool false) 27 (hp.d 10)
          · exact rsG 11 false fun Ac w5 hp => pureM (.slice (some ⟨g, o, none⟩) n c) 0 (hp.out 0 (by rfl))
          · exact rsG 11 false fun Ac w5 hp => pureM (.int .i64 (i : Int)) 5 (hp.out 5 (by rfl))
          · exact rsG 11 false fun Ac w5 hp => pure2 (ptv g (o + i * 2)) 29 (.slice (some ⟨g, o, none⟩) n c) (hp.d 12) 30 (.int .i64 (i : Int)) (hp.d 13)
          · exact rsG 11 false fun Ac w5 hp => pure1 (ptv g (o + i * 2 + 1)) 31 (ptv g (o + i * 2)) (hp.d 14)
          · refine rsG 11 false ?_; intro Ac w5 hp; have hb := hp.bel; have z1 : w5.cell? ⟨g, o + i * 2 + 1, none⟩ = some (.slice B1 m1 d1) := (hb.cell hg).trans HZ1.out; exact pure1 (.slice B1 m1 d1) 32 (ptv g (o + i * 2 + 1)) (hp.d 15)
          · exact rsG 11 false fun Ac w5 hp => pureM (.slice (some ⟨g2, o2, none⟩) n d) 1 (hp.out 1 (by rfl))
          · exact rsG 11 false fun Ac w5 hp => pureM (.int .i64 (i : Int)) 5 (hp.out 5 (by rfl))
          · exact rsG 11 false fun Ac w5 hp => pure2 (ptv g2 (o2 + i * 2)) 34 (.slice (some ⟨g2, o2, none⟩) n d) (hp.d 17) 35 (.int .i64 (i : Int)) (hp.d 18)
          · exact rsG 11 false fun Ac w5 hp => pure1 (ptv g2 (o2 + i * 2 + 1)) 36 (ptv g2 (o2 + i * 2)) (hp.d 19)
          · refine rsG 11 false ?_; intro Ac w5 hp; have hb := hp.bel; have y1 : w5.cell? ⟨g2, o2 + i * 2 + 1, none⟩ = some (.slice B2 m2 d2) := (hb.cell hg2).trans HY1.out; exact pure1 (.slice B2 m2 d2) 37 (ptv g2 (o2 + i * 2 + 1)) (hp.d 20)
          · refine rsG 11 false ?_; intro Ac w5 hp; have hb := hp.bel; have a33 : Ac.eval (.tmp 33) = .slice B1 m1 d1 := hp.d 16; have a38 : Ac.eval (.tmp 38) = .slice B2 m2 d2 := hp.d 21; obtain ⟨ρ, hρ, hc, hf, hgl⟩ := evalX Ac; rw [hρ] at a33 a38; refine relCall hρ 98 #[.slice B1 m1 d1, .slice B2 m2 d2] (by simp [go_sem, ↓IntWalk.iteOmega, *]) ?_; refine (HSm.out w5 hb).mono ?_; rintro e w6 ⟨rfl, hb6⟩; exact ⟨_, rfl, rfl, hb6⟩
          · exact rsG 11 false fun Ac w5 hp => pure1 (.bool (!QQ)) 39 (.bool QQ) (hp.d 22)
          · exact relStep_plain rfl fun Ac w5 hp => pure2 (.bool (!QQ)) 28 (.bool false) (hp.d 11) 40 (.bool (!QQ)) (hp.d 23)
          intro u w8 hb7 hall; have e41 : u 24 = .bool (!QQ) := relAll_at hall (i := 24) (by decide +kernel); clear hall; simp only [List.drop_succ_cons, List.drop_zero, List.take_succ_cons, List.take_zero, putAll, Act.put, List.setIfInBounds_toArray, List.set_cons_zero, List.set_cons_succ, Nat.zero_add, Nat.reduceAdd, e41]; have HB8 := hide (HBe.out.trans (hb7.mono HBe.out.size)); clear hb7
          cases QQ with
          | true =>
            go_wp2
            go_roundw
            case rel => exact ⟨i + 1, by omega, by go_num, HB8.out, list_take_succ HTk.out HX.out HX2.out (by rw [of_decide_eq_true HQQ.out])⟩
            case measure => simp [intOf]; omega
          | false =>
            go_wp2; go_ret
            have hE : (false = true ↔ l = l') := ⟨fun h => (by cases h), fun e => by
              have h1 := HX.out; rw [e, HX2.out] at h1; simp only [Option.some.injEq, SG.mk.injEq] at h1; exact absurd h1.2.symm (of_decide_eq_false HQQ.out)⟩
            have hE2 : ¬ l = l' := fun e => absurd (hE.2 e) (by simp)
            first | exact ⟨false, rfl, hE, HB8.out⟩ | exact Or.inl ⟨rfl, hE2, HB8.out⟩
        · have dbb : ((b : Int) == b2) = false := (by simpa using hbb)
          go_wp2; have Hmn := hide (show AllMono [(isV (.slice (some ⟨g, o, none⟩) n c)), (isV (.int .i64 (i : Int))), (isV (ptv g (o + i * 2))), (isV (ptv g (o + i * 2))), (isV (.int .i64 b)), (isV (.slice (some ⟨g2, o2, none⟩) n d)), (isV (.int .i64 (i : Int))), (isV (ptv g2 (o2 + i * 2))), (isV (ptv g2 (o2 + i * 2))), (isV (.int .i64 b2)), (isV (.bool true)), (isV (.bool true)), (isV undef), (isV undef), (isV undef), (isV undef), (isV undef), (isV undef), (isV undef), (isV undef), (isV undef), (isV undef), (isV undef), (isV undef), (isV (.bool true))] from by repeat (first | exact trivial | refine ⟨fun _ _ _ _ h => h, ?_⟩)); refine wp_region_rel _ (by kernel_rfl) (by kernel_rfl) (relMono _ Hmn.out) ⟨?_, ?_, ?_, ?_, ?_, ?_, ?_, ?_, ?_, ?_, ?_, ?_, ?_, ?_, ?_, ?_, ?_, ?_, ?_, ?_, ?_, ?_, ?_, ?_, ?_, trivial⟩ ?_
          · exact relStep_plain rfl fun Ac w5 hp => pureM (.slice (some ⟨g, o, none⟩) n c) 0 (hp.out 0 (by rfl))
          · exact relStep_plain rfl fun Ac w5 hp => pureM (.int .i64 (i : Int)) 5 (hp.out 5 (by rfl))
          · exact relStep_plain rfl fun Ac w5 hp => pure2 (ptv g (o + i * 2)) 17 (.slice (some ⟨g, o, none⟩) n c) (hp.d 0) 18 (.int .i64 (i : Int)) (hp.d 1)
          · exact relStep_plain rfl fun Ac w5 hp => pureM (ptv g (o + i * 2)) 19 (hp.d 2)
          · refine relStep_plain rfl ?_; intro Ac w5 hp; have hb := hp.bel; have z0 : w5.cell? ⟨g, o + i * 2, none⟩ = some (.int .i64 b) := (hb.cell hg).trans HZ0.out; exact pure1 (.int .i64 b) 20 (ptv g (o + i * 2)) (hp.d 3)
          · exact relStep_plain rfl fun Ac w5 hp => pureM (.slice (some ⟨g2, o2, none⟩) n d) 1 (hp.out 1 (by rfl))
          · exact relStep_plain rfl fun Ac w5 hp => pureM (.int .i64 (i : Int)) 5 (hp.out 5 (by rfl))
          · exact relStep_plain rfl fun Ac w5 hp => pure2 (ptv g2 (o2 + i * 2)) 22 (.slice (some ⟨g2, o2, none⟩) n d) (hp.d 5) 23 (.int .i64 (i : Int)) (hp.d 6)
          · exact relStep_plain rfl fun Ac w5 hp => pureM (ptv g2 (o2 + i * 2)) 24 (hp.d 7)
          · refine relStep_plain rfl ?_; intro Ac w5 hp; have hb := hp.bel; have y0 : w5.cell? ⟨g2, o2 + i * 2, none⟩ = some (.int .i64 b2) := (hb.cell hg2).trans HY0.out; exact pure1 (.int .i64 b2) 25 (ptv g2 (o2 + i * 2)) (hp.d 8)
          · exact relStep_plain rfl fun Ac w5 hp => pure2 (.bool true) 21 (.int .i64 b) (hp.d 4) 26 (.int .i64 b2) (hp.d 9)
          · exact relStep_plain rfl fun Ac w5 hp => pureM (.bool true) 27 (hp.d 10)
          · exact rsN 11 false
          · exact rsN 11 false
          · exact rsN 11 false
          · exact rsN 11 false
          · exact rsN 11 false
          · exact rsN 11 false
          · exact rsN 11 false
          · exact rsN 11 false
          · exact rsN 11 false
          · exact rsN 11 false
          · exact rsN 11 false
          · exact rsN 11 false
          · exact relStep_plain rfl fun Ac w5 hp => pureM (.bool true) 28 (hp.d 11)
          intro u w8 hb7 hall; have e41 : u 24 = .bool true := relAll_at hall (i := 24) (by decide +kernel); clear hall; simp only [List.drop_succ_cons, List.drop_zero, List.take_succ_cons, List.take_zero, putAll, Act.put, List.setIfInBounds_toArray, List.set_cons_zero, List.set_cons_succ, Nat.zero_add, Nat.reduceAdd, e41]; have HB8 := hide (HBe.out.trans (hb7.mono HBe.out.size)); clear hb7; go_wp2; go_ret
          have hE : (false = true ↔ l = l') := ⟨fun h => (by cases h), fun e => by
            have h1 := HX.out; rw [e, HX2.out] at h1; simp only [Option.some.injEq, SG.mk.injEq] at h1; exact absurd h1.1.symm hbb⟩
          have hE2 : ¬ l = l' := fun e => absurd (hE.2 e) (by simp)
          first | exact ⟨false, rfl, hE, HB8.out⟩ | exact Or.inl ⟨rfl, hE2, HB8.out⟩
      · obtain rfl : i = n := (by omega)
        have e1 : decide ((i : Int) < (i : Int)) = false := (by simp)
        have HE : Hid (l = l') := hide (by
          rwa [List.take_of_length_le (by rw [HN1.out]; exact Nat.le_refl _), List.take_of_length_le (by rw [HN2.out]; exact Nat.le_refl _)] at htk)
        clear hbel hlt htk HTk; go_wp2; go_ret; exact ⟨true, rfl, ⟨fun _ => HE.out, fun _ => rfl⟩, HBe.out⟩
  · have d1 : decide ((n : Int) = (m : Int)) = false := decide_eq_false (by omega); have d2 : ((n : Int) == (m : Int)) = false := (by simpa using fun h => hnm (by omega))
    have HNe : Hid (l ≠ l') := hide (fun e => hnm (by rw [← hl1, ← hl2, e])); clear h h' hl1 hl2
    go_enter Tryz.func97, Tryz.ntmps97
    go_wp2; go_ret; exact ⟨false, rfl, ⟨fun h => (by cases h), fun e => absurd e HNe.out⟩, Below.refl _ _⟩
theorem eqA_comm (x y : AT) : eqA x y = eqA y x := by
 rw [Bool.eq_iff_iff, eqA_iff, eqA_iff]; exact ⟨Eq.symm, Eq.symm⟩
theorem asn_eqA {X Y : AT} {w : World} {f : FuncId} {args : Array Value} (h : Calls Tryz.prog f args w fun e w' => ∃ q : Bool, e = .returned (.bool q) ∧ (q = true ↔ X = Y) ∧ Below w.heap.size w w') : Calls Tryz.prog f args w fun e w' => e = .returned (.bool (eqA X Y)) ∧ Below w.heap.size w w' := by
 refine h.mono ?_; rintro e w' ⟨q, rfl, hq, hb⟩; have : q = eqA X Y := (by rw [Bool.eq_iff_iff, hq, eqA_iff])
 exact ⟨by rw [this], hb⟩
set_option maxRecDepth 100000 in
set_option maxHeartbeats 8000000 in
theorem refASany_any (X Y : AT) (v v' : Value) (w : World) (hv : AtR w X v) (hv' : AtR w Y v') (hn : X.path.length ≤ 100000) : Calls Tryz.prog 46 #[v, v'] w fun e w' => ∃ q : Bool, e = .returned (.bool q) ∧ (q = true ↔ X = Y) ∧ Below w.heap.size w w' := by
 obtain ⟨A, n, c, B, m, d, rfl, hP, hC⟩ := hv; obtain ⟨A2, n2, c2, B2, m2, d2, rfl, hP2, hC2⟩ := hv'; obtain ⟨w1, hw1⟩ : ∃ w1, (w.alloc (.cells (atC X.has X.org A n c X.hop X.med X.pref X.aas X.aid B m d) 28)).alloc (.cells (atC Y.has Y.org A2 n2 c2 Y.hop Y.med Y.pref Y.aas Y.aid B2 m2 d2) 28) = w1 := ⟨_, rfl⟩
 have hb1 : Below w.heap.size w w1 := hw1 ▸ blkBelow2 w _ _; have HK1 : Hid (Blk w1 w.heap.size 28 (atC X.has X.org A n c X.hop X.med X.pref X.aas X.aid B m d)) := hide (hw1 ▸ (Blk.new w _ _).alloc _); have HK2 : Hid (Blk w1 (w.heap.size + 1) 28 (atC Y.has Y.org A2 n2 c2 Y.hop Y.med Y.pref Y.aas Y.aid B2 m2 d2)) := hide (hw1 ▸ blk_new' _ _ (by simp)); have HPs := hide (psany_any A A2 n c n2 c2 X.path Y.path w1 (hP.below sgMono hb1) (hP2.below sgMono hb1) (by rw [← hP.1]; exact hn)); have HU := hide (fun W (hb : Below w.heap.size w W) => hC.below hb); have HU2 := hide (fun W (hb : Below w.heap.size w W) => hC2.below hb); have HB1 := hide hb1; have HW1 := hide hw1; clear hw1 hb1 hP hP2 hC hC2 hn; have hcase : (X.has = Y.has ∧ X.org = Y.org) ∨ ¬ (X.has = Y.has ∧ X.org = Y.org) := Decidable.em _; rcases hcase with ⟨h1, h2⟩ | hq
 ·have HQ1 := hide h1; have HQ2 := hide h2; rw [h1, h2] at HK1 HW1; rw [h1, h2]; clear h1 h2; obtain ⟨a0, a1, a2, a3, a4, a5, a6, a7, a8⟩ := blk9 HK1.out; obtain ⟨b0, b1, b2, b3, b4, b5, b6, b7, b8⟩ := blk9 HK2.out
  go_enter Tryz.func46, Tryz.ntmps46
  go_wp2_with fail
  rw [HW1.out]; refine HPs.out.mono ?_; rintro e w2 ⟨q, rfl, hq, hb⟩; have HB2 := hide (HB1.out.trans (hb.mono HB1.out.size)); have HK1 := hide (HK1.out.below hb HK1.out.lt); have HK2 := hide (HK2.out.below hb HK2.out.lt); have HSa := hide (refSame_any B m d X.comms B2 m2 d2 Y.comms w2 (HU.out w2 HB2.out) (HU2.out w2 HB2.out)); have HPq := hide hq; clear hb hq a0 a1 a2 a3 a4 a5 a6 a7 a8 b0 b1 b2 b3 b4 b5 b6 b7 b8
  cases q with
  | false =>
   go_wp2; go_ret; exact ⟨false, rfl, ⟨fun h => (by cases h), fun h => absurd (HPq.out.2 (by rw [h])) (by simp)⟩, HB2.out⟩
  | true =>
   have hcase : nuA X = nuA Y ∨ nuA X ≠ nuA Y := Decidable.em _; rcases hcase with hq | hq
   ·have HQ := hide hq; simp only [nuA, List.cons.injEq, and_true] at hq; obtain ⟨_, _, h3, h4, h5, h6, h7⟩ := hq; rw [h3, h4, h5, h6, h7] at HK1; clear h3 h4 h5 h6 h7; obtain ⟨a0, a1, a2, a3, a4, a5, a6, a7, a8⟩ := blk9 HK1.out; obtain ⟨b0, b1, b2, b3, b4, b5, b6, b7, b8⟩ := blk9 HK2.out; obtain ⟨q2, hq2⟩ : ∃ q, decide (X.comms = Y.comms) = q := ⟨_, rfl⟩
    rw [hq2] at HSa; have HQq := hide hq2; clear hq2
    go_wp2_with fail
    refine HSa.out.mono ?_; rintro e w3 ⟨rfl, hb⟩; have HB3 := hide (HB2.out.trans (hb.mono HB2.out.size)); clear hb a0 a1 a2 a3 a4 a5 a6 a7 a8 b0 b1 b2 b3 b4 b5 b6 b7 b8; go_wp2; go_ret; refine ⟨q2, rfl, ?_, HB3.out⟩; rw [← HQq.out, decide_eq_true_iff]; exact ⟨fun h => at_ext HQ.out (HPq.out.1 (by simp)) h, fun h => by rw [h]⟩
   ·have HQ := hide hq; have HE1 := HQ1.out; have HE2 := HQ2.out; clear hq; obtain ⟨a0, a1, a2, a3, a4, a5, a6, a7, a8⟩ := blk9 HK1.out; obtain ⟨b0, b1, b2, b3, b4, b5, b6, b7, b8⟩ := blk9 HK2.out; go_wp2
    all_goals first
     | (exfalso; refine HQ.out ?_; simp only [nuA, *]; done)
     | (go_ret; exact ⟨false, rfl, ⟨fun h => (by cases h), fun h => absurd (congrArg nuA h) HQ.out⟩, HB2.out⟩)
 ·have HQ := hide hq; clear hq; obtain ⟨a0, a1, a2, a3, a4, a5, a6, a7, a8⟩ := blk9 HK1.out; obtain ⟨b0, b1, b2, b3, b4, b5, b6, b7, b8⟩ := blk9 HK2.out
  go_enter Tryz.func46, Tryz.ntmps46
  go_upto_region 1 with fail
  rw [HW1.out]
  go_wp2_with fail
  all_goals first
   | (exfalso; refine HQ.out ?_; simp only [*, and_self]; done)
   | (go_ret; exact ⟨false, rfl, ⟨fun h => (by cases h), fun h => absurd ⟨by rw [h], by rw [h]⟩ HQ.out⟩, HB1.out⟩)
set_option maxRecDepth 100000 in
set_option maxHeartbeats 8000000 in
theorem refLacks36_any (F : Nat → Prop) (A B : Option Addr) (n c m d : Nat) (L LB : List (Nat × Nat × AT)) (w : World) (hA : LstAt 11 (tdF F) w A n c (L.map tdZ)) (hB : LstAt 11 tdR w B m d (LB.map tdZ)) (hpl : ∀ z ∈ L, z.2.2.path.length ≤ 100000) (hn : n ≤ 20000) :
    Calls Tryz.prog 36 #[.slice A n c, .slice B m d] w fun e w' => ∃ A' n' c' xs, e = .returned (.slice A' n' c') ∧ w'.ownsRow w.heap.size 71 11 (.slice A' n' c') n' xs ∧ Chunks 11 (tdF F) w xs ((L.filter (lackL LB)).map tdZ) ∧ Below w.heap.size w w' := by
  have HPl := hide hpl; have hmb := hB.2.1; have hmb2 := hB.2.2.1; unfold maxLen at hmb2; clear hpl; obtain ⟨i0, hi, hz0, hz1, hz2⟩ := info_parts toldInfo; have hln : L.length = n := (by have := hA.1; rwa [List.length_map] at this)
  have hnc := hA.2.1; have hmx := hA.2.2.1; unfold maxLen at hmx; have HL := hide hA; have HLn := hide hln; have HLB := hide hB; obtain ⟨w0, hw0⟩ : ∃ W, w.alloc (.cells #[] 71) = W := ⟨_, rfl⟩
  have hb0 : Below w.heap.size w w0 := hw0 ▸ blkBelow1 w _; have HO0 : Hid (w0.ownsRow w.heap.size 71 11 (.slice (some ⟨w.heap.size, 0, none⟩) 0 0) 0 []) := hide (hw0 ▸ World.ownsRow_lit w #[] 0 (Nat.le_refl _) (by unfold maxLen; omega) rfl); have HB0 := hide hb0; have HW0 := hide hw0; clear hA hB hln hw0 hb0
  go_enter Tryz.func36, Tryz.ntmps36
  go_wp2; rw [HW0.out]
  go_loopw [5, 6] (fun vo iv wr => ∃ (q n1 : Nat) (A1 : Option Addr) (c1 : Nat) (xs : List Value), q ≤ n ∧ n1 ≤ q ∧ iv = .int .i64 (q : Nat) ∧ vo = .slice A1 n1 c1 ∧ wr.ownsRow w.heap.size 71 11 (.slice A1 n1 c1) n1 xs ∧ Chunks 11 (tdF F) w xs (((L.take q).filter (lackL LB)).map tdZ) ∧ Below w.heap.size w wr) (fun _ iv _ => n - (intOf iv).toNat)
  case atStart => exact ⟨0, 0, some ⟨w.heap.size, 0, none⟩, 0, [], Nat.zero_le _, Nat.le_refl _, rfl, rfl, HO0.out, Chunks.nil_, HB0.out⟩
  case round =>
    obtain ⟨q, n1, A1, c1, xs, hq, hnq, rfl, rfl, hown, hck, hbel⟩ := hrel; have HO := hide hown; have HCk := hide hck; have HBe := hide hbel; have hsr := hbel.size; by_cases hlt : q < n
    · obtain ⟨g, o, z, B1, k1, e1, B2, k2, d2, rfl, hg0, hz, htf, hzr, hzu, hcs⟩ := TFat HL.out hlt; have hg : g < wr.heap.size := Nat.lt_of_lt_of_le hg0 hbel.size; have HTk : Hid (L.take (q + 1) = L.take q ++ [z]) := hide (by rw [List.take_add_one, hz]; rfl); have hzm := List.mem_of_getElem? hz; have HTf := hide htf; have HZr := hide hzr; have HZu := hide hzu; obtain ⟨a2, m2, X⟩ := z; have HCs := hide hcs; have q1 : (q : Int) < (n : Int) := (by omega)
      have q0 : (0 : Int) ≤ (q : Int) := (by omega)
      have hwq : IntKind.i64.wrap ((q : Int) + 1) = (q : Int) + 1 := (by rw [IntKind.wrap_i64]; omega)
      have f0 : wr.cell? ⟨g, o + q * 11, none⟩ = some (.int .u32 (a2 : Int)) := (hbel.cell hg0).trans (hcs 0 _ rfl); have f1 : wr.cell? ⟨g, o + q * 11 + 1, none⟩ = some (.int .i64 (m2 : Int)) := (hbel.cell hg0).trans (hcs 1 _ rfl); have HAt := hide (refAt36_any B m d LB a2 m2 wr (HLB.out.below tdMono hbel)); have HPz := hide (HPl.out _ hzm); clear hown hck hbel hz htf hzr hzu hzm hcs
      go_wp2_with fail
      refine HAt.out.mono ?_; rintro e w2 ⟨k, rfl, hk, hb2⟩; have HBw := hide (HBe.out.trans (hb2.mono hsr)); have hs2 := hb2.size; have hg : g < w2.heap.size := (by omega)
      have HO2 := hide (own_below HO.out hb2); clear f0 f1; rcases hk with ⟨j, Y, rfl, hjl, hyj, hlk⟩ | ⟨rfl, hlk⟩
      · have hjm : j < m := (by have := HLB.out.1; rw [List.length_map] at this; omega)
        obtain ⟨g2, o2, y, C1, k3, e3, C2, k4, d4, rfl, hg2, hy, hyr, hyu, hcy⟩ := TZat (HLB.out.below tdMono HBw.out) hjm; rw [hyj] at hy; simp only [Option.some.injEq] at hy; subst hy; have HCy := hide hcy; obtain ⟨QQ, hQQ⟩ : ∃ q, eqA X Y = q := ⟨_, rfl⟩
        have HLk : Hid (lackL LB (a2, m2, X) = !QQ) := hide (by unfold lackL; simp only; rw [hlk]; simp only; rw [eqA_comm, hQQ]); have HSm := hide (fun W (hb : Below w2.heap.size w2 W) => asn_eqA (refASany_any X Y (atV X.has X.org B1 k1 e1 X.hop X.med X.pref X.aas X.aid B2 k2 d2) (atV Y.has Y.org C1 k3 e3 Y.hop Y.med Y.pref Y.aas Y.aid C2 k4 d4) W ⟨B1, k1, e1, B2, k2, d2, rfl, (HZr.out.below sgMono HBw.out).below sgMono hb, (HZu.out.below HBw.out).below hb⟩ ⟨C1, k3, e3, C2, k4, d4, rfl, hyr.below sgMono hb, hyu.below hb⟩ HPz.out)); rw [hQQ] at HSm; have j0 : (0 : Int) ≤ (j : Int) := (by omega)
        have j1 : (j : Int) < (m : Int) := (by omega)
        have dj : decide ((j : Int) < 0) = false := decide_eq_false (by omega); clear hb2 hjl hyj hlk hyr hyu hcy hQQ; go_wp2; have Hmn := hide (show AllMono [(isV (.int .i64 (j : Int))), (isV (.bool false)), (isV (.bool false)), (isV (.slice (some ⟨g, o, none⟩) n c)), (isV (.int .i64 (q : Int))), (isV (ptv g (o + q * 11))), (isV (ptv g (o + q * 11 + 2))), (isV (atV X.has X.org B1 k1 e1 X.hop X.med X.pref X.aas X.aid B2 k2 d2)), (isV (.slice (some ⟨g2, o2, none⟩) m d)), (isV (.int .i64 (j : Int))), (isV (ptv g2 (o2 + j * 11))), (isV (ptv g2 (o2 + j * 11 + 2))), (isV (atV Y.has Y.org C1 k3 e3 Y.hop Y.med Y.pref Y.aas Y.aid C2 k4 d4)), (isV (.bool QQ)), (isV (.bool (!QQ))), (isV (.bool (!QQ)))] from by repeat (first | exact trivial | refine ⟨fun _ _ _ _ h => h, ?_⟩)); refine wp_region_rel _ (by kernel_rfl) (by kernel_rfl) (relMono _ Hmn.out) ⟨?_, ?_, ?_, ?_, ?_, ?_, ?_, ?_, ?_, ?_, ?_, ?_, ?_, ?_, ?_, ?_, trivial⟩ ?_
        · exact relStep_plain rfl fun Ac w5 hp => pureM (.int .i64 (j : Int)) 7 (hp.out 7 (by rfl))
        · exact relStep_plain rfl fun Ac w5 hp => pure1 (.bool false) 22 (.int .i64 (j : Int)) (hp.d 0)
        · exact relStep_plain rfl fun Ac w5 hp => pureM (.bool false) 23 (hp.d 1)
        · exact rsG 2 false fun Ac w5 hp => pureM (.slice (some ⟨g, o, none⟩) n c) 0 (hp.out 0 (by rfl))
        · exact rsG 2 false fun Ac w5 hp => pureM (.int .i64 (q : Int)) 6 (hp.out 6 (by rfl))
        · exact rsG 2 false fun Ac w5 hp => pure2 (ptv g (o + q * 11)) 25 (.slice (some ⟨g, o, none⟩) n c) (hp.d 3) 26 (.int .i64 (q : Int)) (hp.d 4)
        · exact rsG 2 false fun Ac w5 hp => pure1 (ptv g (o + q * 11 + 2)) 27 (ptv g (o + q * 11)) (hp.d 5)
        · refine rsG 2 false ?_; intro Ac w5 hp; have hb := hp.bel; have a28 : Ac.eval (.tmp 28) = .pointer (some ⟨g, o + q * 11 + 2, none⟩) := hp.d 6; have f0 : w5.cell? ⟨g, o + q * 11, none⟩ = some (.int .u32 (a2 : Int)) := (HBw.out.cell hg0 |> fun h => (hb.cell hg).trans (h.trans (HCs.out 0 _ rfl)))
          have f1 : w5.cell? ⟨g, o + q * 11 + 1, none⟩ = some (.int .i64 (m2 : Int)) := (HBw.out.cell hg0 |> fun h => (hb.cell hg).trans (h.trans (HCs.out 1 _ rfl)))
          have f2 : w5.cell? ⟨g, o + q * 11 + 2, none⟩ = some (.int .i64 X.has) := (HBw.out.cell hg0 |> fun h => (hb.cell hg).trans (h.trans (HCs.out 2 _ rfl)))
          have f3 : w5.cell? ⟨g, o + q * 11 + 3, none⟩ = some (.int .i64 X.org) := (HBw.out.cell hg0 |> fun h => (hb.cell hg).trans (h.trans (HCs.out 3 _ rfl)))
          have f4 : w5.cell? ⟨g, o + q * 11 + 4, none⟩ = some (.slice B1 k1 e1) := (HBw.out.cell hg0 |> fun h => (hb.cell hg).trans (h.trans (HCs.out 4 _ rfl)))
          have f5 : w5.cell? ⟨g, o + q * 11 + 5, none⟩ = some (.int .u32 X.hop) := (HBw.out.cell hg0 |> fun h => (hb.cell hg).trans (h.trans (HCs.out 5 _ rfl)))
          have f6 : w5.cell? ⟨g, o + q * 11 + 6, none⟩ = some (.int .u32 X.med) := (HBw.out.cell hg0 |> fun h => (hb.cell hg).trans (h.trans (HCs.out 6 _ rfl)))
          have f7 : w5.cell? ⟨g, o + q * 11 + 7, none⟩ = some (.int .u32 X.pref) := (HBw.out.cell hg0 |> fun h => (hb.cell hg).trans (h.trans (HCs.out 7 _ rfl)))
          have f8 : w5.cell? ⟨g, o + q * 11 + 8, none⟩ = some (.int .u32 X.aas) := (HBw.out.cell hg0 |> fun h => (hb.cell hg).trans (h.trans (HCs.out 8 _ rfl)))
          have f9 : w5.cell? ⟨g, o + q * 11 + 9, none⟩ = some (.int .u32 X.aid) := (HBw.out.cell hg0 |> fun h => (hb.cell hg).trans (h.trans (HCs.out 9 _ rfl)))
          have f10 : w5.cell? ⟨g, o + q * 11 + 10, none⟩ = some (.slice B2 k2 d2) := (HBw.out.cell hg0 |> fun h => (hb.cell hg).trans (h.trans (HCs.out 10 _ rfl)))
          exact relPureX (atV X.has X.org B1 k1 e1 X.hop X.med X.pref X.aas X.aid B2 k2 d2) (fun ρ hρ h1 h2 h3 => by rw [hρ] at a28; simp [go_sem, ↓IntWalk.iteOmega, *]) rfl
        · exact rsG 2 false fun Ac w5 hp => pureM (.slice (some ⟨g2, o2, none⟩) m d) 1 (hp.out 1 (by rfl))
        · exact rsG 2 false fun Ac w5 hp => pureM (.int .i64 (j : Int)) 7 (hp.out 7 (by rfl))
        · exact rsG 2 false fun Ac w5 hp => pure2 (ptv g2 (o2 + j * 11)) 30 (.slice (some ⟨g2, o2, none⟩) m d) (hp.d 8) 31 (.int .i64 (j : Int)) (hp.d 9)
        · exact rsG 2 false fun Ac w5 hp => pure1 (ptv g2 (o2 + j * 11 + 2)) 32 (ptv g2 (o2 + j * 11)) (hp.d 10)
        · refine rsG 2 false ?_; intro Ac w5 hp; have hb := hp.bel; have y0 : w5.cell? ⟨g2, o2 + j * 11, none⟩ = some (.int .u32 (a2 : Int)) := (hb.cell hg2).trans (HCy.out 0 _ rfl); have y1 : w5.cell? ⟨g2, o2 + j * 11 + 1, none⟩ = some (.int .i64 (m2 : Int)) := (hb.cell hg2).trans (HCy.out 1 _ rfl); have y2 : w5.cell? ⟨g2, o2 + j * 11 + 2, none⟩ = some (.int .i64 Y.has) := (hb.cell hg2).trans (HCy.out 2 _ rfl); have y3 : w5.cell? ⟨g2, o2 + j * 11 + 3, none⟩ = some (.int .i64 Y.org) := (hb.cell hg2).trans (HCy.out 3 _ rfl); have y4 : w5.cell? ⟨g2, o2 + j * 11 + 4, none⟩ = some (.slice C1 k3 e3) := (hb.cell hg2).trans (HCy.out 4 _ rfl); have y5 : w5.cell? ⟨g2, o2 + j * 11 + 5, none⟩ = some (.int .u32 Y.hop) := (hb.cell hg2).trans (HCy.out 5 _ rfl); have y6 : w5.cell? ⟨g2, o2 + j * 11 + 6, none⟩ = some (.int .u32 Y.med) := (hb.cell hg2).trans (HCy.out 6 _ rfl); have y7 : w5.cell? ⟨g2, o2 + j * 11 + 7, none⟩ = some (.int .u32 Y.pref) := (hb.cell hg2).trans (HCy.out 7 _ rfl); have y8 : w5.cell? ⟨g2, o2 + j * 11 + 8, none⟩ = some (.int .u32 Y.aas) := (hb.cell hg2).trans (HCy.out 8 _ rfl); have y9 : w5.cell? ⟨g2, o2 + j * 11 + 9, none⟩ = some (.int .u32 Y.aid) := (hb.cell hg2).trans (HCy.out 9 _ rfl); have y10 : w5.cell? ⟨g2, o2 + j * 11 + 10, none⟩ = some (.slice C2 k4 d4) := (hb.cell hg2).trans (HCy.out 10 _ rfl); exact pure1 (atV Y.has Y.org C1 k3 e3 Y.hop Y.med Y.pref Y.aas Y.aid C2 k4 d4) 33 (ptv g2 (o2 + j * 11 + 2)) (hp.d 11)
        · refine rsG 2 false ?_; intro Ac w5 hp; have hb := hp.bel; have a29 : Ac.eval (.tmp 29) = atV X.has X.org B1 k1 e1 X.hop X.med X.pref X.aas X.aid B2 k2 d2 := hp.d 7; have a34 : Ac.eval (.tmp 34) = atV Y.has Y.org C1 k3 e3 Y.hop Y.med Y.pref Y.aas Y.aid C2 k4 d4 := hp.d 12; obtain ⟨ρ, hρ, hc, hf, hgl⟩ := evalX Ac; rw [hρ] at a29 a34; refine relCall hρ 46 #[atV X.has X.org B1 k1 e1 X.hop X.med X.pref X.aas X.aid B2 k2 d2, atV Y.has Y.org C1 k3 e3 Y.hop Y.med Y.pref Y.aas Y.aid C2 k4 d4] (by simp [go_sem, ↓IntWalk.iteOmega, *]) ?_; refine (HSm.out w5 hb).mono ?_; rintro e w6 ⟨rfl, hb6⟩; exact ⟨_, rfl, rfl, hb6⟩
        · exact rsG 2 false fun Ac w5 hp => pure1 (.bool (!QQ)) 35 (.bool QQ) (hp.d 13)
        · exact relStep_plain rfl fun Ac w5 hp => pure2 (.bool (!QQ)) 24 (.bool false) (hp.d 2) 36 (.bool (!QQ)) (hp.d 14)
        intro u w8 hb7 hall; have e37 : u 15 = .bool (!QQ) := relAll_at hall (i := 15) (by decide +kernel); clear hall; simp only [List.drop_succ_cons, List.drop_zero, List.take_succ_cons, List.take_zero, putAll, Act.put, List.setIfInBounds_toArray, List.set_cons_zero, List.set_cons_succ, Nat.zero_add, Nat.reduceAdd, e37]; have HB8 := hide (HBw.out.trans (hb7.mono HBw.out.size)); have HO8 := hide (own_below HO2.out hb7); have hs8 := HB8.out.size; clear hb7
        cases QQ with
        | true =>
          have HNo : Hid ([(a2, m2, X)].filter (lackL LB) = []) := hide (by rw [List.filter_cons, HLk.out]; rfl); go_wp2
          go_roundw
          case rel =>
            refine ⟨q + 1, n1, A1, c1, xs, by omega, by omega, by go_num, rfl, HO8.out, ?_, HB8.out⟩; rw [HTk.out, List.filter_append, HNo.out, List.append_nil]; exact HCk.out
          case measure => simp [intOf]; omega
        | false =>
          have HYes : Hid ([(a2, m2, X)].filter (lackL LB) = [(a2, m2, X)]) := hide (by rw [List.filter_cons, HLk.out]; rfl); have f0 : w8.cell? ⟨g, o + q * 11, none⟩ = some (.int .u32 (a2 : Int)) := (HB8.out.cell hg0).trans (HCs.out 0 _ rfl); have f1 : w8.cell? ⟨g, o + q * 11 + 1, none⟩ = some (.int .i64 (m2 : Int)) := (HB8.out.cell hg0).trans (HCs.out 1 _ rfl); have f2 : w8.cell? ⟨g, o + q * 11 + 2, none⟩ = some (.int .i64 X.has) := (HB8.out.cell hg0).trans (HCs.out 2 _ rfl); have f3 : w8.cell? ⟨g, o + q * 11 + 3, none⟩ = some (.int .i64 X.org) := (HB8.out.cell hg0).trans (HCs.out 3 _ rfl); have f4 : w8.cell? ⟨g, o + q * 11 + 4, none⟩ = some (.slice B1 k1 e1) := (HB8.out.cell hg0).trans (HCs.out 4 _ rfl); have f5 : w8.cell? ⟨g, o + q * 11 + 5, none⟩ = some (.int .u32 X.hop) := (HB8.out.cell hg0).trans (HCs.out 5 _ rfl); have f6 : w8.cell? ⟨g, o + q * 11 + 6, none⟩ = some (.int .u32 X.med) := (HB8.out.cell hg0).trans (HCs.out 6 _ rfl); have f7 : w8.cell? ⟨g, o + q * 11 + 7, none⟩ = some (.int .u32 X.pref) := (HB8.out.cell hg0).trans (HCs.out 7 _ rfl); have f8 : w8.cell? ⟨g, o + q * 11 + 8, none⟩ = some (.int .u32 X.aas) := (HB8.out.cell hg0).trans (HCs.out 8 _ rfl); have f9 : w8.cell? ⟨g, o + q * 11 + 9, none⟩ = some (.int .u32 X.aid) := (HB8.out.cell hg0).trans (HCs.out 9 _ rfl); have f10 : w8.cell? ⟨g, o + q * 11 + 10, none⟩ = some (.slice B2 k2 d2) := (HB8.out.cell hg0).trans (HCs.out 10 _ rfl)
          go_wp2_with (at_builtin; refine wpList_append_any _ rfl (.tmp 38) (.tmp 43) 51 rfl w.heap.size 71 i0 _ 11 104 Tryz.underlying51 hi hz0 hz1 hz2 rfl (by decide) (.slice A1 n1 c1) n1 xs rfl (HO8.out.alloc _) (w8.heap.size + 1) (some ⟨w8.heap.size, 0, none⟩) 1 1 [.int .u32 (a2 : Int), .int .i64 (m2 : Int), .int .i64 X.has, .int .i64 X.org, .slice B1 k1 e1, .int .u32 X.hop, .int .u32 X.med, .int .u32 X.pref, .int .u32 X.aas, .int .u32 X.aid, .slice B2 k2 d2] rfl (reads_blkN (Blk.new _ _ _) (by simp) rfl rfl) (by simp [Value.oneCell']) (by unfold maxLen; omega) (by omega) (by simp; omega) ?_; intro v' w9 h5 h6 h7; obtain ⟨A4, c4, rfl⟩ := own_slice h5; have HO9 := hide h5; have HB9 := hide ((HB8.out.trans ((Below.refl w.heap.size w8).alloc (by omega) _)).grown h6 (by simp; omega) (fun k hk => own_low_block HO8.out k hk)); clear h5 h6 h7)
          go_roundw
          case rel =>
            refine ⟨q + 1, n1 + 1, A4, c4, _, by omega, by omega, by go_num, rfl, HO9.out, ?_, HB9.out⟩; rw [HTk.out, List.filter_append, HYes.out, List.map_append]; exact HCk.out.app_ (Chunks.one_ rfl HTf.out)
          case measure => simp [intOf]; omega
      · have HYes : Hid ([(a2, m2, X)].filter (lackL LB) = [(a2, m2, X)]) := hide (by
          have : lackL LB (a2, m2, X) = true := (by unfold lackL; simp only; rw [hlk])
          rw [List.filter_cons, this]; rfl)
        clear hb2 hlk; go_wp2; have Hmn := hide (show AllMono [(isV (.int .i64 (-1))), (isV (.bool true)), (isV (.bool true)), (isV undef), (isV undef), (isV undef), (isV undef), (isV undef), (isV undef), (isV undef), (isV undef), (isV undef), (isV undef), (isV undef), (isV undef), (isV (.bool true))] from by repeat (first | exact trivial | refine ⟨fun _ _ _ _ h => h, ?_⟩)); refine wp_region_rel _ (by kernel_rfl) (by kernel_rfl) (relMono _ Hmn.out) ⟨?_, ?_, ?_, ?_, ?_, ?_, ?_, ?_, ?_, ?_, ?_, ?_, ?_, ?_, ?_, ?_, trivial⟩ ?_
        · exact relStep_plain rfl fun Ac w5 hp => pureM (.int .i64 (-1)) 7 (hp.out 7 (by rfl))
        · exact relStep_plain rfl fun Ac w5 hp => pure1 (.bool true) 22 (.int .i64 (-1)) (hp.d 0)
        · exact relStep_plain rfl fun Ac w5 hp => pureM (.bool true) 23 (hp.d 1)
        · exact rsN 2 false
        · exact rsN 2 false
        · exact rsN 2 false
        · exact rsN 2 false
        · exact rsN 2 false
        · exact rsN 2 false
        · exact rsN 2 false
        · exact rsN 2 false
        · exact rsN 2 false
        · exact rsN 2 false
        · exact rsN 2 false
        · exact rsN 2 false
        · exact relStep_plain rfl fun Ac w5 hp => pureM (.bool true) 24 (hp.d 2)
        intro u w8 hb7 hall; have e37 : u 15 = .bool true := relAll_at hall (i := 15) (by decide +kernel); clear hall; simp only [List.drop_succ_cons, List.drop_zero, List.take_succ_cons, List.take_zero, putAll, Act.put, List.setIfInBounds_toArray, List.set_cons_zero, List.set_cons_succ, Nat.zero_add, Nat.reduceAdd, e37]; have HB8 := hide (HBw.out.trans (hb7.mono HBw.out.size)); have HO8 := hide (own_below HO2.out hb7); have hs8 := HB8.out.size; clear hb7; have f0 : w8.cell? ⟨g, o + q * 11, none⟩ = some (.int .u32 (a2 : Int)) := (HB8.out.cell hg0).trans (HCs.out 0 _ rfl); have f1 : w8.cell? ⟨g, o + q * 11 + 1, none⟩ = some (.int .i64 (m2 : Int)) := (HB8.out.cell hg0).trans (HCs.out 1 _ rfl); have f2 : w8.cell? ⟨g, o + q * 11 + 2, none⟩ = some (.int .i64 X.has) := (HB8.out.cell hg0).trans (HCs.out 2 _ rfl); have f3 : w8.cell? ⟨g, o + q * 11 + 3, none⟩ = some (.int .i64 X.org) := (HB8.out.cell hg0).trans (HCs.out 3 _ rfl); have f4 : w8.cell? ⟨g, o + q * 11 + 4, none⟩ = some (.slice B1 k1 e1) := (HB8.out.cell hg0).trans (HCs.out 4 _ rfl); have f5 : w8.cell? ⟨g, o + q * 11 + 5, none⟩ = some (.int .u32 X.hop) := (HB8.out.cell hg0).trans (HCs.out 5 _ rfl); have f6 : w8.cell? ⟨g, o + q * 11 + 6, none⟩ = some (.int .u32 X.med) := (HB8.out.cell hg0).trans (HCs.out 6 _ rfl); have f7 : w8.cell? ⟨g, o + q * 11 + 7, none⟩ = some (.int .u32 X.pref) := (HB8.out.cell hg0).trans (HCs.out 7 _ rfl); have f8 : w8.cell? ⟨g, o + q * 11 + 8, none⟩ = some (.int .u32 X.aas) := (HB8.out.cell hg0).trans (HCs.out 8 _ rfl); have f9 : w8.cell? ⟨g, o + q * 11 + 9, none⟩ = some (.int .u32 X.aid) := (HB8.out.cell hg0).trans (HCs.out 9 _ rfl); have f10 : w8.cell? ⟨g, o + q * 11 + 10, none⟩ = some (.slice B2 k2 d2) := (HB8.out.cell hg0).trans (HCs.out 10 _ rfl)
        go_wp2_with (at_builtin; refine wpList_append_any _ rfl (.tmp 38) (.tmp 43) 51 rfl w.heap.size 71 i0 _ 11 104 Tryz.underlying51 hi hz0 hz1 hz2 rfl (by decide) (.slice A1 n1 c1) n1 xs rfl (HO8.out.alloc _) (w8.heap.size + 1) (some ⟨w8.heap.size, 0, none⟩) 1 1 [.int .u32 (a2 : Int), .int .i64 (m2 : Int), .int .i64 X.has, .int .i64 X.org, .slice B1 k1 e1, .int .u32 X.hop, .int .u32 X.med, .int .u32 X.pref, .int .u32 X.aas, .int .u32 X.aid, .slice B2 k2 d2] rfl (reads_blkN (Blk.new _ _ _) (by simp) rfl rfl) (by simp [Value.oneCell']) (by unfold maxLen; omega) (by omega) (by simp; omega) ?_; intro v' w9 h5 h6 h7; obtain ⟨A4, c4, rfl⟩ := own_slice h5; have HO9 := hide h5; have HB9 := hide ((HB8.out.trans ((Below.refl w.heap.size w8).alloc (by omega) _)).grown h6 (by simp; omega) (fun k hk => own_low_block HO8.out k hk)); clear h5 h6 h7)
        go_roundw
        case rel =>
          refine ⟨q + 1, n1 + 1, A4, c4, _, by omega, by omega, by go_num, rfl, HO9.out, ?_, HB9.out⟩; rw [HTk.out, List.filter_append, HYes.out, List.map_append]; exact HCk.out.app_ (Chunks.one_ rfl HTf.out)
        case measure => simp [intOf]; omega
    · obtain rfl : q = n := (by omega)
      have e1 : decide ((q : Int) < (q : Int)) = false := (by simp)
      rw [List.take_of_length_le (by rw [HLn.out]; exact Nat.le_refl _)] at hck; have HCe := hide hck; clear hown hck hbel hlt; go_wp2; go_ret
      first
        | exact ⟨A1, n1, c1, rfl, xs, HO.out, HCe.out, HBe.out⟩
        | exact ⟨A1, n1, c1, xs, rfl, HO.out, HCe.out, HBe.out⟩
set_option maxRecDepth 100000 in
set_option maxHeartbeats 8000000 in
theorem refKeep36_any (F : Nat → Prop) (A B : Option Addr) (n c m d : Nat) (L LB : List (Nat × Nat × AT)) (is : Bool) (w : World) (hA : LstAt 11 (tdF F) w A n c (L.map tdZ)) (hB : LstAt 11 tdR w B m d (LB.map tdZ)) (hn : n ≤ 20000) :
  Calls Tryz.prog 34 #[.slice A n c, .slice B m d, .bool is] w fun e w' => ∃ A' n' c' xs, e = .returned (.slice A' n' c') ∧ w'.ownsRow w.heap.size 71 11 (.slice A' n' c') n' xs ∧ Chunks 11 (tdF F) w xs ((L.filter (fun z => (lkL z.1 z.2.1 LB).isSome == is)).map tdZ) ∧ Below w.heap.size w w' := by
 obtain ⟨i0, hi, hz0, hz1, hz2⟩ := info_parts toldInfo; have hln : L.length = n := (by have := hA.1; rwa [List.length_map] at this)
 have hnc := hA.2.1; have hmx := hA.2.2.1; unfold maxLen at hmx; have HL := hide hA; have HLn := hide hln; have HLB := hide hB; obtain ⟨w0, hw0⟩ : ∃ W, w.alloc (.cells #[] 71) = W := ⟨_, rfl⟩
 have hb0 : Below w.heap.size w w0 := hw0 ▸ blkBelow1 w _; have HO0 : Hid (w0.ownsRow w.heap.size 71 11 (.slice (some ⟨w.heap.size, 0, none⟩) 0 0) 0 []) := hide (hw0 ▸ World.ownsRow_lit w #[] 0 (Nat.le_refl _) (by unfold maxLen; omega) rfl); have HB0 := hide hb0; have HW0 := hide hw0; clear hA hB hln hw0 hb0
 go_enter Tryz.func34, Tryz.ntmps34
 go_wp2; rw [HW0.out]
 go_loopw [7, 8] (fun vo iv wr => ∃ (q n1 : Nat) (A1 : Option Addr) (c1 : Nat) (xs : List Value), q ≤ n ∧ n1 ≤ q ∧ iv = .int .i64 (q : Nat) ∧ vo = .slice A1 n1 c1 ∧ wr.ownsRow w.heap.size 71 11 (.slice A1 n1 c1) n1 xs ∧ Chunks 11 (tdF F) w xs (((L.take q).filter (fun z => (lkL z.1 z.2.1 LB).isSome == is)).map tdZ) ∧ Below w.heap.size w wr) (fun _ iv _ => n - (intOf iv).toNat)
 case atStart => exact ⟨0, 0, some ⟨w.heap.size, 0, none⟩, 0, [], Nat.zero_le _, Nat.le_refl _, rfl, rfl, HO0.out, Chunks.nil_, HB0.out⟩
 case round =>
  obtain ⟨q, n1, A1, c1, xs, hq, hnq, rfl, rfl, hown, hck, hbel⟩ := hrel; have HO := hide hown; have HCk := hide hck; have HBe := hide hbel; have hsr := hbel.size; by_cases hlt : q < n
  ·obtain ⟨g, o, z, B1, k1, e1, B2, k2, d2, rfl, hg0, hz, htf, hzr, hzu, hcs⟩ := TFat HL.out hlt; have hg : g < wr.heap.size := Nat.lt_of_lt_of_le hg0 hbel.size; have HTk : Hid (L.take (q + 1) = L.take q ++ [z]) := hide (by rw [List.take_add_one, hz]; rfl); have hzm := List.mem_of_getElem? hz; have HTf := hide htf; have HZr := hide hzr; have HZu := hide hzu; obtain ⟨a2, m2, X⟩ := z; have HCs := hide hcs; have q1 : (q : Int) < (n : Int) := (by omega)
   have q0 : (0 : Int) ≤ (q : Int) := (by omega)
   have hwq : IntKind.i64.wrap ((q : Int) + 1) = (q : Int) + 1 := (by rw [IntKind.wrap_i64]; omega)
   have f0 : wr.cell? ⟨g, o + q * 11, none⟩ = some (.int .u32 (a2 : Int)) := (hbel.cell hg0).trans (hcs 0 _ rfl); have f1 : wr.cell? ⟨g, o + q * 11 + 1, none⟩ = some (.int .i64 (m2 : Int)) := (hbel.cell hg0).trans (hcs 1 _ rfl); have HAt := hide (refAt36_any B m d LB a2 m2 wr (HLB.out.below tdMono hbel)); clear hown hck hbel hz htf hzr hzu hzm hcs
   go_wp2_with fail
   refine HAt.out.mono ?_; rintro e w8 ⟨k, rfl, hk, hb2⟩; have HB8 := hide (HBe.out.trans (hb2.mono hsr)); have hs8 := HB8.out.size; have HO8 := hide (own_below HO.out hb2); obtain ⟨S, hS⟩ : ∃ b, (lkL a2 m2 LB).isSome = b := ⟨_, rfl⟩
   have HS := hide hS
   have dk : decide (0 ≤ k) = S := by
    rw [← hS]; rcases hk with ⟨j, Y, rfl, _, _, hlk⟩ | ⟨rfl, hlk⟩
    ·rw [hlk]; exact decide_eq_true (by omega)
    ·rw [hlk]; rfl
   have pk : (0 ≤ k) = (S = true) := (by rw [← dk]; simp)
   clear f0 f1 hb2 hk hS
   cases S with
   | true =>
    have pk' : 0 ≤ k := (by simpa using pk)
    cases is with
    | true =>
     have HYes : Hid ([(a2, m2, X)].filter (fun z => (lkL z.1 z.2.1 LB).isSome == true) = [(a2, m2, X)]) := hide (by rw [List.filter_cons]; simp only [HS.out]; rfl); have f0 : w8.cell? ⟨g, o + q * 11, none⟩ = some (.int .u32 (a2 : Int)) := (HB8.out.cell hg0).trans (HCs.out 0 _ rfl); have f1 : w8.cell? ⟨g, o + q * 11 + 1, none⟩ = some (.int .i64 (m2 : Int)) := (HB8.out.cell hg0).trans (HCs.out 1 _ rfl); have f2 : w8.cell? ⟨g, o + q * 11 + 2, none⟩ = some (.int .i64 X.has) := (HB8.out.cell hg0).trans (HCs.out 2 _ rfl); have f3 : w8.cell? ⟨g, o + q * 11 + 3, none⟩ = some (.int .i64 X.org) := (HB8.out.cell hg0).trans (HCs.out 3 _ rfl); have f4 : w8.cell? ⟨g, o + q * 11 + 4, none⟩ = some (.slice B1 k1 e1) := (HB8.out.cell hg0).trans (HCs.out 4 _ rfl); have f5 : w8.cell? ⟨g, o + q * 11 + 5, none⟩ = some (.int .u32 X.hop) := (HB8.out.cell hg0).trans (HCs.out 5 _ rfl); have f6 : w8.cell? ⟨g, o + q * 11 + 6, none⟩ = some (.int .u32 X.med) := (HB8.out.cell hg0).trans (HCs.out 6 _ rfl); have f7 : w8.cell? ⟨g, o + q * 11 + 7, none⟩ = some (.int .u32 X.pref) := (HB8.out.cell hg0).trans (HCs.out 7 _ rfl); have f8 : w8.cell? ⟨g, o + q * 11 + 8, none⟩ = some (.int .u32 X.aas) := (HB8.out.cell hg0).trans (HCs.out 8 _ rfl); have f9 : w8.cell? ⟨g, o + q * 11 + 9, none⟩ = some (.int .u32 X.aid) := (HB8.out.cell hg0).trans (HCs.out 9 _ rfl); have f10 : w8.cell? ⟨g, o + q * 11 + 10, none⟩ = some (.slice B2 k2 d2) := (HB8.out.cell hg0).trans (HCs.out 10 _ rfl)
     go_wp2_with (at_builtin; refine wpList_append_any _ rfl (.tmp 26) (.tmp 31) 51 rfl w.heap.size 71 i0 _ 11 104 Tryz.underlying51 hi hz0 hz1 hz2 rfl (by decide) (.slice A1 n1 c1) n1 xs rfl (HO8.out.alloc _) (w8.heap.size + 1) (some ⟨w8.heap.size, 0, none⟩) 1 1 [.int .u32 (a2 : Int), .int .i64 (m2 : Int), .int .i64 X.has, .int .i64 X.org, .slice B1 k1 e1, .int .u32 X.hop, .int .u32 X.med, .int .u32 X.pref, .int .u32 X.aas, .int .u32 X.aid, .slice B2 k2 d2] rfl (reads_blkN (Blk.new _ _ _) (by simp) rfl rfl) (by simp [Value.oneCell']) (by unfold maxLen; omega) (by omega) (by simp; omega) ?_; intro v' w9 h5 h6 h7; obtain ⟨A4, c4, rfl⟩ := own_slice h5; have HO9 := hide h5; have HB9 := hide ((HB8.out.trans ((Below.refl w.heap.size w8).alloc (by omega) _)).grown h6 (by simp; omega) (fun k hk => own_low_block HO8.out k hk)); clear h5 h6 h7)
     go_roundw
     case rel =>
      refine ⟨q + 1, n1 + 1, A4, c4, _, by omega, by omega, by go_num, rfl, HO9.out, ?_, HB9.out⟩; rw [HTk.out, List.filter_append, HYes.out, List.map_append]; exact HCk.out.app_ (Chunks.one_ rfl HTf.out)
     case measure => simp [intOf]; omega
    | false =>
     have HNo : Hid ([(a2, m2, X)].filter (fun z => (lkL z.1 z.2.1 LB).isSome == false) = []) := hide (by rw [List.filter_cons]; simp only [HS.out]; rfl); go_wp2
     go_roundw
     case rel =>
      refine ⟨q + 1, n1, A1, c1, xs, by omega, by omega, by go_num, rfl, HO8.out, ?_, HB8.out⟩; rw [HTk.out, List.filter_append, HNo.out, List.append_nil]; exact HCk.out
     case measure => simp [intOf]; omega
   | false =>
    have pk' : ¬ 0 ≤ k := (by simpa using pk)
    cases is with
    | true =>
     have HNo : Hid ([(a2, m2, X)].filter (fun z => (lkL z.1 z.2.1 LB).isSome == true) = []) := hide (by rw [List.filter_cons]; simp only [HS.out]; rfl); go_wp2
     go_roundw
     case rel =>
      refine ⟨q + 1, n1, A1, c1, xs, by omega, by omega, by go_num, rfl, HO8.out, ?_, HB8.out⟩; rw [HTk.out, List.filter_append, HNo.out, List.append_nil]; exact HCk.out
     case measure => simp [intOf]; omega
    | false =>
     have HYes : Hid ([(a2, m2, X)].filter (fun z => (lkL z.1 z.2.1 LB).isSome == false) = [(a2, m2, X)]) := hide (by rw [List.filter_cons]; simp only [HS.out]; rfl); have f0 : w8.cell? ⟨g, o + q * 11, none⟩ = some (.int .u32 (a2 : Int)) := (HB8.out.cell hg0).trans (HCs.out 0 _ rfl); have f1 : w8.cell? ⟨g, o + q * 11 + 1, none⟩ = some (.int .i64 (m2 : Int)) := (HB8.out.cell hg0).trans (HCs.out 1 _ rfl); have f2 : w8.cell? ⟨g, o + q * 11 + 2, none⟩ = some (.int .i64 X.has) := (HB8.out.cell hg0).trans (HCs.out 2 _ rfl); have f3 : w8.cell? ⟨g, o + q * 11 + 3, none⟩ = some (.int .i64 X.org) := (HB8.out.cell hg0).trans (HCs.out 3 _ rfl); have f4 : w8.cell? ⟨g, o + q * 11 + 4, none⟩ = some (.slice B1 k1 e1) := (HB8.out.cell hg0).trans (HCs.out 4 _ rfl); have f5 : w8.cell? ⟨g, o + q * 11 + 5, none⟩ = some (.int .u32 X.hop) := (HB8.out.cell hg0).trans (HCs.out 5 _ rfl); have f6 : w8.cell? ⟨g, o + q * 11 + 6, none⟩ = some (.int .u32 X.med) := (HB8.out.cell hg0).trans (HCs.out 6 _ rfl); have f7 : w8.cell? ⟨g, o + q * 11 + 7, none⟩ = some (.int .u32 X.pref) := (HB8.out.cell hg0).trans (HCs.out 7 _ rfl); have f8 : w8.cell? ⟨g, o + q * 11 + 8, none⟩ = some (.int .u32 X.aas) := (HB8.out.cell hg0).trans (HCs.out 8 _ rfl); have f9 : w8.cell? ⟨g, o + q * 11 + 9, none⟩ = some (.int .u32 X.aid) := (HB8.out.cell hg0).trans (HCs.out 9 _ rfl); have f10 : w8.cell? ⟨g, o + q * 11 + 10, none⟩ = some (.slice B2 k2 d2) := (HB8.out.cell hg0).trans (HCs.out 10 _ rfl)
     go_wp2_with (at_builtin; refine wpList_append_any _ rfl (.tmp 26) (.tmp 31) 51 rfl w.heap.size 71 i0 _ 11 104 Tryz.underlying51 hi hz0 hz1 hz2 rfl (by decide) (.slice A1 n1 c1) n1 xs rfl (HO8.out.alloc _) (w8.heap.size + 1) (some ⟨w8.heap.size, 0, none⟩) 1 1 [.int .u32 (a2 : Int), .int .i64 (m2 : Int), .int .i64 X.has, .int .i64 X.org, .slice B1 k1 e1, .int .u32 X.hop, .int .u32 X.med, .int .u32 X.pref, .int .u32 X.aas, .int .u32 X.aid, .slice B2 k2 d2] rfl (reads_blkN (Blk.new _ _ _) (by simp) rfl rfl) (by simp [Value.oneCell']) (by unfold maxLen; omega) (by omega) (by simp; omega) ?_; intro v' w9 h5 h6 h7; obtain ⟨A4, c4, rfl⟩ := own_slice h5; have HO9 := hide h5; have HB9 := hide ((HB8.out.trans ((Below.refl w.heap.size w8).alloc (by omega) _)).grown h6 (by simp; omega) (fun k hk => own_low_block HO8.out k hk)); clear h5 h6 h7)
     go_roundw
     case rel =>
      refine ⟨q + 1, n1 + 1, A4, c4, _, by omega, by omega, by go_num, rfl, HO9.out, ?_, HB9.out⟩; rw [HTk.out, List.filter_append, HYes.out, List.map_append]; exact HCk.out.app_ (Chunks.one_ rfl HTf.out)
     case measure => simp [intOf]; omega
  ·obtain rfl : q = n := (by omega)
   have e1 : decide ((q : Int) < (q : Int)) = false := (by simp)
   rw [List.take_of_length_le (by rw [HLn.out]; exact Nat.le_refl _)] at hck; have HCe := hide hck; clear hown hck hbel hlt; go_wp2; go_ret
   first
    | exact ⟨A1, n1, c1, rfl, xs, HO.out, HCe.out, HBe.out⟩
    | exact ⟨A1, n1, c1, xs, rfl, HO.out, HCe.out, HBe.out⟩
set_option maxRecDepth 100000 in
theorem pxCompact_nil (w : World) : Calls Tryz.prog 154 #[.slice none 0 0] w fun e w' => e = .returned (.slice none 0 0) ∧ w' = w := by
 have hnil := fun w => Lib.run_eql_slice_nil (P := Tryz.prog) w
 go_enter Tryz.func154, Tryz.ntmps154
 go_wp2; go_ret; exact ⟨rfl, rfl⟩
set_option maxRecDepth 100000 in
theorem pxIns_nil (f : Value) (w : World) : Calls Tryz.prog 238 #[.slice none 0 0, .int .i64 0, .int .i64 0, f] w fun e w' => e = .returned (.tuple #[]) ∧ w' = w := by
 go_enter Tryz.func238, Tryz.ntmps238
 go_wp2
 go_loopw [8] (fun iv wr => iv = .int .i64 1 ∧ wr = w) (fun iv _ => 0)
 case atStart => exact ⟨rfl, rfl⟩
 case round =>
  obtain ⟨rfl, rfl⟩ := hrel; go_wp2; refine bodyPost_end (results_none rfl _ _ _) rfl ?_; exact ⟨rfl, rfl⟩
set_option maxRecDepth 100000 in
set_option maxHeartbeats 4000000 in
theorem pxPdq_nil (f : Value) (k : Int) (w : World) : Calls Tryz.prog 195 #[.slice none 0 0, .int .i64 0, .int .i64 0, .int .i64 k, f] w fun e w' => e = .returned (.tuple #[]) ∧ w' = w := by
 have H := hide (pxIns_nil f w)
 go_enter Tryz.func195, Tryz.ntmps195
 go_wp2
 go_loopw [1, 2] (fun a b wr => a = .int .i64 0 ∧ b = .int .i64 0 ∧ wr = w) (fun _ _ _ => 0)
 case atStart => exact ⟨rfl, rfl, rfl⟩
 case round =>
  obtain ⟨rfl, rfl, rfl⟩ := hrel
  go_wp2_with fail
  refine H.out.mono ?_; rintro e w1 ⟨rfl, rfl⟩; go_wp2; refine bodyPost_ret (results_none rfl _ _ _) rfl ?_; exact ⟨rfl, rfl⟩
set_option maxRecDepth 100000 in
theorem pxSortF_nil (f : Value) (w : World) : Calls Tryz.prog 152 #[.slice none 0 0, f] w fun e w' => e = .returned (.tuple #[]) ∧ w' = w := by
 have HL := hide (Tryz.bits_Len 0 w (by omega) (by omega)); have H := hide (fun k w => pxPdq_nil f k w)
 go_enter Tryz.func152, Tryz.ntmps152
 go_wp2_with fail
 refine HL.out.mono ?_; rintro e w1 ⟨rfl, rfl⟩
 go_wp2_with fail
 refine (H.out _ _).mono ?_; rintro e w1 ⟨rfl, rfl⟩; go_wp2; refine bodyPost_end (results_none rfl _ _ _) rfl ?_; exact ⟨rfl, rfl⟩
instance pg_dec (a n : Nat) : Decidable (PG a n) := by unfold PG; infer_instance
def pK (x : Nat × Nat) : Nat := x.1 * 64 + x.2
def unK (x : Nat) : Nat × Nat := (x / 64, x % 64)
theorem unK_pK {x : Nat × Nat} (h : PG x.1 x.2) : unK (pK x) = x := by
 obtain ⟨a, n⟩ := x; have h2 := h.2.1; simp only at h2; unfold unK pK; simp only [Prod.mk.injEq]; omega
def nk (x : Nat) : Nat := if PG (x / 64) (x % 64) then x else 0
theorem nk_pg (x : Nat) : PG (nk x / 64) (nk x % 64) := by
 unfold nk; split
 ·assumption
 ·decide
theorem nk_of {x : Nat} (h : PG (x / 64) (x % 64)) : nk x = x := by unfold nk; rw [if_pos h]
theorem nk_pK {x : Nat × Nat} (h : PG x.1 x.2) : nk (pK x) = pK x := by
 refine nk_of ?_; have := unK_pK h; unfold unK at this; rw [← this] at h; exact h
def enK (x : Nat) : List Value := [.int .u32 ((nk x / 64 : Nat) : Int), .int .i64 ((nk x % 64 : Nat) : Int)]
theorem enK_len (x : Nat) : (enK x).length = 2 := rfl
theorem enK_of {x : Nat} (h : nk x = x) : enK x = [.int .u32 ((x / 64 : Nat) : Int), .int .i64 ((x % 64 : Nat) : Int)] := by unfold enK; rw [h]
def cfK (x y : Nat) : Int := if nk x < nk y then -1 else if nk x = nk y then 0 else 1
theorem cmpK (x y : Nat) : cmpP (nk x / 64) ((nk x % 64 : Nat) : Int) (nk y / 64) ((nk y % 64 : Nat) : Int) = cfK x y := by
 unfold cmpP cfK; have h1 := (nk_pg x).2.1; have h2 := (nk_pg y).2.1
 generalize nk x = u at *
 generalize nk y = v at *
 by_cases h : u < v
 ·rw [if_pos h, if_pos (by omega)]
 ·rw [if_neg h, if_neg (by omega)]; by_cases h3 : u = v
  ·subst h3; simp
  ·rw [if_neg h3, if_neg (by omega)]
def pkC (l : List Nat) : List Value := l.flatMap enK
theorem flat2 {α β : Type} (f : α → List β) (hf : ∀ x, (f x).length = 2) : ∀ (l : List α) (j i : Nat) (x : α), l[j]? = some x → i < 2 → (l.flatMap f)[j * 2 + i]? = (f x)[i]?
 | [], _, _, _, h, _ => by simp at h
 | y :: l, 0, i, x, h, hi => by
   simp only [List.getElem?_cons_zero, Option.some.injEq] at h; subst h; rw [List.flatMap_cons, List.getElem?_append_left (by rw [hf]; omega)]
   simp
 | y :: l, j + 1, i, x, h, hi => by
   rw [List.flatMap_cons, List.getElem?_append_right (by rw [hf]; omega), hf, show (j + 1) * 2 + i - 2 = j * 2 + i by omega]; exact flat2 f hf l j i x (by simpa using h) hi
theorem flat2_len {α β : Type} (f : α → List β) (hf : ∀ x, (f x).length = 2) (l : List α) : (l.flatMap f).length = l.length * 2 := by
 induction l with
 | nil => rfl
 | cons x l ih => rw [List.flatMap_cons, List.length_append, hf, ih, List.length_cons]; omega
theorem two_of {α : Type} : ∀ {l : List α}, l.length = 2 → ∃ p q, l = [p, q]
 | [p, q], _ => ⟨p, q, rfl⟩
 | [], h => by simp at h
 | [_], h => by simp at h
 | _ :: _ :: _ :: _, h => by simp at h
theorem flat2_set {α β : Type} (f : α → List β) (hf : ∀ x, (f x).length = 2) : ∀ (l : List α) (k : Nat) (x : α) (u v : β), f x = [u, v] → ((l.flatMap f).set (k * 2) u).set (k * 2 + 1) v = (l.set k x).flatMap f
 | [], k, x, u, v, h => by simp
 | y :: l, 0, x, u, v, h => by
   obtain ⟨p, q, hp⟩ := two_of (hf y); simp [List.flatMap_cons, hp, h]
 | y :: l, k + 1, x, u, v, h => by
   obtain ⟨p, q, hp⟩ := two_of (hf y); have := flat2_set f hf l k x u v h; simp only [List.set_cons_succ, List.flatMap_cons, hp, ← this]; rw [show (k + 1) * 2 = k * 2 + 1 + 1 by omega]
   simp
theorem flat2_take {α β : Type} (f : α → List β) (hf : ∀ x, (f x).length = 2) : ∀ (l : List α) (k : Nat), (l.take k).flatMap f = (l.flatMap f).take (k * 2)
 | [], k => by simp
 | y :: l, 0 => by simp
 | y :: l, k + 1 => by
   rw [List.take_succ_cons, List.flatMap_cons, List.flatMap_cons, flat2_take f hf l k, show (k + 1) * 2 = 2 + k * 2 by omega, ← hf y, List.take_length_add_append]
theorem pkC_len (l : List Nat) : (pkC l).length = l.length * 2 := flat2_len enK enK_len l
theorem pkC_pxC : ∀ (l : List Nat), (∀ x ∈ l, nk x = x) → pkC l = pxC (l.map unK)
 | [], _ => rfl
 | x :: l, h => by
   have ih := pkC_pxC l (fun y hy => h y (List.mem_cons_of_mem _ hy)); unfold pkC pxC at *; rw [List.map_cons, List.flatMap_cons, List.flatMap_cons, ih, enK_of (h x (List.mem_cons_self ..))]
   rfl
theorem map_unK {l : List (Nat × Nat)} (h : ∀ x ∈ l, PG x.1 x.2) : (l.map pK).map unK = l := by
 rw [List.map_map]
 conv => rhs; rw [← List.map_id l]
 exact List.map_congr_left fun x hx => unK_pK (h x hx)
def PkRow (base g cap : Nat) (w : World) (d : Array Nat) : Prop := w.ownsRow base 24 2 (.slice (some ⟨g, 0, none⟩) d.size cap) d.size (pkC d.toList) ∧ (∀ x ∈ d.toList, nk x = x) ∧ base ≤ g ∧ g < w.heap.size ∧ d.size ≤ cap ∧ cap ≤ maxLen
theorem PkRow.val {base g cap : Nat} {w : World} {d : Array Nat} (h : PkRow base g cap w d) (j : Nat) : nk (d[j]! : Nat) = d[j]! := by
 by_cases hj : j < d.size
 ·rw [getElem!_pos d j hj]; exact h.2.1 _ (by simp)
 ·rw [getElem!_neg d j hj]; decide
theorem PkRow.cell {base g cap : Nat} {w : World} {d : Array Nat} (h : PkRow base g cap w d) {j : Nat} (hj : j < d.size) : w.cell? ⟨g, j * 2, none⟩ = some (.int .u32 ((d[j]! / 64 : Nat) : Int)) ∧ w.cell? ⟨g, j * 2 + 1, none⟩ = some (.int .i64 ((d[j]! % 64 : Nat) : Int)) := by
 have hx : d.toList[j]? = some d[j]! := (by simp [hj])
 have e := enK_of (h.val j); constructor
 ·rw [h.1.cellAt _ (by omega)]; have := flat2 enK enK_len d.toList j 0 _ hx (by omega); rw [Nat.add_zero, e] at this; exact this
 ·rw [h.1.cellAt _ (by omega)]; have := flat2 enK enK_len d.toList j 1 _ hx (by omega); rw [e] at this; exact this
theorem PkRow.drewN {base g cap : Nat} {w : World} {d : Array Nat} (h : PkRow base g cap w d) (n : Nat) : PkRow base g cap (w.drewN n) d := h
theorem PkRow.set_ {base g cap : Nat} {w : World} {d : Array Nat} (h : PkRow base g cap w d) {k x : Nat} (hx : nk x = x) : PkRow base g cap (w.setCells g (k * 2) [.int .u32 ((x / 64 : Nat) : Int), .int .i64 ((x % 64 : Nat) : Int)]) (d.setIfInBounds k x) := by
 obtain ⟨h1, h2, h3, h4, h5, h6⟩ := h; have e1 := (h1.stored (k * 2) (.int .u32 ((x / 64 : Nat) : Int))).1; have e2 := (e1.stored (k * 2 + 1) (.int .i64 ((x % 64 : Nat) : Int))).1; unfold pkC at e2; rw [flat2_set enK enK_len d.toList k x _ _ (enK_of hx)] at e2; refine ⟨?_, fun y hy => ?_, h3, by simpa [World.setCells, World.setCell] using h4, by simpa using h5, h6⟩
 ·unfold pkC; simpa [World.setCells] using e2
 ·have hy' : y ∈ d.toList.set k x := (by simpa using hy)
  rcases List.mem_or_eq_of_mem_set hy' with h | h
  ·exact h2 y h
  ·rw [h]; exact hx
theorem own_setCellsK {base g n cap e sz : Nat} : ∀ (vs : List Value) (j : Nat) {w : World} {xs : List Value}, w.ownsRow base e sz (.slice (some ⟨g, 0, none⟩) n cap) n xs → j + vs.length ≤ n * sz →
  (w.setCells g j vs).ownsRow base e sz (.slice (some ⟨g, 0, none⟩) n cap) n (xs.take j ++ vs ++ xs.drop (j + vs.length))
 | [], j, w, xs, h, _ => by simpa [World.setCells] using h
 | v :: vs, j, w, xs, h, hj => by
  have hl : xs.length = n * sz := h.1; have hj' : j + (vs.length + 1) ≤ n * sz := (by simpa using hj)
  have h1 := (h.stored j v).1; have h2 := own_setCellsK vs (j + 1) h1 (by omega)
  have e1 : (xs.set j v).take (j + 1) = xs.take j ++ [v] := by
   rw [List.take_add_one, List.take_set_of_le (by omega), List.getElem?_set_self (by omega)]
   rfl
  have e2 : (xs.set j v).drop (j + 1 + vs.length) = xs.drop (j + (v :: vs).length) := by
   rw [List.drop_set_of_lt (by omega)]
   congr 1
   simp; omega
  rw [e1, e2] at h2; simpa [World.setCells, List.append_assoc] using h2
theorem PkRow.cut {base g cap k : Nat} {w : World} {d : Array Nat} (h : PkRow base g cap w d) (hk : k ≤ d.size) : w.ownsRow base 24 2 (.slice (some ⟨g, 0, none⟩) k cap) k (pkC (d.toList.take k)) := by
 obtain ⟨h1, h2, h3, h4, h5, h6⟩ := h; rcases h1.2 with ⟨hv, _⟩ | ⟨g', cap', cur, hv, r1, r2, r3, r4, r5, r6⟩
 ·cases hv
 ·cases hv
  refine ⟨by rw [pkC_len, List.length_take]; simp; omega, .inr ⟨g, cap, cur, rfl, r1, r2, by omega, r4, r5, ?_⟩⟩; have e : pkC (d.toList.take k) = (pkC d.toList).take (k * 2) := flat2_take enK enK_len _ _; rw [e, ← r6, List.take_take]
  congr 1; omega
theorem own_clearK {base g cap k e sz : Nat} {xs : List Value} : ∀ (vs : List Value) (j : Nat) {w : World}, w.ownsRow base e sz (.slice (some ⟨g, 0, none⟩) k cap) k xs → k * sz ≤ j → (w.setCells g j vs).ownsRow base e sz (.slice (some ⟨g, 0, none⟩) k cap) k xs
 | [], _, _, h, _ => h
 | v :: vs, j, w, h, hj => by
  refine own_clearK vs (j + 1) ?_ (by omega); have := (h.stored j v).1
  rwa [List.set_eq_of_length_le (by have := h.1; omega)] at this
def sortP (l : List (Nat × Nat)) : List (Nat × Nat) := (setOf (l.map pK)).map unK
def PZ (a : Nat) (m : Int) : Prop := a < 4294967296 ∧ -9223372036854775808 ≤ m ∧ m ≤ 9223372036854775807
def pzR (w : World) (vs : List Value) (x : Nat × Int) : Prop := vs = [.int .u32 (x.1 : Int), .int .i64 x.2] ∧ PZ x.1 x.2
theorem pzMono : SMono pzR := fun _ _ _ _ _ h => h
theorem PZat {w : World} {A : Option Addr} {n c k : Nat} {l : List (Nat × Int)} (h : LstAt 2 pzR w A n c l) (hk : k < n) : ∃ g o a m, A = some ⟨g, o, none⟩ ∧ g < w.heap.size ∧ l[k]? = some (a, m) ∧ PZ a m ∧ w.cell? ⟨g, o + k * 2, none⟩ = some (.int .u32 (a : Int)) ∧ w.cell? ⟨g, o + k * 2 + 1, none⟩ = some (.int .i64 m) := by
 obtain ⟨h1, h2, h3, h4⟩ := h; obtain ⟨g, o, rfl, hg, hc⟩ := h4 (by omega); have hx : l[k]? = some l[k] := List.getElem?_eq_getElem (by omega); obtain ⟨vs, hl, ⟨rfl, hr⟩, hcs⟩ := hc k _ hx; exact ⟨g, o, _, _, rfl, hg, hx, hr, hcs 0 _ rfl, hcs 1 _ rfl⟩
def zP (x : Nat × Nat) : Nat × Int := (x.1, (x.2 : Int))
theorem pz_of_pg {a n : Nat} (h : PG a n) : PZ a (n : Int) := by
 have h1 := h.1; have h2 := h.2.1; exact ⟨h1, by omega, by omega⟩
theorem pz_of_px {w : World} {A : Option Addr} {n c : Nat} {l : List (Nat × Nat)} (h : LstAt 2 pxR w A n c l) (hg : ∀ x ∈ l, PG x.1 x.2) : LstAt 2 pzR w A n c (l.map zP) := by
 obtain ⟨h1, h2, h3, h4⟩ := h; refine ⟨by simpa using h1, h2, h3, fun hn => ?_⟩; obtain ⟨g, o, hA, hlt, hc⟩ := h4 hn; refine ⟨g, o, hA, hlt, fun k x hk => ?_⟩; rw [List.getElem?_map] at hk
 cases hz : l[k]? with
 | none => rw [hz] at hk; cases hk
 | some z =>
  rw [hz] at hk; simp only [Option.map_some, Option.some.injEq] at hk; subst hk; obtain ⟨vs, hl, rfl, hcs⟩ := hc k z hz; exact ⟨_, rfl, ⟨rfl, pz_of_pg (hg _ (List.mem_of_getElem? hz))⟩, hcs⟩
set_option maxRecDepth 100000 in
theorem pzIndex0_any (F : FuncId) (p : (Nat × Int) → Bool) (A : Option Addr) (n c : Nat) (l : List (Nat × Int)) (w : World) (h : LstAt 2 pzR w A n c l) (hF : ∀ (args : Array Value) (W : World), (callFunc F args).run Tryz.prog W = .ok (.enter F args) W)
    (HF : ∀ (a : Nat) (m : Int) (W : World), Below w.heap.size w W → PZ a m → Calls Tryz.prog F #[.agg #[.int .u32 (a : Int), .int .i64 m]] W (GoodP (p (a, m)) W)) :
    Calls Tryz.prog 194 #[.slice A n c, .func (.func F) #[] #[]] w fun e w' => e = .returned (.int .i64 (idxP p l)) ∧ Below w.heap.size w w' := by
  have hm := h.2.2.1; have hnc := h.2.1; unfold maxLen at hm; have HU := hide h; have HP := hide HF; have HE := hide hF; clear h HF hF
  go_enter Tryz.func194, Tryz.ntmps194
  go_wp2
  go_loopw [8] (fun i wr => ∃ k : Nat, k ≤ n ∧ i = .int .i64 k ∧ (∀ y ∈ l.take k, p y = false) ∧ Below w.heap.size w wr) (fun i _ => n - (intOf i).toNat)
  case atStart => exact ⟨0, Nat.zero_le _, rfl, by simp, Below.refl _ _⟩
  case round =>
    obtain ⟨k, hk, rfl, hno, hb⟩ := hrel; have HN := hide hno; have HA := hide (HU.out.below pzMono hb); have HB := hide hb; have hsz := hb.size; clear hno hb; by_cases hlt : k < n
    · obtain ⟨g, o, a, m, rfl, hg, hy, hok, c0, c1⟩ := PZat HA.out hlt; have HO := hide (HP.out a m wr HB.out hok); have HY := hide hy; clear hy; obtain ⟨q, hq⟩ : ∃ q, p (a, m) = q := ⟨_, rfl⟩
      rw [hq] at HO; have HQ := hide hq; clear hq hok
      go_wp2_with fail
      rw [HE.out, Oper.upon_enter]; refine HO.out.mono ?_; rintro e w1 ⟨rfl, hb1⟩; have HB1 := hide (HB.out.trans (hb1.mono hsz)); clear hb1
      cases q
      · have hn2 := hide (show ∀ y ∈ l.take (k + 1), p y = false by
          intro y hy; rw [List.take_add_one, HY.out, List.mem_append] at hy; rcases hy with hy | hy
          · exact HN.out y hy
          · simp at hy; subst hy; exact HQ.out)
        go_wp2
        go_roundw
        case rel => exact ⟨k + 1, by omega, by go_num, hn2.out, HB1.out⟩
        case measure => simp [intOf]; omega
      · have hin := hide (idxP_at p l k _ HN.out HY.out HQ.out); go_wp2; go_ret; exact ⟨ret_i64 hin.out.symm, HB1.out⟩
    · obtain rfl : k = n := (by omega)
      have hf := hide (idxP_none p l (fun y hy => HN.out y (by rw [List.take_of_length_le (by rw [HU.out.1]; exact Nat.le_refl _)]; exact hy))); go_wp2; go_ret; exact ⟨ret_i64 hf.out.symm, HB.out⟩
theorem nOdd_any (a : Nat) (m : Int) (h : PZ a m) (w : World) : Calls Tryz.prog 151 #[.agg #[.int .u32 (a : Int), .int .i64 m]] w (GoodP (!goodB a m) w) := by
 have H := hide (fun W => Good_any a m h.1 h.2.1 h.2.2 W); unfold pfx at H; obtain ⟨q, hq⟩ : ∃ q, goodB a m = q := ⟨_, rfl⟩
 rw [hq] at H ⊢; clear hq h
 go_enter Tryz.func151, Tryz.ntmps151
 go_wp2_with fail
 refine (H.out _).mono ?_; rintro e w1 ⟨rfl, hb⟩; rw [World.size_alloc] at hb; have HB := hide (((Below.refl _ w).alloc (Nat.le_refl _) _).trans (hb.mono (Nat.le_succ _))); clear hb
 cases q
 ·go_wp2; go_ret; exact ⟨rfl, HB.out⟩
 ·go_wp2; go_ret; exact ⟨rfl, HB.out⟩
set_option maxRecDepth 100000 in
theorem pxDelete_good (A : Option Addr) (n c : Nat) (l : List (Nat × Nat)) (w : World) (h : LstAt 2 pxR w A n c l) (hg : ∀ x ∈ l, PG x.1 x.2) :
    Calls Tryz.prog 150 #[.slice A n c, .func (.func 151) #[] #[]] w fun e w' => e = .returned (.slice A n c) ∧ Below w.heap.size w w' := by
  have H := hide (pzIndex0_any 151 (fun x => !goodB x.1 x.2) A n c (l.map zP) w (pz_of_px h hg) (fun args W => by simp [callFunc, go_sem, Tryz.func151]; rfl) (fun a m W _ hz => nOdd_any a m hz W))
  have hi : idxP (fun x : Nat × Int => !goodB x.1 x.2) (l.map zP) = -1 := idxP_none _ _ (fun y hy => by
    obtain ⟨x, hx, rfl⟩ := List.mem_map.1 hy; have := good_pg (hg x hx); unfold zP; simp [this])
  rw [hi] at H; clear h hg hi
  go_enter Tryz.func150, Tryz.ntmps150
  go_wp2_with fail
  refine H.out.mono ?_; rintro e w1 ⟨rfl, hb⟩; have HB := hide hb; clear hb; go_wp2; go_ret; exact ⟨rfl, HB.out⟩
theorem own_made0P (w : World) : (w.alloc (.cells #[] 24)).ownsRow w.heap.size 24 2 (.slice (some ⟨w.heap.size, 0, none⟩) 0 0) 0 [] := World.ownsRow_made _ _ _ (Nat.le_refl _) (by simp [maxLen]) (by simp)
theorem pxC_one (l : List (Nat × Nat)) : ∀ v ∈ pxC l, v.oneCell' = true := by
 intro v hv; unfold pxC at hv; simp only [List.mem_flatMap] at hv; obtain ⟨x, _, hx⟩ := hv; simp at hx; rcases hx with rfl | rfl <;> rfl
theorem pxC_chunks_eq : ∀ {xs : List Value} {l : List (Nat × Nat)} {w : World}, Chunks 2 pxR w xs l → xs = pxC l := by
 intro xs l w h; obtain ⟨h1, h2⟩ := h
 apply List.ext_getElem?
 intro t; by_cases ht : t < l.length * 2
 ·have hx : l[t / 2]? = some l[t / 2] := List.getElem?_eq_getElem (by omega); have h3 := h2 (t / 2) _ hx; unfold pxR at h3; have h4 := flat2 (fun x : Nat × Nat => [Value.int .u32 (x.1 : Int), .int .i64 (x.2 : Int)]) (fun _ => rfl) l (t / 2) (t % 2) _ hx (by omega); rw [show t / 2 * 2 + t % 2 = t by omega] at h4; unfold pxC; rw [h4, ← h3, List.getElem?_take, if_pos (by omega), List.getElem?_drop, show t / 2 * 2 + t % 2 = t by omega]
 ·rw [List.getElem?_eq_none (by omega), List.getElem?_eq_none (by unfold pxC; rw [flat2_len _ (fun _ => rfl)]; omega)]
set_option maxRecDepth 100000 in
theorem pxClone_any (A : Option Addr) (n c : Nat) (l : List (Nat × Nat)) (w : World) (h : LstAt 2 pxR w A n c l) (hn : n ≤ 100000) :
  Calls Tryz.prog 116 #[.slice A n c] w fun e w' => ∃ v, e = .returned v ∧ w'.ownsRow w.heap.size 24 2 v n (pxC l) ∧ Below w.heap.size w w' := by
 obtain ⟨i0, hi, hz0, hz1, hz2⟩ := info_parts pxInfo; obtain ⟨xs, hr, hx⟩ := h.reads (by decide); obtain rfl := pxC_chunks_eq hx; have HR := hide hr; have hnil := fun w => Lib.run_eql_slice_nil (P := Tryz.prog) w
 cases A with
 | none =>
  have h0 : n = 0 := by
   rcases Nat.eq_zero_or_pos n with h1 | h1
   ·exact h1
   ·obtain ⟨g, o, hA, _⟩ := h.2.2.2 h1
    cases hA
  subst h0; have hl : Hid (l = []) := hide (List.eq_nil_of_length_eq_zero h.1); clear h hr hx HR
  go_enter Tryz.func116, Tryz.ntmps116
  go_wp2; go_ret; refine ⟨_, rfl, ?_, Below.refl _ _⟩; rw [hl.out]; exact World.ownsRow_nil _ _ _ _
 | some ad =>
  clear h hr hx
  go_enter Tryz.func116, Tryz.ntmps116
  go_wp2_with (at_builtin; refine wpList_append_any _ rfl (.tmp 5) (.tmp 6) 45 rfl w.heap.size 24 i0 _ 2 16 Tryz.underlying45 hi hz0 hz1 hz2 rfl (by decide) (.slice (some ⟨w.heap.size, 0, none⟩) 0 0) 0 [] rfl (own_made0P w) w.heap.size (some ad) n c (pxC l) rfl (HR.out.alloc (Nat.le_refl _) _) (pxC_one _) (by unfold maxLen; omega) (by omega) (by simp) ?_; intro v' w1 hown' hgrow _)
  go_ret; refine ⟨_, rfl, ?_, ?_⟩
  ·simpa using hown'
  ·exact ((Below.refl _ _).alloc (Nat.le_refl _) _).grown hgrow (by simp) (fun k hk => by simp [Value.ownBlock] at hk; omega)
theorem gr_far {W x : World} : (far W x).drawn = x.drawn := rfl
set_option maxHeartbeats 400000 in
theorem goodD (a n : Nat) (h : PG a n) (w : World) : Calls Tryz.prog 130 #[pfx a (n : Int)] w fun e w' => e = .returned (.bool true) ∧ Below w.heap.size w w' ∧ w.drawn ≤ w'.drawn := by
 have hn : (n : Int) ≤ 32 := (by have := h.2.1; omega)
 have hn0 : (0 : Int) ≤ (n : Int) := (by omega)
 have hf := hide (show (bits .andNot .u32 (a : Int) ((maskN n : Nat) : Int) == 0) = true by rw [good_test a n h.1 h.2.1, h.2.2]; simp); have HM := hide (fun W => mask_in n h.2.1 W); unfold pfx; clear h
 go_enter Tryz.func130, Tryz.ntmps130
 go_wp2
 go_quiet ((go_at_call 177; exact quiet_left (HM.out _)))
 go_wp2; go_ret; refine ⟨?_, below_drewN ((Below.refl _ _).alloc (Nat.le_refl _) _) _, Nat.le_add_right _ _⟩; rw [hf.out]; rfl
set_option maxRecDepth 100000 in
set_option maxHeartbeats 1000000 in
theorem cmpD (a n b m : Nat) (hg : PG a n) (hh : PG b m) (w : World) :
  Calls Tryz.prog 153 #[pfx a (n : Int), pfx b (m : Int)] w fun e w' => e = .returned (.int .i64 (cmpP a n b m)) ∧ Below w.heap.size w w' ∧ w.drawn ≤ w'.drawn := by
 have hg1 := goodD a n hg; have hh1 := goodD b m hh; unfold pfx at hg1 hh1 ⊢; have HG := hide hg1; have HH := hide hh1; have hf := hide (or_cmp a n b m); obtain ⟨k0, k1, k2, k3⟩ := boxes w (.int .u32 (a : Int)) (.int .i64 n) (.int .u32 (b : Int)) (.int .i64 m) 24 24; clear hg hh hg1 hh1
 go_enter Tryz.func153, Tryz.ntmps153
 go_wp2_with fail
 refine (HG.out _).mono ?_; rintro e w1 ⟨rfl, hb1, hd1⟩; obtain ⟨x1, rfl⟩ := far_of_below hb1; have HD1 := hide hd1; clear hd1
 go_wp2_with fail
 refine (HH.out _).mono ?_; rintro e w2 ⟨rfl, hb2, hd2⟩; obtain ⟨x2, rfl⟩ := far_below hb2; have HD2 := hide hd2; clear hd2
 go_wp2_with fail
 refine wp_region_still_tail 10 (by kernel_rfl) (by kernel_rfl) ?_; simp only [List.take_succ_cons, List.take_zero, List.drop_succ_cons, List.drop_zero]
 repeat (first | still_step | still_call (compareU_any a b _) | still_call (Tryz.cmp_Compare_int n m _))
 try refine wpStill_nil ?_
 refine wpList_gen (fun w3 => Below w.heap.size w w3 ∧ w.drawn ≤ w3.drawn) ⟨(below_boxes w _ _ x2).drew, ?_⟩ ?_
 ·have h1 := HD1.out; have h2 := HD2.out; simp only [World.drawn_alloc, World.drawn_drew, gr_far] at h1 h2 ⊢; omega
 intro w3 ⟨hb3, hd3⟩; clear hb1 hb2 k0 k1 k2 k3 HG HH HD1 HD2
 go_wp2_with fail
 refine (or_any w3.heap.size (cmpN a b) (Lib.compareInt n m) _ (by simp) (by simp)).mono ?_; rintro e w4 ⟨rfl, rfl⟩; rw [hf.out]; go_wp2; go_ret; exact ⟨rfl, hb3.alloc (hb3.size) _, by simpa using hd3⟩
theorem gr_of {w w' : World} (hb : Below w.heap.size w w') (hd : w.drawn ≤ w'.drawn) : ∃ q os, w' = Go.Sort.grow (w.drewN q) os := by
 obtain ⟨p, rfl⟩ := regrown_of_below hb; have hd' : w.drawn ≤ p.d := hd; refine ⟨p.d - w.drawn, p.os, ?_⟩; unfold World.drewN redrawn; rw [show w.drawn + (p.d - w.drawn) = p.d by omega]
theorem run_clear_sliceK {P : Program} (w : World) (t e ty : TypeId) (z : Value) (ht : P.underlying t = some (.slice e)) (hv : ∀ w, (zeroValue e).run P w = .ok z w) (h1 : ∀ v ∈ z.cells, v.oneCell' = true) (h0 : 0 < z.cells.size) (b o n c : Nat) (hn : 0 < n)
  (hc : ∀ j, j < n * z.cells.size → (w.cell? ⟨b, o + j, none⟩).isSome = true) (hf : ∀ j, j < n * z.cells.size → w.frozen? ⟨b, o + j, none⟩ = false) :
  (Builtin.clear_ #[t] ty #[.slice (some ⟨b, o, none⟩) n c]).run P w = .ok (.tuple #[]) (w.setCells b o (Builtin.zeroCells z.cells n).toList) := by
 have hl : (Builtin.zeroCells z.cells n).toList.length = n * z.cells.size := (by simp [Builtin.zeroCells])
 have ho : ∀ v ∈ (Builtin.zeroCells z.cells n).toList, v.oneCell' = true := by
  intro v hv'; simp only [Builtin.zeroCells, Array.toList_map, List.mem_map] at hv'; obtain ⟨i, _, rfl⟩ := hv'; have hi : i % z.cells.size < z.cells.size := Nat.mod_lt _ h0; rw [getElem!_pos z.cells _ hi]; exact h1 _ (Array.getElem_mem hi)
 have hst := run_storeCells_cells (P := P) b o (Builtin.zeroCells z.cells n).toList 0 w (by rw [hl]; simpa using hc) (by rw [hl]; simpa using hf) ho; simp only [Nat.add_zero] at hst; obtain ⟨m, rfl⟩ : ∃ m, n = m + 1 := ⟨n - 1, by omega⟩
 simp [Builtin.clear_, run_underlying ht, hv, hst]
theorem clearRunP (w : World) (g o n c : Nat) (hn : 0 < n) (hc : ∀ j, j < n * 2 → (w.cell? ⟨g, o + j, none⟩).isSome = true) (hf : ∀ j, j < n * 2 → w.frozen? ⟨g, o + j, none⟩ = false) (ty : TypeId) :
  (Builtin.clear_ #[45] ty #[.slice (some ⟨g, o, none⟩) n c]).run Tryz.prog w = .ok (.tuple #[]) (w.setCells g o (Builtin.zeroCells #[.int .u32 0, .int .i64 0] n).toList) :=
 run_clear_sliceK w 45 24 ty (.agg #[.int .u32 0, .int .i64 0]) Tryz.underlying45 Tryz.zeroValue24 (by intro v hv; simp [Value.cells] at hv; rcases hv with rfl | rfl <;> rfl) (by simp [Value.cells]) g o n c hn hc hf
set_option maxRecDepth 100000 in
set_option maxHeartbeats 4000000 in
theorem pxCompact_any (base g cap : Nat) (d : Array Nat) (w : World) (h : PkRow base g cap w d) (hu : Up d) (hsz : d.size ≤ 100000) :
    Calls Tryz.prog 154 #[.slice (some ⟨g, 0, none⟩) d.size cap] w fun e w' => ∃ m, e = .returned (.slice (some ⟨g, 0, none⟩) m cap) ∧ m = (setOf d.toList).length ∧ w'.ownsRow base 24 2 (.slice (some ⟨g, 0, none⟩) m cap) m (pkC (setOf d.toList)) ∧ Below base w w' := by
  have HR := hide h; have HUp := hide hu; have hcap := h.2.2.2.2.2; have hdc := h.2.2.2.2.1; have hbg := h.2.2.1; unfold maxLen at hcap; obtain ⟨n, hn⟩ : ∃ n, d.size = n := ⟨_, rfl⟩
  have HFin : Hid (∀ (w' : World) (d' : Array Nat) (k : Nat), PkRow base g cap w' d' → CompInv d d' k d.size → w'.ownsRow base 24 2 (.slice (some ⟨g, 0, none⟩) k cap) k (pkC (setOf d.toList)) ∧ k = (setOf d.toList).length) := hide (fun w' d' k hr hi => by
    have h1 := hr.cut (k := k) (by have := hi.size; have := hi.le; omega); rw [hi.done] at h1; refine ⟨h1, ?_⟩; have := congrArg List.length hi.done; rw [List.length_take] at this; have hh := hi.size; have hl := hi.le; simp at this; omega)
  rw [hn] at hsz hdc HFin ⊢; have HN := hide hn; clear h hu hn; by_cases h2 : n < 2
  · have HF : Hid (w.ownsRow base 24 2 (.slice (some ⟨g, 0, none⟩) n cap) n (pkC (setOf d.toList)) ∧ n = (setOf d.toList).length) := hide (by
      have h1 := HR.out.1; rw [HN.out] at h1
      have e : setOf d.toList = d.toList := by
        have hl : d.toList.length = n := (by simpa using HN.out)
        match hd : d.toList, hl with
        | [], _ => rfl
        | [x], _ => rfl
        | x :: y :: l, hl => simp at hl; omega
      rw [e]; exact ⟨h1, by simpa using HN.out.symm⟩)
    go_enter Tryz.func154, Tryz.ntmps154
    go_wp2; go_ret; exact ⟨_, rfl, HF.out.2, HF.out.1, Below.refl _ _⟩
  · have HSt := hide (CompInv.start (d := d) (by rw [HN.out]; omega))
    go_enter Tryz.func154, Tryz.ntmps154
    go_wp2
    go_loopw [3] (fun i wr => ∃ k : Nat, k ≤ n ∧ i = .int .i64 k ∧ CompInv d d k k ∧ ∃ q, wr = w.drewN q) (fun i _ => n - (intOf i).toNat)
    case atStart => exact ⟨1, by omega, rfl, HSt.out, 0, rfl⟩
    case round =>
      obtain ⟨k, hk, rfl, hinv, q, rfl⟩ := hrel; have HI := hide hinv; have hk1 := hinv.le.1; clear hinv; by_cases hlt : k < n
      · obtain ⟨p, rfl⟩ : ∃ p, k = p + 1 := ⟨k - 1, by omega⟩
        obtain ⟨hc1, hd1⟩ := HR.out.cell (j := p + 1) (by rw [HN.out]; omega); obtain ⟨hc2, hd2⟩ := HR.out.cell (j := p) (by rw [HN.out]; omega); obtain ⟨x, hx⟩ : ∃ x, d[p + 1]! = x := ⟨_, rfl⟩
        obtain ⟨y, hy⟩ : ∃ y, d[p]! = y := ⟨_, rfl⟩
        rw [hx] at hc1 hd1; rw [hy] at hc2 hd2; obtain ⟨xa, hxa⟩ : ∃ a, x / 64 = a := ⟨_, rfl⟩
        obtain ⟨xm, hxm⟩ : ∃ a, x % 64 = a := ⟨_, rfl⟩
        obtain ⟨ya, hya⟩ : ∃ a, y / 64 = a := ⟨_, rfl⟩
        obtain ⟨ym, hym⟩ : ∃ a, y % 64 = a := ⟨_, rfl⟩
        rw [hxa] at hc1; rw [hxm] at hd1; rw [hya] at hc2; rw [hym] at hd2; have HX := hide hx; have HY := hide hy; have hi0 : (0 : Int) ≤ (p : Int) := (by omega)
        have hi1 : (p : Int) + 1 < (n : Int) := (by omega)
        have hi2 : (p : Int) < (n : Int) := (by omega)
        have hi3 : (0 : Int) ≤ (p : Int) + 1 := (by omega)
        have hwp : IntKind.i64.wrap (p : Int) = (p : Int) := (by rw [IntKind.wrap_i64]; omega)
        by_cases hxy : x = y
        · have HXY := hide hxy
          have HI2 : Hid (CompInv d d (p + 1) (p + 1 + (0 + 1))) := hide (by
            have := HI.out.skip (by rw [HN.out]; exact hlt) (by rw [Nat.add_sub_cancel, HX.out, HY.out]; exact HXY.out); exact this)
          obtain rfl : xa = ya := (by omega)
          obtain rfl : xm = ym := (by omega)
          have hcp : ¬ cap = p + 1 := (by omega)
          have hi4 : (p : Int) + 1 ≤ (n : Int) := (by omega)
          have hi5 : (n : Int) ≤ (cap : Int) := (by omega)
          clear hxy hx hy hxa hxm hya hym; go_wp2
          go_quiet (fail)
          go_wp2; obtain ⟨wo, hwo⟩ : ∃ wo, (w.drewN q).drewN nq = wo := ⟨_, rfl⟩
          have HRo : Hid (PkRow base g cap wo d) := hide (by rw [← hwo]; exact (HR.out.drewN q).drewN nq); have HBo : Hid (Below base w wo) := hide (by rw [← hwo]; exact below_drewN (below_drewN (Below.refl _ _) _) _); obtain ⟨p0, hp0⟩ : ∃ p0, p = p0 := ⟨_, rfl⟩
          subst hp0; clear hc1 hd1 hc2 hd2
          go_loopw [3, 5] (fun a b wr => ∃ (k r : Nat) (d' : Array Nat), a = .int .i64 k ∧ b = .int .i64 ((r : Int) + 1) ∧ r + 1 ≤ n - (p + 1) ∧ CompInv d d' k (p + 1 + (r + 1)) ∧ k < p + 1 + (r + 1) ∧ d'[p + 1 + r]! = d[p + 1 + r]! ∧ PkRow base g cap wr d' ∧ Below base w wr) (fun _ b _ => n - (intOf b).toNat)
          case atStart => exact ⟨p + 1, 0, d, by go_num, by go_num, by omega, HI2.out, by omega, rfl, by first | exact (HR.out.drewN _) | exact (HR.out.drewN _).drewN _, by first | exact below_drewN (Below.refl _ _) _ | exact below_drewN (below_drewN (Below.refl _ _) _) _⟩
          case round =>
            obtain ⟨k, r, d', rfl, rfl, hr, hinv, hkq, hrr, hrow, hbel⟩ := hrel; have HI3 := hide hinv; have HRR := hide hrr; have HR3 := hide hrow; have HB3 := hide hbel; have hds := hinv.size; have hle := hinv.le; rw [HN.out] at hds hle; clear hinv hrr hbel; by_cases hlt2 : r + 1 < n - (p + 1)
            · obtain ⟨hc3, hd3⟩ := hrow.cell (j := p + 1 + (r + 1)) (by omega); obtain ⟨hc4, hd4⟩ := hrow.cell (j := p + 1 + r) (by omega); have hfz := hrow.1.frozenAt (k * 2); have hfz2 := hrow.1.frozenAt (k * 2 + 1); obtain ⟨hck, hdk⟩ := hrow.cell (j := k) (by omega); clear hrow; obtain ⟨x2, hx2⟩ : ∃ x2, d[p + 1 + (r + 1)]! = x2 := ⟨_, rfl⟩
              obtain ⟨y2, hy2⟩ : ∃ y2, d[p + 1 + r]! = y2 := ⟨_, rfl⟩
              obtain ⟨z2, hz2⟩ : ∃ z2, d'[k]! = z2 := ⟨_, rfl⟩
              have hdx : d'[p + 1 + (r + 1)]! = x2 := by
                rcases HI3.out.rest (p + 1 + (r + 1)) (by omega) with h | h
                · rw [h, hx2]
                · omega
              rw [hdx] at hc3 hd3; rw [HRR.out, hy2] at hc4 hd4; rw [hz2] at hck hdk; have HX2 := hide hx2; have HY2 := hide hy2; have HDX := hide hdx; have hx3 : nk x2 = x2 := (by rw [← hdx]; exact HR3.out.val _)
              have HX3 := hide hx3; obtain ⟨ua, hua⟩ : ∃ a, x2 / 64 = a := ⟨_, rfl⟩
              obtain ⟨um, hum⟩ : ∃ a, x2 % 64 = a := ⟨_, rfl⟩
              obtain ⟨va, hva⟩ : ∃ a, y2 / 64 = a := ⟨_, rfl⟩
              obtain ⟨vm, hvm⟩ : ∃ a, y2 % 64 = a := ⟨_, rfl⟩
              have HSt2 := hide (fun nq => (HR3.out.drewN nq).set_ (k := k) hx3); simp only [hua, hum] at HSt2; rw [hua] at hc3; rw [hum] at hd3; rw [hva] at hc4; rw [hvm] at hd4; obtain ⟨za, hza⟩ : ∃ a, z2 / 64 = a := ⟨_, rfl⟩
              obtain ⟨zm, hzm⟩ : ∃ a, z2 % 64 = a := ⟨_, rfl⟩
              rw [hza] at hck; rw [hzm] at hdk; clear hx2 hy2 hdx hz2 hx3 hza hzm; have hj0 : (0 : Int) ≤ (r : Int) := (by omega)
              have hj1 : (0 : Int) ≤ (r : Int) + 1 := (by omega)
              have hj2 : (r : Int) + 1 < (n : Int) - ((p : Int) + 1) := (by omega)
              have hj3 : (r : Int) < (n : Int) - ((p : Int) + 1) := (by omega)
              have hj4 : (k : Int) < (n : Int) := (by omega)
              have hwr : IntKind.i64.wrap (r : Int) = (r : Int) := (by rw [IntKind.wrap_i64]; omega)
              have ho1 : 0 + (p + 1) * 2 + (r + 1) * 2 = (p + 1 + (r + 1)) * 2 := (by omega)
              have ho2 : (p + 1) * 2 + (r + 1) * 2 = (p + 1 + (r + 1)) * 2 := (by omega)
              have ho3 : (p + 1) * 2 + r * 2 = (p + 1 + r) * 2 := (by omega)
              by_cases hxy2 : x2 = y2
              · have HI4 : Hid (CompInv d d' k (p + 1 + (r + 1 + 1))) := hide (by
                  have := HI3.out.skip (by rw [HN.out]; omega) (by rw [show p + 1 + (r + 1) - 1 = p + 1 + r by omega, HX2.out, HY2.out]; exact hxy2); exact this)
                obtain rfl : ua = va := (by omega)
                obtain rfl : um = vm := (by omega)
                clear hxy2 hua hum hva hvm; go_wp2
                go_quiet (fail)
                go_wp2
                go_roundw
                case rel => exact ⟨k, r + 1, d', rfl, by go_num, by omega, HI4.out, by omega, by rw [show p + 1 + (r + 1) = p + 1 + (r + 1) from rfl, HDX.out, HX2.out], HR3.out.drewN _, below_drewN HB3.out _⟩
                case measure => simp [intOf]; omega
              · have HI4 : Hid (CompInv d (d'.setIfInBounds k x2) (k + 1) (p + 1 + (r + 1 + 1))) := hide (by
                  have := HI3.out.put HUp.out (by rw [HN.out]; omega) (by rw [show p + 1 + (r + 1) - 1 = p + 1 + r by omega, HX2.out, HY2.out]; exact hxy2); rw [HX2.out] at this; exact this)
                have hne : ¬ (ua = va ∧ um = vm) := fun h => by omega
                clear hxy2 hua hum hva hvm; by_cases hua2 : ua = va
                · subst hua2; have he2 : ((um : Int) == (vm : Int)) = false := (by simp; omega)
                  clear hne; go_wp2
                  go_quiet (fail)
                  go_wp2
                  go_roundw
                  case rel => exact ⟨k + 1, r + 1, d'.setIfInBounds k x2, by go_num, by go_num, by omega, HI4.out, by omega, by rw [get_set _ _ _ _ (by omega), if_neg (by omega), HDX.out, HX2.out], by exact HSt2.out _, by exact below_clear (by exact HR3.out.2.2.1) [_, _] (k * 2) (below_drewN HB3.out _)⟩
                  case measure => simp [intOf]; omega
                · have he2 : ((ua : Int) == (va : Int)) = false := (by simp; omega)
                  clear hne hua2; go_wp2
                  go_quiet (fail)
                  go_wp2
                  go_roundw
                  case rel => exact ⟨k + 1, r + 1, d'.setIfInBounds k x2, by go_num, by go_num, by omega, HI4.out, by omega, by rw [get_set _ _ _ _ (by omega), if_neg (by omega), HDX.out, HX2.out], by exact HSt2.out _, by exact below_clear (by exact HR3.out.2.2.1) [_, _] (k * 2) (below_drewN HB3.out _)⟩
                  case measure => simp [intOf]; omega
            · have hkn : k < n := (by omega)
              have hrn : p + 1 + (r + 1) = n := (by omega)
              have HI4 : Hid (CompInv d d' k d.size) := hide (by rw [HN.out, ← hrn]; exact HI3.out)
              have hcl := clearRunP wr g (k * 2) (n - k) (cap - k) (by omega) (fun j hj => by
                have := HR3.out.1.cellAt (k * 2 + j) (by omega); rw [this, List.getElem?_eq_getElem (by rw [pkC_len]; simp; omega)]
                rfl) (fun j hj => HR3.out.1.frozenAt (k * 2 + j))
              have HF : Hid (wr.ownsRow base 24 2 (.slice (some ⟨g, 0, none⟩) k cap) k (pkC (setOf d.toList)) ∧ k = (setOf d.toList).length) := hide (HFin.out wr d' k HR3.out (by have := HI4.out; rwa [HN.out] at this)); have hck : ¬ cap = k := (by omega)
              have hj4 : (k : Int) < (n : Int) := (by omega)
              clear hrow hrn; go_wp2; go_ret; exact ⟨_, rfl, HF.out.2, own_clearK _ _ HF.out.1 (Nat.le_refl _), below_clear (by exact HR3.out.2.2.1) _ _ HB3.out⟩
        · have HI2 := hide (HI.out.grow HUp.out (by rw [HN.out]; exact hlt) (by rw [Nat.add_sub_cancel, HX.out, HY.out]; exact hxy)); have hne : ¬ (xa = ya ∧ xm = ym) := fun h => by omega
          clear hxy hx hy hxa hxm hya hym; by_cases hxa2 : xa = ya
          · subst hxa2; have he : ((xm : Int) == (ym : Int)) = false := (by simp; omega)
            clear hne; go_wp2
            go_quiet (fail)
            go_wp2
            go_roundw
            case rel => exact ⟨p + 1 + 1, by omega, by go_num, HI2.out, _, rfl⟩
            case measure => simp [intOf]; omega
          · have he : ((xa : Int) == (ya : Int)) = false := (by simp; omega)
            clear hne hxa2; go_wp2
            go_quiet (fail)
            go_wp2
            go_roundw
            case rel => exact ⟨p + 1 + 1, by omega, by go_num, HI2.out, _, rfl⟩
            case measure => simp [intOf]; omega
      · obtain rfl : k = n := (by omega)
        have HF := hide (HFin.out (w.drewN q) d k (HR.out.drewN q) (by have := HI.out; rwa [← HN.out] at this ⊢)); go_wp2; go_ret; exact ⟨_, rfl, HF.out.2, HF.out.1, below_drewN (Below.refl _ _) _⟩
theorem ltK (x y : Nat) : ltOf cfK x y = decide (nk x < nk y) := by
 unfold ltOf cfK; by_cases h : nk x < nk y
 ·simp [h]
 ·rw [if_neg h]; by_cases h2 : nk x = nk y
  ·simp [h2]
  ·simp [h, h2]
theorem swoK : Go.Sort.SWO (ltOf cfK) := by
 refine ⟨fun x => ?_, fun x y z h1 h2 => ?_, fun x y z h1 h2 => ?_⟩
 ·rw [ltK]; simp
 ·rw [ltK] at *; simp at *; omega
 ·rw [ltK] at *; simp at *; omega
theorem flatK_pk (d : Array Nat) : Go.Sort.flatK enK 2 d = (pkC d.toList).toArray := by
 refine Go.Sort.ext_get! (by simp [pkC_len]) fun t ht => ?_; have ht' : t < d.size * 2 := (by simpa using ht)
 rw [Go.Sort.get_flatK _ _ _ _ ht']; have hx : d.toList[t / 2]? = some d[t / 2]! := (by simp [show t / 2 < d.size by omega])
 have h1 := flat2 enK enK_len d.toList (t / 2) (t % 2) _ hx (by omega); rw [show t / 2 * 2 + t % 2 = t by omega] at h1; have h2 : t % 2 < (enK d[t / 2]!).length := (by rw [enK_len]; omega)
 have h3 : t < (pkC d.toList).toArray.size := (by simp [pkC_len]; omega)
 rw [getElem!_pos (enK d[t / 2]!) _ h2, getElem!_pos (pkC d.toList).toArray _ h3]; have h4 : t < (d.toList.flatMap enK).length := (by rw [flat2_len enK enK_len]; simpa using ht')
 rw [List.getElem?_eq_getElem h2, List.getElem?_eq_getElem h4] at h1; exact (Option.some.inj h1).symm
theorem PkRow.holds {base g cap : Nat} {w : World} {d : Array Nat} (h : PkRow base g cap w d) : Go.Sort.HoldsK enK 2 w g 0 d := by
 unfold Go.Sort.HoldsK; rw [flatK_pk]; intro t ht; have ht' : t < d.size * 2 := (by simpa [pkC_len] using ht)
 refine ⟨?_, h.1.frozenAt _⟩; rw [Nat.zero_add, h.1.cellAt t ht', getElem!_pos _ t ht]; simp [show t < (pkC d.toList).length by rw [pkC_len]; simpa using ht']
theorem PkRow.sorted {base g cap n : Nat} {w : World} {d d' : Array Nat} {os : Array Obj} (h : PkRow base g cap w d) (hs : d'.size = d.size) (hv : ∀ x ∈ d'.toList, nk x = x) :
  PkRow base g cap (sortWorldK enK 2 w g 0 n d' os) d' ∧ Below base w (sortWorldK enK 2 w g 0 n d' os) := by
 have hH := h.holds; unfold Go.Sort.HoldsK at hH; rw [flatK_pk] at hH; have hlen : (pkC d'.toList).length = (pkC d.toList).length := (by rw [pkC_len, pkC_len]; simp [hs])
 have e : sortWorldK enK 2 w g 0 n d' os = Go.Sort.grow ((w.drewN n).setCells g 0 (pkC d'.toList)) os := by
  unfold sortWorldK Go.Sort.putRowK; rw [flatK_pk, Go.Lib.putRow_eq_setCells id w g 0 (pkC d.toList).toArray (pkC d'.toList) n hH (by simp [hlen]), List.map_id]
 rw [e]; have h1 := own_setCellsK (pkC d'.toList) 0 (h.drewN n).1 (by rw [Nat.zero_add, pkC_len]; simp [hs])
 have e2 : List.take 0 (pkC d.toList) ++ pkC d'.toList ++ List.drop (0 + (pkC d'.toList).length) (pkC d.toList) = pkC d'.toList := by
  rw [Nat.zero_add, hlen, List.drop_length]; simp
 rw [e2] at h1; have hb1 : Below base w ((w.drewN n).setCells g 0 (pkC d'.toList)) := below_clear h.2.2.1 _ _ (below_drewN (Below.refl _ _) _); have hgs : Below ((w.drewN n).setCells g 0 (pkC d'.toList)).heap.size ((w.drewN n).setCells g 0 (pkC d'.toList)) (Go.Sort.grow ((w.drewN n).setCells g 0 (pkC d'.toList)) os) := Lib.below_grow _ _ (Nat.le_refl _) 0 os; have hbs : base ≤ w.heap.size := Nat.le_trans h.2.2.1 (Nat.le_of_lt h.2.2.2.1); have hszs : ((w.drewN n).setCells g 0 (pkC d'.toList)).heap.size = w.heap.size := sizeSetCells _ _ _ _; refine ⟨⟨?_, hv, h.2.2.1, Nat.lt_of_lt_of_le (by rw [hszs]; exact h.2.2.2.1) hgs.size, by rw [hs]; exact h.2.2.2.2.1, h.2.2.2.2.2⟩, hb1.trans (hgs.mono (by rw [hszs]; exact hbs))⟩; have := own_kept h1 hgs; rw [hs]; exact this
theorem up_of_sorted {d : Array Nat} (h : Go.Sort.SortedIn (ltOf cfK) 0 d.size d) (hv : ∀ j : Nat, nk (d[j]! : Nat) = d[j]!) : Up d := by
 intro i hi; have := h i (i + 1) (Nat.zero_le _) (by omega) hi; rw [ltK, hv, hv] at this; simpa using this
theorem cmpLaysK (g off size : Nat) (w : World) : CmpLays Tryz.prog 153 #[] enK 2 cfK g off size w := by
 intro m os dk hs x y; refine (cmpD _ _ _ _ (nk_pg x) (nk_pg y) _).mono ?_; rintro e w' ⟨rfl, hb, hd⟩; rw [cmpK]; exact ⟨rfl, gr_of hb hd⟩
theorem enK_one (x : Nat) : ∀ v ∈ enK x, v.oneCell' = true := by
 intro v hv; simp [enK] at hv; rcases hv with rfl | rfl <;> rfl
theorem permIn_whole {d d' : Array Nat} (h : Go.Sort.PermIn 0 d.size d d') : d'.size = d.size ∧ d'.toList.Perm d.toList := by
 obtain ⟨h1, _, h3⟩ := h; refine ⟨h1, ?_⟩; have e1 : d.extract 0 d.size = d := (by simp)
 have e2 : d'.extract 0 d.size = d' := (by rw [← h1]; simp)
 rw [e1, e2] at h3; exact h3
theorem pxSortF_any (base g cap : Nat) (d : Array Nat) (w : World) (h : PkRow base g cap w d) (hsz : d.size ≤ 100000) :
  Calls Tryz.prog 152 #[.slice (some ⟨g, 0, none⟩) d.size cap, .func (.func 153) #[] #[]] w fun e w' => e = .returned (.tuple #[]) ∧ ∃ d' : Array Nat, PkRow base g cap w' d' ∧ Up d' ∧ d'.size = d.size ∧ d'.toList.Perm d.toList ∧ Below base w w' := by
 refine (Tryz.slices_SortFunc_px enK enK_len enK_one cfK swoK 153 #[] g 0 cap d w (fun args W => by simp [callFunc, go_sem, Tryz.func153]; rfl) (cmpLaysK g 0 d.size w) h.holds h.2.2.2.1 (by omega)).mono ?_; rintro e w' ⟨rfl, d', n, os, hp, hs, rfl⟩; obtain ⟨hz, hpm⟩ := permIn_whole hp; have hv : ∀ x ∈ d'.toList, nk x = x := fun x hx => h.2.1 x ((hpm.mem_iff).1 hx); obtain ⟨hr, hb⟩ := h.sorted (n := n) (os := os) hz hv; exact ⟨rfl, d', hr, up_of_sorted (by rw [hz]; exact hs) (fun j => hr.val j), hz, hpm, hb⟩
theorem sortP_perm {l r : List Nat} (h : l.Perm r) : setOf l = setOf r :=
 rise_ext (setOf_rise _) (setOf_rise _) (fun x => by rw [setOf_mem, setOf_mem]; exact h.mem_iff)
theorem sortP_mem {l : List (Nat × Nat)} (hg : ∀ x ∈ l, PG x.1 x.2) (x : Nat × Nat) : x ∈ sortP l ↔ x ∈ l := by
 unfold sortP; constructor
 ·intro hx; obtain ⟨k, hk, rfl⟩ := List.mem_map.1 hx; rw [setOf_mem] at hk; obtain ⟨y, hy, rfl⟩ := List.mem_map.1 hk
  rwa [unK_pK (hg y hy)]
 ·intro hx; exact List.mem_map.2 ⟨pK x, (setOf_mem _ _).2 (List.mem_map.2 ⟨x, hx, rfl⟩), unK_pK (hg x hx)⟩
theorem pkC_map {l : List (Nat × Nat)} (hg : ∀ x ∈ l, PG x.1 x.2) : pkC (l.map pK) = pxC l := by
 rw [pkC_pxC _ (fun x hx => by obtain ⟨y, hy, rfl⟩ := List.mem_map.1 hx; exact nk_pK (hg y hy)), map_unK hg]
theorem pkC_setOf {l : List (Nat × Nat)} (hg : ∀ x ∈ l, PG x.1 x.2) : pkC (setOf (l.map pK)) = pxC (sortP l) :=
  pkC_pxC _ (fun x hx => by
    rw [setOf_mem] at hx; obtain ⟨y, hy, rfl⟩ := List.mem_map.1 hx; exact nk_pK (hg y hy))
set_option maxRecDepth 100000 in
set_option maxHeartbeats 4000000 in
theorem nSort_any (A : Option Addr) (n c : Nat) (l : List (Nat × Nat)) (w : World) (h : LstAt 2 pxR w A n c l) (hg : ∀ x ∈ l, PG x.1 x.2) (hn : n ≤ 100000) :
    Calls Tryz.prog 87 #[.slice A n c] w fun e w' => ∃ A' c', e = .returned (.slice A' (sortP l).length c') ∧ w'.ownsRow w.heap.size 24 2 (.slice A' (sortP l).length c') (sortP l).length (pxC (sortP l)) ∧ Below w.heap.size w w' := by
  have H1 := hide (pxClone_any A n c l w h hn); have H2 := hide (fun A c W (h : LstAt 2 pxR W A n c l) => pxDelete_good A n c l W h hg); have H3 := hide (fun f W => pxSortF_nil f W); have H4 := hide (fun W => pxCompact_nil W); have H5 := hide (fun base g cap (d : Array Nat) W (hr : PkRow base g cap W d) (hz : d.size ≤ 100000) => pxSortF_any base g cap d W hr hz); have H6 := hide (fun base g cap (d : Array Nat) W (hr : PkRow base g cap W d) hu (hz : d.size ≤ 100000) => pxCompact_any base g cap d W hr hu hz); have HG := hide hg; have hln := h.1; clear h hg
  go_enter Tryz.func87, Tryz.ntmps87
  go_wp2_with fail
  refine H1.out.mono ?_; rintro e w1 ⟨v, rfl, ho, hb1⟩; rcases ho.2 with ⟨rfl, h0⟩ | ⟨g, cap, cur, rfl, hbg, hcur, hnc, hcm, _, _⟩
  · subst h0; have hl : l = [] := List.eq_nil_of_length_eq_zero hln; have HB1 := hide hb1; have HE : Hid (sortP l = []) := hide (by rw [hl]; rfl); have H2' := hide (H2.out none 0 w1 (by rw [hl]; exact LstAt.none_)); clear ho hb1 hl
    go_wp2_with fail
    refine H2'.out.mono ?_; rintro e w2 ⟨rfl, hb2⟩; have HB2 := hide (HB1.out.trans (hb2.mono HB1.out.size)); clear hb2
    go_wp2_with fail
    refine (H3.out _ _).mono ?_; rintro e w3 ⟨rfl, rfl⟩
    go_wp2_with fail
    refine (H4.out _).mono ?_; rintro e w3 ⟨rfl, rfl⟩; go_wp2; go_ret; refine ⟨none, 0, by rw [HE.out]; rfl, ?_, HB2.out⟩; rw [HE.out]; exact World.ownsRow_nil _ _ _ _
  · have hgl : g < w1.heap.size := (Array.getElem?_eq_some_iff.1 hcur).1; obtain ⟨d, hd⟩ : ∃ d : Array Nat, (l.map pK).toArray = d := ⟨_, rfl⟩
    have hdt : d.toList = l.map pK := (by rw [← hd])
    have hds : d.size = n := (by rw [← hd]; simp [hln])
    have hbs := hb1.size
    have HR1 : Hid (PkRow w.heap.size g cap w1 d) := hide ⟨by rw [hdt, pkC_map HG.out, hds]; exact ho, fun x hx => by
      rw [hdt] at hx; obtain ⟨y, hy, rfl⟩ := List.mem_map.1 hx; exact nk_pK (HG.out y hy), hbg, hgl, by omega, hcm⟩
    have H2' := hide (H2.out (some ⟨g, 0, none⟩) cap w1 (own_pxs ho)); have HB1 := hide hb1; have HDt := hide hdt; have HDs := hide hds; clear ho hb1 hd hdt hds hcur
    go_wp2_with fail
    refine H2'.out.mono ?_; rintro e w2 ⟨rfl, hb2⟩; have HB2 := hide (HB1.out.trans (hb2.mono HB1.out.size)); have HR2 : Hid (PkRow w.heap.size g cap w2 d) := hide ⟨own_kept HR1.out.1 hb2, HR1.out.2.1, HR1.out.2.2.1, Nat.lt_of_lt_of_le HR1.out.2.2.2.1 hb2.size, HR1.out.2.2.2.2⟩; have H5' := hide (H5.out _ _ _ d w2 HR2.out (by rw [HDs.out]; exact hn)); rw [HDs.out] at H5'; clear hb2
    go_wp2_with fail
    refine H5'.out.mono ?_; rintro e w3 ⟨rfl, d', hr3, hu3, hz3, hp3, hb3⟩; have HR3 := hide hr3; have HP3 := hide hp3; have HZ3 := hide hz3; have HB3 := hide (HB2.out.trans hb3); have H6' := hide (H6.out _ _ _ d' w3 hr3 hu3 (by rw [hz3]; exact hn)); rw [hz3] at H6'; clear hr3 hu3 hz3 hp3 hb3
    go_wp2_with fail
    refine H6'.out.mono ?_; rintro e w4 ⟨m, rfl, hm, ho4, hb4⟩; have HM := hide hm; have HO4 := hide ho4; have HB4 := hide (HB3.out.trans hb4); clear hm ho4 hb4; go_wp2; go_ret; have e1 : setOf d'.toList = setOf (l.map pK) := (by rw [sortP_perm HP3.out, HDt.out])
    have e2 : (sortP l).length = m := (by rw [HM.out, e1]; simp [sortP])
    have ho := HO4.out; rw [e1, pkC_setOf HG.out] at ho; exact ⟨some ⟨g, 0, none⟩, cap, by rw [e2]; rfl, by rw [e2]; exact ho, HB4.out⟩
end Go.Proofs.YtcinjckajnnhmaaGreat
