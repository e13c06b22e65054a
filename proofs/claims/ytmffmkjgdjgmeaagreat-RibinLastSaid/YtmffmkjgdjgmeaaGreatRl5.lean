import Derived.Test.YtmffmkjgdjgmeaaGreatRl4
import Derived.Lib.QuietBelow
import Derived.Shelf.SlSortCmp.WholeK
set_option linter.unusedSimpArgs false
set_option linter.unusedVariables false
namespace Go.Proofs.YtmffmkjgdjgmeaaGreat
open Go.RowKit Go.WideShapes Go.ChangeShapes
attribute [local go_sem] Oper.semAt_some
set_option maxRecDepth 100000 in
theorem pathSame_eq (A B : Option Addr) (n c m d : Nat) (l : List SG) (w : World) (h : LstAt 2 sgR w A n c l) (h' : LstAt 2 sgR w B m d l) (hn2 : n ≤ 100000) :
  Calls Tryz.prog 401 #[.slice A n c, .slice B m d] w fun e w' => e = .returned (.bool true) ∧ Below w.heap.size w w' := by
 have H := hide (psameC_eq A B n c m d l w h h' hn2); clear h h'
 go_enter Tryz.func401, Tryz.ntmps401
 go_wp2_with fail
 refine H.out.mono ?_; rintro e w3 ⟨rfl, hb3⟩; have HB3 := hide hb3; clear hb3; go_wp2; go_ret; exact ⟨rfl, HB3.out⟩
set_option maxRecDepth 100000 in
set_option maxHeartbeats 8000000 in
theorem attrsame_eq (X : AT) (v v' : Value) (w : World) (hv : AtR w X v) (hv' : AtR w X v') (hn : X.path.length ≤ 100000) : Calls Tryz.prog 351 #[v, v'] w (GoodP true w) := by
 obtain ⟨A, n, c, B, m, d, rfl, hP, hC⟩ := hv; obtain ⟨A2, n2, c2, B2, m2, d2, rfl, hP2, hC2⟩ := hv'; obtain ⟨w1, hw1⟩ : ∃ w1, (w.alloc (.cells (atC X.has X.org A n c X.hop X.med X.pref X.aas X.aid B m d) 28)).alloc (.cells (atC X.has X.org A2 n2 c2 X.hop X.med X.pref X.aas X.aid B2 m2 d2) 28) = w1 := ⟨_, rfl⟩
 have hb1 : Below w.heap.size w w1 := hw1 ▸ blkBelow2 w _ _; have HK1 : Hid (Blk w1 w.heap.size 28 (atC X.has X.org A n c X.hop X.med X.pref X.aas X.aid B m d)) := hide (hw1 ▸ (Blk.new w _ _).alloc _); have HK2 : Hid (Blk w1 (w.heap.size + 1) 28 (atC X.has X.org A2 n2 c2 X.hop X.med X.pref X.aas X.aid B2 m2 d2)) := hide (hw1 ▸ blk_new' _ _ (by simp)); have HPs := hide (pathSame_eq A A2 n c n2 c2 X.path w1 (hP.below sgMono hb1) (hP2.below sgMono hb1) (by rw [← hP.1]; exact hn)); have HU := hide (fun W (hb : Below w.heap.size w W) => hC.below hb); have HU2 := hide (fun W (hb : Below w.heap.size w W) => hC2.below hb); have HB1 := hide hb1; have HW1 := hide hw1; clear hw1 hb1 hP hP2 hC hC2 hn
 go_enter Tryz.func351, Tryz.ntmps351
 go_wp2_with fail
 rw [HW1.out]; refine HPs.out.mono ?_; rintro e w2 ⟨rfl, hb⟩; have HB2 := hide (btr HB1.out hb); have HK1 := hide (HK1.out.below hb HK1.out.lt); have HK2 := hide (HK2.out.below hb HK2.out.lt); have HSa := hide (slEqual_any B m d X.comms B2 m2 d2 X.comms w2 (HU.out w2 HB2.out) (HU2.out w2 HB2.out)); clear hb; obtain ⟨a0, a1, a2, a3, a4, a5, a6, a7, a8⟩ := blk9 HK1.out; obtain ⟨b0, b1, b2, b3, b4, b5, b6, b7, b8⟩ := blk9 HK2.out
 go_wp2_with fail
 refine HSa.out.mono ?_; rintro e w3 ⟨rfl, hb⟩; have HB3 := hide (btr HB2.out hb); clear hb a0 a1 a2 a3 a4 a5 a6 a7 a8 b0 b1 b2 b3 b4 b5 b6 b7 b8; go_wp2; go_ret; exact ⟨by simp, HB3.out⟩
set_option maxRecDepth 100000 in
theorem pxCompact_nil (w : World) : Calls Tryz.prog 176 #[.slice none 0 0] w fun e w' => e = .returned (.slice none 0 0) ∧ w' = w := by
 have hnil := fun w => Lib.run_eql_slice_nil (P := Tryz.prog) w
 go_enter Tryz.func176, Tryz.ntmps176
 go_wp2; go_ret; exact ⟨rfl, rfl⟩
set_option maxRecDepth 100000 in
theorem pxIns_nil (f : Value) (w : World) : Calls Tryz.prog 360 #[.slice none 0 0, .int .i64 0, .int .i64 0, f] w fun e w' => e = .returned (.tuple #[]) ∧ w' = w := by
 go_enter Tryz.func360, Tryz.ntmps360
 go_wp2
 go_loopw [8] (fun iv wr => iv = .int .i64 1 ∧ wr = w) (fun iv _ => 0)
 case atStart => exact ⟨rfl, rfl⟩
 case round =>
  obtain ⟨rfl, rfl⟩ := hrel; go_wp2; refine bodyPost_end (results_none rfl _ _ _) rfl ?_; exact ⟨rfl, rfl⟩
set_option maxRecDepth 100000 in
set_option maxHeartbeats 4000000 in
theorem pxPdq_nil (f : Value) (k : Int) (w : World) : Calls Tryz.prog 281 #[.slice none 0 0, .int .i64 0, .int .i64 0, .int .i64 k, f] w fun e w' => e = .returned (.tuple #[]) ∧ w' = w := by
 have H := hide (pxIns_nil f w)
 go_enter Tryz.func281, Tryz.ntmps281
 go_wp2
 go_loopw [1, 2] (fun a b wr => a = .int .i64 0 ∧ b = .int .i64 0 ∧ wr = w) (fun _ _ _ => 0)
 case atStart => exact ⟨rfl, rfl, rfl⟩
 case round =>
  obtain ⟨rfl, rfl, rfl⟩ := hrel
  go_wp2_with fail
  refine H.out.mono ?_; rintro e w1 ⟨rfl, rfl⟩; go_wp2; refine bodyPost_ret (results_none rfl _ _ _) rfl ?_; exact ⟨rfl, rfl⟩
set_option maxRecDepth 100000 in
theorem pxSortF_nil (f : Value) (w : World) : Calls Tryz.prog 174 #[.slice none 0 0, f] w fun e w' => e = .returned (.tuple #[]) ∧ w' = w := by
 have HL := hide (Tryz.bits_Len 0 w (by omega) (by omega)); have H := hide (fun k w => pxPdq_nil f k w)
 go_enter Tryz.func174, Tryz.ntmps174
 go_wp2_with fail
 refine HL.out.mono ?_; rintro e w1 ⟨rfl, rfl⟩
 go_wp2_with fail
 refine (H.out _ _).mono ?_; rintro e w1 ⟨rfl, rfl⟩; go_wp2; refine bodyPost_end (results_none rfl _ _ _) rfl ?_; exact ⟨rfl, rfl⟩
def X0 : AT := ⟨0, 0, [], 0, 0, 0, 0, 0, []⟩
theorem pg8 : PG 167772160 8 := ⟨by decide, by decide, by decide⟩
instance pg_dec (a n : Nat) : Decidable (PG a n) := by unfold PG; infer_instance
def pK (x : Nat × Nat) : Nat := x.1 * 64 + x.2
def unK (x : Nat) : Nat × Nat := (x / 64, x % 64)
theorem unK_pK {x : Nat × Nat} (h : PG x.1 x.2) : unK (pK x) = x := by
 obtain ⟨a, n⟩ := x; have h2 := h.2.1; simp only at h2; unfold unK pK; simp only [Prod.mk.injEq]; omega
def nk (x : Nat) : Nat := if PG (x / 64) (x % 64) then x else 0
theorem nk_pg (x : Nat) : PG (nk x / 64) (nk x % 64) := by
 unfold nk; split
 ·assumption
 ·decide
theorem nk_of {x : Nat} (h : PG (x / 64) (x % 64)) : nk x = x := by unfold nk; rw [if_pos h]
theorem nk_pK {x : Nat × Nat} (h : PG x.1 x.2) : nk (pK x) = pK x := by
 refine nk_of ?_; have := unK_pK h; unfold unK at this; rw [← this] at h; exact h
def enK (x : Nat) : List Value := [.int .u32 ((nk x / 64 : Nat) : Int), .int .i64 ((nk x % 64 : Nat) : Int)]
theorem enK_len (x : Nat) : (enK x).length = 2 := rfl
theorem enK_of {x : Nat} (h : nk x = x) : enK x = [.int .u32 ((x / 64 : Nat) : Int), .int .i64 ((x % 64 : Nat) : Int)] := by unfold enK; rw [h]
def cfK (x y : Nat) : Int := if nk x < nk y then -1 else if nk x = nk y then 0 else 1
theorem cmpK (x y : Nat) : cmpP (nk x / 64) ((nk x % 64 : Nat) : Int) (nk y / 64) ((nk y % 64 : Nat) : Int) = cfK x y := by
 unfold cmpP cfK; have h1 := (nk_pg x).2.1; have h2 := (nk_pg y).2.1
 generalize nk x = u at *
 generalize nk y = v at *
 by_cases h : u < v
 ·rw [if_pos h, if_pos (by omega)]
 ·rw [if_neg h, if_neg (by omega)]; by_cases h3 : u = v
  ·subst h3; simp
  ·rw [if_neg h3, if_neg (by omega)]
def pkC (l : List Nat) : List Value := l.flatMap enK
theorem flat2 {α β : Type} (f : α → List β) (hf : ∀ x, (f x).length = 2) : ∀ (l : List α) (j i : Nat) (x : α), l[j]? = some x → i < 2 → (l.flatMap f)[j * 2 + i]? = (f x)[i]?
 | [], _, _, _, h, _ => by simp at h
 | y :: l, 0, i, x, h, hi => by
   simp only [List.getElem?_cons_zero, Option.some.injEq] at h; subst h; rw [List.flatMap_cons, List.getElem?_append_left (by rw [hf]; omega)]
   simp
 | y :: l, j + 1, i, x, h, hi => by
   rw [List.flatMap_cons, List.getElem?_append_right (by rw [hf]; omega), hf, show (j + 1) * 2 + i - 2 = j * 2 + i by omega]; exact flat2 f hf l j i x (by simpa using h) hi
theorem flat2_len {α β : Type} (f : α → List β) (hf : ∀ x, (f x).length = 2) (l : List α) : (l.flatMap f).length = l.length * 2 := by
 induction l with
 | nil => rfl
 | cons x l ih => rw [List.flatMap_cons, List.length_append, hf, ih, List.length_cons]; omega
theorem two_of {α : Type} : ∀ {l : List α}, l.length = 2 → ∃ p q, l = [p, q]
 | [p, q], _ => ⟨p, q, rfl⟩
 | [], h => by simp at h
 | [_], h => by simp at h
 | _ :: _ :: _ :: _, h => by simp at h
theorem flat2_set {α β : Type} (f : α → List β) (hf : ∀ x, (f x).length = 2) : ∀ (l : List α) (k : Nat) (x : α) (u v : β), f x = [u, v] → ((l.flatMap f).set (k * 2) u).set (k * 2 + 1) v = (l.set k x).flatMap f
 | [], k, x, u, v, h => by simp
 | y :: l, 0, x, u, v, h => by
   obtain ⟨p, q, hp⟩ := two_of (hf y); simp [List.flatMap_cons, hp, h]
 | y :: l, k + 1, x, u, v, h => by
   obtain ⟨p, q, hp⟩ := two_of (hf y); have := flat2_set f hf l k x u v h; simp only [List.set_cons_succ, List.flatMap_cons, hp, ← this]; rw [show (k + 1) * 2 = k * 2 + 1 + 1 by omega]
   simp
theorem flat2_take {α β : Type} (f : α → List β) (hf : ∀ x, (f x).length = 2) : ∀ (l : List α) (k : Nat), (l.take k).flatMap f = (l.flatMap f).take (k * 2)
 | [], k => by simp
 | y :: l, 0 => by simp
 | y :: l, k + 1 => by
   rw [List.take_succ_cons, List.flatMap_cons, List.flatMap_cons, flat2_take f hf l k, show (k + 1) * 2 = 2 + k * 2 by omega, ← hf y, List.take_length_add_append]
theorem pkC_len (l : List Nat) : (pkC l).length = l.length * 2 := flat2_len enK enK_len l
theorem pkC_pxC : ∀ (l : List Nat), (∀ x ∈ l, nk x = x) → pkC l = pxC (l.map unK)
 | [], _ => rfl
 | x :: l, h => by
   have ih := pkC_pxC l (fun y hy => h y (List.mem_cons_of_mem _ hy)); unfold pkC pxC at *; rw [List.map_cons, List.flatMap_cons, List.flatMap_cons, ih, enK_of (h x (List.mem_cons_self ..))]
   rfl
theorem map_unK {l : List (Nat × Nat)} (h : ∀ x ∈ l, PG x.1 x.2) : (l.map pK).map unK = l := by
 rw [List.map_map]
 conv => rhs; rw [← List.map_id l]
 exact List.map_congr_left fun x hx => unK_pK (h x hx)
def PkRow (base g cap : Nat) (w : World) (d : Array Nat) : Prop := w.ownsRow base 24 2 (.slice (some ⟨g, 0, none⟩) d.size cap) d.size (pkC d.toList) ∧ (∀ x ∈ d.toList, nk x = x) ∧ base ≤ g ∧ g < w.heap.size ∧ d.size ≤ cap ∧ cap ≤ maxLen
theorem PkRow.val {base g cap : Nat} {w : World} {d : Array Nat} (h : PkRow base g cap w d) (j : Nat) : nk (d[j]! : Nat) = d[j]! := by
 by_cases hj : j < d.size
 ·rw [getElem!_pos d j hj]; exact h.2.1 _ (by simp)
 ·rw [getElem!_neg d j hj]; decide
theorem PkRow.cell {base g cap : Nat} {w : World} {d : Array Nat} (h : PkRow base g cap w d) {j : Nat} (hj : j < d.size) : w.cell? ⟨g, j * 2, none⟩ = some (.int .u32 ((d[j]! / 64 : Nat) : Int)) ∧ w.cell? ⟨g, j * 2 + 1, none⟩ = some (.int .i64 ((d[j]! % 64 : Nat) : Int)) := by
 have hx : d.toList[j]? = some d[j]! := (by simp [hj])
 have e := enK_of (h.val j); constructor
 ·rw [h.1.cellAt _ (by omega)]; have := flat2 enK enK_len d.toList j 0 _ hx (by omega); rw [Nat.add_zero, e] at this; exact this
 ·rw [h.1.cellAt _ (by omega)]; have := flat2 enK enK_len d.toList j 1 _ hx (by omega); rw [e] at this; exact this
theorem PkRow.drewN {base g cap : Nat} {w : World} {d : Array Nat} (h : PkRow base g cap w d) (n : Nat) : PkRow base g cap (w.drewN n) d := h
theorem PkRow.set_ {base g cap : Nat} {w : World} {d : Array Nat} (h : PkRow base g cap w d) {k x : Nat} (hx : nk x = x) : PkRow base g cap (w.setCells g (k * 2) [.int .u32 ((x / 64 : Nat) : Int), .int .i64 ((x % 64 : Nat) : Int)]) (d.setIfInBounds k x) := by
 obtain ⟨h1, h2, h3, h4, h5, h6⟩ := h; have e1 := (h1.stored (k * 2) (.int .u32 ((x / 64 : Nat) : Int))).1; have e2 := (e1.stored (k * 2 + 1) (.int .i64 ((x % 64 : Nat) : Int))).1; unfold pkC at e2; rw [flat2_set enK enK_len d.toList k x _ _ (enK_of hx)] at e2; refine ⟨?_, fun y hy => ?_, h3, by simpa [World.setCells, World.setCell] using h4, by simpa using h5, h6⟩
 ·unfold pkC; simpa [World.setCells] using e2
 ·have hy' : y ∈ d.toList.set k x := (by simpa using hy)
  rcases List.mem_or_eq_of_mem_set hy' with h | h
  ·exact h2 y h
  ·rw [h]; exact hx
theorem own_setCellsK {base g n cap e sz : Nat} : ∀ (vs : List Value) (j : Nat) {w : World} {xs : List Value}, w.ownsRow base e sz (.slice (some ⟨g, 0, none⟩) n cap) n xs → j + vs.length ≤ n * sz →
  (w.setCells g j vs).ownsRow base e sz (.slice (some ⟨g, 0, none⟩) n cap) n (xs.take j ++ vs ++ xs.drop (j + vs.length))
 | [], j, w, xs, h, _ => by simpa [World.setCells] using h
 | v :: vs, j, w, xs, h, hj => by
  have hl : xs.length = n * sz := h.1; have hj' : j + (vs.length + 1) ≤ n * sz := (by simpa using hj)
  have h1 := (h.stored j v).1; have h2 := own_setCellsK vs (j + 1) h1 (by omega)
  have e1 : (xs.set j v).take (j + 1) = xs.take j ++ [v] := by
   rw [List.take_add_one, List.take_set_of_le (by omega), List.getElem?_set_self (by omega)]
   rfl
  have e2 : (xs.set j v).drop (j + 1 + vs.length) = xs.drop (j + (v :: vs).length) := by
   rw [List.drop_set_of_lt (by omega)]
   congr 1
   simp; omega
  rw [e1, e2] at h2; simpa [World.setCells, List.append_assoc] using h2
theorem PkRow.cut {base g cap k : Nat} {w : World} {d : Array Nat} (h : PkRow base g cap w d) (hk : k ≤ d.size) : w.ownsRow base 24 2 (.slice (some ⟨g, 0, none⟩) k cap) k (pkC (d.toList.take k)) := by
 obtain ⟨h1, h2, h3, h4, h5, h6⟩ := h; rcases h1.2 with ⟨hv, _⟩ | ⟨g', cap', cur, hv, r1, r2, r3, r4, r5, r6⟩
 ·cases hv
 ·cases hv
  refine ⟨by rw [pkC_len, List.length_take]; simp; omega, .inr ⟨g, cap, cur, rfl, r1, r2, by omega, r4, r5, ?_⟩⟩; have e : pkC (d.toList.take k) = (pkC d.toList).take (k * 2) := flat2_take enK enK_len _ _; rw [e, ← r6, List.take_take]
  congr 1; omega
theorem own_clearK {base g cap k e sz : Nat} {xs : List Value} : ∀ (vs : List Value) (j : Nat) {w : World}, w.ownsRow base e sz (.slice (some ⟨g, 0, none⟩) k cap) k xs → k * sz ≤ j → (w.setCells g j vs).ownsRow base e sz (.slice (some ⟨g, 0, none⟩) k cap) k xs
 | [], _, _, h, _ => h
 | v :: vs, j, w, h, hj => by
  refine own_clearK vs (j + 1) ?_ (by omega); have := (h.stored j v).1
  rwa [List.set_eq_of_length_le (by have := h.1; omega)] at this
def sortP (l : List (Nat × Nat)) : List (Nat × Nat) := (setOf (l.map pK)).map unK
def PZ (a : Nat) (m : Int) : Prop := a < 4294967296 ∧ -9223372036854775808 ≤ m ∧ m ≤ 9223372036854775807
def pzR (w : World) (vs : List Value) (x : Nat × Int) : Prop := vs = [.int .u32 (x.1 : Int), .int .i64 x.2] ∧ PZ x.1 x.2
theorem pzMono : SMono pzR := fun _ _ _ _ _ h => h
theorem PZat {w : World} {A : Option Addr} {n c k : Nat} {l : List (Nat × Int)} (h : LstAt 2 pzR w A n c l) (hk : k < n) : ∃ g o a m, A = some ⟨g, o, none⟩ ∧ g < w.heap.size ∧ l[k]? = some (a, m) ∧ PZ a m ∧ w.cell? ⟨g, o + k * 2, none⟩ = some (.int .u32 (a : Int)) ∧ w.cell? ⟨g, o + k * 2 + 1, none⟩ = some (.int .i64 m) := by
 obtain ⟨h1, h2, h3, h4⟩ := h; obtain ⟨g, o, rfl, hg, hc⟩ := h4 (by omega); have hx : l[k]? = some l[k] := List.getElem?_eq_getElem (by omega); obtain ⟨vs, hl, ⟨rfl, hr⟩, hcs⟩ := hc k _ hx; exact ⟨g, o, _, _, rfl, hg, hx, hr, hcs 0 _ rfl, hcs 1 _ rfl⟩
def zP (x : Nat × Nat) : Nat × Int := (x.1, (x.2 : Int))
theorem pz_of_pg {a n : Nat} (h : PG a n) : PZ a (n : Int) := by
 have h1 := h.1; have h2 := h.2.1; exact ⟨h1, by omega, by omega⟩
theorem pz_of_px {w : World} {A : Option Addr} {n c : Nat} {l : List (Nat × Nat)} (h : LstAt 2 pxR w A n c l) (hg : ∀ x ∈ l, PG x.1 x.2) : LstAt 2 pzR w A n c (l.map zP) := by
 obtain ⟨h1, h2, h3, h4⟩ := h; refine ⟨by simpa using h1, h2, h3, fun hn => ?_⟩; obtain ⟨g, o, hA, hlt, hc⟩ := h4 hn; refine ⟨g, o, hA, hlt, fun k x hk => ?_⟩; rw [List.getElem?_map] at hk
 cases hz : l[k]? with
 | none => rw [hz] at hk; cases hk
 | some z =>
  rw [hz] at hk; simp only [Option.map_some, Option.some.injEq] at hk; subst hk; obtain ⟨vs, hl, rfl, hcs⟩ := hc k z hz; exact ⟨_, rfl, ⟨rfl, pz_of_pg (hg _ (List.mem_of_getElem? hz))⟩, hcs⟩
set_option maxRecDepth 100000 in
theorem pzIndex0_any (F : FuncId) (p : (Nat × Int) → Bool) (A : Option Addr) (n c : Nat) (l : List (Nat × Int)) (w : World) (h : LstAt 2 pzR w A n c l) (hF : ∀ (args : Array Value) (W : World), (callFunc F args).run Tryz.prog W = .ok (.enter F args) W)
    (HF : ∀ (a : Nat) (m : Int) (W : World), Below w.heap.size w W → PZ a m → Calls Tryz.prog F #[.agg #[.int .u32 (a : Int), .int .i64 m]] W (GoodP (p (a, m)) W)) :
    Calls Tryz.prog 280 #[.slice A n c, .func (.func F) #[] #[]] w fun e w' => e = .returned (.int .i64 (idxP p l)) ∧ Below w.heap.size w w' := by
  have hm := h.2.2.1; have hnc := h.2.1; unfold maxLen at hm; have HU := hide h; have HP := hide HF; have HE := hide hF; clear h HF hF
  go_enter Tryz.func280, Tryz.ntmps280
  go_wp2
  go_loopw [8] (fun i wr => ∃ k : Nat, k ≤ n ∧ i = .int .i64 k ∧ (∀ y ∈ l.take k, p y = false) ∧ Below w.heap.size w wr) (fun i _ => n - (intOf i).toNat)
  case atStart => exact ⟨0, Nat.zero_le _, rfl, by simp, Below.refl _ _⟩
  case round =>
    obtain ⟨k, hk, rfl, hno, hb⟩ := hrel; have HN := hide hno; have HA := hide (HU.out.below pzMono hb); have HB := hide hb; have hsz := hb.size; clear hno hb; by_cases hlt : k < n
    · obtain ⟨g, o, a, m, rfl, hg, hy, hok, c0, c1⟩ := PZat HA.out hlt; have HO := hide (HP.out a m wr HB.out hok); have HY := hide hy; clear hy; obtain ⟨q, hq⟩ : ∃ q, p (a, m) = q := ⟨_, rfl⟩
      rw [hq] at HO; have HQ := hide hq; clear hq hok
      go_wp2_with fail
      rw [HE.out, Oper.upon_enter]; refine HO.out.mono ?_; rintro e w1 ⟨rfl, hb1⟩; have HB1 := hide (HB.out.trans (hb1.mono hsz)); clear hb1
      cases q
      · have hn2 := hide (show ∀ y ∈ l.take (k + 1), p y = false by
          intro y hy; rw [List.take_add_one, HY.out, List.mem_append] at hy; rcases hy with hy | hy
          · exact HN.out y hy
          · simp at hy; subst hy; exact HQ.out)
        go_wp2
        go_roundw
        case rel => exact ⟨k + 1, by omega, by go_num, hn2.out, HB1.out⟩
        case measure => simp [intOf]; omega
      · have hin := hide (idxP_at p l k _ HN.out HY.out HQ.out); go_wp2; go_ret; exact ⟨ret_i64 hin.out.symm, HB1.out⟩
    · obtain rfl : k = n := (by omega)
      have hf := hide (idxP_none p l (fun y hy => HN.out y (by rw [List.take_of_length_le (by rw [HU.out.1]; exact Nat.le_refl _)]; exact hy))); go_wp2; go_ret; exact ⟨ret_i64 hf.out.symm, HB.out⟩
theorem pzContains0_any (F : FuncId) (p : (Nat × Int) → Bool) (A : Option Addr) (n c : Nat) (l : List (Nat × Int)) (w : World) (h : LstAt 2 pzR w A n c l) (hF : ∀ (args : Array Value) (W : World), (callFunc F args).run Tryz.prog W = .ok (.enter F args) W)
  (HF : ∀ (a : Nat) (m : Int) (W : World), Below w.heap.size w W → PZ a m → Calls Tryz.prog F #[.agg #[.int .u32 (a : Int), .int .i64 m]] W (GoodP (p (a, m)) W)) :
  Calls Tryz.prog 270 #[.slice A n c, .func (.func F) #[] #[]] w (GoodP (l.any p) w) := by
 have HI := hide (pzIndex0_any F p A n c l w h hF HF); have hd := idxP_any p l; obtain ⟨q, hq⟩ : ∃ q, l.any p = q := ⟨_, rfl⟩
 obtain ⟨i, hi⟩ : ∃ i, idxP p l = i := ⟨_, rfl⟩
 rw [hi] at HI hd; rw [hq] at hd ⊢; clear h hF HF hi hq
 go_enter Tryz.func270, Tryz.ntmps270
 go_wp2_with fail
 refine HI.out.mono ?_; rintro e w1 ⟨rfl, hb⟩; have HB := hide hb; clear hb; go_wp2; go_ret; exact ⟨rfl, HB.out⟩
theorem nOdd_any (a : Nat) (m : Int) (h : PZ a m) (w : World) : Calls Tryz.prog 173 #[.agg #[.int .u32 (a : Int), .int .i64 m]] w (GoodP (!goodB a m) w) := by
 have H := hide (fun W => Good_any a m h.1 h.2.1 h.2.2 W); unfold pfx at H; obtain ⟨q, hq⟩ : ∃ q, goodB a m = q := ⟨_, rfl⟩
 rw [hq] at H ⊢; clear hq h
 go_enter Tryz.func173, Tryz.ntmps173
 go_wp2_with fail
 refine (H.out _).mono ?_; rintro e w1 ⟨rfl, hb⟩; rw [World.size_alloc] at hb; have HB := hide (((Below.refl _ w).alloc (Nat.le_refl _) _).trans (hb.mono (Nat.le_succ _))); clear hb
 cases q
 ·go_wp2; go_ret; exact ⟨rfl, HB.out⟩
 ·go_wp2; go_ret; exact ⟨rfl, HB.out⟩
set_option maxRecDepth 100000 in
theorem pxDelete_good (A : Option Addr) (n c : Nat) (l : List (Nat × Nat)) (w : World) (h : LstAt 2 pxR w A n c l) (hg : ∀ x ∈ l, PG x.1 x.2) :
    Calls Tryz.prog 171 #[.slice A n c, .func (.func 173) #[] #[]] w fun e w' => e = .returned (.slice A n c) ∧ Below w.heap.size w w' := by
  have H := hide (pzIndex0_any 173 (fun x => !goodB x.1 x.2) A n c (l.map zP) w (pz_of_px h hg) (fun args W => by simp [callFunc, go_sem, Tryz.func173]; rfl) (fun a m W _ hz => nOdd_any a m hz W))
  have hi : idxP (fun x : Nat × Int => !goodB x.1 x.2) (l.map zP) = -1 := idxP_none _ _ (fun y hy => by
    obtain ⟨x, hx, rfl⟩ := List.mem_map.1 hy; have := good_pg (hg x hx); unfold zP; simp [this])
  rw [hi] at H; clear h hg hi
  go_enter Tryz.func171, Tryz.ntmps171
  go_wp2_with fail
  refine H.out.mono ?_; rintro e w1 ⟨rfl, hb⟩; have HB := hide hb; clear hb; go_wp2; go_ret; exact ⟨rfl, HB.out⟩
theorem own_made0P (w : World) : (w.alloc (.cells #[] 24)).ownsRow w.heap.size 24 2 (.slice (some ⟨w.heap.size, 0, none⟩) 0 0) 0 [] := World.ownsRow_made _ _ _ (Nat.le_refl _) (by simp [maxLen]) (by simp)
theorem pxC_one (l : List (Nat × Nat)) : ∀ v ∈ pxC l, v.oneCell' = true := by
 intro v hv; unfold pxC at hv; simp only [List.mem_flatMap] at hv; obtain ⟨x, _, hx⟩ := hv; simp at hx; rcases hx with rfl | rfl <;> rfl
theorem pxC_chunks_eq : ∀ {xs : List Value} {l : List (Nat × Nat)} {w : World}, Chunks 2 pxR w xs l → xs = pxC l := by
 intro xs l w h; obtain ⟨h1, h2⟩ := h
 apply List.ext_getElem?
 intro t; by_cases ht : t < l.length * 2
 ·have hx : l[t / 2]? = some l[t / 2] := List.getElem?_eq_getElem (by omega); have h3 := h2 (t / 2) _ hx; unfold pxR at h3; have h4 := flat2 (fun x : Nat × Nat => [Value.int .u32 (x.1 : Int), .int .i64 (x.2 : Int)]) (fun _ => rfl) l (t / 2) (t % 2) _ hx (by omega); rw [show t / 2 * 2 + t % 2 = t by omega] at h4; unfold pxC; rw [h4, ← h3, List.getElem?_take, if_pos (by omega), List.getElem?_drop, show t / 2 * 2 + t % 2 = t by omega]
 ·rw [List.getElem?_eq_none (by omega), List.getElem?_eq_none (by unfold pxC; rw [flat2_len _ (fun _ => rfl)]; omega)]
set_option maxRecDepth 100000 in
theorem pxClone_any (A : Option Addr) (n c : Nat) (l : List (Nat × Nat)) (w : World) (h : LstAt 2 pxR w A n c l) (hn : n ≤ 100000) :
  Calls Tryz.prog 172 #[.slice A n c] w fun e w' => ∃ v, e = .returned v ∧ w'.ownsRow w.heap.size 24 2 v n (pxC l) ∧ Below w.heap.size w w' := by
 obtain ⟨i0, hi, hz0, hz1, hz2⟩ := info_parts pxInfo; obtain ⟨xs, hr, hx⟩ := h.reads (by decide); obtain rfl := pxC_chunks_eq hx; have HR := hide hr; have hnil := fun w => Lib.run_eql_slice_nil (P := Tryz.prog) w
 cases A with
 | none =>
  have h0 : n = 0 := by
   rcases Nat.eq_zero_or_pos n with h1 | h1
   ·exact h1
   ·obtain ⟨g, o, hA, _⟩ := h.2.2.2 h1
    cases hA
  subst h0; have hl : Hid (l = []) := hide (List.eq_nil_of_length_eq_zero h.1); clear h hr hx HR
  go_enter Tryz.func172, Tryz.ntmps172
  go_wp2; go_ret; refine ⟨_, rfl, ?_, Below.refl _ _⟩; rw [hl.out]; exact World.ownsRow_nil _ _ _ _
 | some ad =>
  clear h hr hx
  go_enter Tryz.func172, Tryz.ntmps172
  go_wp2_with (at_builtin; refine wpList_append_any _ rfl (.tmp 5) (.tmp 6) 36 rfl w.heap.size 24 i0 _ 2 16 Tryz.underlying36 hi hz0 hz1 hz2 rfl (by decide) (.slice (some ⟨w.heap.size, 0, none⟩) 0 0) 0 [] rfl (own_made0P w) w.heap.size (some ad) n c (pxC l) rfl (HR.out.alloc (Nat.le_refl _) _) (pxC_one _) (by unfold maxLen; omega) (by omega) (by simp) ?_; intro v' w1 hown' hgrow _)
  go_ret; refine ⟨_, rfl, ?_, ?_⟩
  ·simpa using hown'
  ·exact ((Below.refl _ _).alloc (Nat.le_refl _) _).grown hgrow (by simp) (fun k hk => by simp [Value.ownBlock] at hk; omega)
theorem gr_far {W x : World} : (far W x).drawn = x.drawn := rfl
set_option maxHeartbeats 400000 in
theorem goodD (a n : Nat) (h : PG a n) (w : World) : Calls Tryz.prog 195 #[pfx a (n : Int)] w fun e w' => e = .returned (.bool true) ∧ Below w.heap.size w w' ∧ w.drawn ≤ w'.drawn := by
 have hn : (n : Int) ≤ 32 := (by have := h.2.1; omega)
 have hn0 : (0 : Int) ≤ (n : Int) := (by omega)
 have hf := hide (show (bits .andNot .u32 (a : Int) ((maskN n : Nat) : Int) == 0) = true by rw [good_test a n h.1 h.2.1, h.2.2]; simp); have HM := hide (fun W => mask_in n h.2.1 W); unfold pfx; clear h
 go_enter Tryz.func195, Tryz.ntmps195
 go_wp2
 go_quiet ((go_at_call 293; exact quiet_left (HM.out _)))
 go_wp2; go_ret; refine ⟨?_, below_drewN ((Below.refl _ _).alloc (Nat.le_refl _) _) _, Nat.le_add_right _ _⟩; rw [hf.out]; rfl
set_option maxRecDepth 100000 in
set_option maxHeartbeats 1000000 in
theorem cmpD (a n b m : Nat) (hg : PG a n) (hh : PG b m) (w : World) :
  Calls Tryz.prog 175 #[pfx a (n : Int), pfx b (m : Int)] w fun e w' => e = .returned (.int .i64 (cmpP a n b m)) ∧ Below w.heap.size w w' ∧ w.drawn ≤ w'.drawn := by
 have hg1 := goodD a n hg; have hh1 := goodD b m hh; unfold pfx at hg1 hh1 ⊢; have HG := hide hg1; have HH := hide hh1; have hf := hide (or_cmp a n b m); obtain ⟨k0, k1, k2, k3⟩ := boxes w (.int .u32 (a : Int)) (.int .i64 n) (.int .u32 (b : Int)) (.int .i64 m) 24 24; clear hg hh hg1 hh1
 go_enter Tryz.func175, Tryz.ntmps175
 go_wp2_with fail
 refine (HG.out _).mono ?_; rintro e w1 ⟨rfl, hb1, hd1⟩; obtain ⟨x1, rfl⟩ := far_of_below hb1; have HD1 := hide hd1; clear hd1
 go_wp2_with fail
 refine (HH.out _).mono ?_; rintro e w2 ⟨rfl, hb2, hd2⟩; obtain ⟨x2, rfl⟩ := far_below hb2; have HD2 := hide hd2; clear hd2
 go_wp2_with fail
 refine wp_region_still_tail 10 (by kernel_rfl) (by kernel_rfl) ?_; simp only [List.take_succ_cons, List.take_zero, List.drop_succ_cons, List.drop_zero]
 repeat (first | still_step | still_call (compareU_any a b _) | still_call (Tryz.cmp_Compare_int n m _))
 try refine wpStill_nil ?_
 refine wpList_gen (fun w3 => Below w.heap.size w w3 ∧ w.drawn ≤ w3.drawn) ⟨(below_boxes w _ _ x2).drew, ?_⟩ ?_
 ·have h1 := HD1.out; have h2 := HD2.out; simp only [World.drawn_alloc, World.drawn_drew, gr_far] at h1 h2 ⊢; omega
 intro w3 ⟨hb3, hd3⟩; clear hb1 hb2 k0 k1 k2 k3 HG HH HD1 HD2
 go_wp2_with fail
 refine (or_any w3.heap.size (cmpN a b) (Lib.compareInt n m) _ (by simp) (by simp)).mono ?_; rintro e w4 ⟨rfl, rfl⟩; rw [hf.out]; go_wp2; go_ret; exact ⟨rfl, hb3.alloc (hb3.size) _, by simpa using hd3⟩
theorem gr_of {w w' : World} (hb : Below w.heap.size w w') (hd : w.drawn ≤ w'.drawn) : ∃ q os, w' = Go.Sort.grow (w.drewN q) os := by
 obtain ⟨p, rfl⟩ := regrown_of_below hb; have hd' : w.drawn ≤ p.d := hd; refine ⟨p.d - w.drawn, p.os, ?_⟩; unfold World.drewN redrawn; rw [show w.drawn + (p.d - w.drawn) = p.d by omega]
theorem run_clear_sliceK {P : Program} (w : World) (t e ty : TypeId) (z : Value) (ht : P.underlying t = some (.slice e)) (hv : ∀ w, (zeroValue e).run P w = .ok z w) (h1 : ∀ v ∈ z.cells, v.oneCell' = true) (h0 : 0 < z.cells.size) (b o n c : Nat) (hn : 0 < n)
  (hc : ∀ j, j < n * z.cells.size → (w.cell? ⟨b, o + j, none⟩).isSome = true) (hf : ∀ j, j < n * z.cells.size → w.frozen? ⟨b, o + j, none⟩ = false) :
  (Builtin.clear_ #[t] ty #[.slice (some ⟨b, o, none⟩) n c]).run P w = .ok (.tuple #[]) (w.setCells b o (Builtin.zeroCells z.cells n).toList) := by
 have hl : (Builtin.zeroCells z.cells n).toList.length = n * z.cells.size := (by simp [Builtin.zeroCells])
 have ho : ∀ v ∈ (Builtin.zeroCells z.cells n).toList, v.oneCell' = true := by
  intro v hv'; simp only [Builtin.zeroCells, Array.toList_map, List.mem_map] at hv'; obtain ⟨i, _, rfl⟩ := hv'; have hi : i % z.cells.size < z.cells.size := Nat.mod_lt _ h0; rw [getElem!_pos z.cells _ hi]; exact h1 _ (Array.getElem_mem hi)
 have hst := run_storeCells_cells (P := P) b o (Builtin.zeroCells z.cells n).toList 0 w (by rw [hl]; simpa using hc) (by rw [hl]; simpa using hf) ho; simp only [Nat.add_zero] at hst; obtain ⟨m, rfl⟩ : ∃ m, n = m + 1 := ⟨n - 1, by omega⟩
 simp [Builtin.clear_, run_underlying ht, hv, hst]
theorem clearRunP (w : World) (g o n c : Nat) (hn : 0 < n) (hc : ∀ j, j < n * 2 → (w.cell? ⟨g, o + j, none⟩).isSome = true) (hf : ∀ j, j < n * 2 → w.frozen? ⟨g, o + j, none⟩ = false) (ty : TypeId) :
  (Builtin.clear_ #[36] ty #[.slice (some ⟨g, o, none⟩) n c]).run Tryz.prog w = .ok (.tuple #[]) (w.setCells g o (Builtin.zeroCells #[.int .u32 0, .int .i64 0] n).toList) :=
 run_clear_sliceK w 36 24 ty (.agg #[.int .u32 0, .int .i64 0]) Tryz.underlying36 Tryz.zeroValue24 (by intro v hv; simp [Value.cells] at hv; rcases hv with rfl | rfl <;> rfl) (by simp [Value.cells]) g o n c hn hc hf
set_option maxRecDepth 100000 in
set_option maxHeartbeats 4000000 in
theorem pxCompact_any (base g cap : Nat) (d : Array Nat) (w : World) (h : PkRow base g cap w d) (hu : Up d) (hsz : d.size ≤ 100000) :
    Calls Tryz.prog 176 #[.slice (some ⟨g, 0, none⟩) d.size cap] w fun e w' => ∃ m, e = .returned (.slice (some ⟨g, 0, none⟩) m cap) ∧ m = (setOf d.toList).length ∧ w'.ownsRow base 24 2 (.slice (some ⟨g, 0, none⟩) m cap) m (pkC (setOf d.toList)) ∧ Below base w w' := by
  have HR := hide h; have HUp := hide hu; have hcap := h.2.2.2.2.2; have hdc := h.2.2.2.2.1; have hbg := h.2.2.1; unfold maxLen at hcap; obtain ⟨n, hn⟩ : ∃ n, d.size = n := ⟨_, rfl⟩
  have HFin : Hid (∀ (w' : World) (d' : Array Nat) (k : Nat), PkRow base g cap w' d' → CompInv d d' k d.size → w'.ownsRow base 24 2 (.slice (some ⟨g, 0, none⟩) k cap) k (pkC (setOf d.toList)) ∧ k = (setOf d.toList).length) := hide (fun w' d' k hr hi => by
    have h1 := hr.cut (k := k) (by have := hi.size; have := hi.le; omega); rw [hi.done] at h1; refine ⟨h1, ?_⟩; have := congrArg List.length hi.done; rw [List.length_take] at this; have hh := hi.size; have hl := hi.le; simp at this; omega)
  rw [hn] at hsz hdc HFin ⊢; have HN := hide hn; clear h hu hn; by_cases h2 : n < 2
  · have HF : Hid (w.ownsRow base 24 2 (.slice (some ⟨g, 0, none⟩) n cap) n (pkC (setOf d.toList)) ∧ n = (setOf d.toList).length) := hide (by
      have h1 := HR.out.1; rw [HN.out] at h1
      have e : setOf d.toList = d.toList := by
        have hl : d.toList.length = n := (by simpa using HN.out)
        match hd : d.toList, hl with
        | [], _ => rfl
        | [x], _ => rfl
        | x :: y :: l, hl => simp at hl; omega
      rw [e]; exact ⟨h1, by simpa using HN.out.symm⟩)
    go_enter Tryz.func176, Tryz.ntmps176
    go_wp2; go_ret; exact ⟨_, rfl, HF.out.2, HF.out.1, Below.refl _ _⟩
  · have HSt := hide (CompInv.start (d := d) (by rw [HN.out]; omega))
    go_enter Tryz.func176, Tryz.ntmps176
    go_wp2
    go_loopw [3] (fun i wr => ∃ k : Nat, k ≤ n ∧ i = .int .i64 k ∧ CompInv d d k k ∧ ∃ q, wr = w.drewN q) (fun i _ => n - (intOf i).toNat)
    case atStart => exact ⟨1, by omega, rfl, HSt.out, 0, rfl⟩
    case round =>
      obtain ⟨k, hk, rfl, hinv, q, rfl⟩ := hrel; have HI := hide hinv; have hk1 := hinv.le.1; clear hinv; by_cases hlt : k < n
      · obtain ⟨p, rfl⟩ : ∃ p, k = p + 1 := ⟨k - 1, by omega⟩
        obtain ⟨hc1, hd1⟩ := HR.out.cell (j := p + 1) (by rw [HN.out]; omega); obtain ⟨hc2, hd2⟩ := HR.out.cell (j := p) (by rw [HN.out]; omega); obtain ⟨x, hx⟩ : ∃ x, d[p + 1]! = x := ⟨_, rfl⟩
        obtain ⟨y, hy⟩ : ∃ y, d[p]! = y := ⟨_, rfl⟩
        rw [hx] at hc1 hd1; rw [hy] at hc2 hd2; obtain ⟨xa, hxa⟩ : ∃ a, x / 64 = a := ⟨_, rfl⟩
        obtain ⟨xm, hxm⟩ : ∃ a, x % 64 = a := ⟨_, rfl⟩
        obtain ⟨ya, hya⟩ : ∃ a, y / 64 = a := ⟨_, rfl⟩
        obtain ⟨ym, hym⟩ : ∃ a, y % 64 = a := ⟨_, rfl⟩
        rw [hxa] at hc1; rw [hxm] at hd1; rw [hya] at hc2; rw [hym] at hd2; have HX := hide hx; have HY := hide hy; have hi0 : (0 : Int) ≤ (p : Int) := (by omega)
        have hi1 : (p : Int) + 1 < (n : Int) := (by omega)
        have hi2 : (p : Int) < (n : Int) := (by omega)
        have hi3 : (0 : Int) ≤ (p : Int) + 1 := (by omega)
        have hwp : IntKind.i64.wrap (p : Int) = (p : Int) := (by rw [IntKind.wrap_i64]; omega)
        by_cases hxy : x = y
        · have HXY := hide hxy
          have HI2 : Hid (CompInv d d (p + 1) (p + 1 + (0 + 1))) := hide (by
            have := HI.out.skip (by rw [HN.out]; exact hlt) (by rw [Nat.add_sub_cancel, HX.out, HY.out]; exact HXY.out); exact this)
          obtain rfl : xa = ya := (by omega)
          obtain rfl : xm = ym := (by omega)
          have hcp : ¬ cap = p + 1 := (by omega)
          have hi4 : (p : Int) + 1 ≤ (n : Int) := (by omega)
          have hi5 : (n : Int) ≤ (cap : Int) := (by omega)
          clear hxy hx hy hxa hxm hya hym; go_wp2
          go_quiet (fail)
          go_wp2; obtain ⟨wo, hwo⟩ : ∃ wo, (w.drewN q).drewN nq = wo := ⟨_, rfl⟩
          have HRo : Hid (PkRow base g cap wo d) := hide (by rw [← hwo]; exact (HR.out.drewN q).drewN nq); have HBo : Hid (Below base w wo) := hide (by rw [← hwo]; exact below_drewN (below_drewN (Below.refl _ _) _) _); obtain ⟨p0, hp0⟩ : ∃ p0, p = p0 := ⟨_, rfl⟩
          subst hp0; clear hc1 hd1 hc2 hd2
          go_loopw [3, 5] (fun a b wr => ∃ (k r : Nat) (d' : Array Nat), a = .int .i64 k ∧ b = .int .i64 ((r : Int) + 1) ∧ r + 1 ≤ n - (p + 1) ∧ CompInv d d' k (p + 1 + (r + 1)) ∧ k < p + 1 + (r + 1) ∧ d'[p + 1 + r]! = d[p + 1 + r]! ∧ PkRow base g cap wr d' ∧ Below base w wr) (fun _ b _ => n - (intOf b).toNat)
          case atStart => exact ⟨p + 1, 0, d, by go_num, by go_num, by omega, HI2.out, by omega, rfl, by first | exact (HR.out.drewN _) | exact (HR.out.drewN _).drewN _, by first | exact below_drewN (Below.refl _ _) _ | exact below_drewN (below_drewN (Below.refl _ _) _) _⟩
          case round =>
            obtain ⟨k, r, d', rfl, rfl, hr, hinv, hkq, hrr, hrow, hbel⟩ := hrel; have HI3 := hide hinv; have HRR := hide hrr; have HR3 := hide hrow; have HB3 := hide hbel; have hds := hinv.size; have hle := hinv.le; rw [HN.out] at hds hle; clear hinv hrr hbel; by_cases hlt2 : r + 1 < n - (p + 1)
            · obtain ⟨hc3, hd3⟩ := hrow.cell (j := p + 1 + (r + 1)) (by omega); obtain ⟨hc4, hd4⟩ := hrow.cell (j := p + 1 + r) (by omega); have hfz := hrow.1.frozenAt (k * 2); have hfz2 := hrow.1.frozenAt (k * 2 + 1); obtain ⟨hck, hdk⟩ := hrow.cell (j := k) (by omega); clear hrow; obtain ⟨x2, hx2⟩ : ∃ x2, d[p + 1 + (r + 1)]! = x2 := ⟨_, rfl⟩
              obtain ⟨y2, hy2⟩ : ∃ y2, d[p + 1 + r]! = y2 := ⟨_, rfl⟩
              obtain ⟨z2, hz2⟩ : ∃ z2, d'[k]! = z2 := ⟨_, rfl⟩
              have hdx : d'[p + 1 + (r + 1)]! = x2 := by
                rcases HI3.out.rest (p + 1 + (r + 1)) (by omega) with h | h
                · rw [h, hx2]
                · omega
              rw [hdx] at hc3 hd3; rw [HRR.out, hy2] at hc4 hd4; rw [hz2] at hck hdk; have HX2 := hide hx2; have HY2 := hide hy2; have HDX := hide hdx; have hx3 : nk x2 = x2 := (by rw [← hdx]; exact HR3.out.val _)
              have HX3 := hide hx3; obtain ⟨ua, hua⟩ : ∃ a, x2 / 64 = a := ⟨_, rfl⟩
              obtain ⟨um, hum⟩ : ∃ a, x2 % 64 = a := ⟨_, rfl⟩
              obtain ⟨va, hva⟩ : ∃ a, y2 / 64 = a := ⟨_, rfl⟩
              obtain ⟨vm, hvm⟩ : ∃ a, y2 % 64 = a := ⟨_, rfl⟩
              have HSt2 := hide (fun nq => (HR3.out.drewN nq).set_ (k := k) hx3); simp only [hua, hum] at HSt2; rw [hua] at hc3; rw [hum] at hd3; rw [hva] at hc4; rw [hvm] at hd4; obtain ⟨za, hza⟩ : ∃ a, z2 / 64 = a := ⟨_, rfl⟩
              obtain ⟨zm, hzm⟩ : ∃ a, z2 % 64 = a := ⟨_, rfl⟩
              rw [hza] at hck; rw [hzm] at hdk; clear hx2 hy2 hdx hz2 hx3 hza hzm; have hj0 : (0 : Int) ≤ (r : Int) := (by omega)
              have hj1 : (0 : Int) ≤ (r : Int) + 1 := (by omega)
              have hj2 : (r : Int) + 1 < (n : Int) - ((p : Int) + 1) := (by omega)
              have hj3 : (r : Int) < (n : Int) - ((p : Int) + 1) := (by omega)
              have hj4 : (k : Int) < (n : Int) := (by omega)
              have hwr : IntKind.i64.wrap (r : Int) = (r : Int) := (by rw [IntKind.wrap_i64]; omega)
              have ho1 : 0 + (p + 1) * 2 + (r + 1) * 2 = (p + 1 + (r + 1)) * 2 := (by omega)
              have ho2 : (p + 1) * 2 + (r + 1) * 2 = (p + 1 + (r + 1)) * 2 := (by omega)
              have ho3 : (p + 1) * 2 + r * 2 = (p + 1 + r) * 2 := (by omega)
              by_cases hxy2 : x2 = y2
              · have HI4 : Hid (CompInv d d' k (p + 1 + (r + 1 + 1))) := hide (by
                  have := HI3.out.skip (by rw [HN.out]; omega) (by rw [show p + 1 + (r + 1) - 1 = p + 1 + r by omega, HX2.out, HY2.out]; exact hxy2); exact this)
                obtain rfl : ua = va := (by omega)
                obtain rfl : um = vm := (by omega)
                clear hxy2 hua hum hva hvm; go_wp2
                go_quiet (fail)
                go_wp2
                go_roundw
                case rel => exact ⟨k, r + 1, d', rfl, by go_num, by omega, HI4.out, by omega, by rw [show p + 1 + (r + 1) = p + 1 + (r + 1) from rfl, HDX.out, HX2.out], HR3.out.drewN _, below_drewN HB3.out _⟩
                case measure => simp [intOf]; omega
              · have HI4 : Hid (CompInv d (d'.setIfInBounds k x2) (k + 1) (p + 1 + (r + 1 + 1))) := hide (by
                  have := HI3.out.put HUp.out (by rw [HN.out]; omega) (by rw [show p + 1 + (r + 1) - 1 = p + 1 + r by omega, HX2.out, HY2.out]; exact hxy2); rw [HX2.out] at this; exact this)
                have hne : ¬ (ua = va ∧ um = vm) := fun h => by omega
                clear hxy2 hua hum hva hvm; by_cases hua2 : ua = va
                · subst hua2; have he2 : ((um : Int) == (vm : Int)) = false := (by simp; omega)
                  clear hne; go_wp2
                  go_quiet (fail)
                  go_wp2
                  go_roundw
                  case rel => exact ⟨k + 1, r + 1, d'.setIfInBounds k x2, by go_num, by go_num, by omega, HI4.out, by omega, by rw [get_set _ _ _ _ (by omega), if_neg (by omega), HDX.out, HX2.out], by exact HSt2.out _, by exact below_clear (by exact HR3.out.2.2.1) [_, _] (k * 2) (below_drewN HB3.out _)⟩
                  case measure => simp [intOf]; omega
                · have he2 : ((ua : Int) == (va : Int)) = false := (by simp; omega)
                  clear hne hua2; go_wp2
                  go_quiet (fail)
                  go_wp2
                  go_roundw
                  case rel => exact ⟨k + 1, r + 1, d'.setIfInBounds k x2, by go_num, by go_num, by omega, HI4.out, by omega, by rw [get_set _ _ _ _ (by omega), if_neg (by omega), HDX.out, HX2.out], by exact HSt2.out _, by exact below_clear (by exact HR3.out.2.2.1) [_, _] (k * 2) (below_drewN HB3.out _)⟩
                  case measure => simp [intOf]; omega
            · have hkn : k < n := (by omega)
              have hrn : p + 1 + (r + 1) = n := (by omega)
              have HI4 : Hid (CompInv d d' k d.size) := hide (by rw [HN.out, ← hrn]; exact HI3.out)
              have hcl := clearRunP wr g (k * 2) (n - k) (cap - k) (by omega) (fun j hj => by
                have := HR3.out.1.cellAt (k * 2 + j) (by omega); rw [this, List.getElem?_eq_getElem (by rw [pkC_len]; simp; omega)]
                rfl) (fun j hj => HR3.out.1.frozenAt (k * 2 + j))
              have HF : Hid (wr.ownsRow base 24 2 (.slice (some ⟨g, 0, none⟩) k cap) k (pkC (setOf d.toList)) ∧ k = (setOf d.toList).length) := hide (HFin.out wr d' k HR3.out (by have := HI4.out; rwa [HN.out] at this)); have hck : ¬ cap = k := (by omega)
              have hj4 : (k : Int) < (n : Int) := (by omega)
              clear hrow hrn; go_wp2; go_ret; exact ⟨_, rfl, HF.out.2, own_clearK _ _ HF.out.1 (Nat.le_refl _), below_clear (by exact HR3.out.2.2.1) _ _ HB3.out⟩
        · have HI2 := hide (HI.out.grow HUp.out (by rw [HN.out]; exact hlt) (by rw [Nat.add_sub_cancel, HX.out, HY.out]; exact hxy)); have hne : ¬ (xa = ya ∧ xm = ym) := fun h => by omega
          clear hxy hx hy hxa hxm hya hym; by_cases hxa2 : xa = ya
          · subst hxa2; have he : ((xm : Int) == (ym : Int)) = false := (by simp; omega)
            clear hne; go_wp2
            go_quiet (fail)
            go_wp2
            go_roundw
            case rel => exact ⟨p + 1 + 1, by omega, by go_num, HI2.out, _, rfl⟩
            case measure => simp [intOf]; omega
          · have he : ((xa : Int) == (ya : Int)) = false := (by simp; omega)
            clear hne hxa2; go_wp2
            go_quiet (fail)
            go_wp2
            go_roundw
            case rel => exact ⟨p + 1 + 1, by omega, by go_num, HI2.out, _, rfl⟩
            case measure => simp [intOf]; omega
      · obtain rfl : k = n := (by omega)
        have HF := hide (HFin.out (w.drewN q) d k (HR.out.drewN q) (by have := HI.out; rwa [← HN.out] at this ⊢)); go_wp2; go_ret; exact ⟨_, rfl, HF.out.2, HF.out.1, below_drewN (Below.refl _ _) _⟩
theorem ltK (x y : Nat) : ltOf cfK x y = decide (nk x < nk y) := by
 unfold ltOf cfK; by_cases h : nk x < nk y
 ·simp [h]
 ·rw [if_neg h]; by_cases h2 : nk x = nk y
  ·simp [h2]
  ·simp [h, h2]
theorem swoK : Go.Sort.SWO (ltOf cfK) := by
 refine ⟨fun x => ?_, fun x y z h1 h2 => ?_, fun x y z h1 h2 => ?_⟩
 ·rw [ltK]; simp
 ·rw [ltK] at *; simp at *; omega
 ·rw [ltK] at *; simp at *; omega
theorem flatK_pk (d : Array Nat) : Go.Sort.flatK enK 2 d = (pkC d.toList).toArray := by
 refine Go.Sort.ext_get! (by simp [pkC_len]) fun t ht => ?_; have ht' : t < d.size * 2 := (by simpa using ht)
 rw [Go.Sort.get_flatK _ _ _ _ ht']; have hx : d.toList[t / 2]? = some d[t / 2]! := (by simp [show t / 2 < d.size by omega])
 have h1 := flat2 enK enK_len d.toList (t / 2) (t % 2) _ hx (by omega); rw [show t / 2 * 2 + t % 2 = t by omega] at h1; have h2 : t % 2 < (enK d[t / 2]!).length := (by rw [enK_len]; omega)
 have h3 : t < (pkC d.toList).toArray.size := (by simp [pkC_len]; omega)
 rw [getElem!_pos (enK d[t / 2]!) _ h2, getElem!_pos (pkC d.toList).toArray _ h3]; have h4 : t < (d.toList.flatMap enK).length := (by rw [flat2_len enK enK_len]; simpa using ht')
 rw [List.getElem?_eq_getElem h2, List.getElem?_eq_getElem h4] at h1; exact (Option.some.inj h1).symm
theorem PkRow.holds {base g cap : Nat} {w : World} {d : Array Nat} (h : PkRow base g cap w d) : Go.Sort.HoldsK enK 2 w g 0 d := by
 unfold Go.Sort.HoldsK; rw [flatK_pk]; intro t ht; have ht' : t < d.size * 2 := (by simpa [pkC_len] using ht)
 refine ⟨?_, h.1.frozenAt _⟩; rw [Nat.zero_add, h.1.cellAt t ht', getElem!_pos _ t ht]; simp [show t < (pkC d.toList).length by rw [pkC_len]; simpa using ht']
theorem PkRow.sorted {base g cap n : Nat} {w : World} {d d' : Array Nat} {os : Array Obj} (h : PkRow base g cap w d) (hs : d'.size = d.size) (hv : ∀ x ∈ d'.toList, nk x = x) :
  PkRow base g cap (sortWorldK enK 2 w g 0 n d' os) d' ∧ Below base w (sortWorldK enK 2 w g 0 n d' os) := by
 have hH := h.holds; unfold Go.Sort.HoldsK at hH; rw [flatK_pk] at hH; have hlen : (pkC d'.toList).length = (pkC d.toList).length := (by rw [pkC_len, pkC_len]; simp [hs])
 have e : sortWorldK enK 2 w g 0 n d' os = Go.Sort.grow ((w.drewN n).setCells g 0 (pkC d'.toList)) os := by
  unfold sortWorldK Go.Sort.putRowK; rw [flatK_pk, Go.Lib.putRow_eq_setCells id w g 0 (pkC d.toList).toArray (pkC d'.toList) n hH (by simp [hlen]), List.map_id]
 rw [e]; have h1 := own_setCellsK (pkC d'.toList) 0 (h.drewN n).1 (by rw [Nat.zero_add, pkC_len]; simp [hs])
 have e2 : List.take 0 (pkC d.toList) ++ pkC d'.toList ++ List.drop (0 + (pkC d'.toList).length) (pkC d.toList) = pkC d'.toList := by
  rw [Nat.zero_add, hlen, List.drop_length]; simp
 rw [e2] at h1; have hb1 : Below base w ((w.drewN n).setCells g 0 (pkC d'.toList)) := below_clear h.2.2.1 _ _ (below_drewN (Below.refl _ _) _); have hgs : Below ((w.drewN n).setCells g 0 (pkC d'.toList)).heap.size ((w.drewN n).setCells g 0 (pkC d'.toList)) (Go.Sort.grow ((w.drewN n).setCells g 0 (pkC d'.toList)) os) := Lib.below_grow _ _ (Nat.le_refl _) 0 os; have hbs : base ≤ w.heap.size := Nat.le_trans h.2.2.1 (Nat.le_of_lt h.2.2.2.1); have hszs : ((w.drewN n).setCells g 0 (pkC d'.toList)).heap.size = w.heap.size := sizeSetCells _ _ _ _; refine ⟨⟨?_, hv, h.2.2.1, Nat.lt_of_lt_of_le (by rw [hszs]; exact h.2.2.2.1) hgs.size, by rw [hs]; exact h.2.2.2.2.1, h.2.2.2.2.2⟩, hb1.trans (hgs.mono (by rw [hszs]; exact hbs))⟩; have := own_kept h1 hgs; rw [hs]; exact this
theorem up_of_sorted {d : Array Nat} (h : Go.Sort.SortedIn (ltOf cfK) 0 d.size d) (hv : ∀ j : Nat, nk (d[j]! : Nat) = d[j]!) : Up d := by
 intro i hi; have := h i (i + 1) (Nat.zero_le _) (by omega) hi; rw [ltK, hv, hv] at this; simpa using this
theorem cmpLaysK (g off size : Nat) (w : World) : CmpLays Tryz.prog 175 #[] enK 2 cfK g off size w := by
 intro m os dk hs x y; refine (cmpD _ _ _ _ (nk_pg x) (nk_pg y) _).mono ?_; rintro e w' ⟨rfl, hb, hd⟩; rw [cmpK]; exact ⟨rfl, gr_of hb hd⟩
theorem enK_one (x : Nat) : ∀ v ∈ enK x, v.oneCell' = true := by
 intro v hv; simp [enK] at hv; rcases hv with rfl | rfl <;> rfl
theorem permIn_whole {d d' : Array Nat} (h : Go.Sort.PermIn 0 d.size d d') : d'.size = d.size ∧ d'.toList.Perm d.toList := by
 obtain ⟨h1, _, h3⟩ := h; refine ⟨h1, ?_⟩; have e1 : d.extract 0 d.size = d := (by simp)
 have e2 : d'.extract 0 d.size = d' := (by rw [← h1]; simp)
 rw [e1, e2] at h3; exact h3
theorem pxSortF_any (base g cap : Nat) (d : Array Nat) (w : World) (h : PkRow base g cap w d) (hsz : d.size ≤ 100000) :
  Calls Tryz.prog 174 #[.slice (some ⟨g, 0, none⟩) d.size cap, .func (.func 175) #[] #[]] w fun e w' => e = .returned (.tuple #[]) ∧ ∃ d' : Array Nat, PkRow base g cap w' d' ∧ Up d' ∧ d'.size = d.size ∧ d'.toList.Perm d.toList ∧ Below base w w' := by
 refine (Tryz.slices_SortFunc_px enK enK_len enK_one cfK swoK 175 #[] g 0 cap d w (fun args W => by simp [callFunc, go_sem, Tryz.func175]; rfl) (cmpLaysK g 0 d.size w) h.holds h.2.2.2.1 (by omega)).mono ?_; rintro e w' ⟨rfl, d', n, os, hp, hs, rfl⟩; obtain ⟨hz, hpm⟩ := permIn_whole hp; have hv : ∀ x ∈ d'.toList, nk x = x := fun x hx => h.2.1 x ((hpm.mem_iff).1 hx); obtain ⟨hr, hb⟩ := h.sorted (n := n) (os := os) hz hv; exact ⟨rfl, d', hr, up_of_sorted (by rw [hz]; exact hs) (fun j => hr.val j), hz, hpm, hb⟩
theorem sortP_perm {l r : List Nat} (h : l.Perm r) : setOf l = setOf r :=
 rise_ext (setOf_rise _) (setOf_rise _) (fun x => by rw [setOf_mem, setOf_mem]; exact h.mem_iff)
theorem sortP_mem {l : List (Nat × Nat)} (hg : ∀ x ∈ l, PG x.1 x.2) (x : Nat × Nat) : x ∈ sortP l ↔ x ∈ l := by
 unfold sortP; constructor
 ·intro hx; obtain ⟨k, hk, rfl⟩ := List.mem_map.1 hx; rw [setOf_mem] at hk; obtain ⟨y, hy, rfl⟩ := List.mem_map.1 hk
  rwa [unK_pK (hg y hy)]
 ·intro hx; exact List.mem_map.2 ⟨pK x, (setOf_mem _ _).2 (List.mem_map.2 ⟨x, hx, rfl⟩), unK_pK (hg x hx)⟩
theorem pkC_map {l : List (Nat × Nat)} (hg : ∀ x ∈ l, PG x.1 x.2) : pkC (l.map pK) = pxC l := by
 rw [pkC_pxC _ (fun x hx => by obtain ⟨y, hy, rfl⟩ := List.mem_map.1 hx; exact nk_pK (hg y hy)), map_unK hg]
theorem pkC_setOf {l : List (Nat × Nat)} (hg : ∀ x ∈ l, PG x.1 x.2) : pkC (setOf (l.map pK)) = pxC (sortP l) :=
  pkC_pxC _ (fun x hx => by
    rw [setOf_mem] at hx; obtain ⟨y, hy, rfl⟩ := List.mem_map.1 hx; exact nk_pK (hg y hy))
set_option maxRecDepth 100000 in
set_option maxHeartbeats 4000000 in
theorem nSort_any (A : Option Addr) (n c : Nat) (l : List (Nat × Nat)) (w : World) (h : LstAt 2 pxR w A n c l) (hg : ∀ x ∈ l, PG x.1 x.2) (hn : n ≤ 100000) :
    Calls Tryz.prog 73 #[.slice A n c] w fun e w' => ∃ A' c', e = .returned (.slice A' (sortP l).length c') ∧ w'.ownsRow w.heap.size 24 2 (.slice A' (sortP l).length c') (sortP l).length (pxC (sortP l)) ∧ Below w.heap.size w w' := by
  have H1 := hide (pxClone_any A n c l w h hn); have H2 := hide (fun A c W (h : LstAt 2 pxR W A n c l) => pxDelete_good A n c l W h hg); have H3 := hide (fun f W => pxSortF_nil f W); have H4 := hide (fun W => pxCompact_nil W); have H5 := hide (fun base g cap (d : Array Nat) W (hr : PkRow base g cap W d) (hz : d.size ≤ 100000) => pxSortF_any base g cap d W hr hz); have H6 := hide (fun base g cap (d : Array Nat) W (hr : PkRow base g cap W d) hu (hz : d.size ≤ 100000) => pxCompact_any base g cap d W hr hu hz); have HG := hide hg; have hln := h.1; clear h hg
  go_enter Tryz.func73, Tryz.ntmps73
  go_wp2_with fail
  refine H1.out.mono ?_; rintro e w1 ⟨v, rfl, ho, hb1⟩; rcases ho.2 with ⟨rfl, h0⟩ | ⟨g, cap, cur, rfl, hbg, hcur, hnc, hcm, _, _⟩
  · subst h0; have hl : l = [] := List.eq_nil_of_length_eq_zero hln; have HB1 := hide hb1; have HE : Hid (sortP l = []) := hide (by rw [hl]; rfl); have H2' := hide (H2.out none 0 w1 (by rw [hl]; exact LstAt.none_)); clear ho hb1 hl
    go_wp2_with fail
    refine H2'.out.mono ?_; rintro e w2 ⟨rfl, hb2⟩; have HB2 := hide (btr HB1.out hb2); clear hb2
    go_wp2_with fail
    refine (H3.out _ _).mono ?_; rintro e w3 ⟨rfl, rfl⟩
    go_wp2_with fail
    refine (H4.out _).mono ?_; rintro e w3 ⟨rfl, rfl⟩; go_wp2; go_ret; refine ⟨none, 0, by rw [HE.out]; rfl, ?_, HB2.out⟩; rw [HE.out]; exact World.ownsRow_nil _ _ _ _
  · have hgl : g < w1.heap.size := (Array.getElem?_eq_some_iff.1 hcur).1; obtain ⟨d, hd⟩ : ∃ d : Array Nat, (l.map pK).toArray = d := ⟨_, rfl⟩
    have hdt : d.toList = l.map pK := (by rw [← hd])
    have hds : d.size = n := (by rw [← hd]; simp [hln])
    have hbs := hb1.size
    have HR1 : Hid (PkRow w.heap.size g cap w1 d) := hide ⟨by rw [hdt, pkC_map HG.out, hds]; exact ho, fun x hx => by
      rw [hdt] at hx; obtain ⟨y, hy, rfl⟩ := List.mem_map.1 hx; exact nk_pK (HG.out y hy), hbg, hgl, by omega, hcm⟩
    have H2' := hide (H2.out (some ⟨g, 0, none⟩) cap w1 (own_pxs ho)); have HB1 := hide hb1; have HDt := hide hdt; have HDs := hide hds; clear ho hb1 hd hdt hds hcur
    go_wp2_with fail
    refine H2'.out.mono ?_; rintro e w2 ⟨rfl, hb2⟩; have HB2 := hide (btr HB1.out hb2); have HR2 : Hid (PkRow w.heap.size g cap w2 d) := hide ⟨own_kept HR1.out.1 hb2, HR1.out.2.1, HR1.out.2.2.1, Nat.lt_of_lt_of_le HR1.out.2.2.2.1 hb2.size, HR1.out.2.2.2.2⟩; have H5' := hide (H5.out _ _ _ d w2 HR2.out (by rw [HDs.out]; exact hn)); rw [HDs.out] at H5'; clear hb2
    go_wp2_with fail
    refine H5'.out.mono ?_; rintro e w3 ⟨rfl, d', hr3, hu3, hz3, hp3, hb3⟩; have HR3 := hide hr3; have HP3 := hide hp3; have HZ3 := hide hz3; have HB3 := hide (HB2.out.trans hb3); have H6' := hide (H6.out _ _ _ d' w3 hr3 hu3 (by rw [hz3]; exact hn)); rw [hz3] at H6'; clear hr3 hu3 hz3 hp3 hb3
    go_wp2_with fail
    refine H6'.out.mono ?_; rintro e w4 ⟨m, rfl, hm, ho4, hb4⟩; have HM := hide hm; have HO4 := hide ho4; have HB4 := hide (HB3.out.trans hb4); clear hm ho4 hb4; go_wp2; go_ret; have e1 : setOf d'.toList = setOf (l.map pK) := (by rw [sortP_perm HP3.out, HDt.out])
    have e2 : (sortP l).length = m := (by rw [HM.out, e1]; simp [sortP])
    have ho := HO4.out; rw [e1, pkC_setOf HG.out] at ho; exact ⟨some ⟨g, 0, none⟩, cap, by rw [e2]; rfl, by rw [e2]; exact ho, HB4.out⟩
set_option maxRecDepth 100000 in
set_option maxHeartbeats 8000000 in
theorem same1_any (b b2 : Int) (B1 B2 : Option Addr) (m1 d1 m2 d2 : Nat) (r r2 : List Nat) (w : World) (h1 : U32s w B1 m1 d1 r) (h2 : U32s w B2 m2 d2 r2) :
  Calls Tryz.prog 444 #[.agg #[.int .i64 b, .slice B1 m1 d1], .agg #[.int .i64 b2, .slice B2 m2 d2]] w fun e w' => ∃ q : Bool, e = .returned (.bool q) ∧ (q = true ↔ (b = b2 ∧ r = r2)) ∧ Below w.heap.size w w' := by
 have hb : Below w.heap.size w ((w.alloc (.cells #[.int .i64 b, .slice B1 m1 d1] 99)).alloc (.cells #[.int .i64 b2, .slice B2 m2 d2] 99)) := ((Below.refl _ w).alloc (Nat.le_refl _) _).alloc (by simp) _; have HEq := hide (slEqual_any B1 m1 d1 r B2 m2 d2 r2 _ (h1.below hb) (h2.below hb)); have HB := hide hb; clear h1 h2 hb; by_cases hbb : b = b2
 ·subst hbb; obtain ⟨q, hq⟩ : ∃ q, decide (r = r2) = q := ⟨_, rfl⟩
  rw [hq] at HEq; have HQ := hide hq; clear hq
  go_enter Tryz.func444, Tryz.ntmps444
  go_wp2_with fail
  refine HEq.out.mono ?_; rintro e w3 ⟨rfl, hb3⟩; have HB3 := hide (btr HB.out hb3); clear hb3; go_wp2; go_ret; exact ⟨q, rfl, by rw [← HQ.out]; simp, HB3.out⟩
 ·have hd : decide (b = b2) = false := decide_eq_false hbb; have HN := hide hbb; clear hbb
  go_enter Tryz.func444, Tryz.ntmps444
  go_wp2; go_ret; exact ⟨false, rfl, by simp [HN.out], HB.out⟩
set_option maxRecDepth 100000 in
set_option maxHeartbeats 8000000 in
theorem eqf_any (A B : Option Addr) (n c m d : Nat) (l l' : List SG) (w : World) (h : LstAt 2 sgR w A n c l) (h' : LstAt 2 sgR w B m d l') (hn2 : n ≤ 100000) (hm2 : m ≤ 100000) :
    Calls Tryz.prog 443 #[.slice A n c, .slice B m d, .func (.func 444) #[] #[]] w fun e w' => ∃ q : Bool, e = .returned (.bool q) ∧ (q = true ↔ l = l') ∧ Below w.heap.size w w' := by
  have hnc := h.2.1; have hmx := h.2.2.1; have hnd := h'.2.1; have hmx2 := h'.2.2.1; unfold maxLen at hmx hmx2; have HL1 := hide h; have HL2 := hide h'; clear h h'; by_cases hnm : n = m
  · subst hnm
    go_enter Tryz.func443, Tryz.ntmps443
    go_wp2
    go_loopw [17] (fun iv wr => ∃ i : Nat, i ≤ n ∧ iv = .int .i64 (i : Nat) ∧ l.take i = l'.take i ∧ Below w.heap.size w wr) (fun iv _ => n - (intOf iv).toNat)
    case atStart => exact ⟨0, Nat.zero_le _, rfl, by simp, Below.refl _ _⟩
    case round =>
      obtain ⟨i, hi, rfl, htk, hbel⟩ := hrel; have HBe := hide hbel; have HTk := hide htk; have hs1 := hbel.size; clear htk; by_cases hlt : i < n
      · obtain ⟨g, o, b, B1, m1, d1, r, rfl, hg, hx, hr1, hz0, hz1⟩ := SGat (HL1.out.below sgMono hbel) hlt; obtain ⟨g2, o2, b2, B2, m2, d2, r2, rfl, hg2, hx2, hr2, hy0, hy1⟩ := SGat (HL2.out.below sgMono hbel) hlt; have HX := hide hx; have HX2 := hide hx2; have hb2 : Below wr.heap.size wr ((wr.alloc (.cells #[.int .i64 b, .slice B1 m1 d1] 99)).alloc (.cells #[.int .i64 b2, .slice B2 m2 d2] 99)) := ((Below.refl _ wr).alloc (Nat.le_refl _) _).alloc (by simp) _; have HB2 := hide (HBe.out.trans (hb2.mono hs1)); have HSa := hide (same1_any b b2 B1 B2 m1 d1 m2 d2 r r2 _ (hr1.below hb2) (hr2.below hb2)); have i1 : (i : Int) < (n : Int) := (by omega)
        have i0 : (0 : Int) ≤ (i : Int) := (by omega)
        have hwi : IntKind.i64.wrap ((i : Int) + 1) = (i : Int) + 1 := (by rw [IntKind.wrap_i64]; omega)
        clear hbel hx hx2 hr1 hr2 hb2
        go_wp2_with fail
        refine HSa.out.mono ?_; rintro e w3 ⟨q, rfl, hq, hb3⟩; have HB3 := hide (btr HB2.out hb3); have HQ := hide hq; clear hb3 hz0 hz1 hy0 hy1 hq
        cases q with
        | true =>
          have HTk2 : Hid (l.take (i + 1) = l'.take (i + 1)) := hide (by
            obtain ⟨e1, e2⟩ := HQ.out.1 rfl; rw [List.take_add_one, List.take_add_one, HTk.out, HX.out, HX2.out, e1, e2])
          go_wp2
          go_roundw
          case rel => exact ⟨i + 1, by omega, by go_num, HTk2.out, HB3.out⟩
          case measure => simp [intOf]; omega
        | false =>
          have HNe : Hid (l ≠ l') := hide (by
            rintro rfl; have h1 := HX.out; rw [HX2.out] at h1; simp only [Option.some.injEq, SG.mk.injEq] at h1; exact absurd (HQ.out.2 ⟨h1.1.symm, h1.2.symm⟩) (by simp))
          go_wp2; go_ret; exact ⟨false, rfl, by simp [HNe.out], HB3.out⟩
      · obtain rfl : i = n := (by omega)
        have e1 : decide ((i : Int) < (i : Int)) = false := (by simp)
        have HEq : Hid (l = l') := hide (by
          have h1 := HTk.out
          rwa [List.take_of_length_le (by rw [HL1.out.1]; exact Nat.le_refl _), List.take_of_length_le (by rw [HL2.out.1]; exact Nat.le_refl _)] at h1)
        clear hbel hlt; go_wp2; go_ret; exact ⟨true, rfl, by simp [HEq.out], HBe.out⟩
  · have hd : ((n : Int) != (m : Int)) = true := (by rw [bne_iff_ne]; omega)
    have HNe : Hid (l ≠ l') := hide (by rintro rfl; exact hnm (HL1.out.1.symm.trans HL2.out.1)); clear hnm
    go_enter Tryz.func443, Tryz.ntmps443
    go_wp2; go_ret; exact ⟨false, rfl, by simp [HNe.out], Below.refl _ _⟩
set_option maxRecDepth 100000 in
theorem psameC_any (A B : Option Addr) (n c m d : Nat) (l l' : List SG) (w : World) (h : LstAt 2 sgR w A n c l) (h' : LstAt 2 sgR w B m d l') (hn2 : n ≤ 100000) (hm2 : m ≤ 100000) :
  Calls Tryz.prog 423 #[.slice A n c, .slice B m d] w fun e w' => ∃ q : Bool, e = .returned (.bool q) ∧ (q = true ↔ l = l') ∧ Below w.heap.size w w' := by
 have H := hide (eqf_any A B n c m d l l' w h h' hn2 hm2); clear h h'
 go_enter Tryz.func423, Tryz.ntmps423
 go_wp2_with fail
 refine H.out.mono ?_; rintro e w3 ⟨q, rfl, hq, hb3⟩; have HB3 := hide hb3; have HQ := hide hq; clear hb3 hq; go_wp2; go_ret; exact ⟨q, rfl, HQ.out, HB3.out⟩
set_option maxRecDepth 100000 in
theorem pathSame_any (A B : Option Addr) (n c m d : Nat) (l l' : List SG) (w : World) (h : LstAt 2 sgR w A n c l) (h' : LstAt 2 sgR w B m d l') (hn2 : n ≤ 100000) (hm2 : m ≤ 100000) :
  Calls Tryz.prog 401 #[.slice A n c, .slice B m d] w fun e w' => ∃ q : Bool, e = .returned (.bool q) ∧ (q = true ↔ l = l') ∧ Below w.heap.size w w' := by
 have H := hide (psameC_any A B n c m d l l' w h h' hn2 hm2); clear h h'
 go_enter Tryz.func401, Tryz.ntmps401
 go_wp2_with fail
 refine H.out.mono ?_; rintro e w3 ⟨q, rfl, hq, hb3⟩; have HB3 := hide hb3; have HQ := hide hq; clear hb3 hq; go_wp2; go_ret; exact ⟨q, rfl, HQ.out, HB3.out⟩
def nuA (x : AT) : List Int := [x.has, x.org, x.hop, x.med, x.pref, x.aas, x.aid]
theorem at_ext {x y : AT} (h : nuA x = nuA y) (hp : x.path = y.path) (hc : x.comms = y.comms) : x = y := by
 cases x; cases y
 simp only [nuA, List.cons.injEq, and_true] at h; simp only at hp hc; obtain ⟨h1, h2, h3, h4, h5, h6, h7⟩ := h; subst h1 h2 h3 h4 h5 h6 h7 hp hc
 rfl
set_option maxRecDepth 100000 in
set_option maxHeartbeats 8000000 in
theorem attrsame_any (X Y : AT) (v v' : Value) (w : World) (hv : AtR w X v) (hv' : AtR w Y v') (hn : X.path.length ≤ 100000) (hm : Y.path.length ≤ 100000) : Calls Tryz.prog 351 #[v, v'] w fun e w' => ∃ q : Bool, e = .returned (.bool q) ∧ (q = true ↔ X = Y) ∧ Below w.heap.size w w' := by
 obtain ⟨A, n, c, B, m, d, rfl, hP, hC⟩ := hv; obtain ⟨A2, n2, c2, B2, m2, d2, rfl, hP2, hC2⟩ := hv'; obtain ⟨w1, hw1⟩ : ∃ w1, (w.alloc (.cells (atC X.has X.org A n c X.hop X.med X.pref X.aas X.aid B m d) 28)).alloc (.cells (atC Y.has Y.org A2 n2 c2 Y.hop Y.med Y.pref Y.aas Y.aid B2 m2 d2) 28) = w1 := ⟨_, rfl⟩
 have hb1 : Below w.heap.size w w1 := hw1 ▸ blkBelow2 w _ _; have HK1 : Hid (Blk w1 w.heap.size 28 (atC X.has X.org A n c X.hop X.med X.pref X.aas X.aid B m d)) := hide (hw1 ▸ (Blk.new w _ _).alloc _); have HK2 : Hid (Blk w1 (w.heap.size + 1) 28 (atC Y.has Y.org A2 n2 c2 Y.hop Y.med Y.pref Y.aas Y.aid B2 m2 d2)) := hide (hw1 ▸ blk_new' _ _ (by simp)); have HPs := hide (pathSame_any A A2 n c n2 c2 X.path Y.path w1 (hP.below sgMono hb1) (hP2.below sgMono hb1) (by rw [← hP.1]; exact hn) (by rw [← hP2.1]; exact hm)); have HU := hide (fun W (hb : Below w.heap.size w W) => hC.below hb); have HU2 := hide (fun W (hb : Below w.heap.size w W) => hC2.below hb); have HB1 := hide hb1; have HW1 := hide hw1; clear hw1 hb1 hP hP2 hC hC2 hn hm; have hcase : nuA X = nuA Y ∨ nuA X ≠ nuA Y := Decidable.em _; rcases hcase with hq | hq
 ·have HQ := hide hq; simp only [nuA, List.cons.injEq, and_true] at hq; obtain ⟨h1, h2, h3, h4, h5, h6, h7⟩ := hq; rw [h1, h2, h3, h4, h5, h6, h7] at HK1 HW1; rw [h1, h2, h3, h4, h5, h6, h7]; clear h1 h2 h3 h4 h5 h6 h7; obtain ⟨a0, a1, a2, a3, a4, a5, a6, a7, a8⟩ := blk9 HK1.out; obtain ⟨b0, b1, b2, b3, b4, b5, b6, b7, b8⟩ := blk9 HK2.out
  go_enter Tryz.func351, Tryz.ntmps351
  go_wp2_with fail
  rw [HW1.out]; refine HPs.out.mono ?_; rintro e w2 ⟨q, rfl, hq, hb⟩; have HB2 := hide (btr HB1.out hb); have HK1 := hide (HK1.out.below hb HK1.out.lt); have HK2 := hide (HK2.out.below hb HK2.out.lt); have HSa := hide (slEqual_any B m d X.comms B2 m2 d2 Y.comms w2 (HU.out w2 HB2.out) (HU2.out w2 HB2.out)); have HPq := hide hq; clear hb hq a0 a1 a2 a3 a4 a5 a6 a7 a8 b0 b1 b2 b3 b4 b5 b6 b7 b8
  cases q with
  | false =>
   go_wp2; go_ret; exact ⟨false, rfl, ⟨fun h => (by cases h), fun h => absurd (HPq.out.2 (by rw [h])) (by simp)⟩, HB2.out⟩
  | true =>
   obtain ⟨a0, a1, a2, a3, a4, a5, a6, a7, a8⟩ := blk9 HK1.out; obtain ⟨b0, b1, b2, b3, b4, b5, b6, b7, b8⟩ := blk9 HK2.out; obtain ⟨q2, hq2⟩ : ∃ q, decide (X.comms = Y.comms) = q := ⟨_, rfl⟩
   rw [hq2] at HSa; have HQ2 := hide hq2; clear hq2
   go_wp2_with fail
   refine HSa.out.mono ?_; rintro e w3 ⟨rfl, hb⟩; have HB3 := hide (btr HB2.out hb); clear hb a0 a1 a2 a3 a4 a5 a6 a7 a8 b0 b1 b2 b3 b4 b5 b6 b7 b8; go_wp2; go_ret; refine ⟨q2, rfl, ?_, HB3.out⟩; rw [← HQ2.out, decide_eq_true_iff]; exact ⟨fun h => at_ext HQ.out (HPq.out.1 (by simp)) h, fun h => by rw [h]⟩
 ·have HQ := hide hq; clear hq; obtain ⟨a0, a1, a2, a3, a4, a5, a6, a7, a8⟩ := blk9 HK1.out; obtain ⟨b0, b1, b2, b3, b4, b5, b6, b7, b8⟩ := blk9 HK2.out
  go_enter Tryz.func351, Tryz.ntmps351
  go_upto_region 1 with fail
  rw [HW1.out]; go_wp2
  all_goals first
   | (exfalso; refine HQ.out ?_; simp only [nuA, *]; done)
   | (go_ret; exact ⟨false, rfl, ⟨fun h => (by cases h), fun h => absurd (congrArg nuA h) HQ.out⟩, HB1.out⟩)
set_option maxRecDepth 100000 in
theorem attrSame_any (X Y : AT) (v v' : Value) (w : World) (hv : AtR w X v) (hv' : AtR w Y v') (hn : X.path.length ≤ 100000) (hm : Y.path.length ≤ 100000) : Calls Tryz.prog 272 #[v, v'] w fun e w' => ∃ q : Bool, e = .returned (.bool q) ∧ (q = true ↔ X = Y) ∧ Below w.heap.size w w' := by
 obtain ⟨A, n, c, B, m, d, rfl, hP, hC⟩ := hv; obtain ⟨A2, n2, c2, B2, m2, d2, rfl, hP2, hC2⟩ := hv'; obtain ⟨w1, hw1⟩ : ∃ w1, (w.alloc (.cells (atC X.has X.org A n c X.hop X.med X.pref X.aas X.aid B m d) 28)).alloc (.cells (atC Y.has Y.org A2 n2 c2 Y.hop Y.med Y.pref Y.aas Y.aid B2 m2 d2) 28) = w1 := ⟨_, rfl⟩
 have hb1 : Below w.heap.size w w1 := hw1 ▸ blkBelow2 w _ _; have H := hide (attrsame_any X Y (atV X.has X.org A n c X.hop X.med X.pref X.aas X.aid B m d) (atV Y.has Y.org A2 n2 c2 Y.hop Y.med Y.pref Y.aas Y.aid B2 m2 d2) w1 ⟨A, n, c, B, m, d, rfl, hP.below sgMono hb1, hC.below hb1⟩ ⟨A2, n2, c2, B2, m2, d2, rfl, hP2.below sgMono hb1, hC2.below hb1⟩ hn hm); have HB1 := hide hb1; have HW1 := hide hw1; clear hw1 hb1 hP hP2 hC hC2 hn hm
 go_enter Tryz.func272, Tryz.ntmps272
 go_wp2_with fail
 rw [HW1.out]; refine H.out.mono ?_; rintro e w3 ⟨q, rfl, hq, hb3⟩; have HB3 := hide (btr HB1.out hb3); have HQ := hide hq; clear hb3 hq; go_wp2; go_ret; exact ⟨q, rfl, HQ.out, HB3.out⟩
end Go.Proofs.YtmffmkjgdjgmeaaGreat
namespace Go.Proofs.YtmffmkjgdjgmeaaGreat
open Go.RowKit Go.WideShapes Go.ChangeShapes
section
variable {α : Type} {sz : Nat} {T : TypeId} {F : Nat → Prop} {R : World → List Value → α → Prop} {w w9 w11 : World} {b p m b0 : Nat} {v : Option α} {l r t2 : Tr α} {vs us : List Value} {x : α}
theorem ndWhole (hc : ChgS (fun k => k ∈ trB l ∨ k = b) w w11) : ChgS (fun k => k ∈ trB (.nd b p m v l r)) w w11 := chg_mono hc fun k h => .inl (by
  rcases h with h | h
  · simp [trB, h]
  · simp [trB, h])
theorem ndWholeR (hc : ChgS (fun k => k ∈ trB r ∨ k = b) w w11) : ChgS (fun k => k ∈ trB (.nd b p m v l r)) w w11 := chg_mono hc fun k h => .inl (by
  rcases h with h | h
  · simp [trB, h]
  · simp [trB, h])
theorem nd_left (hd : NdA sz T F R w b p m v l r vs) (hw : trWf (.nd b p m v t2 r)) (h2 : TrA sz T F R w9 t2) (hsub : ∀ k ∈ trB t2, k ∈ trB l ∨ w.heap.size ≤ k) (hc : ChgS (fun k => k ∈ trB l ∨ k = b) w w11) (hc2 : ChgS (fun k => k = b) w9 w11)
  (hk : Blk w11 b T (ndC p m vs v.isSome (trCnt t2 + trCnt r + (if v.isSome then 1 else 0)) (trPtr t2) (trPtr r))) : TrA sz T F R w11 (.nd b p m v t2 r) ∧ ∀ k ∈ trB (.nd b p m v t2 r), k ∈ trB (.nd b p m v l r) ∨ w.heap.size ≤ k := by
 have hbl : b < w.heap.size := hd.blk.lt; have hb2 : b ∉ trB t2 := fun h => (hsub b h).elim hd.bl (fun h => by omega); refine ⟨NdA.tree (vs := vs) ⟨hd.len, hk, fun y e => frs_chg (hd.val y e) hc (fun k hF h => ?_), h2.chg hc2 (fun k hk e => hb2 (e ▸ hk)) (fun k hF e => hd.bf (e ▸ hF)), hd.right.chg hc (fun k hq h => ?_) (fun k hF h => ?_), hw, hb2, hd.br, hd.bf, fun k hk h => ?_⟩, fun k hk => ?_⟩
 ·rcases h with h | rfl
  ·exact hd.left.far k h hF
  ·exact hd.bf hF
 ·rcases h with h | rfl
  ·exact hd.lr k h hq
  ·exact hd.br hq
 ·rcases h with h | rfl
  ·exact hd.left.far k h hF
  ·exact hd.bf hF
 ·rcases hsub k hk with h1 | h1
  ·exact hd.lr k h1 h
  ·have := hd.right.mem.lt k h; omega
 ·simp only [trB, List.mem_cons, List.mem_append] at hk ⊢; rcases hk with rfl | hk | hk
  ·exact .inl (.inl rfl)
  ·exact (hsub k hk).imp (fun h => .inr (.inl h)) id
  ·exact .inl (.inr (.inr hk))
theorem nd_right (hd : NdA sz T F R w b p m v l r vs) (hw : trWf (.nd b p m v l t2)) (h2 : TrA sz T F R w9 t2) (hsub : ∀ k ∈ trB t2, k ∈ trB r ∨ w.heap.size ≤ k) (hc : ChgS (fun k => k ∈ trB r ∨ k = b) w w11) (hc2 : ChgS (fun k => k = b) w9 w11)
  (hk : Blk w11 b T (ndC p m vs v.isSome (trCnt l + trCnt t2 + (if v.isSome then 1 else 0)) (trPtr l) (trPtr t2))) : TrA sz T F R w11 (.nd b p m v l t2) ∧ ∀ k ∈ trB (.nd b p m v l t2), k ∈ trB (.nd b p m v l r) ∨ w.heap.size ≤ k := by
 have hbl : b < w.heap.size := hd.blk.lt; have hb2 : b ∉ trB t2 := fun h => (hsub b h).elim hd.br (fun h => by omega); refine ⟨NdA.tree (vs := vs) ⟨hd.len, hk, fun y e => frs_chg (hd.val y e) hc (fun k hF h => ?_), hd.left.chg hc (fun k hq h => ?_) (fun k hF h => ?_), h2.chg hc2 (fun k hk e => hb2 (e ▸ hk)) (fun k hF e => hd.bf (e ▸ hF)), hw, hd.bl, hb2, hd.bf, fun k hk h => ?_⟩, fun k hk => ?_⟩
 ·rcases h with h | rfl
  ·exact hd.right.far k h hF
  ·exact hd.bf hF
 ·rcases h with h | rfl
  ·exact hd.lr k hq h
  ·exact hd.bl hq
 ·rcases h with h | rfl
  ·exact hd.right.far k h hF
  ·exact hd.bf hF
 ·rcases hsub k h with h1 | h1
  ·exact hd.lr k hk h1
  ·have := hd.left.mem.lt k hk; omega
 ·simp only [trB, List.mem_cons, List.mem_append] at hk ⊢; rcases hk with rfl | hk | hk
  ·exact .inl (.inl rfl)
  ·exact .inl (.inr (.inl hk))
  ·exact (hsub k hk).imp (fun h => .inr (.inr h)) id
theorem nd_here (hd : NdA sz T F R w b p m v l r vs) (hu : VOk sz us) (hx : FrS F none (fun w => R w us x) w) (hc : ChgS (fun k => k = b) w w11)
  (hk : Blk w11 b T (ndC p m us true (trCnt l + trCnt r + 1) (trPtr l) (trPtr r))) : TrA sz T F R w11 (.nd b p m (some x) l r) := by
 have hF : ∀ k, F k → ¬ (k = b) := fun k h e => hd.bf (e ▸ h); exact NdA.tree (vs := us) ⟨hu, hk, fun y e => by injection e with e; subst e; exact frs_chg hx hc hF, hd.left.chg hc (fun k hk e => hd.bl (e ▸ hk)) hF, hd.right.chg hc (fun k hk e => hd.br (e ▸ hk)) hF, hd.wf, hd.bl, hd.br, hd.bf, hd.lr⟩
theorem nd_new (h1 : TrA sz T F R w l) (h2 : TrA sz T F R w r) (hlow : ∀ k, F k → k < w.heap.size) (hw : trWf (.nd b0 p m v l r)) (hu : VOk sz us) (hx : ∀ y, v = some y → FrS F none (fun w => R w us y) w) (hb : w.heap.size ≤ b0) (hlr : ∀ k ∈ trB l, k ∉ trB r) (hc : ChgS (fun _ => False) w w11)
  (hk : Blk w11 b0 T (ndC p m us v.isSome (trCnt l + trCnt r + (if v.isSome then 1 else 0)) (trPtr l) (trPtr r))) : TrA sz T F R w11 (.nd b0 p m v l r) :=
 NdA.tree (vs := us) ⟨hu, hk, fun y e => frs_chg (hx y e) hc (by simp), h1.chg hc (by simp) (by simp), h2.chg hc (by simp) (by simp), hw, fun h => by have := h1.mem.lt _ h; omega, fun h => by have := h2.mem.lt _ h; omega, fun h => by have := hlow _ h; omega, hlr⟩
end
end Go.Proofs.YtmffmkjgdjgmeaaGreat
