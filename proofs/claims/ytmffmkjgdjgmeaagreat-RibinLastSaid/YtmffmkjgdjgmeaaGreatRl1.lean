import Derived.Test.YtmffmkjgdjgmeaaGreatRows
import Derived.WalkKit
import Derived.ProofKit
import Derived.OpenShut
import Derived.Below
import Derived.Laws.OwnMore
import Derived.Laws.Rows
import Derived.Laws.MakeOwn
import Derived.Deep.AppendLies
import Derived.Deep.Draws
import Derived.Deep.OwnRows
import Derived.Deep.QuietTactic
import Derived.Maps.AppendAt
import Derived.RegionTactic
import Derived.OwnWalk
import Derived.ChangeSame
import Derived.Outline
import Derived.BigQuiet
import Derived.WalkMore
import Derived.ScopeJumps
import Derived.WalkLawsBesides
import Derived.WalkSpells
import Derived.Laws.BitsLemmas
import Derived.Laws.BitsAllLaws
import Derived.WideKeyArgs
import Derived.Deep.DeepHandedRow
import Derived.Deep.DeepWitnessRowRef
import Derived.Lib.LaidTab
import Derived.Lib.AppendIntMem
import Derived.LaidMore
import Derived.MakeChecks
import Derived.Lib.Itoa
import Derived.Deep.Quiet
import Derived.Deep.Slices
import Derived.Orders
import Derived.OrdersIn
import Derived.RangeFuncCalls
import Derived.Shelf.RegionOpen
set_option linter.unusedSimpArgs false
set_option linter.unusedVariables false
namespace Go.Proofs.YtmffmkjgdjgmeaaGreat
open Go.RowKit Go.WideShapes Go.ChangeShapes
theorem hide {p : Prop} (h : p) : Hid p := h
theorem block_of_add (a : Addr) (n : Nat) : (a.add n).block = a.block := by unfold Addr.add; split <;> rfl
theorem add_of_add (a : Addr) (i j : Nat) : (a.add i).add j = a.add (i + j) := by
 unfold Addr.add; by_cases hi : i = 0 <;> by_cases hj : j = 0 <;> simp [hi, hj, Nat.add_assoc]
def Reads (w : World) (B size : Nat) (A : Option Addr) (n : Nat) (xs : List Value) : Prop :=
  xs.length = n * size ∧ (0 < n → ∃ ad, A = some ad ∧ ad.block < B ∧ ∀ j u, xs[j]? = some u → w.cell? (ad.add j) = some u)
section
variable {w w' : World} {B B' size n : Nat} {A : Option Addr} {xs : List Value}
theorem Reads.none_ : Reads w B size A 0 [] := ⟨by simp, fun h => absurd h (by omega)⟩
theorem Reads.at_ {k : Nat} (h : Reads w B 1 A n xs) (hk : k < n) : ∃ ad u, A = some ad ∧ ad.block < B ∧ xs[k]? = some u ∧ w.cell? (ad.add k) = some u := by
 obtain ⟨ad, e, hb, hc⟩ := h.2 (by omega); have hl : k < xs.length := (by have := h.1; omega)
 exact ⟨ad, xs[k], e, hb, List.getElem?_eq_getElem hl, hc k _ (List.getElem?_eq_getElem hl)⟩
theorem Reads.keep (h : Reads w B size A n xs) (hk : ∀ p : Addr, p.block < B → w'.cell? p = w.cell? p) : Reads w' B size A n xs :=
  ⟨h.1, fun hn => by
    obtain ⟨ad, e, hb, hc⟩ := h.2 hn; exact ⟨ad, e, hb, fun j u hu => (hk _ (by rw [block_of_add]; exact hb)).trans (hc j u hu)⟩⟩
theorem Reads.more (h : Reads w B size A n xs) (hB : B ≤ B') : Reads w B' size A n xs :=
  ⟨h.1, fun hn => by
    obtain ⟨ad, e, hb, hc⟩ := h.2 hn; exact ⟨ad, e, by omega, hc⟩⟩
theorem Reads.below (h : Reads w B size A n xs) (hb : Below B w w') : Reads w' B size A n xs := h.keep fun _ hp => hb.cell hp
theorem Reads.drew (h : Reads w B size A n xs) : Reads w.drew B size A n xs := h
theorem Reads.drewN (h : Reads w B size A n xs) (k : Nat) : Reads (w.drewN k) B size A n xs := h
theorem Reads.alloc (h : Reads w B size A n xs) (hB : B ≤ w.heap.size) (o : Obj) : Reads (w.alloc o) B size A n xs := h.keep fun p hp => World.cell?_alloc_lt w o p (by omega)
theorem Reads.setCell (h : Reads w B size A n xs) {p : Addr} (hB : B ≤ p.block) (u : Value) : Reads (w.setCell p u) B size A n xs :=
 h.keep fun q hq => World.cell?_setCell_other w p q u (fun e => by subst e; omega)
theorem Reads.grown (h : Reads w B size A n xs) {row : Option Nat} (hg : w.grownBy w' row) (hB : B ≤ w.heap.size) (hr : ∀ g, row = some g → B ≤ g) : Reads w' B size A n xs :=
 h.keep fun p hp => World.cell?_of_block (hg.block p.block (by omega) (fun e => by have := hr _ e.symm; omega))
theorem Reads.cut (h : Reads w B size A n xs) {k cap : Nat} (hk : k ≤ n) (hc : n ≤ cap) :
  Reads w B size (if cap = k then A else A.map (·.add (k * size))) (n - k) (xs.drop (k * size)) := by
 refine ⟨by rw [List.length_drop, h.1, Nat.sub_mul], fun hn => ?_⟩; obtain ⟨ad, rfl, hb, hcell⟩ := h.2 (by omega); rw [if_neg (by omega)]; refine ⟨ad.add (k * size), rfl, by rw [block_of_add]; exact hb, fun j u hu => ?_⟩; rw [add_of_add]; exact hcell _ u (by rw [← hu, List.getElem?_drop])
theorem Reads.of_own {base : Nat} {e : TypeId} {c : Nat} (h : w.ownsRow base e size (.slice A n c) n xs) : Reads w w.heap.size size A n xs := by
 refine ⟨h.1, fun hn => ?_⟩; obtain ⟨g, cap, hv, _, hlt⟩ := h.form hn; have hA : A = some ⟨g, 0, none⟩ := (by injection hv)
 subst hA; exact ⟨_, rfl, hlt, h.cells (g := g) rfl⟩
end
def Blk (w : World) (g : Nat) (t : TypeId) (cs : Array Value) : Prop := w.heap[g]? = some (.cells cs t (0, 0))
section
variable {w w' : World} {g : Nat} {t : TypeId} {cs : Array Value}
theorem Blk.lt (h : Blk w g t cs) : g < w.heap.size := by
 rcases Nat.lt_or_ge g w.heap.size with hlt | hge
 ·exact hlt
 ·unfold Blk at h; rw [Array.getElem?_eq_none hge] at h; cases h
theorem Blk.cell (h : Blk w g t cs) (i : Nat) : w.cell? ⟨g, i, none⟩ = cs[i]? := cell_of_row w g i cs t (0, 0) h
theorem Below.tr_ {w w1 w2 : World} (h : Below w.heap.size w w1) (h2 : Below w1.heap.size w1 w2) : Below w.heap.size w w2 := h.trans (h2.mono h.size)
theorem blk11 {w : World} {g : Nat} {t : TypeId} {v0 v1 v2 v3 v4 v5 v6 v7 v8 v9 v10 : Value} (h : Blk w g t #[v0, v1, v2, v3, v4, v5, v6, v7, v8, v9, v10]) :
  w.cell? ⟨g, 0, none⟩ = some v0 ∧ w.cell? ⟨g, 1, none⟩ = some v1 ∧ w.cell? ⟨g, 2, none⟩ = some v2 ∧ w.cell? ⟨g, 3, none⟩ = some v3 ∧ w.cell? ⟨g, 4, none⟩ = some v4 ∧ w.cell? ⟨g, 5, none⟩ = some v5 ∧ w.cell? ⟨g, 6, none⟩ = some v6 ∧ w.cell? ⟨g, 7, none⟩ = some v7 ∧ w.cell? ⟨g, 8, none⟩ = some v8 ∧ w.cell? ⟨g, 9, none⟩ = some v9 ∧ w.cell? ⟨g, 10, none⟩ = some v10 :=
 ⟨h.cell 0, h.cell 1, h.cell 2, h.cell 3, h.cell 4, h.cell 5, h.cell 6, h.cell 7, h.cell 8, h.cell 9, h.cell 10⟩
theorem Blk.frozen (h : Blk w g t cs) (i : Nat) : w.frozen? ⟨g, i, none⟩ = false := by
 unfold Blk at h; simp [World.frozen?, h]
theorem Blk.new (w : World) (t : TypeId) (cs : Array Value) : Blk (w.alloc (.cells cs t)) w.heap.size t cs := heap_alloc_new w _
theorem Blk.drew (h : Blk w g t cs) : Blk w.drew g t cs := h
theorem Blk.drewN (h : Blk w g t cs) (n : Nat) : Blk (w.drewN n) g t cs := h
theorem Blk.alloc (h : Blk w g t cs) (o : Obj) : Blk (w.alloc o) g t cs := (Below.heap_alloc w o g h.lt).trans h
theorem Blk.set_ (h : Blk w g t cs) (i : Nat) (u : Value) : Blk (w.setCell ⟨g, i, none⟩ u) g t (cs.setIfInBounds i u) := by
 unfold Blk at h ⊢; simp [World.setCell, Array.getElem?_modify, h]
theorem Blk.far (h : Blk w g t cs) {p : Addr} (hp : g ≠ p.block) (u : Value) : Blk (w.setCell p u) g t cs := (Below.heap_setCell w p u g hp).trans h
theorem Blk.below {B : Nat} (h : Blk w g t cs) (hb : Below B w w') (hg : g < B) : Blk w' g t cs := (hb.block g hg).trans h
theorem Blk.grown {row : Option Nat} (h : Blk w g t cs) (hb : w.grownBy w' row) (hg : some g ≠ row) : Blk w' g t cs := (hb.block g h.lt hg).trans h
theorem Blk.ne_ {g' : Nat} {t' : TypeId} {cs' : Array Value} (h : Blk w g t cs) (h' : Blk w g' t' cs') (hne : t ≠ t') : g ≠ g' := by
 rintro rfl; unfold Blk at h h'; rw [h] at h'; injection h' with h'
 injection h' with _ ht
 exact hne ht
theorem own_blk_ne {base : Nat} {e : TypeId} {size n : Nat} {v : Value} {xs : List Value} (h : w.ownsRow base e size v n xs) (hg : Blk w g t cs) (hne : e ≠ t) : v.ownBlock ≠ some g := by
 rcases h.2 with ⟨rfl, _⟩ | ⟨g', cap, cur, rfl, _, hh, _⟩
 ·simp [Value.ownBlock]
 ·intro he; have : g' = g := (by simpa [Value.ownBlock] using he)
  subst this; exact Blk.ne_ (t := e) hh hg hne rfl
end
section
variable {P : Program} (w : World)
theorem run_append_of_nil (base : Nat) (t ty e : TypeId) (i : TypeInfo) (size : Nat) (ht : P.underlying t = some (.slice e)) (hi : P.info? e = some i)
  (v : Value) (n : Nat) (xs : List Value) (hown : w.ownsRow base e size v n xs) (c : Nat) : (Builtin.append_ #[t, t] ty #[v, .slice none 0 c]).run P w = .ok v w := by
 rcases hown.2 with ⟨rfl, rfl⟩ | ⟨g, cap, cur, rfl, _, _, hnc, _⟩
 ·simp [Builtin.append_, run_underlying ht, sizeOf, typeInfo, hi, Builtin.lenOf, Builtin.firstCells]
 ·simp [Builtin.append_, run_underlying ht, sizeOf, typeInfo, hi, Builtin.lenOf, Builtin.firstCells, hnc, storeCells]
theorem run_append_any (base : Nat) (t ty e : TypeId) (i : TypeInfo) (z : Value) (size bytes : Nat) (ht : P.underlying t = some (.slice e)) (hi : P.info? e = some i) (hz : i.zero = some z)
  (hsize : i.size = size) (hby : i.bytes = bytes) (hzs : z.cells.size = size) (hsz : 0 < size)
  (v : Value) (n : Nat) (xs : List Value) (hown : w.ownsRow base e size v n xs)
  (B : Nat) (A : Option Addr) (m c : Nat) (news : List Value) (hr : Reads w B size A m news) (h1 : ∀ u ∈ news, u.oneCell' = true)
  (h63 : n + m ≤ maxLen) (hbytes : (n + m) * bytes ≤ 140737488355328) (hbase : base ≤ w.heap.size) :
  ∃ v' w', (Builtin.append_ #[t, t] ty #[v, .slice A m c]).run P w = .ok v' w' ∧ w'.ownsRow base e size v' (n + m) (xs ++ news) ∧ w.grownBy w' v.ownBlock ∧
   (v'.ownBlock = v.ownBlock ∨ v'.ownBlock = some w.heap.size) := by
 rcases A with _ | ad
 ·have hm : m = 0 := by
   rcases Nat.eq_zero_or_pos m with h0 | h0
   ·exact h0
   ·obtain ⟨ad, h, _⟩ := hr.2 h0
    cases h
  subst hm; have hn : news = [] := List.eq_nil_of_length_eq_zero (by simpa using hr.1); subst hn; exact ⟨v, w, run_append_of_nil w base t ty e i size ht hi v n xs hown c, by simpa using hown, World.grownBy.refl w _, .inl rfl⟩
 ·have hcells : ∀ j u, news[j]? = some u → w.cell? (ad.add j) = some u := by
   intro j u hu; rcases Nat.eq_zero_or_pos m with h0 | h0
   ·subst h0; have hn : news = [] := List.eq_nil_of_length_eq_zero (by simpa using hr.1); subst hn; simp at hu
   ·obtain ⟨ad', h, _, hc⟩ := hr.2 h0; injection h with h
    subst h; exact hc j u hu
  obtain ⟨v', w', hrun, h2, h3, _, h5⟩ := run_append_own_at (P := P) w base t ty e i z size bytes ht hi hz hsize hby hzs hsz v n xs hown ad m c news hr.1 hcells h1 h63 hbytes hbase; exact ⟨v', w', hrun, h2, h3, h5⟩
theorem wp_append_any {o : Oper} {a : Act} {K : Act → World → Prop} {Q : Exit → Act → World → Prop} (s x : Operand) (t : TypeId)
  (ho : o.op = .call { callee := .builtin .append, args := #[s, x], argTypes := #[t, t] })
  (base : Nat) (e : TypeId) (i : TypeInfo) (z : Value) (size bytes : Nat) (ht : P.underlying t = some (.slice e)) (hi : P.info? e = some i) (hz : i.zero = some z)
  (hsize : i.size = size) (hby : i.bytes = bytes) (hzs : z.cells.size = size) (hsz : 0 < size)
  (v : Value) (n : Nat) (xs : List Value) (hs : a.eval s = v) (hown : w.ownsRow base e size v n xs)
  (B : Nat) (A : Option Addr) (m c : Nat) (news : List Value) (hx : a.eval x = .slice A m c) (hr : Reads w B size A m news) (h1 : ∀ u ∈ news, u.oneCell' = true)
  (h63 : n + m ≤ maxLen) (hbytes : (n + m) * bytes ≤ 140737488355328) (hbase : base ≤ w.heap.size)
  (h : ∀ v' w', w'.ownsRow base e size v' (n + m) (xs ++ news) → w.grownBy w' v.ownBlock → (v'.ownBlock = v.ownBlock ∨ v'.ownBlock = some w.heap.size) → K (a.put o.dst v') w') : o.wp P a w K Q := by
 obtain ⟨v', w', hrun, h2, h3, h4⟩ := run_append_any (P := P) w base t o.type e i z size bytes ht hi hz hsize hby hzs hsz v n xs hown B A m c news hr h1 h63 hbytes hbase; unfold Oper.wp execOp; simp only [ho, resolve, invoke, builtin, Sem.run_bind, Sem.run_pure, Result.andThen_ok, List.map_toArray, List.map_cons, List.map_nil, hs, hx, hrun]; exact h v' w' h2 h3 h4
theorem wpList_append_any {ops : Array Oper} {rest : List Oper} {o : Oper} {a : Act} {Q : Exit → Act → World → Prop} (hgd : o.guard = none) (s x : Operand) (t : TypeId)
  (ho : o.op = .call { callee := .builtin .append, args := #[s, x], argTypes := #[t, t] })
  (base : Nat) (e : TypeId) (i : TypeInfo) (z : Value) (size bytes : Nat) (ht : P.underlying t = some (.slice e)) (hi : P.info? e = some i) (hz : i.zero = some z)
  (hsize : i.size = size) (hby : i.bytes = bytes) (hzs : z.cells.size = size) (hsz : 0 < size)
  (v : Value) (n : Nat) (xs : List Value) (hs : a.eval s = v) (hown : w.ownsRow base e size v n xs)
  (B : Nat) (A : Option Addr) (m c : Nat) (news : List Value) (hx : a.eval x = .slice A m c) (hr : Reads w B size A m news) (h1 : ∀ u ∈ news, u.oneCell' = true)
  (h63 : n + m ≤ maxLen) (hbytes : (n + m) * bytes ≤ 140737488355328) (hbase : base ≤ w.heap.size)
  (h : ∀ v' w', w'.ownsRow base e size v' (n + m) (xs ++ news) → w.grownBy w' v.ownBlock → (v'.ownBlock = v.ownBlock ∨ v'.ownBlock = some w.heap.size) → wpList P ops Q rest (a.put o.dst v') w') : wpList P ops Q (o :: rest) a w :=
 wpList_plain hgd fun _ hK => wp_append_any w s x t ho base e i z size bytes ht hi hz hsize hby hzs hsz v n xs hs hown B A m c news hx hr h1 h63 hbytes hbase fun v' w' h2 h3 h4 => hK _ _ (h v' w' h2 h3 h4)
theorem step_append_any {ops : Array Oper} {o : Oper} {a : Act} {K : Act → World → Prop} {Q : Exit → Act → World → Prop} {E : Prop} (hgd : o.guard = none) (s x : Operand) (t : TypeId)
  (ho : o.op = .call { callee := .builtin .append, args := #[s, x], argTypes := #[t, t] })
  (base : Nat) (e : TypeId) (i : TypeInfo) (z : Value) (size bytes : Nat) (ht : P.underlying t = some (.slice e)) (hi : P.info? e = some i) (hz : i.zero = some z)
  (hsize : i.size = size) (hby : i.bytes = bytes) (hzs : z.cells.size = size) (hsz : 0 < size)
  (v : Value) (n : Nat) (xs : List Value) (hs : a.eval s = v) (hown : w.ownsRow base e size v n xs)
  (B : Nat) (A : Option Addr) (m c : Nat) (news : List Value) (hx : a.eval x = .slice A m c) (hr : Reads w B size A m news) (h1 : ∀ u ∈ news, u.oneCell' = true)
  (h63 : n + m ≤ maxLen) (hbytes : (n + m) * bytes ≤ 140737488355328) (hbase : base ≤ w.heap.size)
  (h : ∀ v' w', w'.ownsRow base e size v' (n + m) (xs ++ news) → w.grownBy w' v.ownBlock → (v'.ownBlock = v.ownBlock ∨ v'.ownBlock = some w.heap.size) → K (a.put o.dst v') w') :
  if Region.wanted o (yielded ops a.tmps) = true then Oper.wp P o a w K Q else E := by
 have hw : Region.wanted o (yielded ops a.tmps) = true := (by simp [Region.wanted, hgd])
 rw [if_pos hw]; exact wp_append_any w s x t ho base e i z size bytes ht hi hz hsize hby hzs hsz v n xs hs hown B A m c news hx hr h1 h63 hbytes hbase h
end
theorem quiet_left {P : Program} {f : FuncId} {args : Array Value} {w : World} {n : Nat} {v : Value}
  (h : Calls P f args (w.drewN n) fun e w' => e = .returned v ∧ w.drewN n = w') : Calls P f args (w.drewN n) fun e w'' => e = .returned v ∧ ∃ m, w'' = w.drewN m :=
 h.mono fun _ _ ⟨he, hm⟩ => ⟨he, n, hm.symm⟩
theorem below_drewN {B : Nat} {a w : World} (h : Below B a w) (n : Nat) : Below B a (w.drewN n) := ⟨h.os, h.tape, h.output, h.size, h.block⟩
theorem only_setCell {a w : World} {g : Nat} (h : a.grownBy w (some g)) {p : Addr} (hp : p.block = g ∨ a.heap.size ≤ p.block) (u : Value) : a.grownBy (w.setCell p u) (some g) :=
  ⟨h.os, h.tape, h.output, by simpa [World.setCell] using h.size, fun i hi hne => (Below.heap_setCell w p u i (by
    rintro rfl; rcases hp with hp | hp
    · exact hne (by rw [hp])
    · omega)).trans (h.block i hi hne)⟩
section
variable {H : Type} {enc : TypeId × Value → H} {P : Program}
theorem post_of_below {f : Func} {s : ChangeSpec} {apart fresh handsOn again : Bool} {W W' : World} {args : Array Value} {v : Value} {ds gs : List (DataW H)} {before pa pv : List MemPlace}
  (hW : DataW.Whole enc P f.params.toList s.vars apart W args.toList ds gs before)
  (hres : ∀ (b : Nat) (sp : Nat → Bool) (hd : Bool), DataW.TrodAll enc P W' b sp hd f.resultTypes.toList (v.resultList f.resultTypes.size) (s.fn H (ds ++ gs)).results [])
  (hargs : ∀ sp : Nat → Bool, (∀ p ∈ before, sp p.block = true) → DataW.TrodAll enc P W' 0 sp true f.params.toList args.toList (s.fn H (ds ++ gs)).args pa)
  (hvars : ∀ sp : Nat → Bool, (∀ p ∈ before, sp p.block = true) → DataW.TrodVars enc P W' sp s.vars (s.fn H (ds ++ gs)).vars pv)
  (hps : before = pa ++ pv) (hb : Below W.heap.size W W')
  (hok : ∀ (j : Nat) (t : TypeId) (r : Value), f.resultTypes[j]? = some t → (v.resultList f.resultTypes.size)[j]? = some r → Value.okWide P W' .any 0 t r) :
  s.post enc P f apart fresh handsOn again W args v W' := by
 have hlt : ∀ p ∈ before, p.block < W.heap.size := fun p hp => hW.lt p hp; have hold : ∀ p ∈ before, (fun b => decide (b < W.heap.size)) p.block = true := fun p hp => by simpa using hlt p hp
 refine ⟨ds, gs, before, [], pa, pv, hW, hres _ _ _, hargs _ hold, hvars _ hold, World.keptBut_mono (fun p hp => ⟨hp, ?_⟩) (hb.frame (· ∈ before)), fun _ => ?_⟩
 ·rw [hps, List.mem_append] at hp; exact Or.inr hp
 ·obtain ⟨_, _, _, _, _, hz, hn⟩ := hW; refine ⟨hok, _, _, ([] ++ pa) ++ pv, ⟨[] ++ pa, pv, trodAll_append (hargs _ (fun _ _ => rfl)) (hres _ _ _), hvars _ (fun _ _ => rfl), rfl, ?_, ?_⟩, ?_⟩
  ·intro b off hp; have hin : MemPlace.cell b off ∈ before := (by rw [hps]; simpa using hp)
   rw [hb.frozen (hlt _ hin)]; exact hz b off hin
  ·intro ha; have := hn ha; rw [hps] at this; simpa using this
  ·intro p hp _; rw [hps]; simpa using hp
end
theorem ret_bool {a b : Bool} (h : a = b) : Ending.returned (.bool a) = .returned (.bool b) := by rw [h]
theorem own_slice {w : World} {base size n : Nat} {e : TypeId} {v : Value} {xs : List Value} (h : w.ownsRow base e size v n xs) : ∃ A cap, v = .slice A n cap := by
 rcases h.2 with ⟨rfl, rfl⟩ | ⟨g, cap, cur, rfl, _⟩
 ·exact ⟨_, _, rfl⟩
 ·exact ⟨_, _, rfl⟩
theorem list_fn {n : Nat} {l : List Value} (h : l.length = n) : ∃ u : Nat → Value, l = (List.range n).map u :=
 ⟨fun j => l.getD j undef, List.ext_getElem (by simp [h]) fun i h1 h2 => by simp [h1]⟩
def cellNat (w : World) (p : Addr) : Nat := ((w.cell? p).map (fun v => (intOf v).toNat)).getD 0
theorem cellNat_of {w : World} {p : Addr} {k : Nat} (h : w.cell? p = some (.int .i64 k)) : cellNat w p = k := by simp [cellNat, h, intOf]
theorem Blk.set0 {w : World} {g : Nat} {t : TypeId} {a u u' : Value} (h : Blk w g t #[a]) (hu : u = u') : Blk (w.setCell ⟨g, 0, none⟩ u) g t #[u'] := by
 subst hu; exact h.set_ 0 u
theorem Blk.set1 {w : World} {g : Nat} {t : TypeId} {a b u u' : Value} (h : Blk w g t #[a, b]) (hu : u = u') : Blk (w.setCell ⟨g, 1, none⟩ u) g t #[a, u'] := by
 subst hu; exact h.set_ 1 u
end Go.Proofs.YtmffmkjgdjgmeaaGreat
namespace Go.Proofs.YtmffmkjgdjgmeaaGreat
def cutN (a n : Nat) : Nat := a / 2 ^ (32 - n) * 2 ^ (32 - n)
def maskN (n : Nat) : Nat := cutN 4294967295 n
def clampN (n : Int) : Nat := if n < 0 then 0 else if 32 < n then 32 else n.toNat
theorem clampN_of {n : Nat} (h : n ≤ 32) : clampN (n : Int) = n := by unfold clampN; rw [if_neg (by omega), if_neg (by omega)]; simp
theorem cutN_le (a n : Nat) : cutN a n ≤ a := Nat.div_mul_le_self _ _
theorem cutN_mod (a n : Nat) : cutN a n + a % 2 ^ (32 - n) = a := Nat.div_add_mod' a (2 ^ (32 - n))
theorem cutN_eq_iff (a b n : Nat) : cutN a n = cutN b n ↔ a / 2 ^ (32 - n) = b / 2 ^ (32 - n) := by
 unfold cutN; constructor
 ·intro h; exact Nat.eq_of_mul_eq_mul_right (Nat.two_pow_pos _) h
 ·intro h; rw [h]
theorem cutN_fix (a n : Nat) : cutN a n = a ↔ a % 2 ^ (32 - n) = 0 := by have := cutN_mod a n; omega
theorem cutN_cutN (a : Nat) {m n : Nat} (h : m ≤ n) (hn : n ≤ 32) : cutN (cutN a n) m = cutN a m := by
 rw [cutN_eq_iff]; unfold cutN; have e : (2 : Nat) ^ (32 - m) = 2 ^ (32 - n) * 2 ^ (n - m) := (by rw [← Nat.pow_add]; congr 1; omega)
 rw [e, ← Nat.div_div_eq_div_mul, ← Nat.div_div_eq_div_mul, Nat.mul_div_cancel _ (Nat.two_pow_pos _)]
theorem and_mask (a n : Nat) (ha : a < 4294967296) (_hn : n ≤ 32) : a &&& maskN n = cutN a n := by
  have e : ∀ x : Nat, cutN x n = (x >>> (32 - n)) <<< (32 - n) := fun x => by rw [Nat.shiftLeft_eq, Nat.shiftRight_eq_div_pow]; rfl
  unfold maskN; rw [e, e]
  apply Nat.eq_of_testBit_eq
  intro i; rw [Nat.testBit_and, Nat.testBit_shiftLeft, Nat.testBit_shiftLeft, Nat.testBit_shiftRight, Nat.testBit_shiftRight]; by_cases h : 32 - n ≤ i
  · rw [show 32 - n + (i - (32 - n)) = i by omega]
    have h1 : Nat.testBit 4294967295 i = decide (i < 32) := by
      rw [show (4294967295 : Nat) = 2 ^ 32 - 1 from rfl, Nat.testBit_two_pow_sub_one]
    rw [h1]; by_cases hi : i < 32
    · simp [h, hi]
    · have : a.testBit i = false := Nat.testBit_lt_two_pow (Nat.lt_of_lt_of_le ha (by
        show 2 ^ 32 ≤ 2 ^ i; exact Nat.pow_le_pow_right (by decide) (by omega)))
      simp [this]
  · simp [h]
theorem maskN_lt (n : Nat) : maskN n < 4294967296 := Nat.lt_of_le_of_lt (cutN_le _ _) (by decide)
theorem mask_not (n : Nat) (hn : n ≤ 32) : 4294967295 - maskN n = 2 ^ (32 - n) - 1 := by
 have h : ∀ n : Fin 33, 4294967295 - maskN n.val = 2 ^ (32 - n.val) - 1 := (by decide +kernel)
 exact h ⟨n, by omega⟩
theorem andNot_mask (a n : Nat) (hn : n ≤ 32) : a &&& (4294967295 - maskN n) = a % 2 ^ (32 - n) := by
 rw [mask_not n hn, Nat.and_two_pow_sub_one_eq_mod]
theorem mask_walk (n : Nat) (hn : n ≤ 32) : IntKind.u64.wrap (4294967295 * 2 ^ (32 - n)) % 4294967296 = ((maskN n : Nat) : Int) := by
 have h : ∀ n : Fin 33, IntKind.u64.wrap (4294967295 * 2 ^ (32 - n.val)) % 4294967296 = ((maskN n.val : Nat) : Int) := (by decide +kernel)
 exact h ⟨n, by omega⟩
def bitN (a i : Nat) : Nat := a / 2 ^ (31 - i) % 2
theorem bit_walk (a n : Nat) (ha : a < 4294967296) : RowKit.wrap64 (bits .and .u32 ((a : Int) / 2 ^ (31 - n)) 1) = ((bitN a n : Nat) : Int) := by
 have e : ((a : Int) / 2 ^ (31 - n)) = ((a / 2 ^ (31 - n) : Nat) : Int) := (by simp)
 have h1 : a / 2 ^ (31 - n) < 4294967296 := Nat.lt_of_le_of_lt (Nat.div_le_self _ _) ha; rw [e, show (1 : Int) = ((1 : Nat) : Int) from rfl, u32_and_nat _ _ h1 (by decide), Nat.and_one_is_mod]; have : a / 2 ^ (31 - n) % 2 < 2 := Nat.mod_lt _ (by decide); unfold bitN RowKit.wrap64; omega
theorem bitN_lt (a i : Nat) : bitN a i < 2 := Nat.mod_lt _ (by decide)
def goodB (a : Nat) (n : Int) : Bool := decide (0 ≤ n) && decide (n ≤ 32) && (cutN a n.toNat == a)
end Go.Proofs.YtmffmkjgdjgmeaaGreat
namespace Go.Proofs.YtmffmkjgdjgmeaaGreat
open Go.RowKit Go.WideShapes Go.ChangeShapes Go.ChangeAt
section
variable {H : Type} {enc : TypeId × Value → H} {P : Program}
theorem trodAll_stays (hl : laidOutB P = true) {W W' : World} {sp : Nat → Bool} (hb : Below W.heap.size W W') : ∀ {ts : List TypeId} {vs : List Value} {ds : List (DataW H)} {ps : List MemPlace},
  (∀ t ∈ ts, P.readableRec t = true ∧ t < P.types.size) → DataW.TrodAll enc P W 0 (fun _ => true) true ts vs ds ps → (∀ p ∈ ps, p.block < W.heap.size) → (∀ p ∈ ps, sp p.block = true) →
  DataW.TrodAll enc P W' 0 sp true ts vs ds ps
 | [], [], [], _, _, h, _, _ => h
 | t :: ts, v :: vs, d :: ds, _, hT, ⟨p, q, h1, h2, e⟩, hlt, hs => by
  subst e; refine ⟨p, q, ?_, ?_, rfl⟩
  ·exact WideElems.Trod_stays hl (hT t (by simp)).1 (hT t (by simp)).2 h1 (fun x hx => hb.same (hlt x (by simp [hx]))) (fun x hx => hs x (by simp [hx]))
  ·exact trodAll_stays hl hb (fun u hu => hT u (by simp [hu])) h2 (fun x hx => hlt x (by simp [hx])) (fun x hx => hs x (by simp [hx]))
theorem law_post {f : Func} {s : ChangeSpec} {apart fresh handsOn again : Bool} {W W' : World} {args : Array Value} {ds gs : List (DataW H)} {before : List MemPlace} {T : TypeId}
  (hl : laidOutB P = true) (hT : ∀ t ∈ f.params.toList, P.readableRec t = true ∧ t < P.types.size)
  (hW : DataW.Whole enc P f.params.toList s.vars apart W args.toList ds gs before) (hv : s.vars = []) (hs : s.fn H ds = { results := [.lit (.bool true)], args := ds })
  (hrt : f.resultTypes = #[T]) (hbool : P.underlying T = some .bool) (hb : Below W.heap.size W W') : s.post enc P f apart fresh handsOn again W args (.bool true) W' := by
 have hW0 := hW; obtain ⟨p, q, hA, hV, rfl, hfz, hnd⟩ := hW; rw [hv] at hV; obtain ⟨rfl, rfl⟩ := trodVars_none hV; have hlt : ∀ x ∈ p, x.block < W.heap.size := fun x hx => hW0.lt x (by simp [hx]); simp only [List.append_nil] at hW0; refine post_of_below (pa := p) (pv := []) hW0 (fun b sp hd => ?_) (fun sp hsp => ?_) (fun sp _ => ?_) (by simp) hb ?_
 ·rw [List.append_nil, hs, hrt]; exact trodAll_cons_mk (shut_bool hbool _) trodAll_mk0
 ·rw [List.append_nil, hs]; exact trodAll_stays hl hb hT hA hlt (fun x hx => hsp x hx)
 ·rw [List.append_nil, hs, hv]; exact rfl
 ·exact ok_one hrt rfl (okWide_bool_mk hbool _)
end
end Go.Proofs.YtmffmkjgdjgmeaaGreat
namespace Go.Proofs.YtmffmkjgdjgmeaaGreat
open Go.RowKit Go.WideShapes Go.ChangeShapes Go.ChangeAt
theorem own : ownKnob Tryz.prog.godebug = none := by kernel_rfl
theorem laidOut : laidOutB Tryz.prog = true := by kernel_rfl
theorem cells32 : Tryz.prog.cellsOf 22 = 1 := by kernel_rfl
theorem info32 : (Tryz.prog.info? 22).map (fun i => (i.zero, i.size, i.bytes)) = some (some (.int .u32 0), 1, 4) := by kernel_rfl
def u32c (l : List Nat) : List Value := l.map fun x : Nat => .int .u32 (x : Int)
def U32s (w : World) (A : Option Addr) (n c : Nat) (l : List Nat) : Prop :=
  l.length = n ∧ n ≤ c ∧ c ≤ maxLen ∧ (∀ x ∈ l, x < 4294967296) ∧
    (0 < n → ∃ g o, A = some ⟨g, o, none⟩ ∧ g < w.heap.size ∧ ∀ (k x : Nat), l[k]? = some x → w.cell? ⟨g, o + k, none⟩ = some (.int .u32 (x : Int)))
theorem U32s.below {w w' : World} {A : Option Addr} {n c : Nat} {l : List Nat} (h : U32s w A n c l) (hb : Below w.heap.size w w') : U32s w' A n c l := by
 refine ⟨h.1, h.2.1, h.2.2.1, h.2.2.2.1, fun hn => ?_⟩; obtain ⟨g, o, hA, hg, hc⟩ := h.2.2.2.2 hn; exact ⟨g, o, hA, Nat.lt_of_lt_of_le hg hb.size, fun k x hk => (hb.cell (by exact hg)).trans (hc k x hk)⟩
theorem U32s.at_ {w : World} {A : Option Addr} {n c : Nat} {l : List Nat} (h : U32s w A n c l) {k : Nat} (hk : k < n) :
  ∃ g o x, A = some ⟨g, o, none⟩ ∧ g < w.heap.size ∧ l[k]? = some x ∧ x < 4294967296 ∧ w.cell? ⟨g, o + k, none⟩ = some (.int .u32 (x : Int)) := by
 obtain ⟨g, o, hA, hg, hc⟩ := h.2.2.2.2 (by omega); have hx : l[k]? = some (l[k]'(by rw [h.1]; exact hk)) := List.getElem?_eq_getElem _; exact ⟨g, o, _, hA, hg, hx, h.2.2.2.1 _ (List.getElem_mem _), hc k _ hx⟩
theorem U32s.take_ {w : World} {A : Option Addr} {n c : Nat} {l : List Nat} (h : U32s w A n c l) {m : Nat} (hm : m ≤ n) : U32s w A m c (l.take m) := by
 refine ⟨by rw [List.length_take, h.1]; omega, Nat.le_trans hm h.2.1, h.2.2.1, fun x hx => h.2.2.2.1 x (List.mem_of_mem_take hx), fun h0 => ?_⟩; obtain ⟨g, o, hA, hg, hc⟩ := h.2.2.2.2 (by omega); exact ⟨g, o, hA, hg, fun k x hk => hc k x (by rw [List.getElem?_take] at hk; split at hk; exact hk; cases hk)⟩
theorem U32s.of_own {w : World} {base n c : Nat} {A : Option Addr} {l : List Nat} (h : w.ownsRow base 22 1 (.slice A n c) n (u32c l)) (hb : ∀ x ∈ l, x < 4294967296) : U32s w A n c l := by
 have hl : l.length = n := (by have := h.1; simp [u32c] at this; omega)
 rcases h.2 with ⟨hv, h0⟩ | ⟨g, cap, cur, hv, _, hh, hnc, hm, _⟩
 ·injection hv with e1 e2 e3
  subst e2 e3; exact ⟨hl, Nat.le_refl _, by simp [maxLen], hb, fun h => by omega⟩
 ·injection hv with e1 _ e3
  subst e1 e3; refine ⟨hl, hnc, hm, hb, fun _ => ⟨g, 0, rfl, (Array.getElem?_eq_some_iff.1 hh).1, fun k x hk => ?_⟩⟩; have := h.cells (g := g) rfl k (.int .u32 (x : Int)) (by simp [u32c, hk]); rw [show (⟨g, 0, none⟩ : Addr).add k = ⟨g, 0 + k, none⟩ by unfold Addr.add; split <;> simp_all] at this; exact this
theorem U32s.reads {w : World} {A : Option Addr} {n c : Nat} {l : List Nat} (h : U32s w A n c l) : Reads w w.heap.size 1 A n (u32c l) := by
 refine ⟨by simp [u32c, h.1], fun hn => ?_⟩; obtain ⟨g, o, hA, hg, hc⟩ := h.2.2.2.2 hn; refine ⟨_, hA, hg, fun j u hu => ?_⟩; simp only [u32c, List.getElem?_map, Option.map_eq_some_iff] at hu; obtain ⟨x, hx, rfl⟩ := hu; have := hc j x hx; rw [show (⟨g, o, none⟩ : Addr).add j = ⟨g, o + j, none⟩ by unfold Addr.add; split <;> simp_all]; exact this
theorem u32c_one (l : List Nat) : ∀ u ∈ u32c l, u.oneCell' = true := by
 intro u hu; simp only [u32c, List.mem_map] at hu; obtain ⟨x, _, rfl⟩ := hu
 rfl
theorem u32s_open {H : Type} {enc : TypeId × Value → H} {W : World} {A : Option Addr} {n c : Nat} {d : DataW H} {p : List MemPlace}
  (h : DataW.Trod enc Tryz.prog W 0 (fun _ => true) true 26 (.slice A n c) d p) : ∃ l, U32s W A n c l := by
 obtain ⟨fuel, hf⟩ := h; rcases open_ints Tryz.underlying26 Tryz.underlying22 cells32 hf with ⟨hcs, _⟩ | ⟨a, len, cap, zs, hcs, _, hl, hm, hz, _, hcell, hw⟩
 ·simp [Value.cells] at hcs; obtain ⟨rfl, rfl, rfl⟩ := hcs; exact ⟨[], rfl, Nat.le_refl _, by simp [maxLen], by simp, fun h => by omega⟩
 ·simp [Value.cells] at hcs; obtain ⟨rfl, rfl, rfl⟩ := hcs; simp only [if_true] at hz
  have hb : ∀ z ∈ zs, 0 ≤ z ∧ z < 4294967296 := fun z hz => by
   have := hw z hz; simp [Lit.wf, IntKind.min, IntKind.max, IntKind.signed, IntKind.bits] at this; omega
  refine ⟨(zs.take n).map Int.toNat, by simp [hz]; omega, hl, hm, fun x hx => ?_, fun hn => ?_⟩
  ·simp only [List.mem_map] at hx; obtain ⟨z, hz, rfl⟩ := hx; have := hb z (List.mem_of_mem_take hz); omega
  ·obtain ⟨b, off, rfl, hc⟩ := ints_at hcell (by omega); have h0 := hc 0 (by omega); refine ⟨b, off, rfl, World.block_lt_of_cell? W _ h0, fun k x hk => ?_⟩; simp only [List.getElem?_map, Option.map_eq_some_iff, List.getElem?_take] at hk; obtain ⟨z, hz', rfl⟩ := hk; split at hz'
   ·have hk2 : k < zs.length := (List.getElem?_eq_some_iff.1 hz').1; have := hc k hk2; rw [this]; have e : zs.getD k 0 = z := (by simp [List.getD, hz'])
    have hzm : z ∈ zs := List.mem_of_getElem? hz'; rw [e, Int.toNat_of_nonneg (hb z hzm).1]
   ·cases hz'
def Own32 (w w' : World) (v : Value) (l : List Nat) : Prop := w'.ownsRow w.heap.size 22 1 v l.length (u32c l) ∧ Below w.heap.size w w'
theorem Own32.u32s {w w' : World} {v : Value} {l : List Nat} (h : Own32 w w' v l) (hb : ∀ x ∈ l, x < 4294967296) : ∃ A n c, v = .slice A n c ∧ U32s w' A n c l := by
 obtain ⟨A, c, rfl⟩ := own_slice h.1; exact ⟨A, _, c, rfl, U32s.of_own h.1 hb⟩
set_option maxHeartbeats 1000000 in
theorem few_any (A : Option Addr) (n c : Nat) (l : List Nat) (most : Nat) (hmost : most ≤ 100000) (w : World) (h : U32s w A n c l) :
  Calls Tryz.prog 101 #[.slice A n c, .int .i64 most] w fun e w' => ∃ v, e = .returned v ∧ Own32 w w' v (l.take most) := by
 obtain ⟨i0, hi, hz0, hz1, hz2⟩ := info_parts info32; have hn := h.2.2.1; have hnc := h.2.1; unfold maxLen at hn; have hlen := h.1; by_cases hm : most < n
 ·have ht := h.take_ (m := most) (by omega); have hcut : (l.take most).length = most := (by rw [List.length_take]; omega)
  have HC := hide hcut; have HL := hide hlen; have H0 := hide h; clear hcut hlen h
  go_enter Tryz.func101, Tryz.ntmps101
  go_wp2_with (at_builtin; refine wpList_append_any _ rfl (.tmp 12) (.tmp 13) 26 rfl w.heap.size 22 i0 _ 1 4 Tryz.underlying26 hi hz0 hz1 hz2 rfl (by decide) (.slice (some ⟨w.heap.size, 0, none⟩) 0 0) 0 [] rfl (World.ownsRow_made _ _ _ (Nat.le_refl _) (by simp [maxLen]) (by simp)) w.heap.size A most c (u32c (l.take most)) rfl (ht.reads.alloc (Nat.le_refl _) _) (u32c_one _) (by unfold maxLen; omega) (by omega) (by simp) ?_; intro v' w1 hown' hgrow _)
  go_ret; refine ⟨_, rfl, ?_, ?_⟩
  ·rw [HC.out]; simpa using hown'
  ·exact ((Below.refl _ _).alloc (Nat.le_refl _) _).grown hgrow (by simp) (fun k hk => by simp [Value.ownBlock] at hk; omega)
 ·have hcut : l.take most = l := List.take_of_length_le (by omega); rw [hcut]; subst hlen; have HC := hide hcut; have H0 := hide h; clear hcut
  go_enter Tryz.func101, Tryz.ntmps101
  go_wp2_with (at_builtin; refine wpList_append_any _ rfl (.tmp 12) (.tmp 13) 26 rfl w.heap.size 22 i0 _ 1 4 Tryz.underlying26 hi hz0 hz1 hz2 rfl (by decide) (.slice (some ⟨w.heap.size, 0, none⟩) 0 0) 0 [] rfl (World.ownsRow_made _ _ _ (Nat.le_refl _) (by simp [maxLen]) (by simp)) w.heap.size A l.length c (u32c l) rfl (h.reads.alloc (Nat.le_refl _) _) (u32c_one _) (by unfold maxLen; omega) (by omega) (by simp) ?_; intro v' w1 hown' hgrow _)
  go_ret; refine ⟨_, rfl, ?_, ?_⟩
  ·simpa using hown'
  ·exact ((Below.refl _ _).alloc (Nat.le_refl _) _).grown hgrow (by simp) (fun k hk => by simp [Value.ownBlock] at hk; omega)
set_option maxHeartbeats 400000 in
theorem refHas_any (A : Option Addr) (n c : Nat) (l : List Nat) (x : Nat) (w : World) (h : U32s w A n c l) :
    Calls Tryz.prog 75 #[.slice A n c, .int .u32 x] w fun e w' => e = .returned (.bool (decide (x ∈ l))) ∧ w = w' := by
  have hm := h.2.2.1; have hnc := h.2.1; unfold maxLen at hm; have HU := hide h; clear h
  go_enter Tryz.func75, Tryz.ntmps75
  go_wp2
  go_loop [5] (fun i => ∃ k : Nat, k ≤ n ∧ i = .int .i64 k ∧ x ∉ l.take k) (fun i => n - (intOf i).toNat)
  case atStart => exact ⟨0, Nat.zero_le _, rfl, by simp⟩
  case round =>
    obtain ⟨k, hk, rfl, hno⟩ := hrel; have HN := hide hno; clear hno; by_cases hlt : k < n
    · obtain ⟨g, o, y, rfl, hg, hy, hy2, hc⟩ := HU.out.at_ hlt; by_cases hxy : y = x
      · have hin := hide (show decide (x ∈ l) = true by
          rw [decide_eq_true_eq]; exact List.mem_of_getElem? (hxy ▸ hy))
        have he : ((y : Int) == (x : Int)) = true := (by rw [hxy]; simp)
        clear hxy hy; go_wp2; go_ret; exact ⟨ret_bool hin.out.symm, rfl⟩
      · have he : ((y : Int) == (x : Int)) = false := (by simp; omega)
        have hn2 := hide (show x ∉ l.take (k + 1) by
          rw [List.take_add_one, hy]; have := HN.out; simp only [List.mem_append, Option.toList_some, List.mem_singleton, not_or]; exact ⟨this, fun e => hxy e.symm⟩)
        clear hxy hy; go_wp2
        go_round
        case rel => exact ⟨k + 1, by omega, by go_num, hn2.out⟩
        case measure => simp [intOf]; omega
    · obtain rfl : k = n := (by omega)
      have hf := hide (show decide (x ∈ l) = false by
        have := HN.out; rw [List.take_of_length_le (by rw [HU.out.1]; exact Nat.le_refl _)] at this; simpa using this)
      go_wp2; go_ret; exact ⟨ret_bool hf.out.symm, rfl⟩
end Go.Proofs.YtmffmkjgdjgmeaaGreat
namespace Go.Proofs.YtmffmkjgdjgmeaaGreat
open Go.RowKit
def pfx (a : Nat) (n : Int) : Value := .agg #[.int .u32 (a : Int), .int .i64 n]
set_option maxHeartbeats 400000 in
theorem mask_any (n : Int) (w : World) (h1 : -9223372036854775808 ≤ n) (h2 : n ≤ 9223372036854775807) : Calls Tryz.prog 293 #[.int .i64 n] w fun e w' => e = .returned (.int .u32 ((maskN (clampN n) : Nat) : Int)) ∧ w = w' := by
 by_cases hn : n < 0
 ·have hf := hide (show maskN (clampN n) = maskN 0 by unfold clampN; rw [if_pos hn])
  go_enter Tryz.func293, Tryz.ntmps293
  go_wp2; go_ret; rw [hf.out]; exact ⟨rfl, rfl⟩
 ·by_cases hm : 32 < n
  ·have hf := hide (show maskN (clampN n) = maskN 32 by unfold clampN; rw [if_neg hn, if_pos hm])
   go_enter Tryz.func293, Tryz.ntmps293
   go_wp2; go_ret; rw [hf.out]; exact ⟨rfl, rfl⟩
  ·obtain ⟨k, rfl⟩ := Int.eq_ofNat_of_zero_le (show 0 ≤ n by omega); have hk : k ≤ 32 := (by omega)
   have hf := hide (mask_walk k hk); rw [clampN_of hk]
   go_enter Tryz.func293, Tryz.ntmps293
   go_wp2; go_ret; refine ⟨?_, rfl⟩; rw [← hf.out]; rfl
set_option maxHeartbeats 400000 in
theorem bit_in (a n : Nat) (ha : a < 4294967296) (h : n ≤ 31) (w : World) : Calls Tryz.prog 343 #[.int .u32 a, .int .i64 n] w fun e w' => e = .returned (.int .i64 ((bitN a n : Nat) : Int)) ∧ w = w' := by
 have hf := hide (bit_walk a n ha)
 go_enter Tryz.func343, Tryz.ntmps343
 go_wp2; go_ret; refine ⟨?_, rfl⟩; rw [← hf.out]; rfl
def far (W x : World) : World := { W with heap := W.heap ++ x.heap, drawn := x.drawn }
theorem below_far (W : World) (x : World) : Below W.heap.size W (far W x) :=
 ⟨rfl, rfl, rfl, by simp [far], fun k hk => by simp [far, Array.getElem?_append, hk]⟩
theorem far_of_below {W w' : World} (h : Below W.heap.size W w') : ∃ x, w' = far W x := by
 refine ⟨{ w' with heap := w'.heap.extract W.heap.size w'.heap.size }, ?_⟩; obtain ⟨h1, h2, h3, h4, h5⟩ := h
 have e : w'.heap = W.heap ++ w'.heap.extract W.heap.size w'.heap.size := by
  apply Array.ext_getElem?
  intro i; by_cases hi : i < W.heap.size
  ·rw [Array.getElem?_append_left hi]; exact h5 i hi
  ·rw [Array.getElem?_append_right (by omega), Array.getElem?_extract]; by_cases hi2 : i < w'.heap.size
   ·rw [if_pos (by omega)]; congr 1; omega
   ·rw [if_neg (by omega), Array.getElem?_eq_none (by omega)]
 obtain ⟨heap, tape, drawn, os, output⟩ := w'; simp only at h1 h2 h3 e; unfold far; simp only [← e, h1, h2, h3]
theorem far_below {W w' : World} {x : World} (h : Below (far W x).heap.size (far W x) w') : ∃ y, w' = far W y :=
 far_of_below ((below_far W x).trans (h.mono (by simp [far])))
theorem cell?_far {W : World} (x : World) {p : Addr} {v : Value} (h : W.cell? p = some v) : (far W x).cell? p = some v :=
 ((below_far W x).cell (World.block_lt_of_cell? W p h)).trans h
theorem far_call {P : Program} {f : FuncId} {args : Array Value} {W : World} {x : World} {v : Value} (h : Calls P f args (far W x) fun e w' => e = .returned v ∧ Below (far W x).heap.size (far W x) w') :
  Calls P f args (far W x) fun e w'' => e = .returned v ∧ ∃ y, w'' = far W y := h.mono fun _ _ ⟨he, hb⟩ => ⟨he, far_below hb⟩
theorem far_same {P : Program} {f : FuncId} {args : Array Value} {W : World} {x : World} {v : Value} (h : Calls P f args (far W x) fun e w' => e = .returned v ∧ far W x = w') :
  Calls P f args (far W x) fun e w'' => e = .returned v ∧ ∃ y, w'' = far W y := h.mono fun _ _ ⟨he, hb⟩ => ⟨he, x, hb.symm⟩
theorem wp_region_far {P : Program} {id : Nat} {Q : Exit → Act → World → Prop} {a : Act} {W : World} {l : List Oper} (hm : P.follows .mixedOrders = true) (hB : Region.lexB .any l.toArray = true)
  (h : wpQuiet P l.toArray (fun w' => ∃ x, w' = far W x) (fun a' => ∀ w', (∃ x, w' = far W x) → Q .normal a' w') l a) : (Code.region id l.toArray true).wp P Q a W :=
 wp_region_quiet (C := fun w' => ∃ x, w' = far W x) hm hB ⟨{ W with heap := #[], drawn := W.drawn + 1 }, by simp [far]⟩ (by simpa using h)
theorem goodB_range {a : Nat} {n : Int} (h1 : 0 ≤ n) (h2 : n ≤ 32) : goodB a n = (cutN a n.toNat == a) := by simp [goodB, h1, h2]
def GoodP (b : Bool) (w : World) (e : Ending) (w' : World) : Prop := e = .returned (.bool b) ∧ Below w.heap.size w w'
theorem good_test (a k : Nat) (ha : a < 4294967296) (hk : k ≤ 32) : (bits .andNot .u32 (a : Int) ((maskN k : Nat) : Int) == 0) = (cutN a k == a) := by
 rw [u32_andNot_nat _ _ ha (maskN_lt k), andNot_mask a k hk, Bool.eq_iff_iff]; have := cutN_fix a k
 generalize a % 2 ^ (32 - k) = r at *
 generalize cutN a k = c at *
 simp; omega
theorem mask_in (k : Nat) (hk : k ≤ 32) (w : World) : Calls Tryz.prog 293 #[.int .i64 k] w fun e w' => e = .returned (.int .u32 ((maskN k : Nat) : Int)) ∧ w = w' := by
 have := mask_any (k : Int) w (by omega) (by omega)
 rwa [clampN_of hk] at this
set_option maxHeartbeats 400000 in
theorem good_any (a : Nat) (n : Int) (ha : a < 4294967296) (h1 : -9223372036854775808 ≤ n) (h2 : n ≤ 9223372036854775807) (w : World) :
  Calls Tryz.prog 195 #[pfx a n] w (GoodP (goodB a n) w) := by
 unfold pfx; by_cases hn : 0 ≤ n
 ·by_cases hm : n ≤ 32
  ·obtain ⟨k, rfl⟩ := Int.eq_ofNat_of_zero_le hn; have hk : k ≤ 32 := (by omega)
   have hf := hide (show goodB a (k : Int) = (bits .andNot .u32 (a : Int) ((maskN k : Nat) : Int) == 0) by rw [goodB_range hn hm, good_test a k ha hk]; simp)
   go_enter Tryz.func195, Tryz.ntmps195
   go_wp2
   go_quiet ((go_at_call 293; exact quiet_left (mask_in k hk _)))
   go_wp2; go_ret; refine ⟨?_, below_drewN ((Below.refl _ _).alloc (Nat.le_refl _) _) _⟩; rw [hf.out]; rfl
  ·have hf := hide (show goodB a n = false by simp [goodB, hm]); have hd : decide (n ≤ 32) = false := (by simp; omega)
   go_enter Tryz.func195, Tryz.ntmps195
   go_wp2
   go_quiet (fail)
   go_wp2; go_ret; rw [hf.out]; exact ⟨rfl, below_drewN ((Below.refl _ _).alloc (Nat.le_refl _) _) _⟩
 ·have hf := hide (show goodB a n = false by simp [goodB, hn]); have hd : decide (0 ≤ n) = false := (by simp; omega)
  go_enter Tryz.func195, Tryz.ntmps195
  go_wp2
  go_quiet (fail)
  go_wp2; go_ret; rw [hf.out]; exact ⟨rfl, below_drewN ((Below.refl _ _).alloc (Nat.le_refl _) _) _⟩
set_option maxHeartbeats 400000 in
theorem Good_any (a : Nat) (n : Int) (ha : a < 4294967296) (h1 : -9223372036854775808 ≤ n) (h2 : n ≤ 9223372036854775807) (w : World) :
  Calls Tryz.prog 91 #[pfx a n] w (GoodP (goodB a n) w) := by
 unfold pfx
 go_enter Tryz.func91, Tryz.ntmps91
 go_wp2_with fail
 refine (good_any a n ha h1 h2 _).mono ?_; rintro e w1 ⟨rfl, hb1⟩; rw [World.size_alloc] at hb1; go_wp2; go_ret; exact ⟨rfl, ((Below.refl _ w).alloc (Nat.le_refl _) _).trans (hb1.mono (by omega))⟩
def hasB (a : Nat) (n : Int) (x : Nat) : Bool := goodB a n && (cutN x n.toNat == a)
set_option maxHeartbeats 1000000 in
theorem has_any (a : Nat) (n : Int) (x : Nat) (ha : a < 4294967296) (hx : x < 4294967296) (h1 : -9223372036854775808 ≤ n) (h2 : n ≤ 9223372036854775807) (w : World) :
  Calls Tryz.prog 395 #[pfx a n, .int .u32 x] w (GoodP (hasB a n x) w) := by
 have hgd := good_any a n ha h1 h2; unfold pfx at hgd ⊢; have HG := hide hgd; clear hgd; have k0 := fun x => cell?_far (W := w.alloc (.cells #[.int .u32 (a : Int), .int .i64 n] 24)) x (p := ⟨w.heap.size, 0, none⟩) (v := .int .u32 (a : Int)) (by simp); have k1 := fun x => cell?_far (W := w.alloc (.cells #[.int .u32 (a : Int), .int .i64 n] 24)) x (p := ⟨w.heap.size, 1, none⟩) (v := .int .i64 n) (by simp)
 cases hg : goodB a n
 ·have hf := hide (show hasB a n x = false by simp [hasB, hg]); rw [hg] at HG; clear hg
  go_enter Tryz.func395, Tryz.ntmps395
  go_wp2; refine wp_region_far (by kernel_rfl) (by kernel_rfl) ?_
  repeat (go_big_quiet_step ((first | (go_at_call 195; exact far_call (HG.out _)))))
  refine wpQuiet_nil ?_; rintro _ ⟨nq, rfl⟩; go_wp2; go_ret; rw [hf.out]; exact ⟨rfl, ((Below.refl _ w).alloc (Nat.le_refl _) _).trans ((below_far _ _).mono (by simp))⟩
 ·have hf := hide (show hasB a n x = (cutN x n.toNat == a) by simp [hasB, hg]); rw [hg] at HG; have hn : 0 ≤ n ∧ n ≤ 32 := (by simp [goodB] at hg; omega)
  obtain ⟨k, rfl⟩ := Int.eq_ofNat_of_zero_le hn.1; have hk : k ≤ 32 := (by omega)
  clear hg hn
  go_enter Tryz.func395, Tryz.ntmps395
  go_wp2; refine wp_region_far (by kernel_rfl) (by kernel_rfl) ?_
  repeat (go_big_quiet_step ((first | (go_at_call 195; exact far_call (HG.out _)) | (go_at_call 293; exact far_same (mask_in k hk _)))))
  refine wpQuiet_nil ?_; rintro _ ⟨nq, rfl⟩; go_wp2; go_ret; refine ⟨?_, ((Below.refl _ w).alloc (Nat.le_refl _) _).trans ((below_far _ _).mono (by simp))⟩; rw [hf.out]; show Ending.returned (.bool (bits .and .u32 (x : Int) ((maskN k : Nat) : Int) == (a : Int))) = _; rw [u32_and_nat _ _ hx (maskN_lt k), and_mask x k hx hk]; refine ret_bool ?_; rw [Bool.eq_iff_iff]; simp; omega
theorem boxes (w : World) (c0 c1 d0 d1 : Value) (t u : TypeId) :
  (∀ x, (far ((w.alloc (.cells #[c0, c1] t)).alloc (.cells #[d0, d1] u)) x).cell? ⟨w.heap.size, 0, none⟩ = some c0) ∧ (∀ x, (far ((w.alloc (.cells #[c0, c1] t)).alloc (.cells #[d0, d1] u)) x).cell? ⟨w.heap.size, 1, none⟩ = some c1) ∧
  (∀ x, (far ((w.alloc (.cells #[c0, c1] t)).alloc (.cells #[d0, d1] u)) x).cell? ⟨w.heap.size + 1, 0, none⟩ = some d0) ∧ (∀ x, (far ((w.alloc (.cells #[c0, c1] t)).alloc (.cells #[d0, d1] u)) x).cell? ⟨w.heap.size + 1, 1, none⟩ = some d1) :=
 ⟨fun x => cell?_far x (by simp), fun x => cell?_far x (by simp), fun x => cell?_far x (by simp), fun x => cell?_far x (by simp)⟩
theorem below_boxes (w : World) (o o' : Obj) (x : World) : Below w.heap.size w (far ((w.alloc o).alloc o') x) :=
 (((Below.refl _ w).alloc (Nat.le_refl _) _).alloc (by simp) _).trans ((below_far _ _).mono (by simp; omega))
def covB (a : Nat) (n : Int) (b : Nat) (m : Int) : Bool := goodB b m && decide (n ≤ m) && hasB a n b
set_option maxHeartbeats 1000000 in
theorem covers_any (a : Nat) (n : Int) (b : Nat) (m : Int) (ha : a < 4294967296) (hb : b < 4294967296) (h1 : -9223372036854775808 ≤ n) (h2 : n ≤ 9223372036854775807) (h3 : -9223372036854775808 ≤ m) (h4 : m ≤ 9223372036854775807) (w : World) :
  Calls Tryz.prog 342 #[pfx a n, pfx b m] w (GoodP (covB a n b m) w) := by
 have hg1 := good_any b m hb h3 h4; have hh1 := has_any a n b ha hb h1 h2; unfold pfx at hg1 hh1 ⊢; have HG := hide hg1; have HH := hide hh1; obtain ⟨k0, k1, k2, k3⟩ := boxes w (.int .u32 (a : Int)) (.int .i64 n) (.int .u32 (b : Int)) (.int .i64 m) 24 24; obtain ⟨g, hg⟩ : ∃ g, goodB b m = g := ⟨_, rfl⟩
 obtain ⟨h, hh⟩ : ∃ h, hasB a n b = h := ⟨_, rfl⟩
 have hf := hide (show covB a n b m = (g && decide (n ≤ m) && h) by unfold covB; rw [hg, hh]); rw [hg] at HG; rw [hh] at HH; clear hg hh hg1 hh1
 cases g
 ·go_enter Tryz.func342, Tryz.ntmps342
  go_wp2_with fail
  refine (HG.out _).mono ?_; rintro e w1 ⟨rfl, hb1⟩; obtain ⟨x1, rfl⟩ := far_of_below hb1; go_wp2; go_ret; rw [hf.out]; exact ⟨rfl, below_boxes _ _ _ _⟩
 ·by_cases hnm : n ≤ m
  ·go_enter Tryz.func342, Tryz.ntmps342
   go_wp2_with fail
   refine (HG.out _).mono ?_; rintro e w1 ⟨rfl, hb1⟩; obtain ⟨x1, rfl⟩ := far_of_below hb1
   go_wp2_with fail
   refine (HH.out _).mono ?_; rintro e w1 ⟨rfl, hb2⟩; obtain ⟨x2, rfl⟩ := far_below hb2; go_wp2; go_ret; refine ⟨?_, below_boxes _ _ _ _⟩; rw [hf.out]; simp [hnm]
  ·have hd : decide (n ≤ m) = false := (by simp; omega)
   go_enter Tryz.func342, Tryz.ntmps342
   go_wp2_with fail
   refine (HG.out _).mono ?_; rintro e w1 ⟨rfl, hb1⟩; obtain ⟨x1, rfl⟩ := far_of_below hb1; go_wp2; go_ret; refine ⟨?_, below_boxes _ _ _ _⟩; rw [hf.out, hd]
   rfl
end Go.Proofs.YtmffmkjgdjgmeaaGreat
namespace Go.Proofs.YtmffmkjgdjgmeaaGreat
open Go.RowKit Go.WideShapes Go.ChangeShapes
def SMono {α : Type} (R : World → List Value → α → Prop) : Prop := ∀ (w w' : World) (vs : List Value) (x : α), Below w.heap.size w w' → R w vs x → R w' vs x
def SOne {α : Type} (R : World → List Value → α → Prop) : Prop := ∀ (w : World) (vs : List Value) (x : α), R w vs x → ∀ u ∈ vs, u.oneCell' = true
def Chunks {α : Type} (sz : Nat) (R : World → List Value → α → Prop) (w : World) (xs : List Value) (l : List α) : Prop :=
  xs.length = l.length * sz ∧ ∀ (k : Nat) (x : α), l[k]? = some x → R w ((xs.drop (k * sz)).take sz) x
theorem Chunks.nil_ {α : Type} {sz : Nat} {R : World → List Value → α → Prop} {w : World} : Chunks sz R w [] [] := ⟨by simp, fun k x h => by simp at h⟩
theorem Chunks.app_ {α : Type} {sz : Nat} {R : World → List Value → α → Prop} {w : World} {xs ys : List Value} {l r : List α} (h : Chunks sz R w xs l) (h' : Chunks sz R w ys r) : Chunks sz R w (xs ++ ys) (l ++ r) := by
 refine ⟨by rw [List.length_append, List.length_append, h.1, h'.1, Nat.add_mul], fun k x hk => ?_⟩; by_cases hlt : k < l.length
 ·rw [List.getElem?_append_left hlt] at hk; have := h.2 k x hk; have hle : (k + 1) * sz ≤ xs.length := (by rw [h.1]; exact Nat.mul_le_mul_right _ (by omega))
  rw [Nat.add_mul, Nat.one_mul] at hle
  rwa [List.drop_append_of_le_length (by omega), List.take_append_of_le_length (by rw [List.length_drop]; omega)]
 ·rw [List.getElem?_append_right (by omega)] at hk; have := h'.2 _ x hk
  have e : (xs ++ ys).drop (k * sz) = ys.drop ((k - l.length) * sz) := by
   rw [List.drop_append, List.drop_of_length_le (by rw [h.1]; exact Nat.mul_le_mul_right _ (by omega)), List.nil_append, h.1, Nat.sub_mul]
  rw [e]; exact this
theorem Chunks.one_ {α : Type} {sz : Nat} {R : World → List Value → α → Prop} {w : World} {vs : List Value} {x : α} (hl : vs.length = sz) (h : R w vs x) : Chunks sz R w vs [x] := by
 refine ⟨by simp [hl], fun k y hk => ?_⟩
 cases k with
 | zero => simp at hk; subst hk; rwa [Nat.zero_mul, List.drop_zero, List.take_of_length_le (by omega)]
 | succ k => simp at hk
theorem Chunks.take_ {α : Type} {sz : Nat} {R : World → List Value → α → Prop} {w : World} {xs : List Value} {l : List α} (h : Chunks sz R w xs l) (m : Nat) : Chunks sz R w (xs.take (m * sz)) (l.take m) := by
 refine ⟨by rw [List.length_take, List.length_take, h.1, Nat.mul_comm, Nat.mul_comm l.length, Nat.mul_comm (min m l.length), Nat.mul_min_mul_left], fun k x hk => ?_⟩; rw [List.getElem?_take] at hk; split at hk
 ·rename_i hlt; have := h.2 k x hk; have hle : (k + 1) * sz ≤ m * sz := Nat.mul_le_mul_right _ (by omega); rw [Nat.add_mul, Nat.one_mul] at hle
  rwa [List.drop_take, List.take_take, Nat.min_eq_left (by omega)]
 ·cases hk
theorem Chunks.mono_ {α : Type} {sz : Nat} {R : World → List Value → α → Prop} (hR : SMono R) {w w' : World} {xs : List Value} {l : List α} (h : Chunks sz R w xs l) (hb : Below w.heap.size w w') : Chunks sz R w' xs l := ⟨h.1, fun k x hk => hR _ _ _ _ hb (h.2 k x hk)⟩
theorem mem_chunk {α : Type} {sz : Nat} {R : World → List Value → α → Prop} {w : World} {xs : List Value} {l : List α} (h : Chunks sz R w xs l) (hsz : 0 < sz) {u : Value} (hu : u ∈ xs) : ∃ k x, l[k]? = some x ∧ u ∈ (xs.drop (k * sz)).take sz := by
 obtain ⟨j, hj, rfl⟩ := List.getElem_of_mem hu; have hjl : j < l.length * sz := (by rw [← h.1]; exact hj)
 have hk : j / sz < l.length := (Nat.div_lt_iff_lt_mul hsz).2 hjl; refine ⟨j / sz, l[j / sz], List.getElem?_eq_getElem hk, ?_⟩
 have e : (((xs.drop (j / sz * sz)).take sz))[j % sz]? = some xs[j] := by
  rw [List.getElem?_take, if_pos (Nat.mod_lt _ hsz), List.getElem?_drop, Nat.mul_comm, Nat.div_add_mod, List.getElem?_eq_getElem hj]
 exact List.mem_of_getElem? e
theorem Chunks.ones {α : Type} {sz : Nat} {R : World → List Value → α → Prop} (hR : SOne R) {w : World} {xs : List Value} {l : List α} (h : Chunks sz R w xs l) (hsz : 0 < sz) : ∀ u ∈ xs, u.oneCell' = true := fun u hu => by
 obtain ⟨k, x, hk, hm⟩ := mem_chunk h hsz hu; exact hR _ _ _ (h.2 k x hk) u hm
theorem pick_chunks {α : Type} {sz : Nat} : ∀ (l : List α) (Q : Nat → List Value → α → Prop) (h : ∀ (k : Nat) (x : α), l[k]? = some x → ∃ vs : List Value, vs.length = sz ∧ Q k vs x),
  ∃ xs : List Value, xs.length = l.length * sz ∧ ∀ (k : Nat) (x : α), l[k]? = some x → Q k ((xs.drop (k * sz)).take sz) x
 | [], Q, h => ⟨[], by simp, fun k x hk => by simp at hk⟩
 | x :: l, Q, h => by
  obtain ⟨vs, hl, hq⟩ := h 0 x rfl; obtain ⟨xs, hxl, hxs⟩ := pick_chunks l (fun k => Q (k + 1)) (fun k y hy => h (k + 1) y (by simpa using hy)); refine ⟨vs ++ xs, by rw [List.length_append, hl, hxl, List.length_cons, Nat.add_mul]; omega, fun k y hy => ?_⟩
  cases k with
  | zero =>
   simp at hy; subst hy
   rwa [Nat.zero_mul, List.drop_zero, List.take_append_of_le_length (by omega), List.take_of_length_le (by omega)]
  | succ k =>
   have := hxs k y (by simpa using hy)
   have e : (vs ++ xs).drop ((k + 1) * sz) = xs.drop (k * sz) := by
    rw [List.drop_append, List.drop_of_length_le (by rw [hl, Nat.add_mul]; omega), List.nil_append, hl, Nat.add_mul, Nat.one_mul, Nat.add_sub_cancel]
   rwa [e]
def LstAt {α : Type} (sz : Nat) (R : World → List Value → α → Prop) (w : World) (A : Option Addr) (n c : Nat) (l : List α) : Prop :=
  l.length = n ∧ n ≤ c ∧ c ≤ maxLen ∧ (0 < n → ∃ g o, A = some ⟨g, o, none⟩ ∧ g < w.heap.size ∧ ∀ (k : Nat) (x : α), l[k]? = some x →
    ∃ vs : List Value, vs.length = sz ∧ R w vs x ∧ ∀ (j : Nat) (v : Value), vs[j]? = some v → w.cell? ⟨g, o + k * sz + j, none⟩ = some v)
section
variable {α : Type} {sz : Nat} {R : World → List Value → α → Prop} {w w' : World} {A : Option Addr} {n c : Nat} {l : List α}
theorem LstAt.none_ : LstAt sz R w none 0 0 [] := ⟨rfl, Nat.le_refl _, by simp [maxLen], fun h => absurd h (by omega)⟩
theorem LstAt.below (hR : SMono R) (h : LstAt sz R w A n c l) (hb : Below w.heap.size w w') : LstAt sz R w' A n c l := by
 refine ⟨h.1, h.2.1, h.2.2.1, fun hn => ?_⟩; obtain ⟨g, o, hA, hg, hc⟩ := h.2.2.2 hn; refine ⟨g, o, hA, Nat.lt_of_lt_of_le hg hb.size, fun k x hk => ?_⟩; obtain ⟨vs, h1, h2, h3⟩ := hc k x hk; exact ⟨vs, h1, hR _ _ _ _ hb h2, fun j v hv => (hb.cell (by exact hg)).trans (h3 j v hv)⟩
theorem LstAt.at_ (h : LstAt sz R w A n c l) {k : Nat} (hk : k < n) :
  ∃ (g o : Nat) (x : α) (vs : List Value), A = some ⟨g, o, none⟩ ∧ g < w.heap.size ∧ l[k]? = some x ∧ vs.length = sz ∧ R w vs x ∧ ∀ (j : Nat) (v : Value), vs[j]? = some v → w.cell? ⟨g, o + k * sz + j, none⟩ = some v := by
 obtain ⟨g, o, hA, hg, hc⟩ := h.2.2.2 (by omega); have hx : l[k]? = some (l[k]'(by rw [h.1]; exact hk)) := List.getElem?_eq_getElem _; obtain ⟨vs, h1, h2, h3⟩ := hc k _ hx; exact ⟨g, o, _, vs, hA, hg, hx, h1, h2, h3⟩
theorem LstAt.take_ (h : LstAt sz R w A n c l) {m : Nat} (hm : m ≤ n) : LstAt sz R w A m c (l.take m) := by
 refine ⟨by rw [List.length_take, h.1]; omega, by have := h.2.1; omega, h.2.2.1, fun hn => ?_⟩; obtain ⟨g, o, hA, hg, hc⟩ := h.2.2.2 (by omega); refine ⟨g, o, hA, hg, fun k x hk => hc k x ?_⟩; rw [List.getElem?_take] at hk; split at hk
 ·exact hk
 ·cases hk
theorem LstAt.reads (hsz : 0 < sz) (h : LstAt sz R w A n c l) : ∃ xs, Reads w w.heap.size sz A n xs ∧ Chunks sz R w xs l := by
 by_cases hn : 0 < n
 ·obtain ⟨g, o, hA, hg, hc⟩ := h.2.2.2 hn; obtain ⟨xs, hl, hx⟩ := pick_chunks l (fun k vs x => R w vs x ∧ ∀ (j : Nat) (v : Value), vs[j]? = some v → w.cell? ⟨g, o + k * sz + j, none⟩ = some v) hc; refine ⟨xs, ⟨by rw [hl, h.1], fun _ => ⟨_, hA, hg, fun j u hu => ?_⟩⟩, hl, fun k x hk => (hx k x hk).1⟩; have hj : j < n * sz := (by have := (List.getElem?_eq_some_iff.1 hu).1; rwa [hl, h.1] at this)
  have hk : j / sz < n := (Nat.div_lt_iff_lt_mul hsz).2 hj; have hk' : l[j / sz]? = some (l[j / sz]'(by rw [h.1]; exact hk)) := List.getElem?_eq_getElem _; have := (hx _ _ hk').2 (j % sz) u (by rw [List.getElem?_take, if_pos (Nat.mod_lt _ hsz), List.getElem?_drop, Nat.mul_comm, Nat.div_add_mod]; exact hu); have e : o + j / sz * sz + j % sz = o + j := (by rw [Nat.add_assoc, Nat.mul_comm, Nat.div_add_mod])
  rw [e] at this; have e2 : (⟨g, o, none⟩ : Addr).add j = ⟨g, o + j, none⟩ := by unfold Addr.add; split <;> simp_all
  rw [e2]; exact this
 ·obtain rfl : n = 0 := (by omega)
  obtain rfl : l = [] := List.eq_nil_of_length_eq_zero h.1; exact ⟨[], ⟨by simp, fun h => absurd h (by omega)⟩, Chunks.nil_⟩
theorem LstAt.of_own {base : Nat} {e : TypeId} {xs : List Value} (hsz : 0 < sz) (h : w.ownsRow base e sz (.slice A n c) n xs) (hc : Chunks sz R w xs l) : LstAt sz R w A n c l := by
 have hl : l.length = n := by
  have h1 := h.1; rw [hc.1] at h1; exact Nat.eq_of_mul_eq_mul_right hsz h1
 rcases h.2 with ⟨hv, h0⟩ | ⟨g, cap, cur, hv, _, hh, hnc, hm, _⟩
 ·injection hv with e1 e2 e3
  subst e2 e3; exact ⟨hl, Nat.le_refl _, by simp [maxLen], fun h => by omega⟩
 ·injection hv with e1 _ e3
  subst e1 e3; refine ⟨hl, hnc, hm, fun _ => ⟨g, 0, rfl, (Array.getElem?_eq_some_iff.1 hh).1, fun k x hk => ?_⟩⟩; have hkl : k < l.length := (List.getElem?_eq_some_iff.1 hk).1; have hle : (k + 1) * sz ≤ xs.length := (by rw [hc.1]; exact Nat.mul_le_mul_right _ (by omega))
  rw [Nat.add_mul, Nat.one_mul] at hle; refine ⟨_, by rw [List.length_take, List.length_drop]; omega, hc.2 k x hk, fun j v hv => ?_⟩; rw [List.getElem?_take] at hv; split at hv
  ·rw [List.getElem?_drop] at hv; have h1 := h.cells (g := g) rfl _ _ hv; have e2 : (⟨g, 0, none⟩ : Addr).add (k * sz + j) = ⟨g, k * sz + j, none⟩ := by unfold Addr.add; split <;> simp_all
   rw [e2] at h1; rw [Nat.zero_add]; exact h1
  ·cases hv
theorem LstAt.drop_ {g o : Nat} (h : LstAt sz R w (some ⟨g, o, none⟩) n c l) {k : Nat} (hk : k < n) : LstAt sz R w (some ⟨g, o + k * sz, none⟩) (n - k) (c - k) (l.drop k) := by
 refine ⟨by rw [List.length_drop, h.1], by have := h.2.1; omega, by have := h.2.2.1; omega, fun hn => ?_⟩; obtain ⟨g', o', hA, hg, hc⟩ := h.2.2.2 (by omega); injection hA with hA
 injection hA with e1 e2
 subst e1 e2; refine ⟨g, o + k * sz, rfl, hg, fun i x hi => ?_⟩; rw [List.getElem?_drop] at hi; obtain ⟨vs, h1, h2, h3⟩ := hc _ x hi; refine ⟨vs, h1, h2, fun j v hv => ?_⟩; have := h3 j v hv
 rwa [Nat.add_mul, ← Nat.add_assoc] at this
end
theorem lst_open {α : Type} {sz : Nat} {R : World → List Value → α → Prop} {H : Type} {enc : TypeId × Value → H} {P : Program} {W : World} {t e : TypeId} {fuel : Nat} {cs : List Value} {x : DataW H × List MemPlace}
  (ht : P.underlying t = some (.slice e)) (hc : P.cellsOf e = sz) (hsz : 0 < sz)
  (hR : ∀ (f : Nat) (cs : List Value) (x : DataW H × List MemPlace), DataW.trod enc P W 0 (fun _ => true) true f e cs = some x → ∃ y, R W cs y)
  (h : DataW.trod enc P W 0 (fun _ => true) true fuel t cs = some x) : ∃ A n c l, cs = [.slice A n c] ∧ LstAt sz R W A n c l := by
 rcases Go.Deep.open_slice ht h with ⟨rfl, _⟩ | ⟨a, len, cap, m, n, D, Pl, rfl, _, hl, hm, hmm, _, hx⟩
 ·exact ⟨none, 0, 0, [], rfl, LstAt.none_⟩
 ·simp only [if_true] at hmm; subst hmm; rw [hc] at hx
  have each : ∀ i, i < len → ∃ y : α, ∃ vs : List Value, vs.length = sz ∧ R W vs y ∧ ∀ (j : Nat) (v : Value), vs[j]? = some v → W.cell? ((a.add (i * sz)).add j) = some v := fun i hi => by
   obtain ⟨cs', h1, h2⟩ := hx i (by omega); obtain ⟨_, hlen, hcell⟩ := World.cells?_some h1; obtain ⟨y, hy⟩ := hR _ _ _ h2; exact ⟨y, cs', hlen, hy, fun j v hv => (hcell j (by have := (List.getElem?_eq_some_iff.1 hv).1; omega)).trans hv⟩
  obtain ⟨b, off, spot⟩ := a; by_cases hn : 0 < len
  ·have hsp : spot = none := by
    obtain ⟨y, vs, hl, _, h3⟩ := each 0 hn; have hv : vs[0]? = some vs[0] := List.getElem?_eq_getElem _; have := World.cell?_spot (h3 0 _ hv); simpa [Addr.add] using this
   subst hsp; have hadd : ∀ (b off j : Nat), (⟨b, off, none⟩ : Addr).add j = ⟨b, off + j, none⟩ := fun b off j => by unfold Addr.add; split <;> simp_all
   have hN : Nonempty α := ⟨(each 0 hn).choose⟩
   refine ⟨_, _, _, (List.range len).map fun i => if h : i < len then (each i h).choose else Classical.choice hN, rfl, by simp, hl, hm, fun _ => ⟨b, off, rfl, ?_, fun k x hk => ?_⟩⟩
   ·obtain ⟨y, vs, hl, _, h3⟩ := each 0 hn; have hv : vs[0]? = some vs[0] := List.getElem?_eq_getElem _; have := World.block_lt_of_cell? W _ (h3 0 _ hv)
    rwa [block_of_add, block_of_add] at this
   ·have hkl : k < len := (by have := (List.getElem?_eq_some_iff.1 hk).1; simpa using this)
    have hkx : x = (each k hkl).choose := (by simp [hkl] at hk; exact hk.symm)
    subst hkx; obtain ⟨vs, h1, h2, h3⟩ := (each k hkl).choose_spec; refine ⟨vs, h1, h2, fun j v hv => ?_⟩; have := h3 j v hv
    rwa [hadd, hadd] at this
  ·obtain rfl : len = 0 := (by omega)
   exact ⟨_, _, _, [], rfl, rfl, hl, hm, fun h => absurd h (by omega)⟩
def idxP {α : Type} (p : α → Bool) : List α → Int
  | [] => -1
  | x :: l => if p x then 0 else if 0 ≤ idxP p l then idxP p l + 1 else -1
theorem idxP_at {α : Type} (p : α → Bool) : ∀ (l : List α) (k : Nat) (x : α), (∀ y ∈ l.take k, p y = false) → l[k]? = some x → p x = true → idxP p l = (k : Int)
 | [], k, x, _, h, _ => by simp at h
 | y :: l, 0, x, _, h, hp => by simp at h; subst h; simp [idxP, hp]
 | y :: l, k + 1, x, hn, h, hp => by
  have hy : p y = false := hn y (by simp); have ih := idxP_at p l k x (fun z hz => hn z (by simp [hz])) (by simpa using h) hp; simp only [idxP, hy, ih]; rw [if_neg (by simp), if_pos (by omega)]; omega
theorem idxP_none {α : Type} (p : α → Bool) : ∀ (l : List α), (∀ y ∈ l, p y = false) → idxP p l = -1
 | [], _ => rfl
 | y :: l, hn => by
  have hy : p y = false := hn y (by simp); have ih := idxP_none p l (fun z hz => hn z (by simp [hz])); simp only [idxP, hy, ih]; simp
theorem idxP_any {α : Type} (p : α → Bool) (l : List α) : decide (0 ≤ idxP p l) = l.any p := by
 induction l with
 | nil => simp [idxP]
 | cons x l ih =>
  by_cases hp : p x = true
  ·simp [idxP, hp]
  ·have hp' : p x = false := (by simpa using hp)
   simp only [idxP, List.any_cons, hp', Bool.false_or]; rw [← ih]; by_cases h : 0 ≤ idxP p l
   ·rw [if_neg (by simp), if_pos h]; simp; omega
   ·rw [if_neg (by simp), if_neg h]; simp; omega
end Go.Proofs.YtmffmkjgdjgmeaaGreat
namespace Go.Proofs.YtmffmkjgdjgmeaaGreat
open Go.RowKit
def relAt (Rs : List (Value → World → Prop)) (i : Nat) (v : Value) (w : World) : Prop := match Rs[i]? with
  | some R => R v w
  | none => True
def dstOf (l : List Oper) (i : Nat) : Nat := ((l[i]?).bind (·.dst)).getD 0
def relOk (n : Nat) (l : List Oper) : Bool :=
  l.all (fun o => o.dst.isSome) && l.all (fun o => (o.dst.getD 0) < n) && decide ((l.map fun o => o.dst.getD 0).Nodup) && (List.range l.length).all fun i => ((l[i]?).map fun o => o.after.all fun e => !Region.binds .any e || decide (e.on < i)).getD true
structure RelPre (Rs : List (Value → World → Prop)) (l : List Oper) (a : Act) (W : World) (o : Oper) (A : Act) (w : World) : Prop where
  bel : Below W.heap.size W w
  size : A.tmps.size = a.tmps.size
  out : ∀ t, (l.all fun o => o.dst != some t) = true → A.eval (.tmp t) = a.eval (.tmp t)
  dep : ∀ j, (o.after.any fun e => Region.binds .any e && e.on == j) = true → relAt Rs j (A.eval (.tmp (dstOf l j))) w
def RelStep (P : Program) (Rs : List (Value → World → Prop)) (l : List Oper) (a : Act) (W : World) (Q : Exit → Act → World → Prop) (i : Nat) (o : Oper) : Prop :=
  ∀ (A : Act) (w : World), RelPre Rs l a W o A w → if Region.wanted o (yielded l.toArray A.tmps) = true then o.wp P A w (fun A' w' => ∃ v, A' = A.put o.dst v ∧ relAt Rs i v w' ∧ Below w.heap.size w w') Q else relAt Rs i undef w
def RelSteps (P : Program) (Rs : List (Value → World → Prop)) (l : List Oper) (a : Act) (W : World) (Q : Exit → Act → World → Prop) : Nat → List Oper → Prop
  | _, [] => True
  | i, o :: r => RelStep P Rs l a W Q i o ∧ RelSteps P Rs l a W Q (i + 1) r
def putAll (a : Act) (u : Nat → Value) : Nat → List Oper → Act
  | _, [] => a
  | i, o :: r => putAll (a.put o.dst (u i)) u (i + 1) r
def RelAll (Rs : List (Value → World → Prop)) (u : Nat → Value) (w : World) : Nat → Prop
  | 0 => True
  | n + 1 => RelAll Rs u w n ∧ relAt Rs n (u n) w
theorem relSteps_get {P : Program} {Rs : List (Value → World → Prop)} {l : List Oper} {a : Act} {W : World} {Q : Exit → Act → World → Prop} : ∀ (r : List Oper) (k : Nat), RelSteps P Rs l a W Q k r → ∀ (i : Nat) (o : Oper), r[i]? = some o → RelStep P Rs l a W Q (k + i) o
 | [], _, _, i, o, h => by simp at h
 | x :: r, k, h, 0, o, ho => by simp at ho; subst ho; exact h.1
 | x :: r, k, h, i + 1, o, ho => by
  have := relSteps_get r (k + 1) h.2 i o (by simpa using ho)
  rwa [Nat.add_assoc, Nat.add_comm 1 i] at this
structure RelInv (Rs : List (Value → World → Prop)) (l : List Oper) (a : Act) (W : World) (listed : Array Bool) (A : Act) (w : World) : Prop where
  bel : Below W.heap.size W w
  defers : A.defers = a.defers
  size : A.tmps.size = a.tmps.size
  out : ∀ t, (l.all fun o => o.dst != some t) = true → A.eval (.tmp t) = a.eval (.tmp t)
  has : ∀ j o, l[j]? = some o → listed.getD j true = true → relAt Rs j (A.eval (.tmp (dstOf l j))) w
  len : listed.size = l.length
theorem getD_put (A : Act) (d : Tmp) (v : Value) (t : Nat) (hd : d < A.tmps.size) : (A.put (some d) v).eval (.tmp t) = if t = d then v else A.eval (.tmp t) := by
 unfold Act.put Act.eval; simp only; by_cases h : t = d
 ·subst h; simp [Array.getD_eq_getD_getElem?, Array.getElem?_setIfInBounds, hd]
 ·rw [if_neg h]; simp [Array.getD_eq_getD_getElem?, Array.getElem?_setIfInBounds, Ne.symm h]
theorem nodup_at : ∀ {l : List Nat} (_ : l.Nodup) {i j x : Nat} (_ : l[i]? = some x) (_ : l[j]? = some x), i = j
 | [], _, i, j, x, hi, _ => by simp at hi
 | y :: l, h, 0, 0, x, _, _ => rfl
 | y :: l, h, 0, j + 1, x, hi, hj => by
  simp at hi hj; subst hi; exact absurd (List.mem_of_getElem? hj) (List.nodup_cons.1 h).1
 | y :: l, h, i + 1, 0, x, hi, hj => by
  simp at hi hj; subst hj; exact absurd (List.mem_of_getElem? hi) (List.nodup_cons.1 h).1
 | y :: l, h, i + 1, j + 1, x, hi, hj => by
  have e : i = j := nodup_at (List.nodup_cons.1 h).2 (x := x) (by simpa using hi) (by simpa using hj); rw [e]
theorem dst_at {n : Nat} {l : List Oper} (h : relOk n l = true) {i : Nat} {o : Oper} (ho : l[i]? = some o) : o.dst = some (dstOf l i) ∧ dstOf l i < n := by
 unfold relOk at h; simp only [Bool.and_eq_true, List.all_eq_true, decide_eq_true_eq] at h; obtain ⟨⟨⟨h1, h2⟩, h3⟩, h4⟩ := h; have hm := List.mem_of_getElem? ho; have hs := h1 o hm; obtain ⟨d, hd⟩ := Option.isSome_iff_exists.1 hs; have hl := h2 o hm; unfold dstOf; rw [ho]; simp only [Option.bind_some, hd, Option.getD_some] at hl ⊢; exact ⟨trivial, hl⟩
theorem dst_inj {n : Nat} {l : List Oper} (h : relOk n l = true) {i j : Nat} {o p : Oper} (hi : l[i]? = some o) (hj : l[j]? = some p) (he : dstOf l i = dstOf l j) : i = j := by
 obtain ⟨d1, _⟩ := dst_at h hi; obtain ⟨d2, _⟩ := dst_at h hj; unfold relOk at h; simp only [Bool.and_eq_true, List.all_eq_true, decide_eq_true_eq] at h; obtain ⟨⟨⟨h1, h2⟩, h3⟩, h4⟩ := h; refine nodup_at h3 (i := i) (j := j) (x := dstOf l i) ?_ ?_
 ·rw [List.getElem?_map, hi]; simp [d1]
 ·rw [List.getElem?_map, hj, he]; simp [d2]
theorem after_lt {n : Nat} {l : List Oper} (h : relOk n l = true) {i : Nat} {o : Oper} (hi : l[i]? = some o) : ∀ e ∈ o.after, Region.binds .any e = true → e.on < i := by
 unfold relOk at h; simp only [Bool.and_eq_true, List.all_eq_true, decide_eq_true_eq] at h; obtain ⟨_, h4⟩ := h; intro e he hb; have hlt : i < l.length := (List.getElem?_eq_some_iff.1 hi).1; have := h4 i (List.mem_range.2 hlt); rw [hi] at this; simp only [Option.map_some, Option.getD_some, Array.all_eq_true_iff_forall_mem] at this; have h5 := this e he; simpa [hb] using h5
theorem ready_nil {n : Nat} {l : List Oper} (h : relOk n l = true) {listed : Array Bool} (hs : listed.size = l.length) (hr : Region.ready .any l.toArray listed = []) : ∀ i, i < l.length → listed.getD i true = true := by
 intro i
 induction i using Nat.strongRecOn with
 | ind i ih =>
  intro hi
  cases hb : listed.getD i true with
  | true => rfl
  | false =>
   exfalso
   have ho : l[i]? = some l[i] := List.getElem?_eq_getElem hi
   have : i ∈ Region.ready .any l.toArray listed := by
    unfold Region.ready; simp only [List.mem_filter, List.mem_range, List.size_toArray]; refine ⟨hi, ?_⟩; simp only [hb, Bool.not_false, Bool.true_and, List.getElem?_toArray, ho, Option.map_some, Option.getD_some, Array.all_eq_true_iff_forall_mem]; intro e he
    cases hbi : Region.binds .any e with
    | false => rfl
    | true =>
     have hlt := after_lt h ho e he hbi; have := ih e.on hlt (by omega); have hsz : e.on < listed.size := (by omega)
     simp only [Array.getD_eq_getD_getElem?, Array.getElem?_eq_getElem hsz, Option.getD_some] at this ⊢; simp [this]
   rw [hr] at this
   cases this
theorem putAll_eval {n : Nat} {u : Nat → Value} : ∀ (r : List Oper) (k : Nat) (a : Act), a.tmps.size = n → (∀ o ∈ r, ∃ d, o.dst = some d ∧ d < n) → (r.map fun o => o.dst.getD 0).Nodup →
  (putAll a u k r).tmps.size = n ∧ (putAll a u k r).defers = a.defers ∧ (∀ t, (r.all fun o => o.dst != some t) = true → (putAll a u k r).eval (.tmp t) = a.eval (.tmp t)) ∧ ∀ i o, r[i]? = some o → (putAll a u k r).eval (.tmp (o.dst.getD 0)) = u (k + i)
 | [], k, a, hn, _, _ => ⟨hn, rfl, fun t _ => rfl, fun i o h => by simp at h⟩
 | x :: r, k, a, hn, hd, hnd => by
  obtain ⟨d, hdx, hdn⟩ := hd x (by simp); simp only [List.map_cons, List.nodup_cons] at hnd; have hsz : (a.put x.dst (u k)).tmps.size = n := (by rw [hdx]; simp [Act.put, hn])
  have hdf : (a.put x.dst (u k)).defers = a.defers := (by rw [hdx]; rfl)
  obtain ⟨h1, h2, h3, h4⟩ := putAll_eval (u := u) r (k + 1) (a.put x.dst (u k)) hsz (fun o ho => hd o (by simp [ho])) hnd.2; refine ⟨h1, h2.trans hdf, fun t ht => ?_, fun i o ho => ?_⟩
  ·simp only [List.all_cons, Bool.and_eq_true] at ht; rw [putAll, h3 t ht.2, hdx, getD_put _ _ _ _ (by rw [hn]; exact hdn), if_neg]; intro e; subst e; have := ht.1; rw [hdx] at this; simp at this
  ·cases i with
   | zero =>
    simp at ho; subst ho; rw [putAll, h3 _ ?_, hdx, Option.getD_some, getD_put _ _ _ _ (by rw [hn]; exact hdn), if_pos rfl]
    ·rfl
    ·rw [List.all_eq_true]; intro p hp; obtain ⟨dp, hdp, _⟩ := hd p (by simp [hp]); have hm : dp ∈ r.map fun o => o.dst.getD 0 := List.mem_map.2 ⟨p, hp, by rw [hdp]; rfl⟩; rw [hdx] at hnd ⊢; simp only [Option.getD_some] at hnd ⊢; rw [hdp]; simp only [bne_iff_ne, ne_eq, Option.some.injEq]; rintro rfl; exact hnd.1 hm
   | succ i =>
    have := h4 i o (by simpa using ho); rw [putAll, this]
    congr 1; omega
theorem act_ext {A B : Act} (hs : A.tmps.size = B.tmps.size) (hd : A.defers = B.defers) (h : ∀ t, A.eval (.tmp t) = B.eval (.tmp t)) : A = B := by
 obtain ⟨at_, ad⟩ := A; obtain ⟨bt, bd⟩ := B; simp only at hs hd; subst hd
 congr 1
 apply Array.ext hs
 intro i h1 h2; have := h i; simp only [Act.eval, Array.getD_eq_getD_getElem?, Array.getElem?_eq_getElem h1, Array.getElem?_eq_getElem h2, Option.getD_some] at this; exact this
theorem relAll_get {Rs : List (Value → World → Prop)} {u : Nat → Value} {w : World} : ∀ n, (∀ i, i < n → relAt Rs i (u i) w) → RelAll Rs u w n
 | 0, _ => trivial
 | n + 1, h => ⟨relAll_get n fun i hi => h i (by omega), h n (by omega)⟩
theorem count_set {l : List Bool} : ∀ {i : Nat}, l[i]? = some false → (l.set i true).count false + 1 = l.count false
 | 0, h => by
  cases l with
  | nil => simp at h
  | cons x l => simp at h; subst h; simp
 | i + 1, h => by
  cases l with
  | nil => simp at h
  | cons x l =>
   have := count_set (l := l) (i := i) (by simpa using h); simp only [List.set_cons_succ, List.count_cons]; omega
theorem relAny {P : Program} {Rs : List (Value → World → Prop)} {l : List Oper} {a : Act} {W : World} {Q : Exit → Act → World → Prop} (hok : relOk a.tmps.size l = true)
  (mono : ∀ (i : Nat) (v : Value) (w w' : World), Below w.heap.size w w' → relAt Rs i v w → relAt Rs i v w')
  (steps : RelSteps P Rs l a W Q 0 l)
  (fin : ∀ (u : Nat → Value) (w : World), Below W.heap.size W w → RelAll Rs u w l.length → Q .normal (putAll a u 0 l) w) :
  ∀ (fuel : Nat) (listed : Array Bool) (A : Act) (w : World), listed.toList.count false ≤ fuel → RelInv Rs l a W listed A w → wpAny P .any l.toArray Q fuel listed A w := by
 have done : ∀ (listed : Array Bool) (A : Act) (w : World), RelInv Rs l a W listed A w → Region.ready .any l.toArray listed = [] → Q .normal A w := by
  intro listed A w hI hr; have hall := ready_nil hok hI.len hr
  have hdn : ∀ o ∈ l, ∃ d, o.dst = some d ∧ d < a.tmps.size := fun o ho => by
   obtain ⟨i, hi⟩ := List.getElem?_of_mem ho; obtain ⟨h1, h2⟩ := dst_at hok hi; exact ⟨_, h1, h2⟩
  have hnd : (l.map fun o => o.dst.getD 0).Nodup := by
   unfold relOk at hok; simp only [Bool.and_eq_true, decide_eq_true_eq] at hok; exact hok.1.2
  obtain ⟨p1, p2, p3, p4⟩ := putAll_eval (u := fun i => A.eval (.tmp (dstOf l i))) l 0 a rfl hdn hnd
  have e : A = putAll a (fun i => A.eval (.tmp (dstOf l i))) 0 l := by
   refine act_ext (by rw [hI.size, p1]) (by rw [hI.defers, p2]) fun t => ?_; by_cases ht : (l.all fun o => o.dst != some t) = true
   ·rw [hI.out t ht, p3 t ht]
   ·rw [Bool.not_eq_true, List.all_eq_false] at ht; obtain ⟨o, ho, hne⟩ := ht; obtain ⟨i, hi⟩ := List.getElem?_of_mem ho; have hdt : o.dst = some t := (by simpa using hne)
    have := p4 i o hi; obtain ⟨h1, _⟩ := dst_at hok hi; rw [hdt] at h1 this; have h1' : t = dstOf l i := (by injection h1)
    rw [Option.getD_some] at this; rw [this, Nat.zero_add, ← h1']
  rw [e]; refine fin _ w hI.bel (relAll_get _ fun i hi => ?_); exact hI.has i l[i] (List.getElem?_eq_getElem hi) (hall i hi)
 intro fuel
 induction fuel with
 | zero =>
  intro listed A w hc hI
  have hr : Region.ready .any l.toArray listed = [] := by
   unfold Region.ready; rw [List.filter_eq_nil_iff]; intro i hi; have hi' : i < listed.size := (by rw [hI.len]; simpa using hi)
   have hne : listed[i] ≠ false := fun e => by
    have : false ∈ listed.toList := (by rw [← e]; exact Array.getElem_mem_toList hi')
    have := List.count_pos_iff.2 this; omega
   simp [Array.getD_eq_getD_getElem?, Array.getElem?_eq_getElem hi', hne]
  exact ⟨hr, done _ _ _ hI hr⟩
 | succ fuel ih =>
  intro listed A w hc hI; refine ⟨done _ _ _ hI, fun i hi => ?_⟩; have hi2 := hi; unfold Region.ready at hi2; simp only [List.mem_filter, List.mem_range, List.size_toArray, Bool.and_eq_true] at hi2; obtain ⟨hil, hun, haft⟩ := hi2; have ho : l[i]? = some l[i] := List.getElem?_eq_getElem hil; have hli : i < listed.size := (by rw [hI.len]; exact hil)
  have hfalse : listed[i] = false := by
   simpa [Array.getD_eq_getD_getElem?, Array.getElem?_eq_getElem hli] using hun
  obtain ⟨hd, hdn⟩ := dst_at hok ho; have hst := relSteps_get l 0 steps i _ ho; rw [Nat.zero_add] at hst
  have pre : RelPre Rs l a W l[i] A w := by
   refine ⟨hI.bel, hI.size, hI.out, fun j hj => ?_⟩; simp only [Array.any_eq_true, Bool.and_eq_true, beq_iff_eq] at hj; obtain ⟨q, hq, hb, rfl⟩ := hj; have hlt := after_lt hok ho _ (Array.getElem_mem hq) hb; refine hI.has _ l[(l[i].after[q]).on] (List.getElem?_eq_getElem (by omega)) ?_; simp only [List.getElem?_toArray, ho, Option.map_some, Option.getD_some, Array.all_eq_true_iff_forall_mem] at haft; have := haft _ (Array.getElem_mem hq); rw [hb] at this; have hsz : (l[i].after[q]).on < listed.size := (by omega)
   simp only [Bool.not_true, Bool.false_or, Array.getD_eq_getD_getElem?, Array.getElem?_eq_getElem hsz, Option.getD_some] at this ⊢; exact this
  have next : ∀ (v : Value) (w' : World), relAt Rs i v w' → Below w.heap.size w w' → wpAny P .any l.toArray Q fuel (listed.setIfInBounds i true) (A.put l[i].dst v) w' := by
   intro v w' hv hb; refine ih _ _ _ ?_ ?_
   ·rw [Array.toList_setIfInBounds]; have := count_set (l := listed.toList) (i := i) (by rw [Array.getElem?_toList, Array.getElem?_eq_getElem hli, hfalse]); omega
   ·have hAn : dstOf l i < A.tmps.size := (by rw [hI.size]; exact hdn)
    refine ⟨hI.bel.trans (hb.mono hI.bel.size), by rw [hd]; exact hI.defers, by rw [hd]; simp [Act.put, hI.size], fun t ht => ?_, fun j o hj hl => ?_, by simp [hI.len]⟩
    ·rw [hd, getD_put _ _ _ _ hAn, if_neg, hI.out t ht]; rintro rfl; rw [List.all_eq_true] at ht; have := ht _ (List.mem_of_getElem? ho); rw [hd] at this; simp at this
    ·rw [hd, getD_put _ _ _ _ hAn]; by_cases hji : dstOf l j = dstOf l i
     ·have := dst_inj hok hj ho hji; subst this; rw [if_pos rfl]; exact hv
     ·rw [if_neg hji]; have hne : i ≠ j := (by rintro rfl; exact hji rfl)
      refine mono _ _ _ _ hb (hI.has j o hj ?_); simpa [Array.getD_eq_getD_getElem?, Array.getElem?_setIfInBounds, hne] using hl
  have hs := hst A w pre; unfold wpOp; simp only [List.getElem?_toArray, ho]; split
  ·rename_i hw; rw [if_pos hw] at hs; refine .inl (Oper.wp_mono ?_ hs); rintro A' w' ⟨v, rfl, hv, hb⟩; exact next v w' hv hb
  ·rename_i hw; rw [if_neg hw] at hs; exact next undef w hs (Below.refl _ _)
theorem wp_region_rel {P : Program} {id : Nat} {Q : Exit → Act → World → Prop} {a : Act} {W : World} {l : List Oper} (Rs : List (Value → World → Prop)) (hm : P.follows .mixedOrders = true) (hok : relOk a.tmps.size l = true)
  (mono : ∀ (i : Nat) (v : Value) (w w' : World), Below w.heap.size w w' → relAt Rs i v w → relAt Rs i v w')
  (steps : RelSteps P Rs l a W Q 0 l)
  (fin : ∀ (u : Nat → Value) (w : World), Below W.heap.size W w → RelAll Rs u w l.length → Q .normal (putAll a u 0 l) w) : (Code.region id l.toArray true).wp P Q a W := by
 refine wp_region_any hm (relAny hok mono steps fin _ _ _ _ ?_ ⟨⟨rfl, rfl, rfl, Nat.le_refl _, fun _ _ => rfl⟩, rfl, rfl, fun _ _ => rfl, fun j o hj hl => ?_, by simp⟩)
 ·simp
 ·have : j < l.length := (List.getElem?_eq_some_iff.1 hj).1; simp [Array.getD_eq_getD_getElem?, this] at hl
theorem relStep_plain {P : Program} {Rs : List (Value → World → Prop)} {l : List Oper} {a : Act} {W : World} {Q : Exit → Act → World → Prop} {i : Nat} {o : Oper} (hg : o.guard = none)
  (h : ∀ (A : Act) (w : World), RelPre Rs l a W o A w → o.wp P A w (fun A' w' => ∃ v, A' = A.put o.dst v ∧ relAt Rs i v w' ∧ Below w.heap.size w w') Q) : RelStep P Rs l a W Q i o := by
 intro A w hp; rw [if_pos (by simp [Region.wanted, hg])]; exact h A w hp
theorem yielded_of {l : List Oper} {A : Act} {g : Nat} {b : Bool} {o' : Oper} (ho : l[g]? = some o') {d : Nat} (hd : o'.dst = some d) (hn : d < A.tmps.size) (hv : A.eval (.tmp d) = .bool b) : yielded l.toArray A.tmps g = some b := by
 unfold yielded; simp only [List.getElem?_toArray, ho, Option.bind_some, hd]
 have : A.tmps[d]? = some (.bool b) := by
  rw [Array.getElem?_eq_getElem hn]; unfold Act.eval at hv; simp only [Array.getD_eq_getD_getElem?, Array.getElem?_eq_getElem hn, Option.getD_some] at hv; rw [hv]
 rw [this]
theorem relStep_guard {P : Program} {Rs : List (Value → World → Prop)} {l : List Oper} {a : Act} {W : World} {Q : Exit → Act → World → Prop} {i : Nat} {o : Oper} {n g : Nat} {b x : Bool} (hn : a.tmps.size = n) (hok : relOk n l = true) (hg : o.guard = some (g, b))
  (ha : (o.after.any fun e => Region.binds .any e && e.on == g) = true) {og : Oper} (hog : l[g]? = some og) (hv : ∀ v w, relAt Rs g v w → v = .bool x)
  (h : if x = b then ∀ (A : Act) (w : World), RelPre Rs l a W o A w → o.wp P A w (fun A' w' => ∃ v, A' = A.put o.dst v ∧ relAt Rs i v w' ∧ Below w.heap.size w w') Q else ∀ w, relAt Rs i undef w) : RelStep P Rs l a W Q i o := by
 intro A w hp; have hd := hp.dep g ha; obtain ⟨h1, h2⟩ := dst_at hok hog; have hy := yielded_of hog h1 (A := A) (by rw [hp.size, hn]; exact h2) (hv _ _ hd); have hw : Region.wanted o (yielded l.toArray A.tmps) = (x == b) := (by simp [Region.wanted, hg, hy])
 rw [hw]; by_cases hxb : x = b
 ·rw [if_pos (by simp [hxb])]; rw [if_pos hxb] at h; exact h A w hp
 ·rw [if_neg (by simp [hxb])]; rw [if_neg hxb] at h; exact h w
theorem RelPre.d {Rs : List (Value → World → Prop)} {l : List Oper} {a : Act} {W : World} {o : Oper} {A : Act} {w : World} (h : RelPre Rs l a W o A w) (j : Nat) (hj : (o.after.any fun e => Region.binds .any e && e.on == j) = true := by kernel_rfl) : relAt Rs j (A.eval (.tmp (dstOf l j))) w := h.dep j hj
theorem rsG {P : Program} {Rs : List (Value → World → Prop)} {l : List Oper} {a : Act} {W : World} {Q : Exit → Act → World → Prop} {i : Nat} {o : Oper} (g : Nat) (b : Bool) (h : ∀ (A : Act) (w : World), RelPre Rs l a W o A w → o.wp P A w (fun A' w' => ∃ v, A' = A.put o.dst v ∧ relAt Rs i v w' ∧ Below w.heap.size w w') Q) (hok : relOk a.tmps.size l = true := by kernel_rfl) (hg : o.guard = some (g, b) := by exact rfl)
    (ha : (o.after.any fun e => Region.binds .any e && e.on == g) = true := by kernel_rfl) (hog : l[g]?.isSome = true := by exact rfl) (hv : ∀ v w, relAt Rs g v w → v = .bool b := by exact fun _ _ h => h) : RelStep P Rs l a W Q i o := by
  obtain ⟨og, ho⟩ := Option.isSome_iff_exists.1 hog
  exact relStep_guard (x := b) rfl hok hg ha ho hv (by rw [if_pos rfl]; exact h)
theorem rsN {P : Program} {Rs : List (Value → World → Prop)} {l : List Oper} {a : Act} {W : World} {Q : Exit → Act → World → Prop} {i : Nat} {o : Oper} (g : Nat) (b : Bool) (h : ∀ w, relAt Rs i undef w := by exact fun _ => rfl) (hok : relOk a.tmps.size l = true := by kernel_rfl) (hg : o.guard = some (g, b) := by exact rfl)
    (ha : (o.after.any fun e => Region.binds .any e && e.on == g) = true := by kernel_rfl) (hog : l[g]?.isSome = true := by exact rfl) (hv : ∀ v w, relAt Rs g v w → v = .bool (!b) := by exact fun _ _ h => h) : RelStep P Rs l a W Q i o := by
  obtain ⟨og, ho⟩ := Option.isSome_iff_exists.1 hog
  exact relStep_guard (x := !b) rfl hok hg ha ho hv (by rw [if_neg (by cases b <;> decide)]; exact h)
theorem relOp_call {P : Program} {o : Oper} {A : Act} {w : World} {Rs : List (Value → World → Prop)} {i : Nat} {Q : Exit → Act → World → Prop} (f : FuncId) (args : Array Value) (h : (execOp A.eval o).run P w = .ok (.enter f args) w)
  (hc : Calls P f args w fun e w' => ∃ v, e = .returned v ∧ relAt Rs i v w' ∧ Below w.heap.size w w') :
  o.wp P A w (fun A' w' => ∃ v, A' = A.put o.dst v ∧ relAt Rs i v w' ∧ Below w.heap.size w w') Q := by
 unfold Oper.wp; rw [h, Oper.upon_enter]; refine hc.mono ?_; rintro e w' ⟨v, rfl, hr, hb⟩; exact ⟨v, rfl, hr, hb⟩
def AllMono : List (Value → World → Prop) → Prop
  | [] => True
  | R :: r => (∀ (v : Value) (w w' : World), Below w.heap.size w w' → R v w → R v w') ∧ AllMono r
theorem relMono : ∀ (Rs : List (Value → World → Prop)) (_ : AllMono Rs) (i : Nat) (v : Value) (w w' : World), Below w.heap.size w w' → relAt Rs i v w → relAt Rs i v w'
 | [], _, i, v, w, w', hb, h => by simp [relAt] at h ⊢
 | R :: r, hm, 0, v, w, w', hb, h => hm.1 v w w' hb h
 | R :: r, hm, i + 1, v, w, w', hb, h => relMono r hm.2 i v w w' hb h
theorem relAll_at {Rs : List (Value → World → Prop)} {u : Nat → Value} {w : World} : ∀ {n i : Nat}, RelAll Rs u w n → i < n → relAt Rs i (u i) w
 | n + 1, i, h, hi => by
  by_cases e : i = n
  ·subst e; exact h.2
  ·exact relAll_at h.1 (by omega)
theorem evalC (A : Act) (v : Value) : A.eval (.const v) = v := rfl
theorem evalF (A : Act) (f : FuncId) : A.eval (.func f) = .func (.func f) #[] #[] := rfl
theorem evalG (A : Act) (g : Nat) : A.eval (.global g) = .pointer (some ⟨g, 0, none⟩) := rfl
theorem relVal {P : Program} {o : Oper} {A : Act} {w : World} {Rs : List (Value → World → Prop)} {i : Nat} {Q : Exit → Act → World → Prop} {ρ : Operand → Value} (hρ : A.eval = ρ) (v : Value) (w' : World) (h : (execOp ρ o).run P w = .ok (.value v) w') (hr : relAt Rs i v w') (hb : Below w.heap.size w w') :
  o.wp P A w (fun A' w' => ∃ v, A' = A.put o.dst v ∧ relAt Rs i v w' ∧ Below w.heap.size w w') Q := by
 subst hρ; unfold Oper.wp; rw [h, Oper.upon_value]; exact ⟨v, rfl, hr, hb⟩
theorem relPure {P : Program} {o : Oper} {A : Act} {w : World} {Rs : List (Value → World → Prop)} {i : Nat} {Q : Exit → Act → World → Prop} {ρ : Operand → Value} (hρ : A.eval = ρ) (v : Value) (h : (execOp ρ o).run P w = .ok (.value v) w) (hr : relAt Rs i v w) :
  o.wp P A w (fun A' w' => ∃ v, A' = A.put o.dst v ∧ relAt Rs i v w' ∧ Below w.heap.size w w') Q := relVal hρ v w h hr (Below.refl _ _)
theorem evalX (A : Act) : ∃ ρ, A.eval = ρ ∧ (∀ v, ρ (.const v) = v) ∧ (∀ f, ρ (.func f) = .func (.func f) #[] #[]) ∧ (∀ g, ρ (.global g) = .pointer (some ⟨g, 0, none⟩)) := ⟨_, rfl, evalC A, evalF A, evalG A⟩
theorem relPureX {P : Program} {o : Oper} {A : Act} {w : World} {Rs : List (Value → World → Prop)} {i : Nat} {Q : Exit → Act → World → Prop} (v : Value) (h : ∀ ρ, A.eval = ρ → (∀ v, ρ (.const v) = v) → (∀ f, ρ (.func f) = .func (.func f) #[] #[]) → (∀ g, ρ (.global g) = .pointer (some ⟨g, 0, none⟩)) → (execOp ρ o).run P w = .ok (.value v) w) (hr : relAt Rs i v w) :
  o.wp P A w (fun A' w' => ∃ v, A' = A.put o.dst v ∧ relAt Rs i v w' ∧ Below w.heap.size w w') Q := relPure rfl v (h _ rfl (evalC A) (evalF A) (evalG A)) hr
abbrev isV (x : Value) : Value → World → Prop := fun v _ => v = x
abbrev ptv (b o : Nat) : Value := .pointer (some ⟨b, o, none⟩)
theorem runS (P : Program) (v : Value) (h : v.oneCell' = true) : ∀ (a : Addr) (m : Mode) (W : World), (store a v m).run P W = stored P W a v m := fun a m W => run_store _ W a v m h
theorem pure1 {P : Program} {o : Oper} {A : Act} {w : World} {Rs : List (Value → World → Prop)} {i : Nat} {Q : Exit → Act → World → Prop} (v : Value) (n : Nat) (u : Value) (h1 : A.eval (.tmp n) = u) (h : ∀ ρ : Operand → Value, (∀ v, ρ (.const v) = v) → (∀ f, ρ (.func f) = .func (.func f) #[] #[]) → (∀ g, ρ (.global g) = .pointer (some ⟨g, 0, none⟩)) → ρ (.tmp n) = u → (execOp ρ o).run P w = .ok (.value v) w := by intros; simp [go_sem, ↓IntWalk.iteOmega, *]) (hr : relAt Rs i v w := by exact rfl) :
  o.wp P A w (fun A' w' => ∃ v, A' = A.put o.dst v ∧ relAt Rs i v w' ∧ Below w.heap.size w w') Q := relPure rfl v (h _ (evalC A) (evalF A) (evalG A) h1) hr
theorem pureM {P : Program} {o : Oper} {A : Act} {w : World} {Rs : List (Value → World → Prop)} {i : Nat} {Q : Exit → Act → World → Prop} (v : Value) (n : Nat) (h1 : A.eval (.tmp n) = v) (h : ∀ ρ : Operand → Value, (∀ v, ρ (.const v) = v) → (∀ f, ρ (.func f) = .func (.func f) #[] #[]) → (∀ g, ρ (.global g) = .pointer (some ⟨g, 0, none⟩)) → ρ (.tmp n) = v → (execOp ρ o).run P w = .ok (.value v) w := by intros; simp [go_sem, ↓IntWalk.iteOmega, *]) (hr : relAt Rs i v w := by exact rfl) :
  o.wp P A w (fun A' w' => ∃ v, A' = A.put o.dst v ∧ relAt Rs i v w' ∧ Below w.heap.size w w') Q := relPure rfl v (h _ (evalC A) (evalF A) (evalG A) h1) hr
theorem pure2 {P : Program} {o : Oper} {A : Act} {w : World} {Rs : List (Value → World → Prop)} {i : Nat} {Q : Exit → Act → World → Prop} (v : Value) (n : Nat) (u : Value) (h1 : A.eval (.tmp n) = u) (n2 : Nat) (u2 : Value) (h2 : A.eval (.tmp n2) = u2) (h : ∀ ρ : Operand → Value, (∀ v, ρ (.const v) = v) → (∀ f, ρ (.func f) = .func (.func f) #[] #[]) → (∀ g, ρ (.global g) = .pointer (some ⟨g, 0, none⟩)) → ρ (.tmp n) = u → ρ (.tmp n2) = u2 → (execOp ρ o).run P w = .ok (.value v) w := by intros; simp [go_sem, ↓IntWalk.iteOmega, *]) (hr : relAt Rs i v w := by exact rfl) :
  o.wp P A w (fun A' w' => ∃ v, A' = A.put o.dst v ∧ relAt Rs i v w' ∧ Below w.heap.size w w') Q := relPure rfl v (h _ (evalC A) (evalF A) (evalG A) h1 h2) hr
theorem pure3 {P : Program} {o : Oper} {A : Act} {w : World} {Rs : List (Value → World → Prop)} {i : Nat} {Q : Exit → Act → World → Prop} (v : Value) (n : Nat) (u : Value) (h1 : A.eval (.tmp n) = u) (n2 : Nat) (u2 : Value) (h2 : A.eval (.tmp n2) = u2) (n3 : Nat) (u3 : Value) (h3 : A.eval (.tmp n3) = u3) (h : ∀ ρ : Operand → Value, (∀ v, ρ (.const v) = v) → (∀ f, ρ (.func f) = .func (.func f) #[] #[]) → (∀ g, ρ (.global g) = .pointer (some ⟨g, 0, none⟩)) → ρ (.tmp n) = u → ρ (.tmp n2) = u2 → ρ (.tmp n3) = u3 → (execOp ρ o).run P w = .ok (.value v) w := by intros; simp [go_sem, ↓IntWalk.iteOmega, *]) (hr : relAt Rs i v w := by exact rfl) :
  o.wp P A w (fun A' w' => ∃ v, A' = A.put o.dst v ∧ relAt Rs i v w' ∧ Below w.heap.size w w') Q := relPure rfl v (h _ (evalC A) (evalF A) (evalG A) h1 h2 h3) hr
theorem relCall {P : Program} {o : Oper} {A : Act} {w : World} {Rs : List (Value → World → Prop)} {i : Nat} {Q : Exit → Act → World → Prop} {ρ : Operand → Value} (hρ : A.eval = ρ) (f : FuncId) (args : Array Value) (h : (execOp ρ o).run P w = .ok (.enter f args) w)
  (hc : Calls P f args w fun e w' => ∃ v, e = .returned v ∧ relAt Rs i v w' ∧ Below w.heap.size w w') :
  o.wp P A w (fun A' w' => ∃ v, A' = A.put o.dst v ∧ relAt Rs i v w' ∧ Below w.heap.size w w') Q := by
 subst hρ; exact relOp_call f args h hc
def depB (ops : List Oper) (k j : Nat) : Bool := ((ops[k]?).map fun o => o.after.any fun e => Region.binds .any e && e.on == j).getD false
def tailOk (n : Nat) (ops : List Oper) : Bool := (List.range ops.length).all fun k => decide (k < n) || (List.range k).all fun j => (List.range (k + 1)).any fun i => decide (j < i) && depB ops i j
def DownC (ops : List Oper) (listed : Array Bool) : Prop := ∀ k j, listed.getD k false = true → depB ops k j = true → listed.getD j false = true
theorem tail_all {n : Nat} {ops : List Oper} (h : tailOk n ops = true) {listed : Array Bool} (hc : DownC ops listed) {k : Nat} (hk : k < ops.length) (hn : n ≤ k) (hd : ∀ j, depB ops k j = true → listed.getD j false = true) : ∀ j, j < k → listed.getD j false = true := by
 unfold tailOk at h; simp only [List.all_eq_true, List.mem_range] at h; have h1 := h k hk; simp only [Bool.or_eq_true, decide_eq_true_eq, List.all_eq_true, List.mem_range, List.any_eq_true, Bool.and_eq_true] at h1; rcases h1 with h1 | h1
 ·omega
 have : ∀ m j, k - j = m → j < k → listed.getD j false = true := by
  intro m
  induction m using Nat.strongRecOn with
  | ind m ih =>
   intro j hm hj; obtain ⟨i, hi, hji, hdep⟩ := h1 j hj; by_cases hik : i = k
   ·subst hik; exact hd j hdep
   ·exact hc i j (ih (k - i) (by omega) i rfl (by omega)) hdep
 exact fun j hj => this _ j rfl hj
theorem ready_iff {ops : List Oper} {listed : Array Bool} {i : Nat} : i ∈ Region.ready .any ops.toArray listed ↔ i < ops.length ∧ listed.getD i true = false ∧ ∀ j, depB ops i j = true → listed.getD j false = true := by
  unfold Region.ready; simp only [List.mem_filter, List.mem_range, List.size_toArray, Bool.and_eq_true, Bool.not_eq_true']; constructor
  · rintro ⟨hi, hu, ha⟩; refine ⟨hi, hu, fun j hj => ?_⟩; have ho : ops[i]? = some ops[i] := List.getElem?_eq_getElem hi; unfold depB at hj; simp only [ho, Option.map_some, Option.getD_some, Array.any_eq_true, Bool.and_eq_true, beq_iff_eq] at hj; obtain ⟨q, hq, hb, rfl⟩ := hj; simp only [List.getElem?_toArray, ho, Option.map_some, Option.getD_some, Array.all_eq_true_iff_forall_mem] at ha; have := ha _ (Array.getElem_mem hq); rw [hb] at this; simpa using this
  · rintro ⟨hi, hu, ha⟩; refine ⟨hi, hu, ?_⟩; have ho : ops[i]? = some ops[i] := List.getElem?_eq_getElem hi; simp only [List.getElem?_toArray, ho, Option.map_some, Option.getD_some, Array.all_eq_true_iff_forall_mem]; intro e he
    cases hb : Region.binds .any e with
    | false => rfl
    | true =>
      have := ha e.on (by
        unfold depB; simp only [ho, Option.map_some, Option.getD_some, Array.any_eq_true, Bool.and_eq_true, beq_iff_eq]; obtain ⟨q, hq, rfl⟩ := Array.getElem_of_mem he; exact ⟨q, hq, hb, rfl⟩)
      simp only [Bool.not_true, Bool.false_or]; exact this
theorem downC_set {ops : List Oper} {listed : Array Bool} (h : DownC ops listed) {i : Nat} (hi : i < listed.size) (hd : ∀ j, depB ops i j = true → listed.getD j false = true) : DownC ops (listed.setIfInBounds i true) := by
 have up : ∀ j, listed.getD j false = true → (listed.setIfInBounds i true).getD j false = true := by
  intro j hj; simp only [Array.getD_eq_getD_getElem?, Array.getElem?_setIfInBounds] at hj ⊢; split
  ·rename_i e; subst e; simp [hi]
  ·exact hj
 intro k j hk hdj; by_cases hik : i = k
 ·subst hik; exact up j (hd j hdj)
 ·refine up j (h k j ?_ hdj); simpa [Array.getD_eq_getD_getElem?, Array.getElem?_setIfInBounds, hik] using hk
def depLt (ops : List Oper) : Bool := (List.range ops.length).all fun i => ((ops[i]?).map fun o => o.after.all fun e => !Region.binds .any e || decide (e.on < i)).getD true
theorem depLt_of {ops : List Oper} (h : depLt ops = true) {i j : Nat} (hi : i < ops.length) (hd : depB ops i j = true) : j < i := by
 unfold depLt at h; simp only [List.all_eq_true, List.mem_range] at h; have h1 := h i hi; have ho : ops[i]? = some ops[i] := List.getElem?_eq_getElem hi; unfold depB at hd; simp only [ho, Option.map_some, Option.getD_some, Array.any_eq_true, Bool.and_eq_true, beq_iff_eq] at hd; obtain ⟨q, hq, hb, rfl⟩ := hd; simp only [ho, Option.map_some, Option.getD_some, Array.all_eq_true_iff_forall_mem] at h1; have := h1 _ (Array.getElem_mem hq); simpa [hb] using this
theorem relTail {P : Program} {ops : List Oper} {n : Nat} {Q : Exit → Act → World → Prop} (hto : tailOk n ops = true) (hlt : depLt ops = true) : ∀ (t : List Oper) (fuel k : Nat) (listed : Array Bool) (A : Act) (w : World), n ≤ k → ops.drop k = t → listed.size = ops.length → DownC ops listed → (∀ j, j < k → listed.getD j false = true) → (∀ j, k ≤ j → listed.getD j false = false) → t.length ≤ fuel →
  wpList P ops.toArray Q t A w → wpAny P .any ops.toArray Q fuel listed A w := by
 have conv : ∀ (listed : Array Bool) (j : Nat), j < listed.size → listed.getD j true = listed.getD j false := fun listed j hj => by simp [Array.getD_eq_getD_getElem?, Array.getElem?_eq_getElem hj]
 intro t
 induction t with
 | nil =>
  intro fuel k listed A w hn hd hs hc hl hu hf h
  have hkl : ops.length ≤ k := by
   have := congrArg List.length hd; simp at this; omega
  have hr : Region.ready .any ops.toArray listed = [] := by
   rw [List.eq_nil_iff_forall_not_mem]; intro i hi; obtain ⟨h1, h2, _⟩ := ready_iff.1 hi; rw [conv _ _ (by omega), hl i (by omega)] at h2; cases h2
  cases fuel with
  | zero => exact ⟨hr, h⟩
  | succ f => exact ⟨fun _ => h, fun i hi => by rw [hr] at hi; cases hi⟩
 | cons o t ih =>
  intro fuel k listed A w hn hd hs hc hl hu hf h
  have hkl : k < ops.length := by
   have := congrArg List.length hd; simp at this; omega
  have ho : ops[k]? = some o := by
   have := congrArg (·[0]?) hd; simpa using this
  have hd' : ops.drop (k + 1) = t := by
   have := congrArg (List.drop 1) hd; simpa [List.drop_drop, Nat.add_comm] using this
  cases fuel with
  | zero => simp at hf
  | succ f =>
   have hk : k ∈ Region.ready .any ops.toArray listed := by
    refine ready_iff.2 ⟨hkl, by rw [conv _ _ (by omega)]; exact hu k (Nat.le_refl _), fun j hj => hl j (depLt_of hlt hkl hj)⟩
   refine ⟨fun hr => (by rw [hr] at hk; cases hk), fun i hi => ?_⟩; obtain ⟨h1, h2, h3⟩ := ready_iff.1 hi
   have hik : i = k := by
    rcases Nat.lt_trichotomy i k with hlt' | rfl | hgt
    ·rw [conv _ _ (by omega), hl i hlt'] at h2; cases h2
    ·rfl
    ·have := tail_all hto hc h1 (by omega) h3 k hgt; rw [hu k (Nat.le_refl _)] at this; cases this
   subst hik
   have next : ∀ (A' : Act) (w' : World), wpList P ops.toArray Q t A' w' → wpAny P .any ops.toArray Q f (listed.setIfInBounds i true) A' w' := by
    intro A' w' h'; refine ih f (i + 1) _ A' w' (by omega) hd' (by simp [hs]) (downC_set hc (by omega) h3) (fun j hj => ?_) (fun j hj => ?_) (by simp at hf; omega) h'
    ·simp only [Array.getD_eq_getD_getElem?, Array.getElem?_setIfInBounds]; split
     ·rename_i e; subst e; simp [hs, hkl]
     ·have := hl j (by omega); simpa [Array.getD_eq_getD_getElem?] using this
    ·have := hu j (by omega); simp only [Array.getD_eq_getD_getElem?, Array.getElem?_setIfInBounds] at this ⊢; rw [if_neg (by omega)]; exact this
   unfold wpList at h; unfold wpOp; simp only [List.getElem?_toArray, ho]; split
   ·rename_i hw; rw [if_pos hw] at h; exact h.imp (Oper.wp_mono next) id
   ·rename_i hw; rw [if_neg hw] at h; exact next _ _ h
def guardsIn (l : List Oper) : Bool := l.all fun o => match o.guard with
  | some (g, _) => decide (g < l.length)
  | none => true
structure RelInvT (Rs : List (Value → World → Prop)) (l ops : List Oper) (a : Act) (W : World) (listed : Array Bool) (A : Act) (w : World) : Prop where
  bel : Below W.heap.size W w
  defers : A.defers = a.defers
  size : A.tmps.size = a.tmps.size
  out : ∀ t, (l.all fun o => o.dst != some t) = true → A.eval (.tmp t) = a.eval (.tmp t)
  has : ∀ j o, l[j]? = some o → listed.getD j false = true → relAt Rs j (A.eval (.tmp (dstOf l j))) w
  len : listed.size = ops.length
  down : DownC ops listed
  rest : ∀ j, l.length ≤ j → listed.getD j false = false
theorem act_putAll {Rs : List (Value → World → Prop)} {l : List Oper} {a A : Act} (hok : relOk a.tmps.size l = true) (hsz : A.tmps.size = a.tmps.size) (hdf : A.defers = a.defers) (hout : ∀ t, (l.all fun o => o.dst != some t) = true → A.eval (.tmp t) = a.eval (.tmp t)) :
  A = putAll a (fun i => A.eval (.tmp (dstOf l i))) 0 l := by
 have hdn : ∀ o ∈ l, ∃ d, o.dst = some d ∧ d < a.tmps.size := fun o ho => by
  obtain ⟨i, hi⟩ := List.getElem?_of_mem ho; obtain ⟨h1, h2⟩ := dst_at hok hi; exact ⟨_, h1, h2⟩
 have hnd : (l.map fun o => o.dst.getD 0).Nodup := by
  unfold relOk at hok; simp only [Bool.and_eq_true, decide_eq_true_eq] at hok; exact hok.1.2
 obtain ⟨p1, p2, p3, p4⟩ := putAll_eval (u := fun i => A.eval (.tmp (dstOf l i))) l 0 a rfl hdn hnd; refine act_ext (by rw [hsz, p1]) (by rw [hdf, p2]) fun t => ?_; by_cases ht : (l.all fun o => o.dst != some t) = true
 ·rw [hout t ht, p3 t ht]
 ·rw [Bool.not_eq_true, List.all_eq_false] at ht; obtain ⟨o, ho, hne⟩ := ht; obtain ⟨i, hi⟩ := List.getElem?_of_mem ho; have hdt : o.dst = some t := (by simpa using hne)
  have := p4 i o hi; obtain ⟨h1, _⟩ := dst_at hok hi; rw [hdt] at h1 this; have h1' : t = dstOf l i := (by injection h1)
  rw [Option.getD_some] at this; rw [this, Nat.zero_add, ← h1']
theorem relAnyT {P : Program} {Rs : List (Value → World → Prop)} {l t : List Oper} {a : Act} {W : World} {Q : Exit → Act → World → Prop} (hok : relOk a.tmps.size l = true) (hto : tailOk l.length (l ++ t) = true) (hlt : depLt (l ++ t) = true) (hgi : guardsIn l = true)
  (mono : ∀ (i : Nat) (v : Value) (w w' : World), Below w.heap.size w w' → relAt Rs i v w → relAt Rs i v w')
  (steps : RelSteps P Rs l a W Q 0 l)
  (fin : ∀ (u : Nat → Value) (w : World), Below W.heap.size W w → RelAll Rs u w l.length → wpList P (l ++ t).toArray Q t (putAll a u 0 l) w) :
  ∀ (fuel : Nat) (listed : Array Bool) (A : Act) (w : World), listed.toList.count false ≤ fuel → RelInvT Rs l (l ++ t) a W listed A w → wpAny P .any (l ++ t).toArray Q fuel listed A w := by
 have conv : ∀ (listed : Array Bool) (j : Nat), j < listed.size → listed.getD j true = listed.getD j false := fun listed j hj => by simp [Array.getD_eq_getD_getElem?, Array.getElem?_eq_getElem hj]
 have done : ∀ (fuel : Nat) (listed : Array Bool) (A : Act) (w : World), listed.toList.count false ≤ fuel → RelInvT Rs l (l ++ t) a W listed A w → (∀ j, j < l.length → listed.getD j false = true) → wpAny P .any (l ++ t).toArray Q fuel listed A w := by
  intro fuel listed A w hcnt hI hall; refine relTail hto hlt t fuel l.length listed A w (Nat.le_refl _) (by simp) hI.len hI.down hall hI.rest ?_ ?_
  ·refine Nat.le_trans ?_ hcnt; have e : listed.toList = listed.toList.take l.length ++ listed.toList.drop l.length := (List.take_append_drop _ _).symm
   have hr : ∀ x ∈ listed.toList.drop l.length, x = false := by
    intro x hx; obtain ⟨i, hi, rfl⟩ := List.getElem_of_mem hx; rw [List.getElem_drop]; have h2 : l.length + i < listed.size := (by simp at hi; omega)
    have := hI.rest (l.length + i) (by omega); simpa [Array.getD_eq_getD_getElem?, Array.getElem?_eq_getElem h2] using this
   have hl2 : (listed.toList.drop l.length).length = t.length := by
    have := hI.len; simp at this ⊢; omega
   rw [e, List.count_append, List.count_eq_length.2 (fun b hb => (hr b hb).symm), hl2]; omega
  ·rw [act_putAll (Rs := Rs) hok hI.size hI.defers hI.out]; exact fin _ w hI.bel (relAll_get _ fun i hi => hI.has i l[i] (List.getElem?_eq_getElem hi) (hall i hi))
 intro fuel
 induction fuel with
 | zero =>
  intro listed A w hc hI; refine done 0 listed A w hc hI (fun j hj => ?_); have hjs : j < listed.size := (by rw [hI.len]; simp; omega)
  cases hb : listed.getD j false with
  | true => rfl
  | false =>
   have hm : false ∈ listed.toList := by
    have : listed[j] = false := (by simpa [Array.getD_eq_getD_getElem?, Array.getElem?_eq_getElem hjs] using hb)
    rw [← this]; exact Array.getElem_mem_toList hjs
   have := List.count_pos_iff.2 hm; omega
 | succ fuel ih =>
  intro listed A w hc hI; by_cases hall : ∀ j, j < l.length → listed.getD j false = true
  ·exact done _ _ _ _ hc hI hall
  have hne : ∃ i, i ∈ Region.ready .any (l ++ t).toArray listed := by
   -- the first that is not listed
   have hex : ∃ j, j < l.length ∧ listed.getD j false = false := by
    refine Classical.byContradiction fun hcon => hall fun j hj => ?_
    cases hb : listed.getD j false with
    | true => rfl
    | false => exact absurd ⟨j, hj, hb⟩ hcon
   obtain ⟨j, hj, hjf⟩ := hex
   have hmin : ∀ m, ∀ j, j ≤ m → j < l.length → listed.getD j false = false → ∃ i, i ∈ Region.ready .any (l ++ t).toArray listed := by
    intro m
    induction m with
    | zero =>
     intro j hm hj hf; obtain rfl : j = 0 := (by omega)
     refine ⟨0, ready_iff.2 ⟨by simp; omega, by rw [conv _ _ (by rw [hI.len]; simp; omega)]; exact hf, fun q hq => ?_⟩⟩; have := depLt_of hlt (by simp; omega) hq; omega
    | succ m ihm =>
     intro j hm hj hf; by_cases hex2 : ∃ q, q < j ∧ listed.getD q false = false
     ·obtain ⟨q, hq, hqf⟩ := hex2; exact ihm q (by omega) (by omega) hqf
     ·refine ⟨j, ready_iff.2 ⟨by simp; omega, by rw [conv _ _ (by rw [hI.len]; simp; omega)]; exact hf, fun q hq => ?_⟩⟩; have hqj := depLt_of hlt (by simp; omega) hq
      cases hb : listed.getD q false with
      | true => rfl
      | false => exact absurd ⟨q, hqj, hb⟩ hex2
   exact hmin j j (Nat.le_refl _) hj hjf
  refine ⟨fun hr => (by obtain ⟨i, hi⟩ := hne; rw [hr] at hi; cases hi), fun i hi => ?_⟩; obtain ⟨hil, hun, haft⟩ := ready_iff.1 hi; have hli : i < listed.size := (by rw [hI.len]; exact hil)
  have hin : i < l.length := by
   rcases Nat.lt_or_ge i l.length with h | h
   ·exact h
   ·exact absurd (fun j hj => tail_all hto hI.down hil h haft j (by omega)) hall
  have ho : l[i]? = some l[i] := List.getElem?_eq_getElem hin; have hoo : (l ++ t)[i]? = some l[i] := (by rw [List.getElem?_append_left hin]; exact ho)
  have hfalse : listed[i] = false := (by simpa [Array.getD_eq_getD_getElem?, Array.getElem?_eq_getElem hli] using hun)
  obtain ⟨hd, hdn⟩ := dst_at hok ho; have hst := relSteps_get l 0 steps i _ ho; rw [Nat.zero_add] at hst
  have pre : RelPre Rs l a W l[i] A w := by
   refine ⟨hI.bel, hI.size, hI.out, fun j hj => ?_⟩; have hdj : depB (l ++ t) i j = true := (by unfold depB; rw [hoo]; exact hj)
   have hji := depLt_of hlt hil hdj; exact hI.has j l[j] (List.getElem?_eq_getElem (by omega)) (haft j hdj)
  have next : ∀ (v : Value) (w' : World), relAt Rs i v w' → Below w.heap.size w w' → wpAny P .any (l ++ t).toArray Q fuel (listed.setIfInBounds i true) (A.put l[i].dst v) w' := by
   intro v w' hv hb; refine ih _ _ _ ?_ ?_
   ·rw [Array.toList_setIfInBounds]; have := count_set (l := listed.toList) (i := i) (by rw [Array.getElem?_toList, Array.getElem?_eq_getElem hli, hfalse]); omega
   ·have hAn : dstOf l i < A.tmps.size := (by rw [hI.size]; exact hdn)
    refine ⟨hI.bel.trans (hb.mono hI.bel.size), by rw [hd]; exact hI.defers, by rw [hd]; simp [Act.put, hI.size], fun q hq => ?_, fun j o hj hl => ?_, by simp [hI.len], downC_set hI.down hli haft, fun j hj => ?_⟩
    ·rw [hd, getD_put _ _ _ _ hAn, if_neg, hI.out q hq]; rintro rfl; rw [List.all_eq_true] at hq; have := hq _ (List.mem_of_getElem? ho); rw [hd] at this; simp at this
    ·rw [hd, getD_put _ _ _ _ hAn]; by_cases hji : dstOf l j = dstOf l i
     ·have := dst_inj hok hj ho hji; subst this; rw [if_pos rfl]; exact hv
     ·rw [if_neg hji]; have hne : i ≠ j := (by rintro rfl; exact hji rfl)
      refine mono _ _ _ _ hb (hI.has j o hj ?_); simpa [Array.getD_eq_getD_getElem?, Array.getElem?_setIfInBounds, hne] using hl
    ·have := hI.rest j hj; simp only [Array.getD_eq_getD_getElem?, Array.getElem?_setIfInBounds] at this ⊢; rw [if_neg (by omega)]; exact this
  have hs := hst A w pre
  have hwant : Region.wanted l[i] (yielded (l ++ t).toArray A.tmps) = Region.wanted l[i] (yielded l.toArray A.tmps) := by
   unfold guardsIn at hgi; rw [List.all_eq_true] at hgi; have hg := hgi _ (List.mem_of_getElem? ho)
   cases hgd : l[i].guard with
   | none => simp [Region.wanted, hgd]
   | some gb =>
    obtain ⟨g, b⟩ := gb; rw [hgd] at hg; have hgl : g < l.length := (by simpa using hg)
    have : yielded (l ++ t).toArray A.tmps g = yielded l.toArray A.tmps g := by
     unfold yielded; simp only [List.getElem?_toArray, List.getElem?_append_left hgl]
    simp [Region.wanted, hgd, this]
  unfold wpOp; simp only [List.getElem?_toArray, hoo]; rw [hwant]; split
  ·rename_i hw; rw [if_pos hw] at hs; refine .inl (Oper.wp_mono ?_ hs); rintro A' w' ⟨v, rfl, hv, hb⟩; exact next v w' hv hb
  ·rename_i hw; rw [if_neg hw] at hs; exact next undef w hs (Below.refl _ _)
theorem wp_region_relT {P : Program} {id : Nat} {Q : Exit → Act → World → Prop} {a : Act} {W : World} {ops : List Oper} (n : Nat) (Rs : List (Value → World → Prop)) (hm : P.follows .mixedOrders = true) (hok : relOk a.tmps.size (ops.take n) = true) (hto : tailOk (ops.take n).length ops = true) (hlt : depLt ops = true) (hgi : guardsIn (ops.take n) = true)
  (mono : ∀ (i : Nat) (v : Value) (w w' : World), Below w.heap.size w w' → relAt Rs i v w → relAt Rs i v w')
  (steps : RelSteps P Rs (ops.take n) a W Q 0 (ops.take n))
  (fin : ∀ (u : Nat → Value) (w : World), Below W.heap.size W w → RelAll Rs u w (ops.take n).length → wpList P ops.toArray Q (ops.drop n) (putAll a u 0 (ops.take n)) w) : (Code.region id ops.toArray true).wp P Q a W := by
 have e : ops.take n ++ ops.drop n = ops := List.take_append_drop _ _; have key := relAnyT (t := ops.drop n) (l := ops.take n) hok (by rw [e]; exact hto) (by rw [e]; exact hlt) hgi mono steps (by rw [e]; exact fin); rw [e] at key; refine wp_region_any hm (key _ _ _ _ ?_ ⟨⟨rfl, rfl, rfl, Nat.le_refl _, fun _ _ => rfl⟩, rfl, rfl, fun _ _ => rfl, fun j o hj hl => ?_, by simp, fun k j hk hd => ?_, fun j hj => ?_⟩)
 ·simp
 ·exfalso
  simp only [Array.getD_eq_getD_getElem?, Array.getElem?_replicate] at hl; split at hl <;> simp at hl
 ·exfalso
  simp only [Array.getD_eq_getD_getElem?, Array.getElem?_replicate] at hk; split at hk <;> simp at hk
 ·simp only [Array.getD_eq_getD_getElem?, Array.getElem?_replicate]; split <;> simp
def QF : Exit → Act → World → Prop := fun _ _ _ => False
def noDefer (o : Oper) : Bool := match o.op with
  | .defer _ => false
  | _ => true
theorem rowsIn_round {P : Program} {l0 dp : Nat} {row : String} {args : Array Value} {w : World} {R : Value → World → Prop} (h : Rows P row args w R) : RowsIn (Fence.wide.inRound l0) dp P row args w R :=
 fun c cs _ => let ⟨v, w', r, s⟩ := h c cs; ⟨v, w', r, stepsIn_wide.2 s⟩
theorem wpIn_of_wp {P : Program} {l0 dp : Nat} {o : Oper} {A : Act} {w : World} {K : Act → World → Prop} {Q : Exit → Act → World → Prop} (hn : noDefer o = true) (h : o.wp P A w K QF) : o.wpIn (Fence.wide.inRound l0) dp P A w K Q := by
 have hsem : o.semAt (Fence.wide.inRound l0).round A.eval = execOp A.eval o := Oper.semAt_eq _ _ _ (fun c hc => by unfold noDefer at hn; rw [hc] at hn; cases hn); unfold Oper.wp at h; refine ⟨fun _ _ => trivial, ?_⟩; rw [hsem]
 generalize (execOp A.eval o).run P w = r at h
 cases r with
 | ok x w' =>
  cases x <;> simp only [Oper.upon, Oper.uponIn] at h ⊢ <;> first | exact h | skip
  ·refine ⟨fun hd => (by cases hd), (CallsIn.inRound l0 (callsIn_wide.2 h)).mono ?_⟩; intro e w2 he
   cases e with
   | returned v => exact he
   | panicked ch => exact he.elim
   | outgrown => obtain ⟨_, _, hf⟩ := he; exact hf.elim
  ·exact ⟨fun hd => (by cases hd), rowsIn_round h⟩
 | halt x w' => cases x <;> simp only [Oper.upon, Oper.uponIn] at h ⊢ <;> first | exact h | exact h.elim
theorem relTailIn {P : Program} {l0 dp : Nat} {ops : List Oper} {n : Nat} {Q : Exit → Act → World → Prop} (hto : tailOk n ops = true) (hlt : depLt ops = true) : ∀ (t : List Oper) (fuel k : Nat) (listed : Array Bool) (A : Act) (w : World), n ≤ k → ops.drop k = t → listed.size = ops.length → DownC ops listed → (∀ j, j < k → listed.getD j false = true) → (∀ j, k ≤ j → listed.getD j false = false) → t.length ≤ fuel →
  wpListIn (Fence.wide.inRound l0) dp P ops.toArray Q t A w → wpAnyIn (Fence.wide.inRound l0) dp P .any ops.toArray Q fuel listed A w := by
 have conv : ∀ (listed : Array Bool) (j : Nat), j < listed.size → listed.getD j true = listed.getD j false := fun listed j hj => by simp [Array.getD_eq_getD_getElem?, Array.getElem?_eq_getElem hj]
 intro t
 induction t with
 | nil =>
  intro fuel k listed A w hn hd hs hc hl hu hf h
  have hkl : ops.length ≤ k := by
   have := congrArg List.length hd; simp at this; omega
  have hr : Region.ready .any ops.toArray listed = [] := by
   rw [List.eq_nil_iff_forall_not_mem]; intro i hi; obtain ⟨h1, h2, _⟩ := ready_iff.1 hi; rw [conv _ _ (by omega), hl i (by omega)] at h2; cases h2
  cases fuel with
  | zero => exact ⟨hr, h⟩
  | succ f => exact ⟨fun _ => h, fun i hi => by rw [hr] at hi; cases hi⟩
 | cons o t ih =>
  intro fuel k listed A w hn hd hs hc hl hu hf h
  have hkl : k < ops.length := by
   have := congrArg List.length hd; simp at this; omega
  have ho : ops[k]? = some o := by
   have := congrArg (·[0]?) hd; simpa using this
  have hd' : ops.drop (k + 1) = t := by
   have := congrArg (List.drop 1) hd; simpa [List.drop_drop, Nat.add_comm] using this
  cases fuel with
  | zero => simp at hf
  | succ f =>
   have hk : k ∈ Region.ready .any ops.toArray listed := by
    refine ready_iff.2 ⟨hkl, by rw [conv _ _ (by omega)]; exact hu k (Nat.le_refl _), fun j hj => hl j (depLt_of hlt hkl hj)⟩
   refine ⟨fun hr => (by rw [hr] at hk; cases hk), fun i hi => ?_⟩; obtain ⟨h1, h2, h3⟩ := ready_iff.1 hi
   have hik : i = k := by
    rcases Nat.lt_trichotomy i k with hlt' | rfl | hgt
    ·rw [conv _ _ (by omega), hl i hlt'] at h2; cases h2
    ·rfl
    ·have := tail_all hto hc h1 (by omega) h3 k hgt; rw [hu k (Nat.le_refl _)] at this; cases this
   subst hik
   have next : ∀ (A' : Act) (w' : World), wpListIn (Fence.wide.inRound l0) dp P ops.toArray Q t A' w' → wpAnyIn (Fence.wide.inRound l0) dp P .any ops.toArray Q f (listed.setIfInBounds i true) A' w' := by
    intro A' w' h'; refine ih f (i + 1) _ A' w' (by omega) hd' (by simp [hs]) (downC_set hc (by omega) h3) (fun j hj => ?_) (fun j hj => ?_) (by simp at hf; omega) h'
    ·simp only [Array.getD_eq_getD_getElem?, Array.getElem?_setIfInBounds]; split
     ·rename_i e; subst e; simp [hs, hkl]
     ·have := hl j (by omega); simpa [Array.getD_eq_getD_getElem?] using this
    ·have := hu j (by omega); simp only [Array.getD_eq_getD_getElem?, Array.getElem?_setIfInBounds] at this ⊢; rw [if_neg (by omega)]; exact this
   unfold wpListIn at h; unfold wpOpIn; simp only [List.getElem?_toArray, ho]; split
   ·rename_i hw; rw [if_pos hw] at h; exact Oper.wpIn_mono next h
   ·rename_i hw; rw [if_neg hw] at h; exact ⟨h.1, next _ _ h.2⟩
theorem relAnyIn {P : Program} {l0 dp : Nat} {Rs : List (Value → World → Prop)} {l t : List Oper} {a : Act} {W : World} {Q : Exit → Act → World → Prop} (hok : relOk a.tmps.size l = true) (hto : tailOk l.length (l ++ t) = true) (hlt : depLt (l ++ t) = true) (hgi : guardsIn l = true)
  (mono : ∀ (i : Nat) (v : Value) (w w' : World), Below w.heap.size w w' → relAt Rs i v w → relAt Rs i v w')
  (hnd : (l.all fun o => noDefer o) = true) (steps : RelSteps P Rs l a W QF 0 l)
  (fin : ∀ (u : Nat → Value) (w : World), Below W.heap.size W w → RelAll Rs u w l.length → wpListIn (Fence.wide.inRound l0) dp P (l ++ t).toArray Q t (putAll a u 0 l) w) :
  ∀ (fuel : Nat) (listed : Array Bool) (A : Act) (w : World), listed.toList.count false ≤ fuel → RelInvT Rs l (l ++ t) a W listed A w → wpAnyIn (Fence.wide.inRound l0) dp P .any (l ++ t).toArray Q fuel listed A w := by
 have conv : ∀ (listed : Array Bool) (j : Nat), j < listed.size → listed.getD j true = listed.getD j false := fun listed j hj => by simp [Array.getD_eq_getD_getElem?, Array.getElem?_eq_getElem hj]
 have done : ∀ (fuel : Nat) (listed : Array Bool) (A : Act) (w : World), listed.toList.count false ≤ fuel → RelInvT Rs l (l ++ t) a W listed A w → (∀ j, j < l.length → listed.getD j false = true) → wpAnyIn (Fence.wide.inRound l0) dp P .any (l ++ t).toArray Q fuel listed A w := by
  intro fuel listed A w hcnt hI hall; refine relTailIn hto hlt t fuel l.length listed A w (Nat.le_refl _) (by simp) hI.len hI.down hall hI.rest ?_ ?_
  ·refine Nat.le_trans ?_ hcnt; have e : listed.toList = listed.toList.take l.length ++ listed.toList.drop l.length := (List.take_append_drop _ _).symm
   have hr : ∀ x ∈ listed.toList.drop l.length, x = false := by
    intro x hx; obtain ⟨i, hi, rfl⟩ := List.getElem_of_mem hx; rw [List.getElem_drop]; have h2 : l.length + i < listed.size := (by simp at hi; omega)
    have := hI.rest (l.length + i) (by omega); simpa [Array.getD_eq_getD_getElem?, Array.getElem?_eq_getElem h2] using this
   have hl2 : (listed.toList.drop l.length).length = t.length := by
    have := hI.len; simp at this ⊢; omega
   rw [e, List.count_append, List.count_eq_length.2 (fun b hb => (hr b hb).symm), hl2]; omega
  ·rw [act_putAll (Rs := Rs) hok hI.size hI.defers hI.out]; exact fin _ w hI.bel (relAll_get _ fun i hi => hI.has i l[i] (List.getElem?_eq_getElem hi) (hall i hi))
 intro fuel
 induction fuel with
 | zero =>
  intro listed A w hc hI; refine done 0 listed A w hc hI (fun j hj => ?_); have hjs : j < listed.size := (by rw [hI.len]; simp; omega)
  cases hb : listed.getD j false with
  | true => rfl
  | false =>
   have hm : false ∈ listed.toList := by
    have : listed[j] = false := (by simpa [Array.getD_eq_getD_getElem?, Array.getElem?_eq_getElem hjs] using hb)
    rw [← this]; exact Array.getElem_mem_toList hjs
   have := List.count_pos_iff.2 hm; omega
 | succ fuel ih =>
  intro listed A w hc hI; by_cases hall : ∀ j, j < l.length → listed.getD j false = true
  ·exact done _ _ _ _ hc hI hall
  have hne : ∃ i, i ∈ Region.ready .any (l ++ t).toArray listed := by
   -- the first that is not listed
   have hex : ∃ j, j < l.length ∧ listed.getD j false = false := by
    refine Classical.byContradiction fun hcon => hall fun j hj => ?_
    cases hb : listed.getD j false with
    | true => rfl
    | false => exact absurd ⟨j, hj, hb⟩ hcon
   obtain ⟨j, hj, hjf⟩ := hex
   have hmin : ∀ m, ∀ j, j ≤ m → j < l.length → listed.getD j false = false → ∃ i, i ∈ Region.ready .any (l ++ t).toArray listed := by
    intro m
    induction m with
    | zero =>
     intro j hm hj hf; obtain rfl : j = 0 := (by omega)
     refine ⟨0, ready_iff.2 ⟨by simp; omega, by rw [conv _ _ (by rw [hI.len]; simp; omega)]; exact hf, fun q hq => ?_⟩⟩; have := depLt_of hlt (by simp; omega) hq; omega
    | succ m ihm =>
     intro j hm hj hf; by_cases hex2 : ∃ q, q < j ∧ listed.getD q false = false
     ·obtain ⟨q, hq, hqf⟩ := hex2; exact ihm q (by omega) (by omega) hqf
     ·refine ⟨j, ready_iff.2 ⟨by simp; omega, by rw [conv _ _ (by rw [hI.len]; simp; omega)]; exact hf, fun q hq => ?_⟩⟩; have hqj := depLt_of hlt (by simp; omega) hq
      cases hb : listed.getD q false with
      | true => rfl
      | false => exact absurd ⟨q, hqj, hb⟩ hex2
   exact hmin j j (Nat.le_refl _) hj hjf
  refine ⟨fun hr => (by obtain ⟨i, hi⟩ := hne; rw [hr] at hi; cases hi), fun i hi => ?_⟩; obtain ⟨hil, hun, haft⟩ := ready_iff.1 hi; have hli : i < listed.size := (by rw [hI.len]; exact hil)
  have hin : i < l.length := by
   rcases Nat.lt_or_ge i l.length with h | h
   ·exact h
   ·exact absurd (fun j hj => tail_all hto hI.down hil h haft j (by omega)) hall
  have ho : l[i]? = some l[i] := List.getElem?_eq_getElem hin; have hoo : (l ++ t)[i]? = some l[i] := (by rw [List.getElem?_append_left hin]; exact ho)
  have hfalse : listed[i] = false := (by simpa [Array.getD_eq_getD_getElem?, Array.getElem?_eq_getElem hli] using hun)
  obtain ⟨hd, hdn⟩ := dst_at hok ho; have hst := relSteps_get l 0 steps i _ ho; rw [Nat.zero_add] at hst
  have pre : RelPre Rs l a W l[i] A w := by
   refine ⟨hI.bel, hI.size, hI.out, fun j hj => ?_⟩; have hdj : depB (l ++ t) i j = true := (by unfold depB; rw [hoo]; exact hj)
   have hji := depLt_of hlt hil hdj; exact hI.has j l[j] (List.getElem?_eq_getElem (by omega)) (haft j hdj)
  have next : ∀ (v : Value) (w' : World), relAt Rs i v w' → Below w.heap.size w w' → wpAnyIn (Fence.wide.inRound l0) dp P .any (l ++ t).toArray Q fuel (listed.setIfInBounds i true) (A.put l[i].dst v) w' := by
   intro v w' hv hb; refine ih _ _ _ ?_ ?_
   ·rw [Array.toList_setIfInBounds]; have := count_set (l := listed.toList) (i := i) (by rw [Array.getElem?_toList, Array.getElem?_eq_getElem hli, hfalse]); omega
   ·have hAn : dstOf l i < A.tmps.size := (by rw [hI.size]; exact hdn)
    refine ⟨hI.bel.trans (hb.mono hI.bel.size), by rw [hd]; exact hI.defers, by rw [hd]; simp [Act.put, hI.size], fun q hq => ?_, fun j o hj hl => ?_, by simp [hI.len], downC_set hI.down hli haft, fun j hj => ?_⟩
    ·rw [hd, getD_put _ _ _ _ hAn, if_neg, hI.out q hq]; rintro rfl; rw [List.all_eq_true] at hq; have := hq _ (List.mem_of_getElem? ho); rw [hd] at this; simp at this
    ·rw [hd, getD_put _ _ _ _ hAn]; by_cases hji : dstOf l j = dstOf l i
     ·have := dst_inj hok hj ho hji; subst this; rw [if_pos rfl]; exact hv
     ·rw [if_neg hji]; have hne : i ≠ j := (by rintro rfl; exact hji rfl)
      refine mono _ _ _ _ hb (hI.has j o hj ?_); simpa [Array.getD_eq_getD_getElem?, Array.getElem?_setIfInBounds, hne] using hl
    ·have := hI.rest j hj; simp only [Array.getD_eq_getD_getElem?, Array.getElem?_setIfInBounds] at this ⊢; rw [if_neg (by omega)]; exact this
  have hs := hst A w pre
  have hwant : Region.wanted l[i] (yielded (l ++ t).toArray A.tmps) = Region.wanted l[i] (yielded l.toArray A.tmps) := by
   unfold guardsIn at hgi; rw [List.all_eq_true] at hgi; have hg := hgi _ (List.mem_of_getElem? ho)
   cases hgd : l[i].guard with
   | none => simp [Region.wanted, hgd]
   | some gb =>
    obtain ⟨g, b⟩ := gb; rw [hgd] at hg; have hgl : g < l.length := (by simpa using hg)
    have : yielded (l ++ t).toArray A.tmps g = yielded l.toArray A.tmps g := by
     unfold yielded; simp only [List.getElem?_toArray, List.getElem?_append_left hgl]
    simp [Region.wanted, hgd, this]
  unfold wpOpIn; simp only [List.getElem?_toArray, hoo]; rw [hwant]; split
  ·rename_i hw; rw [if_pos hw] at hs; refine Oper.wpIn_mono ?_ (wpIn_of_wp (List.all_eq_true.1 hnd _ (List.mem_of_getElem? ho)) hs); rintro A' w' ⟨v, rfl, hv, hb⟩; exact next v w' hv hb
  ·rename_i hw; rw [if_neg hw] at hs; exact ⟨fun _ _ => trivial, next undef w hs (Below.refl _ _)⟩
theorem wpIn_region_rel {P : Program} {l0 dp : Nat} {id : Nat} {Q : Exit → Act → World → Prop} {a : Act} {W : World} {ops : List Oper} (n : Nat) (Rs : List (Value → World → Prop)) (hm : P.follows .mixedOrders = true) (hok : relOk a.tmps.size (ops.take n) = true) (hto : tailOk (ops.take n).length ops = true) (hlt : depLt ops = true) (hgi : guardsIn (ops.take n) = true)
  (mono : ∀ (i : Nat) (v : Value) (w w' : World), Below w.heap.size w w' → relAt Rs i v w → relAt Rs i v w')
  (hnd : ((ops.take n).all fun o => noDefer o) = true) (steps : RelSteps P Rs (ops.take n) a W QF 0 (ops.take n))
  (fin : ∀ (u : Nat → Value) (w : World), Below W.heap.size W w → RelAll Rs u w (ops.take n).length → wpListIn (Fence.wide.inRound l0) dp P ops.toArray Q (ops.drop n) (putAll a u 0 (ops.take n)) w) : (Code.region id ops.toArray true).wpIn (Fence.wide.inRound l0) dp P Q a W := by
 have e : ops.take n ++ ops.drop n = ops := List.take_append_drop _ _; have key := relAnyIn (t := ops.drop n) (l := ops.take n) hok (by rw [e]; exact hto) (by rw [e]; exact hlt) hgi mono hnd steps (by rw [e]; exact fin); rw [e] at key; refine wpIn_region_any hm (key _ _ _ _ ?_ ⟨⟨rfl, rfl, rfl, Nat.le_refl _, fun _ _ => rfl⟩, rfl, rfl, fun _ _ => rfl, fun j o hj hl => ?_, by simp, fun k j hk hd => ?_, fun j hj => ?_⟩)
 ·simp
 ·exfalso
  simp only [Array.getD_eq_getD_getElem?, Array.getElem?_replicate] at hl; split at hl <;> simp at hl
 ·exfalso
  simp only [Array.getD_eq_getD_getElem?, Array.getElem?_replicate] at hk; split at hk <;> simp at hk
 ·simp only [Array.getD_eq_getD_getElem?, Array.getElem?_replicate]; split <;> simp
structure RelPreE (B : Nat) (Rs : List (Value → World → Prop)) (Ps : Nat → World → Prop) (l : List Oper) (a : Act) (W : World) (i : Nat) (o : Oper) (Dn : Nat → Bool) (A : Act) (w : World) : Prop where
  bel : Below B W w
  size : A.tmps.size = a.tmps.size
  out : ∀ t, (l.all fun o => o.dst != some t) = true → A.eval (.tmp t) = a.eval (.tmp t)
  has : ∀ j, Dn j = true → relAt Rs j (A.eval (.tmp (dstOf l j))) w
  dep : ∀ j, (o.after.any fun e => Region.binds .any e && e.on == j) = true → relAt Rs j (A.eval (.tmp (dstOf l j))) w
  pre : Ps i w
def RelStepE (P : Program) (B : Nat) (Rs : List (Value → World → Prop)) (Ps : Nat → World → Prop) (Eff : Nat → World → World → Prop) (Pr : Nat → Nat → Value → Value → Prop) (l : List Oper) (a : Act) (W : World) (Q : Exit → Act → World → Prop) (i : Nat) (o : Oper) : Prop :=
  ∀ (Dn : Nat → Bool) (A : Act) (w : World), RelPreE B Rs Ps l a W i o Dn A w → o.wp P A w (fun A' w' => ∃ v, A' = A.put o.dst v ∧ relAt Rs i v w' ∧ Eff i w w' ∧ ∀ j, Dn j = true → Pr i j v (A.eval (.tmp (dstOf l j)))) Q
def RelStepsE (P : Program) (B : Nat) (Rs : List (Value → World → Prop)) (Ps : Nat → World → Prop) (Eff : Nat → World → World → Prop) (Pr : Nat → Nat → Value → Value → Prop) (l : List Oper) (a : Act) (W : World) (Q : Exit → Act → World → Prop) : Nat → List Oper → Prop
  | _, [] => True
  | i, o :: r => RelStepE P B Rs Ps Eff Pr l a W Q i o ∧ RelStepsE P B Rs Ps Eff Pr l a W Q (i + 1) r
theorem relStepsE_get {P : Program} {B : Nat} {Rs : List (Value → World → Prop)} {Ps : Nat → World → Prop} {Eff : Nat → World → World → Prop} {Pr : Nat → Nat → Value → Value → Prop} {l : List Oper} {a : Act} {W : World} {Q : Exit → Act → World → Prop} :
  ∀ (r : List Oper) (k : Nat), RelStepsE P B Rs Ps Eff Pr l a W Q k r → ∀ (i : Nat) (o : Oper), r[i]? = some o → RelStepE P B Rs Ps Eff Pr l a W Q (k + i) o
 | [], _, _, i, o, h => by simp at h
 | x :: r, k, h, 0, o, ho => by simp at ho; subst ho; exact h.1
 | x :: r, k, h, i + 1, o, ho => by
  have := relStepsE_get r (k + 1) h.2 i o (by simpa using ho)
  rwa [Nat.add_assoc, Nat.add_comm 1 i] at this
theorem relE_of {P : Program} {B : Nat} {Rs : List (Value → World → Prop)} {Ps : Nat → World → Prop} {Eff : Nat → World → World → Prop} {Pr : Nat → Nat → Value → Value → Prop} {l : List Oper} {a : Act} {W : World} {Q : Exit → Act → World → Prop} {i : Nat} {o : Oper}
  (he : Eff i = fun w w' => Below w.heap.size w w') (hp : ∀ j v v', Pr i j v v')
  (h : ∀ (Dn : Nat → Bool) (A : Act) (w : World), RelPreE B Rs Ps l a W i o Dn A w → o.wp P A w (fun A' w' => ∃ v, A' = A.put o.dst v ∧ relAt Rs i v w' ∧ Below w.heap.size w w') Q) : RelStepE P B Rs Ps Eff Pr l a W Q i o := by
 intro Dn A w hpre; refine Oper.wp_mono ?_ (h Dn A w hpre); rintro A' w' ⟨v, rfl, h1, h2⟩; exact ⟨v, rfl, h1, by rw [he]; exact h2, fun j _ => hp _ _ _⟩
theorem own_apartR {w w' : World} {base size n : Nat} {e : TypeId} {v : Value} {xs : List Value} {row : Option Nat} (h : w.ownsRow base e size v n xs) (hg : w.grownBy w' row) (hne : ∀ k, v.ownBlock = some k → some k ≠ row) : w'.ownsRow base e size v n xs := by
 refine ⟨h.1, ?_⟩; rcases h.2 with h3 | ⟨g, cap, cur, e1, e2, e3, rest⟩
 ·exact .inl h3
 ·refine .inr ⟨g, cap, cur, e1, e2, ?_, rest⟩; have hgl : g < w.heap.size := (Array.getElem?_eq_some_iff.1 e3).1; rw [hg.block g hgl (hne g (by rw [e1]; rfl))]; exact e3
structure RelInvET (B : Nat) (Rs : List (Value → World → Prop)) (Ps : Nat → World → Prop) (Pr : Nat → Nat → Value → Value → Prop) (l ops : List Oper) (a : Act) (W : World) (listed : Array Bool) (A : Act) (w : World) : Prop where
  low : B ≤ w.heap.size
  bel : Below B W w
  defers : A.defers = a.defers
  size : A.tmps.size = a.tmps.size
  out : ∀ t, (l.all fun o => o.dst != some t) = true → A.eval (.tmp t) = a.eval (.tmp t)
  has : ∀ j, listed.getD j false = true → relAt Rs j (A.eval (.tmp (dstOf l j))) w
  pre : ∀ j, j < l.length → listed.getD j false = false → Ps j w
  prs : ∀ i j, i ≠ j → listed.getD i false = true → listed.getD j false = true → Pr i j (A.eval (.tmp (dstOf l i))) (A.eval (.tmp (dstOf l j)))
  len : listed.size = ops.length
  down : DownC ops listed
  rest : ∀ j, l.length ≤ j → listed.getD j false = false
theorem relAnyET {P : Program} {B : Nat} {Rs : List (Value → World → Prop)} {Ps : Nat → World → Prop} {Eff : Nat → World → World → Prop} {Pr : Nat → Nat → Value → Value → Prop} {l t : List Oper} {a : Act} {W : World} {Q : Exit → Act → World → Prop} (hok : relOk a.tmps.size l = true) (hng : (l.all fun o => o.guard.isNone) = true) (hto : tailOk l.length (l ++ t) = true) (hlt : depLt (l ++ t) = true)
  (hE : ∀ i w w', B ≤ w.heap.size → Eff i w w' → Below B w w')
  (monoR : ∀ (i j : Nat) (v : Value) (w w' : World), i ≠ j → B ≤ w.heap.size → Eff j w w' → relAt Rs i v w → relAt Rs i v w')
  (monoP : ∀ (i j : Nat) (w w' : World), i ≠ j → B ≤ w.heap.size → Eff j w w' → Ps i w → Ps i w')
  (sym : ∀ i j v v', Pr i j v v' → Pr j i v' v)
  (steps : RelStepsE P B Rs Ps Eff Pr l a W Q 0 l)
  (fin : ∀ (u : Nat → Value) (w : World), Below B W w → RelAll Rs u w l.length → (∀ i j, i ≠ j → i < l.length → j < l.length → Pr i j (u i) (u j)) → wpList P (l ++ t).toArray Q t (putAll a u 0 l) w) :
  ∀ (fuel : Nat) (listed : Array Bool) (A : Act) (w : World), listed.toList.count false ≤ fuel → RelInvET B Rs Ps Pr l (l ++ t) a W listed A w → wpAny P .any (l ++ t).toArray Q fuel listed A w := by
 have conv : ∀ (listed : Array Bool) (j : Nat), j < listed.size → listed.getD j true = listed.getD j false := fun listed j hj => by simp [Array.getD_eq_getD_getElem?, Array.getElem?_eq_getElem hj]
 have done : ∀ (fuel : Nat) (listed : Array Bool) (A : Act) (w : World), listed.toList.count false ≤ fuel → RelInvET B Rs Ps Pr l (l ++ t) a W listed A w → (∀ j, j < l.length → listed.getD j false = true) → wpAny P .any (l ++ t).toArray Q fuel listed A w := by
  intro fuel listed A w hcnt hI hall; refine relTail hto hlt t fuel l.length listed A w (Nat.le_refl _) (by simp) hI.len hI.down hall hI.rest ?_ ?_
  ·refine Nat.le_trans ?_ hcnt; have e : listed.toList = listed.toList.take l.length ++ listed.toList.drop l.length := (List.take_append_drop _ _).symm
   have hr : ∀ x ∈ listed.toList.drop l.length, x = false := by
    intro x hx; obtain ⟨i, hi, rfl⟩ := List.getElem_of_mem hx; rw [List.getElem_drop]; have h2 : l.length + i < listed.size := (by simp at hi; omega)
    have := hI.rest (l.length + i) (by omega); simpa [Array.getD_eq_getD_getElem?, Array.getElem?_eq_getElem h2] using this
   have hl2 : (listed.toList.drop l.length).length = t.length := by
    have := hI.len; simp at this ⊢; omega
   rw [e, List.count_append, List.count_eq_length.2 (fun b hb => (hr b hb).symm), hl2]; omega
  ·rw [act_putAll (Rs := Rs) hok hI.size hI.defers hI.out]; exact fin _ w hI.bel (relAll_get _ fun i hi => hI.has i (hall i hi)) (fun i j hij hi hj => hI.prs i j hij (hall i hi) (hall j hj))
 intro fuel
 induction fuel with
 | zero =>
  intro listed A w hc hI; refine done 0 listed A w hc hI (fun j hj => ?_); have hjs : j < listed.size := (by rw [hI.len]; simp; omega)
  cases hb : listed.getD j false with
  | true => rfl
  | false =>
   have hm : false ∈ listed.toList := by
    have : listed[j] = false := (by simpa [Array.getD_eq_getD_getElem?, Array.getElem?_eq_getElem hjs] using hb)
    rw [← this]; exact Array.getElem_mem_toList hjs
   have := List.count_pos_iff.2 hm; omega
 | succ fuel ih =>
  intro listed A w hc hI; by_cases hall : ∀ j, j < l.length → listed.getD j false = true
  ·exact done _ _ _ _ hc hI hall
  have hne : ∃ i, i ∈ Region.ready .any (l ++ t).toArray listed := by
   have hex : ∃ j, j < l.length ∧ listed.getD j false = false := by
    refine Classical.byContradiction fun hcon => hall fun j hj => ?_
    cases hb : listed.getD j false with
    | true => rfl
    | false => exact absurd ⟨j, hj, hb⟩ hcon
   obtain ⟨j, hj, hjf⟩ := hex
   have hmin : ∀ m, ∀ j, j ≤ m → j < l.length → listed.getD j false = false → ∃ i, i ∈ Region.ready .any (l ++ t).toArray listed := by
    intro m
    induction m with
    | zero =>
     intro j hm hj hf; obtain rfl : j = 0 := (by omega)
     refine ⟨0, ready_iff.2 ⟨by simp; omega, by rw [conv _ _ (by rw [hI.len]; simp; omega)]; exact hf, fun q hq => ?_⟩⟩; have := depLt_of hlt (by simp; omega) hq; omega
    | succ m ihm =>
     intro j hm hj hf; by_cases hex2 : ∃ q, q < j ∧ listed.getD q false = false
     ·obtain ⟨q, hq, hqf⟩ := hex2; exact ihm q (by omega) (by omega) hqf
     ·refine ⟨j, ready_iff.2 ⟨by simp; omega, by rw [conv _ _ (by rw [hI.len]; simp; omega)]; exact hf, fun q hq => ?_⟩⟩; have hqj := depLt_of hlt (by simp; omega) hq
      cases hb : listed.getD q false with
      | true => rfl
      | false => exact absurd ⟨q, hqj, hb⟩ hex2
   exact hmin j j (Nat.le_refl _) hj hjf
  refine ⟨fun hr => (by obtain ⟨i, hi⟩ := hne; rw [hr] at hi; cases hi), fun i hi => ?_⟩; obtain ⟨hil, hun, haft⟩ := ready_iff.1 hi; have hli : i < listed.size := (by rw [hI.len]; exact hil)
  have hin : i < l.length := by
   rcases Nat.lt_or_ge i l.length with h | h
   ·exact h
   ·exact absurd (fun j hj => tail_all hto hI.down hil h haft j (by omega)) hall
  have ho : l[i]? = some l[i] := List.getElem?_eq_getElem hin; have hoo : (l ++ t)[i]? = some l[i] := (by rw [List.getElem?_append_left hin]; exact ho)
  have hfalse : listed[i] = false := (by simpa [Array.getD_eq_getD_getElem?, Array.getElem?_eq_getElem hli] using hun)
  have hfd : listed.getD i false = false := (by rw [← conv _ _ hli]; exact hun)
  obtain ⟨hd, hdn⟩ := dst_at hok ho; have hst := relStepsE_get l 0 steps i _ ho; rw [Nat.zero_add] at hst
  have pre : RelPreE B Rs Ps l a W i l[i] (fun j => listed.getD j false) A w := by
   refine ⟨hI.bel, hI.size, hI.out, hI.has, fun j hj => ?_, hI.pre i hin hfd⟩; have hdj : depB (l ++ t) i j = true := (by unfold depB; rw [hoo]; exact hj)
   exact hI.has j (haft j hdj)
  have next : ∀ (v : Value) (w' : World), relAt Rs i v w' → Eff i w w' → (∀ j, listed.getD j false = true → Pr i j v (A.eval (.tmp (dstOf l j)))) → wpAny P .any (l ++ t).toArray Q fuel (listed.setIfInBounds i true) (A.put l[i].dst v) w' := by
   intro v w' hv hb hp; have hB := hE i w w' hI.low hb
   have up : ∀ j, (listed.setIfInBounds i true).getD j false = true → j = i ∨ (j ≠ i ∧ listed.getD j false = true) := fun j hj => by
    by_cases e : i = j
    ·exact .inl e.symm
    ·refine .inr ⟨fun e' => e e'.symm, ?_⟩; simpa [Array.getD_eq_getD_getElem?, Array.getElem?_setIfInBounds, e] using hj
   have hAn : dstOf l i < A.tmps.size := (by rw [hI.size]; exact hdn)
   have lj : ∀ j, listed.getD j false = true → j < l.length := fun j hj => by
    rcases Nat.lt_or_ge j l.length with h | h
    ·exact h
    ·rw [hI.rest j h] at hj; cases hj
   have ev : ∀ j, j < l.length → (A.put l[i].dst v).eval (.tmp (dstOf l j)) = if j = i then v else A.eval (.tmp (dstOf l j)) := fun j hj => by
    rw [hd, getD_put _ _ _ _ hAn]; by_cases hji : dstOf l j = dstOf l i
    ·have := dst_inj hok (List.getElem?_eq_getElem hj) ho hji; subst this; rw [if_pos rfl, if_pos rfl]
    ·rw [if_neg hji, if_neg (fun e => hji (by rw [e]))]
   refine ih _ _ _ ?_ ⟨Nat.le_trans hI.low hB.size, hI.bel.trans hB, by rw [hd]; exact hI.defers, by rw [hd]; simp [Act.put, hI.size], fun t ht => ?_, fun j hl => ?_, fun j hj hl => ?_, fun j k hjk hj hk => ?_, by simp [hI.len], downC_set hI.down hli haft, fun j hj => ?_⟩
   ·rw [Array.toList_setIfInBounds]; have := count_set (l := listed.toList) (i := i) (by rw [Array.getElem?_toList, Array.getElem?_eq_getElem hli, hfalse]); omega
   ·rw [hd, getD_put _ _ _ _ hAn, if_neg, hI.out t ht]; rintro rfl; rw [List.all_eq_true] at ht; have := ht _ (List.mem_of_getElem? ho); rw [hd] at this; simp at this
   ·rcases up j hl with rfl | ⟨hne, h2⟩
    ·rw [ev _ hin, if_pos rfl]; exact hv
    ·rw [ev _ (lj j h2), if_neg hne]; exact monoR _ _ _ _ _ hne hI.low hb (hI.has j h2)
   ·by_cases e : i = j
    ·subst e; simp [Array.getD_eq_getD_getElem?, Array.getElem?_setIfInBounds, hli] at hl
    ·refine monoP _ _ _ _ (fun e' => e e'.symm) hI.low hb (hI.pre j hj ?_); simpa [Array.getD_eq_getD_getElem?, Array.getElem?_setIfInBounds, e] using hl
   ·rcases up j hj with rfl | ⟨hne, h2⟩
    ·rcases up k hk with rfl | ⟨hne2, h3⟩
     ·exact absurd rfl hjk
     ·rw [ev _ hin, if_pos rfl, ev _ (lj k h3), if_neg hne2]; exact hp k h3
    ·rcases up k hk with rfl | ⟨hne2, h3⟩
     ·rw [ev _ hin, if_pos rfl, ev _ (lj j h2), if_neg hne]; exact sym _ _ _ _ (hp j h2)
     ·rw [ev _ (lj j h2), if_neg hne, ev _ (lj k h3), if_neg hne2]; exact hI.prs j k hjk h2 h3
   ·have := hI.rest j hj; simp only [Array.getD_eq_getD_getElem?, Array.getElem?_setIfInBounds] at this ⊢; rw [if_neg (by omega)]; exact this
  have hs := hst _ A w pre
  have hgn : l[i].guard = none := by
   rw [List.all_eq_true] at hng; have := hng _ (List.getElem_mem hin); simpa using this
  unfold wpOp; simp only [List.getElem?_toArray, hoo]; rw [if_pos (by simp [Region.wanted, hgn])]; refine .inl (Oper.wp_mono ?_ hs); rintro A' w' ⟨v, rfl, hv, hb, hp⟩; exact next v w' hv hb hp
theorem wp_region_relET {P : Program} {id : Nat} {Q : Exit → Act → World → Prop} {a : Act} {W : World} {ops : List Oper} (n : Nat) (B : Nat) (hBW : B ≤ W.heap.size) (Rs : List (Value → World → Prop)) (Ps : Nat → World → Prop) (Eff : Nat → World → World → Prop) (Pr : Nat → Nat → Value → Value → Prop) (hm : P.follows .mixedOrders = true) (hok : relOk a.tmps.size (ops.take n) = true) (hng : ((ops.take n).all fun o => o.guard.isNone) = true) (hto : tailOk (ops.take n).length ops = true) (hlt : depLt ops = true)
  (hE : ∀ i w w', B ≤ w.heap.size → Eff i w w' → Below B w w')
  (monoR : ∀ (i j : Nat) (v : Value) (w w' : World), i ≠ j → B ≤ w.heap.size → Eff j w w' → relAt Rs i v w → relAt Rs i v w')
  (monoP : ∀ (i j : Nat) (w w' : World), i ≠ j → B ≤ w.heap.size → Eff j w w' → Ps i w → Ps i w')
  (sym : ∀ i j v v', Pr i j v v' → Pr j i v' v)
  (h0 : ∀ j, j < (ops.take n).length → Ps j W.drew)
  (steps : RelStepsE P B Rs Ps Eff Pr (ops.take n) a W Q 0 (ops.take n))
  (fin : ∀ (u : Nat → Value) (w : World), Below B W w → RelAll Rs u w (ops.take n).length → (∀ i j, i ≠ j → i < (ops.take n).length → j < (ops.take n).length → Pr i j (u i) (u j)) → wpList P ops.toArray Q (ops.drop n) (putAll a u 0 (ops.take n)) w) : (Code.region id ops.toArray true).wp P Q a W := by
 have e : ops.take n ++ ops.drop n = ops := List.take_append_drop _ _
 have hno : ∀ j, (Array.replicate ops.toArray.size false).getD j false = true → False := fun j hl => by
  simp only [Array.getD_eq_getD_getElem?, Array.getElem?_replicate] at hl; split at hl <;> simp at hl
 have key := relAnyET (t := ops.drop n) (l := ops.take n) hok hng (by rw [e]; exact hto) (by rw [e]; exact hlt) hE monoR monoP sym steps (by rw [e]; exact fin); rw [e] at key; refine wp_region_any hm (key _ _ _ _ ?_ ⟨hBW, ⟨rfl, rfl, rfl, Nat.le_refl _, fun _ _ => rfl⟩, rfl, rfl, fun _ _ => rfl, fun j hl => (hno j hl).elim, fun j hj _ => h0 j hj, fun i j _ hl _ => (hno i hl).elim, by simp, fun k j hk _ => (hno k hk).elim, fun j hj => ?_⟩)
 ·simp
 ·cases hb : (Array.replicate ops.toArray.size false).getD j false with
  | false => rfl
  | true => exact (hno j hb).elim
def KeepAll (E : World → World → Prop) (x : Nat) : Nat → List (Value → World → Prop) → Prop
  | _, [] => True
  | k, R :: r => (k ≠ x → ∀ v w w', E w w' → R v w → R v w') ∧ KeepAll E x (k + 1) r
theorem keepAll_at {E : World → World → Prop} {x : Nat} : ∀ {Rs : List (Value → World → Prop)} {k : Nat}, KeepAll E x k Rs → ∀ {i : Nat} {v : Value} {w w' : World}, k + i ≠ x → E w w' → relAt Rs i v w → relAt Rs i v w'
 | [], k, _, i, v, w, w', _, _, h => by simp [relAt] at h ⊢
 | R :: r, k, hk, 0, v, w, w', hx, he, h => hk.1 hx v w w' he h
 | R :: r, k, hk, i + 1, v, w, w', hx, he, h => keepAll_at (Rs := r) hk.2 (i := i) (by omega) he h
def valOf (l : List Oper) (A : Act) (j : Nat) : Value := match (l[j]?).bind (·.dst) with
  | some d => A.eval (.tmp d)
  | none => undef
def relOkG (n : Nat) (l : List Oper) : Bool := (l.all fun o => match o.dst with | some d => decide (d < n) | none => true) && decide ((l.filterMap (·.dst)).Nodup)
theorem dstG_lt {n : Nat} {l : List Oper} (h : relOkG n l = true) {i : Nat} {o : Oper} {d : Nat} (ho : l[i]? = some o) (hd : o.dst = some d) : d < n := by
 unfold relOkG at h; simp only [Bool.and_eq_true, List.all_eq_true, decide_eq_true_eq] at h; have := h.1 o (List.mem_of_getElem? ho); rw [hd] at this; simpa using this
theorem fm_inj : ∀ (l : List Oper), (l.filterMap (·.dst)).Nodup → ∀ {i j : Nat} {o p : Oper} {d : Nat}, l[i]? = some o → l[j]? = some p → o.dst = some d → p.dst = some d → i = j
 | [], _, i, j, o, p, d, hi, _, _, _ => by simp at hi
 | x :: l, h, 0, 0, o, p, d, _, _, _, _ => rfl
 | x :: l, h, 0, j + 1, o, p, d, hi, hj, ho, hp => by
  simp at hi; subst hi; rw [List.filterMap_cons, ho] at h; exact absurd (List.mem_filterMap.2 ⟨p, List.mem_of_getElem? (by simpa using hj), hp⟩) (List.nodup_cons.1 h).1
 | x :: l, h, i + 1, 0, o, p, d, hi, hj, ho, hp => by
  simp at hj; subst hj; rw [List.filterMap_cons, hp] at h; exact absurd (List.mem_filterMap.2 ⟨o, List.mem_of_getElem? (by simpa using hi), ho⟩) (List.nodup_cons.1 h).1
 | x :: l, h, i + 1, j + 1, o, p, d, hi, hj, ho, hp => by
  have h2 : (l.filterMap (·.dst)).Nodup := by
   rw [List.filterMap_cons] at h; split at h
   ·exact h
   ·exact (List.nodup_cons.1 h).2
  have := fm_inj l h2 (i := i) (j := j) (o := o) (p := p) (d := d) (by simpa using hi) (by simpa using hj) ho hp; omega
theorem dstG_inj {n : Nat} {l : List Oper} (h : relOkG n l = true) {i j : Nat} {o p : Oper} {d : Nat} (hi : l[i]? = some o) (hj : l[j]? = some p) (ho : o.dst = some d) (hp : p.dst = some d) : i = j := by
 unfold relOkG at h; simp only [Bool.and_eq_true, decide_eq_true_eq] at h; exact fm_inj l h.2 hi hj ho hp
theorem valOf_same {n : Nat} {l : List Oper} (h : relOkG n l = true) {i : Nat} {o : Oper} {A : Act} {v : Value} (ho : l[i]? = some o) (hA : A.tmps.size = n) (hv : o.dst = none → v = undef) : valOf l (A.put o.dst v) i = v := by
 unfold valOf; rw [ho, Option.bind_some]
 cases hd : o.dst with
 | none => exact (hv hd).symm
 | some d => simp only; rw [getD_put _ _ _ _ (by rw [hA]; exact dstG_lt h ho hd), if_pos rfl]
theorem valOf_other {n : Nat} {l : List Oper} (h : relOkG n l = true) {i j : Nat} {o : Oper} {A : Act} {v : Value} (ho : l[i]? = some o) (hA : A.tmps.size = n) (hij : j ≠ i) : valOf l (A.put o.dst v) j = valOf l A j := by
 unfold valOf
 cases hd : o.dst with
 | none => rfl
 | some d =>
  cases hj : l[j]? with
  | none => rfl
  | some p =>
   rw [Option.bind_some]
   cases hp : p.dst with
   | none => rfl
   | some d2 =>
    simp only; rw [getD_put _ _ _ _ (by rw [hA]; exact dstG_lt h ho hd), if_neg]; rintro rfl; exact hij (dstG_inj h hj ho hp hd)
theorem putAllG_eval {n : Nat} {u : Nat → Value} : ∀ (r : List Oper) (k : Nat) (a : Act), a.tmps.size = n → (∀ o ∈ r, ∀ d, o.dst = some d → d < n) → (r.filterMap (·.dst)).Nodup →
  (putAll a u k r).tmps.size = n ∧ (putAll a u k r).defers = a.defers ∧ (∀ t, (r.all fun o => o.dst != some t) = true → (putAll a u k r).eval (.tmp t) = a.eval (.tmp t)) ∧ ∀ i o d, r[i]? = some o → o.dst = some d → (putAll a u k r).eval (.tmp d) = u (k + i)
 | [], k, a, hn, _, _ => ⟨hn, rfl, fun t _ => rfl, fun i o d h => by simp at h⟩
 | x :: r, k, a, hn, hd, hnd => by
  have hnd2 : (r.filterMap (·.dst)).Nodup := by
   rw [List.filterMap_cons] at hnd; split at hnd
   ·exact hnd
   ·exact (List.nodup_cons.1 hnd).2
  have hsz : (a.put x.dst (u k)).tmps.size = n := by cases hx : x.dst <;> simp [Act.put, hn]
  have hdf : (a.put x.dst (u k)).defers = a.defers := by cases hx : x.dst <;> rfl
  obtain ⟨h1, h2, h3, h4⟩ := putAllG_eval (u := u) r (k + 1) (a.put x.dst (u k)) hsz (fun o ho => hd o (by simp [ho])) hnd2; refine ⟨h1, h2.trans hdf, fun t ht => ?_, fun i o d ho hod => ?_⟩
  ·simp only [List.all_cons, Bool.and_eq_true] at ht; rw [putAll, h3 t ht.2]
   cases hx : x.dst with
   | none => rfl
   | some d =>
    rw [getD_put _ _ _ _ (by rw [hn]; exact hd x (by simp) d hx), if_neg]; rintro rfl; have := ht.1; rw [hx] at this; simp at this
  ·cases i with
   | zero =>
    simp at ho; subst ho
    have hno : (r.all fun o => o.dst != some d) = true := by
     rw [List.all_eq_true]; intro p hp
     have : p.dst ≠ some d := fun e => by
      rw [List.filterMap_cons, hod] at hnd; exact (List.nodup_cons.1 hnd).1 (List.mem_filterMap.2 ⟨p, hp, e⟩)
     simpa using this
    rw [putAll, h3 d hno, hod, getD_put _ _ _ _ (by rw [hn]; exact hd x (by simp) d hod), if_pos rfl]; rfl
   | succ i =>
    rw [putAll, h4 i o d (by simpa using ho) hod]
    congr 1; omega
theorem act_putAllG {l : List Oper} {a A : Act} (hok : relOkG a.tmps.size l = true) (hsz : A.tmps.size = a.tmps.size) (hdf : A.defers = a.defers) (hout : ∀ t, (l.all fun o => o.dst != some t) = true → A.eval (.tmp t) = a.eval (.tmp t)) :
    A = putAll a (fun i => valOf l A i) 0 l := by
  have hnd : (l.filterMap (·.dst)).Nodup := by
    have h := hok; unfold relOkG at h; simp only [Bool.and_eq_true, decide_eq_true_eq] at h; exact h.2
  obtain ⟨p1, p2, p3, p4⟩ := putAllG_eval (u := fun i => valOf l A i) l 0 a rfl (fun o ho d hd => by
    obtain ⟨i, hi⟩ := List.getElem?_of_mem ho; exact dstG_lt hok hi hd) hnd
  refine act_ext (by rw [hsz, p1]) (by rw [hdf, p2]) fun t => ?_; by_cases ht : (l.all fun o => o.dst != some t) = true
  · rw [hout t ht, p3 t ht]
  · rw [Bool.not_eq_true, List.all_eq_false] at ht; obtain ⟨o, ho, hne⟩ := ht; obtain ⟨i, hi⟩ := List.getElem?_of_mem ho; have hdt : o.dst = some t := (by simpa using hne)
    rw [p4 i o t hi hdt, Nat.zero_add]; unfold valOf; rw [hi, Option.bind_some, hdt]
structure RelPreG (B : Nat) (Rs : List (Value → World → Prop)) (Ps : Nat → World → Prop) (l : List Oper) (a : Act) (W : World) (i : Nat) (o : Oper) (A : Act) (w : World) : Prop where
  bel : Below B W w
  size : A.tmps.size = a.tmps.size
  out : ∀ t, (l.all fun o => o.dst != some t) = true → A.eval (.tmp t) = a.eval (.tmp t)
  dep : ∀ j, (o.after.any fun e => Region.binds .any e && e.on == j) = true → relAt Rs j (valOf l A j) w
  pre : Ps i w
def RelStepG (P : Program) (B : Nat) (Rs : List (Value → World → Prop)) (Ps : Nat → World → Prop) (Eff : Nat → World → World → Prop) (l : List Oper) (a : Act) (W : World) (Q : Exit → Act → World → Prop) (i : Nat) (o : Oper) : Prop :=
  ∀ (A : Act) (w : World), RelPreG B Rs Ps l a W i o A w → if Region.wanted o (yielded l.toArray A.tmps) = true then o.wp P A w (fun A' w' => ∃ v, A' = A.put o.dst v ∧ (o.dst = none → v = undef) ∧ relAt Rs i v w' ∧ Eff i w w') Q else relAt Rs i undef w ∧ Eff i w w
def RelStepsG (P : Program) (B : Nat) (Rs : List (Value → World → Prop)) (Ps : Nat → World → Prop) (Eff : Nat → World → World → Prop) (l : List Oper) (a : Act) (W : World) (Q : Exit → Act → World → Prop) : Nat → List Oper → Prop
  | _, [] => True
  | i, o :: r => RelStepG P B Rs Ps Eff l a W Q i o ∧ RelStepsG P B Rs Ps Eff l a W Q (i + 1) r
theorem relStepsG_get {P : Program} {B : Nat} {Rs : List (Value → World → Prop)} {Ps : Nat → World → Prop} {Eff : Nat → World → World → Prop} {l : List Oper} {a : Act} {W : World} {Q : Exit → Act → World → Prop} :
  ∀ (r : List Oper) (k : Nat), RelStepsG P B Rs Ps Eff l a W Q k r → ∀ (i : Nat) (o : Oper), r[i]? = some o → RelStepG P B Rs Ps Eff l a W Q (k + i) o
 | [], _, _, i, o, h => by simp at h
 | x :: r, k, h, 0, o, ho => by simp at ho; subst ho; exact h.1
 | x :: r, k, h, i + 1, o, ho => by
  have := relStepsG_get r (k + 1) h.2 i o (by simpa using ho)
  rwa [Nat.add_assoc, Nat.add_comm 1 i] at this
structure RelInvG (B : Nat) (Rs : List (Value → World → Prop)) (Ps : Nat → World → Prop) (l ops : List Oper) (a : Act) (W : World) (listed : Array Bool) (A : Act) (w : World) : Prop where
  low : B ≤ w.heap.size
  bel : Below B W w
  defers : A.defers = a.defers
  size : A.tmps.size = a.tmps.size
  out : ∀ t, (l.all fun o => o.dst != some t) = true → A.eval (.tmp t) = a.eval (.tmp t)
  has : ∀ j, listed.getD j false = true → relAt Rs j (valOf l A j) w
  pre : ∀ j, j < l.length → listed.getD j false = false → Ps j w
  len : listed.size = ops.length
  down : DownC ops listed
  rest : ∀ j, l.length ≤ j → listed.getD j false = false
theorem relAnyG {P : Program} {B : Nat} {Rs : List (Value → World → Prop)} {Ps : Nat → World → Prop} {Eff : Nat → World → World → Prop} {l t : List Oper} {a : Act} {W : World} {Q : Exit → Act → World → Prop} (hok : relOkG a.tmps.size l = true) (hto : tailOk l.length (l ++ t) = true) (hlt : depLt (l ++ t) = true) (hgi : guardsIn l = true)
  (hE : ∀ i w w', B ≤ w.heap.size → Eff i w w' → Below B w w')
  (monoR : ∀ (i j : Nat) (v : Value) (w w' : World), i ≠ j → B ≤ w.heap.size → Eff j w w' → relAt Rs i v w → relAt Rs i v w')
  (monoP : ∀ (i j : Nat) (w w' : World), i ≠ j → B ≤ w.heap.size → Eff j w w' → Ps i w → Ps i w')
  (steps : RelStepsG P B Rs Ps Eff l a W Q 0 l)
  (fin : ∀ (u : Nat → Value) (w : World), Below B W w → RelAll Rs u w l.length → wpList P (l ++ t).toArray Q t (putAll a u 0 l) w) :
  ∀ (fuel : Nat) (listed : Array Bool) (A : Act) (w : World), listed.toList.count false ≤ fuel → RelInvG B Rs Ps l (l ++ t) a W listed A w → wpAny P .any (l ++ t).toArray Q fuel listed A w := by
 have conv : ∀ (listed : Array Bool) (j : Nat), j < listed.size → listed.getD j true = listed.getD j false := fun listed j hj => by simp [Array.getD_eq_getD_getElem?, Array.getElem?_eq_getElem hj]
 have done : ∀ (fuel : Nat) (listed : Array Bool) (A : Act) (w : World), listed.toList.count false ≤ fuel → RelInvG B Rs Ps l (l ++ t) a W listed A w → (∀ j, j < l.length → listed.getD j false = true) → wpAny P .any (l ++ t).toArray Q fuel listed A w := by
  intro fuel listed A w hcnt hI hall; refine relTail hto hlt t fuel l.length listed A w (Nat.le_refl _) (by simp) hI.len hI.down hall hI.rest ?_ ?_
  ·refine Nat.le_trans ?_ hcnt; have e : listed.toList = listed.toList.take l.length ++ listed.toList.drop l.length := (List.take_append_drop _ _).symm
   have hr : ∀ x ∈ listed.toList.drop l.length, x = false := by
    intro x hx; obtain ⟨i, hi, rfl⟩ := List.getElem_of_mem hx; rw [List.getElem_drop]; have h2 : l.length + i < listed.size := (by simp at hi; omega)
    have := hI.rest (l.length + i) (by omega); simpa [Array.getD_eq_getD_getElem?, Array.getElem?_eq_getElem h2] using this
   have hl2 : (listed.toList.drop l.length).length = t.length := by
    have := hI.len; simp at this ⊢; omega
   rw [e, List.count_append, List.count_eq_length.2 (fun b hb => (hr b hb).symm), hl2]; omega
  ·rw [act_putAllG hok hI.size hI.defers hI.out]; exact fin _ w hI.bel (relAll_get _ fun i hi => hI.has i (hall i hi))
 intro fuel
 induction fuel with
 | zero =>
  intro listed A w hc hI; refine done 0 listed A w hc hI (fun j hj => ?_); have hjs : j < listed.size := (by rw [hI.len]; simp; omega)
  cases hb : listed.getD j false with
  | true => rfl
  | false =>
   have hm : false ∈ listed.toList := by
    have : listed[j] = false := (by simpa [Array.getD_eq_getD_getElem?, Array.getElem?_eq_getElem hjs] using hb)
    rw [← this]; exact Array.getElem_mem_toList hjs
   have := List.count_pos_iff.2 hm; omega
 | succ fuel ih =>
  intro listed A w hc hI; by_cases hall : ∀ j, j < l.length → listed.getD j false = true
  ·exact done _ _ _ _ hc hI hall
  have hne : ∃ i, i ∈ Region.ready .any (l ++ t).toArray listed := by
   have hex : ∃ j, j < l.length ∧ listed.getD j false = false := by
    refine Classical.byContradiction fun hcon => hall fun j hj => ?_
    cases hb : listed.getD j false with
    | true => rfl
    | false => exact absurd ⟨j, hj, hb⟩ hcon
   obtain ⟨j, hj, hjf⟩ := hex
   have hmin : ∀ m, ∀ j, j ≤ m → j < l.length → listed.getD j false = false → ∃ i, i ∈ Region.ready .any (l ++ t).toArray listed := by
    intro m
    induction m with
    | zero =>
     intro j hm hj hf; obtain rfl : j = 0 := (by omega)
     refine ⟨0, ready_iff.2 ⟨by simp; omega, by rw [conv _ _ (by rw [hI.len]; simp; omega)]; exact hf, fun q hq => ?_⟩⟩; have := depLt_of hlt (by simp; omega) hq; omega
    | succ m ihm =>
     intro j hm hj hf; by_cases hex2 : ∃ q, q < j ∧ listed.getD q false = false
     ·obtain ⟨q, hq, hqf⟩ := hex2; exact ihm q (by omega) (by omega) hqf
     ·refine ⟨j, ready_iff.2 ⟨by simp; omega, by rw [conv _ _ (by rw [hI.len]; simp; omega)]; exact hf, fun q hq => ?_⟩⟩; have hqj := depLt_of hlt (by simp; omega) hq
      cases hb : listed.getD q false with
      | true => rfl
      | false => exact absurd ⟨q, hqj, hb⟩ hex2
   exact hmin j j (Nat.le_refl _) hj hjf
  refine ⟨fun hr => (by obtain ⟨i, hi⟩ := hne; rw [hr] at hi; cases hi), fun i hi => ?_⟩; obtain ⟨hil, hun, haft⟩ := ready_iff.1 hi; have hli : i < listed.size := (by rw [hI.len]; exact hil)
  have hin : i < l.length := by
   rcases Nat.lt_or_ge i l.length with h | h
   ·exact h
   ·exact absurd (fun j hj => tail_all hto hI.down hil h haft j (by omega)) hall
  have ho : l[i]? = some l[i] := List.getElem?_eq_getElem hin; have hoo : (l ++ t)[i]? = some l[i] := (by rw [List.getElem?_append_left hin]; exact ho)
  have hfalse : listed[i] = false := (by simpa [Array.getD_eq_getD_getElem?, Array.getElem?_eq_getElem hli] using hun)
  have hfd : listed.getD i false = false := (by rw [← conv _ _ hli]; exact hun)
  have hst := relStepsG_get l 0 steps i _ ho; rw [Nat.zero_add] at hst
  have pre : RelPreG B Rs Ps l a W i l[i] A w := by
   refine ⟨hI.bel, hI.size, hI.out, fun j hj => ?_, hI.pre i hin hfd⟩; have hdj : depB (l ++ t) i j = true := (by unfold depB; rw [hoo]; exact hj)
   exact hI.has j (haft j hdj)
  have next : ∀ (v : Value) (w' : World), (l[i].dst = none → v = undef) → relAt Rs i v w' → Eff i w w' → wpAny P .any (l ++ t).toArray Q fuel (listed.setIfInBounds i true) (A.put l[i].dst v) w' := by
   intro v w' hvn hv hb; have hB := hE i w w' hI.low hb
   have up : ∀ j, (listed.setIfInBounds i true).getD j false = true → j = i ∨ (j ≠ i ∧ listed.getD j false = true) := fun j hj => by
    by_cases e : i = j
    ·exact .inl e.symm
    ·refine .inr ⟨fun e' => e e'.symm, ?_⟩; simpa [Array.getD_eq_getD_getElem?, Array.getElem?_setIfInBounds, e] using hj
   refine ih _ _ _ ?_ ⟨Nat.le_trans hI.low hB.size, hI.bel.trans hB, ?_, ?_, fun q hq => ?_, fun j hl => ?_, fun j hj hl => ?_, by simp [hI.len], downC_set hI.down hli haft, fun j hj => ?_⟩
   ·rw [Array.toList_setIfInBounds]; have := count_set (l := listed.toList) (i := i) (by rw [Array.getElem?_toList, Array.getElem?_eq_getElem hli, hfalse]); omega
   ·cases hd : l[i].dst <;> exact hI.defers
   ·cases hd : l[i].dst <;> simp [Act.put, hI.size]
   ·rw [← hI.out q hq]
    cases hd : l[i].dst with
    | none => rfl
    | some d =>
     rw [getD_put _ _ _ _ (by rw [hI.size]; exact dstG_lt hok ho hd), if_neg]; rintro rfl; rw [List.all_eq_true] at hq; have := hq _ (List.mem_of_getElem? ho); rw [hd] at this; simp at this
   ·rcases up j hl with rfl | ⟨hne, h2⟩
    ·rw [valOf_same hok ho hI.size hvn]; exact hv
    ·rw [valOf_other hok ho hI.size hne]; exact monoR _ _ _ _ _ hne hI.low hb (hI.has j h2)
   ·by_cases e : i = j
    ·subst e; simp [Array.getD_eq_getD_getElem?, Array.getElem?_setIfInBounds, hli] at hl
    ·refine monoP _ _ _ _ (fun e' => e e'.symm) hI.low hb (hI.pre j hj ?_); simpa [Array.getD_eq_getD_getElem?, Array.getElem?_setIfInBounds, e] using hl
   ·have := hI.rest j hj; simp only [Array.getD_eq_getD_getElem?, Array.getElem?_setIfInBounds] at this ⊢; rw [if_neg (by omega)]; exact this
  have hs := hst A w pre
  have hwant : Region.wanted l[i] (yielded (l ++ t).toArray A.tmps) = Region.wanted l[i] (yielded l.toArray A.tmps) := by
   unfold guardsIn at hgi; rw [List.all_eq_true] at hgi; have hg := hgi _ (List.mem_of_getElem? ho)
   cases hgd : l[i].guard with
   | none => simp [Region.wanted, hgd]
   | some gb =>
    obtain ⟨g, b⟩ := gb; rw [hgd] at hg; have hgl : g < l.length := (by simpa using hg)
    have : yielded (l ++ t).toArray A.tmps g = yielded l.toArray A.tmps g := by
     unfold yielded; simp only [List.getElem?_toArray, List.getElem?_append_left hgl]
    simp [Region.wanted, hgd, this]
  unfold wpOp; simp only [List.getElem?_toArray, hoo]; rw [hwant]; split
  ·rename_i hw; rw [if_pos hw] at hs; refine .inl (Oper.wp_mono ?_ hs); rintro A' w' ⟨v, rfl, hvn, hv, hb⟩; exact next v w' hvn hv hb
  ·rename_i hw; rw [if_neg hw] at hs; exact next undef w (fun _ => rfl) hs.1 hs.2
theorem wp_region_relG {P : Program} {id : Nat} {Q : Exit → Act → World → Prop} {a : Act} {W : World} {ops : List Oper} (n : Nat) (B : Nat) (hBW : B ≤ W.heap.size) (Rs : List (Value → World → Prop)) (Ps : Nat → World → Prop) (Eff : Nat → World → World → Prop) (hm : P.follows .mixedOrders = true) (hok : relOkG a.tmps.size (ops.take n) = true) (hto : tailOk (ops.take n).length ops = true) (hlt : depLt ops = true) (hgi : guardsIn (ops.take n) = true)
  (hE : ∀ i w w', B ≤ w.heap.size → Eff i w w' → Below B w w')
  (monoR : ∀ (i j : Nat) (v : Value) (w w' : World), i ≠ j → B ≤ w.heap.size → Eff j w w' → relAt Rs i v w → relAt Rs i v w')
  (monoP : ∀ (i j : Nat) (w w' : World), i ≠ j → B ≤ w.heap.size → Eff j w w' → Ps i w → Ps i w')
  (h0 : ∀ j, j < (ops.take n).length → Ps j W.drew)
  (steps : RelStepsG P B Rs Ps Eff (ops.take n) a W Q 0 (ops.take n))
  (fin : ∀ (u : Nat → Value) (w : World), Below B W w → RelAll Rs u w (ops.take n).length → wpList P ops.toArray Q (ops.drop n) (putAll a u 0 (ops.take n)) w) : (Code.region id ops.toArray true).wp P Q a W := by
 have e : ops.take n ++ ops.drop n = ops := List.take_append_drop _ _
 have hno : ∀ j, (Array.replicate ops.toArray.size false).getD j false = true → False := fun j hl => by
  simp only [Array.getD_eq_getD_getElem?, Array.getElem?_replicate] at hl; split at hl <;> simp at hl
 have key := relAnyG (t := ops.drop n) (l := ops.take n) hok (by rw [e]; exact hto) (by rw [e]; exact hlt) hgi hE monoR monoP steps (by rw [e]; exact fin); rw [e] at key; refine wp_region_any hm (key _ _ _ _ ?_ ⟨hBW, ⟨rfl, rfl, rfl, Nat.le_refl _, fun _ _ => rfl⟩, rfl, rfl, fun _ _ => rfl, fun j hl => (hno j hl).elim, fun j hj _ => h0 j hj, by simp, fun k j hk _ => (hno k hk).elim, fun j hj => ?_⟩)
 ·simp
 ·cases hb : (Array.replicate ops.toArray.size false).getD j false with
  | false => rfl
  | true => exact (hno j hb).elim
section
variable {P : Program} {B : Nat} {Rs : List (Value → World → Prop)} {Ps : Nat → World → Prop} {Eff : Nat → World → World → Prop} {l : List Oper} {a : Act} {W : World} {Q : Exit → Act → World → Prop} {i : Nat} {o : Oper}
theorem relG_plain (hg : o.guard = none) (hd : o.dst.isSome = true) (he : ∀ w w', Below w.heap.size w w' → Eff i w w')
  (h : ∀ (A : Act) (w : World), RelPreG B Rs Ps l a W i o A w → o.wp P A w (fun A' w' => ∃ v, A' = A.put o.dst v ∧ relAt Rs i v w' ∧ Below w.heap.size w w') Q) : RelStepG P B Rs Ps Eff l a W Q i o := by
 intro A w hp; rw [if_pos (by simp [Region.wanted, hg])]; refine Oper.wp_mono ?_ (h A w hp); rintro A' w' ⟨v, rfl, h1, h2⟩; exact ⟨v, rfl, fun e => (by rw [e] at hd; cases hd), h1, he _ _ h2⟩
theorem RelPreG.d {B : Nat} {Rs : List (Value → World → Prop)} {Ps : Nat → World → Prop} {l : List Oper} {a : Act} {W : World} {i : Nat} {o : Oper} {A : Act} {w : World} (h : RelPreG B Rs Ps l a W i o A w) (j : Nat) (hj : (o.after.any fun e => Region.binds .any e && e.on == j) = true := by kernel_rfl) : relAt Rs j (valOf l A j) w := h.dep j hj
theorem relG_store (hg : o.guard = none) (h : ∀ (A : Act) (w : World), RelPreG B Rs Ps l a W i o A w → ∃ w', ((execOp A.eval o).run P w = .ok .skip w' ∨ (execOp A.eval o).run P w = .ok (.value undef) w') ∧ relAt Rs i undef w' ∧ Eff i w w') : RelStepG P B Rs Ps Eff l a W Q i o := by
 intro A w hp; rw [if_pos (by simp [Region.wanted, hg])]; obtain ⟨w', h1, h2, h3⟩ := h A w hp; unfold Oper.wp; rcases h1 with h1 | h1
 ·rw [h1]; exact ⟨undef, rfl, fun _ => rfl, h2, h3⟩
 ·rw [h1]; exact ⟨undef, rfl, fun _ => rfl, h2, h3⟩
theorem relG_guard {n g : Nat} {b x : Bool} (hn : a.tmps.size = n) (hok : relOkG n l = true) (hg : o.guard = some (g, b)) (hd : o.dst.isSome = true) (he : ∀ w w', Below w.heap.size w w' → Eff i w w')
  (ha : (o.after.any fun e => Region.binds .any e && e.on == g) = true) {og : Oper} (hog : l[g]? = some og) {dg : Nat} (hdg : og.dst = some dg) (hv : ∀ v w, relAt Rs g v w → v = .bool x)
  (h : if x = b then ∀ (A : Act) (w : World), RelPreG B Rs Ps l a W i o A w → o.wp P A w (fun A' w' => ∃ v, A' = A.put o.dst v ∧ relAt Rs i v w' ∧ Below w.heap.size w w') Q else ∀ w, relAt Rs i undef w) : RelStepG P B Rs Ps Eff l a W Q i o := by
 intro A w hp; have hd2 := hp.dep g ha; unfold valOf at hd2; rw [hog, Option.bind_some, hdg] at hd2; have hy := yielded_of hog hdg (A := A) (by rw [hp.size, hn]; exact dstG_lt hok hog hdg) (hv _ _ hd2); have hw : Region.wanted o (yielded l.toArray A.tmps) = (x == b) := (by simp [Region.wanted, hg, hy])
 rw [hw]; by_cases hxb : x = b
 ·rw [if_pos (by simp [hxb])]; rw [if_pos hxb] at h; refine Oper.wp_mono ?_ (h A w hp); rintro A' w' ⟨v, rfl, h1, h2⟩; exact ⟨v, rfl, fun e => (by rw [e] at hd; cases hd), h1, he _ _ h2⟩
 ·rw [if_neg (by simp [hxb])]; rw [if_neg hxb] at h; exact ⟨h w, he _ _ (Below.refl _ _)⟩
theorem relG_guardU {n g : Nat} {b : Bool} (hn : a.tmps.size = n) (hok : relOkG n l = true) (hg : o.guard = some (g, b)) (he : ∀ w w', Below w.heap.size w w' → Eff i w w')
  (ha : (o.after.any fun e => Region.binds .any e && e.on == g) = true) {og : Oper} (hog : l[g]? = some og) {dg : Nat} (hdg : og.dst = some dg) (hv : ∀ v w, relAt Rs g v w → v = undef)
  (h : ∀ w, relAt Rs i undef w) : RelStepG P B Rs Ps Eff l a W Q i o := by
 intro A w hp; have hd2 := hp.dep g ha; unfold valOf at hd2; rw [hog, Option.bind_some, hdg] at hd2
 have hy : yielded l.toArray A.tmps g = none := by
  have he2 : A.eval (.tmp dg) = undef := hv _ _ hd2; have h3 : dg < A.tmps.size := (by rw [hp.size, hn]; exact dstG_lt hok hog hdg)
  unfold yielded; simp only [List.getElem?_toArray, hog, Option.bind_some, hdg]
  have : A.tmps[dg]? = some undef := by
   rw [Array.getElem?_eq_getElem h3]; unfold Act.eval at he2; simp only [Array.getD_eq_getD_getElem?, Array.getElem?_eq_getElem h3, Option.getD_some] at he2; rw [he2]
  rw [this]; rfl
 have hw : Region.wanted o (yielded l.toArray A.tmps) = false := (by simp [Region.wanted, hg, hy])
 rw [if_neg (by rw [hw]; decide)]; exact ⟨h w, he _ _ (Below.refl _ _)⟩
end
end Go.Proofs.YtmffmkjgdjgmeaaGreat
namespace Go.Proofs.YtmffmkjgdjgmeaaGreat
open Go.RowKit Go.WideShapes Go.ChangeShapes
def needB (ops : List Oper) : Nat → Nat → Nat → Bool
  | 0, _, _ => false
  | f + 1, j, i => depB ops j i || (List.range ops.length).any fun k => depB ops j k && needB ops f k i
theorem needB_listed {ops : List Oper} {listed : Array Bool} (hd : DownC ops listed) : ∀ (f j i : Nat), needB ops f j i = true → (∀ k, depB ops j k = true → listed.getD k false = true) → listed.getD i false = true
 | 0, _, _, h, _ => by simp [needB] at h
 | f + 1, j, i, h, hk => by
  simp only [needB, Bool.or_eq_true, List.any_eq_true, Bool.and_eq_true] at h; rcases h with h | ⟨k, _, h1, h2⟩
  ·exact hk i h
  ·exact needB_listed hd f k i h2 (fun q hq => hd k q (hk k h1) hq)
set_option maxHeartbeats 1000000 in
theorem relAnyH {P : Program} {B : Nat} {Rs : List (Value → World → Prop)} {Ps : Nat → World → Prop} {Eff : Nat → World → World → Prop} {l t : List Oper} {a : Act} {W : World} {Q : Exit → Act → World → Prop} (hok : relOkG a.tmps.size l = true) (hto : tailOk l.length (l ++ t) = true) (hlt : depLt (l ++ t) = true) (hgi : guardsIn l = true)
  (hE : ∀ i w w', B ≤ w.heap.size → Eff i w w' → Below B w w')
  (monoR : ∀ (i j : Nat) (v : Value) (w w' : World), i ≠ j → B ≤ w.heap.size → Eff j w w' → relAt Rs i v w → relAt Rs i v w')
  (monoP : ∀ (i j : Nat) (w w' : World), i ≠ j → needB (l ++ t) (l ++ t).length j i = false → B ≤ w.heap.size → Eff j w w' → Ps i w → Ps i w')
  (steps : RelStepsG P B Rs Ps Eff l a W Q 0 l)
  (fin : ∀ (u : Nat → Value) (w : World), Below B W w → RelAll Rs u w l.length → wpList P (l ++ t).toArray Q t (putAll a u 0 l) w) :
  ∀ (fuel : Nat) (listed : Array Bool) (A : Act) (w : World), listed.toList.count false ≤ fuel → RelInvG B Rs Ps l (l ++ t) a W listed A w → wpAny P .any (l ++ t).toArray Q fuel listed A w := by
 have conv : ∀ (listed : Array Bool) (j : Nat), j < listed.size → listed.getD j true = listed.getD j false := fun listed j hj => by simp [Array.getD_eq_getD_getElem?, Array.getElem?_eq_getElem hj]
 have done : ∀ (fuel : Nat) (listed : Array Bool) (A : Act) (w : World), listed.toList.count false ≤ fuel → RelInvG B Rs Ps l (l ++ t) a W listed A w → (∀ j, j < l.length → listed.getD j false = true) → wpAny P .any (l ++ t).toArray Q fuel listed A w := by
  intro fuel listed A w hcnt hI hall; refine relTail hto hlt t fuel l.length listed A w (Nat.le_refl _) (by simp) hI.len hI.down hall hI.rest ?_ ?_
  ·refine Nat.le_trans ?_ hcnt; have e : listed.toList = listed.toList.take l.length ++ listed.toList.drop l.length := (List.take_append_drop _ _).symm
   have hr : ∀ x ∈ listed.toList.drop l.length, x = false := by
    intro x hx; obtain ⟨i, hi, rfl⟩ := List.getElem_of_mem hx; rw [List.getElem_drop]; have h2 : l.length + i < listed.size := (by simp at hi; omega)
    have := hI.rest (l.length + i) (by omega); simpa [Array.getD_eq_getD_getElem?, Array.getElem?_eq_getElem h2] using this
   have hl2 : (listed.toList.drop l.length).length = t.length := by
    have := hI.len; simp at this ⊢; omega
   rw [e, List.count_append, List.count_eq_length.2 (fun b hb => (hr b hb).symm), hl2]; omega
  ·rw [act_putAllG hok hI.size hI.defers hI.out]; exact fin _ w hI.bel (relAll_get _ fun i hi => hI.has i (hall i hi))
 intro fuel
 induction fuel with
 | zero =>
  intro listed A w hc hI; refine done 0 listed A w hc hI (fun j hj => ?_); have hjs : j < listed.size := (by rw [hI.len]; simp; omega)
  cases hb : listed.getD j false with
  | true => rfl
  | false =>
   have hm : false ∈ listed.toList := by
    have : listed[j] = false := (by simpa [Array.getD_eq_getD_getElem?, Array.getElem?_eq_getElem hjs] using hb)
    rw [← this]; exact Array.getElem_mem_toList hjs
   have := List.count_pos_iff.2 hm; omega
 | succ fuel ih =>
  intro listed A w hc hI; by_cases hall : ∀ j, j < l.length → listed.getD j false = true
  ·exact done _ _ _ _ hc hI hall
  have hne : ∃ i, i ∈ Region.ready .any (l ++ t).toArray listed := by
   have hex : ∃ j, j < l.length ∧ listed.getD j false = false := by
    refine Classical.byContradiction fun hcon => hall fun j hj => ?_
    cases hb : listed.getD j false with
    | true => rfl
    | false => exact absurd ⟨j, hj, hb⟩ hcon
   obtain ⟨j, hj, hjf⟩ := hex
   have hmin : ∀ m, ∀ j, j ≤ m → j < l.length → listed.getD j false = false → ∃ i, i ∈ Region.ready .any (l ++ t).toArray listed := by
    intro m
    induction m with
    | zero =>
     intro j hm hj hf; obtain rfl : j = 0 := (by omega)
     refine ⟨0, ready_iff.2 ⟨by simp; omega, by rw [conv _ _ (by rw [hI.len]; simp; omega)]; exact hf, fun q hq => ?_⟩⟩; have := depLt_of hlt (by simp; omega) hq; omega
    | succ m ihm =>
     intro j hm hj hf; by_cases hex2 : ∃ q, q < j ∧ listed.getD q false = false
     ·obtain ⟨q, hq, hqf⟩ := hex2; exact ihm q (by omega) (by omega) hqf
     ·refine ⟨j, ready_iff.2 ⟨by simp; omega, by rw [conv _ _ (by rw [hI.len]; simp; omega)]; exact hf, fun q hq => ?_⟩⟩; have hqj := depLt_of hlt (by simp; omega) hq
      cases hb : listed.getD q false with
      | true => rfl
      | false => exact absurd ⟨q, hqj, hb⟩ hex2
   exact hmin j j (Nat.le_refl _) hj hjf
  refine ⟨fun hr => (by obtain ⟨i, hi⟩ := hne; rw [hr] at hi; cases hi), fun i hi => ?_⟩; obtain ⟨hil, hun, haft⟩ := ready_iff.1 hi; have hli : i < listed.size := (by rw [hI.len]; exact hil)
  have hin : i < l.length := by
   rcases Nat.lt_or_ge i l.length with h | h
   ·exact h
   ·exact absurd (fun j hj => tail_all hto hI.down hil h haft j (by omega)) hall
  have ho : l[i]? = some l[i] := List.getElem?_eq_getElem hin; have hoo : (l ++ t)[i]? = some l[i] := (by rw [List.getElem?_append_left hin]; exact ho)
  have hfalse : listed[i] = false := (by simpa [Array.getD_eq_getD_getElem?, Array.getElem?_eq_getElem hli] using hun)
  have hfd : listed.getD i false = false := (by rw [← conv _ _ hli]; exact hun)
  have hst := relStepsG_get l 0 steps i _ ho; rw [Nat.zero_add] at hst
  have pre : RelPreG B Rs Ps l a W i l[i] A w := by
   refine ⟨hI.bel, hI.size, hI.out, fun j hj => ?_, hI.pre i hin hfd⟩; have hdj : depB (l ++ t) i j = true := (by unfold depB; rw [hoo]; exact hj)
   exact hI.has j (haft j hdj)
  have next : ∀ (v : Value) (w' : World), (l[i].dst = none → v = undef) → relAt Rs i v w' → Eff i w w' → wpAny P .any (l ++ t).toArray Q fuel (listed.setIfInBounds i true) (A.put l[i].dst v) w' := by
   intro v w' hvn hv hb; have hB := hE i w w' hI.low hb
   have up : ∀ j, (listed.setIfInBounds i true).getD j false = true → j = i ∨ (j ≠ i ∧ listed.getD j false = true) := fun j hj => by
    by_cases e : i = j
    ·exact .inl e.symm
    ·refine .inr ⟨fun e' => e e'.symm, ?_⟩; simpa [Array.getD_eq_getD_getElem?, Array.getElem?_setIfInBounds, e] using hj
   refine ih _ _ _ ?_ ⟨Nat.le_trans hI.low hB.size, hI.bel.trans hB, ?_, ?_, fun q hq => ?_, fun j hl => ?_, fun j hj hl => ?_, by simp [hI.len], downC_set hI.down hli haft, fun j hj => ?_⟩
   ·rw [Array.toList_setIfInBounds]; have := count_set (l := listed.toList) (i := i) (by rw [Array.getElem?_toList, Array.getElem?_eq_getElem hli, hfalse]); omega
   ·cases hd : l[i].dst <;> exact hI.defers
   ·cases hd : l[i].dst <;> simp [Act.put, hI.size]
   ·rw [← hI.out q hq]
    cases hd : l[i].dst with
    | none => rfl
    | some d =>
     rw [getD_put _ _ _ _ (by rw [hI.size]; exact dstG_lt hok ho hd), if_neg]; rintro rfl; rw [List.all_eq_true] at hq; have := hq _ (List.mem_of_getElem? ho); rw [hd] at this; simp at this
   ·rcases up j hl with rfl | ⟨hne, h2⟩
    ·rw [valOf_same hok ho hI.size hvn]; exact hv
    ·rw [valOf_other hok ho hI.size hne]; exact monoR _ _ _ _ _ hne hI.low hb (hI.has j h2)
   ·by_cases e : i = j
    ·subst e; simp [Array.getD_eq_getD_getElem?, Array.getElem?_setIfInBounds, hli] at hl
    ·have hjf : listed.getD j false = false := (by simpa [Array.getD_eq_getD_getElem?, Array.getElem?_setIfInBounds, e] using hl)
     refine monoP _ _ _ _ (fun e' => e e'.symm) ?_ hI.low hb (hI.pre j hj hjf)
     cases hnb : needB (l ++ t) (l ++ t).length i j with
     | false => rfl
     | true =>
      have h9 := needB_listed hI.down _ i j hnb (fun q hq => haft q hq); rw [hjf] at h9
      cases h9
   ·have := hI.rest j hj; simp only [Array.getD_eq_getD_getElem?, Array.getElem?_setIfInBounds] at this ⊢; rw [if_neg (by omega)]; exact this
  have hs := hst A w pre
  have hwant : Region.wanted l[i] (yielded (l ++ t).toArray A.tmps) = Region.wanted l[i] (yielded l.toArray A.tmps) := by
   unfold guardsIn at hgi; rw [List.all_eq_true] at hgi; have hg := hgi _ (List.mem_of_getElem? ho)
   cases hgd : l[i].guard with
   | none => simp [Region.wanted, hgd]
   | some gb =>
    obtain ⟨g, b⟩ := gb; rw [hgd] at hg; have hgl : g < l.length := (by simpa using hg)
    have : yielded (l ++ t).toArray A.tmps g = yielded l.toArray A.tmps g := by
     unfold yielded; simp only [List.getElem?_toArray, List.getElem?_append_left hgl]
    simp [Region.wanted, hgd, this]
  unfold wpOp; simp only [List.getElem?_toArray, hoo]; rw [hwant]; split
  ·rename_i hw; rw [if_pos hw] at hs; refine .inl (Oper.wp_mono ?_ hs); rintro A' w' ⟨v, rfl, hvn, hv, hb⟩; exact next v w' hvn hv hb
  ·rename_i hw; rw [if_neg hw] at hs; exact next undef w (fun _ => rfl) hs.1 hs.2
theorem wp_region_relH {P : Program} {id : Nat} {Q : Exit → Act → World → Prop} {a : Act} {W : World} {ops : List Oper} (n : Nat) (B : Nat) (hBW : B ≤ W.heap.size) (Rs : List (Value → World → Prop)) (Ps : Nat → World → Prop) (Eff : Nat → World → World → Prop) (hm : P.follows .mixedOrders = true) (hok : relOkG a.tmps.size (ops.take n) = true) (hto : tailOk (ops.take n).length ops = true) (hlt : depLt ops = true) (hgi : guardsIn (ops.take n) = true)
  (hE : ∀ i w w', B ≤ w.heap.size → Eff i w w' → Below B w w')
  (monoR : ∀ (i j : Nat) (v : Value) (w w' : World), i ≠ j → B ≤ w.heap.size → Eff j w w' → relAt Rs i v w → relAt Rs i v w')
  (monoP : ∀ (i j : Nat) (w w' : World), i ≠ j → needB ops ops.length j i = false → B ≤ w.heap.size → Eff j w w' → Ps i w → Ps i w')
  (h0 : ∀ j, j < (ops.take n).length → Ps j W.drew)
  (steps : RelStepsG P B Rs Ps Eff (ops.take n) a W Q 0 (ops.take n))
  (fin : ∀ (u : Nat → Value) (w : World), Below B W w → RelAll Rs u w (ops.take n).length → wpList P ops.toArray Q (ops.drop n) (putAll a u 0 (ops.take n)) w) : (Code.region id ops.toArray true).wp P Q a W := by
 have e : ops.take n ++ ops.drop n = ops := List.take_append_drop _ _
 have hno : ∀ j, (Array.replicate ops.toArray.size false).getD j false = true → False := fun j hl => by
  simp only [Array.getD_eq_getD_getElem?, Array.getElem?_replicate] at hl; split at hl <;> simp at hl
 have key := relAnyH (t := ops.drop n) (l := ops.take n) hok (by rw [e]; exact hto) (by rw [e]; exact hlt) hgi hE monoR (by rw [e]; exact monoP) steps (by rw [e]; exact fin); rw [e] at key; refine wp_region_any hm (key _ _ _ _ ?_ ⟨hBW, ⟨rfl, rfl, rfl, Nat.le_refl _, fun _ _ => rfl⟩, rfl, rfl, fun _ _ => rfl, fun j hl => (hno j hl).elim, fun j hj _ => h0 j hj, by simp, fun k j hk _ => (hno k hk).elim, fun j hj => ?_⟩)
 ·simp
 ·cases hb : (Array.replicate ops.toArray.size false).getD j false with
  | false => rfl
  | true => exact (hno j hb).elim
end Go.Proofs.YtmffmkjgdjgmeaaGreat
namespace Go.Proofs.YtmffmkjgdjgmeaaGreat
open Go.RowKit
theorem relG_enter {P : Program} {B : Nat} {Rs : List (Value → World → Prop)} {Ps : Nat → World → Prop} {Eff : Nat → World → World → Prop} {l : List Oper} {a : Act} {W : World} {Q : Exit → Act → World → Prop} {i : Nat} {o : Oper} (hg : o.guard = none) (hd : o.dst.isSome = true)
  (h : ∀ (A : Act) (w : World), RelPreG B Rs Ps l a W i o A w → ∃ (f : FuncId) (args : Array Value), (execOp A.eval o).run P w = .ok (.enter f args) w ∧ Calls P f args w fun e w' => ∃ v, e = .returned v ∧ relAt Rs i v w' ∧ Eff i w w') : RelStepG P B Rs Ps Eff l a W Q i o := by
 intro A w hp; rw [if_pos (by simp [Region.wanted, hg])]; obtain ⟨f, args, h1, h2⟩ := h A w hp; unfold Oper.wp; rw [h1, Oper.upon_enter]; refine h2.mono ?_; rintro e w' ⟨v, rfl, hr, hb⟩; exact ⟨v, rfl, fun e => (by rw [e] at hd; cases hd), hr, hb⟩
end Go.Proofs.YtmffmkjgdjgmeaaGreat
namespace Go.Proofs.YtmffmkjgdjgmeaaGreat
open Go.RowKit Go.WideShapes Go.ChangeShapes
def updD (D : Nat → Bool) (i : Nat) : Nat → Bool := fun j => if j = i then true else D j
def updU (u : Nat → Value) (i : Nat) (v : Value) : Nat → Value := fun j => if j = i then v else u j
structure RelPreX (Rs : List (Value → World → Prop)) (X : (Nat → Bool) → (Nat → Value) → World → Prop) (l : List Oper) (a : Act) (B : Nat) (W : World) (i : Nat) (o : Oper) (D : Nat → Bool) (A : Act) (w : World) : Prop where
  bel : Below B W w
  size : A.tmps.size = a.tmps.size
  out : ∀ t, (l.all fun o => o.dst != some t) = true → A.eval (.tmp t) = a.eval (.tmp t)
  has : ∀ j, D j = true → relAt Rs j (valOf l A j) w
  dn : ∀ j, (o.after.any fun e => Region.binds .any e && e.on == j) = true → D j = true
  no : D i = false
  ext : X D (fun j => valOf l A j) w
theorem RelPreX.dep {Rs : List (Value → World → Prop)} {X : (Nat → Bool) → (Nat → Value) → World → Prop} {l : List Oper} {a : Act} {B : Nat} {W : World} {i : Nat} {o : Oper} {D : Nat → Bool} {A : Act} {w : World} (h : RelPreX Rs X l a B W i o D A w) (j : Nat) (hj : (o.after.any fun e => Region.binds .any e && e.on == j) = true) : relAt Rs j (valOf l A j) w := h.has j (h.dn j hj)
theorem RelPreX.d {Rs : List (Value → World → Prop)} {X : (Nat → Bool) → (Nat → Value) → World → Prop} {l : List Oper} {a : Act} {B : Nat} {W : World} {i : Nat} {o : Oper} {D : Nat → Bool} {A : Act} {w : World} (h : RelPreX Rs X l a B W i o D A w) (j : Nat) (hj : (o.after.any fun e => Region.binds .any e && e.on == j) = true := by kernel_rfl) : relAt Rs j (valOf l A j) w := h.dep j hj
def RelStepX (P : Program) (B : Nat) (Rs : List (Value → World → Prop)) (X : (Nat → Bool) → (Nat → Value) → World → Prop) (l : List Oper) (a : Act) (W : World) (Q : Exit → Act → World → Prop) (i : Nat) (o : Oper) : Prop :=
  ∀ (D : Nat → Bool) (A : Act) (w : World), RelPreX Rs X l a B W i o D A w → if Region.wanted o (yielded l.toArray A.tmps) = true then o.wp P A w (fun A' w' => ∃ v, A' = A.put o.dst v ∧ (o.dst = none → v = undef) ∧ relAt Rs i v w' ∧ Below B w w' ∧ (∀ j, j ≠ i → D j = true → relAt Rs j (valOf l A j) w') ∧ X (updD D i) (updU (fun j => valOf l A j) i v) w') Q
    else relAt Rs i undef w ∧ X (updD D i) (updU (fun j => valOf l A j) i undef) w
def RelStepsX (P : Program) (B : Nat) (Rs : List (Value → World → Prop)) (X : (Nat → Bool) → (Nat → Value) → World → Prop) (l : List Oper) (a : Act) (W : World) (Q : Exit → Act → World → Prop) : Nat → List Oper → Prop
  | _, [] => True
  | i, o :: r => RelStepX P B Rs X l a W Q i o ∧ RelStepsX P B Rs X l a W Q (i + 1) r
theorem relStepsX_get {P : Program} {B : Nat} {Rs : List (Value → World → Prop)} {X : (Nat → Bool) → (Nat → Value) → World → Prop} {l : List Oper} {a : Act} {W : World} {Q : Exit → Act → World → Prop} :
  ∀ (r : List Oper) (k : Nat), RelStepsX P B Rs X l a W Q k r → ∀ (i : Nat) (o : Oper), r[i]? = some o → RelStepX P B Rs X l a W Q (k + i) o
 | [], _, _, _, _, h => by simp at h
 | o :: r, k, hs, 0, p, h => by simp at h; subst h; exact hs.1
 | o :: r, k, hs, i + 1, p, h => by
  have := relStepsX_get r (k + 1) hs.2 i p (by simpa using h); rw [show k + (i + 1) = k + 1 + i by omega]; exact this
structure RelInvX (B : Nat) (Rs : List (Value → World → Prop)) (X : (Nat → Bool) → (Nat → Value) → World → Prop) (l ops : List Oper) (a : Act) (W : World) (listed : Array Bool) (A : Act) (w : World) : Prop where
  low : B ≤ w.heap.size
  bel : Below B W w
  defers : A.defers = a.defers
  size : A.tmps.size = a.tmps.size
  out : ∀ t, (l.all fun o => o.dst != some t) = true → A.eval (.tmp t) = a.eval (.tmp t)
  has : ∀ j, listed.getD j false = true → relAt Rs j (valOf l A j) w
  len : listed.size = ops.length
  down : DownC ops listed
  rest : ∀ j, l.length ≤ j → listed.getD j false = false
  ext : X (fun j => listed.getD j false) (fun j => valOf l A j) w
set_option maxHeartbeats 1000000 in
theorem relAnyX {P : Program} {B : Nat} {Rs : List (Value → World → Prop)} {X : (Nat → Bool) → (Nat → Value) → World → Prop} {l t : List Oper} {a : Act} {W : World} {Q : Exit → Act → World → Prop} (hok : relOkG a.tmps.size l = true) (hto : tailOk l.length (l ++ t) = true) (hlt : depLt (l ++ t) = true) (hgi : guardsIn l = true)
    (steps : RelStepsX P B Rs X l a W Q 0 l)
    (fin : ∀ (u : Nat → Value) (w : World), Below B W w → RelAll Rs u w l.length → X (fun j => decide (j < l.length)) u w → wpList P (l ++ t).toArray Q t (putAll a u 0 l) w) :
    ∀ (fuel : Nat) (listed : Array Bool) (A : Act) (w : World), listed.toList.count false ≤ fuel → RelInvX B Rs X l (l ++ t) a W listed A w → wpAny P .any (l ++ t).toArray Q fuel listed A w := by
  have conv : ∀ (listed : Array Bool) (j : Nat), j < listed.size → listed.getD j true = listed.getD j false := fun listed j hj => by simp [Array.getD_eq_getD_getElem?, Array.getElem?_eq_getElem hj]
  have done : ∀ (fuel : Nat) (listed : Array Bool) (A : Act) (w : World), listed.toList.count false ≤ fuel → RelInvX B Rs X l (l ++ t) a W listed A w → (∀ j, j < l.length → listed.getD j false = true) → wpAny P .any (l ++ t).toArray Q fuel listed A w := by
    intro fuel listed A w hcnt hI hall; refine relTail hto hlt t fuel l.length listed A w (Nat.le_refl _) (by simp) hI.len hI.down hall hI.rest ?_ ?_
    · refine Nat.le_trans ?_ hcnt; have e : listed.toList = listed.toList.take l.length ++ listed.toList.drop l.length := (List.take_append_drop _ _).symm
      have hr : ∀ x ∈ listed.toList.drop l.length, x = false := by
        intro x hx; obtain ⟨i, hi, rfl⟩ := List.getElem_of_mem hx; rw [List.getElem_drop]; have h2 : l.length + i < listed.size := (by simp at hi; omega)
        have := hI.rest (l.length + i) (by omega); simpa [Array.getD_eq_getD_getElem?, Array.getElem?_eq_getElem h2] using this
      have hl2 : (listed.toList.drop l.length).length = t.length := by
        have := hI.len; simp at this ⊢; omega
      rw [e, List.count_append, List.count_eq_length.2 (fun b hb => (hr b hb).symm), hl2]; omega
    · rw [act_putAllG hok hI.size hI.defers hI.out]
      exact fin _ w hI.bel (relAll_get _ fun i hi => hI.has i (hall i hi)) (by
        have e : (fun j => listed.getD j false) = (fun j => decide (j < l.length)) := by
          funext j
          by_cases hj : j < l.length
          · simp only [hall j hj, hj, decide_true]
          · simp only [hI.rest j (by omega), hj, decide_false]
        rw [← e]; exact hI.ext)
  intro fuel
  induction fuel with
  | zero =>
    intro listed A w hc hI; refine done 0 listed A w hc hI (fun j hj => ?_); have hjs : j < listed.size := (by rw [hI.len]; simp; omega)
    cases hb : listed.getD j false with
    | true => rfl
    | false =>
      have hm : false ∈ listed.toList := by
        have : listed[j] = false := (by simpa [Array.getD_eq_getD_getElem?, Array.getElem?_eq_getElem hjs] using hb)
        rw [← this]; exact Array.getElem_mem_toList hjs
      have := List.count_pos_iff.2 hm; omega
  | succ fuel ih =>
    intro listed A w hc hI; by_cases hall : ∀ j, j < l.length → listed.getD j false = true
    · exact done _ _ _ _ hc hI hall
    have hne : ∃ i, i ∈ Region.ready .any (l ++ t).toArray listed := by
      have hex : ∃ j, j < l.length ∧ listed.getD j false = false := by
        refine Classical.byContradiction fun hcon => hall fun j hj => ?_
        cases hb : listed.getD j false with
        | true => rfl
        | false => exact absurd ⟨j, hj, hb⟩ hcon
      obtain ⟨j, hj, hjf⟩ := hex
      have hmin : ∀ m, ∀ j, j ≤ m → j < l.length → listed.getD j false = false → ∃ i, i ∈ Region.ready .any (l ++ t).toArray listed := by
        intro m
        induction m with
        | zero =>
          intro j hm hj hf; obtain rfl : j = 0 := (by omega)
          refine ⟨0, ready_iff.2 ⟨by simp; omega, by rw [conv _ _ (by rw [hI.len]; simp; omega)]; exact hf, fun q hq => ?_⟩⟩; have := depLt_of hlt (by simp; omega) hq; omega
        | succ m ihm =>
          intro j hm hj hf; by_cases hex2 : ∃ q, q < j ∧ listed.getD q false = false
          · obtain ⟨q, hq, hqf⟩ := hex2; exact ihm q (by omega) (by omega) hqf
          · refine ⟨j, ready_iff.2 ⟨by simp; omega, by rw [conv _ _ (by rw [hI.len]; simp; omega)]; exact hf, fun q hq => ?_⟩⟩; have hqj := depLt_of hlt (by simp; omega) hq
            cases hb : listed.getD q false with
            | true => rfl
            | false => exact absurd ⟨q, hqj, hb⟩ hex2
      exact hmin j j (Nat.le_refl _) hj hjf
    refine ⟨fun hr => (by obtain ⟨i, hi⟩ := hne; rw [hr] at hi; cases hi), fun i hi => ?_⟩; obtain ⟨hil, hun, haft⟩ := ready_iff.1 hi; have hli : i < listed.size := (by rw [hI.len]; exact hil)
    have hin : i < l.length := by
      rcases Nat.lt_or_ge i l.length with h | h
      · exact h
      · exact absurd (fun j hj => tail_all hto hI.down hil h haft j (by omega)) hall
    have ho : l[i]? = some l[i] := List.getElem?_eq_getElem hin; have hoo : (l ++ t)[i]? = some l[i] := (by rw [List.getElem?_append_left hin]; exact ho)
    have hfalse : listed[i] = false := (by simpa [Array.getD_eq_getD_getElem?, Array.getElem?_eq_getElem hli] using hun)
    have hfd : listed.getD i false = false := (by rw [← conv _ _ hli]; exact hun)
    have hst := relStepsX_get l 0 steps i _ ho; rw [Nat.zero_add] at hst
    have pre : RelPreX Rs X l a B W i l[i] (fun j => listed.getD j false) A w := by
      refine ⟨hI.bel, hI.size, hI.out, fun j hj => hI.has j hj, fun j hj => haft j (by unfold depB; rw [hoo]; exact hj), hfd, hI.ext⟩
    have next : ∀ (v : Value) (w' : World), (l[i].dst = none → v = undef) → relAt Rs i v w' → Below B w w' → (∀ j, j ≠ i → listed.getD j false = true → relAt Rs j (valOf l A j) w') → X (updD (fun j => listed.getD j false) i) (updU (fun j => valOf l A j) i v) w' → wpAny P .any (l ++ t).toArray Q fuel (listed.setIfInBounds i true) (A.put l[i].dst v) w' := by
      intro v w' hvn hv hB hrs hx
      have up : ∀ j, (listed.setIfInBounds i true).getD j false = true → j = i ∨ (j ≠ i ∧ listed.getD j false = true) := fun j hj => by
        by_cases e : i = j
        · exact .inl e.symm
        · refine .inr ⟨fun e' => e e'.symm, ?_⟩; simpa [Array.getD_eq_getD_getElem?, Array.getElem?_setIfInBounds, e] using hj
      have eD : (fun j => (listed.setIfInBounds i true).getD j false) = updD (fun j => listed.getD j false) i := by
        funext j
        unfold updD; by_cases e : i = j
        · subst e; simp [Array.getD_eq_getD_getElem?, Array.getElem?_setIfInBounds, hli]
        · rw [if_neg (fun e' : j = i => e e'.symm)]; simp [Array.getD_eq_getD_getElem?, Array.getElem?_setIfInBounds, e]
      have eU : (fun j => valOf l (A.put l[i].dst v) j) = updU (fun j => valOf l A j) i v := by
        funext j
        unfold updU; by_cases e : j = i
        · subst e; rw [if_pos rfl]; exact valOf_same hok ho hI.size hvn
        · rw [if_neg e]; exact valOf_other hok ho hI.size e
      refine ih _ _ _ ?_ ⟨Nat.le_trans hI.low hB.size, hI.bel.trans hB, ?_, ?_, fun q hq => ?_, fun j hl => ?_, by simp [hI.len], downC_set hI.down hli haft, fun j hj => ?_, by rw [eD, eU]; exact hx⟩
      · rw [Array.toList_setIfInBounds]; have := count_set (l := listed.toList) (i := i) (by rw [Array.getElem?_toList, Array.getElem?_eq_getElem hli, hfalse]); omega
      · cases hd : l[i].dst <;> exact hI.defers
      · cases hd : l[i].dst <;> simp [Act.put, hI.size]
      · rw [← hI.out q hq]
        cases hd : l[i].dst with
        | none => rfl
        | some d =>
          rw [getD_put _ _ _ _ (by rw [hI.size]; exact dstG_lt hok ho hd), if_neg]; rintro rfl; rw [List.all_eq_true] at hq; have := hq _ (List.mem_of_getElem? ho); rw [hd] at this; simp at this
      · rcases up j hl with rfl | ⟨hne, h2⟩
        · rw [valOf_same hok ho hI.size hvn]; exact hv
        · rw [valOf_other hok ho hI.size hne]; exact hrs j hne h2
      · have := hI.rest j hj; simp only [Array.getD_eq_getD_getElem?, Array.getElem?_setIfInBounds] at this ⊢; rw [if_neg (by omega)]; exact this
    have hs := hst _ A w pre
    have hwant : Region.wanted l[i] (yielded (l ++ t).toArray A.tmps) = Region.wanted l[i] (yielded l.toArray A.tmps) := by
      unfold guardsIn at hgi; rw [List.all_eq_true] at hgi; have hg := hgi _ (List.mem_of_getElem? ho)
      cases hgd : l[i].guard with
      | none => simp [Region.wanted, hgd]
      | some gb =>
        obtain ⟨g, b⟩ := gb; rw [hgd] at hg; have hgl : g < l.length := (by simpa using hg)
        have : yielded (l ++ t).toArray A.tmps g = yielded l.toArray A.tmps g := by
          unfold yielded; simp only [List.getElem?_toArray, List.getElem?_append_left hgl]
        simp [Region.wanted, hgd, this]
    unfold wpOp; simp only [List.getElem?_toArray, hoo]; rw [hwant]; split
    · rename_i hw; rw [if_pos hw] at hs; refine .inl (Oper.wp_mono ?_ hs); rintro A' w' ⟨v, rfl, hvn, hv, hb, hrs, hx⟩; exact next v w' hvn hv hb hrs hx
    · rename_i hw; rw [if_neg hw] at hs; exact next undef w (fun _ => rfl) hs.1 (Below.refl _ _) (fun j _ hj => hI.has j hj) hs.2
theorem wp_region_relX {P : Program} {id : Nat} {Q : Exit → Act → World → Prop} {a : Act} {W : World} {ops : List Oper} (n : Nat) (B : Nat) (hBW : B ≤ W.heap.size) (Rs : List (Value → World → Prop)) (X : (Nat → Bool) → (Nat → Value) → World → Prop) (hm : P.follows .mixedOrders = true) (hok : relOkG a.tmps.size (ops.take n) = true) (hto : tailOk (ops.take n).length ops = true) (hlt : depLt ops = true) (hgi : guardsIn (ops.take n) = true)
  (h0 : X (fun _ => false) (fun j => valOf (ops.take n) a j) W.drew)
  (steps : RelStepsX P B Rs X (ops.take n) a W Q 0 (ops.take n))
  (fin : ∀ (u : Nat → Value) (w : World), Below B W w → RelAll Rs u w (ops.take n).length → X (fun j => decide (j < (ops.take n).length)) u w → wpList P ops.toArray Q (ops.drop n) (putAll a u 0 (ops.take n)) w) : (Code.region id ops.toArray true).wp P Q a W := by
 have e : ops.take n ++ ops.drop n = ops := List.take_append_drop _ _
 have hno : ∀ j, (Array.replicate ops.toArray.size false).getD j false = true → False := fun j hl => by
  simp only [Array.getD_eq_getD_getElem?, Array.getElem?_replicate] at hl; split at hl <;> simp at hl
 have key := relAnyX (t := ops.drop n) (l := ops.take n) hok (by rw [e]; exact hto) (by rw [e]; exact hlt) hgi steps (by rw [e]; exact fin); rw [e] at key; refine wp_region_any hm (key _ _ _ _ ?_ ⟨hBW, ⟨rfl, rfl, rfl, Nat.le_refl _, fun _ _ => rfl⟩, rfl, rfl, fun _ _ => rfl, fun j hl => (hno j hl).elim, by simp, fun k j hk _ => (hno k hk).elim, fun j hj => ?_, ?_⟩)
 ·simp
 ·cases hb : (Array.replicate ops.toArray.size false).getD j false with
  | false => rfl
  | true => exact (hno j hb).elim
 ·have e0 : (fun j => (Array.replicate ops.toArray.size false).getD j false) = (fun _ => false) := by
   funext j
   cases hb : (Array.replicate ops.toArray.size false).getD j false with
   | false => rfl
   | true => exact (hno j hb).elim
  rw [e0]; exact h0
section
variable {P : Program} {B : Nat} {Rs : List (Value → World → Prop)} {X : (Nat → Bool) → (Nat → Value) → World → Prop} {l : List Oper} {a : Act} {W : World} {Q : Exit → Act → World → Prop} {i : Nat} {o : Oper}
theorem relX_plain (hg : o.guard = none) (hd : o.dst.isSome = true) (hm : AllMono Rs) (hBW : B ≤ W.heap.size) (hX : ∀ D u v w w', Below w.heap.size w w' → X D u w → X (updD D i) (updU u i v) w')
  (h : ∀ (D : Nat → Bool) (A : Act) (w : World), RelPreX Rs X l a B W i o D A w → o.wp P A w (fun A' w' => ∃ v, A' = A.put o.dst v ∧ relAt Rs i v w' ∧ Below w.heap.size w w') Q) : RelStepX P B Rs X l a W Q i o := by
 intro D A w hp; rw [if_pos (by simp [Region.wanted, hg])]; refine Oper.wp_mono ?_ (h D A w hp); rintro A' w' ⟨v, rfl, hv, hb⟩; refine ⟨v, rfl, fun e => ?_, hv, hb.mono (Nat.le_trans hBW hp.bel.size), fun j _ hj => relMono _ hm _ _ _ _ hb (hp.has j hj), hX _ _ _ _ _ hb hp.ext⟩; rw [e] at hd
 cases hd
theorem relX_op (hg : o.guard = none) (hd : o.dst.isSome = true) (hm : AllMono Rs) (hBW : B ≤ W.heap.size)
  (h : ∀ (D : Nat → Bool) (A : Act) (w : World), RelPreX Rs X l a B W i o D A w → o.wp P A w (fun A' w' => ∃ v, A' = A.put o.dst v ∧ relAt Rs i v w' ∧ Below w.heap.size w w' ∧ X (updD D i) (updU (fun j => valOf l A j) i v) w') Q) : RelStepX P B Rs X l a W Q i o := by
 intro D A w hp; rw [if_pos (by simp [Region.wanted, hg])]; refine Oper.wp_mono ?_ (h D A w hp); rintro A' w' ⟨v, rfl, hv, hb, hx⟩; refine ⟨v, rfl, fun e => ?_, hv, hb.mono (Nat.le_trans hBW hp.bel.size), fun j _ hj => relMono _ hm _ _ _ _ hb (hp.has j hj), hx⟩; rw [e] at hd
 cases hd
theorem relX_store (hg : o.guard = none) (h : ∀ (D : Nat → Bool) (A : Act) (w : World), RelPreX Rs X l a B W i o D A w → ∃ w', ((execOp A.eval o).run P w = .ok .skip w' ∨ (execOp A.eval o).run P w = .ok (.value undef) w') ∧ relAt Rs i undef w' ∧ Below B w w' ∧ (∀ j, j ≠ i → D j = true → relAt Rs j (valOf l A j) w') ∧ X (updD D i) (updU (fun j => valOf l A j) i undef) w') : RelStepX P B Rs X l a W Q i o := by
 intro D A w hj; rw [if_pos (by simp [Region.wanted, hg])]; obtain ⟨w', h1, h2, h3, h4, h5⟩ := h D A w hj; unfold Oper.wp; rcases h1 with h1 | h1
 ·rw [h1]; exact ⟨undef, rfl, fun _ => rfl, h2, h3, h4, h5⟩
 ·rw [h1]; exact ⟨undef, rfl, fun _ => rfl, h2, h3, h4, h5⟩
end
end Go.Proofs.YtmffmkjgdjgmeaaGreat
