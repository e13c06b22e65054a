import Derived.Test.YtdjgenlhcjgafaaDoorCards
import Derived.Test.YtdjgenlhcjgafaaDoorTie
import Derived.Test.YtdjgenlhcjgafaaDoorRows
import Derived.Test.YtdjgenlhcjgafaaDoorAtSh
import Derived.Shelf.Strings.Builder1
import Derived.Shelf.Strings.Builder2
import Derived.Shelf.Strings.OnBuilder
import Derived.Shelf.LaysM
import Derived.WalkKit
import Derived.ProofKit
import Derived.OpenShut
import Derived.Below
import Derived.Laws.OwnMore
import Derived.Laws.Rows
import Derived.Laws.MakeOwn
import Derived.Deep.AppendLies
import Derived.Deep.Draws
import Derived.Deep.OwnRows
import Derived.Deep.QuietTactic
import Derived.Maps.AppendAt
import Derived.RegionTactic
import Derived.OwnWalk
import Derived.ChangeSame
import Derived.Outline
import Derived.BigQuiet
import Derived.WalkMore
import Derived.ScopeJumps
import Derived.WalkLawsBesides
import Derived.WalkSpells
import Derived.WideKeyArgs
import Derived.Deep.DeepHandedRow
import Derived.Deep.DeepWitnessRowRef
import Derived.Lib.LaidTab
import Derived.Lib.AppendIntMem
import Derived.LaidMore
import Derived.MakeChecks
import Derived.Lib.Itoa
import Derived.Lib.ItoaMem
import Derived.Lib.SmallJoins
import Derived.Lib.ParseIntBCases
import Derived.Lib.IndexMore
import Derived.Shelf.Vars
import Derived.Lib.PathFns
import Derived.Lib.IndexBytes
import Derived.RangeFuncWrites
import Derived.RangeFuncNested
import Derived.RangeFuncBound
import Derived.RangeFuncCalls
import Derived.RangeFuncLeaves
import Derived.RangeFuncBox
import Derived.Shelf.Abstract
import Derived.Shelf.RegionOpen
import Derived.OwnWalkIn
import Derived.TacticsInMore
import Derived.LoopNIn
import Derived.LoopIn
import Derived.Lib.AtoiAllCases
import Derived.SliceStrings
import Derived.Deep.RegionLaw
import Derived.Sort.LotA
import Derived.BigRegion
import Derived.BigRegionIn
import Derived.JoinedCond
namespace Go.Proofs.YtdjgenlhcjgafaaDoor
open Go.RowKit Go.WideShapes Go.ChangeShapes
theorem hide {p : Prop} (h : p) : Hid p := h
theorem block_of_add (a : Addr) (n : Nat) : (a.add n).block = a.block := by unfold Addr.add; split <;> rfl
theorem add_of_add (a : Addr) (i j : Nat) : (a.add i).add j = a.add (i + j) := by
  unfold Addr.add
  by_cases hi : i = 0 <;> by_cases hj : j = 0 <;> simp [hi, hj, Nat.add_assoc]
def Reads (w : World) (B size : Nat) (A : Option Addr) (n : Nat) (xs : List Value) : Prop :=
  xs.length = n * size ∧ (0 < n → ∃ ad, A = some ad ∧ ad.block < B ∧ ∀ j u, xs[j]? = some u → w.cell? (ad.add j) = some u)
section
variable {w w' : World} {B B' size n : Nat} {A : Option Addr} {xs : List Value}
theorem Reads.none_ : Reads w B size A 0 [] := ⟨by simp, fun h => absurd h (by omega)⟩
theorem Reads.at_ {k : Nat} (h : Reads w B 1 A n xs) (hk : k < n) : ∃ ad u, A = some ad ∧ ad.block < B ∧ xs[k]? = some u ∧ w.cell? (ad.add k) = some u := by
  obtain ⟨ad, e, hb, hc⟩ := h.2 (by omega)
  have hl : k < xs.length := by have := h.1; omega
  exact ⟨ad, xs[k], e, hb, List.getElem?_eq_getElem hl, hc k _ (List.getElem?_eq_getElem hl)⟩
theorem Reads.keep (h : Reads w B size A n xs) (hk : ∀ p : Addr, p.block < B → w'.cell? p = w.cell? p) : Reads w' B size A n xs :=
  ⟨h.1, fun hn => by
    obtain ⟨ad, e, hb, hc⟩ := h.2 hn
    exact ⟨ad, e, hb, fun j u hu => (hk _ (by rw [block_of_add]; exact hb)).trans (hc j u hu)⟩⟩
theorem Reads.more (h : Reads w B size A n xs) (hB : B ≤ B') : Reads w B' size A n xs :=
  ⟨h.1, fun hn => by
    obtain ⟨ad, e, hb, hc⟩ := h.2 hn
    exact ⟨ad, e, by omega, hc⟩⟩
theorem Reads.below (h : Reads w B size A n xs) (hb : Below B w w') : Reads w' B size A n xs := h.keep fun _ hp => hb.cell hp
theorem Reads.drew (h : Reads w B size A n xs) : Reads w.drew B size A n xs := h
theorem Reads.drewN (h : Reads w B size A n xs) (k : Nat) : Reads (w.drewN k) B size A n xs := h
theorem Reads.alloc (h : Reads w B size A n xs) (hB : B ≤ w.heap.size) (o : Obj) : Reads (w.alloc o) B size A n xs := h.keep fun p hp => World.cell?_alloc_lt w o p (by omega)
theorem Reads.setCell (h : Reads w B size A n xs) {p : Addr} (hB : B ≤ p.block) (u : Value) : Reads (w.setCell p u) B size A n xs :=
  h.keep fun q hq => World.cell?_setCell_other w p q u (fun e => by subst e; omega)
theorem Reads.grown (h : Reads w B size A n xs) {row : Option Nat} (hg : w.grownBy w' row) (hB : B ≤ w.heap.size) (hr : ∀ g, row = some g → B ≤ g) : Reads w' B size A n xs :=
  h.keep fun p hp => World.cell?_of_block (hg.block p.block (by omega) (fun e => by have := hr _ e.symm; omega))
theorem Reads.cut (h : Reads w B size A n xs) {k cap : Nat} (hk : k ≤ n) (hc : n ≤ cap) :
    Reads w B size (if cap = k then A else A.map (·.add (k * size))) (n - k) (xs.drop (k * size)) := by
  refine ⟨by rw [List.length_drop, h.1, Nat.sub_mul], fun hn => ?_⟩
  obtain ⟨ad, rfl, hb, hcell⟩ := h.2 (by omega)
  rw [if_neg (by omega)]
  refine ⟨ad.add (k * size), rfl, by rw [block_of_add]; exact hb, fun j u hu => ?_⟩
  rw [add_of_add]
  exact hcell _ u (by rw [← hu, List.getElem?_drop])
theorem Reads.of_own {base : Nat} {e : TypeId} {c : Nat} (h : w.ownsRow base e size (.slice A n c) n xs) : Reads w w.heap.size size A n xs := by
  refine ⟨h.1, fun hn => ?_⟩
  obtain ⟨g, cap, hv, _, hlt⟩ := h.form hn
  have hA : A = some ⟨g, 0, none⟩ := by injection hv
  subst hA
  exact ⟨_, rfl, hlt, h.cells (g := g) rfl⟩
end
def Blk (w : World) (g : Nat) (t : TypeId) (cs : Array Value) : Prop := w.heap[g]? = some (.cells cs t (0, 0))
section
variable {w w' : World} {g : Nat} {t : TypeId} {cs : Array Value}
theorem Blk.lt (h : Blk w g t cs) : g < w.heap.size := by
  rcases Nat.lt_or_ge g w.heap.size with hlt | hge
  · exact hlt
  · unfold Blk at h; rw [Array.getElem?_eq_none hge] at h; cases h
theorem Blk.cell (h : Blk w g t cs) (i : Nat) : w.cell? ⟨g, i, none⟩ = cs[i]? := cell_of_row w g i cs t (0, 0) h
theorem Blk.frozen (h : Blk w g t cs) (i : Nat) : w.frozen? ⟨g, i, none⟩ = false := by
  unfold Blk at h
  simp [World.frozen?, h]
theorem Blk.new (w : World) (t : TypeId) (cs : Array Value) : Blk (w.alloc (.cells cs t)) w.heap.size t cs := heap_alloc_new w _
theorem Blk.drew (h : Blk w g t cs) : Blk w.drew g t cs := h
theorem Blk.drewN (h : Blk w g t cs) (n : Nat) : Blk (w.drewN n) g t cs := h
theorem Blk.alloc (h : Blk w g t cs) (o : Obj) : Blk (w.alloc o) g t cs := (Below.heap_alloc w o g h.lt).trans h
theorem Blk.set_ (h : Blk w g t cs) (i : Nat) (u : Value) : Blk (w.setCell ⟨g, i, none⟩ u) g t (cs.setIfInBounds i u) := by
  unfold Blk at h ⊢
  simp [World.setCell, Array.getElem?_modify, h]
theorem Blk.far (h : Blk w g t cs) {p : Addr} (hp : g ≠ p.block) (u : Value) : Blk (w.setCell p u) g t cs := (Below.heap_setCell w p u g hp).trans h
theorem Blk.below {B : Nat} (h : Blk w g t cs) (hb : Below B w w') (hg : g < B) : Blk w' g t cs := (hb.block g hg).trans h
theorem Blk.grown {row : Option Nat} (h : Blk w g t cs) (hb : w.grownBy w' row) (hg : some g ≠ row) : Blk w' g t cs := (hb.block g h.lt hg).trans h
theorem Blk.ne_ {g' : Nat} {t' : TypeId} {cs' : Array Value} (h : Blk w g t cs) (h' : Blk w g' t' cs') (hne : t ≠ t') : g ≠ g' := by
  rintro rfl
  unfold Blk at h h'
  rw [h] at h'
  injection h' with h'
  injection h' with _ ht
  exact hne ht
theorem own_blk_ne {base : Nat} {e : TypeId} {size n : Nat} {v : Value} {xs : List Value} (h : w.ownsRow base e size v n xs) (hg : Blk w g t cs) (hne : e ≠ t) : v.ownBlock ≠ some g := by
  rcases h.2 with ⟨rfl, _⟩ | ⟨g', cap, cur, rfl, _, hh, _⟩
  · simp [Value.ownBlock]
  · intro he
    have : g' = g := by simpa [Value.ownBlock] using he
    subst this
    exact Blk.ne_ (t := e) hh hg hne rfl
end
section
variable {P : Program} (w : World)
theorem run_append_of_nil (base : Nat) (t ty e : TypeId) (i : TypeInfo) (size : Nat) (ht : P.underlying t = some (.slice e)) (hi : P.info? e = some i)
    (v : Value) (n : Nat) (xs : List Value) (hown : w.ownsRow base e size v n xs) (c : Nat) : (Builtin.append_ #[t, t] ty #[v, .slice none 0 c]).run P w = .ok v w := by
  rcases hown.2 with ⟨rfl, rfl⟩ | ⟨g, cap, cur, rfl, _, _, hnc, _⟩
  · simp [Builtin.append_, run_underlying ht, sizeOf, typeInfo, hi, Builtin.lenOf, Builtin.firstCells]
  · simp [Builtin.append_, run_underlying ht, sizeOf, typeInfo, hi, Builtin.lenOf, Builtin.firstCells, hnc, storeCells]
theorem run_append_any (base : Nat) (t ty e : TypeId) (i : TypeInfo) (z : Value) (size bytes : Nat) (ht : P.underlying t = some (.slice e)) (hi : P.info? e = some i) (hz : i.zero = some z)
    (hsize : i.size = size) (hby : i.bytes = bytes) (hzs : z.cells.size = size) (hsz : 0 < size)
    (v : Value) (n : Nat) (xs : List Value) (hown : w.ownsRow base e size v n xs)
    (B : Nat) (A : Option Addr) (m c : Nat) (news : List Value) (hr : Reads w B size A m news) (h1 : ∀ u ∈ news, u.oneCell' = true)
    (h63 : n + m ≤ maxLen) (hbytes : (n + m) * bytes ≤ 140737488355328) (hbase : base ≤ w.heap.size) :
    ∃ v' w', (Builtin.append_ #[t, t] ty #[v, .slice A m c]).run P w = .ok v' w' ∧ w'.ownsRow base e size v' (n + m) (xs ++ news) ∧ w.grownBy w' v.ownBlock ∧
      (v'.ownBlock = v.ownBlock ∨ v'.ownBlock = some w.heap.size) := by
  rcases A with _ | ad
  · have hm : m = 0 := by
      rcases Nat.eq_zero_or_pos m with h0 | h0
      · exact h0
      · obtain ⟨ad, h, _⟩ := hr.2 h0
        cases h
    subst hm
    have hn : news = [] := List.eq_nil_of_length_eq_zero (by simpa using hr.1)
    subst hn
    exact ⟨v, w, run_append_of_nil w base t ty e i size ht hi v n xs hown c, by simpa using hown, World.grownBy.refl w _, .inl rfl⟩
  · have hcells : ∀ j u, news[j]? = some u → w.cell? (ad.add j) = some u := by
      intro j u hu
      rcases Nat.eq_zero_or_pos m with h0 | h0
      · subst h0
        have hn : news = [] := List.eq_nil_of_length_eq_zero (by simpa using hr.1)
        subst hn
        simp at hu
      · obtain ⟨ad', h, _, hc⟩ := hr.2 h0
        injection h with h
        subst h
        exact hc j u hu
    obtain ⟨v', w', hrun, h2, h3, _, h5⟩ := run_append_own_at (P := P) w base t ty e i z size bytes ht hi hz hsize hby hzs hsz v n xs hown ad m c news hr.1 hcells h1 h63 hbytes hbase
    exact ⟨v', w', hrun, h2, h3, h5⟩
theorem wp_append_any {o : Oper} {a : Act} {K : Act → World → Prop} {Q : Exit → Act → World → Prop} (s x : Operand) (t : TypeId)
    (ho : o.op = .call { callee := .builtin .append, args := #[s, x], argTypes := #[t, t] })
    (base : Nat) (e : TypeId) (i : TypeInfo) (z : Value) (size bytes : Nat) (ht : P.underlying t = some (.slice e)) (hi : P.info? e = some i) (hz : i.zero = some z)
    (hsize : i.size = size) (hby : i.bytes = bytes) (hzs : z.cells.size = size) (hsz : 0 < size)
    (v : Value) (n : Nat) (xs : List Value) (hs : a.eval s = v) (hown : w.ownsRow base e size v n xs)
    (B : Nat) (A : Option Addr) (m c : Nat) (news : List Value) (hx : a.eval x = .slice A m c) (hr : Reads w B size A m news) (h1 : ∀ u ∈ news, u.oneCell' = true)
    (h63 : n + m ≤ maxLen) (hbytes : (n + m) * bytes ≤ 140737488355328) (hbase : base ≤ w.heap.size)
    (h : ∀ v' w', w'.ownsRow base e size v' (n + m) (xs ++ news) → w.grownBy w' v.ownBlock → (v'.ownBlock = v.ownBlock ∨ v'.ownBlock = some w.heap.size) → K (a.put o.dst v') w') : o.wp P a w K Q := by
  obtain ⟨v', w', hrun, h2, h3, h4⟩ := run_append_any (P := P) w base t o.type e i z size bytes ht hi hz hsize hby hzs hsz v n xs hown B A m c news hr h1 h63 hbytes hbase
  unfold Oper.wp execOp
  simp only [ho, resolve, invoke, builtin, Sem.run_bind, Sem.run_pure, Result.andThen_ok, List.map_toArray, List.map_cons, List.map_nil, hs, hx, hrun]
  exact h v' w' h2 h3 h4
theorem wpList_append_any {ops : Array Oper} {rest : List Oper} {o : Oper} {a : Act} {Q : Exit → Act → World → Prop} (hgd : o.guard = none) (s x : Operand) (t : TypeId)
    (ho : o.op = .call { callee := .builtin .append, args := #[s, x], argTypes := #[t, t] })
    (base : Nat) (e : TypeId) (i : TypeInfo) (z : Value) (size bytes : Nat) (ht : P.underlying t = some (.slice e)) (hi : P.info? e = some i) (hz : i.zero = some z)
    (hsize : i.size = size) (hby : i.bytes = bytes) (hzs : z.cells.size = size) (hsz : 0 < size)
    (v : Value) (n : Nat) (xs : List Value) (hs : a.eval s = v) (hown : w.ownsRow base e size v n xs)
    (B : Nat) (A : Option Addr) (m c : Nat) (news : List Value) (hx : a.eval x = .slice A m c) (hr : Reads w B size A m news) (h1 : ∀ u ∈ news, u.oneCell' = true)
    (h63 : n + m ≤ maxLen) (hbytes : (n + m) * bytes ≤ 140737488355328) (hbase : base ≤ w.heap.size)
    (h : ∀ v' w', w'.ownsRow base e size v' (n + m) (xs ++ news) → w.grownBy w' v.ownBlock → (v'.ownBlock = v.ownBlock ∨ v'.ownBlock = some w.heap.size) → wpList P ops Q rest (a.put o.dst v') w') : wpList P ops Q (o :: rest) a w :=
  wpList_plain hgd fun _ hK => wp_append_any w s x t ho base e i z size bytes ht hi hz hsize hby hzs hsz v n xs hs hown B A m c news hx hr h1 h63 hbytes hbase fun v' w' h2 h3 h4 => hK _ _ (h v' w' h2 h3 h4)
theorem step_append_any {ops : Array Oper} {o : Oper} {a : Act} {K : Act → World → Prop} {Q : Exit → Act → World → Prop} {E : Prop} (hgd : o.guard = none) (s x : Operand) (t : TypeId)
    (ho : o.op = .call { callee := .builtin .append, args := #[s, x], argTypes := #[t, t] })
    (base : Nat) (e : TypeId) (i : TypeInfo) (z : Value) (size bytes : Nat) (ht : P.underlying t = some (.slice e)) (hi : P.info? e = some i) (hz : i.zero = some z)
    (hsize : i.size = size) (hby : i.bytes = bytes) (hzs : z.cells.size = size) (hsz : 0 < size)
    (v : Value) (n : Nat) (xs : List Value) (hs : a.eval s = v) (hown : w.ownsRow base e size v n xs)
    (B : Nat) (A : Option Addr) (m c : Nat) (news : List Value) (hx : a.eval x = .slice A m c) (hr : Reads w B size A m news) (h1 : ∀ u ∈ news, u.oneCell' = true)
    (h63 : n + m ≤ maxLen) (hbytes : (n + m) * bytes ≤ 140737488355328) (hbase : base ≤ w.heap.size)
    (h : ∀ v' w', w'.ownsRow base e size v' (n + m) (xs ++ news) → w.grownBy w' v.ownBlock → (v'.ownBlock = v.ownBlock ∨ v'.ownBlock = some w.heap.size) → K (a.put o.dst v') w') :
    if Region.wanted o (yielded ops a.tmps) = true then Oper.wp P o a w K Q else E := by
  have hw : Region.wanted o (yielded ops a.tmps) = true := by simp [Region.wanted, hgd]
  rw [if_pos hw]
  exact wp_append_any w s x t ho base e i z size bytes ht hi hz hsize hby hzs hsz v n xs hs hown B A m c news hx hr h1 h63 hbytes hbase h
end
theorem quiet_left {P : Program} {f : FuncId} {args : Array Value} {w : World} {n : Nat} {v : Value}
    (h : Calls P f args (w.drewN n) fun e w' => e = .returned v ∧ w.drewN n = w') : Calls P f args (w.drewN n) fun e w'' => e = .returned v ∧ ∃ m, w'' = w.drewN m :=
  h.mono fun _ _ ⟨he, hm⟩ => ⟨he, n, hm.symm⟩
theorem below_drewN {B : Nat} {a w : World} (h : Below B a w) (n : Nat) : Below B a (w.drewN n) := ⟨h.os, h.tape, h.output, h.size, h.block⟩
section
variable {H : Type} {enc : TypeId × Value → H} {P : Program}
theorem post_of_below {f : Func} {s : ChangeSpec} {apart fresh handsOn again : Bool} {W W' : World} {args : Array Value} {v : Value} {ds gs : List (DataW H)} {before pa pv : List MemPlace}
    (hW : DataW.Whole enc P f.params.toList s.vars apart W args.toList ds gs before)
    (hres : ∀ (b : Nat) (sp : Nat → Bool) (hd : Bool), DataW.TrodAll enc P W' b sp hd f.resultTypes.toList (v.resultList f.resultTypes.size) (s.fn H (ds ++ gs)).results [])
    (hargs : ∀ sp : Nat → Bool, (∀ p ∈ before, sp p.block = true) → DataW.TrodAll enc P W' 0 sp true f.params.toList args.toList (s.fn H (ds ++ gs)).args pa)
    (hvars : ∀ sp : Nat → Bool, (∀ p ∈ before, sp p.block = true) → DataW.TrodVars enc P W' sp s.vars (s.fn H (ds ++ gs)).vars pv)
    (hps : before = pa ++ pv) (hb : Below W.heap.size W W')
    (hok : ∀ (j : Nat) (t : TypeId) (r : Value), f.resultTypes[j]? = some t → (v.resultList f.resultTypes.size)[j]? = some r → Value.okWide P W' .any 0 t r) :
    s.post enc P f apart fresh handsOn again W args v W' := by
  have hlt : ∀ p ∈ before, p.block < W.heap.size := fun p hp => hW.lt p hp
  have hold : ∀ p ∈ before, (fun b => decide (b < W.heap.size)) p.block = true := fun p hp => by simpa using hlt p hp
  refine ⟨ds, gs, before, [], pa, pv, hW, hres _ _ _, hargs _ hold, hvars _ hold, World.keptBut_mono (fun p hp => ⟨hp, ?_⟩) (hb.frame (· ∈ before)), fun _ => ?_⟩
  · rw [hps, List.mem_append] at hp
    exact Or.inr hp
  · obtain ⟨_, _, _, _, _, hz, hn⟩ := hW
    refine ⟨hok, _, _, ([] ++ pa) ++ pv, ⟨[] ++ pa, pv, trodAll_append (hargs _ (fun _ _ => rfl)) (hres _ _ _), hvars _ (fun _ _ => rfl), rfl, ?_, ?_⟩, ?_⟩
    · intro b off hp
      have hin : MemPlace.cell b off ∈ before := by rw [hps]; simpa using hp
      rw [hb.frozen (hlt _ hin)]
      exact hz b off hin
    · intro ha
      have := hn ha
      rw [hps] at this
      simpa using this
    · intro p hp _
      rw [hps]
      simpa using hp
end
theorem ret_bool {a b : Bool} (h : a = b) : Ending.returned (.bool a) = .returned (.bool b) := by rw [h]
theorem ret_str {a b : ByteArray} (h : a = b) : Ending.returned (.string a) = .returned (.string b) := by rw [h]
theorem own_slice {w : World} {base size n : Nat} {e : TypeId} {v : Value} {xs : List Value} (h : w.ownsRow base e size v n xs) : ∃ A cap, v = .slice A n cap := by
  rcases h.2 with ⟨rfl, rfl⟩ | ⟨g, cap, cur, rfl, _⟩
  · exact ⟨_, _, rfl⟩
  · exact ⟨_, _, rfl⟩
/-- Two steps of a call, one behind the other. -/
theorem below2 {w w1 w2 : World} (h : Below w.heap.size w w1) (k : Below w1.heap.size w1 w2) : Below w.heap.size w w2 := h.trans (k.mono h.size)
/-- A list of bytes as a string. -/
def str (l : List UInt8) : ByteArray := ⟨l.toArray⟩
theorem str_ne {l : List UInt8} (h : l ≠ []) : (str l).toList.isEmpty = false := by
  unfold str; rw [ByteArray.toList_mk]; simp [h]
theorem cat_str (a b : List UInt8) : str a ++ str b = str (a ++ b) := by
  unfold str; apply ByteArray.ext; simp
theorem str_beq (a b : List UInt8) : ((str a).toList == (str b).toList) = (a == b) := by
  unfold str; rw [ByteArray.toList_mk, ByteArray.toList_mk]
theorem str_size (l : List UInt8) : (str l).size = l.length := by simp [str, ByteArray.size]
theorem str_data (l : List UInt8) : (str l).data.toList = l := by simp [str]
theorem str_of (s : ByteArray) : str s.data.toList = s := by apply ByteArray.ext; simp [str]
theorem Blk.set0 {w : World} {g : Nat} {t : TypeId} {a u u' : Value} (h : Blk w g t #[a]) (hu : u = u') : Blk (w.setCell ⟨g, 0, none⟩ u) g t #[u'] := by
  subst hu; exact h.set_ 0 u
theorem Blk.set1 {w : World} {g : Nat} {t : TypeId} {a b u u' : Value} (h : Blk w g t #[a, b]) (hu : u = u') : Blk (w.setCell ⟨g, 1, none⟩ u) g t #[a, u'] := by
  subst hu; exact h.set_ 1 u
end Go.Proofs.YtdjgenlhcjgafaaDoor
namespace Go.Proofs.YtdjgenlhcjgafaaDoor
open Go.RowKit Go.WideShapes Go.ChangeShapes Go.ChangeAt
section
variable {H : Type} {enc : TypeId × Value → H} {P : Program}
/-- ALL ARGUMENTS READ BEHIND THE CALL AS THEY DID, if below the heap's old size nothing has turned. -/
theorem trodAll_stays (hl : laidOutB P = true) {W W' : World} {sp : Nat → Bool} (hb : Below W.heap.size W W') : ∀ {ts : List TypeId} {vs : List Value} {ds : List (DataW H)} {ps : List MemPlace},
    (∀ t ∈ ts, P.readableRec t = true ∧ t < P.types.size) → DataW.TrodAll enc P W 0 (fun _ => true) true ts vs ds ps → (∀ p ∈ ps, p.block < W.heap.size) → (∀ p ∈ ps, sp p.block = true) →
    DataW.TrodAll enc P W' 0 sp true ts vs ds ps
  | [], [], [], _, _, h, _, _ => h
  | t :: ts, v :: vs, d :: ds, _, hT, ⟨p, q, h1, h2, e⟩, hlt, hs => by
    subst e
    refine ⟨p, q, ?_, ?_, rfl⟩
    · exact WideElems.Trod_stays hl (hT t (by simp)).1 (hT t (by simp)).2 h1 (fun x hx => hb.same (hlt x (by simp [hx]))) (fun x hx => hs x (by simp [hx]))
    · exact trodAll_stays hl hb (fun u hu => hT u (by simp [hu])) h2 (fun x hx => hlt x (by simp [hx])) (fun x hx => hs x (by simp [hx]))
/-- A LAW's LAST STEP: it has returned true, and nothing that was there has turned: the row's 'post', whatever the parameters. -/
theorem law_post {f : Func} {s : ChangeSpec} {apart fresh handsOn again : Bool} {W W' : World} {args : Array Value} {ds gs : List (DataW H)} {before : List MemPlace} {T : TypeId}
    (hl : laidOutB P = true) (hT : ∀ t ∈ f.params.toList, P.readableRec t = true ∧ t < P.types.size)
    (hW : DataW.Whole enc P f.params.toList s.vars apart W args.toList ds gs before) (hv : s.vars = []) (hs : s.fn H ds = { results := [.lit (.bool true)], args := ds })
    (hrt : f.resultTypes = #[T]) (hbool : P.underlying T = some .bool) (hb : Below W.heap.size W W') : s.post enc P f apart fresh handsOn again W args (.bool true) W' := by
  have hW0 := hW
  obtain ⟨p, q, hA, hV, rfl, hfz, hnd⟩ := hW
  rw [hv] at hV
  obtain ⟨rfl, rfl⟩ := trodVars_none hV
  have hlt : ∀ x ∈ p, x.block < W.heap.size := fun x hx => hW0.lt x (by simp [hx])
  simp only [List.append_nil] at hW0
  refine post_of_below (pa := p) (pv := []) hW0 (fun b sp hd => ?_) (fun sp hsp => ?_) (fun sp _ => ?_) (by simp) hb ?_
  · rw [List.append_nil, hs, hrt]
    exact trodAll_cons_mk (shut_bool hbool _) trodAll_mk0
  · rw [List.append_nil, hs]
    exact trodAll_stays hl hb hT hA hlt (fun x hx => hsp x hx)
  · rw [List.append_nil, hs, hv]
    exact rfl
  · exact ok_one hrt rfl (okWide_bool_mk hbool _)
end
end Go.Proofs.YtdjgenlhcjgafaaDoor
namespace Go.Proofs.YtdjgenlhcjgafaaDoor
open Go.RowKit Go.WideShapes Go.ChangeShapes Go.ChangeAt
theorem laidVars_mem {P : Program} {W : World} {n : String} {d : DataW Unit} : ∀ {l : List (String × DataW Unit)} {ps : List MemPlace}, DataW.LaidVars P W l ps → (n, d) ∈ l →
    ∃ g t cs fuel p, P.globalNamed n = some g ∧ (P.globals[g]?).map (·.type) = some t ∧ W.var? P n = some cs ∧ DataW.trod (fun _ => ()) P W 0 (fun _ => true) false fuel t cs.toList = some (d, p)
  | [], _, _, hm => by simp at hm
  | (n', d') :: l, ps, h, hm => by
    obtain ⟨g, t, cs, fuel, p, q, h1, h2, h3, h4, h5, _⟩ := h
    rcases List.mem_cons.1 hm with e | e
    · cases e; exact ⟨g, t, cs, fuel, p, h1, h2, h3, h4⟩
    · exact laidVars_mem h5 e
/-- A LISTED TABLE OF INTEGERS, wherever it stands on the list. -/
theorem tabIs_of_mem {P : Program} {W : World} {name : String} {k : IntKind} {zs : List Int} {laid : List (String × DataW Unit)} {g : Nat} {t e : TypeId} {n : Nat}
    (hg : P.globalNamed name = some g) (hty : (P.globals[g]?).map (·.type) = some t) (ht : P.underlying t = some (.array n e)) (he : P.underlying e = some (.int k)) (hce : P.cellsOf e = 1) (hct : P.cellsOf t = n)
    (h : laidMet P laid W) (hm : (name, Lib.tabData k zs) ∈ laid) : Lib.TabIs P W name k zs := by
  obtain ⟨ps, hl, _⟩ := h
  obtain ⟨g', t', cs, fuel, p, hg', ht', hvar, hd⟩ := laidVars_mem hl hm
  obtain rfl := Option.some.inj (hg.symm.trans hg')
  obtain rfl := Option.some.inj (hty.symm.trans ht')
  unfold Lib.TabIs
  rw [hvar, ← Lib.cells_of_tab ht he hce hct hd]
theorem own : ownKnob Tryd.prog.godebug = none := by kernel_rfl
theorem laidOut : laidOutB Tryd.prog = true := by kernel_rfl
/-- The table of powers of ten holds what its initialiser lays. -/
def Tab (w : World) : Prop := Lib.TabIs Tryd.prog w "internal/strconv.uint64pow10" .u64 Lib.pow10Tab
theorem Tab.below {w w' : World} (h : Tab w) (hb : Below w.heap.size w w') : Tab w' := Lib.tabBelow_of_tabIs h w' hb
theorem gPow : Tryd.prog.globalNamed "internal/strconv.uint64pow10" = some 3 := by kernel_rfl
theorem gPowType : (Tryd.prog.globals[3]?).map (·.type) = some 194 := by kernel_rfl
theorem cells20 : Tryd.prog.cellsOf 194 = 20 := by kernel_rfl
theorem cells64 : Tryd.prog.cellsOf 76 = 1 := by kernel_rfl
theorem tab_of_laid {W : World} {laid : List (String × DataW Unit)} (hh : (laid.all fun x => x.2.handleName?.isNone) = true) (hm : ("internal/strconv.uint64pow10", Rows.laid_internal_strconv_uint64pow10) ∈ laid) (h : laidMetH Tryd.prog laid W) : Tab W := by
  rw [MakeChecks.laidMetH_plain _ _ _ hh] at h
  exact tabIs_of_mem (zs := Lib.pow10Tab) gPow gPowType Tryd.underlying194 Tryd.underlying76 cells64 cells20 h hm
theorem mainIs : Tryd.pinned.checked.prog.mainIs = some (Rows.clistMoreCard.stood.harness.1, Rows.clistMoreCard.stood.harness.2.toList) := by kernel_rfl
theorem noLooks : true = Tryd.pinned.checked.prog.looks [] := by kernel_rfl
/-- No parameter wants a stand-in; the program's own looks are off: what a card asks. -/
theorem plain_of (name : String) (k : FuncId) (fk : Func) (h1 : Tryd.prog.funcNamed name = some k) (h2 : Tryd.prog.funcs[k]? = some fk) (h3 : (fk.params.toList.all fun u => !Tryd.prog.wantsStandIn u) = true) (h4 : true = Tryd.pinned.checked.prog.looks [])
    (f : FuncId) (fn : Func) (hf : Tryd.pinned.checked.prog.funcNamed name = some f) (hfn : Tryd.pinned.checked.prog.funcs[f]? = some fn) :
    true = Tryd.pinned.checked.prog.looks [] ∧ ∀ (j : Nat) t, fn.params[j]? = some t → Tryd.pinned.checked.prog.wantsStandIn t = false := by
  obtain rfl : f = k := Option.some.inj (hf.symm.trans h1)
  obtain rfl : fn = fk := Option.some.inj (hfn.symm.trans h2)
  refine ⟨h4, fun j t ht => ?_⟩
  have hm : t ∈ fn.params.toList := by simpa using Array.mem_of_getElem? ht
  show Tryd.prog.wantsStandIn t = false
  simpa using List.all_eq_true.1 h3 t hm
end Go.Proofs.YtdjgenlhcjgafaaDoor
namespace Go.Proofs.YtdjgenlhcjgafaaDoor
open Go.Lib
def numOf (l : List UInt8) : Nat := l.foldl (fun a c => 10 * a + (c.toNat - 48)) 0
theorem ofNat_dig {d : Nat} (h : d < 10) : (UInt8.ofNat (48 + d)).toNat = 48 + d := by
  simp only [UInt8.toNat_ofNat']; omega
theorem numOf_snoc (l : List UInt8) (c : UInt8) : numOf (l ++ [c]) = 10 * numOf l + (c.toNat - 48) := by
  simp [numOf, List.foldl_append]
theorem numOf_dec (u : Nat) : numOf (decDigits u) = u := by
  induction u using Nat.strongRecOn with
  | _ u ih =>
    by_cases h : u < 10
    · rw [decDigits, dif_pos h]
      have := ofNat_dig h
      simp only [numOf, List.foldl_cons, List.foldl_nil, this]; omega
    · rw [decDigits, dif_neg h, numOf_snoc, ih (u / 10) (by omega), ofNat_dig (by omega)]; omega
theorem dec_dig (u : Nat) : ∀ c ∈ decDigits u, 48 ≤ c.toNat ∧ c.toNat ≤ 57 := by
  induction u using Nat.strongRecOn with
  | _ u ih =>
    intro c hc
    by_cases h : u < 10
    · rw [decDigits, dif_pos h] at hc
      simp only [List.mem_singleton] at hc
      subst hc
      rw [ofNat_dig h]; omega
    · rw [decDigits, dif_neg h] at hc
      rcases List.mem_append.1 hc with hc | hc
      · exact ih (u / 10) (by omega) c hc
      · simp only [List.mem_singleton] at hc
        subst hc
        rw [ofNat_dig (by omega)]; omega
theorem dec_ne (u : Nat) : decDigits u ≠ [] := by
  rw [decDigits]; split <;> simp
theorem dec_len (u : Nat) (k : Nat) (h : u < 10 ^ (k + 1)) : (decDigits u).length ≤ k + 1 := by
  induction k generalizing u with
  | zero => rw [decDigits, dif_pos (by simpa using h)]; simp
  | succ k ih =>
    by_cases h9 : u < 10
    · rw [decDigits, dif_pos h9]; simp
    · rw [decDigits, dif_neg h9, List.length_append]
      have := ih (u / 10) (by rw [Nat.pow_succ] at h; omega)
      simp; omega
end Go.Proofs.YtdjgenlhcjgafaaDoor
set_option linter.unusedSimpArgs false
set_option linter.unusedVariables false
namespace Go.Proofs.YtdjgenlhcjgafaaDoor
open Go.RowKit Go.WideShapes Go.ChangeShapes Go.ChangeAt
theorem cells32 : Tryd.prog.cellsOf 34 = 1 := by kernel_rfl
theorem info32 : (Tryd.prog.info? 34).map (fun i => (i.zero, i.size, i.bytes)) = some (some (.int .u32 0), 1, 4) := by kernel_rfl
def u32c (l : List Nat) : List Value := l.map fun x : Nat => .int .u32 (x : Int)
/-- The slice value '.slice A n c' reads as the numbers l. -/
def U32s (w : World) (A : Option Addr) (n c : Nat) (l : List Nat) : Prop :=
  l.length = n ∧ n ≤ c ∧ c ≤ maxLen ∧ (∀ x ∈ l, x < 4294967296) ∧
    (0 < n → ∃ g o, A = some ⟨g, o, none⟩ ∧ g < w.heap.size ∧ ∀ (k x : Nat), l[k]? = some x → w.cell? ⟨g, o + k, none⟩ = some (.int .u32 (x : Int)))
theorem U32s.below {w w' : World} {A : Option Addr} {n c : Nat} {l : List Nat} (h : U32s w A n c l) (hb : Below w.heap.size w w') : U32s w' A n c l := by
  refine ⟨h.1, h.2.1, h.2.2.1, h.2.2.2.1, fun hn => ?_⟩
  obtain ⟨g, o, hA, hg, hc⟩ := h.2.2.2.2 hn
  exact ⟨g, o, hA, Nat.lt_of_lt_of_le hg hb.size, fun k x hk => (hb.cell (by exact hg)).trans (hc k x hk)⟩
theorem U32s.at_ {w : World} {A : Option Addr} {n c : Nat} {l : List Nat} (h : U32s w A n c l) {k : Nat} (hk : k < n) :
    ∃ g o x, A = some ⟨g, o, none⟩ ∧ g < w.heap.size ∧ l[k]? = some x ∧ x < 4294967296 ∧ w.cell? ⟨g, o + k, none⟩ = some (.int .u32 (x : Int)) := by
  obtain ⟨g, o, hA, hg, hc⟩ := h.2.2.2.2 (by omega)
  have hx : l[k]? = some (l[k]'(by rw [h.1]; exact hk)) := List.getElem?_eq_getElem _
  exact ⟨g, o, _, hA, hg, hx, h.2.2.2.1 _ (List.getElem_mem _), hc k _ hx⟩
theorem U32s.take_ {w : World} {A : Option Addr} {n c : Nat} {l : List Nat} (h : U32s w A n c l) {m : Nat} (hm : m ≤ n) : U32s w A m c (l.take m) := by
  refine ⟨by rw [List.length_take, h.1]; omega, Nat.le_trans hm h.2.1, h.2.2.1, fun x hx => h.2.2.2.1 x (List.mem_of_mem_take hx), fun h0 => ?_⟩
  obtain ⟨g, o, hA, hg, hc⟩ := h.2.2.2.2 (by omega)
  exact ⟨g, o, hA, hg, fun k x hk => hc k x (by rw [List.getElem?_take] at hk; split at hk; exact hk; cases hk)⟩
theorem U32s.of_own {w : World} {base n c : Nat} {A : Option Addr} {l : List Nat} (h : w.ownsRow base 34 1 (.slice A n c) n (u32c l)) (hb : ∀ x ∈ l, x < 4294967296) : U32s w A n c l := by
  have hl : l.length = n := by have := h.1; simp [u32c] at this; omega
  rcases h.2 with ⟨hv, h0⟩ | ⟨g, cap, cur, hv, _, hh, hnc, hm, _⟩
  · injection hv with e1 e2 e3
    subst e2 e3
    exact ⟨hl, Nat.le_refl _, by simp [maxLen], hb, fun h => by omega⟩
  · injection hv with e1 _ e3
    subst e1 e3
    refine ⟨hl, hnc, hm, hb, fun _ => ⟨g, 0, rfl, (Array.getElem?_eq_some_iff.1 hh).1, fun k x hk => ?_⟩⟩
    have := h.cells (g := g) rfl k (.int .u32 (x : Int)) (by simp [u32c, hk])
    rw [show (⟨g, 0, none⟩ : Addr).add k = ⟨g, 0 + k, none⟩ by unfold Addr.add; split <;> simp_all] at this
    exact this
/-- .. in the words of the append's law. -/
theorem U32s.reads {w : World} {A : Option Addr} {n c : Nat} {l : List Nat} (h : U32s w A n c l) : Reads w w.heap.size 1 A n (u32c l) := by
  refine ⟨by simp [u32c, h.1], fun hn => ?_⟩
  obtain ⟨g, o, hA, hg, hc⟩ := h.2.2.2.2 hn
  refine ⟨_, hA, hg, fun j u hu => ?_⟩
  simp only [u32c, List.getElem?_map, Option.map_eq_some_iff] at hu
  obtain ⟨x, hx, rfl⟩ := hu
  have := hc j x hx
  rw [show (⟨g, o, none⟩ : Addr).add j = ⟨g, o + j, none⟩ by unfold Addr.add; split <;> simp_all]
  exact this
theorem u32c_one (l : List Nat) : ∀ u ∈ u32c l, u.oneCell' = true := by
  intro u hu
  simp only [u32c, List.mem_map] at hu
  obtain ⟨x, _, rfl⟩ := hu
  rfl
/-- An argument's reading, opened. -/
theorem u32s_open {H : Type} {enc : TypeId × Value → H} {W : World} {A : Option Addr} {n c : Nat} {d : DataW H} {p : List MemPlace}
    (h : DataW.Trod enc Tryd.prog W 0 (fun _ => true) true 22 (.slice A n c) d p) : ∃ l, U32s W A n c l := by
  obtain ⟨fuel, hf⟩ := h
  rcases open_ints Tryd.underlying22 Tryd.underlying34 cells32 hf with ⟨hcs, _⟩ | ⟨a, len, cap, zs, hcs, _, hl, hm, hz, _, hcell, hw⟩
  · simp [Value.cells] at hcs
    obtain ⟨rfl, rfl, rfl⟩ := hcs
    exact ⟨[], rfl, Nat.le_refl _, by simp [maxLen], by simp, fun h => by omega⟩
  · simp [Value.cells] at hcs
    obtain ⟨rfl, rfl, rfl⟩ := hcs
    simp only [if_true] at hz
    have hb : ∀ z ∈ zs, 0 ≤ z ∧ z < 4294967296 := fun z hz => by
      have := hw z hz
      simp [Lit.wf, IntKind.min, IntKind.max, IntKind.signed, IntKind.bits] at this
      omega
    refine ⟨(zs.take n).map Int.toNat, by simp [hz]; omega, hl, hm, fun x hx => ?_, fun hn => ?_⟩
    · simp only [List.mem_map] at hx
      obtain ⟨z, hz, rfl⟩ := hx
      have := hb z (List.mem_of_mem_take hz)
      omega
    · obtain ⟨b, off, rfl, hc⟩ := ints_at hcell (by omega)
      have h0 := hc 0 (by omega)
      refine ⟨b, off, rfl, World.block_lt_of_cell? W _ h0, fun k x hk => ?_⟩
      simp only [List.getElem?_map, Option.map_eq_some_iff, List.getElem?_take] at hk
      obtain ⟨z, hz', rfl⟩ := hk
      split at hz'
      · have hk2 : k < zs.length := (List.getElem?_eq_some_iff.1 hz').1
        have := hc k hk2
        rw [this]
        have e : zs.getD k 0 = z := by simp [List.getD, hz']
        have hzm : z ∈ zs := List.mem_of_getElem? hz'
        rw [e, Int.toNat_of_nonneg (hb z hzm).1]
      · cases hz'
/-- A list of numbers in memory of the call's own. -/
def Own32 (w w' : World) (v : Value) (l : List Nat) : Prop := w'.ownsRow w.heap.size 34 1 v l.length (u32c l) ∧ Below w.heap.size w w'
theorem Own32.u32s {w w' : World} {v : Value} {l : List Nat} (h : Own32 w w' v l) (hb : ∀ x ∈ l, x < 4294967296) : ∃ A n c, v = .slice A n c ∧ U32s w' A n c l := by
  obtain ⟨A, c, rfl⟩ := own_slice h.1
  exact ⟨A, _, c, rfl, U32s.of_own h.1 hb⟩
set_option maxHeartbeats 1000000 in
theorem few_any (A : Option Addr) (n c : Nat) (l : List Nat) (most : Nat) (hmost : most ≤ 100000) (w : World) (h : U32s w A n c l) :
    Calls Tryd.prog 9 #[.slice A n c, .int .i64 most] w fun e w' => ∃ v, e = .returned v ∧ Own32 w w' v (l.take most) := by
  obtain ⟨i0, hi, hz0, hz1, hz2⟩ := info_parts info32
  have hn := h.2.2.1
  have hnc := h.2.1
  unfold maxLen at hn
  have hlen := h.1
  by_cases hm : most < n
  · have ht := h.take_ (m := most) (by omega)
    have hcut : (l.take most).length = most := by rw [List.length_take]; omega
    have HC := hide hcut
    have HL := hide hlen
    have H0 := hide h
    clear hcut hlen h
    go_enter Tryd.func9, Tryd.ntmps9
    go_wp2_with (at_builtin; refine wpList_append_any _ rfl (.tmp 12) (.tmp 13) 22 rfl w.heap.size 34 i0 _ 1 4 Tryd.underlying22 hi hz0 hz1 hz2 rfl (by decide) (.slice (some ⟨w.heap.size, 0, none⟩) 0 0) 0 [] rfl (World.ownsRow_made _ _ _ (Nat.le_refl _) (by simp [maxLen]) (by simp)) w.heap.size A most c (u32c (l.take most)) rfl (ht.reads.alloc (Nat.le_refl _) _) (u32c_one _) (by unfold maxLen; omega) (by omega) (by simp) ?_; intro v' w1 hown' hgrow _)
    go_ret
    refine ⟨_, rfl, ?_, ?_⟩
    · rw [HC.out]; simpa using hown'
    · exact ((Below.refl _ _).alloc (Nat.le_refl _) _).grown hgrow (by simp) (fun k hk => by simp [Value.ownBlock] at hk; omega)
  · have hcut : l.take most = l := List.take_of_length_le (by omega)
    rw [hcut]
    subst hlen
    have HC := hide hcut
    have H0 := hide h
    clear hcut
    go_enter Tryd.func9, Tryd.ntmps9
    go_wp2_with (at_builtin; refine wpList_append_any _ rfl (.tmp 12) (.tmp 13) 22 rfl w.heap.size 34 i0 _ 1 4 Tryd.underlying22 hi hz0 hz1 hz2 rfl (by decide) (.slice (some ⟨w.heap.size, 0, none⟩) 0 0) 0 [] rfl (World.ownsRow_made _ _ _ (Nat.le_refl _) (by simp [maxLen]) (by simp)) w.heap.size A l.length c (u32c l) rfl (h.reads.alloc (Nat.le_refl _) _) (u32c_one _) (by unfold maxLen; omega) (by omega) (by simp) ?_; intro v' w1 hown' hgrow _)
    go_ret
    refine ⟨_, rfl, ?_, ?_⟩
    · simpa using hown'
    · exact ((Below.refl _ _).alloc (Nat.le_refl _) _).grown hgrow (by simp) (fun k hk => by simp [Value.ownBlock] at hk; omega)
end Go.Proofs.YtdjgenlhcjgafaaDoor
set_option linter.unusedSimpArgs false
set_option linter.unusedVariables false
namespace Go.Proofs.YtdjgenlhcjgafaaDoor
open Go.RowKit
/-- What a call that only computes leaves: new blocks, nothing else. -/
def GoodP (b : Bool) (w : World) (e : Ending) (w' : World) : Prop := e = .returned (.bool b) ∧ Below w.heap.size w w'
end Go.Proofs.YtdjgenlhcjgafaaDoor
set_option linter.unusedSimpArgs false
set_option linter.unusedVariables false
namespace Go.Proofs.YtdjgenlhcjgafaaDoor
open Go.RowKit
theorem digit_slice (n : Nat) (h : n < 10) : (⟨#[48, 49, 50, 51, 52, 53, 54, 55, 56, 57]⟩ : ByteArray).extract n (n + 1) = str (Lib.decDigits n) := by
  have hh : ∀ n : Fin 10, (⟨#[48, 49, 50, 51, 52, 53, 54, 55, 56, 57]⟩ : ByteArray).extract n.val (n.val + 1) = str (Lib.decDigits n.val) := by decide +kernel
  exact hh ⟨n, h⟩
set_option maxHeartbeats 400000 in
theorem num_any (n : Nat) (h : n < 4294967296) (w : World) : Calls Tryd.prog 41 #[.int .u64 n] w fun e w' => e = .returned (.string (str (Lib.decDigits n))) ∧ w = w' := by
  induction n using Nat.strongRecOn generalizing w with
  | _ n ih =>
    by_cases hn : n < 10
    · have hd := hide (digit_slice n hn)
      go_enter Tryd.func41, Tryd.ntmps41
      go_wp2
      go_ret
      refine ⟨?_, rfl⟩
      rw [← hd.out]
      rfl
    · have hs := hide (show str (Lib.decDigits n) = str (Lib.decDigits (n / 10)) ++ str (Lib.decDigits (n % 10)) by
        rw [cat_str]; congr 1
        conv => lhs; rw [Lib.decDigits, dif_neg hn]
        congr 1
        rw [Lib.decDigits, dif_pos (by omega)])
      have l1 : (str (Lib.decDigits (n / 10))).size ≤ 10 := by rw [str_size]; exact dec_len _ 9 (by omega)
      have l2 : (str (Lib.decDigits (n % 10))).size ≤ 10 := by rw [str_size]; exact dec_len _ 9 (by omega)
      have h1 : Hid (∀ w, Calls Tryd.prog 41 #[.int .u64 ((n : Int) / 10)] w fun e w' => e = .returned (.string (str (Lib.decDigits (n / 10)))) ∧ w = w') := hide (fun w => ih (n / 10) (by omega) (by omega) w)
      have h2 : Hid (∀ w, Calls Tryd.prog 41 #[.int .u64 ((n : Int) % 10)] w fun e w' => e = .returned (.string (str (Lib.decDigits (n % 10)))) ∧ w = w') := hide (fun w => ih (n % 10) (by omega) (by omega) w)
      clear ih
      go_enter Tryd.func41, Tryd.ntmps41
      go_wp2_with fail
      refine (h1.out _).mono ?_
      rintro e w1 ⟨rfl, rfl⟩
      go_wp2_with fail
      refine (h2.out _).mono ?_
      rintro e w1 ⟨rfl, rfl⟩
      go_wp2
      go_ret
      refine ⟨?_, rfl⟩
      rw [hs.out]
      rfl
/-- What the library's own variables hold, as far as the calls here read them. -/
structure Env (w : World) : Prop where
  tab : Tab w
  most : ∃ m, w.cell? ⟨4, 0, none⟩ = some (.int .i64 m)
  syn : ∃ ev, w.cell? ⟨0, 0, none⟩ = some ev ∧ (ev = .nilIface ∨ ∃ te pe, ev = .iface te pe)
  rng : ∃ ev, w.cell? ⟨1, 0, none⟩ = some ev ∧ (ev = .nilIface ∨ ∃ te pe, ev = .iface te pe)
theorem Env.below {w w' : World} (h : Env w) (hb : Below w.heap.size w w') : Env w' :=
  ⟨h.tab.below hb, h.most.imp fun _ hm => (hb.cell (World.block_lt_of_cell? w _ hm)).trans hm, h.syn.imp fun _ hm => ⟨(hb.cell (World.block_lt_of_cell? w _ hm.1)).trans hm.1, hm.2⟩,
    h.rng.imp fun _ hm => ⟨(hb.cell (World.block_lt_of_cell? w _ hm.1)).trans hm.1, hm.2⟩⟩
theorem fold_ge (l : List UInt8) : ∀ acc : Nat, acc ≤ l.foldl (fun a c => 10 * a + (c.toNat - 48)) acc := by
  induction l with
  | nil => intro acc; exact Nat.le_refl _
  | cons c r ih => intro acc; exact Nat.le_trans (show acc ≤ 10 * acc + (c.toNat - 48) by omega) (ih _)
theorem parseM_fold (M : Nat) (hM : M < 1844674407370955162) (l : List UInt8) : ∀ acc : Nat, (∀ c ∈ l, 48 ≤ c.toNat ∧ c.toNat ≤ 57) → l.foldl (fun a c => 10 * a + (c.toNat - 48)) acc ≤ M →
    Lib.parseUintM M acc l = .ok (l.foldl (fun a c => 10 * a + (c.toNat - 48)) acc) := by
  induction l with
  | nil => intro acc _ _; rfl
  | cons c r ih =>
    intro acc hd hv
    have hc := hd c (by simp)
    simp only [List.foldl_cons] at hv ⊢
    have h2 := fold_ge r (10 * acc + (c.toNat - 48))
    unfold Lib.parseUintM
    rw [if_pos hc, if_neg (by omega), if_neg (by omega), show acc * 10 + (c.toNat - 48) = 10 * acc + (c.toNat - 48) by omega]
    exact ih _ (fun x hx => hd x (by simp [hx])) hv
theorem parse_dec (B u : Nat) (hB : 2 ^ B - 1 < 1844674407370955162) (hu : u ≤ 2 ^ B - 1) : Lib.parseUintB B (Lib.decDigits u) = .ok u := by
  unfold Lib.parseUintB
  rw [if_neg (dec_ne u)]
  have h1 := numOf_dec u
  unfold numOf at h1
  have := parseM_fold (2 ^ B - 1) hB (Lib.decDigits u) 0 (dec_dig u) (by rw [h1]; exact hu)
  rwa [h1] at this
theorem index_at (p : UInt8) (x y : List UInt8) (hx : ∀ c ∈ x, c ≠ p) : Lib.index (x ++ p :: y) [p] = (x.length : Int) := by
  induction x with
  | nil => simp [Lib.index]
  | cons c r ih =>
    have hc : c ≠ p := hx c (by simp)
    have := ih (fun d hd => hx d (by simp [hd]))
    rw [List.cons_append, Lib.index, this]
    have e : ([p] : List UInt8).isPrefixOf (c :: (r ++ p :: y)) = false := by first | (simp [List.isPrefixOf]; done) | simp [List.isPrefixOf, Ne.symm hc]
    rw [e]
    have e2 : ((r.length : Int) == -1) = false := by first | (simp; done) | (simp; omega)
    rw [e2]
    simp
end Go.Proofs.YtdjgenlhcjgafaaDoor
set_option linter.unusedSimpArgs false
set_option linter.unusedVariables false
namespace Go.Proofs.YtdjgenlhcjgafaaDoor
open Go.RowKit
theorem trod_error {H : Type} {enc : TypeId × Value → H} {P : Program} {w : World} {base : Nat} {spare : Nat → Bool} {held : Bool} {fuel : Nat} {t : TypeId} {cs : List Value} {x : DataW H × List MemPlace} {ms : Array (String × TypeId)}
    (ht : P.underlying t = some (.interface ms)) (h : DataW.trod enc P w base spare held fuel t cs = some x) : ∃ ev, cs = [ev] ∧ (ev = .nilIface ∨ ∃ te pe, ev = .iface te pe) := by
  cases fuel with
  | zero => simp [DataW.trod] at h
  | succ n =>
    unfold DataW.trod at h
    rw [ht] at h
    match cs, h with
    | [], h => simp at h
    | [v], h =>
      cases v <;> first | exact ⟨_, rfl, Or.inl rfl⟩ | exact ⟨_, rfl, Or.inr ⟨_, _, rfl⟩⟩ | (simp at h)
    | v :: v' :: r, h => simp at h
theorem err_of_mem {P : Program} {W : World} {name : String} {d : DataW Unit} {laid : List (String × DataW Unit)} {g : Nat} {t : TypeId} {ms : Array (String × TypeId)}
    (hg : P.globalNamed name = some g) (hty : (P.globals[g]?).map (·.type) = some t) (ht : P.underlying t = some (.interface ms)) (h : laidMet P laid W) (hm : (name, d) ∈ laid) :
    ∃ ev, W.cell? ⟨g, 0, none⟩ = some ev ∧ (ev = .nilIface ∨ ∃ te pe, ev = .iface te pe) := by
  obtain ⟨ps, hl, _⟩ := h
  obtain ⟨g', t', cs, fuel, p, hg', ht', hvar, hd⟩ := laidVars_mem hl hm
  obtain rfl := Option.some.inj (hg.symm.trans hg')
  obtain rfl := Option.some.inj (hty.symm.trans ht')
  obtain ⟨ev, hev, hh⟩ := trod_error ht hd
  have h0 := World.var?_cell hg hvar 0
  obtain ⟨l⟩ := cs
  simp at hev
  subst hev
  exact ⟨ev, by simpa using h0, hh⟩
theorem gSyn : Tryd.prog.globalNamed "strconv.ErrSyntax" = some 0 := by kernel_rfl
theorem gSynT : (Tryd.prog.globals[0]?).map (·.type) = some 78 := by kernel_rfl
theorem gRng : Tryd.prog.globalNamed "strconv.ErrRange" = some 1 := by kernel_rfl
theorem gRngT : (Tryd.prog.globals[1]?).map (·.type) = some 78 := by kernel_rfl
set_option maxRecDepth 100000 in
theorem env_of {W : World} {laid : List (String × DataW Unit)} {d1 d2 : DataW Unit} (ht : Tab W) (hh : (laid.all fun x => x.2.handleName?.isNone) = true) (hL : laidMetH Tryd.prog laid W) (hsh : W.ShapedOpen Tryd.prog)
    (m1 : ("strconv.ErrSyntax", d1) ∈ laid) (m2 : ("strconv.ErrRange", d2) ∈ laid) : Env W := by
  rw [MakeChecks.laidMetH_plain _ _ _ hh] at hL
  exact ⟨ht, Go.Proofs.cell_of_shapedOpen_int (zero := #[.int .i64 0]) (t := 3) hsh (of_decide_eq_true (by kernel_rfl)) (by kernel_rfl) rfl (by kernel_rfl) (by kernel_rfl) Tryd.underlying3,
    err_of_mem gSyn gSynT Tryd.underlying78 hL m1, err_of_mem gRng gRngT Tryd.underlying78 hL m2⟩
end Go.Proofs.YtdjgenlhcjgafaaDoor
set_option linter.unusedSimpArgs false
set_option linter.unusedVariables false
namespace Go.Proofs.YtdjgenlhcjgafaaDoor
open Go.RowKit
/-- A text parted at a sign. -/
def parts (p : UInt8) : List UInt8 → List (List UInt8)
  | [] => [[]]
  | c :: r => if c = p then [] :: parts p r else match parts p r with
    | [] => [[c]]
    | h :: t => (c :: h) :: t
theorem parts_none (p : UInt8) : ∀ l : List UInt8, (∀ c ∈ l, c ≠ p) → parts p l = [l]
  | [], _ => rfl
  | c :: r, h => by
    have hc : c ≠ p := h c (by simp)
    have := parts_none p r (fun d hd => h d (by simp [hd]))
    rw [parts, if_neg hc, this]
theorem parts_at (p : UInt8) : ∀ x y : List UInt8, (∀ c ∈ x, c ≠ p) → parts p (x ++ p :: y) = x :: parts p y
  | [], y, _ => by simp [parts]
  | c :: r, y, h => by
    have hc : c ≠ p := h c (by simp)
    have := parts_at p r y (fun d hd => h d (by simp [hd]))
    rw [List.cons_append, parts, if_neg hc, this]
theorem split_or (p : UInt8) : ∀ l : List UInt8, (∀ c ∈ l, c ≠ p) ∨ ∃ x y, l = x ++ p :: y ∧ ∀ c ∈ x, c ≠ p
  | [] => .inl (by simp)
  | c :: r => by
    by_cases hc : c = p
    · subst hc; exact .inr ⟨[], r, rfl, by simp⟩
    · rcases split_or p r with h | ⟨x, y, rfl, hx⟩
      · refine .inl fun d hd => ?_
        rcases List.mem_cons.1 hd with rfl | hd
        · exact hc
        · exact h d hd
      · refine .inr ⟨c :: x, y, rfl, fun d hd => ?_⟩
        rcases List.mem_cons.1 hd with rfl | hd
        · exact hc
        · exact hx d hd
theorem splitK_parts (p : UInt8) : ∀ (n : Nat) (l : List UInt8), l.length ≤ n → Lib.splitK [p] 0 (Lib.count l [p]) l = parts p l
  | 0, l, h => by
    have : l = [] := List.eq_nil_of_length_eq_zero (by omega)
    subst this
    simp [Lib.count_one, Lib.splitK, parts]
  | n + 1, l, h => by
    rcases split_or p l with hl | ⟨x, y, rfl, hx⟩
    · rw [parts_none p l hl, Lib.count_one, List.count_eq_zero.2 (fun hm => hl p hm rfl)]
      rfl
    · have hc : Lib.count (x ++ p :: y) [p] = Lib.count y [p] + 1 := by
        rw [Lib.count_one, Lib.count_one, List.count_append, List.count_cons_self, List.count_eq_zero.2 (fun hm => hx p hm rfl)]; omega
      rw [hc, Lib.splitK, index_at p x y hx, if_neg (by simp), parts_at p x y hx]
      have e1 : ((x.length : Int).toNat + 0) = x.length := by omega
      have e2 : ((x.length : Int).toNat + [p].length) = x.length + 1 := by simp
      rw [e1, e2, List.take_left']
      · have e3 : (x ++ p :: y).drop (x.length + 1) = y := by simp
        rw [e3, splitK_parts p n y (by simp at h; omega)]
      · rfl
theorem splitB_parts (p : UInt8) (l : List UInt8) : Lib.splitB ⟨#[p]⟩ 0 (Lib.countB (str l) ⟨#[p]⟩) (str l) = (parts p l).map str := by
  have h := Lib.splitB_data ⟨#[p]⟩ 0 (Lib.countB (str l) ⟨#[p]⟩) (str l)
  have e : Lib.countB (str l) ⟨#[p]⟩ = Lib.count l [p] := by unfold Lib.countB; rw [str_data]
  rw [e] at h ⊢
  rw [str_data, splitK_parts p _ l (Nat.le_refl _)] at h
  rw [← h, List.map_map]
  have : (str ∘ fun x : ByteArray => x.data.toList) = id := by funext x; exact str_of x
  rw [this, List.map_id]
theorem countB_parts (p : UInt8) (l : List UInt8) : Lib.countB (str l) ⟨#[p]⟩ + 1 = (parts p l).length := by
  have := Lib.splitB_all ⟨#[p]⟩ (Nat.le_refl 1) 0 _ (str l) rfl
  rw [splitB_parts, List.length_map] at this
  exact this.symm
end Go.Proofs.YtdjgenlhcjgafaaDoor
set_option linter.unusedSimpArgs false
set_option linter.unusedVariables false
namespace Go.Proofs.YtdjgenlhcjgafaaDoor
open Go.RowKit
/-- The pieces of a text that a byte parts. -/
def pieces (c : UInt8) : List UInt8 → List (List UInt8)
  | [] => [[]]
  | x :: l => if x = c then [] :: pieces c l else ((x :: (pieces c l).headD []) :: (pieces c l).tail)
theorem pieces_ne (c : UInt8) (l : List UInt8) : pieces c l ≠ [] := by
  cases l with
  | nil => simp [pieces]
  | cons x l => unfold pieces; split <;> simp
theorem str_cut (l : List UInt8) (i : Nat) : (str l).extract 0 i = str (l.take i) := by
  rw [Lib.Pa.extract_upto, str_data]; rfl
end Go.Proofs.YtdjgenlhcjgafaaDoor
set_option linter.unusedSimpArgs false
set_option linter.unusedVariables false
namespace Go.Proofs.YtdjgenlhcjgafaaDoor
open Go.RowKit
set_option maxHeartbeats 400000 in
theorem numBig_any (n : Nat) (h : n < 9223372036854775808) (w : World) : Calls Tryd.prog 41 #[.int .u64 n] w fun e w' => e = .returned (.string (str (Lib.decDigits n))) ∧ w = w' := by
  induction n using Nat.strongRecOn generalizing w with
  | _ n ih =>
    by_cases hn : n < 10
    · exact num_any n (by omega) w
    · have hs := hide (show str (Lib.decDigits n) = str (Lib.decDigits (n / 10)) ++ str (Lib.decDigits (n % 10)) by
        rw [cat_str]; congr 1
        conv => lhs; rw [Lib.decDigits, dif_neg hn]
        congr 1
        rw [Lib.decDigits, dif_pos (by omega)])
      have l1 : (str (Lib.decDigits (n / 10))).size ≤ 19 := by rw [str_size]; exact dec_len _ 18 (by omega)
      have l2 : (str (Lib.decDigits (n % 10))).size ≤ 10 := by rw [str_size]; exact dec_len _ 9 (by omega)
      have h1 : Hid (∀ w, Calls Tryd.prog 41 #[.int .u64 ((n : Int) / 10)] w fun e w' => e = .returned (.string (str (Lib.decDigits (n / 10)))) ∧ w = w') := hide (fun w => ih (n / 10) (by omega) (by omega) w)
      have h2 : Hid (∀ w, Calls Tryd.prog 41 #[.int .u64 ((n : Int) % 10)] w fun e w' => e = .returned (.string (str (Lib.decDigits (n % 10)))) ∧ w = w') := hide (fun w => ih (n % 10) (by omega) (by omega) w)
      have hn' : 10 ≤ n := by omega
      have hb : (n : Int) ≤ 9223372036854775807 := by omega
      clear ih h
      go_enter Tryd.func41, Tryd.ntmps41
      go_wp2_with fail
      refine (h1.out _).mono ?_
      rintro e w1 ⟨rfl, rfl⟩
      go_wp2_with fail
      refine (h2.out _).mono ?_
      rintro e w1 ⟨rfl, rfl⟩
      go_wp2
      go_ret
      refine ⟨?_, rfl⟩
      rw [hs.out]
      rfl
end Go.Proofs.YtdjgenlhcjgafaaDoor
set_option linter.unusedSimpArgs false
set_option linter.unusedVariables false
namespace Go.Proofs.YtdjgenlhcjgafaaDoor
open Go.RowKit
theorem join_snoc (sep : List UInt8) (l : List (List UInt8)) (x : List UInt8) : Lib.join (l ++ [x]) sep = (if l = [] then [] else Lib.join l sep ++ sep) ++ x := by
  cases l with
  | nil => simp [Lib.join_one]
  | cons a r =>
    rw [List.cons_append, Lib.join_cons, Lib.join_cons, if_neg (by simp)]
    simp [Lib.joinTail]
def jw (l : List (List UInt8)) : List UInt8 := Lib.join l [32]
theorem jw_snoc (l : List (List UInt8)) (x : List UInt8) : jw (l ++ [x]) = (if l = [] then [] else jw l ++ [32]) ++ x := join_snoc [32] l x
theorem reads_oneS {w : World} {g : Nat} {u : Value} (h : w.cell? ⟨g, 0, none⟩ = some u) : Reads w w.heap.size 1 (some ⟨g, 0, none⟩) 1 [u] :=
  ⟨rfl, fun _ => ⟨_, rfl, World.block_lt_of_cell? w _ h, fun j v hv => by
    cases j with
    | zero => cases hv; exact h
    | succ j => simp at hv⟩⟩
end Go.Proofs.YtdjgenlhcjgafaaDoor
set_option linter.unusedSimpArgs false
set_option linter.unusedVariables false
namespace Go.Proofs.YtdjgenlhcjgafaaDoor
open Go.RowKit
def Rise (l : List Nat) : Prop := l.Pairwise (· < ·)
/-- A number laid into a set. -/
def putN (l : List Nat) (n : Nat) : List Nat := if l.contains n then l else l.takeWhile (· < n) ++ n :: l.dropWhile (· < n)
def setOf (l : List Nat) : List Nat := l.foldl putN []
theorem rise_ext : ∀ {a b : List Nat}, Rise a → Rise b → (∀ x, x ∈ a ↔ x ∈ b) → a = b
  | [], [], _, _, _ => rfl
  | [], y :: b, _, _, h => absurd ((h y).2 (by simp)) (by simp)
  | x :: a, [], _, _, h => absurd ((h x).1 (by simp)) (by simp)
  | x :: a, y :: b, ha, hb, h => by
    obtain ⟨ha1, ha2⟩ := List.pairwise_cons.1 ha
    obtain ⟨hb1, hb2⟩ := List.pairwise_cons.1 hb
    have e : x = y := by
      rcases List.mem_cons.1 ((h x).1 (by simp)) with e | h1
      · exact e
      · rcases List.mem_cons.1 ((h y).2 (by simp)) with e | h2
        · exact e.symm
        · have := ha1 y h2; have := hb1 x h1; omega
    subst e
    congr 1
    refine rise_ext ha2 hb2 fun z => ?_
    have hz := h z
    simp only [List.mem_cons] at hz
    constructor
    · intro hm
      rcases hz.1 (.inr hm) with e | h1
      · subst e; exact absurd (ha1 z hm) (by omega)
      · exact h1
    · intro hm
      rcases hz.2 (.inr hm) with e | h1
      · subst e; exact absurd (hb1 z hm) (by omega)
      · exact h1
theorem contains_iff (l : List Nat) (n : Nat) : l.contains n = true ↔ n ∈ l := by simp
theorem putN_mem (l : List Nat) (n x : Nat) : x ∈ putN l n ↔ x = n ∨ x ∈ l := by
  unfold putN
  by_cases h : l.contains n = true
  · rw [if_pos h]
    constructor
    · exact .inr
    · rintro (rfl | h1)
      · exact (contains_iff _ _).1 h
      · exact h1
  · rw [if_neg h, List.mem_append, List.mem_cons]
    have e := List.takeWhile_append_dropWhile (p := fun y => decide (y < n)) (l := l)
    have hm : x ∈ l ↔ x ∈ l.takeWhile (· < n) ∨ x ∈ l.dropWhile (· < n) := by rw [← List.mem_append, e]
    rw [hm]
    constructor
    · rintro (h1 | h1 | h1)
      · exact .inr (.inl h1)
      · exact .inl h1
      · exact .inr (.inr h1)
    · rintro (h1 | h1 | h1)
      · exact .inr (.inl h1)
      · exact .inl h1
      · exact .inr (.inr h1)
theorem drop_ge {n : Nat} : ∀ {l : List Nat}, Rise l → ∀ x ∈ l.dropWhile (· < n), n ≤ x
  | [], _, x, hx => by simp at hx
  | y :: l, h, x, hx => by
    obtain ⟨h1, h2⟩ := List.pairwise_cons.1 h
    by_cases hy : y < n
    · rw [List.dropWhile_cons_of_pos (by simpa using hy)] at hx
      exact drop_ge h2 x hx
    · rw [List.dropWhile_cons_of_neg (by simpa using hy)] at hx
      rcases List.mem_cons.1 hx with rfl | hx
      · omega
      · have := h1 x hx; omega
theorem take_lt {n : Nat} : ∀ {l : List Nat}, ∀ x ∈ l.takeWhile (· < n), x < n
  | [], x, hx => by simp at hx
  | y :: l, x, hx => by
    by_cases hy : y < n
    · rw [List.takeWhile_cons_of_pos (by simpa using hy)] at hx
      rcases List.mem_cons.1 hx with rfl | hx
      · exact hy
      · exact take_lt x hx
    · rw [List.takeWhile_cons_of_neg (by simpa using hy)] at hx
      simp at hx
theorem putN_rise {l : List Nat} (h : Rise l) (n : Nat) : Rise (putN l n) := by
  unfold putN
  by_cases hc : l.contains n = true
  · rw [if_pos hc]; exact h
  · rw [if_neg hc]
    have e := List.takeWhile_append_dropWhile (p := fun y => decide (y < n)) (l := l)
    have hn : n ∉ l := fun hm => hc ((contains_iff _ _).2 hm)
    have h0 := h
    unfold Rise at h ⊢
    rw [← e] at h
    obtain ⟨p1, p2, p3⟩ := List.pairwise_append.1 h
    refine List.pairwise_append.2 ⟨p1, List.pairwise_cons.2 ⟨fun x hx => ?_, p2⟩, fun x hx y hy => ?_⟩
    · have h1 := drop_ge h0 x hx
      have : x ≠ n := fun he => hn (he ▸ (List.dropWhile_sublist _).subset hx)
      omega
    · have h1 := take_lt x hx
      rcases List.mem_cons.1 hy with rfl | hy
      · exact h1
      · exact p3 x hx y hy
theorem setOf_aux : ∀ (l acc : List Nat), Rise acc → Rise (l.foldl putN acc) ∧ ∀ x, x ∈ l.foldl putN acc ↔ x ∈ acc ∨ x ∈ l
  | [], acc, h => ⟨h, fun x => by simp⟩
  | y :: l, acc, h => by
    obtain ⟨h1, h2⟩ := setOf_aux l (putN acc y) (putN_rise h y)
    refine ⟨h1, fun x => ?_⟩
    rw [List.foldl_cons, h2 x, putN_mem, List.mem_cons]
    constructor
    · rintro ((h | h) | h)
      · exact .inr (.inl h)
      · exact .inl h
      · exact .inr (.inr h)
    · rintro (h | h | h)
      · exact .inl (.inr h)
      · exact .inl (.inl h)
      · exact .inr h
theorem setOf_rise (l : List Nat) : Rise (setOf l) := (setOf_aux l [] List.Pairwise.nil).1
theorem setOf_mem (l : List Nat) (x : Nat) : x ∈ setOf l ↔ x ∈ l := by
  have := (setOf_aux l [] List.Pairwise.nil).2 x
  simpa [setOf] using this
theorem take_snoc_eq {l : List Nat} {k x : Nat} (h : l[k]? = some x) : l.take (k + 1) = l.take k ++ [x] := by rw [List.take_add_one, h]; rfl
set_option maxHeartbeats 1000000 in
theorem refSame_any (A : Option Addr) (n c : Nat) (l : List Nat) (B : Option Addr) (m d : Nat) (r : List Nat) (w : World) (h : U32s w A n c l) (h' : U32s w B m d r) :
    Calls Tryd.prog 21 #[.slice A n c, .slice B m d] w fun e w' => e = .returned (.bool (decide (l = r))) ∧ Below w.heap.size w w' := by
  have hm1 := h.2.2.1
  have hn1 := h.2.1
  have hm2 := h'.2.2.1
  have hn2 := h'.2.1
  unfold maxLen at hm1 hm2
  by_cases hnm : n = m
  · subst hnm
    have HU := hide h
    have HV := hide h'
    clear h h'
    go_enter Tryd.func21, Tryd.ntmps21
    go_wp2
    go_loopw [5] (fun i wr => ∃ k : Nat, k ≤ n ∧ i = .int .i64 k ∧ l.take k = r.take k ∧ ∃ q, wr = w.drewN q) (fun i _ => n - (intOf i).toNat)
    case atStart => exact ⟨0, Nat.zero_le _, rfl, by simp, 0, rfl⟩
    case round =>
      obtain ⟨k, hk, rfl, heq, q, rfl⟩ := hrel
      have HN := hide heq
      clear heq
      by_cases hlt : k < n
      · obtain ⟨g, o, x, rfl, hg, hx, hx2, hc⟩ := HU.out.at_ hlt
        obtain ⟨g', o', y, rfl, hg', hy, hy2, hc'⟩ := HV.out.at_ hlt
        have hi0 : (0 : Int) ≤ (k : Int) := by omega
        have hi1 : (k : Int) < (n : Int) := by omega
        by_cases hxy : x = y
        · subst hxy
          have hn3 := hide (show l.take (k + 1) = r.take (k + 1) by rw [take_snoc_eq hx, take_snoc_eq hy, HN.out])
          clear hx hy
          go_wp2
          go_quiet (fail)
          go_wp2
          go_roundw
          case rel => exact ⟨k + 1, by omega, by go_num, hn3.out, _, rfl⟩
          case measure => simp [intOf]; omega
        · have he : ((x : Int) != (y : Int)) = true := by simp; omega
          have hf := hide (show decide (l = r) = false by
            rw [decide_eq_false_iff_not]; rintro rfl
            rw [hx] at hy; exact hxy (Option.some.inj hy))
          clear hxy hx hy
          go_wp2
          go_quiet (fail)
          go_wp2
          go_ret
          exact ⟨ret_bool hf.out.symm, below_drewN (below_drewN (Below.refl _ _) _) _⟩
      · obtain rfl : k = n := by omega
        have hf := hide (show decide (l = r) = true by
          rw [decide_eq_true_eq]
          have := HN.out
          rwa [List.take_of_length_le (by rw [HU.out.1]; exact Nat.le_refl _), List.take_of_length_le (by rw [HV.out.1]; exact Nat.le_refl _)] at this)
        go_wp2
        go_ret
        exact ⟨ret_bool hf.out.symm, below_drewN (Below.refl _ _) _⟩
  · have hf := hide (show decide (l = r) = false by
      rw [decide_eq_false_iff_not]; rintro rfl
      exact hnm (h.1.symm.trans h'.1))
    have he : ((n : Int) != (m : Int)) = true := by simp; omega
    clear h h' hnm
    go_enter Tryd.func21, Tryd.ntmps21
    go_wp2
    go_ret
    exact ⟨ret_bool hf.out.symm, Below.refl _ _⟩
set_option maxHeartbeats 400000 in
theorem isNaN32 (x : Nat) (w : World) : Calls Tryd.prog 180 #[.int .u32 x] w fun e w' => e = .returned (.bool false) ∧ w = w' := by
  go_enter Tryd.func180, Tryd.ntmps180
  go_wp2
  go_ret
  exact ⟨ret_bool (by simp), rfl⟩
set_option maxHeartbeats 400000 in
theorem isNaNs32 (x : Nat) (w : World) : Calls Tryd.prog 153 #[.int .u32 x] w fun e w' => e = .returned (.bool false) ∧ w = w' := by
  go_enter Tryd.func153, Tryd.ntmps153
  go_wp2
  go_ret
  exact ⟨ret_bool (by simp), rfl⟩
set_option maxHeartbeats 400000 in
theorem less32 (x y : Nat) (w : World) : Calls Tryd.prog 148 #[.int .u32 x, .int .u32 y] w fun e w' => e = .returned (.bool (decide (x < y))) ∧ w = w' := by
  go_enter Tryd.func148, Tryd.ntmps148
  go_wp2_with fail
  refine (isNaN32 x _).mono ?_
  rintro e w1 ⟨rfl, rfl⟩
  go_wp2
  go_ret
  exact ⟨ret_bool (by simp), rfl⟩
def lowN (l : List Nat) (x : Nat) : Nat := (l.takeWhile (· < x)).length
theorem lowN_of : ∀ {l : List Nat} {x i : Nat}, i ≤ l.length → (∀ k y, k < i → l[k]? = some y → y < x) → (∀ k y, i ≤ k → l[k]? = some y → x ≤ y) → lowN l x = i
  | [], x, i, h, _, _ => by simp [lowN]; simp at h; omega
  | z :: l, x, 0, h, h1, h2 => by
    have := h2 0 z (by omega) rfl
    unfold lowN
    rw [List.takeWhile_cons_of_neg (by simp; omega)]; rfl
  | z :: l, x, i + 1, h, h1, h2 => by
    have := h1 0 z (by omega) rfl
    have ih := lowN_of (l := l) (x := x) (i := i) (by simp at h; omega) (fun k y hk hy => h1 (k + 1) y (by omega) (by simpa using hy)) (fun k y hk hy => h2 (k + 1) y (by omega) (by simpa using hy))
    unfold lowN at ih ⊢
    rw [List.takeWhile_cons_of_pos (by simpa using this), List.length_cons, ih]
theorem rise_lt {l : List Nat} (h : Rise l) {i j x y : Nat} (hij : i < j) (hx : l[i]? = some x) (hy : l[j]? = some y) : x < y := by
  obtain ⟨hi, rfl⟩ := List.getElem?_eq_some_iff.1 hx
  obtain ⟨hj, rfl⟩ := List.getElem?_eq_some_iff.1 hy
  exact List.pairwise_iff_getElem.1 h i j hi hj hij
theorem found_at {l : List Nat} (h : Rise l) {i x y : Nat} (hy : l[i]? = some y) (h1 : ∀ k y, k < i → l[k]? = some y → y < x) (h2 : ∀ k y, i ≤ k → l[k]? = some y → x ≤ y) : decide (x ∈ l) = decide (y = x) := by
  rw [decide_eq_decide]
  constructor
  · intro hm
    obtain ⟨k, hk⟩ := List.getElem?_of_mem hm
    rcases Nat.lt_trichotomy k i with hl | rfl | hg
    · exact absurd (h1 k x hl hk) (by omega)
    · exact Option.some.inj (hy.symm.trans hk)
    · have := rise_lt h hg hy hk
      have := h2 i y (Nat.le_refl _) hy
      omega
  · rintro rfl
    exact List.mem_of_getElem? hy
theorem found_no {l : List Nat} {x : Nat} (h1 : ∀ k y, k < l.length → l[k]? = some y → y < x) : decide (x ∈ l) = false := by
  rw [decide_eq_false_iff_not]
  intro hm
  obtain ⟨k, hk⟩ := List.getElem?_of_mem hm
  have := h1 k x (List.getElem?_eq_some_iff.1 hk).1 hk
  omega
def LowInv (l : List Nat) (x i j : Nat) : Prop := (∀ k y, k < i → l[k]? = some y → y < x) ∧ (∀ k y, j ≤ k → l[k]? = some y → x ≤ y)
set_option maxHeartbeats 1000000 in
theorem binSearch_any (A : Option Addr) (n c : Nat) (l : List Nat) (x : Nat) (w : World) (h : U32s w A n c l) (hr : Rise l) (hn : n ≤ 100000) :
    Calls Tryd.prog 107 #[.slice A n c, .int .u32 x] w fun e w' => e = .returned (.tuple #[.int .i64 (lowN l x : Nat), .bool (decide (x ∈ l))]) ∧ w = w' := by
  have hm := h.2.2.1
  have hnc := h.2.1
  unfold maxLen at hm
  have HU := hide h
  have HR := hide hr
  clear h hr
  go_enter Tryd.func107, Tryd.ntmps107
  go_wp2
  go_loop [7, 8] (fun a b => ∃ i j : Nat, i ≤ j ∧ j ≤ n ∧ a = .int .i64 i ∧ b = .int .i64 j ∧ LowInv l x i j) (fun a b => (intOf b).toNat - (intOf a).toNat)
  case atStart => exact ⟨0, n, Nat.zero_le _, Nat.le_refl _, rfl, rfl, fun k y hk => by omega, fun k y hk hy => by
    have := (List.getElem?_eq_some_iff.1 hy).1; have := HU.out.1; omega⟩
  case round =>
    obtain ⟨i, j, hij, hj, rfl, rfl, hinv⟩ := hrel
    have HI := hide hinv
    clear hinv
    by_cases hlt : i < j
    · obtain ⟨g, o, y, rfl, hg, hy, hy2, hc⟩ := HU.out.at_ (k := (i + j) / 2) (by omega)
      have HY := hide hy
      clear hy
      by_cases hyx : y < x
      · have hd : decide (y < x) = true := by simpa using hyx
        have HL := hide (fun w => less32 y x w)
        rw [hd] at HL
        have HI2 : Hid (LowInv l x ((i + j) / 2 + 1) j) := hide ⟨fun k z hk hz => by
          rcases Nat.lt_or_ge k ((i + j) / 2) with h | h
          · have := rise_lt HR.out h hz HY.out; omega
          · obtain rfl : k = (i + j) / 2 := by omega
            have := Option.some.inj (hz.symm.trans HY.out); omega, HI.out.2⟩
        clear hd
        go_wp2_with fail
        refine (HL.out _).mono ?_
        rintro e w1 ⟨rfl, rfl⟩
        go_wp2
        go_round
        case rel => exact ⟨(i + j) / 2 + 1, j, by omega, by omega, by go_num, rfl, HI2.out⟩
        case measure => simp [intOf]; omega
      · have hd : decide (y < x) = false := by simpa using hyx
        have HL := hide (fun w => less32 y x w)
        rw [hd] at HL
        have HI2 : Hid (LowInv l x i ((i + j) / 2)) := hide ⟨HI.out.1, fun k z hk hz => by
          rcases Nat.lt_or_ge ((i + j) / 2) k with h | h
          · have := rise_lt HR.out h HY.out hz; omega
          · obtain rfl : k = (i + j) / 2 := by omega
            have := Option.some.inj (hz.symm.trans HY.out); omega⟩
        clear hd
        go_wp2_with fail
        refine (HL.out _).mono ?_
        rintro e w1 ⟨rfl, rfl⟩
        go_wp2
        go_round
        case rel => exact ⟨i, (i + j) / 2, by omega, by omega, rfl, by go_num, HI2.out⟩
        case measure => simp [intOf]; omega
    · obtain rfl : i = j := by omega
      have hlow := hide (lowN_of (by rw [HU.out.1]; exact hj) HI.out.1 HI.out.2)
      by_cases hi : i < n
      · obtain ⟨g, o, y, rfl, hg, hy, hy2, hc⟩ := HU.out.at_ hi
        have hf := hide (found_at HR.out hy HI.out.1 HI.out.2)
        clear hy
        by_cases hyx : y = x
        · have he : ((y : Int) == (x : Int)) = true := by simp [hyx]
          have HF : Hid (decide (x ∈ l) = true) := hide (by rw [hf.out]; simp [hyx])
          clear hyx
          go_wp2
          go_ret2
          exact ⟨by rw [hlow.out, HF.out]; rfl, rfl⟩
        · have he : ((y : Int) == (x : Int)) = false := by simp; omega
          have HF : Hid (decide (x ∈ l) = false) := hide (by rw [hf.out]; simp [hyx])
          clear hyx
          go_wp2_with fail
          refine (isNaNs32 y _).mono ?_
          rintro e w1 ⟨rfl, rfl⟩
          go_wp2
          go_ret2
          exact ⟨by rw [hlow.out, HF.out]; rfl, rfl⟩
      · obtain rfl : i = n := by omega
        have HF := hide (found_no (l := l) (x := x) (by rw [HU.out.1]; exact HI.out.1))
        go_wp2
        go_ret2
        exact ⟨by rw [hlow.out, HF.out]; rfl, rfl⟩
set_option maxHeartbeats 400000 in
theorem ahas_any (A : Option Addr) (n c : Nat) (l : List Nat) (x : Nat) (w : World) (h : U32s w A n c l) (hr : Rise l) (hn : n ≤ 100000) :
    Calls Tryd.prog 72 #[.slice A n c, .int .u32 x] w fun e w' => e = .returned (.bool (decide (x ∈ l))) ∧ w = w' := by
  have HB := hide (fun w h => binSearch_any A n c l x w h hr hn)
  have HU := hide h
  clear h hr
  go_enter Tryd.func72, Tryd.ntmps72
  go_wp2_with fail
  refine (HB.out _ HU.out).mono ?_
  rintro e w1 ⟨rfl, rfl⟩
  go_wp2
  go_ret
  exact ⟨rfl, rfl⟩
set_option maxHeartbeats 400000 in
theorem aHas_any (A : Option Addr) (n c : Nat) (l : List Nat) (x : Nat) (w : World) (h : U32s w A n c l) (hr : Rise l) (hn : n ≤ 100000) :
    Calls Tryd.prog 43 #[.slice A n c, .int .u32 x] w fun e w' => e = .returned (.bool (decide (x ∈ l))) ∧ w = w' := by
  have HB := hide (fun w h => ahas_any A n c l x w h hr hn)
  have HU := hide h
  clear h hr
  go_enter Tryd.func43, Tryd.ntmps43
  go_wp2_with fail
  refine (HB.out _ HU.out).mono ?_
  rintro e w1 ⟨rfl, rfl⟩
  go_wp2
  go_ret
  exact ⟨rfl, rfl⟩
theorem U32s.drop_ {w : World} {g o n c : Nat} {l : List Nat} (h : U32s w (some ⟨g, o, none⟩) n c l) {k : Nat} (hk : k < n) : Reads w w.heap.size 1 (some ⟨g, o + k, none⟩) (n - k) (u32c (l.drop k)) := by
  refine ⟨by simp [u32c, h.1], fun _ => ?_⟩
  obtain ⟨g', o', hA, hg, hc⟩ := h.2.2.2.2 (by omega)
  cases hA
  refine ⟨_, rfl, hg, fun j u hu => ?_⟩
  simp only [u32c, List.getElem?_map, Option.map_eq_some_iff, List.getElem?_drop] at hu
  obtain ⟨x, hx, rfl⟩ := hu
  have := hc (k + j) x hx
  rw [show (⟨g, o + k, none⟩ : Addr).add j = ⟨g, o + (k + j), none⟩ by unfold Addr.add; split <;> simp_all [Nat.add_assoc]]
  exact this
theorem Reads.keepB {w w' : World} {B size n : Nat} {A : Option Addr} {xs : List Value} (h : Reads w B size A n xs) (hb : Below B w w') : Reads w' B size A n xs := h.below hb
theorem own_made0 (w : World) : (w.alloc (.cells #[] 34)).ownsRow w.heap.size 34 1 (.slice (some ⟨w.heap.size, 0, none⟩) 0 0) 0 [] := World.ownsRow_made _ _ _ (Nat.le_refl _) (by simp [maxLen]) (by simp)
end Go.Proofs.YtdjgenlhcjgafaaDoor
set_option linter.unusedSimpArgs false
set_option linter.unusedVariables false
namespace Go.Proofs.YtdjgenlhcjgafaaDoor
open Go.RowKit
/-- A slice of numbers below a block. -/
def U32lo (B : Nat) (w : World) (A : Option Addr) (n c : Nat) (l : List Nat) : Prop := U32s w A n c l ∧ (0 < n → ∃ g o, A = some ⟨g, o, none⟩ ∧ g < B)
theorem U32lo.start {w : World} {A : Option Addr} {n c : Nat} {l : List Nat} (h : U32s w A n c l) : U32lo w.heap.size w A n c l :=
  ⟨h, fun hn => by obtain ⟨g, o, hA, hg, _⟩ := h.2.2.2.2 hn; exact ⟨g, o, hA, hg⟩⟩
theorem U32lo.keep {B : Nat} {w w' : World} {A : Option Addr} {n c : Nat} {l : List Nat} (h : U32lo B w A n c l) (hb : Below B w w') : U32lo B w' A n c l := by
  refine ⟨⟨h.1.1, h.1.2.1, h.1.2.2.1, h.1.2.2.2.1, fun hn => ?_⟩, h.2⟩
  obtain ⟨g, o, hA, hg, hc⟩ := h.1.2.2.2.2 hn
  obtain ⟨g', o', hA', hg'⟩ := h.2 hn
  rw [hA] at hA'
  cases hA'
  exact ⟨g, o, hA, Nat.lt_of_lt_of_le hg hb.size, fun k x hk => (hb.cell (by exact hg')).trans (hc k x hk)⟩
theorem U32lo.tail {B : Nat} {w : World} {g o n c x : Nat} {l : List Nat} (h : U32lo B w (some ⟨g, o, none⟩) n c (x :: l)) (A' : Option Addr) (hA : 1 < n → A' = some ⟨g, o + 1, none⟩) : U32lo B w A' (n - 1) (c - 1) l := by
  have hl := h.1.1
  simp at hl
  have hc := h.1.2.1
  have hm := h.1.2.2.1
  unfold maxLen at hm
  refine ⟨⟨by omega, by omega, by unfold maxLen; omega, fun y hy => h.1.2.2.2.1 y (by simp [hy]), fun hn => ?_⟩, fun hn => ?_⟩
  · obtain ⟨g', o', hA', hg, hcell⟩ := h.1.2.2.2.2 (by omega)
    cases hA'
    exact ⟨g, o + 1, hA (by omega), hg, fun k y hk => by rw [Nat.add_assoc]; exact hcell (1 + k) y (by rw [Nat.add_comm]; simpa using hk)⟩
  · obtain ⟨g', o', hA', hg⟩ := h.2 (by omega)
    cases hA'
    exact ⟨g, o + 1, hA (by omega), hg⟩
theorem U32lo.head {B : Nat} {w : World} {A : Option Addr} {n c x : Nat} {l : List Nat} (h : U32lo B w A n c (x :: l)) : ∃ g o, A = some ⟨g, o, none⟩ ∧ g < B ∧ x < 4294967296 ∧ w.cell? ⟨g, o, none⟩ = some (.int .u32 (x : Int)) ∧ 1 ≤ n := by
  have hl := h.1.1
  simp at hl
  obtain ⟨g, o, hA, hg, hcell⟩ := h.1.2.2.2.2 (by omega)
  obtain ⟨g', o', hA', hg'⟩ := h.2 (by omega)
  rw [hA] at hA'
  cases hA'
  exact ⟨g, o, hA, hg', h.1.2.2.2.1 x (by simp), by simpa using hcell 0 x rfl, by omega⟩
end Go.Proofs.YtdjgenlhcjgafaaDoor
set_option linter.unusedSimpArgs false
set_option linter.unusedVariables false
namespace Go.Proofs.YtdjgenlhcjgafaaDoor
open Go.RowKit
open Go.Sort (swp insInner insOuter insertionSort)
def ltN (x y : Nat) : Bool := decide (x < y)
/-- A row of the call's own that holds the numbers d. -/
def RowN (base g cap : Nat) (w : World) (d : Array Nat) : Prop := w.ownsRow base 34 1 (.slice (some ⟨g, 0, none⟩) d.size cap) d.size (u32c d.toList) ∧ (∀ x ∈ d.toList, x < 4294967296) ∧ base ≤ g ∧ g < w.heap.size ∧ d.size ≤ cap ∧ cap ≤ maxLen
theorem RowN.cell {base g cap : Nat} {w : World} {d : Array Nat} (h : RowN base g cap w d) {j : Nat} (hj : j < d.size) : w.cell? ⟨g, j, none⟩ = some (.int .u32 ((d[j]! : Nat) : Int)) := by
  rw [h.1.cellAt j (by omega)]
  simp [u32c, hj]
theorem RowN.drewN {base g cap : Nat} {w : World} {d : Array Nat} (h : RowN base g cap w d) (n : Nat) : RowN base g cap (w.drewN n) d := h
theorem RowN.drew {base g cap : Nat} {w : World} {d : Array Nat} (h : RowN base g cap w d) : RowN base g cap w.drew d := h
theorem RowN.set_ {base g cap : Nat} {w : World} {d : Array Nat} (h : RowN base g cap w d) {i x : Nat} (hx : x < 4294967296) : RowN base g cap (w.setCell ⟨g, i, none⟩ (.int .u32 (x : Int))) (d.setIfInBounds i x) := by
  obtain ⟨h1, h2, h3, h4, h5, h6⟩ := h
  refine ⟨?_, fun y hy => ?_, h3, by simpa [World.setCell] using h4, by simpa using h5, h6⟩
  · have := h1.stored i (.int .u32 (x : Int))
    have e : u32c (d.setIfInBounds i x).toList = (u32c d.toList).set i (.int .u32 (x : Int)) := by simp [u32c, List.map_set]
    rw [e]
    simpa using this.1
  · have hy' : y ∈ d.toList.set i x := by simpa using hy
    rcases List.mem_or_eq_of_mem_set hy' with h | h
    · exact h2 y h
    · omega
theorem RowN.val {base g cap : Nat} {w : World} {d : Array Nat} (h : RowN base g cap w d) (j : Nat) : (d[j]! : Nat) < 4294967296 := by
  by_cases hj : j < d.size
  · rw [getElem!_pos d j hj]; exact h.2.1 _ (by simp)
  · rw [getElem!_neg d j hj]; decide
theorem RowN.swp {base g cap : Nat} {w : World} {d : Array Nat} (h : RowN base g cap w d) (i j : Nat) : RowN base g cap ((w.setCell ⟨g, i, none⟩ (.int .u32 ((d[j]! : Nat) : Int))).setCell ⟨g, j, none⟩ (.int .u32 ((d[i]! : Nat) : Int))) (swp d i j) :=
  (h.set_ (h.val j)).set_ (h.val i)
theorem swp_size {d : Array Nat} {i j : Nat} : (swp d i j).size = d.size := by simp [Go.Sort.swp]
theorem swp_comm {d : Array Nat} {i j : Nat} (h : i ≠ j) : (d.setIfInBounds j d[i]!).setIfInBounds i d[j]! = swp d i j := by
  unfold Go.Sort.swp
  apply Array.ext_getElem?
  intro k
  simp only [Array.getElem?_setIfInBounds]
  by_cases h1 : i = k <;> by_cases h2 : j = k <;> simp_all
theorem RowN.swp' {base g cap : Nat} {w : World} {d : Array Nat} (h : RowN base g cap w d) {i j : Nat} (hij : i ≠ j) : RowN base g cap ((w.setCell ⟨g, j, none⟩ (.int .u32 ((d[i]! : Nat) : Int))).setCell ⟨g, i, none⟩ (.int .u32 ((d[j]! : Nat) : Int))) (Go.Sort.swp d i j) := by
  rw [← swp_comm hij]
  exact (h.set_ (h.val i)).set_ (h.val j)
theorem insInner_go' (a j : Nat) (d : Array Nat) (hj : a < j + 1) (hl : ltN d[j + 1]! d[j]! = true) : insInner ltN a (j + 1) d = insInner ltN a j (swp d (j + 1) j) := by
  rw [insInner, if_pos (by simp [hl]; omega)]
theorem insInner_stop' (a j : Nat) (d : Array Nat) (h : j ≤ a ∨ ltN d[j]! d[j - 1]! = false) : insInner ltN a j d = d := by
  cases j with
  | zero => rw [insInner]
  | succ k =>
    rw [insInner, if_neg]
    simp only [Nat.add_sub_cancel] at h
    rcases h with h | h
    · simp; omega
    · simp [h]
set_option maxRecDepth 100000 in
set_option maxHeartbeats 4000000 in
theorem insSort_any (base g cap a b : Nat) (d : Array Nat) (w : World) (h : RowN base g cap w d) (hab : a ≤ b) (hb : b ≤ d.size) (hsz : d.size ≤ 100000) :
    Calls Tryd.prog 142 #[.slice (some ⟨g, 0, none⟩) d.size cap, .int .i64 a, .int .i64 b] w fun e w' => e = .returned (.tuple #[]) ∧ RowN base g cap w' (insertionSort ltN d a b) ∧ Below base w w' := by
  have HR := hide h
  have hcap := h.2.2.2.2.2
  have hdc := h.2.2.2.2.1
  unfold maxLen at hcap
  obtain ⟨fin, hfin⟩ : ∃ fin, insertionSort ltN d a b = fin := ⟨_, rfl⟩
  obtain ⟨n, hn⟩ : ∃ n, d.size = n := ⟨_, rfl⟩
  rw [hfin]
  rw [hn] at hb hsz hdc ⊢
  have HF := hide hfin
  have HN := hide hn
  clear h hfin hn
  go_enter Tryd.func142, Tryd.ntmps142
  go_wp2
  go_loopw [6] (fun i wr => ∃ (k : Nat) (d' : Array Nat), a + 1 ≤ k ∧ (k ≤ b ∨ k = a + 1) ∧ i = .int .i64 k ∧ RowN base g cap wr d' ∧ d'.size = n ∧ insOuter ltN a b k d' = fin ∧ Below base w wr) (fun i _ => b - (intOf i).toNat)
  case atStart => exact ⟨a + 1, d, by omega, .inr rfl, by go_num, HR.out, HN.out, HF.out, Below.refl _ _⟩
  case round =>
    obtain ⟨k, d', hk1, hk2, rfl, hr, hs, ho, hbel⟩ := hrel
    have HR := hide hr
    have HS := hide hs
    have HO := hide ho
    have HB := hide hbel
    clear hr hs ho hbel
    by_cases hlt : k < b
    · obtain ⟨md, hmd⟩ : ∃ md, insInner ltN a k d' = md := ⟨_, rfl⟩
      have HM := hide hmd
      have HO2 : Hid (insOuter ltN a b (k + 1) md = fin) := hide (by rw [← HO.out, ← hmd]; conv => rhs; rw [insOuter, if_pos hlt])
      clear hmd
      go_wp2
      obtain ⟨wo, rfl⟩ : ∃ wo : World, wo = wr := ⟨_, rfl⟩
      go_loopw [7] (fun j wr => ∃ (q : Nat) (d2 : Array Nat), a ≤ q ∧ q ≤ k ∧ j = .int .i64 q ∧ RowN base g cap wr d2 ∧ d2.size = n ∧ insInner ltN a q d2 = md ∧ Below base w wr) (fun j _ => (intOf j).toNat)
      case atStart => exact ⟨k, d', by omega, by omega, rfl, HR.out, HS.out, HM.out, HB.out⟩
      case round =>
        obtain ⟨q, d2, hq1, hq2, rfl, hr, hs, ho, hbel⟩ := hrel
        have HR2 := hide hr
        have HS2 := hide hs
        have HI2 := hide ho
        have HB2 := hide hbel
        clear ho hbel
        by_cases hqa : a < q
        · obtain ⟨p, rfl⟩ : ∃ p, q = p + 1 := ⟨q - 1, by omega⟩
          have hc1 := hr.cell (j := p + 1) (by omega)
          have hc2 := hr.cell (j := p) (by omega)
          obtain ⟨x, hx⟩ : ∃ x, d2[p + 1]! = x := ⟨_, rfl⟩
          obtain ⟨y, hy⟩ : ∃ y, d2[p]! = y := ⟨_, rfl⟩
          rw [hx] at hc1
          rw [hy] at hc2
          have HX := hide hx
          have HY := hide hy
          have hf1 := hr.1.frozenAt (p + 1)
          have hf2 := hr.1.frozenAt p
          clear hr hs hx hy
          have hi0 : (0 : Int) ≤ (p : Int) := by omega
          have hi1 : (p : Int) + 1 < (n : Int) := by omega
          have hi2 : (p : Int) < (n : Int) := by omega
          have hgd : decide ((p : Int) + 1 > (a : Int)) = true := by simp; omega
          by_cases hxy : x < y
          · have HL : Hid (∀ w, Calls Tryd.prog 148 #[.int .u32 (x : Int), .int .u32 (y : Int)] w fun e w' => e = .returned (.bool true) ∧ w = w') := hide (fun w => by
              have := less32 x y w; rwa [show decide (x < y) = true by simpa using hxy] at this)
            have HXY := hide hxy
            clear hxy
            go_wp2
            go_quiet ((go_at_call 148; exact quiet_left (HL.out _)))
            go_wp2
            go_region
            all_goals
              go_wp2
              go_roundw
              case rel =>
                refine ⟨p, Go.Sort.swp d2 (p + 1) p, by omega, by omega, rfl, ?_, by rw [swp_size, HS2.out], ?_, ?_⟩
                · have := (HR2.out.drewN (nq + 1)).swp (p + 1) p
                  rwa [HX.out, HY.out] at this
                · rw [← HI2.out, insInner_go' a p d2 (by omega) (by rw [HX.out, HY.out]; simpa [ltN] using HXY.out)]
                · exact ((below_drewN HB2.out _).setCell (by exact HR2.out.2.2.1) _).setCell (by exact HR2.out.2.2.1) _
              case measure => simp [intOf]
          · have HL : Hid (∀ w, Calls Tryd.prog 148 #[.int .u32 (x : Int), .int .u32 (y : Int)] w fun e w' => e = .returned (.bool false) ∧ w = w') := hide (fun w => by
              have := less32 x y w; rwa [show decide (x < y) = false by simpa using hxy] at this)
            have HXY := hide hxy
            clear hxy
            have HMd : Hid (d2 = md) := hide (by rw [← HI2.out, insInner_stop' a (p + 1) d2 (.inr (by rw [Nat.add_sub_cancel, HX.out, HY.out]; simpa [ltN] using HXY.out))])
            go_wp2
            go_quiet ((go_at_call 148; exact quiet_left (HL.out _)))
            go_wp2
            go_roundw
            case rel => exact ⟨k + 1, d2, by omega, by omega, by go_num, HR2.out.drewN _, HS2.out, by rw [HMd.out]; exact HO2.out, below_drewN HB2.out _⟩
            case measure => simp [intOf]; omega
        · have HMd : Hid (d2 = md) := hide (by rw [← HI2.out, insInner_stop' a q d2 (.inl (by omega))])
          have hgd : decide ((q : Int) > (a : Int)) = false := by simp; omega
          clear hr hs
          go_wp2
          go_quiet (fail)
          go_wp2
          go_roundw
          case rel => exact ⟨k + 1, d2, by omega, by omega, by go_num, HR2.out.drewN _, HS2.out, by rw [HMd.out]; exact HO2.out, below_drewN HB2.out _⟩
          case measure => simp [intOf]; omega
    · have HFin : Hid (d' = fin) := hide (by rw [← HO.out, insOuter, if_neg hlt])
      go_wp2
      go_end0
      exact ⟨rfl, by rw [← HFin.out]; exact HR.out, HB.out⟩
end Go.Proofs.YtdjgenlhcjgafaaDoor
set_option linter.unusedSimpArgs false
set_option linter.unusedVariables false
namespace Go.Proofs.YtdjgenlhcjgafaaDoor
open Go.RowKit
open Go.Sort (swp insInner insOuter insertionSort)
set_option maxHeartbeats 1000000 in
theorem clone_any (g o n c : Nat) (l : List Nat) (w : World) (h : U32s w (some ⟨g, o, none⟩) n c l) (hn : n ≤ 10000) :
    Calls Tryd.prog 69 #[.slice (some ⟨g, o, none⟩) n c] w fun e w' => ∃ v, e = .returned v ∧ Own32 w w' v l := by
  obtain ⟨i0, hi, hz0, hz1, hz2⟩ := info_parts info32
  have HR := hide h.reads
  have HL := hide h.1
  have hnil := fun w => Lib.run_eql_slice_nil (P := Tryd.prog) w
  clear h
  go_enter Tryd.func69, Tryd.ntmps69
  go_wp2_with (at_builtin; refine wpList_append_any _ rfl (.tmp 5) (.tmp 6) 22 rfl w.heap.size 34 i0 _ 1 4 Tryd.underlying22 hi hz0 hz1 hz2 rfl (by decide) (.slice (some ⟨w.heap.size, 0, none⟩) 0 0) 0 [] rfl (own_made0 w) w.heap.size (some ⟨g, o, none⟩) n c (u32c l) rfl (HR.out.alloc (Nat.le_refl _) _) (u32c_one _) (by unfold maxLen; omega) (by omega) (by simp) ?_; intro v' w1 hown' hgrow _)
  go_ret
  refine ⟨_, rfl, ?_, ?_⟩
  · rw [HL.out]; simpa using hown'
  · exact ((Below.refl _ _).alloc (Nat.le_refl _) _).grown hgrow (by simp) (fun k hk => by simp [Value.ownBlock] at hk; omega)
theorem builder_ws (B b : Nat) (bs : List Value) (s : ByteArray) (w : World) (h : Lib.IsBuilder 86 5 B b bs w) (hlen : bs.length + s.size ≤ 140737488355328) (hBw : B ≤ w.heap.size) :
    Calls Tryd.prog 46 #[.pointer (some ⟨b, 0, none⟩), .string s] w fun e w' => e = .returned (.tuple #[.int .i64 s.size, .nilIface]) ∧ (Lib.BuilderAt 86 5 B b (.pointer (some ⟨b, 0, none⟩)) (bs ++ Lib.strCells s) w' ∧ Below B w w') :=
  Any.Builder_WriteString { Tryd.lays156 with } Tryd.Builder_Extra_156 B b bs s w h hlen hBw
theorem builder_str (B b : Nat) (l : List UInt8) (w : World) (h : Lib.IsBuilder 86 5 B b (Lib.byteCells l) w) (h0 : l ≠ []) :
    Calls Tryd.prog 47 #[.pointer (some ⟨b, 0, none⟩)] w fun e w' => e = .returned (.string ⟨l.toArray⟩) ∧ Below B w w' := Any.Builder_String { Tryd.lays156 with } Tryd.Builder_Extra_156 B b l w h h0
set_option maxHeartbeats 1000000 in
theorem sort_small (base g cap : Nat) (d : Array Nat) (w : World) (h : RowN base g cap w d) (hsz : d.size ≤ 12) :
    Calls Tryd.prog 70 #[.slice (some ⟨g, 0, none⟩) d.size cap] w fun e w' => e = .returned (.tuple #[]) ∧ RowN base g cap w' (insertionSort ltN d 0 d.size) ∧ Below base w w' := by
  have HI := hide (insSort_any base g cap 0 d.size d w h (Nat.zero_le _) (Nat.le_refl _) (by omega))
  obtain ⟨n, hn⟩ : ∃ n, d.size = n := ⟨_, rfl⟩
  rw [hn] at HI hsz ⊢
  clear h hn
  have HL := hide (fun w => Tryd.bits_Len (n : Int) w (by omega) (by omega))
  obtain ⟨q, hq⟩ : ∃ q, Lib.bitLen (n : Int).toNat = q := ⟨_, rfl⟩
  rw [hq] at HL
  clear hq
  have HP : Hid (Calls Tryd.prog 105 #[.slice (some ⟨g, 0, none⟩) n cap, .int .i64 0, .int .i64 n, .int .i64 q] w fun e w' => e = .returned (.tuple #[]) ∧ RowN base g cap w' (insertionSort ltN d 0 n) ∧ Below base w w') := hide (by
    go_enter Tryd.func105, Tryd.ntmps105
    go_wp2
    refine wp_loop_rounds 1 ?_; rw [rounds_succ]
    go_wp2_with fail
    refine HI.out.mono ?_
    rintro e w1 ⟨rfl, hr, hb⟩
    have HR := hide hr
    have HB := hide hb
    clear hr hb
    go_wp2
    refine bodyPost_ret (results_none rfl _ _ _) rfl ?_
    exact ⟨rfl, HR.out, HB.out⟩)
  go_enter Tryd.func70, Tryd.ntmps70
  go_wp2_with fail
  refine (HL.out _).mono ?_
  rintro e w1 ⟨rfl, rfl⟩
  go_wp2_with fail
  refine HP.out.mono ?_
  rintro e w1 ⟨rfl, hr, hb⟩
  have HR := hide hr
  have HB := hide hb
  clear hr hb
  go_wp2
  go_end0
  exact ⟨rfl, HR.out, HB.out⟩
set_option maxHeartbeats 1000000 in
theorem fmtU_small (n : Nat) (h : n < 100) (w : World) : Calls Tryd.prog 65 #[.int .u64 n, .int .i64 10] w fun e w' => e = .returned (.string (str (Lib.decDigits n))) ∧ w = w' := by
  have HS := hide (fun w => Tryd.internal_strconv_small n h w)
  have HF : Hid (∀ w, Calls Tryd.prog 95 #[.int .u64 n, .int .i64 10] w fun e w' => e = .returned (.string (str (Lib.decDigits n))) ∧ w = w') := hide (fun w => by
    go_enter Tryd.func95, Tryd.ntmps95
    go_wp2_with fail
    refine (HS.out _).mono ?_
    rintro e w1 ⟨rfl, rfl⟩
    go_wp2
    go_ret
    exact ⟨rfl, rfl⟩)
  go_enter Tryd.func65, Tryd.ntmps65
  go_wp2_with fail
  refine (HF.out _).mono ?_
  rintro e w1 ⟨rfl, rfl⟩
  go_wp2
  go_ret
  exact ⟨rfl, rfl⟩
/-- Numbers' digits, a blank between. -/
def jn (l : List Nat) : List UInt8 := l.foldl (fun acc x => (if acc = [] then [] else acc ++ [32]) ++ Lib.decDigits x) []
theorem jn_snoc (l : List Nat) (x : Nat) : jn (l ++ [x]) = (if jn l = [] then [] else jn l ++ [32]) ++ Lib.decDigits x := by
  unfold jn; rw [List.foldl_append]; rfl
theorem jn_nil (l : List Nat) : jn l = [] ↔ l = [] := by
  constructor
  · intro h
    rcases List.eq_nil_or_concat l with rfl | ⟨l', x, rfl⟩
    · rfl
    · rw [List.concat_eq_append, jn_snoc] at h
      exact absurd (List.append_eq_nil_iff.1 h).2 (dec_ne x)
  · rintro rfl; rfl
theorem jn_len_aux : ∀ (l : List Nat) (acc : List UInt8), (∀ x ∈ l, x < 4294967296) → (l.foldl (fun acc x => (if acc = [] then [] else acc ++ [32]) ++ Lib.decDigits x) acc).length ≤ acc.length + 11 * l.length
  | [], acc, _ => by simp
  | x :: l, acc, h => by
    have h1 := jn_len_aux l ((if acc = [] then [] else acc ++ [32]) ++ Lib.decDigits x) (fun y hy => h y (by simp [hy]))
    have h2 := dec_len x 9 (by have := h x (by simp); omega)
    rw [List.foldl_cons]
    refine Nat.le_trans h1 ?_
    rw [List.length_append, List.length_cons]
    split
    · simp; omega
    · simp; omega
theorem jn_len (l : List Nat) (h : ∀ x ∈ l, x < 4294967296) : (jn l).length ≤ 11 * l.length := by
  have := jn_len_aux l [] h
  simpa [jn] using this
theorem bytes_app (a b : List UInt8) : Lib.byteCells a ++ Lib.strCells (str b) = Lib.byteCells (a ++ b) := by simp [Lib.byteCells, Lib.strCells, str]
set_option maxRecDepth 100000 in
set_option maxHeartbeats 2000000 in
theorem asnText_small (A : Option Addr) (n c : Nat) (l : List Nat) (w : World) (h : U32s w A n c l) (hn : 0 < n) (hn2 : n ≤ 1000) (hsm : ∀ x ∈ l, x < 100) :
    Calls Tryd.prog 38 #[.slice A n c] w fun e w' => e = .returned (.string (str (jn l))) ∧ Below w.heap.size w w' := by
  have HA := hide (U32lo.start h)
  have hm := h.2.2.1
  have hnc := h.2.1
  unfold maxLen at hm
  have HSm := hide hsm
  have hne : ((n : Int) == 0) = false := by simp; omega
  have HB0 : Hid (Lib.IsBuilder 86 5 w.heap.size w.heap.size (Lib.byteCells (jn (l.take 0))) (w.alloc (.cells #[.pointer none, .slice none 0 0] 86))) := hide (Lib.fresh_isBuilder 86 5 w)
  clear h hsm
  go_enter Tryd.func38, Tryd.ntmps38
  go_wp2
  go_loopw [11] (fun i wr => ∃ k : Nat, k ≤ n ∧ i = .int .i64 k ∧ Lib.IsBuilder 86 5 w.heap.size w.heap.size (Lib.byteCells (jn (l.take k))) wr ∧ Below w.heap.size w wr) (fun i _ => n - (intOf i).toNat)
  case atStart => exact ⟨0, by omega, rfl, HB0.out, (Below.refl _ _).alloc (Nat.le_refl _) _⟩
  case round =>
    obtain ⟨k, hk, rfl, hb, hbel⟩ := hrel
    have HB := hide hb
    have HBel := hide hbel
    have HA2 := hide (HA.out.keep hbel)
    have hsz := hbel.size
    clear hb hbel
    by_cases hlt : k < n
    · obtain ⟨g, o, x, rfl, hg, hx, hx2, hc⟩ := HA2.out.1.at_ hlt
      have hx100 := HSm.out x (List.mem_of_getElem? hx)
      have HSn := hide (show jn (l.take (k + 1)) = (if jn (l.take k) = [] then [] else jn (l.take k) ++ [32]) ++ Lib.decDigits x by rw [take_snoc_eq hx, jn_snoc])
      have hjl : (jn (l.take k)).length ≤ 11000 := by
        have h1 := jn_len (l.take k) (fun y hy => by have := HSm.out y (List.mem_of_mem_take hy); omega)
        have h2 : (l.take k).length ≤ k := List.length_take_le _ _
        omega
      have hdl := dec_len x 9 (by omega)
      have HF := hide (fmtU_small x hx100)
      have HTk : Hid (l.take k = [] ↔ k = 0) := hide (by
        constructor
        · intro h; have := congrArg List.length h; rw [List.length_take, HA2.out.1.1] at this; simp at this; omega
        · rintro rfl; rfl)
      clear hx
      by_cases hk0 : k = 0
      · subst hk0
        have hc' : wr.cell? ⟨g, o, none⟩ = some (.int .u32 (x : Int)) := by simpa using hc
        clear hc
        go_wp2_with fail
        refine (HF.out _).mono ?_
        rintro e w1 ⟨rfl, rfl⟩
        go_wp2_with fail
        refine (builder_ws _ _ _ (str (Lib.decDigits x)) _ HB.out (by rw [Lib.byteCells_length, str_size]; omega) hsz).mono ?_
        rintro e w2 ⟨rfl, hb2, hbel2⟩
        have HB2 : Hid (Lib.IsBuilder 86 5 w.heap.size w.heap.size (Lib.byteCells (jn (l.take 1))) w2) := hide (by
          rw [bytes_app] at hb2
          rw [HSn.out]
          have e : jn (l.take 0) = [] := rfl
          rw [e] at hb2 ⊢
          exact .inr hb2)
        have HBel2 := hide (HBel.out.trans hbel2)
        clear hb2 hbel2
        go_wp2
        go_roundw
        case rel => exact ⟨1, by omega, by go_num, HB2.out, HBel2.out⟩
        case measure => simp [intOf]; omega
      · have hkp : 0 < k := by omega
        go_wp2_with fail
        refine (builder_ws _ _ _ (str [32]) _ HB.out (by rw [Lib.byteCells_length, str_size]; simp; omega) hsz).mono ?_
        rintro e w2 ⟨rfl, hb2, hbel2⟩
        have HB2 := hide hb2
        have hsz2 := hbel2.size
        have HBel2 := hide (HBel.out.trans hbel2)
        clear hb2 hbel2
        go_wp2_with fail
        refine (HF.out _).mono ?_
        rintro e w1 ⟨rfl, rfl⟩
        go_wp2_with fail
        refine (builder_ws _ _ _ (str (Lib.decDigits x)) _ (.inr HB2.out) (by rw [bytes_app, Lib.byteCells_length, str_size]; simp; omega) (by omega)).mono ?_
        rintro e w3 ⟨rfl, hb3, hbel3⟩
        have HB3 : Hid (Lib.IsBuilder 86 5 w.heap.size w.heap.size (Lib.byteCells (jn (l.take (k + 1)))) w3) := hide (by
          rw [bytes_app, bytes_app] at hb3
          rw [HSn.out, if_neg (fun h => hk0 (HTk.out.1 ((jn_nil _).1 h)))]
          exact .inr hb3)
        have HBel3 := hide (HBel2.out.trans hbel3)
        clear hb3 hbel3
        go_wp2
        go_roundw
        case rel => exact ⟨k + 1, by omega, by go_num, HB3.out, HBel3.out⟩
        case measure => simp [intOf]; omega
    · obtain rfl : k = n := by omega
      have HB2 : Hid (Lib.IsBuilder 86 5 w.heap.size w.heap.size (Lib.byteCells (jn l)) wr) := hide (by
        have := HB.out
        rwa [List.take_of_length_le (by rw [HA2.out.1.1]; exact Nat.le_refl _)] at this)
      have hnz : jn l ≠ [] := fun h => by
        have := (jn_nil l).1 h
        have h2 := HA2.out.1.1
        rw [this] at h2; simp at h2; omega
      have HNZ := hide hnz
      clear hnz
      go_wp2_with fail
      refine (builder_str _ _ _ _ HB2.out HNZ.out).mono ?_
      rintro e w2 ⟨rfl, hbel2⟩
      have HBel2 := hide (HBel.out.trans hbel2)
      clear hbel2
      go_wp2
      go_ret
      exact ⟨rfl, HBel2.out⟩
/-- Where Compact stands: q of d's numbers are gone over, the first k cells of d' hold them, each once. -/
structure CompInv (d d' : Array Nat) (k q : Nat) : Prop where
  size : d'.size = d.size
  le : 1 ≤ k ∧ k ≤ q ∧ q ≤ d.size
  rest : ∀ i, q ≤ i + 1 → d'[i]! = d[i]! ∨ i + 1 = q
  rise : ∀ i, i + 1 < k → d'[i]! < d'[i + 1]!
  last : d'[k - 1]! = d[q - 1]!
  mem : ∀ x, (∃ i, i < k ∧ d'[i]! = x) ↔ (∃ i, i < q ∧ d[i]! = x)
def Up (d : Array Nat) : Prop := ∀ i, i + 1 < d.size → d[i]! ≤ d[i + 1]!
theorem get_set (d : Array Nat) (k x i : Nat) (hk : k < d.size) : (d.setIfInBounds k x)[i]! = if i = k then x else d[i]! := by
  simp only [getElem!_def, Array.getElem?_setIfInBounds]
  by_cases h : k = i
  · subst h; simp [hk]
  · have : ¬ i = k := fun e => h e.symm
    simp [h, this]
theorem set_self (d : Array Nat) (k : Nat) : d.setIfInBounds k d[k]! = d := by
  apply Array.ext_getElem?
  intro i
  rw [Array.getElem?_setIfInBounds]
  by_cases h : k = i
  · subst h
    by_cases hk : k < d.size
    · simp [hk]
    · simp [hk]
  · simp [h]
theorem CompInv.start {d : Array Nat} (h : 1 ≤ d.size) : CompInv d d 1 1 := ⟨rfl, by omega, fun _ _ => .inl rfl, fun i hi => by omega, rfl, fun x => Iff.rfl⟩
theorem CompInv.skip {d d' : Array Nat} {k q : Nat} (h : CompInv d d' k q) (hq : q < d.size) (he : d[q]! = d[q - 1]!) : CompInv d d' k (q + 1) := by
  obtain ⟨h1, h2, h3, h4, h5, h6⟩ := h
  refine ⟨h1, by omega, fun i hi => ?_, h4, by rw [h5, Nat.add_sub_cancel, he], fun x => ?_⟩
  · rcases h3 i (by omega) with h | h
    · exact .inl h
    · omega
  · rw [h6 x]
    constructor
    · rintro ⟨i, hi, hx⟩; exact ⟨i, by omega, hx⟩
    · rintro ⟨i, hi, hx⟩
      by_cases hiq : i < q
      · exact ⟨i, hiq, hx⟩
      · obtain rfl : i = q := by omega
        exact ⟨i - 1, by omega, by rw [← he]; exact hx⟩
theorem CompInv.put {d d' : Array Nat} {k q : Nat} (h : CompInv d d' k q) (hu : Up d) (hq : q < d.size) (hne : d[q]! ≠ d[q - 1]!) : CompInv d (d'.setIfInBounds k d[q]!) (k + 1) (q + 1) := by
  obtain ⟨h1, h2, h3, h4, h5, h6⟩ := h
  have hk : k < d'.size := by omega
  have hlt : d[q - 1]! < d[q]! := by
    have := hu (q - 1) (by omega)
    rw [show q - 1 + 1 = q by omega] at this
    omega
  refine ⟨by simpa using h1, by omega, fun i hi => ?_, fun i hi => ?_, ?_, fun x => ?_⟩
  · rw [get_set _ _ _ _ hk]
    by_cases hik : i = k
    · subst hik
      rw [if_pos rfl]
      by_cases hqk : q = i
      · left; rw [hqk]
      · omega
    · rw [if_neg hik]
      rcases h3 i (by omega) with h | h
      · exact .inl h
      · omega
  · rw [get_set _ _ _ _ hk, get_set _ _ _ _ hk, if_neg (by omega)]
    by_cases hik : i + 1 = k
    · rw [if_pos hik]
      have : i = k - 1 := by omega
      rw [this, h5]; exact hlt
    · rw [if_neg hik]; exact h4 i (by omega)
  · rw [Nat.add_sub_cancel, Nat.add_sub_cancel, get_set _ _ _ _ hk, if_pos rfl]
  · constructor
    · rintro ⟨i, hi, hx⟩
      rw [get_set _ _ _ _ hk] at hx
      by_cases hik : i = k
      · rw [if_pos hik] at hx; exact ⟨q, by omega, hx⟩
      · rw [if_neg hik] at hx
        obtain ⟨j, hj, hjx⟩ := (h6 x).1 ⟨i, by omega, hx⟩
        exact ⟨j, by omega, hjx⟩
    · rintro ⟨i, hi, hx⟩
      by_cases hiq : i = q
      · subst hiq
        exact ⟨k, by omega, by rw [get_set _ _ _ _ hk, if_pos rfl]; exact hx⟩
      · obtain ⟨j, hj, hjx⟩ := (h6 x).2 ⟨i, by omega, hx⟩
        exact ⟨j, by omega, by rw [get_set _ _ _ _ hk, if_neg (by omega)]; exact hjx⟩
theorem CompInv.grow {d : Array Nat} {k : Nat} (h : CompInv d d k k) (hu : Up d) (hk : k < d.size) (hne : d[k]! ≠ d[k - 1]!) : CompInv d d (k + 1) (k + 1) := by
  have := h.put hu hk hne
  rwa [set_self] at this
theorem CompInv.done {d d' : Array Nat} {k : Nat} (h : CompInv d d' k d.size) : d'.toList.take k = setOf d.toList := by
  obtain ⟨h1, h2, h3, h4, h5, h6⟩ := h
  have hg : ∀ (e : Array Nat) i, i < e.size → e.toList[i]? = some (e[i]!) := fun e i hi => by simp [hi]
  refine rise_ext ?_ (setOf_rise _) fun x => ?_
  · have hmono : ∀ j i, i < j → j < k → d'[i]! < d'[j]! := by
      intro j
      induction j with
      | zero => intro i hi; omega
      | succ j ih =>
        intro i hi hj
        have hs := h4 j hj
        by_cases hij : i = j
        · subst hij; exact hs
        · have := ih i (by omega) (by omega); omega
    unfold Rise
    rw [List.pairwise_iff_getElem]
    intro i j hi hj hij
    rw [List.length_take] at hi hj
    have a := hg d' i (by omega)
    have b := hg d' j (by omega)
    rw [List.getElem_take, List.getElem_take]
    rw [List.getElem?_eq_getElem (by simp; omega)] at a b
    rw [Option.some.inj a, Option.some.inj b]
    exact hmono j i hij (by omega)
  · rw [setOf_mem]
    constructor
    · intro hx
      obtain ⟨i, hi⟩ := List.getElem?_of_mem hx
      rw [List.getElem?_take] at hi
      split at hi
      · rename_i hik
        have hsz : i < d'.size := by have := (List.getElem?_eq_some_iff.1 hi).1; simpa using this
        rw [hg d' i hsz] at hi
        obtain ⟨j, hj, hjx⟩ := (h6 x).1 ⟨i, hik, Option.some.inj hi⟩
        exact List.mem_of_getElem? ((hg d j hj).trans (by rw [hjx]))
      · cases hi
    · intro hx
      obtain ⟨i, hi⟩ := List.getElem?_of_mem hx
      have hsz : i < d.size := by have := (List.getElem?_eq_some_iff.1 hi).1; simpa using this
      rw [hg d i hsz] at hi
      obtain ⟨j, hj, hjx⟩ := (h6 x).2 ⟨i, hsz, Option.some.inj hi⟩
      refine List.mem_of_getElem? (i := j) ?_
      rw [List.getElem?_take, if_pos hj, hg d' j (by omega), hjx]
/-- The first cells of a row alone. -/
theorem RowN.cut {base g cap k : Nat} {w : World} {d : Array Nat} (h : RowN base g cap w d) (hk : k ≤ d.size) : w.ownsRow base 34 1 (.slice (some ⟨g, 0, none⟩) k cap) k (u32c (d.toList.take k)) := by
  obtain ⟨h1, h2, h3, h4, h5, h6⟩ := h
  rcases h1.2 with ⟨hv, _⟩ | ⟨g', cap', cur, hv, r1, r2, r3, r4, r5, r6⟩
  · cases hv
  · cases hv
    refine ⟨by simp [u32c]; omega, .inr ⟨g, cap, cur, rfl, r1, r2, by omega, r4, r5, ?_⟩⟩
    have e : u32c (d.toList.take k) = (u32c d.toList).take k := by simp [u32c, List.map_take]
    rw [e, ← r6, List.take_take]
    congr 1; omega
theorem own_clear {base g cap k : Nat} {xs : List Value} : ∀ (vs : List Value) (j : Nat) {w : World}, w.ownsRow base 34 1 (.slice (some ⟨g, 0, none⟩) k cap) k xs → k ≤ j → (w.setCells g j vs).ownsRow base 34 1 (.slice (some ⟨g, 0, none⟩) k cap) k xs
  | [], _, _, h, _ => h
  | v :: vs, j, w, h, hj => by
    refine own_clear vs (j + 1) ?_ (by omega)
    have := (h.stored j v).1
    rwa [List.set_eq_of_length_le (by have := h.1; simp at this; omega)] at this
theorem below_clear {base g : Nat} (hg : base ≤ g) : ∀ (vs : List Value) (j : Nat) {a w : World}, Below base a w → Below base a (w.setCells g j vs)
  | [], _, _, _, h => h
  | v :: vs, j, a, w, h => below_clear hg vs (j + 1) (h.setCell (p := ⟨g, j, none⟩) hg v)
theorem clearRun (w : World) (g o n c : Nat) (hn : 0 < n) (hc : ∀ j, j < n → (w.cell? ⟨g, o + j, none⟩).isSome = true) (hf : ∀ j, j < n → w.frozen? ⟨g, o + j, none⟩ = false) (ty : TypeId) :
    (Builtin.clear_ #[22] ty #[.slice (some ⟨g, o, none⟩) n c]).run Tryd.prog w = .ok (.tuple #[]) (w.setCells g o (List.replicate n (.int .u32 0))) :=
  Lib.run_clear_slice w 22 34 ty (.int .u32 0) Tryd.underlying22 Tryd.zeroValue34 rfl rfl g o n c hn hc hf
set_option maxRecDepth 100000 in
set_option maxHeartbeats 4000000 in
theorem compact_any (base g cap : Nat) (d : Array Nat) (w : World) (h : RowN base g cap w d) (hu : Up d) (hsz : d.size ≤ 100000) (hs1 : 1 ≤ d.size) :
    Calls Tryd.prog 71 #[.slice (some ⟨g, 0, none⟩) d.size cap] w fun e w' => ∃ m, e = .returned (.slice (some ⟨g, 0, none⟩) m cap) ∧ m = (setOf d.toList).length ∧ w'.ownsRow base 34 1 (.slice (some ⟨g, 0, none⟩) m cap) m (u32c (setOf d.toList)) ∧ Below base w w' := by
  have HR := hide h
  have HUp := hide hu
  have hcap := h.2.2.2.2.2
  have hdc := h.2.2.2.2.1
  have hbg := h.2.2.1
  unfold maxLen at hcap
  have hfree := fun w (h : RowN base g cap w d) => h
  obtain ⟨n, hn⟩ : ∃ n, d.size = n := ⟨_, rfl⟩
  have HSt := hide (CompInv.start (d := d) hs1)
  have HFin : Hid (∀ (w' : World) (d' : Array Nat) (k : Nat), RowN base g cap w' d' → CompInv d d' k d.size → w'.ownsRow base 34 1 (.slice (some ⟨g, 0, none⟩) k cap) k (u32c (setOf d.toList)) ∧ k = (setOf d.toList).length) := hide (fun w' d' k hr hi => by
    have h1 := hr.cut (k := k) (by have := hi.size; have := hi.le; omega)
    rw [hi.done] at h1
    refine ⟨h1, ?_⟩
    have := congrArg List.length hi.done
    rw [List.length_take] at this
    have hh := hi.size; have hl := hi.le
    simp at this; omega)
  rw [hn] at hsz hdc hs1 HFin ⊢
  have HN := hide hn
  clear h hu hn hfree
  by_cases h2 : n < 2
  · obtain rfl : n = 1 := by omega
    have HF := hide (HFin.out w d 1 HR.out HSt.out)
    go_enter Tryd.func71, Tryd.ntmps71
    go_wp2
    go_ret
    exact ⟨_, rfl, HF.out.2, HF.out.1, Below.refl _ _⟩
  · go_enter Tryd.func71, Tryd.ntmps71
    go_wp2
    go_loopw [3] (fun i wr => ∃ k : Nat, k ≤ n ∧ i = .int .i64 k ∧ CompInv d d k k ∧ ∃ q, wr = w.drewN q) (fun i _ => n - (intOf i).toNat)
    case atStart => exact ⟨1, by omega, rfl, HSt.out, 0, rfl⟩
    case round =>
      obtain ⟨k, hk, rfl, hinv, q, rfl⟩ := hrel
      have HI := hide hinv
      have hk1 := hinv.le.1
      clear hinv
      by_cases hlt : k < n
      · obtain ⟨p, rfl⟩ : ∃ p, k = p + 1 := ⟨k - 1, by omega⟩
        have hc1 := HR.out.cell (j := p + 1) (by rw [HN.out]; omega)
        have hc2 := HR.out.cell (j := p) (by rw [HN.out]; omega)
        obtain ⟨x, hx⟩ : ∃ x, d[p + 1]! = x := ⟨_, rfl⟩
        obtain ⟨y, hy⟩ : ∃ y, d[p]! = y := ⟨_, rfl⟩
        rw [hx] at hc1
        rw [hy] at hc2
        have HX := hide hx
        have HY := hide hy
        clear hx hy
        have hi0 : (0 : Int) ≤ (p : Int) := by omega
        have hi1 : (p : Int) + 1 < (n : Int) := by omega
        have hi2 : (p : Int) < (n : Int) := by omega
        have hi3 : (0 : Int) ≤ (p : Int) + 1 := by omega
        by_cases hxy : x = y
        · have he : ((x : Int) == (y : Int)) = true := by simp [hxy]
          have HXY := hide hxy
          clear hxy
          have HI2 : Hid (CompInv d d (p + 1) (p + 1 + (0 + 1))) := hide (by
            have := HI.out.skip (by rw [HN.out]; exact hlt) (by rw [Nat.add_sub_cancel, HX.out, HY.out]; exact HXY.out)
            exact this)
          have hcp : ¬ cap = p + 1 := by omega
          have hi4 : (p : Int) + 1 ≤ (n : Int) := by omega
          have hi5 : (n : Int) ≤ (cap : Int) := by omega
          go_wp2
          go_quiet (fail)
          go_wp2
          obtain ⟨wo, hwo⟩ : ∃ wo, (w.drewN q).drewN nq = wo := ⟨_, rfl⟩
          have HRo : Hid (RowN base g cap wo d) := hide (by rw [← hwo]; exact (HR.out.drewN q).drewN nq)
          have HBo : Hid (Below base w wo) := hide (by rw [← hwo]; exact below_drewN (below_drewN (Below.refl _ _) _) _)
          obtain ⟨p0, hp0⟩ : ∃ p0, p = p0 := ⟨_, rfl⟩
          subst hp0
          go_loopw [3, 5] (fun a b wr => ∃ (k r : Nat) (d' : Array Nat), a = .int .i64 k ∧ b = .int .i64 ((r : Int) + 1) ∧ r + 1 ≤ n - (p + 1) ∧ CompInv d d' k (p + 1 + (r + 1)) ∧ k < p + 1 + (r + 1) ∧ d'[p + 1 + r]! = d[p + 1 + r]! ∧ RowN base g cap wr d' ∧ Below base w wr) (fun _ b _ => n - (intOf b).toNat)
          case atStart => exact ⟨p + 1, 0, d, by go_num, by go_num, by omega, HI2.out, by omega, rfl, by first | exact (HR.out.drewN _) | exact (HR.out.drewN _).drewN _, by first | exact below_drewN (Below.refl _ _) _ | exact below_drewN (below_drewN (Below.refl _ _) _) _⟩
          case round =>
            obtain ⟨k, r, d', rfl, rfl, hr, hinv, hkq, hrr, hrow, hbel⟩ := hrel
            have HI3 := hide hinv
            have HRR := hide hrr
            have HR3 := hide hrow
            have HB3 := hide hbel
            have hds := hinv.size
            have hle := hinv.le
            rw [HN.out] at hds hle
            clear hinv hrr hbel
            by_cases hlt2 : r + 1 < n - (p + 1)
            · have hc3 := hrow.cell (j := p + 1 + (r + 1)) (by omega)
              have hc4 := hrow.cell (j := p + 1 + r) (by omega)
              have hfz := hrow.1.frozenAt k
              have hck := hrow.cell (j := k) (by omega)
              clear hrow
              obtain ⟨x2, hx2⟩ : ∃ x2, d[p + 1 + (r + 1)]! = x2 := ⟨_, rfl⟩
              obtain ⟨y2, hy2⟩ : ∃ y2, d[p + 1 + r]! = y2 := ⟨_, rfl⟩
              have hdx : d'[p + 1 + (r + 1)]! = x2 := by
                rcases HI3.out.rest (p + 1 + (r + 1)) (by omega) with h | h
                · rw [h, hx2]
                · omega
              rw [hdx] at hc3
              rw [HRR.out, hy2] at hc4
              have HX2 := hide hx2
              have HY2 := hide hy2
              have HDX := hide hdx
              have hx3 : x2 < 4294967296 := by rw [← hdx]; exact HR3.out.val _
              clear hx2 hy2 hdx
              have hj0 : (0 : Int) ≤ (r : Int) := by omega
              have hj1 : (0 : Int) ≤ (r : Int) + 1 := by omega
              have hj2 : (r : Int) + 1 < (n : Int) - ((p : Int) + 1) := by omega
              have hj3 : (r : Int) < (n : Int) - ((p : Int) + 1) := by omega
              have hj4 : (k : Int) < (n : Int) := by omega
              by_cases hxy2 : x2 = y2
              · have he2 : ((x2 : Int) != (y2 : Int)) = false := by simp [hxy2]
                have HI4 : Hid (CompInv d d' k (p + 1 + (r + 1 + 1))) := hide (by
                  have := HI3.out.skip (by rw [HN.out]; omega) (by rw [show p + 1 + (r + 1) - 1 = p + 1 + r by omega, HX2.out, HY2.out]; exact hxy2)
                  exact this)
                clear hxy2
                go_wp2
                go_quiet (fail)
                go_wp2
                go_roundw
                case rel => exact ⟨k, r + 1, d', rfl, by go_num, by omega, HI4.out, by omega, by rw [show p + 1 + (r + 1) = p + 1 + (r + 1) from rfl, HDX.out, HX2.out], HR3.out.drewN _, below_drewN HB3.out _⟩
                case measure => simp [intOf]; omega
              · have he2 : ((x2 : Int) != (y2 : Int)) = true := by simp; omega
                have HI4 : Hid (CompInv d (d'.setIfInBounds k x2) (k + 1) (p + 1 + (r + 1 + 1))) := hide (by
                  have := HI3.out.put HUp.out (by rw [HN.out]; omega) (by rw [show p + 1 + (r + 1) - 1 = p + 1 + r by omega, HX2.out, HY2.out]; exact hxy2)
                  rw [HX2.out] at this
                  exact this)
                clear hxy2
                go_wp2
                go_quiet (fail)
                go_wp2
                go_roundw
                case rel => exact ⟨k + 1, r + 1, d'.setIfInBounds k x2, by go_num, by go_num, by omega, HI4.out, by omega, by rw [get_set _ _ _ _ (by omega), if_neg (by omega), HDX.out, HX2.out], (HR3.out.drewN _).set_ hx3, (below_drewN HB3.out _).setCell (by exact HR3.out.2.2.1) _⟩
                case measure => simp [intOf]; omega
            · have hkn : k < n := by omega
              have hrn : p + 1 + (r + 1) = n := by omega
              have HI4 : Hid (CompInv d d' k d.size) := hide (by rw [HN.out, ← hrn]; exact HI3.out)
              have hcl := clearRun wr g k (n - k) (cap - k) (by omega) (fun j hj => by rw [HR3.out.cell (by omega)]; rfl) (fun j hj => HR3.out.1.frozenAt (k + j))
              have HF : Hid (wr.ownsRow base 34 1 (.slice (some ⟨g, 0, none⟩) k cap) k (u32c (setOf d.toList)) ∧ k = (setOf d.toList).length) := hide (HFin.out wr d' k HR3.out (by have := HI4.out; rwa [HN.out] at this))
              have hck : ¬ cap = k := by omega
              have hj4 : (k : Int) < (n : Int) := by omega
              clear hrow hrn
              go_wp2
              go_ret
              exact ⟨_, rfl, HF.out.2, own_clear _ _ HF.out.1 (Nat.le_refl _), below_clear (by exact HR3.out.2.2.1) _ _ HB3.out⟩
        · have he : ((x : Int) == (y : Int)) = false := by simp; omega
          have HI2 := hide (HI.out.grow HUp.out (by rw [HN.out]; exact hlt) (by rw [Nat.add_sub_cancel, HX.out, HY.out]; exact hxy))
          clear hxy
          go_wp2
          go_quiet (fail)
          go_wp2
          go_roundw
          case rel => exact ⟨p + 1 + 1, by omega, by go_num, HI2.out, _, rfl⟩
          case measure => simp [intOf]; omega
      · obtain rfl : k = n := by omega
        have HF := hide (HFin.out (w.drewN q) d k (HR.out.drewN q) (by have := HI.out; rwa [← HN.out] at this ⊢))
        go_wp2
        go_ret
        exact ⟨_, rfl, HF.out.2, HF.out.1, below_drewN (Below.refl _ _) _⟩
theorem row_of_own {base : Nat} {w : World} {v : Value} {l : List Nat} (h : w.ownsRow base 34 1 v l.length (u32c l)) (hl : 0 < l.length) (hb : ∀ x ∈ l, x < 4294967296) :
    ∃ g cap, v = .slice (some ⟨g, 0, none⟩) l.length cap ∧ RowN base g cap w l.toArray := by
  rcases h.2 with ⟨_, h0⟩ | ⟨g, cap, cur, hv, h1, h2, h3, h4, h5, h6⟩
  · omega
  · subst hv
    refine ⟨g, cap, rfl, ?_, by simpa using hb, h1, (Array.getElem?_eq_some_iff.1 h2).1, by simpa using h3, h4⟩
    simpa using h
theorem ltN_swo : Go.Sort.SWO ltN := ⟨fun x => by simp [ltN], fun x y z => by simp [ltN]; omega, fun x y z => by simp [ltN]; omega⟩
theorem sorted_up {d : Array Nat} (h : Go.Sort.SortedIn ltN 0 d.size d) : Up d := fun i hi => by
  have := h i (i + 1) (by omega) (by omega) hi
  simp [ltN] at this
  exact this
theorem perm_mem {d d' : Array Nat} (h : Go.Sort.PermIn 0 d.size d d') : d'.size = d.size ∧ ∀ x, x ∈ d'.toList ↔ x ∈ d.toList := by
  obtain ⟨h1, _, h3⟩ := h
  refine ⟨h1, fun x => ?_⟩
  have := h3.mem_iff (a := x)
  rw [show (d'.extract 0 d.size).toList = d'.toList by rw [← h1]; simp, show (d.extract 0 d.size).toList = d.toList by simp] at this
  exact this
theorem setOf_perm {l r : List Nat} (h : ∀ x, x ∈ l ↔ x ∈ r) : setOf l = setOf r :=
  rise_ext (setOf_rise _) (setOf_rise _) fun x => by rw [setOf_mem, setOf_mem, h]
set_option maxHeartbeats 1000000 in
theorem asnSet_small (g o n c : Nat) (l : List Nat) (w : World) (h : U32s w (some ⟨g, o, none⟩) n c l) (hn : n ≤ 12) (hn1 : 1 ≤ n) :
    Calls Tryd.prog 42 #[.slice (some ⟨g, o, none⟩) n c] w fun e w' => ∃ v, e = .returned v ∧ Own32 w w' v (setOf l) := by
  have hb := h.2.2.2.1
  have hl := h.1
  have HC := hide (clone_any g o n c l w h (by omega))
  have HL := hide hl
  have HBd := hide hb
  clear h hl hb
  go_enter Tryd.func42, Tryd.ntmps42
  go_wp2_with fail
  refine HC.out.mono ?_
  rintro e w1 ⟨v, rfl, ho, hb1⟩
  obtain ⟨g1, cap, rfl, hrow⟩ := row_of_own ho (by rw [HL.out]; exact hn1) HBd.out
  obtain ⟨d, hd⟩ : ∃ d, l.toArray = d := ⟨_, rfl⟩
  have hdl : d.toList = l := by rw [← hd]
  have hds : l.length = d.size := by rw [← hd]; simp
  rw [hd] at hrow
  have hds2 : d.size ≤ 12 := by rw [← hds, HL.out]; exact hn
  have hds1 : 1 ≤ d.size := by rw [← hds, HL.out]; exact hn1
  have HS := hide (sort_small w.heap.size g1 cap d w1 hrow hds2)
  have hspec := Go.Sort.insertionSort_holds (lt := ltN) ltN_swo d 0 d.size (Nat.zero_le _) (Nat.le_refl _)
  obtain ⟨hperm, hsort⟩ := hspec
  obtain ⟨d2, hd2⟩ : ∃ d2, insertionSort ltN d 0 d.size = d2 := ⟨_, rfl⟩
  rw [hd2] at HS hperm hsort
  obtain ⟨hsz2, hmem⟩ := perm_mem hperm
  have hup := sorted_up (d := d2) (by rw [hsz2]; exact hsort)
  have HSet : Hid (setOf d2.toList = setOf l) := hide (setOf_perm (fun x => by rw [hmem x, hdl]))
  have HUp := hide hup
  have HB1 := hide hb1
  rw [hds]
  have HSz2 := hide hsz2
  clear hd hdl hds hd2 hperm hsort hmem hup hb1 hrow ho hsz2
  go_wp2_with fail
  refine HS.out.mono ?_
  rintro e w2 ⟨rfl, hr2, hb2⟩
  have HCm := hide (compact_any w.heap.size g1 cap d2 w2 hr2 HUp.out (by rw [HSz2.out]; omega) (by rw [HSz2.out]; omega))
  have HB2 := hide (HB1.out.trans hb2)
  rw [HSz2.out] at HCm
  clear hr2 hb2
  go_wp2_with fail
  refine HCm.out.mono ?_
  rintro e w3 ⟨m, rfl, hm, ho3, hb3⟩
  rw [HSet.out] at hm ho3
  have HO3 := hide ho3
  have HM := hide hm
  have HB3 := hide (HB2.out.trans hb3)
  clear hm ho3 hb3
  go_wp2
  go_ret
  exact ⟨_, rfl, by rw [← HM.out]; exact HO3.out, HB3.out⟩
end Go.Proofs.YtdjgenlhcjgafaaDoor
set_option linter.unusedSimpArgs false
set_option linter.unusedVariables false
namespace Go.Proofs.YtdjgenlhcjgafaaDoor
open Go.RowKit
theorem pieces_cons_no {c : UInt8} {p : List UInt8} (h : c ∉ p) (r : List UInt8) : pieces c (p ++ c :: r) = p :: pieces c r := by
  induction p with
  | nil => simp [pieces]
  | cons x p ih =>
    have hx : x ≠ c := fun e => h (by simp [e])
    have := ih (fun hm => h (by simp [hm]))
    rw [List.cons_append]
    conv => lhs; unfold pieces
    rw [if_neg hx, this]; rfl
theorem pieces_no {c : UInt8} {p : List UInt8} (h : c ∉ p) : pieces c p = [p] := by
  induction p with
  | nil => rfl
  | cons x p ih =>
    have hx : x ≠ c := fun e => h (by simp [e])
    unfold pieces
    rw [if_neg hx, ih (fun hm => h (by simp [hm]))]; rfl
theorem jw_cons2 (a b : List UInt8) (r : List (List UInt8)) : jw (a :: b :: r) = a ++ 32 :: jw (b :: r) := by
  unfold jw
  rw [Lib.join_cons, Lib.join_cons]
  simp [Lib.joinTail]
theorem jw_one (a : List UInt8) : jw [a] = a := by
  unfold jw; rw [Lib.join_cons]; simp [Lib.joinTail]
theorem pieces_jw : ∀ (ps : List (List UInt8)), ps ≠ [] → (∀ p ∈ ps, (32 : UInt8) ∉ p) → pieces 32 (jw ps) = ps
  | [], h, _ => absurd rfl h
  | [a], _, h => by rw [jw_one]; exact pieces_no (h a (by simp))
  | a :: b :: r, _, h => by
    rw [jw_cons2, pieces_cons_no (h a (by simp)), pieces_jw (b :: r) (by simp) (fun p hp => h p (by simp [hp]))]
theorem piece_len (c : UInt8) : ∀ (s : List UInt8) (p : List UInt8), p ∈ pieces c s → p.length ≤ s.length
  | [], p, h => by simp [pieces] at h; simp [h]
  | x :: l, p, h => by
    unfold pieces at h
    split at h
    · rcases List.mem_cons.1 h with rfl | h
      · simp
      · have := piece_len c l p h; simp; omega
    · rcases List.mem_cons.1 h with rfl | h
      · cases hp : pieces c l with
        | nil => exact absurd hp (pieces_ne c l)
        | cons q qs =>
          have := piece_len c l q (by rw [hp]; simp)
          simp; omega
      · have := piece_len c l p (List.mem_of_mem_tail h); simp; omega
end Go.Proofs.YtdjgenlhcjgafaaDoor
set_option linter.unusedSimpArgs false
set_option linter.unusedVariables false
namespace Go.Proofs.YtdjgenlhcjgafaaDoor
open Go.RowKit
attribute [local go_sem] Oper.semAt_some
def zeros20 : Array Value := #[Value.int .u8 0, Value.int .u8 0, Value.int .u8 0, Value.int .u8 0, Value.int .u8 0, Value.int .u8 0, Value.int .u8 0, Value.int .u8 0, Value.int .u8 0, Value.int .u8 0, Value.int .u8 0, Value.int .u8 0, Value.int .u8 0, Value.int .u8 0, Value.int .u8 0, Value.int .u8 0, Value.int .u8 0, Value.int .u8 0, Value.int .u8 0, Value.int .u8 0, Value.int .u8 0, Value.int .u8 0, Value.int .u8 0, Value.int .u8 0]
theorem zeros20_at (i : Nat) (h : i < 24) : zeros20[i]? = some (.int .u8 0) := by
  have e : zeros20 = Array.replicate 24 (.int .u8 0) := rfl
  rw [e, Array.getElem?_replicate, if_pos h]
theorem holds20 (w : World) (T : TypeId) (nd : Nat) (hs : nd ≤ 20) : Go.Sort.Holds (fun (b : UInt8) => Value.int .u8 (b.toNat : Int)) (w.alloc (.cells zeros20 T)) w.heap.size 0 (Array.replicate nd (0 : UInt8)) := fun j hj => by
  have hj' : j < nd := by simpa using hj
  refine ⟨?_, World.frozen?_alloc_new _ _ _ _⟩
  rw [World.cell?_alloc_new, zeros20_at _ (by omega), getElem!_pos _ j hj]
  simp
theorem fin20 (w : World) (o : Obj) (dk : Array UInt8) (k : Nat) : ∃ os, (Go.Sort.putRow (fun (b : UInt8) => Value.int .u8 (b.toNat : Int)) (w.alloc o) w.heap.size 0 dk).drewN k = Go.Sort.grow (w.drewN k) os := by
  rw [Go.Sort.alloc_eq_grow]
  obtain ⟨os', _, e⟩ := Go.Sort.putRow_grow_new (fun (b : UInt8) => Value.int .u8 (b.toNat : Int)) w #[o] w.heap.size 0 dk (Nat.le_refl _)
  exact ⟨os', by rw [e]; rfl⟩
set_option maxHeartbeats 6400000 in
set_option maxRecDepth 100000 in
/-- strconv.FormatUint at base 10, for every uint64. -/
theorem fmtU_any (u : Nat) (h : u < 18446744073709551616) (w : World) (ht : Tab w) : Calls Tryd.prog 65 #[.int .u64 u, .int .i64 10] w fun e w' => e = .returned (.string (str (Lib.decDigits u))) ∧ Below w.heap.size w w' := by
  have HF : Hid (Calls Tryd.prog 95 #[.int .u64 u, .int .i64 10] w fun e w' => e = .returned (.string (str (Lib.decDigits u))) ∧ Below w.heap.size w w') := hide (by
    by_cases hs : u < 100
    · have HS := hide (fun w => Tryd.internal_strconv_small u hs w)
      go_enter Tryd.func95, Tryd.ntmps95
      go_wp2_with fail
      refine (HS.out _).mono ?_
      rintro e w1 ⟨rfl, rfl⟩
      go_wp2
      go_ret
      exact ⟨rfl, Below.refl _ _⟩
    · have hu1 : 1 ≤ u := by omega
      have hnd20 : Lib.nDigits u ≤ 20 := by have := Lib.numDigits_eq u hu1 h; split at this <;> omega
      have hal : Tryd.prog.arrayLen 160 = 24 := by kernel_rfl
      have hsl1 : ∀ W, (Instr.sliceAt 160 (.pointer (some ⟨w.heap.size, 0, none⟩)) none (some (.int .i64 (Lib.nDigits u : Int))) none).run Tryd.prog W = .ok (.slice (some ⟨w.heap.size, 0, none⟩) (Lib.nDigits u) 24) W := fun W => by
        rw [run_sliceAt_array_h W 160 ⟨w.heap.size, 0, none⟩ (by simp [Program.arrayLen, Program.elem, Tryd.underlying160]) .i64 (Lib.nDigits u : Int) (by omega) (by rw [hal]; omega)]
        go_simp
      have hH0 := holds20 w 160 (Lib.nDigits u) hnd20
      have hfmt := Tryd.internal_strconv_formatBase10 w.heap.size 0 24 u (Array.replicate (Lib.nDigits u) 0) (w.alloc (.cells zeros20 160)) hH0 (by rw [Array.size_replicate]; exact Lib.lt_pow_nDigits u) h (by rw [Array.size_replicate]; omega)
      rw [Array.size_replicate] at hfmt
      have HH0 := hide hH0
      have HT := hide ht
      clear hH0 hal ht
      go_enter Tryd.func95, Tryd.ntmps95
      go_wp2_with (first
        | (go_at_call 133; refine (Tryd.internal_strconv_numDigits u hu1 h _ (Lib.tabIs_alloc HT.out _)).mono ?_; rintro e w' ⟨rfl, rfl⟩))
      go_at_call 134
      refine hfmt.mono ?_
      rintro e w' ⟨rfl, k, v', dk, rfl, hF⟩
      have hcv : (convert 51 9 (.slice (some ⟨w.heap.size, 0, none⟩) (Lib.nDigits u) 24)).run Tryd.prog ((Go.Sort.putRow (fun (b : UInt8) => Value.int .u8 (b.toNat : Int)) (w.alloc (.cells zeros20 160)) w.heap.size 0 dk).drewN k) = .ok (.string ⟨(Lib.decDigits u).toArray⟩) ((Go.Sort.putRow (fun (b : UInt8) => Value.int .u8 (b.toNat : Int)) (w.alloc (.cells zeros20 160)) w.heap.size 0 dk).drewN k) := by
        have h := run_convert_bytes_back (P := Tryd.prog) ((Go.Sort.putRow (fun (b : UInt8) => Value.int .u8 (b.toNat : Int)) (w.alloc (.cells zeros20 160)) w.heap.size 0 dk).drewN k) 51 9 5 ⟨w.heap.size, 0, none⟩ 24 (Lib.decDigits u) Tryd.underlying51 Tryd.underlying5 Tryd.underlying9 (fun j hj => by
          rw [Lib.row_is_numeral hF j hj, Lib.add_plain, World.cell?_drewN]
          exact Go.Sort.cell?_putRow (fun (b : UInt8) => Value.int .u8 (b.toNat : Int)) _ w.heap.size 0 _ dk HH0.out (by rw [hF.size, Array.size_replicate]) j (by rw [hF.size]; rw [Lib.decDigits_length] at hj; exact hj))
        rw [Lib.decDigits_length] at h
        exact h
      go_wp2
      go_ret
      obtain ⟨os, eo⟩ := fin20 w (.cells zeros20 160) dk k
      refine ⟨rfl, ?_⟩
      rw [eo]
      exact Lib.below_grow _ _ (Nat.le_refl _) _ _)
  go_enter Tryd.func65, Tryd.ntmps65
  go_wp2_with fail
  refine HF.out.mono ?_
  rintro e w1 ⟨rfl, hb⟩
  have HB := hide hb
  clear hb
  go_wp2
  go_ret
  exact ⟨rfl, HB.out⟩
end Go.Proofs.YtdjgenlhcjgafaaDoor
set_option linter.unusedSimpArgs false
set_option linter.unusedVariables false
namespace Go.Proofs.YtdjgenlhcjgafaaDoor
open Go.RowKit
theorem own_below {w w' : World} {base e size n : Nat} {v : Value} {xs : List Value} (h : w.ownsRow base e size v n xs) (hb : Below w.heap.size w w') : w'.ownsRow base e size v n xs :=
  ⟨h.1, h.2.imp id (fun ⟨g, cap, cur, e1, e2, e3, rest⟩ => ⟨g, cap, cur, e1, e2, (hb.block g (Array.getElem?_eq_some_iff.1 e3).1).trans e3, rest⟩)⟩
end Go.Proofs.YtdjgenlhcjgafaaDoor
set_option linter.unusedSimpArgs false
set_option linter.unusedVariables false
namespace Go.Proofs.YtdjgenlhcjgafaaDoor
open Go.RowKit
attribute [local go_sem] Oper.semAt_some
theorem pieces_len (c : UInt8) : ∀ s : List UInt8, (pieces c s).length ≤ s.length + 1
  | [] => by simp [pieces]
  | x :: l => by
    have := pieces_len c l
    unfold pieces
    split
    · simp; omega
    · simp; omega
theorem KeepsFrom.below {lo : Nat} {A B : World} (hb : Below A.heap.size A B) : KeepsFrom lo A B :=
  ⟨hb.size, fun k o _ hk _ => (hb.block k (Array.getElem?_eq_some_iff.1 hk).1).trans hk⟩
theorem Blk.put {W : World} {g D : Nat} {t : TypeId} {cs : Array Value} (h : Blk W g t cs) (hne : g ≠ D) (o : Obj) : Blk (W.putObj D o) g t cs := (World.putObj_heap_other hne).trans h
end Go.Proofs.YtdjgenlhcjgafaaDoor
set_option linter.unusedSimpArgs false
set_option linter.unusedVariables false
namespace Go.Proofs.YtdjgenlhcjgafaaDoor
open Go.RowKit
theorem take_snoc_g {α : Type} {l : List α} {k : Nat} {x : α} (h : l[k]? = some x) : l.take (k + 1) = l.take k ++ [x] := by rw [List.take_add_one, h]; rfl
end Go.Proofs.YtdjgenlhcjgafaaDoor
set_option linter.unusedSimpArgs false
set_option linter.unusedVariables false
namespace Go.Proofs.YtdjgenlhcjgafaaDoor
open Go.RowKit
theorem builder_below {T e : TypeId} {B b : Nat} {bs : List Value} {w w' : World} (h : Lib.IsBuilder T e B b bs w) (hb : Below w.heap.size w w') : Lib.IsBuilder T e B b bs w' := by
  have aux : ∀ p, Lib.BuilderAt T e B b p bs w → Lib.BuilderAt T e B b p bs w' := by
    rintro p ⟨h1, v, h2, h3, h4⟩
    exact ⟨h1, v, (hb.block b (Array.getElem?_eq_some_iff.1 h2).1).trans h2, own_below h3 hb, h4⟩
  exact h.imp (aux _) (aux _)
end Go.Proofs.YtdjgenlhcjgafaaDoor
set_option linter.unusedSimpArgs false
set_option linter.unusedVariables false
namespace Go.Proofs.YtdjgenlhcjgafaaDoor
open Go.RowKit
attribute [local go_sem] Oper.semAt_some
theorem parts_pieces (p : UInt8) : ∀ l : List UInt8, parts p l = pieces p l
  | [] => rfl
  | c :: r => by
    rw [parts, pieces, parts_pieces p r]
    split
    · rfl
    · cases h : pieces p r with
      | nil => exact absurd h (pieces_ne p r)
      | cons a t => rfl
theorem jn_jw (l : List Nat) : jn l = jw (l.map Lib.decDigits) := by
  have h : ∀ k, k ≤ l.length → jn (l.take k) = jw ((l.take k).map Lib.decDigits) := by
    intro k
    induction k with
    | zero => intro _; rfl
    | succ k ih =>
      intro hk
      have hx : l[k]? = some l[k] := List.getElem?_eq_getElem (by omega)
      have ih' := ih (by omega)
      rw [take_snoc_g hx, jn_snoc, List.map_append, List.map_cons, List.map_nil, jw_snoc, ← ih']
      have e : (jn (l.take k) = []) ↔ ((l.take k).map Lib.decDigits = []) := by rw [jn_nil]; simp
      by_cases h0 : jn (l.take k) = []
      · rw [if_pos h0, if_pos (e.1 h0)]
      · rw [if_neg h0, if_neg (fun h1 => h0 (e.2 h1))]
  have := h l.length (Nat.le_refl _)
  rwa [List.take_length] at this
def txtP (l : List Nat) : List UInt8 := if l = [] then [45] else jn l
def oneN (p : List UInt8) : Option Nat := match Lib.parseUintB 32 p with
  | .ok u => some u
  | _ => none
def numsP : List (List UInt8) → Option (List Nat)
  | [] => some []
  | p :: r => match oneN p, numsP r with
    | some x, some l => some (x :: l)
    | _, _ => none
theorem numsP_snoc {l : List (List UInt8)} {p : List UInt8} {out : List Nat} {x : Nat} : numsP l = some out → oneN p = some x → numsP (l ++ [p]) = some (out ++ [x]) := by
  induction l generalizing out with
  | nil => intro h hx; cases h; simp [numsP, hx]
  | cons q r ih =>
    intro h hx
    rw [numsP] at h
    cases hq : oneN q with
    | none => rw [hq] at h; simp at h
    | some y =>
      cases hr : numsP r with
      | none => rw [hq, hr] at h; simp at h
      | some o2 =>
        rw [hq, hr] at h
        simp at h
        subst h
        rw [List.cons_append, numsP, hq, ih hr hx]
        rfl
theorem numsP_none {l : List (List UInt8)} {k : Nat} {p : List UInt8} : l[k]? = some p → oneN p = none → numsP l = none := by
  induction l generalizing k with
  | nil => intro h; simp at h
  | cons q r ih =>
    intro h hp
    rw [numsP]
    cases k with
    | zero => simp at h; subst h; rw [hp]
    | succ k =>
      rw [ih (by simpa using h) hp]
      cases oneN q <;> rfl
theorem numsP_len {l : List (List UInt8)} {out : List Nat} : numsP l = some out → out.length = l.length := by
  induction l generalizing out with
  | nil => intro h; cases h; rfl
  | cons q r ih =>
    intro h
    rw [numsP] at h
    cases hq : oneN q with
    | none => rw [hq] at h; simp at h
    | some y =>
      cases hr : numsP r with
      | none => rw [hq, hr] at h; simp at h
      | some o2 => rw [hq, hr] at h; simp at h; subst h; simp [ih hr]
theorem oneN_lt {p : List UInt8} {x : Nat} (h : oneN p = some x) : x < 4294967296 := by
  unfold oneN at h
  split at h
  · rename_i u hu
    cases h
    have := Lib.parseUintB_le hu
    omega
  · cases h
theorem numsP_lt {l : List (List UInt8)} {out : List Nat} : numsP l = some out → ∀ x ∈ out, x < 4294967296 := by
  induction l generalizing out with
  | nil => intro h; cases h; simp
  | cons q r ih =>
    intro h
    rw [numsP] at h
    cases hq : oneN q with
    | none => rw [hq] at h; simp at h
    | some y =>
      cases hr : numsP r with
      | none => rw [hq, hr] at h; simp at h
      | some o2 =>
        rw [hq, hr] at h; simp at h; subst h
        intro x hx
        rcases List.mem_cons.1 hx with rfl | hx
        · exact oneN_lt hq
        · exact ih hr x hx
theorem dec_space (n : Nat) : (32 : UInt8) ∉ Lib.decDigits n := by
  intro h
  exact absurd (dec_dig n _ h).1 (by decide)
theorem oneN_dec {n : Nat} (h : n < 4294967296) : oneN (Lib.decDigits n) = some n := by
  unfold oneN
  rw [parse_dec 32 n (by decide) (by omega)]
theorem numsP_dec : ∀ {l : List Nat}, (∀ x ∈ l, x < 4294967296) → numsP (l.map Lib.decDigits) = some l
  | [], _ => rfl
  | x :: r, h => by
    rw [List.map_cons, numsP, oneN_dec (h x (by simp)), numsP_dec (fun y hy => h y (by simp [hy]))]
def asnParseP (s : List UInt8) : Option (List Nat) := if s = [45] then some [] else match numsP (pieces 32 s) with
  | some l => if txtP l = s then some l else none
  | none => none
theorem jn_ne_dash (l : List Nat) : jn l ≠ [45] := by
  intro h
  rw [jn_jw] at h
  have hp := congrArg (pieces 32) h
  by_cases h0 : l.map Lib.decDigits = []
  · rw [h0] at h; cases h
  · rw [pieces_jw _ h0 (fun p hp => by obtain ⟨x, _, rfl⟩ := List.mem_map.1 hp; exact dec_space x)] at hp
    have hm : ([45] : List UInt8) ∈ l.map Lib.decDigits := by rw [hp]; decide
    obtain ⟨x, _, hx⟩ := List.mem_map.1 hm
    exact absurd (dec_dig x 45 (by rw [hx]; simp)).1 (by decide)
theorem parse_text {l : List Nat} (h : ∀ x ∈ l, x < 4294967296) : asnParseP (txtP l) = some l := by
  unfold asnParseP txtP
  by_cases h0 : l = []
  · subst h0; rfl
  · rw [if_neg h0, if_neg (jn_ne_dash l), jn_jw, pieces_jw _ (by simpa using h0) (fun p hp => by obtain ⟨x, _, rfl⟩ := List.mem_map.1 hp; exact dec_space x), numsP_dec h, ← jn_jw]
    simp [h0]
theorem parse_some {s : List UInt8} {l : List Nat} (h : asnParseP s = some l) : txtP l = s := by
  unfold asnParseP at h
  split at h
  · rename_i hs; cases h; rw [hs]; rfl
  · split at h
    · split at h
      · rename_i he; cases h; exact he
      · cases h
    · cases h
set_option maxRecDepth 100000 in
set_option maxHeartbeats 2000000 in
theorem asnText_any (A : Option Addr) (n c : Nat) (l : List Nat) (w : World) (h : U32s w A n c l) (hn2 : n ≤ 1000) (ht : Tab w) :
    Calls Tryd.prog 38 #[.slice A n c] w fun e w' => e = .returned (.string (str (txtP l))) ∧ Below w.heap.size w w' := by
  by_cases hn0 : n = 0
  · subst hn0
    obtain rfl : l = [] := List.eq_nil_of_length_eq_zero h.1
    clear h
    go_enter Tryd.func38, Tryd.ntmps38
    go_wp2
    go_ret
    exact ⟨rfl, Below.refl _ _⟩
  have hn : 0 < n := by omega
  have HTx : Hid (txtP l = jn l) := hide (by unfold txtP; rw [if_neg (fun e => hn0 (by rw [← h.1, e]; rfl))])
  have HA := hide (U32lo.start h)
  have hm := h.2.2.1
  have hnc := h.2.1
  unfold maxLen at hm
  have HSm := hide h.2.2.2.1
  have HT := hide ht
  have hne : ((n : Int) == 0) = false := by simp; omega
  have HB0 : Hid (Lib.IsBuilder 86 5 w.heap.size w.heap.size (Lib.byteCells (jn (l.take 0))) (w.alloc (.cells #[.pointer none, .slice none 0 0] 86))) := hide (Lib.fresh_isBuilder 86 5 w)
  rw [HTx.out]
  clear h hn0 ht
  go_enter Tryd.func38, Tryd.ntmps38
  go_wp2
  go_loopw [11] (fun i wr => ∃ k : Nat, k ≤ n ∧ i = .int .i64 k ∧ Lib.IsBuilder 86 5 w.heap.size w.heap.size (Lib.byteCells (jn (l.take k))) wr ∧ Below w.heap.size w wr) (fun i _ => n - (intOf i).toNat)
  case atStart => exact ⟨0, by omega, rfl, HB0.out, (Below.refl _ _).alloc (Nat.le_refl _) _⟩
  case round =>
    obtain ⟨k, hk, rfl, hb, hbel⟩ := hrel
    have HB := hide hb
    have HBel := hide hbel
    have HA2 := hide (HA.out.keep hbel)
    have HT2 := hide (HT.out.below hbel)
    have hsz := hbel.size
    clear hb hbel
    by_cases hlt : k < n
    · obtain ⟨g, o, x, rfl, hg, hx, hx2, hc⟩ := HA2.out.1.at_ hlt
      have HSn := hide (show jn (l.take (k + 1)) = (if jn (l.take k) = [] then [] else jn (l.take k) ++ [32]) ++ Lib.decDigits x by rw [take_snoc_eq hx, jn_snoc])
      have hjl : (jn (l.take k)).length ≤ 11000 := by
        have h1 := jn_len (l.take k) (fun y hy => HSm.out y (List.mem_of_mem_take hy))
        have h2 : (l.take k).length ≤ k := List.length_take_le _ _
        omega
      have hdl := dec_len x 9 (by omega)
      have hwr : IntKind.u64.wrap (x : Int) = (x : Int) := by rw [IntKind.wrap_u64]; omega
      have HTk : Hid (l.take k = [] ↔ k = 0) := hide (by
        constructor
        · intro h; have := congrArg List.length h; rw [List.length_take, HA2.out.1.1] at this; simp at this; omega
        · rintro rfl; rfl)
      clear hx
      by_cases hk0 : k = 0
      · subst hk0
        have hc' : wr.cell? ⟨g, o, none⟩ = some (.int .u32 (x : Int)) := by simpa using hc
        have HF := hide (fmtU_any x (by omega) wr HT2.out)
        clear hc
        go_wp2_with fail
        refine HF.out.mono ?_
        rintro e w1 ⟨rfl, hb1⟩
        have HB1 := hide (builder_below HB.out hb1)
        have hs1 := Nat.le_trans hsz hb1.size
        have HBel1 := hide (HBel.out.trans (hb1.mono hsz))
        clear hb1
        go_wp2_with fail
        refine (builder_ws _ _ _ (str (Lib.decDigits x)) _ HB1.out (by rw [Lib.byteCells_length, str_size]; omega) hs1).mono ?_
        rintro e w2 ⟨rfl, hb2, hbel2⟩
        have HB2 : Hid (Lib.IsBuilder 86 5 w.heap.size w.heap.size (Lib.byteCells (jn (l.take 1))) w2) := hide (by
          rw [bytes_app] at hb2
          rw [HSn.out]
          have e : jn (l.take 0) = [] := rfl
          rw [e] at hb2 ⊢
          exact .inr hb2)
        have HBel2 := hide (HBel1.out.trans hbel2)
        clear hb2 hbel2
        go_wp2
        go_roundw
        case rel => exact ⟨1, by omega, by go_num, HB2.out, HBel2.out⟩
        case measure => simp [intOf]; omega
      · have hkp : 0 < k := by omega
        go_wp2_with fail
        refine (builder_ws _ _ _ (str [32]) _ HB.out (by rw [Lib.byteCells_length, str_size]; simp; omega) hsz).mono ?_
        rintro e w2 ⟨rfl, hb2, hbel2⟩
        have HB2 := hide hb2
        have HBel2 := hide (HBel.out.trans hbel2)
        have hs2 := HBel2.out.size
        have HF := hide (fmtU_any x (by omega) w2 (HT.out.below HBel2.out))
        clear hb2 hbel2
        go_wp2_with fail
        refine HF.out.mono ?_
        rintro e w1 ⟨rfl, hb1⟩
        have HB1 := hide (builder_below (.inr HB2.out) hb1)
        have hs1 := Nat.le_trans hs2 hb1.size
        have HBel1 := hide (HBel2.out.trans (hb1.mono hs2))
        clear hb1
        go_wp2_with fail
        refine (builder_ws _ _ _ (str (Lib.decDigits x)) _ HB1.out (by rw [bytes_app, Lib.byteCells_length, str_size]; simp; omega) hs1).mono ?_
        rintro e w3 ⟨rfl, hb3, hbel3⟩
        have HB3 : Hid (Lib.IsBuilder 86 5 w.heap.size w.heap.size (Lib.byteCells (jn (l.take (k + 1)))) w3) := hide (by
          rw [bytes_app, bytes_app] at hb3
          rw [HSn.out, if_neg (fun h => hk0 (HTk.out.1 ((jn_nil _).1 h)))]
          exact .inr hb3)
        have HBel3 := hide (HBel1.out.trans hbel3)
        clear hb3 hbel3
        go_wp2
        go_roundw
        case rel => exact ⟨k + 1, by omega, by go_num, HB3.out, HBel3.out⟩
        case measure => simp [intOf]; omega
    · obtain rfl : k = n := by omega
      have HB2 : Hid (Lib.IsBuilder 86 5 w.heap.size w.heap.size (Lib.byteCells (jn l)) wr) := hide (by
        have := HB.out
        rwa [List.take_of_length_le (by rw [HA2.out.1.1]; exact Nat.le_refl _)] at this)
      have hnz : jn l ≠ [] := fun h => by
        have := (jn_nil l).1 h
        have h2 := HA2.out.1.1
        rw [this] at h2; simp at h2; omega
      have HNZ := hide hnz
      clear hnz
      go_wp2_with fail
      refine (builder_str _ _ _ _ HB2.out HNZ.out).mono ?_
      rintro e w2 ⟨rfl, hbel2⟩
      have HBel2 := hide (HBel.out.trans hbel2)
      clear hbel2
      go_wp2
      go_ret
      exact ⟨rfl, HBel2.out⟩
theorem asnTextT_any (A : Option Addr) (n c : Nat) (l : List Nat) (w : World) (h : U32s w A n c l) (hn2 : n ≤ 1000) (ht : Tab w) :
    Calls Tryd.prog 18 #[.slice A n c] w fun e w' => e = .returned (.string (str (txtP l))) ∧ Below w.heap.size w w' := by
  have HX := hide (asnText_any A n c l w h hn2 ht)
  clear h ht
  go_enter Tryd.func18, Tryd.ntmps18
  go_wp2_with fail
  refine HX.out.mono ?_
  rintro e w1 ⟨rfl, hb⟩
  have HB := hide hb
  clear hb
  go_wp2
  go_ret
  exact ⟨rfl, HB.out⟩
end Go.Proofs.YtdjgenlhcjgafaaDoor
set_option linter.unusedSimpArgs false
set_option linter.unusedVariables false
namespace Go.Proofs.YtdjgenlhcjgafaaDoor
open Go.RowKit
set_option maxHeartbeats 1000000 in
theorem asnText1_small (A : Option Addr) (n c : Nat) (l : List Nat) (w : World) (h : U32s w A n c l) (hn : 0 < n) (hn2 : n ≤ 1000) (hsm : ∀ x ∈ l, x < 100) :
    Calls Tryd.prog 18 #[.slice A n c] w fun e w' => e = .returned (.string (str (jn l))) ∧ Below w.heap.size w w' := by
  have HX := hide (asnText_small A n c l w h hn hn2 hsm)
  clear h hsm
  go_enter Tryd.func18, Tryd.ntmps18
  go_wp2_with fail
  refine HX.out.mono ?_
  rintro e w1 ⟨rfl, hb⟩
  have HB := hide hb
  clear hb
  go_wp2
  go_ret
  exact ⟨rfl, HB.out⟩
theorem live_set : setOf [5, 1, 5] = [1, 5] := by decide
theorem live_text : str (jn [1, 5]) = ⟨#[49, 32, 53]⟩ := by decide +kernel
set_option maxHeartbeats 2000000 in
theorem asnLives_any (w : World) : Calls Tryd.prog 22 #[] w (GoodP true w) := by
  have hU : U32s (w.alloc (.cells #[.int .u32 5, .int .u32 1, .int .u32 5] 34)) (some ⟨w.heap.size, 0, none⟩) 3 3 [5, 1, 5] :=
    ⟨rfl, by omega, by simp [maxLen], by decide, fun _ => ⟨w.heap.size, 0, rfl, by simp, fun k x hk => by
      have hb := (Blk.new w 34 #[.int .u32 5, .int .u32 1, .int .u32 5]).cell k
      rw [Nat.zero_add, hb]
      rcases k with _ | _ | _ | k
      · cases hk; rfl
      · cases hk; rfl
      · cases hk; rfl
      · simp at hk⟩⟩
  have HS := hide (asnSet_small w.heap.size 0 3 3 [5, 1, 5] _ hU (by omega) (by omega))
  have HB0 := hide ((Below.refl w.heap.size w).alloc (Nat.le_refl _) (.cells #[.int .u32 5, .int .u32 1, .int .u32 5] 34))
  rw [live_set] at HS
  clear hU
  go_enter Tryd.func22, Tryd.ntmps22
  go_wp2_with fail
  refine HS.out.mono ?_
  rintro e w1 ⟨v, rfl, ho, hb1⟩
  obtain ⟨A, c, rfl⟩ := own_slice ho
  have hu := U32s.of_own ho (by decide)
  have HU := hide hu
  have HB1 := hide (HB0.out.trans (hb1.mono HB0.out.size))
  obtain ⟨g, o, x, rfl, hg, hx, hx2, hc⟩ := hu.at_ (k := 0) (by decide)
  cases hx
  have hc' : w1.cell? ⟨g, o, none⟩ = some (.int .u32 1) := by simpa using hc
  have HH := hide (aHas_any _ _ _ [1, 5] 5 w1 HU.out (by unfold Rise; decide) (by decide))
  rw [show decide (5 ∈ [1, 5]) = true from rfl] at HH
  have HT := hide (asnText1_small _ _ _ [1, 5] w1 HU.out (by decide) (by decide) (by decide))
  rw [live_text] at HT
  clear ho hb1 hu hc
  go_wp2_with fail
  refine HH.out.mono ?_
  rintro e w2 ⟨rfl, rfl⟩
  go_wp2_with fail
  refine HT.out.mono ?_
  rintro e w3 ⟨rfl, hb3⟩
  have HB3 := hide (HB1.out.trans (hb3.mono HB1.out.size))
  clear hb3
  go_wp2
  go_ret
  exact ⟨rfl, HB3.out⟩
theorem Own32.u32s' {w w' : World} {v : Value} {l : List Nat} (h : Own32 w w' v l) (hb : ∀ x ∈ l, x < 4294967296) : ∃ A c, v = .slice A l.length c ∧ U32s w' A l.length c l := by
  obtain ⟨A, n, c, rfl, hu⟩ := h.u32s hb
  have := hu.1
  subst this
  exact ⟨A, c, rfl, hu⟩
theorem refSame_is (A : Option Addr) (n c : Nat) (l : List Nat) (B : Option Addr) (m d : Nat) (r : List Nat) (q : Bool) (w : World) (hq : decide (l = r) = q) (h : U32s w A n c l) (h' : U32s w B m d r) :
    Calls Tryd.prog 21 #[.slice A n c, .slice B m d] w fun e w' => e = .returned (.bool q) ∧ Below w.heap.size w w' := by
  have := refSame_any A n c l B m d r w h h'
  rwa [hq] at this
theorem refSame_self (A : Option Addr) (n c : Nat) (l : List Nat) (B : Option Addr) (m d : Nat) (w : World) (h : U32s w A n c l) (h' : U32s w B m d l) :
    Calls Tryd.prog 21 #[.slice A n c, .slice B m d] w fun e w' => e = .returned (.bool true) ∧ Below w.heap.size w w' := refSame_is A n c l B m d l true w (by simp) h h'
end Go.Proofs.YtdjgenlhcjgafaaDoor
set_option linter.unusedSimpArgs false
set_option linter.unusedVariables false
namespace Go.Proofs.YtdjgenlhcjgafaaDoor
open Go.RowKit
attribute [local go_sem] Oper.semAt_some
/-- strconv.ParseUint at 32 bits: the number and nil, or a number and an error. -/
theorem pu32_any (s : ByteArray) (hs : s.size ≤ 1000) (w : World) (he : Env w) : Calls Tryd.prog 40 #[.string s, .int .i64 10, .int .i64 32] w fun e w' => Below w.heap.size w w' ∧
    ((∃ u, u < 4294967296 ∧ Lib.parseUintB 32 s.data.toList = .ok u ∧ e = .returned (.tuple #[.int .u64 (u : Int), .nilIface])) ∨
     (∃ (u : Nat) (te : TypeId) (pe : Value), u < 4294967296 ∧ (∀ x, Lib.parseUintB 32 s.data.toList ≠ .ok x) ∧ e = .returned (.tuple #[.int .u64 (u : Int), .iface te pe]))) := by
  rcases h : Lib.parseUintB 32 s.data.toList with u | _ | _
  · 
    have hu := Lib.parseUintB_le h
    refine (Tryd.strconv_ParseUint_10_at32_ok s (by omega) u h w).mono ?_
    rintro e w' ⟨rfl, hw⟩
    refine ⟨?_, Or.inl ⟨u, by omega, rfl, rfl⟩⟩
    rcases hw with rfl | rfl
    · exact Below.refl _ _
    · exact Go.Joins.below_bytesWorld _ _ _ _ (Nat.le_refl _)
  · 
    obtain ⟨ev, hv, hev⟩ := he.syn
    refine (Tryd.strconv_ParseUint_10_at32_syntax s (by omega) h ev w hv hev).mono ?_
    rintro e w' ⟨N, rfl, _, _, hb⟩
    exact ⟨hb, Or.inr ⟨0, _, _, by omega, by simp, rfl⟩⟩
  · 
    obtain ⟨ev, hv, hev⟩ := he.rng
    refine (Tryd.strconv_ParseUint_10_at32_range s (by omega) h ev w hv hev).mono ?_
    rintro e w' ⟨N, rfl, _, _, hb⟩
    exact ⟨hb, Or.inr ⟨4294967295, _, _, by omega, by simp, rfl⟩⟩
def SplP (c : UInt8) (l : List UInt8) (w : World) (e : Ending) (w' : World) : Prop :=
  e = .returned (.slice (some ⟨w.heap.size, 0, none⟩) (pieces c l).length (pieces c l).length) ∧ Below w.heap.size w w' ∧ w.heap.size < w'.heap.size ∧ ∀ j x, (pieces c l)[j]? = some x → w'.cell? ⟨w.heap.size, j, none⟩ = some (.string (str x))
theorem split_any (c : UInt8) (l : List UInt8) (hl : l.length ≤ 100000) (w : World) (he : Env w) : Calls Tryd.prog 39 #[.string (str l), .string ⟨#[c]⟩] w (SplP c l w) := by
  obtain ⟨m, hm⟩ := he.most
  have h := Tryd.strings_Split (str l) ⟨#[c]⟩ m w (by rw [str_size]; omega) hm (by show 1 ≤ (⟨#[c]⟩ : ByteArray).size; simp [ByteArray.size])
  rw [splitB_parts, countB_parts, parts_pieces] at h
  refine h.mono ?_
  rintro e w' ⟨rfl, rfl⟩
  refine ⟨rfl, (Below.refl _ _).alloc (Nat.le_refl _) _, by simp, fun j x hj => ?_⟩
  have hb := (Blk.new w 9 (((pieces c l).map str).map Value.string).toArray).cell j
  rw [hb]
  simp [hj]
def AsnPP (l : List UInt8) (w : World) (e : Ending) (w' : World) : Prop := Below w.heap.size w w' ∧
  ((∃ out A c, asnParseP l = some out ∧ e = .returned (.tuple #[.slice A out.length c, .int .i64 0]) ∧ U32s w' A out.length c out) ∨ (asnParseP l = none ∧ e = .returned (.tuple #[.slice none 0 0, .int .i64 2])))
structure AtSt (H : Nat) (w0 w : World) (v : Value) (out : List Nat) : Prop where
  own : w.ownsRow H 34 1 v out.length (u32c out)
  bel : Below H w0 w
set_option maxRecDepth 100000 in
set_option maxHeartbeats 4000000 in
theorem asnParse_any (l : List UInt8) (hl : l.length ≤ 900) (w : World) (he : Env w) : Calls Tryd.prog 19 #[.string (str l)] w (AsnPP l w) := by
  obtain ⟨i0, hi, hz0, hz1, hz2⟩ := info_parts info32
  by_cases hd : l = [45]
  · have hd1 : ((str l).toList == [45]) = true := by unfold str; rw [ByteArray.toList_mk, hd]; rfl
    have hP : Hid (asnParseP l = some []) := hide (by unfold asnParseP; rw [if_pos hd])
    clear hd he
    go_enter Tryd.func19, Tryd.ntmps19
    go_wp2
    go_ret2
    exact ⟨Below.refl _ _, .inl ⟨[], none, 0, hP.out, rfl, rfl, Nat.le_refl _, by simp [maxLen], by simp, fun h => absurd h (by simp)⟩⟩
  have hd1 : ((str l).toList == [45]) = false := by unfold str; rw [ByteArray.toList_mk]; simpa using hd
  have HS := hide (split_any 32 l (by omega) w he)
  have HE := hide he
  have HPr : Hid (asnParseP l = match numsP (pieces 32 l) with | some o => if txtP o = l then some o else none | none => none) := hide (by unfold asnParseP; rw [if_neg hd])
  have HPl := hide (piece_len 32 l)
  have hpl := pieces_len 32 l
  obtain ⟨ps, hps⟩ : ∃ ps, pieces 32 l = ps := ⟨_, rfl⟩
  rw [hps] at HPr HPl hpl
  obtain ⟨n, hn⟩ : ∃ n, ps.length = n := ⟨_, rfl⟩
  have hn2 : n ≤ 901 := by omega
  have HN := hide hn
  have HPS := hide hps
  clear hd he hps hn hpl
  go_enter Tryd.func19, Tryd.ntmps19
  go_wp2_with fail
  refine HS.out.mono ?_
  rintro e w1 ⟨rfl, hb1, hlt1, hc1⟩
  rw [HPS.out] at hc1 ⊢
  rw [HN.out]
  have HC1 := hide hc1
  have HB1 := hide hb1
  clear hc1 hb1
  obtain ⟨H, hH⟩ : ∃ H, H = w.heap.size := ⟨_, rfl⟩
  have HS0 : Hid (AtSt w1.heap.size w1 w1 (.slice none 0 0) []) := hide ⟨World.ownsRow_nil _ _ _ _, Below.refl _ _⟩
  have hs1 := HB1.out.size
  go_wp2
  go_loopw [4, 14] (fun v i wr => ∃ (k : Nat) (out : List Nat), k ≤ n ∧ i = .int .i64 (k : Nat) ∧ numsP (ps.take k) = some out ∧ AtSt w1.heap.size w1 wr v out) (fun _ i _ => n - (intOf i).toNat)
  case atStart => exact ⟨0, [], Nat.zero_le _, rfl, rfl, HS0.out⟩
  case round =>
    obtain ⟨k, out, hk, rfl, hnum, hst⟩ := hrel
    have HNum := hide hnum
    have HO := hide hst.own
    have HBel := hide hst.bel
    have hsz := hst.bel.size
    have hol : out.length ≤ 901 := by rw [numsP_len hnum, List.length_take]; omega
    obtain ⟨A', c', rfl⟩ := own_slice hst.own
    obtain ⟨L, hL⟩ : ∃ L, out.length = L := ⟨_, rfl⟩
    rw [hL] at HO hol ⊢
    have HL := hide hL
    have hBw : Below w.heap.size w wr := HB1.out.trans (hst.bel.mono hs1)
    have HE2 := hide (HE.out.below hBw)
    have HBw := hide hBw
    clear hnum hst hL hBw
    by_cases hlt : k < n
    · obtain ⟨p, hp⟩ : ∃ p, ps[k]? = some p := ⟨_, List.getElem?_eq_getElem (by rw [HN.out]; exact hlt)⟩
      have hcp := (HBel.out.cell (p := ⟨w.heap.size, k, none⟩) hlt1).trans (HC1.out k p hp)
      have hpl : p.length ≤ 1000 := Nat.le_trans (HPl.out p (List.mem_of_getElem? hp)) (by omega)
      have HPp := hide hp
      have HU := hide (pu32_any (str p) (by rw [str_size]; exact hpl) wr HE2.out)
      clear hp
      go_wp2_with fail
      refine HU.out.mono ?_
      rintro e w2 ⟨hb2, ⟨u, hu, hpu, rfl⟩ | ⟨u, te, pe, hu, hpu, rfl⟩⟩
      · have HX : Hid (oneN p = some u) := hide (by unfold oneN; rw [str_data] at hpu; rw [hpu])
        have hwr : IntKind.u32.wrap (u : Int) = (u : Int) := by rw [IntKind.wrap_u32]; omega
        have HB2 := hide (HBel.out.trans (hb2.mono hsz))
        have HO2 := hide (own_below HO.out hb2)
        have hs2 := Nat.le_trans hsz hb2.size
        clear hpu hb2
        go_wp2_with (at_builtin; refine wpList_append_any _ rfl (.tmp 25) (.tmp 28) 22 rfl w1.heap.size 34 i0 _ 1 4 Tryd.underlying22 hi hz0 hz1 hz2 rfl (by decide) (.slice A' L c') L (u32c out) rfl (HO2.out.alloc _) (w2.heap.size + 1) (some ⟨w2.heap.size, 0, none⟩) 1 1 [.int .u32 (u : Int)] rfl ((reads_oneS (by simp)).more (by simp)) (by simp [Value.oneCell']) (by unfold maxLen; omega) (by omega) (by simp; omega) ?_; intro v' w3 hown' hgrow hat; have HO3 := hide hown'; have HG3 := hide hgrow; clear hown' hgrow hat)
        have HS3 : Hid (AtSt w1.heap.size w1 w3 v' (out ++ [u])) := hide ⟨by
          have := HO3.out
          rw [← HL.out] at this
          simpa [u32c] using this, Below.grown (HB2.out.alloc (by omega) _) HG3.out (by simp; omega) (fun k hk => (HO2.out.lt k hk).1)⟩
        have HN3 : Hid (numsP (ps.take (k + 1)) = some (out ++ [u])) := hide (by rw [take_snoc_g HPp.out]; exact numsP_snoc HNum.out HX.out)
        go_roundw
        case rel => exact ⟨k + 1, _, by omega, by go_num, HN3.out, HS3.out⟩
        case measure => simp [intOf]; omega
      · have HX : Hid (oneN p = none) := hide (by
          unfold oneN
          rw [str_data] at hpu
          split
          · rename_i u' hu'; exact absurd hu' (hpu u')
          · rfl)
        have hF : Hid (asnParseP l = none) := hide (by rw [HPr.out, numsP_none HPp.out HX.out])
        have HB2 := hide (HBw.out.trans (hb2.mono (Nat.le_trans hs1 hsz)))
        clear hpu hb2
        go_wp2
        go_ret2
        exact ⟨HB2.out, .inr ⟨hF.out, rfl⟩⟩
    · obtain rfl : k = n := by omega
      have HAll : Hid (numsP ps = some out) := hide (by have := HNum.out; rwa [List.take_of_length_le (by rw [HN.out]; exact Nat.le_refl _)] at this)
      have hu := U32s.of_own HO.out (numsP_lt HAll.out)
      have HU := hide hu
      have HT := hide (asnText_any A' L c' out wr hu (by omega) HE2.out.tab)
      obtain ⟨b, hb⟩ : ∃ b, decide (txtP out = l) = b := ⟨_, rfl⟩
      have hbb : ((str (txtP out)).toList != (str l).toList) = !b := by rw [bne, str_beq, ← hb]; by_cases h : txtP out = l <;> simp [h]
      have hbe : ((str (txtP out)).toList == (str l).toList) = b := by rw [str_beq, ← hb]; by_cases h : txtP out = l <;> simp [h]
      have HBb := hide hb
      clear hu hb
      go_wp2_with fail
      refine HT.out.mono ?_
      rintro e w2 ⟨rfl, hb2⟩
      have HB2 := hide (HBw.out.trans (hb2.mono (Nat.le_trans hs1 hsz)))
      have HU2 := hide (HU.out.below hb2)
      clear hb2
      cases b
      · have hbb' : ((str (txtP out)).toList != (str l).toList) = true := hbb
        clear hbb
        have hF : Hid (asnParseP l = none) := hide (by rw [HPr.out, HAll.out]; show (if txtP out = l then _ else none) = none; rw [if_neg (of_decide_eq_false HBb.out)])
        go_wp2
        go_ret2
        exact ⟨HB2.out, .inr ⟨hF.out, rfl⟩⟩
      · have hbb' : ((str (txtP out)).toList != (str l).toList) = false := hbb
        clear hbb
        have hF : Hid (asnParseP l = some out) := hide (by rw [HPr.out, HAll.out]; show (if txtP out = l then some out else none) = some out; rw [if_pos (of_decide_eq_true HBb.out)])
        go_wp2
        go_ret2
        exact ⟨HB2.out, .inl ⟨out, A', c', hF.out, by rw [HL.out]; rfl, by rw [HL.out]; exact HU2.out⟩⟩
set_option maxHeartbeats 2000000 in
theorem asnRefText_any (A : Option Addr) (n c : Nat) (l : List Nat) (w : World) (h : U32s w A n c l) (hn : n ≤ 1000) :
    Calls Tryd.prog 20 #[.slice A n c] w fun e w' => e = .returned (.string (str (txtP l))) ∧ w = w' := by
  have hm := h.2.2.1
  have hnc := h.2.1
  unfold maxLen at hm
  have HA := hide h
  clear h
  go_enter Tryd.func20, Tryd.ntmps20
  go_wp2
  go_loop [3, 4] (fun s i => ∃ k : Nat, k ≤ n ∧ i = .int .i64 (k : Nat) ∧ s = .string (str (jn (l.take k)))) (fun _ i => n - (intOf i).toNat)
  case atStart => exact ⟨0, Nat.zero_le _, rfl, rfl⟩
  case round =>
    obtain ⟨k, hk, rfl, rfl⟩ := hrel
    by_cases hlt : k < n
    · obtain ⟨g, o, x, rfl, hg, hx, hx2, hc⟩ := HA.out.at_ hlt
      have HSn := hide (show jn (l.take (k + 1)) = (if jn (l.take k) = [] then [] else jn (l.take k) ++ [32]) ++ Lib.decDigits x by rw [take_snoc_eq hx, jn_snoc])
      have hwr : IntKind.u64.wrap (x : Int) = (x : Int) := by rw [IntKind.wrap_u64]; omega
      have HNm := hide (numBig_any x (by omega) w)
      have hsA : (str (jn (l.take k))).size ≤ 11000 := by
        have h1 := jn_len (l.take k) (fun y hy => HA.out.2.2.2.1 y (List.mem_of_mem_take hy))
        have h2 : (l.take k).length ≤ k := List.length_take_le _ _
        rw [str_size]; omega
      have hsB : (str (Lib.decDigits x)).size ≤ 10 := by rw [str_size]; exact dec_len x 9 (by omega)
      have HTk : Hid (l.take k = [] ↔ k = 0) := hide (by
        constructor
        · intro h; have := congrArg List.length h; rw [List.length_take, HA.out.1] at this; simp at this; omega
        · rintro rfl; rfl)
      clear hx
      by_cases hk0 : k = 0
      · subst hk0
        have hc' : w.cell? ⟨g, o, none⟩ = some (.int .u32 (x : Int)) := by simpa using hc
        clear hc
        have HF : Hid ((⟨#[]⟩ : ByteArray) ++ str (Lib.decDigits x) = str (jn (l.take 1))) := hide (by rw [HSn.out]; exact cat_str [] _)
        have e0 : str (jn (l.take 0)) = ⟨#[]⟩ := rfl
        rw [e0]
        clear e0
        go_wp2_with fail
        refine HNm.out.mono ?_
        rintro e w1 ⟨rfl, rfl⟩
        go_wp2
        go_round
        case rel => exact ⟨1, by omega, by go_num, by rw [← HF.out]⟩
        case measure => simp [intOf]; omega
      · have hkp : 0 < k := by omega
        have HF : Hid (str (jn (l.take k)) ++ ⟨#[32]⟩ ++ str (Lib.decDigits x) = str (jn (l.take (k + 1)))) := hide (by
          rw [HSn.out, if_neg (fun h => hk0 (HTk.out.1 ((jn_nil _).1 h)))]
          show str _ ++ str [32] ++ str _ = _
          rw [cat_str, cat_str])
        go_wp2_with fail
        refine HNm.out.mono ?_
        rintro e w1 ⟨rfl, rfl⟩
        go_wp2
        go_round
        case rel => exact ⟨k + 1, by omega, by go_num, by rw [← HF.out]⟩
        case measure => simp [intOf]; omega
    · obtain rfl : k = n := by omega
      have HAll : Hid (l.take k = l) := hide (List.take_of_length_le (by rw [HA.out.1]; exact Nat.le_refl _))
      rw [HAll.out]
      by_cases h0 : l = []
      · have ht2 : (str (jn l)).toList = [] := by rw [h0]; unfold str; rw [ByteArray.toList_mk]; rfl
        have ht : ((str (jn l)).toList == []) = true := by rw [ht2]; rfl
        have HT : Hid (txtP l = [45]) := hide (by unfold txtP; rw [if_pos h0])
        clear h0
        go_wp2
        go_ret
        exact ⟨ret_str (by rw [HT.out]; rfl), rfl⟩
      · have hj : jn l ≠ [] := fun e => h0 ((jn_nil l).1 e)
        have ht : ((str (jn l)).toList == []) = false := by unfold str; rw [ByteArray.toList_mk]; simpa using hj
        have ht2 := str_ne hj
        have HT : Hid (txtP l = jn l) := hide (by unfold txtP; rw [if_neg h0])
        clear h0 hj
        go_wp2
        go_ret
        exact ⟨ret_str (by rw [HT.out]), rfl⟩
end Go.Proofs.YtdjgenlhcjgafaaDoor
set_option linter.unusedSimpArgs false
set_option linter.unusedVariables false
namespace Go.Proofs.YtdjgenlhcjgafaaDoor
open Go.RowKit
attribute [local go_sem] Oper.semAt_some
theorem txtP_len {l : List Nat} (h : ∀ x ∈ l, x < 4294967296) : (txtP l).length ≤ 11 * l.length + 1 := by
  unfold txtP
  split
  · simp
  · have := jn_len l h; omega
theorem asnParseP_len {s : List UInt8} {l : List Nat} (h : asnParseP s = some l) : l.length ≤ s.length + 1 := by
  unfold asnParseP at h
  split at h
  · cases h; simp
  · split at h
    · rename_i o ho
      split at h
      · cases h
        rw [numsP_len ho]; exact pieces_len 32 s
      · cases h
    · cases h
theorem few20 (A : Option Addr) (n c : Nat) (l : List Nat) (w : World) (h : U32s w A n c l) :
    Calls Tryd.prog 9 #[.slice A n c, .int .i64 20] w fun e w' => ∃ A' n' c', e = .returned (.slice A' n' c') ∧ U32s w' A' n' c' (l.take 20) ∧ n' ≤ 20 ∧ Below w.heap.size w w' := by
  refine (few_any A n c l 20 (by decide) w h).mono ?_
  rintro e w' ⟨v, rfl, ho⟩
  obtain ⟨A', n', c', rfl, hu⟩ := ho.u32s (fun x hx => h.2.2.2.1 x (List.mem_of_mem_take hx))
  exact ⟨A', n', c', rfl, hu, by rw [← hu.1]; exact List.length_take_le _ _, ho.2⟩
structure AtL (w0 w : World) (A : Option Addr) (n c : Nat) (L : List Nat) : Prop where
  one : U32s w A n c L
  env : Env w
  bel : Below w0.heap.size w0 w
theorem AtL.below {w0 w w' : World} {A : Option Addr} {n c : Nat} {L : List Nat} (h : AtL w0 w A n c L) (hb : Below w.heap.size w w') : AtL w0 w' A n c L := ⟨h.one.below hb, h.env.below hb, below2 h.bel hb⟩
set_option maxRecDepth 100000 in
set_option maxHeartbeats 8000000 in
theorem asnTexts_any (A : Option Addr) (n c : Nat) (l : List Nat) (s : ByteArray) (t : List UInt8) (hs : s.size ≤ 100 ∧ s = str t ∨ 100 < s.size ∧ s.extract 0 100 = str t) (ht : t.length ≤ 100) (hsm : s.size ≤ maxLen) (w : World) (h : U32s w A n c l) (he : Env w) :
    Calls Tryd.prog 5 #[.slice A n c, .string s] w fun e w' => e = .returned (.bool true) ∧ Below w.heap.size w w' := by
  unfold maxLen at hsm
  obtain ⟨L, hL⟩ : ∃ L, l.take 20 = L := ⟨_, rfl⟩
  have HLl : Hid (L.length ≤ 20) := hide (by rw [← hL]; exact List.length_take_le _ _)
  have HBL : Hid (∀ y ∈ L, y < 4294967296) := hide (fun y hy => by rw [← hL] at hy; exact h.2.2.2.1 y (List.mem_of_mem_take hy))
  have HL20 : Hid (L.take 20 = L) := hide (List.take_of_length_le HLl.out)
  have HF := hide (few20 A n c l w h)
  rw [hL] at HF
  have HPt := hide (parse_text HBL.out)
  have HE := hide he
  have HTL : Hid ((txtP L).length ≤ 900) := hide (by have := txtP_len HBL.out; have := HLl.out; omega)
  have hn1 : ((str (txtP L)).toList != (str (txtP L)).toList) = false := by rw [bne, str_beq]; simp
  have hn2 : ((str (txtP L)).toList == (str (txtP L)).toList) = true := by rw [str_beq]; simp
  clear h hL he
  obtain ⟨T, hT⟩ : ∃ T, txtP L = T := ⟨_, rfl⟩
  rw [hT] at HPt HTL hn1 hn2
  have HTe := hide hT
  clear hT
  have hcase : ((decide ((100 : Int) < (s.size : Int)) = false) ∧ s = str t) ∨ ((decide ((100 : Int) < (s.size : Int)) = true) ∧ s.extract 0 100 = str t ∧ (100 : Int) ≤ (s.size : Int)) := by
    rcases hs with ⟨h1, h2⟩ | ⟨h1, h2⟩
    · exact .inl ⟨by simp; omega, h2⟩
    · exact .inr ⟨by simp; omega, h2, by omega⟩
  clear hs
  rcases hcase with ⟨hd, rfl⟩ | ⟨hd, hext, h100⟩
  all_goals
    go_enter Tryd.func5, Tryd.ntmps5
    go_wp2_with fail
    refine HF.out.mono ?_
    rintro e w1 ⟨A1, m1, c1, rfl, hu1, hm1, hb1⟩
    have HS1 : Hid (AtL w w1 A1 m1 c1 L) := hide ⟨hu1, HE.out.below hb1, hb1⟩
    have HF1 := hide (few20 _ _ _ _ w1 hu1)
    rw [HL20.out] at HF1
    clear hu1 hb1
    go_wp2_with fail
    refine HF1.out.mono ?_
    rintro e w2 ⟨A2, m2, c2, rfl, hu2, hm2, hb2⟩
    have HS2 := hide (HS1.out.below hb2)
    have HT2 := hide (asnTextT_any A2 m2 c2 L w2 hu2 (by omega) HS2.out.env.tab)
    rw [HTe.out] at HT2
    clear hu2 hb2
    go_wp2_with fail
    refine HT2.out.mono ?_
    rintro e w3 ⟨rfl, hb3⟩
    have HS3 := hide (HS2.out.below hb3)
    have HP3 := hide (asnParse_any T HTL.out w3 HS3.out.env)
    clear hb3
    go_wp2_with fail
    refine HP3.out.mono ?_
    rintro e w4 ⟨hb4, ⟨out, A4, c4, ho, rfl, hu4⟩ | ⟨ho, _⟩⟩
    case inr => rw [HPt.out] at ho; cases ho
    rw [HPt.out] at ho
    obtain rfl : L = out := Option.some.inj ho
    have HS4 := hide (HS3.out.below hb4)
    obtain ⟨LL, hLL⟩ : ∃ LL, L.length = LL := ⟨_, rfl⟩
    rw [hLL] at hu4 ⊢
    have hLL20 : LL ≤ 20 := by rw [← hLL]; exact HLl.out
    have HU4 := hide hu4
    have HP4 := hide (asnParse_any t (by omega) w4 HS4.out.env)
    clear hu4 hb4 ho hLL
    go_wp2_with fail
    refine HP4.out.mono ?_
    rintro e w5 ⟨hb5, ⟨y, A5, c5, hy, rfl, hu5⟩ | ⟨hy, rfl⟩⟩
    · have HS5 := hide (HS4.out.below hb5)
      have HU5 := hide (HU4.out.below hb5)
      have HY := hide (parse_some hy)
      have hyl : y.length ≤ 1000 := Nat.le_trans (asnParseP_len hy) (by omega)
      obtain ⟨YL, hYL⟩ : ∃ YL, y.length = YL := ⟨_, rfl⟩
      rw [hYL] at hu5 hyl ⊢
      have HUy := hide hu5
      have HR5 := hide (asnRefText_any A1 m1 c1 L w5 HS5.out.one (by omega))
      rw [HTe.out] at HR5
      clear hb5 hy hu5 hYL
      go_wp2_with fail
      refine HR5.out.mono ?_
      rintro e w6 ⟨rfl, rfl⟩
      have HM := hide (refSame_self A4 LL c4 L A1 m1 c1 w5 HU5.out HS5.out.one)
      go_wp2_with fail
      refine HM.out.mono ?_
      rintro e w6 ⟨rfl, hb6⟩
      have HS6 := hide (HS5.out.below hb6)
      have HR6 := hide (asnRefText_any A5 YL c5 y w6 (HUy.out.below hb6) hyl)
      rw [HY.out] at HR6
      have hty : ((str t).toList == (str t).toList) = true := by rw [str_beq]; simp
      clear hb6
      go_wp2_with fail
      refine HR6.out.mono ?_
      rintro e w7 ⟨rfl, rfl⟩
      have HV := hide (asnLives_any w6)
      go_wp2_with fail
      refine HV.out.mono ?_
      rintro e w8 ⟨rfl, hb8⟩
      have HE8 := hide (below2 HS6.out.bel hb8)
      clear hb8
      go_wp2
      go_ret
      exact ⟨rfl, HE8.out⟩
    · have HS5 := hide (HS4.out.below hb5)
      have HU5 := hide (HU4.out.below hb5)
      have hne : t ≠ T := fun e => by rw [e, HPt.out] at hy; cases hy
      have HR5 := hide (asnRefText_any A1 m1 c1 L w5 HS5.out.one (by omega))
      rw [HTe.out] at HR5
      have htT : ((str t).toList == (str T).toList) = false := by rw [str_beq]; simpa using hne
      have htT2 : ((str t).toList != (str T).toList) = true := by rw [bne, htT]; rfl
      clear hb5 hy hne
      go_wp2_with fail
      refine HR5.out.mono ?_
      rintro e w6 ⟨rfl, rfl⟩
      have HM := hide (refSame_self A4 LL c4 L A1 m1 c1 w5 HU5.out HS5.out.one)
      go_wp2_with fail
      refine HM.out.mono ?_
      rintro e w6 ⟨rfl, hb6⟩
      have HS6 := hide (HS5.out.below hb6)
      have HR6 := hide (asnRefText_any A1 m1 c1 L w6 HS6.out.one (by omega))
      rw [HTe.out] at HR6
      clear hb6
      go_wp2_with fail
      refine HR6.out.mono ?_
      rintro e w7 ⟨rfl, rfl⟩
      have HV := hide (asnLives_any w6)
      go_wp2_with fail
      refine HV.out.mono ?_
      rintro e w8 ⟨rfl, hb8⟩
      have HE8 := hide (below2 HS6.out.bel hb8)
      clear hb8
      go_wp2
      go_ret
      exact ⟨rfl, HE8.out⟩
theorem asnTextsS_any (A : Option Addr) (n c : Nat) (l : List Nat) (s : ByteArray) (hs : s.size ≤ maxLen) (w : World) (h : U32s w A n c l) (he : Env w) :
    Calls Tryd.prog 5 #[.slice A n c, .string s] w fun e w' => e = .returned (.bool true) ∧ Below w.heap.size w w' := by
  have hl : s.data.toList.length = s.size := by rw [Array.length_toList]; rfl
  by_cases h1 : s.size ≤ 100
  · exact asnTexts_any A n c l s s.data.toList (.inl ⟨h1, (str_of s).symm⟩) (by omega) hs w h he
  · refine asnTexts_any A n c l s (s.data.toList.take 100) (.inr ⟨by omega, ?_⟩) (List.length_take_le _ _) hs w h he
    rw [← str_cut, str_of]
end Go.Proofs.YtdjgenlhcjgafaaDoor
namespace Go.Proofs.YtdjgenlhcjgafaaDoor
open Go.RowKit Go.WideShapes Go.ChangeShapes Go.ChangeAt Go.ChangeMaps
theorem sf14 : (Rows.clistMoreRow.plainKeys == Tryd.pinned.checked.prog.plainKeys) = true := by kernel_rfl
theorem sf16 : (Tryd.pinned.checked.prog.stopsHeard) = true := by kernel_rfl
theorem sf17 : (Tryd.pinned.checked.prog.mayEnter) = true := by kernel_rfl
theorem sf18 : (Rows.clistMoreRow.lifted == Tryd.pinned.checked.prog.liftsFinal) = true := by kernel_rfl
theorem sf19 : (Tryd.pinned.checked.prog.make == some Rows.clistMoreRow.make) = true := by kernel_rfl
end Go.Proofs.YtdjgenlhcjgafaaDoor
