import Derived.Test.YtebccdinglohpaaDoorPd2
import Derived.WalkKit
import Derived.ProofKit
import Derived.OpenShut
import Derived.Below
import Derived.Laws.OwnMore
import Derived.Laws.Rows
import Derived.Laws.MakeOwn
import Derived.Deep.AppendLies
import Derived.Deep.Draws
import Derived.Deep.OwnRows
import Derived.Deep.QuietTactic
import Derived.Maps.AppendAt
import Derived.RegionTactic
import Derived.OwnWalk
import Derived.ChangeSame
import Derived.Outline
import Derived.BigQuiet
import Derived.WalkMore
import Derived.ScopeJumps
import Derived.WalkLawsBesides
import Derived.WalkSpells
import Derived.Deep.Slices
import Derived.WideKeyArgs
import Derived.Deep.DeepHandedRow
import Derived.Deep.DeepWitnessRowRef
import Derived.Lib.LaidTab
import Derived.Lib.AppendIntMem
import Derived.LaidMore
import Derived.MakeChecks
import Derived.Lib.Itoa
import Derived.Lib.ItoaMem
import Derived.Laws.BitsLemmas
import Derived.Laws.BitsAllLaws
import Derived.Deep.Quiet
import Derived.BigRegion
import Derived.Orders
import Derived.StillTailTactics
import Derived.Lib.PathFns
import Derived.Lib.IndexBytes
import Derived.RangeFuncWrites
import Derived.RangeFuncNested
import Derived.RangeFuncBound
import Derived.RangeFuncCalls
import Derived.RangeFuncLeaves
import Derived.RangeFuncBox
import Derived.Shelf.Abstract
import Derived.Shelf.RegionOpen
import Derived.OwnWalkIn
import Derived.TacticsInMore
import Derived.LoopNIn
import Derived.LoopIn
import Derived.Lib.SmallJoins
import Derived.Lib.ParseIntBCases
import Derived.Lib.IndexMore
import Derived.Shelf.Vars
import Derived.Lib.AtoiAllCases
import Derived.SliceStrings
import Derived.Deep.RegionLaw
import Derived.Sort.LotA
import Derived.BigRegionIn
import Derived.Deep.RegionHeld3
set_option linter.unusedSimpArgs false
set_option linter.unusedVariables false
namespace Go.Proofs.YtebccdinglohpaaDoor
open Go.RowKit Go.WideShapes Go.ChangeShapes
attribute [local go_sem] Oper.semAt_some
theorem isDead_at {l : List PR} {k : Nat} {r : PR} (h : l[k]? = some r) : isDead l k = (l.take k).any (withinP r) := by unfold isDead; rw [h]
theorem deadL_le (l : List PR) {k n : Nat} (h : k ≤ n) : ∃ t, deadL l n = deadL l k ++ t ∧ ∀ x ∈ t, k ≤ x := by
  obtain ⟨d, rfl⟩ := Nat.exists_eq_add_of_le h
  induction d with
  | zero => exact ⟨[], by simp, by simp⟩
  | succ d ih =>
    obtain ⟨t, ht, hx⟩ := ih (by omega)
    rw [← Nat.add_assoc, deadL_succ, ht]
    refine ⟨t ++ (if isDead l (k + d) then [k + d] else []), by simp, fun x hx' => ?_⟩
    rcases List.mem_append.1 hx' with h1 | h1
    · exact hx x h1
    · split at h1
      · simp at h1; omega
      · cases h1
/-- What stands in the list of the dead at the number of those so far. -/
theorem deadL_next (l : List PR) {k n : Nat} (h : k < n) : (isDead l k = true ∧ (deadL l n)[(deadL l k).length]? = some k) ∨ (isDead l k = false ∧ ∀ x, (deadL l n)[(deadL l k).length]? = some x → x ≠ k) := by
  obtain ⟨t, ht, hx⟩ := deadL_le l (show k + 1 ≤ n by omega)
  rw [deadL_succ] at ht
  cases hd : isDead l k with
  | true =>
    refine .inl ⟨rfl, ?_⟩
    rw [ht, hd]; simp
  | false =>
    refine .inr ⟨rfl, fun x hxx => ?_⟩
    rw [ht, hd] at hxx
    simp only [Bool.false_eq_true, if_false, List.append_nil] at hxx
    rw [List.getElem?_append_right (Nat.le_refl _), Nat.sub_self] at hxx
    have := hx x (List.mem_of_getElem? hxx)
    omega
def keptL (l : List PR) (k : Nat) : List PR := (List.range k).filterMap fun i => if isDead l i then none else l[i]?
theorem keptL_succ (l : List PR) {k : Nat} {r : PR} (h : l[k]? = some r) : keptL l (k + 1) = keptL l k ++ if isDead l k then [] else [r] := by
  unfold keptL
  rw [List.range_succ, List.filterMap_append]
  congr 1
  cases hd : isDead l k <;> simp [hd, h]
theorem keptL_len (l : List PR) (k : Nat) : (keptL l k).length ≤ k := by
  unfold keptL
  exact Nat.le_trans (List.length_filterMap_le _ _) (by simp)
theorem keptL_mem {l : List PR} {k : Nat} {x : PR} (h : x ∈ keptL l k) : ∃ i, i < k ∧ l[i]? = some x := by
  unfold keptL at h
  rw [List.mem_filterMap] at h
  obtain ⟨i, hi, hx⟩ := h
  split at hx
  · cases hx
  · exact ⟨i, List.mem_range.1 hi, hx⟩
theorem keptL_le (l : List PR) {k n : Nat} (h : k ≤ n) : ∃ t, keptL l n = keptL l k ++ t := by
  unfold keptL
  obtain ⟨d, rfl⟩ := Nat.exists_eq_add_of_le h
  rw [List.range_add, List.filterMap_append]
  exact ⟨_, rfl⟩
theorem cov_trans {a b c : Nat} {m n k : Int} (h1 : covB a m b n = true) (h2 : covB b n c k = true) : covB a m c k = true := by
  unfold covB hasB at *
  simp only [Bool.and_eq_true, decide_eq_true_eq, beq_iff_eq] at *
  obtain ⟨⟨g1, l1⟩, g2, e1⟩ := h1
  obtain ⟨⟨g3, l2⟩, g4, e2⟩ := h2
  refine ⟨⟨g3, by omega⟩, g2, ?_⟩
  obtain ⟨hm0, hm1, _⟩ := (goodB_iff a m).1 g2
  obtain ⟨hn0, hn1, _⟩ := (goodB_iff b n).1 g1
  rw [← e1, ← e2, cutN_cutN c (by omega) (by omega)]
theorem within_hit {a : Nat} {n : Int} {r o : PR} (h : withinP r o = true) (hr : phitP a n r = true) : phitP a n o = true := by
  unfold withinP at h
  unfold phitP at hr ⊢
  simp only [Bool.and_eq_true, decide_eq_true_eq] at *
  exact ⟨cov_trans h.1 hr.1, by omega, by omega⟩
theorem kept_find (l : List PR) (a : Nat) (n : Int) : (keptL l l.length).find? (phitP a n) = l.find? (phitP a n) := by
  rcases idxP_find (phitP a n) l with ⟨_, hf, hno⟩ | ⟨j, r, _, hj, hr, hf, hp, hno⟩
  · rw [hf, List.find?_eq_none]
    intro x hx
    obtain ⟨i, _, hi⟩ := keptL_mem hx
    rw [hno x (List.mem_of_getElem? hi)]; simp
  · have hnd : isDead l j = false := by
      rw [isDead_at hr, ← Bool.not_eq_true, List.any_eq_true]
      rintro ⟨o, ho, hw⟩
      have := hno o ho
      rw [within_hit hw hp] at this; cases this
    obtain ⟨t, ht⟩ := keptL_le l (show j + 1 ≤ l.length by omega)
    rw [keptL_succ l hr, hnd] at ht
    rw [hf, ht, List.find?_append, List.find?_append]
    have hn : (keptL l j).find? (phitP a n) = none := by
      rw [List.find?_eq_none]
      intro x hx
      obtain ⟨i, hi, hx'⟩ := keptL_mem hx
      have : x ∈ l.take j := List.mem_of_getElem? (i := i) (by rw [List.getElem?_take, if_pos hi]; exact hx')
      rw [hno x this]; simp
    simp [hn, hp]
theorem kept_perm (l : List PR) (a : Nat) (n : Int) : prPerm (phitP a n) (keptL l l.length) = prPerm (phitP a n) l := by
  unfold prPerm; rw [kept_find]
def natR (_ : World) (vs : List Value) (i : Nat) : Prop := vs = [.int .i64 (i : Int)]
theorem natMono : SMono natR := fun _ _ _ _ _ h => h
theorem natv_chunks {w : World} : ∀ l : List Nat, Chunks 1 natR w (natv l) l
  | [] => Chunks.nil_
  | x :: l => by
    have := (Chunks.one_ (sz := 1) (R := natR) (w := w) (vs := [.int .i64 (x : Int)]) (x := x) rfl rfl).app_ (natv_chunks l)
    simpa [natv] using this
theorem nat_at {w : World} {A : Option Addr} {n c : Nat} {l : List Nat} (h : LstAt 1 natR w A n c l) {k : Nat} (hk : k < n) :
    ∃ (g o x : Nat), A = some ⟨g, o, none⟩ ∧ g < w.heap.size ∧ l[k]? = some x ∧ w.cell? ⟨g, o + k, none⟩ = some (.int .i64 (x : Int)) := by
  obtain ⟨g, o, x, vs, hA, hg, hx, _, rfl, hc⟩ := h.at_ hk
  exact ⟨g, o, x, hA, hg, hx, by have := hc 0 _ rfl; simpa using this⟩
theorem reads_blkN {w : World} {g B n sz : Nat} {t : TypeId} {cs : Array Value} {xs : List Value} (h : Blk w g t cs) (hB : g < B) (hx : cs.toList = xs) (hn : xs.length = n * sz) : Reads w B sz (some ⟨g, 0, none⟩) n xs :=
  ⟨hn, fun _ => ⟨_, rfl, hB, fun j u hu => by
    have e : (⟨g, 0, none⟩ : Addr).add j = ⟨g, j, none⟩ := by unfold Addr.add; split <;> simp_all
    rw [e, h.cell j, ← hu, ← hx]; simp⟩⟩
def prv (l : List PR) : List Value := l.flatMap PR.cs
theorem prv_chunks {w : World} : ∀ l : List PR, (∀ r ∈ l, r.Ok) → Chunks 5 prR w (prv l) l
  | [], _ => Chunks.nil_
  | x :: l, h => by
    have := (Chunks.one_ (sz := 5) (R := prR) (w := w) (vs := x.cs) (x := x) rfl ⟨rfl, h x (by simp)⟩).app_ (prv_chunks l (fun r hr => h r (by simp [hr])))
    simpa [prv] using this
theorem lst_setOther {α : Type} {sz : Nat} {R : World → List Value → α → Prop} {w : World} {A : Option Addr} {n c : Nat} {l : List α} {H : Nat} {t : TypeId} {cs : Array Value} (h : LstAt sz R w A n c l) (hb : Blk w H t cs) (hR : ∀ w' vs x, R w vs x → R w' vs x)
    (hcs : ∀ vs x, R w vs x → ∃ v, vs[0]? = some v ∧ ∀ i : Nat, cs[i]? ≠ some v) (i : Nat) (v : Value) : LstAt sz R (w.setCell ⟨H, i, none⟩ v) A n c l := by
  by_cases hn : 0 < n
  · refine h.keepW (fun vs x hx => hR _ vs x hx) (by simp [World.setCell]) (fun ad j hA => ?_)
    obtain ⟨g, o, hA', hg, hcc⟩ := h.2.2.2 hn
    have hx : l[0]? = some (l[0]'(by rw [h.1]; exact hn)) := List.getElem?_eq_getElem _
    obtain ⟨vs, _, h2, h3⟩ := hcc 0 _ hx
    obtain ⟨u, hu, hne⟩ := hcs _ _ h2
    have hc := h3 0 u hu
    rw [hA'] at hA; cases hA
    rw [World.cell?_setCell_other _ _ _ _ (by
      rintro e
      have hHg : g = H := (congrArg Addr.block e).symm
      subst hHg
      rw [hb.cell] at hc
      exact hne _ hc)]
  · refine ⟨h.1, h.2.1, h.2.2.1, fun h0 => absurd h0 hn⟩
theorem lst_belowB {α : Type} {sz : Nat} {R : World → List Value → α → Prop} {w w' : World} {A : Option Addr} {n c : Nat} {l : List α} {B : Nat} (h : LstAt sz R w A n c l) (hR : ∀ w' vs x, R w vs x → R w' vs x) (hA : 0 < n → ∀ ad, A = some ad → ad.block < B) (hb : Below B w w') : LstAt sz R w' A n c l := by
  by_cases hn : 0 < n
  · exact h.keepW (fun vs x hx => hR _ vs x hx) hb.size (fun ad j e => hb.cell (hA hn ad e))
  · exact ⟨h.1, h.2.1, h.2.2.1, fun h0 => absurd h0 hn⟩
theorem lst_lt {α : Type} {sz : Nat} {R : World → List Value → α → Prop} {w : World} {A : Option Addr} {n c : Nat} {l : List α} (h : LstAt sz R w A n c l) (hn : 0 < n) : ∀ ad, A = some ad → ad.block < w.heap.size := by
  intro ad e
  obtain ⟨g, o, hA, hg, _⟩ := h.2.2.2 hn
  rw [hA] at e; cases e; exact hg
/-- The law's loop: what it holds. -/
structure PdSt (w W : World) (s : ByteArray) (A1 : Option Addr) (n1 c1 : Nat) (L : List PR) (x : Nat) (z : Int) (A5 : Option Addr) (dn c5 : Nat) (D : List Nat) (R7 B : Nat) (V : Value) (K : List PR) : Prop where
  pl : PlSt w W s A1 n1 c1 L x z
  ds : LstAt 1 natR W A5 dn c5 D
  lf : Blk W R7 33 #[.string s, V]
  own : W.ownsRow B 41 5 V K.length (prv K)
theorem PdSt.below {w W W' : World} {s : ByteArray} {A1 : Option Addr} {n1 c1 : Nat} {L : List PR} {x : Nat} {z : Int} {A5 : Option Addr} {dn c5 : Nat} {D : List Nat} {R7 B : Nat} {V : Value} {K : List PR} (h : PdSt w W s A1 n1 c1 L x z A5 dn c5 D R7 B V K) (hb : Below W.heap.size W W') : PdSt w W' s A1 n1 c1 L x z A5 dn c5 D R7 B V K :=
  ⟨h.pl.below hb, h.ds.below natMono hb, h.lf.below hb h.lf.lt, own_below h.own hb⟩
theorem PlSt.setR {w W : World} {s : ByteArray} {A : Option Addr} {n c : Nat} {L : List PR} {x : Nat} {z : Int} (h : PlSt w W s A n c L x z) (he : Env w) {R : Nat} {t : TypeId} {cs : Array Value} (hb : Blk W R t cs) (h1 : w.heap.size + 1 < R) (hcs : ∀ (i : Nat) (b : Bool), cs[i]? ≠ some (.bool b)) (i : Nat) (v : Value) : PlSt w (W.setCell ⟨R, i, none⟩ v) s A n c L x z := by
  have hbel : Below w.heap.size w (W.setCell ⟨R, i, none⟩ v) := h.bel.setCell (p := ⟨R, i, none⟩) (by show w.heap.size ≤ R; omega) v
  exact ⟨h.bl.far (by show w.heap.size ≠ R; omega) v, h.bp.far (by show w.heap.size + 1 ≠ R; omega) v, lst_setOther h.ls hb (fun _ _ _ h => h) (fun vs x hx => ⟨.bool x.b, by rw [hx.1]; rfl, fun i => hcs i _⟩) i v, he.below hbel, hbel⟩
theorem PlSt.growB {w W W' : World} {s : ByteArray} {A : Option Addr} {n c : Nat} {L : List PR} {x : Nat} {z : Int} {B : Nat} (h : PlSt w W s A n c L x z) (he : Env w) (h1 : w.heap.size + 1 < B) (hA : 0 < n → ∀ ad, A = some ad → ad.block < B) (hb : Below B W W') : PlSt w W' s A n c L x z := by
  have hbel : Below w.heap.size w W' := h.bel.trans (hb.mono (by omega))
  exact ⟨h.bl.below hb (by omega), h.bp.below hb (by omega), lst_belowB h.ls (fun _ _ _ h => h) hA hb, he.below hbel, hbel⟩
theorem no_bool_2 {s : ByteArray} {A : Option Addr} {n c : Nat} : ∀ (i : Nat) (b : Bool), (#[.string s, .slice A n c] : Array Value)[i]? ≠ some (.bool b)
  | 0, x => by simp
  | 1, x => by simp
  | i + 2, x => by simp
theorem no_int_2 {s : ByteArray} {A : Option Addr} {n c : Nat} : ∀ (i : Nat) (x : Int), (#[.string s, .slice A n c] : Array Value)[i]? ≠ some (.int .i64 x)
  | 0, x => by simp
  | 1, x => by simp
  | i + 2, x => by simp
theorem nats_setR {W : World} {A : Option Addr} {n c : Nat} {D : List Nat} (h : LstAt 1 natR W A n c D) {R : Nat} {t : TypeId} {cs : Array Value} (hb : Blk W R t cs) (hcs : ∀ (i : Nat) (x : Int), cs[i]? ≠ some (.int .i64 x)) (i : Nat) (v : Value) : LstAt 1 natR (W.setCell ⟨R, i, none⟩ v) A n c D :=
  lst_setOther h hb (fun _ _ _ h => h) (fun vs x hx => ⟨.int .i64 (x : Int), by rw [hx]; rfl, fun i => hcs i _⟩) i v
theorem code_genP {P : Program} {c : Code} {Q : Exit → Act → World → Prop} {a : Act} {w : World} (I : World → Prop) (h0 : I w) (h : ∀ w3, I w3 → c.wp P Q a w3) : c.wp P Q a w := h w h0
set_option maxRecDepth 100000 in
set_option maxHeartbeats 64000000 in
theorem plistDead_any (s : ByteArray) (A : Option Addr) (n c : Nat) (ts : List PR) (x : Nat) (z : Int) (w : World) (h : LstAt 5 prR w A n c ts) (hs : s.size ≤ maxLen) (hx : PfxOk x z) (he : Env w) :
    Calls Tryd.prog 4 #[.agg #[.string s, .slice A n c], .agg #[.int .u32 (x : Int), .int .i64 z]] w (GoodP true w) := by
  obtain ⟨L0, hL⟩ : ∃ L, ts.take 110 = L := ⟨_, rfl⟩
  have hal : Below w.heap.size w ((w.alloc (.cells #[.string s, .slice A n c] 33)).alloc (.cells #[.int .u32 (x : Int), .int .i64 z] 36)) := ((Below.refl w.heap.size w).alloc (Nat.le_refl _) _).alloc (by simp) _
  have HF0 := hide (pFew_any s A n c ts _ (h.below prMono hal))
  rw [hL] at HF0
  have HE := hide he
  have HX := hide hx
  have HS := hide hs
  have HKl := hide ((Blk.new w 33 #[.string s, .slice A n c]).alloc (.cells #[.int .u32 (x : Int), .int .i64 z] 36))
  have HKp : Hid (Blk ((w.alloc (.cells #[.string s, .slice A n c] 33)).alloc (.cells #[.int .u32 (x : Int), .int .i64 z] 36)) (w.heap.size + 1) 36 #[.int .u32 (x : Int), .int .i64 z]) := hide (blk_new' _ _ (by simp))
  clear h hL hal he hx hs
  go_enter Tryd.func4, Tryd.ntmps4
  go_wp2_with fail
  refine HF0.out.mono ?_
  rintro e w1 ⟨A1, n1, c1, rfl, hl1, hab1, hb1⟩
  have HS1 := hide (PlSt.start HE.out hb1 hl1 hab1)
  have HAb := hide hab1
  have hkl := HKl.out.below hb1 HKl.out.lt
  have hkp := HKp.out.below hb1 HKp.out.lt
  have HKL := hide hkl
  have x0 := hkl.cell 0
  have x1 := hkl.cell 1
  have y0 := hkl.frozen 0
  have y1 := hkl.frozen 1
  have z0 := hkp.cell 0
  have z1 := hkp.cell 1
  have hnc1 := hl1.2.1
  have hcm1 := hl1.2.2.1
  unfold maxLen at hcm1
  clear hl1 hab1 hb1 hkl hkp
  have hcase : (decide ((30 : Int) < (n1 : Int)) = true ∧ 30 < n1) ∨ (decide ((30 : Int) < (n1 : Int)) = false ∧ n1 ≤ 30) := by
    by_cases h30 : 30 < n1
    · exact .inl ⟨by simp; omega, h30⟩
    · exact .inr ⟨by simp; omega, by omega⟩
  rcases hcase with ⟨hd, h30⟩ | ⟨hd, h30⟩
  · have hc30 : (30 : Int) ≤ (c1 : Int) := by omega
    have HS2 : Hid (PlSt w (((w1.setCell ⟨w.heap.size, 0, none⟩ (.string s)).setCell ⟨w.heap.size, 1, none⟩ (.slice A1 n1 c1)).setCell ⟨w.heap.size, 1, none⟩ (.slice A1 30 c1)) s A1 30 c1 (L0.take 30) x z) := hide (by
      have hp := HS1.out
      have hbel : Below w.heap.size w (((w1.setCell ⟨w.heap.size, 0, none⟩ (.string s)).setCell ⟨w.heap.size, 1, none⟩ (.slice A1 n1 c1)).setCell ⟨w.heap.size, 1, none⟩ (.slice A1 30 c1)) := hp.bel.setCell (p := ⟨w.heap.size, 1, none⟩) (Nat.le_refl _) _
      exact ⟨hp.bl.set_ 1 (.slice A1 30 c1), hp.bp.far (p := ⟨w.heap.size, 1, none⟩) (by show w.heap.size + 1 ≠ w.heap.size; omega) _, (lst_setOther hp.ls hp.bl (fun _ _ _ h => h) (fun vs x hx => ⟨.bool x.b, by rw [hx.1]; rfl, fun i => no_bool_2 i _⟩) 1 _).take_ (by omega), HE.out.below hbel, hbel⟩)
    have HLl : Hid ((L0.take 30).take 110 = L0.take 30 ∧ 30 ≤ 30) := hide ⟨by rw [List.take_take]; rfl, Nat.le_refl _⟩
    go_wp2
    refine code_genP (fun W => ∃ n3 L, PlSt w W s A1 n3 c1 L x z ∧ L.take 110 = L ∧ n3 ≤ 30) ⟨30, L0.take 30, HS2.out, HLl.out.1, HLl.out.2⟩ ?_
    clear HS2 HLl
    --T1
    rintro W0 ⟨n3, L, hS, hL110, hn30⟩
    have HS3 := hide hS
    have HLl := hide hL110
    have HLn : Hid (L.length = n3) := hide hS.ls.1
    clear hS hL110 hd h30 HS1 x0 x1 y0 y1 z0 z1 HKL HAb
    obtain ⟨D, hD⟩ : ∃ D, deadL L L.length = D := ⟨_, rfl⟩
    obtain ⟨dn, hdn⟩ : ∃ dn, D.length = dn := ⟨_, rfl⟩
    have HDD := hide hD
    have HDN := hide hdn
    have HF := hide (fun (W : World) (hb : Below W0.heap.size W0 W) => by have := pFew_any s A1 n3 c1 L W (HS3.out.below hb).ls; rw [HLl.out] at this; exact this)
    have HD := hide (fun (A : Option Addr) (n c : Nat) (W : World) (h : LstAt 5 prR W A n c L) => (pDead_any s A n c L W h (by have := h.1; have := HLn.out; omega)).mono (fun e w' ⟨A', c', he', ho, hb⟩ => by
      rw [hD] at he' ho
      rw [hdn] at he' ho
      exact (show ∃ A c, e = .returned (.slice A dn c) ∧ LstAt 1 natR w' A dn c D ∧ Below W.heap.size W w' from ⟨A', c', he', LstAt.of_own (by decide) ho (natv_chunks D), hb⟩)))
    have hn3s : dn ≤ 30 := by rw [← hdn, ← hD]; have := deadL_len L L.length; have := HLn.out; omega
    clear hD hdn
    refine wp_region_relT 9 [(fun v _ => v = .agg #[.string s, .slice A1 n3 c1]), (fun v w => ∃ A n c, v = .agg #[.string s, .slice A n c] ∧ LstAt 5 prR w A n c L), (fun v w => ∃ A c, v = .slice A dn c ∧ LstAt 1 natR w A dn c D), (fun v _ => v = .pointer (some ⟨w.heap.size, 0, none⟩)), (fun v _ => v = .string s), (fun v _ => v = .agg #[.string s, .slice none 0 0]), (fun v w => ∃ R, v = .pointer (some ⟨R, 0, none⟩) ∧ Blk w R 33 #[.string ⟨#[]⟩, .slice none 0 0] ∧ W0.heap.size ≤ R), (fun v w => ∃ A c, v = .slice A dn c ∧ LstAt 1 natR w A dn c D), (fun v _ => v = .int .i64 0)] (by kernel_rfl) (by kernel_rfl) (by kernel_rfl) (by kernel_rfl) (by kernel_rfl) (relMono _ ⟨fun _ _ _ _ h => h, fun v w w2 hb ⟨A, n, c, e, h⟩ => ⟨A, n, c, e, h.below prMono hb⟩, fun v w w2 hb ⟨A, c, e, h⟩ => ⟨A, c, e, h.below natMono hb⟩, fun _ _ _ _ h => h, fun _ _ _ _ h => h, fun _ _ _ _ h => h, fun v w w2 hb ⟨R, e, h, h2⟩ => ⟨R, e, h.below hb h.lt, h2⟩, fun v w w2 hb ⟨A, c, e, h⟩ => ⟨A, c, e, h.below natMono hb⟩, fun _ _ _ _ h => h, trivial⟩) ⟨?_, ?_, ?_, ?_, ?_, ?_, ?_, ?_, ?_, trivial⟩ ?_
    · refine relStep_plain rfl ?_
      intro Ac w5 hp
      have hb := hp.bel
      have a2 : Ac.eval (.tmp 2) = .pointer (some ⟨w.heap.size, 0, none⟩) := hp.out 2 (by rfl)
      have hS := HS3.out.below hb
      have x0 := hS.bl.cell 0
      have x1 := hS.bl.cell 1
      clear hS
      have hc := evalC Ac; have hf := evalF Ac; have hgl := evalG Ac
      obtain ⟨ρ, hρ⟩ : ∃ ρ, Ac.eval = ρ := ⟨_, rfl⟩
      rw [hρ] at a2 hc hf hgl
      exact relPure hρ (.agg #[.string s, .slice A1 n3 c1]) (by simp [go_sem, hc, hf, hgl, ↓IntWalk.iteOmega, a2, *]) rfl
    · refine relStep_plain rfl ?_
      intro Ac w5 hp
      have hb := hp.bel
      have a23 : Ac.eval (.tmp 23) = .agg #[.string s, .slice A1 n3 c1] := hp.dep 0 (by kernel_rfl)
      have hc := evalC Ac; have hf := evalF Ac; have hgl := evalG Ac
      obtain ⟨ρ, hρ⟩ : ∃ ρ, Ac.eval = ρ := ⟨_, rfl⟩
      rw [hρ] at a23 hc hf hgl
      refine relCall hρ 10 #[.agg #[.string s, .slice A1 n3 c1]] (by simp [go_sem, hc, hf, hgl, ↓IntWalk.iteOmega, a23, *]) ?_
      refine (HF.out w5 hb).mono ?_
      rintro e w6 ⟨A6, n6, c6, rfl, hl6, _, hb6⟩
      exact ⟨_, rfl, ⟨A6, n6, c6, rfl, hl6⟩, hb6⟩
    · refine relStep_plain rfl ?_
      intro Ac w5 hp
      have hb := hp.bel
      obtain ⟨Af3, nf3, cf3, a24, hl3⟩ := hp.dep 1 (by kernel_rfl)
      change Ac.eval (.tmp 24) = _ at a24
      have hc := evalC Ac; have hf := evalF Ac; have hgl := evalG Ac
      obtain ⟨ρ, hρ⟩ : ∃ ρ, Ac.eval = ρ := ⟨_, rfl⟩
      rw [hρ] at a24 hc hf hgl
      refine relCall hρ 11 #[.agg #[.string s, .slice Af3 nf3 cf3]] (by simp [go_sem, hc, hf, hgl, ↓IntWalk.iteOmega, a24, *]) ?_
      refine (HD.out Af3 nf3 cf3 w5 hl3).mono ?_
      rintro e w6 ⟨A6, c6, rfl, hl6, hb6⟩
      exact ⟨_, rfl, ⟨A6, c6, rfl, hl6⟩, hb6⟩
    · refine relStep_plain rfl ?_
      intro Ac w5 hp
      have hb := hp.bel
      have a2 : Ac.eval (.tmp 2) = .pointer (some ⟨w.heap.size, 0, none⟩) := hp.out 2 (by rfl)
      have hc := evalC Ac; have hf := evalF Ac; have hgl := evalG Ac
      obtain ⟨ρ, hρ⟩ : ∃ ρ, Ac.eval = ρ := ⟨_, rfl⟩
      rw [hρ] at a2 hc hf hgl
      exact relPure hρ (.pointer (some ⟨w.heap.size, 0, none⟩)) (by simp [go_sem, hc, hf, hgl, ↓IntWalk.iteOmega, a2, *]) rfl
    · refine relStep_plain rfl ?_
      intro Ac w5 hp
      have hb := hp.bel
      have a26 : Ac.eval (.tmp 26) = .pointer (some ⟨w.heap.size, 0, none⟩) := hp.dep 3 (by kernel_rfl)
      have hS := HS3.out.below hb
      have x0 := hS.bl.cell 0
      have x1 := hS.bl.cell 1
      clear hS
      have hc := evalC Ac; have hf := evalF Ac; have hgl := evalG Ac
      obtain ⟨ρ, hρ⟩ : ∃ ρ, Ac.eval = ρ := ⟨_, rfl⟩
      rw [hρ] at a26 hc hf hgl
      exact relPure hρ (.string s) (by simp [go_sem, hc, hf, hgl, ↓IntWalk.iteOmega, a26, *]) rfl
    · refine relStep_plain rfl ?_
      intro Ac w5 hp
      have hb := hp.bel
      have a27 : Ac.eval (.tmp 27) = .string s := hp.dep 4 (by kernel_rfl)
      have hc := evalC Ac; have hf := evalF Ac; have hgl := evalG Ac
      obtain ⟨ρ, hρ⟩ : ∃ ρ, Ac.eval = ρ := ⟨_, rfl⟩
      rw [hρ] at a27 hc hf hgl
      exact relPure hρ (.agg #[.string s, .slice none 0 0]) (by simp [go_sem, hc, hf, hgl, ↓IntWalk.iteOmega, a27, *]) rfl
    · refine relStep_plain rfl ?_
      intro Ac w5 hp
      have hb := hp.bel
      have hc := evalC Ac; have hf := evalF Ac; have hgl := evalG Ac
      obtain ⟨ρ, hρ⟩ : ∃ ρ, Ac.eval = ρ := ⟨_, rfl⟩
      rw [hρ] at hc hf hgl
      exact relVal hρ (.pointer (some ⟨w5.heap.size, 0, none⟩)) (w5.alloc (.cells #[.string ⟨#[]⟩, .slice none 0 0] 33)) (by simp [go_sem, hc, hf, hgl, ↓IntWalk.iteOmega, *]) ⟨_, rfl, Blk.new w5 _ _, hb.size⟩ ((Below.refl _ _).alloc (Nat.le_refl _) _)
    · refine relStep_plain rfl ?_
      intro Ac w5 hp
      have hb := hp.bel
      obtain ⟨A25, c25, a25, hl25⟩ := hp.dep 2 (by kernel_rfl)
      change Ac.eval (.tmp 25) = _ at a25
      have hc := evalC Ac; have hf := evalF Ac; have hgl := evalG Ac
      obtain ⟨ρ, hρ⟩ : ∃ ρ, Ac.eval = ρ := ⟨_, rfl⟩
      rw [hρ] at a25 hc hf hgl
      exact relPure hρ (.slice A25 dn c25) (by simp [go_sem, hc, hf, hgl, ↓IntWalk.iteOmega, a25, *]) ⟨A25, c25, rfl, hl25⟩
    · refine relStep_plain rfl ?_
      intro Ac w5 hp
      have hb := hp.bel
      have hc := evalC Ac; have hf := evalF Ac; have hgl := evalG Ac
      obtain ⟨ρ, hρ⟩ : ∃ ρ, Ac.eval = ρ := ⟨_, rfl⟩
      rw [hρ] at hc hf hgl
      exact relPure hρ (.int .i64 0) (by simp [go_sem, hc, hf, hgl, ↓IntWalk.iteOmega, *]) rfl
    intro u w4 hb7 hall
    have e28 : u 5 = .agg #[.string s, .slice none 0 0] := relAll_at hall (i := 5) (by decide +kernel)
    obtain ⟨A5, c5, e5, hl5⟩ := relAll_at hall (i := 7) (by decide +kernel)
    change u 7 = _ at e5
    have e6 : u 8 = .int .i64 0 := relAll_at hall (i := 8) (by decide +kernel)
    obtain ⟨R7, e7, hR7, hRb7⟩ := relAll_at hall (i := 6) (by decide +kernel)
    change u 6 = _ at e7
    clear hall
    simp only [List.drop_succ_cons, List.drop_zero, List.take_succ_cons, List.take_zero, putAll, Act.put, List.setIfInBounds_toArray, List.set_cons_zero, List.set_cons_succ, Nat.zero_add, Nat.reduceAdd, e28, e5, e6, e7]
    have HS4 := hide (HS3.out.below hb7)
    have HB0 := hide (HS3.out.bp.lt)
    have hR7w : w.heap.size + 1 < R7 := Nat.lt_of_lt_of_le HB0.out hRb7
    have z0 := hR7.cell 0
    have z1 := hR7.cell 1
    have y0 := hR7.frozen 0
    have y1 := hR7.frozen 1
    obtain ⟨B, hBe⟩ : ∃ B, w4.heap.size = B := ⟨_, rfl⟩
    have HA1 : Hid (0 < n3 → ∀ ad, A1 = some ad → ad.block < B) := hide (fun h => by rw [← hBe]; exact lst_lt HS4.out.ls h)
    have HA5 : Hid (0 < dn → ∀ ad, A5 = some ad → ad.block < B) := hide (fun h => by rw [← hBe]; exact lst_lt hl5 h)
    have hR7B : R7 < B := by rw [← hBe]; exact hR7.lt
    have HP0 : Hid (PdSt w ((w4.setCell ⟨R7, 0, none⟩ (.string s)).setCell ⟨R7, 1, none⟩ (.slice none 0 0)) s A1 n3 c1 L x z A5 dn c5 D R7 B (.slice none 0 0) (keptL L 0)) := hide
      ⟨(HS4.out.setR HE.out hR7 hR7w no_bool_2 0 _).setR HE.out (hR7.set_ 0 (.string s)) hR7w no_bool_2 1 _, nats_setR (nats_setR hl5 hR7 no_int_2 0 _) (hR7.set_ 0 (.string s)) no_int_2 1 _, (hR7.set_ 0 (.string s)).set_ 1 (.slice none 0 0), ⟨rfl, .inl ⟨rfl, rfl⟩⟩⟩
    have HB4 : Hid (B ≤ ((w4.setCell ⟨R7, 0, none⟩ (.string s)).setCell ⟨R7, 1, none⟩ (.slice none 0 0)).heap.size) := hide (by rw [← hBe]; simp [World.setCell])
    clear hb7 e28 e5 e6 e7 hl5 hBe HS3 HF HD
    go_wp2
    clear HS4 hR7 z0 z1 y0 y1
    go_loopw [6, 8] (fun kv iv wr => ∃ i : Nat, i ≤ n3 ∧ iv = .int .i64 (i : Nat) ∧ kv = .int .i64 ((deadL L i).length : Nat) ∧ ∃ V, PdSt w wr s A1 n3 c1 L x z A5 dn c5 D R7 B V (keptL L i) ∧ B ≤ wr.heap.size) (fun _ iv _ => n3 - (intOf iv).toNat)
    case atStart => exact ⟨0, Nat.zero_le _, rfl, rfl, _, HP0.out, HB4.out⟩
    case round =>
      obtain ⟨i, hi, rfl, rfl, V, hst, hBw⟩ := hrel
      obtain ⟨wo, hwo⟩ : ∃ wo, wo = wr := ⟨_, rfl⟩
      subst hwo
      have HP := hide hst
      have hnc := hst.pl.ls.2.1
      have hcm := hst.pl.ls.2.2.1
      unfold maxLen at hcm
      have x0 := hst.pl.bl.cell 0
      have x1 := hst.pl.bl.cell 1
      clear hst
      have hkl := deadL_len L i
      by_cases hlt : i < n3
      · obtain ⟨g, o, rb, ra, rm, rge, rle, hAe, hg, hy, hok, c0, c1', c2, c3, c4⟩ := PRat HP.out.pl.ls hlt
        subst hAe
        have HY := hide hy
        have HOk := hide hok
        have C0 := hide c0
        have C1 := hide c1'
        have C2 := hide c2
        have C3 := hide c3
        have C4 := hide c4
        have hi0 : (0 : Int) ≤ (i : Int) := by omega
        have hi1 : (i : Int) < (n3 : Int) := by omega
        obtain ⟨kk, hkk⟩ : ∃ kk, (deadL L i).length = kk := ⟨_, rfl⟩
        rw [hkk] at hkl ⊢
        have HKK := hide hkk
        clear hkk hy hok c0 c1' c2 c3 c4
        go_wp2
        refine wp_region_relT 7 [(fun v _ => v = .pointer (some ⟨w.heap.size, 1, none⟩)), (fun v _ => v = .slice (some ⟨g, o, none⟩) n3 c1), (fun v _ => v = .int .i64 (i : Int)), (fun v _ => v = .pointer (some ⟨g, o + i * 5, none⟩)), (fun v _ => v = .agg #[.bool rb, .int .u32 (ra : Int), .int .i64 rm, .int .i64 rge, .int .i64 rle]), (fun v w => ∃ R, v = .pointer (some ⟨R, 0, none⟩) ∧ Blk w R 41 #[.bool false, .int .u32 0, .int .i64 0, .int .i64 0, .int .i64 0] ∧ wo.heap.size ≤ R), (fun v _ => v = .bool false)] (by kernel_rfl) (by kernel_rfl) (by kernel_rfl) (by kernel_rfl) (by kernel_rfl) (relMono _ ⟨fun _ _ _ _ h => h, fun _ _ _ _ h => h, fun _ _ _ _ h => h, fun _ _ _ _ h => h, fun _ _ _ _ h => h, fun v w w2 hb ⟨R, e, h, h2⟩ => ⟨R, e, h.below hb h.lt, h2⟩, fun _ _ _ _ h => h, trivial⟩) ⟨?_, ?_, ?_, ?_, ?_, ?_, ?_, trivial⟩ ?_
        · refine relStep_plain rfl ?_
          intro Ac w5 hp
          have hb := hp.bel
          have a2 : Ac.eval (.tmp 2) = .pointer (some ⟨w.heap.size, 0, none⟩) := hp.out 2 (by rfl)
          have hc := evalC Ac; have hf := evalF Ac; have hgl := evalG Ac
          obtain ⟨ρ, hρ⟩ : ∃ ρ, Ac.eval = ρ := ⟨_, rfl⟩
          rw [hρ] at a2 hc hf hgl
          exact relPure hρ (.pointer (some ⟨w.heap.size, 1, none⟩)) (by simp [go_sem, hc, hf, hgl, ↓IntWalk.iteOmega, a2, *]) rfl
        · refine relStep_plain rfl ?_
          intro Ac w5 hp
          have hb := hp.bel
          have a36 : Ac.eval (.tmp 36) = .pointer (some ⟨w.heap.size, 1, none⟩) := hp.dep 0 (by kernel_rfl)
          have hS := HP.out.below hb
          have x0 := hS.pl.bl.cell 0
          have x1 := hS.pl.bl.cell 1
          have d0 := (hb.cell (p := ⟨g, o + i * 5, none⟩) hg).trans C0.out
          have d1 := (hb.cell (p := ⟨g, o + i * 5 + 1, none⟩) hg).trans C1.out
          have d2 := (hb.cell (p := ⟨g, o + i * 5 + 2, none⟩) hg).trans C2.out
          have d3 := (hb.cell (p := ⟨g, o + i * 5 + 3, none⟩) hg).trans C3.out
          have d4 := (hb.cell (p := ⟨g, o + i * 5 + 4, none⟩) hg).trans C4.out
          clear hS
          have hc := evalC Ac; have hf := evalF Ac; have hgl := evalG Ac
          obtain ⟨ρ, hρ⟩ : ∃ ρ, Ac.eval = ρ := ⟨_, rfl⟩
          rw [hρ] at a36 hc hf hgl
          exact relPure hρ (.slice (some ⟨g, o, none⟩) n3 c1) (by simp [go_sem, hc, hf, hgl, ↓IntWalk.iteOmega, a36, *]) rfl
        · refine relStep_plain rfl ?_
          intro Ac w5 hp
          have hb := hp.bel
          have a8 : Ac.eval (.tmp 8) = .int .i64 (i : Int) := hp.out 8 (by rfl)
          have hc := evalC Ac; have hf := evalF Ac; have hgl := evalG Ac
          obtain ⟨ρ, hρ⟩ : ∃ ρ, Ac.eval = ρ := ⟨_, rfl⟩
          rw [hρ] at a8 hc hf hgl
          exact relPure hρ (.int .i64 (i : Int)) (by simp [go_sem, hc, hf, hgl, ↓IntWalk.iteOmega, a8, *]) rfl
        · refine relStep_plain rfl ?_
          intro Ac w5 hp
          have hb := hp.bel
          have a37 : Ac.eval (.tmp 37) = .slice (some ⟨g, o, none⟩) n3 c1 := hp.dep 1 (by kernel_rfl)
          have a38 : Ac.eval (.tmp 38) = .int .i64 (i : Int) := hp.dep 2 (by kernel_rfl)
          have hc := evalC Ac; have hf := evalF Ac; have hgl := evalG Ac
          obtain ⟨ρ, hρ⟩ : ∃ ρ, Ac.eval = ρ := ⟨_, rfl⟩
          rw [hρ] at a37 a38 hc hf hgl
          exact relPure hρ (.pointer (some ⟨g, o + i * 5, none⟩)) (by simp [go_sem, hc, hf, hgl, ↓IntWalk.iteOmega, a37, a38, *]) rfl
        · refine relStep_plain rfl ?_
          intro Ac w5 hp
          have hb := hp.bel
          have a39 : Ac.eval (.tmp 39) = .pointer (some ⟨g, o + i * 5, none⟩) := hp.dep 3 (by kernel_rfl)
          have hS := HP.out.below hb
          have x0 := hS.pl.bl.cell 0
          have x1 := hS.pl.bl.cell 1
          have d0 := (hb.cell (p := ⟨g, o + i * 5, none⟩) hg).trans C0.out
          have d1 := (hb.cell (p := ⟨g, o + i * 5 + 1, none⟩) hg).trans C1.out
          have d2 := (hb.cell (p := ⟨g, o + i * 5 + 2, none⟩) hg).trans C2.out
          have d3 := (hb.cell (p := ⟨g, o + i * 5 + 3, none⟩) hg).trans C3.out
          have d4 := (hb.cell (p := ⟨g, o + i * 5 + 4, none⟩) hg).trans C4.out
          clear hS
          have hc := evalC Ac; have hf := evalF Ac; have hgl := evalG Ac
          obtain ⟨ρ, hρ⟩ : ∃ ρ, Ac.eval = ρ := ⟨_, rfl⟩
          rw [hρ] at a39 hc hf hgl
          exact relPure hρ (.agg #[.bool rb, .int .u32 (ra : Int), .int .i64 rm, .int .i64 rge, .int .i64 rle]) (by simp [go_sem, hc, hf, hgl, ↓IntWalk.iteOmega, a39, *]) rfl
        · refine relStep_plain rfl ?_
          intro Ac w5 hp
          have hb := hp.bel
          have hc := evalC Ac; have hf := evalF Ac; have hgl := evalG Ac
          obtain ⟨ρ, hρ⟩ : ∃ ρ, Ac.eval = ρ := ⟨_, rfl⟩
          rw [hρ] at hc hf hgl
          exact relVal hρ (.pointer (some ⟨w5.heap.size, 0, none⟩)) (w5.alloc (.cells #[.bool false, .int .u32 0, .int .i64 0, .int .i64 0, .int .i64 0] 41)) (by simp [go_sem, hc, hf, hgl, ↓IntWalk.iteOmega, *]) ⟨_, rfl, Blk.new w5 _ _, hb.size⟩ ((Below.refl _ _).alloc (Nat.le_refl _) _)
        · refine relStep_plain rfl ?_
          intro Ac w5 hp
          have hb := hp.bel
          have hc := evalC Ac; have hf := evalF Ac; have hgl := evalG Ac
          obtain ⟨ρ, hρ⟩ : ∃ ρ, Ac.eval = ρ := ⟨_, rfl⟩
          rw [hρ] at hc hf hgl
          exact relPure hρ (.bool false) (by simp [go_sem, hc, hf, hgl, ↓IntWalk.iteOmega, *]) rfl
        intro u w6 hb7 hall
        have e9 : u 6 = .bool false := relAll_at hall (i := 6) (by decide +kernel)
        obtain ⟨R10, e10, hR10, hRb10⟩ := relAll_at hall (i := 5) (by decide +kernel)
        change u 5 = _ at e10
        have e40 : u 4 = .agg #[.bool rb, .int .u32 (ra : Int), .int .i64 rm, .int .i64 rge, .int .i64 rle] := relAll_at hall (i := 4) (by decide +kernel)
        clear hall
        simp only [List.drop_succ_cons, List.drop_zero, List.take_succ_cons, List.take_zero, putAll, Act.put, List.setIfInBounds_toArray, List.set_cons_zero, List.set_cons_succ, Nat.zero_add, Nat.reduceAdd, e9, e10, e40]
        have z0 := hR10.cell 0
        have z1 := hR10.cell 1
        have z2 := hR10.cell 2
        have z3 := hR10.cell 3
        have z4 := hR10.cell 4
        have y0 := hR10.frozen 0
        have y1 := hR10.frozen 1
        have y2 := hR10.frozen 2
        have y3 := hR10.frozen 3
        have y4 := hR10.frozen 4
        have hRw : wo.heap.size ≤ R10 := hRb10
        have HW8 : Hid (Below wo.heap.size wo (((((w6.setCell ⟨R10, 0, none⟩ (.bool rb)).setCell ⟨R10, 1, none⟩ (.int .u32 (ra : Int))).setCell ⟨R10, 2, none⟩ (.int .i64 rm)).setCell ⟨R10, 3, none⟩ (.int .i64 rge)).setCell ⟨R10, 4, none⟩ (.int .i64 rle))) := hide (((((hb7.setCell (p := ⟨R10, 0, none⟩) hRw _).setCell (p := ⟨R10, 1, none⟩) hRw _).setCell (p := ⟨R10, 2, none⟩) hRw _).setCell (p := ⟨R10, 3, none⟩) hRw _).setCell (p := ⟨R10, 4, none⟩) hRw _)
        have HR8 : Hid (Blk (((((w6.setCell ⟨R10, 0, none⟩ (.bool rb)).setCell ⟨R10, 1, none⟩ (.int .u32 (ra : Int))).setCell ⟨R10, 2, none⟩ (.int .i64 rm)).setCell ⟨R10, 3, none⟩ (.int .i64 rge)).setCell ⟨R10, 4, none⟩ (.int .i64 rle)) R10 41 #[.bool rb, .int .u32 (ra : Int), .int .i64 rm, .int .i64 rge, .int .i64 rle]) := hide (((((hR10.set_ 0 (.bool rb)).set_ 1 (.int .u32 (ra : Int))).set_ 2 (.int .i64 rm)).set_ 3 (.int .i64 rge)).set_ 4 (.int .i64 rle))
        clear hb7 e9 e10 e40 hR10 x0 x1
        go_wp2
        clear z0 z1 z2 z3 z4 y0 y1 y2 y3 y4
        refine code_genP (fun W => Below wo.heap.size wo W ∧ Blk W R10 41 #[.bool rb, .int .u32 (ra : Int), .int .i64 rm, .int .i64 rge, .int .i64 rle]) ⟨HW8.out, HR8.out⟩ ?_
        clear HW8 HR8
        rintro w8 ⟨hb8, hr8⟩
        have HP8 := hide (HP.out.below hb8)
        have HB8 := hide hb8
        have HR8 := hide hr8
        have hsz8 := hb8.size
        clear hb8 hr8
        go_loopw [9, 11] (fun dv nv w2 => ∃ q : Nat, q ≤ i ∧ nv = .int .i64 (q : Nat) ∧ dv = .bool ((L.take q).any (withinP ⟨rb, ra, rm, rge, rle⟩)) ∧ Below w8.heap.size w8 w2) (fun _ nv _ => i - (intOf nv).toNat)
        case atStart => exact ⟨0, Nat.zero_le _, rfl, by simp, Below.refl _ _⟩
        case round =>
          obtain ⟨q, hq, rfl, rfl, hb2⟩ := hrel
          have HP2 := hide (HP8.out.below hb2)
          have hr2 := HR8.out.below hb2 HR8.out.lt
          have HR2 := hide hr2
          have HB2 := hide hb2
          have hsz2 := hb2.size
          have x0 := HP2.out.pl.bl.cell 0
          have x1 := HP2.out.pl.bl.cell 1
          obtain ⟨qd, hqd⟩ : ∃ qd, (L.take q).any (withinP ⟨rb, ra, rm, rge, rle⟩) = qd := ⟨_, rfl⟩
          rw [hqd]
          have HQD := hide hqd
          clear hb2 hqd
          by_cases hqi : q < i
          · obtain ⟨g2, o2, ob, oa, om, oge, ole, hAe, hg2, hy2, hok2, c0, c1', c2, c3, c4⟩ := PRat HP2.out.pl.ls (show q < n3 by omega)
            injection hAe with hAe
            injection hAe with hAe1 hAe2
            subst hAe1 hAe2
            have hj0 : (0 : Int) ≤ (q : Int) := by omega
            have hj1 : (q : Int) < (n3 : Int) := by omega
            have hlt2 : decide ((q : Int) < (i : Int)) = true := by simp; omega
            have HAny : Hid ((L.take (q + 1)).any (withinP ⟨rb, ra, rm, rge, rle⟩) = (qd || (covB oa om ra rm && (decide (oge ≤ rge) && decide (rle ≤ ole))))) := hide (by
              rw [List.take_add_one, hy2, List.any_append, HQD.out]; simp [withinP])
            have hal2 : Below wr.heap.size wr (wr.alloc (.cells #[.bool ob, .int .u32 (oa : Int), .int .i64 om, .int .i64 oge, .int .i64 ole] 41)) := (Below.refl _ _).alloc (Nat.le_refl _) _
            have HAl := hide hal2
            have HO2 := hide (Blk.new wr 41 #[.bool ob, .int .u32 (oa : Int), .int .i64 om, .int .i64 oge, .int .i64 ole])
            have HRn := hide (hr2.alloc (.cells #[.bool ob, .int .u32 (oa : Int), .int .i64 om, .int .i64 oge, .int .i64 ole] 41))
            have HB3 := hide (HB2.out.trans (hal2.mono hsz2))
            have HRC := hide (fun W => refCovers_any oa om ra rm hok2.a HOk.out.a W)
            obtain ⟨q0, hq0⟩ : ∃ q, covB oa om ra rm = q := ⟨_, rfl⟩
            obtain ⟨q1, hd1⟩ : ∃ q, decide (oge ≤ rge) = q := ⟨_, rfl⟩
            obtain ⟨q2, hd2⟩ : ∃ q, decide (rle ≤ ole) = q := ⟨_, rfl⟩
            rw [covRefB, hq0] at HRC
            rw [hq0, hd1, hd2] at HAny
            have r1 := hr2.cell 1
            have r2 := hr2.cell 2
            have hR10s := hr2.lt
            clear hq0 hy2 hok2 hal2 hr2
            cases qd
            · cases q0 <;> cases q1 <;> cases q2
              all_goals
                go_wp2_with fail
                refine (HRC.out _).mono ?_
                rintro e w3 ⟨rfl, hb3⟩
                have ho3 := HO2.out.below hb3 (by simp)
                have hr3 := HRn.out.below hb3 (by simp; omega)
                have t2 := ho3.cell 3
                have t3 := ho3.cell 4
                have t4 := hr3.cell 3
                have t5 := hr3.cell 4
                have HB5 := hide (HB3.out.trans (hb3.mono HB3.out.size))
                clear hb3 ho3 hr3
                go_wp2
                go_roundw
                case rel => exact ⟨q + 1, by omega, by go_num, by rw [HAny.out]; rfl, HB5.out⟩
                case measure => simp [intOf]; omega
            · go_wp2
              go_roundw
              case rel => exact ⟨q + 1, by omega, by go_num, by rw [HAny.out]; rfl, HB3.out⟩
              case measure => simp [intOf]; omega
          · obtain rfl : q = i := by omega
            have HID : Hid (isDead L q = qd) := hide (by rw [isDead_at HY.out, HQD.out])
            have hnx := deadL_next L (k := q) (n := L.length) (by have := HLn.out; omega)
            rw [HDD.out, HKK.out, HID.out] at hnx
            have hBr : B ≤ wr.heap.size := by omega
            have l0 := HP2.out.lf.cell 0
            have l1 := HP2.out.lf.cell 1
            have r0 := hr2.cell 0
            have r1 := hr2.cell 1
            have r2 := hr2.cell 2
            have r3 := hr2.cell 3
            have r4 := hr2.cell 4
            have hltq : decide ((q : Int) < (q : Int)) = false := by simp
            have HS4 := hide (keptL_succ L HY.out)
            have HS5 := hide (deadL_succ L q)
            rw [HID.out] at HS4 HS5
            clear hr2
            rcases hnx with ⟨rfl, hD⟩ | ⟨rfl, hD⟩
            · have hkd : kk < dn := by rw [← HDN.out]; exact (List.getElem?_eq_some_iff.1 hD).1
              obtain ⟨g5, o5, y, hA5e, hg5, hy5, c5'⟩ := nat_at HP2.out.ds hkd
              rw [hD] at hy5
              obtain rfl : q = y := Option.some.inj hy5
              subst hA5e
              have hd1 : decide ((kk : Int) < (dn : Int)) = true := by simp; omega
              have hk0 : (0 : Int) ≤ (kk : Int) := by omega
              have hk1 : (kk : Int) < (dn : Int) := by omega
              have HP3 : Hid (PdSt w wr s (some ⟨g, o, none⟩) n3 c1 L x z (some ⟨g5, o5, none⟩) dn c5 D R7 B V (keptL L (q + 1))) := hide (by rw [HS4.out]; simpa using HP2.out)
              have HLen : Hid ((deadL L (q + 1)).length = kk + 1) := hide (by rw [HS5.out]; simp [HKK.out])
              clear hD hy5
              go_wp2
              go_roundw
              case rel => exact ⟨q + 1, by omega, by go_num, by rw [HLen.out]; go_num, V, HP3.out, hBr⟩
              case measure => simp [intOf]; omega
            · have hcase : (decide (kk < dn) = false) ∨ (kk < dn) := by
                by_cases h : kk < dn
                · exact .inr h
                · exact .inl (by simp; omega)
              have HLen : Hid ((deadL L (q + 1)).length = kk) := hide (by rw [HS5.out]; simp [HKK.out])
              obtain ⟨i0, hi, hz0, hz1, hz2⟩ := info_parts prInfo
              obtain ⟨ml, hml⟩ : ∃ ml, (keptL L q).length = ml := ⟨_, rfl⟩
              have hm30 := keptL_len L q
              have HO := hide HP2.out.own
              rw [hml] at HO hm30
              obtain ⟨AL, cl, hVe⟩ := own_slice HO.out
              subst hVe
              have HML := hide hml
              clear hml
              have hend : ∀ (w3 : World) (v3 : Value), w3.ownsRow B 41 5 v3 (ml + 1) (prv (keptL L q) ++ PR.cs ⟨rb, ra, rm, rge, rle⟩) → Below B (wr.alloc (.cells #[.bool rb, .int .u32 (ra : Int), .int .i64 rm, .int .i64 rge, .int .i64 rle] 41)) w3 →
                  PdSt w (w3.setCell ⟨R7, 1, none⟩ v3) s (some ⟨g, o, none⟩) n3 c1 L x z A5 dn c5 D R7 B v3 (keptL L (q + 1)) := by
                intro w3 v3 ho hb
                have hal : Below wr.heap.size wr (wr.alloc (.cells #[.bool rb, .int .u32 (ra : Int), .int .i64 rm, .int .i64 rge, .int .i64 rle] 41)) := (Below.refl _ _).alloc (Nat.le_refl _) _
                have hp := HP2.out.below hal
                have hlf := hp.lf.below hb hR7B
                obtain ⟨A3, c3', he3⟩ := own_slice HO.out
                have hpl := hp.pl.growB HE.out (by omega) HA1.out hb
                have hds : LstAt 1 natR w3 A5 dn c5 D := lst_belowB hp.ds (fun _ _ _ h => h) HA5.out hb
                refine ⟨hpl.setR HE.out hlf hR7w no_bool_2 1 v3, nats_setR hds hlf no_int_2 1 v3, hlf.set_ 1 v3, ?_⟩
                rw [HS4.out, List.length_append, HML.out]
                have hne : v3.ownBlock ≠ some R7 := fun e => by have := own_low_block ho R7 e; omega
                have := own_set ho hne (i := 1) v3
                simpa [prv] using this
              have HEnd := hide hend
              have hal3 : Below wr.heap.size wr (wr.alloc (.cells #[.bool rb, .int .u32 (ra : Int), .int .i64 rm, .int .i64 rge, .int .i64 rle] 41)) := (Below.refl _ _).alloc (Nat.le_refl _) _
              have HAl3 := hide hal3
              have HLf := hide (HP2.out.lf.below hal3 HP2.out.lf.lt)
              have HOa := hide (own_below HO.out hal3)
              have hprl : (prv (keptL L q)).length = ml * 5 := by have := HO.out.1; exact this
              have hR7lt : R7 < wr.heap.size := by omega
              have hne7 : ¬ R7 = wr.heap.size := by omega
              clear hend hal3
              have hcase2 : (decide (kk < dn) = false) ∨ (∃ (g5 o5 y : Nat), A5 = some ⟨g5, o5, none⟩ ∧ g5 < wr.heap.size ∧ kk < dn ∧ wr.cell? ⟨g5, o5 + kk, none⟩ = some (.int .i64 (y : Int)) ∧ ((y : Int) == (q : Int)) = false) := by
                rcases hcase with h | h
                · exact .inl h
                · obtain ⟨g5, o5, y, e5, hg5, hy5, c5'⟩ := nat_at HP2.out.ds h
                  exact .inr ⟨g5, o5, y, e5, hg5, h, c5', by have := hD y hy5; simp; omega⟩
              clear hcase hD
              have hfin : ∀ (w3 : World) (A3 : Option Addr) (c3' : Nat), w3.ownsRow B 41 5 (.slice A3 (ml + 1) c3') (ml + 1) (prv (keptL L q) ++ PR.cs ⟨rb, ra, rm, rge, rle⟩) → Below B (wr.alloc (.cells #[.bool rb, .int .u32 (ra : Int), .int .i64 rm, .int .i64 rge, .int .i64 rle] 41)) w3 → B ≤ (w3.setCell ⟨R7, 1, none⟩ (.slice A3 (ml + 1) c3')).heap.size := by
                intro w3 A3 c3' _ hb
                have := hb.size
                simp [World.setCell] at this ⊢; omega
              have HFin := hide hfin
              clear hfin
              rcases hcase2 with hd1 | ⟨g5, o5, y, hA5e, hg5, hkd, c5', hyq⟩
              · go_wp2_with (at_builtin; refine wpList_append_any _ rfl (.tmp 91) (.tmp 93) 31 rfl B 41 i0 _ 5 40 Tryd.underlying31 hi hz0 hz1 hz2 rfl (by decide) (.slice AL ml cl) ml (prv (keptL L q)) rfl HOa.out (wr.heap.size + 1) (some ⟨wr.heap.size, 0, none⟩) 1 1 (PR.cs ⟨rb, ra, rm, rge, rle⟩) rfl (reads_blkN (Blk.new wr _ _) (Nat.lt_succ_self _) rfl rfl) (prOne wr _ _ ⟨rfl, HOk.out⟩) (by unfold maxLen; omega) (by omega) (by simp; omega) ?_; intro v3 w3 hown3 hg3 hor3; have hb3 : Below B (wr.alloc (.cells #[.bool rb, .int .u32 (ra : Int), .int .i64 rm, .int .i64 rge, .int .i64 rle] 41)) w3 := (Below.refl B _).grown hg3 (by simp; omega) (own_low_block HOa.out); have hl3 := HLf.out.below hb3 hR7B; have m0 := hl3.cell 0; have m1 := hl3.cell 1; have mf := hl3.frozen 1; have HE3 := hide (HEnd.out w3 v3 hown3 hb3); obtain ⟨A3, c3', rfl⟩ := own_slice hown3; have HF3 := hide (HFin.out w3 A3 c3' hown3 hb3); clear hown3 hg3 hor3 hb3 hl3)
                go_wp2
                go_roundw
                case rel => exact ⟨q + 1, by omega, by go_num, by rw [HLen.out], _, HE3.out, HF3.out⟩
                case measure => simp [intOf]; omega
              · subst hA5e
                have hd1 : decide ((kk : Int) < (dn : Int)) = true := by simp; omega
                have hk0 : (0 : Int) ≤ (kk : Int) := by omega
                have hk1 : (kk : Int) < (dn : Int) := by omega
                go_wp2_with (at_builtin; refine wpList_append_any _ rfl (.tmp 91) (.tmp 93) 31 rfl B 41 i0 _ 5 40 Tryd.underlying31 hi hz0 hz1 hz2 rfl (by decide) (.slice AL ml cl) ml (prv (keptL L q)) rfl HOa.out (wr.heap.size + 1) (some ⟨wr.heap.size, 0, none⟩) 1 1 (PR.cs ⟨rb, ra, rm, rge, rle⟩) rfl (reads_blkN (Blk.new wr _ _) (Nat.lt_succ_self _) rfl rfl) (prOne wr _ _ ⟨rfl, HOk.out⟩) (by unfold maxLen; omega) (by omega) (by simp; omega) ?_; intro v3 w3 hown3 hg3 hor3; have hb3 : Below B (wr.alloc (.cells #[.bool rb, .int .u32 (ra : Int), .int .i64 rm, .int .i64 rge, .int .i64 rle] 41)) w3 := (Below.refl B _).grown hg3 (by simp; omega) (own_low_block HOa.out); have hl3 := HLf.out.below hb3 hR7B; have m0 := hl3.cell 0; have m1 := hl3.cell 1; have mf := hl3.frozen 1; have HE3 := hide (HEnd.out w3 v3 hown3 hb3); obtain ⟨A3, c3', rfl⟩ := own_slice hown3; have HF3 := hide (HFin.out w3 A3 c3' hown3 hb3); clear hown3 hg3 hor3 hb3 hl3)
                go_wp2
                go_roundw
                case rel => exact ⟨q + 1, by omega, by go_num, by rw [HLen.out], _, HE3.out, HF3.out⟩
                case measure => simp [intOf]; omega
      · obtain rfl : i = n3 := by omega
        have hdl : (deadL L i).length = dn := by rw [← HLn.out, HDD.out, HDN.out]
        rw [hdl] at hkl ⊢
        obtain ⟨ml, hml⟩ : ∃ ml, (keptL L i).length = ml := ⟨_, rfl⟩
        obtain ⟨AL, cl, hVe⟩ := own_slice HP.out.own
        subst hVe
        rw [hml] at HP
        have HML := hide hml
        have hok : ∀ r ∈ keptL L i, r.Ok := fun r hr => by
          obtain ⟨j, hj, hx⟩ := keptL_mem hr
          obtain ⟨g, o, b, a, m, ge, le, _, _, hy, hok, _⟩ := PRat HP.out.pl.ls hj
          rw [hx] at hy; injection hy with hy; rw [hy]; exact hok
        have HPl := hide (fun (W : World) (hb : Below wo.heap.size wo W) => pPermits_any s AL ml cl (keptL L i) x z W (by
          have ho := (HP.out.below hb).own
          rw [hml] at ho
          exact LstAt.of_own (by decide) ho (prv_chunks _ hok)) HX.out)
        have HPr := hide (fun (W : World) (hb : Below wo.heap.size wo W) => refPPermits_any s A1 i c1 L x z W (HP.out.below hb).pl.ls HX.out)
        have HLv := hide (fun (W : World) (hb : Below wo.heap.size wo W) => plives17_any W (HP.out.below hb).pl.env)
        have hpm := kept_perm L x z
        rw [HLn.out] at hpm
        obtain ⟨Pm, hPm⟩ : ∃ Pm, prPerm (phitP x z) L = Pm := ⟨_, rfl⟩
        rw [hpm, hPm] at HPl
        rw [hPm] at HPr
        clear hml hok hpm hPm hdl
        go_wp2
        refine wp_region_rel [(fun v _ => v = .int .i64 (dn : Int)), (fun v _ => v = .slice A5 dn c5), (fun v _ => v = .int .i64 (dn : Int)), (fun v _ => v = .bool true), (fun v _ => v = .bool true), (fun v _ => v = .agg #[.string s, .slice AL ml cl]), (fun v _ => v = .agg #[.int .u32 (x : Int), .int .i64 z]), (fun v _ => v = .bool Pm), (fun v _ => v = .agg #[.string s, .slice A1 i c1]), (fun v _ => v = .agg #[.int .u32 (x : Int), .int .i64 z]), (fun v _ => v = .bool Pm), (fun v _ => v = .bool true), (fun v _ => v = .bool true), (fun v _ => v = .bool true), (fun v _ => v = .bool true), (fun v _ => v = .bool true), (fun v _ => v = .bool true)] (by kernel_rfl) (by kernel_rfl) (relMono _ ⟨fun _ _ _ _ h => h, fun _ _ _ _ h => h, fun _ _ _ _ h => h, fun _ _ _ _ h => h, fun _ _ _ _ h => h, fun _ _ _ _ h => h, fun _ _ _ _ h => h, fun _ _ _ _ h => h, fun _ _ _ _ h => h, fun _ _ _ _ h => h, fun _ _ _ _ h => h, fun _ _ _ _ h => h, fun _ _ _ _ h => h, fun _ _ _ _ h => h, fun _ _ _ _ h => h, fun _ _ _ _ h => h, fun _ _ _ _ h => h, trivial⟩) ⟨?_, ?_, ?_, ?_, ?_, ?_, ?_, ?_, ?_, ?_, ?_, ?_, ?_, ?_, ?_, ?_, ?_, trivial⟩ ?_
        · refine relStep_plain rfl ?_
          intro Ac w5 hp
          have hb := hp.bel
          have a6 : Ac.eval (.tmp 6) = .int .i64 (dn : Int) := hp.out 6 (by rfl)
          have hc := evalC Ac; have hf := evalF Ac; have hgl := evalG Ac
          obtain ⟨ρ, hρ⟩ : ∃ ρ, Ac.eval = ρ := ⟨_, rfl⟩
          rw [hρ] at a6 hc hf hgl
          exact relPure hρ (.int .i64 (dn : Int)) (by simp [go_sem, hc, hf, hgl, ↓IntWalk.iteOmega, a6, *]) rfl
        · refine relStep_plain rfl ?_
          intro Ac w5 hp
          have hb := hp.bel
          have a5 : Ac.eval (.tmp 5) = .slice A5 dn c5 := hp.out 5 (by rfl)
          have hc := evalC Ac; have hf := evalF Ac; have hgl := evalG Ac
          obtain ⟨ρ, hρ⟩ : ∃ ρ, Ac.eval = ρ := ⟨_, rfl⟩
          rw [hρ] at a5 hc hf hgl
          exact relPure hρ (.slice A5 dn c5) (by simp [go_sem, hc, hf, hgl, ↓IntWalk.iteOmega, a5, *]) rfl
        · refine relStep_plain rfl ?_
          intro Ac w5 hp
          have hb := hp.bel
          have a97 : Ac.eval (.tmp 97) = .slice A5 dn c5 := hp.dep 1 (by kernel_rfl)
          have hc := evalC Ac; have hf := evalF Ac; have hgl := evalG Ac
          obtain ⟨ρ, hρ⟩ : ∃ ρ, Ac.eval = ρ := ⟨_, rfl⟩
          rw [hρ] at a97 hc hf hgl
          exact relPure hρ (.int .i64 (dn : Int)) (by simp [go_sem, hc, hf, hgl, ↓IntWalk.iteOmega, a97, *]) rfl
        · refine relStep_plain rfl ?_
          intro Ac w5 hp
          have hb := hp.bel
          have a96 : Ac.eval (.tmp 96) = .int .i64 (dn : Int) := hp.dep 0 (by kernel_rfl)
          have a98 : Ac.eval (.tmp 98) = .int .i64 (dn : Int) := hp.dep 2 (by kernel_rfl)
          have hc := evalC Ac; have hf := evalF Ac; have hgl := evalG Ac
          obtain ⟨ρ, hρ⟩ : ∃ ρ, Ac.eval = ρ := ⟨_, rfl⟩
          rw [hρ] at a96 a98 hc hf hgl
          exact relPure hρ (.bool true) (by simp [go_sem, hc, hf, hgl, ↓IntWalk.iteOmega, a96, a98, *]) rfl
        · refine relStep_plain rfl ?_
          intro Ac w5 hp
          have hb := hp.bel
          have a99 : Ac.eval (.tmp 99) = .bool true := hp.dep 3 (by kernel_rfl)
          have hc := evalC Ac; have hf := evalF Ac; have hgl := evalG Ac
          obtain ⟨ρ, hρ⟩ : ∃ ρ, Ac.eval = ρ := ⟨_, rfl⟩
          rw [hρ] at a99 hc hf hgl
          exact relPure hρ (.bool true) (by simp [go_sem, hc, hf, hgl, ↓IntWalk.iteOmega, a99, *]) rfl
        · refine relStep_guard (g := 4) (b := true) (x := true) rfl (by kernel_rfl) rfl (by kernel_rfl) rfl (fun _ _ h => h) ?_
          intro Ac w5 hp
          have hb := hp.bel
          have a7 : Ac.eval (.tmp 7) = .pointer (some ⟨R7, 0, none⟩) := hp.out 7 (by rfl)
          have hS := HP.out.below hb
          have x0 := hS.pl.bl.cell 0
          have x1 := hS.pl.bl.cell 1
          have y0 := hS.pl.bp.cell 0
          have y1 := hS.pl.bp.cell 1
          have l0 := hS.lf.cell 0
          have l1 := hS.lf.cell 1
          clear hS
          have hc := evalC Ac; have hf := evalF Ac; have hgl := evalG Ac
          obtain ⟨ρ, hρ⟩ : ∃ ρ, Ac.eval = ρ := ⟨_, rfl⟩
          rw [hρ] at a7 hc hf hgl
          exact relPure hρ (.agg #[.string s, .slice AL ml cl]) (by simp [go_sem, hc, hf, hgl, ↓IntWalk.iteOmega, a7, *]) rfl
        · refine relStep_guard (g := 4) (b := true) (x := true) rfl (by kernel_rfl) rfl (by kernel_rfl) rfl (fun _ _ h => h) ?_
          intro Ac w5 hp
          have hb := hp.bel
          have a3 : Ac.eval (.tmp 3) = .pointer (some ⟨w.heap.size + 1, 0, none⟩) := hp.out 3 (by rfl)
          have hS := HP.out.below hb
          have x0 := hS.pl.bl.cell 0
          have x1 := hS.pl.bl.cell 1
          have y0 := hS.pl.bp.cell 0
          have y1 := hS.pl.bp.cell 1
          have l0 := hS.lf.cell 0
          have l1 := hS.lf.cell 1
          clear hS
          have hc := evalC Ac; have hf := evalF Ac; have hgl := evalG Ac
          obtain ⟨ρ, hρ⟩ : ∃ ρ, Ac.eval = ρ := ⟨_, rfl⟩
          rw [hρ] at a3 hc hf hgl
          exact relPure hρ (.agg #[.int .u32 (x : Int), .int .i64 z]) (by simp [go_sem, hc, hf, hgl, ↓IntWalk.iteOmega, a3, *]) rfl
        · refine relStep_guard (g := 4) (b := true) (x := true) rfl (by kernel_rfl) rfl (by kernel_rfl) rfl (fun _ _ h => h) ?_
          intro Ac w5 hp
          have hb := hp.bel
          have a101 : Ac.eval (.tmp 101) = .agg #[.string s, .slice AL ml cl] := hp.dep 5 (by kernel_rfl)
          have a102 : Ac.eval (.tmp 102) = .agg #[.int .u32 (x : Int), .int .i64 z] := hp.dep 6 (by kernel_rfl)
          have hc := evalC Ac; have hf := evalF Ac; have hgl := evalG Ac
          obtain ⟨ρ, hρ⟩ : ∃ ρ, Ac.eval = ρ := ⟨_, rfl⟩
          rw [hρ] at a101 a102 hc hf hgl
          refine relCall hρ 13 #[.agg #[.string s, .slice AL ml cl], .agg #[.int .u32 (x : Int), .int .i64 z]] (by simp [go_sem, hc, hf, hgl, ↓IntWalk.iteOmega, a101, a102, *]) ?_
          refine (HPl.out w5 hb).mono ?_
          rintro e w6 ⟨rfl, hb6⟩
          exact ⟨_, rfl, rfl, hb6⟩
        · refine relStep_guard (g := 4) (b := true) (x := true) rfl (by kernel_rfl) rfl (by kernel_rfl) rfl (fun _ _ h => h) ?_
          intro Ac w5 hp
          have hb := hp.bel
          have a2 : Ac.eval (.tmp 2) = .pointer (some ⟨w.heap.size, 0, none⟩) := hp.out 2 (by rfl)
          have hS := HP.out.below hb
          have x0 := hS.pl.bl.cell 0
          have x1 := hS.pl.bl.cell 1
          have y0 := hS.pl.bp.cell 0
          have y1 := hS.pl.bp.cell 1
          have l0 := hS.lf.cell 0
          have l1 := hS.lf.cell 1
          clear hS
          have hc := evalC Ac; have hf := evalF Ac; have hgl := evalG Ac
          obtain ⟨ρ, hρ⟩ : ∃ ρ, Ac.eval = ρ := ⟨_, rfl⟩
          rw [hρ] at a2 hc hf hgl
          exact relPure hρ (.agg #[.string s, .slice A1 i c1]) (by simp [go_sem, hc, hf, hgl, ↓IntWalk.iteOmega, a2, *]) rfl
        · refine relStep_guard (g := 4) (b := true) (x := true) rfl (by kernel_rfl) rfl (by kernel_rfl) rfl (fun _ _ h => h) ?_
          intro Ac w5 hp
          have hb := hp.bel
          have a3 : Ac.eval (.tmp 3) = .pointer (some ⟨w.heap.size + 1, 0, none⟩) := hp.out 3 (by rfl)
          have hS := HP.out.below hb
          have x0 := hS.pl.bl.cell 0
          have x1 := hS.pl.bl.cell 1
          have y0 := hS.pl.bp.cell 0
          have y1 := hS.pl.bp.cell 1
          have l0 := hS.lf.cell 0
          have l1 := hS.lf.cell 1
          clear hS
          have hc := evalC Ac; have hf := evalF Ac; have hgl := evalG Ac
          obtain ⟨ρ, hρ⟩ : ∃ ρ, Ac.eval = ρ := ⟨_, rfl⟩
          rw [hρ] at a3 hc hf hgl
          exact relPure hρ (.agg #[.int .u32 (x : Int), .int .i64 z]) (by simp [go_sem, hc, hf, hgl, ↓IntWalk.iteOmega, a3, *]) rfl
        · refine relStep_guard (g := 4) (b := true) (x := true) rfl (by kernel_rfl) rfl (by kernel_rfl) rfl (fun _ _ h => h) ?_
          intro Ac w5 hp
          have hb := hp.bel
          have a104 : Ac.eval (.tmp 104) = .agg #[.string s, .slice A1 i c1] := hp.dep 8 (by kernel_rfl)
          have a105 : Ac.eval (.tmp 105) = .agg #[.int .u32 (x : Int), .int .i64 z] := hp.dep 9 (by kernel_rfl)
          have hc := evalC Ac; have hf := evalF Ac; have hgl := evalG Ac
          obtain ⟨ρ, hρ⟩ : ∃ ρ, Ac.eval = ρ := ⟨_, rfl⟩
          rw [hρ] at a104 a105 hc hf hgl
          refine relCall hρ 14 #[.agg #[.string s, .slice A1 i c1], .agg #[.int .u32 (x : Int), .int .i64 z]] (by simp [go_sem, hc, hf, hgl, ↓IntWalk.iteOmega, a104, a105, *]) ?_
          refine (HPr.out w5 hb).mono ?_
          rintro e w6 ⟨rfl, hb6⟩
          exact ⟨_, rfl, rfl, hb6⟩
        · refine relStep_guard (g := 4) (b := true) (x := true) rfl (by kernel_rfl) rfl (by kernel_rfl) rfl (fun _ _ h => h) ?_
          intro Ac w5 hp
          have hb := hp.bel
          have a103 : Ac.eval (.tmp 103) = .bool Pm := hp.dep 7 (by kernel_rfl)
          have a106 : Ac.eval (.tmp 106) = .bool Pm := hp.dep 10 (by kernel_rfl)
          have hc := evalC Ac; have hf := evalF Ac; have hgl := evalG Ac
          obtain ⟨ρ, hρ⟩ : ∃ ρ, Ac.eval = ρ := ⟨_, rfl⟩
          rw [hρ] at a103 a106 hc hf hgl
          exact relPure hρ (.bool true) (by simp [go_sem, hc, hf, hgl, ↓IntWalk.iteOmega, a103, a106, *]) rfl
        · refine relStep_plain rfl ?_
          intro Ac w5 hp
          have hb := hp.bel
          have a100 : Ac.eval (.tmp 100) = .bool true := hp.dep 4 (by kernel_rfl)
          have a107 : Ac.eval (.tmp 107) = .bool true := hp.dep 11 (by kernel_rfl)
          have hc := evalC Ac; have hf := evalF Ac; have hgl := evalG Ac
          obtain ⟨ρ, hρ⟩ : ∃ ρ, Ac.eval = ρ := ⟨_, rfl⟩
          rw [hρ] at a100 a107 hc hf hgl
          exact relPure hρ (.bool true) (by simp [go_sem, hc, hf, hgl, ↓IntWalk.iteOmega, a100, a107, *]) rfl
        · refine relStep_plain rfl ?_
          intro Ac w5 hp
          have hb := hp.bel
          have a108 : Ac.eval (.tmp 108) = .bool true := hp.dep 12 (by kernel_rfl)
          have hc := evalC Ac; have hf := evalF Ac; have hgl := evalG Ac
          obtain ⟨ρ, hρ⟩ : ∃ ρ, Ac.eval = ρ := ⟨_, rfl⟩
          rw [hρ] at a108 hc hf hgl
          exact relPure hρ (.bool true) (by simp [go_sem, hc, hf, hgl, ↓IntWalk.iteOmega, a108, *]) rfl
        · refine relStep_guard (g := 13) (b := true) (x := true) rfl (by kernel_rfl) rfl (by kernel_rfl) rfl (fun _ _ h => h) ?_
          intro Ac w5 hp
          have hb := hp.bel
          have hc := evalC Ac; have hf := evalF Ac; have hgl := evalG Ac
          obtain ⟨ρ, hρ⟩ : ∃ ρ, Ac.eval = ρ := ⟨_, rfl⟩
          rw [hρ] at hc hf hgl
          refine relCall hρ 15 #[] (by simp [go_sem, hc, hf, hgl, ↓IntWalk.iteOmega, *]) ?_
          refine (HLv.out w5 hb).mono ?_
          rintro e w6 ⟨rfl, hb6⟩
          exact ⟨_, rfl, rfl, hb6⟩
        · refine relStep_plain rfl ?_
          intro Ac w5 hp
          have hb := hp.bel
          have a109 : Ac.eval (.tmp 109) = .bool true := hp.dep 13 (by kernel_rfl)
          have a110 : Ac.eval (.tmp 110) = .bool true := hp.dep 14 (by kernel_rfl)
          have hc := evalC Ac; have hf := evalF Ac; have hgl := evalG Ac
          obtain ⟨ρ, hρ⟩ : ∃ ρ, Ac.eval = ρ := ⟨_, rfl⟩
          rw [hρ] at a109 a110 hc hf hgl
          exact relPure hρ (.bool true) (by simp [go_sem, hc, hf, hgl, ↓IntWalk.iteOmega, a109, a110, *]) rfl
        · refine relStep_plain rfl ?_
          intro Ac w5 hp
          have hb := hp.bel
          have a111 : Ac.eval (.tmp 111) = .bool true := hp.dep 15 (by kernel_rfl)
          have hc := evalC Ac; have hf := evalF Ac; have hgl := evalG Ac
          obtain ⟨ρ, hρ⟩ : ∃ ρ, Ac.eval = ρ := ⟨_, rfl⟩
          rw [hρ] at a111 hc hf hgl
          exact relPure hρ (.bool true) (by simp [go_sem, hc, hf, hgl, ↓IntWalk.iteOmega, a111, *]) rfl
        intro u w9 hb7 hall
        have e4 : u 16 = .bool true := relAll_at hall (i := 16) (by decide +kernel)
        clear hall
        simp only [List.drop_succ_cons, List.drop_zero, List.take_succ_cons, List.take_zero, putAll, Act.put, List.setIfInBounds_toArray, List.set_cons_zero, List.set_cons_succ, Nat.zero_add, Nat.reduceAdd, e4]
        have HE9 := hide (HP.out.pl.bel.trans (hb7.mono HP.out.pl.bel.size))
        clear hb7 e4
        go_wp2
        go_ret
        exact ⟨rfl, HE9.out⟩
  · have HS2 := HS1
    have HLl : Hid (L0.take 110 = L0) := hide (List.take_of_length_le (by have := HS1.out.ls.1; omega))
    go_wp2
    refine code_genP (fun W => ∃ n3 L, PlSt w W s A1 n3 c1 L x z ∧ L.take 110 = L ∧ n3 ≤ 30) ⟨n1, L0, HS2.out, HLl.out, h30⟩ ?_
    clear HS2 HLl
    --T2
    rintro W0 ⟨n3, L, hS, hL110, hn30⟩
    have HS3 := hide hS
    have HLl := hide hL110
    have HLn : Hid (L.length = n3) := hide hS.ls.1
    clear hS hL110 hd h30 HS1 x0 x1 y0 y1 z0 z1 HKL HAb
    obtain ⟨D, hD⟩ : ∃ D, deadL L L.length = D := ⟨_, rfl⟩
    obtain ⟨dn, hdn⟩ : ∃ dn, D.length = dn := ⟨_, rfl⟩
    have HDD := hide hD
    have HDN := hide hdn
    have HF := hide (fun (W : World) (hb : Below W0.heap.size W0 W) => by have := pFew_any s A1 n3 c1 L W (HS3.out.below hb).ls; rw [HLl.out] at this; exact this)
    have HD := hide (fun (A : Option Addr) (n c : Nat) (W : World) (h : LstAt 5 prR W A n c L) => (pDead_any s A n c L W h (by have := h.1; have := HLn.out; omega)).mono (fun e w' ⟨A', c', he', ho, hb⟩ => by
      rw [hD] at he' ho
      rw [hdn] at he' ho
      exact (show ∃ A c, e = .returned (.slice A dn c) ∧ LstAt 1 natR w' A dn c D ∧ Below W.heap.size W w' from ⟨A', c', he', LstAt.of_own (by decide) ho (natv_chunks D), hb⟩)))
    have hn3s : dn ≤ 30 := by rw [← hdn, ← hD]; have := deadL_len L L.length; have := HLn.out; omega
    clear hD hdn
    refine wp_region_relT 9 [(fun v _ => v = .agg #[.string s, .slice A1 n3 c1]), (fun v w => ∃ A n c, v = .agg #[.string s, .slice A n c] ∧ LstAt 5 prR w A n c L), (fun v w => ∃ A c, v = .slice A dn c ∧ LstAt 1 natR w A dn c D), (fun v _ => v = .pointer (some ⟨w.heap.size, 0, none⟩)), (fun v _ => v = .string s), (fun v _ => v = .agg #[.string s, .slice none 0 0]), (fun v w => ∃ R, v = .pointer (some ⟨R, 0, none⟩) ∧ Blk w R 33 #[.string ⟨#[]⟩, .slice none 0 0] ∧ W0.heap.size ≤ R), (fun v w => ∃ A c, v = .slice A dn c ∧ LstAt 1 natR w A dn c D), (fun v _ => v = .int .i64 0)] (by kernel_rfl) (by kernel_rfl) (by kernel_rfl) (by kernel_rfl) (by kernel_rfl) (relMono _ ⟨fun _ _ _ _ h => h, fun v w w2 hb ⟨A, n, c, e, h⟩ => ⟨A, n, c, e, h.below prMono hb⟩, fun v w w2 hb ⟨A, c, e, h⟩ => ⟨A, c, e, h.below natMono hb⟩, fun _ _ _ _ h => h, fun _ _ _ _ h => h, fun _ _ _ _ h => h, fun v w w2 hb ⟨R, e, h, h2⟩ => ⟨R, e, h.below hb h.lt, h2⟩, fun v w w2 hb ⟨A, c, e, h⟩ => ⟨A, c, e, h.below natMono hb⟩, fun _ _ _ _ h => h, trivial⟩) ⟨?_, ?_, ?_, ?_, ?_, ?_, ?_, ?_, ?_, trivial⟩ ?_
    · refine relStep_plain rfl ?_
      intro Ac w5 hp
      have hb := hp.bel
      have a2 : Ac.eval (.tmp 2) = .pointer (some ⟨w.heap.size, 0, none⟩) := hp.out 2 (by rfl)
      have hS := HS3.out.below hb
      have x0 := hS.bl.cell 0
      have x1 := hS.bl.cell 1
      clear hS
      have hc := evalC Ac; have hf := evalF Ac; have hgl := evalG Ac
      obtain ⟨ρ, hρ⟩ : ∃ ρ, Ac.eval = ρ := ⟨_, rfl⟩
      rw [hρ] at a2 hc hf hgl
      exact relPure hρ (.agg #[.string s, .slice A1 n3 c1]) (by simp [go_sem, hc, hf, hgl, ↓IntWalk.iteOmega, a2, *]) rfl
    · refine relStep_plain rfl ?_
      intro Ac w5 hp
      have hb := hp.bel
      have a23 : Ac.eval (.tmp 23) = .agg #[.string s, .slice A1 n3 c1] := hp.dep 0 (by kernel_rfl)
      have hc := evalC Ac; have hf := evalF Ac; have hgl := evalG Ac
      obtain ⟨ρ, hρ⟩ : ∃ ρ, Ac.eval = ρ := ⟨_, rfl⟩
      rw [hρ] at a23 hc hf hgl
      refine relCall hρ 10 #[.agg #[.string s, .slice A1 n3 c1]] (by simp [go_sem, hc, hf, hgl, ↓IntWalk.iteOmega, a23, *]) ?_
      refine (HF.out w5 hb).mono ?_
      rintro e w6 ⟨A6, n6, c6, rfl, hl6, _, hb6⟩
      exact ⟨_, rfl, ⟨A6, n6, c6, rfl, hl6⟩, hb6⟩
    · refine relStep_plain rfl ?_
      intro Ac w5 hp
      have hb := hp.bel
      obtain ⟨Af3, nf3, cf3, a24, hl3⟩ := hp.dep 1 (by kernel_rfl)
      change Ac.eval (.tmp 24) = _ at a24
      have hc := evalC Ac; have hf := evalF Ac; have hgl := evalG Ac
      obtain ⟨ρ, hρ⟩ : ∃ ρ, Ac.eval = ρ := ⟨_, rfl⟩
      rw [hρ] at a24 hc hf hgl
      refine relCall hρ 11 #[.agg #[.string s, .slice Af3 nf3 cf3]] (by simp [go_sem, hc, hf, hgl, ↓IntWalk.iteOmega, a24, *]) ?_
      refine (HD.out Af3 nf3 cf3 w5 hl3).mono ?_
      rintro e w6 ⟨A6, c6, rfl, hl6, hb6⟩
      exact ⟨_, rfl, ⟨A6, c6, rfl, hl6⟩, hb6⟩
    · refine relStep_plain rfl ?_
      intro Ac w5 hp
      have hb := hp.bel
      have a2 : Ac.eval (.tmp 2) = .pointer (some ⟨w.heap.size, 0, none⟩) := hp.out 2 (by rfl)
      have hc := evalC Ac; have hf := evalF Ac; have hgl := evalG Ac
      obtain ⟨ρ, hρ⟩ : ∃ ρ, Ac.eval = ρ := ⟨_, rfl⟩
      rw [hρ] at a2 hc hf hgl
      exact relPure hρ (.pointer (some ⟨w.heap.size, 0, none⟩)) (by simp [go_sem, hc, hf, hgl, ↓IntWalk.iteOmega, a2, *]) rfl
    · refine relStep_plain rfl ?_
      intro Ac w5 hp
      have hb := hp.bel
      have a26 : Ac.eval (.tmp 26) = .pointer (some ⟨w.heap.size, 0, none⟩) := hp.dep 3 (by kernel_rfl)
      have hS := HS3.out.below hb
      have x0 := hS.bl.cell 0
      have x1 := hS.bl.cell 1
      clear hS
      have hc := evalC Ac; have hf := evalF Ac; have hgl := evalG Ac
      obtain ⟨ρ, hρ⟩ : ∃ ρ, Ac.eval = ρ := ⟨_, rfl⟩
      rw [hρ] at a26 hc hf hgl
      exact relPure hρ (.string s) (by simp [go_sem, hc, hf, hgl, ↓IntWalk.iteOmega, a26, *]) rfl
    · refine relStep_plain rfl ?_
      intro Ac w5 hp
      have hb := hp.bel
      have a27 : Ac.eval (.tmp 27) = .string s := hp.dep 4 (by kernel_rfl)
      have hc := evalC Ac; have hf := evalF Ac; have hgl := evalG Ac
      obtain ⟨ρ, hρ⟩ : ∃ ρ, Ac.eval = ρ := ⟨_, rfl⟩
      rw [hρ] at a27 hc hf hgl
      exact relPure hρ (.agg #[.string s, .slice none 0 0]) (by simp [go_sem, hc, hf, hgl, ↓IntWalk.iteOmega, a27, *]) rfl
    · refine relStep_plain rfl ?_
      intro Ac w5 hp
      have hb := hp.bel
      have hc := evalC Ac; have hf := evalF Ac; have hgl := evalG Ac
      obtain ⟨ρ, hρ⟩ : ∃ ρ, Ac.eval = ρ := ⟨_, rfl⟩
      rw [hρ] at hc hf hgl
      exact relVal hρ (.pointer (some ⟨w5.heap.size, 0, none⟩)) (w5.alloc (.cells #[.string ⟨#[]⟩, .slice none 0 0] 33)) (by simp [go_sem, hc, hf, hgl, ↓IntWalk.iteOmega, *]) ⟨_, rfl, Blk.new w5 _ _, hb.size⟩ ((Below.refl _ _).alloc (Nat.le_refl _) _)
    · refine relStep_plain rfl ?_
      intro Ac w5 hp
      have hb := hp.bel
      obtain ⟨A25, c25, a25, hl25⟩ := hp.dep 2 (by kernel_rfl)
      change Ac.eval (.tmp 25) = _ at a25
      have hc := evalC Ac; have hf := evalF Ac; have hgl := evalG Ac
      obtain ⟨ρ, hρ⟩ : ∃ ρ, Ac.eval = ρ := ⟨_, rfl⟩
      rw [hρ] at a25 hc hf hgl
      exact relPure hρ (.slice A25 dn c25) (by simp [go_sem, hc, hf, hgl, ↓IntWalk.iteOmega, a25, *]) ⟨A25, c25, rfl, hl25⟩
    · refine relStep_plain rfl ?_
      intro Ac w5 hp
      have hb := hp.bel
      have hc := evalC Ac; have hf := evalF Ac; have hgl := evalG Ac
      obtain ⟨ρ, hρ⟩ : ∃ ρ, Ac.eval = ρ := ⟨_, rfl⟩
      rw [hρ] at hc hf hgl
      exact relPure hρ (.int .i64 0) (by simp [go_sem, hc, hf, hgl, ↓IntWalk.iteOmega, *]) rfl
    intro u w4 hb7 hall
    have e28 : u 5 = .agg #[.string s, .slice none 0 0] := relAll_at hall (i := 5) (by decide +kernel)
    obtain ⟨A5, c5, e5, hl5⟩ := relAll_at hall (i := 7) (by decide +kernel)
    change u 7 = _ at e5
    have e6 : u 8 = .int .i64 0 := relAll_at hall (i := 8) (by decide +kernel)
    obtain ⟨R7, e7, hR7, hRb7⟩ := relAll_at hall (i := 6) (by decide +kernel)
    change u 6 = _ at e7
    clear hall
    simp only [List.drop_succ_cons, List.drop_zero, List.take_succ_cons, List.take_zero, putAll, Act.put, List.setIfInBounds_toArray, List.set_cons_zero, List.set_cons_succ, Nat.zero_add, Nat.reduceAdd, e28, e5, e6, e7]
    have HS4 := hide (HS3.out.below hb7)
    have HB0 := hide (HS3.out.bp.lt)
    have hR7w : w.heap.size + 1 < R7 := Nat.lt_of_lt_of_le HB0.out hRb7
    have z0 := hR7.cell 0
    have z1 := hR7.cell 1
    have y0 := hR7.frozen 0
    have y1 := hR7.frozen 1
    obtain ⟨B, hBe⟩ : ∃ B, w4.heap.size = B := ⟨_, rfl⟩
    have HA1 : Hid (0 < n3 → ∀ ad, A1 = some ad → ad.block < B) := hide (fun h => by rw [← hBe]; exact lst_lt HS4.out.ls h)
    have HA5 : Hid (0 < dn → ∀ ad, A5 = some ad → ad.block < B) := hide (fun h => by rw [← hBe]; exact lst_lt hl5 h)
    have hR7B : R7 < B := by rw [← hBe]; exact hR7.lt
    have HP0 : Hid (PdSt w ((w4.setCell ⟨R7, 0, none⟩ (.string s)).setCell ⟨R7, 1, none⟩ (.slice none 0 0)) s A1 n3 c1 L x z A5 dn c5 D R7 B (.slice none 0 0) (keptL L 0)) := hide
      ⟨(HS4.out.setR HE.out hR7 hR7w no_bool_2 0 _).setR HE.out (hR7.set_ 0 (.string s)) hR7w no_bool_2 1 _, nats_setR (nats_setR hl5 hR7 no_int_2 0 _) (hR7.set_ 0 (.string s)) no_int_2 1 _, (hR7.set_ 0 (.string s)).set_ 1 (.slice none 0 0), ⟨rfl, .inl ⟨rfl, rfl⟩⟩⟩
    have HB4 : Hid (B ≤ ((w4.setCell ⟨R7, 0, none⟩ (.string s)).setCell ⟨R7, 1, none⟩ (.slice none 0 0)).heap.size) := hide (by rw [← hBe]; simp [World.setCell])
    clear hb7 e28 e5 e6 e7 hl5 hBe HS3 HF HD
    go_wp2
    clear HS4 hR7 z0 z1 y0 y1
    go_loopw [6, 8] (fun kv iv wr => ∃ i : Nat, i ≤ n3 ∧ iv = .int .i64 (i : Nat) ∧ kv = .int .i64 ((deadL L i).length : Nat) ∧ ∃ V, PdSt w wr s A1 n3 c1 L x z A5 dn c5 D R7 B V (keptL L i) ∧ B ≤ wr.heap.size) (fun _ iv _ => n3 - (intOf iv).toNat)
    case atStart => exact ⟨0, Nat.zero_le _, rfl, rfl, _, HP0.out, HB4.out⟩
    case round =>
      obtain ⟨i, hi, rfl, rfl, V, hst, hBw⟩ := hrel
      obtain ⟨wo, hwo⟩ : ∃ wo, wo = wr := ⟨_, rfl⟩
      subst hwo
      have HP := hide hst
      have hnc := hst.pl.ls.2.1
      have hcm := hst.pl.ls.2.2.1
      unfold maxLen at hcm
      have x0 := hst.pl.bl.cell 0
      have x1 := hst.pl.bl.cell 1
      clear hst
      have hkl := deadL_len L i
      by_cases hlt : i < n3
      · obtain ⟨g, o, rb, ra, rm, rge, rle, hAe, hg, hy, hok, c0, c1', c2, c3, c4⟩ := PRat HP.out.pl.ls hlt
        subst hAe
        have HY := hide hy
        have HOk := hide hok
        have C0 := hide c0
        have C1 := hide c1'
        have C2 := hide c2
        have C3 := hide c3
        have C4 := hide c4
        have hi0 : (0 : Int) ≤ (i : Int) := by omega
        have hi1 : (i : Int) < (n3 : Int) := by omega
        obtain ⟨kk, hkk⟩ : ∃ kk, (deadL L i).length = kk := ⟨_, rfl⟩
        rw [hkk] at hkl ⊢
        have HKK := hide hkk
        clear hkk hy hok c0 c1' c2 c3 c4
        go_wp2
        refine wp_region_relT 7 [(fun v _ => v = .pointer (some ⟨w.heap.size, 1, none⟩)), (fun v _ => v = .slice (some ⟨g, o, none⟩) n3 c1), (fun v _ => v = .int .i64 (i : Int)), (fun v _ => v = .pointer (some ⟨g, o + i * 5, none⟩)), (fun v _ => v = .agg #[.bool rb, .int .u32 (ra : Int), .int .i64 rm, .int .i64 rge, .int .i64 rle]), (fun v w => ∃ R, v = .pointer (some ⟨R, 0, none⟩) ∧ Blk w R 41 #[.bool false, .int .u32 0, .int .i64 0, .int .i64 0, .int .i64 0] ∧ wo.heap.size ≤ R), (fun v _ => v = .bool false)] (by kernel_rfl) (by kernel_rfl) (by kernel_rfl) (by kernel_rfl) (by kernel_rfl) (relMono _ ⟨fun _ _ _ _ h => h, fun _ _ _ _ h => h, fun _ _ _ _ h => h, fun _ _ _ _ h => h, fun _ _ _ _ h => h, fun v w w2 hb ⟨R, e, h, h2⟩ => ⟨R, e, h.below hb h.lt, h2⟩, fun _ _ _ _ h => h, trivial⟩) ⟨?_, ?_, ?_, ?_, ?_, ?_, ?_, trivial⟩ ?_
        · refine relStep_plain rfl ?_
          intro Ac w5 hp
          have hb := hp.bel
          have a2 : Ac.eval (.tmp 2) = .pointer (some ⟨w.heap.size, 0, none⟩) := hp.out 2 (by rfl)
          have hc := evalC Ac; have hf := evalF Ac; have hgl := evalG Ac
          obtain ⟨ρ, hρ⟩ : ∃ ρ, Ac.eval = ρ := ⟨_, rfl⟩
          rw [hρ] at a2 hc hf hgl
          exact relPure hρ (.pointer (some ⟨w.heap.size, 1, none⟩)) (by simp [go_sem, hc, hf, hgl, ↓IntWalk.iteOmega, a2, *]) rfl
        · refine relStep_plain rfl ?_
          intro Ac w5 hp
          have hb := hp.bel
          have a36 : Ac.eval (.tmp 36) = .pointer (some ⟨w.heap.size, 1, none⟩) := hp.dep 0 (by kernel_rfl)
          have hS := HP.out.below hb
          have x0 := hS.pl.bl.cell 0
          have x1 := hS.pl.bl.cell 1
          have d0 := (hb.cell (p := ⟨g, o + i * 5, none⟩) hg).trans C0.out
          have d1 := (hb.cell (p := ⟨g, o + i * 5 + 1, none⟩) hg).trans C1.out
          have d2 := (hb.cell (p := ⟨g, o + i * 5 + 2, none⟩) hg).trans C2.out
          have d3 := (hb.cell (p := ⟨g, o + i * 5 + 3, none⟩) hg).trans C3.out
          have d4 := (hb.cell (p := ⟨g, o + i * 5 + 4, none⟩) hg).trans C4.out
          clear hS
          have hc := evalC Ac; have hf := evalF Ac; have hgl := evalG Ac
          obtain ⟨ρ, hρ⟩ : ∃ ρ, Ac.eval = ρ := ⟨_, rfl⟩
          rw [hρ] at a36 hc hf hgl
          exact relPure hρ (.slice (some ⟨g, o, none⟩) n3 c1) (by simp [go_sem, hc, hf, hgl, ↓IntWalk.iteOmega, a36, *]) rfl
        · refine relStep_plain rfl ?_
          intro Ac w5 hp
          have hb := hp.bel
          have a8 : Ac.eval (.tmp 8) = .int .i64 (i : Int) := hp.out 8 (by rfl)
          have hc := evalC Ac; have hf := evalF Ac; have hgl := evalG Ac
          obtain ⟨ρ, hρ⟩ : ∃ ρ, Ac.eval = ρ := ⟨_, rfl⟩
          rw [hρ] at a8 hc hf hgl
          exact relPure hρ (.int .i64 (i : Int)) (by simp [go_sem, hc, hf, hgl, ↓IntWalk.iteOmega, a8, *]) rfl
        · refine relStep_plain rfl ?_
          intro Ac w5 hp
          have hb := hp.bel
          have a37 : Ac.eval (.tmp 37) = .slice (some ⟨g, o, none⟩) n3 c1 := hp.dep 1 (by kernel_rfl)
          have a38 : Ac.eval (.tmp 38) = .int .i64 (i : Int) := hp.dep 2 (by kernel_rfl)
          have hc := evalC Ac; have hf := evalF Ac; have hgl := evalG Ac
          obtain ⟨ρ, hρ⟩ : ∃ ρ, Ac.eval = ρ := ⟨_, rfl⟩
          rw [hρ] at a37 a38 hc hf hgl
          exact relPure hρ (.pointer (some ⟨g, o + i * 5, none⟩)) (by simp [go_sem, hc, hf, hgl, ↓IntWalk.iteOmega, a37, a38, *]) rfl
        · refine relStep_plain rfl ?_
          intro Ac w5 hp
          have hb := hp.bel
          have a39 : Ac.eval (.tmp 39) = .pointer (some ⟨g, o + i * 5, none⟩) := hp.dep 3 (by kernel_rfl)
          have hS := HP.out.below hb
          have x0 := hS.pl.bl.cell 0
          have x1 := hS.pl.bl.cell 1
          have d0 := (hb.cell (p := ⟨g, o + i * 5, none⟩) hg).trans C0.out
          have d1 := (hb.cell (p := ⟨g, o + i * 5 + 1, none⟩) hg).trans C1.out
          have d2 := (hb.cell (p := ⟨g, o + i * 5 + 2, none⟩) hg).trans C2.out
          have d3 := (hb.cell (p := ⟨g, o + i * 5 + 3, none⟩) hg).trans C3.out
          have d4 := (hb.cell (p := ⟨g, o + i * 5 + 4, none⟩) hg).trans C4.out
          clear hS
          have hc := evalC Ac; have hf := evalF Ac; have hgl := evalG Ac
          obtain ⟨ρ, hρ⟩ : ∃ ρ, Ac.eval = ρ := ⟨_, rfl⟩
          rw [hρ] at a39 hc hf hgl
          exact relPure hρ (.agg #[.bool rb, .int .u32 (ra : Int), .int .i64 rm, .int .i64 rge, .int .i64 rle]) (by simp [go_sem, hc, hf, hgl, ↓IntWalk.iteOmega, a39, *]) rfl
        · refine relStep_plain rfl ?_
          intro Ac w5 hp
          have hb := hp.bel
          have hc := evalC Ac; have hf := evalF Ac; have hgl := evalG Ac
          obtain ⟨ρ, hρ⟩ : ∃ ρ, Ac.eval = ρ := ⟨_, rfl⟩
          rw [hρ] at hc hf hgl
          exact relVal hρ (.pointer (some ⟨w5.heap.size, 0, none⟩)) (w5.alloc (.cells #[.bool false, .int .u32 0, .int .i64 0, .int .i64 0, .int .i64 0] 41)) (by simp [go_sem, hc, hf, hgl, ↓IntWalk.iteOmega, *]) ⟨_, rfl, Blk.new w5 _ _, hb.size⟩ ((Below.refl _ _).alloc (Nat.le_refl _) _)
        · refine relStep_plain rfl ?_
          intro Ac w5 hp
          have hb := hp.bel
          have hc := evalC Ac; have hf := evalF Ac; have hgl := evalG Ac
          obtain ⟨ρ, hρ⟩ : ∃ ρ, Ac.eval = ρ := ⟨_, rfl⟩
          rw [hρ] at hc hf hgl
          exact relPure hρ (.bool false) (by simp [go_sem, hc, hf, hgl, ↓IntWalk.iteOmega, *]) rfl
        intro u w6 hb7 hall
        have e9 : u 6 = .bool false := relAll_at hall (i := 6) (by decide +kernel)
        obtain ⟨R10, e10, hR10, hRb10⟩ := relAll_at hall (i := 5) (by decide +kernel)
        change u 5 = _ at e10
        have e40 : u 4 = .agg #[.bool rb, .int .u32 (ra : Int), .int .i64 rm, .int .i64 rge, .int .i64 rle] := relAll_at hall (i := 4) (by decide +kernel)
        clear hall
        simp only [List.drop_succ_cons, List.drop_zero, List.take_succ_cons, List.take_zero, putAll, Act.put, List.setIfInBounds_toArray, List.set_cons_zero, List.set_cons_succ, Nat.zero_add, Nat.reduceAdd, e9, e10, e40]
        have z0 := hR10.cell 0
        have z1 := hR10.cell 1
        have z2 := hR10.cell 2
        have z3 := hR10.cell 3
        have z4 := hR10.cell 4
        have y0 := hR10.frozen 0
        have y1 := hR10.frozen 1
        have y2 := hR10.frozen 2
        have y3 := hR10.frozen 3
        have y4 := hR10.frozen 4
        have hRw : wo.heap.size ≤ R10 := hRb10
        have HW8 : Hid (Below wo.heap.size wo (((((w6.setCell ⟨R10, 0, none⟩ (.bool rb)).setCell ⟨R10, 1, none⟩ (.int .u32 (ra : Int))).setCell ⟨R10, 2, none⟩ (.int .i64 rm)).setCell ⟨R10, 3, none⟩ (.int .i64 rge)).setCell ⟨R10, 4, none⟩ (.int .i64 rle))) := hide (((((hb7.setCell (p := ⟨R10, 0, none⟩) hRw _).setCell (p := ⟨R10, 1, none⟩) hRw _).setCell (p := ⟨R10, 2, none⟩) hRw _).setCell (p := ⟨R10, 3, none⟩) hRw _).setCell (p := ⟨R10, 4, none⟩) hRw _)
        have HR8 : Hid (Blk (((((w6.setCell ⟨R10, 0, none⟩ (.bool rb)).setCell ⟨R10, 1, none⟩ (.int .u32 (ra : Int))).setCell ⟨R10, 2, none⟩ (.int .i64 rm)).setCell ⟨R10, 3, none⟩ (.int .i64 rge)).setCell ⟨R10, 4, none⟩ (.int .i64 rle)) R10 41 #[.bool rb, .int .u32 (ra : Int), .int .i64 rm, .int .i64 rge, .int .i64 rle]) := hide (((((hR10.set_ 0 (.bool rb)).set_ 1 (.int .u32 (ra : Int))).set_ 2 (.int .i64 rm)).set_ 3 (.int .i64 rge)).set_ 4 (.int .i64 rle))
        clear hb7 e9 e10 e40 hR10 x0 x1
        go_wp2
        clear z0 z1 z2 z3 z4 y0 y1 y2 y3 y4
        refine code_genP (fun W => Below wo.heap.size wo W ∧ Blk W R10 41 #[.bool rb, .int .u32 (ra : Int), .int .i64 rm, .int .i64 rge, .int .i64 rle]) ⟨HW8.out, HR8.out⟩ ?_
        clear HW8 HR8
        rintro w8 ⟨hb8, hr8⟩
        have HP8 := hide (HP.out.below hb8)
        have HB8 := hide hb8
        have HR8 := hide hr8
        have hsz8 := hb8.size
        clear hb8 hr8
        go_loopw [9, 11] (fun dv nv w2 => ∃ q : Nat, q ≤ i ∧ nv = .int .i64 (q : Nat) ∧ dv = .bool ((L.take q).any (withinP ⟨rb, ra, rm, rge, rle⟩)) ∧ Below w8.heap.size w8 w2) (fun _ nv _ => i - (intOf nv).toNat)
        case atStart => exact ⟨0, Nat.zero_le _, rfl, by simp, Below.refl _ _⟩
        case round =>
          obtain ⟨q, hq, rfl, rfl, hb2⟩ := hrel
          have HP2 := hide (HP8.out.below hb2)
          have hr2 := HR8.out.below hb2 HR8.out.lt
          have HR2 := hide hr2
          have HB2 := hide hb2
          have hsz2 := hb2.size
          have x0 := HP2.out.pl.bl.cell 0
          have x1 := HP2.out.pl.bl.cell 1
          obtain ⟨qd, hqd⟩ : ∃ qd, (L.take q).any (withinP ⟨rb, ra, rm, rge, rle⟩) = qd := ⟨_, rfl⟩
          rw [hqd]
          have HQD := hide hqd
          clear hb2 hqd
          by_cases hqi : q < i
          · obtain ⟨g2, o2, ob, oa, om, oge, ole, hAe, hg2, hy2, hok2, c0, c1', c2, c3, c4⟩ := PRat HP2.out.pl.ls (show q < n3 by omega)
            injection hAe with hAe
            injection hAe with hAe1 hAe2
            subst hAe1 hAe2
            have hj0 : (0 : Int) ≤ (q : Int) := by omega
            have hj1 : (q : Int) < (n3 : Int) := by omega
            have hlt2 : decide ((q : Int) < (i : Int)) = true := by simp; omega
            have HAny : Hid ((L.take (q + 1)).any (withinP ⟨rb, ra, rm, rge, rle⟩) = (qd || (covB oa om ra rm && (decide (oge ≤ rge) && decide (rle ≤ ole))))) := hide (by
              rw [List.take_add_one, hy2, List.any_append, HQD.out]; simp [withinP])
            have hal2 : Below wr.heap.size wr (wr.alloc (.cells #[.bool ob, .int .u32 (oa : Int), .int .i64 om, .int .i64 oge, .int .i64 ole] 41)) := (Below.refl _ _).alloc (Nat.le_refl _) _
            have HAl := hide hal2
            have HO2 := hide (Blk.new wr 41 #[.bool ob, .int .u32 (oa : Int), .int .i64 om, .int .i64 oge, .int .i64 ole])
            have HRn := hide (hr2.alloc (.cells #[.bool ob, .int .u32 (oa : Int), .int .i64 om, .int .i64 oge, .int .i64 ole] 41))
            have HB3 := hide (HB2.out.trans (hal2.mono hsz2))
            have HRC := hide (fun W => refCovers_any oa om ra rm hok2.a HOk.out.a W)
            obtain ⟨q0, hq0⟩ : ∃ q, covB oa om ra rm = q := ⟨_, rfl⟩
            obtain ⟨q1, hd1⟩ : ∃ q, decide (oge ≤ rge) = q := ⟨_, rfl⟩
            obtain ⟨q2, hd2⟩ : ∃ q, decide (rle ≤ ole) = q := ⟨_, rfl⟩
            rw [covRefB, hq0] at HRC
            rw [hq0, hd1, hd2] at HAny
            have r1 := hr2.cell 1
            have r2 := hr2.cell 2
            have hR10s := hr2.lt
            clear hq0 hy2 hok2 hal2 hr2
            cases qd
            · cases q0 <;> cases q1 <;> cases q2
              all_goals
                go_wp2_with fail
                refine (HRC.out _).mono ?_
                rintro e w3 ⟨rfl, hb3⟩
                have ho3 := HO2.out.below hb3 (by simp)
                have hr3 := HRn.out.below hb3 (by simp; omega)
                have t2 := ho3.cell 3
                have t3 := ho3.cell 4
                have t4 := hr3.cell 3
                have t5 := hr3.cell 4
                have HB5 := hide (HB3.out.trans (hb3.mono HB3.out.size))
                clear hb3 ho3 hr3
                go_wp2
                go_roundw
                case rel => exact ⟨q + 1, by omega, by go_num, by rw [HAny.out]; rfl, HB5.out⟩
                case measure => simp [intOf]; omega
            · go_wp2
              go_roundw
              case rel => exact ⟨q + 1, by omega, by go_num, by rw [HAny.out]; rfl, HB3.out⟩
              case measure => simp [intOf]; omega
          · obtain rfl : q = i := by omega
            have HID : Hid (isDead L q = qd) := hide (by rw [isDead_at HY.out, HQD.out])
            have hnx := deadL_next L (k := q) (n := L.length) (by have := HLn.out; omega)
            rw [HDD.out, HKK.out, HID.out] at hnx
            have hBr : B ≤ wr.heap.size := by omega
            have l0 := HP2.out.lf.cell 0
            have l1 := HP2.out.lf.cell 1
            have r0 := hr2.cell 0
            have r1 := hr2.cell 1
            have r2 := hr2.cell 2
            have r3 := hr2.cell 3
            have r4 := hr2.cell 4
            have hltq : decide ((q : Int) < (q : Int)) = false := by simp
            have HS4 := hide (keptL_succ L HY.out)
            have HS5 := hide (deadL_succ L q)
            rw [HID.out] at HS4 HS5
            clear hr2
            rcases hnx with ⟨rfl, hD⟩ | ⟨rfl, hD⟩
            · have hkd : kk < dn := by rw [← HDN.out]; exact (List.getElem?_eq_some_iff.1 hD).1
              obtain ⟨g5, o5, y, hA5e, hg5, hy5, c5'⟩ := nat_at HP2.out.ds hkd
              rw [hD] at hy5
              obtain rfl : q = y := Option.some.inj hy5
              subst hA5e
              have hd1 : decide ((kk : Int) < (dn : Int)) = true := by simp; omega
              have hk0 : (0 : Int) ≤ (kk : Int) := by omega
              have hk1 : (kk : Int) < (dn : Int) := by omega
              have HP3 : Hid (PdSt w wr s (some ⟨g, o, none⟩) n3 c1 L x z (some ⟨g5, o5, none⟩) dn c5 D R7 B V (keptL L (q + 1))) := hide (by rw [HS4.out]; simpa using HP2.out)
              have HLen : Hid ((deadL L (q + 1)).length = kk + 1) := hide (by rw [HS5.out]; simp [HKK.out])
              clear hD hy5
              go_wp2
              go_roundw
              case rel => exact ⟨q + 1, by omega, by go_num, by rw [HLen.out]; go_num, V, HP3.out, hBr⟩
              case measure => simp [intOf]; omega
            · have hcase : (decide (kk < dn) = false) ∨ (kk < dn) := by
                by_cases h : kk < dn
                · exact .inr h
                · exact .inl (by simp; omega)
              have HLen : Hid ((deadL L (q + 1)).length = kk) := hide (by rw [HS5.out]; simp [HKK.out])
              obtain ⟨i0, hi, hz0, hz1, hz2⟩ := info_parts prInfo
              obtain ⟨ml, hml⟩ : ∃ ml, (keptL L q).length = ml := ⟨_, rfl⟩
              have hm30 := keptL_len L q
              have HO := hide HP2.out.own
              rw [hml] at HO hm30
              obtain ⟨AL, cl, hVe⟩ := own_slice HO.out
              subst hVe
              have HML := hide hml
              clear hml
              have hend : ∀ (w3 : World) (v3 : Value), w3.ownsRow B 41 5 v3 (ml + 1) (prv (keptL L q) ++ PR.cs ⟨rb, ra, rm, rge, rle⟩) → Below B (wr.alloc (.cells #[.bool rb, .int .u32 (ra : Int), .int .i64 rm, .int .i64 rge, .int .i64 rle] 41)) w3 →
                  PdSt w (w3.setCell ⟨R7, 1, none⟩ v3) s (some ⟨g, o, none⟩) n3 c1 L x z A5 dn c5 D R7 B v3 (keptL L (q + 1)) := by
                intro w3 v3 ho hb
                have hal : Below wr.heap.size wr (wr.alloc (.cells #[.bool rb, .int .u32 (ra : Int), .int .i64 rm, .int .i64 rge, .int .i64 rle] 41)) := (Below.refl _ _).alloc (Nat.le_refl _) _
                have hp := HP2.out.below hal
                have hlf := hp.lf.below hb hR7B
                obtain ⟨A3, c3', he3⟩ := own_slice HO.out
                have hpl := hp.pl.growB HE.out (by omega) HA1.out hb
                have hds : LstAt 1 natR w3 A5 dn c5 D := lst_belowB hp.ds (fun _ _ _ h => h) HA5.out hb
                refine ⟨hpl.setR HE.out hlf hR7w no_bool_2 1 v3, nats_setR hds hlf no_int_2 1 v3, hlf.set_ 1 v3, ?_⟩
                rw [HS4.out, List.length_append, HML.out]
                have hne : v3.ownBlock ≠ some R7 := fun e => by have := own_low_block ho R7 e; omega
                have := own_set ho hne (i := 1) v3
                simpa [prv] using this
              have HEnd := hide hend
              have hal3 : Below wr.heap.size wr (wr.alloc (.cells #[.bool rb, .int .u32 (ra : Int), .int .i64 rm, .int .i64 rge, .int .i64 rle] 41)) := (Below.refl _ _).alloc (Nat.le_refl _) _
              have HAl3 := hide hal3
              have HLf := hide (HP2.out.lf.below hal3 HP2.out.lf.lt)
              have HOa := hide (own_below HO.out hal3)
              have hprl : (prv (keptL L q)).length = ml * 5 := by have := HO.out.1; exact this
              have hR7lt : R7 < wr.heap.size := by omega
              have hne7 : ¬ R7 = wr.heap.size := by omega
              clear hend hal3
              have hcase2 : (decide (kk < dn) = false) ∨ (∃ (g5 o5 y : Nat), A5 = some ⟨g5, o5, none⟩ ∧ g5 < wr.heap.size ∧ kk < dn ∧ wr.cell? ⟨g5, o5 + kk, none⟩ = some (.int .i64 (y : Int)) ∧ ((y : Int) == (q : Int)) = false) := by
                rcases hcase with h | h
                · exact .inl h
                · obtain ⟨g5, o5, y, e5, hg5, hy5, c5'⟩ := nat_at HP2.out.ds h
                  exact .inr ⟨g5, o5, y, e5, hg5, h, c5', by have := hD y hy5; simp; omega⟩
              clear hcase hD
              have hfin : ∀ (w3 : World) (A3 : Option Addr) (c3' : Nat), w3.ownsRow B 41 5 (.slice A3 (ml + 1) c3') (ml + 1) (prv (keptL L q) ++ PR.cs ⟨rb, ra, rm, rge, rle⟩) → Below B (wr.alloc (.cells #[.bool rb, .int .u32 (ra : Int), .int .i64 rm, .int .i64 rge, .int .i64 rle] 41)) w3 → B ≤ (w3.setCell ⟨R7, 1, none⟩ (.slice A3 (ml + 1) c3')).heap.size := by
                intro w3 A3 c3' _ hb
                have := hb.size
                simp [World.setCell] at this ⊢; omega
              have HFin := hide hfin
              clear hfin
              rcases hcase2 with hd1 | ⟨g5, o5, y, hA5e, hg5, hkd, c5', hyq⟩
              · go_wp2_with (at_builtin; refine wpList_append_any _ rfl (.tmp 91) (.tmp 93) 31 rfl B 41 i0 _ 5 40 Tryd.underlying31 hi hz0 hz1 hz2 rfl (by decide) (.slice AL ml cl) ml (prv (keptL L q)) rfl HOa.out (wr.heap.size + 1) (some ⟨wr.heap.size, 0, none⟩) 1 1 (PR.cs ⟨rb, ra, rm, rge, rle⟩) rfl (reads_blkN (Blk.new wr _ _) (Nat.lt_succ_self _) rfl rfl) (prOne wr _ _ ⟨rfl, HOk.out⟩) (by unfold maxLen; omega) (by omega) (by simp; omega) ?_; intro v3 w3 hown3 hg3 hor3; have hb3 : Below B (wr.alloc (.cells #[.bool rb, .int .u32 (ra : Int), .int .i64 rm, .int .i64 rge, .int .i64 rle] 41)) w3 := (Below.refl B _).grown hg3 (by simp; omega) (own_low_block HOa.out); have hl3 := HLf.out.below hb3 hR7B; have m0 := hl3.cell 0; have m1 := hl3.cell 1; have mf := hl3.frozen 1; have HE3 := hide (HEnd.out w3 v3 hown3 hb3); obtain ⟨A3, c3', rfl⟩ := own_slice hown3; have HF3 := hide (HFin.out w3 A3 c3' hown3 hb3); clear hown3 hg3 hor3 hb3 hl3)
                go_wp2
                go_roundw
                case rel => exact ⟨q + 1, by omega, by go_num, by rw [HLen.out], _, HE3.out, HF3.out⟩
                case measure => simp [intOf]; omega
              · subst hA5e
                have hd1 : decide ((kk : Int) < (dn : Int)) = true := by simp; omega
                have hk0 : (0 : Int) ≤ (kk : Int) := by omega
                have hk1 : (kk : Int) < (dn : Int) := by omega
                go_wp2_with (at_builtin; refine wpList_append_any _ rfl (.tmp 91) (.tmp 93) 31 rfl B 41 i0 _ 5 40 Tryd.underlying31 hi hz0 hz1 hz2 rfl (by decide) (.slice AL ml cl) ml (prv (keptL L q)) rfl HOa.out (wr.heap.size + 1) (some ⟨wr.heap.size, 0, none⟩) 1 1 (PR.cs ⟨rb, ra, rm, rge, rle⟩) rfl (reads_blkN (Blk.new wr _ _) (Nat.lt_succ_self _) rfl rfl) (prOne wr _ _ ⟨rfl, HOk.out⟩) (by unfold maxLen; omega) (by omega) (by simp; omega) ?_; intro v3 w3 hown3 hg3 hor3; have hb3 : Below B (wr.alloc (.cells #[.bool rb, .int .u32 (ra : Int), .int .i64 rm, .int .i64 rge, .int .i64 rle] 41)) w3 := (Below.refl B _).grown hg3 (by simp; omega) (own_low_block HOa.out); have hl3 := HLf.out.below hb3 hR7B; have m0 := hl3.cell 0; have m1 := hl3.cell 1; have mf := hl3.frozen 1; have HE3 := hide (HEnd.out w3 v3 hown3 hb3); obtain ⟨A3, c3', rfl⟩ := own_slice hown3; have HF3 := hide (HFin.out w3 A3 c3' hown3 hb3); clear hown3 hg3 hor3 hb3 hl3)
                go_wp2
                go_roundw
                case rel => exact ⟨q + 1, by omega, by go_num, by rw [HLen.out], _, HE3.out, HF3.out⟩
                case measure => simp [intOf]; omega
      · obtain rfl : i = n3 := by omega
        have hdl : (deadL L i).length = dn := by rw [← HLn.out, HDD.out, HDN.out]
        rw [hdl] at hkl ⊢
        obtain ⟨ml, hml⟩ : ∃ ml, (keptL L i).length = ml := ⟨_, rfl⟩
        obtain ⟨AL, cl, hVe⟩ := own_slice HP.out.own
        subst hVe
        rw [hml] at HP
        have HML := hide hml
        have hok : ∀ r ∈ keptL L i, r.Ok := fun r hr => by
          obtain ⟨j, hj, hx⟩ := keptL_mem hr
          obtain ⟨g, o, b, a, m, ge, le, _, _, hy, hok, _⟩ := PRat HP.out.pl.ls hj
          rw [hx] at hy; injection hy with hy; rw [hy]; exact hok
        have HPl := hide (fun (W : World) (hb : Below wo.heap.size wo W) => pPermits_any s AL ml cl (keptL L i) x z W (by
          have ho := (HP.out.below hb).own
          rw [hml] at ho
          exact LstAt.of_own (by decide) ho (prv_chunks _ hok)) HX.out)
        have HPr := hide (fun (W : World) (hb : Below wo.heap.size wo W) => refPPermits_any s A1 i c1 L x z W (HP.out.below hb).pl.ls HX.out)
        have HLv := hide (fun (W : World) (hb : Below wo.heap.size wo W) => plives17_any W (HP.out.below hb).pl.env)
        have hpm := kept_perm L x z
        rw [HLn.out] at hpm
        obtain ⟨Pm, hPm⟩ : ∃ Pm, prPerm (phitP x z) L = Pm := ⟨_, rfl⟩
        rw [hpm, hPm] at HPl
        rw [hPm] at HPr
        clear hml hok hpm hPm hdl
        go_wp2
        refine wp_region_rel [(fun v _ => v = .int .i64 (dn : Int)), (fun v _ => v = .slice A5 dn c5), (fun v _ => v = .int .i64 (dn : Int)), (fun v _ => v = .bool true), (fun v _ => v = .bool true), (fun v _ => v = .agg #[.string s, .slice AL ml cl]), (fun v _ => v = .agg #[.int .u32 (x : Int), .int .i64 z]), (fun v _ => v = .bool Pm), (fun v _ => v = .agg #[.string s, .slice A1 i c1]), (fun v _ => v = .agg #[.int .u32 (x : Int), .int .i64 z]), (fun v _ => v = .bool Pm), (fun v _ => v = .bool true), (fun v _ => v = .bool true), (fun v _ => v = .bool true), (fun v _ => v = .bool true), (fun v _ => v = .bool true), (fun v _ => v = .bool true)] (by kernel_rfl) (by kernel_rfl) (relMono _ ⟨fun _ _ _ _ h => h, fun _ _ _ _ h => h, fun _ _ _ _ h => h, fun _ _ _ _ h => h, fun _ _ _ _ h => h, fun _ _ _ _ h => h, fun _ _ _ _ h => h, fun _ _ _ _ h => h, fun _ _ _ _ h => h, fun _ _ _ _ h => h, fun _ _ _ _ h => h, fun _ _ _ _ h => h, fun _ _ _ _ h => h, fun _ _ _ _ h => h, fun _ _ _ _ h => h, fun _ _ _ _ h => h, fun _ _ _ _ h => h, trivial⟩) ⟨?_, ?_, ?_, ?_, ?_, ?_, ?_, ?_, ?_, ?_, ?_, ?_, ?_, ?_, ?_, ?_, ?_, trivial⟩ ?_
        · refine relStep_plain rfl ?_
          intro Ac w5 hp
          have hb := hp.bel
          have a6 : Ac.eval (.tmp 6) = .int .i64 (dn : Int) := hp.out 6 (by rfl)
          have hc := evalC Ac; have hf := evalF Ac; have hgl := evalG Ac
          obtain ⟨ρ, hρ⟩ : ∃ ρ, Ac.eval = ρ := ⟨_, rfl⟩
          rw [hρ] at a6 hc hf hgl
          exact relPure hρ (.int .i64 (dn : Int)) (by simp [go_sem, hc, hf, hgl, ↓IntWalk.iteOmega, a6, *]) rfl
        · refine relStep_plain rfl ?_
          intro Ac w5 hp
          have hb := hp.bel
          have a5 : Ac.eval (.tmp 5) = .slice A5 dn c5 := hp.out 5 (by rfl)
          have hc := evalC Ac; have hf := evalF Ac; have hgl := evalG Ac
          obtain ⟨ρ, hρ⟩ : ∃ ρ, Ac.eval = ρ := ⟨_, rfl⟩
          rw [hρ] at a5 hc hf hgl
          exact relPure hρ (.slice A5 dn c5) (by simp [go_sem, hc, hf, hgl, ↓IntWalk.iteOmega, a5, *]) rfl
        · refine relStep_plain rfl ?_
          intro Ac w5 hp
          have hb := hp.bel
          have a97 : Ac.eval (.tmp 97) = .slice A5 dn c5 := hp.dep 1 (by kernel_rfl)
          have hc := evalC Ac; have hf := evalF Ac; have hgl := evalG Ac
          obtain ⟨ρ, hρ⟩ : ∃ ρ, Ac.eval = ρ := ⟨_, rfl⟩
          rw [hρ] at a97 hc hf hgl
          exact relPure hρ (.int .i64 (dn : Int)) (by simp [go_sem, hc, hf, hgl, ↓IntWalk.iteOmega, a97, *]) rfl
        · refine relStep_plain rfl ?_
          intro Ac w5 hp
          have hb := hp.bel
          have a96 : Ac.eval (.tmp 96) = .int .i64 (dn : Int) := hp.dep 0 (by kernel_rfl)
          have a98 : Ac.eval (.tmp 98) = .int .i64 (dn : Int) := hp.dep 2 (by kernel_rfl)
          have hc := evalC Ac; have hf := evalF Ac; have hgl := evalG Ac
          obtain ⟨ρ, hρ⟩ : ∃ ρ, Ac.eval = ρ := ⟨_, rfl⟩
          rw [hρ] at a96 a98 hc hf hgl
          exact relPure hρ (.bool true) (by simp [go_sem, hc, hf, hgl, ↓IntWalk.iteOmega, a96, a98, *]) rfl
        · refine relStep_plain rfl ?_
          intro Ac w5 hp
          have hb := hp.bel
          have a99 : Ac.eval (.tmp 99) = .bool true := hp.dep 3 (by kernel_rfl)
          have hc := evalC Ac; have hf := evalF Ac; have hgl := evalG Ac
          obtain ⟨ρ, hρ⟩ : ∃ ρ, Ac.eval = ρ := ⟨_, rfl⟩
          rw [hρ] at a99 hc hf hgl
          exact relPure hρ (.bool true) (by simp [go_sem, hc, hf, hgl, ↓IntWalk.iteOmega, a99, *]) rfl
        · refine relStep_guard (g := 4) (b := true) (x := true) rfl (by kernel_rfl) rfl (by kernel_rfl) rfl (fun _ _ h => h) ?_
          intro Ac w5 hp
          have hb := hp.bel
          have a7 : Ac.eval (.tmp 7) = .pointer (some ⟨R7, 0, none⟩) := hp.out 7 (by rfl)
          have hS := HP.out.below hb
          have x0 := hS.pl.bl.cell 0
          have x1 := hS.pl.bl.cell 1
          have y0 := hS.pl.bp.cell 0
          have y1 := hS.pl.bp.cell 1
          have l0 := hS.lf.cell 0
          have l1 := hS.lf.cell 1
          clear hS
          have hc := evalC Ac; have hf := evalF Ac; have hgl := evalG Ac
          obtain ⟨ρ, hρ⟩ : ∃ ρ, Ac.eval = ρ := ⟨_, rfl⟩
          rw [hρ] at a7 hc hf hgl
          exact relPure hρ (.agg #[.string s, .slice AL ml cl]) (by simp [go_sem, hc, hf, hgl, ↓IntWalk.iteOmega, a7, *]) rfl
        · refine relStep_guard (g := 4) (b := true) (x := true) rfl (by kernel_rfl) rfl (by kernel_rfl) rfl (fun _ _ h => h) ?_
          intro Ac w5 hp
          have hb := hp.bel
          have a3 : Ac.eval (.tmp 3) = .pointer (some ⟨w.heap.size + 1, 0, none⟩) := hp.out 3 (by rfl)
          have hS := HP.out.below hb
          have x0 := hS.pl.bl.cell 0
          have x1 := hS.pl.bl.cell 1
          have y0 := hS.pl.bp.cell 0
          have y1 := hS.pl.bp.cell 1
          have l0 := hS.lf.cell 0
          have l1 := hS.lf.cell 1
          clear hS
          have hc := evalC Ac; have hf := evalF Ac; have hgl := evalG Ac
          obtain ⟨ρ, hρ⟩ : ∃ ρ, Ac.eval = ρ := ⟨_, rfl⟩
          rw [hρ] at a3 hc hf hgl
          exact relPure hρ (.agg #[.int .u32 (x : Int), .int .i64 z]) (by simp [go_sem, hc, hf, hgl, ↓IntWalk.iteOmega, a3, *]) rfl
        · refine relStep_guard (g := 4) (b := true) (x := true) rfl (by kernel_rfl) rfl (by kernel_rfl) rfl (fun _ _ h => h) ?_
          intro Ac w5 hp
          have hb := hp.bel
          have a101 : Ac.eval (.tmp 101) = .agg #[.string s, .slice AL ml cl] := hp.dep 5 (by kernel_rfl)
          have a102 : Ac.eval (.tmp 102) = .agg #[.int .u32 (x : Int), .int .i64 z] := hp.dep 6 (by kernel_rfl)
          have hc := evalC Ac; have hf := evalF Ac; have hgl := evalG Ac
          obtain ⟨ρ, hρ⟩ : ∃ ρ, Ac.eval = ρ := ⟨_, rfl⟩
          rw [hρ] at a101 a102 hc hf hgl
          refine relCall hρ 13 #[.agg #[.string s, .slice AL ml cl], .agg #[.int .u32 (x : Int), .int .i64 z]] (by simp [go_sem, hc, hf, hgl, ↓IntWalk.iteOmega, a101, a102, *]) ?_
          refine (HPl.out w5 hb).mono ?_
          rintro e w6 ⟨rfl, hb6⟩
          exact ⟨_, rfl, rfl, hb6⟩
        · refine relStep_guard (g := 4) (b := true) (x := true) rfl (by kernel_rfl) rfl (by kernel_rfl) rfl (fun _ _ h => h) ?_
          intro Ac w5 hp
          have hb := hp.bel
          have a2 : Ac.eval (.tmp 2) = .pointer (some ⟨w.heap.size, 0, none⟩) := hp.out 2 (by rfl)
          have hS := HP.out.below hb
          have x0 := hS.pl.bl.cell 0
          have x1 := hS.pl.bl.cell 1
          have y0 := hS.pl.bp.cell 0
          have y1 := hS.pl.bp.cell 1
          have l0 := hS.lf.cell 0
          have l1 := hS.lf.cell 1
          clear hS
          have hc := evalC Ac; have hf := evalF Ac; have hgl := evalG Ac
          obtain ⟨ρ, hρ⟩ : ∃ ρ, Ac.eval = ρ := ⟨_, rfl⟩
          rw [hρ] at a2 hc hf hgl
          exact relPure hρ (.agg #[.string s, .slice A1 i c1]) (by simp [go_sem, hc, hf, hgl, ↓IntWalk.iteOmega, a2, *]) rfl
        · refine relStep_guard (g := 4) (b := true) (x := true) rfl (by kernel_rfl) rfl (by kernel_rfl) rfl (fun _ _ h => h) ?_
          intro Ac w5 hp
          have hb := hp.bel
          have a3 : Ac.eval (.tmp 3) = .pointer (some ⟨w.heap.size + 1, 0, none⟩) := hp.out 3 (by rfl)
          have hS := HP.out.below hb
          have x0 := hS.pl.bl.cell 0
          have x1 := hS.pl.bl.cell 1
          have y0 := hS.pl.bp.cell 0
          have y1 := hS.pl.bp.cell 1
          have l0 := hS.lf.cell 0
          have l1 := hS.lf.cell 1
          clear hS
          have hc := evalC Ac; have hf := evalF Ac; have hgl := evalG Ac
          obtain ⟨ρ, hρ⟩ : ∃ ρ, Ac.eval = ρ := ⟨_, rfl⟩
          rw [hρ] at a3 hc hf hgl
          exact relPure hρ (.agg #[.int .u32 (x : Int), .int .i64 z]) (by simp [go_sem, hc, hf, hgl, ↓IntWalk.iteOmega, a3, *]) rfl
        · refine relStep_guard (g := 4) (b := true) (x := true) rfl (by kernel_rfl) rfl (by kernel_rfl) rfl (fun _ _ h => h) ?_
          intro Ac w5 hp
          have hb := hp.bel
          have a104 : Ac.eval (.tmp 104) = .agg #[.string s, .slice A1 i c1] := hp.dep 8 (by kernel_rfl)
          have a105 : Ac.eval (.tmp 105) = .agg #[.int .u32 (x : Int), .int .i64 z] := hp.dep 9 (by kernel_rfl)
          have hc := evalC Ac; have hf := evalF Ac; have hgl := evalG Ac
          obtain ⟨ρ, hρ⟩ : ∃ ρ, Ac.eval = ρ := ⟨_, rfl⟩
          rw [hρ] at a104 a105 hc hf hgl
          refine relCall hρ 14 #[.agg #[.string s, .slice A1 i c1], .agg #[.int .u32 (x : Int), .int .i64 z]] (by simp [go_sem, hc, hf, hgl, ↓IntWalk.iteOmega, a104, a105, *]) ?_
          refine (HPr.out w5 hb).mono ?_
          rintro e w6 ⟨rfl, hb6⟩
          exact ⟨_, rfl, rfl, hb6⟩
        · refine relStep_guard (g := 4) (b := true) (x := true) rfl (by kernel_rfl) rfl (by kernel_rfl) rfl (fun _ _ h => h) ?_
          intro Ac w5 hp
          have hb := hp.bel
          have a103 : Ac.eval (.tmp 103) = .bool Pm := hp.dep 7 (by kernel_rfl)
          have a106 : Ac.eval (.tmp 106) = .bool Pm := hp.dep 10 (by kernel_rfl)
          have hc := evalC Ac; have hf := evalF Ac; have hgl := evalG Ac
          obtain ⟨ρ, hρ⟩ : ∃ ρ, Ac.eval = ρ := ⟨_, rfl⟩
          rw [hρ] at a103 a106 hc hf hgl
          exact relPure hρ (.bool true) (by simp [go_sem, hc, hf, hgl, ↓IntWalk.iteOmega, a103, a106, *]) rfl
        · refine relStep_plain rfl ?_
          intro Ac w5 hp
          have hb := hp.bel
          have a100 : Ac.eval (.tmp 100) = .bool true := hp.dep 4 (by kernel_rfl)
          have a107 : Ac.eval (.tmp 107) = .bool true := hp.dep 11 (by kernel_rfl)
          have hc := evalC Ac; have hf := evalF Ac; have hgl := evalG Ac
          obtain ⟨ρ, hρ⟩ : ∃ ρ, Ac.eval = ρ := ⟨_, rfl⟩
          rw [hρ] at a100 a107 hc hf hgl
          exact relPure hρ (.bool true) (by simp [go_sem, hc, hf, hgl, ↓IntWalk.iteOmega, a100, a107, *]) rfl
        · refine relStep_plain rfl ?_
          intro Ac w5 hp
          have hb := hp.bel
          have a108 : Ac.eval (.tmp 108) = .bool true := hp.dep 12 (by kernel_rfl)
          have hc := evalC Ac; have hf := evalF Ac; have hgl := evalG Ac
          obtain ⟨ρ, hρ⟩ : ∃ ρ, Ac.eval = ρ := ⟨_, rfl⟩
          rw [hρ] at a108 hc hf hgl
          exact relPure hρ (.bool true) (by simp [go_sem, hc, hf, hgl, ↓IntWalk.iteOmega, a108, *]) rfl
        · refine relStep_guard (g := 13) (b := true) (x := true) rfl (by kernel_rfl) rfl (by kernel_rfl) rfl (fun _ _ h => h) ?_
          intro Ac w5 hp
          have hb := hp.bel
          have hc := evalC Ac; have hf := evalF Ac; have hgl := evalG Ac
          obtain ⟨ρ, hρ⟩ : ∃ ρ, Ac.eval = ρ := ⟨_, rfl⟩
          rw [hρ] at hc hf hgl
          refine relCall hρ 15 #[] (by simp [go_sem, hc, hf, hgl, ↓IntWalk.iteOmega, *]) ?_
          refine (HLv.out w5 hb).mono ?_
          rintro e w6 ⟨rfl, hb6⟩
          exact ⟨_, rfl, rfl, hb6⟩
        · refine relStep_plain rfl ?_
          intro Ac w5 hp
          have hb := hp.bel
          have a109 : Ac.eval (.tmp 109) = .bool true := hp.dep 13 (by kernel_rfl)
          have a110 : Ac.eval (.tmp 110) = .bool true := hp.dep 14 (by kernel_rfl)
          have hc := evalC Ac; have hf := evalF Ac; have hgl := evalG Ac
          obtain ⟨ρ, hρ⟩ : ∃ ρ, Ac.eval = ρ := ⟨_, rfl⟩
          rw [hρ] at a109 a110 hc hf hgl
          exact relPure hρ (.bool true) (by simp [go_sem, hc, hf, hgl, ↓IntWalk.iteOmega, a109, a110, *]) rfl
        · refine relStep_plain rfl ?_
          intro Ac w5 hp
          have hb := hp.bel
          have a111 : Ac.eval (.tmp 111) = .bool true := hp.dep 15 (by kernel_rfl)
          have hc := evalC Ac; have hf := evalF Ac; have hgl := evalG Ac
          obtain ⟨ρ, hρ⟩ : ∃ ρ, Ac.eval = ρ := ⟨_, rfl⟩
          rw [hρ] at a111 hc hf hgl
          exact relPure hρ (.bool true) (by simp [go_sem, hc, hf, hgl, ↓IntWalk.iteOmega, a111, *]) rfl
        intro u w9 hb7 hall
        have e4 : u 16 = .bool true := relAll_at hall (i := 16) (by decide +kernel)
        clear hall
        simp only [List.drop_succ_cons, List.drop_zero, List.take_succ_cons, List.take_zero, putAll, Act.put, List.setIfInBounds_toArray, List.set_cons_zero, List.set_cons_succ, Nat.zero_add, Nat.reduceAdd, e4]
        have HE9 := hide (HP.out.pl.bel.trans (hb7.mono HP.out.pl.bel.size))
        clear hb7 e4
        go_wp2
        go_ret
        exact ⟨rfl, HE9.out⟩
end Go.Proofs.YtebccdinglohpaaDoor
set_option linter.unusedSimpArgs false
set_option linter.unusedVariables false
namespace Go.Proofs.YtebccdinglohpaaDoor
open Go.RowKit Go.WideShapes Go.ChangeShapes Go.ChangeAt
set_option maxRecDepth 100000 in
theorem pr_opens {H : Type} {enc : TypeId × Value → H} {W : World} {f : Nat} {cs : List Value} {x : DataW H × List MemPlace} (h : DataW.trod enc Tryd.prog W 0 (fun _ => true) true f 41 cs = some x) : ∃ y, prR W cs y := by
  obtain ⟨y0, y1, y2, y3, n, _, hl, h0, h1, h2, h3⟩ := Go.Joins.trod_struct4 Tryd.underlying41 h
  have c52 : Tryd.prog.cellsOf 41 = 5 := by kernel_rfl
  have cb : Tryd.prog.cellsOf 4 = 1 := by kernel_rfl
  have cp : Tryd.prog.cellsOf 36 = 2 := by kernel_rfl
  have ci : Tryd.prog.cellsOf 3 = 1 := by kernel_rfl
  have cu : Tryd.prog.cellsOf 34 = 1 := by kernel_rfl
  rw [c52] at hl
  match cs, hl with
  | [v0, v1, v2, v3, v4], _ =>
    simp only [cb, cp, ci, List.drop_zero, List.drop_succ_cons, List.take_succ_cons, List.take_zero] at h0 h1 h2 h3
    obtain ⟨z0, z1, k, _, _, g0, g1⟩ := trod_struct2 Tryd.underlying36 h1
    simp only [ci, cu, List.drop_zero, List.drop_succ_cons, List.take_succ_cons, List.take_zero] at g0 g1
    obtain ⟨b, e0, _⟩ := DataW.trod_bool Tryd.underlying4 h0
    obtain ⟨a, e1, _, wa⟩ := DataW.trod_int Tryd.underlying34 g0
    obtain ⟨m, e2, _, wm⟩ := DataW.trod_int Tryd.underlying3 g1
    obtain ⟨ge, e3, _, _⟩ := DataW.trod_int Tryd.underlying3 h2
    obtain ⟨le, e4, _, _⟩ := DataW.trod_int Tryd.underlying3 h3
    have b1 : 0 ≤ a ∧ a ≤ 4294967295 := by simpa [Lit.wf, IntKind.min, IntKind.max, IntKind.signed, IntKind.bits] using wa
    have b2 : -9223372036854775808 ≤ m ∧ m ≤ 9223372036854775807 := by simpa [Lit.wf, IntKind.min, IntKind.max, IntKind.signed, IntKind.bits] using wm
    simp only [List.cons.injEq, and_true] at e0 e1 e2 e3 e4
    subst e0 e1 e2 e3 e4
    obtain ⟨a', rfl⟩ := Int.eq_ofNat_of_zero_le b1.1
    exact ⟨⟨b, a', m, ge, le⟩, rfl, by show a' < _; omega, b2.1, b2.2⟩
set_option maxRecDepth 100000 in
theorem plist_open {H : Type} {enc : TypeId × Value → H} {W : World} {r : Reach} {b0 : Nat} {v : Value} {d : DataW H} {p : List MemPlace} (hv : Value.okWide Tryd.prog W r b0 33 v)
    (h : DataW.Trod enc Tryd.prog W 0 (fun _ => true) true 33 v d p) :
    ∃ (s : ByteArray) (A : Option Addr) (n c : Nat) (l : List PR), v = .agg #[.string s, .slice A n c] ∧ s.size ≤ maxLen ∧ LstAt 5 prR W A n c l := by
  obtain ⟨v0, v1, y0, y1, k, rfl, _, _, h0, h1⟩ := Go.Joins.open_agg2 Tryd.underlying33 (by kernel_rfl) (by kernel_rfl) hv h
  obtain ⟨s, e0, _, hs⟩ := DataW.trod_string Tryd.underlying9 h0
  obtain rfl : v0 = _ := by simpa using e0
  obtain ⟨A, n, c, l, e1, hl⟩ := lst_open (R := prR) Tryd.underlying31 (sz := 5) (by kernel_rfl) (by decide) (fun f cs x hx => pr_opens hx) h1
  obtain rfl : v1 = _ := by simpa using e1
  exact ⟨s, A, n, c, l, rfl, hs, hl⟩
end Go.Proofs.YtebccdinglohpaaDoor
