import Derived.Test.YtiibglkiakhfgaaDoorCommAllA
import Derived.BigRegionIn
import Derived.Maps.AppendAt
set_option linter.unusedSimpArgs false
set_option linter.unusedVariables false
namespace Go.Proofs.YtiibglkiakhfgaaDoor
open Go.RowKit
/-! ### comm.ParseAll -/
attribute [local go_sem] Oper.semAt_some

theorem pieces_len (c : UInt8) : ∀ s : List UInt8, (pieces c s).length ≤ s.length + 1
  | [] => by simp [pieces]
  | x :: l => by
    have := pieces_len c l
    unfold pieces
    split
    · simp; omega
    · simp; omega

/-- The world in which the loop begins. -/
def paW (s : ByteArray) (w : World) : World :=
  (((((w.alloc (.cells #[.slice none 0 0] 27)).alloc (.cells #[.int .i64 0] 39)).alloc (.cells #[.slice none 0 0] 27)).alloc (.cells #[.string s] 9)).alloc (.cells #[.string ⟨#[32]⟩] 9)).alloc (.cells #[.int .i64 0] 3)
theorem paW_size (s : ByteArray) (w : World) : (paW s w).heap.size = w.heap.size + 6 := by simp [paW]
theorem below_allocs {B : Nat} {a w : World} (h : Below B a w) (hb : B ≤ w.heap.size) (o : Obj) : Below B a (w.alloc o) := h.alloc hb o
theorem paW_below (s : ByteArray) (w : World) : Below w.heap.size w (paW s w) := by
  unfold paW
  exact ((((((Below.refl _ w).alloc (Nat.le_refl _) _).alloc (by simp) _).alloc (by simp; omega) _).alloc (by simp; omega) _).alloc (by simp; omega) _).alloc (by simp; omega) _
theorem blk_new' {w : World} {g : Nat} (t : TypeId) (cs : Array Value) (h : g = w.heap.size) : Blk (w.alloc (.cells cs t)) g t cs := by subst h; exact Blk.new w t cs
theorem paW_blks (s : ByteArray) (w : World) : Blk (paW s w) w.heap.size 27 #[.slice none 0 0] ∧ Blk (paW s w) (w.heap.size + 1) 39 #[.int .i64 0] ∧ Blk (paW s w) (w.heap.size + 2) 27 #[.slice none 0 0] ∧
    Blk (paW s w) (w.heap.size + 3) 9 #[.string s] ∧ Blk (paW s w) (w.heap.size + 3 + 1) 9 #[.string ⟨#[32]⟩] ∧ Blk (paW s w) (w.heap.size + 3 + 2) 3 #[.int .i64 0] := by
  unfold paW
  exact ⟨(((((Blk.new w _ _).alloc _).alloc _).alloc _).alloc _).alloc _, ((((blk_new' _ _ (by simp)).alloc _).alloc _).alloc _).alloc _, (((blk_new' _ _ (by simp)).alloc _).alloc _).alloc _, ((blk_new' _ _ (by simp)).alloc _).alloc _, (blk_new' _ _ (by simp)).alloc _, blk_new' _ _ (by simp)⟩

/-- What the loop has: the results' cells, 'out' and its row, and whatever lay. -/
structure PaSt (H : Nat) (w W : World) (v : Value) (xs : List Nat) : Prop where
  c0 : Blk W H 27 #[.slice none 0 0]
  c1 : Blk W (H + 1) 39 #[.int .i64 0]
  c2 : Blk W (H + 2) 27 #[v]
  own : W.ownsRow (H + 6) 22 1 v xs.length (u32c xs)
  bel : Below H w W
  siz : H + 6 ≤ W.heap.size
/-- .. where it has stopped at a piece that is none. -/
structure PaEx (H : Nat) (w W : World) : Prop where
  c0 : Blk W H 27 #[.slice none 0 0]
  c1 : Blk W (H + 1) 39 #[.int .i64 2]
  bel : Below H w W

theorem row_apart {A B : World} {H lo g : Nat} {row : Option Nat} {t : TypeId} {cs : Array Value} (h : Blk A g t cs) (hg : A.grownBy B row) (hr : ∀ r, row = some r → r = H + 3 ∨ (lo ≤ r ∧ ∃ o : Obj, A.heap[r]? = some o ∧ o.isCells = false)) (hn : g ≠ H + 3) : Blk B g t cs :=
  h.grown hg (fun e => by
    rcases hr g e.symm with h' | ⟨_, o, ho, hc⟩
    · exact hn h'
    · unfold Blk at h; rw [h] at ho; cases ho; cases hc)
theorem own_apart {A B : World} {H lo e k : Nat} {row : Option Nat} {v : Value} {xs : List Value} (h : A.ownsRow (H + 6) e 1 v k xs) (hg : A.grownBy B row) (hr : ∀ r, row = some r → r = H + 3 ∨ (lo ≤ r ∧ ∃ o : Obj, A.heap[r]? = some o ∧ o.isCells = false)) : B.ownsRow (H + 6) e 1 v k xs :=
  h.kept hg (by
    rcases h.2 with ⟨rfl, _⟩ | ⟨g, cap, cur, rfl, h6, hgc, _⟩
    · exact .inl rfl
    · refine .inr (fun e => ?_)
      rcases hr g e.symm with h' | ⟨_, o, ho, hc⟩
      · omega
      · rw [hgc] at ho; cases ho; cases hc)
theorem below_apart {a A B : World} {H lo : Nat} {row : Option Nat} (h : Below H a A) (hA : H ≤ A.heap.size) (hlo : H ≤ lo) (hg : A.grownBy B row) (hr : ∀ r, row = some r → r = H + 3 ∨ (lo ≤ r ∧ ∃ o : Obj, A.heap[r]? = some o ∧ o.isCells = false)) : Below H a B :=
  h.grown hg hA (fun k hk => by rcases hr k hk with h' | ⟨h', _⟩ <;> omega)
theorem PaSt.abide {H : Nat} {w A B : World} {v : Value} {xs : List Nat} {row : Option Nat} {lo : Nat} (h : PaSt H w A v xs) (hlo : H ≤ lo) (hg : A.grownBy B row) (hr : ∀ r, row = some r → r = H + 3 ∨ (lo ≤ r ∧ ∃ o : Obj, A.heap[r]? = some o ∧ o.isCells = false)) : PaSt H w B v xs :=
  ⟨row_apart h.c0 hg hr (by omega), row_apart h.c1 hg hr (by omega), row_apart h.c2 hg hr (by omega), own_apart h.own hg hr, below_apart h.bel (Nat.le_of_lt h.c0.lt) hlo hg hr, Nat.le_trans h.siz hg.size⟩
theorem PaEx.abide {H : Nat} {w A B : World} {row : Option Nat} {lo : Nat} (h : PaEx H w A) (hlo : H ≤ lo) (hg : A.grownBy B row) (hr : ∀ r, row = some r → r = H + 3 ∨ (lo ≤ r ∧ ∃ o : Obj, A.heap[r]? = some o ∧ o.isCells = false)) : PaEx H w B :=
  ⟨row_apart h.c0 hg hr (by omega), row_apart h.c1 hg hr (by omega), below_apart h.bel (Nat.le_of_lt h.c0.lt) hlo hg hr⟩
theorem PaSt.below {H : Nat} {w A B : World} {v : Value} {xs : List Nat} (h : PaSt H w A v xs) (hb : Below A.heap.size A B) : PaSt H w B v xs :=
  ⟨h.c0.below hb h.c0.lt, h.c1.below hb h.c1.lt, h.c2.below hb h.c2.lt, own_below h.own hb, h.bel.trans (hb.mono (Nat.le_of_lt h.c0.lt)), Nat.le_trans h.siz hb.size⟩
theorem KeepsFrom.below {lo : Nat} {A B : World} (hb : Below A.heap.size A B) : KeepsFrom lo A B :=
  ⟨hb.size, fun k o _ hk _ => (hb.block k (Array.getElem?_eq_some_iff.1 hk).1).trans hk⟩

theorem own_cells {w : World} {base e size n : Nat} {v : Value} {xs : List Value} (h : w.ownsRow base e size v n xs) : ∀ r, v.ownBlock = some r → base ≤ r ∧ ∃ o : Obj, w.heap[r]? = some o ∧ o.isCells = true := by
  intro r hr
  rcases h.2 with ⟨rfl, _⟩ | ⟨g, cap, cur, rfl, h6, hgc, _⟩
  · cases hr
  · cases hr
    exact ⟨h6, _, hgc, rfl⟩
theorem pa_step {H lo : Nat} {W w1 w3 : World} {o : Obj} {v v' : Value} (hb1 : Below W.heap.size W w1) (hH : H + 6 ≤ W.heap.size) (hv : ∀ r, v.ownBlock = some r → H + 6 ≤ r ∧ ∃ o' : Obj, (w1.alloc o).heap[r]? = some o' ∧ o'.isCells = true)
    (hg : (w1.alloc o).grownBy w3 v.ownBlock) : KeepsFrom lo W (w3.setCell ⟨H + 2, 0, none⟩ v') ∧ KpR (H + 3) (H + 6) W (w3.setCell ⟨H + 2, 0, none⟩ v') := by
  constructor
  · refine (((KeepsFrom.below hb1).trans ((KeepsOthers.alloc w1 o).from lo)).trans ((KeepsOthers.of_grownBy hg (fun j o' hj ho => ?_)).from lo)).trans ((KeepsOthers.setCell _ _ _).from lo)
    obtain ⟨_, o2, h2, h3⟩ := hv j hj
    rw [h2] at ho; cases ho; exact h3
  · refine ((((KpR.of_below hb1 hb1.size hH).trans (KpR.alloc w1 o (Nat.le_trans hH hb1.size)))).trans ⟨hg.size, fun k h0 h1 => hg.block k (by have := hb1.size; simp; omega) (fun e => by have := (hv k e.symm).1; omega)⟩).trans ⟨?_, fun k h0 h1 => Below.heap_setCell w3 _ _ k (by show k ≠ H + 2; omega)⟩
    exact (KeepsOthers.setCell w3 _ _).size
theorem pa_put {H : Nat} {w w1 w3 : World} {o : Obj} {v v' : Value} {xs : List Nat} {x : Nat} (h : PaSt H w w1 v xs) (hs : H + 6 ≤ w1.heap.size) (hown : w3.ownsRow (H + 6) 22 1 v' (xs.length + 1) (u32c xs ++ [.int .u32 (x : Int)])) (hg : (w1.alloc o).grownBy w3 v.ownBlock) :
    PaSt H w (w3.setCell ⟨H + 2, 0, none⟩ v') v' (xs ++ [x]) := by
  have hne : ∀ k, k < H + 6 → some k ≠ v.ownBlock := fun k hk e => by have := (own_cells h.own k e.symm).1; omega
  have hne' : v'.ownBlock ≠ some (H + 2) := fun e => by have := (own_cells hown _ e).1; omega
  have hsz : H ≤ w1.heap.size := by omega
  refine ⟨((h.c0.alloc o).grown hg (hne _ (by omega))).far (by simp) _, ((h.c1.alloc o).grown hg (hne _ (by omega))).far (by simp) _, ((h.c2.alloc o).grown hg (hne _ (by omega))).set0 rfl, ?_, ?_, ?_⟩
  · rw [List.length_append, u32c_snoc]
    exact own_set hown hne' _
  · have hb := (h.bel.alloc hsz o).grown hg (by simp; omega) (fun k hk => by have := (own_cells h.own k hk).1; omega)
    exact hb.setCell (p := ⟨H + 2, 0, none⟩) (by show H ≤ H + 2; omega) _
  · have := hg.size
    have := (KeepsOthers.setCell w3 ⟨H + 2, 0, none⟩ v').size
    simp at *; omega

/-- What comm.ParseAll hands back. -/
def PaP (s : List UInt8) (w : World) (e : Ending) (w' : World) : Prop :=
  Below w.heap.size w w' ∧
  ((∃ (A : Option Addr) (c : Nat) (r : List Nat), e = .returned (.tuple #[.slice A r.length c, .int .i64 0]) ∧ U32s w' A r.length c r ∧ r.length ≤ 701 ∧ riseB r = true ∧ s = texP r) ∨
   (e = .returned (.tuple #[.slice none 0 0, .int .i64 2]) ∧ ∀ l : List Nat, (∀ x ∈ l, x < 4294967296) → s = texP l → riseB l = false))

theorem Blk.put {W : World} {g D : Nat} {t : TypeId} {cs : Array Value} (h : Blk W g t cs) (hne : g ≠ D) (o : Obj) : Blk (W.putObj D o) g t cs := (World.putObj_heap_other hne).trans h
theorem below_put {H D : Nat} {a W : World} {o : Obj} (h : Below H a W) (hK : W.heap[D]? = some o) (hD : H ≤ D) (o' : Obj) : Below H a (W.putObj D o') :=
  h.grown (grownBy_putObj' W D o') (by have := (Array.getElem?_eq_some_iff.1 hK).1; omega) (fun k e => by cases e; exact hD)
theorem pa_ret {s : List UInt8} {w W : World} {a : Act} {D : Nat} {A0 : Option Addr} {n0 m : Nat} {q : Int} (k0 : Blk W w.heap.size 27 #[.slice A0 n0 m]) (k1 : Blk W (w.heap.size + 1) 39 #[.int .i64 q]) (hK : W.heap[D]? = some (.deferred (some []))) (hD : w.heap.size + 6 ≤ D)
    (hd : a.defers = [{ target := .collected D, args := #[] }]) (t2 : a.tmps[2]?.getD undef = .pointer (some ⟨w.heap.size, 0, none⟩)) (t3 : a.tmps[3]?.getD undef = .pointer (some ⟨w.heap.size + 1, 0, none⟩))
    (R : PaP s w (.returned (.tuple #[.slice A0 n0 m, .int .i64 q])) (W.putObj D (.deferred none))) : bodyPostM Fence.wide 5 Tryd.prog Tryd.f70 (PaP s w) Exit.ret a W := by
  have j0 := k0.put (D := D) (by omega) (.deferred none)
  have j1 := k1.put (D := D) (by omega) (.deferred none)
  have e0 := j0.cell 0
  have e1 := j1.cell 0
  have f0 := j0.frozen 0
  have f1 := j1.frozen 0
  show LeavesInM Fence.wide 5 Tryd.prog Tryd.f70 a.tmps (PaP s w) a.defers .returning W
  rw [hd]
  refine ⟨by simp, .inl ⟨_, _, rfl, run_takeDeferred hK, ?_⟩⟩
  refine ⟨.tuple #[.slice A0 n0 m, .int .i64 q], ?_, R⟩
  simp [results, Tryd.results70, go_sem, t2, t3, e0, e1, f0, f1]

set_option maxRecDepth 100000 in
set_option maxHeartbeats 2000000 in
theorem parseAll_any (s : List UInt8) (hs : s.length ≤ 700) (hp : ∀ p ∈ pieces 32 s, p.length ≤ 400) (w : World) (he : Env w) :
    Calls Tryd.prog 70 #[.string (str s)] w (PaP s w) := by
  have HE := hide he
  by_cases hd : s = [45]
  · have hd1 : ((str s).toList == [45]) = true := by rw [hd]; unfold str; rw [ByteArray.toList_mk]; rfl
    have HD := hide hd
    clear hd
    go_enter Tryd.func70, Tryd.ntmps70
    go_wp2
    have k0 := (Blk.new w 27 #[.slice none 0 0]).alloc (.cells #[.int .i64 0] 39)
    have k1 := blk_new' (w := w.alloc (.cells #[.slice none 0 0] 27)) (g := w.heap.size + 1) 39 #[.int .i64 0] (by simp)
    have r0 := k0.cell 0
    have r1 := k1.cell 0
    have q0 := k0.frozen 0
    have q1 := k1.frozen 0
    refine bodyPost_ret (v := .tuple #[.slice none 0 0, .int .i64 0]) (by simp [results, Tryd.results70, go_sem, r0, r1, q0, q1]) rfl ⟨((Below.refl _ w).alloc (Nat.le_refl _) _).alloc (by simp) _, .inl ⟨none, 0, [], rfl, ⟨rfl, Nat.le_refl _, by simp [maxLen], by simp, fun h => absurd h (by simp)⟩, by simp, rfl, ?_⟩⟩
    rw [HD.out]; rfl
  · have hd1 : ((str s).toList == [45]) = false := by
      unfold str; rw [ByteArray.toList_mk]; simpa using hd
    have HD := hide hd
    clear hd
    refine (callsIn_wide (n := 5)).1 (callsIn_of_wp_marks Tryd.func70 rfl trivial ?_ rfl)
    simp only [Tryd.ntmps70, List.size_toArray, List.length_cons, List.length_nil, Nat.reduceAdd, Nat.reduceSub, Array.replicate_succ, Array.replicate_zero, List.push_toArray, List.append_toArray, List.nil_append, List.cons_append]
    gi_wp2_with (refine ⟨trivial, ?_⟩; gi_at_call 88; refine (callsIn_wide.2 (SplitSeq_any _ _ _)).mono ?_; rintro e w1 ⟨rfl, rfl⟩)
    obtain ⟨k0, k1, k2, k3, k4, k5⟩ := paW_blks (str s) w
    have hsz := paW_size (str s) w
    refine wpIn_rangeFunc_cell (w := paW (str s) w) rfl (by omega) (gf := 166) (lb := #[.pointer (some ⟨w.heap.size + 3 + 1, 0, none⟩), .pointer (some ⟨w.heap.size + 3, 0, none⟩), .pointer (some ⟨w.heap.size + 3 + 2, 0, none⟩)]) rfl trivial (enters_of Tryd.func166 (by kernel_rfl) rfl)
      (encs := fun x : List UInt8 => #[.string (str x)]) (b0 := w.heap.size + 3) (b1 := w.heap.size + 6) (by omega) (by omega) (xs := pieces 32 s)
      (fun l W hk => splitSeq1_in 4 (by omega) l (w.heap.size + 3) 32 s (by omega) _ rfl W (hk.blk (by omega) (by omega) k3) (hk.blk (by omega) (by omega) k4) (hk.blk (by omega) (by omega) k5)) (fun _ => rfl)
      (fun pre W => ∃ (v : Value) (xs : List Nat), pre = xs.map commT ∧ (∀ x ∈ xs, x < 4294967296) ∧ PaSt w.heap.size w W v xs)
      (fun c pre W => c = .ret ∧ (∃ p ∈ pre, ∀ x, x < 4294967296 → p ≠ commT x) ∧ PaEx w.heap.size w W)
      (fun s A B row hs hg hr => by
        obtain ⟨v, xs, h1, h2, h3⟩ := hs
        exact ⟨v, xs, h1, h2, h3.abide (by omega) hg hr⟩)
      (fun c s A B row hs hg hr => ⟨hs.1, hs.2.1, hs.2.2.abide (by omega) hg hr⟩)
      ⟨_, [], rfl, by simp, k0, k1, k2, World.ownsRow_nil _ _ _ _, paW_below _ _, by omega⟩
      (fun x => { tmps := #[.string (str s), undef, .pointer (some ⟨w.heap.size, 0, none⟩), .pointer (some ⟨w.heap.size + 1, 0, none⟩), .pointer (some ⟨w.heap.size + 2, 0, none⟩), .string (str x), undef, undef, .string (str s), .bool false, .string (str s),
          .func (.func 166) #[] #[.pointer (some ⟨w.heap.size + 3 + 1, 0, none⟩), .pointer (some ⟨w.heap.size + 3, 0, none⟩), .pointer (some ⟨w.heap.size + 3 + 2, 0, none⟩)], .string (str x), undef, undef, undef, undef, undef, undef, undef, undef, undef, undef, undef, undef, undef, undef, undef, undef], defers := [] }) ?assign ?body ?done ?stop
    case assign =>
      intro l x W K hK
      gi_wp2
      exact hK
    case body =>
      rintro l pre p post W hx ⟨v, xs, hpre, hxb, hst⟩
      have hlen : p.length ≤ 400 := hp p (by rw [← hx]; simp)
      have HC := hide (cparse4_any p hlen W (HE.out.below hst.bel))
      have HS := hide hst
      have hxl : xs.length ≤ 700 := by
        have h1 := pieces_len 32 s
        rw [← hx, hpre] at h1
        simp at h1; omega
      have hsW : w.heap.size + 6 ≤ W.heap.size := hst.siz
      have HP := hide hpre
      have HXB := hide hxb
      obtain ⟨i0, hi, hz0, hz1, hz2⟩ := info_parts info32
      clear hpre hxb hst hx
      gi_wp2_with fail
      refine ⟨trivial, ?_⟩
      gi_at_call 103
      refine (CallsIn.inRound l (callsIn_wide.2 HC.out)).mono ?_
      rintro e w1 ⟨hb1, c, b, hc, rfl, h1, h2⟩
      have HS1 := hide (HS.out.below hb1)
      have HB1 := hide hb1
      have hs1 := hb1.size
      have d0 := HS1.out.c0.cell 0
      have d1 := HS1.out.c1.cell 0
      have d2 := HS1.out.c2.cell 0
      have f0 := HS1.out.c0.frozen 0
      have f1 := HS1.out.c1.frozen 0
      have f2 := HS1.out.c2.frozen 0
      have H1 := hide h1
      have H2 := hide h2
      clear hb1 h1 h2
      cases b
      · gi_wp2
        refine ⟨((KeepsFrom.below HB1.out).trans ((KeepsOthers.setCell _ _ _).from _)).trans ((KeepsOthers.setCell _ _ _).from _), rfl, ⟨p, by simp, fun x hx e => by have := (H2.out x hx e).1; cases this⟩, ?_⟩
        exact ⟨((HS1.out.c0.set0 rfl).far (by simp) _), ((HS1.out.c1.far (by simp) _).set0 rfl), (HS1.out.bel.setCell (p := ⟨w.heap.size, 0, none⟩) (Nat.le_refl _) _).setCell (p := ⟨w.heap.size + 1, 0, none⟩) (by show w.heap.size ≤ w.heap.size + 1; omega) _⟩
      · obtain ⟨A0, c0, rfl⟩ := own_slice HS1.out.own
        gi_wp2_with (gi_at_builtin; refine wpListIn_append_own _ rfl (.tmp 20) (.tmp 22) 27 rfl (w.heap.size + 6) 22 i0 _ 1 4 Tryd.underlying27 hi hz0 hz1 hz2 rfl (by decide) (.slice A0 xs.length c0) xs.length (u32c xs) rfl (HS1.out.own.alloc _) ⟨w1.heap.size, 0, none⟩ 1 1 [.int .u32 (c : Int)] rfl rfl (cell_one_new _ _ _) (by simp [Value.oneCell']) (by unfold maxLen; omega) (by omega) (by simp; omega) ?_; intro v' w3 hown' hgrow _; have HO := hide hown'; have HG := hide hgrow; obtain ⟨A', c', rfl⟩ := own_slice hown'; clear hown' hgrow; have k23 : Blk w3 (w.heap.size + 2) 27 #[.slice A0 xs.length c0] := (HS1.out.c2.alloc _).grown HG.out (fun e => by have := (own_cells HS1.out.own _ e.symm).1; omega); have d23 := k23.cell 0; have f23 := k23.frozen 0)
        have hst := pa_step (lo := (paW (str s) w).heap.size) (v' := .slice A' (xs.length + 1) c') HB1.out hsW (own_cells (HS1.out.own.alloc _)) HG.out
        exact ⟨hst.1, hst.2, _, xs ++ [c], by rw [HP.out, List.map_append, H1.out trivial]; rfl, fun x hx => by
          rcases List.mem_append.1 hx with hx | hx
          · exact HXB.out x hx
          · rw [List.mem_singleton.1 hx]; exact hc, pa_put HS1.out (by omega) HO.out HG.out⟩
    case done =>
      rintro D W hD ⟨v, xs, hpre, hxb, hst⟩ hK
      have hxl : xs.length ≤ 701 := by
        have h1 := pieces_len 32 s
        rw [hpre] at h1
        simp at h1; omega
      have hne : xs ≠ [] := by
        rintro rfl
        exact pieces_ne 32 s hpre
      have hxs := hide (show s = texP xs by
        unfold texP ct
        rw [if_neg hne, ← hpre, jw_pieces])
      obtain ⟨A0, c0, rfl⟩ := own_slice hst.own
      have HU := hide (U32s.of_own hst.own hxb)
      have HI := hide (asnIs_any A0 xs.length c0 xs W HU.out (by omega))
      have HS := hide hst
      have d2 := hst.c2.cell 0
      rw [hsz] at hD
      clear hpre hxb hst
      gi_wp2_with fail
      refine ⟨trivial, ?_⟩
      gi_at_call 79
      refine (callsIn_wide.2 HI.out).mono ?_
      rintro e w1 ⟨rfl, hb1⟩
      have HS1 := hide (HS.out.below hb1)
      have HU1 := hide (HU.out.below hb1)
      have hK1 := (hb1.block D (Array.getElem?_eq_some_iff.1 hK).1).trans hK
      have e0 := HS1.out.c0.cell 0
      have e1 := HS1.out.c1.cell 0
      have e2 := HS1.out.c2.cell 0
      have f0 := HS1.out.c0.frozen 0
      have f1 := HS1.out.c1.frozen 0
      clear hb1 hK
      rcases hri : riseB xs with _ | _
      · have HRI := hide hri
        clear hri
        gi_wp2
        have hK2 : ((w1.setCell ⟨w.heap.size, 0, none⟩ (.slice none 0 0)).setCell ⟨w.heap.size + 1, 0, none⟩ (.int .i64 2)).heap[D]? = some (.deferred (some [])) :=
          (KeepsOthers.setCell _ _ _).same D _ ((KeepsOthers.setCell w1 _ _).same D _ hK1 rfl) rfl
        refine pa_ret ((HS1.out.c0.set0 rfl).far (by simp) _) ((HS1.out.c1.far (by simp) _).set0 rfl) hK2 hD rfl rfl rfl ⟨below_put ((HS1.out.bel.setCell (p := ⟨w.heap.size, 0, none⟩) (Nat.le_refl _) _).setCell (p := ⟨w.heap.size + 1, 0, none⟩) (by show w.heap.size ≤ w.heap.size + 1; omega) _) hK2 (by omega) _, .inr ⟨rfl, fun l hl e => ?_⟩⟩
        rw [← texP_inj (hxs.out.symm.trans e)]
        exact HRI.out
      · have HRI := hide hri
        clear hri
        obtain ⟨g, cap, hv, hg6, hg⟩ := HS1.out.own.form (by cases xs with | nil => exact absurd rfl hne | cons x r => simp)
        cases hv
        have hcp := HU1.out.2.1
        have hcm := HU1.out.2.2.1
        have HCL := hide (clip_any g xs.length c0 w1 hcp hcm)
        gi_wp2_with fail
        refine ⟨trivial, ?_⟩
        gi_at_call 118
        refine (callsIn_wide.2 HCL.out).mono ?_
        rintro e w2 ⟨rfl, rfl⟩
        gi_wp2
        have hK2 : ((w2.setCell ⟨w.heap.size, 0, none⟩ (.slice (some ⟨g, 0, none⟩) xs.length xs.length)).setCell ⟨w.heap.size + 1, 0, none⟩ (.int .i64 0)).heap[D]? = some (.deferred (some [])) :=
          (KeepsOthers.setCell _ _ _).same D _ ((KeepsOthers.setCell w2 _ _).same D _ hK1 rfl) rfl
        refine pa_ret ((HS1.out.c0.set0 rfl).far (by simp) _) ((HS1.out.c1.far (by simp) _).set0 rfl) hK2 hD rfl rfl rfl ⟨below_put ((HS1.out.bel.setCell (p := ⟨w.heap.size, 0, none⟩) (Nat.le_refl _) _).setCell (p := ⟨w.heap.size + 1, 0, none⟩) (by show w.heap.size ≤ w.heap.size + 1; omega) _) hK2 (by omega) _, .inl ⟨_, _, xs, rfl, ?_, hxl, HRI.out, hxs.out⟩⟩
        refine ⟨rfl, Nat.le_refl _, by unfold maxLen; omega, HU1.out.2.2.2.1, fun hn => ?_⟩
        obtain ⟨g', o', hA, hg', hcs⟩ := HU1.out.2.2.2.2 hn
        cases hA
        have hsw := (KeepsOthers.setCell w2 ⟨w.heap.size, 0, none⟩ (.slice (some ⟨g, 0, none⟩) xs.length xs.length)).size
        have hsw2 := (KeepsOthers.setCell (w2.setCell ⟨w.heap.size, 0, none⟩ (.slice (some ⟨g, 0, none⟩) xs.length xs.length)) ⟨w.heap.size + 1, 0, none⟩ (.int .i64 0)).size
        refine ⟨g, 0, rfl, by simp; omega, fun k x hk => ?_⟩
        rw [← hcs k x hk]
        have hgD : g ≠ D := by
          rintro rfl
          rcases HS1.out.own.2 with ⟨h0, _⟩ | ⟨g2, cap2, cur, h0, _, hgc, _⟩
          · cases h0
          · cases h0; rw [hgc] at hK1; cases hK1
        exact World.cell?_of_block ((World.putObj_heap_other hgD).trans ((Below.heap_setCell _ _ _ g (by show g ≠ w.heap.size + 1; omega)).trans (Below.heap_setCell _ _ _ g (by show g ≠ w.heap.size; omega))))
    case stop =>
      rintro D c pre x post W hD hx ⟨rfl, hbad, hex⟩ hK
      have e0 := hex.c0.cell 0
      have e1 := hex.c1.cell 0
      have f0 := hex.c0.frozen 0
      have f1 := hex.c1.frozen 0
      rw [hsz] at hD
      gi_wp2
      refine pa_ret hex.c0 hex.c1 hK hD rfl rfl rfl ⟨below_put hex.bel hK (by omega) _, .inr ⟨rfl, fun l hl e => ?_⟩⟩
      obtain ⟨p, hpm, hpn⟩ := hbad
      have hpp : p ∈ pieces 32 s := by
        rw [← hx]
        rcases List.mem_append.1 hpm with h | h
        · exact List.mem_append_left _ h
        · rw [List.mem_singleton.1 h]; simp
      have hl0 : l ≠ [] := by
        rintro rfl
        exact HD.out (e.trans rfl)
      rw [e, texP, if_neg hl0, ct_pieces hl0] at hpp
      obtain ⟨y, hy, rfl⟩ := List.mem_map.1 hpp
      exact absurd rfl (hpn y (hl y hy))
end Go.Proofs.YtiibglkiakhfgaaDoor
