/-
  SLICES OF uint32: what it is to read as a list; an argument opened; the laws' own copy ('Few'); what the reference's Has says.
-/
import Derived.Test.YtiibglkiakhfgaaDoorRows
import Derived.Test.YtiibglkiakhfgaaDoorKit
set_option linter.unusedSimpArgs false
set_option linter.unusedVariables false
namespace Go.Proofs.YtiibglkiakhfgaaDoor
open Go.RowKit Go.WideShapes Go.ChangeShapes Go.ChangeAt

theorem cells32 : Tryd.prog.cellsOf 22 = 1 := by kernel_rfl
theorem info32 : (Tryd.prog.info? 22).map (fun i => (i.zero, i.size, i.bytes)) = some (some (.int .u32 0), 1, 4) := by kernel_rfl

def u32c (l : List Nat) : List Value := l.map fun x : Nat => .int .u32 (x : Int)

/-- The slice value '.slice A n c' reads as the numbers l. -/
def U32s (w : World) (A : Option Addr) (n c : Nat) (l : List Nat) : Prop :=
  l.length = n ∧ n ≤ c ∧ c ≤ maxLen ∧ (∀ x ∈ l, x < 4294967296) ∧
    (0 < n → ∃ g o, A = some ⟨g, o, none⟩ ∧ g < w.heap.size ∧ ∀ (k x : Nat), l[k]? = some x → w.cell? ⟨g, o + k, none⟩ = some (.int .u32 (x : Int)))

theorem U32s.below {w w' : World} {A : Option Addr} {n c : Nat} {l : List Nat} (h : U32s w A n c l) (hb : Below w.heap.size w w') : U32s w' A n c l := by
  refine ⟨h.1, h.2.1, h.2.2.1, h.2.2.2.1, fun hn => ?_⟩
  obtain ⟨g, o, hA, hg, hc⟩ := h.2.2.2.2 hn
  exact ⟨g, o, hA, Nat.lt_of_lt_of_le hg hb.size, fun k x hk => (hb.cell (by exact hg)).trans (hc k x hk)⟩
theorem U32s.at_ {w : World} {A : Option Addr} {n c : Nat} {l : List Nat} (h : U32s w A n c l) {k : Nat} (hk : k < n) :
    ∃ g o x, A = some ⟨g, o, none⟩ ∧ g < w.heap.size ∧ l[k]? = some x ∧ x < 4294967296 ∧ w.cell? ⟨g, o + k, none⟩ = some (.int .u32 (x : Int)) := by
  obtain ⟨g, o, hA, hg, hc⟩ := h.2.2.2.2 (by omega)
  have hx : l[k]? = some (l[k]'(by rw [h.1]; exact hk)) := List.getElem?_eq_getElem _
  exact ⟨g, o, _, hA, hg, hx, h.2.2.2.1 _ (List.getElem_mem _), hc k _ hx⟩
theorem U32s.take_ {w : World} {A : Option Addr} {n c : Nat} {l : List Nat} (h : U32s w A n c l) {m : Nat} (hm : m ≤ n) : U32s w A m c (l.take m) := by
  refine ⟨by rw [List.length_take, h.1]; omega, Nat.le_trans hm h.2.1, h.2.2.1, fun x hx => h.2.2.2.1 x (List.mem_of_mem_take hx), fun h0 => ?_⟩
  obtain ⟨g, o, hA, hg, hc⟩ := h.2.2.2.2 (by omega)
  exact ⟨g, o, hA, hg, fun k x hk => hc k x (by rw [List.getElem?_take] at hk; split at hk; exact hk; cases hk)⟩
theorem U32s.of_own {w : World} {base n c : Nat} {A : Option Addr} {l : List Nat} (h : w.ownsRow base 22 1 (.slice A n c) n (u32c l)) (hb : ∀ x ∈ l, x < 4294967296) : U32s w A n c l := by
  have hl : l.length = n := by have := h.1; simp [u32c] at this; omega
  rcases h.2 with ⟨hv, h0⟩ | ⟨g, cap, cur, hv, _, hh, hnc, hm, _⟩
  · injection hv with e1 e2 e3
    subst e2 e3
    exact ⟨hl, Nat.le_refl _, by simp [maxLen], hb, fun h => by omega⟩
  · injection hv with e1 _ e3
    subst e1 e3
    refine ⟨hl, hnc, hm, hb, fun _ => ⟨g, 0, rfl, (Array.getElem?_eq_some_iff.1 hh).1, fun k x hk => ?_⟩⟩
    have := h.cells (g := g) rfl k (.int .u32 (x : Int)) (by simp [u32c, hk])
    rw [show (⟨g, 0, none⟩ : Addr).add k = ⟨g, 0 + k, none⟩ by unfold Addr.add; split <;> simp_all] at this
    exact this
/-- .. in the words of the append's law. -/
theorem U32s.reads {w : World} {A : Option Addr} {n c : Nat} {l : List Nat} (h : U32s w A n c l) : Reads w w.heap.size 1 A n (u32c l) := by
  refine ⟨by simp [u32c, h.1], fun hn => ?_⟩
  obtain ⟨g, o, hA, hg, hc⟩ := h.2.2.2.2 hn
  refine ⟨_, hA, hg, fun j u hu => ?_⟩
  simp only [u32c, List.getElem?_map, Option.map_eq_some_iff] at hu
  obtain ⟨x, hx, rfl⟩ := hu
  have := hc j x hx
  rw [show (⟨g, o, none⟩ : Addr).add j = ⟨g, o + j, none⟩ by unfold Addr.add; split <;> simp_all]
  exact this
theorem u32c_one (l : List Nat) : ∀ u ∈ u32c l, u.oneCell' = true := by
  intro u hu
  simp only [u32c, List.mem_map] at hu
  obtain ⟨x, _, rfl⟩ := hu
  rfl

/-- An argument's reading, opened. -/
theorem u32s_open {H : Type} {enc : TypeId × Value → H} {W : World} {A : Option Addr} {n c : Nat} {d : DataW H} {p : List MemPlace}
    (h : DataW.Trod enc Tryd.prog W 0 (fun _ => true) true 27 (.slice A n c) d p) : ∃ l, U32s W A n c l := by
  obtain ⟨fuel, hf⟩ := h
  rcases open_ints Tryd.underlying27 Tryd.underlying22 cells32 hf with ⟨hcs, _⟩ | ⟨a, len, cap, zs, hcs, _, hl, hm, hz, _, hcell, hw⟩
  · simp [Value.cells] at hcs
    obtain ⟨rfl, rfl, rfl⟩ := hcs
    exact ⟨[], rfl, Nat.le_refl _, by simp [maxLen], by simp, fun h => by omega⟩
  · simp [Value.cells] at hcs
    obtain ⟨rfl, rfl, rfl⟩ := hcs
    simp only [if_true] at hz
    have hb : ∀ z ∈ zs, 0 ≤ z ∧ z < 4294967296 := fun z hz => by
      have := hw z hz
      simp [Lit.wf, IntKind.min, IntKind.max, IntKind.signed, IntKind.bits] at this
      omega
    refine ⟨(zs.take n).map Int.toNat, by simp [hz]; omega, hl, hm, fun x hx => ?_, fun hn => ?_⟩
    · simp only [List.mem_map] at hx
      obtain ⟨z, hz, rfl⟩ := hx
      have := hb z (List.mem_of_mem_take hz)
      omega
    · obtain ⟨b, off, rfl, hc⟩ := ints_at hcell (by omega)
      have h0 := hc 0 (by omega)
      refine ⟨b, off, rfl, World.block_lt_of_cell? W _ h0, fun k x hk => ?_⟩
      simp only [List.getElem?_map, Option.map_eq_some_iff, List.getElem?_take] at hk
      obtain ⟨z, hz', rfl⟩ := hk
      split at hz'
      · have hk2 : k < zs.length := (List.getElem?_eq_some_iff.1 hz').1
        have := hc k hk2
        rw [this]
        have e : zs.getD k 0 = z := by simp [List.getD, hz']
        have hzm : z ∈ zs := List.mem_of_getElem? hz'
        rw [e, Int.toNat_of_nonneg (hb z hzm).1]
      · cases hz'


/-- A list of numbers in memory of the call's own. -/
def Own32 (w w' : World) (v : Value) (l : List Nat) : Prop := w'.ownsRow w.heap.size 22 1 v l.length (u32c l) ∧ Below w.heap.size w w'
theorem Own32.u32s {w w' : World} {v : Value} {l : List Nat} (h : Own32 w w' v l) (hb : ∀ x ∈ l, x < 4294967296) : ∃ A n c, v = .slice A n c ∧ U32s w' A n c l := by
  obtain ⟨A, c, rfl⟩ := own_slice h.1
  exact ⟨A, _, c, rfl, U32s.of_own h.1 hb⟩

set_option maxHeartbeats 1000000 in
theorem few_any (A : Option Addr) (n c : Nat) (l : List Nat) (most : Nat) (hmost : most ≤ 100000) (w : World) (h : U32s w A n c l) :
    Calls Tryd.prog 22 #[.slice A n c, .int .i64 most] w fun e w' => ∃ v, e = .returned v ∧ Own32 w w' v (l.take most) := by
  obtain ⟨i0, hi, hz0, hz1, hz2⟩ := info_parts info32
  have hn := h.2.2.1
  have hnc := h.2.1
  unfold maxLen at hn
  have hlen := h.1
  by_cases hm : most < n
  · have ht := h.take_ (m := most) (by omega)
    have hcut : (l.take most).length = most := by rw [List.length_take]; omega
    have HC := hide hcut
    have HL := hide hlen
    have H0 := hide h
    clear hcut hlen h
    go_enter Tryd.func22, Tryd.ntmps22
    go_wp2_with (at_builtin; refine wpList_append_any _ rfl (.tmp 12) (.tmp 13) 27 rfl w.heap.size 22 i0 _ 1 4 Tryd.underlying27 hi hz0 hz1 hz2 rfl (by decide) (.slice (some ⟨w.heap.size, 0, none⟩) 0 0) 0 [] rfl (World.ownsRow_made _ _ _ (Nat.le_refl _) (by simp [maxLen]) (by simp)) w.heap.size A most c (u32c (l.take most)) rfl (ht.reads.alloc (Nat.le_refl _) _) (u32c_one _) (by unfold maxLen; omega) (by omega) (by simp) ?_; intro v' w1 hown' hgrow _)
    go_ret
    refine ⟨_, rfl, ?_, ?_⟩
    · rw [HC.out]; simpa using hown'
    · exact ((Below.refl _ _).alloc (Nat.le_refl _) _).grown hgrow (by simp) (fun k hk => by simp [Value.ownBlock] at hk; omega)
  · have hcut : l.take most = l := List.take_of_length_le (by omega)
    rw [hcut]
    subst hlen
    have HC := hide hcut
    have H0 := hide h
    clear hcut
    go_enter Tryd.func22, Tryd.ntmps22
    go_wp2_with (at_builtin; refine wpList_append_any _ rfl (.tmp 12) (.tmp 13) 27 rfl w.heap.size 22 i0 _ 1 4 Tryd.underlying27 hi hz0 hz1 hz2 rfl (by decide) (.slice (some ⟨w.heap.size, 0, none⟩) 0 0) 0 [] rfl (World.ownsRow_made _ _ _ (Nat.le_refl _) (by simp [maxLen]) (by simp)) w.heap.size A l.length c (u32c l) rfl (h.reads.alloc (Nat.le_refl _) _) (u32c_one _) (by unfold maxLen; omega) (by omega) (by simp) ?_; intro v' w1 hown' hgrow _)
    go_ret
    refine ⟨_, rfl, ?_, ?_⟩
    · simpa using hown'
    · exact ((Below.refl _ _).alloc (Nat.le_refl _) _).grown hgrow (by simp) (fun k hk => by simp [Value.ownBlock] at hk; omega)

set_option maxHeartbeats 400000 in
theorem refHas_any (A : Option Addr) (n c : Nat) (l : List Nat) (x : Nat) (w : World) (h : U32s w A n c l) :
    Calls Tryd.prog 25 #[.slice A n c, .int .u32 x] w fun e w' => e = .returned (.bool (decide (x ∈ l))) ∧ w = w' := by
  have hm := h.2.2.1
  have hnc := h.2.1
  unfold maxLen at hm
  have HU := hide h
  clear h
  go_enter Tryd.func25, Tryd.ntmps25
  go_wp2
  go_loop [5] (fun i => ∃ k : Nat, k ≤ n ∧ i = .int .i64 k ∧ x ∉ l.take k) (fun i => n - (intOf i).toNat)
  case atStart => exact ⟨0, Nat.zero_le _, rfl, by simp⟩
  case round =>
    obtain ⟨k, hk, rfl, hno⟩ := hrel
    have HN := hide hno
    clear hno
    by_cases hlt : k < n
    · obtain ⟨g, o, y, rfl, hg, hy, hy2, hc⟩ := HU.out.at_ hlt
      by_cases hxy : y = x
      · have hin := hide (show decide (x ∈ l) = true by
          rw [decide_eq_true_eq]; exact List.mem_of_getElem? (hxy ▸ hy))
        have he : ((y : Int) == (x : Int)) = true := by rw [hxy]; simp
        clear hxy hy
        go_wp2
        go_ret
        exact ⟨ret_bool hin.out.symm, rfl⟩
      · have he : ((y : Int) == (x : Int)) = false := by simp; omega
        have hn2 := hide (show x ∉ l.take (k + 1) by
          rw [List.take_add_one, hy]
          have := HN.out
          simp only [List.mem_append, Option.toList_some, List.mem_singleton, not_or]
          exact ⟨this, fun e => hxy e.symm⟩)
        clear hxy hy
        go_wp2
        go_round
        case rel => exact ⟨k + 1, by omega, by go_num, hn2.out⟩
        case measure => simp [intOf]; omega
    · obtain rfl : k = n := by omega
      have hf := hide (show decide (x ∈ l) = false by
        have := HN.out
        rw [List.take_of_length_le (by rw [HU.out.1]; exact Nat.le_refl _)] at this
        simpa using this)
      go_wp2
      go_ret
      exact ⟨ret_bool hf.out.symm, rfl⟩
end Go.Proofs.YtiibglkiakhfgaaDoor
