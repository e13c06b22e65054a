import Derived.Test.YtiibglkiakhfgaaDoorAsnTwoW
import Derived.Test.YtiibglkiakhfgaaDoorUsB
import Derived.Shelf.Spec.SlicesInsertGrow
import Derived.Deep.MidRow
import Derived.Lib.RowBridge
set_option linter.unusedSimpArgs false
set_option linter.unusedVariables false
namespace Go.Proofs.YtiibglkiakhfgaaDoor
open Go.RowKit Go.Lib Go.Shelf
theorem size22 : ∀ w, (Go.sizeOf 22).run Tryd.prog w = .ok 1 w := fun _ => by kernel_rfl
set_option maxHeartbeats 4000000 in
set_option maxRecDepth 100000 in
theorem insU_shift (b off n c i vb voff m vc : Nat) (cs vs : List Value) (w : World) (hi : i < n) (hm : 0 < m) (hroom : n + m ≤ c) (hc63 : c ≤ 9223372036854775807) (hvb : vb ≠ b)
    (hcl : cs.length = n) (hvl : vs.length = m)
    (hcs : ∀ j v, cs[j]? = some v → w.cell? ⟨b, off + j, none⟩ = some v) (hsp : ∀ j, j < n + m → (w.cell? ⟨b, off + j, none⟩).isSome = true) (hfz : ∀ j, j < n + m → w.frozen? ⟨b, off + j, none⟩ = false)
    (hvs : ∀ j v, vs[j]? = some v → w.cell? ⟨vb, voff + j, none⟩ = some v) (h1c : ∀ v ∈ cs, v.oneCell' = true) (h1v : ∀ v ∈ vs, v.oneCell' = true)
    (tA tB : TypeId) (kA kB : Nat) (hsa : w.shape? vb = some (tA, kA)) (hsb : w.shape? b = some (tB, kB)) (hkB : kB ≠ 0) (hfa : w.frozen? ⟨vb, voff, none⟩ = false) (hfe : w.frozen? ⟨vb, kA, none⟩ = false) :
    Calls Tryd.prog 128 #[.slice (some ⟨b, off, none⟩) n c, .int .i64 i, .slice (some ⟨vb, voff, none⟩) m vc] w fun e w' =>
      e = .returned (.slice (some ⟨b, off, none⟩) (n + m) c) ∧ w' = (w.drew.setCells b (off + (i + m)) (cs.drop i)).setCells b (off + i) vs := by
  have hz1 : ¬ ((m : Int) = 0) := by omega
  have hz2 : ¬ ((i : Int) = (n : Int)) := by omega
  have hsz : (Tryd.prog.info? 22).map (·.size) = some 1 := by
    obtain ⟨i0, hi0, h0, h1, h2⟩ := info_parts info32
    rw [hi0]; simp [h1]
  have hov : ∀ lb cb, (callFunc 162 #[.slice (some ⟨vb, voff, none⟩) m vc, .slice (some ⟨b, off + (i + m), none⟩) lb cb]).run Tryd.prog w = .ok (.value (.bool false)) w := fun lb cb => by
    rw [run_callFunc_extern Tryd.func162 (by kernel_rfl) (by kernel_rfl) (by kernel_rfl) (e := Extern.SlicesOverlaps.overlaps #[27, 27] #[4]) (by kernel_rfl),
      Lib.run_overlaps_apart w 27 4 22 Tryd.underlying27 1 size22 ⟨vb, voff, none⟩ ⟨b, off + (i + m), none⟩ m vc lb cb hvb tA tB kA kB hsa hsb hkB hfa hfe]
    rfl
  have hdl : (cs.drop i).length = n - i := by rw [List.length_drop, hcl]
  have hw1 : IntKind.i64.wrap ((i : Int) + (m : Int)) = (i : Int) + (m : Int) := by rw [IntKind.wrap_i64]; omega
  have hb1 : (0 : Int) ≤ (i : Int) + (m : Int) := by omega
  have hin : i ≤ n := by omega
  have htn : ((i : Int) + (m : Int)).toNat = i + m := by omega
  have hb2 : ¬ (c = i + m) := by omega
  have hb3 : (i : Int) ≤ (n : Int) + (m : Int) := by omega
  have hb4 : ¬ (c = i) := by omega
  have hcp1 : ∀ ty dc sc, (Builtin.copy_ #[27, 27] ty #[.slice (some ⟨b, off + (i + m), none⟩) (n + m - (i + m)) dc, .slice (some ⟨b, off + i, none⟩) (n + m - i) sc]).run Tryd.prog w.drew = .ok (goInt (cs.drop i).length) (w.drew.setCells b (off + (i + m)) (cs.drop i)) := fun ty dc sc =>
    run_copy_cells w.drew _ _ ty 22 b (off + (i + m)) (n + m - (i + m)) dc ⟨b, off + i, none⟩ (n + m - i) sc (cs.drop i) Tryd.underlying27 hsz (by rw [hdl]; simp only [Nat.min_def]; split <;> omega)
      (fun j v hj => by rw [Addr.add_lit, Nat.add_assoc]; exact hcs (i + j) v (by rwa [List.getElem?_drop] at hj))
      (fun j hj => by rw [Nat.add_assoc]; exact hsp _ (by omega)) (fun j hj => by rw [Nat.add_assoc]; exact hfz _ (by omega)) (fun v hv => h1c v (List.mem_of_mem_drop hv))
  obtain ⟨W1, hW1⟩ : ∃ W1, W1 = w.drew.setCells b (off + (i + m)) (cs.drop i) := ⟨_, rfl⟩
  have hsp1 : ∀ k, k < n + m → (W1.cell? ⟨b, off + k, none⟩).isSome = true := fun k hk => by
    rw [hW1]
    exact isSome_setCells b _ _ _ (fun j hj => by rw [Nat.add_assoc]; exact hsp _ (by omega)) _ (hsp k hk)
  have hcp2 : ∀ (W : World), (∀ x, W.cell? x = W1.cell? x) → (∀ x, W.frozen? x = W1.frozen? x) → ∀ ty dc, (Builtin.copy_ #[27, 27] ty #[.slice (some ⟨b, off + i, none⟩) (n + m - i) dc, .slice (some ⟨vb, voff, none⟩) m vc]).run Tryd.prog W = .ok (goInt vs.length) (W.setCells b (off + i) vs) := fun W hWc hWf ty dc =>
    run_copy_cells W _ _ ty 22 b (off + i) (n + m - i) dc ⟨vb, voff, none⟩ m vc vs Tryd.underlying27 hsz (by rw [hvl]; simp only [Nat.min_def]; split <;> omega)
      (fun j v hj => by
        rw [Addr.add_lit, hWc, hW1, World.cell?_setCells_out b _ _ _ _ (fun h _ => absurd h hvb)]
        exact hvs j v hj)
      (fun j hj => by rw [hWc, Nat.add_assoc]; exact hsp1 _ (by omega)) (fun j hj => by rw [hWf, hW1, World.frozen?_setCells, Nat.add_assoc]; exact hfz _ (by omega)) h1v
  rw [← hW1] at hcp1
  go_enter Tryd.func128, Tryd.ntmps128
  go_wp2_with (simp only [hov])
  go_region_law (refine step_copy_runI rfl _ _ 27 27 rfl _ _ (by simp [Act.eval, Act.put]) (by simp [Act.eval, Act.put]) (hcp1 _ _ _) ?_)
  go_wp2_with (at_builtin; refine wpList_copy_runI _ rfl _ _ 27 27 rfl _ _ rfl rfl (hcp2 _ (fun _ => rfl) (fun _ => rfl) _ _) ?_)
  go_ret
  first | exact ⟨rfl, rfl⟩ | exact ⟨rfl, by rw [hW1]⟩
set_option maxHeartbeats 4000000 in
set_option maxRecDepth 100000 in
theorem insU_grow (b off n c i vb voff m vc : Nat) (cs vs : List Value) (w : World) (hi : i < n) (hm : 0 < m) (hnc : n ≤ c) (hroom : c < n + m) (hbig : (n + m) * 4 ≤ 140737488355328)
    (hcl : cs.length = n) (hvl : vs.length = m)
    (hcs : ∀ j v, cs[j]? = some v → w.cell? ⟨b, off + j, none⟩ = some v)
    (hvs : ∀ j v, vs[j]? = some v → w.cell? ⟨vb, voff + j, none⟩ = some v) (h1c : ∀ v ∈ cs, v.oneCell' = true) (h1v : ∀ v ∈ vs, v.oneCell' = true) :
    Calls Tryd.prog 128 #[.slice (some ⟨b, off, none⟩) n c, .int .i64 i, .slice (some ⟨vb, voff, none⟩) m vc] w fun e w' =>
      e = .returned (.slice (some ⟨w.heap.size, 0, none⟩) (n + m) (grownCap w (n + m) c 22)) ∧
      w' = (((w.alloc (.cells ((cs.take i).toArray ++ Builtin.zeroCells (Value.int .u32 0).cells (n + m - i) ++ Builtin.zeroCells (Value.int .u32 0).cells (grownCap w (n + m) c 22 - (n + m))) 22)).drew.setCells w.heap.size i vs).drew).setCells w.heap.size (i + m) (cs.drop i) := by
  obtain ⟨i0, hi0, hz0, hzs, hzb⟩ := info_parts info32
  have hz1 : ¬ ((m : Int) = 0) := by omega
  have hz2 : ¬ ((i : Int) = (n : Int)) := by omega
  have hz3 : (c : Int) < (n : Int) + (m : Int) := by omega
  have hsz : (Tryd.prog.info? 22).map (·.size) = some 1 := by rw [hi0]; simp [hzs]
  have hbw : b < w.heap.size := block_lt_of_cell (hcs 0 _ (List.getElem?_eq_getElem (by omega)))
  have hvw : vb < w.heap.size := block_lt_of_cell (hvs 0 _ (List.getElem?_eq_getElem (by omega)))
  have hkk : (n : Int) + (m : Int) - (i : Int) = ((n + m - i : Nat) : Int) := by omega
  have hik : i + (n + m - i) = n + m := by omega
  have hold : (Builtin.firstCells i0.size i (.slice (some ⟨b, off, none⟩) i c)).run Tryd.prog w.drew = .ok (cs.take i).toArray w.drew := by
    rw [hzs]
    exact run_firstCells_some w.drew 1 i ⟨b, off, none⟩ i c (cs.take i) (by rw [List.length_take]; omega) (fun j v hj => by
      rw [Addr.add_lit]
      rw [List.getElem?_take] at hj
      split at hj
      · exact hcs j v hj
      · cases hj)
  have hrz : ∀ ty, (Builtin.append_ #[27, 3] ty #[.slice (some ⟨b, off, none⟩) i c, .int .i64 ((n : Int) + (m : Int) - (i : Int))]).run Tryd.prog w =
      .ok (.slice (some ⟨w.heap.size, 0, none⟩) (n + m) (grownCap w (n + m) c 22)) (w.drew.alloc (.cells ((cs.take i).toArray ++ Builtin.zeroCells (Value.int .u32 0).cells (n + m - i) ++ Builtin.zeroCells (Value.int .u32 0).cells (grownCap w (n + m) c 22 - (n + m))) 22)) := fun ty => by
    have h := Lib.run_append_grow_zeros w 27 3 ty 22 i0 _ .i64 .i64 Tryd.underlying27 Tryd.underlying3 hi0 hz0 (some ⟨b, off, none⟩) i c (cs.take i) hold (n + m - i) (by omega) (by omega) (by omega) (by omega) (by rw [hzb]; omega) (by rw [hzb, hik]; exact growslice_fits hroom hbig)
    rw [hik] at h
    rw [hkk]
    exact h
  obtain ⟨G, hG⟩ : ∃ G, G = grownCap w (n + m) c 22 := ⟨_, rfl⟩
  obtain ⟨ROW, hROW⟩ : ∃ ROW : Array Value, ROW = (cs.take i).toArray ++ Builtin.zeroCells (Value.int .u32 0).cells (n + m - i) ++ Builtin.zeroCells (Value.int .u32 0).cells (G - (n + m)) := ⟨_, rfl⟩
  rw [← hG] at hrz ⊢
  rw [← hROW] at hrz ⊢
  have hRl : n + m ≤ ROW.size := by
    rw [hROW]
    simp [Builtin.zeroCells, Value.cells]
    omega
  obtain ⟨W1, hW1⟩ : ∃ W1, W1 = w.drew.alloc (.cells ROW 22) := ⟨_, rfl⟩
  rw [← hW1] at hrz
  have hN : ∀ j, j < n + m → (W1.cell? ⟨w.heap.size, j, none⟩).isSome = true := fun j hj => by
    rw [hW1, World.cell?_alloc_at (w := w.drew) ROW _ w.heap.size j rfl, Array.getElem?_eq_getElem (by omega)]; rfl
  have hNf : ∀ j, W1.frozen? ⟨w.heap.size, j, none⟩ = false := fun j => by rw [hW1]; exact World.frozen?_alloc_at (w := w.drew) ROW _ w.heap.size j rfl
  have hOb : ∀ j v, w.cell? ⟨b, j, none⟩ = some v → W1.cell? ⟨b, j, none⟩ = some v := fun j v h => by rw [hW1, World.cell?_alloc_past (w := w.drew) _ b j hbw]; exact h
  have hOv : ∀ j v, w.cell? ⟨vb, j, none⟩ = some v → W1.cell? ⟨vb, j, none⟩ = some v := fun j v h => by rw [hW1, World.cell?_alloc_past (w := w.drew) _ vb j hvw]; exact h
  have hcpA : ∀ (W : World), (∀ x, W.cell? x = W1.cell? x) → (∀ x, W.frozen? x = W1.frozen? x) → ∀ ty dc, (Builtin.copy_ #[27, 27] ty #[.slice (some ⟨w.heap.size, i, none⟩) (n + m - i) dc, .slice (some ⟨vb, voff, none⟩) m vc]).run Tryd.prog W = .ok (goInt vs.length) (W.setCells w.heap.size i vs) := fun W hWc hWf ty dc =>
    run_copy_cells W _ _ ty 22 w.heap.size i (n + m - i) dc ⟨vb, voff, none⟩ m vc vs Tryd.underlying27 hsz (by rw [hvl]; simp only [Nat.min_def]; split <;> omega)
      (fun j v hj => by rw [Addr.add_lit, hWc]; exact hOv _ v (hvs j v hj))
      (fun j hj => by rw [hWc]; exact hN _ (by omega)) (fun j hj => by rw [hWf]; exact hNf _) h1v
  have hGn : n + m ≤ G := by rw [hG]; exact grownCap_ge w _ _ _
  have hG63 : G ≤ 9223372036854775807 := by
    have := grownCap_le_maxLen w (n + m) c 22 (by unfold maxLen; omega)
    rw [← hG] at this
    unfold maxLen at this
    omega
  have hGi : ¬ (G = i) := by omega
  have hGim : ¬ (G = i + m) := by omega
  have hci : ¬ (c = i) := by omega
  have hbN : b ≠ w.heap.size := by omega
  have hdl : (cs.drop i).length = n - i := by rw [List.length_drop, hcl]
  have hcpB : ∀ (W : World), (∀ x, W.cell? x = (W1.setCells w.heap.size i vs).cell? x) → (∀ x, W.frozen? x = (W1.setCells w.heap.size i vs).frozen? x) → ∀ ty dc sc, (Builtin.copy_ #[27, 27] ty #[.slice (some ⟨w.heap.size, i + m, none⟩) (n + m - (i + m)) dc, .slice (some ⟨b, off + i, none⟩) (n - i) sc]).run Tryd.prog W = .ok (goInt (cs.drop i).length) (W.setCells w.heap.size (i + m) (cs.drop i)) := fun W hWc hWf ty dc sc =>
    run_copy_cells W _ _ ty 22 w.heap.size (i + m) (n + m - (i + m)) dc ⟨b, off + i, none⟩ (n - i) sc (cs.drop i) Tryd.underlying27 hsz (by rw [hdl]; simp only [Nat.min_def]; split <;> omega)
      (fun j v hj => by
        rw [Addr.add_lit, hWc, World.cell?_setCells_out _ _ _ _ _ (fun h _ => absurd h hbN), Nat.add_assoc]
        exact hOb _ v (hcs (i + j) v (by rwa [List.getElem?_drop] at hj)))
      (fun j hj => by rw [hWc]; exact isSome_setCells _ _ _ _ (fun t ht => hN _ (by omega)) _ (hN _ (by omega)))
      (fun j hj => by rw [hWf, World.frozen?_setCells]; exact hNf _) (fun v hv => h1c v (List.mem_of_mem_drop hv))
  subst hW1
  have hE1 : ∀ x, ((w.alloc (.cells ROW 22)).drew).cell? x = (w.drew.alloc (.cells ROW 22)).cell? x := fun x => rfl
  have hE2 : ∀ x, ((w.alloc (.cells ROW 22)).drew).frozen? x = (w.drew.alloc (.cells ROW 22)).frozen? x := fun x => rfl
  have hF1 : ∀ x, (((w.alloc (.cells ROW 22)).drew.setCells w.heap.size i vs).drew).cell? x = ((w.drew.alloc (.cells ROW 22)).setCells w.heap.size i vs).cell? x := fun x => rfl
  have hF2 : ∀ x, (((w.alloc (.cells ROW 22)).drew.setCells w.heap.size i vs).drew).frozen? x = ((w.drew.alloc (.cells ROW 22)).setCells w.heap.size i vs).frozen? x := fun x => rfl
  have hw1 : IntKind.i64.wrap ((i : Int) + (m : Int)) = (i : Int) + (m : Int) := by rw [IntKind.wrap_i64]; omega
  have hb1 : (0 : Int) ≤ (i : Int) + (m : Int) := by omega
  have hin : i ≤ n := by omega
  have htn : ((i : Int) + (m : Int)).toNat = i + m := by omega
  have hb3 : (i : Int) ≤ (n : Int) := by omega
  clear hkk hik hold hROW hG hRl
  go_enter Tryd.func128, Tryd.ntmps128
  go_wp2_with (first
    | (at_builtin; refine Lib.wpList_append_run _ rfl _ _ _ _ rfl _ _ rfl rfl _ _ (hrz _) ?_)
    | (at_builtin; refine wpList_copy_runI _ rfl _ _ 27 27 rfl _ _ rfl rfl (hcpA _ hE1 hE2 _ _) ?_)
    | (at_builtin; refine wpList_copy_runI _ rfl _ _ 27 27 rfl _ _ rfl rfl (hcpB _ (fun _ => rfl) (fun _ => rfl) _ _ _) ?_))
  go_region_law (refine step_copy_runI rfl _ _ 27 27 rfl (.slice (some ⟨w.heap.size, i + m, none⟩) (n + m - (i + m)) (G - (i + m))) (.slice (some ⟨b, off + i, none⟩) (n - i) (c - i)) (by simp [Act.eval, Act.put]) (by simp [Act.eval, Act.put]) (hcpB _ hF1 hF2 3 (G - (i + m)) (c - i)) ?_)
  go_wp2
  go_ret
  exact ⟨rfl, rfl⟩
theorem sizeSetCells (b : Nat) : ∀ (vs : List Value) (o : Nat) (w : World), (w.setCells b o vs).heap.size = w.heap.size
  | [], _, _ => rfl
  | v :: vs, o, w => by rw [World.setCells, sizeSetCells b vs]; simp [World.setCell]
/-! ### slices.Insert of one number into a row of the call's own -/
theorem u32c_at {l : List Nat} {j : Nat} {v : Value} (h : (u32c l)[j]? = some v) : ∃ y, l[j]? = some y ∧ v = .int .u32 (y : Int) := by
  simp only [u32c, List.getElem?_map, Option.map_eq_some_iff] at h
  obtain ⟨y, hy, rfl⟩ := h
  exact ⟨y, hy, rfl⟩
def InsP (B : Nat) (W : World) (l : List Nat) (i x : Nat) (e : Ending) (w' : World) : Prop :=
  ∃ A c, e = .returned (.slice A (l.length + 1) c) ∧ U32s w' A (l.length + 1) c (l.take i ++ x :: l.drop i) ∧ Below B W w'
theorem ins_u32s {w' : World} {g c i x : Nat} {l : List Nat} (hg : g < w'.heap.size) (hc : l.length + 1 ≤ c) (hcm : c ≤ maxLen) (hi : i ≤ l.length) (hx : x < 4294967296) (hl : ∀ y ∈ l, y < 4294967296)
    (h1 : ∀ j y, j < i → l[j]? = some y → w'.cell? ⟨g, j, none⟩ = some (.int .u32 (y : Int))) (h2 : w'.cell? ⟨g, i, none⟩ = some (.int .u32 (x : Int))) (h3 : ∀ j y, i ≤ j → l[j]? = some y → w'.cell? ⟨g, j + 1, none⟩ = some (.int .u32 (y : Int))) :
    U32s w' (some ⟨g, 0, none⟩) (l.length + 1) c (l.take i ++ x :: l.drop i) := by
  have hti : (l.take i).length = i := by rw [List.length_take]; omega
  refine ⟨by simp; omega, hc, hcm, fun y hy => ?_, fun _ => ⟨g, 0, rfl, hg, fun k y hk => ?_⟩⟩
  · rcases List.mem_append.1 hy with h | h
    · exact hl y (List.mem_of_mem_take h)
    · rcases List.mem_cons.1 h with rfl | h
      · exact hx
      · exact hl y (List.mem_of_mem_drop h)
  · rw [Nat.zero_add]
    by_cases hki : k < i
    · rw [List.getElem?_append_left (by omega), List.getElem?_take, if_pos hki] at hk
      exact h1 k y hki hk
    · rw [List.getElem?_append_right (by omega), hti] at hk
      by_cases hke : k = i
      · subst hke
        simp at hk
        subst hk
        exact h2
      · obtain ⟨j, hj⟩ : ∃ j, k - i = j + 1 := ⟨k - i - 1, by omega⟩
        rw [hj, List.getElem?_cons_succ, List.getElem?_drop] at hk
        have := h3 (i + j) y (by omega) hk
        rwa [show i + j + 1 = k by omega] at this
theorem own_form {w : World} {base g n cap : Nat} {xs : List Value} (h : w.ownsRow base 22 1 (.slice (some ⟨g, 0, none⟩) n cap) n xs) :
    ∃ cur, base ≤ g ∧ g < w.heap.size ∧ Blk w g 22 cur ∧ n ≤ cap ∧ cap ≤ maxLen ∧ cur.size = cap ∧ (∀ j v, xs[j]? = some v → w.cell? ⟨g, j, none⟩ = some v) := by
  have hcell := h.cells (g := g) rfl
  rcases h.2 with ⟨hv, _⟩ | ⟨g', cap', cur, hv, r1, r2, r3, r4, r5, r6⟩
  · cases hv
  · cases hv
    refine ⟨cur, r1, (Array.getElem?_eq_some_iff.1 r2).1, r2, r3, r4, by omega, fun j v hj => ?_⟩
    have := hcell j v hj
    rwa [show (⟨g, 0, none⟩ : Addr).add j = ⟨g, j, none⟩ by unfold Addr.add; split <;> simp_all] at this
set_option maxHeartbeats 1000000 in
theorem insOne_mid (B g cap i x vb : Nat) (l : List Nat) (w : World) (hown : w.ownsRow B 22 1 (.slice (some ⟨g, 0, none⟩) l.length cap) l.length (u32c l)) (hb : ∀ y ∈ l, y < 4294967296) (hx : x < 4294967296) (hi : i < l.length) (hl : l.length ≤ 1000)
    (hv : Blk w vb 22 #[.int .u32 (x : Int)]) (hvb : vb ≠ g) (hB : B ≤ w.heap.size) :
    Calls Tryd.prog 128 #[.slice (some ⟨g, 0, none⟩) l.length cap, .int .i64 i, .slice (some ⟨vb, 0, none⟩) 1 1] w (InsP B w l i x) := by
  obtain ⟨cur, hBg, hg, hblk, hnc, hcm, hcs, hcell⟩ := own_form hown
  have hvs : ∀ j v, [(Value.int .u32 (x : Int))][j]? = some v → w.cell? ⟨vb, 0 + j, none⟩ = some v := fun j v hj => by
    match j with
    | 0 => cases hj; exact hv.cell 0
    | j + 1 => simp at hj
  have hlen : (u32c l).length = l.length := by simp [u32c]
  by_cases hroom : l.length + 1 ≤ cap
  · have hsome : ∀ j, j < l.length + 1 → (w.cell? ⟨g, 0 + j, none⟩).isSome = true := fun j hj => by
      rw [Nat.zero_add, hblk.cell, Array.getElem?_eq_getElem (by omega)]; rfl
    refine (insU_shift g 0 l.length cap i vb 0 1 1 (u32c l) [.int .u32 (x : Int)] w hi (by omega) hroom (by unfold maxLen at hcm; omega) hvb hlen rfl (fun j v hj => by rw [Nat.zero_add]; exact hcell j v hj) hsome
      (fun j _ => hblk.frozen _) hvs (u32c_one l) (by simp [Value.oneCell']) 22 22 1 cap (by unfold World.shape?; rw [show w.heap[vb]? = _ from hv]; rfl) (by unfold World.shape?; rw [show w.heap[g]? = _ from hblk, ← hcs]) (by omega) (hv.frozen 0) (hv.frozen 1)).mono ?_
    rintro e w' ⟨rfl, rfl⟩
    have hsome1 : ∀ j, j < (List.drop i (u32c l)).length → (w.drew.cell? ⟨g, 0 + (i + 1) + j, none⟩).isSome = true := fun j hj => by
      have := hsome (i + 1 + j) (by rw [List.length_drop, hlen] at hj; omega)
      rw [show 0 + (i + 1) + j = 0 + (i + 1 + j) by omega]; exact this
    have hsome2 : ∀ j, j < [(Value.int .u32 (x : Int))].length → ((w.drew.setCells g (0 + (i + 1)) (List.drop i (u32c l))).cell? ⟨g, 0 + i + j, none⟩).isSome = true := fun j hj =>
      World.isSome_setCells _ _ _ _ _ (by have := hsome (i + j) (by simp at hj; omega); rw [show 0 + i + j = 0 + (i + j) by omega]; exact this)
    refine ⟨_, _, rfl, ins_u32s (by rw [sizeSetCells, sizeSetCells]; exact hg) hroom hcm (by omega) hx hb (fun j y hj hy => ?_) ?_ (fun j y hj hy => ?_), ?_⟩
    · rw [World.cell?_setCells_out _ _ _ _ _ (fun _ _ => .inl (by show j < 0 + i; omega)), World.cell?_setCells_out _ _ _ _ _ (fun _ _ => .inl (by show j < 0 + (i + 1); omega))]
      exact hcell j _ (by simp [u32c, hy])
    · have := World.cell?_setCells_in g _ _ _ hsome2 0 (by simp)
      simpa using this
    · rw [World.cell?_setCells_out _ _ _ _ _ (fun _ _ => .inr (by show 0 + i + 1 ≤ j + 1; omega))]
      have hjl : j < l.length := (List.getElem?_eq_some_iff.1 hy).1
      have := World.cell?_setCells_in g _ _ _ hsome1 (j - i) (by rw [List.length_drop, hlen]; omega)
      rw [show 0 + (i + 1) + (j - i) = j + 1 by omega] at this
      rw [this]
      have hd : (List.drop i (u32c l))[j - i]? = some (.int .u32 (y : Int)) := by
        rw [List.getElem?_drop, show i + (j - i) = j by omega]; simp [u32c, hy]
      rw [← List.getElem?_eq_getElem, hd]
    · exact below_clear hBg _ _ (below_clear hBg _ _ (Below.refl B w).drew)
  · refine (insU_grow g 0 l.length cap i vb 0 1 1 (u32c l) [.int .u32 (x : Int)] w hi (by omega) hnc (by omega) (by omega) hlen rfl (fun j v hj => by rw [Nat.zero_add]; exact hcell j v hj) hvs (u32c_one l) (by simp [Value.oneCell'])).mono ?_
    rintro e w' ⟨rfl, rfl⟩
    obtain ⟨G, hG⟩ : ∃ G, G = grownCap w (l.length + 1) cap 22 := ⟨_, rfl⟩
    have hG1 : l.length + 1 ≤ G := by rw [hG]; exact grownCap_ge w _ _ _
    have hG2 : G ≤ maxLen := by rw [hG]; exact grownCap_le_maxLen w _ _ _ (by unfold maxLen; omega)
    rw [← hG]
    clear hG
    obtain ⟨ROW, hROW⟩ : ∃ ROW : Array Value, ROW = (List.take i (u32c l)).toArray ++ Builtin.zeroCells (Value.int .u32 0).cells (l.length + 1 - i) ++ Builtin.zeroCells (Value.int .u32 0).cells (G - (l.length + 1)) := ⟨_, rfl⟩
    rw [← hROW]
    have hRs : l.length + 1 ≤ ROW.size := by rw [hROW]; simp [Builtin.zeroCells, Value.cells]; omega
    have hRat : ∀ j v, j < i → (u32c l)[j]? = some v → ROW[j]? = some v := fun j v hj hv => by
      have hjl : j < (u32c l).length := (List.getElem?_eq_some_iff.1 hv).1
      rw [hROW, Array.getElem?_append_left (by simp [Builtin.zeroCells, Value.cells]; omega), Array.getElem?_append_left (by simp; omega)]
      simp [hj, hv]
    clear hROW
    have hc0 : ∀ j, (w.alloc (.cells ROW 22)).cell? ⟨w.heap.size, j, none⟩ = ROW[j]? := fun j => (Blk.new w 22 ROW).cell j
    have hsome : ∀ j, j < l.length + 1 → ((w.alloc (.cells ROW 22)).drew.cell? ⟨w.heap.size, j, none⟩).isSome = true := fun j hj => by
      show ((w.alloc (.cells ROW 22)).cell? ⟨w.heap.size, j, none⟩).isSome = true
      rw [hc0, Array.getElem?_eq_getElem (by omega)]; rfl
    have hsome1 : ∀ j, j < [(Value.int .u32 (x : Int))].length → ((w.alloc (.cells ROW 22)).drew.cell? ⟨w.heap.size, i + j, none⟩).isSome = true := fun j hj => hsome _ (by simp at hj; omega)
    have hsome2 : ∀ j, j < (List.drop i (u32c l)).length → ((((w.alloc (.cells ROW 22)).drew.setCells w.heap.size i [.int .u32 (x : Int)]).drew).cell? ⟨w.heap.size, i + 1 + j, none⟩).isSome = true := fun j hj => by
      show (((w.alloc (.cells ROW 22)).drew.setCells w.heap.size i [.int .u32 (x : Int)]).cell? ⟨w.heap.size, i + 1 + j, none⟩).isSome = true
      exact World.isSome_setCells _ _ _ _ _ (hsome _ (by rw [List.length_drop, hlen] at hj; omega))
    refine ⟨_, _, rfl, ins_u32s (by rw [sizeSetCells]; show w.heap.size < ((w.alloc (.cells ROW 22)).drew.setCells w.heap.size i [.int .u32 (x : Int)]).heap.size; rw [sizeSetCells]; simp) hG1 hG2 (by omega) hx hb (fun j y hj hy => ?_) ?_ (fun j y hj hy => ?_), ?_⟩
    · rw [World.cell?_setCells_out _ _ _ _ _ (fun _ _ => .inl (by show j < i + 1; omega))]
      show ((w.alloc (.cells ROW 22)).drew.setCells w.heap.size i [.int .u32 (x : Int)]).cell? ⟨w.heap.size, j, none⟩ = _
      rw [World.cell?_setCells_out _ _ _ _ _ (fun _ _ => .inl (by show j < i; omega))]
      show (w.alloc (.cells ROW 22)).cell? ⟨w.heap.size, j, none⟩ = _
      rw [hc0]
      exact hRat j _ hj (by simp [u32c, hy])
    · rw [World.cell?_setCells_out _ _ _ _ _ (fun _ _ => .inl (by show i < i + 1; omega))]
      show ((w.alloc (.cells ROW 22)).drew.setCells w.heap.size i [.int .u32 (x : Int)]).cell? ⟨w.heap.size, i, none⟩ = _
      have := World.cell?_setCells_in w.heap.size _ _ _ hsome1 0 (by simp)
      simpa using this
    · have hjl : j < l.length := (List.getElem?_eq_some_iff.1 hy).1
      have := World.cell?_setCells_in w.heap.size _ _ _ hsome2 (j - i) (by rw [List.length_drop, hlen]; omega)
      rw [show i + 1 + (j - i) = j + 1 by omega] at this
      rw [this]
      have hd : (List.drop i (u32c l))[j - i]? = some (.int .u32 (y : Int)) := by
        rw [List.getElem?_drop, show i + (j - i) = j by omega]; simp [u32c, hy]
      rw [← List.getElem?_eq_getElem, hd]
    · refine below_clear hB _ _ ?_
      exact (below_clear hB _ _ ((Below.refl B w).alloc hB (.cells ROW 22)).drew).drew
set_option maxRecDepth 100000 in
set_option maxHeartbeats 1000000 in
theorem insOne_end (B x vb : Nat) (v : Value) (l : List Nat) (w : World) (hown : w.ownsRow B 22 1 v l.length (u32c l)) (hb : ∀ y ∈ l, y < 4294967296) (hx : x < 4294967296) (hl : l.length ≤ 1000)
    (hv : Blk w vb 22 #[.int .u32 (x : Int)]) (hB : B ≤ w.heap.size) :
    Calls Tryd.prog 128 #[v, .int .i64 (l.length : Nat), .slice (some ⟨vb, 0, none⟩) 1 1] w (InsP B w l l.length x) := by
  obtain ⟨i0, hi, hz0, hz1, hz2⟩ := info_parts info32
  obtain ⟨A, c, rfl⟩ := own_slice hown
  have HO := hide hown
  have HR : Hid (Reads w w.heap.size 1 (some ⟨vb, 0, none⟩) 1 [.int .u32 (x : Int)]) := hide (reads_one (hv.cell 0))
  have HBd := hide hb
  have hcl : l.length ≤ c ∧ c ≤ maxLen := by
    rcases hown.2 with ⟨e, h0⟩ | ⟨g, cap, cur, e, _, _, hnc, hm, _⟩
    · injection e with e1 e2 e3
      subst e3
      exact ⟨by omega, by simp [maxLen]⟩
    · injection e with e1 e2 e3
      subst e3
      exact ⟨hnc, hm⟩
  obtain ⟨hnc, hcm⟩ := hcl
  unfold maxLen at hcm
  obtain ⟨L, hL⟩ : ∃ L, l.length = L := ⟨_, rfl⟩
  rw [hL] at HO hl hnc ⊢
  have HL := hide hL
  clear hown hv hb hL
  go_enter Tryd.func128, Tryd.ntmps128
  go_wp2_with (first
    | (at_builtin; refine wpList_append_any _ rfl (.tmp 23) (.tmp 24) 27 rfl B 22 i0 _ 1 4 Tryd.underlying27 hi hz0 hz1 hz2 rfl (by decide) (.slice A L c) L (u32c l) rfl HO.out _ (some ⟨vb, 0, none⟩) 1 1 [.int .u32 (x : Int)] rfl HR.out (by simp [Value.oneCell']) (by unfold maxLen; omega) (by omega) hB ?_; intro v' w1 hown' hgrow _
       have HO1 := hide hown'
       have HG1 := hide hgrow
       clear hown' hgrow)
    | fail)
  all_goals
    go_ret
    obtain ⟨A1, c1, rfl⟩ := own_slice HO1.out
    refine ⟨A1, c1, by rw [HL.out]; rfl, ?_, (Below.refl B w).grown HG1.out hB (fun k hk => (HO.out.lt k hk).1)⟩
    have e : l.take L ++ x :: l.drop L = l ++ [x] := by rw [← HL.out]; simp
    rw [e, HL.out]
    exact U32s.of_own (by have := HO1.out; rwa [← u32c_snoc] at this) (fun y hy => (List.mem_append.1 hy).elim (HBd.out y) fun h => by rw [List.mem_singleton.1 h]; exact hx)
/-! ### asn.Set at any length; With, Without -/
theorem own_setCells {base g n cap : Nat} : ∀ (vs : List Value) (j : Nat) {w : World} {xs : List Value}, w.ownsRow base 22 1 (.slice (some ⟨g, 0, none⟩) n cap) n xs → j + vs.length ≤ n →
    (w.setCells g j vs).ownsRow base 22 1 (.slice (some ⟨g, 0, none⟩) n cap) n (xs.take j ++ vs ++ xs.drop (j + vs.length))
  | [], j, w, xs, h, _ => by simpa [World.setCells] using h
  | v :: vs, j, w, xs, h, hj => by
    have hl : xs.length = n := by have := h.1; omega
    have h1 := own_setCells vs (j + 1) (h.stored j v).1 (by simp at hj; omega)
    have e : (xs.set j v).take (j + 1) ++ vs ++ (xs.set j v).drop (j + 1 + vs.length) = xs.take j ++ (v :: vs) ++ xs.drop (j + (v :: vs).length) := by
      simp only [List.length_cons] at hj
      rw [List.take_add_one, List.take_set_of_le (Nat.le_refl _), List.getElem?_set_self (by omega), List.drop_set_of_lt (by omega)]
      simp only [Option.toList_some, List.length_cons, List.append_assoc, List.singleton_append]
      rw [show j + 1 + vs.length = j + (vs.length + 1) by omega]
    rw [World.setCells]
    rw [e] at h1
    exact h1
theorem own_kept {w w' : World} {base e size n : Nat} {v : Value} {xs : List Value} (h : w.ownsRow base e size v n xs) (hb : Below w.heap.size w w') : w'.ownsRow base e size v n xs :=
  ⟨h.1, h.2.imp id (fun ⟨g, cap, cur, e1, e2, e3, rest⟩ => ⟨g, cap, cur, e1, e2, (hb.block g (Array.getElem?_eq_some_iff.1 e3).1).trans e3, rest⟩)⟩
theorem sortedInts (l : List Nat) : ∃ r : List Nat, ((l.map Int.ofNat).mergeSort fun x y => decide (x ≤ y)) = r.map Int.ofNat ∧ (∀ x, x ∈ r ↔ x ∈ l) ∧ r.length = l.length ∧ Up r.toArray := by
  obtain ⟨s, hs⟩ : ∃ s, ((l.map Int.ofNat).mergeSort fun x y => decide (x ≤ y)) = s := ⟨_, rfl⟩
  have hp : s.Perm (l.map Int.ofNat) := by rw [← hs]; exact List.mergeSort_perm _ _
  have hw : s.Pairwise fun x y : Int => decide (x ≤ y) = true := by
    rw [← hs]
    exact List.pairwise_mergeSort (fun a b c h1 h2 => by simp at h1 h2 ⊢; omega) (fun a b => by simp; omega) _
  have hnn : ∀ z ∈ s, 0 ≤ z := fun z hz => by
    obtain ⟨x, _, rfl⟩ := List.mem_map.1 ((hp.mem_iff).1 hz)
    exact Int.natCast_nonneg x
  have he : (s.map Int.toNat).map Int.ofNat = s := by
    rw [List.map_map]
    conv => rhs; rw [← List.map_id s]
    apply List.map_congr_left
    intro z hz
    have := hnn z hz
    first | (simp; done) | (simp; omega)
  refine ⟨s.map Int.toNat, by rw [hs, he], fun x => ?_, ?_, fun i hi => ?_⟩
  · constructor
    · intro hx
      obtain ⟨z, hz, rfl⟩ := List.mem_map.1 hx
      obtain ⟨y, hy, rfl⟩ := List.mem_map.1 ((hp.mem_iff).1 hz)
      simpa using hy
    · intro hx
      exact List.mem_map.2 ⟨Int.ofNat x, (hp.mem_iff).2 (List.mem_map.2 ⟨x, hx, rfl⟩), by simp⟩
  · rw [List.length_map, hp.length_eq, List.length_map]
  · have hsz : i + 1 < s.length := by simpa using hi
    have h1 := (List.pairwise_iff_getElem.1 hw) i (i + 1) (by omega) hsz (by omega)
    simp at h1
    have a0 := hnn _ (List.getElem_mem (l := s) (show i < s.length by omega))
    rw [getElem!_pos _ i (by simp; omega), getElem!_pos _ (i + 1) (by simpa using hi)]
    simp only [List.getElem_toArray, List.getElem_map]
    omega
theorem u32c_int (l : List Nat) : u32c l = (l.map Int.ofNat).map (Value.int .u32) := by simp [u32c]
theorem sort_any (base g cap : Nat) (l : List Nat) (w : World) (h : RowN base g cap w l.toArray) (hsz : l.length ≤ 100000) :
    Calls Tryd.prog 125 #[.slice (some ⟨g, 0, none⟩) l.length cap] w fun e w' => ∃ r : List Nat, e = .returned (.tuple #[]) ∧ RowN base g cap w' r.toArray ∧ Up r.toArray ∧ (∀ x, x ∈ r ↔ x ∈ l) ∧ r.length = l.length ∧ Below base w w' := by
  have hH : Go.Sort.Holds (Value.int .u32) w g 0 (l.map Int.ofNat).toArray := fun j hj => by
    have hj' : j < l.length := by simpa using hj
    refine ⟨?_, h.1.frozenAt _⟩
    have := h.cell (j := j) (by simpa using hj')
    rw [Nat.zero_add, this, getElem!_pos l.toArray j (by simpa using hj'), getElem!_pos (l.map Int.ofNat).toArray j hj]
    simp
  refine (by have := slices_Sort_u32 g 0 cap (l.map Int.ofNat) w hH h.2.2.2.1 (by simp; omega); rw [List.length_map] at this; exact this : Calls Tryd.prog 125 #[.slice (some ⟨g, 0, none⟩) l.length cap] w _).mono ?_
  rintro e w' ⟨rfl, n, os, rfl⟩
  obtain ⟨r, hr, hm, hl, hu⟩ := sortedInts l
  rw [hr, Go.Lib.putRow_eq_setCells (Value.int .u32) w g 0 (l.map Int.ofNat).toArray (r.map Int.ofNat) n hH (by simp [hl]), ← u32c_int]
  have hlen : (u32c r).length = l.length := by simp [u32c, hl]
  have h0 := h.1
  have hsz2 : l.toArray.size = l.length := by simp
  rw [hsz2] at h0
  have hlt : ∀ x ∈ r, x < 4294967296 := fun x hx => h.2.1 x (by simpa using (hm x).1 hx)
  have h1 := own_setCells (u32c r) 0 (h.drewN n).1 (by rw [hlen]; simp)
  have h2 : ((w.drewN n).setCells g 0 (u32c r)).ownsRow base 22 1 (.slice (some ⟨g, 0, none⟩) l.length cap) l.length (u32c r) := by
    have e : List.take 0 (u32c l.toArray.toList) ++ u32c r ++ List.drop (0 + (u32c r).length) (u32c l.toArray.toList) = u32c r := by
      rw [List.drop_eq_nil_of_le (by simp [hlen]; simp [u32c])]; simp
    rw [e, hsz2] at h1
    exact h1
  have hb1 : Below base w ((w.drewN n).setCells g 0 (u32c r)) := below_clear h.2.2.1 _ _ (below_drewN (Below.refl _ _) _)
  have hgs : Below ((w.drewN n).setCells g 0 (u32c r)).heap.size ((w.drewN n).setCells g 0 (u32c r)) (Go.Sort.grow ((w.drewN n).setCells g 0 (u32c r)) os) := Lib.below_grow _ _ (Nat.le_refl _) 0 os
  have hbs : base ≤ w.heap.size := Nat.le_trans h.2.2.1 (Nat.le_of_lt h.2.2.2.1)
  have hszs : ((w.drewN n).setCells g 0 (u32c r)).heap.size = w.heap.size := sizeSetCells _ _ _ _
  refine ⟨r, rfl, ⟨?_, by simpa using hlt, h.2.2.1, ?_, by simpa [hl] using h.2.2.2.2.1, h.2.2.2.2.2⟩, hu, hm, hl, hb1.trans (hgs.mono (by rw [hszs]; exact hbs))⟩
  · have := own_kept h2 hgs
    simpa [hl] using this
  · exact Nat.lt_of_lt_of_le (by rw [hszs]; exact h.2.2.2.1) hgs.size
theorem cloneAt (ad : Addr) (n c : Nat) (l : List Nat) (w : World) (h : U32s w (some ad) n c l) (hn : n ≤ 10000) :
    Calls Tryd.prog 124 #[.slice (some ad) n c] w fun e w' => ∃ v, e = .returned v ∧ Own32 w w' v l := by
  obtain ⟨i0, hi, hz0, hz1, hz2⟩ := info_parts info32
  have HR := hide h.reads
  have HL := hide h.1
  have hnil := fun w => Lib.run_eql_slice_nil (P := Tryd.prog) w
  clear h
  go_enter Tryd.func124, Tryd.ntmps124
  go_wp2_with (at_builtin; refine wpList_append_any _ rfl (.tmp 5) (.tmp 6) 27 rfl w.heap.size 22 i0 _ 1 4 Tryd.underlying27 hi hz0 hz1 hz2 rfl (by decide) (.slice (some ⟨w.heap.size, 0, none⟩) 0 0) 0 [] rfl (own_made0 w) w.heap.size (some ad) n c (u32c l) rfl (HR.out.alloc (Nat.le_refl _) _) (u32c_one _) (by unfold maxLen; omega) (by omega) (by simp) ?_; intro v' w1 hown' hgrow _)
  go_ret
  refine ⟨_, rfl, ?_, ?_⟩
  · rw [HL.out]; simpa using hown'
  · exact ((Below.refl _ _).alloc (Nat.le_refl _) _).grown hgrow (by simp) (fun k hk => by simp [Value.ownBlock] at hk; omega)
/-- slices.Clone of numbers, nil among them. -/
theorem cloneAll_any (A : Option Addr) (n c : Nat) (l : List Nat) (w : World) (h : U32s w A n c l) (hn : n ≤ 10000) :
    Calls Tryd.prog 124 #[.slice A n c] w fun e w' => ∃ v, e = .returned v ∧ Own32 w w' v l := by
  cases A with
  | none =>
    have h0 : n = 0 := by
      rcases Nat.eq_zero_or_pos n with h1 | h1
      · exact h1
      · obtain ⟨g, o, hA, _⟩ := h.2.2.2.2 h1
        cases hA
    subst h0
    have hl : Hid (l = []) := hide (List.eq_nil_of_length_eq_zero h.1)
    have hnil := fun w => Lib.run_eql_slice_nil (P := Tryd.prog) w
    clear h
    go_enter Tryd.func124, Tryd.ntmps124
    go_wp2
    go_ret
    refine ⟨_, rfl, ?_, Below.refl _ _⟩
    rw [hl.out]
    exact World.ownsRow_nil _ _ _ _
  | some ad => exact cloneAt ad n c l w h hn
theorem insSort0 (A : Option Addr) (c : Nat) (w : World) : Calls Tryd.prog 185 #[.slice A 0 c, .int .i64 0, .int .i64 0] w fun e w' => e = .returned (.tuple #[]) ∧ w = w' := by
  go_enter Tryd.func185, Tryd.ntmps185
  go_wp2
  go_loop [6] (fun i => i = .int .i64 1) (fun _ => 0)
  case atStart => rfl
  case round =>
    subst hrel
    go_wp2
    go_end0
    exact ⟨rfl, rfl⟩
theorem sort0 (A : Option Addr) (c : Nat) (w : World) : Calls Tryd.prog 125 #[.slice A 0 c] w fun e w' => e = .returned (.tuple #[]) ∧ w = w' := by
  have HI := hide (insSort0 A c w)
  have HL : Hid (∀ w, Calls Tryd.prog 159 #[.int .u64 0] w fun e w' => e = .returned (.int .i64 0) ∧ w' = w) := hide (fun w => Tryd.bits_Len 0 w (by omega) (by omega))
  have HP : Hid (Calls Tryd.prog 158 #[.slice A 0 c, .int .i64 0, .int .i64 0, .int .i64 0] w fun e w' => e = .returned (.tuple #[]) ∧ w = w') := hide (by
    go_enter Tryd.func158, Tryd.ntmps158
    go_wp2
    refine wp_loop_rounds 1 ?_; rw [rounds_succ]
    go_wp2_with fail
    refine HI.out.mono ?_
    rintro e w1 ⟨rfl, rfl⟩
    go_wp2
    refine bodyPost_ret (results_none rfl _ _ _) rfl ?_
    exact ⟨rfl, rfl⟩)
  go_enter Tryd.func125, Tryd.ntmps125
  go_wp2_with fail
  refine (HL.out _).mono ?_
  rintro e w1 ⟨rfl, rfl⟩
  go_wp2_with fail
  refine HP.out.mono ?_
  rintro e w1 ⟨rfl, rfl⟩
  go_wp2
  go_end0
  exact ⟨rfl, rfl⟩
theorem compact0 (A : Option Addr) (c : Nat) (w : World) : Calls Tryd.prog 126 #[.slice A 0 c] w fun e w' => e = .returned (.slice A 0 c) ∧ w = w' := by
  go_enter Tryd.func126, Tryd.ntmps126
  go_wp2
  go_ret
  exact ⟨rfl, rfl⟩
set_option maxHeartbeats 1000000 in
/-- asn.Set, whatever the numbers. -/
theorem asnSet_any (A : Option Addr) (n c : Nat) (l : List Nat) (w : World) (h : U32s w A n c l) (hn : n ≤ 10000) :
    Calls Tryd.prog 78 #[.slice A n c] w fun e w' => ∃ v, e = .returned v ∧ Own32 w w' v (setOf l) := by
  have HC := hide (cloneAll_any A n c l w h hn)
  have HL := hide h.1
  have HBd := hide h.2.2.2.1
  clear h
  by_cases hn1 : n = 0
  · subst hn1
    have hl0 : Hid (l = []) := hide (List.eq_nil_of_length_eq_zero HL.out)
    go_enter Tryd.func78, Tryd.ntmps78
    go_wp2_with fail
    refine HC.out.mono ?_
    rintro e w1 ⟨v, rfl, ho, hb1⟩
    rw [hl0.out] at ho
    obtain ⟨A1, c1, rfl⟩ := own_slice ho
    have HO := hide ho
    have HB1 := hide hb1
    clear ho hb1
    have HS := hide (sort0 A1 c1 w1)
    have HCm := hide (compact0 A1 c1 w1)
    go_wp2_with fail
    refine HS.out.mono ?_
    rintro e w2 ⟨rfl, rfl⟩
    go_wp2_with fail
    refine HCm.out.mono ?_
    rintro e w2 ⟨rfl, rfl⟩
    go_wp2
    go_ret
    exact ⟨_, rfl, by rw [hl0.out]; exact HO.out, HB1.out⟩
  · go_enter Tryd.func78, Tryd.ntmps78
    go_wp2_with fail
    refine HC.out.mono ?_
    rintro e w1 ⟨v, rfl, ho, hb1⟩
    obtain ⟨g1, cap, rfl, hrow⟩ := row_of_own ho (by rw [HL.out]; omega) HBd.out
    have HS := hide (sort_any w.heap.size g1 cap l w1 hrow (by rw [HL.out]; omega))
    have HB1 := hide hb1
    clear hb1 hrow ho
    go_wp2_with fail
    refine HS.out.mono ?_
    rintro e w2 ⟨r, rfl, hr2, hu, hm, hrl, hb2⟩
    have HSet : Hid (setOf r = setOf l) := hide (setOf_perm hm)
    have hsz : r.toArray.size = l.length := by simp [hrl]
    have HCm := hide (compact_any w.heap.size g1 cap r.toArray w2 hr2 hu (by rw [hsz, HL.out]; omega) (by rw [hsz, HL.out]; omega))
    rw [hsz] at HCm
    have HB2 := hide (HB1.out.trans hb2)
    clear hr2 hb2 hu hm hrl hsz
    go_wp2_with fail
    refine HCm.out.mono ?_
    rintro e w3 ⟨m, rfl, hm, ho3, hb3⟩
    try simp only [List.toList_toArray] at hm ho3
    rw [HSet.out] at hm ho3
    have HO3 := hide ho3
    have HM := hide hm
    have HB3 := hide (HB2.out.trans hb3)
    clear hm ho3 hb3
    go_wp2
    go_ret
    exact ⟨_, rfl, by rw [← HM.out]; exact HO3.out, HB3.out⟩
end Go.Proofs.YtiibglkiakhfgaaDoor
