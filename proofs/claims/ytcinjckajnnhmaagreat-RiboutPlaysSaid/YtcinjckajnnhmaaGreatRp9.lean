import Derived.Test.YtcinjckajnnhmaaGreatRp8
set_option linter.unusedSimpArgs false
set_option linter.unusedVariables false
namespace Go.Proofs.YtcinjckajnnhmaaGreat
open Go.RowKit Go.WideShapes Go.ChangeShapes
attribute [local go_sem] Oper.semAt_some
def insU (acc : List (Nat × Nat × Unit)) (x : Nat × Nat) : List (Nat × Nat × Unit) := putL x.1 x.2 () acc
def sorU (K : List (Nat × Nat)) : List (Nat × Nat × Unit) := K.foldl insU []
theorem sorU_push (K : List (Nat × Nat)) (x : Nat × Nat) : sorU (K ++ [x]) = insU (sorU K) x := by unfold sorU; rw [List.foldl_append]; rfl
theorem sorU_sorted (K : List (Nat × Nat)) : (sorU K).Pairwise PLt := by
 suffices h : ∀ (K : List (Nat × Nat)) (acc : List (Nat × Nat × Unit)), acc.Pairwise PLt → (K.foldl insU acc).Pairwise PLt from h K [] List.Pairwise.nil
 intro K
 induction K with
 | nil => exact fun acc h => h
 | cons x K ih => exact fun acc h => ih _ (putL_sorted h)
theorem sorU_mem (K : List (Nat × Nat)) (z : Nat × Nat × Unit) : z ∈ sorU K ↔ (z.1, z.2.1) ∈ K := by
 suffices h : ∀ (K : List (Nat × Nat)) (acc : List (Nat × Nat × Unit)), acc.Pairwise PLt → (z ∈ K.foldl insU acc ↔ z ∈ acc ∨ (z.1, z.2.1) ∈ K) from by
  have := h K [] List.Pairwise.nil; simpa [sorU] using this
 intro K
 induction K with
 | nil => intro acc h; simp
 | cons x K ih =>
  intro acc h; rw [List.foldl_cons, ih (insU acc x) (putL_sorted h)]; unfold insU; rw [putL_mem h, List.mem_cons]; obtain ⟨a, n, _⟩ := z; obtain ⟨b, m⟩ := x; simp only [Prod.mk.injEq, and_true]; constructor
  ·rintro ((⟨rfl, rfl⟩ | ⟨h1, _⟩) | h1)
   ·exact .inr (.inl ⟨rfl, rfl⟩)
   ·exact .inl h1
   ·exact .inr (.inr h1)
  ·rintro (h1 | ⟨rfl, rfl⟩ | h1)
   ·by_cases e : b = a ∧ m = n
    ·exact .inl (.inl ⟨e.1.symm, e.2.symm⟩)
    ·exact .inl (.inr ⟨h1, e⟩)
   ·exact .inl (.inl ⟨rfl, rfl⟩)
   ·exact .inr h1
theorem sorU_len (K : List (Nat × Nat)) : (sorU K).length ≤ K.length := by
 suffices h : ∀ (K : List (Nat × Nat)) (acc : List (Nat × Nat × Unit)), (K.foldl insU acc).length ≤ acc.length + K.length from by simpa [sorU] using h K []
 have h1 : ∀ (a n : Nat) (L : List (Nat × Nat × Unit)), (putL a n () L).length ≤ L.length + 1 := fun a n L => by
  induction L with
  | nil => simp [putL]
  | cons z L ih =>
   unfold putL; split
   ·simp
   ·split
    ·simp
    ·simp only [List.length_cons]; omega
 intro K
 induction K with
 | nil => intro acc; simp
 | cons x K ih =>
  intro acc; have h2 := ih (insU acc x); have h3 := h1 x.1 x.2 acc; rw [List.foldl_cons, List.length_cons]; unfold insU at h2 ⊢; omega
theorem sortP_sorU {K : List (Nat × Nat)} (hg : ∀ x ∈ K, PG x.1 x.2) : sortP K = keyL (sorU K) := by
 have h1 : (sortP K).map (fun x => (x.1, x.2, ())) = sorU K := by
  refine plt_ext _ _ ?_ (sorU_sorted K) fun z => ?_
  ·unfold sortP; rw [List.map_map]; refine List.Pairwise.map _ ?_ (setOf_rise (K.map pK)); intro x y hxy; show x / 64 < y / 64 ∨ x / 64 = y / 64 ∧ x % 64 < y % 64; omega
  ·rw [sorU_mem, List.mem_map]; obtain ⟨a, n, _⟩ := z; constructor
   ·rintro ⟨x, hx, e⟩; simp only [Prod.mk.injEq, and_true] at e; obtain ⟨rfl, rfl⟩ := e; exact (sortP_mem hg x).1 hx
   ·exact fun hx => ⟨(a, n), (sortP_mem hg (a, n)).2 hx, rfl⟩
 rw [← h1]; unfold keyL; rw [List.map_map]; exact (List.map_id _).symm
theorem pxC_insert (U : List (Nat × Nat × Unit)) (a n i : Nat) : (pxC (keyL U)).take (i * 2) ++ [.int .u32 (a : Int), .int .i64 (n : Int)] ++ (pxC (keyL U)).drop (i * 2) = pxC (keyL (U.take i ++ [(a, n, ())] ++ U.drop i)) := by
 have h : ∀ (L : List (Nat × Nat)) (i : Nat), (pxC L).take (i * 2) = pxC (L.take i) ∧ (pxC L).drop (i * 2) = pxC (L.drop i) := by
  intro L
  induction L with
  | nil => intro i; simp [pxC]
  | cons x L ih =>
   intro i
   cases i with
   | zero => simp [pxC]
   | succ i =>
    have e : pxC (x :: L) = .int .u32 (x.1 : Int) :: .int .i64 (x.2 : Int) :: pxC L := (by simp [pxC])
    have e2 : (i + 1) * 2 = i * 2 + 1 + 1 := (by omega)
    rw [e, e2, List.take_succ_cons, List.take_succ_cons, List.drop_succ_cons, List.drop_succ_cons, (ih i).1, (ih i).2, List.take_succ_cons, List.drop_succ_cons]; exact ⟨by simp [pxC], rfl⟩
 rw [(h _ _).1, (h _ _).2]; unfold keyL; rw [← List.map_take, ← List.map_drop]; simp [pxC, List.flatMap_append]
theorem sorU_new {U : List (Nat × Nat × Unit)} {a n i : Nat} (hs : U.Pairwise PLt) (hi : i ≤ U.length) (hlow : ∀ j (h : j < i) (h2 : j < U.length), (U[j].1 < a ∨ U[j].1 = a ∧ U[j].2.1 < n)) (hhi : ∀ h : i < U.length, ¬ (U[i].1 < a ∨ U[i].1 = a ∧ U[i].2.1 < n) ∧ ¬ (a = U[i].1 ∧ n = U[i].2.1)) : U.take i ++ [(a, n, ())] ++ U.drop i = putL a n () U ∧ (putL a n () U).length = U.length + 1 := by
 have hf : U.filter (fun z => !decide (a = z.1 ∧ n = z.2.1)) = U := by
  rw [List.filter_eq_self]; intro z hz; obtain ⟨j, hj, rfl⟩ := List.getElem_of_mem hz; simp only [Bool.not_eq_true', decide_eq_false_iff_not]; intro e; rcases Nat.lt_trichotomy j i with h | h | h
  ·have := hlow j h hj; omega
  ·subst h; exact (hhi hj).2 e
  ·have hil : i < U.length := (by omega)
   have h1 := hhi hil; have h2 : PLt U[i] U[j] := List.pairwise_iff_getElem.1 hs i j hil hj h; unfold PLt at h2; omega
 have h := putL_insert (x := ()) (a := a) (n := n) hs i; rw [hf] at h; have h2 := h hlow hi (fun h => (hhi h).1); refine ⟨h2, ?_⟩; rw [← h2, List.length_append, List.length_append, List.length_take, List.length_drop]; simp only [List.length_cons, List.length_nil]; omega
theorem sorU_old {U : List (Nat × Nat × Unit)} {a n : Nat} (hs : U.Pairwise PLt) (h : (a, n, ()) ∈ U) : putL a n () U = U := by
 refine plt_ext _ _ (putL_sorted hs) hs fun z => ?_; rw [putL_mem hs]; constructor
 ·rintro (rfl | ⟨h1, _⟩)
  ·exact h
  ·exact h1
 ·intro h1; by_cases e : a = z.1 ∧ n = z.2.1
  ·obtain ⟨b, m, _⟩ := z; obtain ⟨rfl, rfl⟩ := e; exact .inl rfl
  ·exact .inr ⟨h1, e⟩
set_option maxRecDepth 100000 in
set_option maxHeartbeats 16000000 in
theorem refSort07_any (A : Option Addr) (n c : Nat) (K : List (Nat × Nat)) (w : World) (h : LstAt 2 pxR w A n c K) (hg : ∀ x ∈ K, PG x.1 x.2) (hn : n ≤ 20000) :
    Calls Tryz.prog 40 #[.slice A n c] w fun e w' => ∃ A' n' c', e = .returned (.slice A' n' c') ∧ LstAt 2 pxR w' A' n' c' (sortP K) ∧ Below w.heap.size w w' := by
  obtain ⟨i0, hi, hz0, hz1, hz2⟩ := info_parts pxInfo; rw [sortP_sorU hg]; have hln := h.1; have hnc := h.2.1; have hmx := h.2.2.1; unfold maxLen at hmx; have HL := hide h; have HLn := hide hln; have HG := hide hg; obtain ⟨w0, hw0⟩ : ∃ W, w.alloc (.cells #[] 24) = W := ⟨_, rfl⟩
  have hb0 : Below w.heap.size w w0 := hw0 ▸ blkBelow1 w _; have HO0 : Hid (w0.ownsRow w.heap.size 24 2 (.slice (some ⟨w.heap.size, 0, none⟩) 0 0) 0 []) := hide (hw0 ▸ World.ownsRow_lit w #[] 0 (Nat.le_refl _) (by unfold maxLen; omega) rfl); have HB0 := hide hb0; have HW0 := hide hw0; clear h hg hln hw0 hb0
  go_enter Tryz.func40, Tryz.ntmps40
  go_wp2; rw [HW0.out]
  go_loopw [3, 4] (fun vo iv wr => ∃ (q n1 g4 c1 : Nat), q ≤ n ∧ (sorU (K.take q)).length = n1 ∧ iv = .int .i64 (q : Nat) ∧ vo = .slice (some ⟨g4, 0, none⟩) n1 c1 ∧ wr.ownsRow w.heap.size 24 2 (.slice (some ⟨g4, 0, none⟩) n1 c1) n1 (pxC (keyL (sorU (K.take q)))) ∧ Below w.heap.size w wr) (fun _ iv _ => n - (intOf iv).toNat)
  case atStart => exact ⟨0, 0, w.heap.size, 0, Nat.zero_le _, rfl, rfl, rfl, HO0.out, HB0.out⟩
  case round =>
    obtain ⟨q, n1, g4, c1, hq, hn1, rfl, rfl, hown, hbel⟩ := hrel; have hsr := hbel.size
    have hc1 : c1 ≤ maxLen ∧ n1 ≤ c1 := by
      rcases hown.2 with ⟨h1, _⟩ | ⟨g, cap, cur, h1, _, _, h2, h3, _⟩
      · cases h1
      · injection h1 with _ _ h4
        subst h4; exact ⟨h3, h2⟩
    obtain ⟨hc1, hnc1⟩ := hc1; unfold maxLen at hc1; by_cases hlt : q < n
    · have hnq : n1 ≤ q := by
        have := sorU_len (K.take q); rw [List.length_take] at this; omega
      obtain ⟨U, hU⟩ : ∃ U, sorU (K.take q) = U := ⟨_, rfl⟩
      have HSU : Hid (U.Pairwise PLt) := hide (hU ▸ sorU_sorted _); rw [hU] at hown hn1; have HU := hide hU; have HN1 := hide hn1; have HO := hide hown; have HBe := hide hbel; obtain ⟨g, o, a, n0, rfl, hg0, hx, f0, f1⟩ := PXat (HL.out.below pxMono hbel) hlt; have HTk : Hid (K.take (q + 1) = K.take q ++ [(a, n0)]) := hide (by rw [List.take_add_one, hx]; rfl); have hpg := HG.out (a, n0) (List.mem_of_getElem? hx); have hgd : goodB a (n0 : Int) = true := good_pg hpg; have HXa : Hid (a < 4294967296) := hide hpg.1; have HGd := hide (fun W => refGood_any a (n0 : Int) hpg.1 W); rw [hgd] at HGd; unfold pfx at HGd
      have HUg : Hid (∀ z ∈ U, z.1 < 4294967296) := hide (fun z hz => by
        rw [← hU, sorU_mem] at hz; exact (HG.out _ (List.mem_of_mem_take hz)).1)
      have X0 := hide f0; have X1 := hide f1; have q1 : (q : Int) < (n : Int) := (by omega)
      have q0 : (0 : Int) ≤ (q : Int) := (by omega)
      have hwq : IntKind.i64.wrap ((q : Int) + 1) = (q : Int) + 1 := (by rw [IntKind.wrap_i64]; omega)
      clear hx hpg hgd hU hn1 hown hbel
      go_wp2_with fail
      refine (HGd.out _).mono ?_; rintro e w6 ⟨rfl, hb6⟩; have hg6 : g < w6.heap.size := Nat.lt_of_lt_of_le hg0 hb6.size; have HO6 := hide (own_below HO.out hb6); have HB6 := hide (HBe.out.trans (hb6.mono hsr)); have X0 : Hid (w6.cell? ⟨g, o + q * 2, none⟩ = some (.int .u32 (a : Int))) := hide ((hb6.cell hg0).trans X0.out); have X1 : Hid (w6.cell? ⟨g, o + q * 2 + 1, none⟩ = some (.int .i64 (n0 : Int))) := hide ((hb6.cell hg0).trans X1.out); clear hb6 f0 f1; go_wp2
      go_loopw [5] (fun iv wr => ∃ i : Nat, i ≤ n1 ∧ iv = .int .i64 (i : Nat) ∧ Below w6.heap.size w6 wr ∧ ∀ j (h : j < i) (h2 : j < U.length), (U[j].1 < a ∨ U[j].1 = a ∧ U[j].2.1 < n0)) (fun iv _ => n1 - (intOf iv).toNat)
      case atStart => exact ⟨0, Nat.zero_le _, rfl, Below.refl _ _, fun j h => absurd h (by omega)⟩
      case round =>
          obtain ⟨i, hiq, rfl, hbel, hlow⟩ := hrel; obtain ⟨wz, hwz⟩ : ∃ W, W = wr := ⟨_, rfl⟩
          subst hwz; have HBe := hide hbel; have HLow := hide hlow; have HOw := hide (own_below HO6.out hbel); have HBz := hide (HB6.out.trans (hbel.mono HB6.out.size)); have hzw : w.heap.size ≤ wz.heap.size := Nat.le_trans HB6.out.size hbel.size; have hgw : g < wz.heap.size := Nat.lt_of_lt_of_le hg6 hbel.size; have Y0 := hide ((hbel.cell hg6).trans X0.out); have Y1 := hide ((hbel.cell hg6).trans X1.out); have X0 := Y0; have X1 := Y1; have i0' : (0 : Int) ≤ (i : Int) := (by omega)
          have hi2 : (i : Int) ≤ (c1 : Int) := (by omega)
          have hi5 : (n1 : Int) ≤ (c1 : Int) := (by omega)
          have hi6 : (i : Int) ≤ (n1 : Int) := (by omega)
          have hwi : IntKind.i64.wrap ((i : Int) + 1) = (i : Int) + 1 := (by rw [IntKind.wrap_i64]; omega)
          by_cases hlt : i < n1
          · obtain ⟨z, hz⟩ : ∃ z, U[i]? = some z := ⟨_, List.getElem?_eq_getElem (by rw [HN1.out]; exact hlt)⟩
            have HP := own_pxs HOw.out; obtain ⟨g5, o5, a2, m2, he5, hg4, hx5, f0, f1⟩ := PXat HP hlt; injection he5 with he5
            injection he5 with e5 e6
            subst e5 e6; unfold keyL at hx5; rw [List.getElem?_map, hz] at hx5; simp only [Option.map_some, Option.some.injEq, Prod.mk.injEq] at hx5; obtain ⟨hz1', hz2'⟩ := hx5; have hza := HUg.out z (List.mem_of_getElem? hz); obtain ⟨a2', m2', _⟩ := z; simp only at hz1' hz2' hza; subst hz1' hz2'; have HZ := hide hz; have F0 : Hid (wz.cell? ⟨g4, i * 2, none⟩ = some (.int .u32 (a2' : Int))) := hide (by simpa using f0); have F1 : Hid (wz.cell? ⟨g4, i * 2 + 1, none⟩ = some (.int .i64 (m2' : Int))) := hide (by simpa using f1); obtain ⟨a2, ha2⟩ : ∃ x, a2' = x := ⟨_, rfl⟩
            obtain ⟨m2, hm2⟩ : ∃ x, m2' = x := ⟨_, rfl⟩
            subst ha2 hm2; have i1 : (i : Int) < (n1 : Int) := (by omega)
            have ni : ¬ (i : Int) = (n1 : Int) := (by omega)
            obtain ⟨K9, hK9⟩ : ∃ K, cmpP a2' (m2' : Int) a (n0 : Int) = K := ⟨_, rfl⟩
            obtain ⟨LB, hLB⟩ : ∃ b, decide (K9 < 0) = b := ⟨_, rfl⟩
            have HLBi : Hid (decide (a2' < a ∨ a2' = a ∧ m2' < n0) = LB) := hide (by rw [← cmp_lt, hK9]; exact hLB); have HLB := hide hLB; have HCm := hide (fun W => refCmp_any a2' (m2' : Int) a (n0 : Int) hza HXa.out W); rw [hK9] at HCm; unfold pfx at HCm; clear hbel hlow hz hza hK9 hLB HP f0 f1; go_wp2
            skip
            have Hmn := hide (show AllMono [(isV (.int .i64 (i : Int))), (isV (.slice (some ⟨g4, 0, none⟩) n1 c1)), (isV (.int .i64 (n1 : Int))), (isV (.bool true)), (isV (.bool true)), (isV (.slice (some ⟨g4, 0, none⟩) n1 c1)), (isV (.int .i64 (i : Int))), (isV (ptv g4 (i * 2))), (isV (.agg #[.int .u32 (a2' : Int), .int .i64 (m2' : Int)])), (isV (.slice (some ⟨g, o, none⟩) n c)), (isV (.int .i64 (q : Int))), (isV (ptv g (o + q * 2))), (isV (.agg #[.int .u32 (a : Int), .int .i64 (n0 : Int)])), (isV (.int .i64 K9)), (isV (.bool LB)), (isV (.bool LB))] from by repeat (first | exact trivial | refine ⟨fun _ _ _ _ h => h, ?_⟩)); refine wp_region_rel _ (by kernel_rfl) (by kernel_rfl) (relMono _ Hmn.out) ⟨?_, ?_, ?_, ?_, ?_, ?_, ?_, ?_, ?_, ?_, ?_, ?_, ?_, ?_, ?_, ?_, trivial⟩ ?_
            · exact relStep_plain rfl fun Ac w5 hp => pureM (.int .i64 (i : Int)) 5 (hp.out 5 (by rfl))
            · exact relStep_plain rfl fun Ac w5 hp => pureM (.slice (some ⟨g4, 0, none⟩) n1 c1) 3 (hp.out 3 (by rfl))
            · exact relStep_plain rfl fun Ac w5 hp => pure1 (.int .i64 (n1 : Int)) 20 (.slice (some ⟨g4, 0, none⟩) n1 c1) (hp.d 1)
            · exact relStep_plain rfl fun Ac w5 hp => pure2 (.bool true) 19 (.int .i64 (i : Int)) (hp.d 0) 21 (.int .i64 (n1 : Int)) (hp.d 2)
            · exact relStep_plain rfl fun Ac w5 hp => pureM (.bool true) 22 (hp.d 3)
            · exact rsG 4 true fun Ac w5 hp => pureM (.slice (some ⟨g4, 0, none⟩) n1 c1) 3 (hp.out 3 (by rfl))
            · exact rsG 4 true fun Ac w5 hp => pureM (.int .i64 (i : Int)) 5 (hp.out 5 (by rfl))
            · exact rsG 4 true fun Ac w5 hp => pure2 (ptv g4 (i * 2)) 24 (.slice (some ⟨g4, 0, none⟩) n1 c1) (hp.d 5) 25 (.int .i64 (i : Int)) (hp.d 6)
            · refine rsG 4 true ?_; intro Ac w5 hp; have hb := hp.bel; have f0 : w5.cell? ⟨g4, i * 2, none⟩ = some (.int .u32 (a2' : Int)) := (hb.cell hg4).trans F0.out; have f1 : w5.cell? ⟨g4, i * 2 + 1, none⟩ = some (.int .i64 (m2' : Int)) := (hb.cell hg4).trans F1.out; exact pure1 (.agg #[.int .u32 (a2' : Int), .int .i64 (m2' : Int)]) 26 (ptv g4 (i * 2)) (hp.d 7)
            · exact rsG 4 true fun Ac w5 hp => pureM (.slice (some ⟨g, o, none⟩) n c) 0 (hp.out 0 (by rfl))
            · exact rsG 4 true fun Ac w5 hp => pureM (.int .i64 (q : Int)) 4 (hp.out 4 (by rfl))
            · exact rsG 4 true fun Ac w5 hp => pure2 (ptv g (o + q * 2)) 28 (.slice (some ⟨g, o, none⟩) n c) (hp.d 9) 29 (.int .i64 (q : Int)) (hp.d 10)
            · refine rsG 4 true ?_; intro Ac w5 hp; have hb := hp.bel; have x0 : w5.cell? ⟨g, o + q * 2, none⟩ = some (.int .u32 (a : Int)) := (hb.cell hgw).trans X0.out; have x1 : w5.cell? ⟨g, o + q * 2 + 1, none⟩ = some (.int .i64 (n0 : Int)) := (hb.cell hgw).trans X1.out; exact pure1 (.agg #[.int .u32 (a : Int), .int .i64 (n0 : Int)]) 30 (ptv g (o + q * 2)) (hp.d 11)
            · refine rsG 4 true ?_; intro Ac w5 hp; have a27 : Ac.eval (.tmp 27) = .agg #[.int .u32 (a2' : Int), .int .i64 (m2' : Int)] := hp.d 8; have a31 : Ac.eval (.tmp 31) = .agg #[.int .u32 (a : Int), .int .i64 (n0 : Int)] := hp.d 12; obtain ⟨ρ, hρ, hc, hf, hgl⟩ := evalX Ac; rw [hρ] at a27 a31; refine relCall hρ 89 #[.agg #[.int .u32 (a2' : Int), .int .i64 (m2' : Int)], .agg #[.int .u32 (a : Int), .int .i64 (n0 : Int)]] (by simp [go_sem, ↓IntWalk.iteOmega, *]) ?_; refine (HCm.out w5).mono ?_; rintro e w6 ⟨rfl, hb6⟩; exact ⟨_, rfl, rfl, hb6⟩
            · refine rsG 4 true ?_; intro Ac w5 hp; have hlb := HLB.out; exact pure1 (.bool LB) 32 (.int .i64 K9) (hp.d 13)
            · exact relStep_plain rfl fun Ac w5 hp => pure2 (.bool LB) 23 (.bool true) (hp.d 4) 33 (.bool LB) (hp.d 14)
            intro u w8 hb7 hall; have e34 : u 15 = .bool LB := relAll_at hall (i := 15) (by decide +kernel); clear hall; simp only [List.drop_succ_cons, List.drop_zero, List.take_succ_cons, List.take_zero, putAll, Act.put, List.setIfInBounds_toArray, List.set_cons_zero, List.set_cons_succ, Nat.zero_add, Nat.reduceAdd, e34]
            cases LB with
            | true =>
              have HB8 := hide (HBe.out.trans (hb7.mono HBe.out.size)); clear hb7; go_wp2
              go_roundw
              case rel =>
                refine ⟨i + 1, by omega, by go_num, HB8.out, fun j hj hj2 => ?_⟩; rcases Nat.lt_or_ge j i with h1 | h1
                · exact HLow.out j h1 hj2
                · obtain rfl : j = i := (by omega)
                  have e2 : U[j] = (a2', m2', ()) := (by have := List.getElem?_eq_some_iff.1 HZ.out; exact this.2)
                  rw [e2]; simpa using HLBi.out
              case measure => simp [intOf]; omega
            | false =>
                obtain ⟨E, hE⟩ : ∃ b, ((a2' : Int) == (a : Int) && (m2' : Int) == (n0 : Int)) = b := ⟨_, rfl⟩
                have HE := hide hE; have HEi : Hid (E = true ↔ (a = a2' ∧ n0 = m2')) := hide (by rw [← hE]; simp only [Bool.and_eq_true, beq_iff_eq, Int.ofNat_inj]; exact ⟨fun ⟨x, y⟩ => ⟨x.symm, y.symm⟩, fun ⟨x, y⟩ => ⟨x.symm, y.symm⟩⟩); have hs8 := hb7.size; have HOw := hide (own_below HOw.out hb7); have HBz := hide (HBz.out.trans (hb7.mono hzw)); have hzw8 : w.heap.size ≤ w8.heap.size := Nat.le_trans hzw hb7.size; have X0 : Hid (w8.cell? ⟨g, o + q * 2, none⟩ = some (.int .u32 (a : Int))) := hide ((hb7.cell hgw).trans X0.out); have X1 : Hid (w8.cell? ⟨g, o + q * 2 + 1, none⟩ = some (.int .i64 (n0 : Int))) := hide ((hb7.cell hgw).trans X1.out); have F0 : Hid (w8.cell? ⟨g4, i * 2, none⟩ = some (.int .u32 (a2' : Int))) := hide ((hb7.cell hg4).trans F0.out); have F1 : Hid (w8.cell? ⟨g4, i * 2 + 1, none⟩ = some (.int .i64 (m2' : Int))) := hide ((hb7.cell hg4).trans F1.out); have hgw : g < w8.heap.size := (by omega)
                have hg4 : g4 < w8.heap.size := (by omega)
                clear hb7 hE; obtain ⟨wy, hwy⟩ : ∃ W, W = w8 := ⟨_, rfl⟩
                subst hwy; go_wp2
                skip
                have Hmn := hide (show AllMono [(isV (.bool true)), (isV (.bool true)), (isV (.int .i64 (i : Int))), (isV (.slice (some ⟨g4, 0, none⟩) n1 c1)), (isV (.int .i64 (n1 : Int))), (isV (.bool false)), (isV (.bool false)), (isV (.slice (some ⟨g4, 0, none⟩) n1 c1)), (isV (.int .i64 (i : Int))), (isV (ptv g4 (i * 2))), (isV (.agg #[.int .u32 (a2' : Int), .int .i64 (m2' : Int)])), (isV (.slice (some ⟨g, o, none⟩) n c)), (isV (.int .i64 (q : Int))), (isV (ptv g (o + q * 2))), (isV (.agg #[.int .u32 (a : Int), .int .i64 (n0 : Int)])), (isV (.bool (!E))), (isV (.bool (!E))), (isV (.bool (!E)))] from by repeat (first | exact trivial | refine ⟨fun _ _ _ _ h => h, ?_⟩)); refine wp_region_rel _ (by kernel_rfl) (by kernel_rfl) (relMono _ Hmn.out) ⟨?_, ?_, ?_, ?_, ?_, ?_, ?_, ?_, ?_, ?_, ?_, ?_, ?_, ?_, ?_, ?_, ?_, ?_, trivial⟩ ?_
                · exact relStep_plain rfl fun Ac w5 hp => pureM (.bool true) 6 (hp.out 6 (by rfl))
                · exact relStep_plain rfl fun Ac w5 hp => pureM (.bool true) 37 (hp.d 0)
                · exact rsG 1 true fun Ac w5 hp => pureM (.int .i64 (i : Int)) 5 (hp.out 5 (by rfl))
                · exact rsG 1 true fun Ac w5 hp => pureM (.slice (some ⟨g4, 0, none⟩) n1 c1) 3 (hp.out 3 (by rfl))
                · exact rsG 1 true fun Ac w5 hp => pure1 (.int .i64 (n1 : Int)) 40 (.slice (some ⟨g4, 0, none⟩) n1 c1) (hp.d 3)
                · exact rsG 1 true fun Ac w5 hp => pure2 (.bool false) 39 (.int .i64 (i : Int)) (hp.d 2) 41 (.int .i64 (n1 : Int)) (hp.d 4)
                · exact rsG 1 true fun Ac w5 hp => pureM (.bool false) 42 (hp.d 5)
                · exact rsG 6 false fun Ac w5 hp => pureM (.slice (some ⟨g4, 0, none⟩) n1 c1) 3 (hp.out 3 (by rfl))
                · exact rsG 6 false fun Ac w5 hp => pureM (.int .i64 (i : Int)) 5 (hp.out 5 (by rfl))
                · exact rsG 6 false fun Ac w5 hp => pure2 (ptv g4 (i * 2)) 44 (.slice (some ⟨g4, 0, none⟩) n1 c1) (hp.d 7) 45 (.int .i64 (i : Int)) (hp.d 8)
                · refine rsG 6 false ?_; intro Ac w5 hp; have hb := hp.bel; have f0 : w5.cell? ⟨g4, i * 2, none⟩ = some (.int .u32 (a2' : Int)) := (hb.cell hg4).trans F0.out; have f1 : w5.cell? ⟨g4, i * 2 + 1, none⟩ = some (.int .i64 (m2' : Int)) := (hb.cell hg4).trans F1.out; exact pure1 (.agg #[.int .u32 (a2' : Int), .int .i64 (m2' : Int)]) 46 (ptv g4 (i * 2)) (hp.d 9)
                · exact rsG 6 false fun Ac w5 hp => pureM (.slice (some ⟨g, o, none⟩) n c) 0 (hp.out 0 (by rfl))
                · exact rsG 6 false fun Ac w5 hp => pureM (.int .i64 (q : Int)) 4 (hp.out 4 (by rfl))
                · exact rsG 6 false fun Ac w5 hp => pure2 (ptv g (o + q * 2)) 48 (.slice (some ⟨g, o, none⟩) n c) (hp.d 11) 49 (.int .i64 (q : Int)) (hp.d 12)
                · refine rsG 6 false ?_; intro Ac w5 hp; have hb := hp.bel; have x0 : w5.cell? ⟨g, o + q * 2, none⟩ = some (.int .u32 (a : Int)) := (hb.cell hgw).trans X0.out; have x1 : w5.cell? ⟨g, o + q * 2 + 1, none⟩ = some (.int .i64 (n0 : Int)) := (hb.cell hgw).trans X1.out; exact pure1 (.agg #[.int .u32 (a : Int), .int .i64 (n0 : Int)]) 50 (ptv g (o + q * 2)) (hp.d 13)
                · refine rsG 6 false ?_; intro Ac w5 hp; have a47 : Ac.eval (.tmp 47) = .agg #[.int .u32 (a2' : Int), .int .i64 (m2' : Int)] := hp.d 10; have a51 : Ac.eval (.tmp 51) = .agg #[.int .u32 (a : Int), .int .i64 (n0 : Int)] := hp.d 14; have heq := HE.out; exact relPureX (.bool (!E)) (fun ρ hρ h1 h2 h3 => by rw [hρ] at a47 a51; simp [go_sem, ↓IntWalk.iteOmega, *]; rw [← heq]; by_cases h1 : (a2' : Int) = (a : Int) <;> by_cases h2 : (m2' : Int) = (n0 : Int) <;> simp [h1, h2]) rfl
                · exact rsG 1 true fun Ac w5 hp => pure2 (.bool (!E)) 43 (.bool false) (hp.d 6) 52 (.bool (!E)) (hp.d 15)
                · exact relStep_plain rfl fun Ac w5 hp => pure2 (.bool (!E)) 38 (.bool true) (hp.d 1) 53 (.bool (!E)) (hp.d 16)
                intro u w9 hb7 hall; have e54 : u 17 = .bool (!E) := relAll_at hall (i := 17) (by decide +kernel); clear hall; simp only [List.drop_succ_cons, List.drop_zero, List.take_succ_cons, List.take_zero, putAll, Act.put, List.setIfInBounds_toArray, List.set_cons_zero, List.set_cons_succ, Nat.zero_add, Nat.reduceAdd, e54]; obtain ⟨wz, hwz⟩ : ∃ W, W = w9 := ⟨_, rfl⟩
                subst hwz; have HOw := hide (own_below HOw.out hb7); have HBz := hide (HBz.out.trans (hb7.mono hzw8)); have hzw : w.heap.size ≤ wz.heap.size := Nat.le_trans hzw8 hb7.size; have X0 : Hid (wz.cell? ⟨g, o + q * 2, none⟩ = some (.int .u32 (a : Int))) := hide ((hb7.cell hgw).trans X0.out); have X1 : Hid (wz.cell? ⟨g, o + q * 2 + 1, none⟩ = some (.int .i64 (n0 : Int))) := hide ((hb7.cell hgw).trans X1.out); have hgw : g < wz.heap.size := Nat.lt_of_lt_of_le hgw hb7.size; clear hb7 F0 F1 hg4
                cases E with
                | true =>
                  have HEq : Hid (putL a n0 () U = U) := hide (sorU_old HSU.out (by
                    have e := HEi.out.1 (by simp); rw [e.1, e.2]; exact List.mem_of_getElem? HZ.out))
                  go_wp2
                  go_roundw
                  case rel => exact ⟨q + 1, n1, g4, c1, by omega, by rw [HTk.out, sorU_push, HU.out]; unfold insU; rw [HEq.out]; exact HN1.out, by go_num, rfl, by rw [HTk.out, sorU_push, HU.out]; unfold insU; rw [HEq.out]; exact HOw.out, HBz.out⟩
                  case measure => simp [intOf]; omega
                | false =>
                  have HNew := hide (sorU_new (a := a) (n := n0) HSU.out (by rw [HN1.out]; exact hiq) HLow.out (fun hi => by
                    have e2 : U[i] = (a2', m2', ()) := (by have := List.getElem?_eq_some_iff.1 HZ.out; exact this.2)
                    rw [e2]; exact ⟨by simpa using HLBi.out, fun e => absurd (HEi.out.2 e) (by simp)⟩))
                  have HPut := hide HNew.out.1; have HLn1 : Hid ((insU U (a, n0)).length = n1 + 1) := hide (by rw [← HN1.out]; exact HNew.out.2)
                  go_upto_region 9 with fail
                  have Hmn := hide (show AllMono [(fun v _ => ∃ A, v = .slice A 0 0), (isV (.slice (some ⟨g4, 0, none⟩) n1 c1)), (isV (.int .i64 (i : Int))), (isV (.slice (some ⟨g4, 0, none⟩) i c1)), (fun v _ => ∃ A c, v = .slice A i c), (isV (.slice (some ⟨g, o, none⟩) n c)), (isV (.int .i64 (q : Int))), (isV (ptv g (o + q * 2))), (isV (.agg #[.int .u32 (a : Int), .int .i64 (n0 : Int)])), (fun v _ => ∃ R, v = .slice (some ⟨R, 0, none⟩) 1 1), (fun v _ => ∃ A c, v = .slice A (i + 1) c), (isV (.slice (some ⟨g4, 0, none⟩) n1 c1)), (isV (.int .i64 (i : Int))), (fun v _ => ∃ A c, v = .slice A (n1 - i) c ∧ (i < n1 → A = some ⟨g4, i * 2, none⟩))] from by repeat (first | exact trivial | refine ⟨fun _ _ _ _ h => h, ?_⟩)); have Hfl := hide (show AllFlat [(fun v _ => ∃ A, v = .slice A 0 0), (isV (.slice (some ⟨g4, 0, none⟩) n1 c1)), (isV (.int .i64 (i : Int))), (isV (.slice (some ⟨g4, 0, none⟩) i c1)), (fun v _ => ∃ A c, v = .slice A i c), (isV (.slice (some ⟨g, o, none⟩) n c)), (isV (.int .i64 (q : Int))), (isV (ptv g (o + q * 2))), (isV (.agg #[.int .u32 (a : Int), .int .i64 (n0 : Int)])), (fun v _ => ∃ R, v = .slice (some ⟨R, 0, none⟩) 1 1), (fun v _ => ∃ A c, v = .slice A (i + 1) c), (isV (.slice (some ⟨g4, 0, none⟩) n1 c1)), (isV (.int .i64 (i : Int))), (fun v _ => ∃ A c, v = .slice A (n1 - i) c ∧ (i < n1 → A = some ⟨g4, i * 2, none⟩))] from by repeat (first | exact trivial | refine ⟨fun _ _ _ h => h, ?_⟩)); refine wp_region_relX 14 wz.heap.size (Nat.le_refl _) [(fun v _ => ∃ A, v = .slice A 0 0), (isV (.slice (some ⟨g4, 0, none⟩) n1 c1)), (isV (.int .i64 (i : Int))), (isV (.slice (some ⟨g4, 0, none⟩) i c1)), (fun v _ => ∃ A c, v = .slice A i c), (isV (.slice (some ⟨g, o, none⟩) n c)), (isV (.int .i64 (q : Int))), (isV (ptv g (o + q * 2))), (isV (.agg #[.int .u32 (a : Int), .int .i64 (n0 : Int)])), (fun v _ => ∃ R, v = .slice (some ⟨R, 0, none⟩) 1 1), (fun v _ => ∃ A c, v = .slice A (i + 1) c), (isV (.slice (some ⟨g4, 0, none⟩) n1 c1)), (isV (.int .i64 (i : Int))), (fun v _ => ∃ A c, v = .slice A (n1 - i) c ∧ (i < n1 → A = some ⟨g4, i * 2, none⟩))] (P3X 24 2 0 4 9 10 wz.heap.size i ((pxC (keyL U)).take (i * 2)) [.int .u32 (a : Int), .int .i64 (n0 : Int)]) (by kernel_rfl) (by kernel_rfl) (by kernel_rfl) (by kernel_rfl) (by kernel_rfl) (p3_start _ _) ⟨?_, ?_, ?_, ?_, ?_, ?_, ?_, ?_, ?_, ?_, ?_, ?_, ?_, ?_, trivial⟩ ?_
                  · refine relX_op rfl rfl Hmn.out (Nat.le_refl _) ?_; intro Dn Ac w5 hp; have hb := hp.bel; obtain ⟨ρ, hρ, hc, hf, hgl⟩ := evalX Ac; refine relValS hρ (.slice (some ⟨w5.heap.size, 0, none⟩) 0 0) (w5.alloc (.cells #[] 24)) (by simp [go_sem, ↓IntWalk.iteOmega, *]) ⟨⟨_, rfl⟩, blkBelow1 w5 _, p3_p0 hp.ext (blkBelow1 w5 _) hp.no (by decide) (by decide) (by decide) (World.ownsRow_lit w5 #[] 0 hb.size (by unfold maxLen; omega) rfl) (fun k hk => by cases hk; exact Nat.le_refl _)⟩
                  · refine relX_plain rfl rfl Hmn.out (Nat.le_refl _) (fun D u v wa wb hb h => p3_other h hb (by decide) (by decide) (by decide) (by decide)) ?_; intro Dn Ac w5 hp; have a3 : Ac.eval (.tmp 3) = .slice (some ⟨g4, 0, none⟩) n1 c1 := hp.out 3 (by rfl); exact relPureX (.slice (some ⟨g4, 0, none⟩) n1 c1) (fun ρ hρ h1 h2 h3 => by rw [hρ] at a3; simp [go_sem, ↓IntWalk.iteOmega, *]) rfl
                  · refine relX_plain rfl rfl Hmn.out (Nat.le_refl _) (fun D u v wa wb hb h => p3_other h hb (by decide) (by decide) (by decide) (by decide)) ?_; intro Dn Ac w5 hp; have a5 : Ac.eval (.tmp 5) = .int .i64 (i : Int) := hp.out 5 (by rfl); exact relPureX (.int .i64 (i : Int)) (fun ρ hρ h1 h2 h3 => by rw [hρ] at a5; simp [go_sem, ↓IntWalk.iteOmega, *]) rfl
                  · refine relX_plain rfl rfl Hmn.out (Nat.le_refl _) (fun D u v wa wb hb h => p3_other h hb (by decide) (by decide) (by decide) (by decide)) ?_; intro Dn Ac w5 hp; have a56 : Ac.eval (.tmp 56) = .slice (some ⟨g4, 0, none⟩) n1 c1 := hp.d 1; have a57 : Ac.eval (.tmp 57) = .int .i64 (i : Int) := hp.d 2; exact relPureX (.slice (some ⟨g4, 0, none⟩) i c1) (fun ρ hρ h1 h2 h3 => by rw [hρ] at a56 a57; simp [go_sem, ↓IntWalk.iteOmega, *]) rfl
                  · refine relX_app rfl rfl ?_; intro Dn Ac w5 hp; have hb := hp.bel; obtain ⟨A55, a55⟩ := hp.d 0; change Ac.eval (.tmp 55) = _ at a55; have a58 : Ac.eval (.tmp 58) = .slice (some ⟨g4, 0, none⟩) i c1 := hp.d 3; have hd0 := hp.dn 0 (by kernel_rfl); have ho0 := hp.ext.r0 hd0 hp.no; change w5.ownsRow _ _ _ (Ac.eval (.tmp 55)) 0 [] at ho0; rw [a55] at ho0; refine wp_append_any w5 (.tmp 55) (.tmp 58) 45 rfl wz.heap.size 24 i0 _ 2 16 Tryz.underlying45 hi hz0 hz1 hz2 rfl (by decide) (.slice A55 0 0) 0 [] a55 ho0 w5.heap.size (some ⟨g4, 0, none⟩) i c1 ((pxC (keyL U)).take (i * 2)) a58 (own_reads_take (own_below HOw.out hb) hiq) (fun u hu => pxC_one _ u (List.mem_of_mem_take hu)) (by unfold maxLen; omega) (by omega) hb.size ?_; intro v2 w6 h2 h3 h4; obtain ⟨A4, c4, rfl⟩ := own_slice h2; rw [Nat.zero_add] at h2 h4 ⊢; refine ⟨_, rfl, ⟨A4, c4, rfl⟩, (Below.refl wz.heap.size w5).grown h3 hb.size (fun k hk => own_low_block ho0 k hk), fun j _ hj => relFlat _ Hfl.out _ _ _ _ (hp.has j hj), ?_⟩; refine p3_p1 hp.ext hp.no hd0 (by decide) (by decide) (by decide) h2 ?_ ?_
                    · show World.grownBy _ _ (Ac.eval (.tmp 55)).ownBlock; rw [a55]; exact h3
                    · show _ = (Ac.eval (.tmp 55)).ownBlock ∨ _; rw [a55]; exact h4
                  · refine relX_plain rfl rfl Hmn.out (Nat.le_refl _) (fun D u v wa wb hb h => p3_other h hb (by decide) (by decide) (by decide) (by decide)) ?_; intro Dn Ac w5 hp; have a0 : Ac.eval (.tmp 0) = .slice (some ⟨g, o, none⟩) n c := hp.out 0 (by rfl); exact relPureX (.slice (some ⟨g, o, none⟩) n c) (fun ρ hρ h1 h2 h3 => by rw [hρ] at a0; simp [go_sem, ↓IntWalk.iteOmega, *]) rfl
                  · refine relX_plain rfl rfl Hmn.out (Nat.le_refl _) (fun D u v wa wb hb h => p3_other h hb (by decide) (by decide) (by decide) (by decide)) ?_; intro Dn Ac w5 hp; have a4 : Ac.eval (.tmp 4) = .int .i64 (q : Int) := hp.out 4 (by rfl); exact relPureX (.int .i64 (q : Int)) (fun ρ hρ h1 h2 h3 => by rw [hρ] at a4; simp [go_sem, ↓IntWalk.iteOmega, *]) rfl
                  · refine relX_plain rfl rfl Hmn.out (Nat.le_refl _) (fun D u v wa wb hb h => p3_other h hb (by decide) (by decide) (by decide) (by decide)) ?_; intro Dn Ac w5 hp; have a60 : Ac.eval (.tmp 60) = .slice (some ⟨g, o, none⟩) n c := hp.d 5; have a61 : Ac.eval (.tmp 61) = .int .i64 (q : Int) := hp.d 6; exact relPureX (.pointer (some ⟨g, o + q * 2, none⟩)) (fun ρ hρ h1 h2 h3 => by rw [hρ] at a60 a61; simp [go_sem, ↓IntWalk.iteOmega, *]) rfl
                  · refine relX_plain rfl rfl Hmn.out (Nat.le_refl _) (fun D u v wa wb hb h => p3_other h hb (by decide) (by decide) (by decide) (by decide)) ?_; intro Dn Ac w5 hp; have hb := hp.bel; have a62 : Ac.eval (.tmp 62) = .pointer (some ⟨g, o + q * 2, none⟩) := hp.d 7; have x0 : w5.cell? ⟨g, o + q * 2, none⟩ = some (.int .u32 (a : Int)) := (hb.cell hgw).trans X0.out; have x1 : w5.cell? ⟨g, o + q * 2 + 1, none⟩ = some (.int .i64 (n0 : Int)) := (hb.cell hgw).trans X1.out; exact relPureX (.agg #[.int .u32 (a : Int), .int .i64 (n0 : Int)]) (fun ρ hρ h1 h2 h3 => by rw [hρ] at a62; simp [go_sem, ↓IntWalk.iteOmega, *]) rfl
                  · refine relX_op rfl rfl Hmn.out (Nat.le_refl _) ?_; intro Dn Ac w5 hp; have hb := hp.bel; have a63 : Ac.eval (.tmp 63) = .agg #[.int .u32 (a : Int), .int .i64 (n0 : Int)] := hp.d 8; obtain ⟨ρ, hρ, hc, hf, hgl⟩ := evalX Ac; rw [hρ] at a63; refine relValS hρ (.slice (some ⟨w5.heap.size, 0, none⟩) 1 1) (w5.alloc (.cells #[.int .u32 (a : Int), .int .i64 (n0 : Int)] 24)) (by simp [go_sem, ↓IntWalk.iteOmega, *]) ⟨⟨_, rfl⟩, blkBelow1 w5 _, p3_pb hp.ext (blkBelow1 w5 _) hp.no (by decide) (by decide) (by decide) rfl (Nat.le_refl _) hb.size (Blk.new w5 _ _)⟩
                  · refine relX_app rfl rfl ?_; intro Dn Ac w5 hp; have hb := hp.bel; obtain ⟨A59, c59, a59⟩ := hp.d 4; change Ac.eval (.tmp 59) = _ at a59; obtain ⟨R64, a64⟩ := hp.d 9; change Ac.eval (.tmp 64) = _ at a64; have hd1 := hp.dn 4 (by kernel_rfl); have hdb := hp.dn 9 (by kernel_rfl); have ho1 := hp.ext.r1 hd1 hp.no; change w5.ownsRow _ _ _ (Ac.eval (.tmp 59)) _ _ at ho1; rw [a59] at ho1; obtain ⟨R, eR, hR, hk, _, _⟩ := hp.ext.bx hdb hp.no; change Ac.eval (.tmp 64) = _ at eR; refine wp_append_any w5 (.tmp 59) (.tmp 64) 45 rfl wz.heap.size 24 i0 _ 2 16 Tryz.underlying45 hi hz0 hz1 hz2 rfl (by decide) (.slice A59 i c59) i _ a59 ho1 w5.heap.size (some ⟨R, 0, none⟩) 1 1 [.int .u32 (a : Int), .int .i64 (n0 : Int)] eR (reads_blkN hk hk.lt rfl rfl) (by simp [Value.oneCell']) (by unfold maxLen; omega) (by omega) hb.size ?_; intro v2 w6 h2 h3 h4; obtain ⟨A4, c4, rfl⟩ := own_slice h2; exact ⟨_, rfl, ⟨A4, c4, rfl⟩, (Below.refl wz.heap.size w5).grown h3 hb.size (fun k hk => own_low_block ho1 k hk), fun j _ hj => relFlat _ Hfl.out _ _ _ _ (hp.has j hj), p3_p2 hp.ext hd1 hdb (by decide) (by decide) (by decide) h2⟩
                  · refine relX_plain rfl rfl Hmn.out (Nat.le_refl _) (fun D u v wa wb hb h => p3_other h hb (by decide) (by decide) (by decide) (by decide)) ?_; intro Dn Ac w5 hp; have a3 : Ac.eval (.tmp 3) = .slice (some ⟨g4, 0, none⟩) n1 c1 := hp.out 3 (by rfl); exact relPureX (.slice (some ⟨g4, 0, none⟩) n1 c1) (fun ρ hρ h1 h2 h3 => by rw [hρ] at a3; simp [go_sem, ↓IntWalk.iteOmega, *]) rfl
                  · refine relX_plain rfl rfl Hmn.out (Nat.le_refl _) (fun D u v wa wb hb h => p3_other h hb (by decide) (by decide) (by decide) (by decide)) ?_; intro Dn Ac w5 hp; have a5 : Ac.eval (.tmp 5) = .int .i64 (i : Int) := hp.out 5 (by rfl); exact relPureX (.int .i64 (i : Int)) (fun ρ hρ h1 h2 h3 => by rw [hρ] at a5; simp [go_sem, ↓IntWalk.iteOmega, *]) rfl
                  · refine relX_plain rfl rfl Hmn.out (Nat.le_refl _) (fun D u v wa wb hb h => p3_other h hb (by decide) (by decide) (by decide) (by decide)) ?_; intro Dn Ac w5 hp; have a66 : Ac.eval (.tmp 66) = .slice (some ⟨g4, 0, none⟩) n1 c1 := hp.d 11; have a67 : Ac.eval (.tmp 67) = .int .i64 (i : Int) := hp.d 12; obtain ⟨ρ, hρ, hc, hf, hgl⟩ := evalX Ac; rw [hρ] at a66 a67; have hi3 : (i : Int) < (c1 : Int) := (by omega)
                    have hi4 : ¬ c1 = i := (by omega)
                    exact relPure hρ (.slice (some ⟨g4, i * 2, none⟩) (n1 - i) (c1 - i)) (by simp [go_sem, ↓IntWalk.iteOmega, *]) ⟨_, _, rfl, fun _ => rfl⟩
                  intro u w8 hb7 hall hox; obtain ⟨A65, c65, e65⟩ := relAll_at hall (i := 10) (by decide +kernel); change u 10 = _ at e65; obtain ⟨A68, c68, e68, hA68⟩ := relAll_at hall (i := 13) (by decide +kernel); change u 13 = _ at e68; clear hall; simp only [List.drop_succ_cons, List.drop_zero, List.take_succ_cons, List.take_zero, putAll, Act.put, List.setIfInBounds_toArray, List.set_cons_zero, List.set_cons_succ, Nat.zero_add, Nat.reduceAdd, e65, e68]; have hown8 := hox.r2 (by decide); change w8.ownsRow _ _ _ (u 10) _ _ at hown8; rw [e65] at hown8
                  have hOd : Reads w8 w8.heap.size 2 A68 (n1 - i) ((pxC (keyL U)).drop (i * 2)) := by
                    by_cases hlt2 : i < n1
                    · rw [hA68 hlt2]; exact own_reads_drop (own_below HOw.out hb7) hiq
                    · exact ⟨by have := HOw.out.1; rw [List.length_drop, this, Nat.sub_mul], fun h => absurd h (by omega)⟩
                  refine wpList_append_any w8 rfl (.tmp 65) (.tmp 68) 45 rfl wz.heap.size 24 i0 _ 2 16 Tryz.underlying45 hi hz0 hz1 hz2 rfl (by decide) (.slice A65 (i + 1) c65) (i + 1) _ rfl hown8 w8.heap.size A68 (n1 - i) c68 ((pxC (keyL U)).drop (i * 2)) rfl hOd (fun u hu => pxC_one _ u (List.mem_of_mem_drop hu)) (by unfold maxLen; omega) (by omega) hb7.size ?_; intro v2 w9 h2 h3 h4
                  obtain ⟨g9, hg9⟩ : ∃ k, v2.ownBlock = some k := by
                    rcases h4 with h4 | h4
                    · have hb := hown8.2; rcases hb with ⟨h5, _⟩ | ⟨g5, cap, cur, h5, _⟩
                      · injection h5 with _ h6; omega
                      · rw [h5] at h4; exact ⟨g5, h4⟩
                    · exact ⟨_, h4⟩
                  obtain ⟨c9, rfl⟩ := own_some h2 hg9; have hn9 : i + 1 + (n1 - i) = n1 + 1 := (by omega)
                  rw [hn9] at h2 ⊢; have HO9 := hide (own_baseLe h2 hzw); have HB9 : Hid (Below w.heap.size w w9) := hide (HBz.out.trans (((hb7.trans ((Below.refl wz.heap.size w8).grown h3 hb7.size (fun k hk => own_low_block hown8 k hk))).mono hzw)))
                  have HXs : Hid ((pxC (keyL U)).take (i * 2) ++ [.int .u32 (a : Int), .int .i64 (n0 : Int)] ++ (pxC (keyL U)).drop (i * 2) = pxC (keyL (putL a n0 () U))) := hide (by
                    rw [← HPut.out]; exact pxC_insert U a n0 i)
                  clear h2 h3 h4 hown8 hOd hox hb7 e65 e68 hA68 hg9; go_wp2
                  go_roundw
                  case rel => exact ⟨q + 1, n1 + 1, g9, c9, by omega, by rw [HTk.out, sorU_push, HU.out]; exact HLn1.out, by go_num, rfl, by rw [HTk.out, sorU_push, HU.out]; unfold insU; rw [← HXs.out]; exact HO9.out, HB9.out⟩
                  case measure => simp [intOf]; omega
          · have e1 : decide ((i : Int) < (n1 : Int)) = false := decide_eq_false (by omega); have e2' : decide (i < n1) = false := decide_eq_false hlt; have HIN : Hid ((i : Int) = (n1 : Int)) := hide (by omega); have HNew := hide (sorU_new (a := a) (n := n0) HSU.out (by rw [HN1.out]; exact hiq) HLow.out (fun hi => absurd hi (by rw [HN1.out]; exact hlt))); have HPut := hide HNew.out.1; have HLn1 : Hid ((insU U (a, n0)).length = n1 + 1) := hide (by rw [← HN1.out]; exact HNew.out.2); clear hbel hlow; go_wp2
            skip
            have Hmn := hide (show AllMono [(isV (.int .i64 (i : Int))), (isV (.slice (some ⟨g4, 0, none⟩) n1 c1)), (isV (.int .i64 (n1 : Int))), (isV (.bool false)), (isV (.bool false)), (isV undef), (isV undef), (isV undef), (isV undef), (isV undef), (isV undef), (isV undef), (isV undef), (isV undef), (isV undef), (isV (.bool false))] from by repeat (first | exact trivial | refine ⟨fun _ _ _ _ h => h, ?_⟩)); refine wp_region_rel _ (by kernel_rfl) (by kernel_rfl) (relMono _ Hmn.out) ⟨?_, ?_, ?_, ?_, ?_, ?_, ?_, ?_, ?_, ?_, ?_, ?_, ?_, ?_, ?_, ?_, trivial⟩ ?_
            · exact relStep_plain rfl fun Ac w5 hp => pureM (.int .i64 (i : Int)) 5 (hp.out 5 (by rfl))
            · exact relStep_plain rfl fun Ac w5 hp => pureM (.slice (some ⟨g4, 0, none⟩) n1 c1) 3 (hp.out 3 (by rfl))
            · exact relStep_plain rfl fun Ac w5 hp => pure1 (.int .i64 (n1 : Int)) 20 (.slice (some ⟨g4, 0, none⟩) n1 c1) (hp.d 1)
            · exact relStep_plain rfl fun Ac w5 hp => pure2 (.bool false) 19 (.int .i64 (i : Int)) (hp.d 0) 21 (.int .i64 (n1 : Int)) (hp.d 2)
            · exact relStep_plain rfl fun Ac w5 hp => pureM (.bool false) 22 (hp.d 3)
            · exact rsN 4 true
            · exact rsN 4 true
            · exact rsN 4 true
            · exact rsN 4 true
            · exact rsN 4 true
            · exact rsN 4 true
            · exact rsN 4 true
            · exact rsN 4 true
            · exact rsN 4 true
            · exact rsN 4 true
            · exact relStep_plain rfl fun Ac w5 hp => pureM (.bool false) 23 (hp.d 4)
            intro u w8 hb7 hall; have e34 : u 15 = .bool false := relAll_at hall (i := 15) (by decide +kernel); clear hall; simp only [List.drop_succ_cons, List.drop_zero, List.take_succ_cons, List.take_zero, putAll, Act.put, List.setIfInBounds_toArray, List.set_cons_zero, List.set_cons_succ, Nat.zero_add, Nat.reduceAdd, e34]; have HOw := hide (own_below HOw.out hb7); have HBz := hide (HBz.out.trans (hb7.mono hzw)); have hzw8 : w.heap.size ≤ w8.heap.size := Nat.le_trans hzw hb7.size; have X0 : Hid (w8.cell? ⟨g, o + q * 2, none⟩ = some (.int .u32 (a : Int))) := hide ((hb7.cell hgw).trans X0.out); have X1 : Hid (w8.cell? ⟨g, o + q * 2 + 1, none⟩ = some (.int .i64 (n0 : Int))) := hide ((hb7.cell hgw).trans X1.out); have hgw : g < w8.heap.size := Nat.lt_of_lt_of_le hgw hb7.size; clear hb7; obtain ⟨wy, hwy⟩ : ∃ W, W = w8 := ⟨_, rfl⟩
            subst hwy; go_wp2
            skip
            have Hmn := hide (show AllMono [(isV (.bool true)), (isV (.bool true)), (isV (.int .i64 (i : Int))), (isV (.slice (some ⟨g4, 0, none⟩) n1 c1)), (isV (.int .i64 (n1 : Int))), (isV (.bool true)), (isV (.bool true)), (isV undef), (isV undef), (isV undef), (isV undef), (isV undef), (isV undef), (isV undef), (isV undef), (isV undef), (isV (.bool true)), (isV (.bool true))] from by repeat (first | exact trivial | refine ⟨fun _ _ _ _ h => h, ?_⟩)); refine wp_region_rel _ (by kernel_rfl) (by kernel_rfl) (relMono _ Hmn.out) ⟨?_, ?_, ?_, ?_, ?_, ?_, ?_, ?_, ?_, ?_, ?_, ?_, ?_, ?_, ?_, ?_, ?_, ?_, trivial⟩ ?_
            · exact relStep_plain rfl fun Ac w5 hp => pureM (.bool true) 6 (hp.out 6 (by rfl))
            · exact relStep_plain rfl fun Ac w5 hp => pureM (.bool true) 37 (hp.d 0)
            · exact rsG 1 true fun Ac w5 hp => pureM (.int .i64 (i : Int)) 5 (hp.out 5 (by rfl))
            · exact rsG 1 true fun Ac w5 hp => pureM (.slice (some ⟨g4, 0, none⟩) n1 c1) 3 (hp.out 3 (by rfl))
            · exact rsG 1 true fun Ac w5 hp => pure1 (.int .i64 (n1 : Int)) 40 (.slice (some ⟨g4, 0, none⟩) n1 c1) (hp.d 3)
            · refine rsG 1 true ?_; intro Ac w5 hp; have hin := HIN.out; exact pure2 (.bool true) 39 (.int .i64 (i : Int)) (hp.d 2) 41 (.int .i64 (n1 : Int)) (hp.d 4)
            · exact rsG 1 true fun Ac w5 hp => pureM (.bool true) 42 (hp.d 5)
            · exact rsN 6 false
            · exact rsN 6 false
            · exact rsN 6 false
            · exact rsN 6 false
            · exact rsN 6 false
            · exact rsN 6 false
            · exact rsN 6 false
            · exact rsN 6 false
            · exact rsN 6 false
            · exact rsG 1 true fun Ac w5 hp => pureM (.bool true) 43 (hp.d 6)
            · exact relStep_plain rfl fun Ac w5 hp => pure2 (.bool true) 38 (.bool true) (hp.d 1) 53 (.bool true) (hp.d 16)
            intro u w9 hb7 hall; have e54 : u 17 = .bool true := relAll_at hall (i := 17) (by decide +kernel); clear hall; simp only [List.drop_succ_cons, List.drop_zero, List.take_succ_cons, List.take_zero, putAll, Act.put, List.setIfInBounds_toArray, List.set_cons_zero, List.set_cons_succ, Nat.zero_add, Nat.reduceAdd, e54]; obtain ⟨wz, hwz⟩ : ∃ W, W = w9 := ⟨_, rfl⟩
            subst hwz; have HOw := hide (own_below HOw.out hb7); have HBz := hide (HBz.out.trans (hb7.mono hzw8)); have hzw : w.heap.size ≤ wz.heap.size := Nat.le_trans hzw8 hb7.size; have X0 : Hid (wz.cell? ⟨g, o + q * 2, none⟩ = some (.int .u32 (a : Int))) := hide ((hb7.cell hgw).trans X0.out); have X1 : Hid (wz.cell? ⟨g, o + q * 2 + 1, none⟩ = some (.int .i64 (n0 : Int))) := hide ((hb7.cell hgw).trans X1.out); have hgw : g < wz.heap.size := Nat.lt_of_lt_of_le hgw hb7.size; clear hb7
            go_upto_region 9 with fail
            have Hmn := hide (show AllMono [(fun v _ => ∃ A, v = .slice A 0 0), (isV (.slice (some ⟨g4, 0, none⟩) n1 c1)), (isV (.int .i64 (i : Int))), (isV (.slice (some ⟨g4, 0, none⟩) i c1)), (fun v _ => ∃ A c, v = .slice A i c), (isV (.slice (some ⟨g, o, none⟩) n c)), (isV (.int .i64 (q : Int))), (isV (ptv g (o + q * 2))), (isV (.agg #[.int .u32 (a : Int), .int .i64 (n0 : Int)])), (fun v _ => ∃ R, v = .slice (some ⟨R, 0, none⟩) 1 1), (fun v _ => ∃ A c, v = .slice A (i + 1) c), (isV (.slice (some ⟨g4, 0, none⟩) n1 c1)), (isV (.int .i64 (i : Int))), (fun v _ => ∃ A c, v = .slice A (n1 - i) c ∧ (i < n1 → A = some ⟨g4, i * 2, none⟩))] from by repeat (first | exact trivial | refine ⟨fun _ _ _ _ h => h, ?_⟩)); have Hfl := hide (show AllFlat [(fun v _ => ∃ A, v = .slice A 0 0), (isV (.slice (some ⟨g4, 0, none⟩) n1 c1)), (isV (.int .i64 (i : Int))), (isV (.slice (some ⟨g4, 0, none⟩) i c1)), (fun v _ => ∃ A c, v = .slice A i c), (isV (.slice (some ⟨g, o, none⟩) n c)), (isV (.int .i64 (q : Int))), (isV (ptv g (o + q * 2))), (isV (.agg #[.int .u32 (a : Int), .int .i64 (n0 : Int)])), (fun v _ => ∃ R, v = .slice (some ⟨R, 0, none⟩) 1 1), (fun v _ => ∃ A c, v = .slice A (i + 1) c), (isV (.slice (some ⟨g4, 0, none⟩) n1 c1)), (isV (.int .i64 (i : Int))), (fun v _ => ∃ A c, v = .slice A (n1 - i) c ∧ (i < n1 → A = some ⟨g4, i * 2, none⟩))] from by repeat (first | exact trivial | refine ⟨fun _ _ _ h => h, ?_⟩)); refine wp_region_relX 14 wz.heap.size (Nat.le_refl _) [(fun v _ => ∃ A, v = .slice A 0 0), (isV (.slice (some ⟨g4, 0, none⟩) n1 c1)), (isV (.int .i64 (i : Int))), (isV (.slice (some ⟨g4, 0, none⟩) i c1)), (fun v _ => ∃ A c, v = .slice A i c), (isV (.slice (some ⟨g, o, none⟩) n c)), (isV (.int .i64 (q : Int))), (isV (ptv g (o + q * 2))), (isV (.agg #[.int .u32 (a : Int), .int .i64 (n0 : Int)])), (fun v _ => ∃ R, v = .slice (some ⟨R, 0, none⟩) 1 1), (fun v _ => ∃ A c, v = .slice A (i + 1) c), (isV (.slice (some ⟨g4, 0, none⟩) n1 c1)), (isV (.int .i64 (i : Int))), (fun v _ => ∃ A c, v = .slice A (n1 - i) c ∧ (i < n1 → A = some ⟨g4, i * 2, none⟩))] (P3X 24 2 0 4 9 10 wz.heap.size i ((pxC (keyL U)).take (i * 2)) [.int .u32 (a : Int), .int .i64 (n0 : Int)]) (by kernel_rfl) (by kernel_rfl) (by kernel_rfl) (by kernel_rfl) (by kernel_rfl) (p3_start _ _) ⟨?_, ?_, ?_, ?_, ?_, ?_, ?_, ?_, ?_, ?_, ?_, ?_, ?_, ?_, trivial⟩ ?_
            · refine relX_op rfl rfl Hmn.out (Nat.le_refl _) ?_; intro Dn Ac w5 hp; have hb := hp.bel; obtain ⟨ρ, hρ, hc, hf, hgl⟩ := evalX Ac; refine relValS hρ (.slice (some ⟨w5.heap.size, 0, none⟩) 0 0) (w5.alloc (.cells #[] 24)) (by simp [go_sem, ↓IntWalk.iteOmega, *]) ⟨⟨_, rfl⟩, blkBelow1 w5 _, p3_p0 hp.ext (blkBelow1 w5 _) hp.no (by decide) (by decide) (by decide) (World.ownsRow_lit w5 #[] 0 hb.size (by unfold maxLen; omega) rfl) (fun k hk => by cases hk; exact Nat.le_refl _)⟩
            · refine relX_plain rfl rfl Hmn.out (Nat.le_refl _) (fun D u v wa wb hb h => p3_other h hb (by decide) (by decide) (by decide) (by decide)) ?_; intro Dn Ac w5 hp; have a3 : Ac.eval (.tmp 3) = .slice (some ⟨g4, 0, none⟩) n1 c1 := hp.out 3 (by rfl); exact relPureX (.slice (some ⟨g4, 0, none⟩) n1 c1) (fun ρ hρ h1 h2 h3 => by rw [hρ] at a3; simp [go_sem, ↓IntWalk.iteOmega, *]) rfl
            · refine relX_plain rfl rfl Hmn.out (Nat.le_refl _) (fun D u v wa wb hb h => p3_other h hb (by decide) (by decide) (by decide) (by decide)) ?_; intro Dn Ac w5 hp; have a5 : Ac.eval (.tmp 5) = .int .i64 (i : Int) := hp.out 5 (by rfl); exact relPureX (.int .i64 (i : Int)) (fun ρ hρ h1 h2 h3 => by rw [hρ] at a5; simp [go_sem, ↓IntWalk.iteOmega, *]) rfl
            · refine relX_plain rfl rfl Hmn.out (Nat.le_refl _) (fun D u v wa wb hb h => p3_other h hb (by decide) (by decide) (by decide) (by decide)) ?_; intro Dn Ac w5 hp; have a56 : Ac.eval (.tmp 56) = .slice (some ⟨g4, 0, none⟩) n1 c1 := hp.d 1; have a57 : Ac.eval (.tmp 57) = .int .i64 (i : Int) := hp.d 2; exact relPureX (.slice (some ⟨g4, 0, none⟩) i c1) (fun ρ hρ h1 h2 h3 => by rw [hρ] at a56 a57; simp [go_sem, ↓IntWalk.iteOmega, *]) rfl
            · refine relX_app rfl rfl ?_; intro Dn Ac w5 hp; have hb := hp.bel; obtain ⟨A55, a55⟩ := hp.d 0; change Ac.eval (.tmp 55) = _ at a55; have a58 : Ac.eval (.tmp 58) = .slice (some ⟨g4, 0, none⟩) i c1 := hp.d 3; have hd0 := hp.dn 0 (by kernel_rfl); have ho0 := hp.ext.r0 hd0 hp.no; change w5.ownsRow _ _ _ (Ac.eval (.tmp 55)) 0 [] at ho0; rw [a55] at ho0; refine wp_append_any w5 (.tmp 55) (.tmp 58) 45 rfl wz.heap.size 24 i0 _ 2 16 Tryz.underlying45 hi hz0 hz1 hz2 rfl (by decide) (.slice A55 0 0) 0 [] a55 ho0 w5.heap.size (some ⟨g4, 0, none⟩) i c1 ((pxC (keyL U)).take (i * 2)) a58 (own_reads_take (own_below HOw.out hb) hiq) (fun u hu => pxC_one _ u (List.mem_of_mem_take hu)) (by unfold maxLen; omega) (by omega) hb.size ?_; intro v2 w6 h2 h3 h4; obtain ⟨A4, c4, rfl⟩ := own_slice h2; rw [Nat.zero_add] at h2 h4 ⊢; refine ⟨_, rfl, ⟨A4, c4, rfl⟩, (Below.refl wz.heap.size w5).grown h3 hb.size (fun k hk => own_low_block ho0 k hk), fun j _ hj => relFlat _ Hfl.out _ _ _ _ (hp.has j hj), ?_⟩; refine p3_p1 hp.ext hp.no hd0 (by decide) (by decide) (by decide) h2 ?_ ?_
              · show World.grownBy _ _ (Ac.eval (.tmp 55)).ownBlock; rw [a55]; exact h3
              · show _ = (Ac.eval (.tmp 55)).ownBlock ∨ _; rw [a55]; exact h4
            · refine relX_plain rfl rfl Hmn.out (Nat.le_refl _) (fun D u v wa wb hb h => p3_other h hb (by decide) (by decide) (by decide) (by decide)) ?_; intro Dn Ac w5 hp; have a0 : Ac.eval (.tmp 0) = .slice (some ⟨g, o, none⟩) n c := hp.out 0 (by rfl); exact relPureX (.slice (some ⟨g, o, none⟩) n c) (fun ρ hρ h1 h2 h3 => by rw [hρ] at a0; simp [go_sem, ↓IntWalk.iteOmega, *]) rfl
            · refine relX_plain rfl rfl Hmn.out (Nat.le_refl _) (fun D u v wa wb hb h => p3_other h hb (by decide) (by decide) (by decide) (by decide)) ?_; intro Dn Ac w5 hp; have a4 : Ac.eval (.tmp 4) = .int .i64 (q : Int) := hp.out 4 (by rfl); exact relPureX (.int .i64 (q : Int)) (fun ρ hρ h1 h2 h3 => by rw [hρ] at a4; simp [go_sem, ↓IntWalk.iteOmega, *]) rfl
            · refine relX_plain rfl rfl Hmn.out (Nat.le_refl _) (fun D u v wa wb hb h => p3_other h hb (by decide) (by decide) (by decide) (by decide)) ?_; intro Dn Ac w5 hp; have a60 : Ac.eval (.tmp 60) = .slice (some ⟨g, o, none⟩) n c := hp.d 5; have a61 : Ac.eval (.tmp 61) = .int .i64 (q : Int) := hp.d 6; exact relPureX (.pointer (some ⟨g, o + q * 2, none⟩)) (fun ρ hρ h1 h2 h3 => by rw [hρ] at a60 a61; simp [go_sem, ↓IntWalk.iteOmega, *]) rfl
            · refine relX_plain rfl rfl Hmn.out (Nat.le_refl _) (fun D u v wa wb hb h => p3_other h hb (by decide) (by decide) (by decide) (by decide)) ?_; intro Dn Ac w5 hp; have hb := hp.bel; have a62 : Ac.eval (.tmp 62) = .pointer (some ⟨g, o + q * 2, none⟩) := hp.d 7; have x0 : w5.cell? ⟨g, o + q * 2, none⟩ = some (.int .u32 (a : Int)) := (hb.cell hgw).trans X0.out; have x1 : w5.cell? ⟨g, o + q * 2 + 1, none⟩ = some (.int .i64 (n0 : Int)) := (hb.cell hgw).trans X1.out; exact relPureX (.agg #[.int .u32 (a : Int), .int .i64 (n0 : Int)]) (fun ρ hρ h1 h2 h3 => by rw [hρ] at a62; simp [go_sem, ↓IntWalk.iteOmega, *]) rfl
            · refine relX_op rfl rfl Hmn.out (Nat.le_refl _) ?_; intro Dn Ac w5 hp; have hb := hp.bel; have a63 : Ac.eval (.tmp 63) = .agg #[.int .u32 (a : Int), .int .i64 (n0 : Int)] := hp.d 8; obtain ⟨ρ, hρ, hc, hf, hgl⟩ := evalX Ac; rw [hρ] at a63; refine relValS hρ (.slice (some ⟨w5.heap.size, 0, none⟩) 1 1) (w5.alloc (.cells #[.int .u32 (a : Int), .int .i64 (n0 : Int)] 24)) (by simp [go_sem, ↓IntWalk.iteOmega, *]) ⟨⟨_, rfl⟩, blkBelow1 w5 _, p3_pb hp.ext (blkBelow1 w5 _) hp.no (by decide) (by decide) (by decide) rfl (Nat.le_refl _) hb.size (Blk.new w5 _ _)⟩
            · refine relX_app rfl rfl ?_; intro Dn Ac w5 hp; have hb := hp.bel; obtain ⟨A59, c59, a59⟩ := hp.d 4; change Ac.eval (.tmp 59) = _ at a59; obtain ⟨R64, a64⟩ := hp.d 9; change Ac.eval (.tmp 64) = _ at a64; have hd1 := hp.dn 4 (by kernel_rfl); have hdb := hp.dn 9 (by kernel_rfl); have ho1 := hp.ext.r1 hd1 hp.no; change w5.ownsRow _ _ _ (Ac.eval (.tmp 59)) _ _ at ho1; rw [a59] at ho1; obtain ⟨R, eR, hR, hk, _, _⟩ := hp.ext.bx hdb hp.no; change Ac.eval (.tmp 64) = _ at eR; refine wp_append_any w5 (.tmp 59) (.tmp 64) 45 rfl wz.heap.size 24 i0 _ 2 16 Tryz.underlying45 hi hz0 hz1 hz2 rfl (by decide) (.slice A59 i c59) i _ a59 ho1 w5.heap.size (some ⟨R, 0, none⟩) 1 1 [.int .u32 (a : Int), .int .i64 (n0 : Int)] eR (reads_blkN hk hk.lt rfl rfl) (by simp [Value.oneCell']) (by unfold maxLen; omega) (by omega) hb.size ?_; intro v2 w6 h2 h3 h4; obtain ⟨A4, c4, rfl⟩ := own_slice h2; exact ⟨_, rfl, ⟨A4, c4, rfl⟩, (Below.refl wz.heap.size w5).grown h3 hb.size (fun k hk => own_low_block ho1 k hk), fun j _ hj => relFlat _ Hfl.out _ _ _ _ (hp.has j hj), p3_p2 hp.ext hd1 hdb (by decide) (by decide) (by decide) h2⟩
            · refine relX_plain rfl rfl Hmn.out (Nat.le_refl _) (fun D u v wa wb hb h => p3_other h hb (by decide) (by decide) (by decide) (by decide)) ?_; intro Dn Ac w5 hp; have a3 : Ac.eval (.tmp 3) = .slice (some ⟨g4, 0, none⟩) n1 c1 := hp.out 3 (by rfl); exact relPureX (.slice (some ⟨g4, 0, none⟩) n1 c1) (fun ρ hρ h1 h2 h3 => by rw [hρ] at a3; simp [go_sem, ↓IntWalk.iteOmega, *]) rfl
            · refine relX_plain rfl rfl Hmn.out (Nat.le_refl _) (fun D u v wa wb hb h => p3_other h hb (by decide) (by decide) (by decide) (by decide)) ?_; intro Dn Ac w5 hp; have a5 : Ac.eval (.tmp 5) = .int .i64 (i : Int) := hp.out 5 (by rfl); exact relPureX (.int .i64 (i : Int)) (fun ρ hρ h1 h2 h3 => by rw [hρ] at a5; simp [go_sem, ↓IntWalk.iteOmega, *]) rfl
            · refine relX_plain rfl rfl Hmn.out (Nat.le_refl _) (fun D u v wa wb hb h => p3_other h hb (by decide) (by decide) (by decide) (by decide)) ?_; intro Dn Ac w5 hp; have a66 : Ac.eval (.tmp 66) = .slice (some ⟨g4, 0, none⟩) n1 c1 := hp.d 11; have a67 : Ac.eval (.tmp 67) = .int .i64 (i : Int) := hp.d 12; obtain ⟨ρ, hρ, hc, hf, hgl⟩ := evalX Ac; rw [hρ] at a66 a67; have hin : i = n1 := (by omega)
              by_cases hi4 : c1 = i
              · exact relPure hρ (.slice (some ⟨g4, 0, none⟩) (n1 - i) (c1 - i)) (by simp [go_sem, ↓IntWalk.iteOmega, *]) ⟨_, _, rfl, fun h => absurd h hlt⟩
              · exact relPure hρ (.slice (some ⟨g4, i * 2, none⟩) (n1 - i) (c1 - i)) (by simp [go_sem, ↓IntWalk.iteOmega, *]) ⟨_, _, rfl, fun h => absurd h hlt⟩
            intro u w8 hb7 hall hox; obtain ⟨A65, c65, e65⟩ := relAll_at hall (i := 10) (by decide +kernel); change u 10 = _ at e65; obtain ⟨A68, c68, e68, hA68⟩ := relAll_at hall (i := 13) (by decide +kernel); change u 13 = _ at e68; clear hall; simp only [List.drop_succ_cons, List.drop_zero, List.take_succ_cons, List.take_zero, putAll, Act.put, List.setIfInBounds_toArray, List.set_cons_zero, List.set_cons_succ, Nat.zero_add, Nat.reduceAdd, e65, e68]; have hown8 := hox.r2 (by decide); change w8.ownsRow _ _ _ (u 10) _ _ at hown8; rw [e65] at hown8
            have hOd : Reads w8 w8.heap.size 2 A68 (n1 - i) ((pxC (keyL U)).drop (i * 2)) := by
              by_cases hlt2 : i < n1
              · rw [hA68 hlt2]; exact own_reads_drop (own_below HOw.out hb7) hiq
              · exact ⟨by have := HOw.out.1; rw [List.length_drop, this, Nat.sub_mul], fun h => absurd h (by omega)⟩
            refine wpList_append_any w8 rfl (.tmp 65) (.tmp 68) 45 rfl wz.heap.size 24 i0 _ 2 16 Tryz.underlying45 hi hz0 hz1 hz2 rfl (by decide) (.slice A65 (i + 1) c65) (i + 1) _ rfl hown8 w8.heap.size A68 (n1 - i) c68 ((pxC (keyL U)).drop (i * 2)) rfl hOd (fun u hu => pxC_one _ u (List.mem_of_mem_drop hu)) (by unfold maxLen; omega) (by omega) hb7.size ?_; intro v2 w9 h2 h3 h4
            obtain ⟨g9, hg9⟩ : ∃ k, v2.ownBlock = some k := by
              rcases h4 with h4 | h4
              · have hb := hown8.2; rcases hb with ⟨h5, _⟩ | ⟨g5, cap, cur, h5, _⟩
                · injection h5 with _ h6; omega
                · rw [h5] at h4; exact ⟨g5, h4⟩
              · exact ⟨_, h4⟩
            obtain ⟨c9, rfl⟩ := own_some h2 hg9; have hn9 : i + 1 + (n1 - i) = n1 + 1 := (by omega)
            rw [hn9] at h2 ⊢; have HO9 := hide (own_baseLe h2 hzw); have HB9 : Hid (Below w.heap.size w w9) := hide (HBz.out.trans (((hb7.trans ((Below.refl wz.heap.size w8).grown h3 hb7.size (fun k hk => own_low_block hown8 k hk))).mono hzw)))
            have HXs : Hid ((pxC (keyL U)).take (i * 2) ++ [.int .u32 (a : Int), .int .i64 (n0 : Int)] ++ (pxC (keyL U)).drop (i * 2) = pxC (keyL (putL a n0 () U))) := hide (by
              rw [← HPut.out]; exact pxC_insert U a n0 i)
            clear h2 h3 h4 hown8 hOd hox hb7 e65 e68 hA68 hg9; go_wp2
            go_roundw
            case rel => exact ⟨q + 1, n1 + 1, g9, c9, by omega, by rw [HTk.out, sorU_push, HU.out]; exact HLn1.out, by go_num, rfl, by rw [HTk.out, sorU_push, HU.out]; unfold insU; rw [← HXs.out]; exact HO9.out, HB9.out⟩
            case measure => simp [intOf]; omega
    · obtain rfl : q = n := (by omega)
      have e1 : decide ((q : Int) < (q : Int)) = false := (by simp)
      rw [List.take_of_length_le (by rw [HLn.out]; exact Nat.le_refl _)] at hown; have HO := hide (own_pxs hown); have HBe := hide hbel; clear hown hbel hlt; go_wp2; go_ret; exact ⟨_, n1, c1, rfl, HO.out, HBe.out⟩
end Go.Proofs.YtcinjckajnnhmaaGreat
namespace Go.Proofs.YtcinjckajnnhmaaGreat
open Go.RowKit Go.WideShapes Go.ChangeShapes
theorem nd_lean {α : Type} {sz : Nat} {T : TypeId} {F : Nat → Prop} {R : World → List Value → α → Prop} {w : World} {b p m : Nat} {v : Option α} {l r : Tr α} (hl : TrA sz T F R w l) (hr : TrA sz T F R w r)
    (hs : trLean (.nd b p m v l r) = .nd b p m v l r → TrA sz T F R w (.nd b p m v l r)) : TrA sz T F R w (trLean (.nd b p m v l r)) ∧ ∀ k ∈ trB (trLean (.nd b p m v l r)), k ∈ trB (.nd b p m v l r) := by
  cases v with
  | some x => exact ⟨hs rfl, fun k hk => hk⟩
  | none =>
    cases l with
    | nil => exact ⟨hr, fun k hk => by
        have h : k ∈ trB r := hk; simp [trB, h]⟩
    | nd b1 p1 m1 z1 l1 r1 =>
      cases r with
      | nil => exact ⟨hl, fun k hk => by
          have h : k ∈ trB (.nd b1 p1 m1 z1 l1 r1) := hk; simp only [trB, List.mem_cons, List.mem_append] at h ⊢; exact .inr (.inl h)⟩
      | nd b2 p2 m2 z2 l2 r2 => exact ⟨hs rfl, fun k hk => hk⟩
end Go.Proofs.YtcinjckajnnhmaaGreat
namespace Go.Proofs.YtcinjckajnnhmaaGreat
open Go.RowKit Go.WideShapes Go.ChangeShapes
attribute [local go_sem] Oper.semAt_some
set_option maxRecDepth 100000 in
set_option maxHeartbeats 4000000 in
theorem leanA_any {α : Type} {F : Nat → Prop} {R : World → List Value → α → Prop} (b a n : Nat) (vs : List Value) (hvs : VOk 9 vs) (v : Option α) (c0 : Nat) (l r : Tr α) (w : World) (hbl : ∀ t : Tr α, t = l ∨ t = r → b ∉ trB t) (hk : Blk w b 205 (ndC a n vs v.isSome c0 (trPtr l) (trPtr r)))
  (hl : TrW 9 205 F R w l) (hr : TrW 9 205 F R w r) (hc : trCnt l + trCnt r < 1000000000) :
  Calls Tryz.prog 189 #[.pointer (some ⟨b, 0, none⟩)] w fun e w' => e = .returned (trPtr (trLean (.nd b a n v l r))) ∧ ChgS (fun k => k = b) w w' ∧ (trLean (.nd b a n v l r) = .nd b a n v l r → Blk w' b 205 (ndC a n vs v.isSome (trCnt l + trCnt r + (if v.isSome then 1 else 0)) (trPtr l) (trPtr r))) := by
 obtain ⟨v0, v1, v2, v3, v4, v5, v6, v7, v8, rfl⟩ := lenA hvs
 cases v with
 | some x =>
  clear hbl; have yp : w.cell? ⟨b, 11, none⟩ = some (.bool true) := hk.cell 11; have yl : w.cell? ⟨b, 13, none⟩ = some (trPtr l) := hk.cell 13; have yr : w.cell? ⟨b, 14, none⟩ = some (trPtr r) := hk.cell 14; have HNt := hide (noteA_any (F := F) (R := R) b a n [v0, v1, v2, v3, v4, v5, v6, v7, v8] hvs true c0 l r w hk hl hr hc); clear hk hl hr hc hvs
  go_enter Tryz.func189, Tryz.ntmps189
  go_wp2_with fail
  refine HNt.out.mono ?_; rintro e w2 ⟨rfl, hk2, hc2⟩; have HK2 := hide hk2; have HC2 := hide hc2; clear hk2 hc2 yp yl yr; go_wp2; go_ret; exact ⟨rfl, HC2.out, fun _ => HK2.out⟩
 | none =>
  cases l with
  | nil =>
   have yp : w.cell? ⟨b, 11, none⟩ = some (.bool false) := hk.cell 11; have yl : w.cell? ⟨b, 13, none⟩ = some (.pointer none) := hk.cell 13; have yr : w.cell? ⟨b, 14, none⟩ = some (trPtr r) := hk.cell 14
   have hne : trLean (.nd b a n none .nil r) ≠ .nd b a n none .nil r := by
    intro h; have h1 : r = .nd b a n none .nil r := h; have h2 := hbl r (.inr rfl); rw [h1] at h2; exact h2 (by simp [trB])
   have HNe := hide hne; clear hbl hne hk hl hr hc hvs
   go_enter Tryz.func189, Tryz.ntmps189
   go_wp2; go_ret; exact ⟨rfl, chg_refl _ _, fun h => absurd h HNe.out⟩
  | nd b1 a1 n1 z1 l1 r1 =>
   cases r with
   | nil =>
    have yp : w.cell? ⟨b, 11, none⟩ = some (.bool false) := hk.cell 11; have yl : w.cell? ⟨b, 13, none⟩ = some (.pointer (some ⟨b1, 0, none⟩)) := hk.cell 13; have yr : w.cell? ⟨b, 14, none⟩ = some (.pointer none) := hk.cell 14
    have hne : trLean (.nd b a n none (.nd b1 a1 n1 z1 l1 r1) .nil) ≠ .nd b a n none (.nd b1 a1 n1 z1 l1 r1) .nil := by
     intro h; have h1 : (.nd b1 a1 n1 z1 l1 r1 : Tr α) = .nd b a n none (.nd b1 a1 n1 z1 l1 r1) .nil := h; injection h1 with e1
     exact hbl _ (.inl rfl) (by simp [trB, e1])
    have HNe := hide hne; clear hbl hne hk hl hr hc hvs
    go_enter Tryz.func189, Tryz.ntmps189
    go_wp2; go_ret; exact ⟨rfl, chg_refl _ _, fun h => absurd h HNe.out⟩
   | nd b2 a2 n2 z2 l2 r2 =>
    clear hbl; have yp : w.cell? ⟨b, 11, none⟩ = some (.bool false) := hk.cell 11; have yl : w.cell? ⟨b, 13, none⟩ = some (.pointer (some ⟨b1, 0, none⟩)) := hk.cell 13; have yr : w.cell? ⟨b, 14, none⟩ = some (.pointer (some ⟨b2, 0, none⟩)) := hk.cell 14; have HNt := hide (noteA_any (F := F) (R := R) b a n [v0, v1, v2, v3, v4, v5, v6, v7, v8] hvs false c0 (.nd b1 a1 n1 z1 l1 r1) (.nd b2 a2 n2 z2 l2 r2) w hk hl hr hc); clear hk hl hr hc hvs
    go_enter Tryz.func189, Tryz.ntmps189
    go_wp2_with fail
    refine HNt.out.mono ?_; rintro e w2 ⟨rfl, hk2, hc2⟩; have HK2 := hide hk2; have HC2 := hide hc2; clear hk2 hc2 yp yl yr; go_wp2; go_ret; exact ⟨rfl, HC2.out, fun _ => HK2.out⟩
set_option maxRecDepth 100000 in
set_option maxHeartbeats 32000000 in
theorem cutA_any {α : Type} {F : Nat → Prop} {R : World → List Value → α → Prop} (a n : Nat) : ∀ (t : Tr α) (w : World), PG a n → TrA 9 205 F R w t → (trGet a n t).isSome = true → trCnt t < 100000000 →
    Calls Tryz.prog 145 #[trPtr t, .agg #[.int .u32 (a : Int), .int .i64 (n : Int)]] w fun e w' => ∃ t2, e = .returned (trPtr t2) ∧ CutR a n t t2 ∧ TrA 9 205 F R w' t2 ∧ (∀ k ∈ trB t2, k ∈ trB t) ∧ ChgS (fun k => k ∈ trB t) w w'
  | .nil, w, _, _, h, _ => by simp [trGet] at h
  | .nd b p m v l r, w, hPa, h, hgs, hcn => by
      have IHl := cutA_any (F := F) (R := R) a n l; have IHr := cutA_any (F := F) (R := R) a n r; obtain ⟨vs, hd⟩ := h.node; obtain ⟨v0, v1, v2, v3, v4, v5, v6, v7, v8, rfl⟩ := lenA hd.len; have HD := hide hd; have hPn := hd.wf.1; obtain ⟨w0, hw0⟩ : ∃ w0, w.alloc (.cells #[.int .u32 (a : Int), .int .i64 (n : Int)] 24) = w0 := ⟨_, rfl⟩
      have hb0 : Below w.heap.size w w0 := hw0 ▸ blkBelow1 w _; have HX : Hid (Blk w0 w.heap.size 24 #[.int .u32 (a : Int), .int .i64 (n : Int)]) := hide (hw0 ▸ Blk.new w _ _); have HN := hide (hd.blk.below hb0 hd.blk.lt); have HB := hide hb0; have HW0 := hide hw0; have HPa := hide hPa; have HPn := hide hPn; have hcn2 : trCnt l + trCnt r < 100000000 := (by simp only [trCnt] at hcn; omega)
      have HCn := hide hcn2; have hPn32 := hPn.2.1; have HGs := hide hgs; obtain ⟨cn, hcn3⟩ : ∃ c, trCnt l + trCnt r + (if v.isSome then 1 else 0) = c := ⟨_, rfl⟩
      rw [hcn3] at HN; clear hw0 hb0 hd h hcn hcn2 hcn3 hgs; show Calls Tryz.prog 145 #[.pointer (some ⟨b, 0, none⟩), .agg #[.int .u32 (a : Int), .int .i64 (n : Int)]] w _
      go_enter Tryz.func145, Tryz.ntmps145
      go_upto_region 1 with fail
      rw [HW0.out]; by_cases he : p = a ∧ m = n
      · obtain rfl : a = p := he.1.symm; obtain rfl : n = m := he.2.symm; clear he; have Hmn := hide (show AllMono [(isV (ptv b 0)), (isV (ptv b 0)), (isV (ptv b 0)), (isV (.agg #[.int .u32 (a : Int), .int .i64 (n : Int)])), (isV (.agg #[.int .u32 (a : Int), .int .i64 (n : Int)])), (isV (.bool true))] from by repeat (first | exact trivial | refine ⟨fun _ _ _ _ h => h, ?_⟩)); refine wp_region_rel _ (by kernel_rfl) (by kernel_rfl) (relMono _ Hmn.out) ⟨?_, ?_, ?_, ?_, ?_, ?_, trivial⟩ ?_
        · exact relStep_plain rfl fun Ac w5 hp => pureM (ptv b 0) 0 (hp.out 0 (by rfl))
        · exact relStep_plain rfl fun Ac w5 hp => pureM (ptv b 0) 7 (hp.d 0)
        · exact relStep_plain rfl fun Ac w5 hp => pureM (ptv b 0) 8 (hp.d 1)
        · refine relStep_plain rfl ?_; intro Ac w5 hp; have hb := hp.bel; have hk5 := HN.out.below hb HN.out.lt; have y0 : w5.cell? ⟨b, 0, none⟩ = some (.int .u32 (a : Int)) := hk5.cell 0; have y1 : w5.cell? ⟨b, 1, none⟩ = some (.int .i64 (n : Int)) := hk5.cell 1; exact pure1 (.agg #[.int .u32 (a : Int), .int .i64 (n : Int)]) 9 (ptv b 0) (hp.d 2)
        · refine relStep_plain rfl ?_; intro Ac w5 hp; have hb := hp.bel; have hk5 := HN.out.below hb HN.out.lt; have hx5 := HX.out.below hb HX.out.lt; have x0 : w5.cell? ⟨w.heap.size, 0, none⟩ = some (.int .u32 (a : Int)) := hx5.cell 0; have x1 : w5.cell? ⟨w.heap.size, 1, none⟩ = some (.int .i64 (n : Int)) := hx5.cell 1; exact pure1 (.agg #[.int .u32 (a : Int), .int .i64 (n : Int)]) 3 (ptv w.heap.size 0) (hp.out 3 (by rfl))
        · exact relStep_plain rfl fun Ac w5 hp => pure2 (.bool true) 10 (.agg #[.int .u32 (a : Int), .int .i64 (n : Int)]) (hp.d 3) 11 (.agg #[.int .u32 (a : Int), .int .i64 (n : Int)]) (hp.d 4)
        intro u w4 hb7 hall; have e12 : u 5 = .bool true := relAll_at hall (i := 5) (by decide +kernel); clear hall; simp only [List.drop_succ_cons, List.drop_zero, List.take_succ_cons, List.take_zero, putAll, Act.put, List.setIfInBounds_toArray, List.set_cons_zero, List.set_cons_succ, Nat.zero_add, Nat.reduceAdd, e12]; have HB4 := hide (HB.out.trans (hb7.mono HB.out.size)); have HN4w := HN.out.below hb7 HN.out.lt; obtain ⟨w4a, hw4a⟩ : ∃ W, w4.alloc (.cells #[.int .i64 0, .int .i64 0, .slice none 0 0, .int .u32 0, .int .u32 0, .int .u32 0, .int .u32 0, .int .u32 0, .slice none 0 0] 28) = W := ⟨_, rfl⟩
        have HZa : Hid (Blk w4a w4.heap.size 28 #[.int .i64 0, .int .i64 0, .slice none 0 0, .int .u32 0, .int .u32 0, .int .u32 0, .int .u32 0, .int .u32 0, .slice none 0 0]) := hide (hw4a ▸ Blk.new w4 _ _); have HN4 : Hid (Blk w4a b 205 _) := hide (hw4a ▸ HN4w.alloc _); have HB4a : Hid (Below w.heap.size w w4a) := hide (hw4a ▸ HB4.out.alloc HB4.out.size _); have HW4a := hide hw4a; clear hw4a HN4w hb7 HB HN HX
        go_upto_region 3 with fail
        rw [HW4a.out]; have z0 : w4a.cell? ⟨w4.heap.size, 0, none⟩ = some (.int .i64 0) := HZa.out.cell 0; have z1 : w4a.cell? ⟨w4.heap.size, 1, none⟩ = some (.int .i64 0) := HZa.out.cell 1; have z2 : w4a.cell? ⟨w4.heap.size, 2, none⟩ = some (.slice none 0 0) := HZa.out.cell 2; have z3 : w4a.cell? ⟨w4.heap.size, 3, none⟩ = some (.int .u32 0) := HZa.out.cell 3; have z4 : w4a.cell? ⟨w4.heap.size, 4, none⟩ = some (.int .u32 0) := HZa.out.cell 4; have z5 : w4a.cell? ⟨w4.heap.size, 5, none⟩ = some (.int .u32 0) := HZa.out.cell 5; have z6 : w4a.cell? ⟨w4.heap.size, 6, none⟩ = some (.int .u32 0) := HZa.out.cell 6; have z7 : w4a.cell? ⟨w4.heap.size, 7, none⟩ = some (.int .u32 0) := HZa.out.cell 7; have z8 : w4a.cell? ⟨w4.heap.size, 8, none⟩ = some (.slice none 0 0) := HZa.out.cell 8; have q0 : w4a.cell? ⟨b, 2, none⟩ = some v0 := HN4.out.cell 2; have q1 : w4a.cell? ⟨b, 3, none⟩ = some v1 := HN4.out.cell 3; have q2 : w4a.cell? ⟨b, 4, none⟩ = some v2 := HN4.out.cell 4; have q3 : w4a.cell? ⟨b, 5, none⟩ = some v3 := HN4.out.cell 5; have q4 : w4a.cell? ⟨b, 6, none⟩ = some v4 := HN4.out.cell 6; have q5 : w4a.cell? ⟨b, 7, none⟩ = some v5 := HN4.out.cell 7; have q6 : w4a.cell? ⟨b, 8, none⟩ = some v6 := HN4.out.cell 8; have q7 : w4a.cell? ⟨b, 9, none⟩ = some v7 := HN4.out.cell 9; have q8 : w4a.cell? ⟨b, 10, none⟩ = some v8 := HN4.out.cell 10; have yp : w4a.cell? ⟨b, 11, none⟩ = some (.bool v.isSome) := HN4.out.cell 11; have zf := fun i => HN4.out.frozen i
        go_upto_region 6 with fail
        change Code.wp _ _ _ _ ((w4a.setCells b 2 [.int .i64 0, .int .i64 0, .slice none 0 0, .int .u32 0, .int .u32 0, .int .u32 0, .int .u32 0, .int .u32 0, .slice none 0 0]).setCell ⟨b, 11, none⟩ (.bool false)); obtain ⟨w5, hw5⟩ : ∃ W, (w4a.setCells b 2 [.int .i64 0, .int .i64 0, .slice none 0 0, .int .u32 0, .int .u32 0, .int .u32 0, .int .u32 0, .int .u32 0, .slice none 0 0]).setCell ⟨b, 11, none⟩ (.bool false) = W := ⟨_, rfl⟩
        have hN4a : Blk (w4a.setCells b 2 [.int .i64 0, .int .i64 0, .slice none 0 0, .int .u32 0, .int .u32 0, .int .u32 0, .int .u32 0, .int .u32 0, .slice none 0 0]) b 205 (ndC a n [.int .i64 0, .int .i64 0, .slice none 0 0, .int .u32 0, .int .u32 0, .int .u32 0, .int .u32 0, .int .u32 0, .slice none 0 0] v.isSome cn (trPtr l) (trPtr r)) := blk_setsM [.bool v.isSome, .int .i64 (cn : Int), trPtr l, trPtr r] [.int .i64 0, .int .i64 0, .slice none 0 0, .int .u32 0, .int .u32 0, .int .u32 0, .int .u32 0, .int .u32 0, .slice none 0 0] [.int .u32 (a : Int), .int .i64 (n : Int)] [v0, v1, v2, v3, v4, v5, v6, v7, v8] HN4.out rfl; have HN5 : Hid (Blk w5 b 205 (ndC a n [.int .i64 0, .int .i64 0, .slice none 0 0, .int .u32 0, .int .u32 0, .int .u32 0, .int .u32 0, .int .u32 0, .slice none 0 0] false cn (trPtr l) (trPtr r))) := hide (hw5 ▸ hN4a.set_ 11 _); have HC5 : Hid (ChgS (fun k => k = b) w w5) := hide (hw5 ▸ chg_trans (chg_trans (chg_below HB4a.out) (chg_sets (S := fun k => k = b) rfl [.int .i64 0, .int .i64 0, .slice none 0 0, .int .u32 0, .int .u32 0, .int .u32 0, .int .u32 0, .int .u32 0, .slice none 0 0] 2) (fun k h => .inl h)) (chg_set (S := fun k => k = b) (p := ⟨b, 11, none⟩) rfl _) (fun k h => .inl h)); have hFb : ∀ k, F k → ¬ (k = b) := fun k h e => HD.out.bf (e ▸ h); have HNt := hide (leanA_any (F := F) (R := R) b a n [.int .i64 0, .int .i64 0, .slice none 0 0, .int .u32 0, .int .u32 0, .int .u32 0, .int .u32 0, .int .u32 0, .slice none 0 0] ⟨rfl, by simp [Value.oneCell']⟩ none cn l r w5 (fun t ht => by rcases ht with rfl | rfl; exact HD.out.bl; exact HD.out.br) HN5.out (HD.out.left.chg HC5.out (fun k hk e => HD.out.bl (e ▸ hk)) hFb).mem (HD.out.right.chg HC5.out (fun k hk e => HD.out.br (e ▸ hk)) hFb).mem (by have := HCn.out; omega)); have HFb := hide hFb; rw [hw5]; clear hw5 hN4a hFb yp zf q0 q1 q2 q3 q4 q5 q6 q7 q8 z0 z1 z2 z3 z4 z5 z6 z7 z8
        go_wp2_with fail
        refine HNt.out.mono ?_; rintro e w6 ⟨rfl, hc6, hk6⟩; have HK6 := hide hk6; have HC6 : Hid (ChgS (fun k => k = b) w w6) := hide (chg_trans HC5.out hc6 (fun k h => .inl h)); clear hk6 hc6; go_wp2; go_ret; have hl6 := HD.out.left.chg HC6.out (fun k hk e => HD.out.bl (e ▸ hk)) HFb.out; have hr6 := HD.out.right.chg HC6.out (fun k hk e => HD.out.br (e ▸ hk)) HFb.out; obtain ⟨hT, hS⟩ := nd_lean (v := none) (b := b) (p := a) (m := n) hl6 hr6 (fun e => NdA.tree (vs := [.int .i64 0, .int .i64 0, .slice none 0 0, .int .u32 0, .int .u32 0, .int .u32 0, .int .u32 0, .int .u32 0, .slice none 0 0]) ⟨⟨rfl, by simp [Value.oneCell']⟩, HK6.out e, fun y hy => (by cases hy), hl6, hr6, HD.out.wf, HD.out.bl, HD.out.br, HD.out.bf, HD.out.lr⟩); exact ⟨_, rfl, cut_lean (cut_here HD.out.wf), hT, hS, chg_mono HC6.out (fun k h => .inl (by simp [trB, h]))⟩
      have HNe := hide (show (p : Int) = (a : Int) → ¬ (m : Int) = (n : Int) from fun h1 h2 => he ⟨by omega, by omega⟩); have HE := hide he
      have hcv : CvN p m a n := by
        have h := HGs.out; unfold trGet at h; split at h
        · assumption
        · simp at h
      have hlt : m < n := Nat.lt_of_le_of_ne hcv.1 fun e => he ⟨cvN_same hcv HPa.out e, e⟩; have hPa32 := HPa.out.2.1; have HCvP := hide hcv; have HSd := hide (fun W => side_any p m a n HPa.out.1 (by omega) W); clear he hcv; have Hmn := hide (show AllMono [(isV (ptv b 0)), (isV (ptv b 0)), (isV (ptv b 0)), (isV (.agg #[.int .u32 (p : Int), .int .i64 (m : Int)])), (isV (.agg #[.int .u32 (a : Int), .int .i64 (n : Int)])), (isV (.bool false))] from by repeat (first | exact trivial | refine ⟨fun _ _ _ _ h => h, ?_⟩)); refine wp_region_rel _ (by kernel_rfl) (by kernel_rfl) (relMono _ Hmn.out) ⟨?_, ?_, ?_, ?_, ?_, ?_, trivial⟩ ?_
      · exact relStep_plain rfl fun Ac w5 hp => pureM (ptv b 0) 0 (hp.out 0 (by rfl))
      · exact relStep_plain rfl fun Ac w5 hp => pureM (ptv b 0) 7 (hp.d 0)
      · exact relStep_plain rfl fun Ac w5 hp => pureM (ptv b 0) 8 (hp.d 1)
      · refine relStep_plain rfl ?_; intro Ac w5 hp; have hb := hp.bel; have hk5 := HN.out.below hb HN.out.lt; have y0 : w5.cell? ⟨b, 0, none⟩ = some (.int .u32 (p : Int)) := hk5.cell 0; have y1 : w5.cell? ⟨b, 1, none⟩ = some (.int .i64 (m : Int)) := hk5.cell 1; exact pure1 (.agg #[.int .u32 (p : Int), .int .i64 (m : Int)]) 9 (ptv b 0) (hp.d 2)
      · refine relStep_plain rfl ?_; intro Ac w5 hp; have hb := hp.bel; have hk5 := HN.out.below hb HN.out.lt; have hx5 := HX.out.below hb HX.out.lt; have x0 : w5.cell? ⟨w.heap.size, 0, none⟩ = some (.int .u32 (a : Int)) := hx5.cell 0; have x1 : w5.cell? ⟨w.heap.size, 1, none⟩ = some (.int .i64 (n : Int)) := hx5.cell 1; exact pure1 (.agg #[.int .u32 (a : Int), .int .i64 (n : Int)]) 3 (ptv w.heap.size 0) (hp.out 3 (by rfl))
      · refine relStep_plain rfl ?_; intro Ac w5 hp; have a10 : Ac.eval (.tmp 10) = .agg #[.int .u32 (p : Int), .int .i64 (m : Int)] := hp.d 3; have a11 : Ac.eval (.tmp 11) = .agg #[.int .u32 (a : Int), .int .i64 (n : Int)] := hp.d 4; exact relPureX (.bool false) (fun ρ hρ h1 h2 h3 => by rw [hρ] at a10 a11; simp [go_sem, ↓IntWalk.iteOmega, *] <;> exact HNe.out) rfl
      intro u w4 hb7 hall; have e12 : u 5 = .bool false := relAll_at hall (i := 5) (by decide +kernel); clear hall; simp only [List.drop_succ_cons, List.drop_zero, List.take_succ_cons, List.take_zero, putAll, Act.put, List.setIfInBounds_toArray, List.set_cons_zero, List.set_cons_succ, Nat.zero_add, Nat.reduceAdd, e12]; have HB4 := hide (HB.out.trans (hb7.mono HB.out.size)); have HN4 := hide (HN.out.below hb7 HN.out.lt); have HX4 := hide (HX.out.below hb7 HX.out.lt); clear hb7 HB HN HX; have HB := hide HB4.out; have HN := hide HN4.out; have HX := hide HX4.out; clear HB4 HN4 HX4; rcases bitN_01 a m with hbit | hbit
      all_goals
        have HBit := hide hbit
        have HGk : Hid ((if bitN a m = 0 then trGet a n l else trGet a n r).isSome = true) := hide (by
          have h := HGs.out; rw [trGet, if_pos HCvP.out, if_neg HE.out] at h; exact h)
        rw [hbit] at HGk; clear hbit
        first | (rw [if_pos rfl] at HGk) | (rw [if_neg (by decide)] at HGk)
      · go_upto_region 4 with fail
        have Hmn := hide (show AllMono [(isV (ptv b 0)), (isV (ptv b 0)), (isV (ptv b 0)), (isV (ptv b 0)), (isV (.agg #[.int .u32 (p : Int), .int .i64 (m : Int)])), (isV (.agg #[.int .u32 (a : Int), .int .i64 (n : Int)])), (isV (.int .i64 0)), (isV (ptv b 0)), (isV (ptv b 13)), (isV (ptv b 13))] from by repeat (first | exact trivial | refine ⟨fun _ _ _ _ h => h, ?_⟩)); refine wp_region_relT 10 _ (by kernel_rfl) (by kernel_rfl) (by kernel_rfl) (by kernel_rfl) (by kernel_rfl) (relMono _ Hmn.out) ⟨?_, ?_, ?_, ?_, ?_, ?_, ?_, ?_, ?_, ?_, trivial⟩ ?_
        · exact relStep_plain rfl fun Ac w5 hp => pureM (ptv b 0) 0 (hp.out 0 (by rfl))
        · exact relStep_plain rfl fun Ac w5 hp => pureM (ptv b 0) 0 (hp.out 0 (by rfl))
        · exact relStep_plain rfl fun Ac w5 hp => pureM (ptv b 0) 21 (hp.d 1)
        · exact relStep_plain rfl fun Ac w5 hp => pureM (ptv b 0) 22 (hp.d 2)
        · refine relStep_plain rfl ?_; intro Ac w5 hp; have hb := hp.bel; have hk5 := HN.out.below hb HN.out.lt; have y0 : w5.cell? ⟨b, 0, none⟩ = some (.int .u32 (p : Int)) := hk5.cell 0; have y1 : w5.cell? ⟨b, 1, none⟩ = some (.int .i64 (m : Int)) := hk5.cell 1; exact pure1 (.agg #[.int .u32 (p : Int), .int .i64 (m : Int)]) 23 (ptv b 0) (hp.d 3)
        · refine relStep_plain rfl ?_; intro Ac w5 hp; have hb := hp.bel; have hk5 := HN.out.below hb HN.out.lt; have hx5 := HX.out.below hb HX.out.lt; have x0 : w5.cell? ⟨w.heap.size, 0, none⟩ = some (.int .u32 (a : Int)) := hx5.cell 0; have x1 : w5.cell? ⟨w.heap.size, 1, none⟩ = some (.int .i64 (n : Int)) := hx5.cell 1; exact pure1 (.agg #[.int .u32 (a : Int), .int .i64 (n : Int)]) 3 (ptv w.heap.size 0) (hp.out 3 (by rfl))
        · refine relStep_plain rfl ?_; intro Ac w5 hp; have a24 : Ac.eval (.tmp 24) = .agg #[.int .u32 (p : Int), .int .i64 (m : Int)] := hp.d 4; have a25 : Ac.eval (.tmp 25) = .agg #[.int .u32 (a : Int), .int .i64 (n : Int)] := hp.d 5; obtain ⟨ρ, hρ, hc, hf, hgl⟩ := evalX Ac; rw [hρ] at a24 a25; refine relCall hρ 186 #[.agg #[.int .u32 (p : Int), .int .i64 (m : Int)], .agg #[.int .u32 (a : Int), .int .i64 (n : Int)]] (by simp [go_sem, ↓IntWalk.iteOmega, *]) ?_; refine (HSd.out w5).mono ?_; rintro e w6 ⟨rfl, hb6⟩; exact ⟨_, rfl, by rw [HBit.out]; rfl, hb6⟩
        · exact relStep_plain rfl fun Ac w5 hp => pureM (ptv b 0) 20 (hp.d 0)
        · exact relStep_plain rfl fun Ac w5 hp => pure1 (ptv b 13) 27 (ptv b 0) (hp.d 7)
        · exact relStep_plain rfl fun Ac w5 hp => pure2 (ptv b 13) 28 (ptv b 13) (hp.d 8) 26 (.int .i64 0) (hp.d 6)
        intro u w8 hb7 hall; have e29 : u 9 = .pointer (some ⟨b, 13, none⟩) := relAll_at hall (i := 9) (by decide +kernel); clear hall; simp only [List.drop_succ_cons, List.drop_zero, List.take_succ_cons, List.take_zero, putAll, Act.put, List.setIfInBounds_toArray, List.set_cons_zero, List.set_cons_succ, Nat.zero_add, Nat.reduceAdd, e29]; have HB8 := hide (HB.out.trans (hb7.mono HB.out.size)); have HN8 := hide (HN.out.below hb7 HN.out.lt); have HN8k := hide (HN.out.below hb7 HN.out.lt); have HX8 := hide (HX.out.below hb7 HX.out.lt); clear hb7 HB HN HX; have HB := hide HB8.out; have HN := hide HN8.out; have HX := hide HX8.out; clear HB8 HN8 HX8; have HCk : Hid (trCnt l < 100000000) := hide (by have := HCn.out; omega); have HRec := hide (fun W (hb : Below w8.heap.size w8 W) => IHl W HPa.out (HD.out.left.chg (S := fun _ => False) (chg_below (HB.out.trans (hb.mono HB.out.size))) (by simp) (by simp)) HGk.out HCk.out)
        go_upto_region 5 with fail
        refine wp_region_relH 7 0 (Nat.zero_le _) [(fun v _ => v = .pointer (some ⟨b, 13, none⟩)), (fun v _ => v = .pointer (some ⟨b, 13, none⟩)), (fun v _ => v = .pointer (some ⟨b, 13, none⟩)), (fun v _ => v = trPtr l), (fun v _ => v = .agg #[.int .u32 (a : Int), .int .i64 (n : Int)]), (fun v W => ∃ t2, v = trPtr t2 ∧ CutR a n l t2 ∧ TrA 9 205 F R W t2 ∧ (∀ k ∈ trB t2, k ∈ trB l) ∧ ChgS (fun k => k ∈ trB l) w8 W), (fun v _ => v = .pointer (some ⟨b, 13, none⟩))] (fun i W => (1 ≤ i ∧ i ≤ 5) → Below w8.heap.size w8 W) (fun i Wa Wb => if i = 5 then Below 0 Wa Wb else Below Wa.heap.size Wa Wb) (by kernel_rfl) (by kernel_rfl) (by kernel_rfl) (by kernel_rfl) (by kernel_rfl) ?hE ?hR ?hP ?h0 ⟨?_, ?_, ?_, ?_, ?_, ?_, ?_, trivial⟩ ?_
        case hE =>
          intro i2 wa wb hB he; split at he
          · exact he
          · exact he.mono (Nat.zero_le _)
        case hR =>
          intro i2 j2 vz wa wb hij hB he h; split at he
          · rename_i hj2; subst hj2; refine keepAll_at (E := fun wa wb => Below 0 wa wb) (x := 5) (k := 0) ?_ (by omega) he h; exact ⟨fun _ v wa wb he h => h, fun _ v wa wb he h => h, fun _ v wa wb he h => h, fun _ v wa wb he h => h, fun _ v wa wb he h => h, fun hn => absurd rfl hn, fun _ v wa wb he h => h, trivial⟩
          · refine relMono _ ?_ i2 vz wa wb he h; exact ⟨fun _ _ _ _ h => h, fun _ _ _ _ h => h, fun _ _ _ _ h => h, fun _ _ _ _ h => h, fun _ _ _ _ h => h, fun v wa wb hb ⟨t2, e, h1, h2, h3, h4⟩ => ⟨t2, e, h1, h2.chg (S := fun _ => False) (chg_below hb) (by simp) (by simp), h3, chg_trans h4 (chg_below (S := fun _ => False) hb) (fun k h => h.elim)⟩, fun _ _ _ _ h => h, trivial⟩
        case hP =>
          intro i2 j2 wa wb hij hnb hB he h hi; split at he
          · rename_i hj2; subst hj2; have hi3 : i2 = 1 ∨ i2 = 2 ∨ i2 = 3 ∨ i2 = 4 ∨ i2 = 5 := (by omega)
            rcases hi3 with rfl | rfl | rfl | rfl | rfl
            all_goals first | exact absurd rfl hij | exact absurd hnb (by decide +kernel)
          · exact (h hi).trans (he.mono (h hi).size)
        case h0 =>
          intro j2 hj2 _; exact (Below.refl _ _).drew
        · exact relG_plain rfl rfl (fun _ _ h => h) fun Ac w5 hp => pureM (ptv b 13) 6 (hp.out 6 (by rfl))
        · exact relG_plain rfl rfl (fun _ _ h => h) fun Ac w5 hp => pureM (ptv b 13) 6 (hp.out 6 (by rfl))
        · exact relG_plain rfl rfl (fun _ _ h => h) fun Ac w5 hp => pureM (ptv b 13) 31 (hp.d 1)
        · refine relG_plain rfl rfl (fun _ _ h => h) ?_; intro Ac w5 hp; have hb := hp.bel; have hb := hp.pre ⟨by decide, by decide⟩; have hk5 := HN.out.below hb HN.out.lt; have y5 : w5.cell? ⟨b, 13, none⟩ = some (trPtr l) := hk5.cell 13; exact pure1 (trPtr l) 32 (ptv b 13) (hp.d 2)
        · refine relG_plain rfl rfl (fun _ _ h => h) ?_; intro Ac w5 hp; have hb := hp.bel; have hb := hp.pre ⟨by decide, by decide⟩; have hx5 := HX.out.below hb HX.out.lt; have x0 : w5.cell? ⟨w.heap.size, 0, none⟩ = some (.int .u32 (a : Int)) := hx5.cell 0; have x1 : w5.cell? ⟨w.heap.size, 1, none⟩ = some (.int .i64 (n : Int)) := hx5.cell 1; exact pure1 (.agg #[.int .u32 (a : Int), .int .i64 (n : Int)]) 3 (ptv w.heap.size 0) (hp.out 3 (by rfl))
        · refine relG_enter rfl rfl ?_; intro Ac w5 hp; have hb := hp.bel; have a33 : Ac.eval (.tmp 33) = trPtr l := hp.d 3; have a34 : Ac.eval (.tmp 34) = .agg #[.int .u32 (a : Int), .int .i64 (n : Int)] := hp.d 4; obtain ⟨ρ, hρ, hc, hf, hgl⟩ := evalX Ac; rw [hρ] at a33 a34; refine ⟨145, #[trPtr l, .agg #[.int .u32 (a : Int), .int .i64 (n : Int)]], by rw [hρ]; simp [go_sem, hc, hf, hgl, ↓IntWalk.iteOmega, a33, a34, *], ?_⟩; have hb := hp.pre ⟨by decide, by decide⟩; refine (HRec.out w5 hb).mono ?_; rintro e w6 ⟨t2, rfl, h1, h2, h3, h4⟩; refine ⟨_, rfl, ⟨t2, rfl, h1, h2, h3, chg_trans (chg_below hb) h4 (fun k h => .inl h)⟩, by show Below 0 w5 w6; exact ⟨h4.os, h4.tape, h4.output, h4.size, fun k hk => absurd hk (Nat.not_lt_zero k)⟩⟩
        · exact relG_plain rfl rfl (fun _ _ h => h) fun Ac w5 hp => pureM (ptv b 13) 30 (hp.d 0)
        intro u w9 hb7 hall; obtain ⟨t57, e35, h57a, h57b, h57c, h57d⟩ := relAll_at hall (i := 5) (by decide +kernel); change u 5 = _ at e35; have e36 : u 6 = .pointer (some ⟨b, 13, none⟩) := relAll_at hall (i := 6) (by decide +kernel); clear hall; simp only [List.drop_succ_cons, List.drop_zero, List.take_succ_cons, List.take_zero, putAll, Act.put, List.setIfInBounds_toArray, List.set_cons_zero, List.set_cons_succ, Nat.zero_add, Nat.reduceAdd, e35, e36]; have HN9 : Hid (Blk w9 b 205 (ndC p m [v0, v1, v2, v3, v4, v5, v6, v7, v8] v.isSome cn (trPtr l) (trPtr r))) := hide (chg_blk h57d HN8k.out HD.out.bl); have z9 : w9.cell? ⟨b, 13, none⟩ = some (trPtr l) := HN9.out.cell 13; have zf9 := HN9.out.frozen 13; obtain ⟨q57, hq57⟩ := trPtr_ptr t57; rw [hq57]; obtain ⟨w10, hw10p⟩ : ∃ W, w9.setCell ⟨b, 13, none⟩ (.pointer q57) = W := ⟨_, rfl⟩
        have hw10 : w9.setCell ⟨b, 13, none⟩ (trPtr t57) = w10 := (by rw [hq57]; exact hw10p)
        have HN10 : Hid (Blk w10 b 205 (ndC p m [v0, v1, v2, v3, v4, v5, v6, v7, v8] v.isSome cn (trPtr t57) (trPtr r))) := hide (hw10 ▸ HN9.out.set_ 13 _); have HC10 : Hid (ChgS (fun k => k = b) w9 w10) := hide (hw10 ▸ chg_set (S := fun k => k = b) (p := ⟨b, 13, none⟩) rfl _); have hbt : b ∉ trB t57 := fun h => HD.out.bl (h57c b h); have HbT := hide hbt; have hFb : ∀ k, F k → ¬ (k = b) := fun k h e => HD.out.bf (e ▸ h); have HT10 := hide (h57b.chg HC10.out (fun k hk e => hbt (e ▸ hk)) hFb); have HcA : Hid (ChgS (fun k => k ∈ trB l) w w9) := hide (chg_trans (chg_below HB.out) h57d (fun k h => .inl h)); have HO10 := hide (HD.out.right.chg (S := fun k => k ∈ trB l ∨ k = b) (chg_trans (chg_mono HcA.out (fun k h => .inl (.inl h))) HC10.out (fun k h => .inl (.inr h))) (fun k hk h => h.elim (fun h => HD.out.lr k h hk) (fun e => HD.out.br (e ▸ hk))) (fun k hF h => h.elim (fun h => HD.out.left.far k h hF) (fun e => HD.out.bf (e ▸ hF)))); have hcB : trCnt t57 + 1 = trCnt l := h57a.cnt HGk.out; have HNt := hide (leanA_any (F := F) (R := R) b p m [v0, v1, v2, v3, v4, v5, v6, v7, v8] HD.out.len v cn t57 r w10 (fun t ht => by rcases ht with rfl | rfl; exact HbT.out; exact HD.out.br) HN10.out HT10.out.mem HO10.out.mem (by have := HCn.out; omega)); have HWd := hide hw10p; have HCu := hide h57a; have HSub := hide h57c; have HFb := hide hFb; clear hw10 hw10p hq57 h57a h57b h57c h57d hb7 hbt hFb hcB
        go_upto_region 6 with fail
        rw [HWd.out]; clear z9 zf9
        go_wp2_with fail
        refine HNt.out.mono ?_; rintro e w11 ⟨rfl, hc11, hk11⟩; have HK11 := hide hk11; have HC11 := hide hc11; clear hk11 hc11; go_wp2; go_ret; have hCR := cut_left HD.out.wf HCvP.out HE.out HBit.out HCu.out; have hcW : ChgS (fun k => k ∈ trB l ∨ k = b) w w11 := chg_trans (chg_trans (chg_mono HcA.out (fun k h => .inl (.inl h))) HC10.out (fun k h => .inl (.inr h))) HC11.out (fun k h => .inl (.inr h)); have hT11 := HT10.out.chg HC11.out (fun k hk e => HbT.out (e ▸ hk)) HFb.out; have hO11 := HO10.out.chg HC11.out (fun k hk e => HD.out.br (e ▸ hk)) HFb.out; obtain ⟨hT, hS⟩ := nd_lean (v := v) (b := b) (p := p) (m := m) hT11 hO11 (fun e => (nd_left HD.out hCR.wf HT10.out (fun k hk => .inl (HSub.out k hk)) hcW HC11.out (HK11.out e)).1)
        exact ⟨_, rfl, cut_lean hCR, hT, fun k hk => by
          have h := hS k hk; simp only [trB, List.mem_cons, List.mem_append] at h ⊢; rcases h with h | h | h
          · exact .inl h
          · exact .inr (.inl (HSub.out k h))
          · exact .inr (.inr (h)), ndWhole hcW⟩
      · go_upto_region 4 with fail
        have Hmn := hide (show AllMono [(isV (ptv b 0)), (isV (ptv b 0)), (isV (ptv b 0)), (isV (ptv b 0)), (isV (.agg #[.int .u32 (p : Int), .int .i64 (m : Int)])), (isV (.agg #[.int .u32 (a : Int), .int .i64 (n : Int)])), (isV (.int .i64 1)), (isV (ptv b 0)), (isV (ptv b 13)), (isV (ptv b 14))] from by repeat (first | exact trivial | refine ⟨fun _ _ _ _ h => h, ?_⟩)); refine wp_region_relT 10 _ (by kernel_rfl) (by kernel_rfl) (by kernel_rfl) (by kernel_rfl) (by kernel_rfl) (relMono _ Hmn.out) ⟨?_, ?_, ?_, ?_, ?_, ?_, ?_, ?_, ?_, ?_, trivial⟩ ?_
        · exact relStep_plain rfl fun Ac w5 hp => pureM (ptv b 0) 0 (hp.out 0 (by rfl))
        · exact relStep_plain rfl fun Ac w5 hp => pureM (ptv b 0) 0 (hp.out 0 (by rfl))
        · exact relStep_plain rfl fun Ac w5 hp => pureM (ptv b 0) 21 (hp.d 1)
        · exact relStep_plain rfl fun Ac w5 hp => pureM (ptv b 0) 22 (hp.d 2)
        · refine relStep_plain rfl ?_; intro Ac w5 hp; have hb := hp.bel; have hk5 := HN.out.below hb HN.out.lt; have y0 : w5.cell? ⟨b, 0, none⟩ = some (.int .u32 (p : Int)) := hk5.cell 0; have y1 : w5.cell? ⟨b, 1, none⟩ = some (.int .i64 (m : Int)) := hk5.cell 1; exact pure1 (.agg #[.int .u32 (p : Int), .int .i64 (m : Int)]) 23 (ptv b 0) (hp.d 3)
        · refine relStep_plain rfl ?_; intro Ac w5 hp; have hb := hp.bel; have hk5 := HN.out.below hb HN.out.lt; have hx5 := HX.out.below hb HX.out.lt; have x0 : w5.cell? ⟨w.heap.size, 0, none⟩ = some (.int .u32 (a : Int)) := hx5.cell 0; have x1 : w5.cell? ⟨w.heap.size, 1, none⟩ = some (.int .i64 (n : Int)) := hx5.cell 1; exact pure1 (.agg #[.int .u32 (a : Int), .int .i64 (n : Int)]) 3 (ptv w.heap.size 0) (hp.out 3 (by rfl))
        · refine relStep_plain rfl ?_; intro Ac w5 hp; have a24 : Ac.eval (.tmp 24) = .agg #[.int .u32 (p : Int), .int .i64 (m : Int)] := hp.d 4; have a25 : Ac.eval (.tmp 25) = .agg #[.int .u32 (a : Int), .int .i64 (n : Int)] := hp.d 5; obtain ⟨ρ, hρ, hc, hf, hgl⟩ := evalX Ac; rw [hρ] at a24 a25; refine relCall hρ 186 #[.agg #[.int .u32 (p : Int), .int .i64 (m : Int)], .agg #[.int .u32 (a : Int), .int .i64 (n : Int)]] (by simp [go_sem, ↓IntWalk.iteOmega, *]) ?_; refine (HSd.out w5).mono ?_; rintro e w6 ⟨rfl, hb6⟩; exact ⟨_, rfl, by rw [HBit.out]; rfl, hb6⟩
        · exact relStep_plain rfl fun Ac w5 hp => pureM (ptv b 0) 20 (hp.d 0)
        · exact relStep_plain rfl fun Ac w5 hp => pure1 (ptv b 13) 27 (ptv b 0) (hp.d 7)
        · exact relStep_plain rfl fun Ac w5 hp => pure2 (ptv b 14) 28 (ptv b 13) (hp.d 8) 26 (.int .i64 1) (hp.d 6)
        intro u w8 hb7 hall; have e29 : u 9 = .pointer (some ⟨b, 14, none⟩) := relAll_at hall (i := 9) (by decide +kernel); clear hall; simp only [List.drop_succ_cons, List.drop_zero, List.take_succ_cons, List.take_zero, putAll, Act.put, List.setIfInBounds_toArray, List.set_cons_zero, List.set_cons_succ, Nat.zero_add, Nat.reduceAdd, e29]; have HB8 := hide (HB.out.trans (hb7.mono HB.out.size)); have HN8 := hide (HN.out.below hb7 HN.out.lt); have HN8k := hide (HN.out.below hb7 HN.out.lt); have HX8 := hide (HX.out.below hb7 HX.out.lt); clear hb7 HB HN HX; have HB := hide HB8.out; have HN := hide HN8.out; have HX := hide HX8.out; clear HB8 HN8 HX8; have HCk : Hid (trCnt r < 100000000) := hide (by have := HCn.out; omega); have HRec := hide (fun W (hb : Below w8.heap.size w8 W) => IHr W HPa.out (HD.out.right.chg (S := fun _ => False) (chg_below (HB.out.trans (hb.mono HB.out.size))) (by simp) (by simp)) HGk.out HCk.out)
        go_upto_region 5 with fail
        refine wp_region_relH 7 0 (Nat.zero_le _) [(fun v _ => v = .pointer (some ⟨b, 14, none⟩)), (fun v _ => v = .pointer (some ⟨b, 14, none⟩)), (fun v _ => v = .pointer (some ⟨b, 14, none⟩)), (fun v _ => v = trPtr r), (fun v _ => v = .agg #[.int .u32 (a : Int), .int .i64 (n : Int)]), (fun v W => ∃ t2, v = trPtr t2 ∧ CutR a n r t2 ∧ TrA 9 205 F R W t2 ∧ (∀ k ∈ trB t2, k ∈ trB r) ∧ ChgS (fun k => k ∈ trB r) w8 W), (fun v _ => v = .pointer (some ⟨b, 14, none⟩))] (fun i W => (1 ≤ i ∧ i ≤ 5) → Below w8.heap.size w8 W) (fun i Wa Wb => if i = 5 then Below 0 Wa Wb else Below Wa.heap.size Wa Wb) (by kernel_rfl) (by kernel_rfl) (by kernel_rfl) (by kernel_rfl) (by kernel_rfl) ?hE ?hR ?hP ?h0 ⟨?_, ?_, ?_, ?_, ?_, ?_, ?_, trivial⟩ ?_
        case hE =>
          intro i2 wa wb hB he; split at he
          · exact he
          · exact he.mono (Nat.zero_le _)
        case hR =>
          intro i2 j2 vz wa wb hij hB he h; split at he
          · rename_i hj2; subst hj2; refine keepAll_at (E := fun wa wb => Below 0 wa wb) (x := 5) (k := 0) ?_ (by omega) he h; exact ⟨fun _ v wa wb he h => h, fun _ v wa wb he h => h, fun _ v wa wb he h => h, fun _ v wa wb he h => h, fun _ v wa wb he h => h, fun hn => absurd rfl hn, fun _ v wa wb he h => h, trivial⟩
          · refine relMono _ ?_ i2 vz wa wb he h; exact ⟨fun _ _ _ _ h => h, fun _ _ _ _ h => h, fun _ _ _ _ h => h, fun _ _ _ _ h => h, fun _ _ _ _ h => h, fun v wa wb hb ⟨t2, e, h1, h2, h3, h4⟩ => ⟨t2, e, h1, h2.chg (S := fun _ => False) (chg_below hb) (by simp) (by simp), h3, chg_trans h4 (chg_below (S := fun _ => False) hb) (fun k h => h.elim)⟩, fun _ _ _ _ h => h, trivial⟩
        case hP =>
          intro i2 j2 wa wb hij hnb hB he h hi; split at he
          · rename_i hj2; subst hj2; have hi3 : i2 = 1 ∨ i2 = 2 ∨ i2 = 3 ∨ i2 = 4 ∨ i2 = 5 := (by omega)
            rcases hi3 with rfl | rfl | rfl | rfl | rfl
            all_goals first | exact absurd rfl hij | exact absurd hnb (by decide +kernel)
          · exact (h hi).trans (he.mono (h hi).size)
        case h0 =>
          intro j2 hj2 _; exact (Below.refl _ _).drew
        · exact relG_plain rfl rfl (fun _ _ h => h) fun Ac w5 hp => pureM (ptv b 14) 6 (hp.out 6 (by rfl))
        · exact relG_plain rfl rfl (fun _ _ h => h) fun Ac w5 hp => pureM (ptv b 14) 6 (hp.out 6 (by rfl))
        · exact relG_plain rfl rfl (fun _ _ h => h) fun Ac w5 hp => pureM (ptv b 14) 31 (hp.d 1)
        · refine relG_plain rfl rfl (fun _ _ h => h) ?_; intro Ac w5 hp; have hb := hp.bel; have hb := hp.pre ⟨by decide, by decide⟩; have hk5 := HN.out.below hb HN.out.lt; have y5 : w5.cell? ⟨b, 14, none⟩ = some (trPtr r) := hk5.cell 14; exact pure1 (trPtr r) 32 (ptv b 14) (hp.d 2)
        · refine relG_plain rfl rfl (fun _ _ h => h) ?_; intro Ac w5 hp; have hb := hp.bel; have hb := hp.pre ⟨by decide, by decide⟩; have hx5 := HX.out.below hb HX.out.lt; have x0 : w5.cell? ⟨w.heap.size, 0, none⟩ = some (.int .u32 (a : Int)) := hx5.cell 0; have x1 : w5.cell? ⟨w.heap.size, 1, none⟩ = some (.int .i64 (n : Int)) := hx5.cell 1; exact pure1 (.agg #[.int .u32 (a : Int), .int .i64 (n : Int)]) 3 (ptv w.heap.size 0) (hp.out 3 (by rfl))
        · refine relG_enter rfl rfl ?_; intro Ac w5 hp; have hb := hp.bel; have a33 : Ac.eval (.tmp 33) = trPtr r := hp.d 3; have a34 : Ac.eval (.tmp 34) = .agg #[.int .u32 (a : Int), .int .i64 (n : Int)] := hp.d 4; obtain ⟨ρ, hρ, hc, hf, hgl⟩ := evalX Ac; rw [hρ] at a33 a34; refine ⟨145, #[trPtr r, .agg #[.int .u32 (a : Int), .int .i64 (n : Int)]], by rw [hρ]; simp [go_sem, hc, hf, hgl, ↓IntWalk.iteOmega, a33, a34, *], ?_⟩; have hb := hp.pre ⟨by decide, by decide⟩; refine (HRec.out w5 hb).mono ?_; rintro e w6 ⟨t2, rfl, h1, h2, h3, h4⟩; refine ⟨_, rfl, ⟨t2, rfl, h1, h2, h3, chg_trans (chg_below hb) h4 (fun k h => .inl h)⟩, by show Below 0 w5 w6; exact ⟨h4.os, h4.tape, h4.output, h4.size, fun k hk => absurd hk (Nat.not_lt_zero k)⟩⟩
        · exact relG_plain rfl rfl (fun _ _ h => h) fun Ac w5 hp => pureM (ptv b 14) 30 (hp.d 0)
        intro u w9 hb7 hall; obtain ⟨t57, e35, h57a, h57b, h57c, h57d⟩ := relAll_at hall (i := 5) (by decide +kernel); change u 5 = _ at e35; have e36 : u 6 = .pointer (some ⟨b, 14, none⟩) := relAll_at hall (i := 6) (by decide +kernel); clear hall; simp only [List.drop_succ_cons, List.drop_zero, List.take_succ_cons, List.take_zero, putAll, Act.put, List.setIfInBounds_toArray, List.set_cons_zero, List.set_cons_succ, Nat.zero_add, Nat.reduceAdd, e35, e36]; have HN9 : Hid (Blk w9 b 205 (ndC p m [v0, v1, v2, v3, v4, v5, v6, v7, v8] v.isSome cn (trPtr l) (trPtr r))) := hide (chg_blk h57d HN8k.out HD.out.br); have z9 : w9.cell? ⟨b, 14, none⟩ = some (trPtr r) := HN9.out.cell 14; have zf9 := HN9.out.frozen 14; obtain ⟨q57, hq57⟩ := trPtr_ptr t57; rw [hq57]; obtain ⟨w10, hw10p⟩ : ∃ W, w9.setCell ⟨b, 14, none⟩ (.pointer q57) = W := ⟨_, rfl⟩
        have hw10 : w9.setCell ⟨b, 14, none⟩ (trPtr t57) = w10 := (by rw [hq57]; exact hw10p)
        have HN10 : Hid (Blk w10 b 205 (ndC p m [v0, v1, v2, v3, v4, v5, v6, v7, v8] v.isSome cn (trPtr l) (trPtr t57))) := hide (hw10 ▸ HN9.out.set_ 14 _); have HC10 : Hid (ChgS (fun k => k = b) w9 w10) := hide (hw10 ▸ chg_set (S := fun k => k = b) (p := ⟨b, 14, none⟩) rfl _); have hbt : b ∉ trB t57 := fun h => HD.out.br (h57c b h); have HbT := hide hbt; have hFb : ∀ k, F k → ¬ (k = b) := fun k h e => HD.out.bf (e ▸ h); have HT10 := hide (h57b.chg HC10.out (fun k hk e => hbt (e ▸ hk)) hFb); have HcA : Hid (ChgS (fun k => k ∈ trB r) w w9) := hide (chg_trans (chg_below HB.out) h57d (fun k h => .inl h)); have HO10 := hide (HD.out.left.chg (S := fun k => k ∈ trB r ∨ k = b) (chg_trans (chg_mono HcA.out (fun k h => .inl (.inl h))) HC10.out (fun k h => .inl (.inr h))) (fun k hk h => h.elim (fun h => HD.out.lr k hk h) (fun e => HD.out.bl (e ▸ hk))) (fun k hF h => h.elim (fun h => HD.out.right.far k h hF) (fun e => HD.out.bf (e ▸ hF)))); have hcB : trCnt t57 + 1 = trCnt r := h57a.cnt HGk.out; have HNt := hide (leanA_any (F := F) (R := R) b p m [v0, v1, v2, v3, v4, v5, v6, v7, v8] HD.out.len v cn l t57 w10 (fun t ht => by rcases ht with rfl | rfl; exact HD.out.bl; exact HbT.out) HN10.out HO10.out.mem HT10.out.mem (by have := HCn.out; omega)); have HWd := hide hw10p; have HCu := hide h57a; have HSub := hide h57c; have HFb := hide hFb; clear hw10 hw10p hq57 h57a h57b h57c h57d hb7 hbt hFb hcB
        go_upto_region 6 with fail
        rw [HWd.out]; clear z9 zf9
        go_wp2_with fail
        refine HNt.out.mono ?_; rintro e w11 ⟨rfl, hc11, hk11⟩; have HK11 := hide hk11; have HC11 := hide hc11; clear hk11 hc11; go_wp2; go_ret; have hCR := cut_right HD.out.wf HCvP.out HE.out HBit.out HCu.out; have hcW : ChgS (fun k => k ∈ trB r ∨ k = b) w w11 := chg_trans (chg_trans (chg_mono HcA.out (fun k h => .inl (.inl h))) HC10.out (fun k h => .inl (.inr h))) HC11.out (fun k h => .inl (.inr h)); have hT11 := HT10.out.chg HC11.out (fun k hk e => HbT.out (e ▸ hk)) HFb.out; have hO11 := HO10.out.chg HC11.out (fun k hk e => HD.out.bl (e ▸ hk)) HFb.out; obtain ⟨hT, hS⟩ := nd_lean (v := v) (b := b) (p := p) (m := m) hO11 hT11 (fun e => (nd_right HD.out hCR.wf HT10.out (fun k hk => .inl (HSub.out k hk)) hcW HC11.out (HK11.out e)).1)
        exact ⟨_, rfl, cut_lean hCR, hT, fun k hk => by
          have h := hS k hk; simp only [trB, List.mem_cons, List.mem_append] at h ⊢; rcases h with h | h | h
          · exact .inl h
          · exact .inr (.inl (h))
          · exact .inr (.inr (HSub.out k h)), ndWholeR hcW⟩
set_option maxRecDepth 100000 in
set_option maxHeartbeats 8000000 in
theorem tcutA_any {α : Type} {F : Nat → Prop} {R : World → List Value → α → Prop} (g a n : Nat) (t : Tr α) (w : World) (ha : PG a n) (hg : Blk w g 201 #[trPtr t]) (h : TrA 9 205 F R w t) (hF : ∀ k, F k → k < w.heap.size) (hgF : ¬ F g) (hgB : g ∉ trB t) (hcn : trCnt t < 100000000) :
  Calls Tryz.prog 83 #[.pointer (some ⟨g, 0, none⟩), .agg #[.int .u32 (a : Int), .int .i64 (n : Int)]] w fun e w' => (∃ v q, e = .returned (.tuple #[v, .bool q])) ∧ ∃ t2, trWf t2 ∧ (∀ c k, trGet c k t2 = if a = c ∧ n = k then none else trGet c k t) ∧ Blk w' g 201 #[trPtr t2] ∧ TrA 9 205 F R w' t2 ∧ (∀ k ∈ trB t2, k ∈ trB t) ∧ ChgS (fun k => k = g ∨ k ∈ trB t) w w' ∧ trCnt t2 ≤ trCnt t := by
 obtain ⟨w0, hw0⟩ : ∃ w0, (w.alloc (.cells #[.int .u32 (a : Int), .int .i64 (n : Int)] 24)).alloc (.cells #[.int .i64 0, .int .i64 0, .slice none 0 0, .int .u32 0, .int .u32 0, .int .u32 0, .int .u32 0, .int .u32 0, .slice none 0 0] 28) = w0 := ⟨_, rfl⟩
 have hb0 : Below w.heap.size w w0 := hw0 ▸ blkBelow2 w _ _; have HX0 : Hid (Blk w0 w.heap.size 24 #[.int .u32 (a : Int), .int .i64 (n : Int)]) := hide (hw0 ▸ (Blk.new w _ _).alloc _); have HZ0 : Hid (Blk w0 (w.heap.size + 1) 28 #[.int .i64 0, .int .i64 0, .slice none 0 0, .int .u32 0, .int .u32 0, .int .u32 0, .int .u32 0, .int .u32 0, .slice none 0 0]) := hide (hw0 ▸ blk_new' _ _ (by simp)); have HFd := hide (findA_any (R := R) g a n t w0 ha (hg.below hb0 hg.lt) (h.mem.chg (S := fun _ => False) (chg_below hb0) (by simp) (by simp)) h.wf); have hgf := trGet_find a n t; have hfw := trFind_w a n t h.mem; have HF := hide hF; have HG := hide hg; have HT := hide h; have HPa := hide ha; have HgF := hide hgF; have HgB := hide hgB; have HCt := hide hcn; obtain ⟨s, hs⟩ : ∃ s, trFind a n t = s := ⟨_, rfl⟩
 rw [hs] at hgf hfw HFd; have HW0 := hide hw0; have HB0 := hide hb0; clear hw0 hb0 hs hg h hF ha hgF hgB hcn
 cases s with
 | nil =>
  simp only at hgf; have HNo := hide hgf; have e0 : trPtr (.nil : Tr α) = .pointer none := rfl; rw [e0] at HFd; clear hgf e0 hfw
  go_enter Tryz.func83, Tryz.ntmps83
  go_wp2_with fail
  rw [HW0.out]; refine HFd.out.mono ?_; rintro e w1 ⟨rfl, hb1⟩; have HB1 := hide (HB0.out.trans (hb1.mono HB0.out.size)); have HZ1 := hide (HZ0.out.below hb1 HZ0.out.lt); have z0 : w1.cell? ⟨w.heap.size + 1, 0, none⟩ = some (.int .i64 0) := HZ1.out.cell 0; have z1 : w1.cell? ⟨w.heap.size + 1, 1, none⟩ = some (.int .i64 0) := HZ1.out.cell 1; have z2 : w1.cell? ⟨w.heap.size + 1, 2, none⟩ = some (.slice none 0 0) := HZ1.out.cell 2; have z3 : w1.cell? ⟨w.heap.size + 1, 3, none⟩ = some (.int .u32 0) := HZ1.out.cell 3; have z4 : w1.cell? ⟨w.heap.size + 1, 4, none⟩ = some (.int .u32 0) := HZ1.out.cell 4; have z5 : w1.cell? ⟨w.heap.size + 1, 5, none⟩ = some (.int .u32 0) := HZ1.out.cell 5; have z6 : w1.cell? ⟨w.heap.size + 1, 6, none⟩ = some (.int .u32 0) := HZ1.out.cell 6; have z7 : w1.cell? ⟨w.heap.size + 1, 7, none⟩ = some (.int .u32 0) := HZ1.out.cell 7; have z8 : w1.cell? ⟨w.heap.size + 1, 8, none⟩ = some (.slice none 0 0) := HZ1.out.cell 8; have zf := fun i => HZ1.out.frozen i; clear hb1; go_wp2; change bodyPost _ _ _ _ _ (w1.setCells (w.heap.size + 1) 0 [.int .i64 0, .int .i64 0, .slice none 0 0, .int .u32 0, .int .u32 0, .int .u32 0, .int .u32 0, .int .u32 0, .slice none 0 0]); obtain ⟨wF, hwF⟩ : ∃ x, w1.setCells (w.heap.size + 1) 0 [.int .i64 0, .int .i64 0, .slice none 0 0, .int .u32 0, .int .u32 0, .int .u32 0, .int .u32 0, .int .u32 0, .slice none 0 0] = x := ⟨_, rfl⟩
  have HFk := hide (hwF ▸ blk_sets [.int .i64 0, .int .i64 0, .slice none 0 0, .int .u32 0, .int .u32 0, .int .u32 0, .int .u32 0, .int .u32 0, .slice none 0 0] [] [.int .i64 0, .int .i64 0, .slice none 0 0, .int .u32 0, .int .u32 0, .int .u32 0, .int .u32 0, .int .u32 0, .slice none 0 0] HZ1.out rfl : Blk wF (w.heap.size + 1) 28 #[.int .i64 0, .int .i64 0, .slice none 0 0, .int .u32 0, .int .u32 0, .int .u32 0, .int .u32 0, .int .u32 0, .slice none 0 0]); have HFb := hide (hwF ▸ below_sets [.int .i64 0, .int .i64 0, .slice none 0 0, .int .u32 0, .int .u32 0, .int .u32 0, .int .u32 0, .int .u32 0, .slice none 0 0] 0 HB1.out (by omega) : Below w.heap.size w wF); rw [hwF]; clear hwF z0 z1 z2 z3 z4 z5 z6 z7 z8 zf; have z0 : wF.cell? ⟨w.heap.size + 1, 0, none⟩ = some (.int .i64 0) := HFk.out.cell 0; have z1 : wF.cell? ⟨w.heap.size + 1, 1, none⟩ = some (.int .i64 0) := HFk.out.cell 1; have z2 : wF.cell? ⟨w.heap.size + 1, 2, none⟩ = some (.slice none 0 0) := HFk.out.cell 2; have z3 : wF.cell? ⟨w.heap.size + 1, 3, none⟩ = some (.int .u32 0) := HFk.out.cell 3; have z4 : wF.cell? ⟨w.heap.size + 1, 4, none⟩ = some (.int .u32 0) := HFk.out.cell 4; have z5 : wF.cell? ⟨w.heap.size + 1, 5, none⟩ = some (.int .u32 0) := HFk.out.cell 5; have z6 : wF.cell? ⟨w.heap.size + 1, 6, none⟩ = some (.int .u32 0) := HFk.out.cell 6; have z7 : wF.cell? ⟨w.heap.size + 1, 7, none⟩ = some (.int .u32 0) := HFk.out.cell 7; have z8 : wF.cell? ⟨w.heap.size + 1, 8, none⟩ = some (.slice none 0 0) := HFk.out.cell 8; exact bodyPost_ret (v := .tuple #[.agg #[.int .i64 0, .int .i64 0, .slice none 0 0, .int .u32 0, .int .u32 0, .int .u32 0, .int .u32 0, .int .u32 0, .slice none 0 0], .bool false]) (by simp [results, Tryz.results83, go_sem, z0, z1, z2, z3, z4, z5, z6, z7, z8]) rfl ⟨⟨_, _, rfl⟩, t, HT.out.wf, fun c k => (by by_cases e : a = c ∧ n = k; obtain ⟨rfl, rfl⟩ := e; simp [HNo.out]; simp [e]), HG.out.below HFb.out HG.out.lt, HT.out.chg (S := fun _ => False) (chg_below HFb.out) (by simp) (by simp), fun k h => h, chg_below HFb.out, Nat.le_refl _⟩
 | nd b p m v l r =>
  have e0 : trPtr (.nd b p m v l r) = .pointer (some ⟨b, 0, none⟩) := rfl; rw [e0] at HFd; clear e0; simp only at hgf; have HGt := hide hgf; obtain ⟨⟨vs, hv, hk, hval⟩, _, _⟩ := hfw; obtain ⟨v0, v1, v2, v3, v4, v5, v6, v7, v8, rfl⟩ := lenA hv; have HN := hide hk; have HOne := hide hv.2; clear hgf hv hk hval; obtain ⟨cn, hcn⟩ : ∃ c, trCnt l + trCnt r + (if v.isSome then 1 else 0) = c := ⟨_, rfl⟩
  rw [hcn] at HN; clear hcn
  cases v with
  | none =>
   have HNo := hide HGt.out
   go_enter Tryz.func83, Tryz.ntmps83
   go_wp2_with fail
   rw [HW0.out]; refine HFd.out.mono ?_; rintro e w1 ⟨rfl, hb1⟩; have HB1 := hide (HB0.out.trans (hb1.mono HB0.out.size)); have HZ1 := hide (HZ0.out.below hb1 HZ0.out.lt); have yp : w1.cell? ⟨b, 11, none⟩ = some (.bool false) := (HN.out.below HB1.out HN.out.lt).cell 11; have z0 : w1.cell? ⟨w.heap.size + 1, 0, none⟩ = some (.int .i64 0) := HZ1.out.cell 0; have z1 : w1.cell? ⟨w.heap.size + 1, 1, none⟩ = some (.int .i64 0) := HZ1.out.cell 1; have z2 : w1.cell? ⟨w.heap.size + 1, 2, none⟩ = some (.slice none 0 0) := HZ1.out.cell 2; have z3 : w1.cell? ⟨w.heap.size + 1, 3, none⟩ = some (.int .u32 0) := HZ1.out.cell 3; have z4 : w1.cell? ⟨w.heap.size + 1, 4, none⟩ = some (.int .u32 0) := HZ1.out.cell 4; have z5 : w1.cell? ⟨w.heap.size + 1, 5, none⟩ = some (.int .u32 0) := HZ1.out.cell 5; have z6 : w1.cell? ⟨w.heap.size + 1, 6, none⟩ = some (.int .u32 0) := HZ1.out.cell 6; have z7 : w1.cell? ⟨w.heap.size + 1, 7, none⟩ = some (.int .u32 0) := HZ1.out.cell 7; have z8 : w1.cell? ⟨w.heap.size + 1, 8, none⟩ = some (.slice none 0 0) := HZ1.out.cell 8; have zf := fun i => HZ1.out.frozen i; clear hb1; go_wp2; change bodyPost _ _ _ _ _ (w1.setCells (w.heap.size + 1) 0 [.int .i64 0, .int .i64 0, .slice none 0 0, .int .u32 0, .int .u32 0, .int .u32 0, .int .u32 0, .int .u32 0, .slice none 0 0]); obtain ⟨wF, hwF⟩ : ∃ x, w1.setCells (w.heap.size + 1) 0 [.int .i64 0, .int .i64 0, .slice none 0 0, .int .u32 0, .int .u32 0, .int .u32 0, .int .u32 0, .int .u32 0, .slice none 0 0] = x := ⟨_, rfl⟩
   have HFk := hide (hwF ▸ blk_sets [.int .i64 0, .int .i64 0, .slice none 0 0, .int .u32 0, .int .u32 0, .int .u32 0, .int .u32 0, .int .u32 0, .slice none 0 0] [] [.int .i64 0, .int .i64 0, .slice none 0 0, .int .u32 0, .int .u32 0, .int .u32 0, .int .u32 0, .int .u32 0, .slice none 0 0] HZ1.out rfl : Blk wF (w.heap.size + 1) 28 #[.int .i64 0, .int .i64 0, .slice none 0 0, .int .u32 0, .int .u32 0, .int .u32 0, .int .u32 0, .int .u32 0, .slice none 0 0]); have HFb := hide (hwF ▸ below_sets [.int .i64 0, .int .i64 0, .slice none 0 0, .int .u32 0, .int .u32 0, .int .u32 0, .int .u32 0, .int .u32 0, .slice none 0 0] 0 HB1.out (by omega) : Below w.heap.size w wF); rw [hwF]; clear hwF z0 z1 z2 z3 z4 z5 z6 z7 z8 zf yp; have z0 : wF.cell? ⟨w.heap.size + 1, 0, none⟩ = some (.int .i64 0) := HFk.out.cell 0; have z1 : wF.cell? ⟨w.heap.size + 1, 1, none⟩ = some (.int .i64 0) := HFk.out.cell 1; have z2 : wF.cell? ⟨w.heap.size + 1, 2, none⟩ = some (.slice none 0 0) := HFk.out.cell 2; have z3 : wF.cell? ⟨w.heap.size + 1, 3, none⟩ = some (.int .u32 0) := HFk.out.cell 3; have z4 : wF.cell? ⟨w.heap.size + 1, 4, none⟩ = some (.int .u32 0) := HFk.out.cell 4; have z5 : wF.cell? ⟨w.heap.size + 1, 5, none⟩ = some (.int .u32 0) := HFk.out.cell 5; have z6 : wF.cell? ⟨w.heap.size + 1, 6, none⟩ = some (.int .u32 0) := HFk.out.cell 6; have z7 : wF.cell? ⟨w.heap.size + 1, 7, none⟩ = some (.int .u32 0) := HFk.out.cell 7; have z8 : wF.cell? ⟨w.heap.size + 1, 8, none⟩ = some (.slice none 0 0) := HFk.out.cell 8; exact bodyPost_ret (v := .tuple #[.agg #[.int .i64 0, .int .i64 0, .slice none 0 0, .int .u32 0, .int .u32 0, .int .u32 0, .int .u32 0, .int .u32 0, .slice none 0 0], .bool false]) (by simp [results, Tryz.results83, go_sem, z0, z1, z2, z3, z4, z5, z6, z7, z8]) rfl ⟨⟨_, _, rfl⟩, t, HT.out.wf, fun c k => (by by_cases e : a = c ∧ n = k; obtain ⟨rfl, rfl⟩ := e; simp [HNo.out]; simp [e]), HG.out.below HFb.out HG.out.lt, HT.out.chg (S := fun _ => False) (chg_below HFb.out) (by simp) (by simp), fun k h => h, chg_below HFb.out, Nat.le_refl _⟩
  | some x =>
   go_enter Tryz.func83, Tryz.ntmps83
   go_wp2_with fail
   rw [HW0.out]; refine HFd.out.mono ?_; rintro e w1 ⟨rfl, hb1⟩; have HB1 := hide (HB0.out.trans (hb1.mono HB0.out.size)); have HZ1 := hide (HZ0.out.below hb1 HZ0.out.lt); have HX1 := hide (HX0.out.below hb1 HX0.out.lt); have hN1 := HN.out.below HB1.out HN.out.lt; have yp : w1.cell? ⟨b, 11, none⟩ = some (.bool true) := hN1.cell 11; have y0 : w1.cell? ⟨b, 2, none⟩ = some v0 := hN1.cell 2; have y1 : w1.cell? ⟨b, 3, none⟩ = some v1 := hN1.cell 3; have y2 : w1.cell? ⟨b, 4, none⟩ = some v2 := hN1.cell 4; have y3 : w1.cell? ⟨b, 5, none⟩ = some v3 := hN1.cell 5; have y4 : w1.cell? ⟨b, 6, none⟩ = some v4 := hN1.cell 6; have y5 : w1.cell? ⟨b, 7, none⟩ = some v5 := hN1.cell 7; have y6 : w1.cell? ⟨b, 8, none⟩ = some v6 := hN1.cell 8; have y7 : w1.cell? ⟨b, 9, none⟩ = some v7 := hN1.cell 9; have y8 : w1.cell? ⟨b, 10, none⟩ = some v8 := hN1.cell 10; have z0 : w1.cell? ⟨w.heap.size + 1, 0, none⟩ = some (.int .i64 0) := HZ1.out.cell 0; have z1 : w1.cell? ⟨w.heap.size + 1, 1, none⟩ = some (.int .i64 0) := HZ1.out.cell 1; have z2 : w1.cell? ⟨w.heap.size + 1, 2, none⟩ = some (.slice none 0 0) := HZ1.out.cell 2; have z3 : w1.cell? ⟨w.heap.size + 1, 3, none⟩ = some (.int .u32 0) := HZ1.out.cell 3; have z4 : w1.cell? ⟨w.heap.size + 1, 4, none⟩ = some (.int .u32 0) := HZ1.out.cell 4; have z5 : w1.cell? ⟨w.heap.size + 1, 5, none⟩ = some (.int .u32 0) := HZ1.out.cell 5; have z6 : w1.cell? ⟨w.heap.size + 1, 6, none⟩ = some (.int .u32 0) := HZ1.out.cell 6; have z7 : w1.cell? ⟨w.heap.size + 1, 7, none⟩ = some (.int .u32 0) := HZ1.out.cell 7; have z8 : w1.cell? ⟨w.heap.size + 1, 8, none⟩ = some (.slice none 0 0) := HZ1.out.cell 8; have zf := fun i => HZ1.out.frozen i; clear hb1 hN1; have o0 := runS Tryz.prog v0 (HOne.out v0 (by simp)); have o1 := runS Tryz.prog v1 (HOne.out v1 (by simp)); have o2 := runS Tryz.prog v2 (HOne.out v2 (by simp)); have o3 := runS Tryz.prog v3 (HOne.out v3 (by simp)); have o4 := runS Tryz.prog v4 (HOne.out v4 (by simp)); have o5 := runS Tryz.prog v5 (HOne.out v5 (by simp)); have o6 := runS Tryz.prog v6 (HOne.out v6 (by simp)); have o7 := runS Tryz.prog v7 (HOne.out v7 (by simp)); have o8 := runS Tryz.prog v8 (HOne.out v8 (by simp))
   go_upto_region 5 with fail
   obtain ⟨w2, hw2⟩ : ∃ x, w1.setCells (w.heap.size + 1) 0 [v0, v1, v2, v3, v4, v5, v6, v7, v8] = x := ⟨_, rfl⟩
   change Code.wp _ _ _ _ (w1.setCells (w.heap.size + 1) 0 [v0, v1, v2, v3, v4, v5, v6, v7, v8]); rw [hw2]; have HZ2 := hide (hw2 ▸ blk_sets [v0, v1, v2, v3, v4, v5, v6, v7, v8] [] [.int .i64 0, .int .i64 0, .slice none 0 0, .int .u32 0, .int .u32 0, .int .u32 0, .int .u32 0, .int .u32 0, .slice none 0 0] HZ1.out rfl : Blk w2 (w.heap.size + 1) 28 #[v0, v1, v2, v3, v4, v5, v6, v7, v8]); have HB2 : Hid (Below w.heap.size w w2) := hide (hw2 ▸ below_sets [v0, v1, v2, v3, v4, v5, v6, v7, v8] 0 HB1.out (by omega)); have HX2 := hide (hw2 ▸ blk_sets_far (by omega) [v0, v1, v2, v3, v4, v5, v6, v7, v8] 0 HX1.out : Blk w2 w.heap.size 24 #[.int .u32 (a : Int), .int .i64 (n : Int)]); have HG2 := hide (HG.out.below HB2.out HG.out.lt); have HRec := hide (fun W (hb : Below w2.heap.size w2 W) => cutA_any (F := F) (R := R) a n t W HPa.out (HT.out.chg (S := fun _ => False) (chg_below (HB2.out.trans (hb.mono HB2.out.size))) (by simp) (by simp)) (by rw [HGt.out]; rfl) HCt.out); clear hw2 y0 y1 y2 y3 y4 y5 y6 y7 y8 z0 z1 z2 z3 z4 z5 z6 z7 z8 zf yp; refine wp_region_relH 9 0 (Nat.zero_le _) [(fun v _ => v = .pointer (some ⟨g, 0, none⟩)), (fun v _ => v = .pointer (some ⟨g, 0, none⟩)), (fun v _ => v = .pointer (some ⟨g, 0, none⟩)), (fun v _ => v = .pointer (some ⟨g, 0, none⟩)), (fun v _ => v = trPtr t), (fun v _ => v = .agg #[.int .u32 (a : Int), .int .i64 (n : Int)]), (fun v W => ∃ t2, v = trPtr t2 ∧ CutR a n t t2 ∧ TrA 9 205 F R W t2 ∧ (∀ k ∈ trB t2, k ∈ trB t) ∧ ChgS (fun k => k ∈ trB t) w2 W), (fun v _ => v = .pointer (some ⟨g, 0, none⟩)), (fun v _ => v = .pointer (some ⟨g, 0, none⟩))] (fun i W => (1 ≤ i ∧ i ≤ 6) → Below w2.heap.size w2 W) (fun i Wa Wb => if i = 6 then Below 0 Wa Wb else Below Wa.heap.size Wa Wb) (by kernel_rfl) (by kernel_rfl) (by kernel_rfl) (by kernel_rfl) (by kernel_rfl) ?hE ?hR ?hP ?h0 ⟨?_, ?_, ?_, ?_, ?_, ?_, ?_, ?_, ?_, trivial⟩ ?_
   case hE =>
    intro i2 wa wb hB he; split at he
    ·exact he
    ·exact he.mono (Nat.zero_le _)
   case hR =>
    intro i2 j2 v2 wa wb hij hB he h; split at he
    ·rename_i hj2; subst hj2; refine keepAll_at (E := fun wa wb => Below 0 wa wb) (x := 6) (k := 0) ?_ (by omega) he h; exact ⟨fun _ v wa wb he h => h, fun _ v wa wb he h => h, fun _ v wa wb he h => h, fun _ v wa wb he h => h, fun _ v wa wb he h => h, fun _ v wa wb he h => h, fun hn => absurd rfl hn, fun _ v wa wb he h => h, fun _ v wa wb he h => h, trivial⟩
    ·refine relMono _ ?_ i2 v2 wa wb he h; exact ⟨fun _ _ _ _ h => h, fun _ _ _ _ h => h, fun _ _ _ _ h => h, fun _ _ _ _ h => h, fun _ _ _ _ h => h, fun _ _ _ _ h => h, fun v wa wb hb ⟨t2, e, h1, h2, h3, h4⟩ => ⟨t2, e, h1, h2.chg (S := fun _ => False) (chg_below hb) (by simp) (by simp), h3, chg_trans h4 (chg_below (S := fun _ => False) hb) (fun k h => h.elim)⟩, fun _ _ _ _ h => h, fun _ _ _ _ h => h, trivial⟩
   case hP =>
    intro i2 j2 wa wb hij hnb hB he h hi; split at he
    ·rename_i hj2; subst hj2; have hi3 : i2 = 1 ∨ i2 = 2 ∨ i2 = 3 ∨ i2 = 4 ∨ i2 = 5 ∨ i2 = 6 := (by omega)
     rcases hi3 with rfl | rfl | rfl | rfl | rfl | rfl
     all_goals first | exact absurd rfl hij | exact absurd hnb (by decide +kernel)
    ·exact (h hi).trans (he.mono (h hi).size)
   case h0 =>
    intro j2 hj2 _; exact (Below.refl _ _).drew
   ·exact relG_plain rfl rfl (fun _ _ h => h) fun Ac w5 hp => pureM (ptv g 0) 0 (hp.out 0 (by rfl))
   ·exact relG_plain rfl rfl (fun _ _ h => h) fun Ac w5 hp => pureM (ptv g 0) 0 (hp.out 0 (by rfl))
   ·exact relG_plain rfl rfl (fun _ _ h => h) fun Ac w5 hp => pureM (ptv g 0) 25 (hp.d 1)
   ·exact relG_plain rfl rfl (fun _ _ h => h) fun Ac w5 hp => pureM (ptv g 0) 26 (hp.d 2)
   ·refine relG_plain rfl rfl (fun _ _ h => h) ?_; intro Ac w5 hp; have hb := hp.bel; have hb := hp.pre ⟨by decide, by decide⟩; have hg5 := HG2.out.below hb HG2.out.lt; have z0 : w5.cell? ⟨g, 0, none⟩ = some (trPtr t) := hg5.cell 0; exact pure1 (trPtr t) 27 (ptv g 0) (hp.d 3)
   ·refine relG_plain rfl rfl (fun _ _ h => h) ?_; intro Ac w5 hp; have hb := hp.bel; have hb := hp.pre ⟨by decide, by decide⟩; have hx5 := HX2.out.below hb HX2.out.lt; have x0 : w5.cell? ⟨w.heap.size, 0, none⟩ = some (.int .u32 (a : Int)) := hx5.cell 0; have x1 : w5.cell? ⟨w.heap.size, 1, none⟩ = some (.int .i64 (n : Int)) := hx5.cell 1; exact pure1 (.agg #[.int .u32 (a : Int), .int .i64 (n : Int)]) 3 (ptv w.heap.size 0) (hp.out 3 (by rfl))
   ·refine relG_enter rfl rfl ?_; intro Ac w5 hp; have hb := hp.bel; have a28 : Ac.eval (.tmp 28) = trPtr t := hp.d 4; have a29 : Ac.eval (.tmp 29) = .agg #[.int .u32 (a : Int), .int .i64 (n : Int)] := hp.d 5; obtain ⟨ρ, hρ, hc, hf, hgl⟩ := evalX Ac; rw [hρ] at a28 a29; refine ⟨145, #[trPtr t, .agg #[.int .u32 (a : Int), .int .i64 (n : Int)]], by rw [hρ]; simp [go_sem, hc, hf, hgl, ↓IntWalk.iteOmega, a28, a29, *], ?_⟩; have hb := hp.pre ⟨by decide, by decide⟩; refine (HRec.out w5 hb).mono ?_; rintro e w6 ⟨t2, rfl, h1, h2, h3, h4⟩; refine ⟨_, rfl, ⟨t2, rfl, h1, h2, h3, chg_trans (chg_below hb) h4 (fun k h => .inl h)⟩, by show Below 0 w5 w6; exact ⟨h4.os, h4.tape, h4.output, h4.size, fun k hk => absurd hk (Nat.not_lt_zero k)⟩⟩
   ·exact relG_plain rfl rfl (fun _ _ h => h) fun Ac w5 hp => pureM (ptv g 0) 24 (hp.d 0)
   ·exact relG_plain rfl rfl (fun _ _ h => h) fun Ac w5 hp => pureM (ptv g 0) 31 (hp.d 7)
   intro u w9 hb7 hall; obtain ⟨t44, e30, h44a, h44b, h44c, h44d⟩ := relAll_at hall (i := 6) (by decide +kernel); change u 6 = _ at e30; have e32 : u 8 = .pointer (some ⟨g, 0, none⟩) := relAll_at hall (i := 8) (by decide +kernel); clear hall; simp only [List.drop_succ_cons, List.drop_zero, List.take_succ_cons, List.take_zero, putAll, Act.put, List.setIfInBounds_toArray, List.set_cons_zero, List.set_cons_succ, Nat.zero_add, Nat.reduceAdd, e30, e32]; have hcb : w.heap.size + 1 < w2.heap.size := HZ2.out.lt; have hgl := HG.out.lt; have htl := HT.out.mem.lt; have HG9 := hide (chg_blk h44d HG2.out HgB.out); have HZ9 := hide (chg_blk h44d HZ2.out (fun h => by have := htl _ h; omega)); have hg44 : g ∉ trB t44 := fun h => HgB.out (h44c g h); have hc44 : w.heap.size + 1 ∉ trB t44 := fun h => by have := htl _ (h44c _ h); omega
   obtain ⟨q44, hq44⟩ := trPtr_ptr t44; rw [hq44]; have zg : w9.cell? ⟨g, 0, none⟩ = some (trPtr t) := HG9.out.cell 0; have zgf := HG9.out.frozen 0; obtain ⟨w10, hw10⟩ : ∃ W, w9.setCell ⟨g, 0, none⟩ (.pointer q44) = W := ⟨_, rfl⟩
   have HZ10 : Hid (Blk w10 (w.heap.size + 1) 28 #[v0, v1, v2, v3, v4, v5, v6, v7, v8]) := hide (hw10 ▸ HZ9.out.far (p := ⟨g, 0, none⟩) (by show w.heap.size + 1 ≠ g; omega) _); have HG10 : Hid (Blk w10 g 201 #[trPtr t44]) := hide (by rw [hq44]; exact hw10 ▸ HG9.out.set_ 0 _); have HC10 : Hid (ChgS (fun k => k = g) w9 w10) := hide (hw10 ▸ chg_set (S := fun k => k = g) (p := ⟨g, 0, none⟩) rfl _); have HT10 := hide (h44b.chg HC10.out (fun k hk e => hg44 (e ▸ hk)) (fun k hF e => HgF.out (e ▸ hF))); have HCw : Hid (ChgS (fun k => k = g ∨ k ∈ trB t) w w10) := hide (chg_trans (chg_trans (chg_below (S := fun k => k = g ∨ k ∈ trB t) HB2.out) h44d (fun k h => .inl (.inr h))) HC10.out (fun k h => .inl (.inl h))); have HCu := hide h44a; have HSu := hide h44c; have Hc44 := hide hc44; have HWd := hide hw10; have HCnt : Hid (trCnt t44 ≤ trCnt t) := hide (by have := h44a.cnt (by rw [HGt.out]; rfl); omega); clear hw10 hq44 h44a h44b h44c h44d hb7 hg44 hc44 htl
   go_upto_region 6 with fail
   rw [HWd.out]; clear zg zgf; have z0 : w10.cell? ⟨w.heap.size + 1, 0, none⟩ = some (v0) := HZ10.out.cell 0; have z1 : w10.cell? ⟨w.heap.size + 1, 1, none⟩ = some (v1) := HZ10.out.cell 1; have z2 : w10.cell? ⟨w.heap.size + 1, 2, none⟩ = some (v2) := HZ10.out.cell 2; have z3 : w10.cell? ⟨w.heap.size + 1, 3, none⟩ = some (v3) := HZ10.out.cell 3; have z4 : w10.cell? ⟨w.heap.size + 1, 4, none⟩ = some (v4) := HZ10.out.cell 4; have z5 : w10.cell? ⟨w.heap.size + 1, 5, none⟩ = some (v5) := HZ10.out.cell 5; have z6 : w10.cell? ⟨w.heap.size + 1, 6, none⟩ = some (v6) := HZ10.out.cell 6; have z7 : w10.cell? ⟨w.heap.size + 1, 7, none⟩ = some (v7) := HZ10.out.cell 7; have z8 : w10.cell? ⟨w.heap.size + 1, 8, none⟩ = some (v8) := HZ10.out.cell 8; have zf := fun i => HZ10.out.frozen i; go_wp2; change bodyPost _ _ _ _ _ (w10.setCells (w.heap.size + 1) 0 [v0, v1, v2, v3, v4, v5, v6, v7, v8]); obtain ⟨wF, hwF⟩ : ∃ x, w10.setCells (w.heap.size + 1) 0 [v0, v1, v2, v3, v4, v5, v6, v7, v8] = x := ⟨_, rfl⟩
   have HFk := hide (hwF ▸ blk_sets [v0, v1, v2, v3, v4, v5, v6, v7, v8] [] [v0, v1, v2, v3, v4, v5, v6, v7, v8] HZ10.out rfl : Blk wF (w.heap.size + 1) 28 #[v0, v1, v2, v3, v4, v5, v6, v7, v8]); have HFg := hide (hwF ▸ blk_sets_far (by omega) [v0, v1, v2, v3, v4, v5, v6, v7, v8] 0 HG10.out : Blk wF g 201 _); have HFc : Hid (ChgS (fun k => k = w.heap.size + 1) w10 wF) := hide (hwF ▸ chg_sets (S := fun k => k = w.heap.size + 1) rfl [v0, v1, v2, v3, v4, v5, v6, v7, v8] 0); rw [hwF]; clear hwF z0 z1 z2 z3 z4 z5 z6 z7 z8 zf o0 o1 o2 o3 o4 o5 o6 o7 o8; have z0 : wF.cell? ⟨w.heap.size + 1, 0, none⟩ = some (v0) := HFk.out.cell 0; have z1 : wF.cell? ⟨w.heap.size + 1, 1, none⟩ = some (v1) := HFk.out.cell 1; have z2 : wF.cell? ⟨w.heap.size + 1, 2, none⟩ = some (v2) := HFk.out.cell 2; have z3 : wF.cell? ⟨w.heap.size + 1, 3, none⟩ = some (v3) := HFk.out.cell 3; have z4 : wF.cell? ⟨w.heap.size + 1, 4, none⟩ = some (v4) := HFk.out.cell 4; have z5 : wF.cell? ⟨w.heap.size + 1, 5, none⟩ = some (v5) := HFk.out.cell 5; have z6 : wF.cell? ⟨w.heap.size + 1, 6, none⟩ = some (v6) := HFk.out.cell 6; have z7 : wF.cell? ⟨w.heap.size + 1, 7, none⟩ = some (v7) := HFk.out.cell 7; have z8 : wF.cell? ⟨w.heap.size + 1, 8, none⟩ = some (v8) := HFk.out.cell 8; refine bodyPost_ret (v := .tuple #[.agg #[v0, v1, v2, v3, v4, v5, v6, v7, v8], .bool true]) (by simp [results, Tryz.results83, go_sem, z0, z1, z2, z3, z4, z5, z6, z7, z8]) rfl ⟨⟨_, _, rfl⟩, t44, HCu.out.wf, HCu.out.get, HFg.out, HT10.out.chg HFc.out (fun k hk e => Hc44.out (e ▸ hk)) (fun k hF e => by have := HF.out k hF; omega), HSu.out, chg_trans HCw.out HFc.out (fun k h => .inr (by omega)), HCnt.out⟩
end Go.Proofs.YtcinjckajnnhmaaGreat
