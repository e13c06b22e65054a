/-
  THE WALK OF lex.cut AND lex.Cut.
-/
import Derived.Test.YtiibglkiakhfgaaDoorLexRefCut
import Derived.Test.YtiibglkiakhfgaaDoorLexWord
set_option linter.unusedSimpArgs false
set_option linter.unusedVariables false
namespace Go.Proofs.YtiibglkiakhfgaaDoor
open Go.RowKit

theorem two_new (w : World) (o : Obj) (a b : Value) (t : TypeId) : ∀ j u, [a, b][j]? = some u → ((w.alloc o).alloc (.cells #[a, b] t)).cell? ((⟨w.heap.size + 1, 0, none⟩ : Addr).add j) = some u := by
  have h := cell_two_new (w.alloc o) a b t
  rw [World.size_alloc] at h
  exact h

theorem rel_word2 {s : ByteArray} {w w1 w2 : World} {v v' : Value} {done : List (Nat × Nat)} {p : Nat × Nat} {cs cs' : Array Value} {o o' : Obj} {x : Int} {t t' : TypeId}
    (hB : Blk w1 w.heap.size t cs) (hC : Blk w1 (w.heap.size + 1) t' cs') (hbel : Below w.heap.size w w1) (hown : w1.ownsRow (w.heap.size + 2) 106 2 v done.length (wcells (wlist s done)))
    (hown' : w2.ownsRow (w.heap.size + 2) 106 2 v' (done.length + 1) (wcells (wlist s done) ++ [.string (s.extract p.1 p.2), .int .i64 x])) (hg : ((w1.alloc o).alloc o').grownBy w2 v.ownBlock) (hx : x = ((p.1 + 1 : Nat) : Int)) :
    w2.ownsRow (w.heap.size + 2) 106 2 v' (done ++ [p]).length (wcells (wlist s (done ++ [p]))) ∧ Blk w2 w.heap.size t cs ∧ Blk w2 (w.heap.size + 1) t' cs' ∧ Below w.heap.size w w2 := by
  have hrow : ∀ k, v.ownBlock = some k → w.heap.size + 1 < k := fun k hk => by have := (hown.lt k hk).1; omega
  refine ⟨?_, ((hB.alloc o).alloc o').grown hg (fun e => by have := hrow _ e.symm; omega), ((hC.alloc o).alloc o').grown hg (fun e => by have := hrow _ e.symm; omega),
    ((hbel.alloc hbel.size o).alloc (by have := hbel.size; simp; omega) o').grown hg (by have := hbel.size; simp; omega) (fun k hk => by have := hrow k hk; omega)⟩
  subst hx
  rw [wcells_snoc, List.length_append]
  exact hown'

set_option maxRecDepth 100000 in
set_option maxHeartbeats 1000000 in
theorem lexcut_any (s : ByteArray) (w : World) (hs63 : s.size ≤ maxLen) :
    Calls Tryd.prog 89 #[.string s] w (CutP s w) := by
  obtain ⟨i0, hi, hz0, hz1, hz2⟩ := info_parts wordInfo
  have hs := hs63
  unfold maxLen at hs
  go_enter Tryd.func89, Tryd.ntmps89
  go_wp2
  go_loopw [4] (fun v wr => ∃ (k : Nat) (done : List (Nat × Nat)), k ≤ s.size ∧ wr.ownsRow (w.heap.size + 2) 106 2 v done.length (wcells (wlist s done)) ∧ CutRel s k done ∧ done.length ≤ 64 ∧
      Blk wr w.heap.size 41 #[.int .i64 0, .int .i64 0, .int .i64 0] ∧ Blk wr (w.heap.size + 1) 147 #[.string s, .int .i64 k] ∧ Below w.heap.size w wr)
    (fun _ wr => s.size - cellNat wr ⟨w.heap.size + 1, 1, none⟩)
  case atStart =>
    refine ⟨0, [], Nat.zero_le _, World.ownsRow_nil _ _ _ _, ⟨rfl, rfl⟩, by simp, (Blk.new w _ _).alloc _, ?_, ((Below.refl _ _).alloc (Nat.le_refl _) _).alloc (by simp) _⟩
    have h0 := Blk.new (w.alloc (.cells #[.int .i64 0, .int .i64 0, .int .i64 0] 41)) 147 #[.string s, .int .i64 0]
    rw [World.size_alloc] at h0
    exact h0
  case round =>
    obtain ⟨k, done, hk, hown, hR, hlen, hBf, hBc, hbel⟩ := hrel
    have HR := hide hR
    clear hR
    by_cases hgo : skipTo s k < s.size ∧ byteAt s (skipTo s k) ≠ 35
    · by_cases hwl : skipTo s k < wordEnd s (skipTo s k)
      · by_cases h64 : done.length = 64
        · skip
          have HN := hide (show wordR s (skipTo s k) = (s.extract (skipTo s k) (wordEnd s (skipTo s k)), skipTo s k + 1, wordEnd s (skipTo s k), true, false) by rw [wordR_in hgo]; simp [hwl]; omega)
          have hC := hide (cutRel_long HR.out hgo hwl h64)
          have d64 : (((done.length : Nat) : Int) == 64) = true := by rw [h64]; rfl
          clear hgo hwl h64
          obtain ⟨A, cap, rfl⟩ := own_slice hown
          go_wp2_with fail
          refine (word_any s k (w.heap.size + 1) wr hs63 hk hBc).mono ?_
          intro e w1 hq
          unfold WordQ at hq
          rw [HN.out] at hq
          obtain ⟨rfl, hBc1, hgr1⟩ := hq
          have hbel1 : Below w.heap.size w w1 := hbel.grown hgr1 hbel.size (fun j hj => by cases hj; omega)
          have hBf1 : Blk w1 w.heap.size 41 #[.int .i64 0, .int .i64 0, .int .i64 0] := hBf.grown hgr1 (by simp)
          have hown1 := hown.kept hgr1 (by right; intro e; have := (hown.lt _ e).1; omega)
          clear hBf hbel hBc hown hgr1
          have hz : w.heap.size < w1.heap.size := hBf1.lt
          have hzz : w.heap.size + 1 < w1.heap.size := hBc1.lt
          have r0 := hBf1.cell 0
          have r1 := hBf1.cell 1
          have r2 := hBf1.cell 2
          have q0 := hBf1.frozen 0
          have q1 := hBf1.frozen 1
          have q2 := hBf1.frozen 2
          have c0 := hBc1.cell 0
          have c1 := hBc1.cell 1
          simp at r0 r1 r2 c0 c1

          go_wp2_with fail
          go_region
          go_wp2
          refine bodyPost_ret (v := .tuple #[.slice none 0 0, .agg #[.int .i64 0, .int .i64 ((skipTo s k : Int) + 1), .int .i64 6]]) (by simp [results, Tryd.results89, go_sem, r0, r1, r2, q0, q1, q2, hz]) rfl (cutP_fault hC.out (by simp) (by simp) rfl ?_)
          (repeat (first | exact hbel1 | refine Below.setCell ?_ (by first | exact Nat.le_refl _ | (simp; done) | (simp; omega)) _ | refine Below.alloc ?_ (by first | omega | (simp; done) | (simp; omega)) _ | refine Below.drew ?_ | refine below_drewN ?_ _))
        · skip
          have HN := hide (show wordR s (skipTo s k) = (s.extract (skipTo s k) (wordEnd s (skipTo s k)), skipTo s k + 1, wordEnd s (skipTo s k), true, false) by rw [wordR_in hgo]; simp [hwl]; omega)
          have hR' := hide (cutRel_word HR.out hgo hwl h64)
          have d64 : (((done.length : Nat) : Int) == 64) = false := by simp; omega
          have hlen2 : done.length < 64 := by omega
          have hle2 : wordEnd s (skipTo s k) ≤ s.size := wordEnd_le s _ (skipTo_le s k hk)
          have hsk := skipTo_ge s k
          have hwl2 := hwl
          have HMk := hide (cellNat_of (k := k) (hBc.cell 1))
          clear hgo hwl h64
          obtain ⟨A, cap, rfl⟩ := own_slice hown
          go_wp2_with fail
          refine (word_any s k (w.heap.size + 1) wr hs63 hk hBc).mono ?_
          intro e w1 hq
          unfold WordQ at hq
          rw [HN.out] at hq
          obtain ⟨rfl, hBc1, hgr1⟩ := hq
          have hbel1 : Below w.heap.size w w1 := hbel.grown hgr1 hbel.size (fun j hj => by cases hj; omega)
          have hBf1 : Blk w1 w.heap.size 41 #[.int .i64 0, .int .i64 0, .int .i64 0] := hBf.grown hgr1 (by simp)
          have hown1 := hown.kept hgr1 (by right; intro e; have := (hown.lt _ e).1; omega)
          clear hBf hbel hBc hown hgr1
          have hz : w.heap.size < w1.heap.size := hBf1.lt
          have hzz : w.heap.size + 1 < w1.heap.size := hBc1.lt
          have r0 := hBf1.cell 0
          have r1 := hBf1.cell 1
          have r2 := hBf1.cell 2
          have q0 := hBf1.frozen 0
          have q1 := hBf1.frozen 1
          have q2 := hBf1.frozen 2
          have c0 := hBc1.cell 0
          have c1 := hBc1.cell 1
          simp at r0 r1 r2 c0 c1

          have a2 : ∀ u ∈ [Value.string (s.extract (skipTo s k) (wordEnd s (skipTo s k))), Value.int .i64 ((skipTo s k : Int) + 1)], u.oneCell' = true := by simp [Value.oneCell']
          have a3 : done.length + 1 ≤ maxLen := by unfold maxLen; omega
          have a4 : (done.length + 1) * 24 ≤ 140737488355328 := by omega
          have hb5 : w.heap.size + 2 ≤ w1.heap.size := by omega
          go_wp2_with (at_builtin; refine wpList_append_own _ rfl (.tmp 38) (.tmp 40) 60 rfl (w.heap.size + 2) 106 i0 (.agg #[.string ⟨#[]⟩, .int .i64 0]) 2 24 Tryd.underlying60 hi hz0 hz1 hz2 rfl (by decide) (.slice A done.length cap) done.length _ rfl ((hown1.alloc _).alloc _) ⟨w1.heap.size + 1, 0, none⟩ 1 1 [.string (s.extract (skipTo s k) (wordEnd s (skipTo s k))), .int .i64 ((skipTo s k : Int) + 1)] rfl rfl (two_new _ _ _ _ _) a2 a3 a4 (by simp; omega) ?_; intro v' w2 hown' hgrow _)
          have hR2 := rel_word2 (p := (skipTo s k, wordEnd s (skipTo s k))) hBf1 hBc1 hbel1 hown1 hown' hgrow (by simp)
          have HM2 := cellNat_of (hR2.2.2.1.cell 1)
          go_roundw
          case rel => exact ⟨wordEnd s (skipTo s k), _, hle2, hR2.1, hR'.out, by simp; omega, hR2.2.1, hR2.2.2.1, hR2.2.2.2⟩
          case measure => rw [HMk.out, HM2]; omega
      · have hbad : wordEnd s (skipTo s k) = skipTo s k := by have := wordEnd_ge s (skipTo s k); omega
        have HN := hide (show wordR s (skipTo s k) = (s.extract (skipTo s k) (wordEnd s (skipTo s k)), skipTo s k + 1, skipTo s k, false, true) by rw [wordR_in hgo]; simp [hbad])
        have hC := hide (cutRel_bad HR.out hgo hbad)
        have hlt0 := hgo.1
        clear hgo hbad
        obtain ⟨A, cap, rfl⟩ := own_slice hown
        go_wp2_with fail
        refine (word_any s k (w.heap.size + 1) wr hs63 hk hBc).mono ?_
        intro e w1 hq
        unfold WordQ at hq
        rw [HN.out] at hq
        obtain ⟨rfl, hBc1, hgr1⟩ := hq
        have hbel1 : Below w.heap.size w w1 := hbel.grown hgr1 hbel.size (fun j hj => by cases hj; omega)
        have hBf1 : Blk w1 w.heap.size 41 #[.int .i64 0, .int .i64 0, .int .i64 0] := hBf.grown hgr1 (by simp)
        have hown1 := hown.kept hgr1 (by right; intro e; have := (hown.lt _ e).1; omega)
        clear hBf hbel hBc hown hgr1
        have hz : w.heap.size < w1.heap.size := hBf1.lt
        have hzz : w.heap.size + 1 < w1.heap.size := hBc1.lt
        have r0 := hBf1.cell 0
        have r1 := hBf1.cell 1
        have r2 := hBf1.cell 2
        have q0 := hBf1.frozen 0
        have q1 := hBf1.frozen 1
        have q2 := hBf1.frozen 2
        have c0 := hBc1.cell 0
        have c1 := hBc1.cell 1
        simp at r0 r1 r2 c0 c1

        have hsk : skipTo s k ≤ s.size := skipTo_le s k hk
        have hs2 : ((s.size : Nat) : Int) ≤ 9223372036854775807 := by omega
        go_wp2_with fail
        go_region
        go_wp2
        refine bodyPost_ret (v := .tuple #[.slice none 0 0, .agg #[.int .i64 0, .int .i64 ((skipTo s k : Int) + 1), .int .i64 2]]) (by simp [results, Tryd.results89, go_sem, r0, r1, r2, q0, q1, q2, hz]) rfl (cutP_fault hC.out (by simp) (by simp) rfl ?_)
        (repeat (first | exact hbel1 | refine Below.setCell ?_ (by first | exact Nat.le_refl _ | (simp; done) | (simp; omega)) _ | refine Below.alloc ?_ (by first | omega | (simp; done) | (simp; omega)) _ | refine Below.drew ?_ | refine below_drewN ?_ _))
    · skip
      have HN := hide (wordR_end hgo)
      have hC := hide (cutRel_end HR.out hgo)
      clear hgo
      obtain ⟨A, cap, rfl⟩ := own_slice hown
      go_wp2_with fail
      refine (word_any s k (w.heap.size + 1) wr hs63 hk hBc).mono ?_
      intro e w1 hq
      unfold WordQ at hq
      rw [HN.out] at hq
      obtain ⟨rfl, hBc1, hgr1⟩ := hq
      have hbel1 : Below w.heap.size w w1 := hbel.grown hgr1 hbel.size (fun j hj => by cases hj; omega)
      have hBf1 : Blk w1 w.heap.size 41 #[.int .i64 0, .int .i64 0, .int .i64 0] := hBf.grown hgr1 (by simp)
      have hown1 := hown.kept hgr1 (by right; intro e; have := (hown.lt _ e).1; omega)
      clear hBf hbel hBc hown hgr1
      have hz : w.heap.size < w1.heap.size := hBf1.lt
      have hzz : w.heap.size + 1 < w1.heap.size := hBc1.lt
      have r0 := hBf1.cell 0
      have r1 := hBf1.cell 1
      have r2 := hBf1.cell 2
      have q0 := hBf1.frozen 0
      have q1 := hBf1.frozen 1
      have q2 := hBf1.frozen 2
      have c0 := hBc1.cell 0
      have c1 := hBc1.cell 1
      simp at r0 r1 r2 c0 c1

      go_wp2
      refine bodyPost_ret (v := .tuple #[.slice A done.length cap, .agg #[.int .i64 0, .int .i64 0, .int .i64 0]]) (by simp [results, Tryd.results89, go_sem, r0, r1, r2, q0, q1, q2, hz]) rfl (cutP_ok hC.out ?_ ?_)
      · (repeat (first | exact hbel1 | refine Below.setCell ?_ (by first | exact Nat.le_refl _ | (simp; done) | (simp; omega)) _ | refine Below.alloc ?_ (by first | omega | (simp; done) | (simp; omega)) _ | refine Below.drew ?_ | refine below_drewN ?_ _))
      · refine own_low (base' := 2) ?_
        (repeat (first | exact hown1 | refine ownsRow_setCell_below ?_ (by first | omega | (simp; done) | (simp; omega)) _ | refine World.ownsRow.alloc ?_ _))

set_option maxHeartbeats 400000 in
theorem lexCut_any (s : ByteArray) (w : World) (hs63 : s.size ≤ maxLen) :
    Calls Tryd.prog 90 #[.string s] w (CutP s w) := by
  go_enter Tryd.func90, Tryd.ntmps90
  go_wp2_with fail
  refine (lexcut_any s _ hs63).mono ?_
  rintro e w1 ⟨A, c, rfl, hown, hbel⟩
  rw [World.size_alloc] at hown hbel
  have hB0 : Blk w1 w.heap.size 41 #[.int .i64 0, .int .i64 0, .int .i64 0] := (Blk.new w _ _).below hbel (by omega)
  have hb : Below w.heap.size w w1 := ((Below.refl _ w).alloc (Nat.le_refl _) _).trans (hbel.mono (by omega))
  have hz : w.heap.size < w1.heap.size := hB0.lt
  have r0 := hB0.cell 0
  have r1 := hB0.cell 1
  have r2 := hB0.cell 2
  have q0 := hB0.frozen 0
  have q1 := hB0.frozen 1
  have q2 := hB0.frozen 2
  simp at r0 r1 r2
  go_wp2
  refine bodyPost_ret (v := .tuple #[.slice A (cutR s).length c, .agg #[.int .i64 0, .int .i64 ((cutF s).1 : Int), .int .i64 ((cutF s).2 : Int)]]) (by simp [results, Tryd.results90, go_sem, r0, r1, r2, q0, q1, q2, hz]) rfl ⟨A, c, rfl, own_low (base' := 1) ?_, ?_⟩
  · exact ownsRow_setCell_below (ownsRow_setCell_below (ownsRow_setCell_below hown (by simp) _) (by simp) _) (by simp) _
  · exact ((hb.setCell (p := ⟨w.heap.size, 0, none⟩) (Nat.le_refl _) _).setCell (p := ⟨w.heap.size, 1, none⟩) (Nat.le_refl _) _).setCell (p := ⟨w.heap.size, 2, none⟩) (Nat.le_refl _) _
end Go.Proofs.YtiibglkiakhfgaaDoor
