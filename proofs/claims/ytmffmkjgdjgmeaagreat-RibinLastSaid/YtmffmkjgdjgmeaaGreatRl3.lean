import Derived.Test.YtmffmkjgdjgmeaaGreatRl2
import Derived.Shelf.Spec.SlicesInsertGrow
import Derived.Deep.MidRow
import Derived.Lib.RowBridge
import Derived.Laws.CopyOwn
import Derived.Lib.AppendZerosOnto
import Derived.Deep.DeepCutAuto
set_option linter.unusedSimpArgs false
set_option linter.unusedVariables false
namespace Go.Proofs.YtmffmkjgdjgmeaaGreat
open Go.RowKit Go.Sort
theorem RelPreE.d {B : Nat} {Rs : List (Value → World → Prop)} {Ps : Nat → World → Prop} {l : List Oper} {a : Act} {W : World} {i : Nat} {o : Oper} {Dn : Nat → Bool} {A : Act} {w : World} (h : RelPreE B Rs Ps l a W i o Dn A w) (j : Nat) (hj : (o.after.any fun e => Region.binds .any e && e.on == j) = true := by kernel_rfl) : relAt Rs j (A.eval (.tmp (dstOf l j))) w := h.dep j hj
set_option maxHeartbeats 12800000 in
set_option maxRecDepth 100000 in
theorem partition_u32 (blk off cap a b pivot : Nat) (d : Array Int) (w : World) (hH : Holds (Value.int .u32) w blk off d) (hap : a ≤ pivot) (hpb : pivot < b) (hb : b ≤ d.size) (hsz : d.size < 4611686018427387904) :
    Calls Tryz.prog 442 #[.slice (some ⟨blk, off, none⟩) d.size cap, .int .i64 a, .int .i64 b, .int .i64 pivot] w fun e w' =>
      e = .returned (.tuple #[.int .i64 (Sort.partition Sort.ltInt d a b pivot).1, .bool (Sort.partition Sort.ltInt d a b pivot).2.1]) ∧ ∃ n, w' = (putRow (Value.int .u32) w blk off (Sort.partition Sort.ltInt d a b pivot).2.2).drewN n := by
  have hla : a < d.size := (by omega)
  have hlp : pivot < d.size := (by omega)
  obtain ⟨G, hG⟩ : ∃ G : Nat → Int, ∀ j, G j = d[j]! := ⟨fun j => d[j]!, fun _ => rfl⟩
  have ca : w.cell? ⟨blk, off + a, none⟩ = some (.int .u32 (G a)) := (by rw [hG]; exact (hH a hla).1)
  have fa := (hH a hla).2; have cp : w.cell? ⟨blk, off + pivot, none⟩ = some (.int .u32 (G pivot)) := (by rw [hG]; exact (hH pivot hlp).1)
  have fp := (hH pivot hlp).2; obtain ⟨v', hy'⟩ := cell?_setCell_some (w := w) (p := ⟨blk, off + a, none⟩) (x := .int .u32 (G pivot)) (q := ⟨blk, off + pivot, none⟩) cp
  have hw : ((w.setCell ⟨blk, off + a, none⟩ (.int .u32 (G pivot))).setCell ⟨blk, off + pivot, none⟩ (.int .u32 (G a))).drew = (putRow (Value.int .u32) w blk off (Sort.swp d a pivot)).drewN 1 := by
    have e := swap_worldC (Value.int .u32) w blk off d 0 a pivot hla hlp; rw [putRow_self _ w blk off d hH] at e; rw [hG a, hG pivot]; exact e
  have AH : Hid (Holds (Value.int .u32) w blk off d) := hH; have HW0 := Hid.mk' hw; clear hG hH hw
  go_enter Tryz.func442, Tryz.ntmps442
  go_wp2
  go_region
  go_wp2; clear ca fa cp fp hy' v'; have hw := HW0.out; clear HW0
  generalize ((w.setCell ⟨blk, off + a, none⟩ (.int .u32 (G pivot))).setCell ⟨blk, off + pivot, none⟩ (.int .u32 (G a))).drew = W1 at hw ⊢
  obtain ⟨dk, hdk⟩ : ∃ dk, dk = Sort.swp d a pivot := ⟨_, rfl⟩
  obtain ⟨n, hn⟩ : ∃ n : Nat, n = 1 := ⟨_, rfl⟩
  rw [← hdk, ← hn] at hw; clear hn; have hs : dk.size = d.size := (by rw [hdk, size_swp])
  have e1 : ((a : Int) + 1) = ((a + 1 : Nat) : Int) := (by omega)
  have e2 : ((b : Int) - 1) = ((b - 1 : Nat) : Int) := (by omega)
  rw [e1, e2]; clear e1 e2; obtain ⟨i, hi⟩ : ∃ i, i = a + 1 := ⟨_, rfl⟩
  obtain ⟨j, hj⟩ : ∃ j, j = b - 1 := ⟨_, rfl⟩
  rw [← hi, ← hj]; have hai : a < i := (by omega)
  have hij : i ≤ j + 1 := (by omega)
  have hjb : j < b := (by omega)
  have HI := Hid.mk' hi; have HJ := Hid.mk' hj; have HDK := Hid.mk' hdk; clear hi hj hdk
  have hHk : Holds (Value.int .u32) W1 blk off dk := by
    rw [hw]; exact holds_putRow (Value.int .u32) w blk off d dk AH.out hs
  obtain ⟨Gk, hG⟩ : ∃ Gk : Nat → Int, ∀ t, Gk t = dk[t]! := ⟨fun t => dk[t]!, fun _ => rfl⟩
  have hc : ∀ t, t < d.size → W1.cell? ⟨blk, off + t, none⟩ = some (.int .u32 (Gk t)) := fun t ht => by rw [hG]; exact (hHk t (by omega)).1
  have hf : ∀ t, t < d.size → W1.frozen? ⟨blk, off + t, none⟩ = false := fun t ht => (hHk t (by omega)).2; have AG : Hid (∀ t, Gk t = dk[t]!) := hG; have AW : Hid (W1 = (putRow (Value.int .u32) w blk off dk).drewN n) := hw; clear hG hw hHk
  go_loopw [10] (fun vi w1 => ∃ (i' n1 : Nat), vi = .int .i64 i' ∧ i ≤ i' ∧ i' ≤ j + 1 ∧ w1 = W1.drewN n1 ∧
      Hid (Sort.scanUp (fun x => Sort.ltInt x dk[a]!) dk j i' = Sort.scanUp (fun x => Sort.ltInt x dk[a]!) dk j i))
    (fun vi _ => j + 1 - (intOf vi).toNat)
  case atStart => exact ⟨i, 0, rfl, Nat.le_refl _, hij, rfl, rfl⟩
  case round =>
    obtain ⟨i', n1, rfl, hii, hij', hw1, hsc⟩ := hrel; have hcw : ∀ t, t < d.size → wr.cell? ⟨blk, off + t, none⟩ = some (.int .u32 (Gk t)) := fun t ht => by rw [hw1]; exact hc t ht
    have HW1 : Hid (wr = W1.drewN n1) := hw1; clear hw1; by_cases hle : i' ≤ j
    · go_wp2_with fail
      go_big_quiet (first | (go_at_call 440; refine Calls.quiet_of_same (cmp_Less_u32 _ _ _)))
      go_wp2
      ·
        have ht : Sort.ltInt (Gk i') (Gk a) = true := (by assumption)
        go_roundw
        case rel => exact ⟨i' + 1, n1 + nq, by go_num, by omega, by omega, by rw [HW1.out, World.drewN_drewN], (scanUp_go (fun x => Sort.ltInt x dk[a]!) dk j i' hle (by rw [← AG.out a, ← AG.out i']; exact ht)).symm.trans hsc.out⟩
        case measure => simp [intOf]; omega
      ·
        have ht : Sort.ltInt (Gk i') (Gk a) = false := (by assumption)
        have hi2 : Hid (i' = Sort.scanUp (fun x => Sort.ltInt x dk[a]!) dk j i) := (scanUp_end (fun x => Sort.ltInt x dk[a]!) dk j i' (Or.inr (by rw [← AG.out a, ← AG.out i']; exact ht))).symm.trans hsc.out; clear ht; have hw2 : wr.drewN nq = W1.drewN (n1 + nq) := (by rw [HW1.out, World.drewN_drewN])
        clear hcw HW1 hsc
        go_loopw [11] (fun vj w2 => ∃ (j' n2 : Nat), vj = .int .i64 j' ∧ j' ≤ j ∧ i' ≤ j' + 1 ∧ w2 = W1.drewN n2 ∧
            Hid (Sort.scanDown (fun x => !Sort.ltInt x dk[a]!) dk i' j' = Sort.scanDown (fun x => !Sort.ltInt x dk[a]!) dk i' j))
          (fun vj _ => (intOf vj).toNat)
        case atStart => exact ⟨j, n1 + nq, rfl, Nat.le_refl _, hij', hw2, rfl⟩
        case round =>
          clear hw2; obtain ⟨j', n2, rfl, hjj, hij2, hw2, hsd⟩ := hrel; have hcw : ∀ t, t < d.size → wr.cell? ⟨blk, off + t, none⟩ = some (.int .u32 (Gk t)) := fun t ht => by rw [hw2]; exact hc t ht
          have HW2 : Hid (wr = W1.drewN n2) := hw2; clear hw2; by_cases hle2 : i' ≤ j'
          · go_wp2_with fail
            go_big_quiet (first | (go_at_call 440; refine Calls.quiet_of_same (cmp_Less_u32 _ _ _)))
            go_wp2
            ·
              have ht : (!Sort.ltInt (Gk j') (Gk a)) = true := (by assumption)
              go_roundw
              case rel => exact ⟨j' - 1, n2 + nq, by go_num, by omega, by omega, by rw [HW2.out, World.drewN_drewN], (scanDown_go (fun x => !Sort.ltInt x dk[a]!) dk i' j' hle2 (by omega) (by rw [← AG.out a, ← AG.out j']; exact ht)).symm.trans hsd.out⟩
              case measure => simp [intOf]; omega
            ·
              have ht : (!Sort.ltInt (Gk j') (Gk a)) = false := (by assumption)
              have hj2 : Hid (j' = Sort.scanDown (fun x => !Sort.ltInt x dk[a]!) dk i' j) := (scanDown_end (fun x => !Sort.ltInt x dk[a]!) dk i' j' (Or.inr (by rw [← AG.out a, ← AG.out j']; exact ht))).symm.trans hsd.out; clear hcw hsd ht; have hw3 : wr.drewN nq = W1.drewN (n2 + nq) := (by rw [HW2.out, World.drewN_drewN])
              generalize wr.drewN nq = W3 at hw3 ⊢
              have hc3 : ∀ t, t < d.size → W3.cell? ⟨blk, off + t, none⟩ = some (.int .u32 (Gk t)) := fun t ht => by rw [hw3]; exact hc t ht
              have hf3 : ∀ t, t < d.size → W3.frozen? ⟨blk, off + t, none⟩ = false := fun t ht => by rw [hw3]; exact hf t ht
              have HW3 : Hid (W3 = W1.drewN (n2 + nq)) := hw3; clear hw3; obtain ⟨v3, hy3⟩ := cell?_setCell_some (w := W3) (p := ⟨blk, off + i', none⟩) (x := .int .u32 (Gk j')) (q := ⟨blk, off + j', none⟩) (hc3 j' (by omega)); have hlt3 := part_scans_lt Sort.ltInt a i j dk (by omega) hi2.out hj2.out hle2; go_wp2
              go_region
              all_goals go_wp2
              obtain ⟨R, hR⟩ : ∃ R, R = Sort.partLoop Sort.ltInt a (i' + 1) (j' - 1) (Sort.swp dk i' j') := ⟨_, rfl⟩
              have HP : Hid (Sort.partition Sort.ltInt d a b pivot = (R.1, false, Sort.swp R.2 R.1 a)) := (by rw [hR]; exact part_first_go Sort.ltInt d a b pivot HI.out HJ.out HDK.out hi2.out hj2.out (by omega))
              have hw0 : ((W3.setCell ⟨blk, off + i', none⟩ (.int .u32 (Gk j'))).setCell ⟨blk, off + j', none⟩ (.int .u32 (Gk i'))).drew = (putRow (Value.int .u32) w blk off (Sort.swp dk i' j')).drewN (n + (n2 + nq) + 1) := by
                rw [HW3.out, AW.out, World.drewN_drewN, AG.out i', AG.out j']; exact swap_worldC (Value.int .u32) w blk off dk _ i' j' (by omega) (by omega)
              have HR : Hid (R = Sort.partLoop Sort.ltInt a (i' + 1) (j' - 1) (Sort.swp dk i' j')) := hR; clear hR hc hf hc3 hf3 hy3 HW3 AW AG hi2 hj2
              go_loopw [10, 11] (fun vi vj wr => ∃ (i j n : Nat) (dk : Array Int), vi = .int .i64 i ∧ vj = .int .i64 j ∧ a < i ∧ i ≤ j + 1 ∧ j < b ∧ dk.size = d.size ∧ wr = (putRow (Value.int .u32) w blk off dk).drewN n ∧
                  Sort.partLoop Sort.ltInt a i j dk = R)
                (fun vi vj _ => (intOf vj).toNat + 1 - (intOf vi).toNat)
              case atStart => exact ⟨i' + 1, j' - 1, _, Sort.swp dk i' j', by go_num, by go_num, by omega, by omega, by omega, by rw [size_swp]; exact hs, hw0, HR.out.symm⟩
              case round =>
                clear hw0 HR; obtain ⟨i, j, n, dk, rfl, rfl, hai, hij, hjb, hs, hw, heq⟩ := hrel
                rename World => W1
                have AE : Hid (Sort.partLoop Sort.ltInt a i j dk = R) := heq; clear heq
                have hHk : Holds (Value.int .u32) W1 blk off dk := by
                  rw [hw]; exact holds_putRow (Value.int .u32) w blk off d dk AH.out hs
                obtain ⟨Gk, hG⟩ : ∃ Gk : Nat → Int, ∀ t, Gk t = dk[t]! := ⟨fun t => dk[t]!, fun _ => rfl⟩
                have hc : ∀ t, t < d.size → W1.cell? ⟨blk, off + t, none⟩ = some (.int .u32 (Gk t)) := fun t ht => by rw [hG]; exact (hHk t (by omega)).1
                have hf : ∀ t, t < d.size → W1.frozen? ⟨blk, off + t, none⟩ = false := fun t ht => (hHk t (by omega)).2; have AG : Hid (∀ t, Gk t = dk[t]!) := hG; have AW : Hid (W1 = (putRow (Value.int .u32) w blk off dk).drewN n) := hw; clear hG hw hHk; go_wp2
                go_loopw [10] (fun vi w1 => ∃ (i' n1 : Nat), vi = .int .i64 i' ∧ i ≤ i' ∧ i' ≤ j + 1 ∧ w1 = W1.drewN n1 ∧
                    Hid (Sort.scanUp (fun x => Sort.ltInt x dk[a]!) dk j i' = Sort.scanUp (fun x => Sort.ltInt x dk[a]!) dk j i))
                  (fun vi _ => j + 1 - (intOf vi).toNat)
                case atStart => exact ⟨i, 0, rfl, Nat.le_refl _, hij, rfl, rfl⟩
                case round =>
                  obtain ⟨i', n1, rfl, hii, hij', hw1, hsc⟩ := hrel; have hcw : ∀ t, t < d.size → wr.cell? ⟨blk, off + t, none⟩ = some (.int .u32 (Gk t)) := fun t ht => by rw [hw1]; exact hc t ht
                  have HW1 : Hid (wr = W1.drewN n1) := hw1; clear hw1; by_cases hle : i' ≤ j
                  · go_wp2_with fail
                    go_big_quiet (first | (go_at_call 440; refine Calls.quiet_of_same (cmp_Less_u32 _ _ _)))
                    go_wp2
                    ·
                      have ht : Sort.ltInt (Gk i') (Gk a) = true := (by assumption)
                      go_roundw
                      case rel => exact ⟨i' + 1, n1 + nq, by go_num, by omega, by omega, by rw [HW1.out, World.drewN_drewN], (scanUp_go (fun x => Sort.ltInt x dk[a]!) dk j i' hle (by rw [← AG.out a, ← AG.out i']; exact ht)).symm.trans hsc.out⟩
                      case measure => simp [intOf]; omega
                    ·
                      have ht : Sort.ltInt (Gk i') (Gk a) = false := (by assumption)
                      have hi2 : Hid (i' = Sort.scanUp (fun x => Sort.ltInt x dk[a]!) dk j i) := (scanUp_end (fun x => Sort.ltInt x dk[a]!) dk j i' (Or.inr (by rw [← AG.out a, ← AG.out i']; exact ht))).symm.trans hsc.out; clear ht; have hw2 : wr.drewN nq = W1.drewN (n1 + nq) := (by rw [HW1.out, World.drewN_drewN])
                      clear hcw HW1 hsc
                      go_loopw [11] (fun vj w2 => ∃ (j' n2 : Nat), vj = .int .i64 j' ∧ j' ≤ j ∧ i' ≤ j' + 1 ∧ w2 = W1.drewN n2 ∧
                          Hid (Sort.scanDown (fun x => !Sort.ltInt x dk[a]!) dk i' j' = Sort.scanDown (fun x => !Sort.ltInt x dk[a]!) dk i' j))
                        (fun vj _ => (intOf vj).toNat)
                      case atStart => exact ⟨j, n1 + nq, rfl, Nat.le_refl _, hij', hw2, rfl⟩
                      case round =>
                        clear hw2; obtain ⟨j', n2, rfl, hjj, hij2, hw2, hsd⟩ := hrel; have hcw : ∀ t, t < d.size → wr.cell? ⟨blk, off + t, none⟩ = some (.int .u32 (Gk t)) := fun t ht => by rw [hw2]; exact hc t ht
                        have HW2 : Hid (wr = W1.drewN n2) := hw2; clear hw2; by_cases hle2 : i' ≤ j'
                        · go_wp2_with fail
                          go_big_quiet (first | (go_at_call 440; refine Calls.quiet_of_same (cmp_Less_u32 _ _ _)))
                          go_wp2
                          ·
                            have ht : (!Sort.ltInt (Gk j') (Gk a)) = true := (by assumption)
                            go_roundw
                            case rel => exact ⟨j' - 1, n2 + nq, by go_num, by omega, by omega, by rw [HW2.out, World.drewN_drewN], (scanDown_go (fun x => !Sort.ltInt x dk[a]!) dk i' j' hle2 (by omega) (by rw [← AG.out a, ← AG.out j']; exact ht)).symm.trans hsd.out⟩
                            case measure => simp [intOf]; omega
                          ·
                            have ht : (!Sort.ltInt (Gk j') (Gk a)) = false := (by assumption)
                            have hj2 : Hid (j' = Sort.scanDown (fun x => !Sort.ltInt x dk[a]!) dk i' j) := (scanDown_end (fun x => !Sort.ltInt x dk[a]!) dk i' j' (Or.inr (by rw [← AG.out a, ← AG.out j']; exact ht))).symm.trans hsd.out; clear hcw hsd ht; have hw3 : wr.drewN nq = W1.drewN (n2 + nq) := (by rw [HW2.out, World.drewN_drewN])
                            generalize wr.drewN nq = W3 at hw3 ⊢
                            have hc3 : ∀ t, t < d.size → W3.cell? ⟨blk, off + t, none⟩ = some (.int .u32 (Gk t)) := fun t ht => by rw [hw3]; exact hc t ht
                            have hf3 : ∀ t, t < d.size → W3.frozen? ⟨blk, off + t, none⟩ = false := fun t ht => by rw [hw3]; exact hf t ht
                            have HW3 : Hid (W3 = W1.drewN (n2 + nq)) := hw3; clear hw3; obtain ⟨v3, hy3⟩ := cell?_setCell_some (w := W3) (p := ⟨blk, off + i', none⟩) (x := .int .u32 (Gk j')) (q := ⟨blk, off + j', none⟩) (hc3 j' (by omega)); have hlt3 := part_scans_lt Sort.ltInt a i j dk (by omega) hi2.out hj2.out hle2; go_wp2
                            go_region
                            all_goals go_wp2
                            all_goals go_roundw
                            case rel =>
                              refine ⟨i' + 1, j' - 1, n + (n2 + nq) + 1, Sort.swp dk i' j', by go_num, by go_num, by omega, by omega, by omega, by rw [size_swp]; exact hs, ?_, ?_⟩
                              · rw [HW3.out, AW.out, World.drewN_drewN, AG.out i', AG.out j']; exact swap_worldC (Value.int .u32) w blk off dk _ i' j' (by omega) (by omega)
                              · exact (part_go Sort.ltInt a i j dk hi2.out hj2.out (by omega)).symm.trans AE.out
                            case measure => simp [intOf]; omega
                        · go_wp2_with fail
                          go_big_quiet (first | (go_at_call 440; refine Calls.quiet_of_same (cmp_Less_u32 _ _ _)))
                          have hj2 : Hid (j' = Sort.scanDown (fun x => !Sort.ltInt x dk[a]!) dk i' j) := (scanDown_end (fun x => !Sort.ltInt x dk[a]!) dk i' j' (Or.inl hle2)).symm.trans hsd.out; clear hcw hsd; have hw3 : wr.drewN nq = W1.drewN (n2 + nq) := (by rw [HW2.out, World.drewN_drewN])
                          generalize wr.drewN nq = W3 at hw3 ⊢
                          have hc3 : ∀ t, t < d.size → W3.cell? ⟨blk, off + t, none⟩ = some (.int .u32 (Gk t)) := fun t ht => by rw [hw3]; exact hc t ht
                          have hf3 : ∀ t, t < d.size → W3.frozen? ⟨blk, off + t, none⟩ = false := fun t ht => by rw [hw3]; exact hf t ht
                          have HW3 : Hid (W3 = W1.drewN (n2 + nq)) := hw3; clear hw3; obtain ⟨v3, hy3⟩ := cell?_setCell_some (w := W3) (p := ⟨blk, off + j', none⟩) (x := .int .u32 (Gk a)) (q := ⟨blk, off + a, none⟩) (hc3 a (by omega)); have hlj : j' < d.size := (by omega)
                          go_wp2
                          go_region
                          all_goals go_wp2
                          all_goals go_ret2
                          have e : Sort.partition Sort.ltInt d a b pivot = (j', false, Sort.swp dk j' a) := by
                            have e0 := (part_break Sort.ltInt a i j dk hi2.out hj2.out (by omega)).symm.trans AE.out; rw [HP.out, ← e0]
                          refine ⟨?_, n + (n2 + nq) + 1, ?_⟩
                          · rw [e]; rfl
                          · rw [e, HW3.out, AW.out, World.drewN_drewN, AG.out a, AG.out j']; exact swap_worldC (Value.int .u32) w blk off dk _ j' a (by omega) (by omega)
                  · go_wp2_with fail
                    go_big_quiet (first | (go_at_call 440; refine Calls.quiet_of_same (cmp_Less_u32 _ _ _)))
                    go_wp2; have hi2 : Hid (i' = Sort.scanUp (fun x => Sort.ltInt x dk[a]!) dk j i) := (scanUp_end (fun x => Sort.ltInt x dk[a]!) dk j i' (Or.inl hle)).symm.trans hsc.out; have hw2 : wr.drewN nq = W1.drewN (n1 + nq) := (by rw [HW1.out, World.drewN_drewN])
                    clear hcw HW1 hsc
                    go_loopw [11] (fun vj w2 => ∃ (j' n2 : Nat), vj = .int .i64 j' ∧ j' ≤ j ∧ i' ≤ j' + 1 ∧ w2 = W1.drewN n2 ∧
                        Hid (Sort.scanDown (fun x => !Sort.ltInt x dk[a]!) dk i' j' = Sort.scanDown (fun x => !Sort.ltInt x dk[a]!) dk i' j))
                      (fun vj _ => (intOf vj).toNat)
                    case atStart => exact ⟨j, n1 + nq, rfl, Nat.le_refl _, hij', hw2, rfl⟩
                    case round =>
                      clear hw2; obtain ⟨j', n2, rfl, hjj, hij2, hw2, hsd⟩ := hrel; have hcw : ∀ t, t < d.size → wr.cell? ⟨blk, off + t, none⟩ = some (.int .u32 (Gk t)) := fun t ht => by rw [hw2]; exact hc t ht
                      have HW2 : Hid (wr = W1.drewN n2) := hw2; clear hw2; by_cases hle2 : i' ≤ j'
                      · exfalso; omega
                      · go_wp2_with fail
                        go_big_quiet (first | (go_at_call 440; refine Calls.quiet_of_same (cmp_Less_u32 _ _ _)))
                        have hj2 : Hid (j' = Sort.scanDown (fun x => !Sort.ltInt x dk[a]!) dk i' j) := (scanDown_end (fun x => !Sort.ltInt x dk[a]!) dk i' j' (Or.inl hle2)).symm.trans hsd.out; clear hcw hsd; have hw3 : wr.drewN nq = W1.drewN (n2 + nq) := (by rw [HW2.out, World.drewN_drewN])
                        generalize wr.drewN nq = W3 at hw3 ⊢
                        have hc3 : ∀ t, t < d.size → W3.cell? ⟨blk, off + t, none⟩ = some (.int .u32 (Gk t)) := fun t ht => by rw [hw3]; exact hc t ht
                        have hf3 : ∀ t, t < d.size → W3.frozen? ⟨blk, off + t, none⟩ = false := fun t ht => by rw [hw3]; exact hf t ht
                        have HW3 : Hid (W3 = W1.drewN (n2 + nq)) := hw3; clear hw3; obtain ⟨v3, hy3⟩ := cell?_setCell_some (w := W3) (p := ⟨blk, off + j', none⟩) (x := .int .u32 (Gk a)) (q := ⟨blk, off + a, none⟩) (hc3 a (by omega)); have hlj : j' < d.size := (by omega)
                        go_wp2
                        go_region
                        all_goals go_wp2
                        all_goals go_ret2
                        have e : Sort.partition Sort.ltInt d a b pivot = (j', false, Sort.swp dk j' a) := by
                          have e0 := (part_break Sort.ltInt a i j dk hi2.out hj2.out (by omega)).symm.trans AE.out; rw [HP.out, ← e0]
                        refine ⟨?_, n + (n2 + nq) + 1, ?_⟩
                        · rw [e]; rfl
                        · rw [e, HW3.out, AW.out, World.drewN_drewN, AG.out a, AG.out j']; exact swap_worldC (Value.int .u32) w blk off dk _ j' a (by omega) (by omega)
          · go_wp2_with fail
            go_big_quiet (first | (go_at_call 440; refine Calls.quiet_of_same (cmp_Less_u32 _ _ _)))
            have hj2 : Hid (j' = Sort.scanDown (fun x => !Sort.ltInt x dk[a]!) dk i' j) := (scanDown_end (fun x => !Sort.ltInt x dk[a]!) dk i' j' (Or.inl hle2)).symm.trans hsd.out; clear hcw hsd; have hw3 : wr.drewN nq = W1.drewN (n2 + nq) := (by rw [HW2.out, World.drewN_drewN])
            generalize wr.drewN nq = W3 at hw3 ⊢
            have hc3 : ∀ t, t < d.size → W3.cell? ⟨blk, off + t, none⟩ = some (.int .u32 (Gk t)) := fun t ht => by rw [hw3]; exact hc t ht
            have hf3 : ∀ t, t < d.size → W3.frozen? ⟨blk, off + t, none⟩ = false := fun t ht => by rw [hw3]; exact hf t ht
            have HW3 : Hid (W3 = W1.drewN (n2 + nq)) := hw3; clear hw3; obtain ⟨v3, hy3⟩ := cell?_setCell_some (w := W3) (p := ⟨blk, off + j', none⟩) (x := .int .u32 (Gk a)) (q := ⟨blk, off + a, none⟩) (hc3 a (by omega)); have hlj : j' < d.size := (by omega)
            go_wp2
            go_region
            all_goals go_wp2
            all_goals go_ret2
            have e : Sort.partition Sort.ltInt d a b pivot = (j', true, Sort.swp dk j' a) := part_first_break Sort.ltInt d a b pivot HI.out HJ.out HDK.out hi2.out hj2.out (by omega); refine ⟨?_, n + (n2 + nq) + 1, ?_⟩
            · rw [e]; rfl
            · rw [e, HW3.out, AW.out, World.drewN_drewN, AG.out a, AG.out j']; exact swap_worldC (Value.int .u32) w blk off dk _ j' a (by omega) (by omega)
    · go_wp2_with fail
      go_big_quiet (first | (go_at_call 440; refine Calls.quiet_of_same (cmp_Less_u32 _ _ _)))
      go_wp2; have hi2 : Hid (i' = Sort.scanUp (fun x => Sort.ltInt x dk[a]!) dk j i) := (scanUp_end (fun x => Sort.ltInt x dk[a]!) dk j i' (Or.inl hle)).symm.trans hsc.out; have hw2 : wr.drewN nq = W1.drewN (n1 + nq) := (by rw [HW1.out, World.drewN_drewN])
      clear hcw HW1 hsc
      go_loopw [11] (fun vj w2 => ∃ (j' n2 : Nat), vj = .int .i64 j' ∧ j' ≤ j ∧ i' ≤ j' + 1 ∧ w2 = W1.drewN n2 ∧
          Hid (Sort.scanDown (fun x => !Sort.ltInt x dk[a]!) dk i' j' = Sort.scanDown (fun x => !Sort.ltInt x dk[a]!) dk i' j))
        (fun vj _ => (intOf vj).toNat)
      case atStart => exact ⟨j, n1 + nq, rfl, Nat.le_refl _, hij', hw2, rfl⟩
      case round =>
        clear hw2; obtain ⟨j', n2, rfl, hjj, hij2, hw2, hsd⟩ := hrel; have hcw : ∀ t, t < d.size → wr.cell? ⟨blk, off + t, none⟩ = some (.int .u32 (Gk t)) := fun t ht => by rw [hw2]; exact hc t ht
        have HW2 : Hid (wr = W1.drewN n2) := hw2; clear hw2; by_cases hle2 : i' ≤ j'
        · exfalso; omega
        · go_wp2_with fail
          go_big_quiet (first | (go_at_call 440; refine Calls.quiet_of_same (cmp_Less_u32 _ _ _)))
          have hj2 : Hid (j' = Sort.scanDown (fun x => !Sort.ltInt x dk[a]!) dk i' j) := (scanDown_end (fun x => !Sort.ltInt x dk[a]!) dk i' j' (Or.inl hle2)).symm.trans hsd.out; clear hcw hsd; have hw3 : wr.drewN nq = W1.drewN (n2 + nq) := (by rw [HW2.out, World.drewN_drewN])
          generalize wr.drewN nq = W3 at hw3 ⊢
          have hc3 : ∀ t, t < d.size → W3.cell? ⟨blk, off + t, none⟩ = some (.int .u32 (Gk t)) := fun t ht => by rw [hw3]; exact hc t ht
          have hf3 : ∀ t, t < d.size → W3.frozen? ⟨blk, off + t, none⟩ = false := fun t ht => by rw [hw3]; exact hf t ht
          have HW3 : Hid (W3 = W1.drewN (n2 + nq)) := hw3; clear hw3; obtain ⟨v3, hy3⟩ := cell?_setCell_some (w := W3) (p := ⟨blk, off + j', none⟩) (x := .int .u32 (Gk a)) (q := ⟨blk, off + a, none⟩) (hc3 a (by omega)); have hlj : j' < d.size := (by omega)
          go_wp2
          go_region
          all_goals go_wp2
          all_goals go_ret2
          have e : Sort.partition Sort.ltInt d a b pivot = (j', true, Sort.swp dk j' a) := part_first_break Sort.ltInt d a b pivot HI.out HJ.out HDK.out hi2.out hj2.out (by omega); refine ⟨?_, n + (n2 + nq) + 1, ?_⟩
          · rw [e]; rfl
          · rw [e, HW3.out, AW.out, World.drewN_drewN, AG.out a, AG.out j']; exact swap_worldC (Value.int .u32) w blk off dk _ j' a (by omega) (by omega)
theorem partitionOrdered_u32 (blk off cap a b pivot : Nat) (d : Array Int) (w : World) (hH : Holds (Value.int .u32) w blk off d) (hap : a ≤ pivot) (hpb : pivot < b) (hb : b ≤ d.size) (hsz : d.size < 4611686018427387904) :
  Calls Tryz.prog 442 #[.slice (some ⟨blk, off, none⟩) d.size cap, .int .i64 a, .int .i64 b, .int .i64 pivot] w fun e w' =>
   e = .returned (.tuple #[.int .i64 (Sort.partition Sort.ltInt d a b pivot).1, .bool (Sort.partition Sort.ltInt d a b pivot).2.1]) ∧ ∃ n, w' = putRow (Value.int .u32) (Sort.ahead w n) blk off (Sort.partition Sort.ltInt d a b pivot).2.2 :=
 (partition_u32 blk off cap a b pivot d w hH hap hpb hb hsz).mono fun _ _ ⟨he, n, hw⟩ => ⟨he, n, hw⟩
theorem holds_asideU {w : World} {blk off sb so n t : Nat} {d : Array Int} (h : Holds (Value.int .u32) w blk off d) (hne : sb ≠ blk) : Holds (Value.int .u32) (putRow (Value.int .i64) (Sort.ahead w n) sb so (one t)) blk off d := fun j hj =>
 ⟨by rw [cell?_putRow_other _ _ _ _ _ _ (Or.inl (Ne.symm hne))]; exact (h j hj).1, by rw [frozen?_putRow]; exact (h j hj).2⟩
set_option maxHeartbeats 1000000 in
theorem order2_u32 (d : Array Int) (len : Nat) (hlen : d.size = len) (blk off cap a b sb so s : Nat) (w : World) (hH : Holds (Value.int .u32) w blk off d) (ha : a < d.size) (hb : b < d.size)
    (hS : Holds (Value.int .i64) w sb so (one s)) (hs : s < 2 ^ 62) :
    Calls Tryz.prog 453 #[.slice (some ⟨blk, off, none⟩) len cap, .int .i64 a, .int .i64 b, .pointer (some ⟨sb, so, none⟩)] w fun e w' =>
      e = .returned (.tuple #[.int .i64 (order2 ltInt d a b s).1, .int .i64 (order2 ltInt d a b s).2.1]) ∧ ∃ n, w' = putRow (Value.int .i64) (Sort.ahead w n) sb so (one (order2 ltInt d a b s).2.2) := by
  subst hlen
  replace hs : s < 4611686018427387904 := by omega
  have ca := (hH a ha).1; have cb := (hH b hb).1; obtain ⟨cs, fs⟩ := one_cell hS; have ea : d[a]! = d[a] := getElem!_pos d a ha; have eb : d[b]! = d[b] := getElem!_pos d b hb
  go_enter Tryz.func453, Tryz.ntmps453
  go_wp2
  go_region_with (go_at_call 440; refine (cmp_Less_u32 _ _ _).mono ?_; rintro e w' ⟨rfl, rfl⟩)
  all_goals (try go_wp2)
  all_goals first
    | (have hlt : ltInt d[b] d[a] = true := by assumption
       have e2 : order2 ltInt d a b s = (b, a, s + 1) := (by simp [order2, ea, eb, hlt])
       go_ret2
       rw [e2]; refine ⟨rfl, 1, ?_⟩; rw [putRow_ahead, ← one_set hS (s + 1)]; simp [drew_eq_ahead])
    | (have hlt : ltInt d[b] d[a] = false := by assumption
       have e2 : order2 ltInt d a b s = (a, b, s) := (by simp [order2, ea, eb, hlt])
       go_ret2
       rw [e2]; refine ⟨rfl, 1, ?_⟩; rw [putRow_ahead, putRow_self _ _ _ _ _ hS]
       rfl)
set_option maxHeartbeats 1000000 in
set_option maxRecDepth 100000 in
theorem median_u32 (d : Array Int) (len : Nat) (hlen : d.size = len) (blk off cap a b c sb so s : Nat) (w : World) (hH : Holds (Value.int .u32) w blk off d) (ha : a < d.size) (hb : b < d.size) (hc : c < d.size) (hne : sb ≠ blk)
    (hS : Holds (Value.int .i64) w sb so (one s)) (hs : s + 3 < 2 ^ 62) :
    Calls Tryz.prog 451 #[.slice (some ⟨blk, off, none⟩) len cap, .int .i64 a, .int .i64 b, .int .i64 c, .pointer (some ⟨sb, so, none⟩)] w fun e w' =>
      e = .returned (.int .i64 (median ltInt d a b c s).1) ∧ ∃ n, w' = putRow (Value.int .i64) (Sort.ahead w n) sb so (one (median ltInt d a b c s).2) := by
  subst hlen; have l1 := order2_lt d s ha hb; have s1 := order2_swaps d a b s; have l2 := order2_lt d (order2 ltInt d a b s).2.2 l1.2 hc; have s2 := order2_swaps d (order2 ltInt d a b s).2.1 c (order2 ltInt d a b s).2.2
  go_enter Tryz.func451, Tryz.ntmps451
  go_wp2_with (go_at_call_of 453 (Value.int .i64 (b : Int)); refine (order2_u32 d _ rfl blk off cap a b sb so s w hH ha hb hS (by omega)).mono ?_; rintro e w' ⟨rfl, n1, rfl⟩)
  go_wp2_with (go_at_call_of 453 (Value.int .i64 (c : Int)); refine (order2_u32 d _ rfl blk off cap (order2 ltInt d a b s).2.1 c sb so (order2 ltInt d a b s).2.2 _ (holds_asideU hH hne) l1.2 hc (holds_one hS) (by omega)).mono ?_; rintro e w' ⟨rfl, n2, rfl⟩)
  go_wp2_with (go_at_call_of 453 (Value.int .i64 ((order2 ltInt d a b s).1 : Int)); refine (order2_u32 d _ rfl blk off cap (order2 ltInt d a b s).1 (order2 ltInt d (order2 ltInt d a b s).2.1 c (order2 ltInt d a b s).2.2).1 sb so (order2 ltInt d (order2 ltInt d a b s).2.1 c (order2 ltInt d a b s).2.2).2.2 _
    (holds_asideU (holds_asideU hH hne) hne) l1.1 l2.1 (holds_one (holds_one hS)) (by omega)).mono ?_; rintro e w' ⟨rfl, n3, rfl⟩)
  go_ret; refine ⟨rfl, n1 + (n2 + n3), ?_⟩; rw [one_one, one_one]
  rfl
set_option maxHeartbeats 1000000 in
set_option maxRecDepth 100000 in
theorem medianAdjacent_u32 (d : Array Int) (len : Nat) (hlen : d.size = len) (blk off cap a sb so s : Nat) (w : World) (hH : Holds (Value.int .u32) w blk off d) (ha0 : 1 ≤ a) (ha : a + 1 < d.size) (hsz : d.size < 2 ^ 62) (hne : sb ≠ blk)
  (hS : Holds (Value.int .i64) w sb so (one s)) (hs : s + 3 < 2 ^ 62) :
  Calls Tryz.prog 450 #[.slice (some ⟨blk, off, none⟩) len cap, .int .i64 a, .pointer (some ⟨sb, so, none⟩)] w fun e w' =>
   e = .returned (.int .i64 (medianAdjacent ltInt d a s).1) ∧ ∃ n, w' = putRow (Value.int .i64) (Sort.ahead w n) sb so (one (medianAdjacent ltInt d a s).2) := by
 subst hlen
 replace hsz : d.size < 4611686018427387904 := by omega
 go_enter Tryz.func450, Tryz.ntmps450
 go_wp2_with (go_at_call 451; rw [show ((a : Int) - 1) = ((a - 1 : Nat) : Int) by omega, show ((a : Int) + 1) = ((a + 1 : Nat) : Int) by omega]; refine (median_u32 d _ rfl blk off cap (a - 1) a (a + 1) sb so s w hH (by omega) (by omega) ha hne hS hs).mono ?_; rintro e w' ⟨rfl, n1, rfl⟩)
 go_ret; exact ⟨rfl, n1, rfl⟩
theorem counter_growU (w : World) (N S : Nat) : ∃ os, putRow (Value.int .i64) (Sort.ahead (w.alloc (.cells #[.int .i64 0] 3)) N) w.heap.size 0 (one S) = grow (Sort.ahead w N) os := by
 rw [alloc_eq_grow, ahead_grow]; obtain ⟨os, _, h⟩ := putRow_grow_new (Value.int .i64) (Sort.ahead w N) #[.cells #[.int .i64 0] 3] w.heap.size 0 (one S) (Nat.le_refl _); exact ⟨os, h⟩
theorem pivot_world_u32 (blk off cap : Nat) (d : Array Int) (w : World) (hH : Holds (Value.int .u32) w blk off d) (hblk : blk < w.heap.size) (hsz : d.size < 4611686018427387904) :
    ∃ Wc : Nat → Nat → World,
      w.alloc (.cells #[.int .i64 0] 3) = Wc 0 0 ∧
      (∀ N S : Nat, (Wc N S).cell? ⟨w.heap.size, 0, none⟩ = some (.int .i64 (S : Int))) ∧
      (∀ N S : Nat, ∃ os, Wc N S = grow (Sort.ahead w N) os) ∧
      (∀ x s N : Nat, 1 ≤ x → x + 1 < d.size → s + 3 < 4611686018427387904 → Calls Tryz.prog 450 #[.slice (some ⟨blk, off, none⟩) d.size cap, .int .i64 (x : Int), .pointer (some ⟨w.heap.size, 0, none⟩)] (Wc N s) fun e w' =>
        e = .returned (.int .i64 ((medianAdjacent ltInt d x s).1 : Int)) ∧ ∃ N', w' = Wc N' (medianAdjacent ltInt d x s).2) ∧
      (∀ x y z s N : Nat, x < d.size → y < d.size → z < d.size → s + 3 < 4611686018427387904 → Calls Tryz.prog 451 #[.slice (some ⟨blk, off, none⟩) d.size cap, .int .i64 (x : Int), .int .i64 (y : Int), .int .i64 (z : Int), .pointer (some ⟨w.heap.size, 0, none⟩)] (Wc N s) fun e w' =>
        e = .returned (.int .i64 ((median ltInt d x y z s).1 : Int)) ∧ ∃ N', w' = Wc N' (median ltInt d x y z s).2) := by
  have hne : w.heap.size ≠ blk := (by omega)
  have hH0 : Holds (Value.int .u32) (w.alloc (.cells #[.int .i64 0] 3)) blk off d := (by rw [alloc_eq_grow]; exact holds_grow _ _ _ _ _ _ hblk hH)
  have hS0 : Holds (Value.int .i64) (w.alloc (.cells #[.int .i64 0] 3)) w.heap.size 0 (one 0) := fun j hj => by
    obtain rfl : j = 0 := (by simpa using hj)
    simp
  refine ⟨fun N S => putRow (Value.int .i64) (Sort.ahead (w.alloc (.cells #[.int .i64 0] 3)) N) w.heap.size 0 (one S), (putRow_self _ _ _ _ _ hS0).symm, fun N S => (one_cell (holds_one (n := N) (t := S) hS0)).1, fun N S => counter_growU w N S, ?_, ?_⟩
  · intro x s N h1 h2 hs; refine (medianAdjacent_u32 d _ rfl blk off cap x w.heap.size 0 s _ (holds_asideU hH0 hne) h1 h2 (by omega) hne (holds_one hS0) (by omega)).mono ?_; rintro e w' ⟨he, n, hw⟩; exact ⟨he, N + n, by rw [hw, one_one]⟩
  · intro x y z s N h1 h2 h3 hs; refine (median_u32 d _ rfl blk off cap x y z w.heap.size 0 s _ (holds_asideU hH0 hne) h1 h2 h3 hne (holds_one hS0) (by omega)).mono ?_; rintro e w' ⟨he, n, hw⟩; exact ⟨he, N + n, by rw [hw, one_one]⟩
set_option maxRecDepth 100000 in
theorem choosePivot_u32 (blk off cap a b : Nat) (d : Array Int) (w : World) (hH : Holds (Value.int .u32) w blk off d) (hblk : blk < w.heap.size) (hab : a < b) (hb : b ≤ d.size) (hsz : d.size < 4611686018427387904) :
    Calls Tryz.prog 437 #[.slice (some ⟨blk, off, none⟩) d.size cap, .int .i64 a, .int .i64 b] w fun e w' =>
      e = .returned (.tuple #[.int .i64 (choosePivot ltInt d a b).1, .int .i64 (hintCode (choosePivot ltInt d a b).2)]) ∧ ∃ n os, w' = grow (Sort.ahead w n) os := by
  obtain ⟨Wc, hW0, cS, hG, MA, MD⟩ := pivot_world_u32 blk off cap d w hH hblk hsz; clear hH; rw [choosePivot_eq]; obtain ⟨I, hI⟩ : ∃ I : Nat, I = a + (b - a) / 4 * 1 := ⟨_, rfl⟩
  obtain ⟨J, hJ⟩ : ∃ J : Nat, J = a + (b - a) / 4 * 2 := ⟨_, rfl⟩
  obtain ⟨K, hK⟩ : ∃ K : Nat, K = a + (b - a) / 4 * 3 := ⟨_, rfl⟩
  have eI : ((a : Int) + ((b : Int) - (a : Int)) / 4) = (I : Int) := (by omega)
  have eJ : ((a : Int) + ((b : Int) - (a : Int)) / 4 * 2) = (J : Int) := (by omega)
  have eK : ((a : Int) + ((b : Int) - (a : Int)) / 4 * 3) = (K : Int) := (by omega)
  by_cases h8 : b - a ≥ 8
  · by_cases h50 : b - a ≥ 50
    ·
      obtain ⟨i1, s1, h1⟩ : ∃ i1 s1, medianAdjacent ltInt d I 0 = (i1, s1) := ⟨_, _, rfl⟩
      obtain ⟨j1, s2, h2⟩ : ∃ j1 s2, medianAdjacent ltInt d J s1 = (j1, s2) := ⟨_, _, rfl⟩
      obtain ⟨k1, s3, h3⟩ : ∃ k1 s3, medianAdjacent ltInt d K s2 = (k1, s3) := ⟨_, _, rfl⟩
      obtain ⟨p, s, h4⟩ : ∃ p s, median ltInt d i1 j1 k1 s3 = (p, s) := ⟨_, _, rfl⟩
      have hraw : rawPivot ltInt d a b = (p, s) := (by simp only [rawPivot, if_pos h8, if_pos h50, ← hI, ← hJ, ← hK, h1, h2, h3, h4])
      have m1 := medianAdjacent_mem ltInt d I 0; rw [h1] at m1; have m2 := medianAdjacent_mem ltInt d J s1; rw [h2] at m2; have m3 := medianAdjacent_mem ltInt d K s2; rw [h3] at m3; have n1 := medianAdjacent_count ltInt d I 0; rw [h1] at n1; have n2 := medianAdjacent_count ltInt d J s1; rw [h2] at n2; have n3 := medianAdjacent_count ltInt d K s2; rw [h3] at n3; simp only [] at m1 m2 m3 n1 n2 n3
      have c1 : Calls Tryz.prog 450 #[.slice (some ⟨blk, off, none⟩) d.size cap, .int .i64 (I : Int), .pointer (some ⟨w.heap.size, 0, none⟩)] (Wc 0 0) fun e w' => e = .returned (.int .i64 (i1 : Int)) ∧ ∃ N', w' = Wc N' s1 := by
        have h := MA I 0 0 (by omega) (by omega) (by omega); rw [h1] at h; exact h
      have c2 : ∀ N, Calls Tryz.prog 450 #[.slice (some ⟨blk, off, none⟩) d.size cap, .int .i64 (J : Int), .pointer (some ⟨w.heap.size, 0, none⟩)] (Wc N s1) fun e w' => e = .returned (.int .i64 (j1 : Int)) ∧ ∃ N', w' = Wc N' s2 := fun N => by
        have h := MA J s1 N (by omega) (by omega) (by omega); rw [h2] at h; exact h
      have c3 : ∀ N, Calls Tryz.prog 450 #[.slice (some ⟨blk, off, none⟩) d.size cap, .int .i64 (K : Int), .pointer (some ⟨w.heap.size, 0, none⟩)] (Wc N s2) fun e w' => e = .returned (.int .i64 (k1 : Int)) ∧ ∃ N', w' = Wc N' s3 := fun N => by
        have h := MA K s2 N (by omega) (by omega) (by omega); rw [h3] at h; exact h
      have c4 : ∀ N, Calls Tryz.prog 451 #[.slice (some ⟨blk, off, none⟩) d.size cap, .int .i64 (i1 : Int), .int .i64 (j1 : Int), .int .i64 (k1 : Int), .pointer (some ⟨w.heap.size, 0, none⟩)] (Wc N s3) fun e w' => e = .returned (.int .i64 (p : Int)) ∧ ∃ N', w' = Wc N' s := fun N => by
        have h := MD i1 j1 k1 s3 N (by omega) (by omega) (by omega) (by omega); rw [h4] at h; exact h
      rw [hraw]; obtain ⟨Hc, hHc⟩ : ∃ Hc : Int, Hc = hintCode (hintOf s) := ⟨_, rfl⟩
      have hh0 : s = 0 → Hc = 1 := fun h => by rw [hHc, h]; rfl
      have hh12 : s = 12 → Hc = 2 := fun h => by rw [hHc, h]; rfl
      have hhx : s ≠ 0 → s ≠ 12 → Hc = 0 := fun h1 h2 => by rw [hHc]; unfold hintOf; rw [if_neg h1, if_neg h2]; rfl
      show Calls Tryz.prog 437 _ w fun e w' => e = .returned (.tuple #[.int .i64 (p : Int), .int .i64 (hintCode (hintOf s))]) ∧ ∃ n os, w' = grow (Sort.ahead w n) os; rw [← hHc]; clear hHc hraw; clear h1 h2 h3 h4 MA MD hI hJ hK m1 m2 m3
      go_enter Tryz.func437, Tryz.ntmps437
      go_wp2_with (first
        | (go_at_call_has 450 (Value.int .i64 (I : Int)); refine c1.mono ?_; rintro e w' ⟨rfl, N1, rfl⟩)
        | (go_at_call_has 450 (Value.int .i64 (J : Int)); refine (c2 _).mono ?_; rintro e w' ⟨rfl, N2, rfl⟩)
        | (go_at_call_has 450 (Value.int .i64 (K : Int)); refine (c3 _).mono ?_; rintro e w' ⟨rfl, N3, rfl⟩)
        | (go_at_call 451; refine (c4 _).mono ?_; rintro e w' ⟨rfl, N4, rfl⟩))
      all_goals
        go_ret2
        refine ⟨?_, _, hG _ _⟩
        first
          | (have e0 : (s : Int) = 0 := of_beq_int (by assumption)
             rw [hh0 (by omega)]; rfl)
          | (have e1 : (s : Int) = 12 := of_beq_int (by assumption)
             rw [hh12 (by omega)]; rfl)
          | (have e0 : (s : Int) ≠ 0 := of_bne_int (by assumption)
             have e1 : (s : Int) ≠ 12 := of_bne_int (by assumption); rw [hhx (by omega) (by omega)]; rfl)
          | (rw [hh0 (by omega)]; rfl)
    ·
      obtain ⟨p, s, h4⟩ : ∃ p s, median ltInt d I J K 0 = (p, s) := ⟨_, _, rfl⟩
      have hraw : rawPivot ltInt d a b = (p, s) := (by simp only [rawPivot, if_pos h8, if_neg h50, ← hI, ← hJ, ← hK, h4])
      have c4 : Calls Tryz.prog 451 #[.slice (some ⟨blk, off, none⟩) d.size cap, .int .i64 (I : Int), .int .i64 (J : Int), .int .i64 (K : Int), .pointer (some ⟨w.heap.size, 0, none⟩)] (Wc 0 0) fun e w' => e = .returned (.int .i64 (p : Int)) ∧ ∃ N', w' = Wc N' s := by
        have h := MD I J K 0 0 (by omega) (by omega) (by omega) (by omega); rw [h4] at h; exact h
      rw [hraw]; obtain ⟨Hc, hHc⟩ : ∃ Hc : Int, Hc = hintCode (hintOf s) := ⟨_, rfl⟩
      have hh0 : s = 0 → Hc = 1 := fun h => by rw [hHc, h]; rfl
      have hh12 : s = 12 → Hc = 2 := fun h => by rw [hHc, h]; rfl
      have hhx : s ≠ 0 → s ≠ 12 → Hc = 0 := fun h1 h2 => by rw [hHc]; unfold hintOf; rw [if_neg h1, if_neg h2]; rfl
      show Calls Tryz.prog 437 _ w fun e w' => e = .returned (.tuple #[.int .i64 (p : Int), .int .i64 (hintCode (hintOf s))]) ∧ ∃ n os, w' = grow (Sort.ahead w n) os; rw [← hHc]; clear hHc hraw; clear h4 MA MD hI hJ hK
      go_enter Tryz.func437, Tryz.ntmps437
      go_wp2_with (first | (go_at_call 451; refine c4.mono ?_; rintro e w' ⟨rfl, N4, rfl⟩))
      all_goals
        go_ret2
        refine ⟨?_, _, hG _ _⟩
        first
          | (have e0 : (s : Int) = 0 := of_beq_int (by assumption)
             rw [hh0 (by omega)]; rfl)
          | (have e1 : (s : Int) = 12 := of_beq_int (by assumption)
             rw [hh12 (by omega)]; rfl)
          | (have e0 : (s : Int) ≠ 0 := of_bne_int (by assumption)
             have e1 : (s : Int) ≠ 12 := of_bne_int (by assumption); rw [hhx (by omega) (by omega)]; rfl)
          | (rw [hh0 (by omega)]; rfl)
  ·
    obtain ⟨p, hp⟩ : ∃ p : Nat, p = J := ⟨_, rfl⟩
    obtain ⟨s, hs⟩ : ∃ s : Nat, s = 0 := ⟨_, rfl⟩
    have hraw : rawPivot ltInt d a b = (p, s) := (by simp only [rawPivot, if_neg h8, ← hJ, hp, hs])
    rw [hraw]; obtain ⟨Hc, hHc⟩ : ∃ Hc : Int, Hc = hintCode (hintOf s) := ⟨_, rfl⟩
    have hh0 : s = 0 → Hc = 1 := fun h => by rw [hHc, h]; rfl
    have hh12 : s = 12 → Hc = 2 := fun h => by rw [hHc, h]; rfl
    have hhx : s ≠ 0 → s ≠ 12 → Hc = 0 := fun h1 h2 => by rw [hHc]; unfold hintOf; rw [if_neg h1, if_neg h2]; rfl
    show Calls Tryz.prog 437 _ w fun e w' => e = .returned (.tuple #[.int .i64 (p : Int), .int .i64 (hintCode (hintOf s))]) ∧ ∃ n os, w' = grow (Sort.ahead w n) os; rw [← hHc]; clear hHc hraw; subst hp; clear MA MD hI hJ hK; have hW0' : w.alloc (.cells #[.int .i64 0] 3) = Wc 0 s := (by rw [hs]; exact hW0)
    clear hW0
    go_enter Tryz.func437, Tryz.ntmps437
    go_wp2
    all_goals
      go_ret2
      refine ⟨?_, _, hG _ _⟩
      first
        | (have e0 : (s : Int) = 0 := of_beq_int (by assumption)
           rw [hh0 (by omega)]; rfl)
        | (have e1 : (s : Int) = 12 := of_beq_int (by assumption)
           rw [hh12 (by omega)]; rfl)
        | (have e0 : (s : Int) ≠ 0 := of_bne_int (by assumption)
           have e1 : (s : Int) ≠ 12 := of_bne_int (by assumption); rw [hhx (by omega) (by omega)]; rfl)
        | (rw [hh0 (by omega)]; rfl)
theorem xorshift_NextU (rb ro X : Nat) (hX : X < 18446744073709551616) (w : World) (hc : w.cell? ⟨rb, ro, none⟩ = some (.int .u64 X)) (hf : w.frozen? ⟨rb, ro, none⟩ = false) :
  Calls Tryz.prog 410 #[.pointer (some ⟨rb, ro, none⟩)] w fun e w' => e = .returned (.int .u64 (xorNextN X : Nat)) ∧ w' = (w.setCell ⟨rb, ro, none⟩ (.int .u64 (xorNextN X : Nat))).drewN 3 := by
 obtain ⟨A, hA⟩ : ∃ A : Nat, A = X ^^^ (X * 8192 % 18446744073709551616) := ⟨_, rfl⟩
 obtain ⟨B, hB⟩ : ∃ B : Nat, B = A ^^^ (A / 128) := ⟨_, rfl⟩
 obtain ⟨C, hC⟩ : ∃ C : Nat, C = B ^^^ (B * 131072 % 18446744073709551616) := ⟨_, rfl⟩
 have lA : A < 18446744073709551616 := (by rw [hA]; exact Nat.xor_lt_two_pow (n := 64) (by omega) (by omega))
 have lB : B < 18446744073709551616 := (by rw [hB]; exact Nat.xor_lt_two_pow (n := 64) (by omega) (by omega))
 have e1 : bits .xor .u64 (X : Int) (IntKind.u64.wrap ((X : Int) * 8192)) = (A : Int) := by
  rw [IntKind.wrap_u64, show ((X : Int) * 8192 % 18446744073709551616) = ((X * 8192 % 18446744073709551616 : Nat) : Int) by omega, bits_xor_u64_nat _ _ hX (by omega), hA]
 have e2 : bits .xor .u64 (A : Int) ((A : Int) / 128) = (B : Int) := by
  rw [show ((A : Int) / 128) = ((A / 128 : Nat) : Int) by omega, bits_xor_u64_nat _ _ lA (by omega), hB]
 have e3 : bits .xor .u64 (B : Int) (IntKind.u64.wrap ((B : Int) * 131072)) = (C : Int) := by
  rw [IntKind.wrap_u64, show ((B : Int) * 131072 % 18446744073709551616) = ((B * 131072 % 18446744073709551616 : Nat) : Int) by omega, bits_xor_u64_nat _ _ lB (by omega), hC]
 have hv : xorNextN X = C := (by unfold xorNextN; simp only []; rw [← hA, ← hB, ← hC])
 rw [hv]; clear hA hB hC hv; have hss : ∀ v v', (w.setCell ⟨rb, ro, none⟩ v).setCell ⟨rb, ro, none⟩ v' = w.setCell ⟨rb, ro, none⟩ v' := setCell_setCell w rb ro
 go_enter Tryz.func410, Tryz.ntmps410
 go_wp2
 go_region
 all_goals go_wp2
 all_goals go_region
 all_goals go_wp2
 all_goals go_region
 all_goals go_wp2
 go_ret; exact ⟨rfl, rfl⟩
theorem nextPowerOfTwoU (n : Nat) (hn : n < 4611686018427387904) (w : World) :
  Calls Tryz.prog 409 #[.int .i64 n] w fun e w' => e = .returned (.int .u64 ((1 <<< bitsLen n : Nat) : Int)) ∧ w' = w := by
 have hLen : ∀ w, Calls Tryz.prog 282 #[.int .u64 (n : Int)] w fun e w' => e = .returned (.int .i64 (bitsLen n : Nat)) ∧ w' = w := fun w => by
  have h := Tryz.bits_Len (n : Int) w (by omega) (by omega)
  rwa [Int.toNat_natCast, bitLen_eq _ (by omega)] at h
 have hk : bitsLen n ≤ 62 := (bitsLen_le_iff n 62).2 (by omega); have hp := wrap_two_pow (bitsLen n) hk
 go_enter Tryz.func409, Tryz.ntmps409
 go_wp2_with (first | (go_at_call 282; refine (hLen _).mono ?_; rintro e w' ⟨rfl, rfl⟩))
 go_ret; exact ⟨rfl, rfl⟩
set_option maxHeartbeats 1000000 in
set_option maxRecDepth 100000 in
theorem breakPatterns_u32_go (blk off cap a L : Nat) (d : Array Int) (w : World) (hH : Holds (Value.int .u32) w blk off d) (hblk : blk < w.heap.size) (hb : a + L ≤ d.size) (hsz : d.size < 4611686018427387904) (h8 : 8 ≤ L) :
    Calls Tryz.prog 436 #[.slice (some ⟨blk, off, none⟩) d.size cap, .int .i64 a, .int .i64 ((a + L : Nat) : Int)] w fun e w' =>
      e = .returned (.tuple #[]) ∧ ∃ n os, w' = grow (putRow (Value.int .u32) (Sort.ahead w n) blk off (breakPatterns d a (a + L))) os := by
  rw [breakPatterns_eq d a L h8]; obtain ⟨M, hM⟩ : ∃ M : Nat, M = 1 <<< bitsLen L := ⟨_, rfl⟩
  have hM1 : 1 ≤ M := (by rw [hM, Nat.one_shiftLeft]; exact Nat.two_pow_pos _)
  have hM2 : M ≤ 2 * L := (by rw [hM, Nat.one_shiftLeft]; exact two_pow_bitsLen_le (by omega))
  have hNP : ∀ w, Calls Tryz.prog 409 #[.int .i64 (L : Int)] w fun e w' => e = .returned (.int .u64 (M : Int)) ∧ w' = w := (by rw [hM]; exact fun w => nextPowerOfTwoU L (by omega) w)
  rw [← hM]; clear hM; have HH : Hid (Holds (Value.int .u32) w blk off d) := hH
  have HST : Hid (w.alloc (Obj.cells #[.int .u64 (L : Int)] 413) = grow (putRow (Value.int .u32) (Sort.ahead w 0) blk off d) #[Obj.cells #[.int .u64 ((UInt64.ofNat L).toNat : Int)] 413]) := by
    show _ = _; rw [show Sort.ahead w 0 = w from rfl, putRow_self _ _ _ _ _ hH, alloc_eq_grow, show (UInt64.ofNat L).toNat = L from by simp; omega]
  clear hH
  go_enter Tryz.func436, Tryz.ntmps436
  go_wp2_with (first | (go_at_call 409; rw [show ((a : Int) + (L : Int) - (a : Int)) = (L : Int) by omega]; refine (hNP _).mono ?_; rintro e w' ⟨rfl, rfl⟩))
  go_loopw [9] (fun vi wr => ∃ (t n : Nat) (r : UInt64) (dk : Array Int), vi = .int .i64 ((a + L / 4 * 2 - 1 + t : Nat) : Int) ∧ t ≤ 3 ∧ dk.size = d.size ∧
      wr = grow (putRow (Value.int .u32) (Sort.ahead w n) blk off dk) #[Obj.cells #[.int .u64 (r.toNat : Int)] 413] ∧
      bpRest a L M (a + L / 4 * 2 - 1) (3 - t) t (r, dk) = bpRest a L M (a + L / 4 * 2 - 1) 3 0 (UInt64.ofNat L, d)) (fun vi _ => a + L / 4 * 2 + 3 - (intOf vi).toNat)
  case atStart => exact ⟨0, 0, UInt64.ofNat L, d, by congr 1; omega, by omega, rfl, HST.out, rfl⟩
  case round =>
    obtain ⟨t, n, r, dk, rfl, ht, hsk, hw, hR⟩ := hrel; obtain ⟨R, hRr⟩ : ∃ R : Nat, R = r.toNat := ⟨_, rfl⟩
    have lR : R < 18446744073709551616 := (by rw [hRr]; exact r.toNat_lt)
    obtain ⟨R', hR'⟩ : ∃ R' : Nat, R' = xorNextN R := ⟨_, rfl⟩
    have lR' : R' < 18446744073709551616 := (by rw [hR']; exact xorNextN_lt R lR)
    obtain ⟨O, hO⟩ : ∃ O : Nat, O = R' &&& (M - 1) := ⟨_, rfl⟩
    have lO : O ≤ M - 1 := (by rw [hO]; exact Nat.and_le_right)
    have eAnd : bits .and .u64 (R' : Int) ((M : Int) - 1) = (O : Int) := by
      rw [show ((M : Int) - 1) = ((M - 1 : Nat) : Int) by omega, bits_and_u64_nat _ _ lR' (by omega), hO]
    obtain ⟨G, hG⟩ : ∃ G : Nat → Int, ∀ x, G x = dk[x]! := ⟨fun x => dk[x]!, fun _ => rfl⟩
    have hz : (putRow (Value.int .u32) (Sort.ahead w n) blk off dk).heap.size = w.heap.size := (by simp)
    have hcw : ∀ x, x < d.size → wr.cell? ⟨blk, off + x, none⟩ = some (.int .u32 (G x)) := fun x hx => by
      rw [hw, cell?_grow _ _ _ (by rw [hz]; exact hblk), hG]; exact cell?_putRow _ _ _ _ d dk (holds_ahead _ _ _ _ _ _ HH.out) hsk x (by omega)
    have hfw : ∀ x, x < d.size → wr.frozen? ⟨blk, off + x, none⟩ = false := fun x hx => by
      rw [hw, frozen?_grow _ _ _ (by rw [hz]; exact hblk), frozen?_putRow]; exact ((holds_ahead _ _ n _ _ _ HH.out) x hx).2
    have hcB : wr.cell? ⟨w.heap.size, 0, none⟩ = some (.int .u64 (R : Int)) := (by rw [hw, hRr, ← hz]; exact grow_one_cell _ _ _)
    have hfB : wr.frozen? ⟨w.heap.size, 0, none⟩ = false := (by rw [hw, ← hz]; exact grow_one_frozen _ _ _)
    have hNext : Calls Tryz.prog 410 #[.pointer (some ⟨w.heap.size, 0, none⟩)] wr fun e w' => e = .returned (.int .u64 (R' : Int)) ∧ w' = (wr.setCell ⟨w.heap.size, 0, none⟩ (.int .u64 (R' : Int))).drewN 3 := by
      rw [hR']; exact xorshift_NextU _ _ R lR wr hcB hfB
    have HW : Hid (wr = grow (putRow (Value.int .u32) (Sort.ahead w n) blk off dk) #[Obj.cells #[.int .u64 (r.toNat : Int)] 413]) := hw; have HG : Hid (∀ x, G x = dk[x]!) := hG; have HR : Hid (bpRest a L M (a + L / 4 * 2 - 1) (3 - t) t (r, dk) = bpRest a L M (a + L / 4 * 2 - 1) 3 0 (UInt64.ofNat L, d)) := hR
    have HN : Hid (R' = (xorNext r).toNat ∧ O = (xorNext r).toNat &&& (M - 1)) := by
      have e : R' = (xorNext r).toNat := (by rw [hR', hRr, xorNext_toNat])
      exact ⟨e, by rw [hO, e]⟩
    clear hw hG hR hRr hR' hO
    go_wp2_with (first | (go_at_call 410; refine hNext.mono ?_; rintro e w' ⟨rfl, rfl⟩))
    ·
      have hLO : L ≤ O := (by omega)
      by_cases hEq : a + L / 4 * 2 - 1 + t = a + (O - L)
      all_goals
        go_region
        all_goals go_wp2
        go_roundw
        case rel =>
          refine ⟨t + 1, n + 4, xorNext r, swp dk (a + L / 4 * 2 - 1 + t) (a + (O - L)), by first | rfl | (congr 1 <;> omega), by omega, by rw [size_swp]; exact hsk, ?_, ?_⟩
          · (try rw [hEq])
            rw [HW.out, HN.out.1]; simp only [HG.out]; exact step_world (Value.int .u32) w n 4 blk off dk _ _ hblk (by omega) (by omega) _ _ _
          · rw [← HR.out, bp_step a L M _ t r dk (O - L) (by omega) (by rw [← HN.out.2, if_pos (by omega)])]
        case measure => simp [intOf]; omega
    · have hLO : ¬ L ≤ O := (by omega)
      by_cases hEq : a + L / 4 * 2 - 1 + t = a + O
      all_goals
        go_region
        all_goals go_wp2
        go_roundw
        case rel =>
          refine ⟨t + 1, n + 4, xorNext r, swp dk (a + L / 4 * 2 - 1 + t) (a + O), by first | rfl | (congr 1 <;> omega), by omega, by rw [size_swp]; exact hsk, ?_, ?_⟩
          · (try rw [hEq])
            rw [HW.out, HN.out.1]; simp only [HG.out]; exact step_world (Value.int .u32) w n 4 blk off dk _ _ hblk (by omega) (by omega) _ _ _
          · rw [← HR.out, bp_step a L M _ t r dk O (by omega) (by rw [← HN.out.2, if_neg (by omega)])]
        case measure => simp [intOf]; omega
    ·
      obtain rfl : t = 3 := (by omega)
      go_end0
      exact ⟨rfl, n, _, by rw [← HR.out, HW.out]; rfl⟩
theorem breakPatterns_u32 (blk off cap a b : Nat) (d : Array Int) (w : World) (hH : Holds (Value.int .u32) w blk off d) (hblk : blk < w.heap.size) (hab : a ≤ b) (hb : b ≤ d.size) (hsz : d.size < 4611686018427387904) :
  Calls Tryz.prog 436 #[.slice (some ⟨blk, off, none⟩) d.size cap, .int .i64 a, .int .i64 b] w fun e w' =>
   e = .returned (.tuple #[]) ∧ ∃ n os, w' = grow (putRow (Value.int .u32) (Sort.ahead w n) blk off (breakPatterns d a b)) os := by
 obtain ⟨L, rfl⟩ : ∃ L, b = a + L := ⟨b - a, by omega⟩
 by_cases h8 : 8 ≤ L
 ·exact breakPatterns_u32_go blk off cap a L d w hH hblk hb hsz h8
 ·have hv : breakPatterns d a (a + L) = d := (by unfold breakPatterns; simp only [Nat.add_sub_cancel_left]; rw [if_neg h8])
  rw [hv]
  have HST : Hid (w = grow (putRow (Value.int .u32) (Sort.ahead w 0) blk off d) #[]) := by
   show _ = _; rw [grow_empty, show Sort.ahead w 0 = w from rfl, putRow_self _ _ _ _ _ hH]
  clear hH
  go_enter Tryz.func436, Tryz.ntmps436
  go_wp2
  go_end0
  exact ⟨rfl, 0, #[], HST.out⟩
structure Callees13U : Prop where
  ins : ∀ (blk off cap a b : Nat) (d : Array Int) (w : World), Holds encU w blk off d → a ≤ b → b ≤ d.size → d.size < 4611686018427387904 →
    Calls Tryz.prog 434 #[.slice (some ⟨blk, off, none⟩) d.size cap, .int .i64 a, .int .i64 b] w fun e w' => e = .returned (.tuple #[]) ∧ ∃ n, w' = putRow encU (Sort.ahead w n) blk off (insertionSort ltInt d a b)
  brk : ∀ (blk off cap a b : Nat) (d : Array Int) (w : World), Holds encU w blk off d → blk < w.heap.size → a ≤ b → b ≤ d.size → d.size < 4611686018427387904 →
    Calls Tryz.prog 436 #[.slice (some ⟨blk, off, none⟩) d.size cap, .int .i64 a, .int .i64 b] w fun e w' => e = .returned (.tuple #[]) ∧ ∃ n os, w' = grow (putRow encU (Sort.ahead w n) blk off (breakPatterns d a b)) os
  piv : ∀ (blk off cap a b : Nat) (d : Array Int) (w : World), Holds encU w blk off d → blk < w.heap.size → a < b → b ≤ d.size → d.size < 4611686018427387904 →
    Calls Tryz.prog 437 #[.slice (some ⟨blk, off, none⟩) d.size cap, .int .i64 a, .int .i64 b] w fun e w' => e = .returned (.tuple #[.int .i64 (choosePivot ltInt d a b).1, .int .i64 (hintCode (choosePivot ltInt d a b).2)]) ∧ ∃ n os, w' = grow (Sort.ahead w n) os
  par : ∀ (blk off cap a b : Nat) (d : Array Int) (w : World), Holds encU w blk off d → a < b → b ≤ d.size → d.size < 4611686018427387904 →
    Calls Tryz.prog 439 #[.slice (some ⟨blk, off, none⟩) d.size cap, .int .i64 a, .int .i64 b] w fun e w' => e = .returned (.bool (partialInsertionSort ltInt d a b).2) ∧ ∃ n, w' = putRow encU (Sort.ahead w n) blk off (partialInsertionSort ltInt d a b).1
  peq : ∀ (blk off cap a b pivot : Nat) (d : Array Int) (w : World), Holds encU w blk off d → a ≤ pivot → pivot < b → b ≤ d.size → d.size < 4611686018427387904 →
    Calls Tryz.prog 441 #[.slice (some ⟨blk, off, none⟩) d.size cap, .int .i64 a, .int .i64 b, .int .i64 pivot] w fun e w' => e = .returned (.int .i64 (partitionEqual ltInt d a b pivot).1) ∧ ∃ n, w' = putRow encU (Sort.ahead w n) blk off (partitionEqual ltInt d a b pivot).2
  prt : ∀ (blk off cap a b pivot : Nat) (d : Array Int) (w : World), Holds encU w blk off d → a ≤ pivot → pivot < b → b ≤ d.size → d.size < 4611686018427387904 →
    Calls Tryz.prog 442 #[.slice (some ⟨blk, off, none⟩) d.size cap, .int .i64 a, .int .i64 b, .int .i64 pivot] w fun e w' => e = .returned (.tuple #[.int .i64 (partition ltInt d a b pivot).1, .bool (partition ltInt d a b pivot).2.1]) ∧ ∃ n, w' = putRow encU (Sort.ahead w n) blk off (partition ltInt d a b pivot).2.2
set_option maxHeartbeats 6400000 in
set_option maxRecDepth 1000000 in
theorem pdqsort_u32 (C : Callees13U) (S : Plain13) : ∀ (N blk off cap a b limit : Nat) (d : Array Int) (w : World), b - a < N → Holds encU w blk off d → blk < w.heap.size → a ≤ b → b ≤ d.size → d.size < 4611686018427387904 → limit < 4611686018427387904 → Below ltInt a b d →
    Calls Tryz.prog 420 #[.slice (some ⟨blk, off, none⟩) d.size cap, .int .i64 a, .int .i64 b, .int .i64 limit] w fun e w' => e = .returned (.tuple #[]) ∧ At encU w blk off (pdq ltInt d a b limit true true) w' := by
  intro N
  induction N with
  | zero => intro _ _ _ _ _ _ _ _ h; exact absurd h (Nat.not_lt_zero _)
  | succ N ih =>
    intro blk off cap a b limit d w hN hH hblk hab hb hsz hlimit hBel0
    go_enter Tryz.func420, Tryz.ntmps420
    go_wp2
    go_loopg [1, 2, 3, 8, 9] (b - a) (fun k s1 s2 s3 s8 s9 wr => ∃ (a' b' lim : Nat) (wb wp : Bool) (dk : Array Int), s1 = .int .i64 a' ∧ s2 = .int .i64 b' ∧ s3 = .int .i64 lim ∧ s8 = .bool wb ∧ s9 = .bool wp ∧
      a' ≤ b' ∧ b' ≤ d.size ∧ b' - a' ≤ k ∧ k ≤ b - a ∧ lim ≤ limit ∧ dk.size = d.size ∧ Below ltInt a' b' dk ∧ At encU w blk off dk wr ∧ pdq ltInt dk a' b' lim wb wp = pdq ltInt d a b limit true true)
    case atStart => exact ⟨a, b, limit, true, true, d, rfl, rfl, rfl, rfl, rfl, hab, hb, Nat.le_refl _, Nat.le_refl _, Nat.le_refl _, rfl, hBel0, At.refl hH, rfl⟩
    case round =>
      obtain ⟨a', b', lim, wb, wp, dk, rfl, rfl, rfl, rfl, rfl, hab', hb', hk, hkN, hlim, hds, hBel, hAt, heq⟩ := hrel; obtain ⟨hHk, hblk'⟩ := hAt.holds hH hds hblk; have A : Aside (pdq ltInt dk a' b' lim wb wp = pdq ltInt d a b limit true true) := heq; clear heq; by_cases h12 : b' - a' ≤ 12
      ·
        have h12z : (b' : Int) - (a' : Int) ≤ 12 := (by omega)
        have hc := C.ins blk off cap a' b' dk wr hHk hab' (by omega) (by omega); rw [hds] at hc
        go_wp2_with (go_at_call 434; refine hc.mono ?_; rintro e w1 ⟨rfl, hw1⟩)
        (try simp only [Exit.inBlock, Exit.then]); refine bodyPost_ret (results_none rfl _ _ _) rfl ?_
        refine ⟨rfl, ?_⟩; rw [← A.out, pdq_small h12]; exact hAt.step hblk (S.ins S.swo dk a' b' hab' (by omega)).1.1 hw1
      · have h12z : ¬ ((b' : Int) - (a' : Int) ≤ 12) := (by omega)
        by_cases hl0 : lim = 0
        ·
          subst hl0; have hc := heapSort_u32 blk off d.size cap dk hds a' b' wr hHk hab' (by omega) (by omega)
          go_wp2_with (go_at_call 435; refine hc.mono ?_; rintro e w1 ⟨rfl, hw1⟩)
          (try simp only [Exit.inBlock, Exit.then]); refine bodyPost_ret (results_none rfl _ _ _) rfl ?_
          refine ⟨rfl, ?_⟩; rw [← A.out, pdq_heap h12 rfl]; exact hAt.step hblk (heapSort_holds S.swo dk a' b' hab' (by omega)).1.1 hw1
        · have hl0z : ¬ ((lim : Int) = 0) := (by omega)
          obtain ⟨s1, B1, hc1, s2, B2, hpv, s3, B3⟩ := rd_facts (limit := lim) (wb := wb) (wp := wp) S.swo S.par reverseRange_holds (show a' < b' by omega) (show b' ≤ dk.size by omega) hBel
          go_upto_if 35 with fail
          go_cut [3] from 19 (fun s3 wc => s3 = .int .i64 (rd ltInt dk a' b' lim wb wp).lim ∧ At encU w blk off (rd ltInt dk a' b' lim wb wp).d1 wc)
          case first =>
            cases wb
            · have hc := C.brk blk off cap a' b' dk wr hHk hblk' hab' (by omega) (by omega); rw [hds] at hc
              go_wp2_with (go_at_call 436; refine hc.mono ?_; rintro e w1 ⟨rfl, hw1⟩)
              go_meet
              case rel =>
                refine ⟨?_, hAt.stepG hblk s1 hw1⟩; show Value.int .i64 ((lim : Int) - 1) = Value.int .i64 ((lim - 1 : Nat) : Int)
                congr 1
                omega
            · go_wp2_with fail
              go_meet
              case rel => exact ⟨rfl, hAt⟩
          case rest =>
            obtain ⟨rfl, hAt1⟩ := hcut; obtain ⟨hH1, hblk1⟩ := hAt1.holds hH (s1.trans hds) hblk
            have hc17 : Calls Tryz.prog 437 #[.slice (some ⟨blk, off, none⟩) d.size cap, .int .i64 a', .int .i64 b'] wc fun e w' => e = .returned (.tuple #[.int .i64 (rd ltInt dk a' b' lim wb wp).c.1, .int .i64 (hintCode (rd ltInt dk a' b' lim wb wp).c.2)]) ∧ ∃ n os, w' = grow (Sort.ahead wc n) os := by
              have := C.piv blk off cap a' b' (rd ltInt dk a' b' lim wb wp).d1 wc hH1 hblk1 (by omega) (by omega) (by omega); rw [s1, hds] at this; exact this
            go_upto_if 50 with (go_at_call 437; refine hc17.mono ?_; rintro e w2 ⟨rfl, hw2⟩)
            have hAt2 : At encU w blk off (rd ltInt dk a' b' lim wb wp).d1 w2 := hAt1.same hH (s1.trans hds) hblk hw2; obtain ⟨hH2, hblk2⟩ := hAt2.holds hH (s1.trans hds) hblk
            go_cut [11, 12] from 19 (fun s11 s12 wc => s11 = .int .i64 (rd ltInt dk a' b' lim wb wp).pivot ∧ s12 = .int .i64 (hintCode (rd ltInt dk a' b' lim wb wp).hint) ∧ At encU w blk off (rd ltInt dk a' b' lim wb wp).d2 wc)
            case first =>
              by_cases hh : (rd ltInt dk a' b' lim wb wp).c.2 = .decreasing
              · have hcode : hintCode (rd ltInt dk a' b' lim wb wp).c.2 = 2 := (by rw [hh]; rfl)
                obtain ⟨e2, epv, eht⟩ := rd_dec hh; have hc18 := reverseRange_u32 blk off cap (rd ltInt dk a' b' lim wb wp).d1 a' b' w2 hH2 hab' (by omega) (by omega); rw [s1, hds] at hc18
                go_wp2_with (go_at_call 438; refine hc18.mono ?_; rintro e w3 ⟨rfl, hw3⟩)
                go_meet
                case rel =>
                  refine ⟨?_, by rw [eht]; rfl, by rw [e2]; exact hAt2.step hblk (by rw [← e2, s2, s1]) hw3⟩; rw [epv]
                  congr 1
                  omega
              · have hcode : ¬ (hintCode (rd ltInt dk a' b' lim wb wp).c.2 = 2) := fun h => hh (hintCode_two h); obtain ⟨e2, epv, eht⟩ := rd_not hh
                go_wp2_with fail
                go_meet
                case rel => exact ⟨by rw [epv], by rw [eht], by rw [e2]; exact hAt2⟩
            case rest =>
              obtain ⟨rfl, rfl, hAt3⟩ := hcut; obtain ⟨hH3, hblk3⟩ := hAt3.holds hH (s2.trans hds) hblk
              go_upto_region 15 with fail
              go_cut [12, 68] from 19 (fun s12 s68 wx => s12 = .int .i64 (hintCode (rd ltInt dk a' b' lim wb wp).hint) ∧ s68 = .bool (wb && wp && decide ((rd ltInt dk a' b' lim wb wp).hint = .increasing)) ∧ wx = wc)
              case first =>
                cases wb <;> cases wp <;> cases hh3 : (rd ltInt dk a' b' lim _ _).hint <;>
                  (have hcode3 := congrArg hintCode hh3
                   simp only [hintCode] at hcode3
                   go_wp2_with fail
                   go_meet
                   exact ⟨by simp [hh3, hintCode], by simp [hh3, hintCode], rfl⟩)
              case rest =>
                obtain ⟨rfl, rfl, rfl⟩ := hcut
                go_upto_if 68 with fail
                go_cut [] from 19 (fun wx => (rd ltInt dk a' b' lim wb wp).pi.2 = false ∧ At encU w blk off (rd ltInt dk a' b' lim wb wp).pi.1 wx)
                case first =>
                  cases h68 : (wb && wp && decide ((rd ltInt dk a' b' lim wb wp).hint = .increasing))
                  · have epi := rd_pi_no h68
                    go_wp2_with fail
                    go_meet
                    case rel => exact ⟨by rw [epi], by rw [epi]; exact hAt3⟩
                  · have epi := rd_pi_yes h68; have hc19 := C.par blk off cap a' b' (rd ltInt dk a' b' lim wb wp).d2 wc hH3 (by omega) (by omega) (by omega); rw [s2, hds, ← epi] at hc19
                    go_wp2_with (go_at_call 439; refine hc19.mono ?_; rintro e w4 ⟨rfl, hw4⟩)
                    all_goals first
                      | (have hp2 : (rd ltInt dk a' b' lim wb wp).pi.2 = false := by rw [epi]; assumption
                         go_meet
                         exact ⟨hp2, hAt3.step hblk (by rw [s3, s2]) hw4⟩)
                      | (have hp2 : (rd ltInt dk a' b' lim wb wp).pi.2 = true := by rw [epi]; assumption
                         (try simp only [Exit.inBlock, Exit.then]); refine bodyPost_ret (results_none rfl _ _ _) rfl ?_
                         refine ⟨rfl, ?_⟩; rw [← A.out, pdq_done h12 hl0 hp2]; exact hAt3.step hblk (by rw [s3, s2]) hw4)
                case rest =>
                  obtain ⟨hp2, hAt5⟩ := hcut; obtain ⟨hH5, hblk5⟩ := hAt5.holds hH (s3.trans hds) hblk; have hcw : ∀ t, t < d.size → wc.cell? ⟨blk, off + t, none⟩ = some (.int .u32 (rd ltInt dk a' b' lim wb wp).pi.1[t]!) := fun t ht => (hH5 t (by omega)).1; have hfw : ∀ t, t < d.size → wc.frozen? ⟨blk, off + t, none⟩ = false := fun t ht => (hH5 t (by omega)).2
                  go_upto_region 17 with fail
                  go_cut [87] from 19 (fun s87 wx => s87 = .bool (decide (a' > 0) && !ltInt (rd ltInt dk a' b' lim wb wp).pi.1[a' - 1]! (rd ltInt dk a' b' lim wb wp).pi.1[(rd ltInt dk a' b' lim wb wp).pivot]!) ∧ At encU w blk off (rd ltInt dk a' b' lim wb wp).pi.1 wx)
                  case first =>
                    rcases Nat.eq_zero_or_pos a' with ha0 | ha0
                    · have ha0z : decide ((a' : Int) > 0) = false := decide_eq_false (by omega)
                      go_big_quiet (first | (go_at_call 440; refine Calls.quiet_of_same (cmp_Less_u32 _ _ _)))
                      go_wp2_with fail
                      go_meet
                      case rel => exact ⟨by simp [ha0], hAt5.ahead nq⟩
                    · have ha0z : (a' : Int) > 0 := (by omega)
                      go_big_quiet (first | (go_at_call 440; refine Calls.quiet_of_same (cmp_Less_u32 _ _ _)))
                      go_wp2_with fail
                      go_meet
                      case rel => exact ⟨by simp [ha0], hAt5.ahead nq⟩
                  case rest =>
                    obtain ⟨rfl, hAt6⟩ := hcut; obtain ⟨hH6, hblk6⟩ := hAt6.holds hH (s3.trans hds) hblk; clear hcw hfw
                    cases h87 : (decide (a' > 0) && !ltInt (rd ltInt dk a' b' lim wb wp).pi.1[a' - 1]! (rd ltInt dk a' b' lim wb wp).pi.1[(rd ltInt dk a' b' lim wb wp).pivot]!)
                    ·
                      obtain ⟨mid, ap, d4, hx⟩ : ∃ mid ap d4, partition ltInt (rd ltInt dk a' b' lim wb wp).pi.1 a' b' (rd ltInt dk a' b' lim wb wp).pivot = (mid, ap, d4) := ⟨(partition ltInt (rd ltInt dk a' b' lim wb wp).pi.1 a' b' (rd ltInt dk a' b' lim wb wp).pivot).1, (partition ltInt (rd ltInt dk a' b' lim wb wp).pi.1 a' b' (rd ltInt dk a' b' lim wb wp).pivot).2.1, (partition ltInt (rd ltInt dk a' b' lim wb wp).pi.1 a' b' (rd ltInt dk a' b' lim wb wp).pivot).2.2, rfl⟩
                      obtain ⟨r1, r2, r3, r4, r5, r6, r7⟩ := round_part S.swo S.prt hpv.1 hpv.2 (show b' ≤ (rd ltInt dk a' b' lim wb wp).pi.1.size by omega) B3 hx; have hc22 := C.prt blk off cap a' b' (rd ltInt dk a' b' lim wb wp).pivot (rd ltInt dk a' b' lim wb wp).pi.1 wc hH6 hpv.1 hpv.2 (by omega) (by omega); rw [s3, hds, hx] at hc22; have X : Aside (partition ltInt (rd ltInt dk a' b' lim wb wp).pi.1 a' b' (rd ltInt dk a' b' lim wb wp).pivot = (mid, ap, d4)) := hx; clear hx
                      go_upto_if 113 with (go_at_call 442; refine hc22.mono ?_; rintro e w7 ⟨rfl, hw7⟩)
                      have hx := X.out; have hAt7 : At encU w blk off d4 w7 := hAt6.step hblk r3 hw7; obtain ⟨hH7, hblk7⟩ := hAt7.holds hH (r3.trans (s3.trans hds)) hblk; by_cases h4 : mid - a' < b' - mid
                      · have h4z : (mid : Int) - (a' : Int) < (b' : Int) - (mid : Int) := (by omega)
                        have hih := ih blk off cap a' mid (rd ltInt dk a' b' lim wb wp).lim d4 w7 (by omega) hH7 hblk7 (by omega) (by omega) (by omega) (Nat.lt_of_le_of_lt (Nat.le_trans rd_lim_le hlim) hlimit) r4; rw [r3, s3, hds] at hih; obtain ⟨pL, sL⟩ := S.pdq S.swo d4 a' mid (rd ltInt dk a' b' lim wb wp).lim true true (by omega) (by omega) r4
                        go_wp2_with (go_at_call 420; refine hih.mono ?_; rintro e w8 ⟨rfl, hw8⟩)
                        go_roundg (b' - (mid + 1))
                        case measure => omega
                        case rel =>
                          refine ⟨mid + 1, b', (rd ltInt dk a' b' lim wb wp).lim, decide (mid - a' ≥ (b' - a') / 8), ap, pdq ltInt d4 a' mid (rd ltInt dk a' b' lim wb wp).lim true true, by simp, rfl, rfl, ?_, rfl, by omega, by omega, Nat.le_refl _, by omega, Nat.le_trans rd_lim_le hlim, by rw [pL.1, r3, s3, hds], (r6 _ pL sL).1, hAt7.stepG hblk pL.1 hw8, ?_⟩
                          · exact congrArg Value.bool (eighth (by omega) (by omega))
                          · rw [← A.out, pdq_left h12 hl0 hp2 h87 (by rw [hx]; exact ⟨r1, r2⟩) (by rw [hx]; exact h4), hx]
                      · have h4z : ¬ ((mid : Int) - (a' : Int) < (b' : Int) - (mid : Int)) := (by omega)
                        have hih := ih blk off cap (mid + 1) b' (rd ltInt dk a' b' lim wb wp).lim d4 w7 (by omega) hH7 hblk7 (by omega) (by omega) (by omega) (Nat.lt_of_le_of_lt (Nat.le_trans rd_lim_le hlim) hlimit) r5; rw [r3, s3, hds] at hih; obtain ⟨pL, sL⟩ := S.pdq S.swo d4 (mid + 1) b' (rd ltInt dk a' b' lim wb wp).lim true true (by omega) (by omega) r5
                        go_wp2_with (go_at_call 420; refine hih.mono ?_; rintro e w8 ⟨rfl, hw8⟩)
                        go_roundg (mid - a')
                        case measure => omega
                        case rel =>
                          refine ⟨a', mid, (rd ltInt dk a' b' lim wb wp).lim, decide (b' - mid ≥ (b' - a') / 8), ap, pdq ltInt d4 (mid + 1) b' (rd ltInt dk a' b' lim wb wp).lim true true, rfl, rfl, rfl, ?_, rfl, by omega, by omega, Nat.le_refl _, by omega, Nat.le_trans rd_lim_le hlim, by rw [pL.1, r3, s3, hds], (r7 _ pL sL).1, hAt7.stepG hblk pL.1 hw8, ?_⟩
                          · exact congrArg Value.bool (eighth (by omega) (by omega))
                          · rw [← A.out, pdq_right h12 hl0 hp2 h87 (by rw [hx]; exact ⟨r1, r2⟩) (by rw [hx]; exact h4), hx]
                    ·
                      have h87' := h87; simp only [Bool.and_eq_true, decide_eq_true_eq, Bool.not_eq_true'] at h87'; obtain ⟨mid, d4, hx⟩ : ∃ mid d4, partitionEqual ltInt (rd ltInt dk a' b' lim wb wp).pi.1 a' b' (rd ltInt dk a' b' lim wb wp).pivot = (mid, d4) := ⟨(partitionEqual ltInt (rd ltInt dk a' b' lim wb wp).pi.1 a' b' (rd ltInt dk a' b' lim wb wp).pivot).1, (partitionEqual ltInt (rd ltInt dk a' b' lim wb wp).pi.1 a' b' (rd ltInt dk a' b' lim wb wp).pivot).2, rfl⟩
                      obtain ⟨r1, r2, r3, r4, _⟩ := round_eq S.swo S.peq h87'.1 hpv.1 hpv.2 (show b' ≤ (rd ltInt dk a' b' lim wb wp).pi.1.size by omega) B3 h87'.2 hx; have hc21 := C.peq blk off cap a' b' (rd ltInt dk a' b' lim wb wp).pivot (rd ltInt dk a' b' lim wb wp).pi.1 wc hH6 hpv.1 hpv.2 (by omega) (by omega); rw [s3, hds, hx] at hc21; have X : Aside (partitionEqual ltInt (rd ltInt dk a' b' lim wb wp).pi.1 a' b' (rd ltInt dk a' b' lim wb wp).pivot = (mid, d4)) := hx; clear hx
                      go_wp2_with (go_at_call 441; refine hc21.mono ?_; rintro e w7 ⟨rfl, hw7⟩)
                      go_roundg (b' - mid)
                      case measure => omega
                      case rel =>
                        have hx := X.out; exact ⟨mid, b', (rd ltInt dk a' b' lim wb wp).lim, wb, wp, d4, rfl, rfl, rfl, rfl, rfl, r2, hb', Nat.le_refl _, by omega, Nat.le_trans rd_lim_le hlim, by rw [r3, s3, hds], r4, hAt6.step hblk r3 hw7, by rw [← A.out, pdq_eq h12 hl0 hp2 h87 (by rw [hx]; exact ⟨r1, r2⟩), hx]⟩
def pdqWalk_u32 : Prop := ∀ (blk off cap a b limit : Nat) (d : Array Int) (w : World), Holds (Value.int .u32) w blk off d → blk < w.heap.size → a ≤ b → b ≤ d.size → d.size < 4611686018427387904 → limit < 4611686018427387904 → Below ltInt a b d →
  Calls Tryz.prog 420 #[.slice (some ⟨blk, off, none⟩) d.size cap, .int .i64 a, .int .i64 b, .int .i64 limit] w fun e w' =>
    e = .returned (.tuple #[]) ∧ ∃ n os, w' = grow (putRow (Value.int .u32) (Sort.ahead w n) blk off (Sort.pdq ltInt d a b limit true true)) os
set_option maxRecDepth 100000 in
theorem Sort_u32 (hpdq : pdqWalk_u32) (blk off cap : Nat) (d : Array Int) (w : World) (hH : Holds (Value.int .u32) w blk off d) (hblk : blk < w.heap.size) (hsz : d.size < 4611686018427387904) :
    Calls Tryz.prog 388 #[.slice (some ⟨blk, off, none⟩) d.size cap] w fun e w' => e = .returned (.tuple #[]) ∧ ∃ n os, w' = grow (putRow (Value.int .u32) (Sort.ahead w n) blk off (Sort.sort ltInt d)) os := by
  have HH : Hid (Holds (Value.int .u32) w blk off d) := hH; clear hH
  have hLen : ∀ w, Calls Tryz.prog 282 #[.int .u64 (d.size : Int)] w fun e w' => e = .returned (.int .i64 (bitsLen d.size : Nat)) ∧ w' = w := fun w => by
    have h := Tryz.bits_Len (d.size : Int) w (by omega) (by omega)
    rwa [Int.toNat_natCast, bitLen_eq _ (by omega)] at h
  have hk : bitsLen d.size ≤ 62 := (bitsLen_le_iff d.size 62).2 (by omega)
  go_enter Tryz.func388, Tryz.ntmps388
  go_wp2_with (first
    | (go_at_call 282; refine (hLen _).mono ?_; rintro e w' ⟨rfl, rfl⟩)
    | (go_at_call 420; refine (hpdq blk off cap 0 d.size (bitsLen d.size) d _ (by exact HH.out) (by exact hblk) (Nat.zero_le _) (Nat.le_refl _) hsz (by omega) (Or.inl rfl)).mono ?_; rintro e w' ⟨rfl, n, os, rfl⟩))
  go_end0
  exact ⟨rfl, n, os, rfl⟩
theorem callees13U : Callees13U where
 ins := insertionSort_u32
 brk := breakPatterns_u32
 piv := choosePivot_u32
 par := partialInsertionSort_u32
 peq := partitionEqualOrdered_u32
 prt := partitionOrdered_u32
theorem plain13U : Plain13 where
 swo := swo_ltInt
 ins := insertionSort_holds
 par := partialInsertionSort_holds
 prt := partition_holds _
 peq := partitionEqual_holds _
 pdq := pdq_sorts _
theorem pdqWalkIntU : pdqWalk_u32 := fun blk off cap a b limit d w hH hb hab hbd hsz hl hB =>
 pdqsort_u32 callees13U plain13U (b - a + 1) blk off cap a b limit d w (by omega) hH hb hab hbd hsz hl hB
theorem sort_int_eqU (zs : List Int) : Sort.sort ltInt zs.toArray = (zs.mergeSort fun x y => decide (x ≤ y)).toArray := by
 rw [← sortInt zs]
theorem slices_Sort_u32 (blk off cap : Nat) (zs : List Int) (w : World) (hH : Holds (Value.int .u32) w blk off zs.toArray) (hblk : blk < w.heap.size) (hsz : zs.length < 4611686018427387904) :
  Calls Tryz.prog 388 #[.slice (some ⟨blk, off, none⟩) zs.length cap] w fun e w' =>
   e = .returned (.tuple #[]) ∧ ∃ n os, w' = grow (putRow (Value.int .u32) (Sort.ahead w n) blk off (zs.mergeSort fun x y => decide (x ≤ y)).toArray) os := by
 have h := Sort_u32 pdqWalkIntU blk off cap zs.toArray w hH hblk (by simpa using hsz); rw [sort_int_eqU] at h; simpa using h
end Go.Proofs.YtmffmkjgdjgmeaaGreat
namespace Go.Proofs.YtmffmkjgdjgmeaaGreat
open Go.RowKit Go.Lib Go.Shelf
theorem sizeSetCells (b : Nat) : ∀ (vs : List Value) (o : Nat) (w : World), (w.setCells b o vs).heap.size = w.heap.size
 | [], _, _ => rfl
 | v :: vs, o, w => by rw [World.setCells, sizeSetCells b vs]; simp [World.setCell]
theorem own_setCells {base g n cap : Nat} : ∀ (vs : List Value) (j : Nat) {w : World} {xs : List Value}, w.ownsRow base 22 1 (.slice (some ⟨g, 0, none⟩) n cap) n xs → j + vs.length ≤ n →
  (w.setCells g j vs).ownsRow base 22 1 (.slice (some ⟨g, 0, none⟩) n cap) n (xs.take j ++ vs ++ xs.drop (j + vs.length))
 | [], j, w, xs, h, _ => by simpa [World.setCells] using h
 | v :: vs, j, w, xs, h, hj => by
  have hl : xs.length = n := (by have := h.1; omega)
  have h1 := own_setCells vs (j + 1) (h.stored j v).1 (by simp at hj; omega)
  have e : (xs.set j v).take (j + 1) ++ vs ++ (xs.set j v).drop (j + 1 + vs.length) = xs.take j ++ (v :: vs) ++ xs.drop (j + (v :: vs).length) := by
   simp only [List.length_cons] at hj; rw [List.take_add_one, List.take_set_of_le (Nat.le_refl _), List.getElem?_set_self (by omega), List.drop_set_of_lt (by omega)]; simp only [Option.toList_some, List.length_cons, List.append_assoc, List.singleton_append]; rw [show j + 1 + vs.length = j + (vs.length + 1) by omega]
  rw [World.setCells]; rw [e] at h1; exact h1
theorem own_kept {w w' : World} {base e size n : Nat} {v : Value} {xs : List Value} (h : w.ownsRow base e size v n xs) (hb : Below w.heap.size w w') : w'.ownsRow base e size v n xs :=
 ⟨h.1, h.2.imp id (fun ⟨g, cap, cur, e1, e2, e3, rest⟩ => ⟨g, cap, cur, e1, e2, (hb.block g (Array.getElem?_eq_some_iff.1 e3).1).trans e3, rest⟩)⟩
theorem sortedInts (l : List Nat) : ∃ r : List Nat, ((l.map Int.ofNat).mergeSort fun x y => decide (x ≤ y)) = r.map Int.ofNat ∧ (∀ x, x ∈ r ↔ x ∈ l) ∧ r.length = l.length ∧ Up r.toArray := by
 obtain ⟨s, hs⟩ : ∃ s, ((l.map Int.ofNat).mergeSort fun x y => decide (x ≤ y)) = s := ⟨_, rfl⟩
 have hp : s.Perm (l.map Int.ofNat) := (by rw [← hs]; exact List.mergeSort_perm _ _)
 have hw : s.Pairwise fun x y : Int => decide (x ≤ y) = true := by
  rw [← hs]; exact List.pairwise_mergeSort (fun a b c h1 h2 => by simp at h1 h2 ⊢; omega) (fun a b => by simp; omega) _
 have hnn : ∀ z ∈ s, 0 ≤ z := fun z hz => by
  obtain ⟨x, _, rfl⟩ := List.mem_map.1 ((hp.mem_iff).1 hz); exact Int.natCast_nonneg x
 have he : (s.map Int.toNat).map Int.ofNat = s := by
  rw [List.map_map]
  conv => rhs; rw [← List.map_id s]
  apply List.map_congr_left
  intro z hz; have := hnn z hz
  first | (simp; done) | (simp; omega)
 refine ⟨s.map Int.toNat, by rw [hs, he], fun x => ?_, ?_, fun i hi => ?_⟩
 ·constructor
  ·intro hx; obtain ⟨z, hz, rfl⟩ := List.mem_map.1 hx; obtain ⟨y, hy, rfl⟩ := List.mem_map.1 ((hp.mem_iff).1 hz); simpa using hy
  ·intro hx; exact List.mem_map.2 ⟨Int.ofNat x, (hp.mem_iff).2 (List.mem_map.2 ⟨x, hx, rfl⟩), by simp⟩
 ·rw [List.length_map, hp.length_eq, List.length_map]
 ·have hsz : i + 1 < s.length := (by simpa using hi)
  have h1 := (List.pairwise_iff_getElem.1 hw) i (i + 1) (by omega) hsz (by omega); simp at h1; have a0 := hnn _ (List.getElem_mem (l := s) (show i < s.length by omega)); rw [getElem!_pos _ i (by simp; omega), getElem!_pos _ (i + 1) (by simpa using hi)]; simp only [List.getElem_toArray, List.getElem_map]; omega
theorem u32c_int (l : List Nat) : u32c l = (l.map Int.ofNat).map (Value.int .u32) := by simp [u32c]
theorem sort_any (base g cap : Nat) (l : List Nat) (w : World) (h : RowN base g cap w l.toArray) (hsz : l.length ≤ 100000) :
  Calls Tryz.prog 388 #[.slice (some ⟨g, 0, none⟩) l.length cap] w fun e w' => ∃ r : List Nat, e = .returned (.tuple #[]) ∧ RowN base g cap w' r.toArray ∧ Up r.toArray ∧ (∀ x, x ∈ r ↔ x ∈ l) ∧ r.length = l.length ∧ Below base w w' := by
 have hH : Go.Sort.Holds (Value.int .u32) w g 0 (l.map Int.ofNat).toArray := fun j hj => by
  have hj' : j < l.length := (by simpa using hj)
  refine ⟨?_, h.1.frozenAt _⟩; have := h.cell (j := j) (by simpa using hj'); rw [Nat.zero_add, this, getElem!_pos l.toArray j (by simpa using hj'), getElem!_pos (l.map Int.ofNat).toArray j hj]
  simp
 refine (by have := slices_Sort_u32 g 0 cap (l.map Int.ofNat) w hH h.2.2.2.1 (by simp; omega); rw [List.length_map] at this; exact this : Calls Tryz.prog 388 #[.slice (some ⟨g, 0, none⟩) l.length cap] w _).mono ?_; rintro e w' ⟨rfl, n, os, rfl⟩; obtain ⟨r, hr, hm, hl, hu⟩ := sortedInts l; rw [hr, Go.Lib.putRow_eq_setCells (Value.int .u32) w g 0 (l.map Int.ofNat).toArray (r.map Int.ofNat) n hH (by simp [hl]), ← u32c_int]; have hlen : (u32c r).length = l.length := (by simp [u32c, hl])
 have h0 := h.1; have hsz2 : l.toArray.size = l.length := (by simp)
 rw [hsz2] at h0; have hlt : ∀ x ∈ r, x < 4294967296 := fun x hx => h.2.1 x (by simpa using (hm x).1 hx); have h1 := own_setCells (u32c r) 0 (h.drewN n).1 (by rw [hlen]; simp)
 have h2 : ((w.drewN n).setCells g 0 (u32c r)).ownsRow base 22 1 (.slice (some ⟨g, 0, none⟩) l.length cap) l.length (u32c r) := by
  have e : List.take 0 (u32c l.toArray.toList) ++ u32c r ++ List.drop (0 + (u32c r).length) (u32c l.toArray.toList) = u32c r := by
   rw [List.drop_eq_nil_of_le (by simp [hlen]; simp [u32c])]; simp
  rw [e, hsz2] at h1; exact h1
 have hb1 : Below base w ((w.drewN n).setCells g 0 (u32c r)) := below_clear h.2.2.1 _ _ (below_drewN (Below.refl _ _) _); have hgs : Below ((w.drewN n).setCells g 0 (u32c r)).heap.size ((w.drewN n).setCells g 0 (u32c r)) (Go.Sort.grow ((w.drewN n).setCells g 0 (u32c r)) os) := Lib.below_grow _ _ (Nat.le_refl _) 0 os; have hbs : base ≤ w.heap.size := Nat.le_trans h.2.2.1 (Nat.le_of_lt h.2.2.2.1); have hszs : ((w.drewN n).setCells g 0 (u32c r)).heap.size = w.heap.size := sizeSetCells _ _ _ _; refine ⟨r, rfl, ⟨?_, by simpa using hlt, h.2.2.1, ?_, by simpa [hl] using h.2.2.2.2.1, h.2.2.2.2.2⟩, hu, hm, hl, hb1.trans (hgs.mono (by rw [hszs]; exact hbs))⟩
 ·have := own_kept h2 hgs; simpa [hl] using this
 ·exact Nat.lt_of_lt_of_le (by rw [hszs]; exact h.2.2.2.1) hgs.size
theorem cloneAt (ad : Addr) (n c : Nat) (l : List Nat) (w : World) (h : U32s w (some ad) n c l) (hn : n ≤ 10000) :
  Calls Tryz.prog 191 #[.slice (some ad) n c] w fun e w' => ∃ v, e = .returned v ∧ Own32 w w' v l := by
 obtain ⟨i0, hi, hz0, hz1, hz2⟩ := info_parts info32; have HR := hide h.reads; have HL := hide h.1; have hnil := fun w => Lib.run_eql_slice_nil (P := Tryz.prog) w; clear h
 go_enter Tryz.func191, Tryz.ntmps191
 go_wp2_with (at_builtin; refine wpList_append_any _ rfl (.tmp 5) (.tmp 6) 26 rfl w.heap.size 22 i0 _ 1 4 Tryz.underlying26 hi hz0 hz1 hz2 rfl (by decide) (.slice (some ⟨w.heap.size, 0, none⟩) 0 0) 0 [] rfl (own_made0 w) w.heap.size (some ad) n c (u32c l) rfl (HR.out.alloc (Nat.le_refl _) _) (u32c_one _) (by unfold maxLen; omega) (by omega) (by simp) ?_; intro v' w1 hown' hgrow _)
 go_ret; refine ⟨_, rfl, ?_, ?_⟩
 ·rw [HL.out]; simpa using hown'
 ·exact ((Below.refl _ _).alloc (Nat.le_refl _) _).grown hgrow (by simp) (fun k hk => by simp [Value.ownBlock] at hk; omega)
theorem cloneAll_any (A : Option Addr) (n c : Nat) (l : List Nat) (w : World) (h : U32s w A n c l) (hn : n ≤ 10000) :
  Calls Tryz.prog 191 #[.slice A n c] w fun e w' => ∃ v, e = .returned v ∧ Own32 w w' v l := by
 cases A with
 | none =>
  have h0 : n = 0 := by
   rcases Nat.eq_zero_or_pos n with h1 | h1
   ·exact h1
   ·obtain ⟨g, o, hA, _⟩ := h.2.2.2.2 h1
    cases hA
  subst h0; have hl : Hid (l = []) := hide (List.eq_nil_of_length_eq_zero h.1); have hnil := fun w => Lib.run_eql_slice_nil (P := Tryz.prog) w; clear h
  go_enter Tryz.func191, Tryz.ntmps191
  go_wp2; go_ret; refine ⟨_, rfl, ?_, Below.refl _ _⟩; rw [hl.out]; exact World.ownsRow_nil _ _ _ _
 | some ad => exact cloneAt ad n c l w h hn
theorem insSort0 (A : Option Addr) (c : Nat) (w : World) : Calls Tryz.prog 434 #[.slice A 0 c, .int .i64 0, .int .i64 0] w fun e w' => e = .returned (.tuple #[]) ∧ w = w' := by
 go_enter Tryz.func434, Tryz.ntmps434
 go_wp2
 go_loop [6] (fun i => i = .int .i64 1) (fun _ => 0)
 case atStart => rfl
 case round =>
  subst hrel; go_wp2
  go_end0
  exact ⟨rfl, rfl⟩
theorem sort0 (A : Option Addr) (c : Nat) (w : World) : Calls Tryz.prog 388 #[.slice A 0 c] w fun e w' => e = .returned (.tuple #[]) ∧ w = w' := by
  have HI := hide (insSort0 A c w); have HL : Hid (∀ w, Calls Tryz.prog 282 #[.int .u64 0] w fun e w' => e = .returned (.int .i64 0) ∧ w' = w) := hide (fun w => Tryz.bits_Len 0 w (by omega) (by omega))
  have HP : Hid (Calls Tryz.prog 420 #[.slice A 0 c, .int .i64 0, .int .i64 0, .int .i64 0] w fun e w' => e = .returned (.tuple #[]) ∧ w = w') := hide (by
    go_enter Tryz.func420, Tryz.ntmps420
    go_wp2; refine wp_loop_rounds 1 ?_; rw [rounds_succ]
    go_wp2_with fail
    refine HI.out.mono ?_; rintro e w1 ⟨rfl, rfl⟩; go_wp2; refine bodyPost_ret (results_none rfl _ _ _) rfl ?_; exact ⟨rfl, rfl⟩)
  go_enter Tryz.func388, Tryz.ntmps388
  go_wp2_with fail
  refine (HL.out _).mono ?_; rintro e w1 ⟨rfl, rfl⟩
  go_wp2_with fail
  refine HP.out.mono ?_; rintro e w1 ⟨rfl, rfl⟩; go_wp2
  go_end0
  exact ⟨rfl, rfl⟩
theorem compact0 (A : Option Addr) (c : Nat) (w : World) : Calls Tryz.prog 389 #[.slice A 0 c] w fun e w' => e = .returned (.slice A 0 c) ∧ w = w' := by
 go_enter Tryz.func389, Tryz.ntmps389
 go_wp2; go_ret; exact ⟨rfl, rfl⟩
set_option maxHeartbeats 1000000 in
theorem asnSet_any (A : Option Addr) (n c : Nat) (l : List Nat) (w : World) (h : U32s w A n c l) (hn : n ≤ 10000) :
  Calls Tryz.prog 332 #[.slice A n c] w fun e w' => ∃ v, e = .returned v ∧ Own32 w w' v (setOf l) := by
 have HC := hide (cloneAll_any A n c l w h hn); have HL := hide h.1; have HBd := hide h.2.2.2.1; clear h; by_cases hn1 : n = 0
 ·subst hn1; have hl0 : Hid (l = []) := hide (List.eq_nil_of_length_eq_zero HL.out)
  go_enter Tryz.func332, Tryz.ntmps332
  go_wp2_with fail
  refine HC.out.mono ?_; rintro e w1 ⟨v, rfl, ho, hb1⟩; rw [hl0.out] at ho; obtain ⟨A1, c1, rfl⟩ := own_slice ho; have HO := hide ho; have HB1 := hide hb1; clear ho hb1; have HS := hide (sort0 A1 c1 w1); have HCm := hide (compact0 A1 c1 w1)
  go_wp2_with fail
  refine HS.out.mono ?_; rintro e w2 ⟨rfl, rfl⟩
  go_wp2_with fail
  refine HCm.out.mono ?_; rintro e w2 ⟨rfl, rfl⟩; go_wp2; go_ret; exact ⟨_, rfl, by rw [hl0.out]; exact HO.out, HB1.out⟩
 ·go_enter Tryz.func332, Tryz.ntmps332
  go_wp2_with fail
  refine HC.out.mono ?_; rintro e w1 ⟨v, rfl, ho, hb1⟩; obtain ⟨g1, cap, rfl, hrow⟩ := row_of_own ho (by rw [HL.out]; omega) HBd.out; have HS := hide (sort_any w.heap.size g1 cap l w1 hrow (by rw [HL.out]; omega)); have HB1 := hide hb1; clear hb1 hrow ho
  go_wp2_with fail
  refine HS.out.mono ?_; rintro e w2 ⟨r, rfl, hr2, hu, hm, hrl, hb2⟩; have HSet : Hid (setOf r = setOf l) := hide (setOf_perm hm); have hsz : r.toArray.size = l.length := (by simp [hrl])
  have HCm := hide (compact_any w.heap.size g1 cap r.toArray w2 hr2 hu (by rw [hsz, HL.out]; omega) (by rw [hsz, HL.out]; omega)); rw [hsz] at HCm; have HB2 := hide (HB1.out.trans hb2); clear hr2 hb2 hu hm hrl hsz
  go_wp2_with fail
  refine HCm.out.mono ?_; rintro e w3 ⟨m, rfl, hm, ho3, hb3⟩
  try simp only [List.toList_toArray] at hm ho3
  rw [HSet.out] at hm ho3; have HO3 := hide ho3; have HM := hide hm; have HB3 := hide (HB2.out.trans hb3); clear hm ho3 hb3; go_wp2; go_ret; exact ⟨_, rfl, by rw [← HM.out]; exact HO3.out, HB3.out⟩
end Go.Proofs.YtmffmkjgdjgmeaaGreat
namespace Go.Proofs.YtmffmkjgdjgmeaaGreat
open Go.RowKit Go.WideShapes Go.ChangeShapes
attribute [local go_sem] Oper.semAt_some
theorem segInfo : (Tryz.prog.info? 99).map (fun i => (i.zero, i.size, i.bytes)) = some (some (.agg #[.int .i64 0, .slice none 0 0]), 2, 32) := by kernel_rfl
theorem u32s_cap {w : World} {A : Option Addr} {n c c' : Nat} {l : List Nat} (h : U32s w A n c l) (h1 : n ≤ c') (h2 : c' ≤ maxLen) : U32s w A n c' l := ⟨h.1, h1, h2, h.2.2.2⟩
theorem u32s_drop {w : World} {g o n c : Nat} {l : List Nat} (h : U32s w (some ⟨g, o, none⟩) n c l) {k : Nat} (hk : k < n) : U32s w (some ⟨g, o + k, none⟩) (n - k) (c - k) (l.drop k) := by
 have h1 := h.2.1; have h2 := h.2.2.1; refine ⟨by rw [List.length_drop, h.1], by omega, by omega, fun x hx => h.2.2.2.1 x (List.mem_of_mem_drop hx), fun _ => ?_⟩; obtain ⟨g', o', hA, hg, hc⟩ := h.2.2.2.2 (by omega)
 cases hA
 refine ⟨g, o + k, rfl, hg, fun j x hx => ?_⟩; rw [List.getElem?_drop] at hx; rw [Nat.add_assoc]; exact hc _ _ hx
theorem u32s_sub {w : World} {g o n c : Nat} {l : List Nat} (h : U32s w (some ⟨g, o, none⟩) n c l) {i q : Nat} (hi : i < n) (hq : min 255 (n - i) = q) : U32s w (some ⟨g, o + i, none⟩) q q ((l.drop i).take 255) := by
 have h1 := (u32s_drop h hi).take_ (m := q) (by omega); have hm := h.2.2.1; have hnc := h.2.1
 have e : (l.drop i).take q = (l.drop i).take 255 := by
  by_cases hx : 255 ≤ n - i
  ·rw [show q = 255 by omega]
  ·rw [List.take_of_length_le (by rw [List.length_drop, h.1]; omega), List.take_of_length_le (by rw [List.length_drop, h.1]; omega)]
 rw [e] at h1; exact u32s_cap h1 (Nat.le_refl _) (by omega)
theorem wpListIn_of_wp {P : Program} {l0 dp : Nat} {ops : Array Oper} {Q : Exit → Act → World → Prop} {l : List Oper} {o : Oper} {a : Act} {w : World} (hg : o.guard = none) (hn : noDefer o = true) (h : o.wp P a w (wpListIn (Fence.wide.inRound l0) dp P ops Q l) QF) : wpListIn (Fence.wide.inRound l0) dp P ops Q (o :: l) a w := by
 unfold wpListIn; rw [if_pos (by simp [Region.wanted, hg])]; exact wpIn_of_wp hn h
structure PcSt (H : Nat) (w W : World) (A : Option Addr) (n c : Nat) (l : List SG) (xs : List Value) : Prop where
  box : Blk W H 25 #[.slice A n c]
  lo : LOw 2 99 sgR W (H + 3) (H + 3) A n c l xs
  bel : Below H w W
  siz : H + 3 ≤ W.heap.size
theorem blk_turned {W W' : World} {H b lo : Nat} {t : TypeId} {cs : Array Value} {row : Option Nat} (h : Blk W H t cs) (hg : W.grownBy W' row) (hr : ∀ r, row = some r → r = b ∨ (lo ≤ r ∧ ∃ o : Obj, W.heap[r]? = some o ∧ o.isCells = false)) (hne : H ≠ b) : Blk W' H t cs :=
  (hg.block H h.lt (fun e => by
    rcases hr H e.symm with h1 | ⟨_, o, ho, hc⟩
    · exact hne h1
    · rw [h] at ho; cases ho; cases hc)).trans h
theorem PcSt.abide {H lo : Nat} {w A0 B0 : World} {A : Option Addr} {n c : Nat} {l : List SG} {xs : List Value} {row : Option Nat} (h : PcSt H w A0 A n c l xs) (hlo : H + 3 ≤ lo) (hg : A0.grownBy B0 row) (hr : ∀ r, row = some r → r = H + 1 ∨ (lo ≤ r ∧ ∃ o : Obj, A0.heap[r]? = some o ∧ o.isCells = false)) : PcSt H w B0 A n c l xs :=
  ⟨blk_turned h.box hg hr (by omega), h.lo.ag (Nat.le_refl _) hg (fun r e => (hr r e).imp (fun h => by omega) (fun h => h.2)),
    h.bel.grown hg (Nat.le_of_lt h.box.lt) (fun k hk => by rcases hr k hk with h' | ⟨h', _⟩ <;> omega), Nat.le_trans h.siz hg.size⟩
theorem PcSt.below {H : Nat} {w A0 B0 : World} {A : Option Addr} {n c : Nat} {l : List SG} {xs : List Value} (h : PcSt H w A0 A n c l xs) (hb : Below A0.heap.size A0 B0) : PcSt H w B0 A n c l xs :=
 ⟨h.box.below hb h.box.lt, h.lo.below hb, h.bel.trans (hb.mono (Nat.le_of_lt h.box.lt)), Nat.le_trans h.siz hb.size⟩
def pcW (A : Option Addr) (n c : Nat) (w : World) : World := ((w.alloc (.cells #[.slice none 0 0] 25)).alloc (.cells #[.slice A n c] 26)).alloc (.cells #[.int .i64 255] 3)
theorem pcW_size (A : Option Addr) (n c : Nat) (w : World) : (pcW A n c w).heap.size = w.heap.size + 3 := by simp [pcW]
theorem pcW_below (A : Option Addr) (n c : Nat) (w : World) : Below w.heap.size w (pcW A n c w) := (((Below.refl _ w).alloc (Nat.le_refl _) _).alloc (by simp) _).alloc (by simp; omega) _
theorem pcW_blks (A : Option Addr) (n c : Nat) (w : World) : Blk (pcW A n c w) w.heap.size 25 #[.slice none 0 0] ∧ Blk (pcW A n c w) (w.heap.size + 1) 26 #[.slice A n c] ∧ Blk (pcW A n c w) (w.heap.size + 2) 3 #[.int .i64 255] :=
 ⟨((Blk.new w _ _).alloc _).alloc _, (blk_new' _ _ (by simp)).alloc _, blk_new' _ _ (by simp)⟩
theorem rnd_step {H b0 b1 lo : Nat} {W w1 w3 : World} {v v' : Value} (hb1 : Below W.heap.size W w1) (hH : b1 ≤ W.heap.size) (hv : ∀ r, v.ownBlock = some r → b1 ≤ r ∧ ∃ o' : Obj, w1.heap[r]? = some o' ∧ o'.isCells = true)
  (hg : w1.grownBy w3 v.ownBlock) (hHb : H < b0 ∨ b1 ≤ H) : KeepsFrom lo W (w3.setCell ⟨H, 0, none⟩ v') ∧ KpR b0 b1 W (w3.setCell ⟨H, 0, none⟩ v') := by
 constructor
 ·refine ((KeepsFrom.below hb1).trans ((KeepsOthers.of_grownBy hg (fun j o' hj ho => ?_)).from lo)).trans ((KeepsOthers.setCell _ _ _).from lo); obtain ⟨_, o2, h2, h3⟩ := hv j hj; rw [h2] at ho; cases ho; exact h3
 ·refine ((KpR.of_below hb1 hb1.size hH).trans ⟨hg.size, fun k h0 h1 => hg.block k (by have := hb1.size; omega) (fun e => by have := (hv k e.symm).1; omega)⟩).trans ⟨?_, fun k h0 h1 => Below.heap_setCell w3 _ _ k (by show k ≠ H; omega)⟩; exact (KeepsOthers.setCell w3 _ _).size
theorem range_at {pre post : List Nat} {x N k : Nat} (h : pre ++ x :: post = List.range N) (hp : pre = List.range k) : x = k ∧ k < N := by
 have h1 := congrArg (·[k]?) h; have hl : pre.length = k := (by rw [hp]; simp)
 have hlt : k < N := by
  have := congrArg List.length h; simp at this; omega
 simp only [List.getElem?_append_right (Nat.le_of_eq hl), hl, Nat.sub_self, List.getElem?_cons_zero, List.getElem?_range hlt] at h1; exact ⟨by injection h1, hlt⟩
def SegP (l : List SG) (w : World) (e : Ending) (w' : World) : Prop := ∃ A n c xs, e = .returned (.slice A n c) ∧ LOw 2 99 sgR w' w.heap.size w.heap.size A n c l xs ∧ Below w.heap.size w w'
set_option maxRecDepth 100000 in
set_option maxHeartbeats 4000000 in
theorem pieces_any (A : Option Addr) (n c : Nat) (l : List Nat) (w : World) (h : U32s w A n c l) (hn : n ≤ 100000) :
    Calls Tryz.prog 393 #[.slice A n c] w (SegP (chunkS l) w) := by
  have hA : 0 < n → ∃ g o, A = some ⟨g, o, none⟩ := fun h0 => by obtain ⟨g, o, e, _⟩ := h.2.2.2.2 h0; exact ⟨g, o, e⟩
  have hm := h.2.2.1; have hnc := h.2.1; have hln := h.1; have HU := hide (fun (W : World) (hb : Below w.heap.size w W) => h.below hb); have hbd := h.2.2.2.1; clear h; refine (callsIn_wide (n := 5)).1 (callsIn_of_wp_marks Tryz.func393 rfl trivial ?_ rfl); simp only [Tryz.ntmps393, List.size_toArray, List.length_cons, List.length_nil, Nat.reduceAdd, Nat.reduceSub, Array.replicate_succ, Array.replicate_zero, List.push_toArray, List.append_toArray, List.nil_append, List.cons_append]
  gi_wp2_with (refine ⟨trivial, ?_⟩; gi_at_call 394; refine (callsIn_wide.2 (Chunk_any _ _ _ _)).mono ?_; rintro e w1 ⟨rfl, rfl⟩)
  obtain ⟨k0, k1, k2⟩ := pcW_blks A n c w; have hsz := pcW_size A n c w
  refine wpIn_rangeFunc_cell (w := pcW A n c w) rfl (by omega) (gf := 422) (lb := #[.pointer (some ⟨w.heap.size + 1, 0, none⟩), .pointer (some ⟨w.heap.size + 1 + 1, 0, none⟩)]) rfl trivial (enters_of Tryz.func422 (by kernel_rfl) rfl)
    (encs := chunkE A n) (b0 := w.heap.size + 1) (b1 := w.heap.size + 3) (by omega) (by omega) (xs := List.range (chunkN n))
    (fun l W hk => chunk1_in 4 (by omega) l (w.heap.size + 1) A n c hA hnc hm (by omega) W (hk.blk (by omega) (by omega) k1) (hk.blk (by omega) (by omega) k2)) (fun _ => rfl)
    (fun pre W => ∃ (k : Nat) (A' : Option Addr) (n' c' : Nat) (xs : List Value), pre = List.range k ∧ (k * 255 ≤ n → shutS (chunkS (l.take (k * 255)))) ∧ PcSt w.heap.size w W A' n' c' (chunkS (l.take (k * 255))) xs)
    (fun c pre W => False)
    (fun s A B row hs hg hr => by
      obtain ⟨k, A', n', c', xs, h1, h2, h3⟩ := hs; exact ⟨k, A', n', c', xs, h1, h2, h3.abide (by omega) hg hr⟩)
    (fun c s A B row hs hg hr => hs)
    ⟨0, none, 0, 0, [], rfl, fun _ => shutS_nil, k0, LOw.nil, pcW_below _ _ _ _, by omega⟩
    (fun k => { tmps := #[.slice A n c, undef, .slice none 0 0, .pointer (some ⟨w.heap.size, 0, none⟩), (chunkE A n k).getD 0 undef, .slice A n c, .func (.func 422) #[] #[.pointer (some ⟨w.heap.size + 1, 0, none⟩), .pointer (some ⟨w.heap.size + 1 + 1, 0, none⟩)], (chunkE A n k).getD 0 undef, undef, undef, undef, undef, undef, undef, undef], defers := [] }) ?assign ?body ?done ?stop
  case assign =>
    intro l x W K hK; unfold chunkE at hK ⊢
    gi_wp2
    exact hK
  case body =>
    rintro l0 pre x post W hx ⟨k, A1, n1, c1, xs, hpre, hsh, hst⟩; obtain ⟨rfl, hkN⟩ := range_at hx hpre; obtain ⟨k, hkk⟩ : ∃ k', x = k' := ⟨_, rfl⟩
    subst hkk; have hin : x * 255 < n := (by unfold chunkN at hkN; omega)
    obtain ⟨g, o, rfl⟩ := hA (by omega); obtain ⟨qq, hqq⟩ : ∃ qq, min 255 (n - x * 255) = qq := ⟨_, rfl⟩
    have HCh := hide (u32s_sub (HU.out W hst.bel) hin hqq); obtain ⟨CH, hCH⟩ : ∃ CH, (l.drop (x * 255)).take 255 = CH := ⟨_, rfl⟩
    rw [hCH] at HCh; have HCl : Hid (CH.length = qq) := hide HCh.out.1; have HCb := hide HCh.out.2.2.2.1; have hq5 : qq ≤ 255 := (by omega)
    obtain ⟨hck, hshn⟩ := chunkS_step l (x * 255) (hsh (by omega)) (by omega); rw [hCH] at hck; have HCk := hide hck; have HShn := hide hshn
    have hnl : n1 ≤ n := by
      have h1 := hst.lo.1.1; have h2 := hst.lo.2.1; have h3 := chunkS_len (l.take (x * 255)); rw [List.length_take] at h3; omega
    have HS := hide hst; have hsW := hst.siz; have HP := hide hpre; obtain ⟨i0, hi, hz0, hz1, hz2⟩ := info_parts segInfo; have hE : (chunkE (some ⟨g, o, none⟩) n x).getD 0 undef = .slice (some ⟨g, o + x * 255, none⟩) qq qq := (by unfold chunkE; rw [hqq]; rfl)
    rw [hE]; clear hst hpre hsh hx hck hshn hCH hE
    gi_wp2
    have Hmn := hide (show AllMono [(isV (.slice A1 n1 c1)), (isV (.slice (some ⟨g, o + x * 255, none⟩) qq qq)), (fun v W2 => ∃ A c, v = .slice A qq c ∧ W2.ownsRow W.heap.size 22 1 (.slice A qq c) qq (u32c CH)), (fun v W2 => ∃ A c, v = .agg #[.int .i64 2, .slice A qq c] ∧ W2.ownsRow W.heap.size 22 1 (.slice A qq c) qq (u32c CH)), (fun v W2 => ∃ R A c, v = .slice (some ⟨R, 0, none⟩) 1 1 ∧ Blk W2 R 99 #[.int .i64 2, .slice A qq c] ∧ W.heap.size ≤ R ∧ W2.ownsRow W.heap.size 22 1 (.slice A qq c) qq (u32c CH))] from ⟨fun _ _ _ _ h => h, fun _ _ _ _ h => h, fun v w2 w3 hb ⟨A, c, e, h⟩ => ⟨A, c, e, own_below h hb⟩, fun v w2 w3 hb ⟨A, c, e, h⟩ => ⟨A, c, e, own_below h hb⟩, fun v w2 w3 hb ⟨R, A, c, e, h1, h2, h3⟩ => ⟨R, A, c, e, h1.below hb h1.lt, h2, own_below h3 hb⟩, trivial⟩); refine wpIn_region_rel 5 _ (by kernel_rfl) (by kernel_rfl) (by kernel_rfl) (by kernel_rfl) (by kernel_rfl) (relMono _ Hmn.out) (by kernel_rfl) ⟨?_, ?_, ?_, ?_, ?_, trivial⟩ ?_
    · refine relStep_plain rfl ?_; intro Ac w5 hp; have hb := hp.bel; have z0 : w5.cell? ⟨w.heap.size, 0, none⟩ = some (.slice A1 n1 c1) := (HS.out.box.below hb HS.out.box.lt).cell 0; exact pure1 (.slice A1 n1 c1) 3 (ptv w.heap.size 0) (hp.out 3 (by rfl))
    · exact relStep_plain rfl fun Ac w5 hp => pureM (.slice (some ⟨g, o + x * 255, none⟩) qq qq) 4 (hp.out 4 (by rfl))
    · refine relStep_plain rfl ?_; intro Ac w5 hp; have hb := hp.bel; have a9 : Ac.eval (.tmp 9) = .slice (some ⟨g, o + x * 255, none⟩) qq qq := hp.d 1; obtain ⟨ρ, hρ, hc, hf, hgl⟩ := evalX Ac; rw [hρ] at a9; refine relCall hρ 191 #[.slice (some ⟨g, o + x * 255, none⟩) qq qq] (by simp [go_sem, ↓IntWalk.iteOmega, *]) ?_; refine (cloneAll_any (some ⟨g, o + x * 255, none⟩) qq qq CH w5 (HCh.out.below hb) (by omega)).mono ?_; rintro e w6 ⟨v6, rfl, ho6, hb6⟩; rw [HCl.out] at ho6; obtain ⟨A6, c6, rfl⟩ := own_slice ho6; exact ⟨_, rfl, ⟨A6, c6, rfl, own_baseLe ho6 hb.size⟩, hb6⟩
    · refine relStep_plain rfl ?_; intro Ac w5 hp; obtain ⟨A10, c10, a10, ho10⟩ := hp.d 2; change Ac.eval (.tmp 10) = _ at a10; exact relPureX (.agg #[.int .i64 2, .slice A10 qq c10]) (fun ρ hρ h1 h2 h3 => by rw [hρ] at a10; simp [go_sem, ↓IntWalk.iteOmega, *]) ⟨A10, c10, rfl, ho10⟩
    · refine relStep_plain rfl ?_; intro Ac w5 hp; have hb := hp.bel; obtain ⟨A11, c11, a11, ho11⟩ := hp.d 3; change Ac.eval (.tmp 11) = _ at a11; obtain ⟨ρ, hρ, hc, hf, hgl⟩ := evalX Ac; rw [hρ] at a11; exact relVal hρ (.slice (some ⟨w5.heap.size, 0, none⟩) 1 1) (w5.alloc (.cells #[.int .i64 2, .slice A11 qq c11] 99)) (by simp [go_sem, hc, hf, hgl, ↓IntWalk.iteOmega, a11]) ⟨w5.heap.size, A11, c11, rfl, Blk.new w5 _ _, hb.size, ho11.alloc _⟩ ((Below.refl _ _).alloc (Nat.le_refl _) _)
    intro u w8 hb7 hall; have e8 : u 0 = .slice A1 n1 c1 := relAll_at hall (i := 0) (by decide +kernel); obtain ⟨R12, A12, c12, e12, hR12, hRb12, ho12⟩ := relAll_at hall (i := 4) (by decide +kernel); change u 4 = _ at e12; clear hall; simp only [List.drop_succ_cons, List.drop_zero, List.take_succ_cons, List.take_zero, putAll, Act.put, List.setIfInBounds_toArray, List.set_cons_zero, List.set_cons_succ, Nat.zero_add, Nat.reduceAdd, e8, e12]; have HS8 := hide (HS.out.below hb7); have hsz8 := HS8.out.siz; refine wpListIn_of_wp rfl rfl (wp_append_any w8 (.tmp 8) (.tmp 12) 25 rfl (w.heap.size + 3) 99 i0 _ 2 32 Tryz.underlying25 hi hz0 hz1 hz2 rfl (by decide) (.slice A1 n1 c1) n1 xs rfl HS8.out.lo.1 w8.heap.size (some ⟨R12, 0, none⟩) 1 1 [.int .i64 2, .slice A12 qq c12] rfl (reads_blkN hR12 hR12.lt rfl rfl) (by simp [Value.oneCell']) (by unfold maxLen; omega) (by omega) hsz8 ?_); intro v2 w6 h2 h3 h4; obtain ⟨A4, c4, rfl, hlo⟩ := LOw.push HS8.out.lo (chunk1_fr rfl (sg_fr ho12 HCb.out (by omega) (fun r e => own_block_lt HS.out.lo.1 r e))) h2 h3 h4; have hbox : Blk w6 w.heap.size 25 #[.slice A1 n1 c1] := HS8.out.box.grown h3 (fun e => by have := own_low_block HS8.out.lo.1 _ e.symm; omega); have q0 : w6.cell? ⟨w.heap.size, 0, none⟩ = some (.slice A1 n1 c1) := hbox.cell 0; have q1 := hbox.frozen 0; have hst := rnd_step (lo := (pcW (some ⟨g, o, none⟩) n c w).heap.size) (b0 := w.heap.size + 1) (b1 := w.heap.size + 3) (H := w.heap.size) (v' := .slice A4 (n1 + 1) c4) hb7 hsW (own_cells HS8.out.lo.1) h3 (.inl (by omega)); have HSt := hide hst; have HLo := hide hlo; have HBo := hide hbox; have HG := hide h3; have hsz6 := h3.size; clear hst hlo hbox h2 h3 h4 hb7 ho12 hR12 hRb12 e8 e12
    gi_wp2
    refine ⟨HSt.out.1, HSt.out.2, x + 1, A4, n1 + 1, c4, xs ++ [.int .i64 2, .slice A12 qq c12], by rw [HP.out, List.range_succ], fun hle => by rw [show (x + 1) * 255 = x * 255 + 255 by omega]; exact HShn.out (by omega), ?_⟩; rw [show (x + 1) * 255 = x * 255 + 255 by omega, HCk.out]; exact ⟨HBo.out.set0 rfl, HLo.out.set (by omega) (by omega) _, (HS8.out.bel.grown HG.out (by omega) (fun r hr => by have := (own_cells HS8.out.lo.1 r hr).1; omega)).setCell (p := ⟨w.heap.size, 0, none⟩) (Nat.le_refl _) _, by have := (KeepsOthers.setCell w6 ⟨w.heap.size, 0, none⟩ (.slice A4 (n1 + 1) c4)).size; omega⟩
  case done =>
    rintro D W hD ⟨k, A1, n1, c1, xs, hpre, hsh, hst⟩ hK; have hk : k = chunkN n := (by have := congrArg List.length hpre; simpa using this.symm)
    have hall : chunkS (l.take (k * 255)) = chunkS l := (by rw [List.take_of_length_le (by rw [hln, hk]; unfold chunkN; omega)])
    rw [hall] at hst; have HS := hide hst; have r0 : W.cell? ⟨w.heap.size, 0, none⟩ = some (.slice A1 n1 c1) := hst.box.cell 0; have HKd := hide hK; clear hpre hsh hst hk hall hK
    gi_wp2
    show LeavesInM Fence.wide 5 Tryz.prog Tryz.f393 _ (SegP (chunkS l) w) _ .returning W; refine ⟨by simp, .inl ⟨_, _, rfl, run_takeDeferred HKd.out, ?_⟩⟩; refine ⟨.slice A1 n1 c1, by simp [results, Tryz.results393, go_sem], A1, n1, c1, xs, rfl, ?_, below_put HS.out.bel HKd.out (by omega) _⟩; exact LOw.less (HS.out.lo.ag (Nat.le_refl _) (grownBy_putObj' W D _) (fun r e => by cases e; exact .inr ⟨_, HKd.out, rfl⟩)) (by omega) (by omega)
  case stop =>
    intro D c pre x post W hD hx hf; exact hf.elim
theorem below_drew {w : World} : Below w.heap.size w w.drew := ⟨rfl, rfl, rfl, Nat.le_refl _, fun _ _ => rfl⟩
theorem u32s_grown {w w' : World} {A : Option Addr} {n c : Nat} {l : List Nat} {row : Option Nat} (h : U32s w A n c l) (hg : w.grownBy w' row) (hA : 0 < n → ∀ a, A = some a → some a.block ≠ row) : U32s w' A n c l := by
 refine ⟨h.1, h.2.1, h.2.2.1, h.2.2.2.1, fun hn => ?_⟩; obtain ⟨g, o, rfl, hb, hc⟩ := h.2.2.2.2 hn; refine ⟨g, o, rfl, Nat.lt_of_lt_of_le hb hg.size, fun k x hk => ?_⟩; rw [World.cell?_of_block (hg.block g hb (hA hn _ rfl))]; exact hc k x hk
theorem reads_own_ {w : World} {base n c sz : Nat} {A : Option Addr} {e : TypeId} {xs : List Value} (hsz : 0 < sz) (h : w.ownsRow base e sz (.slice A n c) n xs) : Reads w w.heap.size sz A n xs := by
 refine ⟨h.1, fun hn => ?_⟩; rcases h.2 with ⟨hv, h0⟩ | ⟨g, cap, cur, hv, _, hh, hnc, hm, _⟩
 ·subst h0; have := h.1; injection hv with e1 e2 e3
  omega
 ·injection hv with e1 _ e3
  subst e1; refine ⟨_, rfl, (Array.getElem?_eq_some_iff.1 hh).1, fun j u hu => ?_⟩; exact h.cells (g := g) rfl j u hu
theorem low_reads {α : Type} {sz : Nat} {t : TypeId} {R : World → List Value → α → Prop} {w : World} {A : Option Addr} {n c B B' : Nat} {l : List α} {xs : List Value} (hsz : 0 < sz) (h : LOw sz t R w B B' A n c l xs) : Reads w w.heap.size sz A n xs := reads_own_ hsz h.1
theorem low_ones {α : Type} {sz : Nat} {t : TypeId} {R : World → List Value → α → Prop} {w : World} {A : Option Addr} {n c B B' : Nat} {l : List α} {xs : List Value} (hR : SOne R) (hsz : 0 < sz) (h : LOw sz t R w B B' A n c l xs) : ∀ u ∈ xs, u.oneCell' = true := Chunks.ones hR h.here hsz
theorem own_types {w : World} {B B' e e' sz sz' n n' : Nat} {v v' : Value} {xs xs' : List Value} (h : w.ownsRow B e sz v n xs) (h' : w.ownsRow B' e' sz' v' n' xs') (hne : e ≠ e') : ∀ k, v.ownBlock = some k → v'.ownBlock ≠ some k := by
 intro k hk hk'; rcases h.2 with ⟨rfl, _⟩ | ⟨g, cap, cur, rfl, _, hgc, _⟩
 ·cases hk
 rcases h'.2 with ⟨rfl, _⟩ | ⟨g', cap', cur', rfl, _, hgc', _⟩
 ·cases hk'
 cases hk
 cases hk'
 rw [hgc] at hgc'
 cases hgc'
 exact hne rfl
structure NmSt (w wf wr : World) (A1 : Option Addr) (n1 c1 : Nat) (xs : List Value) (A2 : Option Addr) (c2 : Nat) (out : List SG) (run : List Nat) : Prop where
  lo : LOw 2 99 sgR wf w.heap.size w.heap.size A1 n1 c1 out xs
  bf : Below wf.heap.size wf wr
  own : wr.ownsRow wf.heap.size 22 1 (.slice A2 run.length c2) run.length (u32c run)
  bd : ∀ x ∈ run, x < 4294967296
  bw : Below w.heap.size w wf
set_option maxRecDepth 100000 in
set_option maxHeartbeats 8000000 in
theorem norm_any (A : Option Addr) (n c : Nat) (l : List SG) (w : World) (h : LstAt 2 sgR w A n c l) (hn : numS l ≤ 10000) :
    Calls Tryz.prog 386 #[.slice A n c] w (SegP (normS l) w) := by
  have hln := h.1; have hnc := h.2.1; have hmx := h.2.2.1; unfold maxLen at hmx; obtain ⟨i0, hi, hz0, hz1, hz2⟩ := info_parts segInfo; obtain ⟨j0, hj, hy0, hy1, hy2⟩ := info_parts info32; have HLs := hide h; clear h
  go_enter Tryz.func386, Tryz.ntmps386
  go_wp2
  go_loopw [3, 4, 9] (fun vo vr iv wr => ∃ (q : Nat) (wf : World) (A1 : Option Addr) (n1 c1 : Nat) (xs : List Value) (A2 : Option Addr) (c2 : Nat), q ≤ n ∧ iv = .int .i64 (q : Nat) ∧ vo = .slice A1 n1 c1 ∧ vr = .slice A2 (nFold (l.take q)).2.length c2 ∧ NmSt w wf wr A1 n1 c1 xs A2 c2 (nFold (l.take q)).1 (nFold (l.take q)).2) (fun _ _ iv _ => n - (intOf iv).toNat)
  case atStart => exact ⟨0, w, none, 0, 0, [], none, 0, Nat.zero_le _, rfl, rfl, rfl, LOw.nil, Below.refl _ _, World.ownsRow_nil _ _ _ _, by simp [nFold], Below.refl _ _⟩
  case round =>
    obtain ⟨q, wf, A1, n1, c1, xs, A2, c2, hq, rfl, rfl, rfl, hst⟩ := hrel; have hlen := nFold_len (l.take q); have htk := numS_take_le l q; obtain ⟨⟨out, run⟩, hs⟩ : ∃ s, nFold (l.take q) = s := ⟨_, rfl⟩
    rw [hs] at hst hlen ⊢; simp only at hst hlen ⊢; have HNs := hide hs; have HSt := hide hst; have hbw : Below w.heap.size w wr := hst.bw.trans (hst.bf.mono hst.bw.size); have HBw0 := hide hbw; have hn1 : out.length = n1 := (hst.lo.lst (by decide)).1; have hs1 := hst.bw.size; have hs2 := hst.bf.size; have HO0 : Hid (∀ k, (Value.slice A1 n1 c1).ownBlock = some k → w.heap.size ≤ k) := hide (own_low_block hst.lo.1); have HO1b : Hid (∀ k, (Value.slice A1 n1 c1).ownBlock = some k → k < wf.heap.size) := hide (own_block_lt hst.lo.1); have HO2 : Hid (0 < run.length → ∀ a, A2 = some a → some a.block ≠ (Value.slice A1 n1 c1).ownBlock) := hide (fun _ a ha e => by have h1 := own_low_block hst.own a.block (by rw [ha]; rfl); have h2 := own_block_lt hst.lo.1 _ e.symm; omega); have HUn := hide (U32s.of_own hst.own hst.bd); by_cases hlt : q < n
    · obtain ⟨g, o, b, Bq, m, d, r, rfl, hg, hx, hr, hc0, hc1⟩ := SGat HLs.out hlt; have k0 : wr.cell? ⟨g, o + q * 2, none⟩ = some (.int .i64 b) := (hbw.cell hg).trans hc0; have k1 : wr.cell? ⟨g, o + q * 2 + 1, none⟩ = some (.slice Bq m d) := (hbw.cell hg).trans hc1; have HStep : Hid (nFold (l.take (q + 1)) = nStep (out, run) ⟨b, r⟩) := hide (by rw [nFold_snoc l q _ hx, hs]); have hsn := numS_snoc l q _ hx; simp only at hsn; have htk1 := numS_take_le l (q + 1); have HUr : Hid (∀ W : World, Below w.heap.size w W → U32s W Bq m d r) := hide (fun W hb => hr.below hb); have hrl : r.length = m := hr.1; have HRb := hide hr.2.2.2.1; have q1 : (q : Int) < (n : Int) := (by omega)
      have q0 : (0 : Int) ≤ (q : Int) := (by omega)
      have hwq : IntKind.i64.wrap ((q : Int) + 1) = (q : Int) + 1 := (by rw [IntKind.wrap_i64]; omega)
      clear hst hbw hc0 hc1 hr hx hs; by_cases h2 : b = 2
      · subst h2; have HE : Hid (nFold (l.take (q + 1)) = (out, run ++ r)) := hide (HStep.out.trans (by simp [nStep])); have HB1 : Hid (∀ o1 : Obj, Below w.heap.size w (wr.alloc o1)) := hide (fun o1 => HBw0.out.alloc (by omega) o1)
        go_wp2_with (at_builtin; refine wpList_append_any _ rfl (.tmp 17) (.tmp 19) 26 rfl wf.heap.size 22 j0 _ 1 4 Tryz.underlying26 hj hy0 hy1 hy2 rfl (by decide) (.slice A2 run.length c2) run.length (u32c run) rfl (HSt.out.own.alloc _) _ Bq m d (u32c r) rfl ((HUr.out _ (HB1.out _)).reads) (u32c_one _) (by unfold maxLen; omega) (by omega) (by simp; omega) ?_; intro v' w3 hown hgrow hor; have HG := hide hgrow; obtain ⟨A3, c3, rfl⟩ := own_slice hown; have HO3 : Hid (w3.ownsRow wf.heap.size 22 1 (.slice A3 (run ++ r).length c3) (run ++ r).length (u32c (run ++ r))) := hide (by rw [List.length_append, u32c_app, hrl]; exact hown); have HBf3 := hide ((HSt.out.bf.alloc hs2 _).grown hgrow (by simp; omega) (fun k hk => own_low_block HSt.out.own k hk)); clear hown hgrow hor)
        go_roundw
        case rel => exact ⟨q + 1, wf, A1, n1, c1, xs, A3, c3, by omega, by go_num, rfl, by rw [HE.out]; simp only [List.length_append, hrl], by rw [HE.out]; exact ⟨HSt.out.lo, HBf3.out, HO3.out, fun x hx => (List.mem_append.1 hx).elim (HSt.out.bd x) (HRb.out x), HSt.out.bw⟩⟩
        case measure => simp [intOf]; omega
      · have e2 : (b == 2) = false := (by simpa using h2)
        by_cases h1 : b = 1 ∧ 0 < m
        · obtain ⟨rfl, hm0⟩ := h1; have hm1 : decide (0 < m) = true := decide_eq_true hm0; have hrne : r ≠ [] := (by intro e; rw [e] at hrl; simp at hrl; omega)
          obtain ⟨ST, hST⟩ : ∃ ST, setOf r = ST := ⟨_, rfl⟩
          have HE : Hid (nFold (l.take (q + 1)) = (out ++ chunkS run ++ [⟨1, ST⟩], [])) := hide (HStep.out.trans (by simp [nStep, hrne, hST])); have hSl : ST.length ≤ m := (by rw [← hST, ← hrl]; exact setOf_len _)
          have HSb : Hid (∀ y ∈ ST, y < 4294967296) := hide (fun y hy => by rw [← hST, setOf_mem] at hy; exact HRb.out y hy); have HST := hide hST; have HLo : Hid (n1 ≤ 10000) := hide (by omega); have HLn : Hid (run.length + n1 ≤ 10000) := hide (by omega); have HLr : Hid (m ≤ 10000) := hide (by omega); have hbx : Below wr.heap.size wr (wr.alloc (.cells #[.int .i64 1, .slice Bq m d] 99)) := (Below.refl _ wr).alloc (Nat.le_refl _) _; have HBq : Hid (Blk (wr.alloc (.cells #[.int .i64 1, .slice Bq m d] 99)) wr.heap.size 99 #[.int .i64 1, .slice Bq m d]) := hide (Blk.new wr _ _); have HU := hide (HUn.out.below hbx); have HLw := hide ((HSt.out.lo.below HSt.out.bf).below hbx); have HBw := hide (HBw0.out.trans (hbx.mono (Nat.le_trans hs1 hs2))); have hszR : (wr.alloc (.cells #[.int .i64 1, .slice Bq m d] 99)).heap.size = wr.heap.size + 1 := (by simp)
          obtain ⟨wR, hwR⟩ : ∃ wR, wr.alloc (.cells #[.int .i64 1, .slice Bq m d] 99) = wR := ⟨_, rfl⟩
          rw [hwR] at HBq HU HLw HBw hszR; have HwR : Hid (w.heap.size ≤ wR.heap.size) := hide (by omega); have HO1 : Hid (∀ k, (Value.slice A1 n1 c1).ownBlock = some k → k < wR.heap.size) := hide (fun k hk => by have := HO1b.out k hk; omega); have HO1c : Hid (∀ k, (Value.slice A1 n1 c1).ownBlock = some k → k < wr.heap.size) := hide (fun k hk => by have := HO1b.out k hk; omega); have HwRe := hide hwR; clear hST hrne h2 hbx hwR hsn htk1 hlen htk hSl; go_wp2; rw [HwRe.out]; clear k0 k1
          refine wp_region_relET 9 w.heap.size HwR.out [(fun v _ => v = Value.slice A1 n1 c1), (fun v _ => v = Value.slice A2 run.length c2), (fun v W2 => ∃ A n c, ∃ xs2 : List Value, v = Value.slice A n c ∧ LOw 2 99 sgR W2 wR.heap.size wR.heap.size A n c (chunkS run) xs2), (fun v W2 => ∃ A n c, ∃ xs2 : List Value, v = Value.slice A n c ∧ LOw 2 99 sgR W2 w.heap.size w.heap.size A n c (out ++ chunkS run) xs2), (fun v _ => v = .pointer (some ⟨wr.heap.size, 1, none⟩)), (fun v _ => v = Value.slice Bq m d), (fun v W2 => ∃ A c, v = Value.slice A ST.length c ∧ W2.ownsRow wR.heap.size 22 1 (.slice A ST.length c) ST.length (u32c ST)), (fun v W2 => ∃ A c, v = .agg #[.int .i64 1, .slice A ST.length c] ∧ W2.ownsRow wR.heap.size 22 1 (.slice A ST.length c) ST.length (u32c ST)), (fun v W2 => ∃ R A c, v = .slice (some ⟨R, 0, none⟩) 1 1 ∧ Blk W2 R 99 #[.int .i64 1, .slice A ST.length c] ∧ wR.heap.size ≤ R ∧ W2.ownsRow wR.heap.size 22 1 (.slice A ST.length c) ST.length (u32c ST))] (fun i W2 => (i = 3 → LOw 2 99 sgR W2 w.heap.size w.heap.size A1 n1 c1 out xs) ∧ Blk W2 wr.heap.size 99 #[.int .i64 1, .slice Bq m d] ∧ U32s W2 A2 run.length c2 run) (fun i wa wb => if i = 3 then wa.grownBy wb (Value.slice A1 n1 c1).ownBlock else Below wa.heap.size wa wb) (fun _ _ _ _ => True) (by kernel_rfl) (by kernel_rfl) (by kernel_rfl) (by kernel_rfl) (by kernel_rfl) (fun i wa wb hB he => by
            split at he
            · exact (Below.refl _ wa).grown he hB (fun k hk => HO0.out k hk)
            · exact he.mono hB) (fun i2 j2 v2 wa wb hij hB he h => by
            split at he
            · rename_i hj2; subst hj2; refine keepAll_at (E := fun wa wb => wa.grownBy wb (Value.slice A1 n1 c1).ownBlock) (x := 3) (k := 0) ?_ (by omega) he h; exact ⟨fun _ v w1 w2 he h => h, fun _ v w1 w2 he h => h, fun _ v w1 w2 he h => by obtain ⟨A, n, c, xs2, e, h1⟩ := h; exact ⟨A, n, c, xs2, e, h1.ag (Nat.le_refl _) he (fun r hr => .inl (HO1.out r hr))⟩, fun hn => absurd rfl hn, fun _ v w1 w2 he h => h, fun _ v w1 w2 he h => h, fun _ v w1 w2 he h => by obtain ⟨A, c, e, h1⟩ := h; exact ⟨A, c, e, own_apartR h1 he (fun k hk hr => by have := own_low_block h1 k hk; have := HO1.out k hr.symm; omega)⟩, fun _ v w1 w2 he h => by obtain ⟨A, c, e, h1⟩ := h; exact ⟨A, c, e, own_apartR h1 he (fun k hk hr => by have := own_low_block h1 k hk; have := HO1.out k hr.symm; omega)⟩, fun _ v w1 w2 he h => by obtain ⟨R, A, c, e, h0, hR, h1⟩ := h; exact ⟨R, A, c, e, h0.grown he (fun hr => by have := HO1.out R hr.symm; omega), hR, own_apartR h1 he (fun k hk hr => by have := own_low_block h1 k hk; have := HO1.out k hr.symm; omega)⟩, trivial⟩
            · refine relMono _ ?_ i2 v2 wa wb he h; exact ⟨fun _ _ _ _ h => h, fun _ _ _ _ h => h, fun v w2 w3 hb ⟨A, n, c, xs2, e, h⟩ => ⟨A, n, c, xs2, e, h.below hb⟩, fun v w2 w3 hb ⟨A, n, c, xs2, e, h⟩ => ⟨A, n, c, xs2, e, h.below hb⟩, fun _ _ _ _ h => h, fun _ _ _ _ h => h, fun v w2 w3 hb ⟨A, c, e, h⟩ => ⟨A, c, e, own_below h hb⟩, fun v w2 w3 hb ⟨A, c, e, h⟩ => ⟨A, c, e, own_below h hb⟩, fun v w2 w3 hb ⟨R, A, c, e, h1, h2, h3⟩ => ⟨R, A, c, e, h1.below hb h1.lt, h2, own_below h3 hb⟩, trivial⟩) (fun i2 j2 wa wb hij hB he h => by
            split at he
            · rename_i hj2; subst hj2; exact ⟨fun e => absurd e hij, h.2.1.grown he (fun hr => by have := HO1c.out wr.heap.size hr.symm; omega), u32s_grown h.2.2 he (fun h0 a ha hr => HO2.out h0 a ha hr)⟩
            · exact ⟨fun e => (h.1 e).below he, h.2.1.below he h.2.1.lt, h.2.2.below he⟩) (fun _ _ _ _ _ => trivial) (fun j _ => ⟨fun _ => HLw.out.below below_drew, HBq.out.below below_drew HBq.out.lt, HU.out.below below_drew⟩) ⟨?_, ?_, ?_, ?_, ?_, ?_, ?_, ?_, ?_, trivial⟩ ?_
          · refine relE_of rfl (fun _ _ _ => trivial) ?_; intro Dn Ac w5 hp; have a3 : Ac.eval (.tmp 3) = .slice A1 n1 c1 := hp.out 3 (by rfl); exact relPureX (Value.slice A1 n1 c1) (fun ρ hρ h1 h2 h3 => by rw [hρ] at a3; simp [go_sem, ↓IntWalk.iteOmega, *]) rfl
          · refine relE_of rfl (fun _ _ _ => trivial) ?_; intro Dn Ac w5 hp; have a4 : Ac.eval (.tmp 4) = .slice A2 run.length c2 := hp.out 4 (by rfl); exact relPureX (Value.slice A2 run.length c2) (fun ρ hρ h1 h2 h3 => by rw [hρ] at a4; simp [go_sem, ↓IntWalk.iteOmega, *]) rfl
          · refine relE_of rfl (fun _ _ _ => trivial) ?_; intro Dn Ac w5 hp; have hb := hp.bel; have a32 : Ac.eval (.tmp 32) = Value.slice A2 run.length c2 := hp.d 1; obtain ⟨ρ, hρ, hc, hf, hgl⟩ := evalX Ac; rw [hρ] at a32; refine relCall hρ 393 #[Value.slice A2 run.length c2] (by simp [go_sem, ↓IntWalk.iteOmega, *]) ?_; refine (pieces_any A2 run.length c2 run w5 hp.pre.2.2 (by have := HLn.out; omega)).mono ?_; intro e w6 hmv; unfold SegP at hmv; obtain ⟨A6, n6, c6, xs6, rfl, hl6, hb6⟩ := hmv; exact ⟨_, rfl, ⟨A6, n6, c6, xs6, rfl, hl6.less hb.size hb.size⟩, hb6⟩
          · skip
            intro Dn Ac w5 hp; have a31 : Ac.eval (.tmp 31) = Value.slice A1 n1 c1 := hp.d 0; obtain ⟨A33, n33, c33, xs33, a33, hl33⟩ := hp.d 2; change Ac.eval (.tmp 33) = _ at a33; have hlo5 := hp.pre.1 rfl; have hl33r := (hl33.lst (by decide)).reads (by decide); obtain ⟨ys, hys, hyc⟩ : ∃ ys, Reads w5 w5.heap.size 2 A33 n33 ys ∧ ys = xs33 := ⟨xs33, low_reads (by decide) hl33, rfl⟩
            subst hyc; have hnn : n33 = (chunkS run).length := (hl33.lst (by decide)).1.symm; have hck := chunkS_len run; have hob := HO1.out; refine wp_append_any w5 (.tmp 31) (.tmp 33) 25 rfl w.heap.size 99 i0 _ 2 32 Tryz.underlying25 hi hz0 hz1 hz2 rfl (by decide) (.slice A1 n1 c1) n1 xs a31 hlo5.1 w5.heap.size A33 n33 c33 ys a33 hys (low_ones sgOne (by decide) hl33) (by have := HLo.out; have := HLn.out; unfold maxLen; omega) (by have := HLo.out; have := HLn.out; omega) (by have := hp.bel.size; have := HwR.out; omega) ?_; intro v2 w6 h2 h3 h4; obtain ⟨A6, c6, rfl, hlo6⟩ := LOw.push hlo5 (low_chunks hl33 HwR.out (fun r e => hob r e)) h2 h3 h4; refine ⟨_, rfl, ⟨A6, n1 + n33, c6, xs ++ ys, rfl, hlo6⟩, h3, fun j _ => trivial⟩
          · refine relE_of rfl (fun _ _ _ => trivial) ?_; intro Dn Ac w5 hp; have a6 : Ac.eval (.tmp 6) = .pointer (some ⟨wr.heap.size, 0, none⟩) := hp.out 6 (by rfl); exact relPureX (.pointer (some ⟨wr.heap.size, 1, none⟩)) (fun ρ hρ h1 h2 h3 => by rw [hρ] at a6; simp [go_sem, ↓IntWalk.iteOmega, *]) rfl
          · refine relE_of rfl (fun _ _ _ => trivial) ?_; intro Dn Ac w5 hp; have a35 : Ac.eval (.tmp 35) = .pointer (some ⟨wr.heap.size, 1, none⟩) := hp.d 4; have z1 : w5.cell? ⟨wr.heap.size, 1, none⟩ = some (.slice Bq m d) := hp.pre.2.1.cell 1; exact relPureX (Value.slice Bq m d) (fun ρ hρ h1 h2 h3 => by rw [hρ] at a35; simp [go_sem, ↓IntWalk.iteOmega, *]) rfl
          · refine relE_of rfl (fun _ _ _ => trivial) ?_; intro Dn Ac w5 hp; have hb := hp.bel; have a36 : Ac.eval (.tmp 36) = Value.slice Bq m d := hp.d 5; obtain ⟨ρ, hρ, hc, hf, hgl⟩ := evalX Ac; rw [hρ] at a36; refine relCall hρ 332 #[Value.slice Bq m d] (by simp [go_sem, ↓IntWalk.iteOmega, *]) ?_; refine (asnSet_any Bq m d r w5 (HUr.out w5 (HBw.out.trans hb)) (by have := HLr.out; omega)).mono ?_; rintro e w6 ⟨v6, rfl, ho6, hb6⟩; rw [HST.out] at ho6; obtain ⟨A6, c6, rfl⟩ := own_slice ho6; exact ⟨_, rfl, ⟨A6, c6, rfl, own_baseLe ho6 hb.size⟩, hb6⟩
          · refine relE_of rfl (fun _ _ _ => trivial) ?_; intro Dn Ac w5 hp; obtain ⟨A37, c37, a37, ho37⟩ := hp.d 6; change Ac.eval (.tmp 37) = _ at a37; exact relPureX (.agg #[.int .i64 1, .slice A37 ST.length c37]) (fun ρ hρ h1 h2 h3 => by rw [hρ] at a37; simp [go_sem, ↓IntWalk.iteOmega, *]) ⟨A37, c37, rfl, ho37⟩
          · skip
            intro Dn Ac w5 hp; have hb := hp.bel; obtain ⟨A38, c38, a38, ho38⟩ := hp.d 7; change Ac.eval (.tmp 38) = _ at a38; obtain ⟨ρ, hρ, hc, hf, hgl⟩ := evalX Ac; rw [hρ] at a38; refine Oper.wp_mono ?_ (relVal (Rs := [fun v w' => v = .slice (some ⟨w5.heap.size, 0, none⟩) 1 1 ∧ w' = w5.alloc (.cells #[.int .i64 1, .slice A38 ST.length c38] 99)]) (i := 0) hρ (.slice (some ⟨w5.heap.size, 0, none⟩) 1 1) (w5.alloc (.cells #[.int .i64 1, .slice A38 ST.length c38] 99)) (by simp [go_sem, hc, hf, hgl, ↓IntWalk.iteOmega, a38]) ⟨rfl, rfl⟩ ((Below.refl _ _).alloc (Nat.le_refl _) _)); rintro A' w' ⟨v, rfl, ⟨rfl, rfl⟩, hb9⟩; exact ⟨_, rfl, ⟨w5.heap.size, A38, c38, rfl, Blk.new w5 _ _, hb.size, ho38.alloc _⟩, hb9, fun j _ => trivial⟩
          intro u w8 hb7 hall hprs; obtain ⟨A34, n34, c34, xs34, e34, hl34⟩ := relAll_at hall (i := 3) (by decide +kernel); change u 3 = _ at e34; obtain ⟨R39, A39, c39, e39, hR39, hRb39, ho39⟩ := relAll_at hall (i := 8) (by decide +kernel); change u 8 = _ at e39; clear hall; simp only [List.drop_succ_cons, List.drop_zero, List.take_succ_cons, List.take_zero, putAll, Act.put, List.setIfInBounds_toArray, List.set_cons_zero, List.set_cons_succ, Nat.zero_add, Nat.reduceAdd, e34, e39]; have hsR := hb7.size; have hwRs := HwR.out; have hSl : ST.length ≤ m := (by rw [← HST.out, ← hrl]; exact setOf_len _)
          have hn34 := (hl34.lst (by decide)).1; have hcl := chunkS_len run; rw [List.length_append] at hn34; have hLn := HLn.out; refine wpList_append_any w8 rfl (.tmp 34) (.tmp 39) 25 rfl w.heap.size 99 i0 _ 2 32 Tryz.underlying25 hi hz0 hz1 hz2 rfl (by decide) (.slice A34 n34 c34) n34 xs34 rfl hl34.1 w8.heap.size (some ⟨R39, 0, none⟩) 1 1 [.int .i64 1, .slice A39 ST.length c39] rfl (reads_blkN hR39 hR39.lt rfl rfl) (by simp [Value.oneCell']) (by unfold maxLen; omega) (by omega) (by omega) ?_; intro v2 w9 h2 h3 h4; obtain ⟨A4, c4, rfl, hlo⟩ := LOw.push hl34 (chunk1_fr rfl (sg_fr' (U32s.of_own ho39 HSb.out) (fun _ a ha => ⟨by have := own_low_block ho39 a.block (by rw [ha]; rfl); omega, fun e => own_types ho39 hl34.1 (by decide) a.block (by rw [ha]; rfl) e.symm⟩))) h2 h3 h4; have HLo9 := hide hlo; have HB9 := hide ((HBw.out.trans hb7).grown h3 (by omega) (fun k hk => own_low_block hl34.1 k hk)); clear hlo h2 h3 h4 hb7 hl34 hR39 hRb39 ho39 e34 e39 hn34 hcl; go_wp2
          go_roundw
          case rel => exact ⟨q + 1, w9, A4, n34 + 1, c4, _, none, 0, by omega, by go_num, rfl, by rw [HE.out]; rfl, by rw [HE.out]; exact ⟨HLo9.out, Below.refl _ _, World.ownsRow_nil _ _ _ _, by simp, HB9.out⟩⟩
          case measure => simp [intOf]; omega
        · have HE : Hid (nFold (l.take (q + 1)) = (out, run)) := hide (HStep.out.trans (by
            unfold nStep; rw [if_neg h2, if_neg]; rintro ⟨hb1, hr0⟩; refine h1 ⟨hb1, ?_⟩; rw [← hrl]; exact List.length_pos_iff.2 hr0))
          have HBf1 : Hid (∀ o1 : Obj, Below wf.heap.size wf (wr.alloc o1)) := hide (fun o1 => HSt.out.bf.alloc hs2 o1); have HOw : Hid (∀ o1 : Obj, (wr.alloc o1).ownsRow wf.heap.size 22 1 (.slice A2 run.length c2) run.length (u32c run)) := hide (fun o1 => HSt.out.own.alloc o1); by_cases h3 : b = 1
          · subst h3; have hm1 : decide (0 < m) = false := decide_eq_false (fun hh => h1 ⟨rfl, hh⟩); clear h1 h2; go_wp2
            go_roundw
            case rel => exact ⟨q + 1, wf, A1, n1, c1, xs, A2, c2, by omega, by go_num, rfl, by rw [HE.out], by rw [HE.out]; exact ⟨HSt.out.lo, HBf1.out _, HOw.out _, HSt.out.bd, HSt.out.bw⟩⟩
            case measure => simp [intOf]; omega
          · have e1 : (b == 1) = false := (by simpa using h3)
            clear h1 h2 h3; go_wp2
            go_roundw
            case rel => exact ⟨q + 1, wf, A1, n1, c1, xs, A2, c2, by omega, by go_num, rfl, by rw [HE.out], by rw [HE.out]; exact ⟨HSt.out.lo, HBf1.out _, HOw.out _, HSt.out.bd, HSt.out.bw⟩⟩
            case measure => simp [intOf]; omega
    · obtain rfl : q = n := (by omega)
      have HNo : Hid (normS l = out ++ chunkS run) := hide (by have e : l.take q = l := List.take_of_length_le (by omega); rw [e] at hs; rw [nFold_norm, hs]); have HPc := hide (pieces_any A2 run.length c2 run wr HUn.out (by omega)); have HLw := hide (HSt.out.lo.below HSt.out.bf); have hLn : run.length + n1 ≤ 10000 := (by omega)
      clear hst hbw hs hlt
      go_wp2_with fail
      refine HPc.out.mono ?_; intro e w6 hmv; unfold SegP at hmv; obtain ⟨A6, n6, c6, xs6, rfl, hl6, hb6⟩ := hmv; have HL6 := hide hl6; have hn6 : (chunkS run).length = n6 := (hl6.lst (by decide)).1; have hcl := chunkS_len run; have HLw6 := hide (HLw.out.below hb6); have HB6 := hide (HBw0.out.trans (hb6.mono (Nat.le_trans hs1 hs2))); have hs6 := hb6.size; clear hl6 hb6
      go_wp2_with (at_builtin; refine wpList_append_any _ rfl (.tmp 42) (.tmp 44) 25 rfl w.heap.size 99 i0 _ 2 32 Tryz.underlying25 hi hz0 hz1 hz2 rfl (by decide) (.slice A1 n1 c1) n1 xs rfl HLw6.out.1 _ A6 n6 c6 xs6 rfl (low_reads (by decide) HL6.out) (low_ones sgOne (by decide) HL6.out) (by unfold maxLen; omega) (by omega) (by omega) ?_; intro v' w7 h2 h3 h4; obtain ⟨A7, c7, rfl, hlo⟩ := LOw.push HLw6.out (low_chunks HL6.out (by omega) (fun k hk => by have := HO1b.out k hk; omega)) h2 h3 h4; have HL7 := hide hlo; have HB7 := hide (HB6.out.grown h3 (by omega) (fun k hk => HO0.out k hk)); clear hlo h2 h3 h4)
      go_ret; exact ⟨A7, n1 + n6, c7, xs ++ xs6, rfl, by rw [HNo.out]; exact HL7.out, HB7.out⟩
def AgS (S : Nat → Prop) (ob : Option Nat) (w w' : World) : Prop := w.heap.size ≤ w'.heap.size ∧ ∀ (k : Nat) (o : Obj), S k → w.heap[k]? = some o → o.isCells = true → some k ≠ ob → w'.heap[k]? = some o
def FrS (S : Nat → Prop) (ob : Option Nat) (R : World → Prop) (w : World) : Prop := ∀ w', AgS S ob w w' → R w'
theorem frs_here {S : Nat → Prop} {ob : Option Nat} {R : World → Prop} {w : World} (h : FrS S ob R w) : R w := h w ⟨Nat.le_refl _, fun _ _ _ h _ _ => h⟩
theorem frs_ag {S : Nat → Prop} {ob : Option Nat} {R : World → Prop} {w w' : World} (h : FrS S ob R w) (ha : AgS S ob w w') : FrS S ob R w' := fun w2 h2 =>
 h w2 ⟨Nat.le_trans ha.1 h2.1, fun k o h0 h1 hc h3 => h2.2 k o h0 (ha.2 k o h0 h1 hc h3) hc h3⟩
end Go.Proofs.YtmffmkjgdjgmeaaGreat
namespace Go.Proofs.YtmffmkjgdjgmeaaGreat
open Go.RowKit Go.WideShapes Go.ChangeShapes
structure ChgS (S : Nat → Prop) (w w' : World) : Prop where
  os : w'.os = w.os
  tape : w'.tape = w.tape
  output : w'.output = w.output
  size : w.heap.size ≤ w'.heap.size
  block : ∀ k, k < w.heap.size → ¬ S k → w'.heap[k]? = w.heap[k]?
section
variable {S S1 S' F : Nat → Prop} {w w1 w' : World} {g B : Nat} {t : TypeId} {cs : Array Value}
theorem chg_refl (S : Nat → Prop) (w : World) : ChgS S w w := ⟨rfl, rfl, rfl, Nat.le_refl _, fun _ _ _ => rfl⟩
theorem chg_below (hb : Below w.heap.size w w') : ChgS S w w' := ⟨hb.os, hb.tape, hb.output, hb.size, fun k hk _ => hb.block k hk⟩
theorem chg_trans (h : ChgS S w w1) (h' : ChgS S1 w1 w') (hs : ∀ k, S1 k → S k ∨ w.heap.size ≤ k) : ChgS S w w' :=
  ⟨h'.os.trans h.os, h'.tape.trans h.tape, h'.output.trans h.output, Nat.le_trans h.size h'.size, fun k hk hn =>
    (h'.block k (Nat.lt_of_lt_of_le hk h.size) (fun h1 => (hs k h1).elim hn (fun h2 => by omega))).trans (h.block k hk hn)⟩
theorem chg_mono (h : ChgS S w w') (hs : ∀ k, S k → S' k ∨ w.heap.size ≤ k) : ChgS S' w w' :=
 ⟨h.os, h.tape, h.output, h.size, fun k hk hn => h.block k hk (fun h1 => (hs k h1).elim hn (fun h2 => by omega))⟩
theorem chg_set {p : Addr} (hp : S p.block) (v : Value) : ChgS S w (w.setCell p v) :=
 ⟨rfl, rfl, rfl, by simp [World.setCell], fun k _ hn => Below.heap_setCell w p v k (by rintro rfl; exact hn hp)⟩
theorem chg_sets {H : Nat} (hp : S H) : ∀ (vs : List Value) (i : Nat) {w : World}, ChgS S w (w.setCells H i vs)
 | [], _, w => chg_refl S w
 | v :: vs, i, w => chg_trans (chg_set (p := ⟨H, i, none⟩) hp v) (chg_sets hp vs (i + 1)) (fun k h => .inl h)
theorem chg_drew (n : Nat) : ChgS S w (w.drewN n) := ⟨rfl, rfl, rfl, Nat.le_refl _, fun _ _ _ => rfl⟩
theorem chg_to_below (h : ChgS S w w') (hB : B ≤ w.heap.size) (hs : ∀ k, S k → B ≤ k) : Below B w w' :=
 ⟨h.os, h.tape, h.output, h.size, fun k hk => h.block k (by omega) (fun h1 => by have := hs k h1; omega)⟩
theorem chg_blk (h : ChgS S w w') (hk : Blk w g t cs) (hg : ¬ S g) : Blk w' g t cs := (h.block g hk.lt hg).trans hk
theorem chg_ags {ob : Option Nat} (h : ChgS S w w') (hF : ∀ k, F k → ¬ S k) : AgS F ob w w' := ⟨h.size, fun k o h0 h1 _ _ => (h.block k (heap_lt h1) (hF k h0)).trans h1⟩
theorem chg_grown {row : Option Nat} (hg : w.grownBy w' row) (hr : ∀ r, row = some r → S r) : ChgS S w w' :=
 ⟨hg.os, hg.tape, hg.output, hg.size, fun k hk hn => hg.block k hk (fun e => hn (hr k e.symm))⟩
theorem frs_more {ob : Option Nat} {R : World → Prop} (h : FrS S ob R w) (hs : ∀ k, S k → S' k) : FrS S' ob R w := fun w2 h2 => h w2 ⟨h2.1, fun k o h0 => h2.2 k o (hs k h0)⟩
theorem frs_chg {ob : Option Nat} {R : World → Prop} (h : FrS F ob R w) (hc : ChgS S w w') (hF : ∀ k, F k → ¬ S k) : FrS F ob R w' := frs_ag h (chg_ags hc hF)
theorem frs_of_frb {R : World → Prop} (h : FrB B none R w) : FrS (fun k => B ≤ k ∧ k < w.heap.size) none R w := fun w2 h2 =>
 h w2 ⟨h2.1, fun k o h0 h1 hc h3 => h2.2 k o ⟨h0, heap_lt h1⟩ h1 hc h3⟩
end
section
variable {α : Type}
def trPtr : Tr α → Value
  | .nil => .pointer none
  | .nd b _ _ _ _ _ => .pointer (some ⟨b, 0, none⟩)
def ndC (a n : Nat) (vs : List Value) (p : Bool) (c : Nat) (x y : Value) : Array Value := ([Value.int .u32 (a : Int), .int .i64 (n : Int)] ++ vs ++ [.bool p, .int .i64 (c : Int), x, y]).toArray
def VOk (sz : Nat) (vs : List Value) : Prop := vs.length = sz ∧ ∀ u ∈ vs, u.oneCell' = true
def TrW (sz : Nat) (T : TypeId) (F : Nat → Prop) (R : World → List Value → α → Prop) (w : World) : Tr α → Prop
  | .nil => True
  | .nd b a n v l r => (∃ vs : List Value, VOk sz vs ∧ Blk w b T (ndC a n vs v.isSome (trCnt l + trCnt r + (if v.isSome then 1 else 0)) (trPtr l) (trPtr r)) ∧ ∀ x, v = some x → FrS F none (fun w => R w vs x) w) ∧
      TrW sz T F R w l ∧ TrW sz T F R w r
structure TrA (sz : Nat) (T : TypeId) (F : Nat → Prop) (R : World → List Value → α → Prop) (w : World) (t : Tr α) : Prop where
  mem : TrW sz T F R w t
  wf : trWf t
  nodup : (trB t).Nodup
  far : ∀ k ∈ trB t, ¬ F k
variable {sz : Nat} {T : TypeId} {F F' S : Nat → Prop} {R : World → List Value → α → Prop} {w w' : World} {t : Tr α}
theorem TrW.lt : ∀ {t : Tr α}, TrW sz T F R w t → ∀ k ∈ trB t, k < w.heap.size
 | .nil, _, k, hk => by simp [trB] at hk
 | .nd b a n v l r, h, k, hk => by
   obtain ⟨⟨vs, _, hb, _⟩, hl, hr⟩ := h; simp only [trB, List.mem_cons, List.mem_append] at hk; rcases hk with rfl | hk | hk
   ·exact hb.lt
   ·exact TrW.lt hl k hk
   ·exact TrW.lt hr k hk
theorem TrW.chg : ∀ {t : Tr α}, TrW sz T F R w t → ChgS S w w' → (∀ k ∈ trB t, ¬ S k) → (∀ k, F k → ¬ S k) → TrW sz T F R w' t
 | .nil, _, _, _, _ => trivial
 | .nd b a n v l r, h, hc, hs, hF => by
   obtain ⟨⟨vs, h1, hb, h2⟩, hl, hr⟩ := h; refine ⟨⟨vs, h1, chg_blk hc hb (hs b (by simp [trB])), fun x e => frs_chg (h2 x e) hc hF⟩, TrW.chg hl hc (fun k hk => hs k ?_) hF, TrW.chg hr hc (fun k hk => hs k ?_) hF⟩
   ·simp [trB, hk]
   ·simp [trB, hk]
theorem TrW.more : ∀ {t : Tr α}, TrW sz T F R w t → (∀ k, F k → F' k) → TrW sz T F' R w t
 | .nil, _, _ => trivial
 | .nd b a n v l r, h, hF => by
   obtain ⟨⟨vs, h1, hb, h2⟩, hl, hr⟩ := h; exact ⟨⟨vs, h1, hb, fun x e => frs_more (h2 x e) hF⟩, TrW.more hl hF, TrW.more hr hF⟩
theorem TrA.chg (h : TrA sz T F R w t) (hc : ChgS S w w') (hs : ∀ k ∈ trB t, ¬ S k) (hF : ∀ k, F k → ¬ S k) : TrA sz T F R w' t := ⟨h.mem.chg hc hs hF, h.wf, h.nodup, h.far⟩
theorem TrA.more (h : TrA sz T F R w t) (hF : ∀ k, F k → F' k) (hs : ∀ k ∈ trB t, ¬ F' k) : TrA sz T F' R w t := ⟨h.mem.more hF, h.wf, h.nodup, hs⟩
theorem TrA.nil_ : TrA sz T F R w (.nil : Tr α) := ⟨trivial, trivial, by simp [trB], by simp [trB]⟩
structure NdA (sz : Nat) (T : TypeId) (F : Nat → Prop) (R : World → List Value → α → Prop) (w : World) (b a n : Nat) (v : Option α) (l r : Tr α) (vs : List Value) : Prop where
  len : VOk sz vs
  blk : Blk w b T (ndC a n vs v.isSome (trCnt l + trCnt r + (if v.isSome then 1 else 0)) (trPtr l) (trPtr r))
  val : ∀ x, v = some x → FrS F none (fun w => R w vs x) w
  left : TrA sz T F R w l
  right : TrA sz T F R w r
  wf : trWf (.nd b a n v l r)
  bl : b ∉ trB l
  br : b ∉ trB r
  bf : ¬ F b
  lr : ∀ k ∈ trB l, k ∉ trB r
theorem TrA.node {b a n : Nat} {v : Option α} {l r : Tr α} (h : TrA sz T F R w (.nd b a n v l r)) : ∃ vs, NdA sz T F R w b a n v l r vs := by
 obtain ⟨⟨⟨vs, h1, hb, h2⟩, hl, hr⟩, hw, hn, hf⟩ := h; have hn2 := List.nodup_cons.1 hn; have hn3 := List.nodup_append.1 hn2.2; have hm : ∀ k ∈ trB l, k ∈ trB (.nd b a n v l r) := fun k hk => by simp [trB, hk]
 have hm2 : ∀ k ∈ trB r, k ∈ trB (.nd b a n v l r) := fun k hk => by simp [trB, hk]
 exact ⟨vs, h1, hb, h2, ⟨hl, hw.2.2.2.1, hn3.1, fun k hk => hf k (hm k hk)⟩, ⟨hr, hw.2.2.2.2, hn3.2.1, fun k hk => hf k (hm2 k hk)⟩, hw, fun hk => hn2.1 (List.mem_append.2 (.inl hk)), fun hk => hn2.1 (List.mem_append.2 (.inr hk)), hf b (by simp [trB]), fun k h1 h2 => hn3.2.2 k h1 k h2 rfl⟩
theorem NdA.tree {b a n : Nat} {v : Option α} {l r : Tr α} {vs : List Value} (h : NdA sz T F R w b a n v l r vs) : TrA sz T F R w (.nd b a n v l r) := by
 refine ⟨⟨⟨vs, h.len, h.blk, h.val⟩, h.left.mem, h.right.mem⟩, h.wf, ?_, ?_⟩
 ·refine List.nodup_cons.2 ⟨fun hk => ?_, List.nodup_append.2 ⟨h.left.nodup, h.right.nodup, fun k h1 k2 h2 e => by subst e; exact h.lr k h1 h2⟩⟩; rcases List.mem_append.1 hk with hk | hk
  ·exact h.bl hk
  ·exact h.br hk
 ·intro k hk; simp only [trB, List.mem_cons, List.mem_append] at hk; rcases hk with rfl | hk | hk
  ·exact h.bf
  ·exact h.left.far k hk
  ·exact h.right.far k hk
theorem trCnt_le : ∀ t : Tr α, trCnt t ≤ (trB t).length
 | .nil => Nat.le_refl _
 | .nd b a n v l r => by
   have h1 := trCnt_le l; have h2 := trCnt_le r; simp only [trCnt, trB, List.length_cons, List.length_append]; split <;> omega
end
end Go.Proofs.YtmffmkjgdjgmeaaGreat
namespace Go.Proofs.YtmffmkjgdjgmeaaGreat
open Go.RowKit Go.WideShapes Go.ChangeShapes
def attB (h : Int) (k : Nat) : Bool := decide (h / 2 ^ k % 2 = 1)
def low9 (h : Int) : Nat := (h % 512).toNat
def nmH (h : Int) : Nat := low9 h &&& 510
def K8 (k : Nat) : Prop := 1 ≤ k ∧ k ≤ 8
theorem k8_cases {k : Nat} (h : K8 k) : k = 1 ∨ k = 2 ∨ k = 3 ∨ k = 4 ∨ k = 5 ∨ k = 6 ∨ k = 7 ∨ k = 8 := by unfold K8 at h; omega
theorem low9_lt (h : Int) : low9 h < 512 := by unfold low9; omega
theorem low9_nat {m : Nat} (h : m < 512) : low9 (m : Int) = m := by unfold low9; omega
theorem hb_low (h : Int) (k : Nat) (hk : K8 k) : attB h k = attB (low9 h : Int) k := by
 unfold attB low9; rcases k8_cases hk with rfl | rfl | rfl | rfl | rfl | rfl | rfl | rfl <;> (refine decide_eq_decide.2 ?_; simp only [Nat.reducePow, Int.reducePow]; omega)
theorem i64_small (n : Nat) (h : n < 65536) : IntKind.i64.wrap (n : Int) = (n : Int) := by rw [IntKind.wrap_i64]; omega
theorem bits_and_i64 (h : Int) (c : Nat) (hc : c < 512) : bits .and .i64 h (c : Int) = ((low9 h &&& c : Nat) : Int) := by
  have e1 : (BitVec.ofInt 64 h).toNat = (h % 18446744073709551616).toNat := (by simp [BitVec.toNat_ofInt])
  have e2 : (BitVec.ofInt 64 (c : Int)).toNat = c := (by rw [BitVec.toNat_ofInt]; omega)
  have e3 : (h % 18446744073709551616).toNat &&& c = low9 h &&& c := by
    have e4 : low9 h = (h % 18446744073709551616).toNat % 2 ^ 9 := (by unfold low9; omega)
    rw [e4]
    apply Nat.eq_of_testBit_eq
    intro i; simp only [Nat.testBit_and, Nat.testBit_mod_two_pow]; by_cases hi : i < 9
    · simp [hi]
    · have : c.testBit i = false := Nat.testBit_lt_two_pow (Nat.lt_of_lt_of_le hc (by
        have := Nat.pow_le_pow_right (n := 2) (by decide) (show 9 ≤ i by omega); simpa using this))
      simp [this]
  show IntKind.i64.wrap ((BitVec.ofInt 64 h &&& BitVec.ofInt 64 (c : Int)).toNat : Int) = _; rw [BitVec.toNat_and, e1, e2, e3]; refine i64_small _ ?_; have := Nat.and_le_left (n := low9 h) (m := c); have := low9_lt h; omega
theorem and_pow : ∀ m : Nat, m < 512 → ∀ k ∈ [1, 2, 3, 4, 5, 6, 7, 8], m &&& 2 ^ k = if attB (m : Int) k then 2 ^ k else 0 := by decide +kernel
theorem k8_mem {k : Nat} (h : K8 k) : k ∈ [1, 2, 3, 4, 5, 6, 7, 8] := by rcases k8_cases h with rfl | rfl | rfl | rfl | rfl | rfl | rfl | rfl <;> decide
theorem k8_pow {k : Nat} (h : K8 k) : 2 ^ k < 512 ∧ 0 < 2 ^ k := by rcases k8_cases h with rfl | rfl | rfl | rfl | rfl | rfl | rfl | rfl <;> decide
theorem hb_and (h : Int) (k : Nat) (hk : K8 k) : bits .and .i64 h ((2 ^ k : Nat) : Int) = if attB h k then ((2 ^ k : Nat) : Int) else 0 := by
 rw [bits_and_i64 h _ (k8_pow hk).1, and_pow _ (low9_lt h) _ (k8_mem hk), ← hb_low h k hk]; split <;> simp
theorem nmH_and (h : Int) : bits .and .i64 h 510 = (nmH h : Int) := bits_and_i64 h 510 (by decide)
theorem nmH_lt (h : Int) : nmH h < 512 := by
 unfold nmH; have := Nat.and_le_left (n := low9 h) (m := 510); have := low9_lt h; omega
theorem hb_nm_ : ∀ m : Nat, m < 512 → ∀ k ∈ [1, 2, 3, 4, 5, 6, 7, 8], attB ((m &&& 510 : Nat) : Int) k = attB (m : Int) k := by decide +kernel
theorem hb_nm (h : Int) (k : Nat) (hk : K8 k) : attB (nmH h : Int) k = attB h k := by
 rw [hb_low h k hk]; exact hb_nm_ _ (low9_lt h) _ (k8_mem hk)
theorem nm_nm_ : ∀ m : Nat, m < 512 → (m &&& 510) &&& 510 = m &&& 510 := by decide +kernel
def Own8 (m : Nat) : Prop := m < 512 ∧ m &&& 510 = m
theorem own8_nm (h : Int) : Own8 (nmH h) := ⟨nmH_lt h, nm_nm_ _ (low9_lt h)⟩
theorem own8_nmH {m : Nat} (h : Own8 m) : nmH (m : Int) = m := by unfold nmH; rw [low9_nat h.1]; exact h.2
def sumB (m : Nat) : Nat → Nat
  | 0 => 0
  | k + 1 => sumB m k + if attB (m : Int) (k + 1) then 2 ^ (k + 1) else 0
theorem sumB_eq : ∀ m : Nat, m < 512 → sumB m 8 = m &&& 510 := by decide +kernel
theorem hb_shr (h : Int) (k : Nat) (hk : K8 k) : bits .and .i64 (h / 2 ^ k) 1 = if attB h k then 1 else 0 := by
 have e := bits_and_i64 (h / 2 ^ k) 1 (by decide); rw [show ((1 : Nat) : Int) = 1 from rfl] at e; rw [e, Nat.and_one_is_mod]; unfold attB low9; rcases k8_cases hk with rfl | rfl | rfl | rfl | rfl | rfl | rfl | rfl <;> (simp only [Nat.reducePow, Int.reducePow, decide_eq_true_eq]; split <;> omega)
structure AT where
  has : Int
  org : Int
  path : List SG
  hop : Int
  med : Int
  pref : Int
  aas : Int
  aid : Int
  comms : List Nat
theorem btr {w w1 w2 : World} (h : Below w.heap.size w w1) (h2 : Below w1.heap.size w1 w2) : Below w.heap.size w w2 := h.trans (h2.mono h.size)
abbrev aC (X : AT) (A : Option Addr) (n c : Nat) (B : Option Addr) (m d : Nat) : Array Value := #[.int .i64 X.has, .int .i64 X.org, .slice A n c, .int .u32 X.hop, .int .u32 X.med, .int .u32 X.pref, .int .u32 X.aas, .int .u32 X.aid, .slice B m d]
abbrev aL (X : AT) (A : Option Addr) (n c : Nat) (B : Option Addr) (m d : Nat) : List Value := [.int .i64 X.has, .int .i64 X.org, .slice A n c, .int .u32 X.hop, .int .u32 X.med, .int .u32 X.pref, .int .u32 X.aas, .int .u32 X.aid, .slice B m d]
abbrev zeroL : List Value := [.int .i64 0, .int .i64 0, .slice none 0 0, .int .u32 0, .int .u32 0, .int .u32 0, .int .u32 0, .int .u32 0, .slice none 0 0]
abbrev zeroA : Array Value := #[.int .i64 0, .int .i64 0, .slice none 0 0, .int .u32 0, .int .u32 0, .int .u32 0, .int .u32 0, .int .u32 0, .slice none 0 0]
def normA (x : AT) : AT := ⟨nmH x.has, if attB x.has 1 then x.org else 0, if attB x.has 2 then normS x.path else [], if attB x.has 3 then x.hop else 0, if attB x.has 4 then x.med else 0,
  if attB x.has 5 then x.pref else 0, if attB x.has 7 then x.aas else 0, if attB x.has 7 then x.aid else 0, if attB x.has 8 then setOf x.comms else []⟩
end Go.Proofs.YtmffmkjgdjgmeaaGreat
namespace Go.Proofs.YtmffmkjgdjgmeaaGreat
open Go.RowKit Go.WideShapes Go.ChangeShapes
attribute [local go_sem] Oper.semAt_some
abbrev atV (h o : Int) (A : Option Addr) (n c : Nat) (hp md pf aa ai : Int) (B : Option Addr) (m d : Nat) : Value := .agg #[.int .i64 h, .int .i64 o, .slice A n c, .int .u32 hp, .int .u32 md, .int .u32 pf, .int .u32 aa, .int .u32 ai, .slice B m d]
abbrev atC (h o : Int) (A : Option Addr) (n c : Nat) (hp md pf aa ai : Int) (B : Option Addr) (m d : Nat) : Array Value := #[.int .i64 h, .int .i64 o, .slice A n c, .int .u32 hp, .int .u32 md, .int .u32 pf, .int .u32 aa, .int .u32 ai, .slice B m d]
theorem hasB_ne (h : Int) (k : Nat) (hk : K8 k) : (bits .and .i64 h ((2 ^ k : Nat) : Int) != 0) = attB h k := by
 rw [hb_and h k hk]; have := (k8_pow hk).2; obtain ⟨q, hq⟩ : ∃ q, 2 ^ k = q := ⟨_, rfl⟩
 rw [hq] at this ⊢
 cases attB h k
 ·rfl
 ·simp; omega
set_option maxRecDepth 100000 in
set_option maxHeartbeats 4000000 in
theorem attrHas_any (k : Nat) (hk : K8 k) (h o : Int) (A : Option Addr) (n c : Nat) (hp md pf aa ai : Int) (B : Option Addr) (m d : Nat) (w : World) :
    Calls Tryz.prog 330 #[atV h o A n c hp md pf aa ai B m d, .int .i64 (k : Int)] w (GoodP (attB h k) w) := by
  have hne := hasB_ne h k hk; have HB := hide (((Below.refl w.heap.size w).alloc (Nat.le_refl _) (.cells (atC h o A n c hp md pf aa ai B m d) 28))); have HK := hide (Blk.new w 28 (atC h o A n c hp md pf aa ai B m d)); have c0 := HK.out.cell 0
  rcases k8_cases hk with rfl | rfl | rfl | rfl | rfl | rfl | rfl | rfl <;> (
    simp only [Nat.reducePow, Int.reducePow, Int.cast_ofNat_Int] at hne
    go_enter Tryz.func330, Tryz.ntmps330
    go_wp2
    go_region
    go_wp2; go_ret; exact ⟨by simp [hne], HB.out.drew⟩)
abbrev zeroC : Array Value := atC 0 0 none 0 0 0 0 0 0 0 none 0 0
structure NS (w : World) (arg out : Array Value) (wc : World) : Prop where
  bel : Below w.heap.size w wc
  k0 : Blk wc w.heap.size 28 arg
  k1 : Blk wc (w.heap.size + 1) 28 zeroC
  k2 : Blk wc (w.heap.size + 1 + 1) 28 out
theorem NS.call {w wc w2 : World} {arg out : Array Value} (h : NS w arg out wc) (hb : Below wc.heap.size wc w2) : NS w arg out w2 :=
 ⟨h.bel.trans (hb.mono h.bel.size), h.k0.below hb h.k0.lt, h.k1.below hb h.k1.lt, h.k2.below hb h.k2.lt⟩
theorem NS.set_ {w wc : World} {arg out : Array Value} (h : NS w arg out wc) (i : Nat) (v : Value) : NS w arg (out.setIfInBounds i v) (wc.setCell ⟨w.heap.size + 1 + 1, i, none⟩ v) :=
 ⟨h.bel.setCell (by show w.heap.size ≤ w.heap.size + 1 + 1; omega) v, h.k0.far (by show w.heap.size ≠ w.heap.size + 1 + 1; omega) v, h.k1.far (by show w.heap.size + 1 ≠ w.heap.size + 1 + 1; omega) v, h.k2.set_ i v⟩
theorem NS.start (w : World) (arg out : Array Value) : NS w arg out (((w.alloc (.cells arg 28)).alloc (.cells zeroC 28)).alloc (.cells out 28)) :=
 ⟨((((Below.refl _ w).alloc (Nat.le_refl _) _).alloc (by simp) _).alloc (by simp; omega) _), ((Blk.new w _ _).alloc _).alloc _, (blk_new' _ _ (by simp)).alloc _, blk_new' _ _ (by simp)⟩
theorem blk9 {w : World} {g : Nat} {t : TypeId} {v0 v1 v2 v3 v4 v5 v6 v7 v8 : Value} (h : Blk w g t #[v0, v1, v2, v3, v4, v5, v6, v7, v8]) :
  w.cell? ⟨g, 0, none⟩ = some v0 ∧ w.cell? ⟨g, 1, none⟩ = some v1 ∧ w.cell? ⟨g, 2, none⟩ = some v2 ∧ w.cell? ⟨g, 3, none⟩ = some v3 ∧ w.cell? ⟨g, 4, none⟩ = some v4 ∧ w.cell? ⟨g, 5, none⟩ = some v5 ∧ w.cell? ⟨g, 6, none⟩ = some v6 ∧ w.cell? ⟨g, 7, none⟩ = some v7 ∧ w.cell? ⟨g, 8, none⟩ = some v8 :=
 ⟨h.cell 0, h.cell 1, h.cell 2, h.cell 3, h.cell 4, h.cell 5, h.cell 6, h.cell 7, h.cell 8⟩
theorem own_nil (w : World) (b : Nat) (e : TypeId) : w.ownsRow b e 1 (.slice none 0 0) 0 [] := World.ownsRow_nil _ _ _ _
theorem blk_sets {g : Nat} {t : TypeId} : ∀ (vs pre old : List Value) {w : World}, Blk w g t (pre ++ old).toArray → old.length = vs.length → Blk (w.setCells g pre.length vs) g t (pre ++ vs).toArray
 | [], pre, old, w, h, hl => by
  obtain rfl := List.length_eq_zero_iff.1 hl; exact h
 | v :: vs, pre, [], w, h, hl => by simp at hl
 | v :: vs, pre, x :: old, w, h, hl => by
  have h1 := h.set_ pre.length v; rw [List.setIfInBounds_toArray, List.set_append_right _ _ (Nat.le_refl _), Nat.sub_self, List.set_cons_zero] at h1; have h2 : Blk (w.setCell ⟨g, pre.length, none⟩ v) g t ((pre ++ [v]) ++ old).toArray := (by rw [List.append_assoc]; exact h1)
  have h3 := blk_sets vs (pre ++ [v]) old h2 (by simpa using hl); rw [List.length_append, List.append_assoc] at h3; exact h3
theorem blk9_set {w : World} {g : Nat} {t : TypeId} {u0 u1 u2 u3 u4 u5 u6 u7 u8 v0 v1 v2 v3 v4 v5 v6 v7 v8 : Value} (h : Blk w g t #[u0, u1, u2, u3, u4, u5, u6, u7, u8]) :
  Blk (w.setCells g 0 [v0, v1, v2, v3, v4, v5, v6, v7, v8]) g t #[v0, v1, v2, v3, v4, v5, v6, v7, v8] := by
 exact blk_sets [v0, v1, v2, v3, v4, v5, v6, v7, v8] [] [u0, u1, u2, u3, u4, u5, u6, u7, u8] h rfl
theorem low_sets {α : Type} {sz : Nat} {t : TypeId} {R : World → List Value → α → Prop} {A : Option Addr} {n c B B' H : Nat} {l : List α} {xs : List Value} : ∀ (vs : List Value) (i : Nat) {w : World}, LOw sz t R w B B' A n c l xs → H < B → H < B' → LOw sz t R (w.setCells H i vs) B B' A n c l xs
 | [], _, _, h, _, _ => h
 | v :: vs, i, _, h, h1, h2 => low_sets vs (i + 1) (h.set h1 h2 v) h1 h2
theorem own_sets9 {base e size n H : Nat} {u : Value} {xs : List Value} : ∀ (vs : List Value) (i : Nat) {w : World}, w.ownsRow base e size u n xs → H < base → (w.setCells H i vs).ownsRow base e size u n xs
 | [], _, _, h, _ => h
 | v :: vs, i, _, h, h1 => own_sets9 vs (i + 1) (own_sets h h1) h1
theorem below_sets {B H : Nat} {w : World} : ∀ (vs : List Value) (i : Nat) {w' : World}, Below B w w' → B ≤ H → Below B w (w'.setCells H i vs)
 | [], _, _, h, _ => h
 | v :: vs, i, _, h, h1 => below_sets vs (i + 1) (h.setCell h1 v) h1
theorem cn_bd {q : Bool} {cl CN : List Nat} (hx : (if q = true then setOf cl else []) = CN) (hb : ∀ y ∈ cl, y < 4294967296) : ∀ y ∈ CN, y < 4294967296 := by
 subst hx
 cases q
 ·intro y hy; simp at hy
 ·intro y hy; rw [if_pos rfl, setOf_mem] at hy; exact hb y hy
def AtO (b : Nat) (w : World) (x : AT) (v : Value) : Prop := ∃ A n c xs B m d, v = atV x.has x.org A n c x.hop x.med x.pref x.aas x.aid B m d ∧ LOw 2 99 sgR w b b A n c x.path xs ∧ FrB b none (fun w => U32s w B m d x.comms) w
def AtR (w : World) (x : AT) (v : Value) : Prop := ∃ A n c B m d, v = atV x.has x.org A n c x.hop x.med x.pref x.aas x.aid B m d ∧ LstAt 2 sgR w A n c x.path ∧ U32s w B m d x.comms
theorem AtO.rd {b : Nat} {w : World} {x : AT} {v : Value} (h : AtO b w x v) : AtR w x v := by
 obtain ⟨A, n, c, xs, B, m, d, e, h1, h2⟩ := h; exact ⟨A, n, c, B, m, d, e, h1.lst (by decide), h2.here⟩
theorem AtR.below {w w' : World} {x : AT} {v : Value} (h : AtR w x v) (hb : Below w.heap.size w w') : AtR w' x v := by
 obtain ⟨A, n, c, B, m, d, e, h1, h2⟩ := h; exact ⟨A, n, c, B, m, d, e, h1.below sgMono hb, h2.below hb⟩
theorem AtO.below {b : Nat} {w w' : World} {x : AT} {v : Value} (h : AtO b w x v) (hb : Below w.heap.size w w') : AtO b w' x v := by
 obtain ⟨A, n, c, xs, B, m, d, e, h1, h2⟩ := h; exact ⟨A, n, c, xs, B, m, d, e, h1.below hb, h2.below hb⟩
theorem AtO.less {b b' : Nat} {w : World} {x : AT} {v : Value} (h : AtO b w x v) (hl : b' ≤ b) : AtO b' w x v := by
 obtain ⟨A, n, c, xs, B, m, d, e, h1, h2⟩ := h; exact ⟨A, n, c, xs, B, m, d, e, h1.less hl hl, h2.less hl⟩
theorem AtO.set_ {b H i : Nat} {w : World} {x : AT} {v : Value} (h : AtO b w x v) (hH : H < b) (u : Value) : AtO b (w.setCell ⟨H, i, none⟩ u) x v := by
 obtain ⟨A, n, c, xs, B, m, d, e, h1, h2⟩ := h; exact ⟨A, n, c, xs, B, m, d, e, h1.set hH hH u, h2.set (p := ⟨H, i, none⟩) hH u⟩
theorem AtO.sets {b H : Nat} {x : AT} {v : Value} : ∀ (vs : List Value) (i : Nat) {w : World}, AtO b w x v → H < b → AtO b (w.setCells H i vs) x v
 | [], _, _, h, _ => h
 | u :: vs, i, _, h, h1 => AtO.sets vs (i + 1) (h.set_ h1 u) h1
def AtP (x : AT) (w : World) (e : Ending) (w' : World) : Prop := ∃ v, e = .returned v ∧ AtO w.heap.size w' x v ∧ Below w.heap.size w w'
set_option maxRecDepth 100000 in
theorem pathNorm_any (A : Option Addr) (n c : Nat) (l : List SG) (w : World) (h : LstAt 2 sgR w A n c l) (hn : numS l ≤ 10000) :
  Calls Tryz.prog 331 #[.slice A n c] w (SegP (normS l) w) := by
 have H := hide (norm_any A n c l w h hn); clear h
 go_enter Tryz.func331, Tryz.ntmps331
 go_wp2_with fail
 refine H.out.mono ?_; intro e w7 hmv; unfold SegP at hmv; obtain ⟨A7, n7, c7, xs7, rfl, hl7, hb7⟩ := hmv; have HL7 := hide hl7; have HB7 := hide hb7; clear hl7 hb7; go_wp2; go_ret; exact ⟨A7, n7, c7, xs7, rfl, HL7.out, HB7.out⟩
-- ATTN
set_option maxRecDepth 100000 in
set_option maxHeartbeats 16000000 in
theorem attrNorm_any (h o : Int) (A : Option Addr) (n c : Nat) (hp md pf aa ai : Int) (B : Option Addr) (m d : Nat) (pl : List SG) (cl : List Nat) (w : World) (hP : LstAt 2 sgR w A n c pl) (hC : U32s w B m d cl) (hn : numS pl ≤ 10000) (hm : m ≤ 10000) :
  Calls Tryz.prog 248 #[atV h o A n c hp md pf aa ai B m d] w (AtP (normA ⟨h, o, pl, hp, md, pf, aa, ai, cl⟩) w) := by
 have HN := hide (nmH_and h); obtain ⟨w0, hw0⟩ : ∃ w0, ((w.alloc (.cells (atC h o A n c hp md pf aa ai B m d) 28)).alloc (.cells zeroC 28)).alloc (.cells (atC (nmH h) 0 none 0 0 0 0 0 0 0 none 0 0) 28) = w0 := ⟨_, rfl⟩
 have HS : Hid (NS w (atC h o A n c hp md pf aa ai B m d) (atC (nmH h) 0 none 0 0 0 0 0 0 0 none 0 0) w0) := hide (hw0 ▸ NS.start w _ _); have HPn := hide hn; have HCm := hide hm; have HP0 := hide hP; have HC0 := hide hC; have HPl := hide (hP.below sgMono HS.out.bel); have HCl := hide (hC.below HS.out.bel); have HA := hide (attrHas_any 1 ⟨by decide, by decide⟩ h o A n c hp md pf aa ai B m d w0); have HW0 := hide hw0; clear hw0 hP hC hn hm
 go_enter Tryz.func248, Tryz.ntmps248
 go_wp2_with fail
 rw [HN.out, HW0.out]; refine HA.out.mono ?_; rintro e w1 ⟨rfl, hb1⟩; have HS := hide (HS.out.call hb1); have HPl := hide (HPl.out.below sgMono hb1); have HCl := hide (HCl.out.below hb1); clear hb1 HA; obtain ⟨q1, hq1⟩ : ∃ q, attB h 1 = q := ⟨_, rfl⟩
 rw [hq1]; have HQ1 := hide hq1; clear hq1; obtain ⟨O1, hx⟩ : ∃ x, (if q1 = true then o else 0) = x := ⟨_, rfl⟩
 have HX1 := hide hx; clear hx
 go_upto_if 9 with fail
 go_cut [] (fun wc => NS w (atC h o A n c hp md pf aa ai B m d) (atC (nmH h) O1 none 0 0 0 0 0 0 0 none 0 0) wc)
 case first =>
  obtain ⟨x0, x1, x2, x3, x4, x5, x6, x7, x8⟩ := blk9 HS.out.k0; obtain ⟨y0, y1, y2, y3, y4, y5, y6, y7, y8⟩ := blk9 HS.out.k2; have yf := fun i => HS.out.k2.frozen i
  cases q1
  ·go_wp2
   go_meet
   have hx := HX1.out; simp only [Bool.false_eq_true, if_false] at hx; subst hx; exact HS.out
  ·go_wp2
   go_meet
   have hx := HX1.out; simp only [if_true] at hx; subst hx; exact HS.out.set_ 1 _
 case rest =>
  have hns := hcut; clear hcut; have HB := hide ((HS.out.k2.lt : w.heap.size + 1 + 1 + 1 ≤ _)); clear HS; have HS := hide hns; clear hns; have HPl := hide (HP0.out.below sgMono HS.out.bel); have HCl := hide (HC0.out.below HS.out.bel); obtain ⟨w2, hwc⟩ : ∃ x, x = wc := ⟨_, rfl⟩
  subst hwc; obtain ⟨x0, x1, x2, x3, x4, x5, x6, x7, x8⟩ := blk9 HS.out.k0; have HA := hide (attrHas_any 2 ⟨by decide, by decide⟩ h o A n c hp md pf aa ai B m d w2)
  go_wp2_with fail
  clear x0 x1 x2 x3 x4 x5 x6 x7 x8; refine HA.out.mono ?_; rintro e w3 ⟨rfl, hb1⟩; have HS := hide (HS.out.call hb1); have HPl := hide (HPl.out.below sgMono hb1); have HCl := hide (HCl.out.below hb1); clear hb1 HA; obtain ⟨q2, hq2⟩ : ∃ q, attB h 2 = q := ⟨_, rfl⟩
  rw [hq2]; have HQ2 := hide hq2; clear hq2; obtain ⟨PN, hx⟩ : ∃ x, (if q2 = true then normS pl else []) = x := ⟨_, rfl⟩
  have HX2 := hide hx; clear hx
  go_upto_if 14 with fail
  go_cut [] (fun wc => ∃ A2 n2 c2 xs2, NS w (atC h o A n c hp md pf aa ai B m d) (atC (nmH h) O1 A2 n2 c2 0 0 0 0 0 none 0 0) wc ∧ LOw 2 99 sgR wc (w.heap.size + 1 + 1 + 1) (w.heap.size + 1 + 1 + 1) A2 n2 c2 PN xs2)
  case first =>
   obtain ⟨x0, x1, x2, x3, x4, x5, x6, x7, x8⟩ := blk9 HS.out.k0; obtain ⟨y0, y1, y2, y3, y4, y5, y6, y7, y8⟩ := blk9 HS.out.k2; have yf := fun i => HS.out.k2.frozen i
   cases q2
   ·go_wp2
    go_meet
    have hx := HX2.out; simp only [Bool.false_eq_true, if_false] at hx; subst hx; exact ⟨none, 0, 0, [], HS.out, LOw.nil⟩
   ·have HC := hide (pathNorm_any A n c pl w3 HPl.out HPn.out)
    go_wp2_with fail
    refine HC.out.mono ?_; intro e wq hmv; unfold SegP at hmv; obtain ⟨A2, n2, c2, xs2, rfl, hl, hb⟩ := hmv; have hs : w.heap.size + 1 + 1 + 1 ≤ w3.heap.size := HS.out.k2.lt; have HS := hide (HS.out.call hb); have HLo := hide (hl.less hs hs); clear hl hb x0 x1 x2 x3 x4 x5 x6 x7 x8 y0 y1 y2 y3 y4 y5 y6 y7 y8 yf; obtain ⟨y0, y1, y2, y3, y4, y5, y6, y7, y8⟩ := blk9 HS.out.k2; have yf := fun i => HS.out.k2.frozen i; go_wp2
    go_meet
    have hx := HX2.out; simp only [if_true] at hx; subst hx; exact ⟨A2, n2, c2, xs2, HS.out.set_ 2 _, HLo.out.set (by omega) (by omega) _⟩
  case rest =>
   obtain ⟨A2, n2, c2, xs2, hns, hlo⟩ := hcut; have HB := hide ((HS.out.k2.lt : w.heap.size + 1 + 1 + 1 ≤ _)); clear HS; have HS := hide hns; clear hns; have HLo := hide hlo; clear hlo; have HPl := hide (HP0.out.below sgMono HS.out.bel); have HCl := hide (HC0.out.below HS.out.bel); obtain ⟨w4, hwc⟩ : ∃ x, x = wc := ⟨_, rfl⟩
   subst hwc; obtain ⟨x0, x1, x2, x3, x4, x5, x6, x7, x8⟩ := blk9 HS.out.k0; have HA := hide (attrHas_any 3 ⟨by decide, by decide⟩ h o A n c hp md pf aa ai B m d w4)
   go_wp2_with fail
   clear x0 x1 x2 x3 x4 x5 x6 x7 x8; refine HA.out.mono ?_; rintro e w5 ⟨rfl, hb1⟩; have HS := hide (HS.out.call hb1); have HPl := hide (HPl.out.below sgMono hb1); have HCl := hide (HCl.out.below hb1); have HLo := hide (HLo.out.below hb1); clear hb1 HA; obtain ⟨q3, hq3⟩ : ∃ q, attB h 3 = q := ⟨_, rfl⟩
   rw [hq3]; have HQ3 := hide hq3; clear hq3; obtain ⟨H3, hx⟩ : ∃ x, (if q3 = true then hp else 0) = x := ⟨_, rfl⟩
   have HX3 := hide hx; clear hx
   go_upto_if 20 with fail
   go_cut [] (fun wc => NS w (atC h o A n c hp md pf aa ai B m d) (atC (nmH h) O1 A2 n2 c2 H3 0 0 0 0 none 0 0) wc ∧ LOw 2 99 sgR wc (w.heap.size + 1 + 1 + 1) (w.heap.size + 1 + 1 + 1) A2 n2 c2 PN xs2)
   case first =>
    obtain ⟨x0, x1, x2, x3, x4, x5, x6, x7, x8⟩ := blk9 HS.out.k0; obtain ⟨y0, y1, y2, y3, y4, y5, y6, y7, y8⟩ := blk9 HS.out.k2; have yf := fun i => HS.out.k2.frozen i
    cases q3
    ·go_wp2
     go_meet
     have hx := HX3.out; simp only [Bool.false_eq_true, if_false] at hx; subst hx; exact ⟨HS.out, HLo.out⟩
    ·go_wp2
     go_meet
     have hx := HX3.out; simp only [if_true] at hx; subst hx; exact ⟨HS.out.set_ 3 _, HLo.out.set (by omega) (by omega) _⟩
   case rest =>
    obtain ⟨hns, hlo⟩ := hcut; have HB := hide ((HS.out.k2.lt : w.heap.size + 1 + 1 + 1 ≤ _)); clear HS HLo; have HS := hide hns; clear hns; have HLo := hide hlo; clear hlo; have HPl := hide (HP0.out.below sgMono HS.out.bel); have HCl := hide (HC0.out.below HS.out.bel); obtain ⟨w6, hwc⟩ : ∃ x, x = wc := ⟨_, rfl⟩
    subst hwc; obtain ⟨x0, x1, x2, x3, x4, x5, x6, x7, x8⟩ := blk9 HS.out.k0; have HA := hide (attrHas_any 4 ⟨by decide, by decide⟩ h o A n c hp md pf aa ai B m d w6)
    go_wp2_with fail
    clear x0 x1 x2 x3 x4 x5 x6 x7 x8; refine HA.out.mono ?_; rintro e w7 ⟨rfl, hb1⟩; have HS := hide (HS.out.call hb1); have HPl := hide (HPl.out.below sgMono hb1); have HCl := hide (HCl.out.below hb1); have HLo := hide (HLo.out.below hb1); clear hb1 HA; obtain ⟨q4, hq4⟩ : ∃ q, attB h 4 = q := ⟨_, rfl⟩
    rw [hq4]; have HQ4 := hide hq4; clear hq4; obtain ⟨M4, hx⟩ : ∃ x, (if q4 = true then md else 0) = x := ⟨_, rfl⟩
    have HX4 := hide hx; clear hx
    go_upto_if 25 with fail
    go_cut [] (fun wc => NS w (atC h o A n c hp md pf aa ai B m d) (atC (nmH h) O1 A2 n2 c2 H3 M4 0 0 0 none 0 0) wc ∧ LOw 2 99 sgR wc (w.heap.size + 1 + 1 + 1) (w.heap.size + 1 + 1 + 1) A2 n2 c2 PN xs2)
    case first =>
     obtain ⟨x0, x1, x2, x3, x4, x5, x6, x7, x8⟩ := blk9 HS.out.k0; obtain ⟨y0, y1, y2, y3, y4, y5, y6, y7, y8⟩ := blk9 HS.out.k2; have yf := fun i => HS.out.k2.frozen i
     cases q4
     ·go_wp2
      go_meet
      have hx := HX4.out; simp only [Bool.false_eq_true, if_false] at hx; subst hx; exact ⟨HS.out, HLo.out⟩
     ·go_wp2
      go_meet
      have hx := HX4.out; simp only [if_true] at hx; subst hx; exact ⟨HS.out.set_ 4 _, HLo.out.set (by omega) (by omega) _⟩
    case rest =>
     obtain ⟨hns, hlo⟩ := hcut; have HB := hide ((HS.out.k2.lt : w.heap.size + 1 + 1 + 1 ≤ _)); clear HS HLo; have HS := hide hns; clear hns; have HLo := hide hlo; clear hlo; have HPl := hide (HP0.out.below sgMono HS.out.bel); have HCl := hide (HC0.out.below HS.out.bel); obtain ⟨w8, hwc⟩ : ∃ x, x = wc := ⟨_, rfl⟩
     subst hwc; obtain ⟨x0, x1, x2, x3, x4, x5, x6, x7, x8⟩ := blk9 HS.out.k0; have HA := hide (attrHas_any 5 ⟨by decide, by decide⟩ h o A n c hp md pf aa ai B m d w8)
     go_wp2_with fail
     clear x0 x1 x2 x3 x4 x5 x6 x7 x8; refine HA.out.mono ?_; rintro e w9 ⟨rfl, hb1⟩; have HS := hide (HS.out.call hb1); have HPl := hide (HPl.out.below sgMono hb1); have HCl := hide (HCl.out.below hb1); have HLo := hide (HLo.out.below hb1); clear hb1 HA; obtain ⟨q5, hq5⟩ : ∃ q, attB h 5 = q := ⟨_, rfl⟩
     rw [hq5]; have HQ5 := hide hq5; clear hq5; obtain ⟨P5, hx⟩ : ∃ x, (if q5 = true then pf else 0) = x := ⟨_, rfl⟩
     have HX5 := hide hx; clear hx
     go_upto_if 30 with fail
     go_cut [] (fun wc => NS w (atC h o A n c hp md pf aa ai B m d) (atC (nmH h) O1 A2 n2 c2 H3 M4 P5 0 0 none 0 0) wc ∧ LOw 2 99 sgR wc (w.heap.size + 1 + 1 + 1) (w.heap.size + 1 + 1 + 1) A2 n2 c2 PN xs2)
     case first =>
      obtain ⟨x0, x1, x2, x3, x4, x5, x6, x7, x8⟩ := blk9 HS.out.k0; obtain ⟨y0, y1, y2, y3, y4, y5, y6, y7, y8⟩ := blk9 HS.out.k2; have yf := fun i => HS.out.k2.frozen i
      cases q5
      ·go_wp2
       go_meet
       have hx := HX5.out; simp only [Bool.false_eq_true, if_false] at hx; subst hx; exact ⟨HS.out, HLo.out⟩
      ·go_wp2
       go_meet
       have hx := HX5.out; simp only [if_true] at hx; subst hx; exact ⟨HS.out.set_ 5 _, HLo.out.set (by omega) (by omega) _⟩
     case rest =>
      obtain ⟨hns, hlo⟩ := hcut; have HB := hide ((HS.out.k2.lt : w.heap.size + 1 + 1 + 1 ≤ _)); clear HS HLo; have HS := hide hns; clear hns; have HLo := hide hlo; clear hlo; have HPl := hide (HP0.out.below sgMono HS.out.bel); have HCl := hide (HC0.out.below HS.out.bel); obtain ⟨w10, hwc⟩ : ∃ x, x = wc := ⟨_, rfl⟩
      subst hwc; obtain ⟨x0, x1, x2, x3, x4, x5, x6, x7, x8⟩ := blk9 HS.out.k0; have HA := hide (attrHas_any 7 ⟨by decide, by decide⟩ h o A n c hp md pf aa ai B m d w10)
      go_wp2_with fail
      clear x0 x1 x2 x3 x4 x5 x6 x7 x8; refine HA.out.mono ?_; rintro e w11 ⟨rfl, hb1⟩; have HS := hide (HS.out.call hb1); have HPl := hide (HPl.out.below sgMono hb1); have HCl := hide (HCl.out.below hb1); have HLo := hide (HLo.out.below hb1); clear hb1 HA; obtain ⟨q7, hq7⟩ : ∃ q, attB h 7 = q := ⟨_, rfl⟩
      rw [hq7]; have HQ7 := hide hq7; clear hq7; obtain ⟨A7, hx⟩ : ∃ x, (if q7 = true then aa else 0) = x := ⟨_, rfl⟩
      have HXA7 := hide hx; clear hx; obtain ⟨I7, hx⟩ : ∃ x, (if q7 = true then ai else 0) = x := ⟨_, rfl⟩
      have HXI7 := hide hx; clear hx
      go_upto_if 35 with fail
      go_cut [] (fun wc => NS w (atC h o A n c hp md pf aa ai B m d) (atC (nmH h) O1 A2 n2 c2 H3 M4 P5 A7 I7 none 0 0) wc ∧ LOw 2 99 sgR wc (w.heap.size + 1 + 1 + 1) (w.heap.size + 1 + 1 + 1) A2 n2 c2 PN xs2)
      case first =>
       obtain ⟨x0, x1, x2, x3, x4, x5, x6, x7, x8⟩ := blk9 HS.out.k0; obtain ⟨y0, y1, y2, y3, y4, y5, y6, y7, y8⟩ := blk9 HS.out.k2; have yf := fun i => HS.out.k2.frozen i
       cases q7
       ·go_wp2
        go_meet
        have hx := HXA7.out; simp only [Bool.false_eq_true, if_false] at hx; subst hx; have hx := HXI7.out; simp only [Bool.false_eq_true, if_false] at hx; subst hx; exact ⟨HS.out, HLo.out⟩
       ·have HRg := hide ((HS.out.set_ 6 (.int .u32 aa)).set_ 7 (.int .u32 ai)); have HLg := hide (((HLo.out.set (H := w.heap.size + 1 + 1) (i := 6) (by omega) (by omega) (.int .u32 aa))).set (H := w.heap.size + 1 + 1) (i := 7) (by omega) (by omega) (.int .u32 ai)); go_wp2
        go_region
        go_wp2
        go_meet
        have hx := HXA7.out; simp only [if_true] at hx; subst hx; have hx := HXI7.out; simp only [if_true] at hx; subst hx; exact ⟨HRg.out.call below_drew, HLg.out.below below_drew⟩
      case rest =>
       obtain ⟨hns, hlo⟩ := hcut; have HB := hide ((HS.out.k2.lt : w.heap.size + 1 + 1 + 1 ≤ _)); clear HS HLo; have HS := hide hns; clear hns; have HLo := hide hlo; clear hlo; have HPl := hide (HP0.out.below sgMono HS.out.bel); have HCl := hide (HC0.out.below HS.out.bel); obtain ⟨w12, hwc⟩ : ∃ x, x = wc := ⟨_, rfl⟩
       subst hwc; obtain ⟨x0, x1, x2, x3, x4, x5, x6, x7, x8⟩ := blk9 HS.out.k0; have HA := hide (attrHas_any 8 ⟨by decide, by decide⟩ h o A n c hp md pf aa ai B m d w12)
       go_wp2_with fail
       clear x0 x1 x2 x3 x4 x5 x6 x7 x8; refine HA.out.mono ?_; rintro e w13 ⟨rfl, hb1⟩; have HS := hide (HS.out.call hb1); have HPl := hide (HPl.out.below sgMono hb1); have HCl := hide (HCl.out.below hb1); have HLo := hide (HLo.out.below hb1); clear hb1 HA; obtain ⟨q8, hq8⟩ : ∃ q, attB h 8 = q := ⟨_, rfl⟩
       rw [hq8]; have HQ8 := hide hq8; clear hq8; obtain ⟨CN, hx⟩ : ∃ x, (if q8 = true then setOf cl else []) = x := ⟨_, rfl⟩
       have HX8 := hide hx; clear hx
       go_upto_if 43 with fail
       go_cut [] (fun wc => ∃ B8 m8 d8, NS w (atC h o A n c hp md pf aa ai B m d) (atC (nmH h) O1 A2 n2 c2 H3 M4 P5 A7 I7 B8 m8 d8) wc ∧ LOw 2 99 sgR wc (w.heap.size + 1 + 1 + 1) (w.heap.size + 1 + 1 + 1) A2 n2 c2 PN xs2 ∧ wc.ownsRow (w.heap.size + 1 + 1 + 1) 22 1 (.slice B8 m8 d8) m8 (u32c CN))
       case first =>
        obtain ⟨x0, x1, x2, x3, x4, x5, x6, x7, x8⟩ := blk9 HS.out.k0; obtain ⟨y0, y1, y2, y3, y4, y5, y6, y7, y8⟩ := blk9 HS.out.k2; have yf := fun i => HS.out.k2.frozen i
        cases q8
        ·go_wp2
         go_meet
         have hx := HX8.out; simp only [Bool.false_eq_true, if_false] at hx; subst hx; exact ⟨none, 0, 0, HS.out, HLo.out, own_nil _ _ _⟩
        ·have HC := hide (asnSet_any B m d cl w13 HCl.out HCm.out)
         go_wp2_with fail
         refine HC.out.mono ?_; rintro e wq ⟨v8, rfl, ho, hb⟩; obtain ⟨B8, d8, rfl⟩ := own_slice ho; have hs : w.heap.size + 1 + 1 + 1 ≤ w13.heap.size := HS.out.k2.lt; have HS := hide (HS.out.call hb); have HLo := hide (HLo.out.below hb); have HOw := hide (own_baseLe ho hs); clear ho hb x0 x1 x2 x3 x4 x5 x6 x7 x8 y0 y1 y2 y3 y4 y5 y6 y7 y8 yf; obtain ⟨y0, y1, y2, y3, y4, y5, y6, y7, y8⟩ := blk9 HS.out.k2; have yf := fun i => HS.out.k2.frozen i; go_wp2
         go_meet
         have hx := HX8.out; simp only [if_true] at hx; subst hx; exact ⟨B8, _, d8, HS.out.set_ 8 _, HLo.out.set (by omega) (by omega) _, own_sets HOw.out (by omega)⟩
       case rest =>
        obtain ⟨B8, m8, d8, hns, hlo, how⟩ := hcut; have HOw := hide how; clear how; have HB := hide ((HS.out.k2.lt : w.heap.size + 1 + 1 + 1 ≤ _)); clear HS HLo; have HS := hide hns; clear hns; have HLo := hide hlo; clear hlo; have HPl := hide (HP0.out.below sgMono HS.out.bel); have HCl := hide (HC0.out.below HS.out.bel); obtain ⟨w14, hwc⟩ : ∃ x, x = wc := ⟨_, rfl⟩
        subst hwc; obtain ⟨wF, hwF⟩ : ∃ x, w14.setCells (w.heap.size + 1) 0 [.int .i64 (nmH h), .int .i64 O1, .slice A2 n2 c2, .int .u32 H3, .int .u32 M4, .int .u32 P5, .int .u32 A7, .int .u32 I7, .slice B8 m8 d8] = x := ⟨_, rfl⟩
        have HFw := hide hwF; have HFk := hide (hwF ▸ blk9_set HS.out.k1 : Blk wF (w.heap.size + 1) 28 (atC (nmH h) O1 A2 n2 c2 H3 M4 P5 A7 I7 B8 m8 d8)); have HFl := hide (hwF ▸ low_sets [.int .i64 (nmH h), .int .i64 O1, .slice A2 n2 c2, .int .u32 H3, .int .u32 M4, .int .u32 P5, .int .u32 A7, .int .u32 I7, .slice B8 m8 d8] 0 HLo.out (by omega) (by omega) : LOw 2 99 sgR wF (w.heap.size + 1 + 1 + 1) (w.heap.size + 1 + 1 + 1) A2 n2 c2 PN xs2); have HFo := hide (hwF ▸ own_sets9 [.int .i64 (nmH h), .int .i64 O1, .slice A2 n2 c2, .int .u32 H3, .int .u32 M4, .int .u32 P5, .int .u32 A7, .int .u32 I7, .slice B8 m8 d8] 0 HOw.out (by omega) : wF.ownsRow (w.heap.size + 1 + 1 + 1) 22 1 (.slice B8 m8 d8) m8 (u32c CN)); have HFb := hide (hwF ▸ below_sets [.int .i64 (nmH h), .int .i64 O1, .slice A2 n2 c2, .int .u32 H3, .int .u32 M4, .int .u32 P5, .int .u32 A7, .int .u32 I7, .slice B8 m8 d8] 0 HS.out.bel (by omega) : Below w.heap.size w wF); clear hwF; have HCb : Hid (∀ y ∈ CN, y < 4294967296) := hide (cn_bd HX8.out HC0.out.2.2.2.1); have HEq : Hid (normA ⟨h, o, pl, hp, md, pf, aa, ai, cl⟩ = ⟨nmH h, O1, PN, H3, M4, P5, A7, I7, CN⟩) := hide (by unfold normA; simp only [HQ1.out, HQ2.out, HQ3.out, HQ4.out, HQ5.out, HQ7.out, HQ8.out, HX1.out, HX2.out, HX3.out, HX4.out, HX5.out, HXA7.out, HXI7.out, HX8.out]); obtain ⟨y0, y1, y2, y3, y4, y5, y6, y7, y8⟩ := blk9 HS.out.k2; obtain ⟨z0, z1, z2, z3, z4, z5, z6, z7, z8⟩ := blk9 HS.out.k1; have zf := fun i => HS.out.k1.frozen i; go_wp2; change bodyPost _ _ _ _ _ (w14.setCells (w.heap.size + 1) 0 [.int .i64 (nmH h), .int .i64 O1, .slice A2 n2 c2, .int .u32 H3, .int .u32 M4, .int .u32 P5, .int .u32 A7, .int .u32 I7, .slice B8 m8 d8]); rw [HFw.out, HEq.out]; clear z0 z1 z2 z3 z4 z5 z6 z7 z8 zf y0 y1 y2 y3 y4 y5 y6 y7 y8; obtain ⟨z0, z1, z2, z3, z4, z5, z6, z7, z8⟩ := blk9 HFk.out; have zf := fun i => HFk.out.frozen i; exact bodyPost_ret (v := atV (nmH h) O1 A2 n2 c2 H3 M4 P5 A7 I7 B8 m8 d8) (by simp [results, Tryz.results248, go_sem, z0, z1, z2, z3, z4, z5, z6, z7, z8, zf]) rfl ⟨_, rfl, ⟨A2, n2, c2, xs2, B8, m8, d8, rfl, HFl.out.less (by omega) (by omega), own_u32_fr HFo.out HCb.out (by omega) (fun k hk => by cases hk)⟩, HFb.out⟩
-- /ATTN
set_option maxRecDepth 100000 in
set_option maxHeartbeats 4000000 in
theorem attrNormX_any (x : AT) (v : Value) (w : World) (hv : AtR w x v) (hn : numS x.path ≤ 10000) (hm : x.comms.length ≤ 10000) : Calls Tryz.prog 142 #[v] w (AtP (normA x) w) := by
 obtain ⟨A, n, c, B, m, d, rfl, hP, hC⟩ := hv; obtain ⟨h, o, pl, hp, md, pf, aa, ai, cl⟩ := x; simp only at hP hC hn hm ⊢; obtain ⟨w0, hw0⟩ : ∃ w0, ((w.alloc (.cells (atC h o A n c hp md pf aa ai B m d) 28)).alloc (.cells zeroC 28)) = w0 := ⟨_, rfl⟩
 have hb0 : Below w.heap.size w w0 := hw0 ▸ ((Below.refl _ w).alloc (Nat.le_refl _) _).alloc (by simp) _; have HK : Hid (Blk w0 (w.heap.size + 1) 28 zeroC) := hide (hw0 ▸ blk_new' _ _ (by simp)); have HN := hide (attrNorm_any h o A n c hp md pf aa ai B m d pl cl w0 (hP.below sgMono hb0) (hC.below hb0) hn (by rw [← hC.1]; exact hm)); have HB0 := hide hb0; have HW0 := hide hw0; clear hw0 hb0 hP hC hn hm
 go_enter Tryz.func142, Tryz.ntmps142
 go_wp2_with fail
 rw [HW0.out]; refine HN.out.mono ?_; rintro e w1 ⟨v, rfl, ho, hb⟩; obtain ⟨XN, hXN⟩ : ∃ X, normA ⟨h, o, pl, hp, md, pf, aa, ai, cl⟩ = X := ⟨_, rfl⟩
 rw [hXN] at ho; have HXN := hide hXN; obtain ⟨A1, n1, c1, xs1, B1, m1, d1, rfl, hl, hu⟩ := ho; have hlt : w.heap.size + 1 < w0.heap.size := HK.out.lt; have HK1 := hide (HK.out.below hb hlt); have HB1 := hide (btr HB0.out hb); have HO := hide (show AtO w0.heap.size w1 XN (atV XN.has XN.org A1 n1 c1 XN.hop XN.med XN.pref XN.aas XN.aid B1 m1 d1) from ⟨A1, n1, c1, xs1, B1, m1, d1, rfl, hl, hu⟩); obtain ⟨z0, z1, z2, z3, z4, z5, z6, z7, z8⟩ := blk9 HK1.out; have zf := fun i => HK1.out.frozen i; clear hl hu hb hXN; go_wp2; change bodyPost _ _ _ _ _ (w1.setCells (w.heap.size + 1) 0 (aL XN A1 n1 c1 B1 m1 d1)); obtain ⟨wF, hwF⟩ : ∃ x, w1.setCells (w.heap.size + 1) 0 (aL XN A1 n1 c1 B1 m1 d1) = x := ⟨_, rfl⟩
 have HFk := hide (hwF ▸ blk9_set HK1.out : Blk wF (w.heap.size + 1) 28 (atC XN.has XN.org A1 n1 c1 XN.hop XN.med XN.pref XN.aas XN.aid B1 m1 d1)); have HFo := hide (hwF ▸ AtO.sets _ 0 HO.out hlt : AtO w0.heap.size wF XN (atV XN.has XN.org A1 n1 c1 XN.hop XN.med XN.pref XN.aas XN.aid B1 m1 d1)); have HFb := hide (hwF ▸ below_sets _ 0 HB1.out (by omega) : Below w.heap.size w wF); rw [hwF]; clear hwF z0 z1 z2 z3 z4 z5 z6 z7 z8 zf; obtain ⟨z0, z1, z2, z3, z4, z5, z6, z7, z8⟩ := blk9 HFk.out; exact bodyPost_ret (v := atV XN.has XN.org A1 n1 c1 XN.hop XN.med XN.pref XN.aas XN.aid B1 m1 d1) (by simp [results, Tryz.results142, go_sem, z0, z1, z2, z3, z4, z5, z6, z7, z8]) rfl ⟨_, rfl, by rw [HXN.out]; exact HFo.out.less (b' := w.heap.size) (by omega), HFb.out⟩
theorem u32_one {w : World} {x : Nat} (hx : x < 4294967296) : U32s (w.alloc (.cells #[.int .u32 (x : Int)] 22)) (some ⟨w.heap.size, 0, none⟩) 1 1 [x] := ⟨rfl, Nat.le_refl _, by unfold maxLen; omega, by simpa using hx, fun _ => ⟨w.heap.size, 0, rfl, by simp, fun k y hy => by
    have hk : k = 0 := (by have := (List.getElem?_eq_some_iff.1 hy).1; simpa using this)
    subst hk; simp only [List.getElem?_cons_zero, Option.some.injEq] at hy; subst hy; exact (Blk.new w 22 #[.int .u32 (x : Int)]).cell 0⟩⟩
end Go.Proofs.YtmffmkjgdjgmeaaGreat
namespace Go.Proofs.YtmffmkjgdjgmeaaGreat
open Go.RowKit
set_option maxRecDepth 100000 in
set_option maxHeartbeats 4000000 in
theorem refPutB_any (g o n c : Nat) (l : List Nat) (x : Nat) (hx : x < 4294967296) (w : World) (h : U32s w (some ⟨g, o, none⟩) n c l) (hn : n ≤ 100000) :
    Calls Tryz.prog 287 #[.slice (some ⟨g, o, none⟩) n c, .int .u32 x] w fun e w' => ∃ g' o' n' c', e = .returned (.slice (some ⟨g', o', none⟩) n' c') ∧ U32s w' (some ⟨g', o', none⟩) n' c' (putN l x) ∧ Below w.heap.size w w' ∧ (g' = g ∨ w.heap.size ≤ g') := by
  have hm := h.2.2.1; have hnc := h.2.1; unfold maxLen at hm; have HU := hide h; by_cases hin : x ∈ l
  · have hd := hide (show decide (x ∈ l) = true by simpa using hin); have hp := hide (show putN l x = l by unfold putN; rw [if_pos (by simpa using hin)]); clear h hin
    go_enter Tryz.func287, Tryz.ntmps287
    go_wp2_with fail
    refine (refHas_any _ _ _ _ x _ HU.out).mono ?_; rintro e w1 ⟨rfl, rfl⟩; rw [hd.out]; go_wp2; go_ret; exact ⟨_, _, _, _, rfl, by rw [hp.out]; exact HU.out, Below.refl _ _, .inl rfl⟩
  · have hd := hide (show decide (x ∈ l) = false by simpa using hin); have hp := hide (putN_eq hin); obtain ⟨i0, hi, hz0, hz1, hz2⟩ := info_parts info32; clear h hin
    go_enter Tryz.func287, Tryz.ntmps287
    go_wp2_with fail
    refine (refHas_any _ _ _ _ x _ HU.out).mono ?_; rintro e w1 ⟨rfl, rfl⟩; rw [hd.out]; go_wp2
    go_loop [5] (fun i => ∃ k : Nat, k ≤ n ∧ i = .int .i64 k ∧ ∀ j y, j < k → l[j]? = some y → y < x) (fun i => n - (intOf i).toNat)
    case atStart => exact ⟨0, Nat.zero_le _, rfl, by omega⟩
    case round =>
      obtain ⟨k, hk, rfl, hlow⟩ := hrel; have HN := hide hlow; clear hlow; have hTK := (HU.out.take_ hk).reads; have HTK := hide hTK; have HBW := hide (Below.refl w.heap.size w); clear hTK; by_cases hlt : k < n
      · obtain ⟨g', o', y, hA, hg, hy, hy2, hc⟩ := HU.out.at_ hlt
        cases hA
        have HY := hide hy; clear hy; have HDK := hide (HU.out.drop_ hlt); by_cases hyx : y < x
        · go_wp2
          go_round
          case rel => exact ⟨k + 1, by omega, by go_num, fun j z hj hz => by
            rcases Nat.lt_or_ge j k with h | h
            · exact HN.out j z h hz
            · obtain rfl : j = k := (by omega)
              have := Option.some.inj (hz.symm.trans HY.out); omega⟩
          case measure => simp [intOf]; omega
        · go_wp2; have hi0 : (0 : Int) ≤ (k : Int) := (by omega)
          have hi1 : (k : Int) ≤ (n : Int) := (by omega)
          have hi2 : (k : Int) ≤ (c : Int) := (by omega)
          have hi3 : (k : Int) < (c : Int) := (by omega)
          have hi4 : ¬ c = k := (by omega)
          have HK : Hid (lowN l x = k) := hide (lowN_first (by rw [HU.out.1]; omega) HN.out (fun z hz => by have := Option.some.inj (hz.symm.trans HY.out); omega)); have hi5 : (n : Int) ≤ (c : Int) := (by omega)
          go_region_law (first
            | (refine step_append_any _ (by rfl) (.tmp 24) (.tmp 27) 26 (by rfl) w.heap.size 22 i0 _ 1 4 Tryz.underlying26 hi hz0 hz1 hz2 rfl (by decide) _ 0 [] (by rfl) ?_ w.heap.size _ _ _ (u32c (l.take k)) (by rfl) ?_ (u32c_one _) ?_ ?_ ?_ ?_
               · first | exact (own_made0 w).drew | exact ((own_made0 w).alloc _).drew | exact (own_made1 w _).drew
               · exact HTK.out.keepB (by repeat (first | exact Below.refl _ _ | exact HBW.out | refine Below.drew ?_ | refine Below.alloc ?_ (by first | exact Nat.le_refl _ | (simp; done) | (simp; omega) | omega) _))
               · unfold maxLen; omega
               · omega
               · refine Below.size (?_ : Below w.heap.size w _); repeat (first | exact Below.refl _ _ | exact HBW.out | refine Below.drew ?_ | refine Below.alloc ?_ (by first | exact Nat.le_refl _ | (simp; done) | (simp; omega) | omega) _)
               intro v1 w1 hown1 hgrow1 _; have hbw1 : Below w.heap.size w w1 := (by refine Below.grown ?_ hgrow1 ?_ ?_; (repeat (first | exact Below.refl _ _ | exact HBW.out | refine Below.drew ?_ | refine Below.alloc ?_ (by first | exact Nat.le_refl _ | (simp; done) | (simp; omega) | omega) _)); (refine Below.size (?_ : Below w.heap.size w _); repeat (first | exact Below.refl _ _ | exact HBW.out | refine Below.drew ?_ | refine Below.alloc ?_ (by first | exact Nat.le_refl _ | (simp; done) | (simp; omega) | omega) _)); (intro k hk; cases hk; first | exact Nat.le_refl _ | exact Nat.le_succ _)); have HBW := hide hbw1; have HG1 := hide hgrow1; have HO1 := hide hown1; have hlw := hbw1.size; have hgs := hgrow1.size; clear hown1 hgrow1 hbw1)
            | (refine step_append_one (by rfl) (.tmp 28) (.tmp 30) 26 (by rfl) w.heap.size 22 i0 _ 4 Tryz.underlying26 hi hz0 hz1 hz2 rfl _ (0 + k) ([] ++ u32c (l.take k)) (by rfl) ?_ _ _ (.int .u32 (x : Int)) (by rfl) ?_ (by rfl) ?_ ?_ ?_ ?_
               · first | exact HO1.out | exact HO1.out.alloc _ | exact HO1.out.drew | exact (HO1.out.alloc _).drew
               · first | (simp; done) | (rw [HG1.out.cell_far _ (by show _ < (World.alloc _ _).heap.size; first | (simp; done) | (simp; omega)) (show some (w.heap.size + 1) ≠ some w.heap.size by simp)]; simp; done) | (rw [HG1.out.cell_far _ (by show _ < (World.alloc _ _).heap.size; first | (simp; done) | (simp; omega)) (show some w.heap.size ≠ some (w.heap.size + 1) by simp)]; simp; done)
               · unfold maxLen; omega
               · omega
               · refine Below.size (?_ : Below w.heap.size w _); repeat (first | exact Below.refl _ _ | exact HBW.out | refine Below.drew ?_ | refine Below.alloc ?_ (by first | exact Nat.le_refl _ | (simp; done) | (simp; omega) | omega) _)
               intro v2 w2 hown2 hgrow2 _; have hbw2 : Below w.heap.size w w2 := (by refine Below.grown ?_ hgrow2 ?_ ?_; (repeat (first | exact Below.refl _ _ | exact HBW.out | refine Below.drew ?_ | refine Below.alloc ?_ (by first | exact Nat.le_refl _ | (simp; done) | (simp; omega) | omega) _)); (refine Below.size (?_ : Below w.heap.size w _); repeat (first | exact Below.refl _ _ | exact HBW.out | refine Below.drew ?_ | refine Below.alloc ?_ (by first | exact Nat.le_refl _ | (simp; done) | (simp; omega) | omega) _)); (intro k hk; have := HO1.out.lt k hk; omega)); have HBW := hide hbw2; have HO2 := hide hown2; have hlw2 := hbw2.size; clear hown2 hgrow2 hbw2)
            | (refine step_append_any _ (by rfl) (.tmp 31) (.tmp 34) 26 (by rfl) w.heap.size 22 i0 _ 1 4 Tryz.underlying26 hi hz0 hz1 hz2 rfl (by decide) _ (0 + k + 1) ([] ++ u32c (l.take k) ++ [.int .u32 (x : Int)]) (by rfl) ?_ w.heap.size _ _ _ (u32c (l.drop k)) (by rfl) ?_ (u32c_one _) ?_ ?_ ?_ ?_
               · exact HO2.out
               · exact HDK.out.keepB (by repeat (first | exact Below.refl _ _ | exact HBW.out | refine Below.drew ?_ | refine Below.alloc ?_ (by first | exact Nat.le_refl _ | (simp; done) | (simp; omega) | omega) _))
               · unfold maxLen; omega
               · omega
               · refine Below.size (?_ : Below w.heap.size w _); repeat (first | exact Below.refl _ _ | exact HBW.out | refine Below.drew ?_ | refine Below.alloc ?_ (by first | exact Nat.le_refl _ | (simp; done) | (simp; omega) | omega) _)
               intro v3 w3 hown3 hgrow3 _; have hbw3 : Below w.heap.size w w3 := (by refine Below.grown ?_ hgrow3 ?_ ?_; (repeat (first | exact Below.refl _ _ | exact HBW.out | refine Below.drew ?_ | refine Below.alloc ?_ (by first | exact Nat.le_refl _ | (simp; done) | (simp; omega) | omega) _)); (refine Below.size (?_ : Below w.heap.size w _); repeat (first | exact Below.refl _ _ | exact HBW.out | refine Below.drew ?_ | refine Below.alloc ?_ (by first | exact Nat.le_refl _ | (simp; done) | (simp; omega) | omega) _)); (intro k hk; have := HO2.out.lt k hk; omega)); have HBW := hide hbw3; have HO3 := hide hown3; clear hown3 hgrow3 hbw3)
            | fail)
          all_goals
            have HLo := hide (own_low_block HO3.out); obtain ⟨g3, c3, rfl, hu3⟩ := put_end hx HU.out.2.2.2.1 hp.out HK.out (by omega) HO3.out; have HU3 := hide hu3; clear hu3; go_wp2; go_ret; exact ⟨g3, 0, _, c3, rfl, by simpa using HU3.out, HBW.out, .inr (HLo.out _ rfl)⟩
      · obtain rfl : k = n := (by omega)
        have HDK : Hid (∀ A, Reads w w.heap.size 1 A 0 (u32c (l.drop k))) := hide (fun A => by
          rw [List.drop_of_length_le (by rw [HU.out.1]; exact Nat.le_refl _)]; exact reads_nil _ _ _ _)
        have HK : Hid (lowN l x = k) := hide (lowN_first (by rw [HU.out.1]; exact Nat.le_refl _) HN.out (fun y hy => by
          have := (List.getElem?_eq_some_iff.1 hy).1; have := HU.out.1; omega))
        go_wp2; have hi0 : (0 : Int) ≤ (k : Int) := (by omega)
        have hi2 : (k : Int) ≤ (c : Int) := (by omega)
        go_region_law (first
          | (refine step_append_any _ (by rfl) (.tmp 24) (.tmp 27) 26 (by rfl) w.heap.size 22 i0 _ 1 4 Tryz.underlying26 hi hz0 hz1 hz2 rfl (by decide) _ 0 [] (by rfl) ?_ w.heap.size _ _ _ (u32c (l.take k)) (by rfl) ?_ (u32c_one _) ?_ ?_ ?_ ?_
             · first | exact (own_made0 w).drew | exact ((own_made0 w).alloc _).drew | exact (own_made1 w _).drew
             · exact HTK.out.keepB (by repeat (first | exact Below.refl _ _ | exact HBW.out | refine Below.drew ?_ | refine Below.alloc ?_ (by first | exact Nat.le_refl _ | (simp; done) | (simp; omega) | omega) _))
             · unfold maxLen; omega
             · omega
             · refine Below.size (?_ : Below w.heap.size w _); repeat (first | exact Below.refl _ _ | exact HBW.out | refine Below.drew ?_ | refine Below.alloc ?_ (by first | exact Nat.le_refl _ | (simp; done) | (simp; omega) | omega) _)
             intro v1 w1 hown1 hgrow1 _; have hbw1 : Below w.heap.size w w1 := (by refine Below.grown ?_ hgrow1 ?_ ?_; (repeat (first | exact Below.refl _ _ | exact HBW.out | refine Below.drew ?_ | refine Below.alloc ?_ (by first | exact Nat.le_refl _ | (simp; done) | (simp; omega) | omega) _)); (refine Below.size (?_ : Below w.heap.size w _); repeat (first | exact Below.refl _ _ | exact HBW.out | refine Below.drew ?_ | refine Below.alloc ?_ (by first | exact Nat.le_refl _ | (simp; done) | (simp; omega) | omega) _)); (intro k hk; cases hk; first | exact Nat.le_refl _ | exact Nat.le_succ _)); have HBW := hide hbw1; have HG1 := hide hgrow1; have HO1 := hide hown1; have hlw := hbw1.size; have hgs := hgrow1.size; clear hown1 hgrow1 hbw1)
          | (refine step_append_one (by rfl) (.tmp 28) (.tmp 30) 26 (by rfl) w.heap.size 22 i0 _ 4 Tryz.underlying26 hi hz0 hz1 hz2 rfl _ (0 + k) ([] ++ u32c (l.take k)) (by rfl) ?_ _ _ (.int .u32 (x : Int)) (by rfl) ?_ (by rfl) ?_ ?_ ?_ ?_
             · first | exact HO1.out | exact HO1.out.alloc _ | exact HO1.out.drew | exact (HO1.out.alloc _).drew
             · first | (simp; done) | (rw [HG1.out.cell_far _ (by show _ < (World.alloc _ _).heap.size; first | (simp; done) | (simp; omega)) (show some (w.heap.size + 1) ≠ some w.heap.size by simp)]; simp; done) | (rw [HG1.out.cell_far _ (by show _ < (World.alloc _ _).heap.size; first | (simp; done) | (simp; omega)) (show some w.heap.size ≠ some (w.heap.size + 1) by simp)]; simp; done)
             · unfold maxLen; omega
             · omega
             · refine Below.size (?_ : Below w.heap.size w _); repeat (first | exact Below.refl _ _ | exact HBW.out | refine Below.drew ?_ | refine Below.alloc ?_ (by first | exact Nat.le_refl _ | (simp; done) | (simp; omega) | omega) _)
             intro v2 w2 hown2 hgrow2 _; have hbw2 : Below w.heap.size w w2 := (by refine Below.grown ?_ hgrow2 ?_ ?_; (repeat (first | exact Below.refl _ _ | exact HBW.out | refine Below.drew ?_ | refine Below.alloc ?_ (by first | exact Nat.le_refl _ | (simp; done) | (simp; omega) | omega) _)); (refine Below.size (?_ : Below w.heap.size w _); repeat (first | exact Below.refl _ _ | exact HBW.out | refine Below.drew ?_ | refine Below.alloc ?_ (by first | exact Nat.le_refl _ | (simp; done) | (simp; omega) | omega) _)); (intro k hk; have := HO1.out.lt k hk; omega)); have HBW := hide hbw2; have HO2 := hide hown2; have hlw2 := hbw2.size; clear hown2 hgrow2 hbw2)
          | (refine step_append_any _ (by rfl) (.tmp 31) (.tmp 34) 26 (by rfl) w.heap.size 22 i0 _ 1 4 Tryz.underlying26 hi hz0 hz1 hz2 rfl (by decide) _ (0 + k + 1) ([] ++ u32c (l.take k) ++ [.int .u32 (x : Int)]) (by rfl) ?_ w.heap.size _ _ _ (u32c (l.drop k)) (by rfl) ?_ (u32c_one _) ?_ ?_ ?_ ?_
             · exact HO2.out
             · exact (HDK.out _).keepB (by repeat (first | exact Below.refl _ _ | exact HBW.out | refine Below.drew ?_ | refine Below.alloc ?_ (by first | exact Nat.le_refl _ | (simp; done) | (simp; omega) | omega) _))
             · unfold maxLen; omega
             · omega
             · refine Below.size (?_ : Below w.heap.size w _); repeat (first | exact Below.refl _ _ | exact HBW.out | refine Below.drew ?_ | refine Below.alloc ?_ (by first | exact Nat.le_refl _ | (simp; done) | (simp; omega) | omega) _)
             intro v3 w3 hown3 hgrow3 _; have hbw3 : Below w.heap.size w w3 := (by refine Below.grown ?_ hgrow3 ?_ ?_; (repeat (first | exact Below.refl _ _ | exact HBW.out | refine Below.drew ?_ | refine Below.alloc ?_ (by first | exact Nat.le_refl _ | (simp; done) | (simp; omega) | omega) _)); (refine Below.size (?_ : Below w.heap.size w _); repeat (first | exact Below.refl _ _ | exact HBW.out | refine Below.drew ?_ | refine Below.alloc ?_ (by first | exact Nat.le_refl _ | (simp; done) | (simp; omega) | omega) _)); (intro k hk; have := HO2.out.lt k hk; omega)); have HBW := hide hbw3; have HO3 := hide hown3; clear hown3 hgrow3 hbw3)
          | fail)
        all_goals
          have HLo := hide (own_low_block HO3.out); obtain ⟨g3, c3, rfl, hu3⟩ := put_end hx HU.out.2.2.2.1 hp.out HK.out (by omega) HO3.out; have HU3 := hide hu3; clear hu3; go_wp2
          all_goals
            go_ret; exact ⟨g3, 0, _, c3, rfl, by simpa using HU3.out, HBW.out, .inr (HLo.out _ rfl)⟩
set_option maxRecDepth 100000 in
set_option maxHeartbeats 2000000 in
theorem refSetB_any (A : Option Addr) (n c : Nat) (l : List Nat) (w : World) (h : U32s w A n c l) (hn : n ≤ 10000) :
    Calls Tryz.prog 178 #[.slice A n c] w fun e w' => ∃ g' o' n' c', e = .returned (.slice (some ⟨g', o', none⟩) n' c') ∧ U32s w' (some ⟨g', o', none⟩) n' c' (setOf l) ∧ Below w.heap.size w w' ∧ w.heap.size ≤ g' := by
  have HA := hide (U32lo.start h); have hm := h.2.2.1; have hnc := h.2.1; unfold maxLen at hm; have HS : Hid (U32s (w.alloc (.cells #[] 22)) (some ⟨w.heap.size, 0, none⟩) 0 0 (setOf [])) := hide ⟨rfl, by omega, by simp [maxLen], by simp [setOf], fun h => by omega⟩; clear h
  go_enter Tryz.func178, Tryz.ntmps178
  go_wp2
  go_loopw [3, 4] (fun v i wr => ∃ k g' o' n' c', k ≤ n ∧ i = .int .i64 (k : Nat) ∧ v = .slice (some ⟨g', o', none⟩) n' c' ∧ U32s wr (some ⟨g', o', none⟩) n' c' (setOf (l.take k)) ∧ Below w.heap.size w wr ∧ w.heap.size ≤ g') (fun _ i _ => n - (intOf i).toNat)
  case atStart => exact ⟨0, w.heap.size, 0, 0, 0, by omega, rfl, rfl, by simpa using HS.out, (Below.refl _ _).alloc (Nat.le_refl _) _, Nat.le_refl _⟩
  case round =>
    obtain ⟨k, g', o', n', c', hk, rfl, rfl, hu, hb, hgl⟩ := hrel; have hbs := hb.size; have HU := hide hu; have HB := hide hb; have HA2 := hide (HA.out.keep hb); clear hu hb; by_cases hlt : k < n
    · obtain ⟨g, o, x, rfl, hg, hx, hx2, hc⟩ := HA2.out.1.at_ hlt; have hsn := hide (show setOf (l.take (k + 1)) = putN (setOf (l.take k)) x by rw [take_snoc_eq hx, setOf_snoc])
      have hlen : n' ≤ 100000 := by
        have h1 := HU.out.1; have h2 := setOf_len (l.take k); have h3 : (l.take k).length ≤ k := List.length_take_le _ _; omega
      have HP := hide (refPutB_any g' o' n' c' (setOf (l.take k)) x hx2 wr HU.out hlen); clear hx
      go_wp2_with fail
      refine HP.out.mono ?_; rintro e w2 ⟨g2, o2, n2, c2, rfl, hu2, hb2, hg2⟩; rw [← hsn.out] at hu2; have HU2 := hide hu2; have HB2 := hide (btr HB.out hb2); clear hu2 hb2; go_wp2
      go_roundw
      case rel => exact ⟨k + 1, g2, o2, n2, c2, by omega, by go_num, rfl, HU2.out, HB2.out, by rcases hg2 with rfl | h <;> omega⟩
      case measure => simp [intOf]; omega
    · obtain rfl : k = n := (by omega)
      have HF : Hid (U32s wr (some ⟨g', o', none⟩) n' c' (setOf l)) := hide (by
        have := HU.out
        rwa [List.take_of_length_le (by rw [HA2.out.1.1]; exact Nat.le_refl _)] at this)
      go_wp2; go_ret; exact ⟨g', o', n', c', rfl, HF.out, HB.out, hgl⟩
end Go.Proofs.YtmffmkjgdjgmeaaGreat
namespace Go.Proofs.YtmffmkjgdjgmeaaGreat
open Go.RowKit Go.WideShapes Go.ChangeShapes
attribute [local go_sem] Oper.semAt_some
theorem normS_snoc (l : List SG) (q : Nat) (x : SG) (h : l[q]? = some x) : normS (l.take (q + 1)) = stepS (normS (l.take q)) x := by
 unfold normS; rw [List.take_add_one, h]; simp [List.foldl_append]
theorem foldS_snoc (o : List SG) (r : List Nat) (j x : Nat) (h : r[j]? = some x) : (r.take (j + 1)).foldl putS o = putS ((r.take j).foldl putS o) x := by
 rw [List.take_add_one, h]; simp [List.foldl_append]
end Go.Proofs.YtmffmkjgdjgmeaaGreat
