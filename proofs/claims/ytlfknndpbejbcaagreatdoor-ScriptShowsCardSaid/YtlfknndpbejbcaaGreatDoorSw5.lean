import Derived.Test.YtlfknndpbejbcaaGreatDoorSw4
import Derived.WalkKit
import Derived.ProofKit
import Derived.OpenShut
import Derived.Below
import Derived.Laws.OwnMore
import Derived.Laws.Rows
import Derived.Laws.MakeOwn
import Derived.Deep.AppendLies
import Derived.Deep.Draws
import Derived.Deep.OwnRows
import Derived.Deep.QuietTactic
import Derived.Maps.AppendAt
import Derived.RegionTactic
import Derived.OwnWalk
import Derived.ChangeSame
import Derived.Outline
import Derived.BigQuiet
import Derived.WalkMore
import Derived.ScopeJumps
import Derived.WalkLawsBesides
import Derived.WalkSpells
import Derived.Laws.BitsLemmas
import Derived.Laws.BitsAllLaws
import Derived.Deep.Quiet
import Derived.WideKeyArgs
import Derived.Deep.DeepHandedRow
import Derived.Deep.DeepWitnessRowRef
import Derived.Lib.LaidTab
import Derived.Lib.AppendIntMem
import Derived.LaidMore
import Derived.MakeChecks
import Derived.Lib.Itoa
import Derived.Lib.ItoaMem
import Derived.BigRegion
import Derived.Deep.Slices
import Derived.Orders
import Derived.Lib.PathFns
import Derived.Lib.IndexBytes
import Derived.RangeFuncWrites
import Derived.RangeFuncNested
import Derived.RangeFuncBound
import Derived.RangeFuncCalls
import Derived.RangeFuncLeaves
import Derived.RangeFuncBox
import Derived.Shelf.Abstract
import Derived.Shelf.RegionOpen
import Derived.OwnWalkIn
import Derived.TacticsInMore
import Derived.LoopNIn
import Derived.LoopIn
import Derived.Lib.SmallJoins
import Derived.Lib.ParseIntBCases
import Derived.Lib.IndexMore
import Derived.Shelf.Vars
import Derived.Lib.AtoiAllCases
import Derived.SliceStrings
import Derived.Deep.RegionLaw
import Derived.Sort.LotA
import Derived.BigRegionIn
import Derived.Lib.Strings
import Derived.Lib.Bytealg
import Derived.StillTailTactics
import Derived.Deep.RegionHeld3
import Derived.Shelf.Strings.SplitShaped
import Derived.Shelf.Strings.Prefix
import Derived.Shelf.Small.Strs
import Derived.Shelf.Strings.BuilderK
import Derived.Laws.BytesString
import Derived.Laws.IdiomStrings
set_option linter.unusedSimpArgs false
set_option linter.unusedVariables false
namespace Go.Proofs.YtlfknndpbejbcaaGreatDoor
open Go.RowKit Go.WideShapes Go.ChangeShapes
attribute [local go_sem] Oper.semAt_some
theorem showP_letters {m : MV} {w w' : World} {e : Ending} (h : ShowP m w e w') : ∃ A n c, ∃ x : Int, e = .returned (.tuple #[.slice A n c, .int .i64 x]) ∧ ((mvGood m = false ∧ n = 0 ∧ x = 2) ∨ (mvGood m = true ∧ x = 0 ∧ n = (shownM m).length ∧ w'.ownsRow w.heap.size 9 1 (.slice A n c) n (strv (shownM m)))) ∧ Below w.heap.size w w' := by
  obtain ⟨h, hb⟩ := h
  rcases h with ⟨hg, rfl⟩ | ⟨hg, A, n, c, rfl, hn, ho⟩
  · exact ⟨none, 0, 0, 2, rfl, .inl ⟨hg, rfl, rfl⟩, hb⟩
  · exact ⟨A, n, c, 0, rfl, .inr ⟨hg, rfl, hn, ho⟩, hb⟩
set_option maxRecDepth 100000 in
set_option maxHeartbeats 16000000 in
theorem scriptShows_any (m y : MV) (A B : Option Addr) (n c q d : Nat) (w : World) (hA : LstAt 1 byR w A n c m.b) (hB : LstAt 1 byR w B q d y.b) (okm : MvOk m) (oky : MvOk y) (htm : m.t.length ≤ 9223372036854775807) (hty : y.t.length ≤ 9223372036854775807) (he : Env w) (ht : SpTab w) :
    Calls Tryz.prog 6 #[mvV m (.slice A n c), mvV y (.slice B q d)] w (GoodP true w) := by
  obtain ⟨k, p, nn, b, t, oa, oh, oi, fo⟩ := m
  obtain ⟨kz, pz, nz, b2, t2, oaz, ohz, oiz, foz⟩ := y
  simp only at hA hB htm hty
  have HEn := hide he
  have HTb := hide ht
  have HTs := hide htm
  have HTz := hide hty
  obtain ⟨bx, hbx⟩ : ∃ bx, b.take 600 = bx := ⟨_, rfl⟩
  obtain ⟨tx, htx⟩ : ∃ tx, t.take 1500 = tx := ⟨_, rfl⟩
  obtain ⟨bz, hbz⟩ : ∃ bz, b2.take 600 = bz := ⟨_, rfl⟩
  obtain ⟨tz, htz⟩ : ∃ tz, t2.take 1500 = tz := ⟨_, rfl⟩
  have lbx : bx.length ≤ 600 := by rw [← hbx, List.length_take]; omega
  have ltx : tx.length ≤ 1500 := by rw [← htx, List.length_take]; omega
  have lbz : bz.length ≤ 600 := by rw [← hbz, List.length_take]; omega
  have ltz : tz.length ≤ 1500 := by rw [← htz, List.length_take]; omega
  have HCx : Hid (mvCut ⟨k, p, nn, b, t, oa, oh, oi, fo⟩ = ⟨k, p, nn, bx, tx, oa, oh, oi, fo⟩) := hide (by unfold mvCut; simp only; rw [hbx, htx])
  have HCz : Hid (mvCut ⟨kz, pz, nz, b2, t2, oaz, ohz, oiz, foz⟩ = ⟨kz, pz, nz, bz, tz, oaz, ohz, oiz, foz⟩) := hide (by unfold mvCut; simp only; rw [hbz, htz])
  have HCxx : Hid (mvCut ⟨k, p, nn, bx, tx, oa, oh, oi, fo⟩ = ⟨k, p, nn, bx, tx, oa, oh, oi, fo⟩) := hide (by unfold mvCut; simp only; rw [List.take_of_length_le lbx, List.take_of_length_le ltx])
  have HCzz : Hid (mvCut ⟨kz, pz, nz, bz, tz, oaz, ohz, oiz, foz⟩ = ⟨kz, pz, nz, bz, tz, oaz, ohz, oiz, foz⟩) := hide (by unfold mvCut; simp only; rw [List.take_of_length_le lbz, List.take_of_length_le ltz])
  have HTk : Hid (bx.take 600 = bx) := hide (List.take_of_length_le lbx)
  have HBl := hide lbx
  have HBz := hide lbz
  have HTl := hide ltx
  have HTx : Hid ((⟨k, p, nn, bx, tx, oa, oh, oi, fo⟩ : MV).t.length ≤ 9223372036854775807) := hide (by simp only; omega)
  have HTy : Hid ((⟨kz, pz, nz, bz, tz, oaz, ohz, oiz, foz⟩ : MV).t.length ≤ 9223372036854775807) := hide (by simp only; omega)
  have HOk : Hid (MvOk ⟨k, p, nn, bx, tx, oa, oh, oi, fo⟩) := hide ⟨okm.p, okm.oa, okm.oi, okm.k, okm.n, okm.oh⟩
  have HOkz : Hid (MvOk ⟨kz, pz, nz, bz, tz, oaz, ohz, oiz, foz⟩) := hide ⟨oky.p, oky.oa, oky.oi, oky.k, oky.n, oky.oh⟩
  have hbel : Below w.heap.size w ((w.alloc (.cells #[.int .i64 k, .int .u32 (p : Int), .int .i64 nn, .slice A n c, .string (str t), .int .u32 (oa : Int), .int .i64 oh, .int .u32 (oi : Int), .bool fo] 32)).alloc (.cells #[.int .i64 kz, .int .u32 (pz : Int), .int .i64 nz, .slice B q d, .string (str t2), .int .u32 (oaz : Int), .int .i64 ohz, .int .u32 (oiz : Int), .bool foz] 32)) := ((Below.refl _ w).alloc (Nat.le_refl _) _).alloc (by simp) _
  have HBx := hide hbel
  have HK : Hid (Blk ((w.alloc (.cells #[.int .i64 k, .int .u32 (p : Int), .int .i64 nn, .slice A n c, .string (str t), .int .u32 (oa : Int), .int .i64 oh, .int .u32 (oi : Int), .bool fo] 32)).alloc (.cells #[.int .i64 kz, .int .u32 (pz : Int), .int .i64 nz, .slice B q d, .string (str t2), .int .u32 (oaz : Int), .int .i64 ohz, .int .u32 (oiz : Int), .bool foz] 32)) w.heap.size 32 #[.int .i64 k, .int .u32 (p : Int), .int .i64 nn, .slice A n c, .string (str t), .int .u32 (oa : Int), .int .i64 oh, .int .u32 (oi : Int), .bool fo]) := hide ((Blk.new w _ _).alloc _)
  have HKz : Hid (Blk ((w.alloc (.cells #[.int .i64 k, .int .u32 (p : Int), .int .i64 nn, .slice A n c, .string (str t), .int .u32 (oa : Int), .int .i64 oh, .int .u32 (oi : Int), .bool fo] 32)).alloc (.cells #[.int .i64 kz, .int .u32 (pz : Int), .int .i64 nz, .slice B q d, .string (str t2), .int .u32 (oaz : Int), .int .i64 ohz, .int .u32 (oiz : Int), .bool foz] 32)) (w.heap.size + 1) 32 #[.int .i64 kz, .int .u32 (pz : Int), .int .i64 nz, .slice B q d, .string (str t2), .int .u32 (oaz : Int), .int .i64 ohz, .int .u32 (oiz : Int), .bool foz]) := hide (blk_new' _ _ (by simp))
  have HLs := hide (hA.below byMono hbel)
  have HLz := hide (hB.below byMono hbel)
  obtain ⟨w1, hw1⟩ : ∃ w1, ((w.alloc (.cells #[.int .i64 k, .int .u32 (p : Int), .int .i64 nn, .slice A n c, .string (str t), .int .u32 (oa : Int), .int .i64 oh, .int .u32 (oi : Int), .bool fo] 32)).alloc (.cells #[.int .i64 kz, .int .u32 (pz : Int), .int .i64 nz, .slice B q d, .string (str t2), .int .u32 (oaz : Int), .int .i64 ohz, .int .u32 (oiz : Int), .bool foz] 32)) = w1 := ⟨_, rfl⟩
  rw [hw1] at HBx HK HKz HLs HLz
  have Hw1 := hide hw1
  clear hA hB okm oky htm hty he ht hbx htx hbz htz lbx ltx lbz ltz hbel hw1
  unfold mvV
  simp only
  go_enter Tryz.func6, Tryz.ntmps6
  go_wp2
  rw [Hw1.out]
  clear Hw1
  have Hmn := hide (show AllMono [(fun v _ => v = .agg #[.int .i64 k, .int .u32 (p : Int), .int .i64 nn, .slice A n c, .string (str t), .int .u32 (oa : Int), .int .i64 oh, .int .u32 (oi : Int), .bool fo]), (fun v W => ∃ A n c, v = .agg #[.int .i64 k, .int .u32 (p : Int), .int .i64 nn, .slice A n c, .string (str tx), .int .u32 (oa : Int), .int .i64 oh, .int .u32 (oi : Int), .bool fo] ∧ bx.length = n ∧ W.ownsRow (w.heap.size + 2) 5 1 (.slice A n c) n (byB bx)), (fun v _ => v = .agg #[.int .i64 kz, .int .u32 (pz : Int), .int .i64 nz, .slice B q d, .string (str t2), .int .u32 (oaz : Int), .int .i64 ohz, .int .u32 (oiz : Int), .bool foz]), (fun v W => ∃ A n c, v = .agg #[.int .i64 kz, .int .u32 (pz : Int), .int .i64 nz, .slice A n c, .string (str tz), .int .u32 (oaz : Int), .int .i64 ohz, .int .u32 (oiz : Int), .bool foz] ∧ bz.length = n ∧ W.ownsRow (w.heap.size + 2) 5 1 (.slice A n c) n (byB bz))] from ⟨fun _ _ _ _ h => h, fun v W W2 hb ⟨A, n, c, e, h1, h2⟩ => ⟨A, n, c, e, h1, own_below h2 hb⟩, fun _ _ _ _ h => h, fun v W W2 hb ⟨A, n, c, e, h1, h2⟩ => ⟨A, n, c, e, h1, own_below h2 hb⟩, trivial⟩)
  refine wp_region_relT 4 _ (by kernel_rfl) (by kernel_rfl) (by kernel_rfl) (by kernel_rfl) (by kernel_rfl) (relMono _ Hmn.out) ⟨?_, ?_, ?_, ?_, trivial⟩ ?_
  · refine relStep_plain rfl ?_
    intro Ac w5 hp
    have hb := hp.bel
    have a2 : Ac.eval (.tmp 2) = .pointer (some ⟨w.heap.size, 0, none⟩) := hp.out 2 (by rfl)
    have zz := HK.out.below hb HK.out.lt
    have z0 : w5.cell? ⟨w.heap.size, 0, none⟩ = some (.int .i64 k) := zz.cell 0
    have z1 : w5.cell? ⟨w.heap.size, 1, none⟩ = some (.int .u32 (p : Int)) := zz.cell 1
    have z2 : w5.cell? ⟨w.heap.size, 2, none⟩ = some (.int .i64 nn) := zz.cell 2
    have z3 : w5.cell? ⟨w.heap.size, 3, none⟩ = some (.slice A n c) := zz.cell 3
    have z4 : w5.cell? ⟨w.heap.size, 4, none⟩ = some (.string (str t)) := zz.cell 4
    have z5 : w5.cell? ⟨w.heap.size, 5, none⟩ = some (.int .u32 (oa : Int)) := zz.cell 5
    have z6 : w5.cell? ⟨w.heap.size, 6, none⟩ = some (.int .i64 oh) := zz.cell 6
    have z7 : w5.cell? ⟨w.heap.size, 7, none⟩ = some (.int .u32 (oi : Int)) := zz.cell 7
    have z8 : w5.cell? ⟨w.heap.size, 8, none⟩ = some (.bool fo) := zz.cell 8
    clear zz
    have hc := evalC Ac; have hf := evalF Ac; have hgl := evalG Ac
    obtain ⟨ρ, hρ⟩ : ∃ ρ, Ac.eval = ρ := ⟨_, rfl⟩
    rw [hρ] at a2 hc hf hgl
    exact relPure hρ (.agg #[.int .i64 k, .int .u32 (p : Int), .int .i64 nn, .slice A n c, .string (str t), .int .u32 (oa : Int), .int .i64 oh, .int .u32 (oi : Int), .bool fo]) (by simp [go_sem, hc, hf, hgl, ↓IntWalk.iteOmega, a2, *]) rfl
  · refine relStep_plain rfl ?_
    intro Ac w5 hp
    have hb := hp.bel
    have a10 : Ac.eval (.tmp 10) = .agg #[.int .i64 k, .int .u32 (p : Int), .int .i64 nn, .slice A n c, .string (str t), .int .u32 (oa : Int), .int .i64 oh, .int .u32 (oi : Int), .bool fo] := hp.dep 0 (by kernel_rfl)
    have hc := evalC Ac; have hf := evalF Ac; have hgl := evalG Ac
    obtain ⟨ρ, hρ⟩ : ∃ ρ, Ac.eval = ρ := ⟨_, rfl⟩
    rw [hρ] at a10 hc hf hgl
    refine relCall hρ 18 #[.agg #[.int .i64 k, .int .u32 (p : Int), .int .i64 nn, .slice A n c, .string (str t), .int .u32 (oa : Int), .int .i64 oh, .int .u32 (oi : Int), .bool fo]] (by simp [go_sem, hc, hf, hgl, ↓IntWalk.iteOmega, a10, *]) ?_
    refine (smove_any ⟨k, p, nn, b, t, oa, oh, oi, fo⟩ A n c w5 (HLs.out.below byMono hb) HTs.out).mono ?_
    intro e w6 hmv
    unfold MvCutP at hmv
    rw [HCx.out] at hmv
    obtain ⟨A6, n6, q6, rfl, hn6, ho6, hb6⟩ := hmv
    exact ⟨_, rfl, ⟨A6, n6, q6, rfl, hn6, own_baseLe ho6 (by have := hb.size; have := HKz.out.lt; omega)⟩, hb6⟩
  · refine relStep_plain rfl ?_
    intro Ac w5 hp
    have hb := hp.bel
    have a3 : Ac.eval (.tmp 3) = .pointer (some ⟨w.heap.size + 1, 0, none⟩) := hp.out 3 (by rfl)
    have zz := HKz.out.below hb HKz.out.lt
    have z0 : w5.cell? ⟨w.heap.size + 1, 0, none⟩ = some (.int .i64 kz) := zz.cell 0
    have z1 : w5.cell? ⟨w.heap.size + 1, 1, none⟩ = some (.int .u32 (pz : Int)) := zz.cell 1
    have z2 : w5.cell? ⟨w.heap.size + 1, 2, none⟩ = some (.int .i64 nz) := zz.cell 2
    have z3 : w5.cell? ⟨w.heap.size + 1, 3, none⟩ = some (.slice B q d) := zz.cell 3
    have z4 : w5.cell? ⟨w.heap.size + 1, 4, none⟩ = some (.string (str t2)) := zz.cell 4
    have z5 : w5.cell? ⟨w.heap.size + 1, 5, none⟩ = some (.int .u32 (oaz : Int)) := zz.cell 5
    have z6 : w5.cell? ⟨w.heap.size + 1, 6, none⟩ = some (.int .i64 ohz) := zz.cell 6
    have z7 : w5.cell? ⟨w.heap.size + 1, 7, none⟩ = some (.int .u32 (oiz : Int)) := zz.cell 7
    have z8 : w5.cell? ⟨w.heap.size + 1, 8, none⟩ = some (.bool foz) := zz.cell 8
    clear zz
    have hc := evalC Ac; have hf := evalF Ac; have hgl := evalG Ac
    obtain ⟨ρ, hρ⟩ : ∃ ρ, Ac.eval = ρ := ⟨_, rfl⟩
    rw [hρ] at a3 hc hf hgl
    exact relPure hρ (.agg #[.int .i64 kz, .int .u32 (pz : Int), .int .i64 nz, .slice B q d, .string (str t2), .int .u32 (oaz : Int), .int .i64 ohz, .int .u32 (oiz : Int), .bool foz]) (by simp [go_sem, hc, hf, hgl, ↓IntWalk.iteOmega, a3, *]) rfl
  · refine relStep_plain rfl ?_
    intro Ac w5 hp
    have hb := hp.bel
    have a12 : Ac.eval (.tmp 12) = .agg #[.int .i64 kz, .int .u32 (pz : Int), .int .i64 nz, .slice B q d, .string (str t2), .int .u32 (oaz : Int), .int .i64 ohz, .int .u32 (oiz : Int), .bool foz] := hp.dep 2 (by kernel_rfl)
    have hc := evalC Ac; have hf := evalF Ac; have hgl := evalG Ac
    obtain ⟨ρ, hρ⟩ : ∃ ρ, Ac.eval = ρ := ⟨_, rfl⟩
    rw [hρ] at a12 hc hf hgl
    refine relCall hρ 18 #[.agg #[.int .i64 kz, .int .u32 (pz : Int), .int .i64 nz, .slice B q d, .string (str t2), .int .u32 (oaz : Int), .int .i64 ohz, .int .u32 (oiz : Int), .bool foz]] (by simp [go_sem, hc, hf, hgl, ↓IntWalk.iteOmega, a12, *]) ?_
    refine (smove_any ⟨kz, pz, nz, b2, t2, oaz, ohz, oiz, foz⟩ B q d w5 (HLz.out.below byMono hb) HTz.out).mono ?_
    intro e w6 hmv
    unfold MvCutP at hmv
    rw [HCz.out] at hmv
    obtain ⟨A6, n6, q6, rfl, hn6, ho6, hb6⟩ := hmv
    exact ⟨_, rfl, ⟨A6, n6, q6, rfl, hn6, own_baseLe ho6 (by have := hb.size; have := HKz.out.lt; omega)⟩, hb6⟩
  intro u w3 hb7 hall
  obtain ⟨A1, n1, c1, e11, hn1, ho1⟩ := relAll_at hall (i := 1) (by decide +kernel)
  change u 1 = _ at e11
  obtain ⟨A2, n2, c2, e13, hn2, ho2⟩ := relAll_at hall (i := 3) (by decide +kernel)
  change u 3 = _ at e13
  clear hall
  simp only [List.drop_succ_cons, List.drop_zero, List.take_succ_cons, List.take_zero, putAll, Act.put, List.setIfInBounds_toArray, List.set_cons_zero, List.set_cons_succ, Nat.zero_add, Nat.reduceAdd, e11, e13]
  have hs3 := HBx.out.size
  have HB3 := hide (HBx.out.trans (hb7.mono hs3))
  have HK3 := hide (HK.out.below hb7 HK.out.lt)
  have HKz3 := hide (HKz.out.below hb7 HKz.out.lt)
  have Hn1 := hide hn1
  have Hn2 := hide hn2
  have Ho1 := hide ho1
  have Ho2 := hide ho2
  clear hb7 hn1 hn2 ho1 ho2
  refine wpList_skip rfl rfl (exec_store rfl (x := .pointer (some ⟨w.heap.size, 0, none⟩)) (y := .agg #[.int .i64 k, .int .u32 (p : Int), .int .i64 nn, .slice A1 n1 c1, .string (str tx), .int .u32 (oa : Int), .int .i64 oh, .int .u32 (oi : Int), .bool fo]) rfl rfl (store_mvAt w3 w.heap.size ⟨k, p, nn, bx, tx, oa, oh, oi, fo⟩ A1 n1 c1 HK3.out)) ?_
  refine wpList_skip rfl rfl (exec_store rfl (x := .pointer (some ⟨w.heap.size + 1, 0, none⟩)) (y := .agg #[.int .i64 kz, .int .u32 (pz : Int), .int .i64 nz, .slice A2 n2 c2, .string (str tz), .int .u32 (oaz : Int), .int .i64 ohz, .int .u32 (oiz : Int), .bool foz]) rfl rfl (store_mvAt _ (w.heap.size + 1) ⟨kz, pz, nz, bz, tz, oaz, ohz, oiz, foz⟩ A2 n2 c2 (setMv_far HKz3.out (by omega)))) ?_
  obtain ⟨w4, hw4⟩ : ∃ w4, setMv (setMv w3 w.heap.size ⟨k, p, nn, bx, tx, oa, oh, oi, fo⟩ (.slice A1 n1 c1)) (w.heap.size + 1) ⟨kz, pz, nz, bz, tz, oaz, ohz, oiz, foz⟩ (.slice A2 n2 c2) = w4 := ⟨_, rfl⟩
  rw [hw4]
  have HK4 : Hid (Blk w4 w.heap.size 32 #[.int .i64 k, .int .u32 (p : Int), .int .i64 nn, .slice A1 n1 c1, .string (str tx), .int .u32 (oa : Int), .int .i64 oh, .int .u32 (oi : Int), .bool fo]) := hide (by rw [← hw4]; exact setMv_far (setMv_blkAt HK3.out) (by omega))
  have HKz4 : Hid (Blk w4 (w.heap.size + 1) 32 #[.int .i64 kz, .int .u32 (pz : Int), .int .i64 nz, .slice A2 n2 c2, .string (str tz), .int .u32 (oaz : Int), .int .i64 ohz, .int .u32 (oiz : Int), .bool foz]) := hide (by rw [← hw4]; exact setMv_blkAt (setMv_far HKz3.out (by omega)))
  have HLx : Hid (LstAt 1 byR w4 A1 n1 c1 bx) := hide (by rw [← hw4]; exact by_lst2 Hn1.out (setMv_own (setMv_own Ho1.out (fun e => by have := own_low_block Ho1.out _ e; omega)) (fun e => by have := own_low_block Ho1.out _ e; omega)))
  have HLy : Hid (LstAt 1 byR w4 A2 n2 c2 bz) := hide (by rw [← hw4]; exact by_lst2 Hn2.out (setMv_own (setMv_own Ho2.out (fun e => by have := own_low_block Ho2.out _ e; omega)) (fun e => by have := own_low_block Ho2.out _ e; omega)))
  have HB4 : Hid (Below w.heap.size w w4) := hide (by rw [← hw4]; exact setMv_below (setMv_below HB3.out (Nat.le_refl _)) (Nat.le_succ _))
  have HMv2 := hide (smove_any ⟨k, p, nn, bx, tx, oa, oh, oi, fo⟩ A1 n1 c1 w4 HLx.out HTx.out)
  have hl4 := HKz4.out.lt
  clear hs3 hw4 HK3 HKz3 Hn1 Hn2 Ho1 Ho2 HB3 HLs HLz HK HKz HBx HCx HCz HTs HTz
  have k0 : w4.cell? ⟨w.heap.size, 0, none⟩ = some (.int .i64 k) := HK4.out.cell 0
  have k1 : w4.cell? ⟨w.heap.size, 1, none⟩ = some (.int .u32 (p : Int)) := HK4.out.cell 1
  have k2 : w4.cell? ⟨w.heap.size, 2, none⟩ = some (.int .i64 nn) := HK4.out.cell 2
  have k3 : w4.cell? ⟨w.heap.size, 3, none⟩ = some (.slice A1 n1 c1) := HK4.out.cell 3
  have k4 : w4.cell? ⟨w.heap.size, 4, none⟩ = some (.string (str tx)) := HK4.out.cell 4
  have k5 : w4.cell? ⟨w.heap.size, 5, none⟩ = some (.int .u32 (oa : Int)) := HK4.out.cell 5
  have k6 : w4.cell? ⟨w.heap.size, 6, none⟩ = some (.int .i64 oh) := HK4.out.cell 6
  have k7 : w4.cell? ⟨w.heap.size, 7, none⟩ = some (.int .u32 (oi : Int)) := HK4.out.cell 7
  have k8 : w4.cell? ⟨w.heap.size, 8, none⟩ = some (.bool fo) := HK4.out.cell 8
  go_wp2_with fail
  refine HMv2.out.mono ?_
  intro e w5 hmv
  unfold MvCutP at hmv
  rw [HCxx.out] at hmv
  obtain ⟨Ab, nb, cb, rfl, hnb, hob, hb⟩ := hmv
  have HB5 := hide (HB4.out.trans (hb.mono HB4.out.size))
  have HK5 := hide (HK4.out.below hb HK4.out.lt)
  have HKz5 := hide (HKz4.out.below hb HKz4.out.lt)
  have HLx5 := hide (HLx.out.below byMono hb)
  have HLy5 := hide (HLy.out.below byMono hb)
  have HSh := hide (scShow_any ⟨k, p, nn, bx, tx, oa, oh, oi, fo⟩ Ab nb cb w5 (by_lst2 hnb hob) HOk.out HTx.out (HEn.out.below HB5.out) (HTb.out.below HB5.out))
  clear hb hnb hob k0 k1 k2 k3 k4 k5 k6 k7 k8 hl4 HMv2 HK4 HKz4 HLx HLy HB4
  unfold mvV
  simp only
  go_wp2_with fail
  refine HSh.out.mono ?_
  intro e w6 hsh
  obtain ⟨A5, n5, c5, x5, rfl, hsh, hb⟩ := showP_letters hsh
  have HSH := hide hsh
  have hs5 := HB5.out.size
  have HB6 := hide (HB5.out.trans (hb.mono hs5))
  have HK4 := hide (HK5.out.below hb HK5.out.lt)
  have HKz4 := hide (HKz5.out.below hb HKz5.out.lt)
  have hlx := HLx5.out.below byMono hb
  have hly := HLy5.out.below byMono hb
  have HLx := hide hlx
  have HLy := hide hly
  obtain ⟨gv, hgv⟩ : ∃ gv, mvGood ⟨k, p, nn, bx, tx, oa, oh, oi, fo⟩ = gv := ⟨_, rfl⟩
  have HGv := hide hgv
  obtain ⟨Ao, no_, co, hov, hlo⟩ := only_lst (K := ⟨k, p, nn, bx, tx, oa, oh, oi, fo⟩) hlx
  obtain ⟨Aq, nq_, cq, hqv, hlq⟩ := only_lst (K := ⟨kz, pz, nz, bz, tz, oaz, ohz, oiz, foz⟩) hly
  obtain ⟨MM, hMM⟩ : ∃ M', mvOnly ⟨k, p, nn, bx, tx, oa, oh, oi, fo⟩ = M' := ⟨_, rfl⟩
  obtain ⟨MN, hMN⟩ : ∃ M', mvOnly ⟨kz, pz, nz, bz, tz, oaz, ohz, oiz, foz⟩ = M' := ⟨_, rfl⟩
  rw [hMM] at hlo
  rw [hMN] at hlq
  obtain ⟨ko, po, no, bo, tO, oao, oho, oio, foo⟩ := MM
  obtain ⟨kq, pq, nq, bq, tq, oaq, ohq, oiq, foq⟩ := MN
  have HOx : Hid (mvV (mvOnly ⟨k, p, nn, bx, tx, oa, oh, oi, fo⟩) (onlyV ⟨k, p, nn, bx, tx, oa, oh, oi, fo⟩ (.slice A1 n1 c1)) = .agg #[.int .i64 ko, .int .u32 (po : Int), .int .i64 no, .slice Ao no_ co, .string (str tO), .int .u32 (oao : Int), .int .i64 oho, .int .u32 (oio : Int), .bool foo]) := hide (by rw [hMM, hov]; rfl)
  have HOz : Hid (mvV (mvOnly ⟨kz, pz, nz, bz, tz, oaz, ohz, oiz, foz⟩) (onlyV ⟨kz, pz, nz, bz, tz, oaz, ohz, oiz, foz⟩ (.slice A2 n2 c2)) = .agg #[.int .i64 kq, .int .u32 (pq : Int), .int .i64 nq, .slice Aq nq_ cq, .string (str tq), .int .u32 (oaq : Int), .int .i64 ohq, .int .u32 (oiq : Int), .bool foq]) := hide (by rw [hMN, hqv]; rfl)
  have HMM := hide hMM
  have HLo : Hid (LstAt 1 byR w6 Ao no_ co bo) := hide hlo
  have HLq : Hid (LstAt 1 byR w6 Aq nq_ cq bq) := hide hlq
  obtain ⟨E, hE⟩ : ∃ E, sameM (mvOnly ⟨k, p, nn, bx, tx, oa, oh, oi, fo⟩) (mvOnly ⟨kz, pz, nz, bz, tz, oaz, ohz, oiz, foz⟩) = E := ⟨_, rfl⟩
  have HE := hide hE
  have HE2 : Hid (sameM ⟨ko, po, no, bo, tO, oao, oho, oio, foo⟩ ⟨kq, pq, nq, bq, tq, oaq, ohq, oiq, foq⟩ = E) := hide (by rw [← hMM, ← hMN]; exact hE)
  obtain ⟨SH, hSH⟩ : ∃ SH, str (hexT bx) = SH := ⟨_, rfl⟩
  have HS := hide hSH
  clear hb hsh hlx hly hgv hov hlo hqv hlq hMM hMN hE hSH HK5 HKz5 HLx5 HLy5 HSh HB5 hs5
  go_wp2
  have Hmn := hide (show AllMono [(fun v _ => v = .agg #[.int .i64 k, .int .u32 (p : Int), .int .i64 nn, .slice A1 n1 c1, .string (str tx), .int .u32 (oa : Int), .int .i64 oh, .int .u32 (oi : Int), .bool fo]), (fun v W => ∃ A n c, v = .agg #[.int .i64 k, .int .u32 (p : Int), .int .i64 nn, .slice A n c, .string (str tx), .int .u32 (oa : Int), .int .i64 oh, .int .u32 (oi : Int), .bool fo] ∧ bx.length = n ∧ LstAt 1 byR W A n c bx), (fun v _ => v = .bool gv), (fun v _ => v = .agg #[.int .i64 k, .int .u32 (p : Int), .int .i64 nn, .slice A1 n1 c1, .string (str tx), .int .u32 (oa : Int), .int .i64 oh, .int .u32 (oi : Int), .bool fo]), (fun v _ => v = .bool gv), (fun v _ => v = .bool false), (fun v _ => v = .bool false), (fun v _ => v = .agg #[.int .i64 k, .int .u32 (p : Int), .int .i64 nn, .slice A1 n1 c1, .string (str tx), .int .u32 (oa : Int), .int .i64 oh, .int .u32 (oi : Int), .bool fo]), (fun v W => ∃ A n c, v = .agg #[.int .i64 k, .int .u32 (p : Int), .int .i64 nn, .slice A n c, .string (str tx), .int .u32 (oa : Int), .int .i64 oh, .int .u32 (oi : Int), .bool fo] ∧ bx.length = n ∧ LstAt 1 byR W A n c bx), (fun v _ => v = .agg #[.int .i64 kz, .int .u32 (pz : Int), .int .i64 nz, .slice A2 n2 c2, .string (str tz), .int .u32 (oaz : Int), .int .i64 ohz, .int .u32 (oiz : Int), .bool foz]), (fun v W => ∃ A n c, v = .agg #[.int .i64 kz, .int .u32 (pz : Int), .int .i64 nz, .slice A n c, .string (str tz), .int .u32 (oaz : Int), .int .i64 ohz, .int .u32 (oiz : Int), .bool foz] ∧ bz.length = n ∧ LstAt 1 byR W A n c bz), (fun v _ => v = .bool E), (fun v _ => v = .agg #[.int .i64 k, .int .u32 (p : Int), .int .i64 nn, .slice A1 n1 c1, .string (str tx), .int .u32 (oa : Int), .int .i64 oh, .int .u32 (oi : Int), .bool fo]), (fun v _ => v = .agg #[.int .i64 ko, .int .u32 (po : Int), .int .i64 no, .slice Ao no_ co, .string (str tO), .int .u32 (oao : Int), .int .i64 oho, .int .u32 (oio : Int), .bool foo]), (fun v _ => v = .agg #[.int .i64 kz, .int .u32 (pz : Int), .int .i64 nz, .slice A2 n2 c2, .string (str tz), .int .u32 (oaz : Int), .int .i64 ohz, .int .u32 (oiz : Int), .bool foz]), (fun v _ => v = .agg #[.int .i64 kq, .int .u32 (pq : Int), .int .i64 nq, .slice Aq nq_ cq, .string (str tq), .int .u32 (oaq : Int), .int .i64 ohq, .int .u32 (oiq : Int), .bool foq]), (fun v _ => v = .bool E), (fun v _ => v = .bool false), (fun v _ => v = .bool false), (fun v _ => v = .bool false), (fun v _ => v = .pointer (some ⟨w.heap.size, 3, none⟩)), (fun v _ => v = .slice A1 n1 c1), (fun v W => ∃ A n c, v = .slice A n c ∧ bx.length = n ∧ LstAt 1 byR W A n c bx), (fun v _ => v = .string SH), (fun v _ => v = .pointer (some ⟨w.heap.size, 3, none⟩)), (fun v _ => v = .slice A1 n1 c1), (fun v _ => v = .string SH), (fun v _ => v = .bool false), (fun v _ => v = .bool false)] from ⟨fun _ _ _ _ h => h, fun v W W2 hb ⟨A, n, c, e, h1, h2⟩ => ⟨A, n, c, e, h1, h2.below byMono hb⟩, fun _ _ _ _ h => h, fun _ _ _ _ h => h, fun _ _ _ _ h => h, fun _ _ _ _ h => h, fun _ _ _ _ h => h, fun _ _ _ _ h => h, fun v W W2 hb ⟨A, n, c, e, h1, h2⟩ => ⟨A, n, c, e, h1, h2.below byMono hb⟩, fun _ _ _ _ h => h, fun v W W2 hb ⟨A, n, c, e, h1, h2⟩ => ⟨A, n, c, e, h1, h2.below byMono hb⟩, fun _ _ _ _ h => h, fun _ _ _ _ h => h, fun _ _ _ _ h => h, fun _ _ _ _ h => h, fun _ _ _ _ h => h, fun _ _ _ _ h => h, fun _ _ _ _ h => h, fun _ _ _ _ h => h, fun _ _ _ _ h => h, fun _ _ _ _ h => h, fun _ _ _ _ h => h, fun v W W2 hb ⟨A, n, c, e, h1, h2⟩ => ⟨A, n, c, e, h1, h2.below byMono hb⟩, fun _ _ _ _ h => h, fun _ _ _ _ h => h, fun _ _ _ _ h => h, fun _ _ _ _ h => h, fun _ _ _ _ h => h, fun _ _ _ _ h => h, trivial⟩)
  refine wp_region_rel _ (by kernel_rfl) (by kernel_rfl) (relMono _ Hmn.out) ⟨?_, ?_, ?_, ?_, ?_, ?_, ?_, ?_, ?_, ?_, ?_, ?_, ?_, ?_, ?_, ?_, ?_, ?_, ?_, ?_, ?_, ?_, ?_, ?_, ?_, ?_, ?_, ?_, ?_, trivial⟩ ?_
  · refine relStep_plain rfl ?_
    intro Ac w5 hp
    have hb := hp.bel
    have a2 : Ac.eval (.tmp 2) = .pointer (some ⟨w.heap.size, 0, none⟩) := hp.out 2 (by rfl)
    have zz := HK4.out.below hb HK4.out.lt
    have z0 : w5.cell? ⟨w.heap.size, 0, none⟩ = some (.int .i64 k) := zz.cell 0
    have z1 : w5.cell? ⟨w.heap.size, 1, none⟩ = some (.int .u32 (p : Int)) := zz.cell 1
    have z2 : w5.cell? ⟨w.heap.size, 2, none⟩ = some (.int .i64 nn) := zz.cell 2
    have z3 : w5.cell? ⟨w.heap.size, 3, none⟩ = some (.slice A1 n1 c1) := zz.cell 3
    have z4 : w5.cell? ⟨w.heap.size, 4, none⟩ = some (.string (str tx)) := zz.cell 4
    have z5 : w5.cell? ⟨w.heap.size, 5, none⟩ = some (.int .u32 (oa : Int)) := zz.cell 5
    have z6 : w5.cell? ⟨w.heap.size, 6, none⟩ = some (.int .i64 oh) := zz.cell 6
    have z7 : w5.cell? ⟨w.heap.size, 7, none⟩ = some (.int .u32 (oi : Int)) := zz.cell 7
    have z8 : w5.cell? ⟨w.heap.size, 8, none⟩ = some (.bool fo) := zz.cell 8
    clear zz
    have hc := evalC Ac; have hf := evalF Ac; have hgl := evalG Ac
    obtain ⟨ρ, hρ⟩ : ∃ ρ, Ac.eval = ρ := ⟨_, rfl⟩
    rw [hρ] at a2 hc hf hgl
    exact relPure hρ (.agg #[.int .i64 k, .int .u32 (p : Int), .int .i64 nn, .slice A1 n1 c1, .string (str tx), .int .u32 (oa : Int), .int .i64 oh, .int .u32 (oi : Int), .bool fo]) (by simp [go_sem, hc, hf, hgl, ↓IntWalk.iteOmega, a2, *]) rfl
  · refine relStep_plain rfl ?_
    intro Ac w5 hp
    have hb := hp.bel
    have a20 : Ac.eval (.tmp 20) = .agg #[.int .i64 k, .int .u32 (p : Int), .int .i64 nn, .slice A1 n1 c1, .string (str tx), .int .u32 (oa : Int), .int .i64 oh, .int .u32 (oi : Int), .bool fo] := hp.dep 0 (by kernel_rfl)
    have hc := evalC Ac; have hf := evalF Ac; have hgl := evalG Ac
    obtain ⟨ρ, hρ⟩ : ∃ ρ, Ac.eval = ρ := ⟨_, rfl⟩
    rw [hρ] at a20 hc hf hgl
    refine relCall hρ 18 #[.agg #[.int .i64 k, .int .u32 (p : Int), .int .i64 nn, .slice A1 n1 c1, .string (str tx), .int .u32 (oa : Int), .int .i64 oh, .int .u32 (oi : Int), .bool fo]] (by simp [go_sem, hc, hf, hgl, ↓IntWalk.iteOmega, a20, *]) ?_
    refine (smove_any ⟨k, p, nn, bx, tx, oa, oh, oi, fo⟩ A1 n1 c1 w5 (HLx.out.below byMono hb) HTx.out).mono ?_
    intro e w6 hmv
    unfold MvCutP at hmv
    rw [HCxx.out] at hmv
    obtain ⟨A6, n6, q6, rfl, hn6, ho6, hb6⟩ := hmv
    exact ⟨_, rfl, ⟨A6, n6, q6, rfl, hn6, by_lst2 hn6 ho6⟩, hb6⟩
  · refine relStep_plain rfl ?_
    intro Ac w5 hp
    have hb := hp.bel
    obtain ⟨A21, n21, c21, a21, hn21, hl21⟩ := hp.dep 1 (by kernel_rfl)
    change Ac.eval (.tmp 21) = _ at a21
    have hc := evalC Ac; have hf := evalF Ac; have hgl := evalG Ac
    obtain ⟨ρ, hρ⟩ : ∃ ρ, Ac.eval = ρ := ⟨_, rfl⟩
    rw [hρ] at a21 hc hf hgl
    refine relCall hρ 21 #[.agg #[.int .i64 k, .int .u32 (p : Int), .int .i64 nn, .slice A21 n21 c21, .string (str tx), .int .u32 (oa : Int), .int .i64 oh, .int .u32 (oi : Int), .bool fo]] (by simp [go_sem, hc, hf, hgl, ↓IntWalk.iteOmega, a21, *]) ?_
    refine (scGood_any ⟨k, p, nn, bx, tx, oa, oh, oi, fo⟩ A21 n21 c21 w5 hn21 HTx.out).mono ?_
    rintro e w6 ⟨rfl, hb6⟩
    exact ⟨_, rfl, by rw [HGv.out]; rfl, hb6⟩
  · refine relStep_plain rfl ?_
    intro Ac w5 hp
    have hb := hp.bel
    have a2 : Ac.eval (.tmp 2) = .pointer (some ⟨w.heap.size, 0, none⟩) := hp.out 2 (by rfl)
    have zz := HK4.out.below hb HK4.out.lt
    have z0 : w5.cell? ⟨w.heap.size, 0, none⟩ = some (.int .i64 k) := zz.cell 0
    have z1 : w5.cell? ⟨w.heap.size, 1, none⟩ = some (.int .u32 (p : Int)) := zz.cell 1
    have z2 : w5.cell? ⟨w.heap.size, 2, none⟩ = some (.int .i64 nn) := zz.cell 2
    have z3 : w5.cell? ⟨w.heap.size, 3, none⟩ = some (.slice A1 n1 c1) := zz.cell 3
    have z4 : w5.cell? ⟨w.heap.size, 4, none⟩ = some (.string (str tx)) := zz.cell 4
    have z5 : w5.cell? ⟨w.heap.size, 5, none⟩ = some (.int .u32 (oa : Int)) := zz.cell 5
    have z6 : w5.cell? ⟨w.heap.size, 6, none⟩ = some (.int .i64 oh) := zz.cell 6
    have z7 : w5.cell? ⟨w.heap.size, 7, none⟩ = some (.int .u32 (oi : Int)) := zz.cell 7
    have z8 : w5.cell? ⟨w.heap.size, 8, none⟩ = some (.bool fo) := zz.cell 8
    clear zz
    have hc := evalC Ac; have hf := evalF Ac; have hgl := evalG Ac
    obtain ⟨ρ, hρ⟩ : ∃ ρ, Ac.eval = ρ := ⟨_, rfl⟩
    rw [hρ] at a2 hc hf hgl
    exact relPure hρ (.agg #[.int .i64 k, .int .u32 (p : Int), .int .i64 nn, .slice A1 n1 c1, .string (str tx), .int .u32 (oa : Int), .int .i64 oh, .int .u32 (oi : Int), .bool fo]) (by simp [go_sem, hc, hf, hgl, ↓IntWalk.iteOmega, a2, *]) rfl
  · refine relStep_plain rfl ?_
    intro Ac w5 hp
    have hb := hp.bel
    have a23 : Ac.eval (.tmp 23) = .agg #[.int .i64 k, .int .u32 (p : Int), .int .i64 nn, .slice A1 n1 c1, .string (str tx), .int .u32 (oa : Int), .int .i64 oh, .int .u32 (oi : Int), .bool fo] := hp.dep 3 (by kernel_rfl)
    have hc := evalC Ac; have hf := evalF Ac; have hgl := evalG Ac
    obtain ⟨ρ, hρ⟩ : ∃ ρ, Ac.eval = ρ := ⟨_, rfl⟩
    rw [hρ] at a23 hc hf hgl
    refine relCall hρ 8 #[.agg #[.int .i64 k, .int .u32 (p : Int), .int .i64 nn, .slice A1 n1 c1, .string (str tx), .int .u32 (oa : Int), .int .i64 oh, .int .u32 (oi : Int), .bool fo]] (by simp [go_sem, hc, hf, hgl, ↓IntWalk.iteOmega, a23, *]) ?_
    refine (rgood_any ⟨k, p, nn, bx, tx, oa, oh, oi, fo⟩ A1 n1 c1 w5 HLx.out.1 HTx.out).mono ?_
    rintro e w6 ⟨rfl, hb6⟩
    exact ⟨_, rfl, by rw [HGv.out]; rfl, hb6⟩
  · refine relStep_plain rfl ?_
    intro Ac w5 hp
    have hb := hp.bel
    have a22 : Ac.eval (.tmp 22) = .bool gv := hp.dep 2 (by kernel_rfl)
    have a24 : Ac.eval (.tmp 24) = .bool gv := hp.dep 4 (by kernel_rfl)
    have hc := evalC Ac; have hf := evalF Ac; have hgl := evalG Ac
    obtain ⟨ρ, hρ⟩ : ∃ ρ, Ac.eval = ρ := ⟨_, rfl⟩
    rw [hρ] at a22 a24 hc hf hgl
    exact relPure hρ (.bool false) (by simp [go_sem, hc, hf, hgl, ↓IntWalk.iteOmega, a22, a24, *]) rfl
  · refine relStep_plain rfl ?_
    intro Ac w5 hp
    have hb := hp.bel
    have a25 : Ac.eval (.tmp 25) = .bool false := hp.dep 5 (by kernel_rfl)
    have hc := evalC Ac; have hf := evalF Ac; have hgl := evalG Ac
    obtain ⟨ρ, hρ⟩ : ∃ ρ, Ac.eval = ρ := ⟨_, rfl⟩
    rw [hρ] at a25 hc hf hgl
    exact relPure hρ (.bool false) (by simp [go_sem, hc, hf, hgl, ↓IntWalk.iteOmega, a25, *]) rfl
  · refine relStep_guard (g := 6) (b := false) (x := false) rfl (by kernel_rfl) rfl (by kernel_rfl) rfl (fun _ _ h => h) ?_
    intro Ac w5 hp
    have hb := hp.bel
    have a2 : Ac.eval (.tmp 2) = .pointer (some ⟨w.heap.size, 0, none⟩) := hp.out 2 (by rfl)
    have zz := HK4.out.below hb HK4.out.lt
    have z0 : w5.cell? ⟨w.heap.size, 0, none⟩ = some (.int .i64 k) := zz.cell 0
    have z1 : w5.cell? ⟨w.heap.size, 1, none⟩ = some (.int .u32 (p : Int)) := zz.cell 1
    have z2 : w5.cell? ⟨w.heap.size, 2, none⟩ = some (.int .i64 nn) := zz.cell 2
    have z3 : w5.cell? ⟨w.heap.size, 3, none⟩ = some (.slice A1 n1 c1) := zz.cell 3
    have z4 : w5.cell? ⟨w.heap.size, 4, none⟩ = some (.string (str tx)) := zz.cell 4
    have z5 : w5.cell? ⟨w.heap.size, 5, none⟩ = some (.int .u32 (oa : Int)) := zz.cell 5
    have z6 : w5.cell? ⟨w.heap.size, 6, none⟩ = some (.int .i64 oh) := zz.cell 6
    have z7 : w5.cell? ⟨w.heap.size, 7, none⟩ = some (.int .u32 (oi : Int)) := zz.cell 7
    have z8 : w5.cell? ⟨w.heap.size, 8, none⟩ = some (.bool fo) := zz.cell 8
    clear zz
    have hc := evalC Ac; have hf := evalF Ac; have hgl := evalG Ac
    obtain ⟨ρ, hρ⟩ : ∃ ρ, Ac.eval = ρ := ⟨_, rfl⟩
    rw [hρ] at a2 hc hf hgl
    exact relPure hρ (.agg #[.int .i64 k, .int .u32 (p : Int), .int .i64 nn, .slice A1 n1 c1, .string (str tx), .int .u32 (oa : Int), .int .i64 oh, .int .u32 (oi : Int), .bool fo]) (by simp [go_sem, hc, hf, hgl, ↓IntWalk.iteOmega, a2, *]) rfl
  · refine relStep_guard (g := 6) (b := false) (x := false) rfl (by kernel_rfl) rfl (by kernel_rfl) rfl (fun _ _ h => h) ?_
    intro Ac w5 hp
    have hb := hp.bel
    have a27 : Ac.eval (.tmp 27) = .agg #[.int .i64 k, .int .u32 (p : Int), .int .i64 nn, .slice A1 n1 c1, .string (str tx), .int .u32 (oa : Int), .int .i64 oh, .int .u32 (oi : Int), .bool fo] := hp.dep 7 (by kernel_rfl)
    have hc := evalC Ac; have hf := evalF Ac; have hgl := evalG Ac
    obtain ⟨ρ, hρ⟩ : ∃ ρ, Ac.eval = ρ := ⟨_, rfl⟩
    rw [hρ] at a27 hc hf hgl
    refine relCall hρ 18 #[.agg #[.int .i64 k, .int .u32 (p : Int), .int .i64 nn, .slice A1 n1 c1, .string (str tx), .int .u32 (oa : Int), .int .i64 oh, .int .u32 (oi : Int), .bool fo]] (by simp [go_sem, hc, hf, hgl, ↓IntWalk.iteOmega, a27, *]) ?_
    refine (smove_any ⟨k, p, nn, bx, tx, oa, oh, oi, fo⟩ A1 n1 c1 w5 (HLx.out.below byMono hb) HTx.out).mono ?_
    intro e w6 hmv
    unfold MvCutP at hmv
    rw [HCxx.out] at hmv
    obtain ⟨A6, n6, q6, rfl, hn6, ho6, hb6⟩ := hmv
    exact ⟨_, rfl, ⟨A6, n6, q6, rfl, hn6, by_lst2 hn6 ho6⟩, hb6⟩
  · refine relStep_guard (g := 6) (b := false) (x := false) rfl (by kernel_rfl) rfl (by kernel_rfl) rfl (fun _ _ h => h) ?_
    intro Ac w5 hp
    have hb := hp.bel
    have a3 : Ac.eval (.tmp 3) = .pointer (some ⟨w.heap.size + 1, 0, none⟩) := hp.out 3 (by rfl)
    have zz := HKz4.out.below hb HKz4.out.lt
    have z0 : w5.cell? ⟨w.heap.size + 1, 0, none⟩ = some (.int .i64 kz) := zz.cell 0
    have z1 : w5.cell? ⟨w.heap.size + 1, 1, none⟩ = some (.int .u32 (pz : Int)) := zz.cell 1
    have z2 : w5.cell? ⟨w.heap.size + 1, 2, none⟩ = some (.int .i64 nz) := zz.cell 2
    have z3 : w5.cell? ⟨w.heap.size + 1, 3, none⟩ = some (.slice A2 n2 c2) := zz.cell 3
    have z4 : w5.cell? ⟨w.heap.size + 1, 4, none⟩ = some (.string (str tz)) := zz.cell 4
    have z5 : w5.cell? ⟨w.heap.size + 1, 5, none⟩ = some (.int .u32 (oaz : Int)) := zz.cell 5
    have z6 : w5.cell? ⟨w.heap.size + 1, 6, none⟩ = some (.int .i64 ohz) := zz.cell 6
    have z7 : w5.cell? ⟨w.heap.size + 1, 7, none⟩ = some (.int .u32 (oiz : Int)) := zz.cell 7
    have z8 : w5.cell? ⟨w.heap.size + 1, 8, none⟩ = some (.bool foz) := zz.cell 8
    clear zz
    have hc := evalC Ac; have hf := evalF Ac; have hgl := evalG Ac
    obtain ⟨ρ, hρ⟩ : ∃ ρ, Ac.eval = ρ := ⟨_, rfl⟩
    rw [hρ] at a3 hc hf hgl
    exact relPure hρ (.agg #[.int .i64 kz, .int .u32 (pz : Int), .int .i64 nz, .slice A2 n2 c2, .string (str tz), .int .u32 (oaz : Int), .int .i64 ohz, .int .u32 (oiz : Int), .bool foz]) (by simp [go_sem, hc, hf, hgl, ↓IntWalk.iteOmega, a3, *]) rfl
  · refine relStep_guard (g := 6) (b := false) (x := false) rfl (by kernel_rfl) rfl (by kernel_rfl) rfl (fun _ _ h => h) ?_
    intro Ac w5 hp
    have hb := hp.bel
    have a29 : Ac.eval (.tmp 29) = .agg #[.int .i64 kz, .int .u32 (pz : Int), .int .i64 nz, .slice A2 n2 c2, .string (str tz), .int .u32 (oaz : Int), .int .i64 ohz, .int .u32 (oiz : Int), .bool foz] := hp.dep 9 (by kernel_rfl)
    have hc := evalC Ac; have hf := evalF Ac; have hgl := evalG Ac
    obtain ⟨ρ, hρ⟩ : ∃ ρ, Ac.eval = ρ := ⟨_, rfl⟩
    rw [hρ] at a29 hc hf hgl
    refine relCall hρ 18 #[.agg #[.int .i64 kz, .int .u32 (pz : Int), .int .i64 nz, .slice A2 n2 c2, .string (str tz), .int .u32 (oaz : Int), .int .i64 ohz, .int .u32 (oiz : Int), .bool foz]] (by simp [go_sem, hc, hf, hgl, ↓IntWalk.iteOmega, a29, *]) ?_
    refine (smove_any ⟨kz, pz, nz, bz, tz, oaz, ohz, oiz, foz⟩ A2 n2 c2 w5 (HLy.out.below byMono hb) HTy.out).mono ?_
    intro e w6 hmv
    unfold MvCutP at hmv
    rw [HCzz.out] at hmv
    obtain ⟨A6, n6, q6, rfl, hn6, ho6, hb6⟩ := hmv
    exact ⟨_, rfl, ⟨A6, n6, q6, rfl, hn6, by_lst2 hn6 ho6⟩, hb6⟩
  · refine relStep_guard (g := 6) (b := false) (x := false) rfl (by kernel_rfl) rfl (by kernel_rfl) rfl (fun _ _ h => h) ?_
    intro Ac w5 hp
    have hb := hp.bel
    obtain ⟨A28, n28, c28, a28, hn28, hl28⟩ := hp.dep 8 (by kernel_rfl)
    change Ac.eval (.tmp 28) = _ at a28
    obtain ⟨A30, n30, c30, a30, hn30, hl30⟩ := hp.dep 10 (by kernel_rfl)
    change Ac.eval (.tmp 30) = _ at a30
    have hc := evalC Ac; have hf := evalF Ac; have hgl := evalG Ac
    obtain ⟨ρ, hρ⟩ : ∃ ρ, Ac.eval = ρ := ⟨_, rfl⟩
    rw [hρ] at a28 a30 hc hf hgl
    refine relCall hρ 22 #[.agg #[.int .i64 k, .int .u32 (p : Int), .int .i64 nn, .slice A28 n28 c28, .string (str tx), .int .u32 (oa : Int), .int .i64 oh, .int .u32 (oi : Int), .bool fo], .agg #[.int .i64 kz, .int .u32 (pz : Int), .int .i64 nz, .slice A30 n30 c30, .string (str tz), .int .u32 (oaz : Int), .int .i64 ohz, .int .u32 (oiz : Int), .bool foz]] (by simp [go_sem, hc, hf, hgl, ↓IntWalk.iteOmega, a28, a30, *]) ?_
    refine (ssame_any ⟨k, p, nn, bx, tx, oa, oh, oi, fo⟩ ⟨kz, pz, nz, bz, tz, oaz, ohz, oiz, foz⟩ A28 A30 n28 c28 n30 c30 w5 hl28 hl30 (by have := HBl.out; omega) (by have := HBz.out; omega)).mono ?_
    rintro e w6 ⟨rfl, hb6⟩
    exact ⟨_, rfl, by rw [HE.out]; rfl, hb6⟩
  · refine relStep_guard (g := 6) (b := false) (x := false) rfl (by kernel_rfl) rfl (by kernel_rfl) rfl (fun _ _ h => h) ?_
    intro Ac w5 hp
    have hb := hp.bel
    have a2 : Ac.eval (.tmp 2) = .pointer (some ⟨w.heap.size, 0, none⟩) := hp.out 2 (by rfl)
    have zz := HK4.out.below hb HK4.out.lt
    have z0 : w5.cell? ⟨w.heap.size, 0, none⟩ = some (.int .i64 k) := zz.cell 0
    have z1 : w5.cell? ⟨w.heap.size, 1, none⟩ = some (.int .u32 (p : Int)) := zz.cell 1
    have z2 : w5.cell? ⟨w.heap.size, 2, none⟩ = some (.int .i64 nn) := zz.cell 2
    have z3 : w5.cell? ⟨w.heap.size, 3, none⟩ = some (.slice A1 n1 c1) := zz.cell 3
    have z4 : w5.cell? ⟨w.heap.size, 4, none⟩ = some (.string (str tx)) := zz.cell 4
    have z5 : w5.cell? ⟨w.heap.size, 5, none⟩ = some (.int .u32 (oa : Int)) := zz.cell 5
    have z6 : w5.cell? ⟨w.heap.size, 6, none⟩ = some (.int .i64 oh) := zz.cell 6
    have z7 : w5.cell? ⟨w.heap.size, 7, none⟩ = some (.int .u32 (oi : Int)) := zz.cell 7
    have z8 : w5.cell? ⟨w.heap.size, 8, none⟩ = some (.bool fo) := zz.cell 8
    clear zz
    have hc := evalC Ac; have hf := evalF Ac; have hgl := evalG Ac
    obtain ⟨ρ, hρ⟩ : ∃ ρ, Ac.eval = ρ := ⟨_, rfl⟩
    rw [hρ] at a2 hc hf hgl
    exact relPure hρ (.agg #[.int .i64 k, .int .u32 (p : Int), .int .i64 nn, .slice A1 n1 c1, .string (str tx), .int .u32 (oa : Int), .int .i64 oh, .int .u32 (oi : Int), .bool fo]) (by simp [go_sem, hc, hf, hgl, ↓IntWalk.iteOmega, a2, *]) rfl
  · refine relStep_guard (g := 6) (b := false) (x := false) rfl (by kernel_rfl) rfl (by kernel_rfl) rfl (fun _ _ h => h) ?_
    intro Ac w5 hp
    have hb := hp.bel
    have a32 : Ac.eval (.tmp 32) = .agg #[.int .i64 k, .int .u32 (p : Int), .int .i64 nn, .slice A1 n1 c1, .string (str tx), .int .u32 (oa : Int), .int .i64 oh, .int .u32 (oi : Int), .bool fo] := hp.dep 12 (by kernel_rfl)
    have hc := evalC Ac; have hf := evalF Ac; have hgl := evalG Ac
    obtain ⟨ρ, hρ⟩ : ∃ ρ, Ac.eval = ρ := ⟨_, rfl⟩
    rw [hρ] at a32 hc hf hgl
    refine relCall hρ 10 #[.agg #[.int .i64 k, .int .u32 (p : Int), .int .i64 nn, .slice A1 n1 c1, .string (str tx), .int .u32 (oa : Int), .int .i64 oh, .int .u32 (oi : Int), .bool fo]] (by simp [go_sem, hc, hf, hgl, ↓IntWalk.iteOmega, a32, *]) ?_
    refine (ronly_any ⟨k, p, nn, bx, tx, oa, oh, oi, fo⟩ A1 n1 c1 w5).mono ?_
    rintro e w6 ⟨rfl, hb6⟩
    exact ⟨_, rfl, by rw [HOx.out]; rfl, hb6⟩
  · refine relStep_guard (g := 6) (b := false) (x := false) rfl (by kernel_rfl) rfl (by kernel_rfl) rfl (fun _ _ h => h) ?_
    intro Ac w5 hp
    have hb := hp.bel
    have a3 : Ac.eval (.tmp 3) = .pointer (some ⟨w.heap.size + 1, 0, none⟩) := hp.out 3 (by rfl)
    have zz := HKz4.out.below hb HKz4.out.lt
    have z0 : w5.cell? ⟨w.heap.size + 1, 0, none⟩ = some (.int .i64 kz) := zz.cell 0
    have z1 : w5.cell? ⟨w.heap.size + 1, 1, none⟩ = some (.int .u32 (pz : Int)) := zz.cell 1
    have z2 : w5.cell? ⟨w.heap.size + 1, 2, none⟩ = some (.int .i64 nz) := zz.cell 2
    have z3 : w5.cell? ⟨w.heap.size + 1, 3, none⟩ = some (.slice A2 n2 c2) := zz.cell 3
    have z4 : w5.cell? ⟨w.heap.size + 1, 4, none⟩ = some (.string (str tz)) := zz.cell 4
    have z5 : w5.cell? ⟨w.heap.size + 1, 5, none⟩ = some (.int .u32 (oaz : Int)) := zz.cell 5
    have z6 : w5.cell? ⟨w.heap.size + 1, 6, none⟩ = some (.int .i64 ohz) := zz.cell 6
    have z7 : w5.cell? ⟨w.heap.size + 1, 7, none⟩ = some (.int .u32 (oiz : Int)) := zz.cell 7
    have z8 : w5.cell? ⟨w.heap.size + 1, 8, none⟩ = some (.bool foz) := zz.cell 8
    clear zz
    have hc := evalC Ac; have hf := evalF Ac; have hgl := evalG Ac
    obtain ⟨ρ, hρ⟩ : ∃ ρ, Ac.eval = ρ := ⟨_, rfl⟩
    rw [hρ] at a3 hc hf hgl
    exact relPure hρ (.agg #[.int .i64 kz, .int .u32 (pz : Int), .int .i64 nz, .slice A2 n2 c2, .string (str tz), .int .u32 (oaz : Int), .int .i64 ohz, .int .u32 (oiz : Int), .bool foz]) (by simp [go_sem, hc, hf, hgl, ↓IntWalk.iteOmega, a3, *]) rfl
  · refine relStep_guard (g := 6) (b := false) (x := false) rfl (by kernel_rfl) rfl (by kernel_rfl) rfl (fun _ _ h => h) ?_
    intro Ac w5 hp
    have hb := hp.bel
    have a34 : Ac.eval (.tmp 34) = .agg #[.int .i64 kz, .int .u32 (pz : Int), .int .i64 nz, .slice A2 n2 c2, .string (str tz), .int .u32 (oaz : Int), .int .i64 ohz, .int .u32 (oiz : Int), .bool foz] := hp.dep 14 (by kernel_rfl)
    have hc := evalC Ac; have hf := evalF Ac; have hgl := evalG Ac
    obtain ⟨ρ, hρ⟩ : ∃ ρ, Ac.eval = ρ := ⟨_, rfl⟩
    rw [hρ] at a34 hc hf hgl
    refine relCall hρ 10 #[.agg #[.int .i64 kz, .int .u32 (pz : Int), .int .i64 nz, .slice A2 n2 c2, .string (str tz), .int .u32 (oaz : Int), .int .i64 ohz, .int .u32 (oiz : Int), .bool foz]] (by simp [go_sem, hc, hf, hgl, ↓IntWalk.iteOmega, a34, *]) ?_
    refine (ronly_any ⟨kz, pz, nz, bz, tz, oaz, ohz, oiz, foz⟩ A2 n2 c2 w5).mono ?_
    rintro e w6 ⟨rfl, hb6⟩
    exact ⟨_, rfl, by rw [HOz.out]; rfl, hb6⟩
  · refine relStep_guard (g := 6) (b := false) (x := false) rfl (by kernel_rfl) rfl (by kernel_rfl) rfl (fun _ _ h => h) ?_
    intro Ac w5 hp
    have hb := hp.bel
    have a33 : Ac.eval (.tmp 33) = .agg #[.int .i64 ko, .int .u32 (po : Int), .int .i64 no, .slice Ao no_ co, .string (str tO), .int .u32 (oao : Int), .int .i64 oho, .int .u32 (oio : Int), .bool foo] := hp.dep 13 (by kernel_rfl)
    have a35 : Ac.eval (.tmp 35) = .agg #[.int .i64 kq, .int .u32 (pq : Int), .int .i64 nq, .slice Aq nq_ cq, .string (str tq), .int .u32 (oaq : Int), .int .i64 ohq, .int .u32 (oiq : Int), .bool foq] := hp.dep 15 (by kernel_rfl)
    have hc := evalC Ac; have hf := evalF Ac; have hgl := evalG Ac
    obtain ⟨ρ, hρ⟩ : ∃ ρ, Ac.eval = ρ := ⟨_, rfl⟩
    rw [hρ] at a33 a35 hc hf hgl
    refine relCall hρ 9 #[.agg #[.int .i64 ko, .int .u32 (po : Int), .int .i64 no, .slice Ao no_ co, .string (str tO), .int .u32 (oao : Int), .int .i64 oho, .int .u32 (oio : Int), .bool foo], .agg #[.int .i64 kq, .int .u32 (pq : Int), .int .i64 nq, .slice Aq nq_ cq, .string (str tq), .int .u32 (oaq : Int), .int .i64 ohq, .int .u32 (oiq : Int), .bool foq]] (by simp [go_sem, hc, hf, hgl, ↓IntWalk.iteOmega, a33, a35, *]) ?_
    refine (rsame_any ⟨ko, po, no, bo, tO, oao, oho, oio, foo⟩ ⟨kq, pq, nq, bq, tq, oaq, ohq, oiq, foq⟩ Ao Aq no_ co nq_ cq w5 (HLo.out.below byMono hb) (HLq.out.below byMono hb)).mono ?_
    rintro e w6 ⟨rfl, hb6⟩
    exact ⟨_, rfl, by rw [HE2.out]; rfl, hb6⟩
  · refine relStep_guard (g := 6) (b := false) (x := false) rfl (by kernel_rfl) rfl (by kernel_rfl) rfl (fun _ _ h => h) ?_
    intro Ac w5 hp
    have hb := hp.bel
    have a31 : Ac.eval (.tmp 31) = .bool E := hp.dep 11 (by kernel_rfl)
    have a36 : Ac.eval (.tmp 36) = .bool E := hp.dep 16 (by kernel_rfl)
    have hc := evalC Ac; have hf := evalF Ac; have hgl := evalG Ac
    obtain ⟨ρ, hρ⟩ : ∃ ρ, Ac.eval = ρ := ⟨_, rfl⟩
    rw [hρ] at a31 a36 hc hf hgl
    exact relPure hρ (.bool false) (by simp [go_sem, hc, hf, hgl, ↓IntWalk.iteOmega, a31, a36, *]) rfl
  · refine relStep_plain rfl ?_
    intro Ac w5 hp
    have hb := hp.bel
    have a26 : Ac.eval (.tmp 26) = .bool false := hp.dep 6 (by kernel_rfl)
    have a37 : Ac.eval (.tmp 37) = .bool false := hp.dep 17 (by kernel_rfl)
    have hc := evalC Ac; have hf := evalF Ac; have hgl := evalG Ac
    obtain ⟨ρ, hρ⟩ : ∃ ρ, Ac.eval = ρ := ⟨_, rfl⟩
    rw [hρ] at a26 a37 hc hf hgl
    exact relPure hρ (.bool false) (by simp [go_sem, hc, hf, hgl, ↓IntWalk.iteOmega, a26, a37, *]) rfl
  · refine relStep_plain rfl ?_
    intro Ac w5 hp
    have hb := hp.bel
    have a38 : Ac.eval (.tmp 38) = .bool false := hp.dep 18 (by kernel_rfl)
    have hc := evalC Ac; have hf := evalF Ac; have hgl := evalG Ac
    obtain ⟨ρ, hρ⟩ : ∃ ρ, Ac.eval = ρ := ⟨_, rfl⟩
    rw [hρ] at a38 hc hf hgl
    exact relPure hρ (.bool false) (by simp [go_sem, hc, hf, hgl, ↓IntWalk.iteOmega, a38, *]) rfl
  · refine relStep_guard (g := 19) (b := false) (x := false) rfl (by kernel_rfl) rfl (by kernel_rfl) rfl (fun _ _ h => h) ?_
    intro Ac w5 hp
    have hb := hp.bel
    have a2 : Ac.eval (.tmp 2) = .pointer (some ⟨w.heap.size, 0, none⟩) := hp.out 2 (by rfl)
    have hc := evalC Ac; have hf := evalF Ac; have hgl := evalG Ac
    obtain ⟨ρ, hρ⟩ : ∃ ρ, Ac.eval = ρ := ⟨_, rfl⟩
    rw [hρ] at a2 hc hf hgl
    exact relPure hρ (.pointer (some ⟨w.heap.size, 3, none⟩)) (by simp [go_sem, hc, hf, hgl, ↓IntWalk.iteOmega, a2, *]) rfl
  · refine relStep_guard (g := 19) (b := false) (x := false) rfl (by kernel_rfl) rfl (by kernel_rfl) rfl (fun _ _ h => h) ?_
    intro Ac w5 hp
    have hb := hp.bel
    have a40 : Ac.eval (.tmp 40) = .pointer (some ⟨w.heap.size, 3, none⟩) := hp.dep 20 (by kernel_rfl)
    have zz := HK4.out.below hb HK4.out.lt
    have z3 : w5.cell? ⟨w.heap.size, 3, none⟩ = some (.slice A1 n1 c1) := zz.cell 3
    clear zz
    have hc := evalC Ac; have hf := evalF Ac; have hgl := evalG Ac
    obtain ⟨ρ, hρ⟩ : ∃ ρ, Ac.eval = ρ := ⟨_, rfl⟩
    rw [hρ] at a40 hc hf hgl
    exact relPure hρ (.slice A1 n1 c1) (by simp [go_sem, hc, hf, hgl, ↓IntWalk.iteOmega, a40, *]) rfl
  · refine relStep_guard (g := 19) (b := false) (x := false) rfl (by kernel_rfl) rfl (by kernel_rfl) rfl (fun _ _ h => h) ?_
    intro Ac w5 hp
    have hb := hp.bel
    have a41 : Ac.eval (.tmp 41) = .slice A1 n1 c1 := hp.dep 21 (by kernel_rfl)
    have hc := evalC Ac; have hf := evalF Ac; have hgl := evalG Ac
    obtain ⟨ρ, hρ⟩ : ∃ ρ, Ac.eval = ρ := ⟨_, rfl⟩
    rw [hρ] at a41 hc hf hgl
    refine relCall hρ 14 #[.slice A1 n1 c1, .int .i64 600] (by simp [go_sem, hc, hf, hgl, ↓IntWalk.iteOmega, a41, *]) ?_
    refine (lawBytes_any A1 n1 c1 bx 600 (by decide) w5 (HLx.out.below byMono hb)).mono ?_
    intro e w6 hmv
    unfold BytesP at hmv
    rw [HTk.out] at hmv
    obtain ⟨A6, n6, q6, rfl, hn6, ho6, hb6⟩ := hmv
    exact ⟨_, rfl, ⟨A6, n6, q6, rfl, hn6, by_lst2 hn6 ho6⟩, hb6⟩
  · refine relStep_guard (g := 19) (b := false) (x := false) rfl (by kernel_rfl) rfl (by kernel_rfl) rfl (fun _ _ h => h) ?_
    intro Ac w5 hp
    have hb := hp.bel
    obtain ⟨A42, n42, c42, a42, hn42, hl42⟩ := hp.dep 22 (by kernel_rfl)
    change Ac.eval (.tmp 42) = _ at a42
    have hc := evalC Ac; have hf := evalF Ac; have hgl := evalG Ac
    obtain ⟨ρ, hρ⟩ : ∃ ρ, Ac.eval = ρ := ⟨_, rfl⟩
    rw [hρ] at a42 hc hf hgl
    refine relCall hρ 17 #[.slice A42 n42 c42] (by simp [go_sem, hc, hf, hgl, ↓IntWalk.iteOmega, a42, *]) ?_
    refine (sHex_any A42 n42 c42 bx w5 hl42 (by have := HBl.out; omega)).mono ?_
    rintro e w6 ⟨rfl, hb6⟩
    exact ⟨_, rfl, by rw [HS.out]; rfl, hb6⟩
  · refine relStep_guard (g := 19) (b := false) (x := false) rfl (by kernel_rfl) rfl (by kernel_rfl) rfl (fun _ _ h => h) ?_
    intro Ac w5 hp
    have hb := hp.bel
    have a2 : Ac.eval (.tmp 2) = .pointer (some ⟨w.heap.size, 0, none⟩) := hp.out 2 (by rfl)
    have hc := evalC Ac; have hf := evalF Ac; have hgl := evalG Ac
    obtain ⟨ρ, hρ⟩ : ∃ ρ, Ac.eval = ρ := ⟨_, rfl⟩
    rw [hρ] at a2 hc hf hgl
    exact relPure hρ (.pointer (some ⟨w.heap.size, 3, none⟩)) (by simp [go_sem, hc, hf, hgl, ↓IntWalk.iteOmega, a2, *]) rfl
  · refine relStep_guard (g := 19) (b := false) (x := false) rfl (by kernel_rfl) rfl (by kernel_rfl) rfl (fun _ _ h => h) ?_
    intro Ac w5 hp
    have hb := hp.bel
    have a44 : Ac.eval (.tmp 44) = .pointer (some ⟨w.heap.size, 3, none⟩) := hp.dep 24 (by kernel_rfl)
    have zz := HK4.out.below hb HK4.out.lt
    have z3 : w5.cell? ⟨w.heap.size, 3, none⟩ = some (.slice A1 n1 c1) := zz.cell 3
    clear zz
    have hc := evalC Ac; have hf := evalF Ac; have hgl := evalG Ac
    obtain ⟨ρ, hρ⟩ : ∃ ρ, Ac.eval = ρ := ⟨_, rfl⟩
    rw [hρ] at a44 hc hf hgl
    exact relPure hρ (.slice A1 n1 c1) (by simp [go_sem, hc, hf, hgl, ↓IntWalk.iteOmega, a44, *]) rfl
  · refine relStep_guard (g := 19) (b := false) (x := false) rfl (by kernel_rfl) rfl (by kernel_rfl) rfl (fun _ _ h => h) ?_
    intro Ac w5 hp
    have hb := hp.bel
    have a45 : Ac.eval (.tmp 45) = .slice A1 n1 c1 := hp.dep 25 (by kernel_rfl)
    have hc := evalC Ac; have hf := evalF Ac; have hgl := evalG Ac
    obtain ⟨ρ, hρ⟩ : ∃ ρ, Ac.eval = ρ := ⟨_, rfl⟩
    rw [hρ] at a45 hc hf hgl
    refine relCall hρ 16 #[.slice A1 n1 c1] (by simp [go_sem, hc, hf, hgl, ↓IntWalk.iteOmega, a45, *]) ?_
    refine (rhex_any A1 n1 c1 bx w5 (HLx.out.below byMono hb) (by have := HBl.out; have := HLx.out.1; omega)).mono ?_
    rintro e w6 ⟨rfl, hb6⟩
    exact ⟨_, rfl, by rw [HS.out]; rfl, hb6⟩
  · refine relStep_guard (g := 19) (b := false) (x := false) rfl (by kernel_rfl) rfl (by kernel_rfl) rfl (fun _ _ h => h) ?_
    intro Ac w5 hp
    have hb := hp.bel
    have a43 : Ac.eval (.tmp 43) = .string SH := hp.dep 23 (by kernel_rfl)
    have a46 : Ac.eval (.tmp 46) = .string SH := hp.dep 26 (by kernel_rfl)
    have hc := evalC Ac; have hf := evalF Ac; have hgl := evalG Ac
    obtain ⟨ρ, hρ⟩ : ∃ ρ, Ac.eval = ρ := ⟨_, rfl⟩
    rw [hρ] at a43 a46 hc hf hgl
    exact relPure hρ (.bool false) (by simp [go_sem, hc, hf, hgl, ↓IntWalk.iteOmega, a43, a46, *]) rfl
  · refine relStep_plain rfl ?_
    intro Ac w5 hp
    have hb := hp.bel
    have a39 : Ac.eval (.tmp 39) = .bool false := hp.dep 19 (by kernel_rfl)
    have a47 : Ac.eval (.tmp 47) = .bool false := hp.dep 27 (by kernel_rfl)
    have hc := evalC Ac; have hf := evalF Ac; have hgl := evalG Ac
    obtain ⟨ρ, hρ⟩ : ∃ ρ, Ac.eval = ρ := ⟨_, rfl⟩
    rw [hρ] at a39 a47 hc hf hgl
    exact relPure hρ (.bool false) (by simp [go_sem, hc, hf, hgl, ↓IntWalk.iteOmega, a39, a47, *]) rfl
  intro u w8 hb7 hall
  have e48 : u 28 = .bool false := relAll_at hall (i := 28) (by decide +kernel)
  clear hall
  simp only [List.drop_succ_cons, List.drop_zero, List.take_succ_cons, List.take_zero, putAll, Act.put, List.setIfInBounds_toArray, List.set_cons_zero, List.set_cons_succ, Nat.zero_add, Nat.reduceAdd, e48]
  have hs6 := HB6.out.size
  have HB7 := hide (HB6.out.trans (hb7.mono hs6))
  have HK6 := hide (HK4.out.below hb7 HK4.out.lt)
  have HLx6 := hide (HLx.out.below byMono hb7)
  have HLo6 := hide (HLo.out.below byMono hb7)
  have HRg := hide (rgood_any ⟨k, p, nn, bx, tx, oa, oh, oi, fo⟩ A1 n1 c1 w8 HLx.out.1 HTx.out)
  have hl6 := HK6.out.lt
  rcases HSH.out with ⟨hg, hn5, hx5⟩ | ⟨hg, hx5, hn5, ho5⟩
  · obtain rfl : gv = false := by rw [← HGv.out]; exact hg
    subst hn5 hx5
    clear hb7 hg hs6 HK4 HKz4 HLx HLy HLo HLq HSH HB6 HOx HOz HMM HE HE2 HS
    have k0 : w8.cell? ⟨w.heap.size, 0, none⟩ = some (.int .i64 k) := HK6.out.cell 0
    have k1 : w8.cell? ⟨w.heap.size, 1, none⟩ = some (.int .u32 (p : Int)) := HK6.out.cell 1
    have k2 : w8.cell? ⟨w.heap.size, 2, none⟩ = some (.int .i64 nn) := HK6.out.cell 2
    have k3 : w8.cell? ⟨w.heap.size, 3, none⟩ = some (.slice A1 n1 c1) := HK6.out.cell 3
    have k4 : w8.cell? ⟨w.heap.size, 4, none⟩ = some (.string (str tx)) := HK6.out.cell 4
    have k5 : w8.cell? ⟨w.heap.size, 5, none⟩ = some (.int .u32 (oa : Int)) := HK6.out.cell 5
    have k6 : w8.cell? ⟨w.heap.size, 6, none⟩ = some (.int .i64 oh) := HK6.out.cell 6
    have k7 : w8.cell? ⟨w.heap.size, 7, none⟩ = some (.int .u32 (oi : Int)) := HK6.out.cell 7
    have k8 : w8.cell? ⟨w.heap.size, 8, none⟩ = some (.bool fo) := HK6.out.cell 8
    go_wp2_with fail
    refine HRg.out.mono ?_
    rintro e w9 ⟨rfl, hb⟩
    have hs7 := HB7.out.size
    have HB9 := hide (HB7.out.trans (hb.mono hs7))
    have HLv := hide (slives_any w9 (HEn.out.below HB9.out) (HTb.out.below HB9.out))
    clear hb hs7 k0 k1 k2 k3 k4 k5 k6 k7 k8 hl6
    rw [HGv.out]
    go_wp2_with fail
    refine HLv.out.mono ?_
    rintro e w10 ⟨rfl, hb⟩
    have HB10 := hide (HB9.out.trans (hb.mono HB9.out.size))
    clear hb
    go_wp2
    go_ret
    exact ⟨rfl, HB10.out⟩
  · obtain rfl : gv = true := by rw [← HGv.out]; exact hg
    subst hx5
    have hfl := shown_feed HOk.out hg
    have HLe : Hid (∀ x ∈ shownM ⟨k, p, nn, bx, tx, oa, oh, oi, fo⟩, x.length ≤ maxLen) := hide (fun x hx => by have := feedT_mem hx; unfold maxLen; omega)
    have HS5 : Hid (StrsAt w8 A5 n5 c5 ((shownM ⟨k, p, nn, bx, tx, oa, oh, oi, fo⟩).map str)) := hide ((StrsAt.of_own ho5 HLe.out).below rfl hb7)
    have hsc := shown_cut HOk.out hg HBl.out HTl.out
    have HSc := hide hsc
    clear hb7 hs6 hn5 ho5 hfl hsc HK4 HKz4 HLx HLy HLo HLq HSH HB6 HOz HE HE2 HS
    have k0 : w8.cell? ⟨w.heap.size, 0, none⟩ = some (.int .i64 k) := HK6.out.cell 0
    have k1 : w8.cell? ⟨w.heap.size, 1, none⟩ = some (.int .u32 (p : Int)) := HK6.out.cell 1
    have k2 : w8.cell? ⟨w.heap.size, 2, none⟩ = some (.int .i64 nn) := HK6.out.cell 2
    have k3 : w8.cell? ⟨w.heap.size, 3, none⟩ = some (.slice A1 n1 c1) := HK6.out.cell 3
    have k4 : w8.cell? ⟨w.heap.size, 4, none⟩ = some (.string (str tx)) := HK6.out.cell 4
    have k5 : w8.cell? ⟨w.heap.size, 5, none⟩ = some (.int .u32 (oa : Int)) := HK6.out.cell 5
    have k6 : w8.cell? ⟨w.heap.size, 6, none⟩ = some (.int .i64 oh) := HK6.out.cell 6
    have k7 : w8.cell? ⟨w.heap.size, 7, none⟩ = some (.int .u32 (oi : Int)) := HK6.out.cell 7
    have k8 : w8.cell? ⟨w.heap.size, 8, none⟩ = some (.bool fo) := HK6.out.cell 8
    go_wp2_with fail
    refine HRg.out.mono ?_
    rintro e w9 ⟨rfl, hb⟩
    have hs7 := HB7.out.size
    have HB9 := hide (HB7.out.trans (hb.mono hs7))
    have HK9 := hide (HK6.out.below hb HK6.out.lt)
    have HLx9 := hide (HLx6.out.below byMono hb)
    have HLo9 := hide (HLo6.out.below byMono hb)
    have HS59 := hide (HS5.out.below rfl hb)
    have HTe := hide (rtext_any ⟨k, p, nn, bx, tx, oa, oh, oi, fo⟩ A1 n1 c1 w9 HLx9.out HOk.out hg)
    have HHg := hide hg
    have hl9 := HK9.out.lt
    rw [HGv.out]
    clear hb hs7 k0 k1 k2 k3 k4 k5 k6 k7 k8 hl6 hg HRg HK6 HLx6 HLo6 HS5 HB7
    have k0 : w9.cell? ⟨w.heap.size, 0, none⟩ = some (.int .i64 k) := HK9.out.cell 0
    have k1 : w9.cell? ⟨w.heap.size, 1, none⟩ = some (.int .u32 (p : Int)) := HK9.out.cell 1
    have k2 : w9.cell? ⟨w.heap.size, 2, none⟩ = some (.int .i64 nn) := HK9.out.cell 2
    have k3 : w9.cell? ⟨w.heap.size, 3, none⟩ = some (.slice A1 n1 c1) := HK9.out.cell 3
    have k4 : w9.cell? ⟨w.heap.size, 4, none⟩ = some (.string (str tx)) := HK9.out.cell 4
    have k5 : w9.cell? ⟨w.heap.size, 5, none⟩ = some (.int .u32 (oa : Int)) := HK9.out.cell 5
    have k6 : w9.cell? ⟨w.heap.size, 6, none⟩ = some (.int .i64 oh) := HK9.out.cell 6
    have k7 : w9.cell? ⟨w.heap.size, 7, none⟩ = some (.int .u32 (oi : Int)) := HK9.out.cell 7
    have k8 : w9.cell? ⟨w.heap.size, 8, none⟩ = some (.bool fo) := HK9.out.cell 8
    go_wp2_with fail
    refine HTe.out.mono ?_
    rintro e w10 ⟨rfl, hb⟩
    have hs9 := HB9.out.size
    have HB10 := hide (HB9.out.trans (hb.mono hs9))
    have HK10 := hide (HK9.out.below hb HK9.out.lt)
    have HLx10 := hide (HLx9.out.below byMono hb)
    have HLo10 := hide (HLo9.out.below byMono hb)
    have HS510 := hide (HS59.out.below rfl hb)
    have htx : textsM [⟨k, p, nn, bx, tx, oa, oh, oi, fo⟩] = feedT (shownM ⟨k, p, nn, bx, tx, oa, oh, oi, fo⟩) := by simp [textsM]
    have HRd := hide (sread_any (textsM [⟨k, p, nn, bx, tx, oa, oh, oi, fo⟩]) (by rw [htx]; have := HSc.out; omega) w10 (HEn.out.below HB10.out) (HTb.out.below HB10.out))
    rw [← htx]
    obtain ⟨TT, hTT⟩ : ∃ TT, str (textsM [⟨k, p, nn, bx, tx, oa, oh, oi, fo⟩]) = TT := ⟨_, rfl⟩
    rw [hTT] at HRd ⊢
    clear hb hs9 htx hTT k0 k1 k2 k3 k4 k5 k6 k7 k8 hl9 HTe HK9 HLx9 HLo9 HS59 HB9
    go_wp2_with fail
    refine HRd.out.mono ?_
    rintro e w11 ⟨hr, hb⟩
    have hs10 := HB10.out.size
    have HB11 := hide (HB10.out.trans (hb.mono hs10))
    have HK7 := hide (HK10.out.below hb HK10.out.lt)
    have HLx7 := hide (HLx10.out.below byMono hb)
    have HLo7 := hide (HLo10.out.below byMono hb)
    have HS5 := hide (HS510.out.below rfl hb)
    have HEn7 := hide (HEn.out.below HB11.out)
    have HTb7 := hide (HTb.out.below HB11.out)
    clear hb hs10
    rcases read_moves (ms := [⟨k, p, nn, bx, tx, oa, oh, oi, fo⟩]) (fun m hm => by rw [List.mem_singleton.1 hm]; exact ⟨HHg.out, HOk.out⟩) hr with ⟨_, A7, n7, c7, rfl, hn7, hl7⟩ | ⟨h5, _⟩
    · obtain rfl : 1 = n7 := hn7
      have hnc7 := hl7.2.1
      obtain ⟨g, o, M, vs, rfl, hg, hx, _, ⟨A9, n9, c9, rfl, hby⟩, hc⟩ := hl7.at_ (k := 0) (by decide)
      have hM : M = ⟨ko, po, no, bo, tO, oao, oho, oio, foo⟩ := by rw [← HMM.out]; simpa using hx.symm
      subst hM
      have HL9 : Hid (LstAt 1 byR w11 A9 n9 c9 bo) := hide hby
      obtain ⟨L, hL⟩ : ∃ L, shownM ⟨k, p, nn, bx, tx, oa, oh, oi, fo⟩ = L := ⟨_, rfl⟩
      rw [hL] at HS5 HLe
      have HSL := hide hL
      have HY0 : Hid (w11.cell? ⟨g, o, none⟩ = some (.int .i64 ko)) := hide (by simpa using hc 0 _ rfl)
      have HY1 : Hid (w11.cell? ⟨g, o + 1, none⟩ = some (.int .u32 (po : Int))) := hide (by simpa using hc 1 _ rfl)
      have HY2 : Hid (w11.cell? ⟨g, o + 2, none⟩ = some (.int .i64 no)) := hide (by simpa using hc 2 _ rfl)
      have HY3 : Hid (w11.cell? ⟨g, o + 3, none⟩ = some (.slice A9 n9 c9)) := hide (by simpa using hc 3 _ rfl)
      have HY4 : Hid (w11.cell? ⟨g, o + 4, none⟩ = some (.string (str tO))) := hide (by simpa using hc 4 _ rfl)
      have HY5 : Hid (w11.cell? ⟨g, o + 5, none⟩ = some (.int .u32 (oao : Int))) := hide (by simpa using hc 5 _ rfl)
      have HY6 : Hid (w11.cell? ⟨g, o + 6, none⟩ = some (.int .i64 oho)) := hide (by simpa using hc 6 _ rfl)
      have HY7 : Hid (w11.cell? ⟨g, o + 7, none⟩ = some (.int .u32 (oio : Int))) := hide (by simpa using hc 7 _ rfl)
      have HY8 : Hid (w11.cell? ⟨g, o + 8, none⟩ = some (.bool foo)) := hide (by simpa using hc 8 _ rfl)
      clear hr hl7 hx hby hc hL HK10 HLx10 HLo10 HS510 HRd HB10 HSc
      go_wp2
      have Hmn := hide (show AllMono [(fun v _ => v = .int .i64 0), (fun v _ => v = .bool true), (fun v _ => v = .bool true), (fun v _ => v = Value.slice A5 n5 c5), (fun v _ => v = .agg #[.int .i64 k, .int .u32 (p : Int), .int .i64 nn, Value.slice A1 n1 c1, .string (str tx), .int .u32 (oa : Int), .int .i64 oh, .int .u32 (oi : Int), .bool fo]), (fun v W => ∃ A n c, v = Value.slice A n c ∧ StrsAt W A n c (L.map str)), (fun v _ => v = .bool true), (fun v _ => v = .bool true), (fun v _ => v = .bool true), (fun v _ => v = .int .i64 0), (fun v _ => v = .bool true), (fun v _ => v = .bool true), (fun v _ => v = .bool true), (fun v _ => v = .int .i64 0), (fun v _ => v = .bool true), (fun v _ => v = .bool true), (fun v _ => v = .bool true), (fun v _ => v = Value.slice (some ⟨g, o, none⟩) 1 c7), (fun v _ => v = .int .i64 1), (fun v _ => v = .bool true), (fun v _ => v = .bool true), (fun v _ => v = .bool true), (fun v _ => v = Value.slice (some ⟨g, o, none⟩) 1 c7), (fun v _ => v = .pointer (some ⟨g, o, none⟩)), (fun v _ => v = .agg #[.int .i64 ko, .int .u32 (po : Int), .int .i64 no, Value.slice A9 n9 c9, .string (str tO), .int .u32 (oao : Int), .int .i64 oho, .int .u32 (oio : Int), .bool foo]), (fun v _ => v = .agg #[.int .i64 k, .int .u32 (p : Int), .int .i64 nn, Value.slice A1 n1 c1, .string (str tx), .int .u32 (oa : Int), .int .i64 oh, .int .u32 (oi : Int), .bool fo]), (fun v _ => v = .agg #[.int .i64 ko, .int .u32 (po : Int), .int .i64 no, Value.slice Ao no_ co, .string (str tO), .int .u32 (oao : Int), .int .i64 oho, .int .u32 (oio : Int), .bool foo]), (fun v _ => v = .bool true), (fun v _ => v = .bool true), (fun v _ => v = .bool true), (fun v _ => v = .bool true), (fun v _ => v = .bool true), (fun v _ => v = .bool true)] from ⟨fun _ _ _ _ h => h, fun _ _ _ _ h => h, fun _ _ _ _ h => h, fun _ _ _ _ h => h, fun _ _ _ _ h => h, fun v W W2 hb ⟨A, n, c, e, h1⟩ => ⟨A, n, c, e, h1.below rfl hb⟩, fun _ _ _ _ h => h, fun _ _ _ _ h => h, fun _ _ _ _ h => h, fun _ _ _ _ h => h, fun _ _ _ _ h => h, fun _ _ _ _ h => h, fun _ _ _ _ h => h, fun _ _ _ _ h => h, fun _ _ _ _ h => h, fun _ _ _ _ h => h, fun _ _ _ _ h => h, fun _ _ _ _ h => h, fun _ _ _ _ h => h, fun _ _ _ _ h => h, fun _ _ _ _ h => h, fun _ _ _ _ h => h, fun _ _ _ _ h => h, fun _ _ _ _ h => h, fun _ _ _ _ h => h, fun _ _ _ _ h => h, fun _ _ _ _ h => h, fun _ _ _ _ h => h, fun _ _ _ _ h => h, fun _ _ _ _ h => h, fun _ _ _ _ h => h, fun _ _ _ _ h => h, fun _ _ _ _ h => h, trivial⟩)
      refine wp_region_rel _ (by kernel_rfl) (by kernel_rfl) (relMono _ Hmn.out) ⟨?_, ?_, ?_, ?_, ?_, ?_, ?_, ?_, ?_, ?_, ?_, ?_, ?_, ?_, ?_, ?_, ?_, ?_, ?_, ?_, ?_, ?_, ?_, ?_, ?_, ?_, ?_, ?_, ?_, ?_, ?_, ?_, ?_, trivial⟩ ?_
      · refine relStep_plain rfl ?_
        intro Ac w5 hp
        have hb := hp.bel
        have a6 : Ac.eval (.tmp 6) = .int .i64 0 := hp.out 6 (by rfl)
        have hc := evalC Ac; have hf := evalF Ac; have hgl := evalG Ac
        obtain ⟨ρ, hρ⟩ : ∃ ρ, Ac.eval = ρ := ⟨_, rfl⟩
        rw [hρ] at a6 hc hf hgl
        exact relPure hρ (.int .i64 0) (by simp [go_sem, hc, hf, hgl, ↓IntWalk.iteOmega, a6, *]) rfl
      · refine relStep_plain rfl ?_
        intro Ac w5 hp
        have hb := hp.bel
        have a69 : Ac.eval (.tmp 69) = .int .i64 0 := hp.dep 0 (by kernel_rfl)
        have hc := evalC Ac; have hf := evalF Ac; have hgl := evalG Ac
        obtain ⟨ρ, hρ⟩ : ∃ ρ, Ac.eval = ρ := ⟨_, rfl⟩
        rw [hρ] at a69 hc hf hgl
        exact relPure hρ (.bool true) (by simp [go_sem, hc, hf, hgl, ↓IntWalk.iteOmega, a69, *]) rfl
      · refine relStep_plain rfl ?_
        intro Ac w5 hp
        have hb := hp.bel
        have a70 : Ac.eval (.tmp 70) = .bool true := hp.dep 1 (by kernel_rfl)
        have hc := evalC Ac; have hf := evalF Ac; have hgl := evalG Ac
        obtain ⟨ρ, hρ⟩ : ∃ ρ, Ac.eval = ρ := ⟨_, rfl⟩
        rw [hρ] at a70 hc hf hgl
        exact relPure hρ (.bool true) (by simp [go_sem, hc, hf, hgl, ↓IntWalk.iteOmega, a70, *]) rfl
      · refine relStep_guard (g := 2) (b := true) (x := true) rfl (by kernel_rfl) rfl (by kernel_rfl) rfl (fun _ _ h => h) ?_
        intro Ac w5 hp
        have hb := hp.bel
        have a5 : Ac.eval (.tmp 5) = Value.slice A5 n5 c5 := hp.out 5 (by rfl)
        have hc := evalC Ac; have hf := evalF Ac; have hgl := evalG Ac
        obtain ⟨ρ, hρ⟩ : ∃ ρ, Ac.eval = ρ := ⟨_, rfl⟩
        rw [hρ] at a5 hc hf hgl
        exact relPure hρ (Value.slice A5 n5 c5) (by simp [go_sem, hc, hf, hgl, ↓IntWalk.iteOmega, a5, *]) rfl
      · refine relStep_guard (g := 2) (b := true) (x := true) rfl (by kernel_rfl) rfl (by kernel_rfl) rfl (fun _ _ h => h) ?_
        intro Ac w5 hp
        have hb := hp.bel
        have a2 : Ac.eval (.tmp 2) = .pointer (some ⟨w.heap.size, 0, none⟩) := hp.out 2 (by rfl)
        have zz := HK7.out.below hb HK7.out.lt
        have z0 : w5.cell? ⟨w.heap.size, 0, none⟩ = some (.int .i64 k) := zz.cell 0
        have z1 : w5.cell? ⟨w.heap.size, 1, none⟩ = some (.int .u32 (p : Int)) := zz.cell 1
        have z2 : w5.cell? ⟨w.heap.size, 2, none⟩ = some (.int .i64 nn) := zz.cell 2
        have z3 : w5.cell? ⟨w.heap.size, 3, none⟩ = some (Value.slice A1 n1 c1) := zz.cell 3
        have z4 : w5.cell? ⟨w.heap.size, 4, none⟩ = some (.string (str tx)) := zz.cell 4
        have z5 : w5.cell? ⟨w.heap.size, 5, none⟩ = some (.int .u32 (oa : Int)) := zz.cell 5
        have z6 : w5.cell? ⟨w.heap.size, 6, none⟩ = some (.int .i64 oh) := zz.cell 6
        have z7 : w5.cell? ⟨w.heap.size, 7, none⟩ = some (.int .u32 (oi : Int)) := zz.cell 7
        have z8 : w5.cell? ⟨w.heap.size, 8, none⟩ = some (.bool fo) := zz.cell 8
        clear zz
        have hc := evalC Ac; have hf := evalF Ac; have hgl := evalG Ac
        obtain ⟨ρ, hρ⟩ : ∃ ρ, Ac.eval = ρ := ⟨_, rfl⟩
        rw [hρ] at a2 hc hf hgl
        exact relPure hρ (.agg #[.int .i64 k, .int .u32 (p : Int), .int .i64 nn, Value.slice A1 n1 c1, .string (str tx), .int .u32 (oa : Int), .int .i64 oh, .int .u32 (oi : Int), .bool fo]) (by simp [go_sem, hc, hf, hgl, ↓IntWalk.iteOmega, a2, *]) rfl
      · refine relStep_guard (g := 2) (b := true) (x := true) rfl (by kernel_rfl) rfl (by kernel_rfl) rfl (fun _ _ h => h) ?_
        intro Ac w5 hp
        have hb := hp.bel
        have a73 : Ac.eval (.tmp 73) = .agg #[.int .i64 k, .int .u32 (p : Int), .int .i64 nn, Value.slice A1 n1 c1, .string (str tx), .int .u32 (oa : Int), .int .i64 oh, .int .u32 (oi : Int), .bool fo] := hp.dep 4 (by kernel_rfl)
        have hc := evalC Ac; have hf := evalF Ac; have hgl := evalG Ac
        obtain ⟨ρ, hρ⟩ : ∃ ρ, Ac.eval = ρ := ⟨_, rfl⟩
        rw [hρ] at a73 hc hf hgl
        refine relCall hρ 24 #[.agg #[.int .i64 k, .int .u32 (p : Int), .int .i64 nn, Value.slice A1 n1 c1, .string (str tx), .int .u32 (oa : Int), .int .i64 oh, .int .u32 (oi : Int), .bool fo]] (by simp [go_sem, hc, hf, hgl, ↓IntWalk.iteOmega, a73, *]) ?_
        refine (rshow_any ⟨k, p, nn, bx, tx, oa, oh, oi, fo⟩ A1 n1 c1 w5 (HLx7.out.below byMono hb) HOk.out HHg.out).mono ?_
        intro e w6 hmv
        obtain ⟨A6, n6, q6, rfl, hn6, ho6, hb6⟩ := hmv
        rw [HSL.out] at ho6
        exact ⟨_, rfl, ⟨A6, n6, q6, rfl, StrsAt.of_own ho6 HLe.out⟩, hb6⟩
      · refine relStep_guard (g := 2) (b := true) (x := true) rfl (by kernel_rfl) rfl (by kernel_rfl) rfl (fun _ _ h => h) ?_
        intro Ac w5 hp
        have hb := hp.bel
        have a72 : Ac.eval (.tmp 72) = Value.slice A5 n5 c5 := hp.dep 3 (by kernel_rfl)
        obtain ⟨A74, n74, c74, a74, hs74⟩ := hp.dep 5 (by kernel_rfl)
        change Ac.eval (.tmp 74) = _ at a74
        have hc := evalC Ac; have hf := evalF Ac; have hgl := evalG Ac
        obtain ⟨ρ, hρ⟩ : ∃ ρ, Ac.eval = ρ := ⟨_, rfl⟩
        rw [hρ] at a72 a74 hc hf hgl
        refine relCall hρ 23 #[Value.slice A5 n5 c5, Value.slice A74 n74 c74] (by simp [go_sem, hc, hf, hgl, ↓IntWalk.iteOmega, a72, a74, *]) ?_
        refine (textSame_any A5 A74 n5 c5 n74 c74 (L.map str) (L.map str) w5 (HS5.out.below rfl hb) hs74).mono ?_
        rintro e w6 ⟨rfl, hb6⟩
        exact ⟨_, rfl, by rw [decide_eq_true rfl]; rfl, hb6⟩
      · refine relStep_plain rfl ?_
        intro Ac w5 hp
        have hb := hp.bel
        have a71 : Ac.eval (.tmp 71) = .bool true := hp.dep 2 (by kernel_rfl)
        have a75 : Ac.eval (.tmp 75) = .bool true := hp.dep 6 (by kernel_rfl)
        have hc := evalC Ac; have hf := evalF Ac; have hgl := evalG Ac
        obtain ⟨ρ, hρ⟩ : ∃ ρ, Ac.eval = ρ := ⟨_, rfl⟩
        rw [hρ] at a71 a75 hc hf hgl
        exact relPure hρ (.bool true) (by simp [go_sem, hc, hf, hgl, ↓IntWalk.iteOmega, a71, a75, *]) rfl
      · refine relStep_plain rfl ?_
        intro Ac w5 hp
        have hb := hp.bel
        have a76 : Ac.eval (.tmp 76) = .bool true := hp.dep 7 (by kernel_rfl)
        have hc := evalC Ac; have hf := evalF Ac; have hgl := evalG Ac
        obtain ⟨ρ, hρ⟩ : ∃ ρ, Ac.eval = ρ := ⟨_, rfl⟩
        rw [hρ] at a76 hc hf hgl
        exact relPure hρ (.bool true) (by simp [go_sem, hc, hf, hgl, ↓IntWalk.iteOmega, a76, *]) rfl
      · refine relStep_guard (g := 8) (b := true) (x := true) rfl (by kernel_rfl) rfl (by kernel_rfl) rfl (fun _ _ h => h) ?_
        intro Ac w5 hp
        have hb := hp.bel
        have a9 : Ac.eval (.tmp 9) = .int .i64 0 := hp.out 9 (by rfl)
        have hc := evalC Ac; have hf := evalF Ac; have hgl := evalG Ac
        obtain ⟨ρ, hρ⟩ : ∃ ρ, Ac.eval = ρ := ⟨_, rfl⟩
        rw [hρ] at a9 hc hf hgl
        exact relPure hρ (.int .i64 0) (by simp [go_sem, hc, hf, hgl, ↓IntWalk.iteOmega, a9, *]) rfl
      · refine relStep_guard (g := 8) (b := true) (x := true) rfl (by kernel_rfl) rfl (by kernel_rfl) rfl (fun _ _ h => h) ?_
        intro Ac w5 hp
        have hb := hp.bel
        have a78 : Ac.eval (.tmp 78) = .int .i64 0 := hp.dep 9 (by kernel_rfl)
        have hc := evalC Ac; have hf := evalF Ac; have hgl := evalG Ac
        obtain ⟨ρ, hρ⟩ : ∃ ρ, Ac.eval = ρ := ⟨_, rfl⟩
        rw [hρ] at a78 hc hf hgl
        exact relPure hρ (.bool true) (by simp [go_sem, hc, hf, hgl, ↓IntWalk.iteOmega, a78, *]) rfl
      · refine relStep_plain rfl ?_
        intro Ac w5 hp
        have hb := hp.bel
        have a77 : Ac.eval (.tmp 77) = .bool true := hp.dep 8 (by kernel_rfl)
        have a79 : Ac.eval (.tmp 79) = .bool true := hp.dep 10 (by kernel_rfl)
        have hc := evalC Ac; have hf := evalF Ac; have hgl := evalG Ac
        obtain ⟨ρ, hρ⟩ : ∃ ρ, Ac.eval = ρ := ⟨_, rfl⟩
        rw [hρ] at a77 a79 hc hf hgl
        exact relPure hρ (.bool true) (by simp [go_sem, hc, hf, hgl, ↓IntWalk.iteOmega, a77, a79, *]) rfl
      · refine relStep_plain rfl ?_
        intro Ac w5 hp
        have hb := hp.bel
        have a80 : Ac.eval (.tmp 80) = .bool true := hp.dep 11 (by kernel_rfl)
        have hc := evalC Ac; have hf := evalF Ac; have hgl := evalG Ac
        obtain ⟨ρ, hρ⟩ : ∃ ρ, Ac.eval = ρ := ⟨_, rfl⟩
        rw [hρ] at a80 hc hf hgl
        exact relPure hρ (.bool true) (by simp [go_sem, hc, hf, hgl, ↓IntWalk.iteOmega, a80, *]) rfl
      · refine relStep_guard (g := 12) (b := true) (x := true) rfl (by kernel_rfl) rfl (by kernel_rfl) rfl (fun _ _ h => h) ?_
        intro Ac w5 hp
        have hb := hp.bel
        have a8 : Ac.eval (.tmp 8) = .int .i64 0 := hp.out 8 (by rfl)
        have hc := evalC Ac; have hf := evalF Ac; have hgl := evalG Ac
        obtain ⟨ρ, hρ⟩ : ∃ ρ, Ac.eval = ρ := ⟨_, rfl⟩
        rw [hρ] at a8 hc hf hgl
        exact relPure hρ (.int .i64 0) (by simp [go_sem, hc, hf, hgl, ↓IntWalk.iteOmega, a8, *]) rfl
      · refine relStep_guard (g := 12) (b := true) (x := true) rfl (by kernel_rfl) rfl (by kernel_rfl) rfl (fun _ _ h => h) ?_
        intro Ac w5 hp
        have hb := hp.bel
        have a82 : Ac.eval (.tmp 82) = .int .i64 0 := hp.dep 13 (by kernel_rfl)
        have hc := evalC Ac; have hf := evalF Ac; have hgl := evalG Ac
        obtain ⟨ρ, hρ⟩ : ∃ ρ, Ac.eval = ρ := ⟨_, rfl⟩
        rw [hρ] at a82 hc hf hgl
        exact relPure hρ (.bool true) (by simp [go_sem, hc, hf, hgl, ↓IntWalk.iteOmega, a82, *]) rfl
      · refine relStep_plain rfl ?_
        intro Ac w5 hp
        have hb := hp.bel
        have a81 : Ac.eval (.tmp 81) = .bool true := hp.dep 12 (by kernel_rfl)
        have a83 : Ac.eval (.tmp 83) = .bool true := hp.dep 14 (by kernel_rfl)
        have hc := evalC Ac; have hf := evalF Ac; have hgl := evalG Ac
        obtain ⟨ρ, hρ⟩ : ∃ ρ, Ac.eval = ρ := ⟨_, rfl⟩
        rw [hρ] at a81 a83 hc hf hgl
        exact relPure hρ (.bool true) (by simp [go_sem, hc, hf, hgl, ↓IntWalk.iteOmega, a81, a83, *]) rfl
      · refine relStep_plain rfl ?_
        intro Ac w5 hp
        have hb := hp.bel
        have a84 : Ac.eval (.tmp 84) = .bool true := hp.dep 15 (by kernel_rfl)
        have hc := evalC Ac; have hf := evalF Ac; have hgl := evalG Ac
        obtain ⟨ρ, hρ⟩ : ∃ ρ, Ac.eval = ρ := ⟨_, rfl⟩
        rw [hρ] at a84 hc hf hgl
        exact relPure hρ (.bool true) (by simp [go_sem, hc, hf, hgl, ↓IntWalk.iteOmega, a84, *]) rfl
      · refine relStep_guard (g := 16) (b := true) (x := true) rfl (by kernel_rfl) rfl (by kernel_rfl) rfl (fun _ _ h => h) ?_
        intro Ac w5 hp
        have hb := hp.bel
        have a7 : Ac.eval (.tmp 7) = Value.slice (some ⟨g, o, none⟩) 1 c7 := hp.out 7 (by rfl)
        have hc := evalC Ac; have hf := evalF Ac; have hgl := evalG Ac
        obtain ⟨ρ, hρ⟩ : ∃ ρ, Ac.eval = ρ := ⟨_, rfl⟩
        rw [hρ] at a7 hc hf hgl
        exact relPure hρ (Value.slice (some ⟨g, o, none⟩) 1 c7) (by simp [go_sem, hc, hf, hgl, ↓IntWalk.iteOmega, a7, *]) rfl
      · refine relStep_guard (g := 16) (b := true) (x := true) rfl (by kernel_rfl) rfl (by kernel_rfl) rfl (fun _ _ h => h) ?_
        intro Ac w5 hp
        have hb := hp.bel
        have a86 : Ac.eval (.tmp 86) = Value.slice (some ⟨g, o, none⟩) 1 c7 := hp.dep 17 (by kernel_rfl)
        have hc := evalC Ac; have hf := evalF Ac; have hgl := evalG Ac
        obtain ⟨ρ, hρ⟩ : ∃ ρ, Ac.eval = ρ := ⟨_, rfl⟩
        rw [hρ] at a86 hc hf hgl
        exact relPure hρ (.int .i64 1) (by simp [go_sem, hc, hf, hgl, ↓IntWalk.iteOmega, a86, *]) rfl
      · refine relStep_guard (g := 16) (b := true) (x := true) rfl (by kernel_rfl) rfl (by kernel_rfl) rfl (fun _ _ h => h) ?_
        intro Ac w5 hp
        have hb := hp.bel
        have a87 : Ac.eval (.tmp 87) = .int .i64 1 := hp.dep 18 (by kernel_rfl)
        have hc := evalC Ac; have hf := evalF Ac; have hgl := evalG Ac
        obtain ⟨ρ, hρ⟩ : ∃ ρ, Ac.eval = ρ := ⟨_, rfl⟩
        rw [hρ] at a87 hc hf hgl
        exact relPure hρ (.bool true) (by simp [go_sem, hc, hf, hgl, ↓IntWalk.iteOmega, a87, *]) rfl
      · refine relStep_plain rfl ?_
        intro Ac w5 hp
        have hb := hp.bel
        have a85 : Ac.eval (.tmp 85) = .bool true := hp.dep 16 (by kernel_rfl)
        have a88 : Ac.eval (.tmp 88) = .bool true := hp.dep 19 (by kernel_rfl)
        have hc := evalC Ac; have hf := evalF Ac; have hgl := evalG Ac
        obtain ⟨ρ, hρ⟩ : ∃ ρ, Ac.eval = ρ := ⟨_, rfl⟩
        rw [hρ] at a85 a88 hc hf hgl
        exact relPure hρ (.bool true) (by simp [go_sem, hc, hf, hgl, ↓IntWalk.iteOmega, a85, a88, *]) rfl
      · refine relStep_plain rfl ?_
        intro Ac w5 hp
        have hb := hp.bel
        have a89 : Ac.eval (.tmp 89) = .bool true := hp.dep 20 (by kernel_rfl)
        have hc := evalC Ac; have hf := evalF Ac; have hgl := evalG Ac
        obtain ⟨ρ, hρ⟩ : ∃ ρ, Ac.eval = ρ := ⟨_, rfl⟩
        rw [hρ] at a89 hc hf hgl
        exact relPure hρ (.bool true) (by simp [go_sem, hc, hf, hgl, ↓IntWalk.iteOmega, a89, *]) rfl
      · refine relStep_guard (g := 21) (b := true) (x := true) rfl (by kernel_rfl) rfl (by kernel_rfl) rfl (fun _ _ h => h) ?_
        intro Ac w5 hp
        have hb := hp.bel
        have a7 : Ac.eval (.tmp 7) = Value.slice (some ⟨g, o, none⟩) 1 c7 := hp.out 7 (by rfl)
        have hc := evalC Ac; have hf := evalF Ac; have hgl := evalG Ac
        obtain ⟨ρ, hρ⟩ : ∃ ρ, Ac.eval = ρ := ⟨_, rfl⟩
        rw [hρ] at a7 hc hf hgl
        exact relPure hρ (Value.slice (some ⟨g, o, none⟩) 1 c7) (by simp [go_sem, hc, hf, hgl, ↓IntWalk.iteOmega, a7, *]) rfl
      · refine relStep_guard (g := 21) (b := true) (x := true) rfl (by kernel_rfl) rfl (by kernel_rfl) rfl (fun _ _ h => h) ?_
        intro Ac w5 hp
        have hb := hp.bel
        have a91 : Ac.eval (.tmp 91) = Value.slice (some ⟨g, o, none⟩) 1 c7 := hp.dep 22 (by kernel_rfl)
        have hc := evalC Ac; have hf := evalF Ac; have hgl := evalG Ac
        obtain ⟨ρ, hρ⟩ : ∃ ρ, Ac.eval = ρ := ⟨_, rfl⟩
        rw [hρ] at a91 hc hf hgl
        exact relPure hρ (.pointer (some ⟨g, o, none⟩)) (by simp [go_sem, hc, hf, hgl, ↓IntWalk.iteOmega, a91, *]) rfl
      · refine relStep_guard (g := 21) (b := true) (x := true) rfl (by kernel_rfl) rfl (by kernel_rfl) rfl (fun _ _ h => h) ?_
        intro Ac w5 hp
        have hb := hp.bel
        have a92 : Ac.eval (.tmp 92) = .pointer (some ⟨g, o, none⟩) := hp.dep 23 (by kernel_rfl)
        have y0 : w5.cell? ⟨g, o, none⟩ = some (.int .i64 ko) := (hb.cell hg).trans HY0.out
        have y1 : w5.cell? ⟨g, o + 1, none⟩ = some (.int .u32 (po : Int)) := (hb.cell hg).trans HY1.out
        have y2 : w5.cell? ⟨g, o + 2, none⟩ = some (.int .i64 no) := (hb.cell hg).trans HY2.out
        have y3 : w5.cell? ⟨g, o + 3, none⟩ = some (Value.slice A9 n9 c9) := (hb.cell hg).trans HY3.out
        have y4 : w5.cell? ⟨g, o + 4, none⟩ = some (.string (str tO)) := (hb.cell hg).trans HY4.out
        have y5 : w5.cell? ⟨g, o + 5, none⟩ = some (.int .u32 (oao : Int)) := (hb.cell hg).trans HY5.out
        have y6 : w5.cell? ⟨g, o + 6, none⟩ = some (.int .i64 oho) := (hb.cell hg).trans HY6.out
        have y7 : w5.cell? ⟨g, o + 7, none⟩ = some (.int .u32 (oio : Int)) := (hb.cell hg).trans HY7.out
        have y8 : w5.cell? ⟨g, o + 8, none⟩ = some (.bool foo) := (hb.cell hg).trans HY8.out
        have hc := evalC Ac; have hf := evalF Ac; have hgl := evalG Ac
        obtain ⟨ρ, hρ⟩ : ∃ ρ, Ac.eval = ρ := ⟨_, rfl⟩
        rw [hρ] at a92 hc hf hgl
        exact relPure hρ (.agg #[.int .i64 ko, .int .u32 (po : Int), .int .i64 no, Value.slice A9 n9 c9, .string (str tO), .int .u32 (oao : Int), .int .i64 oho, .int .u32 (oio : Int), .bool foo]) (by simp [go_sem, hc, hf, hgl, ↓IntWalk.iteOmega, a92, *]) rfl
      · refine relStep_guard (g := 21) (b := true) (x := true) rfl (by kernel_rfl) rfl (by kernel_rfl) rfl (fun _ _ h => h) ?_
        intro Ac w5 hp
        have hb := hp.bel
        have a2 : Ac.eval (.tmp 2) = .pointer (some ⟨w.heap.size, 0, none⟩) := hp.out 2 (by rfl)
        have zz := HK7.out.below hb HK7.out.lt
        have z0 : w5.cell? ⟨w.heap.size, 0, none⟩ = some (.int .i64 k) := zz.cell 0
        have z1 : w5.cell? ⟨w.heap.size, 1, none⟩ = some (.int .u32 (p : Int)) := zz.cell 1
        have z2 : w5.cell? ⟨w.heap.size, 2, none⟩ = some (.int .i64 nn) := zz.cell 2
        have z3 : w5.cell? ⟨w.heap.size, 3, none⟩ = some (Value.slice A1 n1 c1) := zz.cell 3
        have z4 : w5.cell? ⟨w.heap.size, 4, none⟩ = some (.string (str tx)) := zz.cell 4
        have z5 : w5.cell? ⟨w.heap.size, 5, none⟩ = some (.int .u32 (oa : Int)) := zz.cell 5
        have z6 : w5.cell? ⟨w.heap.size, 6, none⟩ = some (.int .i64 oh) := zz.cell 6
        have z7 : w5.cell? ⟨w.heap.size, 7, none⟩ = some (.int .u32 (oi : Int)) := zz.cell 7
        have z8 : w5.cell? ⟨w.heap.size, 8, none⟩ = some (.bool fo) := zz.cell 8
        clear zz
        have hc := evalC Ac; have hf := evalF Ac; have hgl := evalG Ac
        obtain ⟨ρ, hρ⟩ : ∃ ρ, Ac.eval = ρ := ⟨_, rfl⟩
        rw [hρ] at a2 hc hf hgl
        exact relPure hρ (.agg #[.int .i64 k, .int .u32 (p : Int), .int .i64 nn, Value.slice A1 n1 c1, .string (str tx), .int .u32 (oa : Int), .int .i64 oh, .int .u32 (oi : Int), .bool fo]) (by simp [go_sem, hc, hf, hgl, ↓IntWalk.iteOmega, a2, *]) rfl
      · refine relStep_guard (g := 21) (b := true) (x := true) rfl (by kernel_rfl) rfl (by kernel_rfl) rfl (fun _ _ h => h) ?_
        intro Ac w5 hp
        have hb := hp.bel
        have a94 : Ac.eval (.tmp 94) = .agg #[.int .i64 k, .int .u32 (p : Int), .int .i64 nn, Value.slice A1 n1 c1, .string (str tx), .int .u32 (oa : Int), .int .i64 oh, .int .u32 (oi : Int), .bool fo] := hp.dep 25 (by kernel_rfl)
        have hc := evalC Ac; have hf := evalF Ac; have hgl := evalG Ac
        obtain ⟨ρ, hρ⟩ : ∃ ρ, Ac.eval = ρ := ⟨_, rfl⟩
        rw [hρ] at a94 hc hf hgl
        refine relCall hρ 10 #[.agg #[.int .i64 k, .int .u32 (p : Int), .int .i64 nn, Value.slice A1 n1 c1, .string (str tx), .int .u32 (oa : Int), .int .i64 oh, .int .u32 (oi : Int), .bool fo]] (by simp [go_sem, hc, hf, hgl, ↓IntWalk.iteOmega, a94, *]) ?_
        refine (ronly_any ⟨k, p, nn, bx, tx, oa, oh, oi, fo⟩ A1 n1 c1 w5).mono ?_
        rintro e w6 ⟨rfl, hb6⟩
        exact ⟨_, rfl, by rw [HOx.out]; rfl, hb6⟩
      · refine relStep_guard (g := 21) (b := true) (x := true) rfl (by kernel_rfl) rfl (by kernel_rfl) rfl (fun _ _ h => h) ?_
        intro Ac w5 hp
        have hb := hp.bel
        have a93 : Ac.eval (.tmp 93) = .agg #[.int .i64 ko, .int .u32 (po : Int), .int .i64 no, Value.slice A9 n9 c9, .string (str tO), .int .u32 (oao : Int), .int .i64 oho, .int .u32 (oio : Int), .bool foo] := hp.dep 24 (by kernel_rfl)
        have a95 : Ac.eval (.tmp 95) = .agg #[.int .i64 ko, .int .u32 (po : Int), .int .i64 no, Value.slice Ao no_ co, .string (str tO), .int .u32 (oao : Int), .int .i64 oho, .int .u32 (oio : Int), .bool foo] := hp.dep 26 (by kernel_rfl)
        have hc := evalC Ac; have hf := evalF Ac; have hgl := evalG Ac
        obtain ⟨ρ, hρ⟩ : ∃ ρ, Ac.eval = ρ := ⟨_, rfl⟩
        rw [hρ] at a93 a95 hc hf hgl
        refine relCall hρ 9 #[.agg #[.int .i64 ko, .int .u32 (po : Int), .int .i64 no, Value.slice A9 n9 c9, .string (str tO), .int .u32 (oao : Int), .int .i64 oho, .int .u32 (oio : Int), .bool foo], .agg #[.int .i64 ko, .int .u32 (po : Int), .int .i64 no, Value.slice Ao no_ co, .string (str tO), .int .u32 (oao : Int), .int .i64 oho, .int .u32 (oio : Int), .bool foo]] (by simp [go_sem, hc, hf, hgl, ↓IntWalk.iteOmega, a93, a95, *]) ?_
        refine (rsame_any ⟨ko, po, no, bo, tO, oao, oho, oio, foo⟩ ⟨ko, po, no, bo, tO, oao, oho, oio, foo⟩ A9 Ao n9 c9 no_ co w5 (HL9.out.below byMono hb) (HLo7.out.below byMono hb)).mono ?_
        rintro e w6 ⟨rfl, hb6⟩
        exact ⟨_, rfl, by rw [sameM_self]; rfl, hb6⟩
      · refine relStep_plain rfl ?_
        intro Ac w5 hp
        have hb := hp.bel
        have a90 : Ac.eval (.tmp 90) = .bool true := hp.dep 21 (by kernel_rfl)
        have a96 : Ac.eval (.tmp 96) = .bool true := hp.dep 27 (by kernel_rfl)
        have hc := evalC Ac; have hf := evalF Ac; have hgl := evalG Ac
        obtain ⟨ρ, hρ⟩ : ∃ ρ, Ac.eval = ρ := ⟨_, rfl⟩
        rw [hρ] at a90 a96 hc hf hgl
        exact relPure hρ (.bool true) (by simp [go_sem, hc, hf, hgl, ↓IntWalk.iteOmega, a90, a96, *]) rfl
      · refine relStep_plain rfl ?_
        intro Ac w5 hp
        have hb := hp.bel
        have a97 : Ac.eval (.tmp 97) = .bool true := hp.dep 28 (by kernel_rfl)
        have hc := evalC Ac; have hf := evalF Ac; have hgl := evalG Ac
        obtain ⟨ρ, hρ⟩ : ∃ ρ, Ac.eval = ρ := ⟨_, rfl⟩
        rw [hρ] at a97 hc hf hgl
        exact relPure hρ (.bool true) (by simp [go_sem, hc, hf, hgl, ↓IntWalk.iteOmega, a97, *]) rfl
      · refine relStep_guard (g := 29) (b := true) (x := true) rfl (by kernel_rfl) rfl (by kernel_rfl) rfl (fun _ _ h => h) ?_
        intro Ac w5 hp
        have hb := hp.bel
        have hc := evalC Ac; have hf := evalF Ac; have hgl := evalG Ac
        obtain ⟨ρ, hρ⟩ : ∃ ρ, Ac.eval = ρ := ⟨_, rfl⟩
        rw [hρ] at hc hf hgl
        refine relCall hρ 12 #[] (by simp [go_sem, hc, hf, hgl, ↓IntWalk.iteOmega, *]) ?_
        refine (slives_any w5 (HEn7.out.below hb) (HTb7.out.below hb)).mono ?_
        rintro e w6 ⟨rfl, hb6⟩
        exact ⟨_, rfl, rfl, hb6⟩
      · refine relStep_plain rfl ?_
        intro Ac w5 hp
        have hb := hp.bel
        have a98 : Ac.eval (.tmp 98) = .bool true := hp.dep 29 (by kernel_rfl)
        have a99 : Ac.eval (.tmp 99) = .bool true := hp.dep 30 (by kernel_rfl)
        have hc := evalC Ac; have hf := evalF Ac; have hgl := evalG Ac
        obtain ⟨ρ, hρ⟩ : ∃ ρ, Ac.eval = ρ := ⟨_, rfl⟩
        rw [hρ] at a98 a99 hc hf hgl
        exact relPure hρ (.bool true) (by simp [go_sem, hc, hf, hgl, ↓IntWalk.iteOmega, a98, a99, *]) rfl
      · refine relStep_plain rfl ?_
        intro Ac w5 hp
        have hb := hp.bel
        have a100 : Ac.eval (.tmp 100) = .bool true := hp.dep 31 (by kernel_rfl)
        have hc := evalC Ac; have hf := evalF Ac; have hgl := evalG Ac
        obtain ⟨ρ, hρ⟩ : ∃ ρ, Ac.eval = ρ := ⟨_, rfl⟩
        rw [hρ] at a100 hc hf hgl
        exact relPure hρ (.bool true) (by simp [go_sem, hc, hf, hgl, ↓IntWalk.iteOmega, a100, *]) rfl
      intro u w9 hb7 hall
      have e4 : u 32 = .bool true := relAll_at hall (i := 32) (by decide +kernel)
      clear hall
      simp only [List.drop_succ_cons, List.drop_zero, List.take_succ_cons, List.take_zero, putAll, Act.put, List.setIfInBounds_toArray, List.set_cons_zero, List.set_cons_succ, Nat.zero_add, Nat.reduceAdd, e4]
      have HB12 := hide (HB11.out.trans (hb7.mono HB11.out.size))
      clear hb7
      go_wp2
      go_ret
      exact ⟨rfl, HB12.out⟩
    · exfalso
      simp at h5
end Go.Proofs.YtlfknndpbejbcaaGreatDoor
