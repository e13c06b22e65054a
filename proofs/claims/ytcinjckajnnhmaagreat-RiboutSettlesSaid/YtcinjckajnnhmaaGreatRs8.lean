import Derived.Test.YtcinjckajnnhmaaGreatRs7
import Derived.WalkKit
import Derived.ProofKit
import Derived.OpenShut
import Derived.Below
import Derived.Laws.OwnMore
import Derived.Laws.Rows
import Derived.Laws.MakeOwn
import Derived.Deep.AppendLies
import Derived.Deep.Draws
import Derived.Deep.OwnRows
import Derived.Deep.QuietTactic
import Derived.Maps.AppendAt
import Derived.RegionTactic
import Derived.OwnWalk
import Derived.ChangeSame
import Derived.Outline
import Derived.BigQuiet
import Derived.WalkMore
import Derived.ScopeJumps
import Derived.WalkLawsBesides
import Derived.WalkSpells
import Derived.Laws.BitsLemmas
import Derived.Laws.BitsAllLaws
import Derived.WideKeyArgs
import Derived.Deep.DeepHandedRow
import Derived.Deep.DeepWitnessRowRef
import Derived.Lib.LaidTab
import Derived.Lib.AppendIntMem
import Derived.LaidMore
import Derived.MakeChecks
import Derived.Lib.Itoa
import Derived.Lib.ItoaMem
import Derived.Deep.Quiet
import Derived.Deep.Slices
import Derived.BigRegion
import Derived.Orders
import Derived.OrdersIn
import Derived.RangeFuncCalls
import Derived.Shelf.RegionOpen
import Derived.StillTailTactics
import Derived.Lib.PathFns
import Derived.Lib.IndexBytes
import Derived.RangeFuncWrites
import Derived.RangeFuncNested
import Derived.RangeFuncBound
import Derived.RangeFuncLeaves
import Derived.RangeFuncBox
import Derived.Shelf.Abstract
import Derived.OwnWalkIn
import Derived.TacticsInMore
import Derived.LoopNIn
import Derived.LoopIn
import Derived.Lib.SmallJoins
import Derived.Lib.ParseIntBCases
import Derived.Lib.IndexMore
import Derived.Shelf.Vars
import Derived.Lib.AtoiAllCases
import Derived.SliceStrings
import Derived.Deep.RegionLaw
import Derived.Sort.LotA
import Derived.BigRegionIn
import Derived.Deep.RegionHeld3
import Derived.RangeFuncOwn
import Derived.Sort.WalkA6
import Derived.Sort.WalkB3
import Derived.Sort.WalkC4
import Derived.Sort.WalkA14
import Derived.Sort.Walk11
import Derived.Sort.Walk7
import Derived.Sort.Walk13
import Derived.Sort.Row
import Derived.Lib.Walk
import Derived.Lib.Strings
import Derived.BigGuard
import Derived.BigCall
import Derived.CellFam
import Derived.Deep.LoopGhost
import Derived.Sort.LotC
import Derived.Deep.RegionWith
import Derived.RowKit
import Derived.Sort.LotD3
import Derived.Sort.LotD4
import Derived.Sort.Grow
import Derived.Sort.AtCall
import Derived.Sort.LotD5
import Derived.Laws.Bits64
import Derived.Laws.Bits64b
import Derived.Sort.EncStr
import Derived.Sort.LotD1
import Derived.Sort.LotB
import Derived.Deep.Cut
import Derived.Sort.Walk13a
import Derived.Sort.AssemblyPlain
import Derived.Shelf.Spec.SlicesInsertGrow
import Derived.Deep.MidRow
import Derived.Lib.RowBridge
import Derived.Laws.CopyOwn
import Derived.Lib.AppendZerosOnto
import Derived.Deep.DeepCutAuto
import Derived.Lib.Bytealg
import Derived.Shelf.Strings.SplitShaped
import Derived.Shelf.Strings.Prefix
import Derived.Shelf.Small.Strs
import Derived.Deep.CutBlock
import Derived.Lib.QuietBelow
import Derived.Shelf.SlSortCmp.WholeK
import Derived.Lib.SlTrimSet
import Derived.Shelf.Strings.BuilderK
import Derived.Laws.BytesString
import Derived.Laws.IdiomStrings
set_option linter.unusedSimpArgs false
set_option linter.unusedVariables false
namespace Go.Proofs.YtcinjckajnnhmaaGreat
open Go.RowKit Go.WideShapes Go.ChangeShapes
attribute [local go_sem] Oper.semAt_some
theorem atok_cut (X : AT) : AtOk (cutA X) := ⟨by have := cutP_num X.path; show numS (cutP X.path) ≤ 10000; omega, by show (X.comms.take 260).length ≤ 10000; rw [List.length_take]; omega⟩
theorem cutP_few (l : List SG) : (cutP l).length ≤ 12 := by unfold cutP; rw [List.length_map, List.length_take]; omega
theorem lstq_of {w : World} {A : Option Addr} {n c : Nat} {l : List TD} (h : LstAt 11 tdQ w A n c l) : LstAt 11 tdR w A n c l := lst_map (fun _ _ hr => hr.1) h
theorem lstq_ok {w : World} {A : Option Addr} {n c : Nat} {l : List TD} (h : LstAt 11 tdQ w A n c l) : ∀ x ∈ (l.take 12).map cutTD, TdOk x ∧ x.at_.path.length ≤ 100000 := fun x hx => by
 obtain ⟨y, hy, rfl⟩ := List.mem_map.1 hx; have hy := List.mem_of_mem_take hy; obtain ⟨k, hk⟩ := List.getElem?_of_mem hy; have hkl := (List.getElem?_eq_some_iff.1 hk).1; obtain ⟨h1, h2, h3, h4⟩ := h; obtain ⟨g, o, _, _, hc⟩ := h4 (by omega); obtain ⟨vs, _, hr, _⟩ := hc k y hk; refine ⟨⟨hr.2.1, hr.2.2.1, hr.2.2.2, atok_cut y.at_⟩, ?_⟩; have := cutP_few y.at_.path; show (cutP y.at_.path).length ≤ 100000; omega
section
variable {O O' : Nat → Prop} {r m l : Nat} {LA LT : List (Nat × Nat × AT)} {w w' : World}
theorem RQ.cap (h : RQ O r m l LA LT w) (hO : ∀ j, O j → j < w.heap.size → O' j) : RQ O' r m l LA LT w := by
 obtain ⟨ga, gt, Fa, Ft, ta, tt, h1, h2, h3, h4⟩ := h; exact ⟨ga, gt, Fa, Ft, ta, tt, h1, h2, h3, fun j hj => hO j (h4 j hj) (h1.lt j hj)⟩
theorem qhere2_any (h : RQ O r m l LA LT w) (hl : l ≤ m) (hn : LT.length + LA.length < 90000) :
  Calls Tryz.prog 23 #[.pointer (some ⟨r, 0, none⟩)] w fun e w' => ∃ A n c l' LT', e = .returned (.slice A n c) ∧ RQ (OrNew O w) r m l' LA LT' w' ∧ l' ≤ m ∧ LT'.length ≤ LT.length + LA.length ∧ ChgS O w w' := by
 cases l with
 | zero =>
  refine (qhere_any h hn).mono ?_; rintro e w' ⟨A, n, c, rfl, _, h1, h2, h3⟩; exact ⟨A, n, c, _, _, rfl, h1, by split <;> omega, h2, h3⟩
 | succ l =>
  refine (qhereL_any h).mono ?_; rintro e w' ⟨rfl, rfl⟩; exact ⟨none, 0, 0, _, _, rfl, h.more (fun j hj => .inl hj), hl, by omega, chg_refl _ _⟩
theorem aimL_len (L : List TD) : (aimL L).length ≤ L.length := by
 suffices h : ∀ (L : List TD) (acc : List (Nat × Nat × AT)), (L.foldl aimPut acc).length ≤ acc.length + L.length from by simpa [aimL] using h L []
 intro L
 induction L with
 | nil => intro acc; simp
 | cons x L ih =>
  intro acc; have h1 := ih (aimPut acc x); have h2 := aimPut_len acc x; rw [List.foldl_cons, List.length_cons]; omega
theorem few_len (l : List TD) : (aimL ((l.take 12).map cutTD)).length ≤ 12 := by
 have := aimL_len ((l.take 12).map cutTD); rw [List.length_map, List.length_take] at this; omega
end
theorem keyL_mem {L : List (Nat × Nat × AT)} {x : Nat × Nat} : x ∈ keyL L ↔ ∃ z ∈ L, (z.1, z.2.1) = x := by unfold keyL; exact List.mem_map
theorem pend_in {A T : List (Nat × Nat × AT)} (hA : A.Pairwise PLt) (hk : ∀ z ∈ T, (lkL z.1 z.2.1 A).isSome = true) : ∀ x ∈ keyL (A.filter (lackL T)) ++ keyL (T.filter (lackL A)), (lkL x.1 x.2 A).isSome = true := fun x hx => by
 rcases List.mem_append.1 hx with hx | hx
 ·obtain ⟨z, hz, rfl⟩ := keyL_mem.1 hx; rw [(lkL_mem (x := z.2.2) hA).2 (List.mem_filter.1 hz).1]
  rfl
 ·obtain ⟨z, hz, rfl⟩ := keyL_mem.1 hx; exact hk z (List.mem_filter.1 hz).1
theorem pend_some {A T : List (Nat × Nat × AT)} (hA : A.Pairwise PLt) (hT : T.Pairwise PLt) (hk : ∀ z ∈ T, (lkL z.1 z.2.1 A).isSome = true) (h : A.filter (lackL T) = []) : keyL (A.filter (lackL T)) ++ keyL (T.filter (lackL A)) = [] := by
 have e := settle_some hA hT hk h; subst e; rw [settle_same hA]
 rfl
theorem sortP_none {l : List (Nat × Nat)} (hg : ∀ x ∈ l, PG x.1 x.2) : (sortP l).length = 0 ↔ l = [] := by
 constructor
 ·intro h
  cases l with
  | nil => rfl
  | cons x l =>
   have := (sortP_mem hg x).2 List.mem_cons_self; rw [List.eq_nil_of_length_eq_zero h] at this
   cases this
 ·rintro rfl
  cases h : sortP [] with
  | nil => rfl
  | cons x l =>
   have := (sortP_mem (l := []) (by simp) x).1 (by rw [h]; exact List.mem_cons_self)
   cases this
def X00 : AT := ⟨0, 0, [], 0, 0, 0, 0, 0, []⟩
theorem norm_X00 : normA X00 = X00 := by
 have h : ∀ k, K8 k → attB 0 k = false := fun k hk => by rcases k8_cases hk with rfl | rfl | rfl | rfl | rfl | rfl | rfl | rfl <;> rfl
 have h0 : (nmH 0 : Int) = 0 := (by decide)
 unfold normA X00; simp only [h 1 (by unfold K8; omega), h 2 (by unfold K8; omega), h 3 (by unfold K8; omega), h 4 (by unfold K8; omega), h 5 (by unfold K8; omega), h 7 (by unfold K8; omega), h 8 (by unfold K8; omega), h0]
 rfl
theorem aim_X00 : aimL [⟨167772160, 8, X00⟩] = [(167772160, 8, X00)] := by
 have h : goodB 167772160 8 = true := (by decide)
 unfold aimL; rw [List.foldl_cons, List.foldl_nil]; unfold aimPut; rw [norm_X00]; show (if goodB 167772160 8 = true then _ else _) = _; rw [if_pos h]
 rfl
theorem same_X00 : sortP (keyL ([(167772160, 8, X00)].filter (lackL [(167772160, 8, X00)])) ++ keyL ([(167772160, 8, X00)].filter (lackL [(167772160, 8, X00)]))) = [] := by
 rw [settle_same (by simp)]; exact List.eq_nil_of_length_eq_zero ((sortP_none (l := []) (by simp)).2 rfl)
set_option maxRecDepth 100000 in
set_option maxHeartbeats 8000000 in
theorem lives36G_any (w : World) : Calls Tryz.prog 31 #[] w fun e w' => e = .returned (.bool true) ∧ Below w.heap.size w w' := by
  have HN := hide (qnew_any 0 w); have e0 : inZ 0 = 0 := rfl; rw [e0] at HN; have HSm := hide same_X00; clear e0
  go_enter Tryz.func31, Tryz.ntmps31
  go_wp2_with fail
  refine HN.out.mono ?_; rintro e w1 ⟨r, rfl, hq1, hb1⟩; obtain ⟨w2, hw2⟩ : ∃ W, w1.alloc (.cells #[.int .u32 167772160, .int .i64 8] 24) = W := ⟨_, rfl⟩
  have hb2 : Below w1.heap.size w1 w2 := hw2 ▸ blkBelow1 w1 _; have hp2 : Blk w2 w1.heap.size 24 #[.int .u32 167772160, .int .i64 8] := hw2 ▸ Blk.new w1 _ _; obtain ⟨w3, hw3⟩ : ∃ W, w2.alloc (.cells #[.int .u32 167772160, .int .i64 8, .int .i64 0, .int .i64 0, .slice none 0 0, .int .u32 0, .int .u32 0, .int .u32 0, .int .u32 0, .int .u32 0, .slice none 0 0] 71) = W := ⟨_, rfl⟩
  have hb3 : Below w2.heap.size w2 w3 := hw3 ▸ blkBelow1 w2 _; have hl3 : Blk w3 w2.heap.size 71 #[.int .u32 167772160, .int .i64 8, .int .i64 0, .int .i64 0, .slice none 0 0, .int .u32 0, .int .u32 0, .int .u32 0, .int .u32 0, .int .u32 0, .slice none 0 0] := hw3 ▸ Blk.new w2 _ _; have hs1 := hb1.size; have hs2 := hb2.size; have hs3 := hb3.size; have hpl := hp2.lt; have hq3 : RQ (fun j => w.heap.size ≤ j ∧ j < w1.heap.size) r 0 0 [] [] w3 := ((hq1.cap (fun j hj hl => ⟨hj, hl⟩)).below hb2).below hb3; have HQ3 := hide hq3; have HPb3 := hide (hp2.below hb3 hp2.lt); have HB3 := hide (hb1.trans ((hb2.trans (hb3.mono hs2)).mono hb1.size))
  have HAim := hide (qaim_any (some ⟨w2.heap.size, 0, none⟩) 1 1 [⟨167772160, 8, X00⟩] hq3 ⟨⟨rfl, Nat.le_refl _, by unfold maxLen; omega, fun _ => ⟨_, _, rfl, hl3.lt, fun k x hx => by
    have hk0 : k = 0 := by
      have := (List.getElem?_eq_some_iff.1 hx).1; simp at this; exact this
    subst hk0; simp only [List.getElem?_cons_zero, Option.some.injEq] at hx; subst hx; refine ⟨[.int .u32 167772160, .int .i64 8, .int .i64 0, .int .i64 0, .slice none 0 0, .int .u32 0, .int .u32 0, .int .u32 0, .int .u32 0, .int .u32 0, .slice none 0 0], rfl, fun w2 _ => ⟨none, 0, 0, none, 0, 0, rfl, LstAt.none_, rfl, Nat.le_refl _, Nat.zero_le _, by simp [X00], fun h => absurd h (by omega)⟩, fun j v hj => ?_⟩; rw [Nat.zero_mul, Nat.add_zero, Nat.zero_add, hl3.cell j]
    simpa using hj⟩⟩, fun _ a e hO => by cases e; have h := hO.2; simp only at h; omega⟩ (fun x hx => by
      simp only [List.mem_singleton] at hx; subst hx; exact ⟨⟨167772160, rfl, by omega⟩, by decide, by decide, by decide, by decide⟩) (by omega))
  rw [aim_X00] at HAim; have HW2 := hide hw2; have HW3 := hide hw3; have q0 : w2.cell? ⟨w1.heap.size, 0, none⟩ = some (.int .u32 167772160) := hp2.cell 0; have q1 : w2.cell? ⟨w1.heap.size, 1, none⟩ = some (.int .i64 8) := hp2.cell 1; clear hq1 hb1 hw2 hb2 hp2 hw3 hb3 hl3 hq3
  go_upto_region 3 with fail
  rw [HW2.out]
  go_wp2_with fail
  rw [HW3.out]; refine HAim.out.mono ?_; rintro e w4 ⟨rfl, hq4, hc4⟩; have HB4 := hide (HB3.out.trans (chg_to_below hc4 (by omega) (fun k hk => hk.1))); have HPb4 := hide (chg_blk hc4 HPb3.out (fun h => by have := h.2; omega)); have hs4 := hc4.size; have HHe := hide (qhere_any hq4 (by decide)); clear hq4 hc4 q0 q1
  go_wp2_with fail
  refine HHe.out.mono ?_; rintro e w5 ⟨A5, n5, c5, rfl, hl5, hq5, _, hc5⟩; have e5 : [(167772160, 8, X00)].filter (lackL []) = [(167772160, 8, X00)] := rfl; rw [e5] at hl5 hq5; obtain rfl : n5 = 1 := hl5.1.symm; obtain ⟨g3, o3, z, B1, k1, c1, B2, m2, d2, rfl, hg3, hz, _, _, hcs⟩ := TZat hl5 (show 0 < 1 by omega); simp only [List.getElem?_cons_zero, Option.some.injEq] at hz; subst hz; have HE0 : Hid (w5.cell? ⟨g3, o3, none⟩ = some (.int .u32 167772160)) := hide (by have := hcs 0 _ rfl; simpa using this); have HE1 : Hid (w5.cell? ⟨g3, o3 + 1, none⟩ = some (.int .i64 8)) := hide (by have := hcs 1 _ rfl; simpa using this); have HG3 := hide hg3; have hs5 := hc5.size; have HB5 := hide (HB4.out.trans (chg_to_below hc5 (by omega) (fun k hk => hk.elim (fun h => h.1) (fun h => by omega)))); have HPb := hide (chg_blk hc5 HPb4.out (fun h => h.elim (fun h => by have := h.2; omega) (fun h => by omega))); have HQ : Hid (RQ (OrNew (OrNew (fun j => w.heap.size ≤ j ∧ j < w1.heap.size) w3) w4) r 0 0 [(167772160, 8, X00)] [(167772160, 8, X00)] w5) := hide hq5; have hnc5 := hl5.2.1; have hmx5 := hl5.2.2.1; unfold maxLen at hmx5; obtain ⟨pb, hpb⟩ : ∃ b, w1.heap.size = b := ⟨_, rfl⟩
  rw [hpb] at HPb ⊢; clear hl5 hq5 hc5 hcs hg3 e5 HPb3 HPb4
  go_upto_region 5 with fail
  have Hmn := hide (show AllMono [(fun v _ => v = .slice (some ⟨g3, o3, none⟩) 1 c5), (fun v _ => v = .int .i64 1), (fun v _ => v = .bool true), (fun v _ => v = .bool true), (fun v _ => v = .slice (some ⟨g3, o3, none⟩) 1 c5), (fun v _ => v = .pointer (some ⟨g3, o3, none⟩)), (fun v _ => v = .pointer (some ⟨g3, o3, none⟩)), (fun v _ => v = .agg #[.int .u32 167772160, .int .i64 8]), (fun v _ => v = .agg #[.int .u32 167772160, .int .i64 8]), (fun v _ => v = .bool true), (fun v _ => v = .bool true), (fun v _ => v = .bool true), (fun v _ => v = .pointer (some ⟨r, 0, none⟩)), (fun v _ => ∃ A c, v = .slice A 1 c), (fun v _ => v = .int .i64 1), (fun v _ => v = .bool true), (fun v _ => v = .bool true), (fun v _ => v = .bool true), (fun v _ => v = .pointer (some ⟨r, 0, none⟩)), (fun v _ => ∃ A c, v = .slice A 0 c), (fun v _ => v = .int .i64 0), (fun v _ => v = .bool true), (fun v _ => v = .bool true)] from by repeat (first | exact trivial | refine ⟨fun _ _ _ _ h => h, ?_⟩)); refine wp_region_relT 23 _ (by kernel_rfl) (by kernel_rfl) (by kernel_rfl) (by kernel_rfl) (by kernel_rfl) (relMono _ Hmn.out) ⟨?_, ?_, ?_, ?_, ?_, ?_, ?_, ?_, ?_, ?_, ?_, ?_, ?_, ?_, ?_, ?_, ?_, ?_, ?_, ?_, ?_, ?_, ?_, trivial⟩ ?_
  · refine relStep_plain rfl ?_; intro Ac w5 hp; have a3 : Ac.eval (.tmp 3) = .slice (some ⟨g3, o3, none⟩) 1 c5 := hp.out 3 (by rfl); exact relPureX (.slice (some ⟨g3, o3, none⟩) 1 c5) (fun ρ hρ h1 h2 h3 => by rw [hρ] at a3; simp [go_sem, ↓IntWalk.iteOmega, *]) rfl
  · refine relStep_plain rfl ?_; intro Ac w5 hp; have a13 : Ac.eval (.tmp 13) = .slice (some ⟨g3, o3, none⟩) 1 c5 := hp.dep 0 (by kernel_rfl); exact relPureX (.int .i64 1) (fun ρ hρ h1 h2 h3 => by rw [hρ] at a13; simp [go_sem, ↓IntWalk.iteOmega, *]) rfl
  · refine relStep_plain rfl ?_; intro Ac w5 hp; have a14 : Ac.eval (.tmp 14) = .int .i64 1 := hp.dep 1 (by kernel_rfl); exact relPureX (.bool true) (fun ρ hρ h1 h2 h3 => by rw [hρ] at a14; simp [go_sem, ↓IntWalk.iteOmega, *]) rfl
  · refine relStep_plain rfl ?_; intro Ac w5 hp; have a15 : Ac.eval (.tmp 15) = .bool true := hp.dep 2 (by kernel_rfl); exact relPureX (.bool true) (fun ρ hρ h1 h2 h3 => by rw [hρ] at a15; simp [go_sem, ↓IntWalk.iteOmega, *]) rfl
  · refine relStep_guard (g := 3) (b := true) (x := true) rfl (by kernel_rfl) rfl (by kernel_rfl) rfl (fun _ _ h => h) ?_; intro Ac w5 hp; have a3 : Ac.eval (.tmp 3) = .slice (some ⟨g3, o3, none⟩) 1 c5 := hp.out 3 (by rfl); exact relPureX (.slice (some ⟨g3, o3, none⟩) 1 c5) (fun ρ hρ h1 h2 h3 => by rw [hρ] at a3; simp [go_sem, ↓IntWalk.iteOmega, *]) rfl
  · refine relStep_guard (g := 3) (b := true) (x := true) rfl (by kernel_rfl) rfl (by kernel_rfl) rfl (fun _ _ h => h) ?_; intro Ac w5 hp; have a17 : Ac.eval (.tmp 17) = .slice (some ⟨g3, o3, none⟩) 1 c5 := hp.dep 4 (by kernel_rfl); exact relPureX (.pointer (some ⟨g3, o3, none⟩)) (fun ρ hρ h1 h2 h3 => by rw [hρ] at a17; simp [go_sem, ↓IntWalk.iteOmega, *]) rfl
  · refine relStep_guard (g := 3) (b := true) (x := true) rfl (by kernel_rfl) rfl (by kernel_rfl) rfl (fun _ _ h => h) ?_; intro Ac w5 hp; have a18 : Ac.eval (.tmp 18) = .pointer (some ⟨g3, o3, none⟩) := hp.dep 5 (by kernel_rfl); exact relPureX (.pointer (some ⟨g3, o3, none⟩)) (fun ρ hρ h1 h2 h3 => by rw [hρ] at a18; simp [go_sem, ↓IntWalk.iteOmega, *]) rfl
  · refine relStep_guard (g := 3) (b := true) (x := true) rfl (by kernel_rfl) rfl (by kernel_rfl) rfl (fun _ _ h => h) ?_; intro Ac w5 hp; have hb := hp.bel; have a19 : Ac.eval (.tmp 19) = .pointer (some ⟨g3, o3, none⟩) := hp.dep 6 (by kernel_rfl); have e0 : w5.cell? ⟨g3, o3, none⟩ = some (.int .u32 167772160) := (hb.cell HG3.out).trans HE0.out; have e1 : w5.cell? ⟨g3, o3 + 1, none⟩ = some (.int .i64 8) := (hb.cell HG3.out).trans HE1.out; exact relPureX (.agg #[.int .u32 167772160, .int .i64 8]) (fun ρ hρ h1 h2 h3 => by rw [hρ] at a19; simp [go_sem, ↓IntWalk.iteOmega, *]) rfl
  · refine relStep_guard (g := 3) (b := true) (x := true) rfl (by kernel_rfl) rfl (by kernel_rfl) rfl (fun _ _ h => h) ?_; intro Ac w5 hp; have hb := hp.bel; have a2 : Ac.eval (.tmp 2) = .pointer (some ⟨pb, 0, none⟩) := hp.out 2 (by rfl); have hp5 := HPb.out.below hb HPb.out.lt; have p0 : w5.cell? ⟨pb, 0, none⟩ = some (.int .u32 167772160) := hp5.cell 0; have p1 : w5.cell? ⟨pb, 1, none⟩ = some (.int .i64 8) := hp5.cell 1; exact relPureX (.agg #[.int .u32 167772160, .int .i64 8]) (fun ρ hρ h1 h2 h3 => by rw [hρ] at a2; simp [go_sem, ↓IntWalk.iteOmega, *]) rfl
  · refine relStep_guard (g := 3) (b := true) (x := true) rfl (by kernel_rfl) rfl (by kernel_rfl) rfl (fun _ _ h => h) ?_; intro Ac w5 hp; have a20 : Ac.eval (.tmp 20) = .agg #[.int .u32 167772160, .int .i64 8] := hp.dep 7 (by kernel_rfl); have a21 : Ac.eval (.tmp 21) = .agg #[.int .u32 167772160, .int .i64 8] := hp.dep 8 (by kernel_rfl); exact relPureX (.bool true) (fun ρ hρ h1 h2 h3 => by rw [hρ] at a20 a21; simp [go_sem, ↓IntWalk.iteOmega, *]) rfl
  · refine relStep_plain rfl ?_; intro Ac w5 hp; have a16 : Ac.eval (.tmp 16) = .bool true := hp.dep 3 (by kernel_rfl); have a22 : Ac.eval (.tmp 22) = .bool true := hp.dep 9 (by kernel_rfl); exact relPureX (.bool true) (fun ρ hρ h1 h2 h3 => by rw [hρ] at a16 a22; simp [go_sem, ↓IntWalk.iteOmega, *]) rfl
  · refine relStep_plain rfl ?_; intro Ac w5 hp; have a23 : Ac.eval (.tmp 23) = .bool true := hp.dep 10 (by kernel_rfl); exact relPureX (.bool true) (fun ρ hρ h1 h2 h3 => by rw [hρ] at a23; simp [go_sem, ↓IntWalk.iteOmega, *]) rfl
  · refine relStep_guard (g := 11) (b := true) (x := true) rfl (by kernel_rfl) rfl (by kernel_rfl) rfl (fun _ _ h => h) ?_; intro Ac w5 hp; have a1 : Ac.eval (.tmp 1) = .pointer (some ⟨r, 0, none⟩) := hp.out 1 (by rfl); exact relPureX (.pointer (some ⟨r, 0, none⟩)) (fun ρ hρ h1 h2 h3 => by rw [hρ] at a1; simp [go_sem, ↓IntWalk.iteOmega, *]) rfl
  · refine relStep_guard (g := 11) (b := true) (x := true) rfl (by kernel_rfl) rfl (by kernel_rfl) rfl (fun _ _ h => h) ?_; intro Ac w5 hp; have hb := hp.bel; have a25 : Ac.eval (.tmp 25) = .pointer (some ⟨r, 0, none⟩) := hp.dep 12 (by kernel_rfl); obtain ⟨ρ, hρ, hc, hf, hgl⟩ := evalX Ac; rw [hρ] at a25; refine relCall hρ 30 #[.pointer (some ⟨r, 0, none⟩)] (by simp [go_sem, ↓IntWalk.iteOmega, *]) ?_; refine (qtold_any (HQ.out.below hb)).mono ?_; rintro e w6 ⟨A6, n6, c6, rfl, hl6, hb6⟩; obtain rfl : n6 = 1 := hl6.1.symm; exact ⟨_, rfl, ⟨A6, c6, rfl⟩, hb6⟩
  · refine relStep_guard (g := 11) (b := true) (x := true) rfl (by kernel_rfl) rfl (by kernel_rfl) rfl (fun _ _ h => h) ?_; intro Ac w5 hp; obtain ⟨A7, c7, a26⟩ := hp.dep 13 (by kernel_rfl); change Ac.eval (.tmp 26) = _ at a26; exact relPureX (.int .i64 1) (fun ρ hρ h1 h2 h3 => by rw [hρ] at a26; simp [go_sem, ↓IntWalk.iteOmega, *]) rfl
  · refine relStep_guard (g := 11) (b := true) (x := true) rfl (by kernel_rfl) rfl (by kernel_rfl) rfl (fun _ _ h => h) ?_; intro Ac w5 hp; have a27 : Ac.eval (.tmp 27) = .int .i64 1 := hp.dep 14 (by kernel_rfl); exact relPureX (.bool true) (fun ρ hρ h1 h2 h3 => by rw [hρ] at a27; simp [go_sem, ↓IntWalk.iteOmega, *]) rfl
  · refine relStep_plain rfl ?_; intro Ac w5 hp; have a24 : Ac.eval (.tmp 24) = .bool true := hp.dep 11 (by kernel_rfl); have a28 : Ac.eval (.tmp 28) = .bool true := hp.dep 15 (by kernel_rfl); exact relPureX (.bool true) (fun ρ hρ h1 h2 h3 => by rw [hρ] at a24 a28; simp [go_sem, ↓IntWalk.iteOmega, *]) rfl
  · refine relStep_plain rfl ?_; intro Ac w5 hp; have a29 : Ac.eval (.tmp 29) = .bool true := hp.dep 16 (by kernel_rfl); exact relPureX (.bool true) (fun ρ hρ h1 h2 h3 => by rw [hρ] at a29; simp [go_sem, ↓IntWalk.iteOmega, *]) rfl
  · refine relStep_guard (g := 17) (b := true) (x := true) rfl (by kernel_rfl) rfl (by kernel_rfl) rfl (fun _ _ h => h) ?_; intro Ac w5 hp; have a1 : Ac.eval (.tmp 1) = .pointer (some ⟨r, 0, none⟩) := hp.out 1 (by rfl); exact relPureX (.pointer (some ⟨r, 0, none⟩)) (fun ρ hρ h1 h2 h3 => by rw [hρ] at a1; simp [go_sem, ↓IntWalk.iteOmega, *]) rfl
  · refine relStep_guard (g := 17) (b := true) (x := true) rfl (by kernel_rfl) rfl (by kernel_rfl) rfl (fun _ _ h => h) ?_; intro Ac w5 hp; have hb := hp.bel; have a31 : Ac.eval (.tmp 31) = .pointer (some ⟨r, 0, none⟩) := hp.dep 18 (by kernel_rfl); obtain ⟨ρ, hρ, hc, hf, hgl⟩ := evalX Ac; rw [hρ] at a31; refine relCall hρ 25 #[.pointer (some ⟨r, 0, none⟩)] (by simp [go_sem, ↓IntWalk.iteOmega, *]) ?_; refine (qpend_any (HQ.out.below hb) (by decide)).mono ?_; rintro e w6 ⟨A6, n6, c6, rfl, hl6, hb6⟩; obtain rfl : n6 = 0 := (by have h1 := hl6.1; rw [HSm.out] at h1; exact h1.symm)
    exact ⟨_, rfl, ⟨A6, c6, rfl⟩, hb6⟩
  · refine relStep_guard (g := 17) (b := true) (x := true) rfl (by kernel_rfl) rfl (by kernel_rfl) rfl (fun _ _ h => h) ?_; intro Ac w5 hp; obtain ⟨A8, c8, a32⟩ := hp.dep 19 (by kernel_rfl); change Ac.eval (.tmp 32) = _ at a32; exact relPureX (.int .i64 0) (fun ρ hρ h1 h2 h3 => by rw [hρ] at a32; simp [go_sem, ↓IntWalk.iteOmega, *]) rfl
  · refine relStep_guard (g := 17) (b := true) (x := true) rfl (by kernel_rfl) rfl (by kernel_rfl) rfl (fun _ _ h => h) ?_; intro Ac w5 hp; have a33 : Ac.eval (.tmp 33) = .int .i64 0 := hp.dep 20 (by kernel_rfl); exact relPureX (.bool true) (fun ρ hρ h1 h2 h3 => by rw [hρ] at a33; simp [go_sem, ↓IntWalk.iteOmega, *]) rfl
  · refine relStep_plain rfl ?_; intro Ac w5 hp; have a30 : Ac.eval (.tmp 30) = .bool true := hp.dep 17 (by kernel_rfl); have a34 : Ac.eval (.tmp 34) = .bool true := hp.dep 21 (by kernel_rfl); exact relPureX (.bool true) (fun ρ hρ h1 h2 h3 => by rw [hρ] at a30 a34; simp [go_sem, ↓IntWalk.iteOmega, *]) rfl
  intro u w8 hb7 hall; have e35 : u 22 = .bool true := relAll_at hall (i := 22) (by decide +kernel); clear hall; simp only [List.drop_succ_cons, List.drop_zero, List.take_succ_cons, List.take_zero, putAll, Act.put, List.setIfInBounds_toArray, List.set_cons_zero, List.set_cons_succ, Nat.zero_add, Nat.reduceAdd, e35]; have HB8 := hide (HB5.out.trans (hb7.mono HB5.out.size)); clear hb7; go_wp2; go_ret; exact ⟨rfl, HB8.out⟩
end Go.Proofs.YtcinjckajnnhmaaGreat
set_option linter.unusedSimpArgs false
set_option linter.unusedVariables false
namespace Go.Proofs.YtcinjckajnnhmaaGreat
open Go.RowKit Go.WideShapes Go.ChangeShapes
attribute [local go_sem] Oper.semAt_some
set_option maxRecDepth 100000 in
set_option maxHeartbeats 16000000 in
theorem riboutSettles_any (m : Nat) (hm : m < 256) (A1 : Option Addr) (n1 c1 : Nat) (acts : List AC) (A2 : Option Addr) (n2 c2 : Nat) (l : List TD) (w : World) (h1 : LstAt 3 acR w A1 n1 c1 acts) (h2 : LstAt 11 tdQ w A2 n2 c2 l) :
    Calls Tryz.prog 4 #[.int .u8 (m : Nat), .slice A1 n1 c1, .slice A2 n2 c2] w fun e w' => e = .returned (.bool true) ∧ Below w.heap.size w w' := by
  have H1 := hide h1; have H2 := hide h2; have hnc1 := h1.2.1; have hmx1 := h1.2.2.1; unfold maxLen at hmx1; obtain ⟨N, hN⟩ : ∃ N, m % 20 = N := ⟨_, rfl⟩
  have hN20 : N < 20 := (by omega)
  have hm0 : (m : Int).tmod 20 = (N : Int) := (by rw [Int.tmod_eq_emod_of_nonneg (by omega)]; omega)
  have hw8 : IntKind.u8.wrap (N : Int) = (N : Int) := (by rw [IntKind.wrap_u8]; omega)
  have hw64 : IntKind.i64.wrap (N : Int) = (N : Int) := (by rw [IntKind.wrap_i64]; omega)
  have HNw := hide (qnew_any (N : Int) w); rw [inZ_nat (by omega)] at HNw; have HLv := hide lives36G_any; clear h1 h2 hm hN
  go_enter Tryz.func4, Tryz.ntmps4
  go_wp2_with fail
  refine HNw.out.mono ?_; rintro e w1 ⟨r, rfl, hq1, hb1⟩; have HQ1 := hide hq1; have HB1 := hide hb1; clear hq1 hb1
  go_upto_block 0 with fail
  go_cut [9] (fun s9 wc => ∃ (lf : Nat) (LA LT : List (Nat × Nat × AT)), RQ (fun j => w.heap.size ≤ j ∧ j < wc.heap.size) r N lf LA LT wc ∧ lf ≤ N ∧ LT.length ≤ 180 ∧ Below w.heap.size w wc)
  case first =>
    go_wp2_with fail
    go_loopw [9] (fun iv wr => ∃ (i lf : Nat) (LA LT : List (Nat × Nat × AT)), i ≤ n1 ∧ i ≤ 15 ∧ iv = .int .i64 (i : Nat) ∧ RQ (fun j => w.heap.size ≤ j ∧ j < wr.heap.size) r N lf LA LT wr ∧ lf ≤ N ∧ LT.length ≤ 12 * i ∧ Below w.heap.size w wr) (fun iv _ => n1 - (intOf iv).toNat)
    case atStart => exact ⟨0, 0, [], [], Nat.zero_le _, Nat.zero_le _, rfl, HQ1.out.cap (fun j hj hl => ⟨hj, hl⟩), Nat.zero_le _, by simp, HB1.out⟩
    case round =>
      obtain ⟨i, lf, LA, LT, hi, hi15, rfl, hq, hlf, hlt2, hbel⟩ := hrel; have HQ := hide hq; have HBe := hide hbel; have hsr := hbel.size; by_cases hlt : i < n1 ∧ i < 15
      · obtain ⟨hlt, hl15⟩ := hlt; obtain ⟨g, o, x, vs, rfl, hg, hx, _, ⟨B, k, c, rfl, hlq⟩, hcs⟩ := (H1.out.below acMono hbel).at_ hlt; have HLq := hide hlq; have f2 : wr.cell? ⟨g, o + i * 3 + 2, none⟩ = some (.slice B k c) := hcs 2 _ rfl; have q1 : (i : Int) < (n1 : Int) := (by omega)
        have q15 : (i : Int) < 15 := (by omega)
        have q0 : (0 : Int) ≤ (i : Int) := (by omega)
        have hwq : IntKind.i64.wrap ((i : Int) + 1) = (i : Int) + 1 := (by rw [IntKind.wrap_i64]; omega)
        obtain ⟨L, hL⟩ : ∃ L, (x.l.take 12).map cutTD = L := ⟨_, rfl⟩
        have HOk : Hid (∀ x ∈ L, TdOk x ∧ x.at_.path.length ≤ 100000) := hide (hL ▸ lstq_ok hlq); have HLl : Hid (L.length ≤ 12) := hide (by rw [← hL, List.length_map, List.length_take]; omega); have HFw := hide (fun W (hb : Below wr.heap.size wr W) => few36_any B k c x.l W ((lstq_of hlq).below tdMono hb)); rw [hL] at HFw; clear hq hbel hx hlq hcs hL
        go_wp2_with fail
        refine (HFw.out _ (Below.refl _ _)).mono ?_; rintro e w2 ⟨A3, n3, c3, xs3, rfl, hl3, hb2⟩; have hs2 := hb2.size; have HQ2 := hide (HQ.out.below hb2); have HB2 := hide (HBe.out.trans (hb2.mono hsr)); have hn3 : n3 ≤ 12 := (by have h1 := (hl3.lst (by decide)).1; have h2 := HLl.out; omega)
        have HL2 := hide ((LF.of_low hl3).more (F' := fun j => ¬ (w.heap.size ≤ j ∧ j < wr.heap.size)) (fun j hj h => by omega)); have HAi := hide (qaim_any A3 n3 c3 L HQ2.out HL2.out (fun x hx => (HOk.out x hx).1) (by omega)); clear hl3 hb2 f2
        go_wp2_with fail
        refine HAi.out.mono ?_; rintro e w3 ⟨rfl, hq3, hc3⟩; have hs3 := hc3.size; have HQ3 := hide hq3; have HB3 := hide (HB2.out.trans (chg_to_below hc3 (by omega) (fun k hk => hk.1))); have HGo := hide (qgone_any hq3); clear hq3 hc3
        go_wp2_with fail
        refine HGo.out.mono ?_; rintro e w4 ⟨A4, n4, c4, rfl, _, hq4, hc4⟩; have hs4 := hc4.size; have HB4 := hide (HB3.out.trans (chg_to_below hc4 (by omega) (fun k hk => hk.elim (fun h => h.1) (fun h => by omega)))); have HAl : Hid ((aimL L).length ≤ 12) := hide (by have := aimL_len L; have := HLl.out; omega); have hfl := List.length_filter_le (fun z => (lkL z.1 z.2.1 (aimL L)).isSome) LT; have HHe := hide (qhere2_any hq4 hlf (by have := HAl.out; omega)); have HFl := hide hfl; clear hq4 hc4 hfl
        go_wp2_with fail
        refine HHe.out.mono ?_; rintro e w5 ⟨A5, n5, c5, lf5, LT5, rfl, hq5, hl5, hn5, hc5⟩; have hs5 := hc5.size; have HB5 := hide (HB4.out.trans (chg_to_below hc5 (by omega) (fun k hk => hk.elim (fun h => h.elim (fun h => h.1) (fun h => by omega)) (fun h => by omega)))); have HQ5 := hide (hq5.cap (O' := fun j => w.heap.size ≤ j ∧ j < w5.heap.size) (fun j hj hl => ⟨hj.elim (fun h => h.elim (fun h => h.elim (fun h => h.1) (fun h => by omega)) (fun h => by omega)) (fun h => by omega), hl⟩)); have HN5 : Hid (LT5.length ≤ 12 * (i + 1)) := hide (by have := HAl.out; have := HFl.out; omega); clear hq5 hc5 hn5; go_wp2
        go_roundw
        case rel => exact ⟨i + 1, lf5, aimL L, LT5, by omega, by omega, by go_num, HQ5.out, hl5, HN5.out, HB5.out⟩
        case measure => simp [intOf]; omega
      · have HQm := hide hq; have HBm := hide hbel; have hLT : LT.length ≤ 180 := (by omega)
        clear hq hbel; by_cases hin : i < n1
        · have d2 : decide ((i : Int) < (n1 : Int)) = true := decide_eq_true (by omega); have d3 : decide ((i : Int) < 15) = false := decide_eq_false (by omega); clear hlt
          go_wp2_with fail
          go_meet
          exact ⟨lf, LA, LT, HQm.out, hlf, hLT, HBm.out⟩
        · have d2 : decide ((i : Int) < (n1 : Int)) = false := decide_eq_false (by omega); clear hlt
          go_wp2_with fail
          go_meet
          exact ⟨lf, LA, LT, HQm.out, hlf, hLT, HBm.out⟩
  case rest =>
    obtain ⟨lf, LA, LT, hq, hlf, hLT, hbel⟩ := hcut; obtain ⟨w6, h6⟩ : ∃ W, W = wc := ⟨_, rfl⟩
    subst h6; have HQ := hide hq; have HBe := hide hbel; have hsr := hbel.size; have HLT := hide hLT; obtain ⟨L, hL⟩ : ∃ L, (l.take 12).map cutTD = L := ⟨_, rfl⟩
    have HOk : Hid (∀ x ∈ L, TdOk x ∧ x.at_.path.length ≤ 100000) := hide (hL ▸ lstq_ok H2.out); have HLl : Hid (L.length ≤ 12) := hide (by rw [← hL, List.length_map, List.length_take]; omega); have HFw := hide (fun W (hb : Below w.heap.size w W) => few36_any A2 n2 c2 l W (lstq_of (H2.out.below tdqMono hb))); rw [hL] at HFw; clear hq hbel hL hLT
    go_wp2_with fail
    refine (HFw.out _ HBe.out).mono ?_; rintro e w7 ⟨A3, n3, c3, xs3, rfl, hl3, hb7⟩; have hs7 := hb7.size; have hn3 : n3 ≤ 12 := (by have h1 := (hl3.lst (by decide)).1; have h2 := HLl.out; omega)
    have HQ7 := hide (HQ.out.below hb7); have HL7 := hide ((LF.of_low hl3).more (F' := fun j => ¬ (w.heap.size ≤ j ∧ j < w6.heap.size)) (fun j hj h => by omega)); have HB7 := hide (HBe.out.trans (hb7.mono hsr)); have HAi := hide (qaim_any A3 n3 c3 L HQ7.out HL7.out (fun x hx => (HOk.out x hx).1) (by omega)); clear hl3 hb7
    go_wp2_with fail
    refine HAi.out.mono ?_; rintro e w8 ⟨rfl, hq8, hc8⟩; have hs8 := hc8.size; have HQ8 := hide (hq8.cap (O' := fun j => w.heap.size ≤ j ∧ j < w8.heap.size) (fun j hj hl => ⟨hj.elim (fun h => h.1) (fun h => by omega), hl⟩)); have HB8 := hide (HB7.out.trans (chg_to_below hc8 (by omega) (fun k hk => hk.1))); clear hq8 hc8 HQ7 HL7 HAi
    go_wp2_with fail
    refine (HFw.out _ HB8.out).mono ?_; rintro e w9 ⟨A4, n4, c4, xs4, rfl, hl4, hb9⟩; have hs9 := hb9.size; have hn4 : n4 ≤ 12 := (by have h1 := (hl4.lst (by decide)).1; have h2 := HLl.out; omega)
    have HRa := hide (refAim36_any A4 n4 c4 L w9 (hl4.lst (by decide)) HOk.out (by omega)); have HQ9 := hide (HQ8.out.below hb9); have HB9 := hide (HB8.out.trans (hb9.mono (by omega))); clear hl4 hb9
    go_wp2_with fail
    refine HRa.out.mono ?_; rintro e w10 ⟨A5, n5, c5, rfl, hlf5, hb10⟩; have hs10 := hb10.size; obtain ⟨OA, hOA⟩ : ∃ P : Nat → Prop, P = fun j => w.heap.size ≤ j ∧ ¬ (w9.heap.size ≤ j ∧ j < w10.heap.size) := ⟨_, rfl⟩
    obtain ⟨FA, hFA⟩ : ∃ P : Nat → Prop, (fun j => w9.heap.size ≤ j ∧ j < w10.heap.size) = P := ⟨_, rfl⟩
    have HOb : Hid (∀ j, OA j → w.heap.size ≤ j) := hide (fun j hj => by rw [hOA] at hj; exact hj.1); have HOf : Hid (∀ j, FA j → ¬ OA j) := hide (fun j hj h => by rw [hOA] at h; rw [← hFA] at hj; exact h.2 hj); have HOn : Hid (∀ j, w10.heap.size ≤ j → OA j) := hide (fun j hj => by rw [hOA]; exact ⟨by omega, fun h => by omega⟩); have HQ10 := hide ((HQ9.out.below hb10).more (O' := OA) (fun j hj => by rw [hOA]; exact ⟨hj.1, fun h => by omega⟩)); have HB10 := hide (HB9.out.trans (hb10.mono (by omega))); rw [hFA] at hlf5; obtain ⟨LA2, hLA2⟩ : ∃ K, aimL L = K := ⟨_, rfl⟩
    have HSA : Hid (LA2.Pairwise PLt) := hide (hLA2 ▸ aimL_sorted L); have HLA12 : Hid (LA2.length ≤ 12) := hide (by rw [← hLA2]; have := aimL_len L; have := HLl.out; omega); rw [hLA2] at HQ10 hlf5; have HLa10 := hide hlf5; have HGo := hide (qgone_any HQ10.out); clear hOA hFA hb10 hlf5 hLA2
    go_wp2_with fail
    refine HGo.out.mono ?_; rintro e w11 ⟨A6, n6, c6, rfl, _, hq11, hc11⟩; have hs11 := hc11.size; obtain ⟨T, hT⟩ : ∃ T, LT.filter (fun z => (lkL z.1 z.2.1 LA2).isSome) = T := ⟨_, rfl⟩
    have HKk : Hid (∀ z ∈ T, (lkL z.1 z.2.1 LA2).isSome = true) := hide (hT ▸ keep_keys); have HTl : Hid (T.length ≤ 180) := hide (by rw [← hT]; have := List.length_filter_le (fun z => (lkL z.1 z.2.1 LA2).isSome) LT; have := HLT.out; omega); rw [hT] at hq11; have HQ11 := hide (hq11.more (O' := OA) (fun j hj => hj.elim id (fun h => HOn.out j h))); have HLa11 := hide (HLa10.out.chg hc11 (fun k hk => HOf.out k hk)); have HB11 := hide (HB10.out.trans (chg_to_below hc11 (by omega) (fun k hk => HOb.out k hk))); have HPe := hide (qpend_any HQ11.out (by have := HTl.out; have := HLA12.out; omega)); have HST := hide HQ11.out.sorted.2; have HPg := hide HQ11.out.pg; clear hT hq11 hc11 HGo
    go_wp2_with fail
    refine HPe.out.mono ?_; rintro e w12 ⟨A7, P, c7, rfl, hp12, hb12⟩; have hs12 := hb12.size; have hPc := hp12.2.1; have hPm := hp12.2.2.1; unfold maxLen at hPm
    have HKg : Hid (∀ x ∈ keyL (LA2.filter (lackL T)) ++ keyL (T.filter (lackL LA2)), PG x.1 x.2) := hide (fun x hx => by
      rcases List.mem_append.1 hx with hx | hx
      · obtain ⟨z, hz, rfl⟩ := keyL_mem.1 hx; exact (HPg.out.1 z (List.mem_filter.1 hz).1).1
      · obtain ⟨z, hz, rfl⟩ := keyL_mem.1 hx; exact (HPg.out.2 z (List.mem_filter.1 hz).1).1)
    have HKin : Hid (∀ x ∈ sortP (keyL (LA2.filter (lackL T)) ++ keyL (T.filter (lackL LA2))), (lkL x.1 x.2 LA2).isSome = true) := hide (fun x hx => pend_in HSA.out HKk.out x ((sortP_mem HKg.out x).1 hx))
    have HP0 : Hid (LA2.filter (lackL T) = [] → P = 0) := hide (fun h => by
      have h1 := pend_some HSA.out HST.out HKk.out h; have h2 := hp12.1; rw [h1] at h2; have h3 := (sortP_none (l := []) (by simp)).2 rfl; omega)
    have HP12 := hide hp12; have HQ12 := hide (HQ11.out.below hb12); have HLa12 := hide (HLa11.out.below hb12); have HB12 := hide (HB11.out.trans (hb12.mono (by omega))); clear hp12 hb12 HPe HQ8 HQ9 HQ10 HRa HLa10 HLa11 HQ11; go_wp2
    go_loopw [12] (fun iv wr => ∃ j : Nat, j ≤ P ∧ iv = .int .i64 (j : Nat) ∧ Below w12.heap.size w12 wr) (fun iv _ => P - (intOf iv).toNat)
    case atStart => exact ⟨0, Nat.zero_le _, rfl, Below.refl _ _⟩
    case round =>
      obtain ⟨j, hj, rfl, hbel2⟩ := hrel; have HBe2 := hide hbel2; have hsr2 := hbel2.size; by_cases hjl : j < P
      · obtain ⟨g5, o5, a, b, rfl, hg5, hx5, f0, f1⟩ := PXat (HP12.out.below pxMono hbel2) hjl; have HIn : Hid ((lkL a b LA2).isSome = true) := hide (HKin.out (a, b) (List.mem_of_getElem? hx5)); have HAt := hide (refAt36_any A5 n5 c5 LA2 a b wr (lst_of_f (HLa12.out.below hbel2).lst)); have r1 : (j : Int) < (P : Int) := (by omega)
        have r0 : (0 : Int) ≤ (j : Int) := (by omega)
        have hwr : IntKind.i64.wrap ((j : Int) + 1) = (j : Int) + 1 := (by rw [IntKind.wrap_i64]; omega)
        clear hbel2 hx5
        go_wp2_with fail
        refine HAt.out.mono ?_; rintro e w14 ⟨k, rfl, hk, hb14⟩; have HB14 := hide (HBe2.out.trans (hb14.mono hsr2))
        obtain ⟨q, hkq⟩ : ∃ q : Nat, k = (q : Int) := by
          rcases hk with ⟨q, x, hkq, _⟩ | ⟨_, hno⟩
          · exact ⟨q, hkq⟩
          · have := HIn.out; rw [hno] at this
            cases this
        subst hkq; have dk : decide ((q : Int) < 0) = false := decide_eq_false (by omega); clear hk hb14; go_wp2
        go_roundw
        case rel => exact ⟨j + 1, by omega, by go_num, HB14.out⟩
        case measure => simp [intOf]; omega
      · obtain rfl : j = P := (by omega)
        have e1 : decide ((j : Int) < (j : Int)) = false := (by simp)
        obtain ⟨w13, h13⟩ : ∃ W, W = wr := ⟨_, rfl⟩
        subst h13; have HQ13 := hide (HQ12.out.below HBe2.out); have HLa13 := hide (HLa12.out.below HBe2.out); have HB13 := hide (HB12.out.trans (HBe2.out.mono (by omega))); clear hbel2 hjl
        go_upto_region 18 with fail
        go_cut [82] (fun s82 wc => s82 = .bool false ∧ ∃ (lf2 : Nat) (T2 : List (Nat × Nat × AT)), RQ OA r N lf2 LA2 T2 wc ∧ lf2 ≤ N ∧ (∀ z ∈ T2, (lkL z.1 z.2.1 LA2).isSome = true) ∧ T2.length ≤ 200 ∧ LF FA wc A5 n5 c5 (LA2.map tdZ) ∧ Below w.heap.size w wc ∧ w10.heap.size ≤ wc.heap.size)
        case first =>
          have hT2 : T.length ≤ 200 := (by have := HTl.out; omega)
          have hs13 : w10.heap.size ≤ w13.heap.size := (by omega)
          by_cases hP : j = 0
          · subst hP
            go_wp2_with fail
            go_meet
            exact ⟨rfl, lf, T, HQ13.out, hlf, HKk.out, hT2, HLa13.out, HB13.out, hs13⟩
          · have d67 : decide (0 < (j : Int)) = true := decide_eq_true (by omega); have d67' : decide (0 < j) = true := decide_eq_true (by omega); have p67 : 0 < j := (by omega)
            by_cases hN0 : N = 0
            · subst hN0
              go_wp2_with fail
              go_meet
              exact ⟨rfl, lf, T, HQ13.out, hlf, HKk.out, hT2, HLa13.out, HB13.out, hs13⟩
            · have d70 : decide (0 < (N : Int)) = true := decide_eq_true (by omega); have d70' : decide (0 < N) = true := decide_eq_true (by omega); have p70 : 0 < N := (by omega)
              have HLe := hide (qleft_any HQ13.out); by_cases hl0 : lf = 0
              · subst hl0; have HHe := hide (qhere_any HQ13.out (by have := HTl.out; have := HLA12.out; omega))
                go_wp2_with fail
                refine HLe.out.mono ?_; rintro e w14 ⟨rfl, rfl⟩
                go_wp2_with fail
                refine HHe.out.mono ?_; rintro e w15 ⟨A8, n8, c8, rfl, hl8, hq15, hn15, hc15⟩
                have hn8 : n8 ≠ 0 := fun e => by
                  have h1 := hl8.1; rw [e, List.length_map] at h1; exact hP (HP0.out (List.eq_nil_of_length_eq_zero h1))
                have d81 : ((n8 : Int) == 0) = false := (by simp; omega)
                have d81' : decide ((n8 : Int) = 0) = false := decide_eq_false (by omega); have p81 : ¬ n8 = 0 := hn8; rw [settle_fold HSA.out HST.out HKk.out] at hq15; have HQ15 := hide (hq15.more (O' := OA) (fun j hj => hj.elim id (fun h => HOn.out j (by omega)))); have HLa15 := hide (HLa13.out.chg hc15 (fun k hk => HOf.out k hk)); have HB15 := hide (HB13.out.trans (chg_to_below hc15 (by omega) (fun k hk => HOb.out k hk))); have hs15 : w10.heap.size ≤ w15.heap.size := Nat.le_trans hs13 hc15.size; clear hl8 hq15 hn15 hc15
                go_wp2_with fail
                go_meet
                exact ⟨rfl, _, LA2, HQ15.out, by split <;> omega, fun z hz => by rw [(lkL_mem (x := z.2.2) HSA.out).2 hz]; rfl, by have := HLA12.out; omega, HLa15.out, HB15.out, hs15⟩
              · have d75 : ((lf : Int) == 0) = false := (by simp; omega)
                have d75' : decide ((lf : Int) = 0) = false := decide_eq_false (by omega)
                go_wp2_with fail
                refine HLe.out.mono ?_; rintro e w14 ⟨rfl, rfl⟩
                go_wp2_with fail
                go_meet
                exact ⟨rfl, lf, T, HQ13.out, hlf, HKk.out, hT2, HLa13.out, HB13.out, hs13⟩
        case rest =>
          obtain ⟨rfl, lf2, T2, hq2, hlf2, hkk2, hT2, hla2, hb2, hs2⟩ := hcut; obtain ⟨w14, h14⟩ : ∃ W, W = wc := ⟨_, rfl⟩
          subst h14; have HQ14 := hide hq2; have HKk2 := hide hkk2; have HLa14 := hide hla2; have HB14 := hide hb2; clear hq2 hkk2 hla2 hb2; go_wp2
          go_loopw [13] (fun iv wr => ∃ (j lf3 : Nat), j ≤ N ∧ iv = .int .i64 (j : Nat) ∧ RQ OA r N lf3 LA2 T2 wr ∧ lf3 ≤ N - j ∧ LF FA wr A5 n5 c5 (LA2.map tdZ) ∧ Below w.heap.size w wr ∧ w10.heap.size ≤ wr.heap.size) (fun iv _ => N - (intOf iv).toNat)
          case atStart => exact ⟨0, lf2, Nat.zero_le _, rfl, HQ14.out, hlf2, HLa14.out, HB14.out, hs2⟩
          case round =>
            obtain ⟨j3, lf3, hj3, rfl, hq3, hlf3, hla3, hb3, hs3⟩ := hrel; have HQ3 := hide hq3; have HLa3 := hide hla3; have HB3 := hide hb3; by_cases hjl : j3 < N
            · have HTi := hide (qtick_any hq3 (by omega)); have r1 : (j3 : Int) < (N : Int) := (by omega)
              have hwr : IntKind.i64.wrap ((j3 : Int) + 1) = (j3 : Int) + 1 := (by rw [IntKind.wrap_i64]; omega)
              clear hq3 hla3 hb3
              go_wp2_with fail
              refine HTi.out.mono ?_; rintro e w15 ⟨rfl, hq15, hc15⟩; have HQ15 := hide hq15; have HLa15 := hide (HLa3.out.chg hc15 (fun k hk => HOf.out k hk)); have HB15 := hide (HB3.out.trans (chg_to_below hc15 (by omega) (fun k hk => HOb.out k hk))); have hs15 : w10.heap.size ≤ w15.heap.size := Nat.le_trans hs3 hc15.size; clear hq15 hc15; go_wp2
              go_roundw
              case rel => exact ⟨j3 + 1, lf3 - 1, by omega, by go_num, HQ15.out, by omega, HLa15.out, HB15.out, hs15⟩
              case measure => simp [intOf]; omega
            · obtain rfl : j3 = N := (by omega)
              obtain rfl : lf3 = 0 := (by omega)
              have e1 : decide ((j3 : Int) < (j3 : Int)) = false := (by simp)
              have HHe := hide (qhere_any hq3 (by have := HLA12.out; omega)); have HST2 := hide hq3.sorted.2; clear hq3 hla3 hb3 hjl
              go_wp2_with fail
              refine HHe.out.mono ?_; rintro e w16 ⟨A8, n8, c8, rfl, _, hq16, _, hc16⟩; rw [settle_fold HSA.out HST2.out HKk2.out] at hq16; have hpl := hq16.pg.1; have HTo := hide (qtold_any hq16); have HQ16 := hide hq16; have HLa16 := hide (HLa3.out.chg hc16 (fun k hk => HOf.out k hk)); have HB16 := hide (HB3.out.trans (chg_to_below hc16 (by omega) (fun k hk => HOb.out k hk))); have HPl := hide hpl; clear hq16 hc16 hpl
              go_wp2_with fail
              refine HTo.out.mono ?_; rintro e w17 ⟨A9, n9, c9, rfl, hl17, hb17⟩; have HSm := hide (toldSame_eq A9 A5 n9 c9 n5 c5 LA2 w17 hl17 (lst_of_f (HLa16.out.below hb17).lst) (fun z hz => (HPl.out z hz).2)); have HQ17 := hide (HQ16.out.below hb17); have HB17 := hide (HB16.out.trans (hb17.mono HB16.out.size)); clear hl17 hb17
              go_wp2_with fail
              refine HSm.out.mono ?_; rintro e w18 ⟨rfl, hb18⟩; have HPe := hide (qpend_any (HQ17.out.below hb18) (by have := HLA12.out; omega)); have HB18 := hide (HB17.out.trans (hb18.mono HB17.out.size)); clear hb18
              go_wp2_with fail
              refine HPe.out.mono ?_; rintro e w19 ⟨A10, n10, c10, rfl, hp19, hb19⟩
              obtain rfl : n10 = 0 := by
                have h1 := hp19.1; rw [settle_same HSA.out] at h1; have h3 := (sortP_none (l := []) (by simp)).2 rfl; have h4 : keyL ([] : List (Nat × Nat × AT)) ++ keyL ([] : List (Nat × Nat × AT)) = [] := rfl; rw [h4] at h1; omega
              have HB19 := hide (HB18.out.trans (hb19.mono HB18.out.size)); clear hp19 hb19
              go_wp2_with fail
              refine (HLv.out _).mono ?_; rintro e w20 ⟨rfl, hb20⟩; have HB20 := hide (HB19.out.trans (hb20.mono HB19.out.size)); clear hb20; go_wp2; go_ret; exact ⟨rfl, HB20.out⟩
end Go.Proofs.YtcinjckajnnhmaaGreat
set_option linter.unusedSimpArgs false
set_option linter.unusedVariables false
namespace Go.Proofs.YtcinjckajnnhmaaGreat
open Go.RowKit Go.WideShapes Go.ChangeShapes
attribute [local go_sem] Oper.semAt_some
abbrev atL (h o : Int) (A : Option Addr) (n c : Nat) (hp md pf aa ai : Int) (B : Option Addr) (m d : Nat) : List Value := [.int .i64 h, .int .i64 o, .slice A n c, .int .u32 hp, .int .u32 md, .int .u32 pf, .int .u32 aa, .int .u32 ai, .slice B m d]
end Go.Proofs.YtcinjckajnnhmaaGreat
set_option linter.unusedSimpArgs false
set_option linter.unusedVariables false
namespace Go.Proofs.YtcinjckajnnhmaaGreat
open Go.RowKit Go.WideShapes Go.ChangeShapes
set_option maxRecDepth 100000 in
theorem u32s_opens {H : Type} {enc : TypeId × Value → H} {W : World} {f : Nat} {v : Value} {x : DataW H × List MemPlace} (h : DataW.trod enc Tryz.prog W 0 (fun _ => true) true f 26 [v] = some x) :
  ∃ A n c l, v = .slice A n c ∧ U32s W A n c l := by
 have h1' : ∃ A n c, v = .slice A n c := by
  rcases DataW.trod_slice Tryz.underlying26 h with ⟨e, _⟩ | ⟨a, len, cap, elems, rest, n, _, e, _⟩
  ·exact ⟨none, 0, 0, by simpa using e⟩
  ·exact ⟨some a, len, cap, by simpa using e⟩
 obtain ⟨A, m, c, rfl⟩ := h1'; obtain ⟨l, hl⟩ := u32s_open (A := A) (n := m) (c := c) ⟨f, by simpa [Value.cells] using h⟩; exact ⟨A, m, c, l, rfl, hl⟩
set_option maxRecDepth 100000 in
theorem segs_open {H : Type} {enc : TypeId × Value → H} {W : World} {A : Option Addr} {n c : Nat} {d : DataW H} {p : List MemPlace}
    (h : DataW.Trod enc Tryz.prog W 0 (fun _ => true) true 25 (.slice A n c) d p) : ∃ l : List SG, LstAt 2 sgR W A n c l := by
  obtain ⟨fuel, hf⟩ := h
  obtain ⟨A', n', c', l, e, hl⟩ := lst_open (R := sgR) (sz := 2) Tryz.underlying25 (by kernel_rfl) (by decide) (fun f cs x hx => by
    obtain ⟨z0, z1, n, _, hl, g0, g1⟩ := trod_struct2 Tryz.underlying133 hx; have c2 : Tryz.prog.cellsOf 133 = 2 := (by kernel_rfl)
    have ci : Tryz.prog.cellsOf 3 = 1 := (by kernel_rfl)
    have cs1 : Tryz.prog.cellsOf 26 = 1 := (by kernel_rfl)
    rw [c2] at hl
    match cs, hl with
    | [v0, v1], _ =>
      simp only [ci, cs1, List.drop_zero, List.drop_succ_cons, List.take_succ_cons, List.take_zero] at g0 g1; obtain ⟨k, e0, _⟩ := DataW.trod_int Tryz.underlying3 g0; obtain ⟨A, m, c, l, rfl, hl⟩ := u32s_opens g1; simp only [List.cons.injEq, and_true] at e0; subst e0; exact ⟨⟨k, l⟩, A, m, c, rfl, hl⟩) hf
  obtain ⟨rfl, rfl, rfl⟩ : A = A' ∧ n = n' ∧ c = c' := (by simpa [Value.cells] using e)
  exact ⟨l, hl⟩
end Go.Proofs.YtcinjckajnnhmaaGreat
set_option linter.unusedSimpArgs false
set_option linter.unusedVariables false
namespace Go.Proofs.YtcinjckajnnhmaaGreat
open Go.RowKit Go.WideShapes Go.ChangeShapes Go.ChangeAt
theorem segs_opens {H : Type} {enc : TypeId × Value → H} {W : World} {f : Nat} {v : Value} {x : DataW H × List MemPlace} (h : DataW.trod enc Tryz.prog W 0 (fun _ => true) true f 25 [v] = some x) :
  ∃ A n c l, v = .slice A n c ∧ LstAt 2 sgR W A n c l := by
 have h1' : ∃ A n c, v = .slice A n c := by
  rcases DataW.trod_slice Tryz.underlying25 h with ⟨e, _⟩ | ⟨a, len, cap, elems, rest, n, _, e, _⟩
  ·exact ⟨none, 0, 0, by simpa using e⟩
  ·exact ⟨some a, len, cap, by simpa using e⟩
 obtain ⟨A, m, c, rfl⟩ := h1'; obtain ⟨l, hl⟩ := segs_open (A := A) (n := m) (c := c) ⟨f, by simpa [Value.cells] using h⟩; exact ⟨A, m, c, l, rfl, hl⟩
set_option maxRecDepth 100000 in
set_option maxHeartbeats 4000000 in
theorem at_opens {H : Type} {enc : TypeId × Value → H} {W : World} {f : Nat} {cs : List Value} {x : DataW H × List MemPlace} (h : DataW.trod enc Tryz.prog W 0 (fun _ => true) true f 28 cs = some x) : ∃ (X : AT) (A : Option Addr) (n c : Nat) (B : Option Addr) (m d : Nat), cs = atL X.has X.org A n c X.hop X.med X.pref X.aas X.aid B m d ∧ LstAt 2 sgR W A n c X.path ∧ U32s W B m d X.comms := by
 obtain ⟨xs, f2, _, rfl, hl, hlen, hf⟩ := DataW.trod_struct Tryz.underlying28 h; have c9 : Tryz.prog.cellsOf 28 = 9 := (by kernel_rfl)
 rw [c9] at hl
 match xs, hlen with
 | [y0, y1, y2, y3, y4, y5, y6, y7, y8], _ =>
 match cs, hl with
 | [v0, v1, v2, v3, v4, v5, v6, v7, v8], _ =>
  have h0 : DataW.trod enc Tryz.prog W 0 (fun _ => true) true f2 3 [v0] = some y0 := hf 0 _ rfl; have h1 : DataW.trod enc Tryz.prog W 0 (fun _ => true) true f2 3 [v1] = some y1 := hf 1 _ rfl; have h2 : DataW.trod enc Tryz.prog W 0 (fun _ => true) true f2 25 [v2] = some y2 := hf 2 _ rfl; have h3 : DataW.trod enc Tryz.prog W 0 (fun _ => true) true f2 22 [v3] = some y3 := hf 3 _ rfl; have h4 : DataW.trod enc Tryz.prog W 0 (fun _ => true) true f2 22 [v4] = some y4 := hf 4 _ rfl; have h5 : DataW.trod enc Tryz.prog W 0 (fun _ => true) true f2 22 [v5] = some y5 := hf 5 _ rfl; have h6 : DataW.trod enc Tryz.prog W 0 (fun _ => true) true f2 22 [v6] = some y6 := hf 6 _ rfl; have h7 : DataW.trod enc Tryz.prog W 0 (fun _ => true) true f2 22 [v7] = some y7 := hf 7 _ rfl; have h8 : DataW.trod enc Tryz.prog W 0 (fun _ => true) true f2 26 [v8] = some y8 := hf 8 _ rfl; clear hf; obtain ⟨q0, e0, _, j0⟩ := DataW.trod_int Tryz.underlying3 h0; obtain ⟨q1, e1, _, j1⟩ := DataW.trod_int Tryz.underlying3 h1; obtain ⟨A, n, c, pl, rfl, hP⟩ := segs_opens h2; obtain ⟨q3, e3, _, j3⟩ := DataW.trod_int Tryz.underlying22 h3; obtain ⟨q4, e4, _, j4⟩ := DataW.trod_int Tryz.underlying22 h4; obtain ⟨q5, e5, _, j5⟩ := DataW.trod_int Tryz.underlying22 h5; obtain ⟨q6, e6, _, j6⟩ := DataW.trod_int Tryz.underlying22 h6; obtain ⟨q7, e7, _, j7⟩ := DataW.trod_int Tryz.underlying22 h7; obtain ⟨B, m, d, cl, rfl, hC⟩ := u32s_opens h8; simp only [List.cons.injEq, and_true] at e0 e1 e3 e4 e5 e6 e7; subst e0 e1 e3 e4 e5 e6 e7; exact ⟨⟨q0, q1, pl, q3, q4, q5, q6, q7, cl⟩, A, n, c, B, m, d, rfl, hP, hC⟩
end Go.Proofs.YtcinjckajnnhmaaGreat
set_option linter.unusedSimpArgs false
set_option linter.unusedVariables false
namespace Go.Proofs.YtcinjckajnnhmaaGreat
open Go.RowKit Go.WideShapes Go.ChangeShapes Go.ChangeAt
set_option maxRecDepth 100000 in
set_option maxHeartbeats 4000000 in
theorem pf_opensR {H : Type} {enc : TypeId × Value → H} {W : World} {f : Nat} {cs : List Value} {x : DataW H × List MemPlace} (h : DataW.trod enc Tryz.prog W 0 (fun _ => true) true f 24 cs = some x) : ∃ (a : Nat) (b : Int), cs = [.int .u32 (a : Int), .int .i64 b] ∧ a < 4294967296 ∧ -9223372036854775808 ≤ b ∧ b ≤ 9223372036854775807 := by
 obtain ⟨xs, f2, _, rfl, hl, hlen, hf⟩ := DataW.trod_struct Tryz.underlying24 h; have c9 : Tryz.prog.cellsOf 24 = 2 := (by kernel_rfl)
 rw [c9] at hl
 match xs, hlen with
 | [y0, y1], _ =>
 match cs, hl with
 | [v0, v1], _ =>
  have h0 : DataW.trod enc Tryz.prog W 0 (fun _ => true) true f2 22 [v0] = some y0 := hf 0 _ rfl; have h1 : DataW.trod enc Tryz.prog W 0 (fun _ => true) true f2 3 [v1] = some y1 := hf 1 _ rfl; clear hf; obtain ⟨q0, e0, _, j0⟩ := DataW.trod_int Tryz.underlying22 h0; obtain ⟨q1, e1, _, j1⟩ := DataW.trod_int Tryz.underlying3 h1; simp only [List.cons.injEq, and_true] at e0 e1; subst e0 e1; have b0 : 0 ≤ q0 ∧ q0 ≤ 4294967295 := (by simpa [Lit.wf, IntKind.min, IntKind.max, IntKind.signed, IntKind.bits] using j0)
  have b1 : -9223372036854775808 ≤ q1 ∧ q1 ≤ 9223372036854775807 := (by simpa [Lit.wf, IntKind.min, IntKind.max, IntKind.signed, IntKind.bits] using j1)
  obtain ⟨a, rfl⟩ := Int.eq_ofNat_of_zero_le b0.1; exact ⟨a, q1, rfl, by omega, b1.1, b1.2⟩
end Go.Proofs.YtcinjckajnnhmaaGreat
set_option linter.unusedSimpArgs false
set_option linter.unusedVariables false
namespace Go.Proofs.YtcinjckajnnhmaaGreat
open Go.RowKit Go.WideShapes Go.ChangeShapes Go.ChangeAt
set_option maxRecDepth 100000 in
set_option maxHeartbeats 4000000 in
theorem td_opensQ {H : Type} {enc : TypeId × Value → H} {W : World} {f : Nat} {cs : List Value} {x : DataW H × List MemPlace} (h : DataW.trod enc Tryz.prog W 0 (fun _ => true) true f 71 cs = some x) : ∃ y, tdQ W cs y := by
 obtain ⟨xs, f2, _, rfl, hl, hlen, hf⟩ := DataW.trod_struct Tryz.underlying71 h; have c11 : Tryz.prog.cellsOf 71 = 11 := (by kernel_rfl)
 have cP : Tryz.prog.cellsOf 24 = 2 := (by kernel_rfl)
 have cA : Tryz.prog.cellsOf 28 = 9 := (by kernel_rfl)
 rw [c11] at hl
 match xs, hlen with
 | [y0, y1], _ =>
 match cs, hl with
 | [v0, v1, v2, v3, v4, v5, v6, v7, v8, v9, v10], _ =>
  have h0 : DataW.trod enc Tryz.prog W 0 (fun _ => true) true f2 24 [v0, v1] = some y0 := hf 0 _ rfl; have h1 : DataW.trod enc Tryz.prog W 0 (fun _ => true) true f2 28 [v2, v3, v4, v5, v6, v7, v8, v9, v10] = some y1 := hf 1 _ rfl; clear hf; obtain ⟨a, b, e0, hab, hb1, hb2⟩ := pf_opensR h0; obtain ⟨X, A, n, c, B, m, d, e1, hP, hC⟩ := at_opens h1; have e1 : [v2, v3, v4, v5, v6, v7, v8, v9, v10] = [.int .i64 X.has, .int .i64 X.org, .slice A n c, .int .u32 X.hop, .int .u32 X.med, .int .u32 X.pref, .int .u32 X.aas, .int .u32 X.aid, .slice B m d] := e1; simp only [List.cons.injEq, and_true] at e0 e1; obtain ⟨rfl, rfl⟩ := e0; obtain ⟨rfl, rfl, rfl, rfl, rfl, rfl, rfl, rfl, rfl⟩ := e1; exact ⟨⟨(a : Int), b, X⟩, ⟨A, n, c, B, m, d, rfl, hP, hC⟩, ⟨a, rfl, hab⟩, hb1, hb2⟩
theorem toldqs_open {H : Type} {enc : TypeId × Value → H} {W : World} {A : Option Addr} {n c : Nat} {d : DataW H} {p : List MemPlace}
  (h : DataW.Trod enc Tryz.prog W 0 (fun _ => true) true 51 (.slice A n c) d p) : ∃ l, LstAt 11 tdQ W A n c l := by
 obtain ⟨fuel, hf⟩ := h; obtain ⟨A', n', c', l, e, hl⟩ := lst_open (R := tdQ) (sz := 11) Tryz.underlying51 (by kernel_rfl) (by decide) (fun f cs x hx => td_opensQ hx) hf; have e2 : Value.slice A n c = .slice A' n' c' := (by simpa [Value.cells] using e)
 injection e2 with e1 e2 e3
 subst e1 e2 e3; exact ⟨l, hl⟩
theorem toldqs_opens {H : Type} {enc : TypeId × Value → H} {W : World} {f : Nat} {v : Value} {x : DataW H × List MemPlace} (h : DataW.trod enc Tryz.prog W 0 (fun _ => true) true f 51 [v] = some x) :
  ∃ A n c l, v = .slice A n c ∧ LstAt 11 tdQ W A n c l := by
 have h1' : ∃ A n c, v = .slice A n c := by
  rcases DataW.trod_slice Tryz.underlying51 h with ⟨e, _⟩ | ⟨a, len, cap, elems, rest, n, _, e, _⟩
  ·exact ⟨none, 0, 0, by simpa using e⟩
  ·exact ⟨some a, len, cap, by simpa using e⟩
 obtain ⟨A, m, c, rfl⟩ := h1'; obtain ⟨l, hl⟩ := toldqs_open (A := A) (n := m) (c := c) ⟨f, by simpa [Value.cells] using h⟩; exact ⟨A, m, c, l, rfl, hl⟩
set_option maxRecDepth 100000 in
set_option maxHeartbeats 4000000 in
theorem ac_opens {H : Type} {enc : TypeId × Value → H} {W : World} {f : Nat} {cs : List Value} {x : DataW H × List MemPlace} (h : DataW.trod enc Tryz.prog W 0 (fun _ => true) true f 57 cs = some x) : ∃ y, acR W cs y := by
 obtain ⟨xs, f2, _, rfl, hl, hlen, hf⟩ := DataW.trod_struct Tryz.underlying57 h; have c3 : Tryz.prog.cellsOf 57 = 3 := (by kernel_rfl)
 rw [c3] at hl
 match xs, hlen with
 | [y0, y1, y2], _ =>
 match cs, hl with
 | [v0, v1, v2], _ =>
  have h0 : DataW.trod enc Tryz.prog W 0 (fun _ => true) true f2 3 [v0] = some y0 := hf 0 _ rfl; have h1 : DataW.trod enc Tryz.prog W 0 (fun _ => true) true f2 3 [v1] = some y1 := hf 1 _ rfl; have h2 : DataW.trod enc Tryz.prog W 0 (fun _ => true) true f2 51 [v2] = some y2 := hf 2 _ rfl; clear hf; obtain ⟨q0, e0, _, j0⟩ := DataW.trod_int Tryz.underlying3 h0; obtain ⟨q1, e1, _, j1⟩ := DataW.trod_int Tryz.underlying3 h1; obtain ⟨A, n, c, l, rfl, hl2⟩ := toldqs_opens h2; simp only [List.cons.injEq, and_true] at e0 e1; subst e0 e1; exact ⟨⟨q0, q1, l⟩, A, n, c, rfl, hl2⟩
theorem acts_open {H : Type} {enc : TypeId × Value → H} {W : World} {A : Option Addr} {n c : Nat} {d : DataW H} {p : List MemPlace}
  (h : DataW.Trod enc Tryz.prog W 0 (fun _ => true) true 50 (.slice A n c) d p) : ∃ l, LstAt 3 acR W A n c l := by
 obtain ⟨fuel, hf⟩ := h; obtain ⟨A', n', c', l, e, hl⟩ := lst_open (R := acR) (sz := 3) Tryz.underlying50 (by kernel_rfl) (by decide) (fun f cs x hx => ac_opens hx) hf; have e2 : Value.slice A n c = .slice A' n' c' := (by simpa [Value.cells] using e)
 injection e2 with e1 e2 e3
 subst e1 e2 e3; exact ⟨l, hl⟩
end Go.Proofs.YtcinjckajnnhmaaGreat
set_option linter.unusedSimpArgs false
set_option linter.unusedVariables false
namespace Go.Proofs.YtcinjckajnnhmaaGreat
open Go.RowKit
structure GB (z : Nat) (j : Int) : Prop where
  lt : z < 4294967296
  good : goodB z j = true
end Go.Proofs.YtcinjckajnnhmaaGreat
