import Derived.Test.YtcinjckajnnhmaaGreatCo4
import Derived.WalkKit
import Derived.ProofKit
import Derived.OpenShut
import Derived.Below
import Derived.Laws.OwnMore
import Derived.Laws.Rows
import Derived.Laws.MakeOwn
import Derived.Deep.AppendLies
import Derived.Deep.Draws
import Derived.Deep.OwnRows
import Derived.Deep.QuietTactic
import Derived.Maps.AppendAt
import Derived.RegionTactic
import Derived.OwnWalk
import Derived.ChangeSame
import Derived.Outline
import Derived.BigQuiet
import Derived.WalkMore
import Derived.ScopeJumps
import Derived.WalkLawsBesides
import Derived.WalkSpells
import Derived.Laws.BitsLemmas
import Derived.Laws.BitsAllLaws
import Derived.WideKeyArgs
import Derived.Deep.DeepHandedRow
import Derived.Deep.DeepWitnessRowRef
import Derived.Lib.LaidTab
import Derived.Lib.AppendIntMem
import Derived.LaidMore
import Derived.MakeChecks
import Derived.Lib.Itoa
import Derived.Lib.ItoaMem
import Derived.Deep.Quiet
import Derived.Deep.Slices
import Derived.BigRegion
import Derived.Orders
import Derived.OrdersIn
import Derived.RangeFuncCalls
import Derived.Shelf.RegionOpen
import Derived.StillTailTactics
import Derived.Lib.PathFns
import Derived.Lib.IndexBytes
import Derived.RangeFuncWrites
import Derived.RangeFuncNested
import Derived.RangeFuncBound
import Derived.RangeFuncLeaves
import Derived.RangeFuncBox
import Derived.Shelf.Abstract
import Derived.OwnWalkIn
import Derived.TacticsInMore
import Derived.LoopNIn
import Derived.LoopIn
import Derived.Lib.SmallJoins
import Derived.Lib.ParseIntBCases
import Derived.Lib.IndexMore
import Derived.Shelf.Vars
import Derived.Lib.AtoiAllCases
import Derived.SliceStrings
import Derived.Deep.RegionLaw
import Derived.Sort.LotA
import Derived.BigRegionIn
import Derived.Deep.RegionHeld3
import Derived.RangeFuncOwn
import Derived.Sort.WalkA6
import Derived.Sort.WalkB3
import Derived.Sort.WalkC4
import Derived.Sort.WalkA14
import Derived.Sort.Walk11
import Derived.Sort.Walk7
import Derived.Sort.Walk13
import Derived.Sort.Row
import Derived.Lib.Walk
import Derived.Lib.Strings
import Derived.BigGuard
import Derived.BigCall
import Derived.CellFam
import Derived.Deep.LoopGhost
import Derived.Sort.LotC
import Derived.Deep.RegionWith
import Derived.RowKit
import Derived.Sort.LotD3
import Derived.Sort.LotD4
import Derived.Sort.Grow
import Derived.Sort.AtCall
import Derived.Sort.LotD5
import Derived.Laws.Bits64
import Derived.Laws.Bits64b
import Derived.Sort.EncStr
import Derived.Sort.LotD1
import Derived.Sort.LotB
import Derived.Deep.Cut
import Derived.Sort.Walk13a
import Derived.Sort.AssemblyPlain
import Derived.Shelf.Spec.SlicesInsertGrow
import Derived.Deep.MidRow
import Derived.Lib.RowBridge
import Derived.Laws.CopyOwn
import Derived.Lib.AppendZerosOnto
import Derived.Deep.DeepCutAuto
import Derived.Lib.Bytealg
import Derived.Shelf.Strings.SplitShaped
import Derived.Shelf.Strings.Prefix
import Derived.Shelf.Small.Strs
set_option linter.unusedSimpArgs false
set_option linter.unusedVariables false
namespace Go.Proofs.YtcinjckajnnhmaaGreat
open Go.RowKit Go.WideShapes Go.ChangeShapes
attribute [local go_sem] Oper.semAt_some
def BoLP (W : World) (R c L : Nat) (x : Value) : Prop := ∃ v, Blk W R 231 (ndC c L [.slice none 0 0] false 0 x v)
def BoRP (W : World) (R c L : Nat) (y : Value) : Prop := ∃ u, Blk W R 231 (ndC c L [.slice none 0 0] false 0 u y)
theorem boP_both {W : World} {R c L : Nat} {x y : Value} (h : BoLP W R c L x) (h2 : BoRP W R c L y) : Blk W R 231 (ndC c L [.slice none 0 0] false 0 x y) := by
  obtain ⟨v, h⟩ := h
  obtain ⟨u, h2⟩ := h2
  have e : some v = some y := (show W.cell? ⟨R, 6, none⟩ = some v from h.cell 6).symm.trans (h2.cell 6)
  injection e with e
  subst e
  exact h
theorem stP_ptr {W : World} {H f : Nat} {tc : TypeId} {cs : Array Value} {q : Option Addr} (h : Blk W H tc cs) (hf : cs[f]?.isSome = true) : (Instr.storeAt 220 (.pointer (some ⟨H, f, none⟩)) (.pointer q)).run Tryz.prog W = .ok () (W.setCell ⟨H, f, none⟩ (.pointer q)) := by
  have hc := h.cell f
  have hz := h.frozen f
  obtain ⟨x, hx⟩ := Option.isSome_iff_exists.1 hf
  rw [hx] at hc
  simp [go_sem, hc, hz]
set_option maxRecDepth 100000 in
set_option maxHeartbeats 32000000 in
theorem putP_any {α : Type} {F : Nat → Prop} {R : World → List Value → α → Prop} (x : α) (vA : Option Addr) (vn vc : Nat) (a n : Nat) : ∀ (t : Tr α) (w : World), PG a n → TrA 1 231 F R w t → (∀ k, F k → k < w.heap.size) → FrS F none (fun w => R w [.slice vA vn vc] x) w → trCnt t < 100000000 →
    Calls Tryz.prog 165 #[trPtr t, .agg #[.int .u32 (a : Int), .int .i64 (n : Int)], .slice vA vn vc] w fun e w' => ∃ t2, e = .returned (trPtr t2) ∧ PutR a n x t t2 ∧ TrA 1 231 F R w' t2 ∧ (∀ k ∈ trB t2, k ∈ trB t ∨ w.heap.size ≤ k) ∧ ChgS (fun k => k ∈ trB t) w w'
  | .nil, w, hPa, _, hF, hFv, _ => by
      refine (putnilP_any a n vA vn vc w).mono ?_
      rintro e w' ⟨b, rfl, hb, hk, hbel⟩
      refine ⟨.nd b a n (some x) .nil .nil, rfl, put_nil hPa x b, ⟨⟨⟨[.slice vA vn vc], ⟨rfl, by simp [Value.oneCell']⟩, hk, fun y hy => ?_⟩, trivial, trivial⟩, ⟨hPa, trivial, trivial, trivial, trivial⟩, by simp [trB], ?_⟩, ?_, chg_below hbel⟩
      · injection hy with hy
        subst hy
        exact frs_chg hFv (chg_below (S := fun _ => False) hbel) (by simp)
      · intro k hk2 hFk
        simp only [trB, List.append_nil, List.mem_singleton] at hk2
        subst hk2
        have := hF _ hFk
        omega
      · intro k hk2
        simp only [trB, List.append_nil, List.mem_singleton] at hk2
        subst hk2
        exact .inr hb
  | .nd b p m v l r, w, hPa, h, hF, hFv, hcn => by
      have IHl := putP_any (F := F) (R := R) x vA vn vc a n l
      have IHr := putP_any (F := F) (R := R) x vA vn vc a n r
      obtain ⟨vs, hd⟩ := h.node
      obtain ⟨v0, rfl⟩ := lenP hd.len
      have HD := hide hd
      have hPn := hd.wf.1
      obtain ⟨w0, hw0⟩ : ∃ w0, ((w.alloc (.cells #[.int .u32 (a : Int), .int .i64 (n : Int)] 24))).alloc (.cells #[.int .u32 (a : Int), .int .i64 (n : Int), .slice vA vn vc, .bool true, .int .i64 1, .pointer none, .pointer none] 231) = w0 := ⟨_, rfl⟩
      have hb0 : Below w.heap.size w w0 := hw0 ▸ blkBelow2 w _ _
      have HX : Hid (Blk w0 w.heap.size 24 #[.int .u32 (a : Int), .int .i64 (n : Int)]) := hide (hw0 ▸ (Blk.new w _ _).alloc _)
      have HFr : Hid (Blk w0 (w.heap.size + 1) 231 (ndC a n [.slice vA vn vc] true 1 (.pointer none) (.pointer none))) := hide (show Blk w0 (w.heap.size + 1) 231 #[.int .u32 (a : Int), .int .i64 (n : Int), .slice vA vn vc, .bool true, .int .i64 1, .pointer none, .pointer none] from hw0 ▸ blk_new' _ _ (by simp))
      have HN := hide (hd.blk.below hb0 hd.blk.lt)
      have HB := hide hb0
      have HW0 := hide hw0
      have HPa := hide hPa
      have HPn := hide hPn
      have HF := hide hF
      have HFv := hide hFv
      have hcn2 : trCnt l + trCnt r < 100000000 := by simp only [trCnt] at hcn; omega
      have HCn := hide hcn2
      have HCv := hide (fun W => cov_pg hPn hPa W)
      have HCv2 := hide (fun W => cov_pg hPa hPn W)
      have hPn32 := hPn.2.1
      have hPa32 := hPa.2.1
      obtain ⟨cn, hcn3⟩ : ∃ c, trCnt l + trCnt r + (if v.isSome then 1 else 0) = c := ⟨_, rfl⟩
      rw [hcn3] at HN
      have HCn3 := hide hcn3
      clear hw0 hb0 hd h hF hFv hcn hcn2 hcn3
      show Calls Tryz.prog 165 #[.pointer (some ⟨b, 0, none⟩), .agg #[.int .u32 (a : Int), .int .i64 (n : Int)], .slice vA vn vc] w _
      go_enter Tryz.func165, Tryz.ntmps165
      go_upto_region 4 with fail
      rw [HW0.out]
      by_cases he : p = a ∧ m = n
      · obtain rfl : a = p := he.1.symm
        obtain rfl : n = m := he.2.symm
        clear he
        have Hmn := hide (show AllMono [(fun v _ => v = .pointer (some ⟨b, 0, none⟩)), (fun v _ => v = .pointer (some ⟨b, 0, none⟩)), (fun v _ => v = .pointer (some ⟨b, 0, none⟩)), (fun v _ => v = .agg #[.int .u32 (a : Int), .int .i64 (n : Int)]), (fun v _ => v = .agg #[.int .u32 (a : Int), .int .i64 (n : Int)]), (fun v _ => v = .bool true)] from ⟨fun _ _ _ _ h => h, fun _ _ _ _ h => h, fun _ _ _ _ h => h, fun _ _ _ _ h => h, fun _ _ _ _ h => h, fun _ _ _ _ h => h, trivial⟩)
        refine wp_region_relT 6 _ (by kernel_rfl) (by kernel_rfl) (by kernel_rfl) (by kernel_rfl) (by kernel_rfl) (relMono _ Hmn.out) ⟨?_, ?_, ?_, ?_, ?_, ?_, trivial⟩ ?_
        · refine relStep_plain rfl ?_
          intro Ac w5 hp
          have hb := hp.bel
          have a0 : Ac.eval (.tmp 0) = .pointer (some ⟨b, 0, none⟩) := hp.out 0 (by rfl)
          have hc := evalC Ac; have hf := evalF Ac; have hgl := evalG Ac
          obtain ⟨ρ, hρ⟩ : ∃ ρ, Ac.eval = ρ := ⟨_, rfl⟩
          rw [hρ] at a0 hc hf hgl
          exact relPure hρ (.pointer (some ⟨b, 0, none⟩)) (by simp [go_sem, hc, hf, hgl, ↓IntWalk.iteOmega, a0, *]) rfl
        · refine relStep_plain rfl ?_
          intro Ac w5 hp
          have hb := hp.bel
          have a19 : Ac.eval (.tmp 19) = .pointer (some ⟨b, 0, none⟩) := hp.dep 0 (by kernel_rfl)
          have hc := evalC Ac; have hf := evalF Ac; have hgl := evalG Ac
          obtain ⟨ρ, hρ⟩ : ∃ ρ, Ac.eval = ρ := ⟨_, rfl⟩
          rw [hρ] at a19 hc hf hgl
          exact relPure hρ (.pointer (some ⟨b, 0, none⟩)) (by simp [go_sem, hc, hf, hgl, ↓IntWalk.iteOmega, a19, *]) rfl
        · refine relStep_plain rfl ?_
          intro Ac w5 hp
          have hb := hp.bel
          have a20 : Ac.eval (.tmp 20) = .pointer (some ⟨b, 0, none⟩) := hp.dep 1 (by kernel_rfl)
          have hc := evalC Ac; have hf := evalF Ac; have hgl := evalG Ac
          obtain ⟨ρ, hρ⟩ : ∃ ρ, Ac.eval = ρ := ⟨_, rfl⟩
          rw [hρ] at a20 hc hf hgl
          exact relPure hρ (.pointer (some ⟨b, 0, none⟩)) (by simp [go_sem, hc, hf, hgl, ↓IntWalk.iteOmega, a20, *]) rfl
        · refine relStep_plain rfl ?_
          intro Ac w5 hp
          have hb := hp.bel
          have a21 : Ac.eval (.tmp 21) = .pointer (some ⟨b, 0, none⟩) := hp.dep 2 (by kernel_rfl)
          have hk5 := HN.out.below hb HN.out.lt
          have hx5 := HX.out.below hb HX.out.lt
          have y0 : w5.cell? ⟨b, 0, none⟩ = some (.int .u32 (a : Int)) := hk5.cell 0
          have y1 : w5.cell? ⟨b, 1, none⟩ = some (.int .i64 (n : Int)) := hk5.cell 1
          have x0 : w5.cell? ⟨w.heap.size, 0, none⟩ = some (.int .u32 (a : Int)) := hx5.cell 0
          have x1 : w5.cell? ⟨w.heap.size, 1, none⟩ = some (.int .i64 (n : Int)) := hx5.cell 1
          have hc := evalC Ac; have hf := evalF Ac; have hgl := evalG Ac
          obtain ⟨ρ, hρ⟩ : ∃ ρ, Ac.eval = ρ := ⟨_, rfl⟩
          rw [hρ] at a21 hc hf hgl
          exact relPure hρ (.agg #[.int .u32 (a : Int), .int .i64 (n : Int)]) (by simp [go_sem, hc, hf, hgl, ↓IntWalk.iteOmega, a21, *]) rfl
        · refine relStep_plain rfl ?_
          intro Ac w5 hp
          have hb := hp.bel
          have a4 : Ac.eval (.tmp 4) = .pointer (some ⟨w.heap.size, 0, none⟩) := hp.out 4 (by rfl)
          have hk5 := HN.out.below hb HN.out.lt
          have hx5 := HX.out.below hb HX.out.lt
          have y0 : w5.cell? ⟨b, 0, none⟩ = some (.int .u32 (a : Int)) := hk5.cell 0
          have y1 : w5.cell? ⟨b, 1, none⟩ = some (.int .i64 (n : Int)) := hk5.cell 1
          have x0 : w5.cell? ⟨w.heap.size, 0, none⟩ = some (.int .u32 (a : Int)) := hx5.cell 0
          have x1 : w5.cell? ⟨w.heap.size, 1, none⟩ = some (.int .i64 (n : Int)) := hx5.cell 1
          have hc := evalC Ac; have hf := evalF Ac; have hgl := evalG Ac
          obtain ⟨ρ, hρ⟩ : ∃ ρ, Ac.eval = ρ := ⟨_, rfl⟩
          rw [hρ] at a4 hc hf hgl
          exact relPure hρ (.agg #[.int .u32 (a : Int), .int .i64 (n : Int)]) (by simp [go_sem, hc, hf, hgl, ↓IntWalk.iteOmega, a4, *]) rfl
        · refine relStep_plain rfl ?_
          intro Ac w5 hp
          have hb := hp.bel
          have a22 : Ac.eval (.tmp 22) = .agg #[.int .u32 (a : Int), .int .i64 (n : Int)] := hp.dep 3 (by kernel_rfl)
          have a23 : Ac.eval (.tmp 23) = .agg #[.int .u32 (a : Int), .int .i64 (n : Int)] := hp.dep 4 (by kernel_rfl)
          have hc := evalC Ac; have hf := evalF Ac; have hgl := evalG Ac
          obtain ⟨ρ, hρ⟩ : ∃ ρ, Ac.eval = ρ := ⟨_, rfl⟩
          rw [hρ] at a22 a23 hc hf hgl
          exact relPure hρ (.bool true) (by simp [go_sem, hc, hf, hgl, ↓IntWalk.iteOmega, a22, a23, *]) rfl
        intro u w4 hb7 hall
        have e24 : u 5 = .bool true := relAll_at hall (i := 5) (by decide +kernel)
        clear hall
        simp only [List.drop_succ_cons, List.drop_zero, List.take_succ_cons, List.take_zero, putAll, Act.put, List.setIfInBounds_toArray, List.set_cons_zero, List.set_cons_succ, Nat.zero_add, Nat.reduceAdd, e24]
        have HB4 := hide (HB.out.trans (hb7.mono HB.out.size))
        have HN4 := hide (HN.out.below hb7 HN.out.lt)
        have q0 : w4.cell? ⟨b, 2, none⟩ = some v0 := HN4.out.cell 2
        have yp : w4.cell? ⟨b, 3, none⟩ = some (.bool v.isSome) := HN4.out.cell 3
        have zf := fun i => HN4.out.frozen i
        clear hb7 HB HN HX HFr
        go_upto_region 6 with fail
        change Code.wp _ _ _ _ ((w4.setCells b 2 [.slice vA vn vc]).setCell ⟨b, 3, none⟩ (.bool true))
        obtain ⟨w5, hw5⟩ : ∃ W, (w4.setCells b 2 [.slice vA vn vc]).setCell ⟨b, 3, none⟩ (.bool true) = W := ⟨_, rfl⟩
        have hN4a : Blk (w4.setCells b 2 [.slice vA vn vc]) b 231 (ndC a n [.slice vA vn vc] v.isSome cn (trPtr l) (trPtr r)) := blk_setsM [.bool v.isSome, .int .i64 (cn : Int), trPtr l, trPtr r] [.slice vA vn vc] [.int .u32 (a : Int), .int .i64 (n : Int)] [v0] HN4.out rfl
        have HN5 : Hid (Blk w5 b 231 (ndC a n [.slice vA vn vc] true cn (trPtr l) (trPtr r))) := hide (hw5 ▸ hN4a.set_ 3 _)
        have HC5 : Hid (ChgS (fun k => k = b) w w5) := hide (hw5 ▸ chg_trans (chg_trans (chg_below HB4.out) (chg_sets (S := fun k => k = b) rfl [.slice vA vn vc] 2) (fun k h => .inl h)) (chg_set (S := fun k => k = b) (p := ⟨b, 3, none⟩) rfl _) (fun k h => .inl h))
        have hFb : ∀ k, F k → ¬ (k = b) := fun k h e => HD.out.bf (e ▸ h)
        have HNt := hide (noteP_any (F := F) (R := R) b a n [.slice vA vn vc] ⟨rfl, by simp [Value.oneCell']⟩ true cn l r w5 HN5.out (HD.out.left.chg HC5.out (fun k hk e => HD.out.bl (e ▸ hk)) hFb).mem (HD.out.right.chg HC5.out (fun k hk e => HD.out.br (e ▸ hk)) hFb).mem (by have := HCn.out; omega))
        rw [hw5]
        clear hw5 hN4a hFb yp zf q0
        go_wp2_with fail
        refine HNt.out.mono ?_
        rintro e w6 ⟨rfl, hk6, hc6⟩
        have HK6 := hide hk6
        have HC6 : Hid (ChgS (fun k => k = b) w w6) := hide (chg_trans HC5.out hc6 (fun k h => .inl h))
        clear hk6 hc6
        go_wp2
        go_ret
        exact ⟨_, rfl, put_here HD.out.wf x, nd_here HD.out ⟨rfl, by simp [Value.oneCell']⟩ HFv.out HC6.out HK6.out, fun k hk => .inl hk, chg_mono HC6.out (fun k h => .inl (by simp [trB, h]))⟩
      have HNe := hide (show (p : Int) = (a : Int) → ¬ (m : Int) = (n : Int) from fun h1 h2 => he ⟨by omega, by omega⟩)
      have HE := hide he
      clear he
      have Hmn := hide (show AllMono [(fun v _ => v = .pointer (some ⟨b, 0, none⟩)), (fun v _ => v = .pointer (some ⟨b, 0, none⟩)), (fun v _ => v = .pointer (some ⟨b, 0, none⟩)), (fun v _ => v = .agg #[.int .u32 (p : Int), .int .i64 (m : Int)]), (fun v _ => v = .agg #[.int .u32 (a : Int), .int .i64 (n : Int)]), (fun v _ => v = .bool false)] from ⟨fun _ _ _ _ h => h, fun _ _ _ _ h => h, fun _ _ _ _ h => h, fun _ _ _ _ h => h, fun _ _ _ _ h => h, fun _ _ _ _ h => h, trivial⟩)
      refine wp_region_relT 6 _ (by kernel_rfl) (by kernel_rfl) (by kernel_rfl) (by kernel_rfl) (by kernel_rfl) (relMono _ Hmn.out) ⟨?_, ?_, ?_, ?_, ?_, ?_, trivial⟩ ?_
      · refine relStep_plain rfl ?_
        intro Ac w5 hp
        have hb := hp.bel
        have a0 : Ac.eval (.tmp 0) = .pointer (some ⟨b, 0, none⟩) := hp.out 0 (by rfl)
        have hc := evalC Ac; have hf := evalF Ac; have hgl := evalG Ac
        obtain ⟨ρ, hρ⟩ : ∃ ρ, Ac.eval = ρ := ⟨_, rfl⟩
        rw [hρ] at a0 hc hf hgl
        exact relPure hρ (.pointer (some ⟨b, 0, none⟩)) (by simp [go_sem, hc, hf, hgl, ↓IntWalk.iteOmega, a0, *]) rfl
      · refine relStep_plain rfl ?_
        intro Ac w5 hp
        have hb := hp.bel
        have a19 : Ac.eval (.tmp 19) = .pointer (some ⟨b, 0, none⟩) := hp.dep 0 (by kernel_rfl)
        have hc := evalC Ac; have hf := evalF Ac; have hgl := evalG Ac
        obtain ⟨ρ, hρ⟩ : ∃ ρ, Ac.eval = ρ := ⟨_, rfl⟩
        rw [hρ] at a19 hc hf hgl
        exact relPure hρ (.pointer (some ⟨b, 0, none⟩)) (by simp [go_sem, hc, hf, hgl, ↓IntWalk.iteOmega, a19, *]) rfl
      · refine relStep_plain rfl ?_
        intro Ac w5 hp
        have hb := hp.bel
        have a20 : Ac.eval (.tmp 20) = .pointer (some ⟨b, 0, none⟩) := hp.dep 1 (by kernel_rfl)
        have hc := evalC Ac; have hf := evalF Ac; have hgl := evalG Ac
        obtain ⟨ρ, hρ⟩ : ∃ ρ, Ac.eval = ρ := ⟨_, rfl⟩
        rw [hρ] at a20 hc hf hgl
        exact relPure hρ (.pointer (some ⟨b, 0, none⟩)) (by simp [go_sem, hc, hf, hgl, ↓IntWalk.iteOmega, a20, *]) rfl
      · refine relStep_plain rfl ?_
        intro Ac w5 hp
        have hb := hp.bel
        have a21 : Ac.eval (.tmp 21) = .pointer (some ⟨b, 0, none⟩) := hp.dep 2 (by kernel_rfl)
        have hk5 := HN.out.below hb HN.out.lt
        have hx5 := HX.out.below hb HX.out.lt
        have y0 : w5.cell? ⟨b, 0, none⟩ = some (.int .u32 (p : Int)) := hk5.cell 0
        have y1 : w5.cell? ⟨b, 1, none⟩ = some (.int .i64 (m : Int)) := hk5.cell 1
        have x0 : w5.cell? ⟨w.heap.size, 0, none⟩ = some (.int .u32 (a : Int)) := hx5.cell 0
        have x1 : w5.cell? ⟨w.heap.size, 1, none⟩ = some (.int .i64 (n : Int)) := hx5.cell 1
        have hc := evalC Ac; have hf := evalF Ac; have hgl := evalG Ac
        obtain ⟨ρ, hρ⟩ : ∃ ρ, Ac.eval = ρ := ⟨_, rfl⟩
        rw [hρ] at a21 hc hf hgl
        exact relPure hρ (.agg #[.int .u32 (p : Int), .int .i64 (m : Int)]) (by simp [go_sem, hc, hf, hgl, ↓IntWalk.iteOmega, a21, *]) rfl
      · refine relStep_plain rfl ?_
        intro Ac w5 hp
        have hb := hp.bel
        have a4 : Ac.eval (.tmp 4) = .pointer (some ⟨w.heap.size, 0, none⟩) := hp.out 4 (by rfl)
        have hk5 := HN.out.below hb HN.out.lt
        have hx5 := HX.out.below hb HX.out.lt
        have y0 : w5.cell? ⟨b, 0, none⟩ = some (.int .u32 (p : Int)) := hk5.cell 0
        have y1 : w5.cell? ⟨b, 1, none⟩ = some (.int .i64 (m : Int)) := hk5.cell 1
        have x0 : w5.cell? ⟨w.heap.size, 0, none⟩ = some (.int .u32 (a : Int)) := hx5.cell 0
        have x1 : w5.cell? ⟨w.heap.size, 1, none⟩ = some (.int .i64 (n : Int)) := hx5.cell 1
        have hc := evalC Ac; have hf := evalF Ac; have hgl := evalG Ac
        obtain ⟨ρ, hρ⟩ : ∃ ρ, Ac.eval = ρ := ⟨_, rfl⟩
        rw [hρ] at a4 hc hf hgl
        exact relPure hρ (.agg #[.int .u32 (a : Int), .int .i64 (n : Int)]) (by simp [go_sem, hc, hf, hgl, ↓IntWalk.iteOmega, a4, *]) rfl
      · refine relStep_plain rfl ?_
        intro Ac w5 hp
        have hb := hp.bel
        have a22 : Ac.eval (.tmp 22) = .agg #[.int .u32 (p : Int), .int .i64 (m : Int)] := hp.dep 3 (by kernel_rfl)
        have a23 : Ac.eval (.tmp 23) = .agg #[.int .u32 (a : Int), .int .i64 (n : Int)] := hp.dep 4 (by kernel_rfl)
        have hc := evalC Ac; have hf := evalF Ac; have hgl := evalG Ac
        obtain ⟨ρ, hρ⟩ : ∃ ρ, Ac.eval = ρ := ⟨_, rfl⟩
        rw [hρ] at a22 a23 hc hf hgl
        exact relPure hρ (.bool false) (by simp [go_sem, hc, hf, hgl, ↓IntWalk.iteOmega, a22, a23, *]; exact HNe.out) rfl
      intro u w4 hb7 hall
      have e24 : u 5 = .bool false := relAll_at hall (i := 5) (by decide +kernel)
      clear hall
      simp only [List.drop_succ_cons, List.drop_zero, List.take_succ_cons, List.take_zero, putAll, Act.put, List.setIfInBounds_toArray, List.set_cons_zero, List.set_cons_succ, Nat.zero_add, Nat.reduceAdd, e24]
      have HB4 := hide (HB.out.trans (hb7.mono HB.out.size))
      have HN4 := hide (HN.out.below hb7 HN.out.lt)
      have HX4 := hide (HX.out.below hb7 HX.out.lt)
      have HFr4 := hide (HFr.out.below hb7 HFr.out.lt)
      clear hb7 HB HN HX HFr
      have HB := hide HB4.out
      have HN := hide HN4.out
      have HX := hide HX4.out
      have HFr := hide HFr4.out
      clear HB4 HN4 HX4 HFr4
      by_cases hcv : CvN p m a n
      · rw [decide_eq_true hcv] at HCv
        have HCvP := hide hcv
        have hlt : m < n := Nat.lt_of_le_of_ne hcv.1 fun e => HE.out ⟨cvN_same hcv HPa.out e, e⟩
        have HSd := hide (fun W => side_any p m a n HPa.out.1 (by omega) W)
        clear hcv
        go_upto_region 7 with fail
        have Hmn := hide (show AllMono [(fun v _ => v = .pointer (some ⟨b, 0, none⟩)), (fun v _ => v = .pointer (some ⟨b, 0, none⟩)), (fun v _ => v = .pointer (some ⟨b, 0, none⟩)), (fun v _ => v = .agg #[.int .u32 (p : Int), .int .i64 (m : Int)]), (fun v _ => v = .agg #[.int .u32 (a : Int), .int .i64 (n : Int)]), (fun v _ => v = .bool true)] from ⟨fun _ _ _ _ h => h, fun _ _ _ _ h => h, fun _ _ _ _ h => h, fun _ _ _ _ h => h, fun _ _ _ _ h => h, fun _ _ _ _ h => h, trivial⟩)
        refine wp_region_relT 6 _ (by kernel_rfl) (by kernel_rfl) (by kernel_rfl) (by kernel_rfl) (by kernel_rfl) (relMono _ Hmn.out) ⟨?_, ?_, ?_, ?_, ?_, ?_, trivial⟩ ?_
        · refine relStep_plain rfl ?_
          intro Ac w5 hp
          have hb := hp.bel
          have a0 : Ac.eval (.tmp 0) = .pointer (some ⟨b, 0, none⟩) := hp.out 0 (by rfl)
          have hc := evalC Ac; have hf := evalF Ac; have hgl := evalG Ac
          obtain ⟨ρ, hρ⟩ : ∃ ρ, Ac.eval = ρ := ⟨_, rfl⟩
          rw [hρ] at a0 hc hf hgl
          exact relPure hρ (.pointer (some ⟨b, 0, none⟩)) (by simp [go_sem, hc, hf, hgl, ↓IntWalk.iteOmega, a0, *]) rfl
        · refine relStep_plain rfl ?_
          intro Ac w5 hp
          have hb := hp.bel
          have a35 : Ac.eval (.tmp 35) = .pointer (some ⟨b, 0, none⟩) := hp.dep 0 (by kernel_rfl)
          have hc := evalC Ac; have hf := evalF Ac; have hgl := evalG Ac
          obtain ⟨ρ, hρ⟩ : ∃ ρ, Ac.eval = ρ := ⟨_, rfl⟩
          rw [hρ] at a35 hc hf hgl
          exact relPure hρ (.pointer (some ⟨b, 0, none⟩)) (by simp [go_sem, hc, hf, hgl, ↓IntWalk.iteOmega, a35, *]) rfl
        · refine relStep_plain rfl ?_
          intro Ac w5 hp
          have hb := hp.bel
          have a36 : Ac.eval (.tmp 36) = .pointer (some ⟨b, 0, none⟩) := hp.dep 1 (by kernel_rfl)
          have hc := evalC Ac; have hf := evalF Ac; have hgl := evalG Ac
          obtain ⟨ρ, hρ⟩ : ∃ ρ, Ac.eval = ρ := ⟨_, rfl⟩
          rw [hρ] at a36 hc hf hgl
          exact relPure hρ (.pointer (some ⟨b, 0, none⟩)) (by simp [go_sem, hc, hf, hgl, ↓IntWalk.iteOmega, a36, *]) rfl
        · refine relStep_plain rfl ?_
          intro Ac w5 hp
          have hb := hp.bel
          have a37 : Ac.eval (.tmp 37) = .pointer (some ⟨b, 0, none⟩) := hp.dep 2 (by kernel_rfl)
          have hk5 := HN.out.below hb HN.out.lt
          have hx5 := HX.out.below hb HX.out.lt
          have y0 : w5.cell? ⟨b, 0, none⟩ = some (.int .u32 (p : Int)) := hk5.cell 0
          have y1 : w5.cell? ⟨b, 1, none⟩ = some (.int .i64 (m : Int)) := hk5.cell 1
          have x0 : w5.cell? ⟨w.heap.size, 0, none⟩ = some (.int .u32 (a : Int)) := hx5.cell 0
          have x1 : w5.cell? ⟨w.heap.size, 1, none⟩ = some (.int .i64 (n : Int)) := hx5.cell 1
          have hc := evalC Ac; have hf := evalF Ac; have hgl := evalG Ac
          obtain ⟨ρ, hρ⟩ : ∃ ρ, Ac.eval = ρ := ⟨_, rfl⟩
          rw [hρ] at a37 hc hf hgl
          exact relPure hρ (.agg #[.int .u32 (p : Int), .int .i64 (m : Int)]) (by simp [go_sem, hc, hf, hgl, ↓IntWalk.iteOmega, a37, *]) rfl
        · refine relStep_plain rfl ?_
          intro Ac w5 hp
          have hb := hp.bel
          have a4 : Ac.eval (.tmp 4) = .pointer (some ⟨w.heap.size, 0, none⟩) := hp.out 4 (by rfl)
          have hk5 := HN.out.below hb HN.out.lt
          have hx5 := HX.out.below hb HX.out.lt
          have y0 : w5.cell? ⟨b, 0, none⟩ = some (.int .u32 (p : Int)) := hk5.cell 0
          have y1 : w5.cell? ⟨b, 1, none⟩ = some (.int .i64 (m : Int)) := hk5.cell 1
          have x0 : w5.cell? ⟨w.heap.size, 0, none⟩ = some (.int .u32 (a : Int)) := hx5.cell 0
          have x1 : w5.cell? ⟨w.heap.size, 1, none⟩ = some (.int .i64 (n : Int)) := hx5.cell 1
          have hc := evalC Ac; have hf := evalF Ac; have hgl := evalG Ac
          obtain ⟨ρ, hρ⟩ : ∃ ρ, Ac.eval = ρ := ⟨_, rfl⟩
          rw [hρ] at a4 hc hf hgl
          exact relPure hρ (.agg #[.int .u32 (a : Int), .int .i64 (n : Int)]) (by simp [go_sem, hc, hf, hgl, ↓IntWalk.iteOmega, a4, *]) rfl
        · refine relStep_plain rfl ?_
          intro Ac w5 hp
          have hb := hp.bel
          have a38 : Ac.eval (.tmp 38) = .agg #[.int .u32 (p : Int), .int .i64 (m : Int)] := hp.dep 3 (by kernel_rfl)
          have a39 : Ac.eval (.tmp 39) = .agg #[.int .u32 (a : Int), .int .i64 (n : Int)] := hp.dep 4 (by kernel_rfl)
          have hc := evalC Ac; have hf := evalF Ac; have hgl := evalG Ac
          obtain ⟨ρ, hρ⟩ : ∃ ρ, Ac.eval = ρ := ⟨_, rfl⟩
          rw [hρ] at a38 a39 hc hf hgl
          refine relCall hρ 185 #[.agg #[.int .u32 (p : Int), .int .i64 (m : Int)], .agg #[.int .u32 (a : Int), .int .i64 (n : Int)]] (by simp [go_sem, hc, hf, hgl, ↓IntWalk.iteOmega, a38, a39, *]) ?_
          refine (HCv.out w5).mono ?_
          rintro e w6 ⟨rfl, hb6⟩
          exact ⟨_, rfl, rfl, hb6⟩
        intro u w7 hb7 hall
        have e40 : u 5 = .bool true := relAll_at hall (i := 5) (by decide +kernel)
        clear hall
        simp only [List.drop_succ_cons, List.drop_zero, List.take_succ_cons, List.take_zero, putAll, Act.put, List.setIfInBounds_toArray, List.set_cons_zero, List.set_cons_succ, Nat.zero_add, Nat.reduceAdd, e40]
        have HB7 := hide (HB.out.trans (hb7.mono HB.out.size))
        have HN7 := hide (HN.out.below hb7 HN.out.lt)
        have HX7 := hide (HX.out.below hb7 HX.out.lt)
        clear hb7 HB HN HX HFr
        have HB := hide HB7.out
        have HN := hide HN7.out
        have HX := hide HX7.out
        clear HB7 HN7 HX7
        rcases bitN_01 a m with hbit | hbit
        all_goals
          have HBit := hide hbit
          clear hbit
        · go_upto_region 8 with fail
          have Hmn := hide (show AllMono [(fun v _ => v = .pointer (some ⟨b, 0, none⟩)), (fun v _ => v = .pointer (some ⟨b, 0, none⟩)), (fun v _ => v = .pointer (some ⟨b, 0, none⟩)), (fun v _ => v = .pointer (some ⟨b, 0, none⟩)), (fun v _ => v = .agg #[.int .u32 (p : Int), .int .i64 (m : Int)]), (fun v _ => v = .agg #[.int .u32 (a : Int), .int .i64 (n : Int)]), (fun v _ => v = .int .i64 0), (fun v _ => v = .pointer (some ⟨b, 0, none⟩)), (fun v _ => v = .pointer (some ⟨b, 5, none⟩)), (fun v _ => v = .pointer (some ⟨b, 5, none⟩))] from ⟨fun _ _ _ _ h => h, fun _ _ _ _ h => h, fun _ _ _ _ h => h, fun _ _ _ _ h => h, fun _ _ _ _ h => h, fun _ _ _ _ h => h, fun _ _ _ _ h => h, fun _ _ _ _ h => h, fun _ _ _ _ h => h, fun _ _ _ _ h => h, trivial⟩)
          refine wp_region_relT 10 _ (by kernel_rfl) (by kernel_rfl) (by kernel_rfl) (by kernel_rfl) (by kernel_rfl) (relMono _ Hmn.out) ⟨?_, ?_, ?_, ?_, ?_, ?_, ?_, ?_, ?_, ?_, trivial⟩ ?_
          · refine relStep_plain rfl ?_
            intro Ac w5 hp
            have hb := hp.bel
            have a0 : Ac.eval (.tmp 0) = .pointer (some ⟨b, 0, none⟩) := hp.out 0 (by rfl)
            have hc := evalC Ac; have hf := evalF Ac; have hgl := evalG Ac
            obtain ⟨ρ, hρ⟩ : ∃ ρ, Ac.eval = ρ := ⟨_, rfl⟩
            rw [hρ] at a0 hc hf hgl
            exact relPure hρ (.pointer (some ⟨b, 0, none⟩)) (by simp [go_sem, hc, hf, hgl, ↓IntWalk.iteOmega, a0, *]) rfl
          · refine relStep_plain rfl ?_
            intro Ac w5 hp
            have hb := hp.bel
            have a0 : Ac.eval (.tmp 0) = .pointer (some ⟨b, 0, none⟩) := hp.out 0 (by rfl)
            have hc := evalC Ac; have hf := evalF Ac; have hgl := evalG Ac
            obtain ⟨ρ, hρ⟩ : ∃ ρ, Ac.eval = ρ := ⟨_, rfl⟩
            rw [hρ] at a0 hc hf hgl
            exact relPure hρ (.pointer (some ⟨b, 0, none⟩)) (by simp [go_sem, hc, hf, hgl, ↓IntWalk.iteOmega, a0, *]) rfl
          · refine relStep_plain rfl ?_
            intro Ac w5 hp
            have hb := hp.bel
            have a42 : Ac.eval (.tmp 42) = .pointer (some ⟨b, 0, none⟩) := hp.dep 1 (by kernel_rfl)
            have hc := evalC Ac; have hf := evalF Ac; have hgl := evalG Ac
            obtain ⟨ρ, hρ⟩ : ∃ ρ, Ac.eval = ρ := ⟨_, rfl⟩
            rw [hρ] at a42 hc hf hgl
            exact relPure hρ (.pointer (some ⟨b, 0, none⟩)) (by simp [go_sem, hc, hf, hgl, ↓IntWalk.iteOmega, a42, *]) rfl
          · refine relStep_plain rfl ?_
            intro Ac w5 hp
            have hb := hp.bel
            have a43 : Ac.eval (.tmp 43) = .pointer (some ⟨b, 0, none⟩) := hp.dep 2 (by kernel_rfl)
            have hc := evalC Ac; have hf := evalF Ac; have hgl := evalG Ac
            obtain ⟨ρ, hρ⟩ : ∃ ρ, Ac.eval = ρ := ⟨_, rfl⟩
            rw [hρ] at a43 hc hf hgl
            exact relPure hρ (.pointer (some ⟨b, 0, none⟩)) (by simp [go_sem, hc, hf, hgl, ↓IntWalk.iteOmega, a43, *]) rfl
          · refine relStep_plain rfl ?_
            intro Ac w5 hp
            have hb := hp.bel
            have a44 : Ac.eval (.tmp 44) = .pointer (some ⟨b, 0, none⟩) := hp.dep 3 (by kernel_rfl)
            have hk5 := HN.out.below hb HN.out.lt
            have hx5 := HX.out.below hb HX.out.lt
            have y0 : w5.cell? ⟨b, 0, none⟩ = some (.int .u32 (p : Int)) := hk5.cell 0
            have y1 : w5.cell? ⟨b, 1, none⟩ = some (.int .i64 (m : Int)) := hk5.cell 1
            have x0 : w5.cell? ⟨w.heap.size, 0, none⟩ = some (.int .u32 (a : Int)) := hx5.cell 0
            have x1 : w5.cell? ⟨w.heap.size, 1, none⟩ = some (.int .i64 (n : Int)) := hx5.cell 1
            have hc := evalC Ac; have hf := evalF Ac; have hgl := evalG Ac
            obtain ⟨ρ, hρ⟩ : ∃ ρ, Ac.eval = ρ := ⟨_, rfl⟩
            rw [hρ] at a44 hc hf hgl
            exact relPure hρ (.agg #[.int .u32 (p : Int), .int .i64 (m : Int)]) (by simp [go_sem, hc, hf, hgl, ↓IntWalk.iteOmega, a44, *]) rfl
          · refine relStep_plain rfl ?_
            intro Ac w5 hp
            have hb := hp.bel
            have a4 : Ac.eval (.tmp 4) = .pointer (some ⟨w.heap.size, 0, none⟩) := hp.out 4 (by rfl)
            have hk5 := HN.out.below hb HN.out.lt
            have hx5 := HX.out.below hb HX.out.lt
            have y0 : w5.cell? ⟨b, 0, none⟩ = some (.int .u32 (p : Int)) := hk5.cell 0
            have y1 : w5.cell? ⟨b, 1, none⟩ = some (.int .i64 (m : Int)) := hk5.cell 1
            have x0 : w5.cell? ⟨w.heap.size, 0, none⟩ = some (.int .u32 (a : Int)) := hx5.cell 0
            have x1 : w5.cell? ⟨w.heap.size, 1, none⟩ = some (.int .i64 (n : Int)) := hx5.cell 1
            have hc := evalC Ac; have hf := evalF Ac; have hgl := evalG Ac
            obtain ⟨ρ, hρ⟩ : ∃ ρ, Ac.eval = ρ := ⟨_, rfl⟩
            rw [hρ] at a4 hc hf hgl
            exact relPure hρ (.agg #[.int .u32 (a : Int), .int .i64 (n : Int)]) (by simp [go_sem, hc, hf, hgl, ↓IntWalk.iteOmega, a4, *]) rfl
          · refine relStep_plain rfl ?_
            intro Ac w5 hp
            have hb := hp.bel
            have a45 : Ac.eval (.tmp 45) = .agg #[.int .u32 (p : Int), .int .i64 (m : Int)] := hp.dep 4 (by kernel_rfl)
            have a46 : Ac.eval (.tmp 46) = .agg #[.int .u32 (a : Int), .int .i64 (n : Int)] := hp.dep 5 (by kernel_rfl)
            have hc := evalC Ac; have hf := evalF Ac; have hgl := evalG Ac
            obtain ⟨ρ, hρ⟩ : ∃ ρ, Ac.eval = ρ := ⟨_, rfl⟩
            rw [hρ] at a45 a46 hc hf hgl
            refine relCall hρ 186 #[.agg #[.int .u32 (p : Int), .int .i64 (m : Int)], .agg #[.int .u32 (a : Int), .int .i64 (n : Int)]] (by simp [go_sem, hc, hf, hgl, ↓IntWalk.iteOmega, a45, a46, *]) ?_
            refine (HSd.out w5).mono ?_
            rintro e w6 ⟨rfl, hb6⟩
            exact ⟨_, rfl, by rw [HBit.out]; rfl, hb6⟩
          · refine relStep_plain rfl ?_
            intro Ac w5 hp
            have hb := hp.bel
            have a41 : Ac.eval (.tmp 41) = .pointer (some ⟨b, 0, none⟩) := hp.dep 0 (by kernel_rfl)
            have hc := evalC Ac; have hf := evalF Ac; have hgl := evalG Ac
            obtain ⟨ρ, hρ⟩ : ∃ ρ, Ac.eval = ρ := ⟨_, rfl⟩
            rw [hρ] at a41 hc hf hgl
            exact relPure hρ (.pointer (some ⟨b, 0, none⟩)) (by simp [go_sem, hc, hf, hgl, ↓IntWalk.iteOmega, a41, *]) rfl
          · refine relStep_plain rfl ?_
            intro Ac w5 hp
            have hb := hp.bel
            have a48 : Ac.eval (.tmp 48) = .pointer (some ⟨b, 0, none⟩) := hp.dep 7 (by kernel_rfl)
            have hc := evalC Ac; have hf := evalF Ac; have hgl := evalG Ac
            obtain ⟨ρ, hρ⟩ : ∃ ρ, Ac.eval = ρ := ⟨_, rfl⟩
            rw [hρ] at a48 hc hf hgl
            exact relPure hρ (.pointer (some ⟨b, 5, none⟩)) (by simp [go_sem, hc, hf, hgl, ↓IntWalk.iteOmega, a48, *]) rfl
          · refine relStep_plain rfl ?_
            intro Ac w5 hp
            have hb := hp.bel
            have a49 : Ac.eval (.tmp 49) = .pointer (some ⟨b, 5, none⟩) := hp.dep 8 (by kernel_rfl)
            have a47 : Ac.eval (.tmp 47) = .int .i64 0 := hp.dep 6 (by kernel_rfl)
            have hc := evalC Ac; have hf := evalF Ac; have hgl := evalG Ac
            obtain ⟨ρ, hρ⟩ : ∃ ρ, Ac.eval = ρ := ⟨_, rfl⟩
            rw [hρ] at a49 a47 hc hf hgl
            exact relPure hρ (.pointer (some ⟨b, 5, none⟩)) (by simp [go_sem, hc, hf, hgl, ↓IntWalk.iteOmega, a49, a47, *]) rfl
          intro u w8 hb7 hall
          have e50 : u 9 = .pointer (some ⟨b, 5, none⟩) := relAll_at hall (i := 9) (by decide +kernel)
          clear hall
          simp only [List.drop_succ_cons, List.drop_zero, List.take_succ_cons, List.take_zero, putAll, Act.put, List.setIfInBounds_toArray, List.set_cons_zero, List.set_cons_succ, Nat.zero_add, Nat.reduceAdd, e50]
          have HB8 := hide (HB.out.trans (hb7.mono HB.out.size))
          have HN8 := hide (HN.out.below hb7 HN.out.lt)
          have HN8k := hide (HN.out.below hb7 HN.out.lt)
          have HX8 := hide (HX.out.below hb7 HX.out.lt)
          clear hb7 HB HN HX
          have HB := hide HB8.out
          have HN := hide HN8.out
          have HX := hide HX8.out
          clear HB8 HN8 HX8
          have HCk : Hid (trCnt l < 100000000) := hide (by have := HCn.out; omega)
          have HRec := hide (fun W (hb : Below w8.heap.size w8 W) => IHl W HPa.out (HD.out.left.chg (S := fun _ => False) (chg_below (HB.out.trans (hb.mono HB.out.size))) (by simp) (by simp)) (fun k hk => Nat.lt_of_lt_of_le (HF.out k hk) (Nat.le_trans HB.out.size hb.size)) (frs_chg HFv.out (chg_below (S := fun _ => False) (HB.out.trans (hb.mono HB.out.size))) (by simp)) HCk.out)
          go_upto_region 9 with fail
          refine wp_region_relH 8 0 (Nat.zero_le _) [(fun v _ => v = .pointer (some ⟨b, 5, none⟩)), (fun v _ => v = .pointer (some ⟨b, 5, none⟩)), (fun v _ => v = .pointer (some ⟨b, 5, none⟩)), (fun v _ => v = trPtr l), (fun v _ => v = .agg #[.int .u32 (a : Int), .int .i64 (n : Int)]), (fun v _ => v = .slice vA vn vc), (fun v W => ∃ t2, v = trPtr t2 ∧ PutR a n x l t2 ∧ TrA 1 231 F R W t2 ∧ (∀ k ∈ trB t2, k ∈ trB l ∨ w8.heap.size ≤ k) ∧ ChgS (fun k => k ∈ trB l) w8 W), (fun v _ => v = .pointer (some ⟨b, 5, none⟩))] (fun i W => (1 ≤ i ∧ i ≤ 6) → Below w8.heap.size w8 W) (fun i Wa Wb => if i = 6 then Below 0 Wa Wb else Below Wa.heap.size Wa Wb) (by kernel_rfl) (by kernel_rfl) (by kernel_rfl) (by kernel_rfl) (by kernel_rfl) ?hE ?hR ?hP ?h0 ⟨?_, ?_, ?_, ?_, ?_, ?_, ?_, ?_, trivial⟩ ?_
          case hE =>
            intro i2 wa wb hB he
            split at he
            · exact he
            · exact he.mono (Nat.zero_le _)
          case hR =>
            intro i2 j2 v2 wa wb hij hB he h
            split at he
            · rename_i hj2
              subst hj2
              refine keepAll_at (E := fun wa wb => Below 0 wa wb) (x := 6) (k := 0) ?_ (by omega) he h
              exact ⟨fun _ v wa wb he h => h, fun _ v wa wb he h => h, fun _ v wa wb he h => h, fun _ v wa wb he h => h, fun _ v wa wb he h => h, fun _ v wa wb he h => h, fun hn => absurd rfl hn, fun _ v wa wb he h => h, trivial⟩
            · refine relMono _ ?_ i2 v2 wa wb he h
              exact ⟨fun _ _ _ _ h => h, fun _ _ _ _ h => h, fun _ _ _ _ h => h, fun _ _ _ _ h => h, fun _ _ _ _ h => h, fun _ _ _ _ h => h, fun v wa wb hb ⟨t2, e, h1, h2, h3, h4⟩ => ⟨t2, e, h1, h2.chg (S := fun _ => False) (chg_below hb) (by simp) (by simp), h3, chg_trans h4 (chg_below (S := fun _ => False) hb) (fun k h => h.elim)⟩, fun _ _ _ _ h => h, trivial⟩
          case hP =>
            intro i2 j2 wa wb hij hnb hB he h hi
            split at he
            · rename_i hj2
              subst hj2
              have hi3 : i2 = 1 ∨ i2 = 2 ∨ i2 = 3 ∨ i2 = 4 ∨ i2 = 5 ∨ i2 = 6 := by omega
              rcases hi3 with rfl | rfl | rfl | rfl | rfl | rfl
              all_goals first | exact absurd rfl hij | exact absurd hnb (by decide +kernel)
            · exact (h hi).trans (he.mono (h hi).size)
          case h0 =>
            intro j2 hj2 _
            exact (Below.refl _ _).drew
          · refine relG_plain rfl rfl (fun _ _ h => h) ?_
            intro Ac w5 hp
            have hb := hp.bel
            have a8 : Ac.eval (.tmp 8) = .pointer (some ⟨b, 5, none⟩) := hp.out 8 (by rfl)
            have hc := evalC Ac; have hf := evalF Ac; have hgl := evalG Ac
            obtain ⟨ρ, hρ⟩ : ∃ ρ, Ac.eval = ρ := ⟨_, rfl⟩
            rw [hρ] at a8 hc hf hgl
            exact relPure hρ (.pointer (some ⟨b, 5, none⟩)) (by simp [go_sem, hc, hf, hgl, ↓IntWalk.iteOmega, a8, *]) rfl
          · refine relG_plain rfl rfl (fun _ _ h => h) ?_
            intro Ac w5 hp
            have hb := hp.bel
            have a8 : Ac.eval (.tmp 8) = .pointer (some ⟨b, 5, none⟩) := hp.out 8 (by rfl)
            have hc := evalC Ac; have hf := evalF Ac; have hgl := evalG Ac
            obtain ⟨ρ, hρ⟩ : ∃ ρ, Ac.eval = ρ := ⟨_, rfl⟩
            rw [hρ] at a8 hc hf hgl
            exact relPure hρ (.pointer (some ⟨b, 5, none⟩)) (by simp [go_sem, hc, hf, hgl, ↓IntWalk.iteOmega, a8, *]) rfl
          · refine relG_plain rfl rfl (fun _ _ h => h) ?_
            intro Ac w5 hp
            have hb := hp.bel
            have a52 : Ac.eval (.tmp 52) = .pointer (some ⟨b, 5, none⟩) := hp.dep 1 (by kernel_rfl)
            have hc := evalC Ac; have hf := evalF Ac; have hgl := evalG Ac
            obtain ⟨ρ, hρ⟩ : ∃ ρ, Ac.eval = ρ := ⟨_, rfl⟩
            rw [hρ] at a52 hc hf hgl
            exact relPure hρ (.pointer (some ⟨b, 5, none⟩)) (by simp [go_sem, hc, hf, hgl, ↓IntWalk.iteOmega, a52, *]) rfl
          · refine relG_plain rfl rfl (fun _ _ h => h) ?_
            intro Ac w5 hp
            have hb := hp.bel
            have a53 : Ac.eval (.tmp 53) = .pointer (some ⟨b, 5, none⟩) := hp.dep 2 (by kernel_rfl)
            have hb := hp.pre ⟨by decide, by decide⟩
            have hk5 := HN.out.below hb HN.out.lt
            have y5 : w5.cell? ⟨b, 5, none⟩ = some (trPtr l) := hk5.cell 5
            have hc := evalC Ac; have hf := evalF Ac; have hgl := evalG Ac
            obtain ⟨ρ, hρ⟩ : ∃ ρ, Ac.eval = ρ := ⟨_, rfl⟩
            rw [hρ] at a53 hc hf hgl
            exact relPure hρ (trPtr l) (by simp [go_sem, hc, hf, hgl, ↓IntWalk.iteOmega, a53, *]) rfl
          · refine relG_plain rfl rfl (fun _ _ h => h) ?_
            intro Ac w5 hp
            have hb := hp.bel
            have a4 : Ac.eval (.tmp 4) = .pointer (some ⟨w.heap.size, 0, none⟩) := hp.out 4 (by rfl)
            have hb := hp.pre ⟨by decide, by decide⟩
            have hx5 := HX.out.below hb HX.out.lt
            have x0 : w5.cell? ⟨w.heap.size, 0, none⟩ = some (.int .u32 (a : Int)) := hx5.cell 0
            have x1 : w5.cell? ⟨w.heap.size, 1, none⟩ = some (.int .i64 (n : Int)) := hx5.cell 1
            have hc := evalC Ac; have hf := evalF Ac; have hgl := evalG Ac
            obtain ⟨ρ, hρ⟩ : ∃ ρ, Ac.eval = ρ := ⟨_, rfl⟩
            rw [hρ] at a4 hc hf hgl
            exact relPure hρ (.agg #[.int .u32 (a : Int), .int .i64 (n : Int)]) (by simp [go_sem, hc, hf, hgl, ↓IntWalk.iteOmega, a4, *]) rfl
          · refine relG_plain rfl rfl (fun _ _ h => h) ?_
            intro Ac w5 hp
            have hb := hp.bel
            have a2 : Ac.eval (.tmp 2) = .slice vA vn vc := hp.out 2 (by rfl)
            have hb := hp.pre ⟨by decide, by decide⟩
            have hc := evalC Ac; have hf := evalF Ac; have hgl := evalG Ac
            obtain ⟨ρ, hρ⟩ : ∃ ρ, Ac.eval = ρ := ⟨_, rfl⟩
            rw [hρ] at a2 hc hf hgl
            exact relPure hρ (.slice vA vn vc) (by simp [go_sem, hc, hf, hgl, ↓IntWalk.iteOmega, a2, *]) rfl
          · refine relG_enter rfl rfl ?_
            intro Ac w5 hp
            have hb := hp.bel
            have a54 : Ac.eval (.tmp 54) = trPtr l := hp.dep 3 (by kernel_rfl)
            have a55 : Ac.eval (.tmp 55) = .agg #[.int .u32 (a : Int), .int .i64 (n : Int)] := hp.dep 4 (by kernel_rfl)
            have a56 : Ac.eval (.tmp 56) = .slice vA vn vc := hp.dep 5 (by kernel_rfl)
            have hc := evalC Ac; have hf := evalF Ac; have hgl := evalG Ac
            obtain ⟨ρ, hρ⟩ : ∃ ρ, Ac.eval = ρ := ⟨_, rfl⟩
            rw [hρ] at a54 a55 a56 hc hf hgl
            refine ⟨165, #[trPtr l, .agg #[.int .u32 (a : Int), .int .i64 (n : Int)], .slice vA vn vc], by rw [hρ]; simp [go_sem, hc, hf, hgl, ↓IntWalk.iteOmega, a54, a55, a56, *], ?_⟩
            have hb := hp.pre ⟨by decide, by decide⟩
            refine (HRec.out w5 hb).mono ?_
            rintro e w6 ⟨t2, rfl, h1, h2, h3, h4⟩
            refine ⟨_, rfl, ⟨t2, rfl, h1, h2, fun k hk => (h3 k hk).imp id (Nat.le_trans hb.size), chg_trans (chg_below hb) h4 (fun k h => .inl h)⟩, by show Below 0 w5 w6; exact ⟨h4.os, h4.tape, h4.output, h4.size, fun k hk => absurd hk (Nat.not_lt_zero k)⟩⟩
          · refine relG_plain rfl rfl (fun _ _ h => h) ?_
            intro Ac w5 hp
            have hb := hp.bel
            have a51 : Ac.eval (.tmp 51) = .pointer (some ⟨b, 5, none⟩) := hp.dep 0 (by kernel_rfl)
            have hc := evalC Ac; have hf := evalF Ac; have hgl := evalG Ac
            obtain ⟨ρ, hρ⟩ : ∃ ρ, Ac.eval = ρ := ⟨_, rfl⟩
            rw [hρ] at a51 hc hf hgl
            exact relPure hρ (.pointer (some ⟨b, 5, none⟩)) (by simp [go_sem, hc, hf, hgl, ↓IntWalk.iteOmega, a51, *]) rfl
          intro u w9 hb7 hall
          obtain ⟨t57, e57, h57a, h57b, h57c, h57d⟩ := relAll_at hall (i := 6) (by decide +kernel)
          change u 6 = _ at e57
          have e58 : u 7 = .pointer (some ⟨b, 5, none⟩) := relAll_at hall (i := 7) (by decide +kernel)
          clear hall
          simp only [List.drop_succ_cons, List.drop_zero, List.take_succ_cons, List.take_zero, putAll, Act.put, List.setIfInBounds_toArray, List.set_cons_zero, List.set_cons_succ, Nat.zero_add, Nat.reduceAdd, e57, e58]
          have HN9 : Hid (Blk w9 b 231 (ndC p m [v0] v.isSome cn (trPtr l) (trPtr r))) := hide (chg_blk h57d HN8k.out HD.out.bl)
          have z9 : w9.cell? ⟨b, 5, none⟩ = some (trPtr l) := HN9.out.cell 5
          have zf9 := HN9.out.frozen 5
          obtain ⟨q57, hq57⟩ := trPtr_ptr t57
          rw [hq57]
          obtain ⟨w10, hw10p⟩ : ∃ W, w9.setCell ⟨b, 5, none⟩ (.pointer q57) = W := ⟨_, rfl⟩
          have hw10 : w9.setCell ⟨b, 5, none⟩ (trPtr t57) = w10 := by rw [hq57]; exact hw10p
          have HN10 : Hid (Blk w10 b 231 (ndC p m [v0] v.isSome cn (trPtr t57) (trPtr r))) := hide (hw10 ▸ HN9.out.set_ 5 _)
          have HC10 : Hid (ChgS (fun k => k = b) w9 w10) := hide (hw10 ▸ chg_set (S := fun k => k = b) (p := ⟨b, 5, none⟩) rfl _)
          have hbt : b ∉ trB t57 := fun h => (h57c b h).elim HD.out.bl (fun h => by have := HN8k.out.lt; omega)
          have HT10 := hide (h57b.chg HC10.out (fun k hk e => hbt (e ▸ hk)) (fun k hF e => HD.out.bf (e ▸ hF)))
          have HcA : Hid (ChgS (fun k => k ∈ trB l) w w9) := hide (chg_trans (chg_below HB.out) h57d (fun k h => .inl h))
          have HO10 := hide (HD.out.right.chg (S := fun k => k ∈ trB l ∨ k = b) (chg_trans (chg_mono HcA.out (fun k h => .inl (.inl h))) HC10.out (fun k h => .inl (.inr h))) (fun k hk h => h.elim (fun h => HD.out.lr k h hk) (fun e => HD.out.br (e ▸ hk))) (fun k hF h => h.elim (fun h => HD.out.left.far k h hF) (fun e => HD.out.bf (e ▸ hF))))
          have hcP := h57a.cnt
          have hcB : trCnt t57 ≤ trCnt l + 1 := by rw [hcP]; split <;> omega
          have HNt := hide (noteP_any (F := F) (R := R) b p m [v0] HD.out.len v.isSome cn t57 r w10 HN10.out HT10.out.mem HO10.out.mem (by have := HCn.out; omega))
          have HWd := hide hw10p
          have HPut := hide h57a
          have HSub := hide (fun k hk => (h57c k hk).imp id (Nat.le_trans HB.out.size))
          clear hw10 hw10p hq57 h57a h57b h57c h57d hb7 hbt hcP
          go_upto_region 10 with fail
          rw [HWd.out]
          clear z9 zf9
          go_wp2_with fail
          refine HNt.out.mono ?_
          rintro e w11 ⟨rfl, hk11, hc11⟩
          have HK11 := hide hk11
          have HC11 := hide hc11
          clear hk11 hc11
          go_wp2
          go_ret
          have hPR := put_left HD.out.wf HPa.out HCvP.out HE.out HBit.out HPut.out
          have hcW : ChgS (fun k => k ∈ trB l ∨ k = b) w w11 := chg_trans (chg_trans (chg_mono HcA.out (fun k h => .inl (.inl h))) HC10.out (fun k h => .inl (.inr h))) HC11.out (fun k h => .inl (.inr h))
          obtain ⟨hT, hS⟩ := nd_left HD.out hPR.wf HT10.out HSub.out hcW HC11.out HK11.out
          exact ⟨_, rfl, hPR, hT, hS, ndWhole hcW⟩
        · go_upto_region 8 with fail
          have Hmn := hide (show AllMono [(fun v _ => v = .pointer (some ⟨b, 0, none⟩)), (fun v _ => v = .pointer (some ⟨b, 0, none⟩)), (fun v _ => v = .pointer (some ⟨b, 0, none⟩)), (fun v _ => v = .pointer (some ⟨b, 0, none⟩)), (fun v _ => v = .agg #[.int .u32 (p : Int), .int .i64 (m : Int)]), (fun v _ => v = .agg #[.int .u32 (a : Int), .int .i64 (n : Int)]), (fun v _ => v = .int .i64 1), (fun v _ => v = .pointer (some ⟨b, 0, none⟩)), (fun v _ => v = .pointer (some ⟨b, 5, none⟩)), (fun v _ => v = .pointer (some ⟨b, 6, none⟩))] from ⟨fun _ _ _ _ h => h, fun _ _ _ _ h => h, fun _ _ _ _ h => h, fun _ _ _ _ h => h, fun _ _ _ _ h => h, fun _ _ _ _ h => h, fun _ _ _ _ h => h, fun _ _ _ _ h => h, fun _ _ _ _ h => h, fun _ _ _ _ h => h, trivial⟩)
          refine wp_region_relT 10 _ (by kernel_rfl) (by kernel_rfl) (by kernel_rfl) (by kernel_rfl) (by kernel_rfl) (relMono _ Hmn.out) ⟨?_, ?_, ?_, ?_, ?_, ?_, ?_, ?_, ?_, ?_, trivial⟩ ?_
          · refine relStep_plain rfl ?_
            intro Ac w5 hp
            have hb := hp.bel
            have a0 : Ac.eval (.tmp 0) = .pointer (some ⟨b, 0, none⟩) := hp.out 0 (by rfl)
            have hc := evalC Ac; have hf := evalF Ac; have hgl := evalG Ac
            obtain ⟨ρ, hρ⟩ : ∃ ρ, Ac.eval = ρ := ⟨_, rfl⟩
            rw [hρ] at a0 hc hf hgl
            exact relPure hρ (.pointer (some ⟨b, 0, none⟩)) (by simp [go_sem, hc, hf, hgl, ↓IntWalk.iteOmega, a0, *]) rfl
          · refine relStep_plain rfl ?_
            intro Ac w5 hp
            have hb := hp.bel
            have a0 : Ac.eval (.tmp 0) = .pointer (some ⟨b, 0, none⟩) := hp.out 0 (by rfl)
            have hc := evalC Ac; have hf := evalF Ac; have hgl := evalG Ac
            obtain ⟨ρ, hρ⟩ : ∃ ρ, Ac.eval = ρ := ⟨_, rfl⟩
            rw [hρ] at a0 hc hf hgl
            exact relPure hρ (.pointer (some ⟨b, 0, none⟩)) (by simp [go_sem, hc, hf, hgl, ↓IntWalk.iteOmega, a0, *]) rfl
          · refine relStep_plain rfl ?_
            intro Ac w5 hp
            have hb := hp.bel
            have a42 : Ac.eval (.tmp 42) = .pointer (some ⟨b, 0, none⟩) := hp.dep 1 (by kernel_rfl)
            have hc := evalC Ac; have hf := evalF Ac; have hgl := evalG Ac
            obtain ⟨ρ, hρ⟩ : ∃ ρ, Ac.eval = ρ := ⟨_, rfl⟩
            rw [hρ] at a42 hc hf hgl
            exact relPure hρ (.pointer (some ⟨b, 0, none⟩)) (by simp [go_sem, hc, hf, hgl, ↓IntWalk.iteOmega, a42, *]) rfl
          · refine relStep_plain rfl ?_
            intro Ac w5 hp
            have hb := hp.bel
            have a43 : Ac.eval (.tmp 43) = .pointer (some ⟨b, 0, none⟩) := hp.dep 2 (by kernel_rfl)
            have hc := evalC Ac; have hf := evalF Ac; have hgl := evalG Ac
            obtain ⟨ρ, hρ⟩ : ∃ ρ, Ac.eval = ρ := ⟨_, rfl⟩
            rw [hρ] at a43 hc hf hgl
            exact relPure hρ (.pointer (some ⟨b, 0, none⟩)) (by simp [go_sem, hc, hf, hgl, ↓IntWalk.iteOmega, a43, *]) rfl
          · refine relStep_plain rfl ?_
            intro Ac w5 hp
            have hb := hp.bel
            have a44 : Ac.eval (.tmp 44) = .pointer (some ⟨b, 0, none⟩) := hp.dep 3 (by kernel_rfl)
            have hk5 := HN.out.below hb HN.out.lt
            have hx5 := HX.out.below hb HX.out.lt
            have y0 : w5.cell? ⟨b, 0, none⟩ = some (.int .u32 (p : Int)) := hk5.cell 0
            have y1 : w5.cell? ⟨b, 1, none⟩ = some (.int .i64 (m : Int)) := hk5.cell 1
            have x0 : w5.cell? ⟨w.heap.size, 0, none⟩ = some (.int .u32 (a : Int)) := hx5.cell 0
            have x1 : w5.cell? ⟨w.heap.size, 1, none⟩ = some (.int .i64 (n : Int)) := hx5.cell 1
            have hc := evalC Ac; have hf := evalF Ac; have hgl := evalG Ac
            obtain ⟨ρ, hρ⟩ : ∃ ρ, Ac.eval = ρ := ⟨_, rfl⟩
            rw [hρ] at a44 hc hf hgl
            exact relPure hρ (.agg #[.int .u32 (p : Int), .int .i64 (m : Int)]) (by simp [go_sem, hc, hf, hgl, ↓IntWalk.iteOmega, a44, *]) rfl
          · refine relStep_plain rfl ?_
            intro Ac w5 hp
            have hb := hp.bel
            have a4 : Ac.eval (.tmp 4) = .pointer (some ⟨w.heap.size, 0, none⟩) := hp.out 4 (by rfl)
            have hk5 := HN.out.below hb HN.out.lt
            have hx5 := HX.out.below hb HX.out.lt
            have y0 : w5.cell? ⟨b, 0, none⟩ = some (.int .u32 (p : Int)) := hk5.cell 0
            have y1 : w5.cell? ⟨b, 1, none⟩ = some (.int .i64 (m : Int)) := hk5.cell 1
            have x0 : w5.cell? ⟨w.heap.size, 0, none⟩ = some (.int .u32 (a : Int)) := hx5.cell 0
            have x1 : w5.cell? ⟨w.heap.size, 1, none⟩ = some (.int .i64 (n : Int)) := hx5.cell 1
            have hc := evalC Ac; have hf := evalF Ac; have hgl := evalG Ac
            obtain ⟨ρ, hρ⟩ : ∃ ρ, Ac.eval = ρ := ⟨_, rfl⟩
            rw [hρ] at a4 hc hf hgl
            exact relPure hρ (.agg #[.int .u32 (a : Int), .int .i64 (n : Int)]) (by simp [go_sem, hc, hf, hgl, ↓IntWalk.iteOmega, a4, *]) rfl
          · refine relStep_plain rfl ?_
            intro Ac w5 hp
            have hb := hp.bel
            have a45 : Ac.eval (.tmp 45) = .agg #[.int .u32 (p : Int), .int .i64 (m : Int)] := hp.dep 4 (by kernel_rfl)
            have a46 : Ac.eval (.tmp 46) = .agg #[.int .u32 (a : Int), .int .i64 (n : Int)] := hp.dep 5 (by kernel_rfl)
            have hc := evalC Ac; have hf := evalF Ac; have hgl := evalG Ac
            obtain ⟨ρ, hρ⟩ : ∃ ρ, Ac.eval = ρ := ⟨_, rfl⟩
            rw [hρ] at a45 a46 hc hf hgl
            refine relCall hρ 186 #[.agg #[.int .u32 (p : Int), .int .i64 (m : Int)], .agg #[.int .u32 (a : Int), .int .i64 (n : Int)]] (by simp [go_sem, hc, hf, hgl, ↓IntWalk.iteOmega, a45, a46, *]) ?_
            refine (HSd.out w5).mono ?_
            rintro e w6 ⟨rfl, hb6⟩
            exact ⟨_, rfl, by rw [HBit.out]; rfl, hb6⟩
          · refine relStep_plain rfl ?_
            intro Ac w5 hp
            have hb := hp.bel
            have a41 : Ac.eval (.tmp 41) = .pointer (some ⟨b, 0, none⟩) := hp.dep 0 (by kernel_rfl)
            have hc := evalC Ac; have hf := evalF Ac; have hgl := evalG Ac
            obtain ⟨ρ, hρ⟩ : ∃ ρ, Ac.eval = ρ := ⟨_, rfl⟩
            rw [hρ] at a41 hc hf hgl
            exact relPure hρ (.pointer (some ⟨b, 0, none⟩)) (by simp [go_sem, hc, hf, hgl, ↓IntWalk.iteOmega, a41, *]) rfl
          · refine relStep_plain rfl ?_
            intro Ac w5 hp
            have hb := hp.bel
            have a48 : Ac.eval (.tmp 48) = .pointer (some ⟨b, 0, none⟩) := hp.dep 7 (by kernel_rfl)
            have hc := evalC Ac; have hf := evalF Ac; have hgl := evalG Ac
            obtain ⟨ρ, hρ⟩ : ∃ ρ, Ac.eval = ρ := ⟨_, rfl⟩
            rw [hρ] at a48 hc hf hgl
            exact relPure hρ (.pointer (some ⟨b, 5, none⟩)) (by simp [go_sem, hc, hf, hgl, ↓IntWalk.iteOmega, a48, *]) rfl
          · refine relStep_plain rfl ?_
            intro Ac w5 hp
            have hb := hp.bel
            have a49 : Ac.eval (.tmp 49) = .pointer (some ⟨b, 5, none⟩) := hp.dep 8 (by kernel_rfl)
            have a47 : Ac.eval (.tmp 47) = .int .i64 1 := hp.dep 6 (by kernel_rfl)
            have hc := evalC Ac; have hf := evalF Ac; have hgl := evalG Ac
            obtain ⟨ρ, hρ⟩ : ∃ ρ, Ac.eval = ρ := ⟨_, rfl⟩
            rw [hρ] at a49 a47 hc hf hgl
            exact relPure hρ (.pointer (some ⟨b, 6, none⟩)) (by simp [go_sem, hc, hf, hgl, ↓IntWalk.iteOmega, a49, a47, *]) rfl
          intro u w8 hb7 hall
          have e50 : u 9 = .pointer (some ⟨b, 6, none⟩) := relAll_at hall (i := 9) (by decide +kernel)
          clear hall
          simp only [List.drop_succ_cons, List.drop_zero, List.take_succ_cons, List.take_zero, putAll, Act.put, List.setIfInBounds_toArray, List.set_cons_zero, List.set_cons_succ, Nat.zero_add, Nat.reduceAdd, e50]
          have HB8 := hide (HB.out.trans (hb7.mono HB.out.size))
          have HN8 := hide (HN.out.below hb7 HN.out.lt)
          have HN8k := hide (HN.out.below hb7 HN.out.lt)
          have HX8 := hide (HX.out.below hb7 HX.out.lt)
          clear hb7 HB HN HX
          have HB := hide HB8.out
          have HN := hide HN8.out
          have HX := hide HX8.out
          clear HB8 HN8 HX8
          have HCk : Hid (trCnt r < 100000000) := hide (by have := HCn.out; omega)
          have HRec := hide (fun W (hb : Below w8.heap.size w8 W) => IHr W HPa.out (HD.out.right.chg (S := fun _ => False) (chg_below (HB.out.trans (hb.mono HB.out.size))) (by simp) (by simp)) (fun k hk => Nat.lt_of_lt_of_le (HF.out k hk) (Nat.le_trans HB.out.size hb.size)) (frs_chg HFv.out (chg_below (S := fun _ => False) (HB.out.trans (hb.mono HB.out.size))) (by simp)) HCk.out)
          go_upto_region 9 with fail
          refine wp_region_relH 8 0 (Nat.zero_le _) [(fun v _ => v = .pointer (some ⟨b, 6, none⟩)), (fun v _ => v = .pointer (some ⟨b, 6, none⟩)), (fun v _ => v = .pointer (some ⟨b, 6, none⟩)), (fun v _ => v = trPtr r), (fun v _ => v = .agg #[.int .u32 (a : Int), .int .i64 (n : Int)]), (fun v _ => v = .slice vA vn vc), (fun v W => ∃ t2, v = trPtr t2 ∧ PutR a n x r t2 ∧ TrA 1 231 F R W t2 ∧ (∀ k ∈ trB t2, k ∈ trB r ∨ w8.heap.size ≤ k) ∧ ChgS (fun k => k ∈ trB r) w8 W), (fun v _ => v = .pointer (some ⟨b, 6, none⟩))] (fun i W => (1 ≤ i ∧ i ≤ 6) → Below w8.heap.size w8 W) (fun i Wa Wb => if i = 6 then Below 0 Wa Wb else Below Wa.heap.size Wa Wb) (by kernel_rfl) (by kernel_rfl) (by kernel_rfl) (by kernel_rfl) (by kernel_rfl) ?hE ?hR ?hP ?h0 ⟨?_, ?_, ?_, ?_, ?_, ?_, ?_, ?_, trivial⟩ ?_
          case hE =>
            intro i2 wa wb hB he
            split at he
            · exact he
            · exact he.mono (Nat.zero_le _)
          case hR =>
            intro i2 j2 v2 wa wb hij hB he h
            split at he
            · rename_i hj2
              subst hj2
              refine keepAll_at (E := fun wa wb => Below 0 wa wb) (x := 6) (k := 0) ?_ (by omega) he h
              exact ⟨fun _ v wa wb he h => h, fun _ v wa wb he h => h, fun _ v wa wb he h => h, fun _ v wa wb he h => h, fun _ v wa wb he h => h, fun _ v wa wb he h => h, fun hn => absurd rfl hn, fun _ v wa wb he h => h, trivial⟩
            · refine relMono _ ?_ i2 v2 wa wb he h
              exact ⟨fun _ _ _ _ h => h, fun _ _ _ _ h => h, fun _ _ _ _ h => h, fun _ _ _ _ h => h, fun _ _ _ _ h => h, fun _ _ _ _ h => h, fun v wa wb hb ⟨t2, e, h1, h2, h3, h4⟩ => ⟨t2, e, h1, h2.chg (S := fun _ => False) (chg_below hb) (by simp) (by simp), h3, chg_trans h4 (chg_below (S := fun _ => False) hb) (fun k h => h.elim)⟩, fun _ _ _ _ h => h, trivial⟩
          case hP =>
            intro i2 j2 wa wb hij hnb hB he h hi
            split at he
            · rename_i hj2
              subst hj2
              have hi3 : i2 = 1 ∨ i2 = 2 ∨ i2 = 3 ∨ i2 = 4 ∨ i2 = 5 ∨ i2 = 6 := by omega
              rcases hi3 with rfl | rfl | rfl | rfl | rfl | rfl
              all_goals first | exact absurd rfl hij | exact absurd hnb (by decide +kernel)
            · exact (h hi).trans (he.mono (h hi).size)
          case h0 =>
            intro j2 hj2 _
            exact (Below.refl _ _).drew
          · refine relG_plain rfl rfl (fun _ _ h => h) ?_
            intro Ac w5 hp
            have hb := hp.bel
            have a8 : Ac.eval (.tmp 8) = .pointer (some ⟨b, 6, none⟩) := hp.out 8 (by rfl)
            have hc := evalC Ac; have hf := evalF Ac; have hgl := evalG Ac
            obtain ⟨ρ, hρ⟩ : ∃ ρ, Ac.eval = ρ := ⟨_, rfl⟩
            rw [hρ] at a8 hc hf hgl
            exact relPure hρ (.pointer (some ⟨b, 6, none⟩)) (by simp [go_sem, hc, hf, hgl, ↓IntWalk.iteOmega, a8, *]) rfl
          · refine relG_plain rfl rfl (fun _ _ h => h) ?_
            intro Ac w5 hp
            have hb := hp.bel
            have a8 : Ac.eval (.tmp 8) = .pointer (some ⟨b, 6, none⟩) := hp.out 8 (by rfl)
            have hc := evalC Ac; have hf := evalF Ac; have hgl := evalG Ac
            obtain ⟨ρ, hρ⟩ : ∃ ρ, Ac.eval = ρ := ⟨_, rfl⟩
            rw [hρ] at a8 hc hf hgl
            exact relPure hρ (.pointer (some ⟨b, 6, none⟩)) (by simp [go_sem, hc, hf, hgl, ↓IntWalk.iteOmega, a8, *]) rfl
          · refine relG_plain rfl rfl (fun _ _ h => h) ?_
            intro Ac w5 hp
            have hb := hp.bel
            have a52 : Ac.eval (.tmp 52) = .pointer (some ⟨b, 6, none⟩) := hp.dep 1 (by kernel_rfl)
            have hc := evalC Ac; have hf := evalF Ac; have hgl := evalG Ac
            obtain ⟨ρ, hρ⟩ : ∃ ρ, Ac.eval = ρ := ⟨_, rfl⟩
            rw [hρ] at a52 hc hf hgl
            exact relPure hρ (.pointer (some ⟨b, 6, none⟩)) (by simp [go_sem, hc, hf, hgl, ↓IntWalk.iteOmega, a52, *]) rfl
          · refine relG_plain rfl rfl (fun _ _ h => h) ?_
            intro Ac w5 hp
            have hb := hp.bel
            have a53 : Ac.eval (.tmp 53) = .pointer (some ⟨b, 6, none⟩) := hp.dep 2 (by kernel_rfl)
            have hb := hp.pre ⟨by decide, by decide⟩
            have hk5 := HN.out.below hb HN.out.lt
            have y5 : w5.cell? ⟨b, 6, none⟩ = some (trPtr r) := hk5.cell 6
            have hc := evalC Ac; have hf := evalF Ac; have hgl := evalG Ac
            obtain ⟨ρ, hρ⟩ : ∃ ρ, Ac.eval = ρ := ⟨_, rfl⟩
            rw [hρ] at a53 hc hf hgl
            exact relPure hρ (trPtr r) (by simp [go_sem, hc, hf, hgl, ↓IntWalk.iteOmega, a53, *]) rfl
          · refine relG_plain rfl rfl (fun _ _ h => h) ?_
            intro Ac w5 hp
            have hb := hp.bel
            have a4 : Ac.eval (.tmp 4) = .pointer (some ⟨w.heap.size, 0, none⟩) := hp.out 4 (by rfl)
            have hb := hp.pre ⟨by decide, by decide⟩
            have hx5 := HX.out.below hb HX.out.lt
            have x0 : w5.cell? ⟨w.heap.size, 0, none⟩ = some (.int .u32 (a : Int)) := hx5.cell 0
            have x1 : w5.cell? ⟨w.heap.size, 1, none⟩ = some (.int .i64 (n : Int)) := hx5.cell 1
            have hc := evalC Ac; have hf := evalF Ac; have hgl := evalG Ac
            obtain ⟨ρ, hρ⟩ : ∃ ρ, Ac.eval = ρ := ⟨_, rfl⟩
            rw [hρ] at a4 hc hf hgl
            exact relPure hρ (.agg #[.int .u32 (a : Int), .int .i64 (n : Int)]) (by simp [go_sem, hc, hf, hgl, ↓IntWalk.iteOmega, a4, *]) rfl
          · refine relG_plain rfl rfl (fun _ _ h => h) ?_
            intro Ac w5 hp
            have hb := hp.bel
            have a2 : Ac.eval (.tmp 2) = .slice vA vn vc := hp.out 2 (by rfl)
            have hb := hp.pre ⟨by decide, by decide⟩
            have hc := evalC Ac; have hf := evalF Ac; have hgl := evalG Ac
            obtain ⟨ρ, hρ⟩ : ∃ ρ, Ac.eval = ρ := ⟨_, rfl⟩
            rw [hρ] at a2 hc hf hgl
            exact relPure hρ (.slice vA vn vc) (by simp [go_sem, hc, hf, hgl, ↓IntWalk.iteOmega, a2, *]) rfl
          · refine relG_enter rfl rfl ?_
            intro Ac w5 hp
            have hb := hp.bel
            have a54 : Ac.eval (.tmp 54) = trPtr r := hp.dep 3 (by kernel_rfl)
            have a55 : Ac.eval (.tmp 55) = .agg #[.int .u32 (a : Int), .int .i64 (n : Int)] := hp.dep 4 (by kernel_rfl)
            have a56 : Ac.eval (.tmp 56) = .slice vA vn vc := hp.dep 5 (by kernel_rfl)
            have hc := evalC Ac; have hf := evalF Ac; have hgl := evalG Ac
            obtain ⟨ρ, hρ⟩ : ∃ ρ, Ac.eval = ρ := ⟨_, rfl⟩
            rw [hρ] at a54 a55 a56 hc hf hgl
            refine ⟨165, #[trPtr r, .agg #[.int .u32 (a : Int), .int .i64 (n : Int)], .slice vA vn vc], by rw [hρ]; simp [go_sem, hc, hf, hgl, ↓IntWalk.iteOmega, a54, a55, a56, *], ?_⟩
            have hb := hp.pre ⟨by decide, by decide⟩
            refine (HRec.out w5 hb).mono ?_
            rintro e w6 ⟨t2, rfl, h1, h2, h3, h4⟩
            refine ⟨_, rfl, ⟨t2, rfl, h1, h2, fun k hk => (h3 k hk).imp id (Nat.le_trans hb.size), chg_trans (chg_below hb) h4 (fun k h => .inl h)⟩, by show Below 0 w5 w6; exact ⟨h4.os, h4.tape, h4.output, h4.size, fun k hk => absurd hk (Nat.not_lt_zero k)⟩⟩
          · refine relG_plain rfl rfl (fun _ _ h => h) ?_
            intro Ac w5 hp
            have hb := hp.bel
            have a51 : Ac.eval (.tmp 51) = .pointer (some ⟨b, 6, none⟩) := hp.dep 0 (by kernel_rfl)
            have hc := evalC Ac; have hf := evalF Ac; have hgl := evalG Ac
            obtain ⟨ρ, hρ⟩ : ∃ ρ, Ac.eval = ρ := ⟨_, rfl⟩
            rw [hρ] at a51 hc hf hgl
            exact relPure hρ (.pointer (some ⟨b, 6, none⟩)) (by simp [go_sem, hc, hf, hgl, ↓IntWalk.iteOmega, a51, *]) rfl
          intro u w9 hb7 hall
          obtain ⟨t57, e57, h57a, h57b, h57c, h57d⟩ := relAll_at hall (i := 6) (by decide +kernel)
          change u 6 = _ at e57
          have e58 : u 7 = .pointer (some ⟨b, 6, none⟩) := relAll_at hall (i := 7) (by decide +kernel)
          clear hall
          simp only [List.drop_succ_cons, List.drop_zero, List.take_succ_cons, List.take_zero, putAll, Act.put, List.setIfInBounds_toArray, List.set_cons_zero, List.set_cons_succ, Nat.zero_add, Nat.reduceAdd, e57, e58]
          have HN9 : Hid (Blk w9 b 231 (ndC p m [v0] v.isSome cn (trPtr l) (trPtr r))) := hide (chg_blk h57d HN8k.out HD.out.br)
          have z9 : w9.cell? ⟨b, 6, none⟩ = some (trPtr r) := HN9.out.cell 6
          have zf9 := HN9.out.frozen 6
          obtain ⟨q57, hq57⟩ := trPtr_ptr t57
          rw [hq57]
          obtain ⟨w10, hw10p⟩ : ∃ W, w9.setCell ⟨b, 6, none⟩ (.pointer q57) = W := ⟨_, rfl⟩
          have hw10 : w9.setCell ⟨b, 6, none⟩ (trPtr t57) = w10 := by rw [hq57]; exact hw10p
          have HN10 : Hid (Blk w10 b 231 (ndC p m [v0] v.isSome cn (trPtr l) (trPtr t57))) := hide (hw10 ▸ HN9.out.set_ 6 _)
          have HC10 : Hid (ChgS (fun k => k = b) w9 w10) := hide (hw10 ▸ chg_set (S := fun k => k = b) (p := ⟨b, 6, none⟩) rfl _)
          have hbt : b ∉ trB t57 := fun h => (h57c b h).elim HD.out.br (fun h => by have := HN8k.out.lt; omega)
          have HT10 := hide (h57b.chg HC10.out (fun k hk e => hbt (e ▸ hk)) (fun k hF e => HD.out.bf (e ▸ hF)))
          have HcA : Hid (ChgS (fun k => k ∈ trB r) w w9) := hide (chg_trans (chg_below HB.out) h57d (fun k h => .inl h))
          have HO10 := hide (HD.out.left.chg (S := fun k => k ∈ trB r ∨ k = b) (chg_trans (chg_mono HcA.out (fun k h => .inl (.inl h))) HC10.out (fun k h => .inl (.inr h))) (fun k hk h => h.elim (fun h => HD.out.lr k hk h) (fun e => HD.out.bl (e ▸ hk))) (fun k hF h => h.elim (fun h => HD.out.right.far k h hF) (fun e => HD.out.bf (e ▸ hF))))
          have hcP := h57a.cnt
          have hcB : trCnt t57 ≤ trCnt r + 1 := by rw [hcP]; split <;> omega
          have HNt := hide (noteP_any (F := F) (R := R) b p m [v0] HD.out.len v.isSome cn l t57 w10 HN10.out HO10.out.mem HT10.out.mem (by have := HCn.out; omega))
          have HWd := hide hw10p
          have HPut := hide h57a
          have HSub := hide (fun k hk => (h57c k hk).imp id (Nat.le_trans HB.out.size))
          clear hw10 hw10p hq57 h57a h57b h57c h57d hb7 hbt hcP
          go_upto_region 10 with fail
          rw [HWd.out]
          clear z9 zf9
          go_wp2_with fail
          refine HNt.out.mono ?_
          rintro e w11 ⟨rfl, hk11, hc11⟩
          have HK11 := hide hk11
          have HC11 := hide hc11
          clear hk11 hc11
          go_wp2
          go_ret
          have hPR := put_right HD.out.wf HPa.out HCvP.out HE.out HBit.out HPut.out
          have hcW : ChgS (fun k => k ∈ trB r ∨ k = b) w w11 := chg_trans (chg_trans (chg_mono HcA.out (fun k h => .inl (.inl h))) HC10.out (fun k h => .inl (.inr h))) HC11.out (fun k h => .inl (.inr h))
          obtain ⟨hT, hS⟩ := nd_right HD.out hPR.wf HT10.out HSub.out hcW HC11.out HK11.out
          exact ⟨_, rfl, hPR, hT, hS, ndWholeR hcW⟩
      · rw [decide_eq_false hcv] at HCv
        have HCvN := hide hcv
        clear hcv
        go_upto_region 7 with fail
        have Hmn := hide (show AllMono [(fun v _ => v = .pointer (some ⟨b, 0, none⟩)), (fun v _ => v = .pointer (some ⟨b, 0, none⟩)), (fun v _ => v = .pointer (some ⟨b, 0, none⟩)), (fun v _ => v = .agg #[.int .u32 (p : Int), .int .i64 (m : Int)]), (fun v _ => v = .agg #[.int .u32 (a : Int), .int .i64 (n : Int)]), (fun v _ => v = .bool false)] from ⟨fun _ _ _ _ h => h, fun _ _ _ _ h => h, fun _ _ _ _ h => h, fun _ _ _ _ h => h, fun _ _ _ _ h => h, fun _ _ _ _ h => h, trivial⟩)
        refine wp_region_relT 6 _ (by kernel_rfl) (by kernel_rfl) (by kernel_rfl) (by kernel_rfl) (by kernel_rfl) (relMono _ Hmn.out) ⟨?_, ?_, ?_, ?_, ?_, ?_, trivial⟩ ?_
        · refine relStep_plain rfl ?_
          intro Ac w5 hp
          have hb := hp.bel
          have a0 : Ac.eval (.tmp 0) = .pointer (some ⟨b, 0, none⟩) := hp.out 0 (by rfl)
          have hc := evalC Ac; have hf := evalF Ac; have hgl := evalG Ac
          obtain ⟨ρ, hρ⟩ : ∃ ρ, Ac.eval = ρ := ⟨_, rfl⟩
          rw [hρ] at a0 hc hf hgl
          exact relPure hρ (.pointer (some ⟨b, 0, none⟩)) (by simp [go_sem, hc, hf, hgl, ↓IntWalk.iteOmega, a0, *]) rfl
        · refine relStep_plain rfl ?_
          intro Ac w5 hp
          have hb := hp.bel
          have a35 : Ac.eval (.tmp 35) = .pointer (some ⟨b, 0, none⟩) := hp.dep 0 (by kernel_rfl)
          have hc := evalC Ac; have hf := evalF Ac; have hgl := evalG Ac
          obtain ⟨ρ, hρ⟩ : ∃ ρ, Ac.eval = ρ := ⟨_, rfl⟩
          rw [hρ] at a35 hc hf hgl
          exact relPure hρ (.pointer (some ⟨b, 0, none⟩)) (by simp [go_sem, hc, hf, hgl, ↓IntWalk.iteOmega, a35, *]) rfl
        · refine relStep_plain rfl ?_
          intro Ac w5 hp
          have hb := hp.bel
          have a36 : Ac.eval (.tmp 36) = .pointer (some ⟨b, 0, none⟩) := hp.dep 1 (by kernel_rfl)
          have hc := evalC Ac; have hf := evalF Ac; have hgl := evalG Ac
          obtain ⟨ρ, hρ⟩ : ∃ ρ, Ac.eval = ρ := ⟨_, rfl⟩
          rw [hρ] at a36 hc hf hgl
          exact relPure hρ (.pointer (some ⟨b, 0, none⟩)) (by simp [go_sem, hc, hf, hgl, ↓IntWalk.iteOmega, a36, *]) rfl
        · refine relStep_plain rfl ?_
          intro Ac w5 hp
          have hb := hp.bel
          have a37 : Ac.eval (.tmp 37) = .pointer (some ⟨b, 0, none⟩) := hp.dep 2 (by kernel_rfl)
          have hk5 := HN.out.below hb HN.out.lt
          have hx5 := HX.out.below hb HX.out.lt
          have y0 : w5.cell? ⟨b, 0, none⟩ = some (.int .u32 (p : Int)) := hk5.cell 0
          have y1 : w5.cell? ⟨b, 1, none⟩ = some (.int .i64 (m : Int)) := hk5.cell 1
          have x0 : w5.cell? ⟨w.heap.size, 0, none⟩ = some (.int .u32 (a : Int)) := hx5.cell 0
          have x1 : w5.cell? ⟨w.heap.size, 1, none⟩ = some (.int .i64 (n : Int)) := hx5.cell 1
          have hc := evalC Ac; have hf := evalF Ac; have hgl := evalG Ac
          obtain ⟨ρ, hρ⟩ : ∃ ρ, Ac.eval = ρ := ⟨_, rfl⟩
          rw [hρ] at a37 hc hf hgl
          exact relPure hρ (.agg #[.int .u32 (p : Int), .int .i64 (m : Int)]) (by simp [go_sem, hc, hf, hgl, ↓IntWalk.iteOmega, a37, *]) rfl
        · refine relStep_plain rfl ?_
          intro Ac w5 hp
          have hb := hp.bel
          have a4 : Ac.eval (.tmp 4) = .pointer (some ⟨w.heap.size, 0, none⟩) := hp.out 4 (by rfl)
          have hk5 := HN.out.below hb HN.out.lt
          have hx5 := HX.out.below hb HX.out.lt
          have y0 : w5.cell? ⟨b, 0, none⟩ = some (.int .u32 (p : Int)) := hk5.cell 0
          have y1 : w5.cell? ⟨b, 1, none⟩ = some (.int .i64 (m : Int)) := hk5.cell 1
          have x0 : w5.cell? ⟨w.heap.size, 0, none⟩ = some (.int .u32 (a : Int)) := hx5.cell 0
          have x1 : w5.cell? ⟨w.heap.size, 1, none⟩ = some (.int .i64 (n : Int)) := hx5.cell 1
          have hc := evalC Ac; have hf := evalF Ac; have hgl := evalG Ac
          obtain ⟨ρ, hρ⟩ : ∃ ρ, Ac.eval = ρ := ⟨_, rfl⟩
          rw [hρ] at a4 hc hf hgl
          exact relPure hρ (.agg #[.int .u32 (a : Int), .int .i64 (n : Int)]) (by simp [go_sem, hc, hf, hgl, ↓IntWalk.iteOmega, a4, *]) rfl
        · refine relStep_plain rfl ?_
          intro Ac w5 hp
          have hb := hp.bel
          have a38 : Ac.eval (.tmp 38) = .agg #[.int .u32 (p : Int), .int .i64 (m : Int)] := hp.dep 3 (by kernel_rfl)
          have a39 : Ac.eval (.tmp 39) = .agg #[.int .u32 (a : Int), .int .i64 (n : Int)] := hp.dep 4 (by kernel_rfl)
          have hc := evalC Ac; have hf := evalF Ac; have hgl := evalG Ac
          obtain ⟨ρ, hρ⟩ : ∃ ρ, Ac.eval = ρ := ⟨_, rfl⟩
          rw [hρ] at a38 a39 hc hf hgl
          refine relCall hρ 185 #[.agg #[.int .u32 (p : Int), .int .i64 (m : Int)], .agg #[.int .u32 (a : Int), .int .i64 (n : Int)]] (by simp [go_sem, hc, hf, hgl, ↓IntWalk.iteOmega, a38, a39, *]) ?_
          refine (HCv.out w5).mono ?_
          rintro e w6 ⟨rfl, hb6⟩
          exact ⟨_, rfl, rfl, hb6⟩
        intro u w7 hb7 hall
        have e40 : u 5 = .bool false := relAll_at hall (i := 5) (by decide +kernel)
        clear hall
        simp only [List.drop_succ_cons, List.drop_zero, List.take_succ_cons, List.take_zero, putAll, Act.put, List.setIfInBounds_toArray, List.set_cons_zero, List.set_cons_succ, Nat.zero_add, Nat.reduceAdd, e40]
        have HB7 := hide (HB.out.trans (hb7.mono HB.out.size))
        have HN7 := hide (HN.out.below hb7 HN.out.lt)
        have HX7 := hide (HX.out.below hb7 HX.out.lt)
        have HFr7 := hide (HFr.out.below hb7 HFr.out.lt)
        clear hb7 HB HN HX HFr
        have HB := hide HB7.out
        have HN := hide HN7.out
        have HX := hide HX7.out
        have HFr := hide HFr7.out
        clear HB7 HN7 HX7 HFr7
        by_cases hcv2 : CvN a n p m
        · rw [decide_eq_true hcv2] at HCv2
          have HCvP := hide hcv2
          have hlt : n < m := Nat.lt_of_le_of_ne hcv2.1 fun e => HE.out ⟨(cvN_same hcv2 HPn.out e).symm, e.symm⟩
          have HSd2 := hide (fun W => side_any a n p m HPn.out.1 (by omega) W)
          clear hcv2
          go_upto_region 11 with fail
          have Hmn := hide (show AllMono [(fun v _ => v = .agg #[.int .u32 (a : Int), .int .i64 (n : Int)]), (fun v _ => v = .pointer (some ⟨b, 0, none⟩)), (fun v _ => v = .pointer (some ⟨b, 0, none⟩)), (fun v _ => v = .pointer (some ⟨b, 0, none⟩)), (fun v _ => v = .agg #[.int .u32 (p : Int), .int .i64 (m : Int)]), (fun v _ => v = .bool true)] from ⟨fun _ _ _ _ h => h, fun _ _ _ _ h => h, fun _ _ _ _ h => h, fun _ _ _ _ h => h, fun _ _ _ _ h => h, fun _ _ _ _ h => h, trivial⟩)
          refine wp_region_relT 6 _ (by kernel_rfl) (by kernel_rfl) (by kernel_rfl) (by kernel_rfl) (by kernel_rfl) (relMono _ Hmn.out) ⟨?_, ?_, ?_, ?_, ?_, ?_, trivial⟩ ?_
          · refine relStep_plain rfl ?_
            intro Ac w5 hp
            have hb := hp.bel
            have a4 : Ac.eval (.tmp 4) = .pointer (some ⟨w.heap.size, 0, none⟩) := hp.out 4 (by rfl)
            have hk5 := HN.out.below hb HN.out.lt
            have hx5 := HX.out.below hb HX.out.lt
            have y0 : w5.cell? ⟨b, 0, none⟩ = some (.int .u32 (p : Int)) := hk5.cell 0
            have y1 : w5.cell? ⟨b, 1, none⟩ = some (.int .i64 (m : Int)) := hk5.cell 1
            have x0 : w5.cell? ⟨w.heap.size, 0, none⟩ = some (.int .u32 (a : Int)) := hx5.cell 0
            have x1 : w5.cell? ⟨w.heap.size, 1, none⟩ = some (.int .i64 (n : Int)) := hx5.cell 1
            have hc := evalC Ac; have hf := evalF Ac; have hgl := evalG Ac
            obtain ⟨ρ, hρ⟩ : ∃ ρ, Ac.eval = ρ := ⟨_, rfl⟩
            rw [hρ] at a4 hc hf hgl
            exact relPure hρ (.agg #[.int .u32 (a : Int), .int .i64 (n : Int)]) (by simp [go_sem, hc, hf, hgl, ↓IntWalk.iteOmega, a4, *]) rfl
          · refine relStep_plain rfl ?_
            intro Ac w5 hp
            have hb := hp.bel
            have a0 : Ac.eval (.tmp 0) = .pointer (some ⟨b, 0, none⟩) := hp.out 0 (by rfl)
            have hc := evalC Ac; have hf := evalF Ac; have hgl := evalG Ac
            obtain ⟨ρ, hρ⟩ : ∃ ρ, Ac.eval = ρ := ⟨_, rfl⟩
            rw [hρ] at a0 hc hf hgl
            exact relPure hρ (.pointer (some ⟨b, 0, none⟩)) (by simp [go_sem, hc, hf, hgl, ↓IntWalk.iteOmega, a0, *]) rfl
          · refine relStep_plain rfl ?_
            intro Ac w5 hp
            have hb := hp.bel
            have a63 : Ac.eval (.tmp 63) = .pointer (some ⟨b, 0, none⟩) := hp.dep 1 (by kernel_rfl)
            have hc := evalC Ac; have hf := evalF Ac; have hgl := evalG Ac
            obtain ⟨ρ, hρ⟩ : ∃ ρ, Ac.eval = ρ := ⟨_, rfl⟩
            rw [hρ] at a63 hc hf hgl
            exact relPure hρ (.pointer (some ⟨b, 0, none⟩)) (by simp [go_sem, hc, hf, hgl, ↓IntWalk.iteOmega, a63, *]) rfl
          · refine relStep_plain rfl ?_
            intro Ac w5 hp
            have hb := hp.bel
            have a64 : Ac.eval (.tmp 64) = .pointer (some ⟨b, 0, none⟩) := hp.dep 2 (by kernel_rfl)
            have hc := evalC Ac; have hf := evalF Ac; have hgl := evalG Ac
            obtain ⟨ρ, hρ⟩ : ∃ ρ, Ac.eval = ρ := ⟨_, rfl⟩
            rw [hρ] at a64 hc hf hgl
            exact relPure hρ (.pointer (some ⟨b, 0, none⟩)) (by simp [go_sem, hc, hf, hgl, ↓IntWalk.iteOmega, a64, *]) rfl
          · refine relStep_plain rfl ?_
            intro Ac w5 hp
            have hb := hp.bel
            have a65 : Ac.eval (.tmp 65) = .pointer (some ⟨b, 0, none⟩) := hp.dep 3 (by kernel_rfl)
            have hk5 := HN.out.below hb HN.out.lt
            have hx5 := HX.out.below hb HX.out.lt
            have y0 : w5.cell? ⟨b, 0, none⟩ = some (.int .u32 (p : Int)) := hk5.cell 0
            have y1 : w5.cell? ⟨b, 1, none⟩ = some (.int .i64 (m : Int)) := hk5.cell 1
            have x0 : w5.cell? ⟨w.heap.size, 0, none⟩ = some (.int .u32 (a : Int)) := hx5.cell 0
            have x1 : w5.cell? ⟨w.heap.size, 1, none⟩ = some (.int .i64 (n : Int)) := hx5.cell 1
            have hc := evalC Ac; have hf := evalF Ac; have hgl := evalG Ac
            obtain ⟨ρ, hρ⟩ : ∃ ρ, Ac.eval = ρ := ⟨_, rfl⟩
            rw [hρ] at a65 hc hf hgl
            exact relPure hρ (.agg #[.int .u32 (p : Int), .int .i64 (m : Int)]) (by simp [go_sem, hc, hf, hgl, ↓IntWalk.iteOmega, a65, *]) rfl
          · refine relStep_plain rfl ?_
            intro Ac w5 hp
            have hb := hp.bel
            have a62 : Ac.eval (.tmp 62) = .agg #[.int .u32 (a : Int), .int .i64 (n : Int)] := hp.dep 0 (by kernel_rfl)
            have a66 : Ac.eval (.tmp 66) = .agg #[.int .u32 (p : Int), .int .i64 (m : Int)] := hp.dep 4 (by kernel_rfl)
            have hc := evalC Ac; have hf := evalF Ac; have hgl := evalG Ac
            obtain ⟨ρ, hρ⟩ : ∃ ρ, Ac.eval = ρ := ⟨_, rfl⟩
            rw [hρ] at a62 a66 hc hf hgl
            refine relCall hρ 185 #[.agg #[.int .u32 (a : Int), .int .i64 (n : Int)], .agg #[.int .u32 (p : Int), .int .i64 (m : Int)]] (by simp [go_sem, hc, hf, hgl, ↓IntWalk.iteOmega, a62, a66, *]) ?_
            refine (HCv2.out w5).mono ?_
            rintro e w6 ⟨rfl, hb6⟩
            exact ⟨_, rfl, rfl, hb6⟩
          intro u w8 hb7 hall
          have e67 : u 5 = .bool true := relAll_at hall (i := 5) (by decide +kernel)
          clear hall
          simp only [List.drop_succ_cons, List.drop_zero, List.take_succ_cons, List.take_zero, putAll, Act.put, List.setIfInBounds_toArray, List.set_cons_zero, List.set_cons_succ, Nat.zero_add, Nat.reduceAdd, e67]
          have HB8 := hide (HB.out.trans (hb7.mono HB.out.size))
          have HN8 := hide (HN.out.below hb7 HN.out.lt)
          have HX8 := hide (HX.out.below hb7 HX.out.lt)
          have HFr8 := hide (HFr.out.below hb7 HFr.out.lt)
          clear hb7 HB HN HX HFr
          have HB := hide HB8.out
          have HN := hide HN8.out
          have HX := hide HX8.out
          have HFr := hide HFr8.out
          clear HB8 HN8 HX8 HFr8
          rcases bitN_01 p n with hbit | hbit
          all_goals
            have HBit := hide hbit
            clear hbit
          · go_upto_region 12 with fail
            have Hmn := hide (show AllMono [(fun v _ => v = .pointer (some ⟨w.heap.size + 1, 0, none⟩)), (fun v _ => v = .agg #[.int .u32 (a : Int), .int .i64 (n : Int)]), (fun v _ => v = .pointer (some ⟨b, 0, none⟩)), (fun v _ => v = .pointer (some ⟨b, 0, none⟩)), (fun v _ => v = .pointer (some ⟨b, 0, none⟩)), (fun v _ => v = .agg #[.int .u32 (p : Int), .int .i64 (m : Int)]), (fun v _ => v = .int .i64 0), (fun v _ => v = .pointer (some ⟨b, 0, none⟩)), (fun v _ => v = .pointer (some ⟨w.heap.size + 1, 0, none⟩)), (fun v _ => v = .pointer (some ⟨w.heap.size + 1, 5, none⟩)), (fun v _ => v = .pointer (some ⟨w.heap.size + 1, 5, none⟩))] from ⟨fun _ _ _ _ h => h, fun _ _ _ _ h => h, fun _ _ _ _ h => h, fun _ _ _ _ h => h, fun _ _ _ _ h => h, fun _ _ _ _ h => h, fun _ _ _ _ h => h, fun _ _ _ _ h => h, fun _ _ _ _ h => h, fun _ _ _ _ h => h, fun _ _ _ _ h => h, trivial⟩)
            refine wp_region_relT 11 _ (by kernel_rfl) (by kernel_rfl) (by kernel_rfl) (by kernel_rfl) (by kernel_rfl) (relMono _ Hmn.out) ⟨?_, ?_, ?_, ?_, ?_, ?_, ?_, ?_, ?_, ?_, ?_, trivial⟩ ?_
            · refine relStep_plain rfl ?_
              intro Ac w5 hp
              have hb := hp.bel
              have a7 : Ac.eval (.tmp 7) = .pointer (some ⟨w.heap.size + 1, 0, none⟩) := hp.out 7 (by rfl)
              have hc := evalC Ac; have hf := evalF Ac; have hgl := evalG Ac
              obtain ⟨ρ, hρ⟩ : ∃ ρ, Ac.eval = ρ := ⟨_, rfl⟩
              rw [hρ] at a7 hc hf hgl
              exact relPure hρ (.pointer (some ⟨w.heap.size + 1, 0, none⟩)) (by simp [go_sem, hc, hf, hgl, ↓IntWalk.iteOmega, a7, *]) rfl
            · refine relStep_plain rfl ?_
              intro Ac w5 hp
              have hb := hp.bel
              have a4 : Ac.eval (.tmp 4) = .pointer (some ⟨w.heap.size, 0, none⟩) := hp.out 4 (by rfl)
              have hk5 := HN.out.below hb HN.out.lt
              have hx5 := HX.out.below hb HX.out.lt
              have y0 : w5.cell? ⟨b, 0, none⟩ = some (.int .u32 (p : Int)) := hk5.cell 0
              have y1 : w5.cell? ⟨b, 1, none⟩ = some (.int .i64 (m : Int)) := hk5.cell 1
              have x0 : w5.cell? ⟨w.heap.size, 0, none⟩ = some (.int .u32 (a : Int)) := hx5.cell 0
              have x1 : w5.cell? ⟨w.heap.size, 1, none⟩ = some (.int .i64 (n : Int)) := hx5.cell 1
              have hc := evalC Ac; have hf := evalF Ac; have hgl := evalG Ac
              obtain ⟨ρ, hρ⟩ : ∃ ρ, Ac.eval = ρ := ⟨_, rfl⟩
              rw [hρ] at a4 hc hf hgl
              exact relPure hρ (.agg #[.int .u32 (a : Int), .int .i64 (n : Int)]) (by simp [go_sem, hc, hf, hgl, ↓IntWalk.iteOmega, a4, *]) rfl
            · refine relStep_plain rfl ?_
              intro Ac w5 hp
              have hb := hp.bel
              have a0 : Ac.eval (.tmp 0) = .pointer (some ⟨b, 0, none⟩) := hp.out 0 (by rfl)
              have hc := evalC Ac; have hf := evalF Ac; have hgl := evalG Ac
              obtain ⟨ρ, hρ⟩ : ∃ ρ, Ac.eval = ρ := ⟨_, rfl⟩
              rw [hρ] at a0 hc hf hgl
              exact relPure hρ (.pointer (some ⟨b, 0, none⟩)) (by simp [go_sem, hc, hf, hgl, ↓IntWalk.iteOmega, a0, *]) rfl
            · refine relStep_plain rfl ?_
              intro Ac w5 hp
              have hb := hp.bel
              have a70 : Ac.eval (.tmp 70) = .pointer (some ⟨b, 0, none⟩) := hp.dep 2 (by kernel_rfl)
              have hc := evalC Ac; have hf := evalF Ac; have hgl := evalG Ac
              obtain ⟨ρ, hρ⟩ : ∃ ρ, Ac.eval = ρ := ⟨_, rfl⟩
              rw [hρ] at a70 hc hf hgl
              exact relPure hρ (.pointer (some ⟨b, 0, none⟩)) (by simp [go_sem, hc, hf, hgl, ↓IntWalk.iteOmega, a70, *]) rfl
            · refine relStep_plain rfl ?_
              intro Ac w5 hp
              have hb := hp.bel
              have a71 : Ac.eval (.tmp 71) = .pointer (some ⟨b, 0, none⟩) := hp.dep 3 (by kernel_rfl)
              have hc := evalC Ac; have hf := evalF Ac; have hgl := evalG Ac
              obtain ⟨ρ, hρ⟩ : ∃ ρ, Ac.eval = ρ := ⟨_, rfl⟩
              rw [hρ] at a71 hc hf hgl
              exact relPure hρ (.pointer (some ⟨b, 0, none⟩)) (by simp [go_sem, hc, hf, hgl, ↓IntWalk.iteOmega, a71, *]) rfl
            · refine relStep_plain rfl ?_
              intro Ac w5 hp
              have hb := hp.bel
              have a72 : Ac.eval (.tmp 72) = .pointer (some ⟨b, 0, none⟩) := hp.dep 4 (by kernel_rfl)
              have hk5 := HN.out.below hb HN.out.lt
              have hx5 := HX.out.below hb HX.out.lt
              have y0 : w5.cell? ⟨b, 0, none⟩ = some (.int .u32 (p : Int)) := hk5.cell 0
              have y1 : w5.cell? ⟨b, 1, none⟩ = some (.int .i64 (m : Int)) := hk5.cell 1
              have x0 : w5.cell? ⟨w.heap.size, 0, none⟩ = some (.int .u32 (a : Int)) := hx5.cell 0
              have x1 : w5.cell? ⟨w.heap.size, 1, none⟩ = some (.int .i64 (n : Int)) := hx5.cell 1
              have hc := evalC Ac; have hf := evalF Ac; have hgl := evalG Ac
              obtain ⟨ρ, hρ⟩ : ∃ ρ, Ac.eval = ρ := ⟨_, rfl⟩
              rw [hρ] at a72 hc hf hgl
              exact relPure hρ (.agg #[.int .u32 (p : Int), .int .i64 (m : Int)]) (by simp [go_sem, hc, hf, hgl, ↓IntWalk.iteOmega, a72, *]) rfl
            · refine relStep_plain rfl ?_
              intro Ac w5 hp
              have hb := hp.bel
              have a69 : Ac.eval (.tmp 69) = .agg #[.int .u32 (a : Int), .int .i64 (n : Int)] := hp.dep 1 (by kernel_rfl)
              have a73 : Ac.eval (.tmp 73) = .agg #[.int .u32 (p : Int), .int .i64 (m : Int)] := hp.dep 5 (by kernel_rfl)
              have hc := evalC Ac; have hf := evalF Ac; have hgl := evalG Ac
              obtain ⟨ρ, hρ⟩ : ∃ ρ, Ac.eval = ρ := ⟨_, rfl⟩
              rw [hρ] at a69 a73 hc hf hgl
              refine relCall hρ 186 #[.agg #[.int .u32 (a : Int), .int .i64 (n : Int)], .agg #[.int .u32 (p : Int), .int .i64 (m : Int)]] (by simp [go_sem, hc, hf, hgl, ↓IntWalk.iteOmega, a69, a73, *]) ?_
              refine (HSd2.out w5).mono ?_
              rintro e w6 ⟨rfl, hb6⟩
              exact ⟨_, rfl, by rw [HBit.out]; rfl, hb6⟩
            · refine relStep_plain rfl ?_
              intro Ac w5 hp
              have hb := hp.bel
              have a0 : Ac.eval (.tmp 0) = .pointer (some ⟨b, 0, none⟩) := hp.out 0 (by rfl)
              have hc := evalC Ac; have hf := evalF Ac; have hgl := evalG Ac
              obtain ⟨ρ, hρ⟩ : ∃ ρ, Ac.eval = ρ := ⟨_, rfl⟩
              rw [hρ] at a0 hc hf hgl
              exact relPure hρ (.pointer (some ⟨b, 0, none⟩)) (by simp [go_sem, hc, hf, hgl, ↓IntWalk.iteOmega, a0, *]) rfl
            · refine relStep_plain rfl ?_
              intro Ac w5 hp
              have hb := hp.bel
              have a68 : Ac.eval (.tmp 68) = .pointer (some ⟨w.heap.size + 1, 0, none⟩) := hp.dep 0 (by kernel_rfl)
              have hc := evalC Ac; have hf := evalF Ac; have hgl := evalG Ac
              obtain ⟨ρ, hρ⟩ : ∃ ρ, Ac.eval = ρ := ⟨_, rfl⟩
              rw [hρ] at a68 hc hf hgl
              exact relPure hρ (.pointer (some ⟨w.heap.size + 1, 0, none⟩)) (by simp [go_sem, hc, hf, hgl, ↓IntWalk.iteOmega, a68, *]) rfl
            · refine relStep_plain rfl ?_
              intro Ac w5 hp
              have hb := hp.bel
              have a76 : Ac.eval (.tmp 76) = .pointer (some ⟨w.heap.size + 1, 0, none⟩) := hp.dep 8 (by kernel_rfl)
              have hc := evalC Ac; have hf := evalF Ac; have hgl := evalG Ac
              obtain ⟨ρ, hρ⟩ : ∃ ρ, Ac.eval = ρ := ⟨_, rfl⟩
              rw [hρ] at a76 hc hf hgl
              exact relPure hρ (.pointer (some ⟨w.heap.size + 1, 5, none⟩)) (by simp [go_sem, hc, hf, hgl, ↓IntWalk.iteOmega, a76, *]) rfl
            · refine relStep_plain rfl ?_
              intro Ac w5 hp
              have hb := hp.bel
              have a77 : Ac.eval (.tmp 77) = .pointer (some ⟨w.heap.size + 1, 5, none⟩) := hp.dep 9 (by kernel_rfl)
              have a74 : Ac.eval (.tmp 74) = .int .i64 0 := hp.dep 6 (by kernel_rfl)
              have hc := evalC Ac; have hf := evalF Ac; have hgl := evalG Ac
              obtain ⟨ρ, hρ⟩ : ∃ ρ, Ac.eval = ρ := ⟨_, rfl⟩
              rw [hρ] at a77 a74 hc hf hgl
              exact relPure hρ (.pointer (some ⟨w.heap.size + 1, 5, none⟩)) (by simp [go_sem, hc, hf, hgl, ↓IntWalk.iteOmega, a77, a74, *]) rfl
            intro u w9 hb7 hall
            have e75 : u 7 = .pointer (some ⟨b, 0, none⟩) := relAll_at hall (i := 7) (by decide +kernel)
            have e78 : u 10 = .pointer (some ⟨w.heap.size + 1, 5, none⟩) := relAll_at hall (i := 10) (by decide +kernel)
            clear hall
            simp only [List.drop_succ_cons, List.drop_zero, List.take_succ_cons, List.take_zero, putAll, Act.put, List.setIfInBounds_toArray, List.set_cons_zero, List.set_cons_succ, Nat.zero_add, Nat.reduceAdd, e75, e78]
            have HB9 := hide (HB.out.trans (hb7.mono HB.out.size))
            have hF9 := HFr.out.below hb7 HFr.out.lt
            have z9 : w9.cell? ⟨w.heap.size + 1, 5, none⟩ = some (.pointer none) := hF9.cell 5
            have zf9 := hF9.frozen 5
            obtain ⟨w10, hw10⟩ : ∃ W, w9.setCell ⟨w.heap.size + 1, 5, none⟩ (.pointer (some ⟨b, 0, none⟩)) = W := ⟨_, rfl⟩
            have HF10 : Hid (Blk w10 (w.heap.size + 1) 231 (ndC a n [.slice vA vn vc] true 1 (.pointer (some ⟨b, 0, none⟩)) (.pointer none))) := hide (hw10 ▸ hF9.set_ 5 _)
            have HC10 : Hid (ChgS (fun _ => False) w w10) := hide (hw10 ▸ chg_trans (chg_below HB9.out) (chg_set (S := fun k => k = w.heap.size + 1) (p := ⟨w.heap.size + 1, 5, none⟩) rfl _) (fun k h => .inr (by omega)))
            have HTw := hide ((NdA.tree HD.out).chg HC10.out (by simp) (by simp))
            have hcw : trCnt (.nd b p m v l r) < 1000000000 := by simp only [trCnt]; have := HCn.out; split <;> omega
            have HNt := hide (noteP_any (F := F) (R := R) (w.heap.size + 1) a n [.slice vA vn vc] ⟨rfl, by simp [Value.oneCell']⟩ true 1 (.nd b p m v l r) .nil w10 HF10.out HTw.out.mem trivial (by show trCnt (.nd b p m v l r) + 0 < 1000000000; omega))
            have HWd := hide hw10
            clear hw10 hb7 hF9 hcw
            go_upto_region 13 with fail
            rw [HWd.out]
            clear z9 zf9
            go_wp2_with fail
            refine HNt.out.mono ?_
            rintro e w11 ⟨rfl, hk11, hc11⟩
            have HK11 := hide hk11
            have HC11 : Hid (ChgS (fun _ => False) w w11) := hide (chg_trans HC10.out hc11 (fun k h => .inr (by omega)))
            clear hk11 hc11
            go_wp2
            go_ret
            have hPR := put_above0 (b0 := w.heap.size + 1) (x := x) HD.out.wf HPa.out HCvP.out HE.out HBit.out
            refine ⟨_, rfl, hPR, nd_new (w := w) (v := some x) (NdA.tree HD.out) TrA.nil_ HF.out hPR.wf ⟨rfl, by simp [Value.oneCell']⟩ (fun y hy => by injection hy with hy; subst hy; exact HFv.out) (by omega) (fun k _ h => by simp [trB] at h) HC11.out HK11.out, fun k hk => ?_, chg_mono HC11.out (fun k h => h.elim)⟩
            have hk2 : k = w.heap.size + 1 ∨ k ∈ trB (.nd b p m v l r) := by
              have : trB (.nd (w.heap.size + 1) a n (some x) (.nd b p m v l r) .nil) = (w.heap.size + 1) :: (trB (.nd b p m v l r) ++ []) := rfl
              rw [this] at hk
              simpa [trB] using hk
            exact hk2.elim (fun e => .inr (by omega)) .inl
          · go_upto_region 12 with fail
            have Hmn := hide (show AllMono [(fun v _ => v = .pointer (some ⟨w.heap.size + 1, 0, none⟩)), (fun v _ => v = .agg #[.int .u32 (a : Int), .int .i64 (n : Int)]), (fun v _ => v = .pointer (some ⟨b, 0, none⟩)), (fun v _ => v = .pointer (some ⟨b, 0, none⟩)), (fun v _ => v = .pointer (some ⟨b, 0, none⟩)), (fun v _ => v = .agg #[.int .u32 (p : Int), .int .i64 (m : Int)]), (fun v _ => v = .int .i64 1), (fun v _ => v = .pointer (some ⟨b, 0, none⟩)), (fun v _ => v = .pointer (some ⟨w.heap.size + 1, 0, none⟩)), (fun v _ => v = .pointer (some ⟨w.heap.size + 1, 5, none⟩)), (fun v _ => v = .pointer (some ⟨w.heap.size + 1, 6, none⟩))] from ⟨fun _ _ _ _ h => h, fun _ _ _ _ h => h, fun _ _ _ _ h => h, fun _ _ _ _ h => h, fun _ _ _ _ h => h, fun _ _ _ _ h => h, fun _ _ _ _ h => h, fun _ _ _ _ h => h, fun _ _ _ _ h => h, fun _ _ _ _ h => h, fun _ _ _ _ h => h, trivial⟩)
            refine wp_region_relT 11 _ (by kernel_rfl) (by kernel_rfl) (by kernel_rfl) (by kernel_rfl) (by kernel_rfl) (relMono _ Hmn.out) ⟨?_, ?_, ?_, ?_, ?_, ?_, ?_, ?_, ?_, ?_, ?_, trivial⟩ ?_
            · refine relStep_plain rfl ?_
              intro Ac w5 hp
              have hb := hp.bel
              have a7 : Ac.eval (.tmp 7) = .pointer (some ⟨w.heap.size + 1, 0, none⟩) := hp.out 7 (by rfl)
              have hc := evalC Ac; have hf := evalF Ac; have hgl := evalG Ac
              obtain ⟨ρ, hρ⟩ : ∃ ρ, Ac.eval = ρ := ⟨_, rfl⟩
              rw [hρ] at a7 hc hf hgl
              exact relPure hρ (.pointer (some ⟨w.heap.size + 1, 0, none⟩)) (by simp [go_sem, hc, hf, hgl, ↓IntWalk.iteOmega, a7, *]) rfl
            · refine relStep_plain rfl ?_
              intro Ac w5 hp
              have hb := hp.bel
              have a4 : Ac.eval (.tmp 4) = .pointer (some ⟨w.heap.size, 0, none⟩) := hp.out 4 (by rfl)
              have hk5 := HN.out.below hb HN.out.lt
              have hx5 := HX.out.below hb HX.out.lt
              have y0 : w5.cell? ⟨b, 0, none⟩ = some (.int .u32 (p : Int)) := hk5.cell 0
              have y1 : w5.cell? ⟨b, 1, none⟩ = some (.int .i64 (m : Int)) := hk5.cell 1
              have x0 : w5.cell? ⟨w.heap.size, 0, none⟩ = some (.int .u32 (a : Int)) := hx5.cell 0
              have x1 : w5.cell? ⟨w.heap.size, 1, none⟩ = some (.int .i64 (n : Int)) := hx5.cell 1
              have hc := evalC Ac; have hf := evalF Ac; have hgl := evalG Ac
              obtain ⟨ρ, hρ⟩ : ∃ ρ, Ac.eval = ρ := ⟨_, rfl⟩
              rw [hρ] at a4 hc hf hgl
              exact relPure hρ (.agg #[.int .u32 (a : Int), .int .i64 (n : Int)]) (by simp [go_sem, hc, hf, hgl, ↓IntWalk.iteOmega, a4, *]) rfl
            · refine relStep_plain rfl ?_
              intro Ac w5 hp
              have hb := hp.bel
              have a0 : Ac.eval (.tmp 0) = .pointer (some ⟨b, 0, none⟩) := hp.out 0 (by rfl)
              have hc := evalC Ac; have hf := evalF Ac; have hgl := evalG Ac
              obtain ⟨ρ, hρ⟩ : ∃ ρ, Ac.eval = ρ := ⟨_, rfl⟩
              rw [hρ] at a0 hc hf hgl
              exact relPure hρ (.pointer (some ⟨b, 0, none⟩)) (by simp [go_sem, hc, hf, hgl, ↓IntWalk.iteOmega, a0, *]) rfl
            · refine relStep_plain rfl ?_
              intro Ac w5 hp
              have hb := hp.bel
              have a70 : Ac.eval (.tmp 70) = .pointer (some ⟨b, 0, none⟩) := hp.dep 2 (by kernel_rfl)
              have hc := evalC Ac; have hf := evalF Ac; have hgl := evalG Ac
              obtain ⟨ρ, hρ⟩ : ∃ ρ, Ac.eval = ρ := ⟨_, rfl⟩
              rw [hρ] at a70 hc hf hgl
              exact relPure hρ (.pointer (some ⟨b, 0, none⟩)) (by simp [go_sem, hc, hf, hgl, ↓IntWalk.iteOmega, a70, *]) rfl
            · refine relStep_plain rfl ?_
              intro Ac w5 hp
              have hb := hp.bel
              have a71 : Ac.eval (.tmp 71) = .pointer (some ⟨b, 0, none⟩) := hp.dep 3 (by kernel_rfl)
              have hc := evalC Ac; have hf := evalF Ac; have hgl := evalG Ac
              obtain ⟨ρ, hρ⟩ : ∃ ρ, Ac.eval = ρ := ⟨_, rfl⟩
              rw [hρ] at a71 hc hf hgl
              exact relPure hρ (.pointer (some ⟨b, 0, none⟩)) (by simp [go_sem, hc, hf, hgl, ↓IntWalk.iteOmega, a71, *]) rfl
            · refine relStep_plain rfl ?_
              intro Ac w5 hp
              have hb := hp.bel
              have a72 : Ac.eval (.tmp 72) = .pointer (some ⟨b, 0, none⟩) := hp.dep 4 (by kernel_rfl)
              have hk5 := HN.out.below hb HN.out.lt
              have hx5 := HX.out.below hb HX.out.lt
              have y0 : w5.cell? ⟨b, 0, none⟩ = some (.int .u32 (p : Int)) := hk5.cell 0
              have y1 : w5.cell? ⟨b, 1, none⟩ = some (.int .i64 (m : Int)) := hk5.cell 1
              have x0 : w5.cell? ⟨w.heap.size, 0, none⟩ = some (.int .u32 (a : Int)) := hx5.cell 0
              have x1 : w5.cell? ⟨w.heap.size, 1, none⟩ = some (.int .i64 (n : Int)) := hx5.cell 1
              have hc := evalC Ac; have hf := evalF Ac; have hgl := evalG Ac
              obtain ⟨ρ, hρ⟩ : ∃ ρ, Ac.eval = ρ := ⟨_, rfl⟩
              rw [hρ] at a72 hc hf hgl
              exact relPure hρ (.agg #[.int .u32 (p : Int), .int .i64 (m : Int)]) (by simp [go_sem, hc, hf, hgl, ↓IntWalk.iteOmega, a72, *]) rfl
            · refine relStep_plain rfl ?_
              intro Ac w5 hp
              have hb := hp.bel
              have a69 : Ac.eval (.tmp 69) = .agg #[.int .u32 (a : Int), .int .i64 (n : Int)] := hp.dep 1 (by kernel_rfl)
              have a73 : Ac.eval (.tmp 73) = .agg #[.int .u32 (p : Int), .int .i64 (m : Int)] := hp.dep 5 (by kernel_rfl)
              have hc := evalC Ac; have hf := evalF Ac; have hgl := evalG Ac
              obtain ⟨ρ, hρ⟩ : ∃ ρ, Ac.eval = ρ := ⟨_, rfl⟩
              rw [hρ] at a69 a73 hc hf hgl
              refine relCall hρ 186 #[.agg #[.int .u32 (a : Int), .int .i64 (n : Int)], .agg #[.int .u32 (p : Int), .int .i64 (m : Int)]] (by simp [go_sem, hc, hf, hgl, ↓IntWalk.iteOmega, a69, a73, *]) ?_
              refine (HSd2.out w5).mono ?_
              rintro e w6 ⟨rfl, hb6⟩
              exact ⟨_, rfl, by rw [HBit.out]; rfl, hb6⟩
            · refine relStep_plain rfl ?_
              intro Ac w5 hp
              have hb := hp.bel
              have a0 : Ac.eval (.tmp 0) = .pointer (some ⟨b, 0, none⟩) := hp.out 0 (by rfl)
              have hc := evalC Ac; have hf := evalF Ac; have hgl := evalG Ac
              obtain ⟨ρ, hρ⟩ : ∃ ρ, Ac.eval = ρ := ⟨_, rfl⟩
              rw [hρ] at a0 hc hf hgl
              exact relPure hρ (.pointer (some ⟨b, 0, none⟩)) (by simp [go_sem, hc, hf, hgl, ↓IntWalk.iteOmega, a0, *]) rfl
            · refine relStep_plain rfl ?_
              intro Ac w5 hp
              have hb := hp.bel
              have a68 : Ac.eval (.tmp 68) = .pointer (some ⟨w.heap.size + 1, 0, none⟩) := hp.dep 0 (by kernel_rfl)
              have hc := evalC Ac; have hf := evalF Ac; have hgl := evalG Ac
              obtain ⟨ρ, hρ⟩ : ∃ ρ, Ac.eval = ρ := ⟨_, rfl⟩
              rw [hρ] at a68 hc hf hgl
              exact relPure hρ (.pointer (some ⟨w.heap.size + 1, 0, none⟩)) (by simp [go_sem, hc, hf, hgl, ↓IntWalk.iteOmega, a68, *]) rfl
            · refine relStep_plain rfl ?_
              intro Ac w5 hp
              have hb := hp.bel
              have a76 : Ac.eval (.tmp 76) = .pointer (some ⟨w.heap.size + 1, 0, none⟩) := hp.dep 8 (by kernel_rfl)
              have hc := evalC Ac; have hf := evalF Ac; have hgl := evalG Ac
              obtain ⟨ρ, hρ⟩ : ∃ ρ, Ac.eval = ρ := ⟨_, rfl⟩
              rw [hρ] at a76 hc hf hgl
              exact relPure hρ (.pointer (some ⟨w.heap.size + 1, 5, none⟩)) (by simp [go_sem, hc, hf, hgl, ↓IntWalk.iteOmega, a76, *]) rfl
            · refine relStep_plain rfl ?_
              intro Ac w5 hp
              have hb := hp.bel
              have a77 : Ac.eval (.tmp 77) = .pointer (some ⟨w.heap.size + 1, 5, none⟩) := hp.dep 9 (by kernel_rfl)
              have a74 : Ac.eval (.tmp 74) = .int .i64 1 := hp.dep 6 (by kernel_rfl)
              have hc := evalC Ac; have hf := evalF Ac; have hgl := evalG Ac
              obtain ⟨ρ, hρ⟩ : ∃ ρ, Ac.eval = ρ := ⟨_, rfl⟩
              rw [hρ] at a77 a74 hc hf hgl
              exact relPure hρ (.pointer (some ⟨w.heap.size + 1, 6, none⟩)) (by simp [go_sem, hc, hf, hgl, ↓IntWalk.iteOmega, a77, a74, *]) rfl
            intro u w9 hb7 hall
            have e75 : u 7 = .pointer (some ⟨b, 0, none⟩) := relAll_at hall (i := 7) (by decide +kernel)
            have e78 : u 10 = .pointer (some ⟨w.heap.size + 1, 6, none⟩) := relAll_at hall (i := 10) (by decide +kernel)
            clear hall
            simp only [List.drop_succ_cons, List.drop_zero, List.take_succ_cons, List.take_zero, putAll, Act.put, List.setIfInBounds_toArray, List.set_cons_zero, List.set_cons_succ, Nat.zero_add, Nat.reduceAdd, e75, e78]
            have HB9 := hide (HB.out.trans (hb7.mono HB.out.size))
            have hF9 := HFr.out.below hb7 HFr.out.lt
            have z9 : w9.cell? ⟨w.heap.size + 1, 6, none⟩ = some (.pointer none) := hF9.cell 6
            have zf9 := hF9.frozen 6
            obtain ⟨w10, hw10⟩ : ∃ W, w9.setCell ⟨w.heap.size + 1, 6, none⟩ (.pointer (some ⟨b, 0, none⟩)) = W := ⟨_, rfl⟩
            have HF10 : Hid (Blk w10 (w.heap.size + 1) 231 (ndC a n [.slice vA vn vc] true 1 (.pointer none) (.pointer (some ⟨b, 0, none⟩)))) := hide (hw10 ▸ hF9.set_ 6 _)
            have HC10 : Hid (ChgS (fun _ => False) w w10) := hide (hw10 ▸ chg_trans (chg_below HB9.out) (chg_set (S := fun k => k = w.heap.size + 1) (p := ⟨w.heap.size + 1, 6, none⟩) rfl _) (fun k h => .inr (by omega)))
            have HTw := hide ((NdA.tree HD.out).chg HC10.out (by simp) (by simp))
            have hcw : trCnt (.nd b p m v l r) < 1000000000 := by simp only [trCnt]; have := HCn.out; split <;> omega
            have HNt := hide (noteP_any (F := F) (R := R) (w.heap.size + 1) a n [.slice vA vn vc] ⟨rfl, by simp [Value.oneCell']⟩ true 1 .nil (.nd b p m v l r) w10 HF10.out trivial HTw.out.mem (by show 0 + trCnt (.nd b p m v l r) < 1000000000; omega))
            have HWd := hide hw10
            clear hw10 hb7 hF9 hcw
            go_upto_region 13 with fail
            rw [HWd.out]
            clear z9 zf9
            go_wp2_with fail
            refine HNt.out.mono ?_
            rintro e w11 ⟨rfl, hk11, hc11⟩
            have HK11 := hide hk11
            have HC11 : Hid (ChgS (fun _ => False) w w11) := hide (chg_trans HC10.out hc11 (fun k h => .inr (by omega)))
            clear hk11 hc11
            go_wp2
            go_ret
            have hPR := put_above1 (b0 := w.heap.size + 1) (x := x) HD.out.wf HPa.out HCvP.out HE.out HBit.out
            refine ⟨_, rfl, hPR, nd_new (w := w) (v := some x) TrA.nil_ (NdA.tree HD.out) HF.out hPR.wf ⟨rfl, by simp [Value.oneCell']⟩ (fun y hy => by injection hy with hy; subst hy; exact HFv.out) (by omega) (fun k h => by simp [trB] at h) HC11.out HK11.out, fun k hk => ?_, chg_mono HC11.out (fun k h => h.elim)⟩
            have hk2 : k = w.heap.size + 1 ∨ k ∈ trB (.nd b p m v l r) := by
              have : trB (.nd (w.heap.size + 1) a n (some x) .nil (.nd b p m v l r)) = (w.heap.size + 1) :: ([] ++ trB (.nd b p m v l r)) := rfl
              rw [this] at hk
              simpa [trB] using hk
            exact hk2.elim (fun e => .inr (by omega)) .inl
        · rw [decide_eq_false hcv2] at HCv2
          obtain ⟨hL1, hL2, hL3, hL4, hL5⟩ := com_apart HPn.out HPa.out HCvN.out hcv2
          have HCv2N := hide hcv2
          have hCm := fun W => common_good p m a n HPn.out.1 HPa.out.1 HPn.out.2.1 HPa.out.2.1 (good_pg HPn.out) (good_pg HPa.out) W
          obtain ⟨L, hL⟩ : ∃ L, comL p m a n = L := ⟨_, rfl⟩
          obtain ⟨cp, hcp⟩ : ∃ c, cutN p L = c := ⟨_, rfl⟩
          have hL' : min (min (comN p a) m) n = L := hL
          rw [hL', hcp] at hCm
          rw [hL] at hL1 hL2 hL3 hL4 hL5
          unfold pfx at hCm
          have HCm := hide hCm
          have HSa := hide (fun W => side_any cp L a n HPa.out.1 (by omega) W)
          have HSp := hide (fun W => side_any cp L p m HPn.out.1 (by omega) W)
          have HLe := hide hL
          have HCp := hide hcp
          have HL5 := hide hL5
          clear hcv2 hCm hL hcp hL' hL1 hL2 hL3 hL4 hL5
          go_upto_region 11 with fail
          have Hmn := hide (show AllMono [(fun v _ => v = .agg #[.int .u32 (a : Int), .int .i64 (n : Int)]), (fun v _ => v = .pointer (some ⟨b, 0, none⟩)), (fun v _ => v = .pointer (some ⟨b, 0, none⟩)), (fun v _ => v = .pointer (some ⟨b, 0, none⟩)), (fun v _ => v = .agg #[.int .u32 (p : Int), .int .i64 (m : Int)]), (fun v _ => v = .bool false)] from ⟨fun _ _ _ _ h => h, fun _ _ _ _ h => h, fun _ _ _ _ h => h, fun _ _ _ _ h => h, fun _ _ _ _ h => h, fun _ _ _ _ h => h, trivial⟩)
          refine wp_region_relT 6 _ (by kernel_rfl) (by kernel_rfl) (by kernel_rfl) (by kernel_rfl) (by kernel_rfl) (relMono _ Hmn.out) ⟨?_, ?_, ?_, ?_, ?_, ?_, trivial⟩ ?_
          · refine relStep_plain rfl ?_
            intro Ac w5 hp
            have hb := hp.bel
            have a4 : Ac.eval (.tmp 4) = .pointer (some ⟨w.heap.size, 0, none⟩) := hp.out 4 (by rfl)
            have hk5 := HN.out.below hb HN.out.lt
            have hx5 := HX.out.below hb HX.out.lt
            have y0 : w5.cell? ⟨b, 0, none⟩ = some (.int .u32 (p : Int)) := hk5.cell 0
            have y1 : w5.cell? ⟨b, 1, none⟩ = some (.int .i64 (m : Int)) := hk5.cell 1
            have x0 : w5.cell? ⟨w.heap.size, 0, none⟩ = some (.int .u32 (a : Int)) := hx5.cell 0
            have x1 : w5.cell? ⟨w.heap.size, 1, none⟩ = some (.int .i64 (n : Int)) := hx5.cell 1
            have hc := evalC Ac; have hf := evalF Ac; have hgl := evalG Ac
            obtain ⟨ρ, hρ⟩ : ∃ ρ, Ac.eval = ρ := ⟨_, rfl⟩
            rw [hρ] at a4 hc hf hgl
            exact relPure hρ (.agg #[.int .u32 (a : Int), .int .i64 (n : Int)]) (by simp [go_sem, hc, hf, hgl, ↓IntWalk.iteOmega, a4, *]) rfl
          · refine relStep_plain rfl ?_
            intro Ac w5 hp
            have hb := hp.bel
            have a0 : Ac.eval (.tmp 0) = .pointer (some ⟨b, 0, none⟩) := hp.out 0 (by rfl)
            have hc := evalC Ac; have hf := evalF Ac; have hgl := evalG Ac
            obtain ⟨ρ, hρ⟩ : ∃ ρ, Ac.eval = ρ := ⟨_, rfl⟩
            rw [hρ] at a0 hc hf hgl
            exact relPure hρ (.pointer (some ⟨b, 0, none⟩)) (by simp [go_sem, hc, hf, hgl, ↓IntWalk.iteOmega, a0, *]) rfl
          · refine relStep_plain rfl ?_
            intro Ac w5 hp
            have hb := hp.bel
            have a63 : Ac.eval (.tmp 63) = .pointer (some ⟨b, 0, none⟩) := hp.dep 1 (by kernel_rfl)
            have hc := evalC Ac; have hf := evalF Ac; have hgl := evalG Ac
            obtain ⟨ρ, hρ⟩ : ∃ ρ, Ac.eval = ρ := ⟨_, rfl⟩
            rw [hρ] at a63 hc hf hgl
            exact relPure hρ (.pointer (some ⟨b, 0, none⟩)) (by simp [go_sem, hc, hf, hgl, ↓IntWalk.iteOmega, a63, *]) rfl
          · refine relStep_plain rfl ?_
            intro Ac w5 hp
            have hb := hp.bel
            have a64 : Ac.eval (.tmp 64) = .pointer (some ⟨b, 0, none⟩) := hp.dep 2 (by kernel_rfl)
            have hc := evalC Ac; have hf := evalF Ac; have hgl := evalG Ac
            obtain ⟨ρ, hρ⟩ : ∃ ρ, Ac.eval = ρ := ⟨_, rfl⟩
            rw [hρ] at a64 hc hf hgl
            exact relPure hρ (.pointer (some ⟨b, 0, none⟩)) (by simp [go_sem, hc, hf, hgl, ↓IntWalk.iteOmega, a64, *]) rfl
          · refine relStep_plain rfl ?_
            intro Ac w5 hp
            have hb := hp.bel
            have a65 : Ac.eval (.tmp 65) = .pointer (some ⟨b, 0, none⟩) := hp.dep 3 (by kernel_rfl)
            have hk5 := HN.out.below hb HN.out.lt
            have hx5 := HX.out.below hb HX.out.lt
            have y0 : w5.cell? ⟨b, 0, none⟩ = some (.int .u32 (p : Int)) := hk5.cell 0
            have y1 : w5.cell? ⟨b, 1, none⟩ = some (.int .i64 (m : Int)) := hk5.cell 1
            have x0 : w5.cell? ⟨w.heap.size, 0, none⟩ = some (.int .u32 (a : Int)) := hx5.cell 0
            have x1 : w5.cell? ⟨w.heap.size, 1, none⟩ = some (.int .i64 (n : Int)) := hx5.cell 1
            have hc := evalC Ac; have hf := evalF Ac; have hgl := evalG Ac
            obtain ⟨ρ, hρ⟩ : ∃ ρ, Ac.eval = ρ := ⟨_, rfl⟩
            rw [hρ] at a65 hc hf hgl
            exact relPure hρ (.agg #[.int .u32 (p : Int), .int .i64 (m : Int)]) (by simp [go_sem, hc, hf, hgl, ↓IntWalk.iteOmega, a65, *]) rfl
          · refine relStep_plain rfl ?_
            intro Ac w5 hp
            have hb := hp.bel
            have a62 : Ac.eval (.tmp 62) = .agg #[.int .u32 (a : Int), .int .i64 (n : Int)] := hp.dep 0 (by kernel_rfl)
            have a66 : Ac.eval (.tmp 66) = .agg #[.int .u32 (p : Int), .int .i64 (m : Int)] := hp.dep 4 (by kernel_rfl)
            have hc := evalC Ac; have hf := evalF Ac; have hgl := evalG Ac
            obtain ⟨ρ, hρ⟩ : ∃ ρ, Ac.eval = ρ := ⟨_, rfl⟩
            rw [hρ] at a62 a66 hc hf hgl
            refine relCall hρ 185 #[.agg #[.int .u32 (a : Int), .int .i64 (n : Int)], .agg #[.int .u32 (p : Int), .int .i64 (m : Int)]] (by simp [go_sem, hc, hf, hgl, ↓IntWalk.iteOmega, a62, a66, *]) ?_
            refine (HCv2.out w5).mono ?_
            rintro e w6 ⟨rfl, hb6⟩
            exact ⟨_, rfl, rfl, hb6⟩
          intro u w8 hb7 hall
          have e67 : u 5 = .bool false := relAll_at hall (i := 5) (by decide +kernel)
          clear hall
          simp only [List.drop_succ_cons, List.drop_zero, List.take_succ_cons, List.take_zero, putAll, Act.put, List.setIfInBounds_toArray, List.set_cons_zero, List.set_cons_succ, Nat.zero_add, Nat.reduceAdd, e67]
          have HB8 := hide (HB.out.trans (hb7.mono HB.out.size))
          have HN8 := hide (HN.out.below hb7 HN.out.lt)
          have HX8 := hide (HX.out.below hb7 HX.out.lt)
          have HFr8 := hide (HFr.out.below hb7 HFr.out.lt)
          clear hb7 HB HN HX HFr
          have HB := hide HB8.out
          have HN := hide HN8.out
          have HX := hide HX8.out
          have HFr := hide HFr8.out
          clear HB8 HN8 HX8 HFr8
          go_upto_region 14 with fail
          have Hmn := hide (show AllMono [(fun v _ => v = .pointer (some ⟨b, 0, none⟩)), (fun v _ => v = .pointer (some ⟨b, 0, none⟩)), (fun v _ => v = .pointer (some ⟨b, 0, none⟩)), (fun v _ => v = .agg #[.int .u32 (p : Int), .int .i64 (m : Int)]), (fun v _ => v = .agg #[.int .u32 (a : Int), .int .i64 (n : Int)]), (fun v _ => v = .agg #[.int .u32 (cp : Int), .int .i64 (L : Int)]), (fun v _ => v = .agg #[.int .u32 (cp : Int), .int .i64 (L : Int), .slice none 0 0, .bool false, .int .i64 0, .pointer none, .pointer none]), (fun v w => ∃ R, v = .pointer (some ⟨R, 0, none⟩) ∧ Blk w R 231 #[.int .u32 (cp : Int), .int .i64 (L : Int), .slice none 0 0, .bool false, .int .i64 0, .pointer none, .pointer none] ∧ w8.heap.size ≤ R)] from ⟨fun _ _ _ _ h => h, fun _ _ _ _ h => h, fun _ _ _ _ h => h, fun _ _ _ _ h => h, fun _ _ _ _ h => h, fun _ _ _ _ h => h, fun _ _ _ _ h => h, fun v w w2 hb ⟨R, e, h, h2⟩ => ⟨R, e, h.below hb h.lt, h2⟩, trivial⟩)
          refine wp_region_relT 8 _ (by kernel_rfl) (by kernel_rfl) (by kernel_rfl) (by kernel_rfl) (by kernel_rfl) (relMono _ Hmn.out) ⟨?_, ?_, ?_, ?_, ?_, ?_, ?_, ?_, trivial⟩ ?_
          · refine relStep_plain rfl ?_
            intro Ac w5 hp
            have hb := hp.bel
            have a0 : Ac.eval (.tmp 0) = .pointer (some ⟨b, 0, none⟩) := hp.out 0 (by rfl)
            have hc := evalC Ac; have hf := evalF Ac; have hgl := evalG Ac
            obtain ⟨ρ, hρ⟩ : ∃ ρ, Ac.eval = ρ := ⟨_, rfl⟩
            rw [hρ] at a0 hc hf hgl
            exact relPure hρ (.pointer (some ⟨b, 0, none⟩)) (by simp [go_sem, hc, hf, hgl, ↓IntWalk.iteOmega, a0, *]) rfl
          · refine relStep_plain rfl ?_
            intro Ac w5 hp
            have hb := hp.bel
            have a81 : Ac.eval (.tmp 81) = .pointer (some ⟨b, 0, none⟩) := hp.dep 0 (by kernel_rfl)
            have hc := evalC Ac; have hf := evalF Ac; have hgl := evalG Ac
            obtain ⟨ρ, hρ⟩ : ∃ ρ, Ac.eval = ρ := ⟨_, rfl⟩
            rw [hρ] at a81 hc hf hgl
            exact relPure hρ (.pointer (some ⟨b, 0, none⟩)) (by simp [go_sem, hc, hf, hgl, ↓IntWalk.iteOmega, a81, *]) rfl
          · refine relStep_plain rfl ?_
            intro Ac w5 hp
            have hb := hp.bel
            have a82 : Ac.eval (.tmp 82) = .pointer (some ⟨b, 0, none⟩) := hp.dep 1 (by kernel_rfl)
            have hc := evalC Ac; have hf := evalF Ac; have hgl := evalG Ac
            obtain ⟨ρ, hρ⟩ : ∃ ρ, Ac.eval = ρ := ⟨_, rfl⟩
            rw [hρ] at a82 hc hf hgl
            exact relPure hρ (.pointer (some ⟨b, 0, none⟩)) (by simp [go_sem, hc, hf, hgl, ↓IntWalk.iteOmega, a82, *]) rfl
          · refine relStep_plain rfl ?_
            intro Ac w5 hp
            have hb := hp.bel
            have a83 : Ac.eval (.tmp 83) = .pointer (some ⟨b, 0, none⟩) := hp.dep 2 (by kernel_rfl)
            have hk5 := HN.out.below hb HN.out.lt
            have hx5 := HX.out.below hb HX.out.lt
            have y0 : w5.cell? ⟨b, 0, none⟩ = some (.int .u32 (p : Int)) := hk5.cell 0
            have y1 : w5.cell? ⟨b, 1, none⟩ = some (.int .i64 (m : Int)) := hk5.cell 1
            have x0 : w5.cell? ⟨w.heap.size, 0, none⟩ = some (.int .u32 (a : Int)) := hx5.cell 0
            have x1 : w5.cell? ⟨w.heap.size, 1, none⟩ = some (.int .i64 (n : Int)) := hx5.cell 1
            have hc := evalC Ac; have hf := evalF Ac; have hgl := evalG Ac
            obtain ⟨ρ, hρ⟩ : ∃ ρ, Ac.eval = ρ := ⟨_, rfl⟩
            rw [hρ] at a83 hc hf hgl
            exact relPure hρ (.agg #[.int .u32 (p : Int), .int .i64 (m : Int)]) (by simp [go_sem, hc, hf, hgl, ↓IntWalk.iteOmega, a83, *]) rfl
          · refine relStep_plain rfl ?_
            intro Ac w5 hp
            have hb := hp.bel
            have a4 : Ac.eval (.tmp 4) = .pointer (some ⟨w.heap.size, 0, none⟩) := hp.out 4 (by rfl)
            have hk5 := HN.out.below hb HN.out.lt
            have hx5 := HX.out.below hb HX.out.lt
            have y0 : w5.cell? ⟨b, 0, none⟩ = some (.int .u32 (p : Int)) := hk5.cell 0
            have y1 : w5.cell? ⟨b, 1, none⟩ = some (.int .i64 (m : Int)) := hk5.cell 1
            have x0 : w5.cell? ⟨w.heap.size, 0, none⟩ = some (.int .u32 (a : Int)) := hx5.cell 0
            have x1 : w5.cell? ⟨w.heap.size, 1, none⟩ = some (.int .i64 (n : Int)) := hx5.cell 1
            have hc := evalC Ac; have hf := evalF Ac; have hgl := evalG Ac
            obtain ⟨ρ, hρ⟩ : ∃ ρ, Ac.eval = ρ := ⟨_, rfl⟩
            rw [hρ] at a4 hc hf hgl
            exact relPure hρ (.agg #[.int .u32 (a : Int), .int .i64 (n : Int)]) (by simp [go_sem, hc, hf, hgl, ↓IntWalk.iteOmega, a4, *]) rfl
          · refine relStep_plain rfl ?_
            intro Ac w5 hp
            have hb := hp.bel
            have a84 : Ac.eval (.tmp 84) = .agg #[.int .u32 (p : Int), .int .i64 (m : Int)] := hp.dep 3 (by kernel_rfl)
            have a85 : Ac.eval (.tmp 85) = .agg #[.int .u32 (a : Int), .int .i64 (n : Int)] := hp.dep 4 (by kernel_rfl)
            have hc := evalC Ac; have hf := evalF Ac; have hgl := evalG Ac
            obtain ⟨ρ, hρ⟩ : ∃ ρ, Ac.eval = ρ := ⟨_, rfl⟩
            rw [hρ] at a84 a85 hc hf hgl
            refine relCall hρ 188 #[.agg #[.int .u32 (p : Int), .int .i64 (m : Int)], .agg #[.int .u32 (a : Int), .int .i64 (n : Int)]] (by simp [go_sem, hc, hf, hgl, ↓IntWalk.iteOmega, a84, a85, *]) ?_
            refine (HCm.out w5).mono ?_
            rintro e w6 ⟨rfl, hb6⟩
            exact ⟨_, rfl, rfl, hb6⟩
          · refine relStep_plain rfl ?_
            intro Ac w5 hp
            have hb := hp.bel
            have a86 : Ac.eval (.tmp 86) = .agg #[.int .u32 (cp : Int), .int .i64 (L : Int)] := hp.dep 5 (by kernel_rfl)
            have hc := evalC Ac; have hf := evalF Ac; have hgl := evalG Ac
            obtain ⟨ρ, hρ⟩ : ∃ ρ, Ac.eval = ρ := ⟨_, rfl⟩
            rw [hρ] at a86 hc hf hgl
            exact relPure hρ (.agg #[.int .u32 (cp : Int), .int .i64 (L : Int), .slice none 0 0, .bool false, .int .i64 0, .pointer none, .pointer none]) (by simp [go_sem, hc, hf, hgl, ↓IntWalk.iteOmega, a86, *]) rfl
          · refine relStep_plain rfl ?_
            intro Ac w5 hp
            have hb := hp.bel
            have a87 : Ac.eval (.tmp 87) = .agg #[.int .u32 (cp : Int), .int .i64 (L : Int), .slice none 0 0, .bool false, .int .i64 0, .pointer none, .pointer none] := hp.dep 6 (by kernel_rfl)
            have hc := evalC Ac; have hf := evalF Ac; have hgl := evalG Ac
            obtain ⟨ρ, hρ⟩ : ∃ ρ, Ac.eval = ρ := ⟨_, rfl⟩
            rw [hρ] at a87 hc hf hgl
            exact relVal hρ (.pointer (some ⟨w5.heap.size, 0, none⟩)) (w5.alloc (.cells #[.int .u32 (cp : Int), .int .i64 (L : Int), .slice none 0 0, .bool false, .int .i64 0, .pointer none, .pointer none] 231)) (by simp [go_sem, hc, hf, hgl, ↓IntWalk.iteOmega, a87, *]) ⟨_, rfl, Blk.new w5 _ _, hb.size⟩ ((Below.refl _ _).alloc (Nat.le_refl _) _)
          intro u w14 hb7 hall
          obtain ⟨R88, e88, hR88, hRb88⟩ := relAll_at hall (i := 7) (by decide +kernel)
          change u 7 = _ at e88
          clear hall
          simp only [List.drop_succ_cons, List.drop_zero, List.take_succ_cons, List.take_zero, putAll, Act.put, List.setIfInBounds_toArray, List.set_cons_zero, List.set_cons_succ, Nat.zero_add, Nat.reduceAdd, e88]
          have HB14 := hide hb7
          have HN14 := hide (HN.out.below hb7 HN.out.lt)
          have HX14 := hide (HX.out.below hb7 HX.out.lt)
          have HNl := hide HN.out.lt
          have HXl := hide HX.out.lt
          have HR14 : Hid (Blk w14 R88 231 (ndC cp L [.slice none 0 0] false 0 (.pointer none) (.pointer none))) := hide hR88
          have HRb := hide hRb88
          have HBs := hide hb7.size
          clear hb7 hR88 hRb88
          rcases bitN_01 a L with hbit | hbit
          · have HBitA := hide hbit
            have HBitP : Hid (bitN p L = 1) := hide (by rcases bitN_01 p L with h | h; exact absurd (h.trans hbit.symm) HL5.out; exact h)
            clear hbit
            go_upto_region 15 with fail
            refine wp_region_relH 27 w8.heap.size HBs.out [(fun v _ => v = .pointer (some ⟨R88, 0, none⟩)), (fun v _ => v = .pointer (some ⟨R88, 0, none⟩)), (fun v _ => v = .pointer (some ⟨R88, 0, none⟩)), (fun v _ => v = .pointer (some ⟨R88, 0, none⟩)), (fun v _ => v = .agg #[.int .u32 (cp : Int), .int .i64 (L : Int)]), (fun v _ => v = .agg #[.int .u32 (a : Int), .int .i64 (n : Int)]), (fun v _ => v = .int .i64 0), (fun v _ => v = .pointer (some ⟨R88, 0, none⟩)), (fun v _ => v = .pointer (some ⟨R88, 0, none⟩)), (fun v _ => v = .pointer (some ⟨R88, 0, none⟩)), (fun v _ => v = .pointer (some ⟨R88, 0, none⟩)), (fun v _ => v = .agg #[.int .u32 (cp : Int), .int .i64 (L : Int)]), (fun v _ => v = .pointer (some ⟨b, 0, none⟩)), (fun v _ => v = .pointer (some ⟨b, 0, none⟩)), (fun v _ => v = .pointer (some ⟨b, 0, none⟩)), (fun v _ => v = .agg #[.int .u32 (p : Int), .int .i64 (m : Int)]), (fun v _ => v = .int .i64 1), (fun v _ => v = .pointer (some ⟨w.heap.size + 1, 0, none⟩)), (fun v _ => v = .pointer (some ⟨b, 0, none⟩)), (fun v _ => v = .pointer (some ⟨R88, 0, none⟩)), (fun v _ => v = .pointer (some ⟨R88, 5, none⟩)), (fun v _ => v = .pointer (some ⟨R88, 5, none⟩)), (fun _ W => BoLP W R88 cp L (.pointer (some ⟨w.heap.size + 1, 0, none⟩))), (fun v _ => v = .pointer (some ⟨R88, 0, none⟩)), (fun v _ => v = .pointer (some ⟨R88, 5, none⟩)), (fun v _ => v = .pointer (some ⟨R88, 6, none⟩)), (fun _ W => BoRP W R88 cp L (.pointer (some ⟨b, 0, none⟩)))] (fun _ W => ∃ u v, Blk W R88 231 (ndC cp L [.slice none 0 0] false 0 u v)) (fun i Wa Wb => if i = 22 then Wb = Wa.setCell ⟨R88, 5, none⟩ (.pointer (some ⟨w.heap.size + 1, 0, none⟩)) else if i = 26 then Wb = Wa.setCell ⟨R88, 6, none⟩ (.pointer (some ⟨b, 0, none⟩)) else Below Wa.heap.size Wa Wb) (by kernel_rfl) (by kernel_rfl) (by kernel_rfl) (by kernel_rfl) (by kernel_rfl) ?hE ?hR ?hP ?h0 ⟨?_, ?_, ?_, ?_, ?_, ?_, ?_, ?_, ?_, ?_, ?_, ?_, ?_, ?_, ?_, ?_, ?_, ?_, ?_, ?_, ?_, ?_, ?_, ?_, ?_, ?_, ?_, trivial⟩ ?_
            case hE =>
              intro i2 wa wb hB he
              split at he
              · subst he
                exact (Below.refl w8.heap.size wa).setCell (p := ⟨R88, 5, none⟩) HRb.out _
              · split at he
                · subst he
                  exact (Below.refl w8.heap.size wa).setCell (p := ⟨R88, 6, none⟩) HRb.out _
                · exact he.mono hB
            case hR =>
              intro i2 j2 v2 wa wb hij hB he h
              split at he
              · rename_i hj2
                subst hj2
                refine keepAll_at (E := fun wa wb => wb = wa.setCell ⟨R88, 5, none⟩ (.pointer (some ⟨w.heap.size + 1, 0, none⟩))) (x := 22) (k := 0) ?_ (by omega) he h
                exact ⟨fun _ v wa wb he h => h, fun _ v wa wb he h => h, fun _ v wa wb he h => h, fun _ v wa wb he h => h, fun _ v wa wb he h => h, fun _ v wa wb he h => h, fun _ v wa wb he h => h, fun _ v wa wb he h => h, fun _ v wa wb he h => h, fun _ v wa wb he h => h, fun _ v wa wb he h => h, fun _ v wa wb he h => h, fun _ v wa wb he h => h, fun _ v wa wb he h => h, fun _ v wa wb he h => h, fun _ v wa wb he h => h, fun _ v wa wb he h => h, fun _ v wa wb he h => h, fun _ v wa wb he h => h, fun _ v wa wb he h => h, fun _ v wa wb he h => h, fun _ v wa wb he h => h, fun hn => absurd rfl hn, fun _ v wa wb he h => h, fun _ v wa wb he h => h, fun _ v wa wb he h => h, fun _ v wa wb he h => by subst he; obtain ⟨u7, h7⟩ := h; exact ⟨_, h7.set_ 5 _⟩, trivial⟩
              · split at he
                · rename_i hj2
                  subst hj2
                  refine keepAll_at (E := fun wa wb => wb = wa.setCell ⟨R88, 6, none⟩ (.pointer (some ⟨b, 0, none⟩))) (x := 26) (k := 0) ?_ (by omega) he h
                  exact ⟨fun _ v wa wb he h => h, fun _ v wa wb he h => h, fun _ v wa wb he h => h, fun _ v wa wb he h => h, fun _ v wa wb he h => h, fun _ v wa wb he h => h, fun _ v wa wb he h => h, fun _ v wa wb he h => h, fun _ v wa wb he h => h, fun _ v wa wb he h => h, fun _ v wa wb he h => h, fun _ v wa wb he h => h, fun _ v wa wb he h => h, fun _ v wa wb he h => h, fun _ v wa wb he h => h, fun _ v wa wb he h => h, fun _ v wa wb he h => h, fun _ v wa wb he h => h, fun _ v wa wb he h => h, fun _ v wa wb he h => h, fun _ v wa wb he h => h, fun _ v wa wb he h => h, fun _ v wa wb he h => by subst he; obtain ⟨u7, h7⟩ := h; exact ⟨_, h7.set_ 6 _⟩, fun _ v wa wb he h => h, fun _ v wa wb he h => h, fun _ v wa wb he h => h, fun hn => absurd rfl hn, trivial⟩
                · refine relMono _ ?_ i2 v2 wa wb he h
                  exact ⟨fun _ _ _ _ h => h, fun _ _ _ _ h => h, fun _ _ _ _ h => h, fun _ _ _ _ h => h, fun _ _ _ _ h => h, fun _ _ _ _ h => h, fun _ _ _ _ h => h, fun _ _ _ _ h => h, fun _ _ _ _ h => h, fun _ _ _ _ h => h, fun _ _ _ _ h => h, fun _ _ _ _ h => h, fun _ _ _ _ h => h, fun _ _ _ _ h => h, fun _ _ _ _ h => h, fun _ _ _ _ h => h, fun _ _ _ _ h => h, fun _ _ _ _ h => h, fun _ _ _ _ h => h, fun _ _ _ _ h => h, fun _ _ _ _ h => h, fun _ _ _ _ h => h, fun v wa wb hb ⟨u7, h7⟩ => ⟨u7, h7.below hb h7.lt⟩, fun _ _ _ _ h => h, fun _ _ _ _ h => h, fun _ _ _ _ h => h, fun v wa wb hb ⟨u7, h7⟩ => ⟨u7, h7.below hb h7.lt⟩, trivial⟩
            case hP =>
              intro i2 j2 wa wb hij hnb hB he h
              obtain ⟨u6, v6, hk6⟩ := h
              split at he
              · subst he
                exact ⟨_, v6, hk6.set_ 5 _⟩
              · split at he
                · subst he
                  exact ⟨u6, _, hk6.set_ 6 _⟩
                · exact ⟨u6, v6, hk6.below he hk6.lt⟩
            case h0 =>
              intro j2 hj2
              exact ⟨_, _, HR14.out.drew⟩
            · refine relG_plain rfl rfl (fun _ _ h => h) ?_
              intro Ac w5 hp
              have hb := hp.bel
              have a9 : Ac.eval (.tmp 9) = .pointer (some ⟨R88, 0, none⟩) := hp.out 9 (by rfl)
              have hc := evalC Ac; have hf := evalF Ac; have hgl := evalG Ac
              obtain ⟨ρ, hρ⟩ : ∃ ρ, Ac.eval = ρ := ⟨_, rfl⟩
              rw [hρ] at a9 hc hf hgl
              exact relPure hρ (.pointer (some ⟨R88, 0, none⟩)) (by simp [go_sem, hc, hf, hgl, ↓IntWalk.iteOmega, a9, *]) rfl
            · refine relG_plain rfl rfl (fun _ _ h => h) ?_
              intro Ac w5 hp
              have hb := hp.bel
              have a9 : Ac.eval (.tmp 9) = .pointer (some ⟨R88, 0, none⟩) := hp.out 9 (by rfl)
              have hc := evalC Ac; have hf := evalF Ac; have hgl := evalG Ac
              obtain ⟨ρ, hρ⟩ : ∃ ρ, Ac.eval = ρ := ⟨_, rfl⟩
              rw [hρ] at a9 hc hf hgl
              exact relPure hρ (.pointer (some ⟨R88, 0, none⟩)) (by simp [go_sem, hc, hf, hgl, ↓IntWalk.iteOmega, a9, *]) rfl
            · refine relG_plain rfl rfl (fun _ _ h => h) ?_
              intro Ac w5 hp
              have hb := hp.bel
              have a90 : Ac.eval (.tmp 90) = .pointer (some ⟨R88, 0, none⟩) := hp.dep 1 (by kernel_rfl)
              have hc := evalC Ac; have hf := evalF Ac; have hgl := evalG Ac
              obtain ⟨ρ, hρ⟩ : ∃ ρ, Ac.eval = ρ := ⟨_, rfl⟩
              rw [hρ] at a90 hc hf hgl
              exact relPure hρ (.pointer (some ⟨R88, 0, none⟩)) (by simp [go_sem, hc, hf, hgl, ↓IntWalk.iteOmega, a90, *]) rfl
            · refine relG_plain rfl rfl (fun _ _ h => h) ?_
              intro Ac w5 hp
              have hb := hp.bel
              have a91 : Ac.eval (.tmp 91) = .pointer (some ⟨R88, 0, none⟩) := hp.dep 2 (by kernel_rfl)
              have hc := evalC Ac; have hf := evalF Ac; have hgl := evalG Ac
              obtain ⟨ρ, hρ⟩ : ∃ ρ, Ac.eval = ρ := ⟨_, rfl⟩
              rw [hρ] at a91 hc hf hgl
              exact relPure hρ (.pointer (some ⟨R88, 0, none⟩)) (by simp [go_sem, hc, hf, hgl, ↓IntWalk.iteOmega, a91, *]) rfl
            · refine relG_plain rfl rfl (fun _ _ h => h) ?_
              intro Ac w5 hp
              have hb := hp.bel
              have a92 : Ac.eval (.tmp 92) = .pointer (some ⟨R88, 0, none⟩) := hp.dep 3 (by kernel_rfl)
              have hb := hp.bel
              obtain ⟨u6, v6, hk6⟩ := hp.pre
              have b0 : w5.cell? ⟨R88, 0, none⟩ = some (.int .u32 (cp : Int)) := hk6.cell 0
              have b1 : w5.cell? ⟨R88, 1, none⟩ = some (.int .i64 (L : Int)) := hk6.cell 1
              clear hk6
              have hc := evalC Ac; have hf := evalF Ac; have hgl := evalG Ac
              obtain ⟨ρ, hρ⟩ : ∃ ρ, Ac.eval = ρ := ⟨_, rfl⟩
              rw [hρ] at a92 hc hf hgl
              exact relPure hρ (.agg #[.int .u32 (cp : Int), .int .i64 (L : Int)]) (by simp [go_sem, hc, hf, hgl, ↓IntWalk.iteOmega, a92, *]) rfl
            · refine relG_plain rfl rfl (fun _ _ h => h) ?_
              intro Ac w5 hp
              have hb := hp.bel
              have a4 : Ac.eval (.tmp 4) = .pointer (some ⟨w.heap.size, 0, none⟩) := hp.out 4 (by rfl)
              have hx5 := HX14.out.below hp.bel HXl.out
              have x0 : w5.cell? ⟨w.heap.size, 0, none⟩ = some (.int .u32 (a : Int)) := hx5.cell 0
              have x1 : w5.cell? ⟨w.heap.size, 1, none⟩ = some (.int .i64 (n : Int)) := hx5.cell 1
              have hc := evalC Ac; have hf := evalF Ac; have hgl := evalG Ac
              obtain ⟨ρ, hρ⟩ : ∃ ρ, Ac.eval = ρ := ⟨_, rfl⟩
              rw [hρ] at a4 hc hf hgl
              exact relPure hρ (.agg #[.int .u32 (a : Int), .int .i64 (n : Int)]) (by simp [go_sem, hc, hf, hgl, ↓IntWalk.iteOmega, a4, *]) rfl
            · refine relG_plain rfl rfl (fun _ _ h => h) ?_
              intro Ac w5 hp
              have hb := hp.bel
              have a93 : Ac.eval (.tmp 93) = .agg #[.int .u32 (cp : Int), .int .i64 (L : Int)] := hp.dep 4 (by kernel_rfl)
              have a94 : Ac.eval (.tmp 94) = .agg #[.int .u32 (a : Int), .int .i64 (n : Int)] := hp.dep 5 (by kernel_rfl)
              have hc := evalC Ac; have hf := evalF Ac; have hgl := evalG Ac
              obtain ⟨ρ, hρ⟩ : ∃ ρ, Ac.eval = ρ := ⟨_, rfl⟩
              rw [hρ] at a93 a94 hc hf hgl
              refine relCall hρ 186 #[.agg #[.int .u32 (cp : Int), .int .i64 (L : Int)], .agg #[.int .u32 (a : Int), .int .i64 (n : Int)]] (by simp [go_sem, hc, hf, hgl, ↓IntWalk.iteOmega, a93, a94, *]) ?_
              refine (HSa.out w5).mono ?_
              rintro e w6 ⟨rfl, hb6⟩
              exact ⟨_, rfl, by rw [HBitA.out]; rfl, hb6⟩
            · refine relG_plain rfl rfl (fun _ _ h => h) ?_
              intro Ac w5 hp
              have hb := hp.bel
              have a9 : Ac.eval (.tmp 9) = .pointer (some ⟨R88, 0, none⟩) := hp.out 9 (by rfl)
              have hc := evalC Ac; have hf := evalF Ac; have hgl := evalG Ac
              obtain ⟨ρ, hρ⟩ : ∃ ρ, Ac.eval = ρ := ⟨_, rfl⟩
              rw [hρ] at a9 hc hf hgl
              exact relPure hρ (.pointer (some ⟨R88, 0, none⟩)) (by simp [go_sem, hc, hf, hgl, ↓IntWalk.iteOmega, a9, *]) rfl
            · refine relG_plain rfl rfl (fun _ _ h => h) ?_
              intro Ac w5 hp
              have hb := hp.bel
              have a9 : Ac.eval (.tmp 9) = .pointer (some ⟨R88, 0, none⟩) := hp.out 9 (by rfl)
              have hc := evalC Ac; have hf := evalF Ac; have hgl := evalG Ac
              obtain ⟨ρ, hρ⟩ : ∃ ρ, Ac.eval = ρ := ⟨_, rfl⟩
              rw [hρ] at a9 hc hf hgl
              exact relPure hρ (.pointer (some ⟨R88, 0, none⟩)) (by simp [go_sem, hc, hf, hgl, ↓IntWalk.iteOmega, a9, *]) rfl
            · refine relG_plain rfl rfl (fun _ _ h => h) ?_
              intro Ac w5 hp
              have hb := hp.bel
              have a97 : Ac.eval (.tmp 97) = .pointer (some ⟨R88, 0, none⟩) := hp.dep 8 (by kernel_rfl)
              have hc := evalC Ac; have hf := evalF Ac; have hgl := evalG Ac
              obtain ⟨ρ, hρ⟩ : ∃ ρ, Ac.eval = ρ := ⟨_, rfl⟩
              rw [hρ] at a97 hc hf hgl
              exact relPure hρ (.pointer (some ⟨R88, 0, none⟩)) (by simp [go_sem, hc, hf, hgl, ↓IntWalk.iteOmega, a97, *]) rfl
            · refine relG_plain rfl rfl (fun _ _ h => h) ?_
              intro Ac w5 hp
              have hb := hp.bel
              have a98 : Ac.eval (.tmp 98) = .pointer (some ⟨R88, 0, none⟩) := hp.dep 9 (by kernel_rfl)
              have hc := evalC Ac; have hf := evalF Ac; have hgl := evalG Ac
              obtain ⟨ρ, hρ⟩ : ∃ ρ, Ac.eval = ρ := ⟨_, rfl⟩
              rw [hρ] at a98 hc hf hgl
              exact relPure hρ (.pointer (some ⟨R88, 0, none⟩)) (by simp [go_sem, hc, hf, hgl, ↓IntWalk.iteOmega, a98, *]) rfl
            · refine relG_plain rfl rfl (fun _ _ h => h) ?_
              intro Ac w5 hp
              have hb := hp.bel
              have a99 : Ac.eval (.tmp 99) = .pointer (some ⟨R88, 0, none⟩) := hp.dep 10 (by kernel_rfl)
              have hb := hp.bel
              obtain ⟨u6, v6, hk6⟩ := hp.pre
              have b0 : w5.cell? ⟨R88, 0, none⟩ = some (.int .u32 (cp : Int)) := hk6.cell 0
              have b1 : w5.cell? ⟨R88, 1, none⟩ = some (.int .i64 (L : Int)) := hk6.cell 1
              clear hk6
              have hc := evalC Ac; have hf := evalF Ac; have hgl := evalG Ac
              obtain ⟨ρ, hρ⟩ : ∃ ρ, Ac.eval = ρ := ⟨_, rfl⟩
              rw [hρ] at a99 hc hf hgl
              exact relPure hρ (.agg #[.int .u32 (cp : Int), .int .i64 (L : Int)]) (by simp [go_sem, hc, hf, hgl, ↓IntWalk.iteOmega, a99, *]) rfl
            · refine relG_plain rfl rfl (fun _ _ h => h) ?_
              intro Ac w5 hp
              have hb := hp.bel
              have a0 : Ac.eval (.tmp 0) = .pointer (some ⟨b, 0, none⟩) := hp.out 0 (by rfl)
              have hc := evalC Ac; have hf := evalF Ac; have hgl := evalG Ac
              obtain ⟨ρ, hρ⟩ : ∃ ρ, Ac.eval = ρ := ⟨_, rfl⟩
              rw [hρ] at a0 hc hf hgl
              exact relPure hρ (.pointer (some ⟨b, 0, none⟩)) (by simp [go_sem, hc, hf, hgl, ↓IntWalk.iteOmega, a0, *]) rfl
            · refine relG_plain rfl rfl (fun _ _ h => h) ?_
              intro Ac w5 hp
              have hb := hp.bel
              have a101 : Ac.eval (.tmp 101) = .pointer (some ⟨b, 0, none⟩) := hp.dep 12 (by kernel_rfl)
              have hc := evalC Ac; have hf := evalF Ac; have hgl := evalG Ac
              obtain ⟨ρ, hρ⟩ : ∃ ρ, Ac.eval = ρ := ⟨_, rfl⟩
              rw [hρ] at a101 hc hf hgl
              exact relPure hρ (.pointer (some ⟨b, 0, none⟩)) (by simp [go_sem, hc, hf, hgl, ↓IntWalk.iteOmega, a101, *]) rfl
            · refine relG_plain rfl rfl (fun _ _ h => h) ?_
              intro Ac w5 hp
              have hb := hp.bel
              have a102 : Ac.eval (.tmp 102) = .pointer (some ⟨b, 0, none⟩) := hp.dep 13 (by kernel_rfl)
              have hc := evalC Ac; have hf := evalF Ac; have hgl := evalG Ac
              obtain ⟨ρ, hρ⟩ : ∃ ρ, Ac.eval = ρ := ⟨_, rfl⟩
              rw [hρ] at a102 hc hf hgl
              exact relPure hρ (.pointer (some ⟨b, 0, none⟩)) (by simp [go_sem, hc, hf, hgl, ↓IntWalk.iteOmega, a102, *]) rfl
            · refine relG_plain rfl rfl (fun _ _ h => h) ?_
              intro Ac w5 hp
              have hb := hp.bel
              have a103 : Ac.eval (.tmp 103) = .pointer (some ⟨b, 0, none⟩) := hp.dep 14 (by kernel_rfl)
              have hk5 := HN14.out.below hp.bel HNl.out
              have y0 : w5.cell? ⟨b, 0, none⟩ = some (.int .u32 (p : Int)) := hk5.cell 0
              have y1 : w5.cell? ⟨b, 1, none⟩ = some (.int .i64 (m : Int)) := hk5.cell 1
              have hc := evalC Ac; have hf := evalF Ac; have hgl := evalG Ac
              obtain ⟨ρ, hρ⟩ : ∃ ρ, Ac.eval = ρ := ⟨_, rfl⟩
              rw [hρ] at a103 hc hf hgl
              exact relPure hρ (.agg #[.int .u32 (p : Int), .int .i64 (m : Int)]) (by simp [go_sem, hc, hf, hgl, ↓IntWalk.iteOmega, a103, *]) rfl
            · refine relG_plain rfl rfl (fun _ _ h => h) ?_
              intro Ac w5 hp
              have hb := hp.bel
              have a100 : Ac.eval (.tmp 100) = .agg #[.int .u32 (cp : Int), .int .i64 (L : Int)] := hp.dep 11 (by kernel_rfl)
              have a104 : Ac.eval (.tmp 104) = .agg #[.int .u32 (p : Int), .int .i64 (m : Int)] := hp.dep 15 (by kernel_rfl)
              have hc := evalC Ac; have hf := evalF Ac; have hgl := evalG Ac
              obtain ⟨ρ, hρ⟩ : ∃ ρ, Ac.eval = ρ := ⟨_, rfl⟩
              rw [hρ] at a100 a104 hc hf hgl
              refine relCall hρ 186 #[.agg #[.int .u32 (cp : Int), .int .i64 (L : Int)], .agg #[.int .u32 (p : Int), .int .i64 (m : Int)]] (by simp [go_sem, hc, hf, hgl, ↓IntWalk.iteOmega, a100, a104, *]) ?_
              refine (HSp.out w5).mono ?_
              rintro e w6 ⟨rfl, hb6⟩
              exact ⟨_, rfl, by rw [HBitP.out]; rfl, hb6⟩
            · refine relG_plain rfl rfl (fun _ _ h => h) ?_
              intro Ac w5 hp
              have hb := hp.bel
              have a7 : Ac.eval (.tmp 7) = .pointer (some ⟨w.heap.size + 1, 0, none⟩) := hp.out 7 (by rfl)
              have hc := evalC Ac; have hf := evalF Ac; have hgl := evalG Ac
              obtain ⟨ρ, hρ⟩ : ∃ ρ, Ac.eval = ρ := ⟨_, rfl⟩
              rw [hρ] at a7 hc hf hgl
              exact relPure hρ (.pointer (some ⟨w.heap.size + 1, 0, none⟩)) (by simp [go_sem, hc, hf, hgl, ↓IntWalk.iteOmega, a7, *]) rfl
            · refine relG_plain rfl rfl (fun _ _ h => h) ?_
              intro Ac w5 hp
              have hb := hp.bel
              have a0 : Ac.eval (.tmp 0) = .pointer (some ⟨b, 0, none⟩) := hp.out 0 (by rfl)
              have hc := evalC Ac; have hf := evalF Ac; have hgl := evalG Ac
              obtain ⟨ρ, hρ⟩ : ∃ ρ, Ac.eval = ρ := ⟨_, rfl⟩
              rw [hρ] at a0 hc hf hgl
              exact relPure hρ (.pointer (some ⟨b, 0, none⟩)) (by simp [go_sem, hc, hf, hgl, ↓IntWalk.iteOmega, a0, *]) rfl
            · refine relG_plain rfl rfl (fun _ _ h => h) ?_
              intro Ac w5 hp
              have hb := hp.bel
              have a89 : Ac.eval (.tmp 89) = .pointer (some ⟨R88, 0, none⟩) := hp.dep 0 (by kernel_rfl)
              have hc := evalC Ac; have hf := evalF Ac; have hgl := evalG Ac
              obtain ⟨ρ, hρ⟩ : ∃ ρ, Ac.eval = ρ := ⟨_, rfl⟩
              rw [hρ] at a89 hc hf hgl
              exact relPure hρ (.pointer (some ⟨R88, 0, none⟩)) (by simp [go_sem, hc, hf, hgl, ↓IntWalk.iteOmega, a89, *]) rfl
            · refine relG_plain rfl rfl (fun _ _ h => h) ?_
              intro Ac w5 hp
              have hb := hp.bel
              have a108 : Ac.eval (.tmp 108) = .pointer (some ⟨R88, 0, none⟩) := hp.dep 19 (by kernel_rfl)
              have hc := evalC Ac; have hf := evalF Ac; have hgl := evalG Ac
              obtain ⟨ρ, hρ⟩ : ∃ ρ, Ac.eval = ρ := ⟨_, rfl⟩
              rw [hρ] at a108 hc hf hgl
              exact relPure hρ (.pointer (some ⟨R88, 5, none⟩)) (by simp [go_sem, hc, hf, hgl, ↓IntWalk.iteOmega, a108, *]) rfl
            · refine relG_plain rfl rfl (fun _ _ h => h) ?_
              intro Ac w5 hp
              have hb := hp.bel
              have a109 : Ac.eval (.tmp 109) = .pointer (some ⟨R88, 5, none⟩) := hp.dep 20 (by kernel_rfl)
              have a95 : Ac.eval (.tmp 95) = .int .i64 0 := hp.dep 6 (by kernel_rfl)
              have hc := evalC Ac; have hf := evalF Ac; have hgl := evalG Ac
              obtain ⟨ρ, hρ⟩ : ∃ ρ, Ac.eval = ρ := ⟨_, rfl⟩
              rw [hρ] at a109 a95 hc hf hgl
              exact relPure hρ (.pointer (some ⟨R88, 5, none⟩)) (by simp [go_sem, hc, hf, hgl, ↓IntWalk.iteOmega, a109, a95, *]) rfl
            · refine relG_store rfl ?_
              intro Ac w5 hp
              have hb := hp.bel
              have a110 : Ac.eval (.tmp 110) = .pointer (some ⟨R88, 5, none⟩) := hp.dep 21 (by kernel_rfl)
              have a106 : Ac.eval (.tmp 106) = .pointer (some ⟨w.heap.size + 1, 0, none⟩) := hp.dep 17 (by kernel_rfl)
              obtain ⟨u6, v6, hk6⟩ := hp.pre
              have HK := hide hk6
              clear hp hk6
              exact ⟨w5.setCell ⟨R88, 5, none⟩ (.pointer (some ⟨w.heap.size + 1, 0, none⟩)), .inl (exec_store rfl a110 a106 (stP_ptr HK.out rfl)), ⟨v6, HK.out.set_ 5 _⟩, rfl⟩
            · refine relG_plain rfl rfl (fun _ _ h => h) ?_
              intro Ac w5 hp
              have hb := hp.bel
              have a96 : Ac.eval (.tmp 96) = .pointer (some ⟨R88, 0, none⟩) := hp.dep 7 (by kernel_rfl)
              have hc := evalC Ac; have hf := evalF Ac; have hgl := evalG Ac
              obtain ⟨ρ, hρ⟩ : ∃ ρ, Ac.eval = ρ := ⟨_, rfl⟩
              rw [hρ] at a96 hc hf hgl
              exact relPure hρ (.pointer (some ⟨R88, 0, none⟩)) (by simp [go_sem, hc, hf, hgl, ↓IntWalk.iteOmega, a96, *]) rfl
            · refine relG_plain rfl rfl (fun _ _ h => h) ?_
              intro Ac w5 hp
              have hb := hp.bel
              have a111 : Ac.eval (.tmp 111) = .pointer (some ⟨R88, 0, none⟩) := hp.dep 23 (by kernel_rfl)
              have hc := evalC Ac; have hf := evalF Ac; have hgl := evalG Ac
              obtain ⟨ρ, hρ⟩ : ∃ ρ, Ac.eval = ρ := ⟨_, rfl⟩
              rw [hρ] at a111 hc hf hgl
              exact relPure hρ (.pointer (some ⟨R88, 5, none⟩)) (by simp [go_sem, hc, hf, hgl, ↓IntWalk.iteOmega, a111, *]) rfl
            · refine relG_plain rfl rfl (fun _ _ h => h) ?_
              intro Ac w5 hp
              have hb := hp.bel
              have a112 : Ac.eval (.tmp 112) = .pointer (some ⟨R88, 5, none⟩) := hp.dep 24 (by kernel_rfl)
              have a105 : Ac.eval (.tmp 105) = .int .i64 1 := hp.dep 16 (by kernel_rfl)
              have hc := evalC Ac; have hf := evalF Ac; have hgl := evalG Ac
              obtain ⟨ρ, hρ⟩ : ∃ ρ, Ac.eval = ρ := ⟨_, rfl⟩
              rw [hρ] at a112 a105 hc hf hgl
              exact relPure hρ (.pointer (some ⟨R88, 6, none⟩)) (by simp [go_sem, hc, hf, hgl, ↓IntWalk.iteOmega, a112, a105, *]) rfl
            · refine relG_store rfl ?_
              intro Ac w5 hp
              have hb := hp.bel
              have a113 : Ac.eval (.tmp 113) = .pointer (some ⟨R88, 6, none⟩) := hp.dep 25 (by kernel_rfl)
              have a107 : Ac.eval (.tmp 107) = .pointer (some ⟨b, 0, none⟩) := hp.dep 18 (by kernel_rfl)
              obtain ⟨u6, v6, hk6⟩ := hp.pre
              have HK := hide hk6
              clear hp hk6
              exact ⟨w5.setCell ⟨R88, 6, none⟩ (.pointer (some ⟨b, 0, none⟩)), .inl (exec_store rfl a113 a107 (stP_ptr HK.out rfl)), ⟨u6, HK.out.set_ 6 _⟩, rfl⟩
            intro u w15 hb7 hall
            have efin : BoLP w15 R88 cp L (.pointer (some ⟨w.heap.size + 1, 0, none⟩)) := relAll_at hall (i := 22) (by decide +kernel)
            have efin1 : BoRP w15 R88 cp L (.pointer (some ⟨b, 0, none⟩)) := relAll_at hall (i := 26) (by decide +kernel)
            clear hall
            simp only [List.drop_succ_cons, List.drop_zero, List.take_succ_cons, List.take_zero, putAll, Act.put, List.setIfInBounds_toArray, List.set_cons_zero, List.set_cons_succ, Nat.zero_add, Nat.reduceAdd, ]
            have HB15 : Hid (Below w8.heap.size w8 w15) := hide (HB14.out.trans hb7)
            have hsz8 := HB.out.size
            have HTw := hide ((NdA.tree HD.out).chg (S := fun _ => False) (chg_below HB.out) (by simp) (by simp))
            have hfb : w.heap.size + 1 < w8.heap.size := HFr.out.lt
            have HTf : Hid (TrA 1 231 F R w8 (.nd (w.heap.size + 1) a n (some x) .nil .nil)) := hide ⟨⟨⟨[.slice vA vn vc], ⟨rfl, by simp [Value.oneCell']⟩, HFr.out, fun y hy => by injection hy with hy; subst hy; exact frs_chg HFv.out (chg_below (S := fun _ => False) HB.out) (by simp)⟩, trivial, trivial⟩, ⟨HPa.out, trivial, trivial, trivial, trivial⟩, by simp [trB], fun k hk hFk => by simp only [trB, List.append_nil, List.mem_singleton] at hk; subst hk; have := HF.out _ hFk; omega⟩
            have hcw : trCnt (.nd b p m v l r) < 900000000 := by simp only [trCnt]; have := HCn.out; split <;> omega
            have HNt := hide (noteP_any (F := F) (R := R) R88 cp L [.slice none 0 0] ⟨rfl, by simp [Value.oneCell']⟩ false 0 (.nd (w.heap.size + 1) a n (some x) .nil .nil) (.nd b p m v l r) w15 (boP_both efin efin1) (HTf.out.chg (S := fun _ => False) (chg_below HB15.out) (by simp) (by simp)).mem (HTw.out.chg (S := fun _ => False) (chg_below HB15.out) (by simp) (by simp)).mem (by have e : trCnt (.nd (w.heap.size + 1) a n (some x) .nil .nil) = 1 := rfl; rw [e]; omega))
            clear hb7 efin efin1 hcw
            go_wp2_with fail
            refine HNt.out.mono ?_
            rintro e w16 ⟨rfl, hk16, hc16⟩
            have HK16 := hide hk16
            have HC16 : Hid (ChgS (fun _ => False) w8 w16) := hide (chg_trans (chg_below HB15.out) hc16 (fun k h => .inr (by rw [h]; exact HRb.out)))
            clear hk16 hc16
            go_wp2
            go_ret
            have hPR := put_both0 (b0 := w.heap.size + 1) (b1 := R88) (x := x) HD.out.wf HPa.out HCvN.out HCv2N.out (by rw [HLe.out]; exact HBitA.out)
            rw [HLe.out, HCp.out] at hPR
            have hRb2 := HRb.out
            refine ⟨_, rfl, hPR, nd_new (w := w8) (v := none) HTf.out HTw.out (fun k hk => Nat.lt_of_lt_of_le (HF.out k hk) hsz8) hPR.wf ⟨rfl, by simp [Value.oneCell']⟩ (fun y hy => by cases hy) hRb2 (fun k hk hk2 => by simp only [trB, List.append_nil, List.mem_singleton] at hk; have h1 := (NdA.tree HD.out).mem.lt k hk2; omega) HC16.out HK16.out, fun k hk => ?_, chg_mono (chg_trans (chg_below (S := fun _ => False) HB.out) HC16.out (fun k h => .inl h)) (fun k h => h.elim)⟩
            have hk2 : k = R88 ∨ k = w.heap.size + 1 ∨ k ∈ trB (.nd b p m v l r) := by
              have e1 : trB (.nd R88 cp L none (.nd (w.heap.size + 1) a n (some x) .nil .nil) (.nd b p m v l r)) = R88 :: (trB (.nd (w.heap.size + 1) a n (some x) .nil .nil) ++ trB (.nd b p m v l r)) := rfl
              have e2 : trB (.nd (w.heap.size + 1) a n (some x) .nil .nil) = [w.heap.size + 1] := rfl
              rw [e1, e2] at hk
              rcases List.mem_cons.1 hk with h | h
              · exact .inl h
              · rcases List.mem_append.1 h with h | h
                · exact .inr (.inl (List.mem_singleton.1 h))
                · exact .inr (.inr h)
            rcases hk2 with h | h | h
            · exact .inr (by omega)
            · exact .inr (by omega)
            · exact .inl h
          · have HBitA := hide hbit
            have HBitP : Hid (bitN p L = 0) := hide (by rcases bitN_01 p L with h | h; exact h; exact absurd (h.trans hbit.symm) HL5.out)
            clear hbit
            go_upto_region 15 with fail
            refine wp_region_relH 27 w8.heap.size HBs.out [(fun v _ => v = .pointer (some ⟨R88, 0, none⟩)), (fun v _ => v = .pointer (some ⟨R88, 0, none⟩)), (fun v _ => v = .pointer (some ⟨R88, 0, none⟩)), (fun v _ => v = .pointer (some ⟨R88, 0, none⟩)), (fun v _ => v = .agg #[.int .u32 (cp : Int), .int .i64 (L : Int)]), (fun v _ => v = .agg #[.int .u32 (a : Int), .int .i64 (n : Int)]), (fun v _ => v = .int .i64 1), (fun v _ => v = .pointer (some ⟨R88, 0, none⟩)), (fun v _ => v = .pointer (some ⟨R88, 0, none⟩)), (fun v _ => v = .pointer (some ⟨R88, 0, none⟩)), (fun v _ => v = .pointer (some ⟨R88, 0, none⟩)), (fun v _ => v = .agg #[.int .u32 (cp : Int), .int .i64 (L : Int)]), (fun v _ => v = .pointer (some ⟨b, 0, none⟩)), (fun v _ => v = .pointer (some ⟨b, 0, none⟩)), (fun v _ => v = .pointer (some ⟨b, 0, none⟩)), (fun v _ => v = .agg #[.int .u32 (p : Int), .int .i64 (m : Int)]), (fun v _ => v = .int .i64 0), (fun v _ => v = .pointer (some ⟨w.heap.size + 1, 0, none⟩)), (fun v _ => v = .pointer (some ⟨b, 0, none⟩)), (fun v _ => v = .pointer (some ⟨R88, 0, none⟩)), (fun v _ => v = .pointer (some ⟨R88, 5, none⟩)), (fun v _ => v = .pointer (some ⟨R88, 6, none⟩)), (fun _ W => BoRP W R88 cp L (.pointer (some ⟨w.heap.size + 1, 0, none⟩))), (fun v _ => v = .pointer (some ⟨R88, 0, none⟩)), (fun v _ => v = .pointer (some ⟨R88, 5, none⟩)), (fun v _ => v = .pointer (some ⟨R88, 5, none⟩)), (fun _ W => BoLP W R88 cp L (.pointer (some ⟨b, 0, none⟩)))] (fun _ W => ∃ u v, Blk W R88 231 (ndC cp L [.slice none 0 0] false 0 u v)) (fun i Wa Wb => if i = 22 then Wb = Wa.setCell ⟨R88, 6, none⟩ (.pointer (some ⟨w.heap.size + 1, 0, none⟩)) else if i = 26 then Wb = Wa.setCell ⟨R88, 5, none⟩ (.pointer (some ⟨b, 0, none⟩)) else Below Wa.heap.size Wa Wb) (by kernel_rfl) (by kernel_rfl) (by kernel_rfl) (by kernel_rfl) (by kernel_rfl) ?hE ?hR ?hP ?h0 ⟨?_, ?_, ?_, ?_, ?_, ?_, ?_, ?_, ?_, ?_, ?_, ?_, ?_, ?_, ?_, ?_, ?_, ?_, ?_, ?_, ?_, ?_, ?_, ?_, ?_, ?_, ?_, trivial⟩ ?_
            case hE =>
              intro i2 wa wb hB he
              split at he
              · subst he
                exact (Below.refl w8.heap.size wa).setCell (p := ⟨R88, 6, none⟩) HRb.out _
              · split at he
                · subst he
                  exact (Below.refl w8.heap.size wa).setCell (p := ⟨R88, 5, none⟩) HRb.out _
                · exact he.mono hB
            case hR =>
              intro i2 j2 v2 wa wb hij hB he h
              split at he
              · rename_i hj2
                subst hj2
                refine keepAll_at (E := fun wa wb => wb = wa.setCell ⟨R88, 6, none⟩ (.pointer (some ⟨w.heap.size + 1, 0, none⟩))) (x := 22) (k := 0) ?_ (by omega) he h
                exact ⟨fun _ v wa wb he h => h, fun _ v wa wb he h => h, fun _ v wa wb he h => h, fun _ v wa wb he h => h, fun _ v wa wb he h => h, fun _ v wa wb he h => h, fun _ v wa wb he h => h, fun _ v wa wb he h => h, fun _ v wa wb he h => h, fun _ v wa wb he h => h, fun _ v wa wb he h => h, fun _ v wa wb he h => h, fun _ v wa wb he h => h, fun _ v wa wb he h => h, fun _ v wa wb he h => h, fun _ v wa wb he h => h, fun _ v wa wb he h => h, fun _ v wa wb he h => h, fun _ v wa wb he h => h, fun _ v wa wb he h => h, fun _ v wa wb he h => h, fun _ v wa wb he h => h, fun hn => absurd rfl hn, fun _ v wa wb he h => h, fun _ v wa wb he h => h, fun _ v wa wb he h => h, fun _ v wa wb he h => by subst he; obtain ⟨u7, h7⟩ := h; exact ⟨_, h7.set_ 6 _⟩, trivial⟩
              · split at he
                · rename_i hj2
                  subst hj2
                  refine keepAll_at (E := fun wa wb => wb = wa.setCell ⟨R88, 5, none⟩ (.pointer (some ⟨b, 0, none⟩))) (x := 26) (k := 0) ?_ (by omega) he h
                  exact ⟨fun _ v wa wb he h => h, fun _ v wa wb he h => h, fun _ v wa wb he h => h, fun _ v wa wb he h => h, fun _ v wa wb he h => h, fun _ v wa wb he h => h, fun _ v wa wb he h => h, fun _ v wa wb he h => h, fun _ v wa wb he h => h, fun _ v wa wb he h => h, fun _ v wa wb he h => h, fun _ v wa wb he h => h, fun _ v wa wb he h => h, fun _ v wa wb he h => h, fun _ v wa wb he h => h, fun _ v wa wb he h => h, fun _ v wa wb he h => h, fun _ v wa wb he h => h, fun _ v wa wb he h => h, fun _ v wa wb he h => h, fun _ v wa wb he h => h, fun _ v wa wb he h => h, fun _ v wa wb he h => by subst he; obtain ⟨u7, h7⟩ := h; exact ⟨_, h7.set_ 5 _⟩, fun _ v wa wb he h => h, fun _ v wa wb he h => h, fun _ v wa wb he h => h, fun hn => absurd rfl hn, trivial⟩
                · refine relMono _ ?_ i2 v2 wa wb he h
                  exact ⟨fun _ _ _ _ h => h, fun _ _ _ _ h => h, fun _ _ _ _ h => h, fun _ _ _ _ h => h, fun _ _ _ _ h => h, fun _ _ _ _ h => h, fun _ _ _ _ h => h, fun _ _ _ _ h => h, fun _ _ _ _ h => h, fun _ _ _ _ h => h, fun _ _ _ _ h => h, fun _ _ _ _ h => h, fun _ _ _ _ h => h, fun _ _ _ _ h => h, fun _ _ _ _ h => h, fun _ _ _ _ h => h, fun _ _ _ _ h => h, fun _ _ _ _ h => h, fun _ _ _ _ h => h, fun _ _ _ _ h => h, fun _ _ _ _ h => h, fun _ _ _ _ h => h, fun v wa wb hb ⟨u7, h7⟩ => ⟨u7, h7.below hb h7.lt⟩, fun _ _ _ _ h => h, fun _ _ _ _ h => h, fun _ _ _ _ h => h, fun v wa wb hb ⟨u7, h7⟩ => ⟨u7, h7.below hb h7.lt⟩, trivial⟩
            case hP =>
              intro i2 j2 wa wb hij hnb hB he h
              obtain ⟨u6, v6, hk6⟩ := h
              split at he
              · subst he
                exact ⟨u6, _, hk6.set_ 6 _⟩
              · split at he
                · subst he
                  exact ⟨_, v6, hk6.set_ 5 _⟩
                · exact ⟨u6, v6, hk6.below he hk6.lt⟩
            case h0 =>
              intro j2 hj2
              exact ⟨_, _, HR14.out.drew⟩
            · refine relG_plain rfl rfl (fun _ _ h => h) ?_
              intro Ac w5 hp
              have hb := hp.bel
              have a9 : Ac.eval (.tmp 9) = .pointer (some ⟨R88, 0, none⟩) := hp.out 9 (by rfl)
              have hc := evalC Ac; have hf := evalF Ac; have hgl := evalG Ac
              obtain ⟨ρ, hρ⟩ : ∃ ρ, Ac.eval = ρ := ⟨_, rfl⟩
              rw [hρ] at a9 hc hf hgl
              exact relPure hρ (.pointer (some ⟨R88, 0, none⟩)) (by simp [go_sem, hc, hf, hgl, ↓IntWalk.iteOmega, a9, *]) rfl
            · refine relG_plain rfl rfl (fun _ _ h => h) ?_
              intro Ac w5 hp
              have hb := hp.bel
              have a9 : Ac.eval (.tmp 9) = .pointer (some ⟨R88, 0, none⟩) := hp.out 9 (by rfl)
              have hc := evalC Ac; have hf := evalF Ac; have hgl := evalG Ac
              obtain ⟨ρ, hρ⟩ : ∃ ρ, Ac.eval = ρ := ⟨_, rfl⟩
              rw [hρ] at a9 hc hf hgl
              exact relPure hρ (.pointer (some ⟨R88, 0, none⟩)) (by simp [go_sem, hc, hf, hgl, ↓IntWalk.iteOmega, a9, *]) rfl
            · refine relG_plain rfl rfl (fun _ _ h => h) ?_
              intro Ac w5 hp
              have hb := hp.bel
              have a90 : Ac.eval (.tmp 90) = .pointer (some ⟨R88, 0, none⟩) := hp.dep 1 (by kernel_rfl)
              have hc := evalC Ac; have hf := evalF Ac; have hgl := evalG Ac
              obtain ⟨ρ, hρ⟩ : ∃ ρ, Ac.eval = ρ := ⟨_, rfl⟩
              rw [hρ] at a90 hc hf hgl
              exact relPure hρ (.pointer (some ⟨R88, 0, none⟩)) (by simp [go_sem, hc, hf, hgl, ↓IntWalk.iteOmega, a90, *]) rfl
            · refine relG_plain rfl rfl (fun _ _ h => h) ?_
              intro Ac w5 hp
              have hb := hp.bel
              have a91 : Ac.eval (.tmp 91) = .pointer (some ⟨R88, 0, none⟩) := hp.dep 2 (by kernel_rfl)
              have hc := evalC Ac; have hf := evalF Ac; have hgl := evalG Ac
              obtain ⟨ρ, hρ⟩ : ∃ ρ, Ac.eval = ρ := ⟨_, rfl⟩
              rw [hρ] at a91 hc hf hgl
              exact relPure hρ (.pointer (some ⟨R88, 0, none⟩)) (by simp [go_sem, hc, hf, hgl, ↓IntWalk.iteOmega, a91, *]) rfl
            · refine relG_plain rfl rfl (fun _ _ h => h) ?_
              intro Ac w5 hp
              have hb := hp.bel
              have a92 : Ac.eval (.tmp 92) = .pointer (some ⟨R88, 0, none⟩) := hp.dep 3 (by kernel_rfl)
              have hb := hp.bel
              obtain ⟨u6, v6, hk6⟩ := hp.pre
              have b0 : w5.cell? ⟨R88, 0, none⟩ = some (.int .u32 (cp : Int)) := hk6.cell 0
              have b1 : w5.cell? ⟨R88, 1, none⟩ = some (.int .i64 (L : Int)) := hk6.cell 1
              clear hk6
              have hc := evalC Ac; have hf := evalF Ac; have hgl := evalG Ac
              obtain ⟨ρ, hρ⟩ : ∃ ρ, Ac.eval = ρ := ⟨_, rfl⟩
              rw [hρ] at a92 hc hf hgl
              exact relPure hρ (.agg #[.int .u32 (cp : Int), .int .i64 (L : Int)]) (by simp [go_sem, hc, hf, hgl, ↓IntWalk.iteOmega, a92, *]) rfl
            · refine relG_plain rfl rfl (fun _ _ h => h) ?_
              intro Ac w5 hp
              have hb := hp.bel
              have a4 : Ac.eval (.tmp 4) = .pointer (some ⟨w.heap.size, 0, none⟩) := hp.out 4 (by rfl)
              have hx5 := HX14.out.below hp.bel HXl.out
              have x0 : w5.cell? ⟨w.heap.size, 0, none⟩ = some (.int .u32 (a : Int)) := hx5.cell 0
              have x1 : w5.cell? ⟨w.heap.size, 1, none⟩ = some (.int .i64 (n : Int)) := hx5.cell 1
              have hc := evalC Ac; have hf := evalF Ac; have hgl := evalG Ac
              obtain ⟨ρ, hρ⟩ : ∃ ρ, Ac.eval = ρ := ⟨_, rfl⟩
              rw [hρ] at a4 hc hf hgl
              exact relPure hρ (.agg #[.int .u32 (a : Int), .int .i64 (n : Int)]) (by simp [go_sem, hc, hf, hgl, ↓IntWalk.iteOmega, a4, *]) rfl
            · refine relG_plain rfl rfl (fun _ _ h => h) ?_
              intro Ac w5 hp
              have hb := hp.bel
              have a93 : Ac.eval (.tmp 93) = .agg #[.int .u32 (cp : Int), .int .i64 (L : Int)] := hp.dep 4 (by kernel_rfl)
              have a94 : Ac.eval (.tmp 94) = .agg #[.int .u32 (a : Int), .int .i64 (n : Int)] := hp.dep 5 (by kernel_rfl)
              have hc := evalC Ac; have hf := evalF Ac; have hgl := evalG Ac
              obtain ⟨ρ, hρ⟩ : ∃ ρ, Ac.eval = ρ := ⟨_, rfl⟩
              rw [hρ] at a93 a94 hc hf hgl
              refine relCall hρ 186 #[.agg #[.int .u32 (cp : Int), .int .i64 (L : Int)], .agg #[.int .u32 (a : Int), .int .i64 (n : Int)]] (by simp [go_sem, hc, hf, hgl, ↓IntWalk.iteOmega, a93, a94, *]) ?_
              refine (HSa.out w5).mono ?_
              rintro e w6 ⟨rfl, hb6⟩
              exact ⟨_, rfl, by rw [HBitA.out]; rfl, hb6⟩
            · refine relG_plain rfl rfl (fun _ _ h => h) ?_
              intro Ac w5 hp
              have hb := hp.bel
              have a9 : Ac.eval (.tmp 9) = .pointer (some ⟨R88, 0, none⟩) := hp.out 9 (by rfl)
              have hc := evalC Ac; have hf := evalF Ac; have hgl := evalG Ac
              obtain ⟨ρ, hρ⟩ : ∃ ρ, Ac.eval = ρ := ⟨_, rfl⟩
              rw [hρ] at a9 hc hf hgl
              exact relPure hρ (.pointer (some ⟨R88, 0, none⟩)) (by simp [go_sem, hc, hf, hgl, ↓IntWalk.iteOmega, a9, *]) rfl
            · refine relG_plain rfl rfl (fun _ _ h => h) ?_
              intro Ac w5 hp
              have hb := hp.bel
              have a9 : Ac.eval (.tmp 9) = .pointer (some ⟨R88, 0, none⟩) := hp.out 9 (by rfl)
              have hc := evalC Ac; have hf := evalF Ac; have hgl := evalG Ac
              obtain ⟨ρ, hρ⟩ : ∃ ρ, Ac.eval = ρ := ⟨_, rfl⟩
              rw [hρ] at a9 hc hf hgl
              exact relPure hρ (.pointer (some ⟨R88, 0, none⟩)) (by simp [go_sem, hc, hf, hgl, ↓IntWalk.iteOmega, a9, *]) rfl
            · refine relG_plain rfl rfl (fun _ _ h => h) ?_
              intro Ac w5 hp
              have hb := hp.bel
              have a97 : Ac.eval (.tmp 97) = .pointer (some ⟨R88, 0, none⟩) := hp.dep 8 (by kernel_rfl)
              have hc := evalC Ac; have hf := evalF Ac; have hgl := evalG Ac
              obtain ⟨ρ, hρ⟩ : ∃ ρ, Ac.eval = ρ := ⟨_, rfl⟩
              rw [hρ] at a97 hc hf hgl
              exact relPure hρ (.pointer (some ⟨R88, 0, none⟩)) (by simp [go_sem, hc, hf, hgl, ↓IntWalk.iteOmega, a97, *]) rfl
            · refine relG_plain rfl rfl (fun _ _ h => h) ?_
              intro Ac w5 hp
              have hb := hp.bel
              have a98 : Ac.eval (.tmp 98) = .pointer (some ⟨R88, 0, none⟩) := hp.dep 9 (by kernel_rfl)
              have hc := evalC Ac; have hf := evalF Ac; have hgl := evalG Ac
              obtain ⟨ρ, hρ⟩ : ∃ ρ, Ac.eval = ρ := ⟨_, rfl⟩
              rw [hρ] at a98 hc hf hgl
              exact relPure hρ (.pointer (some ⟨R88, 0, none⟩)) (by simp [go_sem, hc, hf, hgl, ↓IntWalk.iteOmega, a98, *]) rfl
            · refine relG_plain rfl rfl (fun _ _ h => h) ?_
              intro Ac w5 hp
              have hb := hp.bel
              have a99 : Ac.eval (.tmp 99) = .pointer (some ⟨R88, 0, none⟩) := hp.dep 10 (by kernel_rfl)
              have hb := hp.bel
              obtain ⟨u6, v6, hk6⟩ := hp.pre
              have b0 : w5.cell? ⟨R88, 0, none⟩ = some (.int .u32 (cp : Int)) := hk6.cell 0
              have b1 : w5.cell? ⟨R88, 1, none⟩ = some (.int .i64 (L : Int)) := hk6.cell 1
              clear hk6
              have hc := evalC Ac; have hf := evalF Ac; have hgl := evalG Ac
              obtain ⟨ρ, hρ⟩ : ∃ ρ, Ac.eval = ρ := ⟨_, rfl⟩
              rw [hρ] at a99 hc hf hgl
              exact relPure hρ (.agg #[.int .u32 (cp : Int), .int .i64 (L : Int)]) (by simp [go_sem, hc, hf, hgl, ↓IntWalk.iteOmega, a99, *]) rfl
            · refine relG_plain rfl rfl (fun _ _ h => h) ?_
              intro Ac w5 hp
              have hb := hp.bel
              have a0 : Ac.eval (.tmp 0) = .pointer (some ⟨b, 0, none⟩) := hp.out 0 (by rfl)
              have hc := evalC Ac; have hf := evalF Ac; have hgl := evalG Ac
              obtain ⟨ρ, hρ⟩ : ∃ ρ, Ac.eval = ρ := ⟨_, rfl⟩
              rw [hρ] at a0 hc hf hgl
              exact relPure hρ (.pointer (some ⟨b, 0, none⟩)) (by simp [go_sem, hc, hf, hgl, ↓IntWalk.iteOmega, a0, *]) rfl
            · refine relG_plain rfl rfl (fun _ _ h => h) ?_
              intro Ac w5 hp
              have hb := hp.bel
              have a101 : Ac.eval (.tmp 101) = .pointer (some ⟨b, 0, none⟩) := hp.dep 12 (by kernel_rfl)
              have hc := evalC Ac; have hf := evalF Ac; have hgl := evalG Ac
              obtain ⟨ρ, hρ⟩ : ∃ ρ, Ac.eval = ρ := ⟨_, rfl⟩
              rw [hρ] at a101 hc hf hgl
              exact relPure hρ (.pointer (some ⟨b, 0, none⟩)) (by simp [go_sem, hc, hf, hgl, ↓IntWalk.iteOmega, a101, *]) rfl
            · refine relG_plain rfl rfl (fun _ _ h => h) ?_
              intro Ac w5 hp
              have hb := hp.bel
              have a102 : Ac.eval (.tmp 102) = .pointer (some ⟨b, 0, none⟩) := hp.dep 13 (by kernel_rfl)
              have hc := evalC Ac; have hf := evalF Ac; have hgl := evalG Ac
              obtain ⟨ρ, hρ⟩ : ∃ ρ, Ac.eval = ρ := ⟨_, rfl⟩
              rw [hρ] at a102 hc hf hgl
              exact relPure hρ (.pointer (some ⟨b, 0, none⟩)) (by simp [go_sem, hc, hf, hgl, ↓IntWalk.iteOmega, a102, *]) rfl
            · refine relG_plain rfl rfl (fun _ _ h => h) ?_
              intro Ac w5 hp
              have hb := hp.bel
              have a103 : Ac.eval (.tmp 103) = .pointer (some ⟨b, 0, none⟩) := hp.dep 14 (by kernel_rfl)
              have hk5 := HN14.out.below hp.bel HNl.out
              have y0 : w5.cell? ⟨b, 0, none⟩ = some (.int .u32 (p : Int)) := hk5.cell 0
              have y1 : w5.cell? ⟨b, 1, none⟩ = some (.int .i64 (m : Int)) := hk5.cell 1
              have hc := evalC Ac; have hf := evalF Ac; have hgl := evalG Ac
              obtain ⟨ρ, hρ⟩ : ∃ ρ, Ac.eval = ρ := ⟨_, rfl⟩
              rw [hρ] at a103 hc hf hgl
              exact relPure hρ (.agg #[.int .u32 (p : Int), .int .i64 (m : Int)]) (by simp [go_sem, hc, hf, hgl, ↓IntWalk.iteOmega, a103, *]) rfl
            · refine relG_plain rfl rfl (fun _ _ h => h) ?_
              intro Ac w5 hp
              have hb := hp.bel
              have a100 : Ac.eval (.tmp 100) = .agg #[.int .u32 (cp : Int), .int .i64 (L : Int)] := hp.dep 11 (by kernel_rfl)
              have a104 : Ac.eval (.tmp 104) = .agg #[.int .u32 (p : Int), .int .i64 (m : Int)] := hp.dep 15 (by kernel_rfl)
              have hc := evalC Ac; have hf := evalF Ac; have hgl := evalG Ac
              obtain ⟨ρ, hρ⟩ : ∃ ρ, Ac.eval = ρ := ⟨_, rfl⟩
              rw [hρ] at a100 a104 hc hf hgl
              refine relCall hρ 186 #[.agg #[.int .u32 (cp : Int), .int .i64 (L : Int)], .agg #[.int .u32 (p : Int), .int .i64 (m : Int)]] (by simp [go_sem, hc, hf, hgl, ↓IntWalk.iteOmega, a100, a104, *]) ?_
              refine (HSp.out w5).mono ?_
              rintro e w6 ⟨rfl, hb6⟩
              exact ⟨_, rfl, by rw [HBitP.out]; rfl, hb6⟩
            · refine relG_plain rfl rfl (fun _ _ h => h) ?_
              intro Ac w5 hp
              have hb := hp.bel
              have a7 : Ac.eval (.tmp 7) = .pointer (some ⟨w.heap.size + 1, 0, none⟩) := hp.out 7 (by rfl)
              have hc := evalC Ac; have hf := evalF Ac; have hgl := evalG Ac
              obtain ⟨ρ, hρ⟩ : ∃ ρ, Ac.eval = ρ := ⟨_, rfl⟩
              rw [hρ] at a7 hc hf hgl
              exact relPure hρ (.pointer (some ⟨w.heap.size + 1, 0, none⟩)) (by simp [go_sem, hc, hf, hgl, ↓IntWalk.iteOmega, a7, *]) rfl
            · refine relG_plain rfl rfl (fun _ _ h => h) ?_
              intro Ac w5 hp
              have hb := hp.bel
              have a0 : Ac.eval (.tmp 0) = .pointer (some ⟨b, 0, none⟩) := hp.out 0 (by rfl)
              have hc := evalC Ac; have hf := evalF Ac; have hgl := evalG Ac
              obtain ⟨ρ, hρ⟩ : ∃ ρ, Ac.eval = ρ := ⟨_, rfl⟩
              rw [hρ] at a0 hc hf hgl
              exact relPure hρ (.pointer (some ⟨b, 0, none⟩)) (by simp [go_sem, hc, hf, hgl, ↓IntWalk.iteOmega, a0, *]) rfl
            · refine relG_plain rfl rfl (fun _ _ h => h) ?_
              intro Ac w5 hp
              have hb := hp.bel
              have a89 : Ac.eval (.tmp 89) = .pointer (some ⟨R88, 0, none⟩) := hp.dep 0 (by kernel_rfl)
              have hc := evalC Ac; have hf := evalF Ac; have hgl := evalG Ac
              obtain ⟨ρ, hρ⟩ : ∃ ρ, Ac.eval = ρ := ⟨_, rfl⟩
              rw [hρ] at a89 hc hf hgl
              exact relPure hρ (.pointer (some ⟨R88, 0, none⟩)) (by simp [go_sem, hc, hf, hgl, ↓IntWalk.iteOmega, a89, *]) rfl
            · refine relG_plain rfl rfl (fun _ _ h => h) ?_
              intro Ac w5 hp
              have hb := hp.bel
              have a108 : Ac.eval (.tmp 108) = .pointer (some ⟨R88, 0, none⟩) := hp.dep 19 (by kernel_rfl)
              have hc := evalC Ac; have hf := evalF Ac; have hgl := evalG Ac
              obtain ⟨ρ, hρ⟩ : ∃ ρ, Ac.eval = ρ := ⟨_, rfl⟩
              rw [hρ] at a108 hc hf hgl
              exact relPure hρ (.pointer (some ⟨R88, 5, none⟩)) (by simp [go_sem, hc, hf, hgl, ↓IntWalk.iteOmega, a108, *]) rfl
            · refine relG_plain rfl rfl (fun _ _ h => h) ?_
              intro Ac w5 hp
              have hb := hp.bel
              have a109 : Ac.eval (.tmp 109) = .pointer (some ⟨R88, 5, none⟩) := hp.dep 20 (by kernel_rfl)
              have a95 : Ac.eval (.tmp 95) = .int .i64 1 := hp.dep 6 (by kernel_rfl)
              have hc := evalC Ac; have hf := evalF Ac; have hgl := evalG Ac
              obtain ⟨ρ, hρ⟩ : ∃ ρ, Ac.eval = ρ := ⟨_, rfl⟩
              rw [hρ] at a109 a95 hc hf hgl
              exact relPure hρ (.pointer (some ⟨R88, 6, none⟩)) (by simp [go_sem, hc, hf, hgl, ↓IntWalk.iteOmega, a109, a95, *]) rfl
            · refine relG_store rfl ?_
              intro Ac w5 hp
              have hb := hp.bel
              have a110 : Ac.eval (.tmp 110) = .pointer (some ⟨R88, 6, none⟩) := hp.dep 21 (by kernel_rfl)
              have a106 : Ac.eval (.tmp 106) = .pointer (some ⟨w.heap.size + 1, 0, none⟩) := hp.dep 17 (by kernel_rfl)
              obtain ⟨u6, v6, hk6⟩ := hp.pre
              have HK := hide hk6
              clear hp hk6
              exact ⟨w5.setCell ⟨R88, 6, none⟩ (.pointer (some ⟨w.heap.size + 1, 0, none⟩)), .inl (exec_store rfl a110 a106 (stP_ptr HK.out rfl)), ⟨u6, HK.out.set_ 6 _⟩, rfl⟩
            · refine relG_plain rfl rfl (fun _ _ h => h) ?_
              intro Ac w5 hp
              have hb := hp.bel
              have a96 : Ac.eval (.tmp 96) = .pointer (some ⟨R88, 0, none⟩) := hp.dep 7 (by kernel_rfl)
              have hc := evalC Ac; have hf := evalF Ac; have hgl := evalG Ac
              obtain ⟨ρ, hρ⟩ : ∃ ρ, Ac.eval = ρ := ⟨_, rfl⟩
              rw [hρ] at a96 hc hf hgl
              exact relPure hρ (.pointer (some ⟨R88, 0, none⟩)) (by simp [go_sem, hc, hf, hgl, ↓IntWalk.iteOmega, a96, *]) rfl
            · refine relG_plain rfl rfl (fun _ _ h => h) ?_
              intro Ac w5 hp
              have hb := hp.bel
              have a111 : Ac.eval (.tmp 111) = .pointer (some ⟨R88, 0, none⟩) := hp.dep 23 (by kernel_rfl)
              have hc := evalC Ac; have hf := evalF Ac; have hgl := evalG Ac
              obtain ⟨ρ, hρ⟩ : ∃ ρ, Ac.eval = ρ := ⟨_, rfl⟩
              rw [hρ] at a111 hc hf hgl
              exact relPure hρ (.pointer (some ⟨R88, 5, none⟩)) (by simp [go_sem, hc, hf, hgl, ↓IntWalk.iteOmega, a111, *]) rfl
            · refine relG_plain rfl rfl (fun _ _ h => h) ?_
              intro Ac w5 hp
              have hb := hp.bel
              have a112 : Ac.eval (.tmp 112) = .pointer (some ⟨R88, 5, none⟩) := hp.dep 24 (by kernel_rfl)
              have a105 : Ac.eval (.tmp 105) = .int .i64 0 := hp.dep 16 (by kernel_rfl)
              have hc := evalC Ac; have hf := evalF Ac; have hgl := evalG Ac
              obtain ⟨ρ, hρ⟩ : ∃ ρ, Ac.eval = ρ := ⟨_, rfl⟩
              rw [hρ] at a112 a105 hc hf hgl
              exact relPure hρ (.pointer (some ⟨R88, 5, none⟩)) (by simp [go_sem, hc, hf, hgl, ↓IntWalk.iteOmega, a112, a105, *]) rfl
            · refine relG_store rfl ?_
              intro Ac w5 hp
              have hb := hp.bel
              have a113 : Ac.eval (.tmp 113) = .pointer (some ⟨R88, 5, none⟩) := hp.dep 25 (by kernel_rfl)
              have a107 : Ac.eval (.tmp 107) = .pointer (some ⟨b, 0, none⟩) := hp.dep 18 (by kernel_rfl)
              obtain ⟨u6, v6, hk6⟩ := hp.pre
              have HK := hide hk6
              clear hp hk6
              exact ⟨w5.setCell ⟨R88, 5, none⟩ (.pointer (some ⟨b, 0, none⟩)), .inl (exec_store rfl a113 a107 (stP_ptr HK.out rfl)), ⟨v6, HK.out.set_ 5 _⟩, rfl⟩
            intro u w15 hb7 hall
            have efin : BoRP w15 R88 cp L (.pointer (some ⟨w.heap.size + 1, 0, none⟩)) := relAll_at hall (i := 22) (by decide +kernel)
            have efin1 : BoLP w15 R88 cp L (.pointer (some ⟨b, 0, none⟩)) := relAll_at hall (i := 26) (by decide +kernel)
            clear hall
            simp only [List.drop_succ_cons, List.drop_zero, List.take_succ_cons, List.take_zero, putAll, Act.put, List.setIfInBounds_toArray, List.set_cons_zero, List.set_cons_succ, Nat.zero_add, Nat.reduceAdd, ]
            have HB15 : Hid (Below w8.heap.size w8 w15) := hide (HB14.out.trans hb7)
            have hsz8 := HB.out.size
            have HTw := hide ((NdA.tree HD.out).chg (S := fun _ => False) (chg_below HB.out) (by simp) (by simp))
            have hfb : w.heap.size + 1 < w8.heap.size := HFr.out.lt
            have HTf : Hid (TrA 1 231 F R w8 (.nd (w.heap.size + 1) a n (some x) .nil .nil)) := hide ⟨⟨⟨[.slice vA vn vc], ⟨rfl, by simp [Value.oneCell']⟩, HFr.out, fun y hy => by injection hy with hy; subst hy; exact frs_chg HFv.out (chg_below (S := fun _ => False) HB.out) (by simp)⟩, trivial, trivial⟩, ⟨HPa.out, trivial, trivial, trivial, trivial⟩, by simp [trB], fun k hk hFk => by simp only [trB, List.append_nil, List.mem_singleton] at hk; subst hk; have := HF.out _ hFk; omega⟩
            have hcw : trCnt (.nd b p m v l r) < 900000000 := by simp only [trCnt]; have := HCn.out; split <;> omega
            have HNt := hide (noteP_any (F := F) (R := R) R88 cp L [.slice none 0 0] ⟨rfl, by simp [Value.oneCell']⟩ false 0 (.nd b p m v l r) (.nd (w.heap.size + 1) a n (some x) .nil .nil) w15 (boP_both efin1 efin) (HTw.out.chg (S := fun _ => False) (chg_below HB15.out) (by simp) (by simp)).mem (HTf.out.chg (S := fun _ => False) (chg_below HB15.out) (by simp) (by simp)).mem (by have e : trCnt (.nd (w.heap.size + 1) a n (some x) .nil .nil) = 1 := rfl; rw [e]; omega))
            clear hb7 efin efin1 hcw
            go_wp2_with fail
            refine HNt.out.mono ?_
            rintro e w16 ⟨rfl, hk16, hc16⟩
            have HK16 := hide hk16
            have HC16 : Hid (ChgS (fun _ => False) w8 w16) := hide (chg_trans (chg_below HB15.out) hc16 (fun k h => .inr (by rw [h]; exact HRb.out)))
            clear hk16 hc16
            go_wp2
            go_ret
            have hPR := put_both1 (b0 := w.heap.size + 1) (b1 := R88) (x := x) HD.out.wf HPa.out HCvN.out HCv2N.out (by rw [HLe.out]; exact HBitA.out)
            rw [HLe.out, HCp.out] at hPR
            have hRb2 := HRb.out
            refine ⟨_, rfl, hPR, nd_new (w := w8) (v := none) HTw.out HTf.out (fun k hk => Nat.lt_of_lt_of_le (HF.out k hk) hsz8) hPR.wf ⟨rfl, by simp [Value.oneCell']⟩ (fun y hy => by cases hy) hRb2 (fun k hk2 hk => by simp only [trB, List.append_nil, List.mem_singleton] at hk; have h1 := (NdA.tree HD.out).mem.lt k hk2; omega) HC16.out HK16.out, fun k hk => ?_, chg_mono (chg_trans (chg_below (S := fun _ => False) HB.out) HC16.out (fun k h => .inl h)) (fun k h => h.elim)⟩
            have hk2 : k = R88 ∨ k = w.heap.size + 1 ∨ k ∈ trB (.nd b p m v l r) := by
              have e1 : trB (.nd R88 cp L none (.nd b p m v l r) (.nd (w.heap.size + 1) a n (some x) .nil .nil)) = R88 :: (trB (.nd b p m v l r) ++ trB (.nd (w.heap.size + 1) a n (some x) .nil .nil)) := rfl
              have e2 : trB (.nd (w.heap.size + 1) a n (some x) .nil .nil) = [w.heap.size + 1] := rfl
              rw [e1, e2] at hk
              rcases List.mem_cons.1 hk with h | h
              · exact .inl h
              · rcases List.mem_append.1 h with h | h
                · exact .inr (.inr h)
                · exact .inr (.inl (List.mem_singleton.1 h))
            rcases hk2 with h | h | h
            · exact .inr (by omega)
            · exact .inr (by omega)
            · exact .inl h
end Go.Proofs.YtcinjckajnnhmaaGreat
set_option linter.unusedSimpArgs false
set_option linter.unusedVariables false
namespace Go.Proofs.YtcinjckajnnhmaaGreat
open Go.RowKit Go.WideShapes Go.ChangeShapes
def trUpd {α : Type} (a n : Nat) (x : α) : Tr α → Tr α
  | .nil => .nil
  | .nd b p m v l r => if CvN p m a n then (if p = a ∧ m = n then .nd b p m (some x) l r else if bitN a m = 0 then .nd b p m v (trUpd a n x l) r else .nd b p m v l (trUpd a n x r)) else .nd b p m v l r
section
variable {α : Type} {sz : Nat} {T : TypeId} {F : Nat → Prop} {R : World → List Value → α → Prop} {w w' : World} {a n : Nat} {x y : α}
theorem trUpd_put (hPa : PG a n) : ∀ t : Tr α, trWf t → trGet a n t = some y → PutR a n x t (trUpd a n x t)
  | .nil, _, h => by simp [trGet] at h
  | .nd b p m v l r, hw, h => by
      unfold trGet at h
      unfold trUpd
      split at h
      · rename_i hc
        rw [if_pos hc]
        split at h
        · rename_i he
          rw [if_pos he]
          obtain ⟨rfl, rfl⟩ := he
          exact put_here hw x
        · rename_i he
          rw [if_neg he]
          split at h
          · rename_i hb
            rw [if_pos hb]
            exact put_left hw hPa hc he hb (trUpd_put hPa l hw.2.2.2.1 h)
          · rename_i hb
            rw [if_neg hb]
            exact put_right hw hPa hc he (by rcases bitN_01 a m with h0 | h0; exact absurd h0 hb; exact h0) (trUpd_put hPa r hw.2.2.2.2 h)
      · cases h
theorem trUpd_b : ∀ t : Tr α, trB (trUpd a n x t) = trB t ∧ trPtr (trUpd a n x t) = trPtr t
  | .nil => ⟨rfl, rfl⟩
  | .nd b p m v l r => by
      have h1 := trUpd_b l
      have h2 := trUpd_b r
      unfold trUpd
      split
      · split
        · exact ⟨rfl, rfl⟩
        · split
          · exact ⟨by simp [trB, h1.1], rfl⟩
          · exact ⟨by simp [trB, h2.1], rfl⟩
      · exact ⟨rfl, rfl⟩
theorem trFind_sub (a n : Nat) : ∀ t : Tr α, ∀ k ∈ trB (trFind a n t), k ∈ trB t
  | .nil, k, hk => by simp [trFind, trB] at hk
  | .nd b p m v l r, k, hk => by
      unfold trFind at hk
      split at hk
      · split at hk
        · exact hk
        · split at hk
          · simp [trB, trFind_sub a n l k hk]
          · simp [trB, trFind_sub a n r k hk]
      · simp [trB] at hk
/-- The node that is found turned in memory. -/
theorem trUpd_mem (hPa : PG a n) {b : Nat} {l0 r0 : Tr α} {us : List Value} (hu : VOk sz us) : ∀ (t : Tr α), TrA sz T F R w t → trFind a n t = .nd b a n (some y) l0 r0 → ChgS (fun k => k = b) w w' → FrS F none (fun w => R w us x) w →
    Blk w' b T (ndC a n us true (trCnt l0 + trCnt r0 + 1) (trPtr l0) (trPtr r0)) → TrA sz T F R w' (trUpd a n x t) ∧ trCnt (trUpd a n x t) = trCnt t
  | .nil, _, h, _, _, _ => by simp [trFind] at h
  | .nd b1 p m v l r, ht, h, hc, hx, hk => by
      obtain ⟨vs1, hd⟩ := ht.node
      have hg : trGet a n (.nd b1 p m v l r) = some y := by rw [trGet_find, h]
      have hPR := trUpd_put (x := x) hPa _ hd.wf hg
      have hcnt : trCnt (trUpd a n x (.nd b1 p m v l r)) = trCnt (.nd b1 p m v l r) := by have := hPR.cnt; rw [hg] at this; simpa using this
      refine ⟨?_, hcnt⟩
      have hbt : b ∈ trB (.nd b1 p m v l r) := trFind_sub a n _ b (by rw [h]; simp [trB])
      unfold trFind at h
      unfold trUpd at hPR hcnt ⊢
      split at h
      · rename_i hcv
        rw [if_pos hcv] at hPR hcnt ⊢
        split at h
        · rename_i he
          rw [if_pos he] at hPR hcnt ⊢
          injection h with e1 e2 e3 e4 e5 e6
          subst e1 e2 e3 e4 e5 e6
          exact nd_here hd hu hx hc hk
        · rename_i he
          rw [if_neg he] at hPR hcnt ⊢
          split at h
          · rename_i hb
            rw [if_pos hb] at hPR hcnt ⊢
            have hbl : b ∈ trB l := trFind_sub a n l b (by rw [h]; simp [trB])
            have hne : b1 ≠ b := fun e => hd.bl (e ▸ hbl)
            obtain ⟨hT, hC⟩ := trUpd_mem hPa hu l hd.left h hc hx hk
            have hB := (trUpd_b (a := a) (n := n) (x := x) l)
            refine (nd_left (w9 := w') hd hPR.wf hT (fun k hk => .inl (hB.1 ▸ hk)) (chg_mono hc fun k h => .inl (.inl (h ▸ hbl))) (chg_refl _ _) ?_).1
            rw [hC, hB.2]
            exact chg_blk hc hd.blk hne
          · rename_i hb
            rw [if_neg hb] at hPR hcnt ⊢
            have hbr : b ∈ trB r := trFind_sub a n r b (by rw [h]; simp [trB])
            have hne : b1 ≠ b := fun e => hd.br (e ▸ hbr)
            obtain ⟨hT, hC⟩ := trUpd_mem hPa hu r hd.right h hc hx hk
            have hB := (trUpd_b (a := a) (n := n) (x := x) r)
            refine (nd_right (w9 := w') hd hPR.wf hT (fun k hk => .inl (hB.1 ▸ hk)) (chg_mono hc fun k h => .inl (.inl (h ▸ hbr))) (chg_refl _ _) ?_).1
            rw [hC, hB.2]
            exact chg_blk hc hd.blk hne
      · cases h
end
end Go.Proofs.YtcinjckajnnhmaaGreat
set_option linter.unusedSimpArgs false
set_option linter.unusedVariables false
namespace Go.Proofs.YtcinjckajnnhmaaGreat
open Go.RowKit Go.WideShapes Go.ChangeShapes
attribute [local go_sem] Oper.semAt_some
set_option maxRecDepth 100000 in
set_option maxHeartbeats 32000000 in
theorem putnP_any {α : Type} {F : Nat → Prop} {R : World → List Value → α → Prop} (g a n : Nat) (t : Tr α) (x : α) (vA : Option Addr) (vn vc : Nat) (w : World) (ha : PG a n) (hg : Blk w g 222 #[trPtr t]) (h : TrA 1 231 F R w t) (hF : ∀ k, F k → k < w.heap.size) (hv : FrS F none (fun w => R w [.slice vA vn vc] x) w) (hgF : ¬ F g) (hgB : g ∉ trB t) (hcn : trCnt t < 100000000) (hno : trGet a n t = none) :
    Calls Tryz.prog 109 #[.pointer (some ⟨g, 0, none⟩), .agg #[.int .u32 (a : Int), .int .i64 (n : Int)], .slice vA vn vc] w fun e w' => e = .returned (.tuple #[.slice none 0 0, .bool false]) ∧ ∃ t2, PutR a n x t t2 ∧ Blk w' g 222 #[trPtr t2] ∧ TrA 1 231 F R w' t2 ∧ (∀ k ∈ trB t2, k ∈ trB t ∨ w.heap.size ≤ k) ∧ ChgS (fun k => k = g ∨ k ∈ trB t) w w' := by
  obtain ⟨w0, hw0⟩ : ∃ w0, w.alloc (.cells #[.int .u32 (a : Int), .int .i64 (n : Int)] 24) = w0 := ⟨_, rfl⟩
  have hb0 : Below w.heap.size w w0 := hw0 ▸ blkBelow1 w _
  have HX0 : Hid (Blk w0 w.heap.size 24 #[.int .u32 (a : Int), .int .i64 (n : Int)]) := hide (hw0 ▸ Blk.new w _ _)
  have HGd := hide (Good_any a (n : Int) ha.1 (by omega) (by have := ha.2.1; omega))
  rw [good_pg ha] at HGd
  unfold pfx at HGd
  have HFd := hide (fun W (hb : Below w.heap.size w W) => findP_any (F := F) (R := R) g a n t W ha (hg.below hb hg.lt) (h.mem.chg (S := fun _ => False) (chg_below hb) (by simp) (by simp)) h.wf)
  have hgf := trGet_find a n t
  have HG := hide hg
  have HT := hide h
  have HW0 := hide hw0
  have HB0 := hide hb0
  have HFv := hide hv
  have HF := hide hF
  have HPa := hide ha
  have HgF := hide hgF
  have HgB := hide hgB
  have HCt := hide hcn
  clear hw0 hb0 hg hF hv ha hgF hgB hcn h
  go_enter Tryz.func109, Tryz.ntmps109
  go_wp2_with fail
  rw [HW0.out]
  refine (HGd.out _).mono ?_
  rintro e w1 ⟨rfl, hb1⟩
  have HB1 := hide (HB0.out.trans (hb1.mono HB0.out.size))
  have HX1 := hide (HX0.out.below hb1 HX0.out.lt)
  have x0 : w1.cell? ⟨w.heap.size, 0, none⟩ = some (.int .u32 (a : Int)) := HX1.out.cell 0
  have x1 : w1.cell? ⟨w.heap.size, 1, none⟩ = some (.int .i64 (n : Int)) := HX1.out.cell 1
  clear hb1
  go_wp2_with fail
  refine (HFd.out _ HB1.out).mono ?_
  rintro e w2 ⟨rfl, hb2⟩
  have HB2 := hide (HB1.out.trans (hb2.mono HB1.out.size))
  have HX2 := hide (HX1.out.below hb2 HX1.out.lt)
  have HG2 := hide (HG.out.below HB2.out HG.out.lt)
  have HT2 := hide (HT.out.chg (S := fun _ => False) (chg_below HB2.out) (by simp) (by simp))
  have hfw := trFind_w a n t HT2.out.mem
  have hfb := trFind_sub a n t
  clear hb2 x0 x1
  obtain ⟨s, hs⟩ : ∃ s, trFind a n t = s := ⟨_, rfl⟩
  rw [hs] at hfw hfb hgf ⊢
  have HRec := hide (fun W (hb : Below w2.heap.size w2 W) => putP_any (F := F) (R := R) x vA vn vc a n t W HPa.out (HT2.out.chg (S := fun _ => False) (chg_below hb) (by simp) (by simp)) (fun k hk => Nat.lt_of_lt_of_le (HF.out k hk) (Nat.le_trans HB2.out.size hb.size)) (frs_chg HFv.out (chg_below (S := fun _ => False) (HB2.out.trans (hb.mono HB2.out.size))) (by simp)) HCt.out)
  have hgo : Hid (s = .nil ∨ ∃ b p m l0 r0 v0 cn, s = .nd b p m none l0 r0 ∧ Blk w2 b 231 (ndC p m [v0] false cn (trPtr l0) (trPtr r0))) := hide (by
    rw [hno] at hgf
    cases s with
    | nil => exact .inl rfl
    | nd b p m v l0 r0 =>
      simp only at hgf
      subst hgf
      obtain ⟨⟨vs, hv, hk, _⟩, _, _⟩ := hfw
      obtain ⟨v0, rfl⟩ := lenP hv
      exact .inr ⟨b, p, m, l0, r0, v0, _, rfl, hk⟩)
  clear hfw hfb hgf hs hno
  rcases hgo.out with rfl | ⟨b, p, m, l0, r0, v0, cn, rfl, hk⟩
  all_goals clear hgo
  · have e0 : trPtr (.nil : Tr α) = .pointer none := rfl
    rw [e0]
    clear e0
    go_upto_region 7 with fail
    refine wp_region_relH 10 0 (Nat.zero_le _) [(fun v _ => v = .pointer (some ⟨g, 0, none⟩)), (fun v _ => v = .pointer (some ⟨g, 0, none⟩)), (fun v _ => v = .pointer (some ⟨g, 0, none⟩)), (fun v _ => v = .pointer (some ⟨g, 0, none⟩)), (fun v _ => v = trPtr t), (fun v _ => v = .agg #[.int .u32 (a : Int), .int .i64 (n : Int)]), (fun v _ => v = .slice vA vn vc), (fun v W => ∃ t2, v = trPtr t2 ∧ PutR a n x t t2 ∧ TrA 1 231 F R W t2 ∧ (∀ k ∈ trB t2, k ∈ trB t ∨ w2.heap.size ≤ k) ∧ ChgS (fun k => k ∈ trB t) w2 W), (fun v _ => v = .pointer (some ⟨g, 0, none⟩)), (fun v _ => v = .pointer (some ⟨g, 0, none⟩))] (fun i W => (1 ≤ i ∧ i ≤ 7) → Below w2.heap.size w2 W) (fun i Wa Wb => if i = 7 then Below 0 Wa Wb else Below Wa.heap.size Wa Wb) (by kernel_rfl) (by kernel_rfl) (by kernel_rfl) (by kernel_rfl) (by kernel_rfl) ?hE ?hR ?hP ?h0 ⟨?_, ?_, ?_, ?_, ?_, ?_, ?_, ?_, ?_, ?_, trivial⟩ ?_
    case hE =>
      intro i2 wa wb hB he
      split at he
      · exact he
      · exact he.mono (Nat.zero_le _)
    case hR =>
      intro i2 j2 v2 wa wb hij hB he h
      split at he
      · rename_i hj2
        subst hj2
        refine keepAll_at (E := fun wa wb => Below 0 wa wb) (x := 7) (k := 0) ?_ (by omega) he h
        exact ⟨fun _ v wa wb he h => h, fun _ v wa wb he h => h, fun _ v wa wb he h => h, fun _ v wa wb he h => h, fun _ v wa wb he h => h, fun _ v wa wb he h => h, fun _ v wa wb he h => h, fun hn => absurd rfl hn, fun _ v wa wb he h => h, fun _ v wa wb he h => h, trivial⟩
      · refine relMono _ ?_ i2 v2 wa wb he h
        exact ⟨fun _ _ _ _ h => h, fun _ _ _ _ h => h, fun _ _ _ _ h => h, fun _ _ _ _ h => h, fun _ _ _ _ h => h, fun _ _ _ _ h => h, fun _ _ _ _ h => h, fun v wa wb hb ⟨t2, e, h1, h2, h3, h4⟩ => ⟨t2, e, h1, h2.chg (S := fun _ => False) (chg_below hb) (by simp) (by simp), h3, chg_trans h4 (chg_below (S := fun _ => False) hb) (fun k h => h.elim)⟩, fun _ _ _ _ h => h, fun _ _ _ _ h => h, trivial⟩
    case hP =>
      intro i2 j2 wa wb hij hnb hB he h hi
      split at he
      · rename_i hj2
        subst hj2
        have hi3 : i2 = 1 ∨ i2 = 2 ∨ i2 = 3 ∨ i2 = 4 ∨ i2 = 5 ∨ i2 = 6 ∨ i2 = 7 := by omega
        rcases hi3 with rfl | rfl | rfl | rfl | rfl | rfl | rfl
        all_goals first | exact absurd rfl hij | exact absurd hnb (by decide +kernel)
      · exact (h hi).trans (he.mono (h hi).size)
    case h0 =>
      intro j2 hj2 _
      exact (Below.refl _ _).drew
    · refine relG_plain rfl rfl (fun _ _ h => h) ?_
      intro Ac w5 hp
      have hb := hp.bel
      have a0 : Ac.eval (.tmp 0) = .pointer (some ⟨g, 0, none⟩) := hp.out 0 (by rfl)
      have hc := evalC Ac; have hf := evalF Ac; have hgl := evalG Ac
      obtain ⟨ρ, hρ⟩ : ∃ ρ, Ac.eval = ρ := ⟨_, rfl⟩
      rw [hρ] at a0 hc hf hgl
      exact relPure hρ (.pointer (some ⟨g, 0, none⟩)) (by simp [go_sem, hc, hf, hgl, ↓IntWalk.iteOmega, a0, *]) rfl
    · refine relG_plain rfl rfl (fun _ _ h => h) ?_
      intro Ac w5 hp
      have hb := hp.bel
      have a0 : Ac.eval (.tmp 0) = .pointer (some ⟨g, 0, none⟩) := hp.out 0 (by rfl)
      have hc := evalC Ac; have hf := evalF Ac; have hgl := evalG Ac
      obtain ⟨ρ, hρ⟩ : ∃ ρ, Ac.eval = ρ := ⟨_, rfl⟩
      rw [hρ] at a0 hc hf hgl
      exact relPure hρ (.pointer (some ⟨g, 0, none⟩)) (by simp [go_sem, hc, hf, hgl, ↓IntWalk.iteOmega, a0, *]) rfl
    · refine relG_plain rfl rfl (fun _ _ h => h) ?_
      intro Ac w5 hp
      have hb := hp.bel
      have a38 : Ac.eval (.tmp 38) = .pointer (some ⟨g, 0, none⟩) := hp.dep 1 (by kernel_rfl)
      have hc := evalC Ac; have hf := evalF Ac; have hgl := evalG Ac
      obtain ⟨ρ, hρ⟩ : ∃ ρ, Ac.eval = ρ := ⟨_, rfl⟩
      rw [hρ] at a38 hc hf hgl
      exact relPure hρ (.pointer (some ⟨g, 0, none⟩)) (by simp [go_sem, hc, hf, hgl, ↓IntWalk.iteOmega, a38, *]) rfl
    · refine relG_plain rfl rfl (fun _ _ h => h) ?_
      intro Ac w5 hp
      have hb := hp.bel
      have a39 : Ac.eval (.tmp 39) = .pointer (some ⟨g, 0, none⟩) := hp.dep 2 (by kernel_rfl)
      have hc := evalC Ac; have hf := evalF Ac; have hgl := evalG Ac
      obtain ⟨ρ, hρ⟩ : ∃ ρ, Ac.eval = ρ := ⟨_, rfl⟩
      rw [hρ] at a39 hc hf hgl
      exact relPure hρ (.pointer (some ⟨g, 0, none⟩)) (by simp [go_sem, hc, hf, hgl, ↓IntWalk.iteOmega, a39, *]) rfl
    · refine relG_plain rfl rfl (fun _ _ h => h) ?_
      intro Ac w5 hp
      have hb := hp.bel
      have a40 : Ac.eval (.tmp 40) = .pointer (some ⟨g, 0, none⟩) := hp.dep 3 (by kernel_rfl)
      have hb := hp.pre ⟨by decide, by decide⟩
      have hg5 := HG2.out.below hb HG2.out.lt
      have z0 : w5.cell? ⟨g, 0, none⟩ = some (trPtr t) := hg5.cell 0
      have hc := evalC Ac; have hf := evalF Ac; have hgl := evalG Ac
      obtain ⟨ρ, hρ⟩ : ∃ ρ, Ac.eval = ρ := ⟨_, rfl⟩
      rw [hρ] at a40 hc hf hgl
      exact relPure hρ (trPtr t) (by simp [go_sem, hc, hf, hgl, ↓IntWalk.iteOmega, a40, *]) rfl
    · refine relG_plain rfl rfl (fun _ _ h => h) ?_
      intro Ac w5 hp
      have hb := hp.bel
      have a4 : Ac.eval (.tmp 4) = .pointer (some ⟨w.heap.size, 0, none⟩) := hp.out 4 (by rfl)
      have hb := hp.pre ⟨by decide, by decide⟩
      have hx5 := HX2.out.below hb HX2.out.lt
      have x0 : w5.cell? ⟨w.heap.size, 0, none⟩ = some (.int .u32 (a : Int)) := hx5.cell 0
      have x1 : w5.cell? ⟨w.heap.size, 1, none⟩ = some (.int .i64 (n : Int)) := hx5.cell 1
      have hc := evalC Ac; have hf := evalF Ac; have hgl := evalG Ac
      obtain ⟨ρ, hρ⟩ : ∃ ρ, Ac.eval = ρ := ⟨_, rfl⟩
      rw [hρ] at a4 hc hf hgl
      exact relPure hρ (.agg #[.int .u32 (a : Int), .int .i64 (n : Int)]) (by simp [go_sem, hc, hf, hgl, ↓IntWalk.iteOmega, a4, *]) rfl
    · refine relG_plain rfl rfl (fun _ _ h => h) ?_
      intro Ac w5 hp
      have hb := hp.bel
      have a2 : Ac.eval (.tmp 2) = .slice vA vn vc := hp.out 2 (by rfl)
      have hc := evalC Ac; have hf := evalF Ac; have hgl := evalG Ac
      obtain ⟨ρ, hρ⟩ : ∃ ρ, Ac.eval = ρ := ⟨_, rfl⟩
      rw [hρ] at a2 hc hf hgl
      exact relPure hρ (.slice vA vn vc) (by simp [go_sem, hc, hf, hgl, ↓IntWalk.iteOmega, a2, *]) rfl
    · refine relG_enter rfl rfl ?_
      intro Ac w5 hp
      have hb := hp.bel
      have a41 : Ac.eval (.tmp 41) = trPtr t := hp.dep 4 (by kernel_rfl)
      have a42 : Ac.eval (.tmp 42) = .agg #[.int .u32 (a : Int), .int .i64 (n : Int)] := hp.dep 5 (by kernel_rfl)
      have a43 : Ac.eval (.tmp 43) = .slice vA vn vc := hp.dep 6 (by kernel_rfl)
      have hc := evalC Ac; have hf := evalF Ac; have hgl := evalG Ac
      obtain ⟨ρ, hρ⟩ : ∃ ρ, Ac.eval = ρ := ⟨_, rfl⟩
      rw [hρ] at a41 a42 a43 hc hf hgl
      refine ⟨165, #[trPtr t, .agg #[.int .u32 (a : Int), .int .i64 (n : Int)], .slice vA vn vc], by rw [hρ]; simp [go_sem, hc, hf, hgl, ↓IntWalk.iteOmega, a41, a42, a43, *], ?_⟩
      have hb := hp.pre ⟨by decide, by decide⟩
      refine (HRec.out w5 hb).mono ?_
      rintro e w6 ⟨t2, rfl, h1, h2, h3, h4⟩
      refine ⟨_, rfl, ⟨t2, rfl, h1, h2, fun k hk => (h3 k hk).imp id (Nat.le_trans hb.size), chg_trans (chg_below hb) h4 (fun k h => .inl h)⟩, by show Below 0 w5 w6; exact ⟨h4.os, h4.tape, h4.output, h4.size, fun k hk => absurd hk (Nat.not_lt_zero k)⟩⟩
    · refine relG_plain rfl rfl (fun _ _ h => h) ?_
      intro Ac w5 hp
      have hb := hp.bel
      have a37 : Ac.eval (.tmp 37) = .pointer (some ⟨g, 0, none⟩) := hp.dep 0 (by kernel_rfl)
      have hc := evalC Ac; have hf := evalF Ac; have hgl := evalG Ac
      obtain ⟨ρ, hρ⟩ : ∃ ρ, Ac.eval = ρ := ⟨_, rfl⟩
      rw [hρ] at a37 hc hf hgl
      exact relPure hρ (.pointer (some ⟨g, 0, none⟩)) (by simp [go_sem, hc, hf, hgl, ↓IntWalk.iteOmega, a37, *]) rfl
    · refine relG_plain rfl rfl (fun _ _ h => h) ?_
      intro Ac w5 hp
      have hb := hp.bel
      have a45 : Ac.eval (.tmp 45) = .pointer (some ⟨g, 0, none⟩) := hp.dep 8 (by kernel_rfl)
      have hc := evalC Ac; have hf := evalF Ac; have hgl := evalG Ac
      obtain ⟨ρ, hρ⟩ : ∃ ρ, Ac.eval = ρ := ⟨_, rfl⟩
      rw [hρ] at a45 hc hf hgl
      exact relPure hρ (.pointer (some ⟨g, 0, none⟩)) (by simp [go_sem, hc, hf, hgl, ↓IntWalk.iteOmega, a45, *]) rfl
    intro u w9 hb7 hall
    obtain ⟨t44, e44, h44a, h44b, h44c, h44d⟩ := relAll_at hall (i := 7) (by decide +kernel)
    change u 7 = _ at e44
    have e46 : u 9 = .pointer (some ⟨g, 0, none⟩) := relAll_at hall (i := 9) (by decide +kernel)
    clear hall
    simp only [List.drop_succ_cons, List.drop_zero, List.take_succ_cons, List.take_zero, putAll, Act.put, List.setIfInBounds_toArray, List.set_cons_zero, List.set_cons_succ, Nat.zero_add, Nat.reduceAdd, e44, e46]
    have hgl := HG.out.lt
    have HG9 := hide (chg_blk h44d HG2.out HgB.out)
    have hg44 : g ∉ trB t44 := fun h => (h44c g h).elim HgB.out (fun h => by have := HB2.out.size; omega)
    obtain ⟨q44, hq44⟩ := trPtr_ptr t44
    rw [hq44]
    have zg : w9.cell? ⟨g, 0, none⟩ = some (trPtr t) := HG9.out.cell 0
    have zgf := HG9.out.frozen 0
    have HG10 : Hid (Blk (w9.setCell ⟨g, 0, none⟩ (.pointer q44)) g 222 #[trPtr t44]) := hide (by rw [hq44]; exact HG9.out.set_ 0 _)
    have HC10 : Hid (ChgS (fun k => k = g) w9 (w9.setCell ⟨g, 0, none⟩ (.pointer q44))) := hide (chg_set (S := fun k => k = g) (p := ⟨g, 0, none⟩) rfl _)
    have HT10 := hide (h44b.chg HC10.out (fun k hk e => hg44 (e ▸ hk)) (fun k hF e => HgF.out (e ▸ hF)))
    have HCw : Hid (ChgS (fun k => k = g ∨ k ∈ trB t) w (w9.setCell ⟨g, 0, none⟩ (.pointer q44))) := hide (chg_trans (chg_trans (chg_below (S := fun k => k = g ∨ k ∈ trB t) HB2.out) h44d (fun k h => .inl (.inr h))) HC10.out (fun k h => .inl (.inl h)))
    have HPu := hide h44a
    have HSu := hide (fun k hk => (h44c k hk).imp id (Nat.le_trans HB2.out.size))
    clear hq44 h44a h44b h44c h44d hb7 hg44
    go_wp2
    go_ret2
    exact ⟨rfl, t44, HPu.out, HG10.out, HT10.out, HSu.out, HCw.out⟩
  · have e0 : trPtr (.nd b p m none l0 r0 : Tr α) = .pointer (some ⟨b, 0, none⟩) := rfl
    rw [e0]
    have yp : w2.cell? ⟨b, 3, none⟩ = some (.bool false) := hk.cell 3
    clear e0 hk
    go_upto_region 7 with fail
    refine wp_region_relH 10 0 (Nat.zero_le _) [(fun v _ => v = .pointer (some ⟨g, 0, none⟩)), (fun v _ => v = .pointer (some ⟨g, 0, none⟩)), (fun v _ => v = .pointer (some ⟨g, 0, none⟩)), (fun v _ => v = .pointer (some ⟨g, 0, none⟩)), (fun v _ => v = trPtr t), (fun v _ => v = .agg #[.int .u32 (a : Int), .int .i64 (n : Int)]), (fun v _ => v = .slice vA vn vc), (fun v W => ∃ t2, v = trPtr t2 ∧ PutR a n x t t2 ∧ TrA 1 231 F R W t2 ∧ (∀ k ∈ trB t2, k ∈ trB t ∨ w2.heap.size ≤ k) ∧ ChgS (fun k => k ∈ trB t) w2 W), (fun v _ => v = .pointer (some ⟨g, 0, none⟩)), (fun v _ => v = .pointer (some ⟨g, 0, none⟩))] (fun i W => (1 ≤ i ∧ i ≤ 7) → Below w2.heap.size w2 W) (fun i Wa Wb => if i = 7 then Below 0 Wa Wb else Below Wa.heap.size Wa Wb) (by kernel_rfl) (by kernel_rfl) (by kernel_rfl) (by kernel_rfl) (by kernel_rfl) ?hE ?hR ?hP ?h0 ⟨?_, ?_, ?_, ?_, ?_, ?_, ?_, ?_, ?_, ?_, trivial⟩ ?_
    case hE =>
      intro i2 wa wb hB he
      split at he
      · exact he
      · exact he.mono (Nat.zero_le _)
    case hR =>
      intro i2 j2 v2 wa wb hij hB he h
      split at he
      · rename_i hj2
        subst hj2
        refine keepAll_at (E := fun wa wb => Below 0 wa wb) (x := 7) (k := 0) ?_ (by omega) he h
        exact ⟨fun _ v wa wb he h => h, fun _ v wa wb he h => h, fun _ v wa wb he h => h, fun _ v wa wb he h => h, fun _ v wa wb he h => h, fun _ v wa wb he h => h, fun _ v wa wb he h => h, fun hn => absurd rfl hn, fun _ v wa wb he h => h, fun _ v wa wb he h => h, trivial⟩
      · refine relMono _ ?_ i2 v2 wa wb he h
        exact ⟨fun _ _ _ _ h => h, fun _ _ _ _ h => h, fun _ _ _ _ h => h, fun _ _ _ _ h => h, fun _ _ _ _ h => h, fun _ _ _ _ h => h, fun _ _ _ _ h => h, fun v wa wb hb ⟨t2, e, h1, h2, h3, h4⟩ => ⟨t2, e, h1, h2.chg (S := fun _ => False) (chg_below hb) (by simp) (by simp), h3, chg_trans h4 (chg_below (S := fun _ => False) hb) (fun k h => h.elim)⟩, fun _ _ _ _ h => h, fun _ _ _ _ h => h, trivial⟩
    case hP =>
      intro i2 j2 wa wb hij hnb hB he h hi
      split at he
      · rename_i hj2
        subst hj2
        have hi3 : i2 = 1 ∨ i2 = 2 ∨ i2 = 3 ∨ i2 = 4 ∨ i2 = 5 ∨ i2 = 6 ∨ i2 = 7 := by omega
        rcases hi3 with rfl | rfl | rfl | rfl | rfl | rfl | rfl
        all_goals first | exact absurd rfl hij | exact absurd hnb (by decide +kernel)
      · exact (h hi).trans (he.mono (h hi).size)
    case h0 =>
      intro j2 hj2 _
      exact (Below.refl _ _).drew
    · refine relG_plain rfl rfl (fun _ _ h => h) ?_
      intro Ac w5 hp
      have hb := hp.bel
      have a0 : Ac.eval (.tmp 0) = .pointer (some ⟨g, 0, none⟩) := hp.out 0 (by rfl)
      have hc := evalC Ac; have hf := evalF Ac; have hgl := evalG Ac
      obtain ⟨ρ, hρ⟩ : ∃ ρ, Ac.eval = ρ := ⟨_, rfl⟩
      rw [hρ] at a0 hc hf hgl
      exact relPure hρ (.pointer (some ⟨g, 0, none⟩)) (by simp [go_sem, hc, hf, hgl, ↓IntWalk.iteOmega, a0, *]) rfl
    · refine relG_plain rfl rfl (fun _ _ h => h) ?_
      intro Ac w5 hp
      have hb := hp.bel
      have a0 : Ac.eval (.tmp 0) = .pointer (some ⟨g, 0, none⟩) := hp.out 0 (by rfl)
      have hc := evalC Ac; have hf := evalF Ac; have hgl := evalG Ac
      obtain ⟨ρ, hρ⟩ : ∃ ρ, Ac.eval = ρ := ⟨_, rfl⟩
      rw [hρ] at a0 hc hf hgl
      exact relPure hρ (.pointer (some ⟨g, 0, none⟩)) (by simp [go_sem, hc, hf, hgl, ↓IntWalk.iteOmega, a0, *]) rfl
    · refine relG_plain rfl rfl (fun _ _ h => h) ?_
      intro Ac w5 hp
      have hb := hp.bel
      have a38 : Ac.eval (.tmp 38) = .pointer (some ⟨g, 0, none⟩) := hp.dep 1 (by kernel_rfl)
      have hc := evalC Ac; have hf := evalF Ac; have hgl := evalG Ac
      obtain ⟨ρ, hρ⟩ : ∃ ρ, Ac.eval = ρ := ⟨_, rfl⟩
      rw [hρ] at a38 hc hf hgl
      exact relPure hρ (.pointer (some ⟨g, 0, none⟩)) (by simp [go_sem, hc, hf, hgl, ↓IntWalk.iteOmega, a38, *]) rfl
    · refine relG_plain rfl rfl (fun _ _ h => h) ?_
      intro Ac w5 hp
      have hb := hp.bel
      have a39 : Ac.eval (.tmp 39) = .pointer (some ⟨g, 0, none⟩) := hp.dep 2 (by kernel_rfl)
      have hc := evalC Ac; have hf := evalF Ac; have hgl := evalG Ac
      obtain ⟨ρ, hρ⟩ : ∃ ρ, Ac.eval = ρ := ⟨_, rfl⟩
      rw [hρ] at a39 hc hf hgl
      exact relPure hρ (.pointer (some ⟨g, 0, none⟩)) (by simp [go_sem, hc, hf, hgl, ↓IntWalk.iteOmega, a39, *]) rfl
    · refine relG_plain rfl rfl (fun _ _ h => h) ?_
      intro Ac w5 hp
      have hb := hp.bel
      have a40 : Ac.eval (.tmp 40) = .pointer (some ⟨g, 0, none⟩) := hp.dep 3 (by kernel_rfl)
      have hb := hp.pre ⟨by decide, by decide⟩
      have hg5 := HG2.out.below hb HG2.out.lt
      have z0 : w5.cell? ⟨g, 0, none⟩ = some (trPtr t) := hg5.cell 0
      have hc := evalC Ac; have hf := evalF Ac; have hgl := evalG Ac
      obtain ⟨ρ, hρ⟩ : ∃ ρ, Ac.eval = ρ := ⟨_, rfl⟩
      rw [hρ] at a40 hc hf hgl
      exact relPure hρ (trPtr t) (by simp [go_sem, hc, hf, hgl, ↓IntWalk.iteOmega, a40, *]) rfl
    · refine relG_plain rfl rfl (fun _ _ h => h) ?_
      intro Ac w5 hp
      have hb := hp.bel
      have a4 : Ac.eval (.tmp 4) = .pointer (some ⟨w.heap.size, 0, none⟩) := hp.out 4 (by rfl)
      have hb := hp.pre ⟨by decide, by decide⟩
      have hx5 := HX2.out.below hb HX2.out.lt
      have x0 : w5.cell? ⟨w.heap.size, 0, none⟩ = some (.int .u32 (a : Int)) := hx5.cell 0
      have x1 : w5.cell? ⟨w.heap.size, 1, none⟩ = some (.int .i64 (n : Int)) := hx5.cell 1
      have hc := evalC Ac; have hf := evalF Ac; have hgl := evalG Ac
      obtain ⟨ρ, hρ⟩ : ∃ ρ, Ac.eval = ρ := ⟨_, rfl⟩
      rw [hρ] at a4 hc hf hgl
      exact relPure hρ (.agg #[.int .u32 (a : Int), .int .i64 (n : Int)]) (by simp [go_sem, hc, hf, hgl, ↓IntWalk.iteOmega, a4, *]) rfl
    · refine relG_plain rfl rfl (fun _ _ h => h) ?_
      intro Ac w5 hp
      have hb := hp.bel
      have a2 : Ac.eval (.tmp 2) = .slice vA vn vc := hp.out 2 (by rfl)
      have hc := evalC Ac; have hf := evalF Ac; have hgl := evalG Ac
      obtain ⟨ρ, hρ⟩ : ∃ ρ, Ac.eval = ρ := ⟨_, rfl⟩
      rw [hρ] at a2 hc hf hgl
      exact relPure hρ (.slice vA vn vc) (by simp [go_sem, hc, hf, hgl, ↓IntWalk.iteOmega, a2, *]) rfl
    · refine relG_enter rfl rfl ?_
      intro Ac w5 hp
      have hb := hp.bel
      have a41 : Ac.eval (.tmp 41) = trPtr t := hp.dep 4 (by kernel_rfl)
      have a42 : Ac.eval (.tmp 42) = .agg #[.int .u32 (a : Int), .int .i64 (n : Int)] := hp.dep 5 (by kernel_rfl)
      have a43 : Ac.eval (.tmp 43) = .slice vA vn vc := hp.dep 6 (by kernel_rfl)
      have hc := evalC Ac; have hf := evalF Ac; have hgl := evalG Ac
      obtain ⟨ρ, hρ⟩ : ∃ ρ, Ac.eval = ρ := ⟨_, rfl⟩
      rw [hρ] at a41 a42 a43 hc hf hgl
      refine ⟨165, #[trPtr t, .agg #[.int .u32 (a : Int), .int .i64 (n : Int)], .slice vA vn vc], by rw [hρ]; simp [go_sem, hc, hf, hgl, ↓IntWalk.iteOmega, a41, a42, a43, *], ?_⟩
      have hb := hp.pre ⟨by decide, by decide⟩
      refine (HRec.out w5 hb).mono ?_
      rintro e w6 ⟨t2, rfl, h1, h2, h3, h4⟩
      refine ⟨_, rfl, ⟨t2, rfl, h1, h2, fun k hk => (h3 k hk).imp id (Nat.le_trans hb.size), chg_trans (chg_below hb) h4 (fun k h => .inl h)⟩, by show Below 0 w5 w6; exact ⟨h4.os, h4.tape, h4.output, h4.size, fun k hk => absurd hk (Nat.not_lt_zero k)⟩⟩
    · refine relG_plain rfl rfl (fun _ _ h => h) ?_
      intro Ac w5 hp
      have hb := hp.bel
      have a37 : Ac.eval (.tmp 37) = .pointer (some ⟨g, 0, none⟩) := hp.dep 0 (by kernel_rfl)
      have hc := evalC Ac; have hf := evalF Ac; have hgl := evalG Ac
      obtain ⟨ρ, hρ⟩ : ∃ ρ, Ac.eval = ρ := ⟨_, rfl⟩
      rw [hρ] at a37 hc hf hgl
      exact relPure hρ (.pointer (some ⟨g, 0, none⟩)) (by simp [go_sem, hc, hf, hgl, ↓IntWalk.iteOmega, a37, *]) rfl
    · refine relG_plain rfl rfl (fun _ _ h => h) ?_
      intro Ac w5 hp
      have hb := hp.bel
      have a45 : Ac.eval (.tmp 45) = .pointer (some ⟨g, 0, none⟩) := hp.dep 8 (by kernel_rfl)
      have hc := evalC Ac; have hf := evalF Ac; have hgl := evalG Ac
      obtain ⟨ρ, hρ⟩ : ∃ ρ, Ac.eval = ρ := ⟨_, rfl⟩
      rw [hρ] at a45 hc hf hgl
      exact relPure hρ (.pointer (some ⟨g, 0, none⟩)) (by simp [go_sem, hc, hf, hgl, ↓IntWalk.iteOmega, a45, *]) rfl
    intro u w9 hb7 hall
    obtain ⟨t44, e44, h44a, h44b, h44c, h44d⟩ := relAll_at hall (i := 7) (by decide +kernel)
    change u 7 = _ at e44
    have e46 : u 9 = .pointer (some ⟨g, 0, none⟩) := relAll_at hall (i := 9) (by decide +kernel)
    clear hall
    simp only [List.drop_succ_cons, List.drop_zero, List.take_succ_cons, List.take_zero, putAll, Act.put, List.setIfInBounds_toArray, List.set_cons_zero, List.set_cons_succ, Nat.zero_add, Nat.reduceAdd, e44, e46]
    clear yp
    have hgl := HG.out.lt
    have HG9 := hide (chg_blk h44d HG2.out HgB.out)
    have hg44 : g ∉ trB t44 := fun h => (h44c g h).elim HgB.out (fun h => by have := HB2.out.size; omega)
    obtain ⟨q44, hq44⟩ := trPtr_ptr t44
    rw [hq44]
    have zg : w9.cell? ⟨g, 0, none⟩ = some (trPtr t) := HG9.out.cell 0
    have zgf := HG9.out.frozen 0
    have HG10 : Hid (Blk (w9.setCell ⟨g, 0, none⟩ (.pointer q44)) g 222 #[trPtr t44]) := hide (by rw [hq44]; exact HG9.out.set_ 0 _)
    have HC10 : Hid (ChgS (fun k => k = g) w9 (w9.setCell ⟨g, 0, none⟩ (.pointer q44))) := hide (chg_set (S := fun k => k = g) (p := ⟨g, 0, none⟩) rfl _)
    have HT10 := hide (h44b.chg HC10.out (fun k hk e => hg44 (e ▸ hk)) (fun k hF e => HgF.out (e ▸ hF)))
    have HCw : Hid (ChgS (fun k => k = g ∨ k ∈ trB t) w (w9.setCell ⟨g, 0, none⟩ (.pointer q44))) := hide (chg_trans (chg_trans (chg_below (S := fun k => k = g ∨ k ∈ trB t) HB2.out) h44d (fun k h => .inl (.inr h))) HC10.out (fun k h => .inl (.inl h)))
    have HPu := hide h44a
    have HSu := hide (fun k hk => (h44c k hk).imp id (Nat.le_trans HB2.out.size))
    clear hq44 h44a h44b h44c h44d hb7 hg44
    go_wp2
    go_ret2
    exact ⟨rfl, t44, HPu.out, HG10.out, HT10.out, HSu.out, HCw.out⟩
end Go.Proofs.YtcinjckajnnhmaaGreat
