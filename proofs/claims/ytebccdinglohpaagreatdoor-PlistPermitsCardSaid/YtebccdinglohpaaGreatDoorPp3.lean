import Derived.Test.YtebccdinglohpaaGreatDoorPp2
import Derived.WalkKit
import Derived.ProofKit
import Derived.OpenShut
import Derived.Below
import Derived.Laws.OwnMore
import Derived.Laws.Rows
import Derived.Laws.MakeOwn
import Derived.Deep.AppendLies
import Derived.Deep.Draws
import Derived.Deep.OwnRows
import Derived.Deep.QuietTactic
import Derived.Maps.AppendAt
import Derived.RegionTactic
import Derived.OwnWalk
import Derived.ChangeSame
import Derived.Outline
import Derived.BigQuiet
import Derived.WalkMore
import Derived.ScopeJumps
import Derived.WalkLawsBesides
import Derived.WalkSpells
import Derived.Deep.Slices
import Derived.WideKeyArgs
import Derived.Deep.DeepHandedRow
import Derived.Deep.DeepWitnessRowRef
import Derived.Lib.LaidTab
import Derived.Lib.AppendIntMem
import Derived.LaidMore
import Derived.MakeChecks
import Derived.Lib.Itoa
import Derived.Lib.ItoaMem
import Derived.Laws.BitsLemmas
import Derived.Laws.BitsAllLaws
import Derived.Deep.Quiet
import Derived.BigRegion
import Derived.Orders
import Derived.StillTailTactics
import Derived.Lib.PathFns
import Derived.Lib.IndexBytes
import Derived.RangeFuncWrites
import Derived.RangeFuncNested
import Derived.RangeFuncBound
import Derived.RangeFuncCalls
import Derived.RangeFuncLeaves
import Derived.RangeFuncBox
import Derived.Shelf.Abstract
import Derived.Shelf.RegionOpen
import Derived.OwnWalkIn
import Derived.TacticsInMore
import Derived.LoopNIn
import Derived.LoopIn
import Derived.Lib.SmallJoins
import Derived.Lib.ParseIntBCases
import Derived.Lib.IndexMore
import Derived.Shelf.Vars
import Derived.Lib.AtoiAllCases
import Derived.SliceStrings
import Derived.Deep.RegionLaw
import Derived.Sort.LotA
import Derived.BigRegionIn
import Derived.Deep.RegionHeld3
set_option linter.unusedSimpArgs false
set_option linter.unusedVariables false
namespace Go.Proofs.YtebccdinglohpaaGreatDoor
open Go.RowKit Go.WideShapes Go.ChangeShapes
attribute [local go_sem] Oper.semAt_some
/-- The law's state: its boxes, its own list. -/
structure PlSt (w W : World) (s : ByteArray) (A : Option Addr) (n c : Nat) (L : List PR) (x : Nat) (z : Int) : Prop where
  bl : Blk W w.heap.size 41 #[.string s, .slice A n c]
  bp : Blk W (w.heap.size + 1) 44 #[.int .u32 (x : Int), .int .i64 z]
  ls : LstAt 5 prR W A n c L
  env : Env W
  bel : Below w.heap.size w W
theorem PlSt.below {w W W' : World} {s : ByteArray} {A : Option Addr} {n c : Nat} {L : List PR} {x : Nat} {z : Int} (h : PlSt w W s A n c L x z) (hb : Below W.heap.size W W') : PlSt w W' s A n c L x z :=
  ⟨h.bl.below hb h.bl.lt, h.bp.below hb h.bp.lt, h.ls.below prMono hb, h.env.below hb, h.bel.trans (hb.mono h.bel.size)⟩
theorem PlSt.start {w w1 : World} {s : ByteArray} {A A' : Option Addr} {n c n' c' : Nat} {L : List PR} {x : Nat} {z : Int} (he : Env w)
    (hb : Below ((w.alloc (.cells #[.string s, .slice A n c] 41)).alloc (.cells #[.int .u32 (x : Int), .int .i64 z] 44)).heap.size ((w.alloc (.cells #[.string s, .slice A n c] 41)).alloc (.cells #[.int .u32 (x : Int), .int .i64 z] 44)) w1) (hl : LstAt 5 prR w1 A' n' c' L)
    (hab : AboveA ((w.alloc (.cells #[.string s, .slice A n c] 41)).alloc (.cells #[.int .u32 (x : Int), .int .i64 z] 44)).heap.size A') :
    PlSt w ((w1.setCell ⟨w.heap.size, 0, none⟩ (.string s)).setCell ⟨w.heap.size, 1, none⟩ (.slice A' n' c')) s A' n' c' L x z := by
  have hal : Below w.heap.size w ((w.alloc (.cells #[.string s, .slice A n c] 41)).alloc (.cells #[.int .u32 (x : Int), .int .i64 z] 44)) := ((Below.refl w.heap.size w).alloc (Nat.le_refl _) _).alloc (by simp) _
  have hbl : Blk ((w.alloc (.cells #[.string s, .slice A n c] 41)).alloc (.cells #[.int .u32 (x : Int), .int .i64 z] 44)) w.heap.size 41 #[.string s, .slice A n c] := (Blk.new w _ _).alloc _
  have hbp : Blk ((w.alloc (.cells #[.string s, .slice A n c] 41)).alloc (.cells #[.int .u32 (x : Int), .int .i64 z] 44)) (w.heap.size + 1) 44 #[.int .u32 (x : Int), .int .i64 z] := blk_new' _ _ (by simp)
  have hsz : ((w.alloc (.cells #[.string s, .slice A n c] 41)).alloc (.cells #[.int .u32 (x : Int), .int .i64 z] 44)).heap.size = w.heap.size + 2 := by simp
  have hb1 : Below w.heap.size w w1 := hal.trans (hb.mono hal.size)
  have k0 := hbl.below hb hbl.lt
  have k1 := hbp.below hb hbp.lt
  have hset : Below w.heap.size w ((w1.setCell ⟨w.heap.size, 0, none⟩ (.string s)).setCell ⟨w.heap.size, 1, none⟩ (.slice A' n' c')) := (hb1.setCell (p := ⟨w.heap.size, 0, none⟩) (Nat.le_refl _) _).setCell (p := ⟨w.heap.size, 1, none⟩) (Nat.le_refl _) _
  refine ⟨(k0.set_ 0 (.string s)).set_ 1 (.slice A' n' c'), (k1.far (p := ⟨w.heap.size, 0, none⟩) (by simp) _).far (p := ⟨w.heap.size, 1, none⟩) (by simp) _, hl.keepW (fun _ _ h => h) (by simp [World.setCell]) (fun ad i hA => ?_), he.below hset, hset⟩
  have := hab ad hA
  rw [hsz] at this
  rw [World.cell?_setCell_other _ _ _ _ (by rintro e; have := congrArg Addr.block e; simp at this; omega), World.cell?_setCell_other _ _ _ _ (by rintro e; have := congrArg Addr.block e; simp at this; omega)]
theorem idx_cases (p : PR → Bool) (L : List PR) : (idxP p L = -1) ∨ (∃ k : Nat, idxP p L = (k : Int)) := by
  rcases idxP_find p L with ⟨h, _⟩ | ⟨k, _, h, _⟩
  · exact .inl h
  · exact .inr ⟨k, h⟩
set_option maxRecDepth 100000 in
set_option maxHeartbeats 8000000 in
theorem plistPermits_any (s : ByteArray) (A : Option Addr) (n c : Nat) (ts : List PR) (x : Nat) (z : Int) (w : World) (h : LstAt 5 prR w A n c ts) (hs : s.size ≤ maxLen) (hx : PfxOk x z) (he : Env w) :
    Calls Tryz.prog 4 #[.agg #[.string s, .slice A n c], .agg #[.int .u32 (x : Int), .int .i64 z]] w (GoodP true w) := by
  obtain ⟨L, hL⟩ : ∃ L, ts.take 110 = L := ⟨_, rfl⟩
  have HLl : Hid (L.take 110 = L) := hide (by rw [← hL, List.take_take]; rfl)
  have hal : Below w.heap.size w ((w.alloc (.cells #[.string s, .slice A n c] 41)).alloc (.cells #[.int .u32 (x : Int), .int .i64 z] 44)) := ((Below.refl w.heap.size w).alloc (Nat.le_refl _) _).alloc (by simp) _
  have HF0 := hide (pFew_any s A n c ts _ (h.below prMono hal))
  rw [hL] at HF0
  have HE := hide he
  have HX := hide hx
  have HS := hide hs
  have HKl := hide ((Blk.new w 41 #[.string s, .slice A n c]).alloc (.cells #[.int .u32 (x : Int), .int .i64 z] 44))
  have HKp : Hid (Blk ((w.alloc (.cells #[.string s, .slice A n c] 41)).alloc (.cells #[.int .u32 (x : Int), .int .i64 z] 44)) (w.heap.size + 1) 44 #[.int .u32 (x : Int), .int .i64 z]) := hide (blk_new' _ _ (by simp))
  clear h hL hal he hx hs
  have hic := idx_cases (phitP x z) L
  obtain ⟨i, hi⟩ : ∃ i, idxP (phitP x z) L = i := ⟨_, rfl⟩
  rw [hi] at hic
  have HI := hide hi
  clear hi
  rcases hic with rfl | ⟨k, rfl⟩
  all_goals
    go_enter Tryz.func4, Tryz.ntmps4
    go_wp2_with fail
    refine HF0.out.mono ?_
    rintro e w1 ⟨A1, n1, c1, rfl, hl1, hab1, hb1⟩
    have HS1 := hide (PlSt.start HE.out hb1 hl1 hab1)
    have hkl := HKl.out.below hb1 HKl.out.lt
    have hkp := HKp.out.below hb1 HKp.out.lt
    have x0 := hkl.cell 0
    have x1 := hkl.cell 1
    have y0 := hkl.frozen 0
    have y1 := hkl.frozen 1
    have z0 := hkp.cell 0
    have z1 := hkp.cell 1
    have HR1 := hide (refPFirst_any A1 n1 c1 L x z _ HS1.out.ls HX.out)
    rw [HI.out] at HR1
    clear hl1 hab1 hb1 hkl hkp
    go_wp2_with fail
    refine HR1.out.mono ?_
    rintro e w2 ⟨rfl, hb2⟩
    have HS2 := hide (HS1.out.below hb2)
    clear hb2 x0 x1 y0 y1 z0 z1
    go_wp2
  · have HF := hide (fun (W : World) (hb : Below w2.heap.size w2 W) => by have := pFew_any s A1 n1 c1 L W (HS2.out.below hb).ls; rw [HLl.out] at this; exact this)
    have HFi := hide (fun (A : Option Addr) (n c : Nat) (W : World) (h : LstAt 5 prR W A n c L) => by have := pFirst_any s A n c L x z W h HX.out; rw [HI.out, show max (-1 : Int) 0 = 0 by decide, show decide ((0 : Int) ≤ -1) = false by decide] at this; exact this)
    --R3A
    refine wp_region_rel [(fun v _ => v = .agg #[.string s, .slice A1 n1 c1]), (fun v w => ∃ A n c, v = .agg #[.string s, .slice A n c] ∧ LstAt 5 prR w A n c L), (fun v _ => v = .agg #[.int .u32 (x : Int), .int .i64 z]), (fun v _ => v = .tuple #[.int .i64 0, .bool false]), (fun v _ => v = .tuple #[.int .i64 0, .bool false]), (fun v _ => v = .int .i64 0), (fun v _ => v = .bool false), (fun v _ => v = .int .i64 0), (fun v _ => v = .bool false)] (by kernel_rfl) (by kernel_rfl) (relMono _ ⟨fun _ _ _ _ h => h, fun v w w2 hb ⟨A, n, c, e, h⟩ => ⟨A, n, c, e, h.below prMono hb⟩, fun _ _ _ _ h => h, fun _ _ _ _ h => h, fun _ _ _ _ h => h, fun _ _ _ _ h => h, fun _ _ _ _ h => h, fun _ _ _ _ h => h, fun _ _ _ _ h => h, trivial⟩) ⟨?_, ?_, ?_, ?_, ?_, ?_, ?_, ?_, ?_, trivial⟩ ?_
    · refine relStep_plain rfl ?_
      intro A w5 hp
      have hb := hp.bel
      have a2 : A.eval (.tmp 2) = .pointer (some ⟨w.heap.size, 0, none⟩) := hp.out 2 (by rfl)
      have hS := HS2.out.below hb
      have x0 := hS.bl.cell 0
      have x1 := hS.bl.cell 1
      have y0 := hS.bp.cell 0
      have y1 := hS.bp.cell 1
      clear hS
      have hc := evalC A; have hf := evalF A; have hgl := evalG A
      obtain ⟨ρ, hρ⟩ : ∃ ρ, A.eval = ρ := ⟨_, rfl⟩
      rw [hρ] at a2 hc hf hgl
      exact relPure hρ (.agg #[.string s, .slice A1 n1 c1]) (by simp [go_sem, hc, hf, hgl, ↓IntWalk.iteOmega, a2, *]) rfl
    · refine relStep_plain rfl ?_
      intro A w5 hp
      have hb := hp.bel
      have a16 : A.eval (.tmp 16) = .agg #[.string s, .slice A1 n1 c1] := hp.dep 0 (by kernel_rfl)
      have hc := evalC A; have hf := evalF A; have hgl := evalG A
      obtain ⟨ρ, hρ⟩ : ∃ ρ, A.eval = ρ := ⟨_, rfl⟩
      rw [hρ] at a16 hc hf hgl
      refine relCall hρ 18 #[.agg #[.string s, .slice A1 n1 c1]] (by simp [go_sem, hc, hf, hgl, ↓IntWalk.iteOmega, a16, *]) ?_
      refine (HF.out w5 hb).mono ?_
      rintro e w6 ⟨A6, n6, c6, rfl, hl6, _, hb6⟩
      exact ⟨_, rfl, ⟨A6, n6, c6, rfl, hl6⟩, hb6⟩
    · refine relStep_plain rfl ?_
      intro A w5 hp
      have hb := hp.bel
      have a3 : A.eval (.tmp 3) = .pointer (some ⟨w.heap.size + 1, 0, none⟩) := hp.out 3 (by rfl)
      have hS := HS2.out.below hb
      have x0 := hS.bl.cell 0
      have x1 := hS.bl.cell 1
      have y0 := hS.bp.cell 0
      have y1 := hS.bp.cell 1
      clear hS
      have hc := evalC A; have hf := evalF A; have hgl := evalG A
      obtain ⟨ρ, hρ⟩ : ∃ ρ, A.eval = ρ := ⟨_, rfl⟩
      rw [hρ] at a3 hc hf hgl
      exact relPure hρ (.agg #[.int .u32 (x : Int), .int .i64 z]) (by simp [go_sem, hc, hf, hgl, ↓IntWalk.iteOmega, a3, *]) rfl
    · refine relStep_plain rfl ?_
      intro A w5 hp
      have hb := hp.bel
      obtain ⟨A3, n3, c3, a17, hl3⟩ := hp.dep 1 (by kernel_rfl)
      change A.eval (.tmp 17) = _ at a17
      have a18 : A.eval (.tmp 18) = .agg #[.int .u32 (x : Int), .int .i64 z] := hp.dep 2 (by kernel_rfl)
      have hc := evalC A; have hf := evalF A; have hgl := evalG A
      obtain ⟨ρ, hρ⟩ : ∃ ρ, A.eval = ρ := ⟨_, rfl⟩
      rw [hρ] at a17 a18 hc hf hgl
      refine relCall hρ 20 #[.agg #[.string s, .slice A3 n3 c3], .agg #[.int .u32 (x : Int), .int .i64 z]] (by simp [go_sem, hc, hf, hgl, ↓IntWalk.iteOmega, a17, a18, *]) ?_
      refine (HFi.out A3 n3 c3 w5 hl3).mono ?_
      rintro e w6 ⟨rfl, hb6⟩
      exact ⟨_, rfl, rfl, hb6⟩
    · refine relStep_plain rfl ?_
      intro A w5 hp
      have hb := hp.bel
      have a19 : A.eval (.tmp 19) = .tuple #[.int .i64 0, .bool false] := hp.dep 3 (by kernel_rfl)
      have hc := evalC A; have hf := evalF A; have hgl := evalG A
      obtain ⟨ρ, hρ⟩ : ∃ ρ, A.eval = ρ := ⟨_, rfl⟩
      rw [hρ] at a19 hc hf hgl
      exact relPure hρ (.tuple #[.int .i64 0, .bool false]) (by simp [go_sem, hc, hf, hgl, ↓IntWalk.iteOmega, a19, *]) rfl
    · refine relStep_plain rfl ?_
      intro A w5 hp
      have hb := hp.bel
      have a15 : A.eval (.tmp 15) = .tuple #[.int .i64 0, .bool false] := hp.dep 4 (by kernel_rfl)
      have hc := evalC A; have hf := evalF A; have hgl := evalG A
      obtain ⟨ρ, hρ⟩ : ∃ ρ, A.eval = ρ := ⟨_, rfl⟩
      rw [hρ] at a15 hc hf hgl
      exact relPure hρ (.int .i64 0) (by simp [go_sem, hc, hf, hgl, ↓IntWalk.iteOmega, a15, *]) rfl
    · refine relStep_plain rfl ?_
      intro A w5 hp
      have hb := hp.bel
      have a15 : A.eval (.tmp 15) = .tuple #[.int .i64 0, .bool false] := hp.dep 4 (by kernel_rfl)
      have hc := evalC A; have hf := evalF A; have hgl := evalG A
      obtain ⟨ρ, hρ⟩ : ∃ ρ, A.eval = ρ := ⟨_, rfl⟩
      rw [hρ] at a15 hc hf hgl
      exact relPure hρ (.bool false) (by simp [go_sem, hc, hf, hgl, ↓IntWalk.iteOmega, a15, *]) rfl
    · refine relStep_plain rfl ?_
      intro A w5 hp
      have hb := hp.bel
      have a20 : A.eval (.tmp 20) = .int .i64 0 := hp.dep 5 (by kernel_rfl)
      have hc := evalC A; have hf := evalF A; have hgl := evalG A
      obtain ⟨ρ, hρ⟩ : ∃ ρ, A.eval = ρ := ⟨_, rfl⟩
      rw [hρ] at a20 hc hf hgl
      exact relPure hρ (.int .i64 0) (by simp [go_sem, hc, hf, hgl, ↓IntWalk.iteOmega, a20, *]) rfl
    · refine relStep_plain rfl ?_
      intro A w5 hp
      have hb := hp.bel
      have a21 : A.eval (.tmp 21) = .bool false := hp.dep 6 (by kernel_rfl)
      have hc := evalC A; have hf := evalF A; have hgl := evalG A
      obtain ⟨ρ, hρ⟩ : ∃ ρ, A.eval = ρ := ⟨_, rfl⟩
      rw [hρ] at a21 hc hf hgl
      exact relPure hρ (.bool false) (by simp [go_sem, hc, hf, hgl, ↓IntWalk.iteOmega, a21, *]) rfl
    intro u w3 hb7 hall
    have e6 : u 7 = .int .i64 0 := relAll_at hall (i := 7) (by decide +kernel)
    have e7 : u 8 = .bool false := relAll_at hall (i := 8) (by decide +kernel)
    clear hall
    simp only [List.drop_succ_cons, List.drop_zero, List.take_succ_cons, List.take_zero, putAll, Act.put, List.setIfInBounds_toArray, List.set_cons_zero, List.set_cons_succ, Nat.zero_add, Nat.reduceAdd, e6, e7]
    --E3A
    have HS3 := hide (HS2.out.below hb7)
    clear hb7 e6 e7
    clear HF HFi
    have HF := hide (fun (W : World) (hb : Below w3.heap.size w3 W) => by have := pFew_any s A1 n1 c1 L W (HS3.out.below hb).ls; rw [HLl.out] at this; exact this)
    have HG := hide (fun (A : Option Addr) (n c : Nat) (W : World) (h : LstAt 5 prR W A n c L) => pGood_any s A n c L W h HS.out)
    have HRG := hide (fun (W : World) (hb : Below w3.heap.size w3 W) => refPGood_any s A1 n1 c1 L W (HS3.out.below hb).ls HS.out)
    have HPm := hide (fun (A : Option Addr) (n c : Nat) (W : World) (h : LstAt 5 prR W A n c L) => pPermits_any s A n c L x z W h HX.out)
    have HRP := hide (fun (W : World) (hb : Below w3.heap.size w3 W) => refPPermits_any s A1 n1 c1 L x z W (HS3.out.below hb).ls HX.out)
    obtain ⟨G, hG⟩ : ∃ G, pgoodL s L = G := ⟨_, rfl⟩
    obtain ⟨Pm, hPm⟩ : ∃ Pm, prPerm (phitP x z) L = Pm := ⟨_, rfl⟩
    rw [hG] at HG HRG
    rw [hPm] at HPm HRP
    clear hG hPm
    go_wp2_with fail
    --R4A
    refine wp_region_rel [(fun v _ => v = .agg #[.string s, .slice A1 n1 c1]), (fun v w => ∃ A n c, v = .agg #[.string s, .slice A n c] ∧ LstAt 5 prR w A n c L), (fun v _ => v = .bool G), (fun v _ => v = .agg #[.string s, .slice A1 n1 c1]), (fun v _ => v = .bool G), (fun v _ => v = .bool false), (fun v _ => v = .bool false), (fun v _ => v = .agg #[.string s, .slice A1 n1 c1]), (fun v w => ∃ A n c, v = .agg #[.string s, .slice A n c] ∧ LstAt 5 prR w A n c L), (fun v _ => v = .agg #[.int .u32 (x : Int), .int .i64 z]), (fun v _ => v = .bool Pm), (fun v _ => v = .agg #[.string s, .slice A1 n1 c1]), (fun v _ => v = .agg #[.int .u32 (x : Int), .int .i64 z]), (fun v _ => v = .bool Pm), (fun v _ => v = .bool false), (fun v _ => v = .bool false), (fun v _ => v = .bool false), (fun v _ => v = .bool false), (fun v _ => v = .int .i64 (-1)), (fun v _ => v = .bool false), (fun v _ => v = .bool false), (fun v _ => v = .bool false), (fun v _ => v = .bool false), (fun v _ => v = .bool false), (fun v _ => v = .bool false), (fun _ _ => True), (fun _ _ => True), (fun _ _ => True), (fun v _ => v = .bool false), (fun v _ => v = .bool false), (fun v _ => v = .bool false), (fun v _ => v = .bool false), (fun v _ => v = .bool true), (fun v _ => v = .bool true), (fun v _ => v = .int .i64 0), (fun v _ => v = .bool false), (fun v _ => v = .bool false), (fun v _ => v = .bool false)] (by kernel_rfl) (by kernel_rfl) (relMono _ ⟨fun _ _ _ _ h => h, fun v w w2 hb ⟨A, n, c, e, h⟩ => ⟨A, n, c, e, h.below prMono hb⟩, fun _ _ _ _ h => h, fun _ _ _ _ h => h, fun _ _ _ _ h => h, fun _ _ _ _ h => h, fun _ _ _ _ h => h, fun _ _ _ _ h => h, fun v w w2 hb ⟨A, n, c, e, h⟩ => ⟨A, n, c, e, h.below prMono hb⟩, fun _ _ _ _ h => h, fun _ _ _ _ h => h, fun _ _ _ _ h => h, fun _ _ _ _ h => h, fun _ _ _ _ h => h, fun _ _ _ _ h => h, fun _ _ _ _ h => h, fun _ _ _ _ h => h, fun _ _ _ _ h => h, fun _ _ _ _ h => h, fun _ _ _ _ h => h, fun _ _ _ _ h => h, fun _ _ _ _ h => h, fun _ _ _ _ h => h, fun _ _ _ _ h => h, fun _ _ _ _ h => h, fun _ _ _ _ _ => trivial, fun _ _ _ _ _ => trivial, fun _ _ _ _ _ => trivial, fun _ _ _ _ h => h, fun _ _ _ _ h => h, fun _ _ _ _ h => h, fun _ _ _ _ h => h, fun _ _ _ _ h => h, fun _ _ _ _ h => h, fun _ _ _ _ h => h, fun _ _ _ _ h => h, fun _ _ _ _ h => h, fun _ _ _ _ h => h, trivial⟩) ⟨?_, ?_, ?_, ?_, ?_, ?_, ?_, ?_, ?_, ?_, ?_, ?_, ?_, ?_, ?_, ?_, ?_, ?_, ?_, ?_, ?_, ?_, ?_, ?_, ?_, ?_, ?_, ?_, ?_, ?_, ?_, ?_, ?_, ?_, ?_, ?_, ?_, ?_, trivial⟩ ?_
    · refine relStep_plain rfl ?_
      intro A w5 hp
      have hb := hp.bel
      have a2 : A.eval (.tmp 2) = .pointer (some ⟨w.heap.size, 0, none⟩) := hp.out 2 (by rfl)
      have hS := HS3.out.below hb
      have x0 := hS.bl.cell 0
      have x1 := hS.bl.cell 1
      have y0 := hS.bp.cell 0
      have y1 := hS.bp.cell 1
      clear hS
      have hc := evalC A; have hf := evalF A; have hgl := evalG A
      obtain ⟨ρ, hρ⟩ : ∃ ρ, A.eval = ρ := ⟨_, rfl⟩
      rw [hρ] at a2 hc hf hgl
      exact relPure hρ (.agg #[.string s, .slice A1 n1 c1]) (by simp [go_sem, hc, hf, hgl, ↓IntWalk.iteOmega, a2, *]) rfl
    · refine relStep_plain rfl ?_
      intro A w5 hp
      have hb := hp.bel
      have a22 : A.eval (.tmp 22) = .agg #[.string s, .slice A1 n1 c1] := hp.dep 0 (by kernel_rfl)
      have hc := evalC A; have hf := evalF A; have hgl := evalG A
      obtain ⟨ρ, hρ⟩ : ∃ ρ, A.eval = ρ := ⟨_, rfl⟩
      rw [hρ] at a22 hc hf hgl
      refine relCall hρ 18 #[.agg #[.string s, .slice A1 n1 c1]] (by simp [go_sem, hc, hf, hgl, ↓IntWalk.iteOmega, a22, *]) ?_
      refine (HF.out w5 hb).mono ?_
      rintro e w6 ⟨A6, n6, c6, rfl, hl6, _, hb6⟩
      exact ⟨_, rfl, ⟨A6, n6, c6, rfl, hl6⟩, hb6⟩
    · refine relStep_plain rfl ?_
      intro A w5 hp
      have hb := hp.bel
      obtain ⟨A3, n3, c3, a23, hl3⟩ := hp.dep 1 (by kernel_rfl)
      change A.eval (.tmp 23) = _ at a23
      have hc := evalC A; have hf := evalF A; have hgl := evalG A
      obtain ⟨ρ, hρ⟩ : ∃ ρ, A.eval = ρ := ⟨_, rfl⟩
      rw [hρ] at a23 hc hf hgl
      refine relCall hρ 21 #[.agg #[.string s, .slice A3 n3 c3]] (by simp [go_sem, hc, hf, hgl, ↓IntWalk.iteOmega, a23, *]) ?_
      refine (HG.out A3 n3 c3 w5 hl3).mono ?_
      rintro e w6 ⟨rfl, hb6⟩
      exact ⟨_, rfl, rfl, hb6⟩
    · refine relStep_plain rfl ?_
      intro A w5 hp
      have hb := hp.bel
      have a2 : A.eval (.tmp 2) = .pointer (some ⟨w.heap.size, 0, none⟩) := hp.out 2 (by rfl)
      have hS := HS3.out.below hb
      have x0 := hS.bl.cell 0
      have x1 := hS.bl.cell 1
      have y0 := hS.bp.cell 0
      have y1 := hS.bp.cell 1
      clear hS
      have hc := evalC A; have hf := evalF A; have hgl := evalG A
      obtain ⟨ρ, hρ⟩ : ∃ ρ, A.eval = ρ := ⟨_, rfl⟩
      rw [hρ] at a2 hc hf hgl
      exact relPure hρ (.agg #[.string s, .slice A1 n1 c1]) (by simp [go_sem, hc, hf, hgl, ↓IntWalk.iteOmega, a2, *]) rfl
    · refine relStep_plain rfl ?_
      intro A w5 hp
      have hb := hp.bel
      have a25 : A.eval (.tmp 25) = .agg #[.string s, .slice A1 n1 c1] := hp.dep 3 (by kernel_rfl)
      have hc := evalC A; have hf := evalF A; have hgl := evalG A
      obtain ⟨ρ, hρ⟩ : ∃ ρ, A.eval = ρ := ⟨_, rfl⟩
      rw [hρ] at a25 hc hf hgl
      refine relCall hρ 22 #[.agg #[.string s, .slice A1 n1 c1]] (by simp [go_sem, hc, hf, hgl, ↓IntWalk.iteOmega, a25, *]) ?_
      refine (HRG.out w5 hb).mono ?_
      rintro e w6 ⟨rfl, hb6⟩
      exact ⟨_, rfl, rfl, hb6⟩
    · refine relStep_plain rfl ?_
      intro A w5 hp
      have hb := hp.bel
      have a24 : A.eval (.tmp 24) = .bool G := hp.dep 2 (by kernel_rfl)
      have a26 : A.eval (.tmp 26) = .bool G := hp.dep 4 (by kernel_rfl)
      have hc := evalC A; have hf := evalF A; have hgl := evalG A
      obtain ⟨ρ, hρ⟩ : ∃ ρ, A.eval = ρ := ⟨_, rfl⟩
      rw [hρ] at a24 a26 hc hf hgl
      exact relPure hρ (.bool false) (by simp [go_sem, hc, hf, hgl, ↓IntWalk.iteOmega, a24, a26, *]) rfl
    · refine relStep_plain rfl ?_
      intro A w5 hp
      have hb := hp.bel
      have a27 : A.eval (.tmp 27) = .bool false := hp.dep 5 (by kernel_rfl)
      have hc := evalC A; have hf := evalF A; have hgl := evalG A
      obtain ⟨ρ, hρ⟩ : ∃ ρ, A.eval = ρ := ⟨_, rfl⟩
      rw [hρ] at a27 hc hf hgl
      exact relPure hρ (.bool false) (by simp [go_sem, hc, hf, hgl, ↓IntWalk.iteOmega, a27, *]) rfl
    · refine relStep_guard (g := 6) (b := false) (x := false) rfl (by kernel_rfl) rfl (by kernel_rfl) rfl (fun _ _ h => h) ?_
      intro A w5 hp
      have hb := hp.bel
      have a2 : A.eval (.tmp 2) = .pointer (some ⟨w.heap.size, 0, none⟩) := hp.out 2 (by rfl)
      have hS := HS3.out.below hb
      have x0 := hS.bl.cell 0
      have x1 := hS.bl.cell 1
      have y0 := hS.bp.cell 0
      have y1 := hS.bp.cell 1
      clear hS
      have hc := evalC A; have hf := evalF A; have hgl := evalG A
      obtain ⟨ρ, hρ⟩ : ∃ ρ, A.eval = ρ := ⟨_, rfl⟩
      rw [hρ] at a2 hc hf hgl
      exact relPure hρ (.agg #[.string s, .slice A1 n1 c1]) (by simp [go_sem, hc, hf, hgl, ↓IntWalk.iteOmega, a2, *]) rfl
    · refine relStep_guard (g := 6) (b := false) (x := false) rfl (by kernel_rfl) rfl (by kernel_rfl) rfl (fun _ _ h => h) ?_
      intro A w5 hp
      have hb := hp.bel
      have a29 : A.eval (.tmp 29) = .agg #[.string s, .slice A1 n1 c1] := hp.dep 7 (by kernel_rfl)
      have hc := evalC A; have hf := evalF A; have hgl := evalG A
      obtain ⟨ρ, hρ⟩ : ∃ ρ, A.eval = ρ := ⟨_, rfl⟩
      rw [hρ] at a29 hc hf hgl
      refine relCall hρ 18 #[.agg #[.string s, .slice A1 n1 c1]] (by simp [go_sem, hc, hf, hgl, ↓IntWalk.iteOmega, a29, *]) ?_
      refine (HF.out w5 hb).mono ?_
      rintro e w6 ⟨A6, n6, c6, rfl, hl6, _, hb6⟩
      exact ⟨_, rfl, ⟨A6, n6, c6, rfl, hl6⟩, hb6⟩
    · refine relStep_guard (g := 6) (b := false) (x := false) rfl (by kernel_rfl) rfl (by kernel_rfl) rfl (fun _ _ h => h) ?_
      intro A w5 hp
      have hb := hp.bel
      have a3 : A.eval (.tmp 3) = .pointer (some ⟨w.heap.size + 1, 0, none⟩) := hp.out 3 (by rfl)
      have hS := HS3.out.below hb
      have x0 := hS.bl.cell 0
      have x1 := hS.bl.cell 1
      have y0 := hS.bp.cell 0
      have y1 := hS.bp.cell 1
      clear hS
      have hc := evalC A; have hf := evalF A; have hgl := evalG A
      obtain ⟨ρ, hρ⟩ : ∃ ρ, A.eval = ρ := ⟨_, rfl⟩
      rw [hρ] at a3 hc hf hgl
      exact relPure hρ (.agg #[.int .u32 (x : Int), .int .i64 z]) (by simp [go_sem, hc, hf, hgl, ↓IntWalk.iteOmega, a3, *]) rfl
    · refine relStep_guard (g := 6) (b := false) (x := false) rfl (by kernel_rfl) rfl (by kernel_rfl) rfl (fun _ _ h => h) ?_
      intro A w5 hp
      have hb := hp.bel
      obtain ⟨A4, n4, c4, a30, hl4⟩ := hp.dep 8 (by kernel_rfl)
      change A.eval (.tmp 30) = _ at a30
      have a31 : A.eval (.tmp 31) = .agg #[.int .u32 (x : Int), .int .i64 z] := hp.dep 9 (by kernel_rfl)
      have hc := evalC A; have hf := evalF A; have hgl := evalG A
      obtain ⟨ρ, hρ⟩ : ∃ ρ, A.eval = ρ := ⟨_, rfl⟩
      rw [hρ] at a30 a31 hc hf hgl
      refine relCall hρ 23 #[.agg #[.string s, .slice A4 n4 c4], .agg #[.int .u32 (x : Int), .int .i64 z]] (by simp [go_sem, hc, hf, hgl, ↓IntWalk.iteOmega, a30, a31, *]) ?_
      refine (HPm.out A4 n4 c4 w5 hl4).mono ?_
      rintro e w6 ⟨rfl, hb6⟩
      exact ⟨_, rfl, rfl, hb6⟩
    · refine relStep_guard (g := 6) (b := false) (x := false) rfl (by kernel_rfl) rfl (by kernel_rfl) rfl (fun _ _ h => h) ?_
      intro A w5 hp
      have hb := hp.bel
      have a2 : A.eval (.tmp 2) = .pointer (some ⟨w.heap.size, 0, none⟩) := hp.out 2 (by rfl)
      have hS := HS3.out.below hb
      have x0 := hS.bl.cell 0
      have x1 := hS.bl.cell 1
      have y0 := hS.bp.cell 0
      have y1 := hS.bp.cell 1
      clear hS
      have hc := evalC A; have hf := evalF A; have hgl := evalG A
      obtain ⟨ρ, hρ⟩ : ∃ ρ, A.eval = ρ := ⟨_, rfl⟩
      rw [hρ] at a2 hc hf hgl
      exact relPure hρ (.agg #[.string s, .slice A1 n1 c1]) (by simp [go_sem, hc, hf, hgl, ↓IntWalk.iteOmega, a2, *]) rfl
    · refine relStep_guard (g := 6) (b := false) (x := false) rfl (by kernel_rfl) rfl (by kernel_rfl) rfl (fun _ _ h => h) ?_
      intro A w5 hp
      have hb := hp.bel
      have a3 : A.eval (.tmp 3) = .pointer (some ⟨w.heap.size + 1, 0, none⟩) := hp.out 3 (by rfl)
      have hS := HS3.out.below hb
      have x0 := hS.bl.cell 0
      have x1 := hS.bl.cell 1
      have y0 := hS.bp.cell 0
      have y1 := hS.bp.cell 1
      clear hS
      have hc := evalC A; have hf := evalF A; have hgl := evalG A
      obtain ⟨ρ, hρ⟩ : ∃ ρ, A.eval = ρ := ⟨_, rfl⟩
      rw [hρ] at a3 hc hf hgl
      exact relPure hρ (.agg #[.int .u32 (x : Int), .int .i64 z]) (by simp [go_sem, hc, hf, hgl, ↓IntWalk.iteOmega, a3, *]) rfl
    · refine relStep_guard (g := 6) (b := false) (x := false) rfl (by kernel_rfl) rfl (by kernel_rfl) rfl (fun _ _ h => h) ?_
      intro A w5 hp
      have hb := hp.bel
      have a33 : A.eval (.tmp 33) = .agg #[.string s, .slice A1 n1 c1] := hp.dep 11 (by kernel_rfl)
      have a34 : A.eval (.tmp 34) = .agg #[.int .u32 (x : Int), .int .i64 z] := hp.dep 12 (by kernel_rfl)
      have hc := evalC A; have hf := evalF A; have hgl := evalG A
      obtain ⟨ρ, hρ⟩ : ∃ ρ, A.eval = ρ := ⟨_, rfl⟩
      rw [hρ] at a33 a34 hc hf hgl
      refine relCall hρ 24 #[.agg #[.string s, .slice A1 n1 c1], .agg #[.int .u32 (x : Int), .int .i64 z]] (by simp [go_sem, hc, hf, hgl, ↓IntWalk.iteOmega, a33, a34, *]) ?_
      refine (HRP.out w5 hb).mono ?_
      rintro e w6 ⟨rfl, hb6⟩
      exact ⟨_, rfl, rfl, hb6⟩
    · refine relStep_guard (g := 6) (b := false) (x := false) rfl (by kernel_rfl) rfl (by kernel_rfl) rfl (fun _ _ h => h) ?_
      intro A w5 hp
      have hb := hp.bel
      have a32 : A.eval (.tmp 32) = .bool Pm := hp.dep 10 (by kernel_rfl)
      have a35 : A.eval (.tmp 35) = .bool Pm := hp.dep 13 (by kernel_rfl)
      have hc := evalC A; have hf := evalF A; have hgl := evalG A
      obtain ⟨ρ, hρ⟩ : ∃ ρ, A.eval = ρ := ⟨_, rfl⟩
      rw [hρ] at a32 a35 hc hf hgl
      exact relPure hρ (.bool false) (by simp [go_sem, hc, hf, hgl, ↓IntWalk.iteOmega, a32, a35, *]) rfl
    · refine relStep_plain rfl ?_
      intro A w5 hp
      have hb := hp.bel
      have a28 : A.eval (.tmp 28) = .bool false := hp.dep 6 (by kernel_rfl)
      have a36 : A.eval (.tmp 36) = .bool false := hp.dep 14 (by kernel_rfl)
      have hc := evalC A; have hf := evalF A; have hgl := evalG A
      obtain ⟨ρ, hρ⟩ : ∃ ρ, A.eval = ρ := ⟨_, rfl⟩
      rw [hρ] at a28 a36 hc hf hgl
      exact relPure hρ (.bool false) (by simp [go_sem, hc, hf, hgl, ↓IntWalk.iteOmega, a28, a36, *]) rfl
    · refine relStep_plain rfl ?_
      intro A w5 hp
      have hb := hp.bel
      have a37 : A.eval (.tmp 37) = .bool false := hp.dep 15 (by kernel_rfl)
      have hc := evalC A; have hf := evalF A; have hgl := evalG A
      obtain ⟨ρ, hρ⟩ : ∃ ρ, A.eval = ρ := ⟨_, rfl⟩
      rw [hρ] at a37 hc hf hgl
      exact relPure hρ (.bool false) (by simp [go_sem, hc, hf, hgl, ↓IntWalk.iteOmega, a37, *]) rfl
    · refine relStep_guard (g := 16) (b := false) (x := false) rfl (by kernel_rfl) rfl (by kernel_rfl) rfl (fun _ _ h => h) ?_
      intro A w5 hp
      have hb := hp.bel
      have a7 : A.eval (.tmp 7) = .bool false := hp.out 7 (by rfl)
      have hc := evalC A; have hf := evalF A; have hgl := evalG A
      obtain ⟨ρ, hρ⟩ : ∃ ρ, A.eval = ρ := ⟨_, rfl⟩
      rw [hρ] at a7 hc hf hgl
      exact relPure hρ (.bool false) (by simp [go_sem, hc, hf, hgl, ↓IntWalk.iteOmega, a7, *]) rfl
    · refine relStep_guard (g := 16) (b := false) (x := false) rfl (by kernel_rfl) rfl (by kernel_rfl) rfl (fun _ _ h => h) ?_
      intro A w5 hp
      have hb := hp.bel
      have a5 : A.eval (.tmp 5) = .int .i64 (-1) := hp.out 5 (by rfl)
      have hc := evalC A; have hf := evalF A; have hgl := evalG A
      obtain ⟨ρ, hρ⟩ : ∃ ρ, A.eval = ρ := ⟨_, rfl⟩
      rw [hρ] at a5 hc hf hgl
      exact relPure hρ (.int .i64 (-1)) (by simp [go_sem, hc, hf, hgl, ↓IntWalk.iteOmega, a5, *]) rfl
    · refine relStep_guard (g := 16) (b := false) (x := false) rfl (by kernel_rfl) rfl (by kernel_rfl) rfl (fun _ _ h => h) ?_
      intro A w5 hp
      have hb := hp.bel
      have a40 : A.eval (.tmp 40) = .int .i64 (-1) := hp.dep 18 (by kernel_rfl)
      have hc := evalC A; have hf := evalF A; have hgl := evalG A
      obtain ⟨ρ, hρ⟩ : ∃ ρ, A.eval = ρ := ⟨_, rfl⟩
      rw [hρ] at a40 hc hf hgl
      exact relPure hρ (.bool false) (by simp [go_sem, hc, hf, hgl, ↓IntWalk.iteOmega, a40, *]) rfl
    · refine relStep_guard (g := 16) (b := false) (x := false) rfl (by kernel_rfl) rfl (by kernel_rfl) rfl (fun _ _ h => h) ?_
      intro A w5 hp
      have hb := hp.bel
      have a39 : A.eval (.tmp 39) = .bool false := hp.dep 17 (by kernel_rfl)
      have a41 : A.eval (.tmp 41) = .bool false := hp.dep 19 (by kernel_rfl)
      have hc := evalC A; have hf := evalF A; have hgl := evalG A
      obtain ⟨ρ, hρ⟩ : ∃ ρ, A.eval = ρ := ⟨_, rfl⟩
      rw [hρ] at a39 a41 hc hf hgl
      exact relPure hρ (.bool false) (by simp [go_sem, hc, hf, hgl, ↓IntWalk.iteOmega, a39, a41, *]) rfl
    · refine relStep_plain rfl ?_
      intro A w5 hp
      have hb := hp.bel
      have a38 : A.eval (.tmp 38) = .bool false := hp.dep 16 (by kernel_rfl)
      have a42 : A.eval (.tmp 42) = .bool false := hp.dep 20 (by kernel_rfl)
      have hc := evalC A; have hf := evalF A; have hgl := evalG A
      obtain ⟨ρ, hρ⟩ : ∃ ρ, A.eval = ρ := ⟨_, rfl⟩
      rw [hρ] at a38 a42 hc hf hgl
      exact relPure hρ (.bool false) (by simp [go_sem, hc, hf, hgl, ↓IntWalk.iteOmega, a38, a42, *]) rfl
    · refine relStep_plain rfl ?_
      intro A w5 hp
      have hb := hp.bel
      have a43 : A.eval (.tmp 43) = .bool false := hp.dep 21 (by kernel_rfl)
      have hc := evalC A; have hf := evalF A; have hgl := evalG A
      obtain ⟨ρ, hρ⟩ : ∃ ρ, A.eval = ρ := ⟨_, rfl⟩
      rw [hρ] at a43 hc hf hgl
      exact relPure hρ (.bool false) (by simp [go_sem, hc, hf, hgl, ↓IntWalk.iteOmega, a43, *]) rfl
    · refine relStep_guard (g := 22) (b := false) (x := false) rfl (by kernel_rfl) rfl (by kernel_rfl) rfl (fun _ _ h => h) ?_
      intro A w5 hp
      have hb := hp.bel
      have a7 : A.eval (.tmp 7) = .bool false := hp.out 7 (by rfl)
      have hc := evalC A; have hf := evalF A; have hgl := evalG A
      obtain ⟨ρ, hρ⟩ : ∃ ρ, A.eval = ρ := ⟨_, rfl⟩
      rw [hρ] at a7 hc hf hgl
      exact relPure hρ (.bool false) (by simp [go_sem, hc, hf, hgl, ↓IntWalk.iteOmega, a7, *]) rfl
    · refine relStep_guard (g := 22) (b := false) (x := false) rfl (by kernel_rfl) rfl (by kernel_rfl) rfl (fun _ _ h => h) ?_
      intro A w5 hp
      have hb := hp.bel
      have a45 : A.eval (.tmp 45) = .bool false := hp.dep 23 (by kernel_rfl)
      have hc := evalC A; have hf := evalF A; have hgl := evalG A
      obtain ⟨ρ, hρ⟩ : ∃ ρ, A.eval = ρ := ⟨_, rfl⟩
      rw [hρ] at a45 hc hf hgl
      exact relPure hρ (.bool false) (by simp [go_sem, hc, hf, hgl, ↓IntWalk.iteOmega, a45, *]) rfl
    · refine relStep_guard (g := 24) (b := true) (x := false) rfl (by kernel_rfl) rfl (by kernel_rfl) rfl (fun _ _ h => h) ?_
      exact fun _ => trivial
    · refine relStep_guard (g := 24) (b := true) (x := false) rfl (by kernel_rfl) rfl (by kernel_rfl) rfl (fun _ _ h => h) ?_
      exact fun _ => trivial
    · refine relStep_guard (g := 24) (b := true) (x := false) rfl (by kernel_rfl) rfl (by kernel_rfl) rfl (fun _ _ h => h) ?_
      exact fun _ => trivial
    · refine relStep_guard (g := 22) (b := false) (x := false) rfl (by kernel_rfl) rfl (by kernel_rfl) rfl (fun _ _ h => h) ?_
      intro A w5 hp
      have hb := hp.bel
      have a46 : A.eval (.tmp 46) = .bool false := hp.dep 24 (by kernel_rfl)
      have hc := evalC A; have hf := evalF A; have hgl := evalG A
      obtain ⟨ρ, hρ⟩ : ∃ ρ, A.eval = ρ := ⟨_, rfl⟩
      rw [hρ] at a46 hc hf hgl
      exact relPure hρ (.bool false) (by simp [go_sem, hc, hf, hgl, ↓IntWalk.iteOmega, a46, *]) rfl
    · refine relStep_plain rfl ?_
      intro A w5 hp
      have hb := hp.bel
      have a44 : A.eval (.tmp 44) = .bool false := hp.dep 22 (by kernel_rfl)
      have a50 : A.eval (.tmp 50) = .bool false := hp.dep 28 (by kernel_rfl)
      have hc := evalC A; have hf := evalF A; have hgl := evalG A
      obtain ⟨ρ, hρ⟩ : ∃ ρ, A.eval = ρ := ⟨_, rfl⟩
      rw [hρ] at a44 a50 hc hf hgl
      exact relPure hρ (.bool false) (by simp [go_sem, hc, hf, hgl, ↓IntWalk.iteOmega, a44, a50, *]) rfl
    · refine relStep_plain rfl ?_
      intro A w5 hp
      have hb := hp.bel
      have a51 : A.eval (.tmp 51) = .bool false := hp.dep 29 (by kernel_rfl)
      have hc := evalC A; have hf := evalF A; have hgl := evalG A
      obtain ⟨ρ, hρ⟩ : ∃ ρ, A.eval = ρ := ⟨_, rfl⟩
      rw [hρ] at a51 hc hf hgl
      exact relPure hρ (.bool false) (by simp [go_sem, hc, hf, hgl, ↓IntWalk.iteOmega, a51, *]) rfl
    · refine relStep_guard (g := 30) (b := false) (x := false) rfl (by kernel_rfl) rfl (by kernel_rfl) rfl (fun _ _ h => h) ?_
      intro A w5 hp
      have hb := hp.bel
      have a7 : A.eval (.tmp 7) = .bool false := hp.out 7 (by rfl)
      have hc := evalC A; have hf := evalF A; have hgl := evalG A
      obtain ⟨ρ, hρ⟩ : ∃ ρ, A.eval = ρ := ⟨_, rfl⟩
      rw [hρ] at a7 hc hf hgl
      exact relPure hρ (.bool false) (by simp [go_sem, hc, hf, hgl, ↓IntWalk.iteOmega, a7, *]) rfl
    · refine relStep_guard (g := 30) (b := false) (x := false) rfl (by kernel_rfl) rfl (by kernel_rfl) rfl (fun _ _ h => h) ?_
      intro A w5 hp
      have hb := hp.bel
      have a53 : A.eval (.tmp 53) = .bool false := hp.dep 31 (by kernel_rfl)
      have hc := evalC A; have hf := evalF A; have hgl := evalG A
      obtain ⟨ρ, hρ⟩ : ∃ ρ, A.eval = ρ := ⟨_, rfl⟩
      rw [hρ] at a53 hc hf hgl
      exact relPure hρ (.bool true) (by simp [go_sem, hc, hf, hgl, ↓IntWalk.iteOmega, a53, *]) rfl
    · refine relStep_guard (g := 30) (b := false) (x := false) rfl (by kernel_rfl) rfl (by kernel_rfl) rfl (fun _ _ h => h) ?_
      intro A w5 hp
      have hb := hp.bel
      have a54 : A.eval (.tmp 54) = .bool true := hp.dep 32 (by kernel_rfl)
      have hc := evalC A; have hf := evalF A; have hgl := evalG A
      obtain ⟨ρ, hρ⟩ : ∃ ρ, A.eval = ρ := ⟨_, rfl⟩
      rw [hρ] at a54 hc hf hgl
      exact relPure hρ (.bool true) (by simp [go_sem, hc, hf, hgl, ↓IntWalk.iteOmega, a54, *]) rfl
    · refine relStep_guard (g := 33) (b := true) (x := true) rfl (by kernel_rfl) rfl (by kernel_rfl) rfl (fun _ _ h => h) ?_
      intro A w5 hp
      have hb := hp.bel
      have a6 : A.eval (.tmp 6) = .int .i64 0 := hp.out 6 (by rfl)
      have hc := evalC A; have hf := evalF A; have hgl := evalG A
      obtain ⟨ρ, hρ⟩ : ∃ ρ, A.eval = ρ := ⟨_, rfl⟩
      rw [hρ] at a6 hc hf hgl
      exact relPure hρ (.int .i64 0) (by simp [go_sem, hc, hf, hgl, ↓IntWalk.iteOmega, a6, *]) rfl
    · refine relStep_guard (g := 33) (b := true) (x := true) rfl (by kernel_rfl) rfl (by kernel_rfl) rfl (fun _ _ h => h) ?_
      intro A w5 hp
      have hb := hp.bel
      have a56 : A.eval (.tmp 56) = .int .i64 0 := hp.dep 34 (by kernel_rfl)
      have hc := evalC A; have hf := evalF A; have hgl := evalG A
      obtain ⟨ρ, hρ⟩ : ∃ ρ, A.eval = ρ := ⟨_, rfl⟩
      rw [hρ] at a56 hc hf hgl
      exact relPure hρ (.bool false) (by simp [go_sem, hc, hf, hgl, ↓IntWalk.iteOmega, a56, *]) rfl
    · refine relStep_guard (g := 30) (b := false) (x := false) rfl (by kernel_rfl) rfl (by kernel_rfl) rfl (fun _ _ h => h) ?_
      intro A w5 hp
      have hb := hp.bel
      have a55 : A.eval (.tmp 55) = .bool true := hp.dep 33 (by kernel_rfl)
      have a57 : A.eval (.tmp 57) = .bool false := hp.dep 35 (by kernel_rfl)
      have hc := evalC A; have hf := evalF A; have hgl := evalG A
      obtain ⟨ρ, hρ⟩ : ∃ ρ, A.eval = ρ := ⟨_, rfl⟩
      rw [hρ] at a55 a57 hc hf hgl
      exact relPure hρ (.bool false) (by simp [go_sem, hc, hf, hgl, ↓IntWalk.iteOmega, a55, a57, *]) rfl
    · refine relStep_plain rfl ?_
      intro A w5 hp
      have hb := hp.bel
      have a52 : A.eval (.tmp 52) = .bool false := hp.dep 30 (by kernel_rfl)
      have a58 : A.eval (.tmp 58) = .bool false := hp.dep 36 (by kernel_rfl)
      have hc := evalC A; have hf := evalF A; have hgl := evalG A
      obtain ⟨ρ, hρ⟩ : ∃ ρ, A.eval = ρ := ⟨_, rfl⟩
      rw [hρ] at a52 a58 hc hf hgl
      exact relPure hρ (.bool false) (by simp [go_sem, hc, hf, hgl, ↓IntWalk.iteOmega, a52, a58, *]) rfl
    intro u w4 hb7 hall
    have e59 : u 37 = .bool false := relAll_at hall (i := 37) (by decide +kernel)
    clear hall
    simp only [List.drop_succ_cons, List.drop_zero, List.take_succ_cons, List.take_zero, putAll, Act.put, List.setIfInBounds_toArray, List.set_cons_zero, List.set_cons_succ, Nat.zero_add, Nat.reduceAdd, e59]
    --E4A
    have HS4 := hide (HS3.out.below hb7)
    clear hb7 e59 HF HG HRG HPm HRP
    go_wp2_with fail
    --LA
    go_loopw [8] (fun v wr => ∃ j : Nat, j ≤ n1 ∧ v = .int .i64 j ∧ Below w4.heap.size w4 wr) (fun v _ => n1 - (intOf v).toNat)
    case atStart => exact ⟨0, Nat.zero_le _, rfl, Below.refl _ _⟩
    case round =>
      obtain ⟨j, hj, rfl, hb⟩ := hrel
      have HS5 := hide (HS4.out.below hb)
      have HB5 := hide hb
      have hsz := hb.size
      have hnc := HS5.out.ls.2.1
      have hcm := HS5.out.ls.2.2.1
      unfold maxLen at hcm
      have x0 := HS5.out.bl.cell 0
      have x1 := HS5.out.bl.cell 1
      have y0 := HS5.out.bp.cell 0
      have y1 := HS5.out.bp.cell 1
      clear hb
      by_cases hlt : j < n1
      · obtain ⟨g, o, b, a, m, ge, le, rfl, hg, hy, hok, c0, c1', c2, c3, c4⟩ := PRat HS5.out.ls hlt
        have HH := hide (fun W => pHits_any b a m ge le x z W hok HX.out)
        have hone : (L.drop j).take 1 = [⟨b, a, m, ge, le⟩] := by
          have := List.drop_eq_getElem_cons (l := L) (i := j) (by rw [HS5.out.ls.1]; exact hlt)
          have e2 : L[j]? = some (L[j]'(by rw [HS5.out.ls.1]; exact hlt)) := List.getElem?_eq_getElem _
          rw [hy] at e2
          injection e2 with e2
          rw [this, ← e2]; rfl
        have HFr := hide (fun (W : World) (hb : Below wr.heap.size wr W) => refPFirst_any (some ⟨g, o + j * 5, none⟩) 1 (c1 - j) [⟨b, a, m, ge, le⟩] x z W (by have := ((HS5.out.below hb).ls.drop_ hlt).take_ (m := 1) (by omega); rw [hone] at this; exact this) HX.out)
        obtain ⟨q, hq⟩ : ∃ q, phitP x z ⟨b, a, m, ge, le⟩ = q := ⟨_, rfl⟩
        simp only [idxP, hq] at HFr
        rw [hq] at HH
        have f0 := fun y => cell?_far y (blk_read HS5.out.bl (i := 0) rfl)
        have f1 := fun y => cell?_far y (blk_read HS5.out.bl (i := 1) rfl)
        have f2 := fun y => cell?_far y (blk_read HS5.out.bp (i := 0) rfl)
        have f3 := fun y => cell?_far y (blk_read HS5.out.bp (i := 1) rfl)
        have g0 := fun y => cell?_far y c0
        have g1 := fun y => cell?_far y c1'
        have g2 := fun y => cell?_far y c2
        have g3 := fun y => cell?_far y c3
        have g4 := fun y => cell?_far y c4
        have HBf := hide (fun y => below_far wr y)
        have hi0 : (0 : Int) ≤ (j : Int) := by omega
        have hi1 : (j : Int) < (n1 : Int) := by omega
        have hi2 : (j : Int) + 1 ≤ (c1 : Int) := by omega
        have hi3 : (j : Int) ≤ (j : Int) + 1 := by omega
        have hw1 : IntKind.i64.wrap ((j : Int) + 1) = (j : Int) + 1 := by rw [IntKind.wrap_i64]; omega
        have hcj : ¬ c1 = j := by omega
        clear hq hok hy hone c0 c1' c2 c3 c4
        cases q
        all_goals
          go_wp2
          refine wp_region_far (by kernel_rfl) (by kernel_rfl) ?_
          iterate 17 (go_big_quiet_step ((first | (go_at_call 25; exact far_call (HH.out _)) | (go_at_call 19; exact far_call (HFr.out _ (HBf.out _))))))
          refine wpQuiet_nil ?_
          rintro _ ⟨nq, rfl⟩
          have HE := hide (HB5.out.trans ((HBf.out nq).mono hsz))
          go_wp2
          go_roundw
          case rel => exact ⟨j + 1, by omega, by go_num, HE.out⟩
          case measure => simp [intOf]; omega
      · obtain rfl : j = n1 := by omega
        have HV := hide (plives17_any wr HS5.out.env)
        have HBL := hide HS5.out.bel
        go_wp2_with fail
        refine HV.out.mono ?_
        rintro e w6 ⟨rfl, hb6⟩
        have HE := hide (HBL.out.trans (hb6.mono HBL.out.size))
        clear hb6
        go_wp2
        go_ret
        exact ⟨rfl, HE.out⟩
  · have HF := hide (fun (W : World) (hb : Below w2.heap.size w2 W) => by have := pFew_any s A1 n1 c1 L W (HS2.out.below hb).ls; rw [HLl.out] at this; exact this)
    have HFi := hide (fun (A : Option Addr) (n c : Nat) (W : World) (h : LstAt 5 prR W A n c L) => by have := pFirst_any s A n c L x z W h HX.out; rw [HI.out, show max (k : Int) 0 = (k : Int) by omega, show decide ((0 : Int) ≤ (k : Int)) = true by simp] at this; exact this)
    --R3B
    refine wp_region_rel [(fun v _ => v = .agg #[.string s, .slice A1 n1 c1]), (fun v w => ∃ A n c, v = .agg #[.string s, .slice A n c] ∧ LstAt 5 prR w A n c L), (fun v _ => v = .agg #[.int .u32 (x : Int), .int .i64 z]), (fun v _ => v = .tuple #[.int .i64 (k : Int), .bool true]), (fun v _ => v = .tuple #[.int .i64 (k : Int), .bool true]), (fun v _ => v = .int .i64 (k : Int)), (fun v _ => v = .bool true), (fun v _ => v = .int .i64 (k : Int)), (fun v _ => v = .bool true)] (by kernel_rfl) (by kernel_rfl) (relMono _ ⟨fun _ _ _ _ h => h, fun v w w2 hb ⟨A, n, c, e, h⟩ => ⟨A, n, c, e, h.below prMono hb⟩, fun _ _ _ _ h => h, fun _ _ _ _ h => h, fun _ _ _ _ h => h, fun _ _ _ _ h => h, fun _ _ _ _ h => h, fun _ _ _ _ h => h, fun _ _ _ _ h => h, trivial⟩) ⟨?_, ?_, ?_, ?_, ?_, ?_, ?_, ?_, ?_, trivial⟩ ?_
    · refine relStep_plain rfl ?_
      intro A w5 hp
      have hb := hp.bel
      have a2 : A.eval (.tmp 2) = .pointer (some ⟨w.heap.size, 0, none⟩) := hp.out 2 (by rfl)
      have hS := HS2.out.below hb
      have x0 := hS.bl.cell 0
      have x1 := hS.bl.cell 1
      have y0 := hS.bp.cell 0
      have y1 := hS.bp.cell 1
      clear hS
      have hc := evalC A; have hf := evalF A; have hgl := evalG A
      obtain ⟨ρ, hρ⟩ : ∃ ρ, A.eval = ρ := ⟨_, rfl⟩
      rw [hρ] at a2 hc hf hgl
      exact relPure hρ (.agg #[.string s, .slice A1 n1 c1]) (by simp [go_sem, hc, hf, hgl, ↓IntWalk.iteOmega, a2, *]) rfl
    · refine relStep_plain rfl ?_
      intro A w5 hp
      have hb := hp.bel
      have a16 : A.eval (.tmp 16) = .agg #[.string s, .slice A1 n1 c1] := hp.dep 0 (by kernel_rfl)
      have hc := evalC A; have hf := evalF A; have hgl := evalG A
      obtain ⟨ρ, hρ⟩ : ∃ ρ, A.eval = ρ := ⟨_, rfl⟩
      rw [hρ] at a16 hc hf hgl
      refine relCall hρ 18 #[.agg #[.string s, .slice A1 n1 c1]] (by simp [go_sem, hc, hf, hgl, ↓IntWalk.iteOmega, a16, *]) ?_
      refine (HF.out w5 hb).mono ?_
      rintro e w6 ⟨A6, n6, c6, rfl, hl6, _, hb6⟩
      exact ⟨_, rfl, ⟨A6, n6, c6, rfl, hl6⟩, hb6⟩
    · refine relStep_plain rfl ?_
      intro A w5 hp
      have hb := hp.bel
      have a3 : A.eval (.tmp 3) = .pointer (some ⟨w.heap.size + 1, 0, none⟩) := hp.out 3 (by rfl)
      have hS := HS2.out.below hb
      have x0 := hS.bl.cell 0
      have x1 := hS.bl.cell 1
      have y0 := hS.bp.cell 0
      have y1 := hS.bp.cell 1
      clear hS
      have hc := evalC A; have hf := evalF A; have hgl := evalG A
      obtain ⟨ρ, hρ⟩ : ∃ ρ, A.eval = ρ := ⟨_, rfl⟩
      rw [hρ] at a3 hc hf hgl
      exact relPure hρ (.agg #[.int .u32 (x : Int), .int .i64 z]) (by simp [go_sem, hc, hf, hgl, ↓IntWalk.iteOmega, a3, *]) rfl
    · refine relStep_plain rfl ?_
      intro A w5 hp
      have hb := hp.bel
      obtain ⟨A3, n3, c3, a17, hl3⟩ := hp.dep 1 (by kernel_rfl)
      change A.eval (.tmp 17) = _ at a17
      have a18 : A.eval (.tmp 18) = .agg #[.int .u32 (x : Int), .int .i64 z] := hp.dep 2 (by kernel_rfl)
      have hc := evalC A; have hf := evalF A; have hgl := evalG A
      obtain ⟨ρ, hρ⟩ : ∃ ρ, A.eval = ρ := ⟨_, rfl⟩
      rw [hρ] at a17 a18 hc hf hgl
      refine relCall hρ 20 #[.agg #[.string s, .slice A3 n3 c3], .agg #[.int .u32 (x : Int), .int .i64 z]] (by simp [go_sem, hc, hf, hgl, ↓IntWalk.iteOmega, a17, a18, *]) ?_
      refine (HFi.out A3 n3 c3 w5 hl3).mono ?_
      rintro e w6 ⟨rfl, hb6⟩
      exact ⟨_, rfl, rfl, hb6⟩
    · refine relStep_plain rfl ?_
      intro A w5 hp
      have hb := hp.bel
      have a19 : A.eval (.tmp 19) = .tuple #[.int .i64 (k : Int), .bool true] := hp.dep 3 (by kernel_rfl)
      have hc := evalC A; have hf := evalF A; have hgl := evalG A
      obtain ⟨ρ, hρ⟩ : ∃ ρ, A.eval = ρ := ⟨_, rfl⟩
      rw [hρ] at a19 hc hf hgl
      exact relPure hρ (.tuple #[.int .i64 (k : Int), .bool true]) (by simp [go_sem, hc, hf, hgl, ↓IntWalk.iteOmega, a19, *]) rfl
    · refine relStep_plain rfl ?_
      intro A w5 hp
      have hb := hp.bel
      have a15 : A.eval (.tmp 15) = .tuple #[.int .i64 (k : Int), .bool true] := hp.dep 4 (by kernel_rfl)
      have hc := evalC A; have hf := evalF A; have hgl := evalG A
      obtain ⟨ρ, hρ⟩ : ∃ ρ, A.eval = ρ := ⟨_, rfl⟩
      rw [hρ] at a15 hc hf hgl
      exact relPure hρ (.int .i64 (k : Int)) (by simp [go_sem, hc, hf, hgl, ↓IntWalk.iteOmega, a15, *]) rfl
    · refine relStep_plain rfl ?_
      intro A w5 hp
      have hb := hp.bel
      have a15 : A.eval (.tmp 15) = .tuple #[.int .i64 (k : Int), .bool true] := hp.dep 4 (by kernel_rfl)
      have hc := evalC A; have hf := evalF A; have hgl := evalG A
      obtain ⟨ρ, hρ⟩ : ∃ ρ, A.eval = ρ := ⟨_, rfl⟩
      rw [hρ] at a15 hc hf hgl
      exact relPure hρ (.bool true) (by simp [go_sem, hc, hf, hgl, ↓IntWalk.iteOmega, a15, *]) rfl
    · refine relStep_plain rfl ?_
      intro A w5 hp
      have hb := hp.bel
      have a20 : A.eval (.tmp 20) = .int .i64 (k : Int) := hp.dep 5 (by kernel_rfl)
      have hc := evalC A; have hf := evalF A; have hgl := evalG A
      obtain ⟨ρ, hρ⟩ : ∃ ρ, A.eval = ρ := ⟨_, rfl⟩
      rw [hρ] at a20 hc hf hgl
      exact relPure hρ (.int .i64 (k : Int)) (by simp [go_sem, hc, hf, hgl, ↓IntWalk.iteOmega, a20, *]) rfl
    · refine relStep_plain rfl ?_
      intro A w5 hp
      have hb := hp.bel
      have a21 : A.eval (.tmp 21) = .bool true := hp.dep 6 (by kernel_rfl)
      have hc := evalC A; have hf := evalF A; have hgl := evalG A
      obtain ⟨ρ, hρ⟩ : ∃ ρ, A.eval = ρ := ⟨_, rfl⟩
      rw [hρ] at a21 hc hf hgl
      exact relPure hρ (.bool true) (by simp [go_sem, hc, hf, hgl, ↓IntWalk.iteOmega, a21, *]) rfl
    intro u w3 hb7 hall
    have e6 : u 7 = .int .i64 (k : Int) := relAll_at hall (i := 7) (by decide +kernel)
    have e7 : u 8 = .bool true := relAll_at hall (i := 8) (by decide +kernel)
    clear hall
    simp only [List.drop_succ_cons, List.drop_zero, List.take_succ_cons, List.take_zero, putAll, Act.put, List.setIfInBounds_toArray, List.set_cons_zero, List.set_cons_succ, Nat.zero_add, Nat.reduceAdd, e6, e7]
    --E3B
    have HS3 := hide (HS2.out.below hb7)
    clear hb7 e6 e7
    clear HF HFi
    have HF := hide (fun (W : World) (hb : Below w3.heap.size w3 W) => by have := pFew_any s A1 n1 c1 L W (HS3.out.below hb).ls; rw [HLl.out] at this; exact this)
    have HG := hide (fun (A : Option Addr) (n c : Nat) (W : World) (h : LstAt 5 prR W A n c L) => pGood_any s A n c L W h HS.out)
    have HRG := hide (fun (W : World) (hb : Below w3.heap.size w3 W) => refPGood_any s A1 n1 c1 L W (HS3.out.below hb).ls HS.out)
    have HPm := hide (fun (A : Option Addr) (n c : Nat) (W : World) (h : LstAt 5 prR W A n c L) => pPermits_any s A n c L x z W h HX.out)
    have HRP := hide (fun (W : World) (hb : Below w3.heap.size w3 W) => refPPermits_any s A1 n1 c1 L x z W (HS3.out.below hb).ls HX.out)
    obtain ⟨G, hG⟩ : ∃ G, pgoodL s L = G := ⟨_, rfl⟩
    obtain ⟨Pm, hPm⟩ : ∃ Pm, prPerm (phitP x z) L = Pm := ⟨_, rfl⟩
    rw [hG] at HG HRG
    rw [hPm] at HPm HRP
    clear hG hPm
    go_wp2_with fail
    --R4B
    refine wp_region_rel [(fun v _ => v = .agg #[.string s, .slice A1 n1 c1]), (fun v w => ∃ A n c, v = .agg #[.string s, .slice A n c] ∧ LstAt 5 prR w A n c L), (fun v _ => v = .bool G), (fun v _ => v = .agg #[.string s, .slice A1 n1 c1]), (fun v _ => v = .bool G), (fun v _ => v = .bool false), (fun v _ => v = .bool false), (fun v _ => v = .agg #[.string s, .slice A1 n1 c1]), (fun v w => ∃ A n c, v = .agg #[.string s, .slice A n c] ∧ LstAt 5 prR w A n c L), (fun v _ => v = .agg #[.int .u32 (x : Int), .int .i64 z]), (fun v _ => v = .bool Pm), (fun v _ => v = .agg #[.string s, .slice A1 n1 c1]), (fun v _ => v = .agg #[.int .u32 (x : Int), .int .i64 z]), (fun v _ => v = .bool Pm), (fun v _ => v = .bool false), (fun v _ => v = .bool false), (fun v _ => v = .bool false), (fun v _ => v = .bool true), (fun v _ => v = .int .i64 (k : Int)), (fun v _ => v = .bool true), (fun v _ => v = .bool false), (fun v _ => v = .bool false), (fun v _ => v = .bool false), (fun v _ => v = .bool true), (fun v _ => v = .bool true), (fun v _ => v = .int .i64 (k : Int)), (fun v _ => v = .int .i64 (k : Int)), (fun v _ => v = .bool false), (fun v _ => v = .bool false), (fun v _ => v = .bool false), (fun v _ => v = .bool false), (fun v _ => v = .bool true), (fun v _ => v = .bool false), (fun v _ => v = .bool false), (fun _ _ => True), (fun _ _ => True), (fun v _ => v = .bool false), (fun v _ => v = .bool false)] (by kernel_rfl) (by kernel_rfl) (relMono _ ⟨fun _ _ _ _ h => h, fun v w w2 hb ⟨A, n, c, e, h⟩ => ⟨A, n, c, e, h.below prMono hb⟩, fun _ _ _ _ h => h, fun _ _ _ _ h => h, fun _ _ _ _ h => h, fun _ _ _ _ h => h, fun _ _ _ _ h => h, fun _ _ _ _ h => h, fun v w w2 hb ⟨A, n, c, e, h⟩ => ⟨A, n, c, e, h.below prMono hb⟩, fun _ _ _ _ h => h, fun _ _ _ _ h => h, fun _ _ _ _ h => h, fun _ _ _ _ h => h, fun _ _ _ _ h => h, fun _ _ _ _ h => h, fun _ _ _ _ h => h, fun _ _ _ _ h => h, fun _ _ _ _ h => h, fun _ _ _ _ h => h, fun _ _ _ _ h => h, fun _ _ _ _ h => h, fun _ _ _ _ h => h, fun _ _ _ _ h => h, fun _ _ _ _ h => h, fun _ _ _ _ h => h, fun _ _ _ _ h => h, fun _ _ _ _ h => h, fun _ _ _ _ h => h, fun _ _ _ _ h => h, fun _ _ _ _ h => h, fun _ _ _ _ h => h, fun _ _ _ _ h => h, fun _ _ _ _ h => h, fun _ _ _ _ h => h, fun _ _ _ _ _ => trivial, fun _ _ _ _ _ => trivial, fun _ _ _ _ h => h, fun _ _ _ _ h => h, trivial⟩) ⟨?_, ?_, ?_, ?_, ?_, ?_, ?_, ?_, ?_, ?_, ?_, ?_, ?_, ?_, ?_, ?_, ?_, ?_, ?_, ?_, ?_, ?_, ?_, ?_, ?_, ?_, ?_, ?_, ?_, ?_, ?_, ?_, ?_, ?_, ?_, ?_, ?_, ?_, trivial⟩ ?_
    · refine relStep_plain rfl ?_
      intro A w5 hp
      have hb := hp.bel
      have a2 : A.eval (.tmp 2) = .pointer (some ⟨w.heap.size, 0, none⟩) := hp.out 2 (by rfl)
      have hS := HS3.out.below hb
      have x0 := hS.bl.cell 0
      have x1 := hS.bl.cell 1
      have y0 := hS.bp.cell 0
      have y1 := hS.bp.cell 1
      clear hS
      have hc := evalC A; have hf := evalF A; have hgl := evalG A
      obtain ⟨ρ, hρ⟩ : ∃ ρ, A.eval = ρ := ⟨_, rfl⟩
      rw [hρ] at a2 hc hf hgl
      exact relPure hρ (.agg #[.string s, .slice A1 n1 c1]) (by simp [go_sem, hc, hf, hgl, ↓IntWalk.iteOmega, a2, *]) rfl
    · refine relStep_plain rfl ?_
      intro A w5 hp
      have hb := hp.bel
      have a22 : A.eval (.tmp 22) = .agg #[.string s, .slice A1 n1 c1] := hp.dep 0 (by kernel_rfl)
      have hc := evalC A; have hf := evalF A; have hgl := evalG A
      obtain ⟨ρ, hρ⟩ : ∃ ρ, A.eval = ρ := ⟨_, rfl⟩
      rw [hρ] at a22 hc hf hgl
      refine relCall hρ 18 #[.agg #[.string s, .slice A1 n1 c1]] (by simp [go_sem, hc, hf, hgl, ↓IntWalk.iteOmega, a22, *]) ?_
      refine (HF.out w5 hb).mono ?_
      rintro e w6 ⟨A6, n6, c6, rfl, hl6, _, hb6⟩
      exact ⟨_, rfl, ⟨A6, n6, c6, rfl, hl6⟩, hb6⟩
    · refine relStep_plain rfl ?_
      intro A w5 hp
      have hb := hp.bel
      obtain ⟨A3, n3, c3, a23, hl3⟩ := hp.dep 1 (by kernel_rfl)
      change A.eval (.tmp 23) = _ at a23
      have hc := evalC A; have hf := evalF A; have hgl := evalG A
      obtain ⟨ρ, hρ⟩ : ∃ ρ, A.eval = ρ := ⟨_, rfl⟩
      rw [hρ] at a23 hc hf hgl
      refine relCall hρ 21 #[.agg #[.string s, .slice A3 n3 c3]] (by simp [go_sem, hc, hf, hgl, ↓IntWalk.iteOmega, a23, *]) ?_
      refine (HG.out A3 n3 c3 w5 hl3).mono ?_
      rintro e w6 ⟨rfl, hb6⟩
      exact ⟨_, rfl, rfl, hb6⟩
    · refine relStep_plain rfl ?_
      intro A w5 hp
      have hb := hp.bel
      have a2 : A.eval (.tmp 2) = .pointer (some ⟨w.heap.size, 0, none⟩) := hp.out 2 (by rfl)
      have hS := HS3.out.below hb
      have x0 := hS.bl.cell 0
      have x1 := hS.bl.cell 1
      have y0 := hS.bp.cell 0
      have y1 := hS.bp.cell 1
      clear hS
      have hc := evalC A; have hf := evalF A; have hgl := evalG A
      obtain ⟨ρ, hρ⟩ : ∃ ρ, A.eval = ρ := ⟨_, rfl⟩
      rw [hρ] at a2 hc hf hgl
      exact relPure hρ (.agg #[.string s, .slice A1 n1 c1]) (by simp [go_sem, hc, hf, hgl, ↓IntWalk.iteOmega, a2, *]) rfl
    · refine relStep_plain rfl ?_
      intro A w5 hp
      have hb := hp.bel
      have a25 : A.eval (.tmp 25) = .agg #[.string s, .slice A1 n1 c1] := hp.dep 3 (by kernel_rfl)
      have hc := evalC A; have hf := evalF A; have hgl := evalG A
      obtain ⟨ρ, hρ⟩ : ∃ ρ, A.eval = ρ := ⟨_, rfl⟩
      rw [hρ] at a25 hc hf hgl
      refine relCall hρ 22 #[.agg #[.string s, .slice A1 n1 c1]] (by simp [go_sem, hc, hf, hgl, ↓IntWalk.iteOmega, a25, *]) ?_
      refine (HRG.out w5 hb).mono ?_
      rintro e w6 ⟨rfl, hb6⟩
      exact ⟨_, rfl, rfl, hb6⟩
    · refine relStep_plain rfl ?_
      intro A w5 hp
      have hb := hp.bel
      have a24 : A.eval (.tmp 24) = .bool G := hp.dep 2 (by kernel_rfl)
      have a26 : A.eval (.tmp 26) = .bool G := hp.dep 4 (by kernel_rfl)
      have hc := evalC A; have hf := evalF A; have hgl := evalG A
      obtain ⟨ρ, hρ⟩ : ∃ ρ, A.eval = ρ := ⟨_, rfl⟩
      rw [hρ] at a24 a26 hc hf hgl
      exact relPure hρ (.bool false) (by simp [go_sem, hc, hf, hgl, ↓IntWalk.iteOmega, a24, a26, *]) rfl
    · refine relStep_plain rfl ?_
      intro A w5 hp
      have hb := hp.bel
      have a27 : A.eval (.tmp 27) = .bool false := hp.dep 5 (by kernel_rfl)
      have hc := evalC A; have hf := evalF A; have hgl := evalG A
      obtain ⟨ρ, hρ⟩ : ∃ ρ, A.eval = ρ := ⟨_, rfl⟩
      rw [hρ] at a27 hc hf hgl
      exact relPure hρ (.bool false) (by simp [go_sem, hc, hf, hgl, ↓IntWalk.iteOmega, a27, *]) rfl
    · refine relStep_guard (g := 6) (b := false) (x := false) rfl (by kernel_rfl) rfl (by kernel_rfl) rfl (fun _ _ h => h) ?_
      intro A w5 hp
      have hb := hp.bel
      have a2 : A.eval (.tmp 2) = .pointer (some ⟨w.heap.size, 0, none⟩) := hp.out 2 (by rfl)
      have hS := HS3.out.below hb
      have x0 := hS.bl.cell 0
      have x1 := hS.bl.cell 1
      have y0 := hS.bp.cell 0
      have y1 := hS.bp.cell 1
      clear hS
      have hc := evalC A; have hf := evalF A; have hgl := evalG A
      obtain ⟨ρ, hρ⟩ : ∃ ρ, A.eval = ρ := ⟨_, rfl⟩
      rw [hρ] at a2 hc hf hgl
      exact relPure hρ (.agg #[.string s, .slice A1 n1 c1]) (by simp [go_sem, hc, hf, hgl, ↓IntWalk.iteOmega, a2, *]) rfl
    · refine relStep_guard (g := 6) (b := false) (x := false) rfl (by kernel_rfl) rfl (by kernel_rfl) rfl (fun _ _ h => h) ?_
      intro A w5 hp
      have hb := hp.bel
      have a29 : A.eval (.tmp 29) = .agg #[.string s, .slice A1 n1 c1] := hp.dep 7 (by kernel_rfl)
      have hc := evalC A; have hf := evalF A; have hgl := evalG A
      obtain ⟨ρ, hρ⟩ : ∃ ρ, A.eval = ρ := ⟨_, rfl⟩
      rw [hρ] at a29 hc hf hgl
      refine relCall hρ 18 #[.agg #[.string s, .slice A1 n1 c1]] (by simp [go_sem, hc, hf, hgl, ↓IntWalk.iteOmega, a29, *]) ?_
      refine (HF.out w5 hb).mono ?_
      rintro e w6 ⟨A6, n6, c6, rfl, hl6, _, hb6⟩
      exact ⟨_, rfl, ⟨A6, n6, c6, rfl, hl6⟩, hb6⟩
    · refine relStep_guard (g := 6) (b := false) (x := false) rfl (by kernel_rfl) rfl (by kernel_rfl) rfl (fun _ _ h => h) ?_
      intro A w5 hp
      have hb := hp.bel
      have a3 : A.eval (.tmp 3) = .pointer (some ⟨w.heap.size + 1, 0, none⟩) := hp.out 3 (by rfl)
      have hS := HS3.out.below hb
      have x0 := hS.bl.cell 0
      have x1 := hS.bl.cell 1
      have y0 := hS.bp.cell 0
      have y1 := hS.bp.cell 1
      clear hS
      have hc := evalC A; have hf := evalF A; have hgl := evalG A
      obtain ⟨ρ, hρ⟩ : ∃ ρ, A.eval = ρ := ⟨_, rfl⟩
      rw [hρ] at a3 hc hf hgl
      exact relPure hρ (.agg #[.int .u32 (x : Int), .int .i64 z]) (by simp [go_sem, hc, hf, hgl, ↓IntWalk.iteOmega, a3, *]) rfl
    · refine relStep_guard (g := 6) (b := false) (x := false) rfl (by kernel_rfl) rfl (by kernel_rfl) rfl (fun _ _ h => h) ?_
      intro A w5 hp
      have hb := hp.bel
      obtain ⟨A4, n4, c4, a30, hl4⟩ := hp.dep 8 (by kernel_rfl)
      change A.eval (.tmp 30) = _ at a30
      have a31 : A.eval (.tmp 31) = .agg #[.int .u32 (x : Int), .int .i64 z] := hp.dep 9 (by kernel_rfl)
      have hc := evalC A; have hf := evalF A; have hgl := evalG A
      obtain ⟨ρ, hρ⟩ : ∃ ρ, A.eval = ρ := ⟨_, rfl⟩
      rw [hρ] at a30 a31 hc hf hgl
      refine relCall hρ 23 #[.agg #[.string s, .slice A4 n4 c4], .agg #[.int .u32 (x : Int), .int .i64 z]] (by simp [go_sem, hc, hf, hgl, ↓IntWalk.iteOmega, a30, a31, *]) ?_
      refine (HPm.out A4 n4 c4 w5 hl4).mono ?_
      rintro e w6 ⟨rfl, hb6⟩
      exact ⟨_, rfl, rfl, hb6⟩
    · refine relStep_guard (g := 6) (b := false) (x := false) rfl (by kernel_rfl) rfl (by kernel_rfl) rfl (fun _ _ h => h) ?_
      intro A w5 hp
      have hb := hp.bel
      have a2 : A.eval (.tmp 2) = .pointer (some ⟨w.heap.size, 0, none⟩) := hp.out 2 (by rfl)
      have hS := HS3.out.below hb
      have x0 := hS.bl.cell 0
      have x1 := hS.bl.cell 1
      have y0 := hS.bp.cell 0
      have y1 := hS.bp.cell 1
      clear hS
      have hc := evalC A; have hf := evalF A; have hgl := evalG A
      obtain ⟨ρ, hρ⟩ : ∃ ρ, A.eval = ρ := ⟨_, rfl⟩
      rw [hρ] at a2 hc hf hgl
      exact relPure hρ (.agg #[.string s, .slice A1 n1 c1]) (by simp [go_sem, hc, hf, hgl, ↓IntWalk.iteOmega, a2, *]) rfl
    · refine relStep_guard (g := 6) (b := false) (x := false) rfl (by kernel_rfl) rfl (by kernel_rfl) rfl (fun _ _ h => h) ?_
      intro A w5 hp
      have hb := hp.bel
      have a3 : A.eval (.tmp 3) = .pointer (some ⟨w.heap.size + 1, 0, none⟩) := hp.out 3 (by rfl)
      have hS := HS3.out.below hb
      have x0 := hS.bl.cell 0
      have x1 := hS.bl.cell 1
      have y0 := hS.bp.cell 0
      have y1 := hS.bp.cell 1
      clear hS
      have hc := evalC A; have hf := evalF A; have hgl := evalG A
      obtain ⟨ρ, hρ⟩ : ∃ ρ, A.eval = ρ := ⟨_, rfl⟩
      rw [hρ] at a3 hc hf hgl
      exact relPure hρ (.agg #[.int .u32 (x : Int), .int .i64 z]) (by simp [go_sem, hc, hf, hgl, ↓IntWalk.iteOmega, a3, *]) rfl
    · refine relStep_guard (g := 6) (b := false) (x := false) rfl (by kernel_rfl) rfl (by kernel_rfl) rfl (fun _ _ h => h) ?_
      intro A w5 hp
      have hb := hp.bel
      have a33 : A.eval (.tmp 33) = .agg #[.string s, .slice A1 n1 c1] := hp.dep 11 (by kernel_rfl)
      have a34 : A.eval (.tmp 34) = .agg #[.int .u32 (x : Int), .int .i64 z] := hp.dep 12 (by kernel_rfl)
      have hc := evalC A; have hf := evalF A; have hgl := evalG A
      obtain ⟨ρ, hρ⟩ : ∃ ρ, A.eval = ρ := ⟨_, rfl⟩
      rw [hρ] at a33 a34 hc hf hgl
      refine relCall hρ 24 #[.agg #[.string s, .slice A1 n1 c1], .agg #[.int .u32 (x : Int), .int .i64 z]] (by simp [go_sem, hc, hf, hgl, ↓IntWalk.iteOmega, a33, a34, *]) ?_
      refine (HRP.out w5 hb).mono ?_
      rintro e w6 ⟨rfl, hb6⟩
      exact ⟨_, rfl, rfl, hb6⟩
    · refine relStep_guard (g := 6) (b := false) (x := false) rfl (by kernel_rfl) rfl (by kernel_rfl) rfl (fun _ _ h => h) ?_
      intro A w5 hp
      have hb := hp.bel
      have a32 : A.eval (.tmp 32) = .bool Pm := hp.dep 10 (by kernel_rfl)
      have a35 : A.eval (.tmp 35) = .bool Pm := hp.dep 13 (by kernel_rfl)
      have hc := evalC A; have hf := evalF A; have hgl := evalG A
      obtain ⟨ρ, hρ⟩ : ∃ ρ, A.eval = ρ := ⟨_, rfl⟩
      rw [hρ] at a32 a35 hc hf hgl
      exact relPure hρ (.bool false) (by simp [go_sem, hc, hf, hgl, ↓IntWalk.iteOmega, a32, a35, *]) rfl
    · refine relStep_plain rfl ?_
      intro A w5 hp
      have hb := hp.bel
      have a28 : A.eval (.tmp 28) = .bool false := hp.dep 6 (by kernel_rfl)
      have a36 : A.eval (.tmp 36) = .bool false := hp.dep 14 (by kernel_rfl)
      have hc := evalC A; have hf := evalF A; have hgl := evalG A
      obtain ⟨ρ, hρ⟩ : ∃ ρ, A.eval = ρ := ⟨_, rfl⟩
      rw [hρ] at a28 a36 hc hf hgl
      exact relPure hρ (.bool false) (by simp [go_sem, hc, hf, hgl, ↓IntWalk.iteOmega, a28, a36, *]) rfl
    · refine relStep_plain rfl ?_
      intro A w5 hp
      have hb := hp.bel
      have a37 : A.eval (.tmp 37) = .bool false := hp.dep 15 (by kernel_rfl)
      have hc := evalC A; have hf := evalF A; have hgl := evalG A
      obtain ⟨ρ, hρ⟩ : ∃ ρ, A.eval = ρ := ⟨_, rfl⟩
      rw [hρ] at a37 hc hf hgl
      exact relPure hρ (.bool false) (by simp [go_sem, hc, hf, hgl, ↓IntWalk.iteOmega, a37, *]) rfl
    · refine relStep_guard (g := 16) (b := false) (x := false) rfl (by kernel_rfl) rfl (by kernel_rfl) rfl (fun _ _ h => h) ?_
      intro A w5 hp
      have hb := hp.bel
      have a7 : A.eval (.tmp 7) = .bool true := hp.out 7 (by rfl)
      have hc := evalC A; have hf := evalF A; have hgl := evalG A
      obtain ⟨ρ, hρ⟩ : ∃ ρ, A.eval = ρ := ⟨_, rfl⟩
      rw [hρ] at a7 hc hf hgl
      exact relPure hρ (.bool true) (by simp [go_sem, hc, hf, hgl, ↓IntWalk.iteOmega, a7, *]) rfl
    · refine relStep_guard (g := 16) (b := false) (x := false) rfl (by kernel_rfl) rfl (by kernel_rfl) rfl (fun _ _ h => h) ?_
      intro A w5 hp
      have hb := hp.bel
      have a5 : A.eval (.tmp 5) = .int .i64 (k : Int) := hp.out 5 (by rfl)
      have hc := evalC A; have hf := evalF A; have hgl := evalG A
      obtain ⟨ρ, hρ⟩ : ∃ ρ, A.eval = ρ := ⟨_, rfl⟩
      rw [hρ] at a5 hc hf hgl
      exact relPure hρ (.int .i64 (k : Int)) (by simp [go_sem, hc, hf, hgl, ↓IntWalk.iteOmega, a5, *]) rfl
    · refine relStep_guard (g := 16) (b := false) (x := false) rfl (by kernel_rfl) rfl (by kernel_rfl) rfl (fun _ _ h => h) ?_
      intro A w5 hp
      have hb := hp.bel
      have a40 : A.eval (.tmp 40) = .int .i64 (k : Int) := hp.dep 18 (by kernel_rfl)
      have hc := evalC A; have hf := evalF A; have hgl := evalG A
      obtain ⟨ρ, hρ⟩ : ∃ ρ, A.eval = ρ := ⟨_, rfl⟩
      rw [hρ] at a40 hc hf hgl
      exact relPure hρ (.bool true) (by simp [go_sem, hc, hf, hgl, ↓IntWalk.iteOmega, a40, *]) rfl
    · refine relStep_guard (g := 16) (b := false) (x := false) rfl (by kernel_rfl) rfl (by kernel_rfl) rfl (fun _ _ h => h) ?_
      intro A w5 hp
      have hb := hp.bel
      have a39 : A.eval (.tmp 39) = .bool true := hp.dep 17 (by kernel_rfl)
      have a41 : A.eval (.tmp 41) = .bool true := hp.dep 19 (by kernel_rfl)
      have hc := evalC A; have hf := evalF A; have hgl := evalG A
      obtain ⟨ρ, hρ⟩ : ∃ ρ, A.eval = ρ := ⟨_, rfl⟩
      rw [hρ] at a39 a41 hc hf hgl
      exact relPure hρ (.bool false) (by simp [go_sem, hc, hf, hgl, ↓IntWalk.iteOmega, a39, a41, *]) rfl
    · refine relStep_plain rfl ?_
      intro A w5 hp
      have hb := hp.bel
      have a38 : A.eval (.tmp 38) = .bool false := hp.dep 16 (by kernel_rfl)
      have a42 : A.eval (.tmp 42) = .bool false := hp.dep 20 (by kernel_rfl)
      have hc := evalC A; have hf := evalF A; have hgl := evalG A
      obtain ⟨ρ, hρ⟩ : ∃ ρ, A.eval = ρ := ⟨_, rfl⟩
      rw [hρ] at a38 a42 hc hf hgl
      exact relPure hρ (.bool false) (by simp [go_sem, hc, hf, hgl, ↓IntWalk.iteOmega, a38, a42, *]) rfl
    · refine relStep_plain rfl ?_
      intro A w5 hp
      have hb := hp.bel
      have a43 : A.eval (.tmp 43) = .bool false := hp.dep 21 (by kernel_rfl)
      have hc := evalC A; have hf := evalF A; have hgl := evalG A
      obtain ⟨ρ, hρ⟩ : ∃ ρ, A.eval = ρ := ⟨_, rfl⟩
      rw [hρ] at a43 hc hf hgl
      exact relPure hρ (.bool false) (by simp [go_sem, hc, hf, hgl, ↓IntWalk.iteOmega, a43, *]) rfl
    · refine relStep_guard (g := 22) (b := false) (x := false) rfl (by kernel_rfl) rfl (by kernel_rfl) rfl (fun _ _ h => h) ?_
      intro A w5 hp
      have hb := hp.bel
      have a7 : A.eval (.tmp 7) = .bool true := hp.out 7 (by rfl)
      have hc := evalC A; have hf := evalF A; have hgl := evalG A
      obtain ⟨ρ, hρ⟩ : ∃ ρ, A.eval = ρ := ⟨_, rfl⟩
      rw [hρ] at a7 hc hf hgl
      exact relPure hρ (.bool true) (by simp [go_sem, hc, hf, hgl, ↓IntWalk.iteOmega, a7, *]) rfl
    · refine relStep_guard (g := 22) (b := false) (x := false) rfl (by kernel_rfl) rfl (by kernel_rfl) rfl (fun _ _ h => h) ?_
      intro A w5 hp
      have hb := hp.bel
      have a45 : A.eval (.tmp 45) = .bool true := hp.dep 23 (by kernel_rfl)
      have hc := evalC A; have hf := evalF A; have hgl := evalG A
      obtain ⟨ρ, hρ⟩ : ∃ ρ, A.eval = ρ := ⟨_, rfl⟩
      rw [hρ] at a45 hc hf hgl
      exact relPure hρ (.bool true) (by simp [go_sem, hc, hf, hgl, ↓IntWalk.iteOmega, a45, *]) rfl
    · refine relStep_guard (g := 24) (b := true) (x := true) rfl (by kernel_rfl) rfl (by kernel_rfl) rfl (fun _ _ h => h) ?_
      intro A w5 hp
      have hb := hp.bel
      have a6 : A.eval (.tmp 6) = .int .i64 (k : Int) := hp.out 6 (by rfl)
      have hc := evalC A; have hf := evalF A; have hgl := evalG A
      obtain ⟨ρ, hρ⟩ : ∃ ρ, A.eval = ρ := ⟨_, rfl⟩
      rw [hρ] at a6 hc hf hgl
      exact relPure hρ (.int .i64 (k : Int)) (by simp [go_sem, hc, hf, hgl, ↓IntWalk.iteOmega, a6, *]) rfl
    · refine relStep_guard (g := 24) (b := true) (x := true) rfl (by kernel_rfl) rfl (by kernel_rfl) rfl (fun _ _ h => h) ?_
      intro A w5 hp
      have hb := hp.bel
      have a5 : A.eval (.tmp 5) = .int .i64 (k : Int) := hp.out 5 (by rfl)
      have hc := evalC A; have hf := evalF A; have hgl := evalG A
      obtain ⟨ρ, hρ⟩ : ∃ ρ, A.eval = ρ := ⟨_, rfl⟩
      rw [hρ] at a5 hc hf hgl
      exact relPure hρ (.int .i64 (k : Int)) (by simp [go_sem, hc, hf, hgl, ↓IntWalk.iteOmega, a5, *]) rfl
    · refine relStep_guard (g := 24) (b := true) (x := true) rfl (by kernel_rfl) rfl (by kernel_rfl) rfl (fun _ _ h => h) ?_
      intro A w5 hp
      have hb := hp.bel
      have a47 : A.eval (.tmp 47) = .int .i64 (k : Int) := hp.dep 25 (by kernel_rfl)
      have a48 : A.eval (.tmp 48) = .int .i64 (k : Int) := hp.dep 26 (by kernel_rfl)
      have hc := evalC A; have hf := evalF A; have hgl := evalG A
      obtain ⟨ρ, hρ⟩ : ∃ ρ, A.eval = ρ := ⟨_, rfl⟩
      rw [hρ] at a47 a48 hc hf hgl
      exact relPure hρ (.bool false) (by simp [go_sem, hc, hf, hgl, ↓IntWalk.iteOmega, a47, a48, *]) rfl
    · refine relStep_guard (g := 22) (b := false) (x := false) rfl (by kernel_rfl) rfl (by kernel_rfl) rfl (fun _ _ h => h) ?_
      intro A w5 hp
      have hb := hp.bel
      have a46 : A.eval (.tmp 46) = .bool true := hp.dep 24 (by kernel_rfl)
      have a49 : A.eval (.tmp 49) = .bool false := hp.dep 27 (by kernel_rfl)
      have hc := evalC A; have hf := evalF A; have hgl := evalG A
      obtain ⟨ρ, hρ⟩ : ∃ ρ, A.eval = ρ := ⟨_, rfl⟩
      rw [hρ] at a46 a49 hc hf hgl
      exact relPure hρ (.bool false) (by simp [go_sem, hc, hf, hgl, ↓IntWalk.iteOmega, a46, a49, *]) rfl
    · refine relStep_plain rfl ?_
      intro A w5 hp
      have hb := hp.bel
      have a44 : A.eval (.tmp 44) = .bool false := hp.dep 22 (by kernel_rfl)
      have a50 : A.eval (.tmp 50) = .bool false := hp.dep 28 (by kernel_rfl)
      have hc := evalC A; have hf := evalF A; have hgl := evalG A
      obtain ⟨ρ, hρ⟩ : ∃ ρ, A.eval = ρ := ⟨_, rfl⟩
      rw [hρ] at a44 a50 hc hf hgl
      exact relPure hρ (.bool false) (by simp [go_sem, hc, hf, hgl, ↓IntWalk.iteOmega, a44, a50, *]) rfl
    · refine relStep_plain rfl ?_
      intro A w5 hp
      have hb := hp.bel
      have a51 : A.eval (.tmp 51) = .bool false := hp.dep 29 (by kernel_rfl)
      have hc := evalC A; have hf := evalF A; have hgl := evalG A
      obtain ⟨ρ, hρ⟩ : ∃ ρ, A.eval = ρ := ⟨_, rfl⟩
      rw [hρ] at a51 hc hf hgl
      exact relPure hρ (.bool false) (by simp [go_sem, hc, hf, hgl, ↓IntWalk.iteOmega, a51, *]) rfl
    · refine relStep_guard (g := 30) (b := false) (x := false) rfl (by kernel_rfl) rfl (by kernel_rfl) rfl (fun _ _ h => h) ?_
      intro A w5 hp
      have hb := hp.bel
      have a7 : A.eval (.tmp 7) = .bool true := hp.out 7 (by rfl)
      have hc := evalC A; have hf := evalF A; have hgl := evalG A
      obtain ⟨ρ, hρ⟩ : ∃ ρ, A.eval = ρ := ⟨_, rfl⟩
      rw [hρ] at a7 hc hf hgl
      exact relPure hρ (.bool true) (by simp [go_sem, hc, hf, hgl, ↓IntWalk.iteOmega, a7, *]) rfl
    · refine relStep_guard (g := 30) (b := false) (x := false) rfl (by kernel_rfl) rfl (by kernel_rfl) rfl (fun _ _ h => h) ?_
      intro A w5 hp
      have hb := hp.bel
      have a53 : A.eval (.tmp 53) = .bool true := hp.dep 31 (by kernel_rfl)
      have hc := evalC A; have hf := evalF A; have hgl := evalG A
      obtain ⟨ρ, hρ⟩ : ∃ ρ, A.eval = ρ := ⟨_, rfl⟩
      rw [hρ] at a53 hc hf hgl
      exact relPure hρ (.bool false) (by simp [go_sem, hc, hf, hgl, ↓IntWalk.iteOmega, a53, *]) rfl
    · refine relStep_guard (g := 30) (b := false) (x := false) rfl (by kernel_rfl) rfl (by kernel_rfl) rfl (fun _ _ h => h) ?_
      intro A w5 hp
      have hb := hp.bel
      have a54 : A.eval (.tmp 54) = .bool false := hp.dep 32 (by kernel_rfl)
      have hc := evalC A; have hf := evalF A; have hgl := evalG A
      obtain ⟨ρ, hρ⟩ : ∃ ρ, A.eval = ρ := ⟨_, rfl⟩
      rw [hρ] at a54 hc hf hgl
      exact relPure hρ (.bool false) (by simp [go_sem, hc, hf, hgl, ↓IntWalk.iteOmega, a54, *]) rfl
    · refine relStep_guard (g := 33) (b := true) (x := false) rfl (by kernel_rfl) rfl (by kernel_rfl) rfl (fun _ _ h => h) ?_
      exact fun _ => trivial
    · refine relStep_guard (g := 33) (b := true) (x := false) rfl (by kernel_rfl) rfl (by kernel_rfl) rfl (fun _ _ h => h) ?_
      exact fun _ => trivial
    · refine relStep_guard (g := 30) (b := false) (x := false) rfl (by kernel_rfl) rfl (by kernel_rfl) rfl (fun _ _ h => h) ?_
      intro A w5 hp
      have hb := hp.bel
      have a55 : A.eval (.tmp 55) = .bool false := hp.dep 33 (by kernel_rfl)
      have hc := evalC A; have hf := evalF A; have hgl := evalG A
      obtain ⟨ρ, hρ⟩ : ∃ ρ, A.eval = ρ := ⟨_, rfl⟩
      rw [hρ] at a55 hc hf hgl
      exact relPure hρ (.bool false) (by simp [go_sem, hc, hf, hgl, ↓IntWalk.iteOmega, a55, *]) rfl
    · refine relStep_plain rfl ?_
      intro A w5 hp
      have hb := hp.bel
      have a52 : A.eval (.tmp 52) = .bool false := hp.dep 30 (by kernel_rfl)
      have a58 : A.eval (.tmp 58) = .bool false := hp.dep 36 (by kernel_rfl)
      have hc := evalC A; have hf := evalF A; have hgl := evalG A
      obtain ⟨ρ, hρ⟩ : ∃ ρ, A.eval = ρ := ⟨_, rfl⟩
      rw [hρ] at a52 a58 hc hf hgl
      exact relPure hρ (.bool false) (by simp [go_sem, hc, hf, hgl, ↓IntWalk.iteOmega, a52, a58, *]) rfl
    intro u w4 hb7 hall
    have e59 : u 37 = .bool false := relAll_at hall (i := 37) (by decide +kernel)
    clear hall
    simp only [List.drop_succ_cons, List.drop_zero, List.take_succ_cons, List.take_zero, putAll, Act.put, List.setIfInBounds_toArray, List.set_cons_zero, List.set_cons_succ, Nat.zero_add, Nat.reduceAdd, e59]
    --E4B
    have HS4 := hide (HS3.out.below hb7)
    clear hb7 e59 HF HG HRG HPm HRP
    go_wp2_with fail
    --LB
    go_loopw [8] (fun v wr => ∃ j : Nat, j ≤ n1 ∧ v = .int .i64 j ∧ Below w4.heap.size w4 wr) (fun v _ => n1 - (intOf v).toNat)
    case atStart => exact ⟨0, Nat.zero_le _, rfl, Below.refl _ _⟩
    case round =>
      obtain ⟨j, hj, rfl, hb⟩ := hrel
      have HS5 := hide (HS4.out.below hb)
      have HB5 := hide hb
      have hsz := hb.size
      have hnc := HS5.out.ls.2.1
      have hcm := HS5.out.ls.2.2.1
      unfold maxLen at hcm
      have x0 := HS5.out.bl.cell 0
      have x1 := HS5.out.bl.cell 1
      have y0 := HS5.out.bp.cell 0
      have y1 := HS5.out.bp.cell 1
      clear hb
      by_cases hlt : j < n1
      · obtain ⟨g, o, b, a, m, ge, le, rfl, hg, hy, hok, c0, c1', c2, c3, c4⟩ := PRat HS5.out.ls hlt
        have HH := hide (fun W => pHits_any b a m ge le x z W hok HX.out)
        have hone : (L.drop j).take 1 = [⟨b, a, m, ge, le⟩] := by
          have := List.drop_eq_getElem_cons (l := L) (i := j) (by rw [HS5.out.ls.1]; exact hlt)
          have e2 : L[j]? = some (L[j]'(by rw [HS5.out.ls.1]; exact hlt)) := List.getElem?_eq_getElem _
          rw [hy] at e2
          injection e2 with e2
          rw [this, ← e2]; rfl
        have HFr := hide (fun (W : World) (hb : Below wr.heap.size wr W) => refPFirst_any (some ⟨g, o + j * 5, none⟩) 1 (c1 - j) [⟨b, a, m, ge, le⟩] x z W (by have := ((HS5.out.below hb).ls.drop_ hlt).take_ (m := 1) (by omega); rw [hone] at this; exact this) HX.out)
        obtain ⟨q, hq⟩ : ∃ q, phitP x z ⟨b, a, m, ge, le⟩ = q := ⟨_, rfl⟩
        simp only [idxP, hq] at HFr
        rw [hq] at HH
        have f0 := fun y => cell?_far y (blk_read HS5.out.bl (i := 0) rfl)
        have f1 := fun y => cell?_far y (blk_read HS5.out.bl (i := 1) rfl)
        have f2 := fun y => cell?_far y (blk_read HS5.out.bp (i := 0) rfl)
        have f3 := fun y => cell?_far y (blk_read HS5.out.bp (i := 1) rfl)
        have g0 := fun y => cell?_far y c0
        have g1 := fun y => cell?_far y c1'
        have g2 := fun y => cell?_far y c2
        have g3 := fun y => cell?_far y c3
        have g4 := fun y => cell?_far y c4
        have HBf := hide (fun y => below_far wr y)
        have hi0 : (0 : Int) ≤ (j : Int) := by omega
        have hi1 : (j : Int) < (n1 : Int) := by omega
        have hi2 : (j : Int) + 1 ≤ (c1 : Int) := by omega
        have hi3 : (j : Int) ≤ (j : Int) + 1 := by omega
        have hw1 : IntKind.i64.wrap ((j : Int) + 1) = (j : Int) + 1 := by rw [IntKind.wrap_i64]; omega
        have hcj : ¬ c1 = j := by omega
        clear hq hok hy hone c0 c1' c2 c3 c4
        cases q
        all_goals
          go_wp2
          refine wp_region_far (by kernel_rfl) (by kernel_rfl) ?_
          iterate 17 (go_big_quiet_step ((first | (go_at_call 25; exact far_call (HH.out _)) | (go_at_call 19; exact far_call (HFr.out _ (HBf.out _))))))
          refine wpQuiet_nil ?_
          rintro _ ⟨nq, rfl⟩
          have HE := hide (HB5.out.trans ((HBf.out nq).mono hsz))
          go_wp2
          go_roundw
          case rel => exact ⟨j + 1, by omega, by go_num, HE.out⟩
          case measure => simp [intOf]; omega
      · obtain rfl : j = n1 := by omega
        have HV := hide (plives17_any wr HS5.out.env)
        have HBL := hide HS5.out.bel
        go_wp2_with fail
        refine HV.out.mono ?_
        rintro e w6 ⟨rfl, hb6⟩
        have HE := hide (HBL.out.trans (hb6.mono HBL.out.size))
        clear hb6
        go_wp2
        go_ret
        exact ⟨rfl, HE.out⟩
end Go.Proofs.YtebccdinglohpaaGreatDoor
set_option linter.unusedSimpArgs false
set_option linter.unusedVariables false
namespace Go.Proofs.YtebccdinglohpaaGreatDoor
open Go.RowKit Go.WideShapes Go.ChangeShapes Go.ChangeAt
set_option maxRecDepth 100000 in
theorem pr_opens {H : Type} {enc : TypeId × Value → H} {W : World} {f : Nat} {cs : List Value} {x : DataW H × List MemPlace} (h : DataW.trod enc Tryz.prog W 0 (fun _ => true) true f 52 cs = some x) : ∃ y, prR W cs y := by
  obtain ⟨y0, y1, y2, y3, n, _, hl, h0, h1, h2, h3⟩ := Go.Joins.trod_struct4 Tryz.underlying52 h
  have c52 : Tryz.prog.cellsOf 52 = 5 := by kernel_rfl
  have cb : Tryz.prog.cellsOf 4 = 1 := by kernel_rfl
  have cp : Tryz.prog.cellsOf 44 = 2 := by kernel_rfl
  have ci : Tryz.prog.cellsOf 3 = 1 := by kernel_rfl
  have cu : Tryz.prog.cellsOf 42 = 1 := by kernel_rfl
  rw [c52] at hl
  match cs, hl with
  | [v0, v1, v2, v3, v4], _ =>
    simp only [cb, cp, ci, List.drop_zero, List.drop_succ_cons, List.take_succ_cons, List.take_zero] at h0 h1 h2 h3
    obtain ⟨z0, z1, k, _, _, g0, g1⟩ := trod_struct2 Tryz.underlying44 h1
    simp only [ci, cu, List.drop_zero, List.drop_succ_cons, List.take_succ_cons, List.take_zero] at g0 g1
    obtain ⟨b, e0, _⟩ := DataW.trod_bool Tryz.underlying4 h0
    obtain ⟨a, e1, _, wa⟩ := DataW.trod_int Tryz.underlying42 g0
    obtain ⟨m, e2, _, wm⟩ := DataW.trod_int Tryz.underlying3 g1
    obtain ⟨ge, e3, _, _⟩ := DataW.trod_int Tryz.underlying3 h2
    obtain ⟨le, e4, _, _⟩ := DataW.trod_int Tryz.underlying3 h3
    have b1 : 0 ≤ a ∧ a ≤ 4294967295 := by simpa [Lit.wf, IntKind.min, IntKind.max, IntKind.signed, IntKind.bits] using wa
    have b2 : -9223372036854775808 ≤ m ∧ m ≤ 9223372036854775807 := by simpa [Lit.wf, IntKind.min, IntKind.max, IntKind.signed, IntKind.bits] using wm
    simp only [List.cons.injEq, and_true] at e0 e1 e2 e3 e4
    subst e0 e1 e2 e3 e4
    obtain ⟨a', rfl⟩ := Int.eq_ofNat_of_zero_le b1.1
    exact ⟨⟨b, a', m, ge, le⟩, rfl, by show a' < _; omega, b2.1, b2.2⟩
set_option maxRecDepth 100000 in
theorem plist_open {H : Type} {enc : TypeId × Value → H} {W : World} {r : Reach} {b0 : Nat} {v : Value} {d : DataW H} {p : List MemPlace} (hv : Value.okWide Tryz.prog W r b0 41 v)
    (h : DataW.Trod enc Tryz.prog W 0 (fun _ => true) true 41 v d p) :
    ∃ (s : ByteArray) (A : Option Addr) (n c : Nat) (l : List PR), v = .agg #[.string s, .slice A n c] ∧ s.size ≤ maxLen ∧ LstAt 5 prR W A n c l := by
  obtain ⟨v0, v1, y0, y1, k, rfl, _, _, h0, h1⟩ := Go.Joins.open_agg2 Tryz.underlying41 (by kernel_rfl) (by kernel_rfl) hv h
  obtain ⟨s, e0, _, hs⟩ := DataW.trod_string Tryz.underlying9 h0
  obtain rfl : v0 = _ := by simpa using e0
  obtain ⟨A, n, c, l, e1, hl⟩ := lst_open (R := prR) Tryz.underlying39 (sz := 5) (by kernel_rfl) (by decide) (fun f cs x hx => pr_opens hx) h1
  obtain rfl : v1 = _ := by simpa using e1
  exact ⟨s, A, n, c, l, rfl, hs, hl⟩
end Go.Proofs.YtebccdinglohpaaGreatDoor
