import Derived.Test.YtgofaoommpnhpaaGreatRu2
import Derived.WalkKit
import Derived.ProofKit
import Derived.OpenShut
import Derived.Below
import Derived.Laws.OwnMore
import Derived.Laws.Rows
import Derived.Laws.MakeOwn
import Derived.Deep.AppendLies
import Derived.Deep.Draws
import Derived.Deep.OwnRows
import Derived.Deep.QuietTactic
import Derived.Maps.AppendAt
import Derived.RegionTactic
import Derived.OwnWalk
import Derived.ChangeSame
import Derived.Outline
import Derived.BigQuiet
import Derived.WalkMore
import Derived.ScopeJumps
import Derived.WalkLawsBesides
import Derived.WalkSpells
import Derived.Deep.Slices
import Derived.WideKeyArgs
import Derived.Deep.DeepHandedRow
import Derived.Deep.DeepWitnessRowRef
import Derived.Lib.LaidTab
import Derived.Lib.AppendIntMem
import Derived.LaidMore
import Derived.MakeChecks
import Derived.Lib.Itoa
import Derived.Lib.ItoaMem
import Derived.Laws.BitsLemmas
import Derived.Laws.BitsAllLaws
import Derived.Deep.Quiet
import Derived.BigRegion
import Derived.Orders
import Derived.StillTailTactics
import Derived.Lib.PathFns
import Derived.Lib.IndexBytes
import Derived.RangeFuncWrites
import Derived.RangeFuncNested
import Derived.RangeFuncBound
import Derived.RangeFuncCalls
import Derived.RangeFuncLeaves
import Derived.RangeFuncBox
import Derived.Shelf.Abstract
import Derived.Shelf.RegionOpen
import Derived.OwnWalkIn
import Derived.TacticsInMore
import Derived.LoopNIn
import Derived.LoopIn
import Derived.Lib.SmallJoins
import Derived.Lib.ParseIntBCases
import Derived.Lib.IndexMore
import Derived.Shelf.Vars
import Derived.Lib.AtoiAllCases
import Derived.SliceStrings
import Derived.Deep.RegionLaw
import Derived.Sort.LotA
import Derived.BigRegionIn
import Derived.Deep.RegionHeld3
set_option linter.unusedSimpArgs false
set_option linter.unusedVariables false
namespace Go.Proofs.YtgofaoommpnhpaaGreat
open Go.RowKit Go.WideShapes Go.ChangeShapes
attribute [local go_sem] Oper.semAt_some
set_option maxRecDepth 100000 in
set_option maxHeartbeats 8000000 in
theorem rmapUsesLaw_any (s : ByteArray) (A : Option Addr) (n c : Nat) (ts : List CU) (w : World) (h : LstAt 14 cuR w A n c ts) :
    Calls Tryz.prog 3 #[.agg #[.string s, .slice A n c]] w (GoodP true w) := by
  obtain ⟨i0, hi, hz0, hz1, hz2⟩ := info_parts sInfo
  have HK0 := hide (Blk.new w 24 #[.string s, .slice A n c])
  have hal : Below w.heap.size w (w.alloc (.cells #[.string s, .slice A n c] 24)) := (Below.refl _ w).alloc (Nat.le_refl _) _
  have HM := hide (lawMap_any s A n c ts _ (h.below cuMono hal))
  have HB := hide hal
  obtain ⟨L, hL⟩ : ∃ L, (ts.take 102).map cutCU = L := ⟨_, rfl⟩
  have hLl : L.length ≤ 102 := by rw [← hL, List.length_map, List.length_take]; omega
  have HLL : Hid ((L.take 102).map cutCU = L) := hide (by rw [← hL]; exact cutCU_twice ts)
  rw [hL] at HM
  have x0 := HK0.out.cell 0
  have x1 := HK0.out.cell 1
  clear h hal hL
  go_enter Tryz.func3, Tryz.ntmps3
  go_wp2_with fail
  refine HM.out.mono ?_
  rintro e w1 ⟨A1, n1, c1, xs1, rfl, hown1, hch1, hb1⟩
  have hn1 : n1 = L.length := by have := hch1.1; rw [hown1.1] at this; omega
  have HN1 := hide hn1
  have hn102 : n1 ≤ 102 := by omega
  clear hn1
  have hk1 := HK0.out.below hb1 (by simp)
  have hk1s : Blk ((w1.setCell ⟨w.heap.size, 0, none⟩ (.string s)).setCell ⟨w.heap.size, 1, none⟩ (.slice A1 n1 c1)) w.heap.size 24 #[.string s, .slice A1 n1 c1] := (hk1.set_ 0 _).set_ 1 _
  have ho1 := cu_setLow (g := w.heap.size) (i := 0) (u := .string s) hown1 hch1 (by simp)
  have ho2 := cu_setLow (g := w.heap.size) (i := 1) (u := .slice A1 n1 c1) ho1.1 ho1.2 (by simp)
  have HB1 : Hid (Below w.heap.size w ((w1.setCell ⟨w.heap.size, 0, none⟩ (.string s)).setCell ⟨w.heap.size, 1, none⟩ (.slice A1 n1 c1))) := hide ((((HB.out).trans (hb1.mono (by simp))).setCell (p := ⟨w.heap.size, 0, none⟩) (Nat.le_refl _) _).setCell (p := ⟨w.heap.size, 1, none⟩) (Nat.le_refl _) _)
  have HLa := hide (cu_lst ho2.1 ho2.2)
  have HK1 := hide hk1s
  have f0 := hk1.frozen 0
  have f1 := hk1.frozen 1
  have y0 := hk1.cell 0
  have y1 := hk1.cell 1
  have z0 := hk1s.cell 0
  have z1 := hk1s.cell 1
  have HM2 := hide (lawMap_any s A1 n1 c1 L _ HLa.out)
  rw [HLL.out] at HM2
  clear hown1 hch1 hb1 hk1 hk1s ho1 ho2 x0 x1
  go_wp2_with fail
  refine HM2.out.mono ?_
  rintro e w2 ⟨A2, n2, c2, xs2, rfl, hown2, hch2, hb2⟩
  have hn2 : n2 = L.length := by have := hch2.1; rw [hown2.1] at this; omega
  have HB2 := hide (HB1.out.trans (hb2.mono HB1.out.size))
  have HK2 := hide (HK1.out.below hb2 HK1.out.lt)
  have HL2 := hide (HLa.out.below cuMono hb2)
  have HU := hide (rmapUses_any s A2 n2 c2 L w2 (cu_lst hown2 hch2) (by omega))
  clear hn2 hown2 hch2 hb2 y0 y1 z0 z1 f0 f1
  go_wp2_with fail
  refine HU.out.mono ?_
  rintro e w3 ⟨v1, v2, v3, rfl, hv1, hv2, hv3, hb3⟩
  have HB3 := hide (HB2.out.trans (hb3.mono HB2.out.size))
  have HK3 := hide (HK2.out.below hb3 HK2.out.lt)
  have HL3 := hide (HL2.out.below cuMono hb3)
  have hmem := cuOk_mem HL3.out
  have HSx : Hid (∀ y ∈ L.map CU.pn, y.size ≤ maxLen) := hide (by intro y hy; obtain ⟨x, hx, rfl⟩ := List.mem_map.1 hy; exact (hmem x hx).pn)
  have HSy : Hid (∀ y ∈ L.map CU.an, y.size ≤ maxLen) := hide (by intro y hy; obtain ⟨x, hx, rfl⟩ := List.mem_map.1 hy; exact (hmem x hx).an)
  have HSz : Hid (∀ y ∈ L.map CU.cn, y.size ≤ maxLen) := hide (by intro y hy; obtain ⟨x, hx, rfl⟩ := List.mem_map.1 hy; exact (hmem x hx).cn)
  obtain ⟨P1, d1, rfl⟩ := own_slice hv1
  obtain ⟨P2, d2, rfl⟩ := own_slice hv2
  obtain ⟨P3, d3, rfl⟩ := own_slice hv3
  have HP1 := hide (strsAt_of_ownB hv1 (fun y hy => HSx.out y (namB_mem hy)))
  have HP2 := hide (strsAt_of_ownB hv2 (fun y hy => HSy.out y (namB_mem hy)))
  have HP3 := hide (strsAt_of_ownB hv3 (fun y hy => HSz.out y (namB_mem hy)))
  obtain ⟨k1, hk1⟩ : ∃ k, (namB (L.map CU.pn)).length = k := ⟨_, rfl⟩
  obtain ⟨k2, hk2⟩ : ∃ k, (namB (L.map CU.an)).length = k := ⟨_, rfl⟩
  obtain ⟨k3, hk3⟩ : ∃ k, (namB (L.map CU.cn)).length = k := ⟨_, rfl⟩
  rw [hk1] at HP1 ⊢
  rw [hk2] at HP2 ⊢
  rw [hk3] at HP3 ⊢
  clear hv1 hv2 hv3 hb3 hmem hk1 hk2 hk3
  have HS0 : Hid (RuSt w3 (((w3.alloc (.cells #[] 9)).alloc (.cells #[] 9)).alloc (.cells #[] 9)) L (.slice (some ⟨w3.heap.size, 0, none⟩) 0 0) (.slice (some ⟨w3.heap.size + 1, 0, none⟩) 0 0) (.slice (some ⟨w3.heap.size + 1 + 1, 0, none⟩) 0 0) 0) := hide
    ⟨(((Below.refl _ w3).alloc (Nat.le_refl _) _).alloc (by simp) _).alloc (by simp <;> omega) _,
      ((World.ownsRow_made _ _ _ (Nat.le_refl _) (by simp [maxLen]) (by simp)).alloc _).alloc _,
      own_baseLe ((made_at (w3.alloc (.cells #[] 9)) (by simp)).alloc _) (Nat.le_succ _), own_baseLe (made_at ((w3.alloc (.cells #[] 9)).alloc (.cells #[] 9)) (by simp)) (by omega),
      fun q a b => by simp [Value.ownBlock] at a b; omega, fun q a b => by simp [Value.ownBlock] at a b; omega, fun q a b => by simp [Value.ownBlock] at a b; omega⟩
  go_wp2
  go_loopw [6, 7, 8, 9] (fun vx vy vz iv wr => ∃ i : Nat, i ≤ n1 ∧ iv = .int .i64 (i : Nat) ∧ RuSt w3 wr L vx vy vz i) (fun _ _ _ iv _ => n1 - (intOf iv).toNat)
  case atStart => exact ⟨0, Nat.zero_le _, rfl, HS0.out⟩
  case round =>
    obtain ⟨i, hin, rfl, hst⟩ := hrel
    obtain ⟨vx, rfl⟩ : ∃ v, v = u6 := ⟨_, rfl⟩
    obtain ⟨vy, rfl⟩ : ∃ v, v = u7 := ⟨_, rfl⟩
    obtain ⟨vz, rfl⟩ : ∃ v, v = u8 := ⟨_, rfl⟩
    have HS := hide hst
    have hkr := HK3.out.below hst.bel HK3.out.lt
    have m0 := hkr.cell 0
    have m1 := hkr.cell 1
    clear hst hkr
    by_cases hlt : i < n1
    · obtain ⟨g, o, x, B, m, d, rfl, hg, hx, hok, hu, hc⟩ := CUat HL3.out hlt
      have HXpn := hide (strB_snoc (l := L.map CU.pn) (i := i) (x := x.pn) (by rw [List.getElem?_map, hx]; rfl))
      have HXan := hide (strB_snoc (l := L.map CU.an) (i := i) (x := x.an) (by rw [List.getElem?_map, hx]; rfl))
      have HXcn := hide (strB_snoc (l := L.map CU.cn) (i := i) (x := x.cn) (by rw [List.getElem?_map, hx]; rfl))
      have hi0 : (0 : Int) ≤ (i : Int) := by omega
      have hi1 : (i : Int) < (n1 : Int) := by omega
      have hbr := HS.out.bel
      have HM1 : Hid (∀ W, Below w3.heap.size wr W → W.cell? ⟨w.heap.size, 1, none⟩ = some (.slice (some ⟨g, o, none⟩) n1 c1)) := hide (fun W hb => by have := ((HK3.out.below hbr HK3.out.lt).below hb HK3.out.lt).cell 1; simpa using this)
      have HC2 : Hid (∀ W, Below w3.heap.size wr W → W.cell? ⟨g, o + i * 14 + 2, none⟩ = some (.string x.pn)) := hide (fun W hb => ((hbr.trans hb).cell (p := ⟨g, o + i * 14 + 2, none⟩) hg).trans (hc 2 _ rfl))
      have HC3 : Hid (∀ W, Below w3.heap.size wr W → W.cell? ⟨g, o + i * 14 + 3, none⟩ = some (.string x.an)) := hide (fun W hb => ((hbr.trans hb).cell (p := ⟨g, o + i * 14 + 3, none⟩) hg).trans (hc 3 _ rfl))
      have HC4 : Hid (∀ W, Below w3.heap.size wr W → W.cell? ⟨g, o + i * 14 + 4, none⟩ = some (.string x.cn)) := hide (fun W hb => ((hbr.trans hb).cell (p := ⟨g, o + i * 14 + 4, none⟩) hg).trans (hc 4 _ rfl))
      clear hx hok hu hc hbr
      go_wp2
      refine wp_region_relET 27 w3.heap.size HS.out.bel.size [(fun v _ => v = vx), (fun v _ => v = .pointer (some ⟨w.heap.size, 1, none⟩)), (fun v _ => v = .slice (some ⟨g, o, none⟩) n1 c1), (fun v _ => v = .int .i64 (i : Int)), (fun v _ => v = .pointer (some ⟨g, o + i * 14, none⟩)), (fun v _ => v = .pointer (some ⟨g, o + i * 14 + 2, none⟩)), (fun v _ => v = .string x.pn), (bsRel wr.heap.size x.pn), (apRel w3.heap.size vy.ownBlock vz.ownBlock (i + 1) (strB ((L.map CU.pn).take (i + 1)))), (fun v _ => v = vy), (fun v _ => v = .pointer (some ⟨w.heap.size, 1, none⟩)), (fun v _ => v = .slice (some ⟨g, o, none⟩) n1 c1), (fun v _ => v = .int .i64 (i : Int)), (fun v _ => v = .pointer (some ⟨g, o + i * 14, none⟩)), (fun v _ => v = .pointer (some ⟨g, o + i * 14 + 3, none⟩)), (fun v _ => v = .string x.an), (bsRel wr.heap.size x.an), (apRel w3.heap.size vx.ownBlock vz.ownBlock (i + 1) (strB ((L.map CU.an).take (i + 1)))), (fun v _ => v = vz), (fun v _ => v = .pointer (some ⟨w.heap.size, 1, none⟩)), (fun v _ => v = .slice (some ⟨g, o, none⟩) n1 c1), (fun v _ => v = .int .i64 (i : Int)), (fun v _ => v = .pointer (some ⟨g, o + i * 14, none⟩)), (fun v _ => v = .pointer (some ⟨g, o + i * 14 + 4, none⟩)), (fun v _ => v = .string x.cn), (bsRel wr.heap.size x.cn), (apRel w3.heap.size vx.ownBlock vy.ownBlock (i + 1) (strB ((L.map CU.cn).take (i + 1))))] (psU w3.heap.size vx vy vz i (strB ((L.map CU.pn).take i)) (strB ((L.map CU.an).take i)) (strB ((L.map CU.cn).take i))) (effU vx vy vz) prU (by kernel_rfl) (by kernel_rfl) (by kernel_rfl) (by kernel_rfl) (by kernel_rfl) (effU_below HS.out.rx HS.out.ry HS.out.rz) (fun i2 j2 v2 wa wb hij hB he h => by
        unfold effU at he
        split at he
        · rename_i e; subst e; refine keepAll_at (E := fun w1 w2 => w1.grownBy w2 vx.ownBlock) (x := 8) (k := 0) ?_ (by omega) he h; exact ⟨fun _ v w1 w2 he h => h, fun _ v w1 w2 he h => h, fun _ v w1 w2 he h => h, fun _ v w1 w2 he h => h, fun _ v w1 w2 he h => h, fun _ v w1 w2 he h => h, fun _ v w1 w2 he h => h, fun _ v w1 w2 he h => bsRel.grown h he (fun q hq => own_block_lt HS.out.rx q hq), fun hn => absurd rfl hn, fun _ v w1 w2 he h => h, fun _ v w1 w2 he h => h, fun _ v w1 w2 he h => h, fun _ v w1 w2 he h => h, fun _ v w1 w2 he h => h, fun _ v w1 w2 he h => h, fun _ v w1 w2 he h => h, fun _ v w1 w2 he h => bsRel.grown h he (fun q hq => own_block_lt HS.out.rx q hq), fun _ v w1 w2 he h => apRel.grown h he (fun q hq => (h.2 q hq).1), fun _ v w1 w2 he h => h, fun _ v w1 w2 he h => h, fun _ v w1 w2 he h => h, fun _ v w1 w2 he h => h, fun _ v w1 w2 he h => h, fun _ v w1 w2 he h => h, fun _ v w1 w2 he h => h, fun _ v w1 w2 he h => bsRel.grown h he (fun q hq => own_block_lt HS.out.rx q hq), fun _ v w1 w2 he h => apRel.grown h he (fun q hq => (h.2 q hq).1), trivial⟩
        · split at he
          · rename_i e; subst e; refine keepAll_at (E := fun w1 w2 => w1.grownBy w2 vy.ownBlock) (x := 17) (k := 0) ?_ (by omega) he h; exact ⟨fun _ v w1 w2 he h => h, fun _ v w1 w2 he h => h, fun _ v w1 w2 he h => h, fun _ v w1 w2 he h => h, fun _ v w1 w2 he h => h, fun _ v w1 w2 he h => h, fun _ v w1 w2 he h => h, fun _ v w1 w2 he h => bsRel.grown h he (fun q hq => own_block_lt HS.out.ry q hq), fun _ v w1 w2 he h => apRel.grown h he (fun q hq => (h.2 q hq).1), fun _ v w1 w2 he h => h, fun _ v w1 w2 he h => h, fun _ v w1 w2 he h => h, fun _ v w1 w2 he h => h, fun _ v w1 w2 he h => h, fun _ v w1 w2 he h => h, fun _ v w1 w2 he h => h, fun _ v w1 w2 he h => bsRel.grown h he (fun q hq => own_block_lt HS.out.ry q hq), fun hn => absurd rfl hn, fun _ v w1 w2 he h => h, fun _ v w1 w2 he h => h, fun _ v w1 w2 he h => h, fun _ v w1 w2 he h => h, fun _ v w1 w2 he h => h, fun _ v w1 w2 he h => h, fun _ v w1 w2 he h => h, fun _ v w1 w2 he h => bsRel.grown h he (fun q hq => own_block_lt HS.out.ry q hq), fun _ v w1 w2 he h => apRel.grown h he (fun q hq => (h.2 q hq).2), trivial⟩
          · split at he
            · rename_i e; subst e; refine keepAll_at (E := fun w1 w2 => w1.grownBy w2 vz.ownBlock) (x := 26) (k := 0) ?_ (by omega) he h; exact ⟨fun _ v w1 w2 he h => h, fun _ v w1 w2 he h => h, fun _ v w1 w2 he h => h, fun _ v w1 w2 he h => h, fun _ v w1 w2 he h => h, fun _ v w1 w2 he h => h, fun _ v w1 w2 he h => h, fun _ v w1 w2 he h => bsRel.grown h he (fun q hq => own_block_lt HS.out.rz q hq), fun _ v w1 w2 he h => apRel.grown h he (fun q hq => (h.2 q hq).2), fun _ v w1 w2 he h => h, fun _ v w1 w2 he h => h, fun _ v w1 w2 he h => h, fun _ v w1 w2 he h => h, fun _ v w1 w2 he h => h, fun _ v w1 w2 he h => h, fun _ v w1 w2 he h => h, fun _ v w1 w2 he h => bsRel.grown h he (fun q hq => own_block_lt HS.out.rz q hq), fun _ v w1 w2 he h => apRel.grown h he (fun q hq => (h.2 q hq).2), fun _ v w1 w2 he h => h, fun _ v w1 w2 he h => h, fun _ v w1 w2 he h => h, fun _ v w1 w2 he h => h, fun _ v w1 w2 he h => h, fun _ v w1 w2 he h => h, fun _ v w1 w2 he h => h, fun _ v w1 w2 he h => bsRel.grown h he (fun q hq => own_block_lt HS.out.rz q hq), fun hn => absurd rfl hn, trivial⟩
            · refine relMono _ ?_ i2 v2 wa wb he h; exact ⟨fun _ _ _ _ h => h, fun _ _ _ _ h => h, fun _ _ _ _ h => h, fun _ _ _ _ h => h, fun _ _ _ _ h => h, fun _ _ _ _ h => h, fun _ _ _ _ h => h, fun v w w2 hb h => bsRel.below h hb, fun v w w2 hb h => apRel.below h hb, fun _ _ _ _ h => h, fun _ _ _ _ h => h, fun _ _ _ _ h => h, fun _ _ _ _ h => h, fun _ _ _ _ h => h, fun _ _ _ _ h => h, fun _ _ _ _ h => h, fun v w w2 hb h => bsRel.below h hb, fun v w w2 hb h => apRel.below h hb, fun _ _ _ _ h => h, fun _ _ _ _ h => h, fun _ _ _ _ h => h, fun _ _ _ _ h => h, fun _ _ _ _ h => h, fun _ _ _ _ h => h, fun _ _ _ _ h => h, fun v w w2 hb h => bsRel.below h hb, fun v w w2 hb h => apRel.below h hb, trivial⟩) (psU_keep HS.out.xy HS.out.xz HS.out.yz) prU_sym (fun j _ => ⟨fun _ => HS.out.rx.drew, fun _ => HS.out.ry.drew, fun _ => HS.out.rz.drew⟩) ⟨?_, ?_, ?_, ?_, ?_, ?_, ?_, ?_, ?_, ?_, ?_, ?_, ?_, ?_, ?_, ?_, ?_, ?_, ?_, ?_, ?_, ?_, ?_, ?_, ?_, ?_, ?_, trivial⟩ ?_
      · refine relE_of rfl (fun j v v2 _ hi => absurd hi (by decide)) ?_
        intro Dn Ac w5 hp
        have hb := hp.bel
        have a6 : Ac.eval (.tmp 6) = vx := hp.out 6 (by rfl)
        have hc := evalC Ac; have hf := evalF Ac; have hgl := evalG Ac
        obtain ⟨ρ, hρ⟩ : ∃ ρ, Ac.eval = ρ := ⟨_, rfl⟩
        rw [hρ] at a6 hc hf hgl
        exact relPure hρ (vx) (by simp [go_sem, hc, hf, hgl, ↓IntWalk.iteOmega, a6, *]) rfl
      · refine relE_of rfl (fun j v v2 _ hi => absurd hi (by decide)) ?_
        intro Dn Ac w5 hp
        have hb := hp.bel
        have a1 : Ac.eval (.tmp 1) = .pointer (some ⟨w.heap.size, 0, none⟩) := hp.out 1 (by rfl)
        have hc := evalC Ac; have hf := evalF Ac; have hgl := evalG Ac
        obtain ⟨ρ, hρ⟩ : ∃ ρ, Ac.eval = ρ := ⟨_, rfl⟩
        rw [hρ] at a1 hc hf hgl
        exact relPure hρ (.pointer (some ⟨w.heap.size, 1, none⟩)) (by simp [go_sem, hc, hf, hgl, ↓IntWalk.iteOmega, a1, *]) rfl
      · refine relE_of rfl (fun j v v2 _ hi => absurd hi (by decide)) ?_
        intro Dn Ac w5 hp
        have hb := hp.bel
        have a30 : Ac.eval (.tmp 30) = .pointer (some ⟨w.heap.size, 1, none⟩) := hp.dep 1 (by kernel_rfl)
        have z1 := HM1.out w5 hb
        have hc := evalC Ac; have hf := evalF Ac; have hgl := evalG Ac
        obtain ⟨ρ, hρ⟩ : ∃ ρ, Ac.eval = ρ := ⟨_, rfl⟩
        rw [hρ] at a30 hc hf hgl
        exact relPure hρ (.slice (some ⟨g, o, none⟩) n1 c1) (by simp [go_sem, hc, hf, hgl, ↓IntWalk.iteOmega, a30, *]) rfl
      · refine relE_of rfl (fun j v v2 _ hi => absurd hi (by decide)) ?_
        intro Dn Ac w5 hp
        have hb := hp.bel
        have a9 : Ac.eval (.tmp 9) = .int .i64 (i : Int) := hp.out 9 (by rfl)
        have hc := evalC Ac; have hf := evalF Ac; have hgl := evalG Ac
        obtain ⟨ρ, hρ⟩ : ∃ ρ, Ac.eval = ρ := ⟨_, rfl⟩
        rw [hρ] at a9 hc hf hgl
        exact relPure hρ (.int .i64 (i : Int)) (by simp [go_sem, hc, hf, hgl, ↓IntWalk.iteOmega, a9, *]) rfl
      · refine relE_of rfl (fun j v v2 _ hi => absurd hi (by decide)) ?_
        intro Dn Ac w5 hp
        have hb := hp.bel
        have a31 : Ac.eval (.tmp 31) = .slice (some ⟨g, o, none⟩) n1 c1 := hp.dep 2 (by kernel_rfl)
        have a32 : Ac.eval (.tmp 32) = .int .i64 (i : Int) := hp.dep 3 (by kernel_rfl)
        have hc := evalC Ac; have hf := evalF Ac; have hgl := evalG Ac
        obtain ⟨ρ, hρ⟩ : ∃ ρ, Ac.eval = ρ := ⟨_, rfl⟩
        rw [hρ] at a31 a32 hc hf hgl
        exact relPure hρ (.pointer (some ⟨g, o + i * 14, none⟩)) (by simp [go_sem, hc, hf, hgl, ↓IntWalk.iteOmega, a31, a32, *]) rfl
      · refine relE_of rfl (fun j v v2 _ hi => absurd hi (by decide)) ?_
        intro Dn Ac w5 hp
        have hb := hp.bel
        have a33 : Ac.eval (.tmp 33) = .pointer (some ⟨g, o + i * 14, none⟩) := hp.dep 4 (by kernel_rfl)
        have hc := evalC Ac; have hf := evalF Ac; have hgl := evalG Ac
        obtain ⟨ρ, hρ⟩ : ∃ ρ, Ac.eval = ρ := ⟨_, rfl⟩
        rw [hρ] at a33 hc hf hgl
        exact relPure hρ (.pointer (some ⟨g, o + i * 14 + 2, none⟩)) (by simp [go_sem, hc, hf, hgl, ↓IntWalk.iteOmega, a33, *]) rfl
      · refine relE_of rfl (fun j v v2 _ hi => absurd hi (by decide)) ?_
        intro Dn Ac w5 hp
        have hb := hp.bel
        have a34 : Ac.eval (.tmp 34) = .pointer (some ⟨g, o + i * 14 + 2, none⟩) := hp.dep 5 (by kernel_rfl)
        have z1 := HM1.out w5 hb
        have z2 := HC2.out w5 hb
        have hc := evalC Ac; have hf := evalF Ac; have hgl := evalG Ac
        obtain ⟨ρ, hρ⟩ : ∃ ρ, Ac.eval = ρ := ⟨_, rfl⟩
        rw [hρ] at a34 hc hf hgl
        exact relPure hρ (.string x.pn) (by simp [go_sem, hc, hf, hgl, ↓IntWalk.iteOmega, a34, *]) rfl
      · refine relE_of rfl (fun j v v2 _ hi => absurd hi (by decide)) ?_
        intro Dn Ac w5 hp
        have hb := hp.bel
        have a35 : Ac.eval (.tmp 35) = .string x.pn := hp.dep 6 (by kernel_rfl)
        have hc := evalC Ac; have hf := evalF Ac; have hgl := evalG Ac
        obtain ⟨ρ, hρ⟩ : ∃ ρ, Ac.eval = ρ := ⟨_, rfl⟩
        rw [hρ] at a35 hc hf hgl
        exact relVal hρ (.slice (some ⟨w5.heap.size, 0, none⟩) 1 1) (w5.alloc (.cells #[.string x.pn] 9)) (by simp [go_sem, hc, hf, hgl, ↓IntWalk.iteOmega, a35, *]) ⟨_, rfl, Blk.new w5 _ _, hb.size⟩ ((Below.refl _ _).alloc (Nat.le_refl _) _)
      · skip
        intro Dn Ac w5 hp
        have hb := hp.bel
        have a29 : Ac.eval (.tmp 29) = vx := hp.dep 0 (by kernel_rfl)
        obtain ⟨R36, a36, hR36, hRb36⟩ := hp.dep 7 (by kernel_rfl)
        change Ac.eval (.tmp 36) = _ at a36
        have hw5 := hp.bel.size
        have hs3 := HS.out.bel.size
        refine wp_append_any w5 (.tmp 29) (.tmp 36) 26 rfl w3.heap.size 9 i0 _ 1 16 Tryz.underlying26 hi hz0 hz1 hz2 rfl (by decide) vx i _ a29 (hp.pre.1 rfl) w5.heap.size (some ⟨R36, 0, none⟩) 1 1 [.string x.pn] a36 (reads_blkN hR36 hR36.lt rfl rfl) (by simp [Value.oneCell']) (by unfold maxLen; omega) (by omega) (by omega) ?_
        intro v2 w6 h2 h3 h4
        refine ⟨v2, rfl, ⟨by rw [HXpn.out]; exact h2, ?_⟩, h3, ?_⟩
        · intro q hq
          rcases h4 with h4 | h4
          · rw [h4] at hq
            exact ⟨HS.out.xy q hq, HS.out.xz q hq⟩
          · rw [h4] at hq
            injection hq with hq
            refine ⟨fun e => ?_, fun e => ?_⟩
            · have := own_block_lt HS.out.ry q e; omega
            · have := own_block_lt HS.out.rz q e; omega
        · intro j hD hij _ hj
          have hh := hp.has j hD
          have key : ∀ (n : Nat) (xs : List Value) (Y Z : Option Nat) (u : Value), apRel w3.heap.size Y Z n xs u w5 → (vx.ownBlock = Y ∨ vx.ownBlock = Z) → ApartV v2 u := by
            intro n xs Y Z u hu hor q hq hq2
            rcases h4 with h4 | h4
            · rw [h4] at hq
              have := hu.2 q hq2
              rcases hor with e | e <;> rw [e] at hq
              · exact this.1 hq
              · exact this.2 hq
            · rw [h4] at hq
              injection hq with hq
              have := own_block_lt hu.1 q hq2
              omega
          rcases hj with rfl | rfl | rfl
          · exact absurd rfl hij
          · exact key _ _ _ _ _ hh (.inl rfl)
          · exact key _ _ _ _ _ hh (.inl rfl)
      · refine relE_of rfl (fun j v v2 _ hi => absurd hi (by decide)) ?_
        intro Dn Ac w5 hp
        have hb := hp.bel
        have a7 : Ac.eval (.tmp 7) = vy := hp.out 7 (by rfl)
        have hc := evalC Ac; have hf := evalF Ac; have hgl := evalG Ac
        obtain ⟨ρ, hρ⟩ : ∃ ρ, Ac.eval = ρ := ⟨_, rfl⟩
        rw [hρ] at a7 hc hf hgl
        exact relPure hρ (vy) (by simp [go_sem, hc, hf, hgl, ↓IntWalk.iteOmega, a7, *]) rfl
      · refine relE_of rfl (fun j v v2 _ hi => absurd hi (by decide)) ?_
        intro Dn Ac w5 hp
        have hb := hp.bel
        have a1 : Ac.eval (.tmp 1) = .pointer (some ⟨w.heap.size, 0, none⟩) := hp.out 1 (by rfl)
        have hc := evalC Ac; have hf := evalF Ac; have hgl := evalG Ac
        obtain ⟨ρ, hρ⟩ : ∃ ρ, Ac.eval = ρ := ⟨_, rfl⟩
        rw [hρ] at a1 hc hf hgl
        exact relPure hρ (.pointer (some ⟨w.heap.size, 1, none⟩)) (by simp [go_sem, hc, hf, hgl, ↓IntWalk.iteOmega, a1, *]) rfl
      · refine relE_of rfl (fun j v v2 _ hi => absurd hi (by decide)) ?_
        intro Dn Ac w5 hp
        have hb := hp.bel
        have a39 : Ac.eval (.tmp 39) = .pointer (some ⟨w.heap.size, 1, none⟩) := hp.dep 10 (by kernel_rfl)
        have z1 := HM1.out w5 hb
        have hc := evalC Ac; have hf := evalF Ac; have hgl := evalG Ac
        obtain ⟨ρ, hρ⟩ : ∃ ρ, Ac.eval = ρ := ⟨_, rfl⟩
        rw [hρ] at a39 hc hf hgl
        exact relPure hρ (.slice (some ⟨g, o, none⟩) n1 c1) (by simp [go_sem, hc, hf, hgl, ↓IntWalk.iteOmega, a39, *]) rfl
      · refine relE_of rfl (fun j v v2 _ hi => absurd hi (by decide)) ?_
        intro Dn Ac w5 hp
        have hb := hp.bel
        have a9 : Ac.eval (.tmp 9) = .int .i64 (i : Int) := hp.out 9 (by rfl)
        have hc := evalC Ac; have hf := evalF Ac; have hgl := evalG Ac
        obtain ⟨ρ, hρ⟩ : ∃ ρ, Ac.eval = ρ := ⟨_, rfl⟩
        rw [hρ] at a9 hc hf hgl
        exact relPure hρ (.int .i64 (i : Int)) (by simp [go_sem, hc, hf, hgl, ↓IntWalk.iteOmega, a9, *]) rfl
      · refine relE_of rfl (fun j v v2 _ hi => absurd hi (by decide)) ?_
        intro Dn Ac w5 hp
        have hb := hp.bel
        have a40 : Ac.eval (.tmp 40) = .slice (some ⟨g, o, none⟩) n1 c1 := hp.dep 11 (by kernel_rfl)
        have a41 : Ac.eval (.tmp 41) = .int .i64 (i : Int) := hp.dep 12 (by kernel_rfl)
        have hc := evalC Ac; have hf := evalF Ac; have hgl := evalG Ac
        obtain ⟨ρ, hρ⟩ : ∃ ρ, Ac.eval = ρ := ⟨_, rfl⟩
        rw [hρ] at a40 a41 hc hf hgl
        exact relPure hρ (.pointer (some ⟨g, o + i * 14, none⟩)) (by simp [go_sem, hc, hf, hgl, ↓IntWalk.iteOmega, a40, a41, *]) rfl
      · refine relE_of rfl (fun j v v2 _ hi => absurd hi (by decide)) ?_
        intro Dn Ac w5 hp
        have hb := hp.bel
        have a42 : Ac.eval (.tmp 42) = .pointer (some ⟨g, o + i * 14, none⟩) := hp.dep 13 (by kernel_rfl)
        have hc := evalC Ac; have hf := evalF Ac; have hgl := evalG Ac
        obtain ⟨ρ, hρ⟩ : ∃ ρ, Ac.eval = ρ := ⟨_, rfl⟩
        rw [hρ] at a42 hc hf hgl
        exact relPure hρ (.pointer (some ⟨g, o + i * 14 + 3, none⟩)) (by simp [go_sem, hc, hf, hgl, ↓IntWalk.iteOmega, a42, *]) rfl
      · refine relE_of rfl (fun j v v2 _ hi => absurd hi (by decide)) ?_
        intro Dn Ac w5 hp
        have hb := hp.bel
        have a43 : Ac.eval (.tmp 43) = .pointer (some ⟨g, o + i * 14 + 3, none⟩) := hp.dep 14 (by kernel_rfl)
        have z1 := HM1.out w5 hb
        have z2 := HC3.out w5 hb
        have hc := evalC Ac; have hf := evalF Ac; have hgl := evalG Ac
        obtain ⟨ρ, hρ⟩ : ∃ ρ, Ac.eval = ρ := ⟨_, rfl⟩
        rw [hρ] at a43 hc hf hgl
        exact relPure hρ (.string x.an) (by simp [go_sem, hc, hf, hgl, ↓IntWalk.iteOmega, a43, *]) rfl
      · refine relE_of rfl (fun j v v2 _ hi => absurd hi (by decide)) ?_
        intro Dn Ac w5 hp
        have hb := hp.bel
        have a44 : Ac.eval (.tmp 44) = .string x.an := hp.dep 15 (by kernel_rfl)
        have hc := evalC Ac; have hf := evalF Ac; have hgl := evalG Ac
        obtain ⟨ρ, hρ⟩ : ∃ ρ, Ac.eval = ρ := ⟨_, rfl⟩
        rw [hρ] at a44 hc hf hgl
        exact relVal hρ (.slice (some ⟨w5.heap.size, 0, none⟩) 1 1) (w5.alloc (.cells #[.string x.an] 9)) (by simp [go_sem, hc, hf, hgl, ↓IntWalk.iteOmega, a44, *]) ⟨_, rfl, Blk.new w5 _ _, hb.size⟩ ((Below.refl _ _).alloc (Nat.le_refl _) _)
      · skip
        intro Dn Ac w5 hp
        have hb := hp.bel
        have a38 : Ac.eval (.tmp 38) = vy := hp.dep 9 (by kernel_rfl)
        obtain ⟨R45, a45, hR45, hRb45⟩ := hp.dep 16 (by kernel_rfl)
        change Ac.eval (.tmp 45) = _ at a45
        have hw5 := hp.bel.size
        have hs3 := HS.out.bel.size
        refine wp_append_any w5 (.tmp 38) (.tmp 45) 26 rfl w3.heap.size 9 i0 _ 1 16 Tryz.underlying26 hi hz0 hz1 hz2 rfl (by decide) vy i _ a38 (hp.pre.2.1 rfl) w5.heap.size (some ⟨R45, 0, none⟩) 1 1 [.string x.an] a45 (reads_blkN hR45 hR45.lt rfl rfl) (by simp [Value.oneCell']) (by unfold maxLen; omega) (by omega) (by omega) ?_
        intro v2 w6 h2 h3 h4
        refine ⟨v2, rfl, ⟨by rw [HXan.out]; exact h2, ?_⟩, h3, ?_⟩
        · intro q hq
          rcases h4 with h4 | h4
          · rw [h4] at hq
            exact ⟨HS.out.yx q hq, HS.out.yz q hq⟩
          · rw [h4] at hq
            injection hq with hq
            refine ⟨fun e => ?_, fun e => ?_⟩
            · have := own_block_lt HS.out.rx q e; omega
            · have := own_block_lt HS.out.rz q e; omega
        · intro j hD hij _ hj
          have hh := hp.has j hD
          have key : ∀ (n : Nat) (xs : List Value) (Y Z : Option Nat) (u : Value), apRel w3.heap.size Y Z n xs u w5 → (vy.ownBlock = Y ∨ vy.ownBlock = Z) → ApartV v2 u := by
            intro n xs Y Z u hu hor q hq hq2
            rcases h4 with h4 | h4
            · rw [h4] at hq
              have := hu.2 q hq2
              rcases hor with e | e <;> rw [e] at hq
              · exact this.1 hq
              · exact this.2 hq
            · rw [h4] at hq
              injection hq with hq
              have := own_block_lt hu.1 q hq2
              omega
          rcases hj with rfl | rfl | rfl
          · exact key _ _ _ _ _ hh (.inl rfl)
          · exact absurd rfl hij
          · exact key _ _ _ _ _ hh (.inr rfl)
      · refine relE_of rfl (fun j v v2 _ hi => absurd hi (by decide)) ?_
        intro Dn Ac w5 hp
        have hb := hp.bel
        have a8 : Ac.eval (.tmp 8) = vz := hp.out 8 (by rfl)
        have hc := evalC Ac; have hf := evalF Ac; have hgl := evalG Ac
        obtain ⟨ρ, hρ⟩ : ∃ ρ, Ac.eval = ρ := ⟨_, rfl⟩
        rw [hρ] at a8 hc hf hgl
        exact relPure hρ (vz) (by simp [go_sem, hc, hf, hgl, ↓IntWalk.iteOmega, a8, *]) rfl
      · refine relE_of rfl (fun j v v2 _ hi => absurd hi (by decide)) ?_
        intro Dn Ac w5 hp
        have hb := hp.bel
        have a1 : Ac.eval (.tmp 1) = .pointer (some ⟨w.heap.size, 0, none⟩) := hp.out 1 (by rfl)
        have hc := evalC Ac; have hf := evalF Ac; have hgl := evalG Ac
        obtain ⟨ρ, hρ⟩ : ∃ ρ, Ac.eval = ρ := ⟨_, rfl⟩
        rw [hρ] at a1 hc hf hgl
        exact relPure hρ (.pointer (some ⟨w.heap.size, 1, none⟩)) (by simp [go_sem, hc, hf, hgl, ↓IntWalk.iteOmega, a1, *]) rfl
      · refine relE_of rfl (fun j v v2 _ hi => absurd hi (by decide)) ?_
        intro Dn Ac w5 hp
        have hb := hp.bel
        have a48 : Ac.eval (.tmp 48) = .pointer (some ⟨w.heap.size, 1, none⟩) := hp.dep 19 (by kernel_rfl)
        have z1 := HM1.out w5 hb
        have hc := evalC Ac; have hf := evalF Ac; have hgl := evalG Ac
        obtain ⟨ρ, hρ⟩ : ∃ ρ, Ac.eval = ρ := ⟨_, rfl⟩
        rw [hρ] at a48 hc hf hgl
        exact relPure hρ (.slice (some ⟨g, o, none⟩) n1 c1) (by simp [go_sem, hc, hf, hgl, ↓IntWalk.iteOmega, a48, *]) rfl
      · refine relE_of rfl (fun j v v2 _ hi => absurd hi (by decide)) ?_
        intro Dn Ac w5 hp
        have hb := hp.bel
        have a9 : Ac.eval (.tmp 9) = .int .i64 (i : Int) := hp.out 9 (by rfl)
        have hc := evalC Ac; have hf := evalF Ac; have hgl := evalG Ac
        obtain ⟨ρ, hρ⟩ : ∃ ρ, Ac.eval = ρ := ⟨_, rfl⟩
        rw [hρ] at a9 hc hf hgl
        exact relPure hρ (.int .i64 (i : Int)) (by simp [go_sem, hc, hf, hgl, ↓IntWalk.iteOmega, a9, *]) rfl
      · refine relE_of rfl (fun j v v2 _ hi => absurd hi (by decide)) ?_
        intro Dn Ac w5 hp
        have hb := hp.bel
        have a49 : Ac.eval (.tmp 49) = .slice (some ⟨g, o, none⟩) n1 c1 := hp.dep 20 (by kernel_rfl)
        have a50 : Ac.eval (.tmp 50) = .int .i64 (i : Int) := hp.dep 21 (by kernel_rfl)
        have hc := evalC Ac; have hf := evalF Ac; have hgl := evalG Ac
        obtain ⟨ρ, hρ⟩ : ∃ ρ, Ac.eval = ρ := ⟨_, rfl⟩
        rw [hρ] at a49 a50 hc hf hgl
        exact relPure hρ (.pointer (some ⟨g, o + i * 14, none⟩)) (by simp [go_sem, hc, hf, hgl, ↓IntWalk.iteOmega, a49, a50, *]) rfl
      · refine relE_of rfl (fun j v v2 _ hi => absurd hi (by decide)) ?_
        intro Dn Ac w5 hp
        have hb := hp.bel
        have a51 : Ac.eval (.tmp 51) = .pointer (some ⟨g, o + i * 14, none⟩) := hp.dep 22 (by kernel_rfl)
        have hc := evalC Ac; have hf := evalF Ac; have hgl := evalG Ac
        obtain ⟨ρ, hρ⟩ : ∃ ρ, Ac.eval = ρ := ⟨_, rfl⟩
        rw [hρ] at a51 hc hf hgl
        exact relPure hρ (.pointer (some ⟨g, o + i * 14 + 4, none⟩)) (by simp [go_sem, hc, hf, hgl, ↓IntWalk.iteOmega, a51, *]) rfl
      · refine relE_of rfl (fun j v v2 _ hi => absurd hi (by decide)) ?_
        intro Dn Ac w5 hp
        have hb := hp.bel
        have a52 : Ac.eval (.tmp 52) = .pointer (some ⟨g, o + i * 14 + 4, none⟩) := hp.dep 23 (by kernel_rfl)
        have z1 := HM1.out w5 hb
        have z2 := HC4.out w5 hb
        have hc := evalC Ac; have hf := evalF Ac; have hgl := evalG Ac
        obtain ⟨ρ, hρ⟩ : ∃ ρ, Ac.eval = ρ := ⟨_, rfl⟩
        rw [hρ] at a52 hc hf hgl
        exact relPure hρ (.string x.cn) (by simp [go_sem, hc, hf, hgl, ↓IntWalk.iteOmega, a52, *]) rfl
      · refine relE_of rfl (fun j v v2 _ hi => absurd hi (by decide)) ?_
        intro Dn Ac w5 hp
        have hb := hp.bel
        have a53 : Ac.eval (.tmp 53) = .string x.cn := hp.dep 24 (by kernel_rfl)
        have hc := evalC Ac; have hf := evalF Ac; have hgl := evalG Ac
        obtain ⟨ρ, hρ⟩ : ∃ ρ, Ac.eval = ρ := ⟨_, rfl⟩
        rw [hρ] at a53 hc hf hgl
        exact relVal hρ (.slice (some ⟨w5.heap.size, 0, none⟩) 1 1) (w5.alloc (.cells #[.string x.cn] 9)) (by simp [go_sem, hc, hf, hgl, ↓IntWalk.iteOmega, a53, *]) ⟨_, rfl, Blk.new w5 _ _, hb.size⟩ ((Below.refl _ _).alloc (Nat.le_refl _) _)
      · skip
        intro Dn Ac w5 hp
        have hb := hp.bel
        have a47 : Ac.eval (.tmp 47) = vz := hp.dep 18 (by kernel_rfl)
        obtain ⟨R54, a54, hR54, hRb54⟩ := hp.dep 25 (by kernel_rfl)
        change Ac.eval (.tmp 54) = _ at a54
        have hw5 := hp.bel.size
        have hs3 := HS.out.bel.size
        refine wp_append_any w5 (.tmp 47) (.tmp 54) 26 rfl w3.heap.size 9 i0 _ 1 16 Tryz.underlying26 hi hz0 hz1 hz2 rfl (by decide) vz i _ a47 (hp.pre.2.2 rfl) w5.heap.size (some ⟨R54, 0, none⟩) 1 1 [.string x.cn] a54 (reads_blkN hR54 hR54.lt rfl rfl) (by simp [Value.oneCell']) (by unfold maxLen; omega) (by omega) (by omega) ?_
        intro v2 w6 h2 h3 h4
        refine ⟨v2, rfl, ⟨by rw [HXcn.out]; exact h2, ?_⟩, h3, ?_⟩
        · intro q hq
          rcases h4 with h4 | h4
          · rw [h4] at hq
            exact ⟨HS.out.zx q hq, HS.out.zy q hq⟩
          · rw [h4] at hq
            injection hq with hq
            refine ⟨fun e => ?_, fun e => ?_⟩
            · have := own_block_lt HS.out.rx q e; omega
            · have := own_block_lt HS.out.ry q e; omega
        · intro j hD hij _ hj
          have hh := hp.has j hD
          have key : ∀ (n : Nat) (xs : List Value) (Y Z : Option Nat) (u : Value), apRel w3.heap.size Y Z n xs u w5 → (vz.ownBlock = Y ∨ vz.ownBlock = Z) → ApartV v2 u := by
            intro n xs Y Z u hu hor q hq hq2
            rcases h4 with h4 | h4
            · rw [h4] at hq
              have := hu.2 q hq2
              rcases hor with e | e <;> rw [e] at hq
              · exact this.1 hq
              · exact this.2 hq
            · rw [h4] at hq
              injection hq with hq
              have := own_block_lt hu.1 q hq2
              omega
          rcases hj with rfl | rfl | rfl
          · exact key _ _ _ _ _ hh (.inr rfl)
          · exact key _ _ _ _ _ hh (.inr rfl)
          · exact absurd rfl hij
      intro u w8 hb7 hall hprs
      have r8 : apRel w3.heap.size vy.ownBlock vz.ownBlock (i + 1) (strB ((L.map CU.pn).take (i + 1))) (u 8) w8 := relAll_at hall (i := 8) (by decide +kernel)
      have r17 : apRel w3.heap.size vx.ownBlock vz.ownBlock (i + 1) (strB ((L.map CU.an).take (i + 1))) (u 17) w8 := relAll_at hall (i := 17) (by decide +kernel)
      have r26 : apRel w3.heap.size vx.ownBlock vy.ownBlock (i + 1) (strB ((L.map CU.cn).take (i + 1))) (u 26) w8 := relAll_at hall (i := 26) (by decide +kernel)
      have p1 := hprs 8 17 (by decide) (by decide +kernel) (by decide +kernel) (by decide) (.inl rfl) (.inr (.inl rfl))
      have p2 := hprs 8 26 (by decide) (by decide +kernel) (by decide +kernel) (by decide) (.inl rfl) (.inr (.inr rfl))
      have p3 := hprs 17 26 (by decide) (by decide +kernel) (by decide +kernel) (by decide) (.inr (.inl rfl)) (.inr (.inr rfl))
      have HS8 : Hid (RuSt w3 w8 L (u 8) (u 17) (u 26) (i + 1)) := hide ⟨HS.out.bel.trans hb7, r8.1, r17.1, r26.1, p1, p2, p3⟩
      clear hall hprs r8 r17 r26 p1 p2 p3 hb7
      simp only [List.drop_succ_cons, List.drop_zero, List.take_succ_cons, List.take_zero, putAll, Act.put, List.setIfInBounds_toArray, List.set_cons_zero, List.set_cons_succ, Nat.zero_add, Nat.reduceAdd]
      go_wp2
      go_roundw
      case rel => exact ⟨i + 1, by omega, by go_num, HS8.out⟩
      case measure => simp [intOf]; omega
    · obtain rfl : i = n1 := by omega
      have htk : ∀ (pf : CU → ByteArray), (L.map pf).take i = L.map pf := fun pf => List.take_of_length_le (by rw [List.length_map, HN1.out]; exact Nat.le_refl _)
      have hx := HS.out.rx
      have hy := HS.out.ry
      have hz := HS.out.rz
      rw [htk] at hx hy hz
      obtain ⟨X1, e1, rfl⟩ := own_slice hx
      obtain ⟨X2, e2, rfl⟩ := own_slice hy
      obtain ⟨X3, e3, rfl⟩ := own_slice hz
      have HX1 := hide (strsAt_of_ownB hx HSx.out)
      have HX2 := hide (strsAt_of_ownB hy HSy.out)
      have HX3 := hide (strsAt_of_ownB hz HSz.out)
      have HBr := hide HS.out.bel
      have HR1 := hide (refNames_any X1 i e1 _ wr HX1.out (by omega))
      clear hx hy hz htk HS
      go_wp2_with fail
      refine HR1.out.mono ?_
      rintro e w4 ⟨y1, rfl, hy1, hb4⟩
      obtain ⟨Y1, f1, rfl⟩ := own_slice hy1
      have hB4 := HBr.out.trans (hb4.mono HBr.out.size)
      have HSm := hide (textSame_same P1 Y1 _ d1 _ f1 _ w4 (HP1.out.below rfl hB4) (strsAt_of_ownB hy1 (fun y hy => HSx.out y (namB_mem hy))))
      have HX2b := hide (HX2.out.below rfl hb4)
      have HX3b := hide (HX3.out.below rfl hb4)
      have HB4 := hide hB4
      clear hy1 hb4 hB4 m0 m1
      go_wp2_with fail
      refine HSm.out.mono ?_
      rintro e w5 ⟨rfl, hb5⟩
      have HX2c := hide (HX2b.out.below rfl hb5)
      have HX3c := hide (HX3b.out.below rfl hb5)
      have HB5 := hide (HB4.out.trans (hb5.mono HB4.out.size))
      have HR2 := hide (refNames_any X2 i e2 _ w5 HX2c.out (by omega))
      clear hb5
      go_wp2_with fail
      refine HR2.out.mono ?_
      rintro e w6 ⟨y2, rfl, hy2, hb6⟩
      obtain ⟨Y2, f2, rfl⟩ := own_slice hy2
      have hB6 := HB5.out.trans (hb6.mono HB5.out.size)
      have HSm2 := hide (textSame_same P2 Y2 _ d2 _ f2 _ w6 (HP2.out.below rfl hB6) (strsAt_of_ownB hy2 (fun y hy => HSy.out y (namB_mem hy))))
      have HX3d := hide (HX3c.out.below rfl hb6)
      have HB6 := hide hB6
      clear hy2 hb6 hB6
      go_wp2_with fail
      refine HSm2.out.mono ?_
      rintro e w7 ⟨rfl, hb7⟩
      have HX3e := hide (HX3d.out.below rfl hb7)
      have HB7 := hide (HB6.out.trans (hb7.mono HB6.out.size))
      have HR3 := hide (refNames_any X3 i e3 _ w7 HX3e.out (by omega))
      clear hb7
      go_wp2_with fail
      refine HR3.out.mono ?_
      rintro e w8 ⟨y3, rfl, hy3, hb8⟩
      obtain ⟨Y3, f3, rfl⟩ := own_slice hy3
      have hB8 := HB7.out.trans (hb8.mono HB7.out.size)
      have HSm3 := hide (textSame_same P3 Y3 _ d3 _ f3 _ w8 (HP3.out.below rfl hB8) (strsAt_of_ownB hy3 (fun y hy => HSz.out y (namB_mem hy))))
      have HB8 := hide hB8
      clear hy3 hb8 hB8
      go_wp2_with fail
      refine HSm3.out.mono ?_
      rintro e w9 ⟨rfl, hb9⟩
      have HB9 := hide (HB8.out.trans (hb9.mono HB8.out.size))
      clear hb9
      go_wp2_with fail
      refine (lives20_any w9).mono ?_
      rintro e w10 ⟨rfl, hb10⟩
      have HB10 := hide (HB3.out.trans ((HB9.out.trans (hb10.mono HB9.out.size)).mono HB3.out.size))
      clear hb10
      go_wp2
      go_ret
      exact ⟨rfl, HB10.out⟩
end Go.Proofs.YtgofaoommpnhpaaGreat
