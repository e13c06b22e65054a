import Derived.Test.YtplhnhoijficgaaGreatDoorPm4
import Derived.WalkKit
import Derived.ProofKit
import Derived.OpenShut
import Derived.Below
import Derived.Laws.OwnMore
import Derived.Laws.Rows
import Derived.Laws.MakeOwn
import Derived.Deep.AppendLies
import Derived.Deep.Draws
import Derived.Deep.OwnRows
import Derived.Deep.QuietTactic
import Derived.Maps.AppendAt
import Derived.RegionTactic
import Derived.OwnWalk
import Derived.ChangeSame
import Derived.Outline
import Derived.BigQuiet
import Derived.WalkMore
import Derived.ScopeJumps
import Derived.WalkLawsBesides
import Derived.WalkSpells
import Derived.Laws.BitsLemmas
import Derived.Laws.BitsAllLaws
import Derived.Deep.Quiet
import Derived.Deep.Slices
import Derived.WideKeyArgs
import Derived.Deep.DeepHandedRow
import Derived.Deep.DeepWitnessRowRef
import Derived.Lib.LaidTab
import Derived.Lib.AppendIntMem
import Derived.LaidMore
import Derived.MakeChecks
import Derived.Lib.Itoa
import Derived.Lib.ItoaMem
import Derived.BigRegion
import Derived.Orders
import Derived.OrdersIn
import Derived.RangeFuncCalls
import Derived.Shelf.RegionOpen
import Derived.Lib.PathFns
import Derived.Lib.IndexBytes
import Derived.RangeFuncWrites
import Derived.RangeFuncNested
import Derived.RangeFuncBound
import Derived.RangeFuncLeaves
import Derived.RangeFuncBox
import Derived.Shelf.Abstract
import Derived.OwnWalkIn
import Derived.TacticsInMore
import Derived.LoopNIn
import Derived.LoopIn
import Derived.Lib.SmallJoins
import Derived.Lib.ParseIntBCases
import Derived.Lib.IndexMore
import Derived.Shelf.Vars
import Derived.Lib.AtoiAllCases
import Derived.SliceStrings
import Derived.Deep.RegionLaw
import Derived.Sort.LotA
import Derived.StillTailTactics
import Derived.BigRegionIn
import Derived.Deep.RegionHeld3
import Derived.RangeFuncOwn
import Derived.Sort.WalkA6
import Derived.Sort.WalkB3
import Derived.Sort.WalkC4
import Derived.Sort.WalkA14
import Derived.Sort.Walk11
import Derived.Sort.Walk7
import Derived.Sort.Walk13
import Derived.Sort.Row
import Derived.Lib.Walk
import Derived.Lib.Strings
import Derived.BigGuard
import Derived.BigCall
import Derived.CellFam
import Derived.Deep.LoopGhost
import Derived.Sort.LotC
import Derived.Deep.RegionWith
import Derived.RowKit
import Derived.Sort.LotD3
import Derived.Sort.LotD4
import Derived.Sort.Grow
import Derived.Sort.AtCall
import Derived.Sort.LotD5
import Derived.Laws.Bits64
import Derived.Laws.Bits64b
import Derived.Sort.EncStr
import Derived.Sort.LotD1
import Derived.Sort.LotB
import Derived.Deep.Cut
import Derived.Sort.Walk13a
import Derived.Sort.AssemblyPlain
import Derived.Shelf.Spec.SlicesInsertGrow
import Derived.Deep.MidRow
import Derived.Lib.RowBridge
import Derived.Laws.CopyOwn
import Derived.Lib.AppendZerosOnto
import Derived.Lib.SlTrimSet
import Derived.Lib.Bytealg
import Derived.Shelf.Strings.SplitShaped
import Derived.Shelf.Strings.Prefix
import Derived.Shelf.Small.Strs
set_option linter.unusedSimpArgs false
set_option linter.unusedVariables false
namespace Go.Proofs.YtplhnhoijficgaaGreatDoor
open Go.RowKit Go.WideShapes Go.ChangeShapes
attribute [local go_sem] Oper.semAt_some
def psW (s : ByteArray) (w : World) : World :=
  ((((w.alloc (.cells #[.slice none 0 0] 22)).alloc (.cells #[.int .i64 2] 3)).alloc (.cells #[.string s] 9)).alloc (.cells #[.string ⟨#[32]⟩] 9)).alloc (.cells #[.int .i64 0] 3)
theorem psW_size (s : ByteArray) (w : World) : (psW s w).heap.size = w.heap.size + 5 := by simp [psW]
theorem psW_below (s : ByteArray) (w : World) : Below w.heap.size w (psW s w) := by
  unfold psW
  exact (((((Below.refl _ w).alloc (Nat.le_refl _) _).alloc (by simp) _).alloc (by simp; omega) _).alloc (by simp; omega) _).alloc (by simp; omega) _
theorem psW_blks (s : ByteArray) (w : World) : Blk (psW s w) w.heap.size 22 #[.slice none 0 0] ∧ Blk (psW s w) (w.heap.size + 1) 3 #[.int .i64 2] ∧
    Blk (psW s w) (w.heap.size + 2) 9 #[.string s] ∧ Blk (psW s w) (w.heap.size + 2 + 1) 9 #[.string ⟨#[32]⟩] ∧ Blk (psW s w) (w.heap.size + 2 + 2) 3 #[.int .i64 0] := by
  unfold psW
  exact ⟨((((Blk.new w _ _).alloc _).alloc _).alloc _).alloc _, (((blk_new' _ _ (by simp)).alloc _).alloc _).alloc _, ((blk_new' _ _ (by simp)).alloc _).alloc _, (blk_new' _ _ (by simp)).alloc _, blk_new' _ _ (by simp)⟩
set_option maxRecDepth 100000 in
set_option maxHeartbeats 4000000 in
theorem parse_law (w : World) : Calls Tryz.prog 34 #[.string (str psTx)] w (SegP (psT 5).2 w) := by
  obtain ⟨i0, hi, hz0, hz1, hz2⟩ := info_parts segInfo
  obtain ⟨j0, hj, hy0, hy1, hy2⟩ := info_parts info32
  refine (callsIn_wide (n := 5)).1 (callsIn_of_wp_marks Tryz.func34 rfl trivial ?_ rfl)
  simp only [Tryz.ntmps34, List.size_toArray, List.length_cons, List.length_nil, Nat.reduceAdd, Nat.reduceSub, Array.replicate_succ, Array.replicate_zero, List.push_toArray, List.append_toArray, List.nil_append, List.cons_append]
  gi_wp2_with (refine ⟨trivial, ?_⟩; gi_at_call 43; refine (callsIn_wide.2 (SplitSeq_any _ _ _)).mono ?_; rintro e w1 ⟨rfl, rfl⟩)
  obtain ⟨k0, k1, k2, k3, k4⟩ := psW_blks (str psTx) w
  have hsz := psW_size (str psTx) w
  refine wpIn_rangeFunc_cell (w := psW (str psTx) w) rfl (by omega) (gf := 87) (lb := #[.pointer (some ⟨w.heap.size + 2 + 1, 0, none⟩), .pointer (some ⟨w.heap.size + 2, 0, none⟩), .pointer (some ⟨w.heap.size + 2 + 2, 0, none⟩)]) rfl trivial (enters_of Tryz.func87 (by kernel_rfl) rfl)
    (encs := fun x : List UInt8 => #[.string (str x)]) (b0 := w.heap.size + 2) (b1 := w.heap.size + 5) (by omega) (by omega) (xs := pieces 32 psTx)
    (fun l W hk => splitSeq1_in 4 (by omega) l (w.heap.size + 2) 32 psTx (by decide) _ rfl W (hk.blk (by omega) (by omega) k2) (hk.blk (by omega) (by omega) k3) (hk.blk (by omega) (by omega) k4)) (fun _ => rfl)
    (fun pre W => ∃ (i : Nat) (A : Option Addr) (n c : Nat) (vs : List Value), pre = (pieces 32 psTx).take i ∧ i ≤ 5 ∧ PpSt w.heap.size w W (psT i).1 A n c (psT i).2 vs)
    (fun c pre W => False)
    (fun s A B row hs hg hr => by
      obtain ⟨i, A', n, c, vs, h1, h2, h3⟩ := hs
      exact ⟨i, A', n, c, vs, h1, h2, h3.abide (by omega) hg hr⟩)
    (fun c s A B row hs hg hr => hs)
    ⟨0, none, 0, 0, [], rfl, by omega, k0, k1, nr_nil, psW_below _ _, by omega⟩
    (fun x => { tmps := #[.string (str psTx), undef, .slice none 0 0, .pointer (some ⟨w.heap.size, 0, none⟩), .pointer (some ⟨w.heap.size + 1, 0, none⟩), .string (str x), undef, undef, undef, .string (str psTx), .func (.func 87) #[] #[.pointer (some ⟨w.heap.size + 1 + 1 + 1, 0, none⟩), .pointer (some ⟨w.heap.size + 1 + 1, 0, none⟩), .pointer (some ⟨w.heap.size + 1 + 1 + 2, 0, none⟩)], .string (str x), undef, undef, undef, undef, undef, undef, undef, undef, undef, undef, undef, undef, undef, undef, undef, undef, undef, undef, undef, undef, undef, undef, undef, undef, undef, undef, undef, undef, undef, undef, undef, undef, undef, undef, undef, undef, undef, undef, undef, undef, undef, undef, undef, undef, undef, undef, undef, undef, undef, undef, undef, undef], defers := [] }) ?assign ?body ?done ?stop
  case assign =>
    intro l x W K hK
    gi_wp2
    exact hK
  case body =>
    rintro l0 pre p post W hx ⟨i, A, n, c, vs, hpre, hi5, hst⟩
    obtain ⟨hpre2, hi, hcs⟩ := ps_cases hx hpre hi5
    obtain ⟨LO, hLO⟩ : ∃ LO, (psW (str psTx) w).heap.size = LO := ⟨_, rfl⟩
    have HS : Hid (PsR LO w.heap.size w W W (psT i).1 A n c (psT i).2 vs) := hide ⟨hst, KR.refl _ _ _⟩
    have HEnd : Hid (∀ (W' : World) (A : Option Addr) (n c : Nat) (vs : List Value), PsR LO w.heap.size w W W' (psT (i + 1)).1 A n c (psT (i + 1)).2 vs → KeepsFrom (psW (str psTx) w).heap.size W W' ∧ KpR (w.heap.size + 2) (w.heap.size + 5) W W' ∧ ∃ (i : Nat) (A : Option Addr) (n c : Nat) (vs : List Value), pre ++ [p] = (pieces 32 psTx).take i ∧ i ≤ 5 ∧ PpSt w.heap.size w W' (psT i).1 A n c (psT i).2 vs) :=
      hide (fun W' A n c vs h => ⟨hLO ▸ h.kr.keeps, h.kr.same, i + 1, A, n, c, vs, hpre2, by omega, h.st⟩)
    obtain ⟨T, hT⟩ : ∃ T, psT (i + 1) = T := ⟨_, rfl⟩
    obtain ⟨κ, hκ⟩ : ∃ κ, (psT i).1 = κ := ⟨_, rfl⟩
    obtain ⟨L, hL⟩ : ∃ L, (psT i).2 = L := ⟨_, rfl⟩
    rw [hT] at HEnd hcs
    rw [hκ, hL] at HS hcs
    clear hst hpre hpre2 hx hi5 hi hT hκ hL k0 k1 k2 k3 k4
    cases hcs with
    | push x hF hx6 hL3 hor =>
      have HF := hide hF
      have HOr := hide hor
      clear hF hor
      gi_wp2_with fail
      refine ⟨trivial, ?_⟩
      gi_at_call 44
      refine (CallsIn.inRound l0 (callsIn_wide.2 (Tryz.strings_HasPrefix (str p) ⟨#[123]⟩ W))).mono ?_
      rintro e w1 ⟨rfl, hw1⟩
      subst w1
      rw [HF.out.pre]
      have HR := HS
      gi_wp2_with fail
      refine ⟨trivial, ?_⟩
      gi_at_call 46
      refine (CallsIn.inRound l0 (callsIn_wide.2 (Tryz.strings_Trim_laid (str p) ⟨#[123, 125]⟩ W (by have := HF.out.len; rw [str_size]; omega) (by decide) braces_ascii))).mono ?_
      rintro e w2 ⟨rfl, hb2⟩
      have HR2 := hide (HR.out.below hb2)
      clear hb2
      gi_wp2_with fail
      refine ⟨trivial, ?_⟩
      gi_at_call 45
      refine (CallsIn.inRound l0 (callsIn_wide.2 (pnum32 _ x HF.out.tl HF.out.num w2))).mono ?_
      rintro e w3 ⟨rfl, hb3⟩
      have HR3 := hide (HR2.out.below hb3)
      clear hb3
      rcases HOr.out with hL0 | ⟨l1, k1, r, hLe, hk1⟩
      · subst hL0
        obtain rfl : n = 0 := nr_n HR3.out.st.nr
        have z3 : w3.cell? ⟨w.heap.size, 0, none⟩ = some (.slice A 0 c) := HR3.out.st.c0.cell 0
        have hwn : IntKind.i64.wrap (((0 : Nat) : Int) - 1) = -1 := by rw [IntKind.wrap_i64]; rfl
        gi_wp2
        have Hmn := hide (show AllMono [(fun v _ => v = .int .i64 (-1)), (fun v _ => v = .bool false), (fun v _ => v = .bool false), (fun v _ => v = undef), (fun v _ => v = undef), (fun v _ => v = undef), (fun v _ => v = undef), (fun v _ => v = undef), (fun v _ => v = undef), (fun v _ => v = undef), (fun v _ => v = .bool false)] from ⟨fun _ _ _ _ h => h, fun _ _ _ _ h => h, fun _ _ _ _ h => h, fun _ _ _ _ h => h, fun _ _ _ _ h => h, fun _ _ _ _ h => h, fun _ _ _ _ h => h, fun _ _ _ _ h => h, fun _ _ _ _ h => h, fun _ _ _ _ h => h, fun _ _ _ _ h => h, trivial⟩)
        refine wpIn_region_rel 11 _ (by kernel_rfl) (by kernel_rfl) (by kernel_rfl) (by kernel_rfl) (by kernel_rfl) (relMono _ Hmn.out) (by kernel_rfl) ⟨?_, ?_, ?_, ?_, ?_, ?_, ?_, ?_, ?_, ?_, ?_, trivial⟩ ?_
        · refine relStep_plain rfl ?_
          intro Ac w5 hp
          have hb := hp.bel
          have a8 : Ac.eval (.tmp 8) = .int .i64 (-1) := hp.out 8 (by rfl)
          have hc := evalC Ac; have hf := evalF Ac; have hgl := evalG Ac
          obtain ⟨ρ, hρ⟩ : ∃ ρ, Ac.eval = ρ := ⟨_, rfl⟩
          rw [hρ] at a8 hc hf hgl
          exact relPure hρ (.int .i64 (-1)) (by simp [go_sem, hc, hf, hgl, ↓IntWalk.iteOmega, a8, *]) rfl
        · refine relStep_plain rfl ?_
          intro Ac w5 hp
          have hb := hp.bel
          have a28 : Ac.eval (.tmp 28) = .int .i64 (-1) := hp.dep 0 (by kernel_rfl)
          have hc := evalC Ac; have hf := evalF Ac; have hgl := evalG Ac
          obtain ⟨ρ, hρ⟩ : ∃ ρ, Ac.eval = ρ := ⟨_, rfl⟩
          rw [hρ] at a28 hc hf hgl
          exact relPure hρ (.bool false) (by simp [go_sem, hc, hf, hgl, ↓IntWalk.iteOmega, a28, *]) rfl
        · refine relStep_plain rfl ?_
          intro Ac w5 hp
          have hb := hp.bel
          have a29 : Ac.eval (.tmp 29) = .bool false := hp.dep 1 (by kernel_rfl)
          have hc := evalC Ac; have hf := evalF Ac; have hgl := evalG Ac
          obtain ⟨ρ, hρ⟩ : ∃ ρ, Ac.eval = ρ := ⟨_, rfl⟩
          rw [hρ] at a29 hc hf hgl
          exact relPure hρ (.bool false) (by simp [go_sem, hc, hf, hgl, ↓IntWalk.iteOmega, a29, *]) rfl
        · refine relStep_guard (g := 2) (b := true) (x := false) rfl (by kernel_rfl) rfl (by kernel_rfl) rfl (fun _ _ h => h) ?_
          exact fun _ => rfl
        · refine relStep_guard (g := 2) (b := true) (x := false) rfl (by kernel_rfl) rfl (by kernel_rfl) rfl (fun _ _ h => h) ?_
          exact fun _ => rfl
        · refine relStep_guard (g := 2) (b := true) (x := false) rfl (by kernel_rfl) rfl (by kernel_rfl) rfl (fun _ _ h => h) ?_
          exact fun _ => rfl
        · refine relStep_guard (g := 2) (b := true) (x := false) rfl (by kernel_rfl) rfl (by kernel_rfl) rfl (fun _ _ h => h) ?_
          exact fun _ => rfl
        · refine relStep_guard (g := 2) (b := true) (x := false) rfl (by kernel_rfl) rfl (by kernel_rfl) rfl (fun _ _ h => h) ?_
          exact fun _ => rfl
        · refine relStep_guard (g := 2) (b := true) (x := false) rfl (by kernel_rfl) rfl (by kernel_rfl) rfl (fun _ _ h => h) ?_
          exact fun _ => rfl
        · refine relStep_guard (g := 2) (b := true) (x := false) rfl (by kernel_rfl) rfl (by kernel_rfl) rfl (fun _ _ h => h) ?_
          exact fun _ => rfl
        · refine relStep_plain rfl ?_
          intro Ac w5 hp
          have hb := hp.bel
          have a30 : Ac.eval (.tmp 30) = .bool false := hp.dep 2 (by kernel_rfl)
          have hc := evalC Ac; have hf := evalF Ac; have hgl := evalG Ac
          obtain ⟨ρ, hρ⟩ : ∃ ρ, Ac.eval = ρ := ⟨_, rfl⟩
          rw [hρ] at a30 hc hf hgl
          exact relPure hρ (.bool false) (by simp [go_sem, hc, hf, hgl, ↓IntWalk.iteOmega, a30, *]) rfl
        intro u w4 hb7 hall
        have e38 : u 10 = .bool false := relAll_at hall (i := 10) (by decide +kernel)
        clear hall
        simp only [List.drop_succ_cons, List.drop_zero, List.take_succ_cons, List.take_zero, putAll, Act.put, List.setIfInBounds_toArray, List.set_cons_zero, List.set_cons_succ, Nat.zero_add, Nat.reduceAdd, e38]
        have HR4 := hide (HR3.out.below hb7)
        clear hb7
        have z4 : w4.cell? ⟨w.heap.size, 0, none⟩ = some (.slice A 0 c) := HR4.out.st.c0.cell 0
        have y4 : w4.cell? ⟨w.heap.size + 1, 0, none⟩ = some (.int .i64 κ) := HR4.out.st.c1.cell 0
        have hwx : IntKind.u32.wrap (x : Int) = (x : Int) := by rw [IntKind.wrap_u32]; omega
        obtain ⟨w5, hw5⟩ : ∃ w5, (w4.alloc (.cells #[.int .u32 (x : Int)] 29)).alloc (.cells #[.int .i64 κ, .slice (some ⟨w4.heap.size, 0, none⟩) 1 1] 36) = w5 := ⟨_, rfl⟩
        have HW5 := hide hw5
        have HR5 : Hid (PsR LO w.heap.size w W w5 κ A 0 c [] vs) := hide (hw5 ▸ psr_alloc (psr_alloc HR4.out _) _)
        have HV5 : Hid (w5.ownsRow (w.heap.size + 5) 29 1 (.slice (some ⟨w4.heap.size, 0, none⟩) 1 1) 1 (u32c [x])) := hide (hw5 ▸ (World.ownsRow_lit w4 #[.int .u32 (x : Int)] 1 HR4.out.st.siz (by unfold maxLen; omega) rfl).alloc _)
        have HB5 : Hid (Blk w5 (w4.heap.size + 1) 36 #[.int .i64 κ, .slice (some ⟨w4.heap.size, 0, none⟩) 1 1]) := hide (hw5 ▸ blk_new' _ _ (by simp))
        have HN5 : Hid (∀ (i : Nat) (v' : Value), vs[i]? = some v' → ∀ z, v'.ownBlock = some z → (Value.slice (some ⟨w4.heap.size, 0, none⟩) 1 1).ownBlock ≠ some z) := hide (fun i v' hv z hz e => by have := nr_low HR4.out.st.nr i v' hv z hz; injection e with e; change w4.heap.size = z at e; omega)
        clear hw5
        gi_wp2_with (gi_at_builtin; rw [HW5.out]; refine wpListIn_of_wp rfl rfl (wp_append_any w5 (.tmp 52) (.tmp 58) 22 rfl (w.heap.size + 5) 36 i0 _ 2 32 Tryz.underlying22 hi hz0 hz1 hz2 rfl (by decide) (.slice A 0 c) 0 (nrC [] vs) rfl HR5.out.st.nr.row w5.heap.size (some ⟨w4.heap.size + 1, 0, none⟩) 1 1 [.int .i64 κ, .slice (some ⟨w4.heap.size, 0, none⟩) 1 1] rfl (reads_blkN HB5.out HB5.out.lt rfl rfl) (by simp [Value.oneCell']) (by unfold maxLen; omega) (by omega) HR5.out.st.siz ?_); intro v2 w6 h2 h3 h4; obtain ⟨A', c', rfl, hp⟩ := PsR.push (x := ⟨κ, [x]⟩) HR5.out HV5.out HN5.out h2 h3; have HP := hide hp; have hbx := HR5.out.st.c0.grown h3 (fun e => by have := own_low_block HR5.out.st.nr.row _ e.symm; omega); have z6 := hbx.cell 0; have q6 := hbx.frozen 0; clear hp h2 h3 h4 hbx)
        refine ⟨trivial, ?_⟩
        gi_at_call 47
        refine (CallsIn.inRound l0 (callsIn_wide.2 (Tryz.strings_HasSuffix (str p) ⟨#[125]⟩ _ (by have := HF.out.len; rw [str_size]; omega)))).mono ?_
        rintro e w8 ⟨rfl, hw8⟩
        subst w8
        rw [HF.out.suf]
        gi_wp2
        exact HEnd.out _ _ _ _ _ HP.out
      · subst hLe
        have hk2 : k1 ≠ κ := by simpa using hk1
        have hl3 : l1.length ≤ 2 := by simpa using hL3
        obtain ⟨k, hk⟩ : ∃ k, l1.length = k := ⟨_, rfl⟩
        obtain ⟨g, vs0, v, cur, rfl, hn, rfl, hvl, hbg, hz0, hz1, hov⟩ := nr_last HR3.out.st.nr
        rw [hk] at hn hz0 hz1
        have HBg := hide hbg
        have HZ0 := hide hz0
        have HZ1 := hide hz1
        have HOv := hide hov
        have hwn : IntKind.i64.wrap ((n : Int) - 1) = (k : Int) := by rw [IntKind.wrap_i64]; omega
        have i1 : (k : Int) < (n : Int) := by omega
        have i0_ : (0 : Int) ≤ (k : Int) := by omega
        have hnl : n ≤ 5 := by omega
        have HVl := hide hvl
        have HKk := hide hk
        have HNn := hide hn
        have z3 : w3.cell? ⟨w.heap.size, 0, none⟩ = some (.slice (some ⟨g, 0, none⟩) n c) := HR3.out.st.c0.cell 0
        clear hbg hz0 hz1 hov hvl hk hn
        gi_wp2
        have Hmn := hide (show AllMono [(fun v _ => v = .int .i64 (k : Int)), (fun v _ => v = .bool true), (fun v _ => v = .bool true), (fun v _ => v = .slice (some ⟨g, 0, none⟩) n c), (fun v _ => v = .int .i64 (k : Int)), (fun v _ => v = .pointer (some ⟨g, k * 2, none⟩)), (fun v _ => v = .pointer (some ⟨g, k * 2, none⟩)), (fun v _ => v = .int .i64 k1), (fun v _ => v = .int .i64 κ), (fun v _ => v = .bool false), (fun v _ => v = .bool false)] from ⟨fun _ _ _ _ h => h, fun _ _ _ _ h => h, fun _ _ _ _ h => h, fun _ _ _ _ h => h, fun _ _ _ _ h => h, fun _ _ _ _ h => h, fun _ _ _ _ h => h, fun _ _ _ _ h => h, fun _ _ _ _ h => h, fun _ _ _ _ h => h, fun _ _ _ _ h => h, trivial⟩)
        refine wpIn_region_rel 11 _ (by kernel_rfl) (by kernel_rfl) (by kernel_rfl) (by kernel_rfl) (by kernel_rfl) (relMono _ Hmn.out) (by kernel_rfl) ⟨?_, ?_, ?_, ?_, ?_, ?_, ?_, ?_, ?_, ?_, ?_, trivial⟩ ?_
        · refine relStep_plain rfl ?_
          intro Ac w5 hp
          have hb := hp.bel
          have a8 : Ac.eval (.tmp 8) = .int .i64 (k : Int) := hp.out 8 (by rfl)
          have hc := evalC Ac; have hf := evalF Ac; have hgl := evalG Ac
          obtain ⟨ρ, hρ⟩ : ∃ ρ, Ac.eval = ρ := ⟨_, rfl⟩
          rw [hρ] at a8 hc hf hgl
          exact relPure hρ (.int .i64 (k : Int)) (by simp [go_sem, hc, hf, hgl, ↓IntWalk.iteOmega, a8, *]) rfl
        · refine relStep_plain rfl ?_
          intro Ac w5 hp
          have hb := hp.bel
          have a28 : Ac.eval (.tmp 28) = .int .i64 (k : Int) := hp.dep 0 (by kernel_rfl)
          have hc := evalC Ac; have hf := evalF Ac; have hgl := evalG Ac
          obtain ⟨ρ, hρ⟩ : ∃ ρ, Ac.eval = ρ := ⟨_, rfl⟩
          rw [hρ] at a28 hc hf hgl
          exact relPure hρ (.bool true) (by simp [go_sem, hc, hf, hgl, ↓IntWalk.iteOmega, a28, *]) rfl
        · refine relStep_plain rfl ?_
          intro Ac w5 hp
          have hb := hp.bel
          have a29 : Ac.eval (.tmp 29) = .bool true := hp.dep 1 (by kernel_rfl)
          have hc := evalC Ac; have hf := evalF Ac; have hgl := evalG Ac
          obtain ⟨ρ, hρ⟩ : ∃ ρ, Ac.eval = ρ := ⟨_, rfl⟩
          rw [hρ] at a29 hc hf hgl
          exact relPure hρ (.bool true) (by simp [go_sem, hc, hf, hgl, ↓IntWalk.iteOmega, a29, *]) rfl
        · refine relStep_guard (g := 2) (b := true) (x := true) rfl (by kernel_rfl) rfl (by kernel_rfl) rfl (fun _ _ h => h) ?_
          intro Ac w5 hp
          have hb := hp.bel
          have a3 : Ac.eval (.tmp 3) = .pointer (some ⟨w.heap.size, 0, none⟩) := hp.out 3 (by rfl)
          have z1 : w5.cell? ⟨w.heap.size, 0, none⟩ = some (.slice (some ⟨g, 0, none⟩) n c) := (HR3.out.st.c0.below hb HR3.out.st.c0.lt).cell 0
          have hc := evalC Ac; have hf := evalF Ac; have hgl := evalG Ac
          obtain ⟨ρ, hρ⟩ : ∃ ρ, Ac.eval = ρ := ⟨_, rfl⟩
          rw [hρ] at a3 hc hf hgl
          exact relPure hρ (.slice (some ⟨g, 0, none⟩) n c) (by simp [go_sem, hc, hf, hgl, ↓IntWalk.iteOmega, a3, *]) rfl
        · refine relStep_guard (g := 2) (b := true) (x := true) rfl (by kernel_rfl) rfl (by kernel_rfl) rfl (fun _ _ h => h) ?_
          intro Ac w5 hp
          have hb := hp.bel
          have a8 : Ac.eval (.tmp 8) = .int .i64 (k : Int) := hp.out 8 (by rfl)
          have hc := evalC Ac; have hf := evalF Ac; have hgl := evalG Ac
          obtain ⟨ρ, hρ⟩ : ∃ ρ, Ac.eval = ρ := ⟨_, rfl⟩
          rw [hρ] at a8 hc hf hgl
          exact relPure hρ (.int .i64 (k : Int)) (by simp [go_sem, hc, hf, hgl, ↓IntWalk.iteOmega, a8, *]) rfl
        · refine relStep_guard (g := 2) (b := true) (x := true) rfl (by kernel_rfl) rfl (by kernel_rfl) rfl (fun _ _ h => h) ?_
          intro Ac w5 hp
          have hb := hp.bel
          have a31 : Ac.eval (.tmp 31) = .slice (some ⟨g, 0, none⟩) n c := hp.dep 3 (by kernel_rfl)
          have a32 : Ac.eval (.tmp 32) = .int .i64 (k : Int) := hp.dep 4 (by kernel_rfl)
          have hc := evalC Ac; have hf := evalF Ac; have hgl := evalG Ac
          obtain ⟨ρ, hρ⟩ : ∃ ρ, Ac.eval = ρ := ⟨_, rfl⟩
          rw [hρ] at a31 a32 hc hf hgl
          exact relPure hρ (.pointer (some ⟨g, k * 2, none⟩)) (by simp [go_sem, hc, hf, hgl, ↓IntWalk.iteOmega, a31, a32, *]) rfl
        · refine relStep_guard (g := 2) (b := true) (x := true) rfl (by kernel_rfl) rfl (by kernel_rfl) rfl (fun _ _ h => h) ?_
          intro Ac w5 hp
          have hb := hp.bel
          have a33 : Ac.eval (.tmp 33) = .pointer (some ⟨g, k * 2, none⟩) := hp.dep 5 (by kernel_rfl)
          have hc := evalC Ac; have hf := evalF Ac; have hgl := evalG Ac
          obtain ⟨ρ, hρ⟩ : ∃ ρ, Ac.eval = ρ := ⟨_, rfl⟩
          rw [hρ] at a33 hc hf hgl
          exact relPure hρ (.pointer (some ⟨g, k * 2, none⟩)) (by simp [go_sem, hc, hf, hgl, ↓IntWalk.iteOmega, a33, *]) rfl
        · refine relStep_guard (g := 2) (b := true) (x := true) rfl (by kernel_rfl) rfl (by kernel_rfl) rfl (fun _ _ h => h) ?_
          intro Ac w5 hp
          have hb := hp.bel
          have a34 : Ac.eval (.tmp 34) = .pointer (some ⟨g, k * 2, none⟩) := hp.dep 6 (by kernel_rfl)
          have z1 : w5.cell? ⟨g, k * 2, none⟩ = some (.int .i64 k1) := (World.cell?_of_block (hb.block g HBg.out.lt)).trans HZ0.out
          have hc := evalC Ac; have hf := evalF Ac; have hgl := evalG Ac
          obtain ⟨ρ, hρ⟩ : ∃ ρ, Ac.eval = ρ := ⟨_, rfl⟩
          rw [hρ] at a34 hc hf hgl
          exact relPure hρ (.int .i64 k1) (by simp [go_sem, hc, hf, hgl, ↓IntWalk.iteOmega, a34, *]) rfl
        · refine relStep_guard (g := 2) (b := true) (x := true) rfl (by kernel_rfl) rfl (by kernel_rfl) rfl (fun _ _ h => h) ?_
          intro Ac w5 hp
          have hb := hp.bel
          have a4 : Ac.eval (.tmp 4) = .pointer (some ⟨w.heap.size + 1, 0, none⟩) := hp.out 4 (by rfl)
          have z1 : w5.cell? ⟨w.heap.size + 1, 0, none⟩ = some (.int .i64 κ) := (HR3.out.st.c1.below hb HR3.out.st.c1.lt).cell 0
          have hc := evalC Ac; have hf := evalF Ac; have hgl := evalG Ac
          obtain ⟨ρ, hρ⟩ : ∃ ρ, Ac.eval = ρ := ⟨_, rfl⟩
          rw [hρ] at a4 hc hf hgl
          exact relPure hρ (.int .i64 κ) (by simp [go_sem, hc, hf, hgl, ↓IntWalk.iteOmega, a4, *]) rfl
        · refine relStep_guard (g := 2) (b := true) (x := true) rfl (by kernel_rfl) rfl (by kernel_rfl) rfl (fun _ _ h => h) ?_
          intro Ac w5 hp
          have hb := hp.bel
          have a35 : Ac.eval (.tmp 35) = .int .i64 k1 := hp.dep 7 (by kernel_rfl)
          have a36 : Ac.eval (.tmp 36) = .int .i64 κ := hp.dep 8 (by kernel_rfl)
          have hc := evalC Ac; have hf := evalF Ac; have hgl := evalG Ac
          obtain ⟨ρ, hρ⟩ : ∃ ρ, Ac.eval = ρ := ⟨_, rfl⟩
          rw [hρ] at a35 a36 hc hf hgl
          exact relPure hρ (.bool false) (by simp [go_sem, hc, hf, hgl, ↓IntWalk.iteOmega, a35, a36, *]) rfl
        · refine relStep_plain rfl ?_
          intro Ac w5 hp
          have hb := hp.bel
          have a30 : Ac.eval (.tmp 30) = .bool true := hp.dep 2 (by kernel_rfl)
          have a37 : Ac.eval (.tmp 37) = .bool false := hp.dep 9 (by kernel_rfl)
          have hc := evalC Ac; have hf := evalF Ac; have hgl := evalG Ac
          obtain ⟨ρ, hρ⟩ : ∃ ρ, Ac.eval = ρ := ⟨_, rfl⟩
          rw [hρ] at a30 a37 hc hf hgl
          exact relPure hρ (.bool false) (by simp [go_sem, hc, hf, hgl, ↓IntWalk.iteOmega, a30, a37, *]) rfl
        intro u w4 hb7 hall
        have e38 : u 10 = .bool false := relAll_at hall (i := 10) (by decide +kernel)
        clear hall
        simp only [List.drop_succ_cons, List.drop_zero, List.take_succ_cons, List.take_zero, putAll, Act.put, List.setIfInBounds_toArray, List.set_cons_zero, List.set_cons_succ, Nat.zero_add, Nat.reduceAdd, e38]
        have HR4 := hide (HR3.out.below hb7)
        clear hb7
        have z4 : w4.cell? ⟨w.heap.size, 0, none⟩ = some (.slice (some ⟨g, 0, none⟩) n c) := HR4.out.st.c0.cell 0
        have y4 : w4.cell? ⟨w.heap.size + 1, 0, none⟩ = some (.int .i64 κ) := HR4.out.st.c1.cell 0
        have hwx : IntKind.u32.wrap (x : Int) = (x : Int) := by rw [IntKind.wrap_u32]; omega
        obtain ⟨w5, hw5⟩ : ∃ w5, (w4.alloc (.cells #[.int .u32 (x : Int)] 29)).alloc (.cells #[.int .i64 κ, .slice (some ⟨w4.heap.size, 0, none⟩) 1 1] 36) = w5 := ⟨_, rfl⟩
        have HW5 := hide hw5
        have HR5 : Hid (PsR LO w.heap.size w W w5 κ (some ⟨g, 0, none⟩) n c (l1 ++ [⟨k1, r⟩]) (vs0 ++ [v])) := hide (hw5 ▸ psr_alloc (psr_alloc HR4.out _) _)
        have HV5 : Hid (w5.ownsRow (w.heap.size + 5) 29 1 (.slice (some ⟨w4.heap.size, 0, none⟩) 1 1) 1 (u32c [x])) := hide (hw5 ▸ (World.ownsRow_lit w4 #[.int .u32 (x : Int)] 1 HR4.out.st.siz (by unfold maxLen; omega) rfl).alloc _)
        have HB5 : Hid (Blk w5 (w4.heap.size + 1) 36 #[.int .i64 κ, .slice (some ⟨w4.heap.size, 0, none⟩) 1 1]) := hide (hw5 ▸ blk_new' _ _ (by simp))
        have HN5 : Hid (∀ (i : Nat) (v' : Value), (vs0 ++ [v])[i]? = some v' → ∀ z, v'.ownBlock = some z → (Value.slice (some ⟨w4.heap.size, 0, none⟩) 1 1).ownBlock ≠ some z) := hide (fun i v' hv z hz e => by have := nr_low HR4.out.st.nr i v' hv z hz; injection e with e; change w4.heap.size = z at e; omega)
        clear hw5
        gi_wp2_with (gi_at_builtin; rw [HW5.out]; refine wpListIn_of_wp rfl rfl (wp_append_any w5 (.tmp 52) (.tmp 58) 22 rfl (w.heap.size + 5) 36 i0 _ 2 32 Tryz.underlying22 hi hz0 hz1 hz2 rfl (by decide) (.slice (some ⟨g, 0, none⟩) n c) n (nrC (l1 ++ [⟨k1, r⟩]) (vs0 ++ [v])) rfl HR5.out.st.nr.row w5.heap.size (some ⟨w4.heap.size + 1, 0, none⟩) 1 1 [.int .i64 κ, .slice (some ⟨w4.heap.size, 0, none⟩) 1 1] rfl (reads_blkN HB5.out HB5.out.lt rfl rfl) (by simp [Value.oneCell']) (by unfold maxLen; omega) (by omega) HR5.out.st.siz ?_); intro v2 w6 h2 h3 h4; obtain ⟨A', c', rfl, hp⟩ := PsR.push (x := ⟨κ, [x]⟩) HR5.out HV5.out HN5.out h2 h3; have HP := hide hp; have hbx := HR5.out.st.c0.grown h3 (fun e => by have := own_low_block HR5.out.st.nr.row _ e.symm; omega); have z6 := hbx.cell 0; have q6 := hbx.frozen 0; clear hp h2 h3 h4 hbx)
        refine ⟨trivial, ?_⟩
        gi_at_call 47
        refine (CallsIn.inRound l0 (callsIn_wide.2 (Tryz.strings_HasSuffix (str p) ⟨#[125]⟩ _ (by have := HF.out.len; rw [str_size]; omega)))).mono ?_
        rintro e w8 ⟨rfl, hw8⟩
        subst w8
        rw [HF.out.suf]
        gi_wp2
        exact HEnd.out _ _ _ _ _ HP.out
    | grow x hs l1 r hF hx6 hl1 hr1 hLe =>
      have HF := hide hF
      subst hLe
      clear hF
      gi_wp2_with fail
      refine ⟨trivial, ?_⟩
      gi_at_call 44
      refine (CallsIn.inRound l0 (callsIn_wide.2 (Tryz.strings_HasPrefix (str p) ⟨#[123]⟩ W))).mono ?_
      rintro e w1 ⟨rfl, hw1⟩
      subst w1
      rw [HF.out.pre]
      have HR := HS
      gi_wp2_with fail
      refine ⟨trivial, ?_⟩
      gi_at_call 46
      refine (CallsIn.inRound l0 (callsIn_wide.2 (Tryz.strings_Trim_laid (str p) ⟨#[123, 125]⟩ W (by have := HF.out.len; rw [str_size]; omega) (by decide) braces_ascii))).mono ?_
      rintro e w2 ⟨rfl, hb2⟩
      have HR2 := hide (HR.out.below hb2)
      clear hb2
      gi_wp2_with fail
      refine ⟨trivial, ?_⟩
      gi_at_call 45
      refine (CallsIn.inRound l0 (callsIn_wide.2 (pnum32 _ x HF.out.tl HF.out.num w2))).mono ?_
      rintro e w3 ⟨rfl, hb3⟩
      have HR3 := hide (HR2.out.below hb3)
      clear hb3
      have HRl := hide hr1
      obtain ⟨k, hk⟩ : ∃ k, l1.length = k := ⟨_, rfl⟩
      obtain ⟨g, vs0, v, cur, rfl, hn, rfl, hvl, hbg, hz0, hz1, hov⟩ := nr_last HR3.out.st.nr
      obtain ⟨Av, cv, rfl⟩ := own_slice hov
      rw [hk] at hn hz0 hz1
      have HBg := hide hbg
      have HZ0 := hide hz0
      have HZ1 := hide hz1
      have HOv := hide hov
      have hwn : IntKind.i64.wrap ((n : Int) - 1) = (k : Int) := by rw [IntKind.wrap_i64]; omega
      have i1 : (k : Int) < (n : Int) := by omega
      have i0_ : (0 : Int) ≤ (k : Int) := by omega
      have hnl : n ≤ 5 := by omega
      have HVl := hide hvl
      have HKk := hide hk
      have HNn := hide hn
      have z3 : w3.cell? ⟨w.heap.size, 0, none⟩ = some (.slice (some ⟨g, 0, none⟩) n c) := HR3.out.st.c0.cell 0
      clear hbg hz0 hz1 hov hvl hk hn
      gi_wp2
      have Hmn := hide (show AllMono [(fun v _ => v = .int .i64 (k : Int)), (fun v _ => v = .bool true), (fun v _ => v = .bool true), (fun v _ => v = .slice (some ⟨g, 0, none⟩) n c), (fun v _ => v = .int .i64 (k : Int)), (fun v _ => v = .pointer (some ⟨g, k * 2, none⟩)), (fun v _ => v = .pointer (some ⟨g, k * 2, none⟩)), (fun v _ => v = .int .i64 κ), (fun v _ => v = .int .i64 κ), (fun v _ => v = .bool true), (fun v _ => v = .bool true)] from ⟨fun _ _ _ _ h => h, fun _ _ _ _ h => h, fun _ _ _ _ h => h, fun _ _ _ _ h => h, fun _ _ _ _ h => h, fun _ _ _ _ h => h, fun _ _ _ _ h => h, fun _ _ _ _ h => h, fun _ _ _ _ h => h, fun _ _ _ _ h => h, fun _ _ _ _ h => h, trivial⟩)
      refine wpIn_region_rel 11 _ (by kernel_rfl) (by kernel_rfl) (by kernel_rfl) (by kernel_rfl) (by kernel_rfl) (relMono _ Hmn.out) (by kernel_rfl) ⟨?_, ?_, ?_, ?_, ?_, ?_, ?_, ?_, ?_, ?_, ?_, trivial⟩ ?_
      · refine relStep_plain rfl ?_
        intro Ac w5 hp
        have hb := hp.bel
        have a8 : Ac.eval (.tmp 8) = .int .i64 (k : Int) := hp.out 8 (by rfl)
        have hc := evalC Ac; have hf := evalF Ac; have hgl := evalG Ac
        obtain ⟨ρ, hρ⟩ : ∃ ρ, Ac.eval = ρ := ⟨_, rfl⟩
        rw [hρ] at a8 hc hf hgl
        exact relPure hρ (.int .i64 (k : Int)) (by simp [go_sem, hc, hf, hgl, ↓IntWalk.iteOmega, a8, *]) rfl
      · refine relStep_plain rfl ?_
        intro Ac w5 hp
        have hb := hp.bel
        have a28 : Ac.eval (.tmp 28) = .int .i64 (k : Int) := hp.dep 0 (by kernel_rfl)
        have hc := evalC Ac; have hf := evalF Ac; have hgl := evalG Ac
        obtain ⟨ρ, hρ⟩ : ∃ ρ, Ac.eval = ρ := ⟨_, rfl⟩
        rw [hρ] at a28 hc hf hgl
        exact relPure hρ (.bool true) (by simp [go_sem, hc, hf, hgl, ↓IntWalk.iteOmega, a28, *]) rfl
      · refine relStep_plain rfl ?_
        intro Ac w5 hp
        have hb := hp.bel
        have a29 : Ac.eval (.tmp 29) = .bool true := hp.dep 1 (by kernel_rfl)
        have hc := evalC Ac; have hf := evalF Ac; have hgl := evalG Ac
        obtain ⟨ρ, hρ⟩ : ∃ ρ, Ac.eval = ρ := ⟨_, rfl⟩
        rw [hρ] at a29 hc hf hgl
        exact relPure hρ (.bool true) (by simp [go_sem, hc, hf, hgl, ↓IntWalk.iteOmega, a29, *]) rfl
      · refine relStep_guard (g := 2) (b := true) (x := true) rfl (by kernel_rfl) rfl (by kernel_rfl) rfl (fun _ _ h => h) ?_
        intro Ac w5 hp
        have hb := hp.bel
        have a3 : Ac.eval (.tmp 3) = .pointer (some ⟨w.heap.size, 0, none⟩) := hp.out 3 (by rfl)
        have z1 : w5.cell? ⟨w.heap.size, 0, none⟩ = some (.slice (some ⟨g, 0, none⟩) n c) := (HR3.out.st.c0.below hb HR3.out.st.c0.lt).cell 0
        have hc := evalC Ac; have hf := evalF Ac; have hgl := evalG Ac
        obtain ⟨ρ, hρ⟩ : ∃ ρ, Ac.eval = ρ := ⟨_, rfl⟩
        rw [hρ] at a3 hc hf hgl
        exact relPure hρ (.slice (some ⟨g, 0, none⟩) n c) (by simp [go_sem, hc, hf, hgl, ↓IntWalk.iteOmega, a3, *]) rfl
      · refine relStep_guard (g := 2) (b := true) (x := true) rfl (by kernel_rfl) rfl (by kernel_rfl) rfl (fun _ _ h => h) ?_
        intro Ac w5 hp
        have hb := hp.bel
        have a8 : Ac.eval (.tmp 8) = .int .i64 (k : Int) := hp.out 8 (by rfl)
        have hc := evalC Ac; have hf := evalF Ac; have hgl := evalG Ac
        obtain ⟨ρ, hρ⟩ : ∃ ρ, Ac.eval = ρ := ⟨_, rfl⟩
        rw [hρ] at a8 hc hf hgl
        exact relPure hρ (.int .i64 (k : Int)) (by simp [go_sem, hc, hf, hgl, ↓IntWalk.iteOmega, a8, *]) rfl
      · refine relStep_guard (g := 2) (b := true) (x := true) rfl (by kernel_rfl) rfl (by kernel_rfl) rfl (fun _ _ h => h) ?_
        intro Ac w5 hp
        have hb := hp.bel
        have a31 : Ac.eval (.tmp 31) = .slice (some ⟨g, 0, none⟩) n c := hp.dep 3 (by kernel_rfl)
        have a32 : Ac.eval (.tmp 32) = .int .i64 (k : Int) := hp.dep 4 (by kernel_rfl)
        have hc := evalC Ac; have hf := evalF Ac; have hgl := evalG Ac
        obtain ⟨ρ, hρ⟩ : ∃ ρ, Ac.eval = ρ := ⟨_, rfl⟩
        rw [hρ] at a31 a32 hc hf hgl
        exact relPure hρ (.pointer (some ⟨g, k * 2, none⟩)) (by simp [go_sem, hc, hf, hgl, ↓IntWalk.iteOmega, a31, a32, *]) rfl
      · refine relStep_guard (g := 2) (b := true) (x := true) rfl (by kernel_rfl) rfl (by kernel_rfl) rfl (fun _ _ h => h) ?_
        intro Ac w5 hp
        have hb := hp.bel
        have a33 : Ac.eval (.tmp 33) = .pointer (some ⟨g, k * 2, none⟩) := hp.dep 5 (by kernel_rfl)
        have hc := evalC Ac; have hf := evalF Ac; have hgl := evalG Ac
        obtain ⟨ρ, hρ⟩ : ∃ ρ, Ac.eval = ρ := ⟨_, rfl⟩
        rw [hρ] at a33 hc hf hgl
        exact relPure hρ (.pointer (some ⟨g, k * 2, none⟩)) (by simp [go_sem, hc, hf, hgl, ↓IntWalk.iteOmega, a33, *]) rfl
      · refine relStep_guard (g := 2) (b := true) (x := true) rfl (by kernel_rfl) rfl (by kernel_rfl) rfl (fun _ _ h => h) ?_
        intro Ac w5 hp
        have hb := hp.bel
        have a34 : Ac.eval (.tmp 34) = .pointer (some ⟨g, k * 2, none⟩) := hp.dep 6 (by kernel_rfl)
        have z1 : w5.cell? ⟨g, k * 2, none⟩ = some (.int .i64 κ) := (World.cell?_of_block (hb.block g HBg.out.lt)).trans HZ0.out
        have hc := evalC Ac; have hf := evalF Ac; have hgl := evalG Ac
        obtain ⟨ρ, hρ⟩ : ∃ ρ, Ac.eval = ρ := ⟨_, rfl⟩
        rw [hρ] at a34 hc hf hgl
        exact relPure hρ (.int .i64 κ) (by simp [go_sem, hc, hf, hgl, ↓IntWalk.iteOmega, a34, *]) rfl
      · refine relStep_guard (g := 2) (b := true) (x := true) rfl (by kernel_rfl) rfl (by kernel_rfl) rfl (fun _ _ h => h) ?_
        intro Ac w5 hp
        have hb := hp.bel
        have a4 : Ac.eval (.tmp 4) = .pointer (some ⟨w.heap.size + 1, 0, none⟩) := hp.out 4 (by rfl)
        have z1 : w5.cell? ⟨w.heap.size + 1, 0, none⟩ = some (.int .i64 κ) := (HR3.out.st.c1.below hb HR3.out.st.c1.lt).cell 0
        have hc := evalC Ac; have hf := evalF Ac; have hgl := evalG Ac
        obtain ⟨ρ, hρ⟩ : ∃ ρ, Ac.eval = ρ := ⟨_, rfl⟩
        rw [hρ] at a4 hc hf hgl
        exact relPure hρ (.int .i64 κ) (by simp [go_sem, hc, hf, hgl, ↓IntWalk.iteOmega, a4, *]) rfl
      · refine relStep_guard (g := 2) (b := true) (x := true) rfl (by kernel_rfl) rfl (by kernel_rfl) rfl (fun _ _ h => h) ?_
        intro Ac w5 hp
        have hb := hp.bel
        have a35 : Ac.eval (.tmp 35) = .int .i64 κ := hp.dep 7 (by kernel_rfl)
        have a36 : Ac.eval (.tmp 36) = .int .i64 κ := hp.dep 8 (by kernel_rfl)
        have hc := evalC Ac; have hf := evalF Ac; have hgl := evalG Ac
        obtain ⟨ρ, hρ⟩ : ∃ ρ, Ac.eval = ρ := ⟨_, rfl⟩
        rw [hρ] at a35 a36 hc hf hgl
        exact relPure hρ (.bool true) (by simp [go_sem, hc, hf, hgl, ↓IntWalk.iteOmega, a35, a36, *]) rfl
      · refine relStep_plain rfl ?_
        intro Ac w5 hp
        have hb := hp.bel
        have a30 : Ac.eval (.tmp 30) = .bool true := hp.dep 2 (by kernel_rfl)
        have a37 : Ac.eval (.tmp 37) = .bool true := hp.dep 9 (by kernel_rfl)
        have hc := evalC Ac; have hf := evalF Ac; have hgl := evalG Ac
        obtain ⟨ρ, hρ⟩ : ∃ ρ, Ac.eval = ρ := ⟨_, rfl⟩
        rw [hρ] at a30 a37 hc hf hgl
        exact relPure hρ (.bool true) (by simp [go_sem, hc, hf, hgl, ↓IntWalk.iteOmega, a30, a37, *]) rfl
      intro u w4 hb7 hall
      have e38 : u 10 = .bool true := relAll_at hall (i := 10) (by decide +kernel)
      clear hall
      simp only [List.drop_succ_cons, List.drop_zero, List.take_succ_cons, List.take_zero, putAll, Act.put, List.setIfInBounds_toArray, List.set_cons_zero, List.set_cons_succ, Nat.zero_add, Nat.reduceAdd, e38]
      have HR4 := hide (HR3.out.below hb7)
      have HBg4 := hide (HBg.out.below hb7 HBg.out.lt)
      have HZ4 := hide ((World.cell?_of_block (hb7.block g HBg.out.lt)).trans HZ1.out)
      have HO1 := hide (own_block_lt (psr_last HR4.out))
      have HO0 := hide (own_low_block (psr_last HR4.out))
      have HGn := hide (fun e => own_types HR4.out.st.nr.row (psr_last HR4.out) (by decide) g rfl (Eq.symm e) : some g ≠ (Value.slice Av r.length cv).ownBlock)
      have hwx : IntKind.u32.wrap (x : Int) = (x : Int) := by rw [IntKind.wrap_u32]; omega
      clear hb7
      gi_wp2
      refine wpIn_region_relET 13 (w.heap.size + 5) HR4.out.st.siz [(fun v _ => v = .slice (some ⟨g, 0, none⟩) n c), (fun v _ => v = .int .i64 (k : Int)), (fun v _ => v = .slice (some ⟨g, 0, none⟩) n c), (fun v _ => v = .int .i64 (k : Int)), (fun v _ => v = .pointer (some ⟨g, k * 2, none⟩)), (fun v _ => v = .pointer (some ⟨g, k * 2 + 1, none⟩)), (fun v _ => v = Value.slice Av r.length cv), (fun v _ => v = .int .u64 (x : Int)), (fun v _ => v = .int .u32 (x : Int)), (fun v2 W2 => ∃ R, v2 = .slice (some ⟨R, 0, none⟩) 1 1 ∧ Blk W2 R 29 #[.int .u32 (x : Int)] ∧ w4.heap.size ≤ R), (fun v2 W2 => ∃ A6 c6, v2 = .slice A6 (r.length + 1) c6 ∧ ∃ wa, PsR LO w.heap.size w W wa κ (some ⟨g, 0, none⟩) n c (l1 ++ [⟨κ, r⟩]) (vs0 ++ [Value.slice Av r.length cv]) ∧ W2.ownsRow (w.heap.size + 5) 29 1 (.slice A6 (r.length + 1) c6) (r ++ [x]).length (u32c (r ++ [x])) ∧ wa.grownBy W2 (Value.slice Av r.length cv).ownBlock ∧ ((Value.slice A6 (r.length + 1) c6).ownBlock = (Value.slice Av r.length cv).ownBlock ∨ (Value.slice A6 (r.length + 1) c6).ownBlock = some wa.heap.size)), (fun v _ => v = .pointer (some ⟨g, k * 2, none⟩)), (fun v _ => v = .pointer (some ⟨g, k * 2 + 1, none⟩))] (fun i W2 => (i = 10 → PsR LO w.heap.size w W W2 κ (some ⟨g, 0, none⟩) n c (l1 ++ [⟨κ, r⟩]) (vs0 ++ [Value.slice Av r.length cv])) ∧ W2.cell? ⟨g, k * 2 + 1, none⟩ = some (Value.slice Av r.length cv) ∧ g < W2.heap.size) (fun i wa wb => if i = 10 then wa.grownBy wb (Value.slice Av r.length cv).ownBlock else Below wa.heap.size wa wb) (fun _ _ _ _ => True) (by kernel_rfl) (by kernel_rfl) (by kernel_rfl) (by kernel_rfl) (by kernel_rfl) (by kernel_rfl) (fun i wa wb hB he => by
        split at he
        · exact (Below.refl _ wa).grown he hB (fun k hk => HO0.out k hk)
        · exact he.mono hB) (fun i2 j2 v2 wa wb hij hB he h => by
        split at he
        · rename_i hj2
          subst hj2
          refine keepAll_at (E := fun wa wb => wa.grownBy wb (Value.slice Av r.length cv).ownBlock) (x := 10) (k := 0) ?_ (by omega) he h
          exact ⟨fun _ v w1 w2 he h => h, fun _ v w1 w2 he h => h, fun _ v w1 w2 he h => h, fun _ v w1 w2 he h => h, fun _ v w1 w2 he h => h, fun _ v w1 w2 he h => h, fun _ v w1 w2 he h => h, fun _ v w1 w2 he h => h, fun _ v w1 w2 he h => h, fun _ v w1 w2 he h => by obtain ⟨R, e, h0, hR⟩ := h; exact ⟨R, e, h0.grown he (fun hr => by have := HO1.out R hr.symm; omega), hR⟩, fun hn => absurd rfl hn, fun _ v w1 w2 he h => h, fun _ v w1 w2 he h => h, trivial⟩
        · refine relMono _ ?_ i2 v2 wa wb he h
          exact ⟨fun _ _ _ _ h => h, fun _ _ _ _ h => h, fun _ _ _ _ h => h, fun _ _ _ _ h => h, fun _ _ _ _ h => h, fun _ _ _ _ h => h, fun _ _ _ _ h => h, fun _ _ _ _ h => h, fun _ _ _ _ h => h, fun v2 w2 w3 hb ⟨R, e, h1, h2⟩ => ⟨R, e, h1.below hb h1.lt, h2⟩, fun v2 w2 w3 hb ⟨A6, c6, e, wa, h1, h2, h3, h4⟩ => ⟨A6, c6, e, wa, h1, own_below h2 hb, grown_below h3 hb, h4⟩, fun _ _ _ _ h => h, fun _ _ _ _ h => h, trivial⟩) (fun i2 j2 wa wb hij hB he h => by
        split at he
        · rename_i hj2
          subst hj2
          exact ⟨fun e => absurd e hij, (World.cell?_of_block (he.block g h.2.2 HGn.out)).trans h.2.1, Nat.lt_of_lt_of_le h.2.2 he.size⟩
        · exact ⟨fun e => (h.1 e).below he, (World.cell?_of_block (he.block g h.2.2)).trans h.2.1, Nat.lt_of_lt_of_le h.2.2 he.size⟩) (fun _ _ _ _ _ => trivial) (fun j _ => ⟨fun _ => HR4.out.below below_drew, HZ4.out, HBg4.out.lt⟩) ⟨?_, ?_, ?_, ?_, ?_, ?_, ?_, ?_, ?_, ?_, ?_, ?_, ?_, trivial⟩ ?_
      · refine relE_of rfl (fun _ _ _ => trivial) ?_
        intro Dn Ac w5 hp
        have hb := hp.bel
        have a3 : Ac.eval (.tmp 3) = .pointer (some ⟨w.heap.size, 0, none⟩) := hp.out 3 (by rfl)
        have z1 : w5.cell? ⟨w.heap.size, 0, none⟩ = some (.slice (some ⟨g, 0, none⟩) n c) := (HR4.out.st.c0.below hb (by omega)).cell 0
        have hc := evalC Ac; have hf := evalF Ac; have hgl := evalG Ac
        obtain ⟨ρ, hρ⟩ : ∃ ρ, Ac.eval = ρ := ⟨_, rfl⟩
        rw [hρ] at a3 hc hf hgl
        exact relPure hρ (.slice (some ⟨g, 0, none⟩) n c) (by simp [go_sem, hc, hf, hgl, ↓IntWalk.iteOmega, a3, *]) rfl
      · refine relE_of rfl (fun _ _ _ => trivial) ?_
        intro Dn Ac w5 hp
        have hb := hp.bel
        have a8 : Ac.eval (.tmp 8) = .int .i64 (k : Int) := hp.out 8 (by rfl)
        have hc := evalC Ac; have hf := evalF Ac; have hgl := evalG Ac
        obtain ⟨ρ, hρ⟩ : ∃ ρ, Ac.eval = ρ := ⟨_, rfl⟩
        rw [hρ] at a8 hc hf hgl
        exact relPure hρ (.int .i64 (k : Int)) (by simp [go_sem, hc, hf, hgl, ↓IntWalk.iteOmega, a8, *]) rfl
      · refine relE_of rfl (fun _ _ _ => trivial) ?_
        intro Dn Ac w5 hp
        have hb := hp.bel
        have a3 : Ac.eval (.tmp 3) = .pointer (some ⟨w.heap.size, 0, none⟩) := hp.out 3 (by rfl)
        have z1 : w5.cell? ⟨w.heap.size, 0, none⟩ = some (.slice (some ⟨g, 0, none⟩) n c) := (HR4.out.st.c0.below hb (by omega)).cell 0
        have hc := evalC Ac; have hf := evalF Ac; have hgl := evalG Ac
        obtain ⟨ρ, hρ⟩ : ∃ ρ, Ac.eval = ρ := ⟨_, rfl⟩
        rw [hρ] at a3 hc hf hgl
        exact relPure hρ (.slice (some ⟨g, 0, none⟩) n c) (by simp [go_sem, hc, hf, hgl, ↓IntWalk.iteOmega, a3, *]) rfl
      · refine relE_of rfl (fun _ _ _ => trivial) ?_
        intro Dn Ac w5 hp
        have hb := hp.bel
        have a8 : Ac.eval (.tmp 8) = .int .i64 (k : Int) := hp.out 8 (by rfl)
        have hc := evalC Ac; have hf := evalF Ac; have hgl := evalG Ac
        obtain ⟨ρ, hρ⟩ : ∃ ρ, Ac.eval = ρ := ⟨_, rfl⟩
        rw [hρ] at a8 hc hf hgl
        exact relPure hρ (.int .i64 (k : Int)) (by simp [go_sem, hc, hf, hgl, ↓IntWalk.iteOmega, a8, *]) rfl
      · refine relE_of rfl (fun _ _ _ => trivial) ?_
        intro Dn Ac w5 hp
        have hb := hp.bel
        have a41 : Ac.eval (.tmp 41) = .slice (some ⟨g, 0, none⟩) n c := hp.dep 2 (by kernel_rfl)
        have a42 : Ac.eval (.tmp 42) = .int .i64 (k : Int) := hp.dep 3 (by kernel_rfl)
        have hc := evalC Ac; have hf := evalF Ac; have hgl := evalG Ac
        obtain ⟨ρ, hρ⟩ : ∃ ρ, Ac.eval = ρ := ⟨_, rfl⟩
        rw [hρ] at a41 a42 hc hf hgl
        exact relPure hρ (.pointer (some ⟨g, k * 2, none⟩)) (by simp [go_sem, hc, hf, hgl, ↓IntWalk.iteOmega, a41, a42, *]) rfl
      · refine relE_of rfl (fun _ _ _ => trivial) ?_
        intro Dn Ac w5 hp
        have hb := hp.bel
        have a43 : Ac.eval (.tmp 43) = .pointer (some ⟨g, k * 2, none⟩) := hp.dep 4 (by kernel_rfl)
        have hc := evalC Ac; have hf := evalF Ac; have hgl := evalG Ac
        obtain ⟨ρ, hρ⟩ : ∃ ρ, Ac.eval = ρ := ⟨_, rfl⟩
        rw [hρ] at a43 hc hf hgl
        exact relPure hρ (.pointer (some ⟨g, k * 2 + 1, none⟩)) (by simp [go_sem, hc, hf, hgl, ↓IntWalk.iteOmega, a43, *]) rfl
      · refine relE_of rfl (fun _ _ _ => trivial) ?_
        intro Dn Ac w5 hp
        have hb := hp.bel
        have a44 : Ac.eval (.tmp 44) = .pointer (some ⟨g, k * 2 + 1, none⟩) := hp.dep 5 (by kernel_rfl)
        have z1 : w5.cell? ⟨g, k * 2 + 1, none⟩ = some (Value.slice Av r.length cv) := hp.pre.2.1
        have hc := evalC Ac; have hf := evalF Ac; have hgl := evalG Ac
        obtain ⟨ρ, hρ⟩ : ∃ ρ, Ac.eval = ρ := ⟨_, rfl⟩
        rw [hρ] at a44 hc hf hgl
        exact relPure hρ (Value.slice Av r.length cv) (by simp [go_sem, hc, hf, hgl, ↓IntWalk.iteOmega, a44, *]) rfl
      · refine relE_of rfl (fun _ _ _ => trivial) ?_
        intro Dn Ac w5 hp
        have hb := hp.bel
        have a6 : Ac.eval (.tmp 6) = .int .u64 (x : Int) := hp.out 6 (by rfl)
        have hc := evalC Ac; have hf := evalF Ac; have hgl := evalG Ac
        obtain ⟨ρ, hρ⟩ : ∃ ρ, Ac.eval = ρ := ⟨_, rfl⟩
        rw [hρ] at a6 hc hf hgl
        exact relPure hρ (.int .u64 (x : Int)) (by simp [go_sem, hc, hf, hgl, ↓IntWalk.iteOmega, a6, *]) rfl
      · refine relE_of rfl (fun _ _ _ => trivial) ?_
        intro Dn Ac w5 hp
        have hb := hp.bel
        have a46 : Ac.eval (.tmp 46) = .int .u64 (x : Int) := hp.dep 7 (by kernel_rfl)
        have hc := evalC Ac; have hf := evalF Ac; have hgl := evalG Ac
        obtain ⟨ρ, hρ⟩ : ∃ ρ, Ac.eval = ρ := ⟨_, rfl⟩
        rw [hρ] at a46 hc hf hgl
        exact relPure hρ (.int .u32 (x : Int)) (by simp [go_sem, hc, hf, hgl, ↓IntWalk.iteOmega, a46, *]) rfl
      · skip
        intro Dn Ac w5 hp
        have hb := hp.bel
        have a47 : Ac.eval (.tmp 47) = .int .u32 (x : Int) := hp.dep 8 (by kernel_rfl)
        have hc := evalC Ac; have hf := evalF Ac; have hgl := evalG Ac
        obtain ⟨ρ, hρ⟩ : ∃ ρ, Ac.eval = ρ := ⟨_, rfl⟩
        rw [hρ] at a47 hc hf hgl
        refine Oper.wp_mono ?_ (relVal (Rs := [fun v w' => v = .slice (some ⟨w5.heap.size, 0, none⟩) 1 1 ∧ w' = w5.alloc (.cells #[.int .u32 (x : Int)] 29)]) (i := 0) hρ (.slice (some ⟨w5.heap.size, 0, none⟩) 1 1) (w5.alloc (.cells #[.int .u32 (x : Int)] 29)) (by simp [go_sem, hc, hf, hgl, ↓IntWalk.iteOmega, a47]) ⟨rfl, rfl⟩ ((Below.refl _ _).alloc (Nat.le_refl _) _))
        rintro A' w' ⟨v, rfl, ⟨rfl, rfl⟩, hb9⟩
        exact ⟨_, rfl, ⟨w5.heap.size, rfl, Blk.new w5 _ _, hb.size⟩, hb9, fun j _ => trivial⟩
      · skip
        intro Dn Ac w5 hp
        have hb := hp.bel
        have a45 : Ac.eval (.tmp 45) = Value.slice Av r.length cv := hp.dep 6 (by kernel_rfl)
        obtain ⟨R48, a48, hR48, hRb48⟩ := hp.dep 9 (by kernel_rfl)
        change Ac.eval (.tmp 48) = _ at a48
        have hps := hp.pre.1 rfl
        refine wp_append_any w5 (.tmp 45) (.tmp 48) 24 rfl (w.heap.size + 5) 29 j0 _ 1 4 Tryz.underlying24 hj hy0 hy1 hy2 rfl (by decide) (Value.slice Av r.length cv) r.length (u32c r) a45 (psr_last hps) w5.heap.size (some ⟨R48, 0, none⟩) 1 1 [.int .u32 (x : Int)] a48 (reads_blkN hR48 hR48.lt rfl rfl) (by simp [Value.oneCell']) (by have := HRl.out; unfold maxLen; omega) (by have := HRl.out; omega) hps.st.siz ?_
        intro v2 w6 h2 h3 h4
        obtain ⟨A6, c6, rfl⟩ := own_slice h2
        exact ⟨_, rfl, ⟨A6, c6, rfl, w5, hps, by rw [List.length_append, u32c_app]; exact h2, h3, h4⟩, h3, fun j _ => trivial⟩
      · refine relE_of rfl (fun _ _ _ => trivial) ?_
        intro Dn Ac w5 hp
        have hb := hp.bel
        have a39 : Ac.eval (.tmp 39) = .slice (some ⟨g, 0, none⟩) n c := hp.dep 0 (by kernel_rfl)
        have a40 : Ac.eval (.tmp 40) = .int .i64 (k : Int) := hp.dep 1 (by kernel_rfl)
        have hc := evalC Ac; have hf := evalF Ac; have hgl := evalG Ac
        obtain ⟨ρ, hρ⟩ : ∃ ρ, Ac.eval = ρ := ⟨_, rfl⟩
        rw [hρ] at a39 a40 hc hf hgl
        exact relPure hρ (.pointer (some ⟨g, k * 2, none⟩)) (by simp [go_sem, hc, hf, hgl, ↓IntWalk.iteOmega, a39, a40, *]) rfl
      · refine relE_of rfl (fun _ _ _ => trivial) ?_
        intro Dn Ac w5 hp
        have hb := hp.bel
        have a50 : Ac.eval (.tmp 50) = .pointer (some ⟨g, k * 2, none⟩) := hp.dep 11 (by kernel_rfl)
        have hc := evalC Ac; have hf := evalF Ac; have hgl := evalG Ac
        obtain ⟨ρ, hρ⟩ : ∃ ρ, Ac.eval = ρ := ⟨_, rfl⟩
        rw [hρ] at a50 hc hf hgl
        exact relPure hρ (.pointer (some ⟨g, k * 2 + 1, none⟩)) (by simp [go_sem, hc, hf, hgl, ↓IntWalk.iteOmega, a50, *]) rfl
      intro u w8 hb7 hall hprs
      obtain ⟨A49, c49, e49, wa, hpsa, howna, hgra, hala⟩ := relAll_at hall (i := 10) (by decide +kernel)
      change u 10 = _ at e49
      have e51 : u 12 = .pointer (some ⟨g, k * 2 + 1, none⟩) := relAll_at hall (i := 12) (by decide +kernel)
      clear hall
      simp only [List.drop_succ_cons, List.drop_zero, List.take_succ_cons, List.take_zero, putAll, Act.put, List.setIfInBounds_toArray, List.set_cons_zero, List.set_cons_succ, Nat.zero_add, Nat.reduceAdd, e49, e51]
      obtain ⟨z9, q9⟩ := psr_put hpsa HKk.out hgra
      have HP := hide (PsR.grow hpsa howna hgra hala)
      rw [HKk.out] at HP
      clear hpsa howna hgra hala hb7
      go_wp2
      refine ⟨rfl, ?_⟩
      gi_wp2_with fail
      refine ⟨trivial, ?_⟩
      gi_at_call 47
      refine (CallsIn.inRound l0 (callsIn_wide.2 (Tryz.strings_HasSuffix (str p) ⟨#[125]⟩ _ (by have := HF.out.len; rw [str_size]; omega)))).mono ?_
      rintro e w8 ⟨rfl, hw8⟩
      subst w8
      rw [HF.out.suf]
      have y9 := HP.out.st.c1.cell 0
      have x9 := HP.out.st.c1.frozen 0
      cases hs
      · gi_wp2
        exact HEnd.out _ _ _ _ _ HP.out
      · gi_wp2
        exact HEnd.out _ _ _ _ _ (HP.out.kind 2)
    | open_ x hF hx6 hL3 =>
      have HF := hide hF
      clear hF
      obtain ⟨r, hr0⟩ : ∃ r : List Nat, r = [] := ⟨[], rfl⟩
      have hr1 : r.length ≤ 3 := by rw [hr0]; simp
      have HEn2 := hide (fun (W' : World) (A : Option Addr) (n c : Nat) (vs : List Value) (h : PsR LO w.heap.size w W W' 1 A n c (L ++ [⟨1, r ++ [x]⟩]) vs) => HEnd.out W' A n c vs (by rw [hr0] at h; exact h))
      have HR0 := hide hr0
      clear hr0
      have HRl := hide hr1
      gi_wp2_with fail
      refine ⟨trivial, ?_⟩
      gi_at_call 44
      refine (CallsIn.inRound l0 (callsIn_wide.2 (Tryz.strings_HasPrefix (str p) ⟨#[123]⟩ W))).mono ?_
      rintro e w1 ⟨rfl, hw1⟩
      subst w1
      rw [HF.out.pre]
      have s0 := HS.out.st.c1.cell 0
      have s1 := HS.out.st.c1.frozen 0
      have hn3 : n ≤ 3 := by have := nr_n HS.out.st.nr; omega
      obtain ⟨w1, hw1⟩ : ∃ w1, W.setCell ⟨w.heap.size + 1, 0, none⟩ (.int .i64 1) = w1 := ⟨_, rfl⟩
      have HW1 := hide hw1
      have HR1 := hide (hw1 ▸ HS.out.kind 1)
      have hs1 : w1.heap.size = W.heap.size := by rw [← hw1]; simp
      obtain ⟨w5, hw5⟩ : ∃ w5, w1.alloc (.cells #[.int .i64 1, .slice none 0 0] 36) = w5 := ⟨_, rfl⟩
      have HW5 := hide hw5
      have HR5 : Hid (PsR LO w.heap.size w W w5 1 A n c L vs) := hide (hw5 ▸ psr_alloc HR1.out _)
      have HB5 : Hid (Blk w5 W.heap.size 36 #[.int .i64 1, .slice none 0 0]) := hide (hw5 ▸ blk_new' _ _ hs1.symm)
      have z0 : (W.setCell ⟨w.heap.size + 1, 0, none⟩ (.int .i64 1)).cell? ⟨w.heap.size, 0, none⟩ = some (.slice A n c) := hw1 ▸ HR1.out.st.c0.cell 0
      have z1 : (W.setCell ⟨w.heap.size + 1, 0, none⟩ (.int .i64 1)).cell? ⟨w.heap.size + 1, 0, none⟩ = some (.int .i64 1) := hw1 ▸ HR1.out.st.c1.cell 0
      clear hw5 hw1 hs1
      gi_wp2_with (gi_at_builtin; rw [HW1.out, HW5.out]; refine wpListIn_of_wp rfl rfl (wp_append_any w5 (.tmp 14) (.tmp 17) 22 rfl (w.heap.size + 5) 36 i0 _ 2 32 Tryz.underlying22 hi hz0 hz1 hz2 rfl (by decide) (.slice A n c) n (nrC L vs) rfl HR5.out.st.nr.row w5.heap.size (some ⟨W.heap.size, 0, none⟩) 1 1 [.int .i64 1, .slice none 0 0] rfl (reads_blkN HB5.out HB5.out.lt rfl rfl) (by simp [Value.oneCell']) (by unfold maxLen; omega) (by omega) HR5.out.st.siz ?_); intro v2 w6 h2 h3 h4; obtain ⟨A', c', rfl, hp⟩ := PsR.push (x := ⟨1, r⟩) HR5.out (by rw [HR0.out]; exact World.ownsRow_nil _ _ _ _) (fun i v' hv z hz e => by cases e) h2 h3; have HP := hide hp; have hbx := HR5.out.st.c0.grown h3 (fun e => by have := own_low_block HR5.out.st.nr.row _ e.symm; omega); have z6 := hbx.cell 0; have q6 := hbx.frozen 0; clear hp h2 h3 h4 hbx)
      obtain ⟨w7, hw7⟩ : ∃ w7, w6.setCell ⟨w.heap.size, 0, none⟩ (.slice A' (n + 1) c') = w7 := ⟨_, rfl⟩
      rw [hw7] at HP
      rw [hw7]
      clear z6 q6 z0 z1 s0 s1
      obtain ⟨n, A, c, vs, HR⟩ : ∃ (n : Nat) (A : Option Addr) (c : Nat) (vs : List Value), Hid (PsR LO w.heap.size w W w7 1 A n c (L ++ [⟨1, r⟩]) vs) := ⟨_, _, _, _, HP⟩
      clear HP hw7
      gi_wp2_with fail
      refine ⟨trivial, ?_⟩
      gi_at_call 46
      refine (CallsIn.inRound l0 (callsIn_wide.2 (Tryz.strings_Trim_laid (str p) ⟨#[123, 125]⟩ w7 (by have := HF.out.len; rw [str_size]; omega) (by decide) braces_ascii))).mono ?_
      rintro e w2 ⟨rfl, hb2⟩
      have HR2 := hide (HR.out.below hb2)
      clear hb2
      gi_wp2_with fail
      refine ⟨trivial, ?_⟩
      gi_at_call 45
      refine (CallsIn.inRound l0 (callsIn_wide.2 (pnum32 _ x HF.out.tl HF.out.num w2))).mono ?_
      rintro e w3 ⟨rfl, hb3⟩
      have HR3 := hide (HR2.out.below hb3)
      clear hb3
      obtain ⟨k, hk⟩ : ∃ k, L.length = k := ⟨_, rfl⟩
      obtain ⟨g, vs0, v, cur, rfl, hn, rfl, hvl, hbg, hz0, hz1, hov⟩ := nr_last HR3.out.st.nr
      obtain ⟨Av, cv, rfl⟩ := own_slice hov
      rw [hk] at hn hz0 hz1
      have HBg := hide hbg
      have HZ0 := hide hz0
      have HZ1 := hide hz1
      have HOv := hide hov
      have hwn : IntKind.i64.wrap ((n : Int) - 1) = (k : Int) := by rw [IntKind.wrap_i64]; omega
      have i1 : (k : Int) < (n : Int) := by omega
      have i0_ : (0 : Int) ≤ (k : Int) := by omega
      have hnl : n ≤ 5 := by omega
      have HVl := hide hvl
      have HKk := hide hk
      have HNn := hide hn
      have z3 : w3.cell? ⟨w.heap.size, 0, none⟩ = some (.slice (some ⟨g, 0, none⟩) n c) := HR3.out.st.c0.cell 0
      clear hbg hz0 hz1 hov hvl hk hn
      gi_wp2
      have Hmn := hide (show AllMono [(fun v _ => v = .int .i64 (k : Int)), (fun v _ => v = .bool true), (fun v _ => v = .bool true), (fun v _ => v = .slice (some ⟨g, 0, none⟩) n c), (fun v _ => v = .int .i64 (k : Int)), (fun v _ => v = .pointer (some ⟨g, k * 2, none⟩)), (fun v _ => v = .pointer (some ⟨g, k * 2, none⟩)), (fun v _ => v = .int .i64 1), (fun v _ => v = .int .i64 1), (fun v _ => v = .bool true), (fun v _ => v = .bool true)] from ⟨fun _ _ _ _ h => h, fun _ _ _ _ h => h, fun _ _ _ _ h => h, fun _ _ _ _ h => h, fun _ _ _ _ h => h, fun _ _ _ _ h => h, fun _ _ _ _ h => h, fun _ _ _ _ h => h, fun _ _ _ _ h => h, fun _ _ _ _ h => h, fun _ _ _ _ h => h, trivial⟩)
      refine wpIn_region_rel 11 _ (by kernel_rfl) (by kernel_rfl) (by kernel_rfl) (by kernel_rfl) (by kernel_rfl) (relMono _ Hmn.out) (by kernel_rfl) ⟨?_, ?_, ?_, ?_, ?_, ?_, ?_, ?_, ?_, ?_, ?_, trivial⟩ ?_
      · refine relStep_plain rfl ?_
        intro Ac w5 hp
        have hb := hp.bel
        have a8 : Ac.eval (.tmp 8) = .int .i64 (k : Int) := hp.out 8 (by rfl)
        have hc := evalC Ac; have hf := evalF Ac; have hgl := evalG Ac
        obtain ⟨ρ, hρ⟩ : ∃ ρ, Ac.eval = ρ := ⟨_, rfl⟩
        rw [hρ] at a8 hc hf hgl
        exact relPure hρ (.int .i64 (k : Int)) (by simp [go_sem, hc, hf, hgl, ↓IntWalk.iteOmega, a8, *]) rfl
      · refine relStep_plain rfl ?_
        intro Ac w5 hp
        have hb := hp.bel
        have a28 : Ac.eval (.tmp 28) = .int .i64 (k : Int) := hp.dep 0 (by kernel_rfl)
        have hc := evalC Ac; have hf := evalF Ac; have hgl := evalG Ac
        obtain ⟨ρ, hρ⟩ : ∃ ρ, Ac.eval = ρ := ⟨_, rfl⟩
        rw [hρ] at a28 hc hf hgl
        exact relPure hρ (.bool true) (by simp [go_sem, hc, hf, hgl, ↓IntWalk.iteOmega, a28, *]) rfl
      · refine relStep_plain rfl ?_
        intro Ac w5 hp
        have hb := hp.bel
        have a29 : Ac.eval (.tmp 29) = .bool true := hp.dep 1 (by kernel_rfl)
        have hc := evalC Ac; have hf := evalF Ac; have hgl := evalG Ac
        obtain ⟨ρ, hρ⟩ : ∃ ρ, Ac.eval = ρ := ⟨_, rfl⟩
        rw [hρ] at a29 hc hf hgl
        exact relPure hρ (.bool true) (by simp [go_sem, hc, hf, hgl, ↓IntWalk.iteOmega, a29, *]) rfl
      · refine relStep_guard (g := 2) (b := true) (x := true) rfl (by kernel_rfl) rfl (by kernel_rfl) rfl (fun _ _ h => h) ?_
        intro Ac w5 hp
        have hb := hp.bel
        have a3 : Ac.eval (.tmp 3) = .pointer (some ⟨w.heap.size, 0, none⟩) := hp.out 3 (by rfl)
        have z1 : w5.cell? ⟨w.heap.size, 0, none⟩ = some (.slice (some ⟨g, 0, none⟩) n c) := (HR3.out.st.c0.below hb HR3.out.st.c0.lt).cell 0
        have hc := evalC Ac; have hf := evalF Ac; have hgl := evalG Ac
        obtain ⟨ρ, hρ⟩ : ∃ ρ, Ac.eval = ρ := ⟨_, rfl⟩
        rw [hρ] at a3 hc hf hgl
        exact relPure hρ (.slice (some ⟨g, 0, none⟩) n c) (by simp [go_sem, hc, hf, hgl, ↓IntWalk.iteOmega, a3, *]) rfl
      · refine relStep_guard (g := 2) (b := true) (x := true) rfl (by kernel_rfl) rfl (by kernel_rfl) rfl (fun _ _ h => h) ?_
        intro Ac w5 hp
        have hb := hp.bel
        have a8 : Ac.eval (.tmp 8) = .int .i64 (k : Int) := hp.out 8 (by rfl)
        have hc := evalC Ac; have hf := evalF Ac; have hgl := evalG Ac
        obtain ⟨ρ, hρ⟩ : ∃ ρ, Ac.eval = ρ := ⟨_, rfl⟩
        rw [hρ] at a8 hc hf hgl
        exact relPure hρ (.int .i64 (k : Int)) (by simp [go_sem, hc, hf, hgl, ↓IntWalk.iteOmega, a8, *]) rfl
      · refine relStep_guard (g := 2) (b := true) (x := true) rfl (by kernel_rfl) rfl (by kernel_rfl) rfl (fun _ _ h => h) ?_
        intro Ac w5 hp
        have hb := hp.bel
        have a31 : Ac.eval (.tmp 31) = .slice (some ⟨g, 0, none⟩) n c := hp.dep 3 (by kernel_rfl)
        have a32 : Ac.eval (.tmp 32) = .int .i64 (k : Int) := hp.dep 4 (by kernel_rfl)
        have hc := evalC Ac; have hf := evalF Ac; have hgl := evalG Ac
        obtain ⟨ρ, hρ⟩ : ∃ ρ, Ac.eval = ρ := ⟨_, rfl⟩
        rw [hρ] at a31 a32 hc hf hgl
        exact relPure hρ (.pointer (some ⟨g, k * 2, none⟩)) (by simp [go_sem, hc, hf, hgl, ↓IntWalk.iteOmega, a31, a32, *]) rfl
      · refine relStep_guard (g := 2) (b := true) (x := true) rfl (by kernel_rfl) rfl (by kernel_rfl) rfl (fun _ _ h => h) ?_
        intro Ac w5 hp
        have hb := hp.bel
        have a33 : Ac.eval (.tmp 33) = .pointer (some ⟨g, k * 2, none⟩) := hp.dep 5 (by kernel_rfl)
        have hc := evalC Ac; have hf := evalF Ac; have hgl := evalG Ac
        obtain ⟨ρ, hρ⟩ : ∃ ρ, Ac.eval = ρ := ⟨_, rfl⟩
        rw [hρ] at a33 hc hf hgl
        exact relPure hρ (.pointer (some ⟨g, k * 2, none⟩)) (by simp [go_sem, hc, hf, hgl, ↓IntWalk.iteOmega, a33, *]) rfl
      · refine relStep_guard (g := 2) (b := true) (x := true) rfl (by kernel_rfl) rfl (by kernel_rfl) rfl (fun _ _ h => h) ?_
        intro Ac w5 hp
        have hb := hp.bel
        have a34 : Ac.eval (.tmp 34) = .pointer (some ⟨g, k * 2, none⟩) := hp.dep 6 (by kernel_rfl)
        have z1 : w5.cell? ⟨g, k * 2, none⟩ = some (.int .i64 1) := (World.cell?_of_block (hb.block g HBg.out.lt)).trans HZ0.out
        have hc := evalC Ac; have hf := evalF Ac; have hgl := evalG Ac
        obtain ⟨ρ, hρ⟩ : ∃ ρ, Ac.eval = ρ := ⟨_, rfl⟩
        rw [hρ] at a34 hc hf hgl
        exact relPure hρ (.int .i64 1) (by simp [go_sem, hc, hf, hgl, ↓IntWalk.iteOmega, a34, *]) rfl
      · refine relStep_guard (g := 2) (b := true) (x := true) rfl (by kernel_rfl) rfl (by kernel_rfl) rfl (fun _ _ h => h) ?_
        intro Ac w5 hp
        have hb := hp.bel
        have a4 : Ac.eval (.tmp 4) = .pointer (some ⟨w.heap.size + 1, 0, none⟩) := hp.out 4 (by rfl)
        have z1 : w5.cell? ⟨w.heap.size + 1, 0, none⟩ = some (.int .i64 1) := (HR3.out.st.c1.below hb HR3.out.st.c1.lt).cell 0
        have hc := evalC Ac; have hf := evalF Ac; have hgl := evalG Ac
        obtain ⟨ρ, hρ⟩ : ∃ ρ, Ac.eval = ρ := ⟨_, rfl⟩
        rw [hρ] at a4 hc hf hgl
        exact relPure hρ (.int .i64 1) (by simp [go_sem, hc, hf, hgl, ↓IntWalk.iteOmega, a4, *]) rfl
      · refine relStep_guard (g := 2) (b := true) (x := true) rfl (by kernel_rfl) rfl (by kernel_rfl) rfl (fun _ _ h => h) ?_
        intro Ac w5 hp
        have hb := hp.bel
        have a35 : Ac.eval (.tmp 35) = .int .i64 1 := hp.dep 7 (by kernel_rfl)
        have a36 : Ac.eval (.tmp 36) = .int .i64 1 := hp.dep 8 (by kernel_rfl)
        have hc := evalC Ac; have hf := evalF Ac; have hgl := evalG Ac
        obtain ⟨ρ, hρ⟩ : ∃ ρ, Ac.eval = ρ := ⟨_, rfl⟩
        rw [hρ] at a35 a36 hc hf hgl
        exact relPure hρ (.bool true) (by simp [go_sem, hc, hf, hgl, ↓IntWalk.iteOmega, a35, a36, *]) rfl
      · refine relStep_plain rfl ?_
        intro Ac w5 hp
        have hb := hp.bel
        have a30 : Ac.eval (.tmp 30) = .bool true := hp.dep 2 (by kernel_rfl)
        have a37 : Ac.eval (.tmp 37) = .bool true := hp.dep 9 (by kernel_rfl)
        have hc := evalC Ac; have hf := evalF Ac; have hgl := evalG Ac
        obtain ⟨ρ, hρ⟩ : ∃ ρ, Ac.eval = ρ := ⟨_, rfl⟩
        rw [hρ] at a30 a37 hc hf hgl
        exact relPure hρ (.bool true) (by simp [go_sem, hc, hf, hgl, ↓IntWalk.iteOmega, a30, a37, *]) rfl
      intro u w4 hb7 hall
      have e38 : u 10 = .bool true := relAll_at hall (i := 10) (by decide +kernel)
      clear hall
      simp only [List.drop_succ_cons, List.drop_zero, List.take_succ_cons, List.take_zero, putAll, Act.put, List.setIfInBounds_toArray, List.set_cons_zero, List.set_cons_succ, Nat.zero_add, Nat.reduceAdd, e38]
      have HR4 := hide (HR3.out.below hb7)
      have HBg4 := hide (HBg.out.below hb7 HBg.out.lt)
      have HZ4 := hide ((World.cell?_of_block (hb7.block g HBg.out.lt)).trans HZ1.out)
      have HO1 := hide (own_block_lt (psr_last HR4.out))
      have HO0 := hide (own_low_block (psr_last HR4.out))
      have HGn := hide (fun e => own_types HR4.out.st.nr.row (psr_last HR4.out) (by decide) g rfl (Eq.symm e) : some g ≠ (Value.slice Av r.length cv).ownBlock)
      have hwx : IntKind.u32.wrap (x : Int) = (x : Int) := by rw [IntKind.wrap_u32]; omega
      clear hb7
      gi_wp2
      refine wpIn_region_relET 13 (w.heap.size + 5) HR4.out.st.siz [(fun v _ => v = .slice (some ⟨g, 0, none⟩) n c), (fun v _ => v = .int .i64 (k : Int)), (fun v _ => v = .slice (some ⟨g, 0, none⟩) n c), (fun v _ => v = .int .i64 (k : Int)), (fun v _ => v = .pointer (some ⟨g, k * 2, none⟩)), (fun v _ => v = .pointer (some ⟨g, k * 2 + 1, none⟩)), (fun v _ => v = Value.slice Av r.length cv), (fun v _ => v = .int .u64 (x : Int)), (fun v _ => v = .int .u32 (x : Int)), (fun v2 W2 => ∃ R, v2 = .slice (some ⟨R, 0, none⟩) 1 1 ∧ Blk W2 R 29 #[.int .u32 (x : Int)] ∧ w4.heap.size ≤ R), (fun v2 W2 => ∃ A6 c6, v2 = .slice A6 (r.length + 1) c6 ∧ ∃ wa, PsR LO w.heap.size w W wa 1 (some ⟨g, 0, none⟩) n c (L ++ [⟨1, r⟩]) (vs0 ++ [Value.slice Av r.length cv]) ∧ W2.ownsRow (w.heap.size + 5) 29 1 (.slice A6 (r.length + 1) c6) (r ++ [x]).length (u32c (r ++ [x])) ∧ wa.grownBy W2 (Value.slice Av r.length cv).ownBlock ∧ ((Value.slice A6 (r.length + 1) c6).ownBlock = (Value.slice Av r.length cv).ownBlock ∨ (Value.slice A6 (r.length + 1) c6).ownBlock = some wa.heap.size)), (fun v _ => v = .pointer (some ⟨g, k * 2, none⟩)), (fun v _ => v = .pointer (some ⟨g, k * 2 + 1, none⟩))] (fun i W2 => (i = 10 → PsR LO w.heap.size w W W2 1 (some ⟨g, 0, none⟩) n c (L ++ [⟨1, r⟩]) (vs0 ++ [Value.slice Av r.length cv])) ∧ W2.cell? ⟨g, k * 2 + 1, none⟩ = some (Value.slice Av r.length cv) ∧ g < W2.heap.size) (fun i wa wb => if i = 10 then wa.grownBy wb (Value.slice Av r.length cv).ownBlock else Below wa.heap.size wa wb) (fun _ _ _ _ => True) (by kernel_rfl) (by kernel_rfl) (by kernel_rfl) (by kernel_rfl) (by kernel_rfl) (by kernel_rfl) (fun i wa wb hB he => by
        split at he
        · exact (Below.refl _ wa).grown he hB (fun k hk => HO0.out k hk)
        · exact he.mono hB) (fun i2 j2 v2 wa wb hij hB he h => by
        split at he
        · rename_i hj2
          subst hj2
          refine keepAll_at (E := fun wa wb => wa.grownBy wb (Value.slice Av r.length cv).ownBlock) (x := 10) (k := 0) ?_ (by omega) he h
          exact ⟨fun _ v w1 w2 he h => h, fun _ v w1 w2 he h => h, fun _ v w1 w2 he h => h, fun _ v w1 w2 he h => h, fun _ v w1 w2 he h => h, fun _ v w1 w2 he h => h, fun _ v w1 w2 he h => h, fun _ v w1 w2 he h => h, fun _ v w1 w2 he h => h, fun _ v w1 w2 he h => by obtain ⟨R, e, h0, hR⟩ := h; exact ⟨R, e, h0.grown he (fun hr => by have := HO1.out R hr.symm; omega), hR⟩, fun hn => absurd rfl hn, fun _ v w1 w2 he h => h, fun _ v w1 w2 he h => h, trivial⟩
        · refine relMono _ ?_ i2 v2 wa wb he h
          exact ⟨fun _ _ _ _ h => h, fun _ _ _ _ h => h, fun _ _ _ _ h => h, fun _ _ _ _ h => h, fun _ _ _ _ h => h, fun _ _ _ _ h => h, fun _ _ _ _ h => h, fun _ _ _ _ h => h, fun _ _ _ _ h => h, fun v2 w2 w3 hb ⟨R, e, h1, h2⟩ => ⟨R, e, h1.below hb h1.lt, h2⟩, fun v2 w2 w3 hb ⟨A6, c6, e, wa, h1, h2, h3, h4⟩ => ⟨A6, c6, e, wa, h1, own_below h2 hb, grown_below h3 hb, h4⟩, fun _ _ _ _ h => h, fun _ _ _ _ h => h, trivial⟩) (fun i2 j2 wa wb hij hB he h => by
        split at he
        · rename_i hj2
          subst hj2
          exact ⟨fun e => absurd e hij, (World.cell?_of_block (he.block g h.2.2 HGn.out)).trans h.2.1, Nat.lt_of_lt_of_le h.2.2 he.size⟩
        · exact ⟨fun e => (h.1 e).below he, (World.cell?_of_block (he.block g h.2.2)).trans h.2.1, Nat.lt_of_lt_of_le h.2.2 he.size⟩) (fun _ _ _ _ _ => trivial) (fun j _ => ⟨fun _ => HR4.out.below below_drew, HZ4.out, HBg4.out.lt⟩) ⟨?_, ?_, ?_, ?_, ?_, ?_, ?_, ?_, ?_, ?_, ?_, ?_, ?_, trivial⟩ ?_
      · refine relE_of rfl (fun _ _ _ => trivial) ?_
        intro Dn Ac w5 hp
        have hb := hp.bel
        have a3 : Ac.eval (.tmp 3) = .pointer (some ⟨w.heap.size, 0, none⟩) := hp.out 3 (by rfl)
        have z1 : w5.cell? ⟨w.heap.size, 0, none⟩ = some (.slice (some ⟨g, 0, none⟩) n c) := (HR4.out.st.c0.below hb (by omega)).cell 0
        have hc := evalC Ac; have hf := evalF Ac; have hgl := evalG Ac
        obtain ⟨ρ, hρ⟩ : ∃ ρ, Ac.eval = ρ := ⟨_, rfl⟩
        rw [hρ] at a3 hc hf hgl
        exact relPure hρ (.slice (some ⟨g, 0, none⟩) n c) (by simp [go_sem, hc, hf, hgl, ↓IntWalk.iteOmega, a3, *]) rfl
      · refine relE_of rfl (fun _ _ _ => trivial) ?_
        intro Dn Ac w5 hp
        have hb := hp.bel
        have a8 : Ac.eval (.tmp 8) = .int .i64 (k : Int) := hp.out 8 (by rfl)
        have hc := evalC Ac; have hf := evalF Ac; have hgl := evalG Ac
        obtain ⟨ρ, hρ⟩ : ∃ ρ, Ac.eval = ρ := ⟨_, rfl⟩
        rw [hρ] at a8 hc hf hgl
        exact relPure hρ (.int .i64 (k : Int)) (by simp [go_sem, hc, hf, hgl, ↓IntWalk.iteOmega, a8, *]) rfl
      · refine relE_of rfl (fun _ _ _ => trivial) ?_
        intro Dn Ac w5 hp
        have hb := hp.bel
        have a3 : Ac.eval (.tmp 3) = .pointer (some ⟨w.heap.size, 0, none⟩) := hp.out 3 (by rfl)
        have z1 : w5.cell? ⟨w.heap.size, 0, none⟩ = some (.slice (some ⟨g, 0, none⟩) n c) := (HR4.out.st.c0.below hb (by omega)).cell 0
        have hc := evalC Ac; have hf := evalF Ac; have hgl := evalG Ac
        obtain ⟨ρ, hρ⟩ : ∃ ρ, Ac.eval = ρ := ⟨_, rfl⟩
        rw [hρ] at a3 hc hf hgl
        exact relPure hρ (.slice (some ⟨g, 0, none⟩) n c) (by simp [go_sem, hc, hf, hgl, ↓IntWalk.iteOmega, a3, *]) rfl
      · refine relE_of rfl (fun _ _ _ => trivial) ?_
        intro Dn Ac w5 hp
        have hb := hp.bel
        have a8 : Ac.eval (.tmp 8) = .int .i64 (k : Int) := hp.out 8 (by rfl)
        have hc := evalC Ac; have hf := evalF Ac; have hgl := evalG Ac
        obtain ⟨ρ, hρ⟩ : ∃ ρ, Ac.eval = ρ := ⟨_, rfl⟩
        rw [hρ] at a8 hc hf hgl
        exact relPure hρ (.int .i64 (k : Int)) (by simp [go_sem, hc, hf, hgl, ↓IntWalk.iteOmega, a8, *]) rfl
      · refine relE_of rfl (fun _ _ _ => trivial) ?_
        intro Dn Ac w5 hp
        have hb := hp.bel
        have a41 : Ac.eval (.tmp 41) = .slice (some ⟨g, 0, none⟩) n c := hp.dep 2 (by kernel_rfl)
        have a42 : Ac.eval (.tmp 42) = .int .i64 (k : Int) := hp.dep 3 (by kernel_rfl)
        have hc := evalC Ac; have hf := evalF Ac; have hgl := evalG Ac
        obtain ⟨ρ, hρ⟩ : ∃ ρ, Ac.eval = ρ := ⟨_, rfl⟩
        rw [hρ] at a41 a42 hc hf hgl
        exact relPure hρ (.pointer (some ⟨g, k * 2, none⟩)) (by simp [go_sem, hc, hf, hgl, ↓IntWalk.iteOmega, a41, a42, *]) rfl
      · refine relE_of rfl (fun _ _ _ => trivial) ?_
        intro Dn Ac w5 hp
        have hb := hp.bel
        have a43 : Ac.eval (.tmp 43) = .pointer (some ⟨g, k * 2, none⟩) := hp.dep 4 (by kernel_rfl)
        have hc := evalC Ac; have hf := evalF Ac; have hgl := evalG Ac
        obtain ⟨ρ, hρ⟩ : ∃ ρ, Ac.eval = ρ := ⟨_, rfl⟩
        rw [hρ] at a43 hc hf hgl
        exact relPure hρ (.pointer (some ⟨g, k * 2 + 1, none⟩)) (by simp [go_sem, hc, hf, hgl, ↓IntWalk.iteOmega, a43, *]) rfl
      · refine relE_of rfl (fun _ _ _ => trivial) ?_
        intro Dn Ac w5 hp
        have hb := hp.bel
        have a44 : Ac.eval (.tmp 44) = .pointer (some ⟨g, k * 2 + 1, none⟩) := hp.dep 5 (by kernel_rfl)
        have z1 : w5.cell? ⟨g, k * 2 + 1, none⟩ = some (Value.slice Av r.length cv) := hp.pre.2.1
        have hc := evalC Ac; have hf := evalF Ac; have hgl := evalG Ac
        obtain ⟨ρ, hρ⟩ : ∃ ρ, Ac.eval = ρ := ⟨_, rfl⟩
        rw [hρ] at a44 hc hf hgl
        exact relPure hρ (Value.slice Av r.length cv) (by simp [go_sem, hc, hf, hgl, ↓IntWalk.iteOmega, a44, *]) rfl
      · refine relE_of rfl (fun _ _ _ => trivial) ?_
        intro Dn Ac w5 hp
        have hb := hp.bel
        have a6 : Ac.eval (.tmp 6) = .int .u64 (x : Int) := hp.out 6 (by rfl)
        have hc := evalC Ac; have hf := evalF Ac; have hgl := evalG Ac
        obtain ⟨ρ, hρ⟩ : ∃ ρ, Ac.eval = ρ := ⟨_, rfl⟩
        rw [hρ] at a6 hc hf hgl
        exact relPure hρ (.int .u64 (x : Int)) (by simp [go_sem, hc, hf, hgl, ↓IntWalk.iteOmega, a6, *]) rfl
      · refine relE_of rfl (fun _ _ _ => trivial) ?_
        intro Dn Ac w5 hp
        have hb := hp.bel
        have a46 : Ac.eval (.tmp 46) = .int .u64 (x : Int) := hp.dep 7 (by kernel_rfl)
        have hc := evalC Ac; have hf := evalF Ac; have hgl := evalG Ac
        obtain ⟨ρ, hρ⟩ : ∃ ρ, Ac.eval = ρ := ⟨_, rfl⟩
        rw [hρ] at a46 hc hf hgl
        exact relPure hρ (.int .u32 (x : Int)) (by simp [go_sem, hc, hf, hgl, ↓IntWalk.iteOmega, a46, *]) rfl
      · skip
        intro Dn Ac w5 hp
        have hb := hp.bel
        have a47 : Ac.eval (.tmp 47) = .int .u32 (x : Int) := hp.dep 8 (by kernel_rfl)
        have hc := evalC Ac; have hf := evalF Ac; have hgl := evalG Ac
        obtain ⟨ρ, hρ⟩ : ∃ ρ, Ac.eval = ρ := ⟨_, rfl⟩
        rw [hρ] at a47 hc hf hgl
        refine Oper.wp_mono ?_ (relVal (Rs := [fun v w' => v = .slice (some ⟨w5.heap.size, 0, none⟩) 1 1 ∧ w' = w5.alloc (.cells #[.int .u32 (x : Int)] 29)]) (i := 0) hρ (.slice (some ⟨w5.heap.size, 0, none⟩) 1 1) (w5.alloc (.cells #[.int .u32 (x : Int)] 29)) (by simp [go_sem, hc, hf, hgl, ↓IntWalk.iteOmega, a47]) ⟨rfl, rfl⟩ ((Below.refl _ _).alloc (Nat.le_refl _) _))
        rintro A' w' ⟨v, rfl, ⟨rfl, rfl⟩, hb9⟩
        exact ⟨_, rfl, ⟨w5.heap.size, rfl, Blk.new w5 _ _, hb.size⟩, hb9, fun j _ => trivial⟩
      · skip
        intro Dn Ac w5 hp
        have hb := hp.bel
        have a45 : Ac.eval (.tmp 45) = Value.slice Av r.length cv := hp.dep 6 (by kernel_rfl)
        obtain ⟨R48, a48, hR48, hRb48⟩ := hp.dep 9 (by kernel_rfl)
        change Ac.eval (.tmp 48) = _ at a48
        have hps := hp.pre.1 rfl
        refine wp_append_any w5 (.tmp 45) (.tmp 48) 24 rfl (w.heap.size + 5) 29 j0 _ 1 4 Tryz.underlying24 hj hy0 hy1 hy2 rfl (by decide) (Value.slice Av r.length cv) r.length (u32c r) a45 (psr_last hps) w5.heap.size (some ⟨R48, 0, none⟩) 1 1 [.int .u32 (x : Int)] a48 (reads_blkN hR48 hR48.lt rfl rfl) (by simp [Value.oneCell']) (by have := HRl.out; unfold maxLen; omega) (by have := HRl.out; omega) hps.st.siz ?_
        intro v2 w6 h2 h3 h4
        obtain ⟨A6, c6, rfl⟩ := own_slice h2
        exact ⟨_, rfl, ⟨A6, c6, rfl, w5, hps, by rw [List.length_append, u32c_app]; exact h2, h3, h4⟩, h3, fun j _ => trivial⟩
      · refine relE_of rfl (fun _ _ _ => trivial) ?_
        intro Dn Ac w5 hp
        have hb := hp.bel
        have a39 : Ac.eval (.tmp 39) = .slice (some ⟨g, 0, none⟩) n c := hp.dep 0 (by kernel_rfl)
        have a40 : Ac.eval (.tmp 40) = .int .i64 (k : Int) := hp.dep 1 (by kernel_rfl)
        have hc := evalC Ac; have hf := evalF Ac; have hgl := evalG Ac
        obtain ⟨ρ, hρ⟩ : ∃ ρ, Ac.eval = ρ := ⟨_, rfl⟩
        rw [hρ] at a39 a40 hc hf hgl
        exact relPure hρ (.pointer (some ⟨g, k * 2, none⟩)) (by simp [go_sem, hc, hf, hgl, ↓IntWalk.iteOmega, a39, a40, *]) rfl
      · refine relE_of rfl (fun _ _ _ => trivial) ?_
        intro Dn Ac w5 hp
        have hb := hp.bel
        have a50 : Ac.eval (.tmp 50) = .pointer (some ⟨g, k * 2, none⟩) := hp.dep 11 (by kernel_rfl)
        have hc := evalC Ac; have hf := evalF Ac; have hgl := evalG Ac
        obtain ⟨ρ, hρ⟩ : ∃ ρ, Ac.eval = ρ := ⟨_, rfl⟩
        rw [hρ] at a50 hc hf hgl
        exact relPure hρ (.pointer (some ⟨g, k * 2 + 1, none⟩)) (by simp [go_sem, hc, hf, hgl, ↓IntWalk.iteOmega, a50, *]) rfl
      intro u w8 hb7 hall hprs
      obtain ⟨A49, c49, e49, wa, hpsa, howna, hgra, hala⟩ := relAll_at hall (i := 10) (by decide +kernel)
      change u 10 = _ at e49
      have e51 : u 12 = .pointer (some ⟨g, k * 2 + 1, none⟩) := relAll_at hall (i := 12) (by decide +kernel)
      clear hall
      simp only [List.drop_succ_cons, List.drop_zero, List.take_succ_cons, List.take_zero, putAll, Act.put, List.setIfInBounds_toArray, List.set_cons_zero, List.set_cons_succ, Nat.zero_add, Nat.reduceAdd, e49, e51]
      obtain ⟨z9, q9⟩ := psr_put hpsa HKk.out hgra
      have HP := hide (PsR.grow hpsa howna hgra hala)
      rw [HKk.out] at HP
      clear hpsa howna hgra hala hb7
      go_wp2
      refine ⟨rfl, ?_⟩
      gi_wp2_with fail
      refine ⟨trivial, ?_⟩
      gi_at_call 47
      refine (CallsIn.inRound l0 (callsIn_wide.2 (Tryz.strings_HasSuffix (str p) ⟨#[125]⟩ _ (by have := HF.out.len; rw [str_size]; omega)))).mono ?_
      rintro e w8 ⟨rfl, hw8⟩
      subst w8
      rw [HF.out.suf]
      gi_wp2
      exact HEn2.out _ _ _ _ _ HP.out
  case done =>
    rintro D W hD ⟨i, A1, n1, c1, vs, hpre, hi5, hst⟩ hK
    obtain rfl : i = 5 := by
      rw [psTx_pieces] at hpre
      have := congrArg List.length hpre
      simp at this; omega
    have HNm := hide (norm_any A1 n1 c1 (psT 5).2 W (nr_lst hst.nr (by decide)) (by decide))
    have hno : normS (psT 5).2 = (psT 5).2 := by kernel_rfl
    rw [hno] at HNm
    have HS := hide hst
    have r0 : W.cell? ⟨w.heap.size, 0, none⟩ = some (.slice A1 n1 c1) := hst.c0.cell 0
    have HKd := hide hK
    have HD := hide hD
    clear hpre hst hK hno hD
    gi_wp2_with fail
    refine ⟨trivial, ?_⟩
    gi_at_call 14
    refine (callsIn_wide.2 HNm.out).mono ?_
    intro e w1 hmv
    unfold SegP at hmv
    obtain ⟨A6, n6, c6, xs6, rfl, hl6, hb6⟩ := hmv
    have HKe := hide ((hb6.block D (Array.getElem?_eq_some_iff.1 HKd.out).1).trans HKd.out)
    have HS1 := hide (HS.out.below hb6)
    have HL6 := hide hl6
    have HWs := hide hb6.size
    clear hl6 hb6
    gi_wp2
    show LeavesInM Fence.wide 5 Tryz.prog Tryz.f34 _ (SegP (psT 5).2 w) _ .returning w1
    have hD := HD.out
    have hsW := HS.out.siz
    have hsW1 := HWs.out
    refine ⟨by simp, .inl ⟨_, _, rfl, run_takeDeferred HKe.out, ?_⟩⟩
    refine ⟨.slice A6 n6 c6, by simp [results, Tryz.results34, go_sem], A6, n6, c6, xs6, rfl, ?_, below_put HS1.out.bel HKe.out (by omega) _⟩
    exact LOw.less (HL6.out.ag (Nat.le_refl _) (grownBy_putObj' w1 D _) (fun r e => by cases e; exact .inr ⟨_, HKe.out, rfl⟩)) (by omega) (by omega)
  case stop =>
    intro D c pre x post W hD hx hf
    exact hf.elim
end Go.Proofs.YtplhnhoijficgaaGreatDoor
set_option linter.unusedSimpArgs false
set_option linter.unusedVariables false
namespace Go.Proofs.YtplhnhoijficgaaGreatDoor
open Go.RowKit Go.WideShapes Go.ChangeShapes
attribute [local go_sem] Oper.semAt_some
theorem psT_norm : normS (psT 5).2 = (psT 5).2 := by kernel_rfl
theorem psT_ok : TxOk (psT 5).2 := ⟨by decide +kernel, by decide +kernel, by decide +kernel⟩
theorem psT_text : textS (psT 5).2 = psTx := by decide +kernel
theorem psT_len : lenS (psT 5).2 = 4 := by decide +kernel
set_option maxRecDepth 100000 in
set_option maxHeartbeats 4000000 in
theorem pParse_law (w : World) (ht : Tab w) :
    Calls Tryz.prog 24 #[.string (str psTx)] w fun e w' => ∃ A n c, e = .returned (.tuple #[.slice A n c, .int .i64 0]) ∧ LstAt 2 sgR w' A n c (psT 5).2 ∧ Below w.heap.size w w' := by
  have hd1 : ((str psTx).toList == [45]) = false := by
    unfold str; rw [ByteArray.toList_mk]; rfl
  have HPs := hide (parse_law w)
  go_enter Tryz.func24, Tryz.ntmps24
  go_wp2_with fail
  refine HPs.out.mono ?_
  intro e w1 hmv
  unfold SegP at hmv
  obtain ⟨A1, n1, c1, xs1, rfl, hl1, hb1⟩ := hmv
  have HL1 := hide (hl1.lst (by decide))
  have HB1 := hide hb1
  have hn1 : n1 ≤ 100 := by rw [← HL1.out.1]; decide
  have HGd := hide (pgood_eq A1 n1 c1 _ w1 HL1.out psT_norm (by decide) hn1 (by decide))
  clear hl1 hb1
  go_wp2_with fail
  refine HGd.out.mono ?_
  rintro e w2 ⟨rfl, hb2⟩
  have HB2 := hide (HB1.out.trans (hb2.mono HB1.out.size))
  have HTx := hide (pathTx_any A1 n1 c1 _ w2 (HL1.out.below sgMono hb2) (by decide) psT_ok (ht.below HB2.out))
  rw [psT_text] at HTx
  have HL2 := hide (HL1.out.below sgMono hb2)
  clear hb2
  go_wp2_with fail
  refine HTx.out.mono ?_
  rintro e w3 ⟨rfl, hb3⟩
  have HB3 := hide (HB2.out.trans (hb3.mono HB2.out.size))
  have HL3 := hide (HL2.out.below sgMono hb3)
  clear hb3
  go_wp2
  go_ret2
  exact ⟨A1, n1, c1, rfl, HL3.out, HB3.out⟩
set_option maxRecDepth 100000 in
set_option maxHeartbeats 4000000 in
theorem pathLives_any (w : World) (ht : Tab w) :
    Calls Tryz.prog 12 #[] w (fun e w' => e = .returned (.bool true) ∧ Below w.heap.size w w') := by
  have HPs := hide (pParse_law w ht)
  have hps : (⟨#[49, 32, 50, 32, 123, 51, 32, 52, 125, 32, 53]⟩ : ByteArray) = str psTx := rfl
  go_enter Tryz.func12, Tryz.ntmps12
  go_wp2_with fail
  refine HPs.out.mono ?_
  rintro e w1 ⟨A, n, c, rfl, hl1, hb1⟩
  have HL1 := hide hl1
  have HB1 := hide hb1
  have HFi := hide (pfirst_seq A n c 1 [2] _ w1 hl1)
  have HLe := hide (plen_any A n c _ w1 hl1 (by decide) (by rw [← hl1.1]; decide))
  rw [psT_len] at HLe
  clear hl1 hb1
  go_wp2_with fail
  refine HFi.out.mono ?_
  rintro e w1' ⟨rfl, hw1⟩
  subst w1'
  go_wp2_with fail
  refine HLe.out.mono ?_
  rintro e w2 ⟨rfl, hb2⟩
  have HB2 := hide (HB1.out.trans (hb2.mono HB1.out.size))
  have HTx := hide (pText_any A n c _ w2 (HL1.out.below sgMono hb2) (by decide) psT_ok (ht.below HB2.out))
  rw [psT_text] at HTx
  clear hb2
  go_wp2_with fail
  refine HTx.out.mono ?_
  rintro e w3 ⟨rfl, hb3⟩
  have HB3 := hide (HB2.out.trans (hb3.mono HB2.out.size))
  clear hb3
  go_wp2
  go_ret
  exact ⟨rfl, HB3.out⟩
end Go.Proofs.YtplhnhoijficgaaGreatDoor
set_option linter.unusedSimpArgs false
set_option linter.unusedVariables false
namespace Go.Proofs.YtplhnhoijficgaaGreatDoor
open Go.RowKit Go.WideShapes Go.ChangeShapes
attribute [local go_sem] Oper.semAt_some
theorem U32s_nil (w : World) : U32s w none 0 0 [] := ⟨rfl, Nat.le_refl _, by unfold maxLen; omega, by simp, fun h => absurd h (by omega)⟩
theorem joinS_len (a b : List Nat) (ha : a.length ≤ 600) (hb : b.length ≤ 600) : (joinS a b).length ≤ 100000 := by
  unfold joinS
  have h1 := chunkS_len a
  have h2 := setOf_len b
  have h3 : chunkN (setOf b).length ≤ 1000 := by unfold chunkN; omega
  rw [List.length_append, setK_len]
  omega
set_option maxRecDepth 100000 in
set_option maxHeartbeats 4000000 in
theorem pathMakes_any (A Ba Bb : Option Addr) (n c ma ca mb cb : Nat) (v0 v1 : Int) (l : List SG) (a b : List Nat) (w : World) (h : LstAt 2 sgR w A n c l) (hua : U32s w Ba ma ca a) (hub : U32s w Bb mb cb b) (ht0 : Tab w) :
    Calls Tryz.prog 3 #[.slice A n c, .agg #[.int .i64 v0, .int .i64 v1], .agg #[.slice Ba ma ca, .slice Bb mb cb]] w (GoodP true w) := by
  have ht := hide ht0
  have hbe : Below w.heap.size w ((w.alloc (.cells #[.int .i64 v0, .int .i64 v1] 23)).alloc (.cells #[.slice Ba ma ca, .slice Bb mb cb] 25)) := ((Below.refl _ w).alloc (Nat.le_refl _) _).alloc (by simp) _
  obtain ⟨w0, hw0⟩ : ∃ w0, (w.alloc (.cells #[.int .i64 v0, .int .i64 v1] 23)).alloc (.cells #[.slice Ba ma ca, .slice Bb mb cb] 25) = w0 := ⟨_, rfl⟩
  have HW0 := hide hw0
  have HK0 : Hid (Blk w0 w.heap.size 23 #[.int .i64 v0, .int .i64 v1]) := hide (hw0 ▸ (Blk.new w _ _).alloc _)
  have HK1 : Hid (Blk w0 (w.heap.size + 1) 25 #[.slice Ba ma ca, .slice Bb mb cb]) := hide (hw0 ▸ blk_new' _ _ (by simp))
  rw [hw0] at hbe
  have HBt := hide hbe
  have HUa := hide (hua.below hbe)
  have HUb := hide (hub.below hbe)
  have HFw := hide (pathFew_any A n c l w0 (h.below sgMono hbe))
  obtain ⟨CL, hCL⟩ : ∃ CL, cutP l = CL := ⟨_, rfl⟩
  have HCc : Hid (cutP CL = CL) := hide (by rw [← hCL, cutP_cut])
  have HNu : Hid (numS CL ≤ 9000) := hide (by have := cutP_num l; rw [hCL] at this; omega)
  have HCn : Hid (CL.length ≤ 10000) := hide (by have := cutP_len l; rw [hCL] at this; omega)
  obtain ⟨AT, hAT⟩ : ∃ AT, a.take 600 = AT := ⟨_, rfl⟩
  obtain ⟨BT, hBT⟩ : ∃ BT, b.take 600 = BT := ⟨_, rfl⟩
  have HAT := hide hAT
  have HBT := hide hBT
  have HATb : Hid (∀ x ∈ AT, x < 4294967296) := hide (fun x hx => hua.2.2.2.1 x (by rw [← hAT] at hx; exact List.mem_of_mem_take hx))
  have HBTb : Hid (∀ x ∈ BT, x < 4294967296) := hide (fun x hx => hub.2.2.2.1 x (by rw [← hBT] at hx; exact List.mem_of_mem_take hx))
  have HAl : Hid (AT.length ≤ 600) := hide (by rw [← hAT, List.length_take]; omega)
  have HBl : Hid (BT.length ≤ 600) := hide (by rw [← hBT, List.length_take]; omega)
  have HATf : Hid (AT.take 600 = AT) := hide (List.take_of_length_le HAl.out)
  have HBTf : Hid (BT.take 600 = BT) := hide (List.take_of_length_le HBl.out)
  obtain ⟨x, hx⟩ : ∃ x : Nat, IntKind.u32.wrap v0 = (x : Int) := ⟨(IntKind.u32.wrap v0).toNat, by rw [IntKind.wrap_u32]; omega⟩
  have HXl : Hid (x < 4294967296) := hide (by rw [IntKind.wrap_u32] at hx; omega)
  obtain ⟨PN, hPN⟩ : ∃ PN, normS (⟨2, List.replicate (timesN v1) x⟩ :: CL) = PN := ⟨_, rfl⟩
  have HPn := hide hPN
  have HPm : Hid (normS (chunkS (List.replicate (timesN v1) x) ++ CL) = PN) := hide (by rw [norm_pre _ _ (by rw [List.length_replicate]; exact timesN_le _)]; exact hPN)
  have HB1 : Hid (PN.length ≤ 100000) := hide (by
    have h1 := normS_len (⟨2, List.replicate (timesN v1) x⟩ :: CL)
    have h2 := timesN_le v1
    have h3 := HNu.out
    rw [hPN] at h1
    have h4 : numS (⟨2, List.replicate (timesN v1) x⟩ :: CL) = timesN v1 + numS CL := by simp [numS]
    omega)
  obtain ⟨SN, hSN⟩ : ∃ SN, chunkS AT = SN := ⟨_, rfl⟩
  have HSN := hide hSN
  have HB2 : Hid (SN.length ≤ 100000) := hide (by have h1 := chunkS_len AT; have := HAl.out; rw [hSN] at h1; omega)
  obtain ⟨JN, hJN⟩ : ∃ JN, joinS AT BT = JN := ⟨_, rfl⟩
  have HJN := hide hJN
  have HB3 : Hid (JN.length ≤ 100000) := hide (by rw [← hJN]; exact joinS_len AT BT HAl.out HBl.out)
  clear h hua hub hbe ht0 hw0
  rw [hCL] at HFw
  clear hCL hAT hBT hPN hSN hJN
  go_enter Tryz.func3, Tryz.ntmps3
  go_wp2_with fail
  rw [HW0.out]
  refine HFw.out.mono ?_
  intro e w1 hmv
  unfold SegP at hmv
  obtain ⟨A1, m1, c1, xs1, rfl, hl1, hb1⟩ := hmv
  have HCl := hide (hl1.lst (by decide))
  have HUa := hide (HUa.out.below hb1)
  have HUb := hide (HUb.out.below hb1)
  have HK0 := hide (HK0.out.below hb1 HK0.out.lt)
  have HK1 := hide (HK1.out.below hb1 HK1.out.lt)
  have HBt := hide (HBt.out.trans (hb1.mono HBt.out.size))
  clear hl1 hb1
  go_wp2
  have Hmn := hide (show AllMono [(fun v _ => v = .pointer (some ⟨w.heap.size + 1, 0, none⟩)), (fun v _ => v = .slice Ba ma ca), (fun v W2 => ∃ A n c, v = Value.slice A n c ∧ U32s W2 A n c AT), (fun v _ => v = .pointer (some ⟨w.heap.size + 1, 1, none⟩)), (fun v _ => v = .slice Bb mb cb), (fun v W2 => ∃ A n c, v = Value.slice A n c ∧ U32s W2 A n c BT)] from ⟨fun _ _ _ _ h => h, fun _ _ _ _ h => h, fun v w2 w3 hb ⟨A, n, c, e, h⟩ => ⟨A, n, c, e, h.below hb⟩, fun _ _ _ _ h => h, fun _ _ _ _ h => h, fun v w2 w3 hb ⟨A, n, c, e, h⟩ => ⟨A, n, c, e, h.below hb⟩, trivial⟩)
  refine wp_region_relT 6 _ (by kernel_rfl) (by kernel_rfl) (by kernel_rfl) (by kernel_rfl) (by kernel_rfl) (relMono _ Hmn.out) ⟨?_, ?_, ?_, ?_, ?_, ?_, trivial⟩ ?_
  · refine relStep_plain rfl ?_
    intro Ac w5 hp
    have hb := hp.bel
    have a5 : Ac.eval (.tmp 5) = .pointer (some ⟨w.heap.size + 1, 0, none⟩) := hp.out 5 (by rfl)
    have hc := evalC Ac; have hf := evalF Ac; have hgl := evalG Ac
    obtain ⟨ρ, hρ⟩ : ∃ ρ, Ac.eval = ρ := ⟨_, rfl⟩
    rw [hρ] at a5 hc hf hgl
    exact relPure hρ (.pointer (some ⟨w.heap.size + 1, 0, none⟩)) (by simp [go_sem, hc, hf, hgl, ↓IntWalk.iteOmega, a5, *]) rfl
  · refine relStep_plain rfl ?_
    intro Ac w5 hp
    have hb := hp.bel
    have a12 : Ac.eval (.tmp 12) = .pointer (some ⟨w.heap.size + 1, 0, none⟩) := hp.dep 0 (by kernel_rfl)
    have z1 : w5.cell? ⟨w.heap.size + 1, 0, none⟩ = some (.slice Ba ma ca) := (HK1.out.below hb HK1.out.lt).cell 0
    have hc := evalC Ac; have hf := evalF Ac; have hgl := evalG Ac
    obtain ⟨ρ, hρ⟩ : ∃ ρ, Ac.eval = ρ := ⟨_, rfl⟩
    rw [hρ] at a12 hc hf hgl
    exact relPure hρ (.slice Ba ma ca) (by simp [go_sem, hc, hf, hgl, ↓IntWalk.iteOmega, a12, *]) rfl
  · refine relStep_plain rfl ?_
    intro Ac w5 hp
    have hb := hp.bel
    have a13 : Ac.eval (.tmp 13) = .slice Ba ma ca := hp.dep 1 (by kernel_rfl)
    have hc := evalC Ac; have hf := evalF Ac; have hgl := evalG Ac
    obtain ⟨ρ, hρ⟩ : ∃ ρ, Ac.eval = ρ := ⟨_, rfl⟩
    rw [hρ] at a13 hc hf hgl
    refine relCall hρ 5 #[.slice Ba ma ca, .int .i64 (600 : Nat)] (by simp [go_sem, hc, hf, hgl, ↓IntWalk.iteOmega, a13, *]) ?_
    refine (few_any Ba ma ca _ 600 (by decide) w5 (HUa.out.below hb)).mono ?_
    rintro e w6 ⟨v6, rfl, ho6, hb6⟩
    rw [HAT.out] at ho6
    obtain ⟨A6, c6, rfl⟩ := own_slice ho6
    exact ⟨_, rfl, ⟨A6, _, c6, rfl, U32s.of_own ho6 HATb.out⟩, hb6⟩
  · refine relStep_plain rfl ?_
    intro Ac w5 hp
    have hb := hp.bel
    have a5 : Ac.eval (.tmp 5) = .pointer (some ⟨w.heap.size + 1, 0, none⟩) := hp.out 5 (by rfl)
    have hc := evalC Ac; have hf := evalF Ac; have hgl := evalG Ac
    obtain ⟨ρ, hρ⟩ : ∃ ρ, Ac.eval = ρ := ⟨_, rfl⟩
    rw [hρ] at a5 hc hf hgl
    exact relPure hρ (.pointer (some ⟨w.heap.size + 1, 1, none⟩)) (by simp [go_sem, hc, hf, hgl, ↓IntWalk.iteOmega, a5, *]) rfl
  · refine relStep_plain rfl ?_
    intro Ac w5 hp
    have hb := hp.bel
    have a15 : Ac.eval (.tmp 15) = .pointer (some ⟨w.heap.size + 1, 1, none⟩) := hp.dep 3 (by kernel_rfl)
    have z1 : w5.cell? ⟨w.heap.size + 1, 1, none⟩ = some (.slice Bb mb cb) := (HK1.out.below hb HK1.out.lt).cell 1
    have hc := evalC Ac; have hf := evalF Ac; have hgl := evalG Ac
    obtain ⟨ρ, hρ⟩ : ∃ ρ, Ac.eval = ρ := ⟨_, rfl⟩
    rw [hρ] at a15 hc hf hgl
    exact relPure hρ (.slice Bb mb cb) (by simp [go_sem, hc, hf, hgl, ↓IntWalk.iteOmega, a15, *]) rfl
  · refine relStep_plain rfl ?_
    intro Ac w5 hp
    have hb := hp.bel
    have a16 : Ac.eval (.tmp 16) = .slice Bb mb cb := hp.dep 4 (by kernel_rfl)
    have hc := evalC Ac; have hf := evalF Ac; have hgl := evalG Ac
    obtain ⟨ρ, hρ⟩ : ∃ ρ, Ac.eval = ρ := ⟨_, rfl⟩
    rw [hρ] at a16 hc hf hgl
    refine relCall hρ 5 #[.slice Bb mb cb, .int .i64 (600 : Nat)] (by simp [go_sem, hc, hf, hgl, ↓IntWalk.iteOmega, a16, *]) ?_
    refine (few_any Bb mb cb _ 600 (by decide) w5 (HUb.out.below hb)).mono ?_
    rintro e w6 ⟨v6, rfl, ho6, hb6⟩
    rw [HBT.out] at ho6
    obtain ⟨A6, c6, rfl⟩ := own_slice ho6
    exact ⟨_, rfl, ⟨A6, _, c6, rfl, U32s.of_own ho6 HBTb.out⟩, hb6⟩
  intro u w2 hb7 hall
  obtain ⟨A14, n14, c14, e14, hu14⟩ := relAll_at hall (i := 2) (by decide +kernel)
  change u 2 = _ at e14
  obtain ⟨A17, n17, c17, e17, hu17⟩ := relAll_at hall (i := 5) (by decide +kernel)
  change u 5 = _ at e17
  clear hall
  simp only [List.drop_succ_cons, List.drop_zero, List.take_succ_cons, List.take_zero, putAll, Act.put, List.setIfInBounds_toArray, List.set_cons_zero, List.set_cons_succ, Nat.zero_add, Nat.reduceAdd, e14, e17]
  have HA := hide hu14
  have HBb := hide hu17
  have HCl := hide (HCl.out.below sgMono hb7)
  have HK0 := hide (HK0.out.below hb7 HK0.out.lt)
  have HK1 := hide (HK1.out.below hb7 HK1.out.lt)
  have HBt := hide (HBt.out.trans (hb7.mono HBt.out.size))
  clear hu14 hu17 hb7 e14 e17
  go_wp2
  have Hmn := hide (show AllMono [(fun v _ => v = .slice A1 m1 c1), (fun v W2 => ∃ A n c, v = Value.slice A n c ∧ LstAt 2 sgR W2 A n c CL), (fun v _ => v = .pointer (some ⟨w.heap.size, 0, none⟩)), (fun v _ => v = .int .i64 v0), (fun v _ => v = .int .u32 (x : Int)), (fun v _ => v = .pointer (some ⟨w.heap.size, 1, none⟩)), (fun v _ => v = .int .i64 v1), (fun v W2 => ∃ A n c, v = Value.slice A n c ∧ LstAt 2 sgR W2 A n c PN)] from ⟨fun _ _ _ _ h => h, fun v w2 w3 hb ⟨A, n, c, e, h⟩ => ⟨A, n, c, e, h.below sgMono hb⟩, fun _ _ _ _ h => h, fun _ _ _ _ h => h, fun _ _ _ _ h => h, fun _ _ _ _ h => h, fun _ _ _ _ h => h, fun v w2 w3 hb ⟨A, n, c, e, h⟩ => ⟨A, n, c, e, h.below sgMono hb⟩, trivial⟩)
  refine wp_region_relT 8 _ (by kernel_rfl) (by kernel_rfl) (by kernel_rfl) (by kernel_rfl) (by kernel_rfl) (relMono _ Hmn.out) ⟨?_, ?_, ?_, ?_, ?_, ?_, ?_, ?_, trivial⟩ ?_
  · refine relStep_plain rfl ?_
    intro Ac w5 hp
    have hb := hp.bel
    have a0 : Ac.eval (.tmp 0) = .slice A1 m1 c1 := hp.out 0 (by rfl)
    have hc := evalC Ac; have hf := evalF Ac; have hgl := evalG Ac
    obtain ⟨ρ, hρ⟩ : ∃ ρ, Ac.eval = ρ := ⟨_, rfl⟩
    rw [hρ] at a0 hc hf hgl
    exact relPure hρ (.slice A1 m1 c1) (by simp [go_sem, hc, hf, hgl, ↓IntWalk.iteOmega, a0, *]) rfl
  · refine relStep_plain rfl ?_
    intro Ac w5 hp
    have hb := hp.bel
    have a18 : Ac.eval (.tmp 18) = .slice A1 m1 c1 := hp.dep 0 (by kernel_rfl)
    have hc := evalC Ac; have hf := evalF Ac; have hgl := evalG Ac
    obtain ⟨ρ, hρ⟩ : ∃ ρ, Ac.eval = ρ := ⟨_, rfl⟩
    rw [hρ] at a18 hc hf hgl
    refine relCall hρ 4 #[.slice A1 m1 c1] (by simp [go_sem, hc, hf, hgl, ↓IntWalk.iteOmega, a18, *]) ?_
    refine (pathFew_any A1 m1 c1 CL w5 (HCl.out.below sgMono hb)).mono ?_
    intro e w6 hmv
    unfold SegP at hmv
    obtain ⟨A6, n6, c6, xs6, rfl, hl6, hb6⟩ := hmv
    rw [HCc.out] at hl6
    exact ⟨_, rfl, ⟨A6, n6, c6, rfl, hl6.lst (by decide)⟩, hb6⟩
  · refine relStep_plain rfl ?_
    intro Ac w5 hp
    have hb := hp.bel
    have a4 : Ac.eval (.tmp 4) = .pointer (some ⟨w.heap.size, 0, none⟩) := hp.out 4 (by rfl)
    have hc := evalC Ac; have hf := evalF Ac; have hgl := evalG Ac
    obtain ⟨ρ, hρ⟩ : ∃ ρ, Ac.eval = ρ := ⟨_, rfl⟩
    rw [hρ] at a4 hc hf hgl
    exact relPure hρ (.pointer (some ⟨w.heap.size, 0, none⟩)) (by simp [go_sem, hc, hf, hgl, ↓IntWalk.iteOmega, a4, *]) rfl
  · refine relStep_plain rfl ?_
    intro Ac w5 hp
    have hb := hp.bel
    have a20 : Ac.eval (.tmp 20) = .pointer (some ⟨w.heap.size, 0, none⟩) := hp.dep 2 (by kernel_rfl)
    have z1 : w5.cell? ⟨w.heap.size, 0, none⟩ = some (.int .i64 v0) := (HK0.out.below hb HK0.out.lt).cell 0
    have hc := evalC Ac; have hf := evalF Ac; have hgl := evalG Ac
    obtain ⟨ρ, hρ⟩ : ∃ ρ, Ac.eval = ρ := ⟨_, rfl⟩
    rw [hρ] at a20 hc hf hgl
    exact relPure hρ (.int .i64 v0) (by simp [go_sem, hc, hf, hgl, ↓IntWalk.iteOmega, a20, *]) rfl
  · refine relStep_plain rfl ?_
    intro Ac w5 hp
    have hb := hp.bel
    have a21 : Ac.eval (.tmp 21) = .int .i64 v0 := hp.dep 3 (by kernel_rfl)
    have hc := evalC Ac; have hf := evalF Ac; have hgl := evalG Ac
    obtain ⟨ρ, hρ⟩ : ∃ ρ, Ac.eval = ρ := ⟨_, rfl⟩
    rw [hρ] at a21 hc hf hgl
    exact relPure hρ (.int .u32 (x : Int)) (by simp [go_sem, hc, hf, hgl, ↓IntWalk.iteOmega, a21, *]) rfl
  · refine relStep_plain rfl ?_
    intro Ac w5 hp
    have hb := hp.bel
    have a4 : Ac.eval (.tmp 4) = .pointer (some ⟨w.heap.size, 0, none⟩) := hp.out 4 (by rfl)
    have hc := evalC Ac; have hf := evalF Ac; have hgl := evalG Ac
    obtain ⟨ρ, hρ⟩ : ∃ ρ, Ac.eval = ρ := ⟨_, rfl⟩
    rw [hρ] at a4 hc hf hgl
    exact relPure hρ (.pointer (some ⟨w.heap.size, 1, none⟩)) (by simp [go_sem, hc, hf, hgl, ↓IntWalk.iteOmega, a4, *]) rfl
  · refine relStep_plain rfl ?_
    intro Ac w5 hp
    have hb := hp.bel
    have a23 : Ac.eval (.tmp 23) = .pointer (some ⟨w.heap.size, 1, none⟩) := hp.dep 5 (by kernel_rfl)
    have z1 : w5.cell? ⟨w.heap.size, 1, none⟩ = some (.int .i64 v1) := (HK0.out.below hb HK0.out.lt).cell 1
    have hc := evalC Ac; have hf := evalF Ac; have hgl := evalG Ac
    obtain ⟨ρ, hρ⟩ : ∃ ρ, Ac.eval = ρ := ⟨_, rfl⟩
    rw [hρ] at a23 hc hf hgl
    exact relPure hρ (.int .i64 v1) (by simp [go_sem, hc, hf, hgl, ↓IntWalk.iteOmega, a23, *]) rfl
  · refine relStep_plain rfl ?_
    intro Ac w5 hp
    have hb := hp.bel
    obtain ⟨A19, n19, c19, a19, hl19⟩ := hp.dep 1 (by kernel_rfl)
    change Ac.eval (.tmp 19) = _ at a19
    have a22 : Ac.eval (.tmp 22) = .int .u32 (x : Int) := hp.dep 4 (by kernel_rfl)
    have a24 : Ac.eval (.tmp 24) = .int .i64 v1 := hp.dep 6 (by kernel_rfl)
    have hc := evalC Ac; have hf := evalF Ac; have hgl := evalG Ac
    obtain ⟨ρ, hρ⟩ : ∃ ρ, Ac.eval = ρ := ⟨_, rfl⟩
    rw [hρ] at a19 a22 a24 hc hf hgl
    refine relCall hρ 6 #[Value.slice A19 n19 c19, .int .u32 (x : Int), .int .i64 v1] (by simp [go_sem, hc, hf, hgl, ↓IntWalk.iteOmega, a19, a22, a24, *]) ?_
    refine (prepend_any A19 n19 c19 x v1 CL w5 hl19 HXl.out HNu.out (by rw [← hl19.1]; exact HCn.out)).mono ?_
    intro e w6 hmv
    unfold SegP at hmv
    obtain ⟨A6, n6, c6, xs6, rfl, hl6, hb6⟩ := hmv
    rw [HPn.out] at hl6
    exact ⟨_, rfl, ⟨A6, n6, c6, rfl, hl6.lst (by decide)⟩, hb6⟩
  intro u w3 hb7 hall
  obtain ⟨A25, n25, c25, e25, hl25⟩ := relAll_at hall (i := 7) (by decide +kernel)
  change u 7 = _ at e25
  clear hall
  simp only [List.drop_succ_cons, List.drop_zero, List.take_succ_cons, List.take_zero, putAll, Act.put, List.setIfInBounds_toArray, List.set_cons_zero, List.set_cons_succ, Nat.zero_add, Nat.reduceAdd, e25]
  have HP := hide hl25
  have HA := hide (HA.out.below hb7)
  have HBb := hide (HBb.out.below hb7)
  have HCl := hide (HCl.out.below sgMono hb7)
  have HK0 := hide (HK0.out.below hb7 HK0.out.lt)
  have HBt := hide (HBt.out.trans (hb7.mono HBt.out.size))
  have z0 : w3.cell? ⟨w.heap.size, 0, none⟩ = some (.int .i64 v0) := HK0.out.cell 0
  have z1 : w3.cell? ⟨w.heap.size, 1, none⟩ = some (.int .i64 v1) := HK0.out.cell 1
  clear hl25 hb7 e25
  have HCc_ := hide (refprep_any A1 m1 c1 x v1 CL w3 HCl.out HXl.out HNu.out (by rw [← HCl.out.1]; exact HCn.out))
  go_wp2_with fail
  refine HCc_.out.mono ?_
  intro e w4 hmv
  unfold RefP at hmv
  obtain ⟨A4_, n4_, c4_, xs, rfl, hl, hb⟩ := hmv
  rw [HPm.out] at hl
  have HQ := hide (hl.lst (by decide))
  have HBt := hide (HBt.out.trans (hb.mono HBt.out.size))
  have HCl := hide (HCl.out.below sgMono hb)
  have HP := hide (HP.out.below sgMono hb)
  have HA := hide (HA.out.below hb)
  have HBb := hide (HBb.out.below hb)
  clear hl hb HCc_
  have HCc_ := hide (psame_eq A25 A4_ n25 c25 n4_ c4_ PN w4 HP.out HQ.out (by rw [← HP.out.1]; exact HB1.out))
  go_wp2_with fail
  refine HCc_.out.mono ?_
  rintro e w5 ⟨rfl, hb⟩
  have HBt := hide (HBt.out.trans (hb.mono HBt.out.size))
  have HCl := hide (HCl.out.below sgMono hb)
  have HP := hide (HP.out.below sgMono hb)
  have HA := hide (HA.out.below hb)
  have HBb := hide (HBb.out.below hb)
  have HQ := hide (HQ.out.below sgMono hb)
  clear hb HCc_
  clear HP HQ HCl
  have HCc_ := hide (few_any A14 n14 c14 _ 600 (by decide) w5 HA.out)
  go_wp2_with fail
  refine HCc_.out.mono ?_
  rintro e w6 ⟨v6, rfl, ho, hb⟩
  rw [HATf.out] at ho
  obtain ⟨A6_, c6_, rfl⟩ := own_slice ho
  have HA2 := hide (U32s.of_own ho HATb.out)
  have HBt := hide (HBt.out.trans (hb.mono HBt.out.size))
  have HA := hide (HA.out.below hb)
  have HBb := hide (HBb.out.below hb)
  clear ho hb HCc_
  have HCc_ := hide (seq_any A6_ AT.length c6_ AT w6 HA2.out (by have := HAl.out; omega))
  go_wp2_with fail
  refine HCc_.out.mono ?_
  intro e w7 hmv
  unfold SegP at hmv
  obtain ⟨A7_, n7_, c7_, xs, rfl, hl, hb⟩ := hmv
  rw [HSN.out] at hl
  have HS := hide (hl.lst (by decide))
  have HBt := hide (HBt.out.trans (hb.mono HBt.out.size))
  have HA := hide (HA.out.below hb)
  have HBb := hide (HBb.out.below hb)
  have HA2 := hide (HA2.out.below hb)
  clear hl hb HCc_
  clear HA2
  have HCc_ := hide (refjoin_any A14 none n14 c14 0 0 AT [] w7 HA.out (U32s_nil _) (by rw [← HA.out.1]; have := HAl.out; omega) (by omega))
  go_wp2_with fail
  refine HCc_.out.mono ?_
  intro e w8 hmv
  unfold RefP at hmv
  obtain ⟨A8_, n8_, c8_, xs, rfl, hl, hb⟩ := hmv
  rw [joinS_nil, HSN.out] at hl
  have HJ := hide (hl.lst (by decide))
  have HBt := hide (HBt.out.trans (hb.mono HBt.out.size))
  have HA := hide (HA.out.below hb)
  have HBb := hide (HBb.out.below hb)
  have HS := hide (HS.out.below sgMono hb)
  clear hl hb HCc_
  have HCc_ := hide (psame_eq A7_ A8_ n7_ c7_ n8_ c8_ SN w8 HS.out HJ.out (by rw [← HS.out.1]; exact HB2.out))
  go_wp2_with fail
  refine HCc_.out.mono ?_
  rintro e w9 ⟨rfl, hb⟩
  have HBt := hide (HBt.out.trans (hb.mono HBt.out.size))
  have HA := hide (HA.out.below hb)
  have HBb := hide (HBb.out.below hb)
  have HS := hide (HS.out.below sgMono hb)
  have HJ := hide (HJ.out.below sgMono hb)
  clear hb HCc_
  clear HS HJ
  have HCc_ := hide (few_any A14 n14 c14 _ 600 (by decide) w9 HA.out)
  go_wp2_with fail
  refine HCc_.out.mono ?_
  rintro e w10 ⟨v6, rfl, ho, hb⟩
  rw [HATf.out] at ho
  obtain ⟨A10_, c10_, rfl⟩ := own_slice ho
  have HA2 := hide (U32s.of_own ho HATb.out)
  have HBt := hide (HBt.out.trans (hb.mono HBt.out.size))
  have HA := hide (HA.out.below hb)
  have HBb := hide (HBb.out.below hb)
  clear ho hb HCc_
  have HCc_ := hide (few_any A17 n17 c17 _ 600 (by decide) w10 HBb.out)
  go_wp2_with fail
  refine HCc_.out.mono ?_
  rintro e w11 ⟨v6, rfl, ho, hb⟩
  rw [HBTf.out] at ho
  obtain ⟨A11_, c11_, rfl⟩ := own_slice ho
  have HB2_ := hide (U32s.of_own ho HBTb.out)
  have HBt := hide (HBt.out.trans (hb.mono HBt.out.size))
  have HA := hide (HA.out.below hb)
  have HBb := hide (HBb.out.below hb)
  have HA2 := hide (HA2.out.below hb)
  clear ho hb HCc_
  have HCc_ := hide (join_any A10_ A11_ AT.length c10_ BT.length c11_ AT BT w11 HA2.out HB2_.out (by have := HAl.out; omega) (by have := HBl.out; omega))
  go_wp2_with fail
  refine HCc_.out.mono ?_
  intro e w12 hmv
  unfold SegP at hmv
  obtain ⟨A12_, n12_, c12_, xs, rfl, hl, hb⟩ := hmv
  rw [HJN.out] at hl
  have HS := hide (hl.lst (by decide))
  have HBt := hide (HBt.out.trans (hb.mono HBt.out.size))
  have HA := hide (HA.out.below hb)
  have HBb := hide (HBb.out.below hb)
  have HA2 := hide (HA2.out.below hb)
  have HB2_ := hide (HB2_.out.below hb)
  clear hl hb HCc_
  clear HA2 HB2_
  have HCc_ := hide (refjoin_any A14 A17 n14 c14 n17 c17 AT BT w12 HA.out HBb.out (by rw [← HA.out.1]; have := HAl.out; omega) (by rw [← HBb.out.1]; have := HBl.out; omega))
  go_wp2_with fail
  refine HCc_.out.mono ?_
  intro e w13 hmv
  unfold RefP at hmv
  obtain ⟨A13_, n13_, c13_, xs, rfl, hl, hb⟩ := hmv
  rw [HJN.out] at hl
  have HJ := hide (hl.lst (by decide))
  have HBt := hide (HBt.out.trans (hb.mono HBt.out.size))
  have HA := hide (HA.out.below hb)
  have HBb := hide (HBb.out.below hb)
  have HS := hide (HS.out.below sgMono hb)
  clear hl hb HCc_
  have HCc_ := hide (psame_eq A12_ A13_ n12_ c12_ n13_ c13_ JN w13 HS.out HJ.out (by rw [← HS.out.1]; exact HB3.out))
  go_wp2_with fail
  refine HCc_.out.mono ?_
  rintro e w14 ⟨rfl, hb⟩
  have HBt := hide (HBt.out.trans (hb.mono HBt.out.size))
  have HA := hide (HA.out.below hb)
  have HBb := hide (HBb.out.below hb)
  have HS := hide (HS.out.below sgMono hb)
  have HJ := hide (HJ.out.below sgMono hb)
  clear hb HCc_
  clear HS HJ
  have HLv := hide (pathLives_any w14 (ht.out.below HBt.out))
  go_wp2_with fail
  refine HLv.out.mono ?_
  rintro e w15 ⟨rfl, hb⟩
  have HBt := hide (HBt.out.trans (hb.mono HBt.out.size))
  clear hb
  go_wp2
  go_ret
  exact ⟨rfl, HBt.out⟩
end Go.Proofs.YtplhnhoijficgaaGreatDoor
set_option linter.unusedSimpArgs false
set_option linter.unusedVariables false
namespace Go.Proofs.YtplhnhoijficgaaGreatDoor
open Go.RowKit Go.WideShapes Go.ChangeShapes
set_option maxRecDepth 100000 in
theorem u32s_opens {H : Type} {enc : TypeId × Value → H} {W : World} {f : Nat} {v : Value} {x : DataW H × List MemPlace} (h : DataW.trod enc Tryz.prog W 0 (fun _ => true) true f 24 [v] = some x) :
    ∃ A n c l, v = .slice A n c ∧ U32s W A n c l := by
  have h1' : ∃ A n c, v = .slice A n c := by
    rcases DataW.trod_slice Tryz.underlying24 h with ⟨e, _⟩ | ⟨a, len, cap, elems, rest, n, _, e, _⟩
    · exact ⟨none, 0, 0, by simpa using e⟩
    · exact ⟨some a, len, cap, by simpa using e⟩
  obtain ⟨A, m, c, rfl⟩ := h1'
  obtain ⟨l, hl⟩ := u32s_open (A := A) (n := m) (c := c) ⟨f, by simpa [Value.cells] using h⟩
  exact ⟨A, m, c, l, rfl, hl⟩
set_option maxRecDepth 100000 in
theorem segs_open {H : Type} {enc : TypeId × Value → H} {W : World} {A : Option Addr} {n c : Nat} {d : DataW H} {p : List MemPlace}
    (h : DataW.Trod enc Tryz.prog W 0 (fun _ => true) true 22 (.slice A n c) d p) : ∃ l : List SG, LstAt 2 sgR W A n c l := by
  obtain ⟨fuel, hf⟩ := h
  obtain ⟨A', n', c', l, e, hl⟩ := lst_open (R := sgR) (sz := 2) Tryz.underlying22 (by kernel_rfl) (by decide) (fun f cs x hx => by
    obtain ⟨z0, z1, n, _, hl, g0, g1⟩ := trod_struct2 Tryz.underlying36 hx
    have c2 : Tryz.prog.cellsOf 36 = 2 := by kernel_rfl
    have ci : Tryz.prog.cellsOf 3 = 1 := by kernel_rfl
    have cs1 : Tryz.prog.cellsOf 24 = 1 := by kernel_rfl
    rw [c2] at hl
    match cs, hl with
    | [v0, v1], _ =>
      simp only [ci, cs1, List.drop_zero, List.drop_succ_cons, List.take_succ_cons, List.take_zero] at g0 g1
      obtain ⟨k, e0, _⟩ := DataW.trod_int Tryz.underlying3 g0
      obtain ⟨A, m, c, l, rfl, hl⟩ := u32s_opens g1
      simp only [List.cons.injEq, and_true] at e0
      subst e0
      exact ⟨⟨k, l⟩, A, m, c, rfl, hl⟩) hf
  obtain ⟨rfl, rfl, rfl⟩ : A = A' ∧ n = n' ∧ c = c' := by simpa [Value.cells] using e
  exact ⟨l, hl⟩
set_option maxRecDepth 100000 in
theorem agg2_open {r : Reach} {b0 : Nat} {t e : TypeId} {W : World} {v : Value} (ht : Tryz.prog.underlying t = some (.array 2 e)) (hc : Tryz.prog.cellsOf t = 2) (hv : Value.okWide Tryz.prog W r b0 t v) : ∃ v0 v1, v = .agg #[v0, v1] := by
  simp only [Value.okWide, ht] at hv
  obtain ⟨cs, rfl, hs, _⟩ := hv
  rw [hc] at hs
  obtain ⟨l⟩ := cs
  match l, hs with
  | [v0, v1], _ => exact ⟨v0, v1, rfl⟩
set_option maxRecDepth 100000 in
theorem twoi_open {H : Type} {enc : TypeId × Value → H} {W : World} {r : Reach} {b0 : Nat} {v : Value} {d : DataW H} {p : List MemPlace} (hv : Value.okWide Tryz.prog W r b0 23 v)
    (h : DataW.Trod enc Tryz.prog W 0 (fun _ => true) true 23 v d p) : ∃ v0 v1 : Int, v = .agg #[.int .i64 v0, .int .i64 v1] := by
  obtain ⟨v0, v1, rfl⟩ := agg2_open Tryz.underlying23 (by kernel_rfl) hv
  obtain ⟨fuel, hf⟩ := h
  obtain ⟨xs, m, _, _, _, hxl, hx⟩ := DataW.trod_array Tryz.underlying23 hf
  have ci : Tryz.prog.cellsOf 3 = 1 := by kernel_rfl
  rw [ci] at hx
  have h0 := hx 0 (by omega)
  have h1 := hx 1 (by omega)
  rw [List.getElem?_eq_getElem (by omega)] at h0 h1
  simp only [Value.cells, Nat.zero_mul, Nat.one_mul, List.drop_zero, List.drop_succ_cons, List.take_succ_cons, List.take_zero] at h0 h1
  obtain ⟨k0, e0, _⟩ := DataW.trod_int Tryz.underlying3 h0
  obtain ⟨k1, e1, _⟩ := DataW.trod_int Tryz.underlying3 h1
  obtain rfl : v0 = _ := by simpa using e0
  obtain rfl : v1 = _ := by simpa using e1
  exact ⟨k0, k1, rfl⟩
set_option maxRecDepth 100000 in
theorem twou_open {H : Type} {enc : TypeId × Value → H} {W : World} {r : Reach} {b0 : Nat} {v : Value} {d : DataW H} {p : List MemPlace} (hv : Value.okWide Tryz.prog W r b0 25 v)
    (h : DataW.Trod enc Tryz.prog W 0 (fun _ => true) true 25 v d p) : ∃ A m c B k e a b, v = .agg #[.slice A m c, .slice B k e] ∧ U32s W A m c a ∧ U32s W B k e b := by
  obtain ⟨v0, v1, rfl⟩ := agg2_open Tryz.underlying25 (by kernel_rfl) hv
  obtain ⟨fuel, hf⟩ := h
  obtain ⟨xs, m, _, _, _, hxl, hx⟩ := DataW.trod_array Tryz.underlying25 hf
  have ci : Tryz.prog.cellsOf 24 = 1 := by kernel_rfl
  rw [ci] at hx
  have h0 := hx 0 (by omega)
  have h1 := hx 1 (by omega)
  rw [List.getElem?_eq_getElem (by omega)] at h0 h1
  simp only [Value.cells, Nat.zero_mul, Nat.one_mul, List.drop_zero, List.drop_succ_cons, List.take_succ_cons, List.take_zero] at h0 h1
  obtain ⟨A, m0, c, a, rfl, ha⟩ := u32s_opens h0
  obtain ⟨B, k, e, b, rfl, hb⟩ := u32s_opens h1
  exact ⟨A, m0, c, B, k, e, a, b, rfl, ha, hb⟩
end Go.Proofs.YtplhnhoijficgaaGreatDoor
set_option linter.unusedSimpArgs false
set_option linter.unusedVariables false
namespace Go.Proofs.YtplhnhoijficgaaGreatDoor
open Go.RowKit Go.WideShapes Go.ChangeShapes
structure AT where
  has : Int
  org : Int
  path : List SG
  hop : Int
  med : Int
  pref : Int
  aas : Int
  aid : Int
  comms : List Nat
end Go.Proofs.YtplhnhoijficgaaGreatDoor
set_option linter.unusedSimpArgs false
set_option linter.unusedVariables false
namespace Go.Proofs.YtplhnhoijficgaaGreatDoor
open Go.RowKit Go.WideShapes Go.ChangeShapes
attribute [local go_sem] Oper.semAt_some
theorem StrsAt.grown_ {w w' : World} {g : Nat} {A : Option Addr} {n c : Nat} {l : List ByteArray} (h : StrsAt w A n c l) (hg : w.grownBy w' (some g)) (hA : ∀ a, A = some a → a.block ≠ g) : StrsAt w' A n c l := by
  refine ⟨h.1, h.2.1, h.2.2.1, h.2.2.2.1, fun hn => ?_⟩
  obtain ⟨b, o, rfl, hb, hc⟩ := h.2.2.2.2 hn
  refine ⟨b, o, rfl, Nat.lt_of_lt_of_le hb hg.size, fun k x hk => ?_⟩
  rw [World.cell?_of_block (hg.block b hb (by simp; exact hA _ rfl))]
  exact hc k x hk
end Go.Proofs.YtplhnhoijficgaaGreatDoor
set_option linter.unusedSimpArgs false
set_option linter.unusedVariables false
namespace Go.Proofs.YtplhnhoijficgaaGreatDoor
open Go.RowKit Go.WideShapes Go.ChangeShapes
attribute [local go_sem] Oper.semAt_some
theorem StrsAt.take_ {w : World} {A : Option Addr} {n c : Nat} {l : List ByteArray} (h : StrsAt w A n c l) {m : Nat} (hm : m ≤ n) : StrsAt w A m c (l.take m) := by
  refine ⟨by rw [List.length_take, h.1]; omega, by have := h.2.1; omega, h.2.2.1, fun x hx => h.2.2.2.1 x (List.mem_of_mem_take hx), fun hn => ?_⟩
  obtain ⟨g, o, hA, hg, hc⟩ := h.2.2.2.2 (by omega)
  refine ⟨g, o, hA, hg, fun k x hk => hc k x ?_⟩
  rw [List.getElem?_take] at hk
  split at hk
  · exact hk
  · cases hk
theorem StrsAt.drop_ {w : World} {A : Option Addr} {g o n c : Nat} {l : List ByteArray} (h : StrsAt w (some ⟨g, o, none⟩) n c l) {k : Nat} (hk : k ≤ n) (hA : k < n → A = some ⟨g, o + k, none⟩) : StrsAt w A (n - k) (c - k) (l.drop k) := by
  refine ⟨by rw [List.length_drop, h.1], by have := h.2.1; omega, by have := h.2.2.1; omega, fun x hx => h.2.2.2.1 x (List.mem_of_mem_drop hx), fun hn => ?_⟩
  obtain ⟨g2, o2, hA2, hg, hc⟩ := h.2.2.2.2 (by omega)
  cases hA2
  refine ⟨g, o + k, hA (by omega), hg, fun i x hi => ?_⟩
  rw [List.getElem?_drop] at hi
  have := hc _ x hi
  rwa [← Nat.add_assoc] at this
end Go.Proofs.YtplhnhoijficgaaGreatDoor
