import Derived.Test.YtlfknndpbejbcaaDoorLg3
import Derived.WalkKit
import Derived.ProofKit
import Derived.OpenShut
import Derived.Below
import Derived.Laws.OwnMore
import Derived.Laws.Rows
import Derived.Laws.MakeOwn
import Derived.Deep.AppendLies
import Derived.Deep.Draws
import Derived.Deep.OwnRows
import Derived.Deep.QuietTactic
import Derived.Maps.AppendAt
import Derived.RegionTactic
import Derived.OwnWalk
import Derived.ChangeSame
import Derived.Outline
import Derived.BigQuiet
import Derived.WalkMore
import Derived.ScopeJumps
import Derived.WalkLawsBesides
import Derived.WalkSpells
import Derived.Laws.BitsLemmas
import Derived.Laws.BitsAllLaws
import Derived.Deep.Quiet
import Derived.WideKeyArgs
import Derived.Deep.DeepHandedRow
import Derived.Deep.DeepWitnessRowRef
import Derived.Lib.LaidTab
import Derived.Lib.AppendIntMem
import Derived.LaidMore
import Derived.MakeChecks
import Derived.Lib.Itoa
import Derived.Lib.ItoaMem
import Derived.BigRegion
import Derived.Deep.Slices
import Derived.Orders
import Derived.Lib.PathFns
import Derived.Lib.IndexBytes
import Derived.RangeFuncWrites
import Derived.RangeFuncNested
import Derived.RangeFuncBound
import Derived.RangeFuncCalls
import Derived.RangeFuncLeaves
import Derived.RangeFuncBox
import Derived.Shelf.Abstract
import Derived.Shelf.RegionOpen
import Derived.OwnWalkIn
import Derived.TacticsInMore
import Derived.LoopNIn
import Derived.LoopIn
import Derived.Lib.SmallJoins
import Derived.Lib.ParseIntBCases
import Derived.Lib.IndexMore
import Derived.Shelf.Vars
import Derived.Lib.AtoiAllCases
import Derived.SliceStrings
import Derived.Deep.RegionLaw
import Derived.Sort.LotA
import Derived.BigRegionIn
import Derived.Lib.Strings
import Derived.Lib.Bytealg
import Derived.StillTailTactics
import Derived.Deep.RegionHeld3
import Derived.Shelf.Strings.SplitShaped
import Derived.Shelf.Strings.Prefix
import Derived.Shelf.Small.Strs
import Derived.Laws.BytesString
import Derived.Laws.IdiomStrings
import Derived.Shelf.Strings.BuilderK
set_option linter.unusedSimpArgs false
set_option linter.unusedVariables false
namespace Go.Proofs.YtlfknndpbejbcaaDoor
open Go.RowKit Go.WideShapes Go.ChangeShapes Go.ChangeAt
attribute [local go_sem] Oper.semAt_some
def liveSM : List MV := [⟨3, 167772162, 0, [], [], 0, 0, 0, false⟩, ⟨7, 0, 0, [], [114, 111, 117, 116, 101, 114, 32, 49, 32, 49, 46, 49, 46, 49, 46, 49, 10], 0, 0, 0, false⟩]
def liveST : List UInt8 := [117, 112, 32, 49, 48, 46, 48, 46, 48, 46, 50, 10, 99, 111, 110, 102, 105, 103, 32, 49, 10, 124, 114, 111, 117, 116, 101, 114, 32, 49, 32, 49, 46, 49, 46, 49, 46, 49, 10]
theorem liveST_is : textsM liveSM = liveST := by decide +kernel
theorem liveSM_ok : ∀ m ∈ liveSM, mvGood m = true ∧ MvOk m := by
  intro m hm
  simp only [liveSM, List.mem_cons, List.not_mem_nil, or_false] at hm
  rcases hm with rfl | rfl
  · exact ⟨by decide, ⟨by decide, by decide, by decide, by decide, by decide, by decide⟩⟩
  · exact ⟨by decide, ⟨by decide, by decide, by decide, by decide, by decide, by decide⟩⟩
set_option maxRecDepth 100000 in
set_option maxHeartbeats 2000000 in
theorem slives_any (w : World) (he : Env w) (ht : SpTab w) : Calls Tryd.prog 6 #[] w (GoodP true w) := by
  have HR := hide (sread_any liveST (by decide) w he ht)
  clear he ht
  go_enter Tryd.func6, Tryd.ntmps6
  go_wp2_with fail
  refine HR.out.mono ?_
  rintro e w1 ⟨hr, hb⟩
  rw [← liveST_is] at hr
  rcases read_moves liveSM_ok hr with ⟨_, A, n, c, rfl, hn, hl⟩ | ⟨h5, _⟩
  · obtain rfl : n = 2 := hn.symm
    obtain ⟨g, o, x0, vs0, rfl, hg, hx0, _, ⟨A0, n0, c0, rfl, _⟩, hc0⟩ := hl.at_ (k := 0) (by omega)
    obtain ⟨g', o', x1, vs1, hA, _, hx1, _, ⟨A1, n1, c1, rfl, _⟩, hc1⟩ := hl.at_ (k := 1) (by omega)
    cases hA
    have e0 : x0 = ⟨3, 167772162, 0, [], [], 0, 0, 0, false⟩ := by
      have : (liveSM.map mvOnly)[0]? = some ⟨3, 167772162, 0, [], [], 0, 0, 0, false⟩ := by simp [liveSM, mvOnly]
      rw [this] at hx0; exact (Option.some.inj hx0).symm
    have e1 : x1 = ⟨7, 0, 0, [], [114, 111, 117, 116, 101, 114, 32, 49, 32, 49, 46, 49, 46, 49, 46, 49, 10], 0, 0, 0, false⟩ := by
      have : (liveSM.map mvOnly)[1]? = some ⟨7, 0, 0, [], [114, 111, 117, 116, 101, 114, 32, 49, 32, 49, 46, 49, 46, 49, 46, 49, 10], 0, 0, 0, false⟩ := by simp [liveSM, mvOnly]
      rw [this] at hx1; exact (Option.some.inj hx1).symm
    subst e0 e1
    have k0 : w1.cell? ⟨g, o, none⟩ = some (.int .i64 3) := by have := hc0 0 _ rfl; simpa using this
    have k1 : w1.cell? ⟨g, o + 9 + 4, none⟩ = some (.string ⟨#[114, 111, 117, 116, 101, 114, 32, 49, 32, 49, 46, 49, 46, 49, 46, 49, 10]⟩) := by have := hc1 4 _ rfl; rw [Nat.one_mul] at this; exact this
    have k2 : w1.cell? ⟨g, o + 13, none⟩ = some (.string ⟨#[114, 111, 117, 116, 101, 114, 32, 49, 32, 49, 46, 49, 46, 49, 46, 49, 10]⟩) := k1
    have k3 : ((⟨#[114, 111, 117, 116, 101, 114, 32, 49, 32, 49, 46, 49, 46, 49, 46, 49, 10]⟩ : ByteArray).toList == [114, 111, 117, 116, 101, 114, 32, 49, 32, 49, 46, 49, 46, 49, 46, 49, 10]) = true := by decide +kernel
    have HB := hide hb
    have h2c := hl.2.1
    clear hr hn hl hx0 hx1 hc0 hc1 hb
    go_wp2
    go_ret
    exact ⟨rfl, HB.out⟩
  · exact absurd h5 (by decide)
theorem conv_by {w : World} {A : Option Addr} {n c : Nat} {l : List UInt8} (h : LstAt 1 byR w A n c l) : (convert 23 9 (.slice A n c)).run Tryd.prog w = .ok (.string (str l)) w := by
  by_cases hn : 0 < n
  · obtain ⟨g, o, rfl, hg, hc⟩ := h.2.2.2 hn
    have := run_convert_bytes_back (P := Tryd.prog) w 23 9 5 ⟨g, o, none⟩ c l Tryd.underlying23 Tryd.underlying5 Tryd.underlying9 (fun j hj => by
      obtain ⟨vs, _, rfl, h3⟩ := hc j l[j] (List.getElem?_eq_getElem hj)
      have h4 := h3 0 _ rfl
      have e : (⟨g, o, none⟩ : Addr).add j = ⟨g, o + j, none⟩ := by unfold Addr.add; split <;> simp_all
      rw [e]
      simpa using h4)
    rw [h.1] at this
    exact this
  · obtain rfl : n = 0 := by omega
    obtain rfl : l = [] := List.eq_nil_of_length_eq_zero h.1
    cases A with
    | some a => exact run_convert_bytes_back (P := Tryd.prog) w 23 9 5 a c [] Tryd.underlying23 Tryd.underlying5 Tryd.underlying9 (fun j hj => by cases hj)
    | none =>
      rw [run_convert_bytes_string w 23 9 5 none 0 c Tryd.underlying23 Tryd.underlying5 Tryd.underlying9]
      simp [Conv.bytesToString, loadCells, str, ByteArray.empty, ByteArray.emptyWithCapacity]
      rfl
end Go.Proofs.YtlfknndpbejbcaaDoor
set_option linter.unusedSimpArgs false
set_option linter.unusedVariables false
namespace Go.Proofs.YtlfknndpbejbcaaDoor
open Go.RowKit Go.WideShapes Go.ChangeShapes Go.ChangeAt
attribute [local go_sem] Oper.semAt_some
def tickM : MV := ⟨6, 0, 0, [], [], 0, 0, 0, false⟩
def tickB : List UInt8 := [116, 105, 99, 107, 10]
def tickT : Nat → List UInt8
  | 0 => []
  | i + 1 => tickT i ++ tickB
def tickC : Nat → List Value
  | 0 => []
  | i + 1 => tickC i ++ mvC tickM (.slice none 0 0)
theorem tickT_len : ∀ i, (tickT i).length = 5 * i
  | 0 => rfl
  | i + 1 => by
    have ih := tickT_len i
    show (tickT i ++ tickB).length = _
    rw [List.length_append, ih]
    show 5 * i + 5 = _
    omega
theorem tick_feed : feedT (shownM tickM) = tickB := by decide +kernel
theorem tick_texts : ∀ i, textsM (List.replicate i tickM) = tickT i
  | 0 => rfl
  | i + 1 => by
    rw [List.replicate_succ', textsM_snoc, tick_texts i, tick_feed]; rfl
theorem tick_chunks (w : World) : ∀ i, Chunks 9 mvR w (tickC i) (List.replicate i tickM)
  | 0 => Chunks.nil_
  | i + 1 => by
    rw [List.replicate_succ']
    exact (tick_chunks w i).app_ (Chunks.one_ rfl ⟨none, 0, 0, rfl, LstAt.none_⟩)
theorem tick_ok : mvGood tickM = true ∧ MvOk tickM := ⟨by decide, ⟨by decide, by decide, by decide, by decide, by decide, by decide⟩⟩
theorem tick_all (n : Nat) : ∀ m ∈ List.replicate n tickM, mvGood m = true ∧ MvOk m := fun m hm => by
  rw [List.eq_of_mem_replicate hm]; exact tick_ok
theorem byB_app (a b : List UInt8) : byB (a ++ b) = byB a ++ byB b := by simp [byB]
theorem tick_cells : Lib.strCells ⟨#[116, 105, 99, 107, 10]⟩ = byB tickB := rfl
theorem own_ne2 {w : World} {b1 b2 s1 s2 n n' : Nat} {e e' : TypeId} {v v' : Value} {xs xs' : List Value} (h : w.ownsRow b1 e s1 v n xs) (h2 : w.ownsRow b2 e' s2 v' n' xs') (hne : e ≠ e') : v.ownBlock = none ∨ v.ownBlock ≠ v'.ownBlock := by
  rcases h.2 with ⟨e1, _⟩ | ⟨g, cap, cur, e1, _, hg, _⟩
  · left; rw [e1]; rfl
  · right
    rcases h2.2 with ⟨e2, _⟩ | ⟨g', cap', cur', e2, _, hg', _⟩
    · rw [e1, e2]; simp [Value.ownBlock]
    · rw [e1, e2]
      intro he
      have : g = g' := by simpa [Value.ownBlock] using he
      subst this
      rw [hg] at hg'
      injection hg' with hg'
      injection hg' with _ ht
      exact hne ht
set_option maxRecDepth 100000 in
set_option maxHeartbeats 8000000 in
theorem scriptLong_any (k : Nat) (hk : k < 256) (w : World) (he : Env w) (ht : SpTab w) : Calls Tryd.prog 3 #[.int .u8 (k : Int)] w (GoodP true w) := by
  obtain ⟨i0, hi, hz0, hz1, hz2⟩ := info_parts moveInfo
  obtain ⟨j0, ki, kz0, kz1, kz2⟩ := info_parts sU8Info
  obtain ⟨N, hN⟩ : ∃ N, 4995 + k % 10 = N := ⟨_, rfl⟩
  have hNb : N ≤ 5004 := by omega
  have hN0 : 4995 ≤ N := by omega
  have hw1 : IntKind.i64.wrap (4995 + (k : Int) % 10) = (N : Int) := by rw [IntKind.wrap_i64]; omega
  have hw2 : IntKind.u8.wrap ((k : Int) % 10) = (k : Int) % 10 := by simp [IntKind.wrap, IntKind.bits, IntKind.signed]; omega
  have hw3 : IntKind.i64.wrap ((k : Int) % 10) = (k : Int) % 10 := by rw [IntKind.wrap_i64]; omega
  have HEn := hide he
  have HTb := hide ht
  clear he ht hN
  have HL0 : Hid (((w.alloc (.cells #[] 28)).alloc (.cells #[] 5)).ownsRow w.heap.size 28 9 (.slice (some ⟨w.heap.size, 0, none⟩) 0 0) 0 []) := hide ((World.ownsRow_made w #[] 0 (Nat.le_refl _) (by simp [maxLen]) (by simp)).alloc _)
  have HB0 : Hid (((w.alloc (.cells #[] 28)).alloc (.cells #[] 5)).ownsRow w.heap.size 5 1 (.slice (some ⟨w.heap.size + 1, 0, none⟩) 0 0) 0 []) := hide (by
    have := World.ownsRow_made (base := w.heap.size) (e := 5) (size := 1) (w.alloc (.cells #[] 28)) #[] 0 (by simp) (by simp [maxLen]) (by simp)
    simpa using this)
  have HBe : Hid (Below w.heap.size w ((w.alloc (.cells #[] 28)).alloc (.cells #[] 5))) := hide (((Below.refl _ w).alloc (Nat.le_refl _) _).alloc (by simp) _)
  go_enter Tryd.func3, Tryd.ntmps3
  go_wp2
  go_loopw [4, 5, 6] (fun lv bv iv wr => ∃ i : Nat, i ≤ N ∧ iv = .int .i64 (i : Nat) ∧ wr.ownsRow w.heap.size 28 9 lv i (tickC i) ∧ wr.ownsRow w.heap.size 5 1 bv (5 * i) (byB (tickT i)) ∧ Below w.heap.size w wr) (fun _ _ iv _ => N - (intOf iv).toNat)
  case atStart => exact ⟨0, Nat.zero_le _, rfl, HL0.out, HB0.out, HBe.out⟩
  case round =>
    obtain ⟨i, hin, rfl, hl, hb, hbel⟩ := hrel
    obtain ⟨Al, cl, rfl⟩ := own_slice hl
    obtain ⟨Ab, cb, rfl⟩ := own_slice hb
    have HL := hide hl
    have HB := hide hb
    have HBel := hide hbel
    have hsz := hbel.size
    clear hl hb
    by_cases hlt : i < N
    · clear hbel
      go_wp2_with (first
        | (at_builtin; refine wpList_append_any _ rfl (.tmp 24) (.tmp 26) 22 rfl w.heap.size 28 i0 _ 9 88 Tryd.underlying22 hi hz0 hz1 hz2 rfl (by decide) (.slice Al i cl) i _ rfl (HL.out.alloc _) (wr.heap.size + 1) (some ⟨wr.heap.size, 0, none⟩) 1 1 (mvC tickM (.slice none 0 0)) rfl (reads_blkN (Blk.new _ _ _) (Nat.lt_succ_self _) rfl rfl) (mvC_one _ _ _ _) (by unfold maxLen; omega) (by omega) (by simp; omega) ?_; intro v1 w3 hown hgrow hat; have HL3 := hide hown; have HB3 := hide (own_other HB.out HL.out (by decide) hgrow); have HBe3 : Hid (Below w.heap.size w w3) := hide (Below.grown (HBel.out.alloc hsz _) hgrow (by simp; omega) (fun q hq => own_low_block HL.out q hq)); clear hown hgrow hat; obtain ⟨A3, c3, rfl⟩ := own_slice HL3.out; have hs3 := HBe3.out.size)
        | (at_builtin; refine Lib.wpList_append_own_string w3 rfl (.tmp 28) (.const (.string ⟨#[116, 105, 99, 107, 10]⟩)) 23 9 rfl w.heap.size 5 j0 Tryd.underlying23 Tryd.underlying9 ki kz0 kz1 kz2 (.slice Ab (5 * i) cb) (5 * i) _ rfl HB3.out ⟨#[116, 105, 99, 107, 10]⟩ rfl (by simp [ByteArray.size]; unfold maxLen; omega) (by simp [ByteArray.size]; omega) hs3 ?_; intro v2 w4 hown hgrow hat; have HB4 := hide hown; have HL4 := hide (HL3.out.kept hgrow (own_ne2 HL3.out HB3.out (by decide))); have HBe4 : Hid (Below w.heap.size w w4) := hide (Below.grown HBe3.out hgrow (by omega) (fun q hq => own_low_block HB3.out q hq)); clear hown hgrow hat; obtain ⟨A4, c4, rfl⟩ := own_slice HB4.out)
        | fail)
      go_roundw
      case rel =>
        refine ⟨i + 1, by omega, by go_num, HL4.out, ?_, HBe4.out⟩
        have h4 := HB4.out
        rw [tick_cells, ← byB_app] at h4
        exact h4
      case measure => simp [intOf]; omega
    · obtain rfl : i = N := by omega
      have hbm := by_lst (n := 5 * i) HB.out
      have HLm : Hid (LstAt 9 mvR wr Al i cl (List.replicate i tickM)) := hide (LstAt.of_own (by decide) HL.out (tick_chunks wr i))
      have HBm := hide hbm
      have HTl := hide (tickT_len i)
      have HTx := hide (tick_texts i)
      have HPr := hide (sprint_any Al i cl (List.replicate i tickM) wr HLm.out (fun m hm => (tick_all i m hm).2) (fun m hm => by rw [List.eq_of_mem_replicate hm]; decide) (HEn.out.below hbel) (HTb.out.below hbel))
      have HLen : Hid ((List.replicate i tickM).length = i) := hide (List.length_replicate)
      have hwN : ((i : Int) ≤ 5004) := by omega
      clear hbel hbm hlt
      by_cases h5 : 5000 < i
      · have e5 : decide ((5000 : Int) < (i : Int)) = true := by simp; omega
        have H5 := hide h5
        clear h5
        go_wp2_with fail
        refine HPr.out.mono ?_
        rintro e w2 ⟨hr, hb2⟩
        cases hr with
        | bad h _ _ _ => exact absurd H5.out (by rw [HLen.out] at h; omega)
        | ok h _ => exact absurd H5.out (by rw [HLen.out] at h; omega)
        | long _ =>
          have HBw2 := hide (HBel.out.trans (hb2.mono hsz))
          have HBy2 := hide (HBm.out.below byMono hb2)
          have hc2 := conv_by HBy2.out
          obtain ⟨T, hT⟩ : ∃ T, tickT i = T := ⟨_, rfl⟩
          rw [hT] at hc2 HTx HTl
          have HRd := hide (sread_any T (by have := HTl.out; omega) w2 (HEn.out.below HBw2.out) (HTb.out.below HBw2.out))
          obtain ⟨S, hS⟩ : ∃ S, str T = S := ⟨_, rfl⟩
          rw [hS] at hc2 HRd
          clear hb2 hS hT
          go_wp2_with fail
          refine HRd.out.mono ?_
          rintro e w3 ⟨hr3, hb3⟩
          rw [← HTx.out] at hr3
          have HB3 := hide (HBw2.out.trans (hb3.mono HBw2.out.size))
          rcases read_moves (tick_all i) hr3 with ⟨h5b, _⟩ | ⟨_, rfl⟩
          · exact absurd H5.out (by rw [HLen.out] at h5b; omega)
          · clear hr3 hb3 hc2
            go_wp2_with fail
            refine (slives_any w3 (HEn.out.below HB3.out) (HTb.out.below HB3.out)).mono ?_
            rintro e w4 ⟨rfl, hb4⟩
            have HB4 := hide (HB3.out.trans (hb4.mono HB3.out.size))
            clear hb4
            go_wp2
            go_ret
            exact ⟨rfl, HB4.out⟩
      · have e5 : decide ((5000 : Int) < (i : Int)) = false := by simp; omega
        have H5 : Hid (i ≤ 5000) := hide (by omega)
        clear h5
        go_wp2_with fail
        refine HPr.out.mono ?_
        rintro e w2 ⟨hr, hb2⟩
        cases hr with
        | bad h hx hg _ =>
          have := (tick_all i _ (List.mem_of_getElem? hx)).1
          rw [hg] at this; cases this
        | long h => exact absurd H5.out (by rw [HLen.out] at h; omega)
        | ok _ _ =>
          rw [HTx.out]
          have HBw2 := hide (HBel.out.trans (hb2.mono hsz))
          have HBy2 := hide (HBm.out.below byMono hb2)
          have hc2 := conv_by HBy2.out
          obtain ⟨T, hT⟩ : ∃ T, tickT i = T := ⟨_, rfl⟩
          rw [hT] at hc2 HTx HTl HBy2 ⊢
          have HRd := hide (sread_any T (by have := HTl.out; omega) w2 (HEn.out.below HBw2.out) (HTb.out.below HBw2.out))
          obtain ⟨S, hS⟩ : ∃ S, str T = S := ⟨_, rfl⟩
          rw [hS] at hc2 HRd ⊢
          have HS := hide hS
          clear hb2 hS hT
          go_wp2_with fail
          refine HRd.out.mono ?_
          rintro e w3 ⟨hr3, hb3⟩
          rw [← HTx.out] at hr3
          have HB3 := hide (HBw2.out.trans (hb3.mono HBw2.out.size))
          have hc3 := conv_by (HBy2.out.below byMono hb3)
          rw [HS.out] at hc3
          rcases read_moves (tick_all i) hr3 with ⟨_, A3, n3, c3, rfl, hn3, _⟩ | ⟨h5b, _⟩
          · rw [HLen.out] at hn3
            subst hn3
            clear hr3 hb3 hc2
            go_wp2_with fail
            refine (slives_any w3 (HEn.out.below HB3.out) (HTb.out.below HB3.out)).mono ?_
            rintro e w4 ⟨rfl, hb4⟩
            have HB4 := hide (HB3.out.trans (hb4.mono HB3.out.size))
            clear hb4
            go_wp2
            go_ret
            exact ⟨rfl, HB4.out⟩
          · exact absurd H5.out (by rw [HLen.out] at h5b; omega)
end Go.Proofs.YtlfknndpbejbcaaDoor
set_option linter.unusedSimpArgs false
set_option linter.unusedVariables false
namespace Go.Proofs.YtlfknndpbejbcaaDoor
open Go.RowKit Go.WideShapes Go.ChangeShapes Go.ChangeAt
theorem gSp : Tryd.prog.globalNamed "strings.asciiSpace" = some 0 := by kernel_rfl
theorem gSpType : (Tryd.prog.globals[0]?).map (·.type) = some 80 := by kernel_rfl
theorem cells256 : Tryd.prog.cellsOf 80 = 256 := by kernel_rfl
theorem cells8 : Tryd.prog.cellsOf 5 = 1 := by kernel_rfl
theorem spData : (Rows.laid_strings_asciiSpace : DataW Unit) = Lib.tabData .u8 Lib.asciiSpaceTab := by kernel_rfl
theorem sp_of_laid {W : World} {laid : List (String × DataW Unit)} (hh : (laid.all fun x => x.2.handleName?.isNone) = true) (hm : ("strings.asciiSpace", Rows.laid_strings_asciiSpace) ∈ laid) (h : laidMetH Tryd.prog laid W) : SpTab W := by
  rw [MakeChecks.laidMetH_plain _ _ _ hh] at h
  rw [spData] at hm
  exact tabIs_of_mem (zs := Lib.asciiSpaceTab) gSp gSpType Tryd.underlying80 Tryd.underlying5 cells8 cells256 h hm
end Go.Proofs.YtlfknndpbejbcaaDoor
