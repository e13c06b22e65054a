import Derived.Test.YtlfknndpbejbcaaGreatDoorHx3
import Derived.WalkKit
import Derived.ProofKit
import Derived.OpenShut
import Derived.Below
import Derived.Laws.OwnMore
import Derived.Laws.Rows
import Derived.Laws.MakeOwn
import Derived.Deep.AppendLies
import Derived.Deep.Draws
import Derived.Deep.OwnRows
import Derived.Deep.QuietTactic
import Derived.Maps.AppendAt
import Derived.RegionTactic
import Derived.OwnWalk
import Derived.ChangeSame
import Derived.Outline
import Derived.BigQuiet
import Derived.WalkMore
import Derived.ScopeJumps
import Derived.WalkLawsBesides
import Derived.WalkSpells
import Derived.Laws.BitsLemmas
import Derived.Laws.BitsAllLaws
import Derived.Deep.Quiet
import Derived.WideKeyArgs
import Derived.Deep.DeepHandedRow
import Derived.Deep.DeepWitnessRowRef
import Derived.Lib.LaidTab
import Derived.Lib.AppendIntMem
import Derived.LaidMore
import Derived.MakeChecks
import Derived.Lib.Itoa
import Derived.Lib.ItoaMem
import Derived.BigRegion
import Derived.Deep.Slices
import Derived.Orders
import Derived.Lib.PathFns
import Derived.Lib.IndexBytes
import Derived.RangeFuncWrites
import Derived.RangeFuncNested
import Derived.RangeFuncBound
import Derived.RangeFuncCalls
import Derived.RangeFuncLeaves
import Derived.RangeFuncBox
import Derived.Shelf.Abstract
import Derived.Shelf.RegionOpen
import Derived.OwnWalkIn
import Derived.TacticsInMore
import Derived.LoopNIn
import Derived.LoopIn
import Derived.Lib.SmallJoins
import Derived.Lib.ParseIntBCases
import Derived.Lib.IndexMore
import Derived.Shelf.Vars
import Derived.Lib.AtoiAllCases
import Derived.SliceStrings
import Derived.Deep.RegionLaw
import Derived.Sort.LotA
import Derived.BigRegionIn
import Derived.Lib.Strings
import Derived.Lib.Bytealg
import Derived.StillTailTactics
import Derived.Deep.RegionHeld3
import Derived.Shelf.Strings.SplitShaped
import Derived.Shelf.Strings.Prefix
import Derived.Shelf.Small.Strs
import Derived.Laws.BytesString
import Derived.Laws.IdiomStrings
set_option linter.unusedSimpArgs false
set_option linter.unusedVariables false
namespace Go.Proofs.YtlfknndpbejbcaaGreatDoor
open Go.RowKit Go.WideShapes Go.ChangeShapes Go.ChangeAt
attribute [local go_sem] Oper.semAt_some
def liveSM : List MV := [⟨3, 167772162, 0, [], [], 0, 0, 0, false⟩, ⟨7, 0, 0, [], [114, 111, 117, 116, 101, 114, 32, 49, 32, 49, 46, 49, 46, 49, 46, 49, 10], 0, 0, 0, false⟩]
def liveST : List UInt8 := [117, 112, 32, 49, 48, 46, 48, 46, 48, 46, 50, 10, 99, 111, 110, 102, 105, 103, 32, 49, 10, 124, 114, 111, 117, 116, 101, 114, 32, 49, 32, 49, 46, 49, 46, 49, 46, 49, 10]
theorem liveST_is : textsM liveSM = liveST := by decide +kernel
theorem liveSM_ok : ∀ m ∈ liveSM, mvGood m = true ∧ MvOk m := by
  intro m hm
  simp only [liveSM, List.mem_cons, List.not_mem_nil, or_false] at hm
  rcases hm with rfl | rfl
  · exact ⟨by decide, ⟨by decide, by decide, by decide, by decide, by decide, by decide⟩⟩
  · exact ⟨by decide, ⟨by decide, by decide, by decide, by decide, by decide, by decide⟩⟩
set_option maxRecDepth 100000 in
set_option maxHeartbeats 2000000 in
theorem slives_any (w : World) (he : Env w) (ht : SpTab w) : Calls Tryz.prog 12 #[] w (GoodP true w) := by
  have HR := hide (sread_any liveST (by decide) w he ht)
  clear he ht
  go_enter Tryz.func12, Tryz.ntmps12
  go_wp2_with fail
  refine HR.out.mono ?_
  rintro e w1 ⟨hr, hb⟩
  rw [← liveST_is] at hr
  rcases read_moves liveSM_ok hr with ⟨_, A, n, c, rfl, hn, hl⟩ | ⟨h5, _⟩
  · obtain rfl : n = 2 := hn.symm
    obtain ⟨g, o, x0, vs0, rfl, hg, hx0, _, ⟨A0, n0, c0, rfl, _⟩, hc0⟩ := hl.at_ (k := 0) (by omega)
    obtain ⟨g', o', x1, vs1, hA, _, hx1, _, ⟨A1, n1, c1, rfl, _⟩, hc1⟩ := hl.at_ (k := 1) (by omega)
    cases hA
    have e0 : x0 = ⟨3, 167772162, 0, [], [], 0, 0, 0, false⟩ := by
      have : (liveSM.map mvOnly)[0]? = some ⟨3, 167772162, 0, [], [], 0, 0, 0, false⟩ := by simp [liveSM, mvOnly]
      rw [this] at hx0; exact (Option.some.inj hx0).symm
    have e1 : x1 = ⟨7, 0, 0, [], [114, 111, 117, 116, 101, 114, 32, 49, 32, 49, 46, 49, 46, 49, 46, 49, 10], 0, 0, 0, false⟩ := by
      have : (liveSM.map mvOnly)[1]? = some ⟨7, 0, 0, [], [114, 111, 117, 116, 101, 114, 32, 49, 32, 49, 46, 49, 46, 49, 46, 49, 10], 0, 0, 0, false⟩ := by simp [liveSM, mvOnly]
      rw [this] at hx1; exact (Option.some.inj hx1).symm
    subst e0 e1
    have k0 : w1.cell? ⟨g, o, none⟩ = some (.int .i64 3) := by have := hc0 0 _ rfl; simpa using this
    have k1 : w1.cell? ⟨g, o + 9 + 4, none⟩ = some (.string ⟨#[114, 111, 117, 116, 101, 114, 32, 49, 32, 49, 46, 49, 46, 49, 46, 49, 10]⟩) := by have := hc1 4 _ rfl; rw [Nat.one_mul] at this; exact this
    have k2 : w1.cell? ⟨g, o + 13, none⟩ = some (.string ⟨#[114, 111, 117, 116, 101, 114, 32, 49, 32, 49, 46, 49, 46, 49, 46, 49, 10]⟩) := k1
    have k3 : ((⟨#[114, 111, 117, 116, 101, 114, 32, 49, 32, 49, 46, 49, 46, 49, 46, 49, 10]⟩ : ByteArray).toList == [114, 111, 117, 116, 101, 114, 32, 49, 32, 49, 46, 49, 46, 49, 46, 49, 10]) = true := by decide +kernel
    have HB := hide hb
    have h2c := hl.2.1
    clear hr hn hl hx0 hx1 hc0 hc1 hb
    go_wp2
    go_ret
    exact ⟨rfl, HB.out⟩
  · exact absurd h5 (by decide)
theorem conv_by {w : World} {A : Option Addr} {n c : Nat} {l : List UInt8} (h : LstAt 1 byR w A n c l) : (convert 28 9 (.slice A n c)).run Tryz.prog w = .ok (.string (str l)) w := by
  by_cases hn : 0 < n
  · obtain ⟨g, o, rfl, hg, hc⟩ := h.2.2.2 hn
    have := run_convert_bytes_back (P := Tryz.prog) w 28 9 5 ⟨g, o, none⟩ c l Tryz.underlying28 Tryz.underlying5 Tryz.underlying9 (fun j hj => by
      obtain ⟨vs, _, rfl, h3⟩ := hc j l[j] (List.getElem?_eq_getElem hj)
      have h4 := h3 0 _ rfl
      have e : (⟨g, o, none⟩ : Addr).add j = ⟨g, o + j, none⟩ := by unfold Addr.add; split <;> simp_all
      rw [e]
      simpa using h4)
    rw [h.1] at this
    exact this
  · obtain rfl : n = 0 := by omega
    obtain rfl : l = [] := List.eq_nil_of_length_eq_zero h.1
    cases A with
    | some a => exact run_convert_bytes_back (P := Tryz.prog) w 28 9 5 a c [] Tryz.underlying28 Tryz.underlying5 Tryz.underlying9 (fun j hj => by cases hj)
    | none =>
      rw [run_convert_bytes_string w 28 9 5 none 0 c Tryz.underlying28 Tryz.underlying5 Tryz.underlying9]
      simp [Conv.bytesToString, loadCells, str, ByteArray.empty, ByteArray.emptyWithCapacity]
      rfl
theorem cut_str (S : ByteArray) (k : Nat) (h : k < S.size) : S.extract 0 k = str (S.data.toList.take k) := by
  have : (S.extract 0 k).data = (str (S.data.toList.take k)).data := by
    rw [ByteArray.data_extract]
    unfold str
    apply Array.ext'
    simp [Array.toList_extract, List.take_eq_take_iff]
  cases hx : S.extract 0 k
  rw [hx] at this
  simp only at this
  rw [this]
theorem sstr_of (S : ByteArray) : S = str S.data.toList := by cases S; simp [str]
set_option maxRecDepth 100000 in
set_option maxHeartbeats 8000000 in
theorem scriptHex_any (A : Option Addr) (n c : Nat) (l : List UInt8) (S : ByteArray) (w : World) (h : LstAt 1 byR w A n c l) (he : Env w) (ht : SpTab w) :
    Calls Tryz.prog 4 #[.slice A n c, .string S] w (GoodP true w) := by
  have HBy := hide (lawBytes_any A n c l 100 (by decide) w h)
  obtain ⟨b0, hb0⟩ : ∃ b0, l.take 100 = b0 := ⟨_, rfl⟩
  have hlen : b0.length ≤ 100 := by rw [← hb0, List.length_take]; omega
  rw [hb0] at HBy
  have HT0 : Hid (b0.take 100 = b0) := hide (List.take_of_length_le hlen)
  have HEn := hide he
  have HTb := hide ht
  have HX1 := hide (unT_hexT b0)
  have hxl := hexT_len b0
  clear h he ht hb0
  go_enter Tryz.func4, Tryz.ntmps4
  go_wp2_with fail
  refine HBy.out.mono ?_
  rintro e w1 ⟨A0, n0, c0, rfl, hn0, ho, hb⟩
  have HN0 := hide hn0
  have HL0 : Hid (∀ W, Below w1.heap.size w1 W → LstAt 1 byR W A0 n0 c0 b0) := hide (fun W hW => (by_lst ho).below byMono hW)
  have HB1 := hide hb
  have hn0b : n0 ≤ 100 := by omega
  clear hn0 ho hb hlen
  obtain ⟨s0, hs0, hS0⟩ : ∃ s0 : List UInt8, s0.length ≤ 100 ∧ (if 100 < S.size then S.extract 0 100 else S) = str s0 := by
    by_cases h : 100 < S.size
    · exact ⟨S.data.toList.take 100, by rw [List.length_take]; omega, by rw [if_pos h, cut_str S 100 h]⟩
    · refine ⟨S.data.toList, ?_, by rw [if_neg h]; exact sstr_of S⟩
      have : S.data.toList.length = S.size := by rw [Array.length_toList]; rfl
      omega
  by_cases hS : 100 < S.size
  · have eS : decide ((100 : Int) < (S.size : Int)) = true := by simp; omega
    have hq1 : (100 : Int) ≤ (S.size : Int) := by omega
    have HS : Hid (S.extract 0 100 = str s0) := hide (by rw [if_pos hS] at hS0; exact hS0)
    clear hS0 hS
    go_wp2_with fail
    refine (rhex_any A0 n0 c0 b0 w1 (HL0.out w1 (Below.refl _ _)) (by omega)).mono ?_
    rintro e w2 ⟨rfl, hb⟩
    have HC2 := hide hb
    clear hb
    have HSx := HS.out
    have HU1 := hide (sUnhex_any (hexT b0) (by have := HN0.out; omega) w2)
    rw [HX1.out] at HU1
    simp only [decide_true, if_true] at HU1
    go_wp2_with fail
    refine HU1.out.mono ?_
    rintro e w3 ⟨A1, n1, c1, rfl, hx, hb⟩
    have HXl := hide hx
    have HC3 := hide (HC2.out.trans (hb.mono HC2.out.size))
    clear hx hb
    have HU2 := hide (sUnhex_any s0 (by omega) w3)
    obtain ⟨z, hz⟩ : ∃ z, decide (hexT (unT s0) = s0) = z := ⟨_, rfl⟩
    have HZ := hide hz
    rw [hz] at HU2
    clear hz
    try simp only [decide_true]
    clear HSx
    go_wp2_with fail
    try rw [HS.out]
    obtain ⟨T, hT⟩ : ∃ T, str s0 = T := ⟨_, rfl⟩
    rw [hT] at HU2 ⊢
    have HT := hide hT
    clear hT
    refine HU2.out.mono ?_
    rintro e w4 ⟨A2, n2, c2, rfl, hy, hb⟩
    have HYl := hide hy
    have HX4 := hide (HXl.out.below byMono hb)
    have HC4 := hide (HC3.out.trans (hb.mono HC3.out.size))
    clear hy hb
    have HBy2 := hide (lawBytes_any A0 n0 c0 b0 100 (by decide) w4 (HL0.out w4 HC4.out))
    rw [HT0.out] at HBy2
    go_wp2_with fail
    refine HBy2.out.mono ?_
    rintro e w5 ⟨A5, n5, c5, rfl, hn5, ho5, hb⟩
    subst hn5
    have HL5 := hide (by_lst ho5)
    have hn5 : b0.length ≤ 100 := by have := HN0.out; omega
    have HX5 := hide (HX4.out.below byMono hb)
    have HY5 := hide (HYl.out.below byMono hb)
    have HC5 := hide (HC4.out.trans (hb.mono HC4.out.size))
    clear ho5 hb
    go_wp2_with fail
    refine (sHex_any A5 _ c5 b0 w5 HL5.out (by omega)).mono ?_
    rintro e w6 ⟨rfl, hb⟩
    have HX6 := hide (HX5.out.below byMono hb)
    have HY6 := hide (HY5.out.below byMono hb)
    have HC6 := hide (HC5.out.trans (hb.mono HC5.out.size))
    clear hb
    go_wp2_with fail
    refine (rhex_any A0 n0 c0 b0 w6 (HL0.out w6 HC6.out) (by omega)).mono ?_
    rintro e w7 ⟨rfl, hb⟩
    have hx7 := conv_by (HX6.out.below byMono hb)
    have hc7 := HC6.out.trans (hb.mono HC6.out.size)
    have hb7 := conv_by (HL0.out w7 hc7)
    have HY7 := hide (HY6.out.below byMono hb)
    have HC7 := hide hc7
    clear hb hc7
    have HB7 := hide (HB1.out.trans (HC7.out.mono HB1.out.size))
    obtain ⟨hb, hhb⟩ : ∃ hb, str b0 = hb := ⟨_, rfl⟩
    rw [hhb] at hx7 hb7
    clear hhb
    obtain ⟨H, hH⟩ : ∃ H, str (hexT b0) = H := ⟨_, rfl⟩
    rw [hH]
    have HH := hide hH
    clear hH
    cases z
    · have HF : Hid (hexT (unT s0) ≠ s0) := hide (of_decide_eq_false HZ.out)
      have hyl := HY7.out
      rw [if_neg HF.out] at hyl
      obtain rfl : n2 = 0 := hyl.1.symm
      clear hyl
      have hne : (T.toList == H.toList) = false := by
        rw [← HT.out, ← HH.out, str_beq]
        refine beq_false_of_ne (fun e => HF.out ?_)
        rw [e, HX1.out]
      have hne2 : (T.toList != H.toList) = true := by rw [bne, hne]; rfl
      go_wp2_with fail
      skip
      refine (rhex_any A0 n0 c0 b0 w7 (HL0.out w7 HC7.out) (by omega)).mono ?_
      rintro e w8 ⟨rfl, hb8⟩
      have HB8 := hide (HB7.out.trans (hb8.mono HB7.out.size))
      clear hb8
      rw [HH.out]
      go_wp2_with fail
      refine (slives_any w8 (HEn.out.below HB8.out) (HTb.out.below HB8.out)).mono ?_
      rintro e w9 ⟨rfl, hb9⟩
      have HB9 := hide (HB8.out.trans (hb9.mono HB8.out.size))
      clear hb9
      go_wp2
      go_ret
      exact ⟨rfl, HB9.out⟩
    · have HF : Hid (hexT (unT s0) = s0) := hide (of_decide_eq_true HZ.out)
      have HYy : Hid (LstAt 1 byR w7 A2 n2 c2 (unT s0)) := hide (by have := HY7.out; rwa [if_pos HF.out] at this)
      have hn2 : n2 ≤ 1000000 := by
        have h1 := HYy.out.1
        have h2 : (unT s0).length ≤ s0.length := by
          unfold unT
          split
          · simp
          · exact unD_len s0
        omega
      go_wp2_with fail
      refine (rhex_any A2 n2 c2 _ w7 HYy.out hn2).mono ?_
      rintro e w8 ⟨rfl, hb8⟩
      have HB8 := hide (HB7.out.trans (hb8.mono HB7.out.size))
      clear hb8
      rw [HF.out, HT.out]
      go_wp2_with fail
      refine (slives_any w8 (HEn.out.below HB8.out) (HTb.out.below HB8.out)).mono ?_
      rintro e w9 ⟨rfl, hb9⟩
      have HB9 := hide (HB8.out.trans (hb9.mono HB8.out.size))
      clear hb9
      go_wp2
      go_ret
      exact ⟨rfl, HB9.out⟩
  · have eS : decide ((100 : Int) < (S.size : Int)) = false := by simp; omega
    have HS : S = str s0 := by rw [if_neg hS] at hS0; exact hS0
    subst HS
    clear hS0 hS eS
    have eS : decide ((100 : Int) < ((str s0).size : Int)) = false := by simp [str_size]; omega
    go_wp2_with fail
    refine (rhex_any A0 n0 c0 b0 w1 (HL0.out w1 (Below.refl _ _)) (by omega)).mono ?_
    rintro e w2 ⟨rfl, hb⟩
    have HC2 := hide hb
    clear hb
    have HU1 := hide (sUnhex_any (hexT b0) (by have := HN0.out; omega) w2)
    rw [HX1.out] at HU1
    simp only [decide_true, if_true] at HU1
    go_wp2_with fail
    refine HU1.out.mono ?_
    rintro e w3 ⟨A1, n1, c1, rfl, hx, hb⟩
    have HXl := hide hx
    have HC3 := hide (HC2.out.trans (hb.mono HC2.out.size))
    clear hx hb
    have HU2 := hide (sUnhex_any s0 (by omega) w3)
    obtain ⟨z, hz⟩ : ∃ z, decide (hexT (unT s0) = s0) = z := ⟨_, rfl⟩
    have HZ := hide hz
    rw [hz] at HU2
    clear hz
    try simp only [decide_true]
    go_wp2_with fail
    obtain ⟨T, hT⟩ : ∃ T, str s0 = T := ⟨_, rfl⟩
    rw [hT] at HU2 ⊢
    have HT := hide hT
    clear hT
    refine HU2.out.mono ?_
    rintro e w4 ⟨A2, n2, c2, rfl, hy, hb⟩
    have HYl := hide hy
    have HX4 := hide (HXl.out.below byMono hb)
    have HC4 := hide (HC3.out.trans (hb.mono HC3.out.size))
    clear hy hb
    have HBy2 := hide (lawBytes_any A0 n0 c0 b0 100 (by decide) w4 (HL0.out w4 HC4.out))
    rw [HT0.out] at HBy2
    go_wp2_with fail
    refine HBy2.out.mono ?_
    rintro e w5 ⟨A5, n5, c5, rfl, hn5, ho5, hb⟩
    subst hn5
    have HL5 := hide (by_lst ho5)
    have hn5 : b0.length ≤ 100 := by have := HN0.out; omega
    have HX5 := hide (HX4.out.below byMono hb)
    have HY5 := hide (HYl.out.below byMono hb)
    have HC5 := hide (HC4.out.trans (hb.mono HC4.out.size))
    clear ho5 hb
    go_wp2_with fail
    refine (sHex_any A5 _ c5 b0 w5 HL5.out (by omega)).mono ?_
    rintro e w6 ⟨rfl, hb⟩
    have HX6 := hide (HX5.out.below byMono hb)
    have HY6 := hide (HY5.out.below byMono hb)
    have HC6 := hide (HC5.out.trans (hb.mono HC5.out.size))
    clear hb
    go_wp2_with fail
    refine (rhex_any A0 n0 c0 b0 w6 (HL0.out w6 HC6.out) (by omega)).mono ?_
    rintro e w7 ⟨rfl, hb⟩
    have hx7 := conv_by (HX6.out.below byMono hb)
    have hc7 := HC6.out.trans (hb.mono HC6.out.size)
    have hb7 := conv_by (HL0.out w7 hc7)
    have HY7 := hide (HY6.out.below byMono hb)
    have HC7 := hide hc7
    clear hb hc7
    have HB7 := hide (HB1.out.trans (HC7.out.mono HB1.out.size))
    obtain ⟨hb, hhb⟩ : ∃ hb, str b0 = hb := ⟨_, rfl⟩
    rw [hhb] at hx7 hb7
    clear hhb
    obtain ⟨H, hH⟩ : ∃ H, str (hexT b0) = H := ⟨_, rfl⟩
    rw [hH]
    have HH := hide hH
    clear hH
    cases z
    · have HF : Hid (hexT (unT s0) ≠ s0) := hide (of_decide_eq_false HZ.out)
      have hyl := HY7.out
      rw [if_neg HF.out] at hyl
      obtain rfl : n2 = 0 := hyl.1.symm
      clear hyl
      have hne : (T.toList == H.toList) = false := by
        rw [← HT.out, ← HH.out, str_beq]
        refine beq_false_of_ne (fun e => HF.out ?_)
        rw [e, HX1.out]
      have hne2 : (T.toList != H.toList) = true := by rw [bne, hne]; rfl
      go_wp2_with fail
      skip
      refine (rhex_any A0 n0 c0 b0 w7 (HL0.out w7 HC7.out) (by omega)).mono ?_
      rintro e w8 ⟨rfl, hb8⟩
      have HB8 := hide (HB7.out.trans (hb8.mono HB7.out.size))
      clear hb8
      rw [HH.out]
      go_wp2_with fail
      refine (slives_any w8 (HEn.out.below HB8.out) (HTb.out.below HB8.out)).mono ?_
      rintro e w9 ⟨rfl, hb9⟩
      have HB9 := hide (HB8.out.trans (hb9.mono HB8.out.size))
      clear hb9
      go_wp2
      go_ret
      exact ⟨rfl, HB9.out⟩
    · have HF : Hid (hexT (unT s0) = s0) := hide (of_decide_eq_true HZ.out)
      have HYy : Hid (LstAt 1 byR w7 A2 n2 c2 (unT s0)) := hide (by have := HY7.out; rwa [if_pos HF.out] at this)
      have hn2 : n2 ≤ 1000000 := by
        have h1 := HYy.out.1
        have h2 : (unT s0).length ≤ s0.length := by
          unfold unT
          split
          · simp
          · exact unD_len s0
        omega
      go_wp2_with fail
      refine (rhex_any A2 n2 c2 _ w7 HYy.out hn2).mono ?_
      rintro e w8 ⟨rfl, hb8⟩
      have HB8 := hide (HB7.out.trans (hb8.mono HB7.out.size))
      clear hb8
      rw [HF.out, HT.out]
      go_wp2_with fail
      refine (slives_any w8 (HEn.out.below HB8.out) (HTb.out.below HB8.out)).mono ?_
      rintro e w9 ⟨rfl, hb9⟩
      have HB9 := hide (HB8.out.trans (hb9.mono HB8.out.size))
      clear hb9
      go_wp2
      go_ret
      exact ⟨rfl, HB9.out⟩
end Go.Proofs.YtlfknndpbejbcaaGreatDoor
set_option linter.unusedSimpArgs false
set_option linter.unusedVariables false
namespace Go.Proofs.YtlfknndpbejbcaaGreatDoor
open Go.RowKit Go.WideShapes Go.ChangeShapes Go.ChangeAt
theorem gSp : Tryz.prog.globalNamed "strings.asciiSpace" = some 0 := by kernel_rfl
theorem gSpType : (Tryz.prog.globals[0]?).map (·.type) = some 99 := by kernel_rfl
theorem cells256 : Tryz.prog.cellsOf 99 = 256 := by kernel_rfl
theorem cells8 : Tryz.prog.cellsOf 5 = 1 := by kernel_rfl
theorem spData : (Rows.laid_strings_asciiSpace : DataW Unit) = Lib.tabData .u8 Lib.asciiSpaceTab := by kernel_rfl
theorem sp_of_laid {W : World} {laid : List (String × DataW Unit)} (hh : (laid.all fun x => x.2.handleName?.isNone) = true) (hm : ("strings.asciiSpace", Rows.laid_strings_asciiSpace) ∈ laid) (h : laidMetH Tryz.prog laid W) : SpTab W := by
  rw [MakeChecks.laidMetH_plain _ _ _ hh] at h
  rw [spData] at hm
  exact tabIs_of_mem (zs := Lib.asciiSpaceTab) gSp gSpType Tryz.underlying99 Tryz.underlying5 cells8 cells256 h hm
theorem bytes_open {H : Type} {enc : TypeId × Value → H} {W : World} {A : Option Addr} {n c : Nat} {d : DataW H} {p : List MemPlace}
    (h : DataW.Trod enc Tryz.prog W 0 (fun _ => true) true 28 (.slice A n c) d p) : ∃ l, LstAt 1 byR W A n c l := by
  obtain ⟨fuel, hf⟩ := h
  obtain ⟨A', n', c', l, e, hl⟩ := lst_open (R := byR) (sz := 1) Tryz.underlying28 cells8 (by decide) (fun f cs x hx => by
    obtain ⟨z, e, _, w⟩ := DataW.trod_int Tryz.underlying5 hx
    have c0 : 0 ≤ z ∧ z ≤ 255 := by simpa [Lit.wf, IntKind.min, IntKind.max, IntKind.signed, IntKind.bits] using w
    refine ⟨UInt8.ofNat z.toNat, ?_⟩
    unfold byR
    rw [e, UInt8.toNat_ofNat']
    congr 2
    omega) hf
  have e2 : Value.slice A n c = .slice A' n' c' := by simpa [Value.cells] using e
  injection e2 with e1 e2 e3
  subst e1 e2 e3
  exact ⟨l, hl⟩
end Go.Proofs.YtlfknndpbejbcaaGreatDoor
