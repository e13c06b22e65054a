import Derived.Test.YtlfknndpbejbcaaGreatDoorSw3
import Derived.WalkKit
import Derived.ProofKit
import Derived.OpenShut
import Derived.Below
import Derived.Laws.OwnMore
import Derived.Laws.Rows
import Derived.Laws.MakeOwn
import Derived.Deep.AppendLies
import Derived.Deep.Draws
import Derived.Deep.OwnRows
import Derived.Deep.QuietTactic
import Derived.Maps.AppendAt
import Derived.RegionTactic
import Derived.OwnWalk
import Derived.ChangeSame
import Derived.Outline
import Derived.BigQuiet
import Derived.WalkMore
import Derived.ScopeJumps
import Derived.WalkLawsBesides
import Derived.WalkSpells
import Derived.Laws.BitsLemmas
import Derived.Laws.BitsAllLaws
import Derived.Deep.Quiet
import Derived.WideKeyArgs
import Derived.Deep.DeepHandedRow
import Derived.Deep.DeepWitnessRowRef
import Derived.Lib.LaidTab
import Derived.Lib.AppendIntMem
import Derived.LaidMore
import Derived.MakeChecks
import Derived.Lib.Itoa
import Derived.Lib.ItoaMem
import Derived.BigRegion
import Derived.Deep.Slices
import Derived.Orders
import Derived.Lib.PathFns
import Derived.Lib.IndexBytes
import Derived.RangeFuncWrites
import Derived.RangeFuncNested
import Derived.RangeFuncBound
import Derived.RangeFuncCalls
import Derived.RangeFuncLeaves
import Derived.RangeFuncBox
import Derived.Shelf.Abstract
import Derived.Shelf.RegionOpen
import Derived.OwnWalkIn
import Derived.TacticsInMore
import Derived.LoopNIn
import Derived.LoopIn
import Derived.Lib.SmallJoins
import Derived.Lib.ParseIntBCases
import Derived.Lib.IndexMore
import Derived.Shelf.Vars
import Derived.Lib.AtoiAllCases
import Derived.SliceStrings
import Derived.Deep.RegionLaw
import Derived.Sort.LotA
import Derived.BigRegionIn
import Derived.Lib.Strings
import Derived.Lib.Bytealg
import Derived.StillTailTactics
import Derived.Deep.RegionHeld3
import Derived.Shelf.Strings.SplitShaped
import Derived.Shelf.Strings.Prefix
import Derived.Shelf.Small.Strs
import Derived.Shelf.Strings.BuilderK
import Derived.Laws.BytesString
import Derived.Laws.IdiomStrings
set_option linter.unusedSimpArgs false
set_option linter.unusedVariables false
namespace Go.Proofs.YtlfknndpbejbcaaGreatDoor
open Go.RowKit Go.WideShapes Go.ChangeShapes
attribute [local go_sem] Oper.semAt_some
theorem pieces_c10 (l : List UInt8) : pieces 10 (10 :: l) = [] :: pieces 10 l := by
  conv => lhs; unfold pieces
  rw [if_pos rfl]
theorem pieces_cne {x : UInt8} (h : x ≠ 10) (l : List UInt8) : pieces 10 (x :: l) = (x :: (pieces 10 l).headD []) :: (pieces 10 l).tail := by
  conv => lhs; unfold pieces
  rw [if_neg h]
theorem pieces_snoc {c : UInt8} (hc : c ≠ 10) : ∀ (r : List UInt8), ∃ q z, pieces 10 r = q ++ [z] ∧ pieces 10 (r ++ [c]) = q ++ [z ++ [c]]
  | [] => ⟨[], [], rfl, by rw [List.nil_append, pieces_cne hc]; rfl⟩
  | x :: l => by
    obtain ⟨q, z, h1, h2⟩ := pieces_snoc hc l
    rw [List.cons_append]
    by_cases hx : x = 10
    · subst hx
      exact ⟨[] :: q, z, by rw [pieces_c10, h1]; rfl, by rw [pieces_c10, h2]; rfl⟩
    · cases q with
      | nil => exact ⟨[], x :: z, by rw [pieces_cne hx, h1]; rfl, by rw [pieces_cne hx, h2]; rfl⟩
      | cons a q => exact ⟨(x :: a) :: q, z, by rw [pieces_cne hx, h1]; rfl, by rw [pieces_cne hx, h2]; rfl⟩
theorem lines_snoc10 (r : List UInt8) : linesM (r ++ [10]) = linesM r ++ [restM r] := by
  rw [linesM_end]
  unfold linesM restM
  exact (List.dropLast_concat_getLast (pieces_ne 10 r)).symm
theorem lines_snoc {c : UInt8} (hc : c ≠ 10) (r : List UInt8) : linesM (r ++ [c]) = linesM r := by
  obtain ⟨q, z, h1, h2⟩ := pieces_snoc hc r
  unfold linesM
  rw [h1, h2, List.dropLast_concat, List.dropLast_concat]
def fromM (r : List UInt8) : Nat := (feedT (linesM r)).length
theorem rest_drop (r : List UInt8) : restM r = r.drop (fromM r) := by
  have h := feed_all r
  have e : feedT ((pieces 10 r).dropLast) = feedT (linesM r) := rfl
  have e2 : (pieces 10 r).getLast (pieces_ne 10 r) = restM r := rfl
  rw [e, e2] at h
  have h2 := congrArg (List.drop (fromM r)) h
  rw [show fromM r = (feedT (linesM r)).length from rfl, List.drop_left] at h2
  exact h2
theorem from_le (r : List UInt8) : fromM r ≤ r.length := linesM_feed r
theorem from_snoc10 (r : List UInt8) : fromM (r ++ [10]) = r.length + 1 := by
  have h := congrArg List.length (feed_all r)
  have e : feedT ((pieces 10 r).dropLast) = feedT (linesM r) := rfl
  have e2 : (pieces 10 r).getLast (pieces_ne 10 r) = restM r := rfl
  rw [e, e2, List.length_append] at h
  unfold fromM
  rw [lines_snoc10, feedT_snoc, List.length_append, List.length_append]
  simp; omega
theorem cut_mid (t : List UInt8) (a b : Nat) (hb : b ≤ t.length) : (str t).extract a b = str ((t.take b).drop a) := by
  have : ((str t).extract a b).data = (str ((t.take b).drop a)).data := by
    rw [ByteArray.data_extract]
    unfold str
    apply Array.ext'
    simp only [Array.toList_extract, List.extract]
    rw [List.drop_take]
  cases hx : (str t).extract a b
  rw [hx] at this
  simp only at this
  rw [this]
set_option maxRecDepth 100000 in
set_option maxHeartbeats 4000000 in
theorem rlines_any (t : List UInt8) (hl : t.length ≤ 1000000) (w : World) :
    Calls Tryz.prog 13 #[.string (str t)] w fun e w' => ∃ A n c, e = .returned (.slice A n c) ∧ (linesM t).length = n ∧ w'.ownsRow w.heap.size 9 1 (.slice A n c) n (strv (linesM t)) ∧ Below w.heap.size w w' := by
  obtain ⟨i0, hi, hz0, hz1, hz2⟩ := info_parts infoStr
  have hsz : (str t).size = t.length := str_size t
  obtain ⟨T, hT⟩ : ∃ T, str t = T := ⟨_, rfl⟩
  rw [hT] at hsz ⊢
  have HT := hide hT
  have HN := hide hsz
  have hsb : T.size ≤ 1000000 := by omega
  have HM0 : Hid ((w.alloc (.cells #[] 9)).ownsRow w.heap.size 9 1 (.slice (some ⟨w.heap.size, 0, none⟩) 0 0) 0 []) := hide (World.ownsRow_made w #[] 0 (Nat.le_refl _) (by simp [maxLen]) (by simp))
  have HBe := hide ((Below.refl w.heap.size w).alloc (Nat.le_refl _) (.cells #[] 9))
  clear hT hsz
  go_enter Tryz.func13, Tryz.ntmps13
  go_wp2
  go_loopw [3, 4, 5] (fun lv fv iv wr => ∃ (i q f : Nat), i ≤ T.size ∧ iv = .int .i64 (i : Nat) ∧ fv = .int .i64 (f : Nat) ∧ f = fromM (t.take i) ∧ q = (linesM (t.take i)).length ∧ wr.ownsRow w.heap.size 9 1 lv q (strv (linesM (t.take i))) ∧ Below w.heap.size w wr) (fun _ _ iv _ => T.size - (intOf iv).toNat)
  case atStart => exact ⟨0, 0, 0, Nat.zero_le _, rfl, rfl, rfl, rfl, HM0.out, HBe.out⟩
  case round =>
    obtain ⟨i, q, f, hi2, rfl, rfl, hf, hq, hown, hbel⟩ := hrel
    obtain ⟨Al, cl, rfl⟩ := own_slice hown
    have HO := hide hown
    have HB := hide hbel
    have HF := hide hf
    have HQ := hide hq
    have hsw := hbel.size
    have hfi : f ≤ i := by
      rw [hf]
      have h1 := from_le (t.take i)
      rw [List.length_take] at h1
      omega
    have hqi : q ≤ i := by
      rw [hq]
      have h1 := linesM_len (t.take i)
      rw [List.length_take] at h1
      omega
    clear hown hbel hf hq
    have q0 : (0 : Int) ≤ (i : Int) := by omega
    have q2 : (0 : Int) ≤ (f : Int) := by omega
    have q3 : (f : Int) ≤ (i : Int) := by omega
    by_cases hlt : i < T.size
    · have q1 : (i : Int) < (T.size : Int) := by omega
      have q4 : (i : Int) ≤ (T.size : Int) := by omega
      obtain ⟨a, ha⟩ : ∃ a, t[i]? = some a := ⟨_, List.getElem?_eq_getElem (by have := HN.out; omega)⟩
      have hSa : ∀ h : i < T.size, T[i]'h = a := fun h => by
        have := str_at HT.out i h
        rw [ha] at this
        injection this with this
        exact this.symm
      have HTk : Hid (t.take (i + 1) = t.take i ++ [a]) := hide (by rw [List.take_add_one, ha]; rfl)
      by_cases h10 : a = 10
      · subst h10
        have HEx : Hid (T.extract f i = str (restM (t.take i))) := hide (by
          rw [← HT.out, cut_mid t f i (by have := HN.out; omega), rest_drop, ← HF.out])
        clear ha
        go_wp2_with (at_builtin; refine wpList_append_any _ rfl (.tmp 17) (.tmp 22) 37 rfl w.heap.size 9 i0 _ 1 16 Tryz.underlying37 hi hz0 hz1 hz2 rfl (by decide) (.slice Al q cl) q _ rfl (HO.out.alloc _) (wr.heap.size + 1) (some ⟨wr.heap.size, 0, none⟩) 1 1 [_] rfl (reads_blkN (Blk.new _ _ _) (Nat.lt_succ_self _) rfl rfl) (by simp [Value.oneCell']) (by unfold maxLen; omega) (by omega) (by simp; omega) ?_; intro v1 w3 hown hgrow hat; have HO3 := hide hown; have HB3 : Hid (Below w.heap.size w w3) := hide (Below.grown (HB.out.alloc hsw _) hgrow (by simp; omega) (fun k hk => own_low_block HO.out k hk)); clear hown hgrow hat)
        go_roundw
        case rel =>
          refine ⟨i + 1, q + 1, i + 1, by omega, by go_num, by go_num, ?_, ?_, ?_, HB3.out⟩
          · rw [HTk.out, from_snoc10, List.length_take]; have := HN.out; omega
          · rw [HTk.out, lines_snoc10, List.length_append, ← HQ.out]; rfl
          · have h3 := HO3.out
            rw [HEx.out] at h3
            rw [HTk.out, lines_snoc10, strv_snoc]
            exact h3
        case measure => simp [intOf]; omega
      · have e10 : ((a.toNat : Int) == 10) = false := by
          rw [beq_eq_false_iff_ne]
          intro h
          have h2 : a.toNat = 10 := by omega
          exact h10 (UInt8.toNat_inj.1 h2)
        have HL := hide (lines_snoc h10 (t.take i))
        clear ha h10
        go_wp2
        go_roundw
        case rel =>
          refine ⟨i + 1, q, f, by omega, by go_num, rfl, ?_, ?_, ?_, HB.out⟩
          · rw [HTk.out]; unfold fromM; rw [HL.out]; exact HF.out
          · rw [HTk.out, HL.out]; exact HQ.out
          · rw [HTk.out, HL.out]; exact HO.out
        case measure => simp [intOf]; omega
    · obtain rfl : i = T.size := by omega
      have HTk : Hid (t.take T.size = t) := hide (List.take_of_length_le (by rw [HN.out]; exact Nat.le_refl _))
      go_wp2
      go_ret
      exact ⟨Al, q, cl, rfl, by rw [HQ.out, HTk.out], by have := HO.out; rwa [HTk.out] at this, HB.out⟩
theorem rint_any (n : Nat) (h : n < 4294967296) (w : World) : Calls Tryz.prog 36 #[.int .i64 (n : Int)] w fun e w' => e = .returned (.string (str (Lib.decDigits n))) ∧ w = w' := by
  have HX := hide (num_any n (by omega) w)
  have hwr : IntKind.u64.wrap (n : Int) = (n : Int) := by rw [IntKind.wrap_u64]; omega
  have e1 : decide ((n : Int) < 0) = false := by simp
  go_enter Tryz.func36, Tryz.ntmps36
  go_wp2_with fail
  refine HX.out.mono ?_
  rintro e w1 ⟨rfl, rfl⟩
  go_wp2
  go_ret
  exact ⟨rfl, rfl⟩
end Go.Proofs.YtlfknndpbejbcaaGreatDoor
set_option linter.unusedSimpArgs false
set_option linter.unusedVariables false
namespace Go.Proofs.YtlfknndpbejbcaaGreatDoor
open Go.RowKit Go.WideShapes Go.ChangeShapes
attribute [local go_sem] Oper.semAt_some
set_option maxRecDepth 100000 in
set_option maxHeartbeats 16000000 in
theorem rshow_any (m : MV) (A : Option Addr) (n c : Nat) (w : World) (h : LstAt 1 byR w A n c m.b) (ok : MvOk m) (hg : mvGood m = true) :
    Calls Tryz.prog 24 #[mvV m (.slice A n c)] w (ShownP m w) := by
  obtain ⟨i0, hi, hz0, hz1, hz2⟩ := info_parts infoStr
  have hk := mvGood_k hg
  obtain ⟨k, p, nn, b, t, oa, oh, oi, fo⟩ := m
  obtain ⟨o1, o2, o3, o4, o5, o6⟩ := ok
  simp only at hk h o1 o2 o3 o4 o5 o6
  unfold mvV
  simp only
  obtain ⟨va, hva⟩ : ∃ va, Value.slice A n c = va := ⟨_, rfl⟩
  rw [hva]
  have HVa := hide hva
  have HLs := hide h
  have HG := hide hg
  clear h hg hva
  have hcase : k = 1 ∨ k = 2 ∨ k = 3 ∨ k = 4 ∨ k = 5 ∨ k = 6 ∨ k = 7 ∨ k = 8 ∨ k = 9 ∨ k = 10 := by omega
  have sz1 : (str (addrL p)).size ≤ 15 := by rw [str_size]; exact addrL_len p
  have sz2 : (str (addrL oi)).size ≤ 15 := by rw [str_size]; exact addrL_len oi
  have sz3 : (str (Lib.decDigits oa)).size ≤ 10 := by rw [str_size]; exact dec_len _ 9 (by omega)
  clear hk o4 o5 o6
  rcases hcase with rfl | rfl | rfl | rfl | rfl | rfl | rfl | rfl | rfl | rfl
  · have HK0 : Hid (Blk (((w.alloc (.cells #[.int .i64 1, .int .u32 (p : Int), .int .i64 nn, va, .string (str t), .int .u32 (oa : Int), .int .i64 oh, .int .u32 (oi : Int), .bool fo] 32)).alloc (.cells #[.string ⟨#[]⟩, .string ⟨#[115, 116, 97, 114, 116]⟩, .string ⟨#[115, 116, 111, 112]⟩, .string ⟨#[117, 112]⟩, .string ⟨#[100, 111, 119, 110]⟩, .string ⟨#[98, 121, 116, 101, 115]⟩, .string ⟨#[116, 105, 99, 107]⟩, .string ⟨#[99, 111, 110, 102, 105, 103]⟩, .string ⟨#[116, 97, 107, 101]⟩, .string ⟨#[114, 105, 118, 97, 108]⟩, .string ⟨#[114, 101, 115, 101, 116]⟩] 9)).alloc (.cells #[] 9)) w.heap.size 32 #[.int .i64 1, .int .u32 (p : Int), .int .i64 nn, va, .string (str t), .int .u32 (oa : Int), .int .i64 oh, .int .u32 (oi : Int), .bool fo]) := hide (((Blk.new w _ _).alloc _).alloc _)
    have HB0 : Hid (Below w.heap.size w (((w.alloc (.cells #[.int .i64 1, .int .u32 (p : Int), .int .i64 nn, va, .string (str t), .int .u32 (oa : Int), .int .i64 oh, .int .u32 (oi : Int), .bool fo] 32)).alloc (.cells #[.string ⟨#[]⟩, .string ⟨#[115, 116, 97, 114, 116]⟩, .string ⟨#[115, 116, 111, 112]⟩, .string ⟨#[117, 112]⟩, .string ⟨#[100, 111, 119, 110]⟩, .string ⟨#[98, 121, 116, 101, 115]⟩, .string ⟨#[116, 105, 99, 107]⟩, .string ⟨#[99, 111, 110, 102, 105, 103]⟩, .string ⟨#[116, 97, 107, 101]⟩, .string ⟨#[114, 105, 118, 97, 108]⟩, .string ⟨#[114, 101, 115, 101, 116]⟩] 9)).alloc (.cells #[] 9))) := hide ((((Below.refl _ w).alloc (Nat.le_refl _) _).alloc (by simp) _).alloc (by simp; omega) _)
    go_enter Tryz.func24, Tryz.ntmps24
    go_wp2_with fail
    refine (refAddr_any p (by omega) _).mono ?_
    rintro e w2 ⟨rfl, hw⟩
    have HK2 : Hid (Blk w2 w.heap.size 32 #[.int .i64 1, .int .u32 (p : Int), .int .i64 nn, va, .string (str t), .int .u32 (oa : Int), .int .i64 oh, .int .u32 (oi : Int), .bool fo]) := hide (by rw [← hw]; exact HK0.out)
    have HB2 : Hid (Below w.heap.size w w2) := hide (by rw [← hw]; exact HB0.out)
    have hl2 := HK2.out.lt
    clear hw
    have c0 : w2.cell? ⟨w.heap.size, 0, none⟩ = some (.int .i64 1) := HK2.out.cell 0
    have c1 : w2.cell? ⟨w.heap.size, 1, none⟩ = some (.int .u32 (p : Int)) := HK2.out.cell 1
    have c2 : w2.cell? ⟨w.heap.size, 2, none⟩ = some (.int .i64 nn) := HK2.out.cell 2
    have c3 : w2.cell? ⟨w.heap.size, 3, none⟩ = some (va) := HK2.out.cell 3
    have c4 : w2.cell? ⟨w.heap.size, 4, none⟩ = some (.string (str t)) := HK2.out.cell 4
    have c5 : w2.cell? ⟨w.heap.size, 5, none⟩ = some (.int .u32 (oa : Int)) := HK2.out.cell 5
    have c6 : w2.cell? ⟨w.heap.size, 6, none⟩ = some (.int .i64 oh) := HK2.out.cell 6
    have c7 : w2.cell? ⟨w.heap.size, 7, none⟩ = some (.int .u32 (oi : Int)) := HK2.out.cell 7
    have c8 : w2.cell? ⟨w.heap.size, 8, none⟩ = some (.bool fo) := HK2.out.cell 8
    have HJ : Hid ((⟨#[115, 116, 97, 114, 116]⟩ : ByteArray) ++ (⟨#[32]⟩ : ByteArray) ++ str (addrL p) = str (jw [wordM 1, addrL p])) := hide (by
      show str (wordM 1) ++ str [32] ++ str (addrL p) = _
      rw [cat_str, cat_str, jw_cons2, jw_one]; simp)
    go_wp2
    rw [HJ.out]
    go_loopw [6, 7] (fun lv iv wr => ∃ j : Nat, j ≤ 0 ∧ iv = .int .i64 (j : Nat) ∧ wr.ownsRow w2.heap.size 9 1 lv (1 + j) (strv ([jw [wordM 1, addrL p]] ++ (([] : List (List UInt8)).take j).map (124 :: ·))) ∧ Below w2.heap.size w2 wr) (fun _ iv _ => 0 - (intOf iv).toNat)
    case atStart => exact ⟨0, Nat.zero_le _, rfl, own_oneS _ (Nat.le_refl _), (Below.refl _ _).alloc (Nat.le_refl _) _⟩
    case round =>
      obtain ⟨j, hj, rfl, hown, hbel⟩ := hrel
      obtain ⟨A6, d6, rfl⟩ := own_slice hown
      have HO := hide hown
      have HB := hide hbel
      have hsw := hbel.size
      clear hown
      obtain rfl : j = 0 := by omega
      clear hbel
      go_wp2
      go_ret
      have HFn : Hid (shownM ⟨1, p, nn, b, t, oa, oh, oi, fo⟩ = [jw [wordM 1, addrL p]] ++ (([] : List (List UInt8)).take 0).map (124 :: ·)) := hide (by simp [shownM, headM, tailM, behM])
      exact ⟨A6, _, d6, rfl, by rw [HFn.out]; rfl, by rw [HFn.out]; exact own_baseLe HO.out HB2.out.size, HB2.out.trans (HB.out.mono HB2.out.size)⟩
  · have HK0 : Hid (Blk (((w.alloc (.cells #[.int .i64 2, .int .u32 (p : Int), .int .i64 nn, va, .string (str t), .int .u32 (oa : Int), .int .i64 oh, .int .u32 (oi : Int), .bool fo] 32)).alloc (.cells #[.string ⟨#[]⟩, .string ⟨#[115, 116, 97, 114, 116]⟩, .string ⟨#[115, 116, 111, 112]⟩, .string ⟨#[117, 112]⟩, .string ⟨#[100, 111, 119, 110]⟩, .string ⟨#[98, 121, 116, 101, 115]⟩, .string ⟨#[116, 105, 99, 107]⟩, .string ⟨#[99, 111, 110, 102, 105, 103]⟩, .string ⟨#[116, 97, 107, 101]⟩, .string ⟨#[114, 105, 118, 97, 108]⟩, .string ⟨#[114, 101, 115, 101, 116]⟩] 9)).alloc (.cells #[] 9)) w.heap.size 32 #[.int .i64 2, .int .u32 (p : Int), .int .i64 nn, va, .string (str t), .int .u32 (oa : Int), .int .i64 oh, .int .u32 (oi : Int), .bool fo]) := hide (((Blk.new w _ _).alloc _).alloc _)
    have HB0 : Hid (Below w.heap.size w (((w.alloc (.cells #[.int .i64 2, .int .u32 (p : Int), .int .i64 nn, va, .string (str t), .int .u32 (oa : Int), .int .i64 oh, .int .u32 (oi : Int), .bool fo] 32)).alloc (.cells #[.string ⟨#[]⟩, .string ⟨#[115, 116, 97, 114, 116]⟩, .string ⟨#[115, 116, 111, 112]⟩, .string ⟨#[117, 112]⟩, .string ⟨#[100, 111, 119, 110]⟩, .string ⟨#[98, 121, 116, 101, 115]⟩, .string ⟨#[116, 105, 99, 107]⟩, .string ⟨#[99, 111, 110, 102, 105, 103]⟩, .string ⟨#[116, 97, 107, 101]⟩, .string ⟨#[114, 105, 118, 97, 108]⟩, .string ⟨#[114, 101, 115, 101, 116]⟩] 9)).alloc (.cells #[] 9))) := hide ((((Below.refl _ w).alloc (Nat.le_refl _) _).alloc (by simp) _).alloc (by simp; omega) _)
    go_enter Tryz.func24, Tryz.ntmps24
    go_wp2_with fail
    refine (refAddr_any p (by omega) _).mono ?_
    rintro e w2 ⟨rfl, hw⟩
    have HK2 : Hid (Blk w2 w.heap.size 32 #[.int .i64 2, .int .u32 (p : Int), .int .i64 nn, va, .string (str t), .int .u32 (oa : Int), .int .i64 oh, .int .u32 (oi : Int), .bool fo]) := hide (by rw [← hw]; exact HK0.out)
    have HB2 : Hid (Below w.heap.size w w2) := hide (by rw [← hw]; exact HB0.out)
    have hl2 := HK2.out.lt
    clear hw
    have c0 : w2.cell? ⟨w.heap.size, 0, none⟩ = some (.int .i64 2) := HK2.out.cell 0
    have c1 : w2.cell? ⟨w.heap.size, 1, none⟩ = some (.int .u32 (p : Int)) := HK2.out.cell 1
    have c2 : w2.cell? ⟨w.heap.size, 2, none⟩ = some (.int .i64 nn) := HK2.out.cell 2
    have c3 : w2.cell? ⟨w.heap.size, 3, none⟩ = some (va) := HK2.out.cell 3
    have c4 : w2.cell? ⟨w.heap.size, 4, none⟩ = some (.string (str t)) := HK2.out.cell 4
    have c5 : w2.cell? ⟨w.heap.size, 5, none⟩ = some (.int .u32 (oa : Int)) := HK2.out.cell 5
    have c6 : w2.cell? ⟨w.heap.size, 6, none⟩ = some (.int .i64 oh) := HK2.out.cell 6
    have c7 : w2.cell? ⟨w.heap.size, 7, none⟩ = some (.int .u32 (oi : Int)) := HK2.out.cell 7
    have c8 : w2.cell? ⟨w.heap.size, 8, none⟩ = some (.bool fo) := HK2.out.cell 8
    have HJ : Hid ((⟨#[115, 116, 111, 112]⟩ : ByteArray) ++ (⟨#[32]⟩ : ByteArray) ++ str (addrL p) = str (jw [wordM 2, addrL p])) := hide (by
      show str (wordM 2) ++ str [32] ++ str (addrL p) = _
      rw [cat_str, cat_str, jw_cons2, jw_one]; simp)
    go_wp2
    rw [HJ.out]
    go_loopw [6, 7] (fun lv iv wr => ∃ j : Nat, j ≤ 0 ∧ iv = .int .i64 (j : Nat) ∧ wr.ownsRow w2.heap.size 9 1 lv (1 + j) (strv ([jw [wordM 2, addrL p]] ++ (([] : List (List UInt8)).take j).map (124 :: ·))) ∧ Below w2.heap.size w2 wr) (fun _ iv _ => 0 - (intOf iv).toNat)
    case atStart => exact ⟨0, Nat.zero_le _, rfl, own_oneS _ (Nat.le_refl _), (Below.refl _ _).alloc (Nat.le_refl _) _⟩
    case round =>
      obtain ⟨j, hj, rfl, hown, hbel⟩ := hrel
      obtain ⟨A6, d6, rfl⟩ := own_slice hown
      have HO := hide hown
      have HB := hide hbel
      have hsw := hbel.size
      clear hown
      obtain rfl : j = 0 := by omega
      clear hbel
      go_wp2
      go_ret
      have HFn : Hid (shownM ⟨2, p, nn, b, t, oa, oh, oi, fo⟩ = [jw [wordM 2, addrL p]] ++ (([] : List (List UInt8)).take 0).map (124 :: ·)) := hide (by simp [shownM, headM, tailM, behM])
      exact ⟨A6, _, d6, rfl, by rw [HFn.out]; rfl, by rw [HFn.out]; exact own_baseLe HO.out HB2.out.size, HB2.out.trans (HB.out.mono HB2.out.size)⟩
  · have HK0 : Hid (Blk (((w.alloc (.cells #[.int .i64 3, .int .u32 (p : Int), .int .i64 nn, va, .string (str t), .int .u32 (oa : Int), .int .i64 oh, .int .u32 (oi : Int), .bool fo] 32)).alloc (.cells #[.string ⟨#[]⟩, .string ⟨#[115, 116, 97, 114, 116]⟩, .string ⟨#[115, 116, 111, 112]⟩, .string ⟨#[117, 112]⟩, .string ⟨#[100, 111, 119, 110]⟩, .string ⟨#[98, 121, 116, 101, 115]⟩, .string ⟨#[116, 105, 99, 107]⟩, .string ⟨#[99, 111, 110, 102, 105, 103]⟩, .string ⟨#[116, 97, 107, 101]⟩, .string ⟨#[114, 105, 118, 97, 108]⟩, .string ⟨#[114, 101, 115, 101, 116]⟩] 9)).alloc (.cells #[] 9)) w.heap.size 32 #[.int .i64 3, .int .u32 (p : Int), .int .i64 nn, va, .string (str t), .int .u32 (oa : Int), .int .i64 oh, .int .u32 (oi : Int), .bool fo]) := hide (((Blk.new w _ _).alloc _).alloc _)
    have HB0 : Hid (Below w.heap.size w (((w.alloc (.cells #[.int .i64 3, .int .u32 (p : Int), .int .i64 nn, va, .string (str t), .int .u32 (oa : Int), .int .i64 oh, .int .u32 (oi : Int), .bool fo] 32)).alloc (.cells #[.string ⟨#[]⟩, .string ⟨#[115, 116, 97, 114, 116]⟩, .string ⟨#[115, 116, 111, 112]⟩, .string ⟨#[117, 112]⟩, .string ⟨#[100, 111, 119, 110]⟩, .string ⟨#[98, 121, 116, 101, 115]⟩, .string ⟨#[116, 105, 99, 107]⟩, .string ⟨#[99, 111, 110, 102, 105, 103]⟩, .string ⟨#[116, 97, 107, 101]⟩, .string ⟨#[114, 105, 118, 97, 108]⟩, .string ⟨#[114, 101, 115, 101, 116]⟩] 9)).alloc (.cells #[] 9))) := hide ((((Below.refl _ w).alloc (Nat.le_refl _) _).alloc (by simp) _).alloc (by simp; omega) _)
    go_enter Tryz.func24, Tryz.ntmps24
    go_wp2_with fail
    refine (refAddr_any p (by omega) _).mono ?_
    rintro e w2 ⟨rfl, hw⟩
    have HK2 : Hid (Blk w2 w.heap.size 32 #[.int .i64 3, .int .u32 (p : Int), .int .i64 nn, va, .string (str t), .int .u32 (oa : Int), .int .i64 oh, .int .u32 (oi : Int), .bool fo]) := hide (by rw [← hw]; exact HK0.out)
    have HB2 : Hid (Below w.heap.size w w2) := hide (by rw [← hw]; exact HB0.out)
    have hl2 := HK2.out.lt
    clear hw
    have c0 : w2.cell? ⟨w.heap.size, 0, none⟩ = some (.int .i64 3) := HK2.out.cell 0
    have c1 : w2.cell? ⟨w.heap.size, 1, none⟩ = some (.int .u32 (p : Int)) := HK2.out.cell 1
    have c2 : w2.cell? ⟨w.heap.size, 2, none⟩ = some (.int .i64 nn) := HK2.out.cell 2
    have c3 : w2.cell? ⟨w.heap.size, 3, none⟩ = some (va) := HK2.out.cell 3
    have c4 : w2.cell? ⟨w.heap.size, 4, none⟩ = some (.string (str t)) := HK2.out.cell 4
    have c5 : w2.cell? ⟨w.heap.size, 5, none⟩ = some (.int .u32 (oa : Int)) := HK2.out.cell 5
    have c6 : w2.cell? ⟨w.heap.size, 6, none⟩ = some (.int .i64 oh) := HK2.out.cell 6
    have c7 : w2.cell? ⟨w.heap.size, 7, none⟩ = some (.int .u32 (oi : Int)) := HK2.out.cell 7
    have c8 : w2.cell? ⟨w.heap.size, 8, none⟩ = some (.bool fo) := HK2.out.cell 8
    have HJ : Hid ((⟨#[117, 112]⟩ : ByteArray) ++ (⟨#[32]⟩ : ByteArray) ++ str (addrL p) = str (jw [wordM 3, addrL p])) := hide (by
      show str (wordM 3) ++ str [32] ++ str (addrL p) = _
      rw [cat_str, cat_str, jw_cons2, jw_one]; simp)
    go_wp2
    rw [HJ.out]
    go_loopw [6, 7] (fun lv iv wr => ∃ j : Nat, j ≤ 0 ∧ iv = .int .i64 (j : Nat) ∧ wr.ownsRow w2.heap.size 9 1 lv (1 + j) (strv ([jw [wordM 3, addrL p]] ++ (([] : List (List UInt8)).take j).map (124 :: ·))) ∧ Below w2.heap.size w2 wr) (fun _ iv _ => 0 - (intOf iv).toNat)
    case atStart => exact ⟨0, Nat.zero_le _, rfl, own_oneS _ (Nat.le_refl _), (Below.refl _ _).alloc (Nat.le_refl _) _⟩
    case round =>
      obtain ⟨j, hj, rfl, hown, hbel⟩ := hrel
      obtain ⟨A6, d6, rfl⟩ := own_slice hown
      have HO := hide hown
      have HB := hide hbel
      have hsw := hbel.size
      clear hown
      obtain rfl : j = 0 := by omega
      clear hbel
      go_wp2
      go_ret
      have HFn : Hid (shownM ⟨3, p, nn, b, t, oa, oh, oi, fo⟩ = [jw [wordM 3, addrL p]] ++ (([] : List (List UInt8)).take 0).map (124 :: ·)) := hide (by simp [shownM, headM, tailM, behM])
      exact ⟨A6, _, d6, rfl, by rw [HFn.out]; rfl, by rw [HFn.out]; exact own_baseLe HO.out HB2.out.size, HB2.out.trans (HB.out.mono HB2.out.size)⟩
  · have HK0 : Hid (Blk (((w.alloc (.cells #[.int .i64 4, .int .u32 (p : Int), .int .i64 nn, va, .string (str t), .int .u32 (oa : Int), .int .i64 oh, .int .u32 (oi : Int), .bool fo] 32)).alloc (.cells #[.string ⟨#[]⟩, .string ⟨#[115, 116, 97, 114, 116]⟩, .string ⟨#[115, 116, 111, 112]⟩, .string ⟨#[117, 112]⟩, .string ⟨#[100, 111, 119, 110]⟩, .string ⟨#[98, 121, 116, 101, 115]⟩, .string ⟨#[116, 105, 99, 107]⟩, .string ⟨#[99, 111, 110, 102, 105, 103]⟩, .string ⟨#[116, 97, 107, 101]⟩, .string ⟨#[114, 105, 118, 97, 108]⟩, .string ⟨#[114, 101, 115, 101, 116]⟩] 9)).alloc (.cells #[] 9)) w.heap.size 32 #[.int .i64 4, .int .u32 (p : Int), .int .i64 nn, va, .string (str t), .int .u32 (oa : Int), .int .i64 oh, .int .u32 (oi : Int), .bool fo]) := hide (((Blk.new w _ _).alloc _).alloc _)
    have HB0 : Hid (Below w.heap.size w (((w.alloc (.cells #[.int .i64 4, .int .u32 (p : Int), .int .i64 nn, va, .string (str t), .int .u32 (oa : Int), .int .i64 oh, .int .u32 (oi : Int), .bool fo] 32)).alloc (.cells #[.string ⟨#[]⟩, .string ⟨#[115, 116, 97, 114, 116]⟩, .string ⟨#[115, 116, 111, 112]⟩, .string ⟨#[117, 112]⟩, .string ⟨#[100, 111, 119, 110]⟩, .string ⟨#[98, 121, 116, 101, 115]⟩, .string ⟨#[116, 105, 99, 107]⟩, .string ⟨#[99, 111, 110, 102, 105, 103]⟩, .string ⟨#[116, 97, 107, 101]⟩, .string ⟨#[114, 105, 118, 97, 108]⟩, .string ⟨#[114, 101, 115, 101, 116]⟩] 9)).alloc (.cells #[] 9))) := hide ((((Below.refl _ w).alloc (Nat.le_refl _) _).alloc (by simp) _).alloc (by simp; omega) _)
    go_enter Tryz.func24, Tryz.ntmps24
    go_wp2_with fail
    refine (refAddr_any p (by omega) _).mono ?_
    rintro e w2 ⟨rfl, hw⟩
    have HK2 : Hid (Blk w2 w.heap.size 32 #[.int .i64 4, .int .u32 (p : Int), .int .i64 nn, va, .string (str t), .int .u32 (oa : Int), .int .i64 oh, .int .u32 (oi : Int), .bool fo]) := hide (by rw [← hw]; exact HK0.out)
    have HB2 : Hid (Below w.heap.size w w2) := hide (by rw [← hw]; exact HB0.out)
    have hl2 := HK2.out.lt
    clear hw
    have c0 : w2.cell? ⟨w.heap.size, 0, none⟩ = some (.int .i64 4) := HK2.out.cell 0
    have c1 : w2.cell? ⟨w.heap.size, 1, none⟩ = some (.int .u32 (p : Int)) := HK2.out.cell 1
    have c2 : w2.cell? ⟨w.heap.size, 2, none⟩ = some (.int .i64 nn) := HK2.out.cell 2
    have c3 : w2.cell? ⟨w.heap.size, 3, none⟩ = some (va) := HK2.out.cell 3
    have c4 : w2.cell? ⟨w.heap.size, 4, none⟩ = some (.string (str t)) := HK2.out.cell 4
    have c5 : w2.cell? ⟨w.heap.size, 5, none⟩ = some (.int .u32 (oa : Int)) := HK2.out.cell 5
    have c6 : w2.cell? ⟨w.heap.size, 6, none⟩ = some (.int .i64 oh) := HK2.out.cell 6
    have c7 : w2.cell? ⟨w.heap.size, 7, none⟩ = some (.int .u32 (oi : Int)) := HK2.out.cell 7
    have c8 : w2.cell? ⟨w.heap.size, 8, none⟩ = some (.bool fo) := HK2.out.cell 8
    have HJ : Hid ((⟨#[100, 111, 119, 110]⟩ : ByteArray) ++ (⟨#[32]⟩ : ByteArray) ++ str (addrL p) = str (jw [wordM 4, addrL p])) := hide (by
      show str (wordM 4) ++ str [32] ++ str (addrL p) = _
      rw [cat_str, cat_str, jw_cons2, jw_one]; simp)
    go_wp2
    rw [HJ.out]
    go_loopw [6, 7] (fun lv iv wr => ∃ j : Nat, j ≤ 0 ∧ iv = .int .i64 (j : Nat) ∧ wr.ownsRow w2.heap.size 9 1 lv (1 + j) (strv ([jw [wordM 4, addrL p]] ++ (([] : List (List UInt8)).take j).map (124 :: ·))) ∧ Below w2.heap.size w2 wr) (fun _ iv _ => 0 - (intOf iv).toNat)
    case atStart => exact ⟨0, Nat.zero_le _, rfl, own_oneS _ (Nat.le_refl _), (Below.refl _ _).alloc (Nat.le_refl _) _⟩
    case round =>
      obtain ⟨j, hj, rfl, hown, hbel⟩ := hrel
      obtain ⟨A6, d6, rfl⟩ := own_slice hown
      have HO := hide hown
      have HB := hide hbel
      have hsw := hbel.size
      clear hown
      obtain rfl : j = 0 := by omega
      clear hbel
      go_wp2
      go_ret
      have HFn : Hid (shownM ⟨4, p, nn, b, t, oa, oh, oi, fo⟩ = [jw [wordM 4, addrL p]] ++ (([] : List (List UInt8)).take 0).map (124 :: ·)) := hide (by simp [shownM, headM, tailM, behM])
      exact ⟨A6, _, d6, rfl, by rw [HFn.out]; rfl, by rw [HFn.out]; exact own_baseLe HO.out HB2.out.size, HB2.out.trans (HB.out.mono HB2.out.size)⟩
  · have sz4 : (str (hexT b)).size ≤ 10000 := by rw [str_size]; have h1 := hexT_len b; have := HG.out; unfold mvGood at this; simp at this; omega
    have hnb : n ≤ 1000000 := by have := HG.out; unfold mvGood at this; simp at this; have := HLs.out.1; omega
    have HK0 : Hid (Blk (((w.alloc (.cells #[.int .i64 5, .int .u32 (p : Int), .int .i64 nn, va, .string (str t), .int .u32 (oa : Int), .int .i64 oh, .int .u32 (oi : Int), .bool fo] 32)).alloc (.cells #[.string ⟨#[]⟩, .string ⟨#[115, 116, 97, 114, 116]⟩, .string ⟨#[115, 116, 111, 112]⟩, .string ⟨#[117, 112]⟩, .string ⟨#[100, 111, 119, 110]⟩, .string ⟨#[98, 121, 116, 101, 115]⟩, .string ⟨#[116, 105, 99, 107]⟩, .string ⟨#[99, 111, 110, 102, 105, 103]⟩, .string ⟨#[116, 97, 107, 101]⟩, .string ⟨#[114, 105, 118, 97, 108]⟩, .string ⟨#[114, 101, 115, 101, 116]⟩] 9)).alloc (.cells #[] 9)) w.heap.size 32 #[.int .i64 5, .int .u32 (p : Int), .int .i64 nn, va, .string (str t), .int .u32 (oa : Int), .int .i64 oh, .int .u32 (oi : Int), .bool fo]) := hide (((Blk.new w _ _).alloc _).alloc _)
    have HB0 : Hid (Below w.heap.size w (((w.alloc (.cells #[.int .i64 5, .int .u32 (p : Int), .int .i64 nn, va, .string (str t), .int .u32 (oa : Int), .int .i64 oh, .int .u32 (oi : Int), .bool fo] 32)).alloc (.cells #[.string ⟨#[]⟩, .string ⟨#[115, 116, 97, 114, 116]⟩, .string ⟨#[115, 116, 111, 112]⟩, .string ⟨#[117, 112]⟩, .string ⟨#[100, 111, 119, 110]⟩, .string ⟨#[98, 121, 116, 101, 115]⟩, .string ⟨#[116, 105, 99, 107]⟩, .string ⟨#[99, 111, 110, 102, 105, 103]⟩, .string ⟨#[116, 97, 107, 101]⟩, .string ⟨#[114, 105, 118, 97, 108]⟩, .string ⟨#[114, 101, 115, 101, 116]⟩] 9)).alloc (.cells #[] 9))) := hide ((((Below.refl _ w).alloc (Nat.le_refl _) _).alloc (by simp) _).alloc (by simp; omega) _)
    go_enter Tryz.func24, Tryz.ntmps24
    go_wp2_with fail
    refine (refAddr_any p (by omega) _).mono ?_
    rintro e w2 ⟨rfl, hw⟩
    have HK2 : Hid (Blk w2 w.heap.size 32 #[.int .i64 5, .int .u32 (p : Int), .int .i64 nn, va, .string (str t), .int .u32 (oa : Int), .int .i64 oh, .int .u32 (oi : Int), .bool fo]) := hide (by rw [← hw]; exact HK0.out)
    have HB2 : Hid (Below w.heap.size w w2) := hide (by rw [← hw]; exact HB0.out)
    have hl2 := HK2.out.lt
    clear hw
    have c0 : w2.cell? ⟨w.heap.size, 0, none⟩ = some (.int .i64 5) := HK2.out.cell 0
    have c1 : w2.cell? ⟨w.heap.size, 1, none⟩ = some (.int .u32 (p : Int)) := HK2.out.cell 1
    have c2 : w2.cell? ⟨w.heap.size, 2, none⟩ = some (.int .i64 nn) := HK2.out.cell 2
    have c3 : w2.cell? ⟨w.heap.size, 3, none⟩ = some (va) := HK2.out.cell 3
    have c4 : w2.cell? ⟨w.heap.size, 4, none⟩ = some (.string (str t)) := HK2.out.cell 4
    have c5 : w2.cell? ⟨w.heap.size, 5, none⟩ = some (.int .u32 (oa : Int)) := HK2.out.cell 5
    have c6 : w2.cell? ⟨w.heap.size, 6, none⟩ = some (.int .i64 oh) := HK2.out.cell 6
    have c7 : w2.cell? ⟨w.heap.size, 7, none⟩ = some (.int .u32 (oi : Int)) := HK2.out.cell 7
    have c8 : w2.cell? ⟨w.heap.size, 8, none⟩ = some (.bool fo) := HK2.out.cell 8
    have HHx := rhex_any A n c b w2 (HLs.out.below byMono HB2.out) hnb
    rw [HVa.out] at HHx
    have HHx := hide HHx
    go_wp2_with fail
    refine HHx.out.mono ?_
    rintro e w3 ⟨rfl, hb⟩
    have HK3 := hide (HK2.out.below hb HK2.out.lt)
    have HB3 := hide (HB2.out.trans (hb.mono HB2.out.size))
    have hl3 := HK3.out.lt
    clear hb c0 c1 c2 c3 c4 c5 c6 c7 c8
    have c0 : w3.cell? ⟨w.heap.size, 0, none⟩ = some (.int .i64 5) := HK3.out.cell 0
    have c1 : w3.cell? ⟨w.heap.size, 1, none⟩ = some (.int .u32 (p : Int)) := HK3.out.cell 1
    have c2 : w3.cell? ⟨w.heap.size, 2, none⟩ = some (.int .i64 nn) := HK3.out.cell 2
    have c3 : w3.cell? ⟨w.heap.size, 3, none⟩ = some (va) := HK3.out.cell 3
    have c4 : w3.cell? ⟨w.heap.size, 4, none⟩ = some (.string (str t)) := HK3.out.cell 4
    have c5 : w3.cell? ⟨w.heap.size, 5, none⟩ = some (.int .u32 (oa : Int)) := HK3.out.cell 5
    have c6 : w3.cell? ⟨w.heap.size, 6, none⟩ = some (.int .i64 oh) := HK3.out.cell 6
    have c7 : w3.cell? ⟨w.heap.size, 7, none⟩ = some (.int .u32 (oi : Int)) := HK3.out.cell 7
    have c8 : w3.cell? ⟨w.heap.size, 8, none⟩ = some (.bool fo) := HK3.out.cell 8
    have HJ : Hid ((⟨#[98, 121, 116, 101, 115]⟩ : ByteArray) ++ (⟨#[32]⟩ : ByteArray) ++ str (addrL p) ++ (⟨#[32]⟩ : ByteArray) ++ str (hexT b) = str (jw [wordM 5, addrL p, hexT b])) := hide (by
      show str (wordM 5) ++ str [32] ++ str (addrL p) ++ str [32] ++ str (hexT b) = _
      rw [cat_str, cat_str, cat_str, cat_str, jw_cons2, jw_cons2, jw_one]; simp)
    go_wp2
    rw [HJ.out]
    go_loopw [6, 7] (fun lv iv wr => ∃ j : Nat, j ≤ 0 ∧ iv = .int .i64 (j : Nat) ∧ wr.ownsRow w3.heap.size 9 1 lv (1 + j) (strv ([jw [wordM 5, addrL p, hexT b]] ++ (([] : List (List UInt8)).take j).map (124 :: ·))) ∧ Below w3.heap.size w3 wr) (fun _ iv _ => 0 - (intOf iv).toNat)
    case atStart => exact ⟨0, Nat.zero_le _, rfl, own_oneS _ (Nat.le_refl _), (Below.refl _ _).alloc (Nat.le_refl _) _⟩
    case round =>
      obtain ⟨j, hj, rfl, hown, hbel⟩ := hrel
      obtain ⟨A6, d6, rfl⟩ := own_slice hown
      have HO := hide hown
      have HB := hide hbel
      have hsw := hbel.size
      clear hown
      obtain rfl : j = 0 := by omega
      clear hbel
      go_wp2
      go_ret
      have HFn : Hid (shownM ⟨5, p, nn, b, t, oa, oh, oi, fo⟩ = [jw [wordM 5, addrL p, hexT b]] ++ (([] : List (List UInt8)).take 0).map (124 :: ·)) := hide (by simp [shownM, headM, tailM, behM])
      exact ⟨A6, _, d6, rfl, by rw [HFn.out]; rfl, by rw [HFn.out]; exact own_baseLe HO.out HB3.out.size, HB3.out.trans (HB.out.mono HB3.out.size)⟩
  · have HK0 : Hid (Blk (((w.alloc (.cells #[.int .i64 6, .int .u32 (p : Int), .int .i64 nn, va, .string (str t), .int .u32 (oa : Int), .int .i64 oh, .int .u32 (oi : Int), .bool fo] 32)).alloc (.cells #[.string ⟨#[]⟩, .string ⟨#[115, 116, 97, 114, 116]⟩, .string ⟨#[115, 116, 111, 112]⟩, .string ⟨#[117, 112]⟩, .string ⟨#[100, 111, 119, 110]⟩, .string ⟨#[98, 121, 116, 101, 115]⟩, .string ⟨#[116, 105, 99, 107]⟩, .string ⟨#[99, 111, 110, 102, 105, 103]⟩, .string ⟨#[116, 97, 107, 101]⟩, .string ⟨#[114, 105, 118, 97, 108]⟩, .string ⟨#[114, 101, 115, 101, 116]⟩] 9)).alloc (.cells #[] 9)) w.heap.size 32 #[.int .i64 6, .int .u32 (p : Int), .int .i64 nn, va, .string (str t), .int .u32 (oa : Int), .int .i64 oh, .int .u32 (oi : Int), .bool fo]) := hide (((Blk.new w _ _).alloc _).alloc _)
    have HB0 : Hid (Below w.heap.size w (((w.alloc (.cells #[.int .i64 6, .int .u32 (p : Int), .int .i64 nn, va, .string (str t), .int .u32 (oa : Int), .int .i64 oh, .int .u32 (oi : Int), .bool fo] 32)).alloc (.cells #[.string ⟨#[]⟩, .string ⟨#[115, 116, 97, 114, 116]⟩, .string ⟨#[115, 116, 111, 112]⟩, .string ⟨#[117, 112]⟩, .string ⟨#[100, 111, 119, 110]⟩, .string ⟨#[98, 121, 116, 101, 115]⟩, .string ⟨#[116, 105, 99, 107]⟩, .string ⟨#[99, 111, 110, 102, 105, 103]⟩, .string ⟨#[116, 97, 107, 101]⟩, .string ⟨#[114, 105, 118, 97, 108]⟩, .string ⟨#[114, 101, 115, 101, 116]⟩] 9)).alloc (.cells #[] 9))) := hide ((((Below.refl _ w).alloc (Nat.le_refl _) _).alloc (by simp) _).alloc (by simp; omega) _)
    obtain ⟨w2, hw2⟩ : ∃ x, ((w.alloc (.cells #[.int .i64 6, .int .u32 (p : Int), .int .i64 nn, va, .string (str t), .int .u32 (oa : Int), .int .i64 oh, .int .u32 (oi : Int), .bool fo] 32)).alloc (.cells #[.string ⟨#[]⟩, .string ⟨#[115, 116, 97, 114, 116]⟩, .string ⟨#[115, 116, 111, 112]⟩, .string ⟨#[117, 112]⟩, .string ⟨#[100, 111, 119, 110]⟩, .string ⟨#[98, 121, 116, 101, 115]⟩, .string ⟨#[116, 105, 99, 107]⟩, .string ⟨#[99, 111, 110, 102, 105, 103]⟩, .string ⟨#[116, 97, 107, 101]⟩, .string ⟨#[114, 105, 118, 97, 108]⟩, .string ⟨#[114, 101, 115, 101, 116]⟩] 9)).alloc (.cells #[] 9) = x := ⟨_, rfl⟩
    have HB2 : Hid (Below w.heap.size w w2) := hide (by rw [← hw2]; exact HB0.out)
    have HJ : Hid ((⟨#[116, 105, 99, 107]⟩ : ByteArray) = str (jw [wordM 6])) := hide (by rw [jw_one]; rfl)
    have HW2 := hide hw2
    clear hw2
    go_enter Tryz.func24, Tryz.ntmps24
    go_wp2
    rw [HW2.out, HJ.out]
    have hs2 : w2.heap.size = w.heap.size + 1 + 1 + 1 := by rw [← HW2.out]; simp
    go_loopw [6, 7] (fun lv iv wr => ∃ j : Nat, j ≤ 0 ∧ iv = .int .i64 (j : Nat) ∧ wr.ownsRow w2.heap.size 9 1 lv (1 + j) (strv ([jw [wordM 6]] ++ (([] : List (List UInt8)).take j).map (124 :: ·))) ∧ Below w2.heap.size w2 wr) (fun _ iv _ => 0 - (intOf iv).toNat)
    case atStart => exact ⟨0, Nat.zero_le _, rfl, by have h1 := own_oneS (w := w2) (base := w2.heap.size) (.string (str (jw [wordM 6]))) (Nat.le_refl _); rw [show w.heap.size + 1 + 1 + 1 = w2.heap.size from hs2.symm]; exact h1, (Below.refl _ _).alloc (Nat.le_refl _) _⟩
    case round =>
      obtain ⟨j, hj, rfl, hown, hbel⟩ := hrel
      obtain ⟨A6, d6, rfl⟩ := own_slice hown
      have HO := hide hown
      have HB := hide hbel
      have hsw := hbel.size
      clear hown
      obtain rfl : j = 0 := by omega
      clear hbel
      go_wp2
      go_ret
      have HFn : Hid (shownM ⟨6, p, nn, b, t, oa, oh, oi, fo⟩ = [jw [wordM 6]] ++ (([] : List (List UInt8)).take 0).map (124 :: ·)) := hide (by simp [shownM, headM, tailM, behM])
      exact ⟨A6, _, d6, rfl, by rw [HFn.out]; rfl, by rw [HFn.out]; exact own_baseLe HO.out HB2.out.size, HB2.out.trans (HB.out.mono HB2.out.size)⟩
  · have HK0 : Hid (Blk (((w.alloc (.cells #[.int .i64 7, .int .u32 (p : Int), .int .i64 nn, va, .string (str t), .int .u32 (oa : Int), .int .i64 oh, .int .u32 (oi : Int), .bool fo] 32)).alloc (.cells #[.string ⟨#[]⟩, .string ⟨#[115, 116, 97, 114, 116]⟩, .string ⟨#[115, 116, 111, 112]⟩, .string ⟨#[117, 112]⟩, .string ⟨#[100, 111, 119, 110]⟩, .string ⟨#[98, 121, 116, 101, 115]⟩, .string ⟨#[116, 105, 99, 107]⟩, .string ⟨#[99, 111, 110, 102, 105, 103]⟩, .string ⟨#[116, 97, 107, 101]⟩, .string ⟨#[114, 105, 118, 97, 108]⟩, .string ⟨#[114, 101, 115, 101, 116]⟩] 9)).alloc (.cells #[] 9)) w.heap.size 32 #[.int .i64 7, .int .u32 (p : Int), .int .i64 nn, va, .string (str t), .int .u32 (oa : Int), .int .i64 oh, .int .u32 (oi : Int), .bool fo]) := hide (((Blk.new w _ _).alloc _).alloc _)
    have HB0 : Hid (Below w.heap.size w (((w.alloc (.cells #[.int .i64 7, .int .u32 (p : Int), .int .i64 nn, va, .string (str t), .int .u32 (oa : Int), .int .i64 oh, .int .u32 (oi : Int), .bool fo] 32)).alloc (.cells #[.string ⟨#[]⟩, .string ⟨#[115, 116, 97, 114, 116]⟩, .string ⟨#[115, 116, 111, 112]⟩, .string ⟨#[117, 112]⟩, .string ⟨#[100, 111, 119, 110]⟩, .string ⟨#[98, 121, 116, 101, 115]⟩, .string ⟨#[116, 105, 99, 107]⟩, .string ⟨#[99, 111, 110, 102, 105, 103]⟩, .string ⟨#[116, 97, 107, 101]⟩, .string ⟨#[114, 105, 118, 97, 108]⟩, .string ⟨#[114, 101, 115, 101, 116]⟩] 9)).alloc (.cells #[] 9))) := hide ((((Below.refl _ w).alloc (Nat.le_refl _) _).alloc (by simp) _).alloc (by simp; omega) _)
    have HG7 : Hid (t.length ≤ 100000) := hide (by have := HG.out; unfold mvGood at this; simp at this; exact this.1)
    have HLi := hide (fun W => rlines_any t (by have := HG7.out; omega) W)
    obtain ⟨L7, hL7⟩ : ∃ L, linesM t = L := ⟨_, rfl⟩
    have hl7 := linesM_len t
    rw [hL7] at HLi hl7
    have hl7b : L7.length ≤ 100000 := by have := HG7.out; omega
    have HLe : Hid (∀ x ∈ L7, x.length ≤ 100000) := hide (fun x hx => by rw [← hL7] at hx; have := linesM_each t x hx; have := HG7.out; omega)
    have HLL := hide hL7
    clear hL7 hl7
    go_enter Tryz.func24, Tryz.ntmps24
    go_wp2_with fail
    refine (HLi.out _).mono ?_
    rintro e w2 ⟨A7, n7, d7, rfl, hn7, ho, hb⟩
    have HN7 : Hid (L7.length = n7) := hide hn7
    have HS7 := hide (StrsAt.of_own ho (fun x hx => by have := HLe.out x hx; unfold maxLen; omega))
    have HK2 := hide (HK0.out.below hb HK0.out.lt)
    have HB2 := hide (HB0.out.trans (hb.mono HB0.out.size))
    have hl2 := HK2.out.lt
    have hn7b : n7 ≤ 100000 := by omega
    have sz4 : (str (Lib.decDigits n7)).size ≤ 10 := by rw [str_size]; exact dec_len _ 9 (by omega)
    clear hb ho hn7 hl7b
    have c0 : w2.cell? ⟨w.heap.size, 0, none⟩ = some (.int .i64 7) := HK2.out.cell 0
    have c1 : w2.cell? ⟨w.heap.size, 1, none⟩ = some (.int .u32 (p : Int)) := HK2.out.cell 1
    have c2 : w2.cell? ⟨w.heap.size, 2, none⟩ = some (.int .i64 nn) := HK2.out.cell 2
    have c3 : w2.cell? ⟨w.heap.size, 3, none⟩ = some (va) := HK2.out.cell 3
    have c4 : w2.cell? ⟨w.heap.size, 4, none⟩ = some (.string (str t)) := HK2.out.cell 4
    have c5 : w2.cell? ⟨w.heap.size, 5, none⟩ = some (.int .u32 (oa : Int)) := HK2.out.cell 5
    have c6 : w2.cell? ⟨w.heap.size, 6, none⟩ = some (.int .i64 oh) := HK2.out.cell 6
    have c7 : w2.cell? ⟨w.heap.size, 7, none⟩ = some (.int .u32 (oi : Int)) := HK2.out.cell 7
    have c8 : w2.cell? ⟨w.heap.size, 8, none⟩ = some (.bool fo) := HK2.out.cell 8
    go_wp2_with fail
    refine (rint_any n7 (by omega) _).mono ?_
    rintro e w3 ⟨rfl, hw⟩
    have HK3 : Hid (Blk w3 w.heap.size 32 #[.int .i64 7, .int .u32 (p : Int), .int .i64 nn, va, .string (str t), .int .u32 (oa : Int), .int .i64 oh, .int .u32 (oi : Int), .bool fo]) := hide (by rw [← hw]; exact HK2.out)
    have HB3 : Hid (Below w.heap.size w w3) := hide (by rw [← hw]; exact HB2.out)
    have HS3 : Hid (StrsAt w3 A7 n7 d7 (L7.map str)) := hide (by rw [← hw]; exact HS7.out)
    have hl3 := HK3.out.lt
    clear hw c0 c1 c2 c3 c4 c5 c6 c7 c8
    have c0 : w3.cell? ⟨w.heap.size, 0, none⟩ = some (.int .i64 7) := HK3.out.cell 0
    have c1 : w3.cell? ⟨w.heap.size, 1, none⟩ = some (.int .u32 (p : Int)) := HK3.out.cell 1
    have c2 : w3.cell? ⟨w.heap.size, 2, none⟩ = some (.int .i64 nn) := HK3.out.cell 2
    have c3 : w3.cell? ⟨w.heap.size, 3, none⟩ = some (va) := HK3.out.cell 3
    have c4 : w3.cell? ⟨w.heap.size, 4, none⟩ = some (.string (str t)) := HK3.out.cell 4
    have c5 : w3.cell? ⟨w.heap.size, 5, none⟩ = some (.int .u32 (oa : Int)) := HK3.out.cell 5
    have c6 : w3.cell? ⟨w.heap.size, 6, none⟩ = some (.int .i64 oh) := HK3.out.cell 6
    have c7 : w3.cell? ⟨w.heap.size, 7, none⟩ = some (.int .u32 (oi : Int)) := HK3.out.cell 7
    have c8 : w3.cell? ⟨w.heap.size, 8, none⟩ = some (.bool fo) := HK3.out.cell 8
    have HJ : Hid ((⟨#[99, 111, 110, 102, 105, 103]⟩ : ByteArray) ++ (⟨#[32]⟩ : ByteArray) ++ str (Lib.decDigits n7) = str (jw [wordM 7, Lib.decDigits n7])) := hide (by
      show str (wordM 7) ++ str [32] ++ str (Lib.decDigits n7) = _
      rw [cat_str, cat_str, jw_cons2, jw_one]; simp)
    go_wp2
    rw [HJ.out]
    go_loopw [6, 7] (fun lv iv wr => ∃ j : Nat, j ≤ n7 ∧ iv = .int .i64 (j : Nat) ∧ wr.ownsRow w3.heap.size 9 1 lv (1 + j) (strv ([jw [wordM 7, Lib.decDigits n7]] ++ (L7.take j).map (124 :: ·))) ∧ Below w3.heap.size w3 wr) (fun _ iv _ => n7 - (intOf iv).toNat)
    case atStart => exact ⟨0, Nat.zero_le _, rfl, own_oneS _ (Nat.le_refl _), (Below.refl _ _).alloc (Nat.le_refl _) _⟩
    case round =>
      obtain ⟨j, hj, rfl, hown, hbel⟩ := hrel
      obtain ⟨A6, d6, rfl⟩ := own_slice hown
      have HO := hide hown
      have HB := hide hbel
      have hsw := hbel.size
      clear hown
      by_cases hlt : j < n7
      · obtain ⟨g, o, x, rfl, hg, hx, hxs, hc⟩ := (HS3.out.below rfl hbel).at_ (k := j) hlt
        have hnc := HS3.out.2.1
        have HX : Hid (∃ y, L7[j]? = some y ∧ x = str y) := hide (by
          rw [List.getElem?_map, Option.map_eq_some_iff] at hx
          obtain ⟨y, hy, rfl⟩ := hx
          exact ⟨y, hy, rfl⟩)
        have q0 : (0 : Int) ≤ (j : Int) := by omega
        have q1 : (j : Int) < (n7 : Int) := by omega
        have hxz : x.size + 1 ≤ 9223372036854775807 := by
          obtain ⟨y, hy, rfl⟩ := HX.out
          rw [str_size]
          have := HLe.out y (List.mem_of_getElem? hy)
          omega
        clear hx hxs hbel
        go_wp2_with (at_builtin; refine wpList_append_any _ rfl (.tmp 90) (.tmp 96) 37 rfl w3.heap.size 9 i0 _ 1 16 Tryz.underlying37 hi hz0 hz1 hz2 rfl (by decide) (.slice A6 (1 + j) d6) (1 + j) _ rfl (HO.out.alloc _) (wr.heap.size + 1) (some ⟨wr.heap.size, 0, none⟩) 1 1 [.string (⟨#[124]⟩ ++ x)] rfl (reads_blkN (Blk.new _ _ _) (Nat.lt_succ_self _) rfl rfl) (by simp [Value.oneCell']) (by unfold maxLen; omega) (by omega) (by simp; omega) ?_; intro v1 w10 hown hgrow hat; have HO3 := hide hown; have HB3 : Hid (Below w3.heap.size w3 w10) := hide (Below.grown (HB.out.alloc hsw _) hgrow (by simp; omega) (fun k hk => own_low_block HO.out k hk)); clear hown hgrow hat)
        go_roundw
        case rel =>
          refine ⟨j + 1, by omega, by go_num, ?_, HB3.out⟩
          obtain ⟨y, hy, rfl⟩ := HX.out
          have h3 := HO3.out
          rw [List.take_add_one, hy, List.map_append, Option.toList_some, List.map_cons, List.map_nil, ← List.append_assoc, strv_snoc]
          exact h3
        case measure => simp [intOf]; omega
      · obtain rfl : j = n7 := by omega
        clear hbel
        go_wp2
        go_ret
        have HFn : Hid (shownM ⟨7, p, nn, b, t, oa, oh, oi, fo⟩ = [jw [wordM 7, Lib.decDigits j]] ++ (L7.take j).map (124 :: ·)) := hide (by rw [List.take_of_length_le (by rw [HN7.out]; exact Nat.le_refl _)]; simp [shownM, headM, tailM, behM, HLL.out, HN7.out])
        exact ⟨A6, _, d6, rfl, by rw [HFn.out]; rw [List.length_append, List.length_map, List.length_take, HN7.out]; simp, by rw [HFn.out]; exact own_baseLe HO.out HB3.out.size, HB3.out.trans (HB.out.mono HB3.out.size)⟩
  · obtain ⟨a, rfl⟩ : ∃ a : Nat, nn = (a : Int) := ⟨nn.toNat, by have := HG.out; unfold mvGood at this; simp at this; omega⟩
    have sz4 : (str (Lib.decDigits a)).size ≤ 10 := by rw [str_size]; exact dec_len _ 9 (by have := HG.out; unfold mvGood at this; simp at this; omega)
    have hab : a < 4294967296 := by have := HG.out; unfold mvGood at this; simp at this; omega
    have HK0 : Hid (Blk (((w.alloc (.cells #[.int .i64 8, .int .u32 (p : Int), .int .i64 (a : Int), va, .string (str t), .int .u32 (oa : Int), .int .i64 oh, .int .u32 (oi : Int), .bool fo] 32)).alloc (.cells #[.string ⟨#[]⟩, .string ⟨#[115, 116, 97, 114, 116]⟩, .string ⟨#[115, 116, 111, 112]⟩, .string ⟨#[117, 112]⟩, .string ⟨#[100, 111, 119, 110]⟩, .string ⟨#[98, 121, 116, 101, 115]⟩, .string ⟨#[116, 105, 99, 107]⟩, .string ⟨#[99, 111, 110, 102, 105, 103]⟩, .string ⟨#[116, 97, 107, 101]⟩, .string ⟨#[114, 105, 118, 97, 108]⟩, .string ⟨#[114, 101, 115, 101, 116]⟩] 9)).alloc (.cells #[] 9)) w.heap.size 32 #[.int .i64 8, .int .u32 (p : Int), .int .i64 (a : Int), va, .string (str t), .int .u32 (oa : Int), .int .i64 oh, .int .u32 (oi : Int), .bool fo]) := hide (((Blk.new w _ _).alloc _).alloc _)
    have HB0 : Hid (Below w.heap.size w (((w.alloc (.cells #[.int .i64 8, .int .u32 (p : Int), .int .i64 (a : Int), va, .string (str t), .int .u32 (oa : Int), .int .i64 oh, .int .u32 (oi : Int), .bool fo] 32)).alloc (.cells #[.string ⟨#[]⟩, .string ⟨#[115, 116, 97, 114, 116]⟩, .string ⟨#[115, 116, 111, 112]⟩, .string ⟨#[117, 112]⟩, .string ⟨#[100, 111, 119, 110]⟩, .string ⟨#[98, 121, 116, 101, 115]⟩, .string ⟨#[116, 105, 99, 107]⟩, .string ⟨#[99, 111, 110, 102, 105, 103]⟩, .string ⟨#[116, 97, 107, 101]⟩, .string ⟨#[114, 105, 118, 97, 108]⟩, .string ⟨#[114, 101, 115, 101, 116]⟩] 9)).alloc (.cells #[] 9))) := hide ((((Below.refl _ w).alloc (Nat.le_refl _) _).alloc (by simp) _).alloc (by simp; omega) _)
    go_enter Tryz.func24, Tryz.ntmps24
    go_wp2_with fail
    refine (refAddr_any p (by omega) _).mono ?_
    rintro e w2 ⟨rfl, hw⟩
    have HK2 : Hid (Blk w2 w.heap.size 32 #[.int .i64 8, .int .u32 (p : Int), .int .i64 (a : Int), va, .string (str t), .int .u32 (oa : Int), .int .i64 oh, .int .u32 (oi : Int), .bool fo]) := hide (by rw [← hw]; exact HK0.out)
    have HB2 : Hid (Below w.heap.size w w2) := hide (by rw [← hw]; exact HB0.out)
    have hl2 := HK2.out.lt
    clear hw
    have c0 : w2.cell? ⟨w.heap.size, 0, none⟩ = some (.int .i64 8) := HK2.out.cell 0
    have c1 : w2.cell? ⟨w.heap.size, 1, none⟩ = some (.int .u32 (p : Int)) := HK2.out.cell 1
    have c2 : w2.cell? ⟨w.heap.size, 2, none⟩ = some (.int .i64 (a : Int)) := HK2.out.cell 2
    have c3 : w2.cell? ⟨w.heap.size, 3, none⟩ = some (va) := HK2.out.cell 3
    have c4 : w2.cell? ⟨w.heap.size, 4, none⟩ = some (.string (str t)) := HK2.out.cell 4
    have c5 : w2.cell? ⟨w.heap.size, 5, none⟩ = some (.int .u32 (oa : Int)) := HK2.out.cell 5
    have c6 : w2.cell? ⟨w.heap.size, 6, none⟩ = some (.int .i64 oh) := HK2.out.cell 6
    have c7 : w2.cell? ⟨w.heap.size, 7, none⟩ = some (.int .u32 (oi : Int)) := HK2.out.cell 7
    have c8 : w2.cell? ⟨w.heap.size, 8, none⟩ = some (.bool fo) := HK2.out.cell 8
    go_wp2_with fail
    refine (rint_any a hab _).mono ?_
    rintro e w3 ⟨rfl, hw⟩
    have HK3 : Hid (Blk w3 w.heap.size 32 #[.int .i64 8, .int .u32 (p : Int), .int .i64 (a : Int), va, .string (str t), .int .u32 (oa : Int), .int .i64 oh, .int .u32 (oi : Int), .bool fo]) := hide (by rw [← hw]; exact HK2.out)
    have HB3 : Hid (Below w.heap.size w w3) := hide (by rw [← hw]; exact HB2.out)
    have hl3 := HK3.out.lt
    clear hw c0 c1 c2 c3 c4 c5 c6 c7 c8
    have c0 : w3.cell? ⟨w.heap.size, 0, none⟩ = some (.int .i64 8) := HK3.out.cell 0
    have c1 : w3.cell? ⟨w.heap.size, 1, none⟩ = some (.int .u32 (p : Int)) := HK3.out.cell 1
    have c2 : w3.cell? ⟨w.heap.size, 2, none⟩ = some (.int .i64 (a : Int)) := HK3.out.cell 2
    have c3 : w3.cell? ⟨w.heap.size, 3, none⟩ = some (va) := HK3.out.cell 3
    have c4 : w3.cell? ⟨w.heap.size, 4, none⟩ = some (.string (str t)) := HK3.out.cell 4
    have c5 : w3.cell? ⟨w.heap.size, 5, none⟩ = some (.int .u32 (oa : Int)) := HK3.out.cell 5
    have c6 : w3.cell? ⟨w.heap.size, 6, none⟩ = some (.int .i64 oh) := HK3.out.cell 6
    have c7 : w3.cell? ⟨w.heap.size, 7, none⟩ = some (.int .u32 (oi : Int)) := HK3.out.cell 7
    have c8 : w3.cell? ⟨w.heap.size, 8, none⟩ = some (.bool fo) := HK3.out.cell 8
    have HJ : Hid ((⟨#[116, 97, 107, 101]⟩ : ByteArray) ++ (⟨#[32]⟩ : ByteArray) ++ str (addrL p) ++ (⟨#[32]⟩ : ByteArray) ++ str (Lib.decDigits a) = str (jw [wordM 8, addrL p, Lib.decDigits a])) := hide (by
      show str (wordM 8) ++ str [32] ++ str (addrL p) ++ str [32] ++ str (Lib.decDigits a) = _
      rw [cat_str, cat_str, cat_str, cat_str, jw_cons2, jw_cons2, jw_one]; simp)
    go_wp2
    rw [HJ.out]
    go_loopw [6, 7] (fun lv iv wr => ∃ j : Nat, j ≤ 0 ∧ iv = .int .i64 (j : Nat) ∧ wr.ownsRow w3.heap.size 9 1 lv (1 + j) (strv ([jw [wordM 8, addrL p, Lib.decDigits a]] ++ (([] : List (List UInt8)).take j).map (124 :: ·))) ∧ Below w3.heap.size w3 wr) (fun _ iv _ => 0 - (intOf iv).toNat)
    case atStart => exact ⟨0, Nat.zero_le _, rfl, own_oneS _ (Nat.le_refl _), (Below.refl _ _).alloc (Nat.le_refl _) _⟩
    case round =>
      obtain ⟨j, hj, rfl, hown, hbel⟩ := hrel
      obtain ⟨A6, d6, rfl⟩ := own_slice hown
      have HO := hide hown
      have HB := hide hbel
      have hsw := hbel.size
      clear hown
      obtain rfl : j = 0 := by omega
      clear hbel
      go_wp2
      go_ret
      have HFn : Hid (shownM ⟨8, p, (a : Int), b, t, oa, oh, oi, fo⟩ = [jw [wordM 8, addrL p, Lib.decDigits a]] ++ (([] : List (List UInt8)).take 0).map (124 :: ·)) := hide (by simp [shownM, headM, tailM, behM])
      exact ⟨A6, _, d6, rfl, by rw [HFn.out]; rfl, by rw [HFn.out]; exact own_baseLe HO.out HB3.out.size, HB3.out.trans (HB.out.mono HB3.out.size)⟩
  · have hwu : IntKind.u64.wrap (oa : Int) = (oa : Int) := by rw [IntKind.wrap_u64]; omega
    obtain ⟨a, rfl⟩ : ∃ a : Nat, oh = (a : Int) := ⟨oh.toNat, by have := HG.out; unfold mvGood at this; simp at this; omega⟩
    have sz4 : (str (Lib.decDigits a)).size ≤ 10 := by rw [str_size]; exact dec_len _ 9 (by have := HG.out; unfold mvGood at this; simp at this; omega)
    have hab : a < 4294967296 := by have := HG.out; unfold mvGood at this; simp at this; omega
    have HK0 : Hid (Blk (((w.alloc (.cells #[.int .i64 9, .int .u32 (p : Int), .int .i64 nn, va, .string (str t), .int .u32 (oa : Int), .int .i64 (a : Int), .int .u32 (oi : Int), .bool fo] 32)).alloc (.cells #[.string ⟨#[]⟩, .string ⟨#[115, 116, 97, 114, 116]⟩, .string ⟨#[115, 116, 111, 112]⟩, .string ⟨#[117, 112]⟩, .string ⟨#[100, 111, 119, 110]⟩, .string ⟨#[98, 121, 116, 101, 115]⟩, .string ⟨#[116, 105, 99, 107]⟩, .string ⟨#[99, 111, 110, 102, 105, 103]⟩, .string ⟨#[116, 97, 107, 101]⟩, .string ⟨#[114, 105, 118, 97, 108]⟩, .string ⟨#[114, 101, 115, 101, 116]⟩] 9)).alloc (.cells #[] 9)) w.heap.size 32 #[.int .i64 9, .int .u32 (p : Int), .int .i64 nn, va, .string (str t), .int .u32 (oa : Int), .int .i64 (a : Int), .int .u32 (oi : Int), .bool fo]) := hide (((Blk.new w _ _).alloc _).alloc _)
    have HB0 : Hid (Below w.heap.size w (((w.alloc (.cells #[.int .i64 9, .int .u32 (p : Int), .int .i64 nn, va, .string (str t), .int .u32 (oa : Int), .int .i64 (a : Int), .int .u32 (oi : Int), .bool fo] 32)).alloc (.cells #[.string ⟨#[]⟩, .string ⟨#[115, 116, 97, 114, 116]⟩, .string ⟨#[115, 116, 111, 112]⟩, .string ⟨#[117, 112]⟩, .string ⟨#[100, 111, 119, 110]⟩, .string ⟨#[98, 121, 116, 101, 115]⟩, .string ⟨#[116, 105, 99, 107]⟩, .string ⟨#[99, 111, 110, 102, 105, 103]⟩, .string ⟨#[116, 97, 107, 101]⟩, .string ⟨#[114, 105, 118, 97, 108]⟩, .string ⟨#[114, 101, 115, 101, 116]⟩] 9)).alloc (.cells #[] 9))) := hide ((((Below.refl _ w).alloc (Nat.le_refl _) _).alloc (by simp) _).alloc (by simp; omega) _)
    go_enter Tryz.func24, Tryz.ntmps24
    go_wp2_with fail
    refine (refAddr_any p (by omega) _).mono ?_
    rintro e w2 ⟨rfl, hw⟩
    have HK2 : Hid (Blk w2 w.heap.size 32 #[.int .i64 9, .int .u32 (p : Int), .int .i64 nn, va, .string (str t), .int .u32 (oa : Int), .int .i64 (a : Int), .int .u32 (oi : Int), .bool fo]) := hide (by rw [← hw]; exact HK0.out)
    have HB2 : Hid (Below w.heap.size w w2) := hide (by rw [← hw]; exact HB0.out)
    have hl2 := HK2.out.lt
    clear hw
    have c0 : w2.cell? ⟨w.heap.size, 0, none⟩ = some (.int .i64 9) := HK2.out.cell 0
    have c1 : w2.cell? ⟨w.heap.size, 1, none⟩ = some (.int .u32 (p : Int)) := HK2.out.cell 1
    have c2 : w2.cell? ⟨w.heap.size, 2, none⟩ = some (.int .i64 nn) := HK2.out.cell 2
    have c3 : w2.cell? ⟨w.heap.size, 3, none⟩ = some (va) := HK2.out.cell 3
    have c4 : w2.cell? ⟨w.heap.size, 4, none⟩ = some (.string (str t)) := HK2.out.cell 4
    have c5 : w2.cell? ⟨w.heap.size, 5, none⟩ = some (.int .u32 (oa : Int)) := HK2.out.cell 5
    have c6 : w2.cell? ⟨w.heap.size, 6, none⟩ = some (.int .i64 (a : Int)) := HK2.out.cell 6
    have c7 : w2.cell? ⟨w.heap.size, 7, none⟩ = some (.int .u32 (oi : Int)) := HK2.out.cell 7
    have c8 : w2.cell? ⟨w.heap.size, 8, none⟩ = some (.bool fo) := HK2.out.cell 8
    obtain ⟨S4, hS4⟩ : ∃ S, (⟨#[114, 105, 118, 97, 108]⟩ : ByteArray) ++ (⟨#[32]⟩ : ByteArray) ++ str (addrL p) = S := ⟨_, rfl⟩
    have HS4 := hide hS4
    have sS4 : S4.size ≤ 100 := by
      rw [← hS4]
      show (str (wordM 9) ++ str [32] ++ str (addrL p)).size ≤ 100
      rw [cat_str, cat_str, str_size]
      have h1 := addrL_len p
      have h2 := wordM_len 9
      simp; omega
    go_wp2
    try rw [hS4]
    clear hS4
    refine wp_region_relT 20 [(fun v _ => v = .string S4), (fun v _ => v = .string (S4 ++ (⟨#[32]⟩ : ByteArray))), (fun v _ => v = .pointer (some ⟨w.heap.size, 5, none⟩)), (fun v _ => v = .pointer (some ⟨w.heap.size, 5, none⟩)), (fun v _ => v = .int .u32 (oa : Int)), (fun v _ => v = .int .u64 (oa : Int)), (fun v _ => v = .string (str (Lib.decDigits oa))), (fun v _ => v = .string (S4 ++ (⟨#[32]⟩ : ByteArray) ++ str (Lib.decDigits oa))), (fun v _ => v = .string (S4 ++ (⟨#[32]⟩ : ByteArray) ++ str (Lib.decDigits oa) ++ (⟨#[32]⟩ : ByteArray))), (fun v _ => v = .pointer (some ⟨w.heap.size, 5, none⟩)), (fun v _ => v = .pointer (some ⟨w.heap.size, 6, none⟩)), (fun v _ => v = .int .i64 (a : Int)), (fun v _ => v = .string (str (Lib.decDigits a))), (fun v _ => v = .string (S4 ++ (⟨#[32]⟩ : ByteArray) ++ str (Lib.decDigits oa) ++ (⟨#[32]⟩ : ByteArray) ++ str (Lib.decDigits a))), (fun v _ => v = .string (S4 ++ (⟨#[32]⟩ : ByteArray) ++ str (Lib.decDigits oa) ++ (⟨#[32]⟩ : ByteArray) ++ str (Lib.decDigits a) ++ (⟨#[32]⟩ : ByteArray))), (fun v _ => v = .pointer (some ⟨w.heap.size, 5, none⟩)), (fun v _ => v = .pointer (some ⟨w.heap.size, 7, none⟩)), (fun v _ => v = .int .u32 (oi : Int)), (fun v _ => v = .string (str (addrL oi))), (fun v _ => v = .string (S4 ++ (⟨#[32]⟩ : ByteArray) ++ str (Lib.decDigits oa) ++ (⟨#[32]⟩ : ByteArray) ++ str (Lib.decDigits a) ++ (⟨#[32]⟩ : ByteArray) ++ str (addrL oi)))] (by kernel_rfl) (by kernel_rfl) (by kernel_rfl) (by kernel_rfl) (by kernel_rfl) (relMono _ ⟨fun _ _ _ _ h => h, fun _ _ _ _ h => h, fun _ _ _ _ h => h, fun _ _ _ _ h => h, fun _ _ _ _ h => h, fun _ _ _ _ h => h, fun _ _ _ _ h => h, fun _ _ _ _ h => h, fun _ _ _ _ h => h, fun _ _ _ _ h => h, fun _ _ _ _ h => h, fun _ _ _ _ h => h, fun _ _ _ _ h => h, fun _ _ _ _ h => h, fun _ _ _ _ h => h, fun _ _ _ _ h => h, fun _ _ _ _ h => h, fun _ _ _ _ h => h, fun _ _ _ _ h => h, fun _ _ _ _ h => h, trivial⟩) ⟨?_, ?_, ?_, ?_, ?_, ?_, ?_, ?_, ?_, ?_, ?_, ?_, ?_, ?_, ?_, ?_, ?_, ?_, ?_, ?_, trivial⟩ ?_
    · refine relStep_plain rfl ?_
      intro Ac w5 hp
      have hb := hp.bel
      have a4 : Ac.eval (.tmp 4) = .string S4 := hp.out 4 (by rfl)
      have hc := evalC Ac; have hf := evalF Ac; have hgl := evalG Ac
      obtain ⟨ρ, hρ⟩ : ∃ ρ, Ac.eval = ρ := ⟨_, rfl⟩
      rw [hρ] at a4 hc hf hgl
      exact relPure hρ (.string S4) (by simp [go_sem, hc, hf, hgl, ↓IntWalk.iteOmega, a4, *]) rfl
    · refine relStep_plain rfl ?_
      intro Ac w5 hp
      have hb := hp.bel
      have a50 : Ac.eval (.tmp 50) = .string S4 := hp.dep 0 (by kernel_rfl)
      have hc := evalC Ac; have hf := evalF Ac; have hgl := evalG Ac
      obtain ⟨ρ, hρ⟩ : ∃ ρ, Ac.eval = ρ := ⟨_, rfl⟩
      rw [hρ] at a50 hc hf hgl
      exact relPure hρ (.string (S4 ++ (⟨#[32]⟩ : ByteArray))) (by simp [go_sem, hc, hf, hgl, ↓IntWalk.iteOmega, a50, *]) rfl
    · refine relStep_plain rfl ?_
      intro Ac w5 hp
      have hb := hp.bel
      have a1 : Ac.eval (.tmp 1) = .pointer (some ⟨w.heap.size, 0, none⟩) := hp.out 1 (by rfl)
      have hc := evalC Ac; have hf := evalF Ac; have hgl := evalG Ac
      obtain ⟨ρ, hρ⟩ : ∃ ρ, Ac.eval = ρ := ⟨_, rfl⟩
      rw [hρ] at a1 hc hf hgl
      exact relPure hρ (.pointer (some ⟨w.heap.size, 5, none⟩)) (by simp [go_sem, hc, hf, hgl, ↓IntWalk.iteOmega, a1, *]) rfl
    · refine relStep_plain rfl ?_
      intro Ac w5 hp
      have hb := hp.bel
      have a52 : Ac.eval (.tmp 52) = .pointer (some ⟨w.heap.size, 5, none⟩) := hp.dep 2 (by kernel_rfl)
      have hc := evalC Ac; have hf := evalF Ac; have hgl := evalG Ac
      obtain ⟨ρ, hρ⟩ : ∃ ρ, Ac.eval = ρ := ⟨_, rfl⟩
      rw [hρ] at a52 hc hf hgl
      exact relPure hρ (.pointer (some ⟨w.heap.size, 5, none⟩)) (by simp [go_sem, hc, hf, hgl, ↓IntWalk.iteOmega, a52, *]) rfl
    · refine relStep_plain rfl ?_
      intro Ac w5 hp
      have hb := hp.bel
      have a53 : Ac.eval (.tmp 53) = .pointer (some ⟨w.heap.size, 5, none⟩) := hp.dep 3 (by kernel_rfl)
      have zz := HK2.out.below hb HK2.out.lt
      have z5 : w5.cell? ⟨w.heap.size, 5, none⟩ = some (.int .u32 (oa : Int)) := zz.cell 5
      have z6 : w5.cell? ⟨w.heap.size, 6, none⟩ = some (.int .i64 (a : Int)) := zz.cell 6
      have z7 : w5.cell? ⟨w.heap.size, 7, none⟩ = some (.int .u32 (oi : Int)) := zz.cell 7
      clear zz
      have hc := evalC Ac; have hf := evalF Ac; have hgl := evalG Ac
      obtain ⟨ρ, hρ⟩ : ∃ ρ, Ac.eval = ρ := ⟨_, rfl⟩
      rw [hρ] at a53 hc hf hgl
      exact relPure hρ (.int .u32 (oa : Int)) (by simp [go_sem, hc, hf, hgl, ↓IntWalk.iteOmega, a53, *]) rfl
    · refine relStep_plain rfl ?_
      intro Ac w5 hp
      have hb := hp.bel
      have a54 : Ac.eval (.tmp 54) = .int .u32 (oa : Int) := hp.dep 4 (by kernel_rfl)
      have hc := evalC Ac; have hf := evalF Ac; have hgl := evalG Ac
      obtain ⟨ρ, hρ⟩ : ∃ ρ, Ac.eval = ρ := ⟨_, rfl⟩
      rw [hρ] at a54 hc hf hgl
      exact relPure hρ (.int .u64 (oa : Int)) (by simp [go_sem, hc, hf, hgl, ↓IntWalk.iteOmega, a54, *]) rfl
    · refine relStep_plain rfl ?_
      intro Ac w5 hp
      have hb := hp.bel
      have a55 : Ac.eval (.tmp 55) = .int .u64 (oa : Int) := hp.dep 5 (by kernel_rfl)
      have hc := evalC Ac; have hf := evalF Ac; have hgl := evalG Ac
      obtain ⟨ρ, hρ⟩ : ∃ ρ, Ac.eval = ρ := ⟨_, rfl⟩
      rw [hρ] at a55 hc hf hgl
      refine relCall hρ 37 #[.int .u64 (oa : Int)] (by simp [go_sem, hc, hf, hgl, ↓IntWalk.iteOmega, a55, *]) ?_
      refine (num_any oa (by omega) w5).mono ?_
      rintro e w6 ⟨rfl, rfl⟩
      exact ⟨_, rfl, rfl, Below.refl _ _⟩
    · refine relStep_plain rfl ?_
      intro Ac w5 hp
      have hb := hp.bel
      have a51 : Ac.eval (.tmp 51) = .string (S4 ++ (⟨#[32]⟩ : ByteArray)) := hp.dep 1 (by kernel_rfl)
      have a56 : Ac.eval (.tmp 56) = .string (str (Lib.decDigits oa)) := hp.dep 6 (by kernel_rfl)
      have hc := evalC Ac; have hf := evalF Ac; have hgl := evalG Ac
      obtain ⟨ρ, hρ⟩ : ∃ ρ, Ac.eval = ρ := ⟨_, rfl⟩
      rw [hρ] at a51 a56 hc hf hgl
      exact relPure hρ (.string (S4 ++ (⟨#[32]⟩ : ByteArray) ++ str (Lib.decDigits oa))) (by simp [go_sem, hc, hf, hgl, ↓IntWalk.iteOmega, a51, a56, *]) rfl
    · refine relStep_plain rfl ?_
      intro Ac w5 hp
      have hb := hp.bel
      have a57 : Ac.eval (.tmp 57) = .string (S4 ++ (⟨#[32]⟩ : ByteArray) ++ str (Lib.decDigits oa)) := hp.dep 7 (by kernel_rfl)
      have hc := evalC Ac; have hf := evalF Ac; have hgl := evalG Ac
      obtain ⟨ρ, hρ⟩ : ∃ ρ, Ac.eval = ρ := ⟨_, rfl⟩
      rw [hρ] at a57 hc hf hgl
      exact relPure hρ (.string (S4 ++ (⟨#[32]⟩ : ByteArray) ++ str (Lib.decDigits oa) ++ (⟨#[32]⟩ : ByteArray))) (by simp [go_sem, hc, hf, hgl, ↓IntWalk.iteOmega, a57, *]) rfl
    · refine relStep_plain rfl ?_
      intro Ac w5 hp
      have hb := hp.bel
      have a1 : Ac.eval (.tmp 1) = .pointer (some ⟨w.heap.size, 0, none⟩) := hp.out 1 (by rfl)
      have hc := evalC Ac; have hf := evalF Ac; have hgl := evalG Ac
      obtain ⟨ρ, hρ⟩ : ∃ ρ, Ac.eval = ρ := ⟨_, rfl⟩
      rw [hρ] at a1 hc hf hgl
      exact relPure hρ (.pointer (some ⟨w.heap.size, 5, none⟩)) (by simp [go_sem, hc, hf, hgl, ↓IntWalk.iteOmega, a1, *]) rfl
    · refine relStep_plain rfl ?_
      intro Ac w5 hp
      have hb := hp.bel
      have a59 : Ac.eval (.tmp 59) = .pointer (some ⟨w.heap.size, 5, none⟩) := hp.dep 9 (by kernel_rfl)
      have hc := evalC Ac; have hf := evalF Ac; have hgl := evalG Ac
      obtain ⟨ρ, hρ⟩ : ∃ ρ, Ac.eval = ρ := ⟨_, rfl⟩
      rw [hρ] at a59 hc hf hgl
      exact relPure hρ (.pointer (some ⟨w.heap.size, 6, none⟩)) (by simp [go_sem, hc, hf, hgl, ↓IntWalk.iteOmega, a59, *]) rfl
    · refine relStep_plain rfl ?_
      intro Ac w5 hp
      have hb := hp.bel
      have a60 : Ac.eval (.tmp 60) = .pointer (some ⟨w.heap.size, 6, none⟩) := hp.dep 10 (by kernel_rfl)
      have zz := HK2.out.below hb HK2.out.lt
      have z5 : w5.cell? ⟨w.heap.size, 5, none⟩ = some (.int .u32 (oa : Int)) := zz.cell 5
      have z6 : w5.cell? ⟨w.heap.size, 6, none⟩ = some (.int .i64 (a : Int)) := zz.cell 6
      have z7 : w5.cell? ⟨w.heap.size, 7, none⟩ = some (.int .u32 (oi : Int)) := zz.cell 7
      clear zz
      have hc := evalC Ac; have hf := evalF Ac; have hgl := evalG Ac
      obtain ⟨ρ, hρ⟩ : ∃ ρ, Ac.eval = ρ := ⟨_, rfl⟩
      rw [hρ] at a60 hc hf hgl
      exact relPure hρ (.int .i64 (a : Int)) (by simp [go_sem, hc, hf, hgl, ↓IntWalk.iteOmega, a60, *]) rfl
    · refine relStep_plain rfl ?_
      intro Ac w5 hp
      have hb := hp.bel
      have a61 : Ac.eval (.tmp 61) = .int .i64 (a : Int) := hp.dep 11 (by kernel_rfl)
      have hc := evalC Ac; have hf := evalF Ac; have hgl := evalG Ac
      obtain ⟨ρ, hρ⟩ : ∃ ρ, Ac.eval = ρ := ⟨_, rfl⟩
      rw [hρ] at a61 hc hf hgl
      refine relCall hρ 36 #[.int .i64 (a : Int)] (by simp [go_sem, hc, hf, hgl, ↓IntWalk.iteOmega, a61, *]) ?_
      refine (rint_any a (by omega) w5).mono ?_
      rintro e w6 ⟨rfl, rfl⟩
      exact ⟨_, rfl, rfl, Below.refl _ _⟩
    · refine relStep_plain rfl ?_
      intro Ac w5 hp
      have hb := hp.bel
      have a58 : Ac.eval (.tmp 58) = .string (S4 ++ (⟨#[32]⟩ : ByteArray) ++ str (Lib.decDigits oa) ++ (⟨#[32]⟩ : ByteArray)) := hp.dep 8 (by kernel_rfl)
      have a62 : Ac.eval (.tmp 62) = .string (str (Lib.decDigits a)) := hp.dep 12 (by kernel_rfl)
      have hc := evalC Ac; have hf := evalF Ac; have hgl := evalG Ac
      obtain ⟨ρ, hρ⟩ : ∃ ρ, Ac.eval = ρ := ⟨_, rfl⟩
      rw [hρ] at a58 a62 hc hf hgl
      exact relPure hρ (.string (S4 ++ (⟨#[32]⟩ : ByteArray) ++ str (Lib.decDigits oa) ++ (⟨#[32]⟩ : ByteArray) ++ str (Lib.decDigits a))) (by simp [go_sem, hc, hf, hgl, ↓IntWalk.iteOmega, a58, a62, *]) rfl
    · refine relStep_plain rfl ?_
      intro Ac w5 hp
      have hb := hp.bel
      have a63 : Ac.eval (.tmp 63) = .string (S4 ++ (⟨#[32]⟩ : ByteArray) ++ str (Lib.decDigits oa) ++ (⟨#[32]⟩ : ByteArray) ++ str (Lib.decDigits a)) := hp.dep 13 (by kernel_rfl)
      have hc := evalC Ac; have hf := evalF Ac; have hgl := evalG Ac
      obtain ⟨ρ, hρ⟩ : ∃ ρ, Ac.eval = ρ := ⟨_, rfl⟩
      rw [hρ] at a63 hc hf hgl
      exact relPure hρ (.string (S4 ++ (⟨#[32]⟩ : ByteArray) ++ str (Lib.decDigits oa) ++ (⟨#[32]⟩ : ByteArray) ++ str (Lib.decDigits a) ++ (⟨#[32]⟩ : ByteArray))) (by simp [go_sem, hc, hf, hgl, ↓IntWalk.iteOmega, a63, *]) rfl
    · refine relStep_plain rfl ?_
      intro Ac w5 hp
      have hb := hp.bel
      have a1 : Ac.eval (.tmp 1) = .pointer (some ⟨w.heap.size, 0, none⟩) := hp.out 1 (by rfl)
      have hc := evalC Ac; have hf := evalF Ac; have hgl := evalG Ac
      obtain ⟨ρ, hρ⟩ : ∃ ρ, Ac.eval = ρ := ⟨_, rfl⟩
      rw [hρ] at a1 hc hf hgl
      exact relPure hρ (.pointer (some ⟨w.heap.size, 5, none⟩)) (by simp [go_sem, hc, hf, hgl, ↓IntWalk.iteOmega, a1, *]) rfl
    · refine relStep_plain rfl ?_
      intro Ac w5 hp
      have hb := hp.bel
      have a65 : Ac.eval (.tmp 65) = .pointer (some ⟨w.heap.size, 5, none⟩) := hp.dep 15 (by kernel_rfl)
      have hc := evalC Ac; have hf := evalF Ac; have hgl := evalG Ac
      obtain ⟨ρ, hρ⟩ : ∃ ρ, Ac.eval = ρ := ⟨_, rfl⟩
      rw [hρ] at a65 hc hf hgl
      exact relPure hρ (.pointer (some ⟨w.heap.size, 7, none⟩)) (by simp [go_sem, hc, hf, hgl, ↓IntWalk.iteOmega, a65, *]) rfl
    · refine relStep_plain rfl ?_
      intro Ac w5 hp
      have hb := hp.bel
      have a66 : Ac.eval (.tmp 66) = .pointer (some ⟨w.heap.size, 7, none⟩) := hp.dep 16 (by kernel_rfl)
      have zz := HK2.out.below hb HK2.out.lt
      have z5 : w5.cell? ⟨w.heap.size, 5, none⟩ = some (.int .u32 (oa : Int)) := zz.cell 5
      have z6 : w5.cell? ⟨w.heap.size, 6, none⟩ = some (.int .i64 (a : Int)) := zz.cell 6
      have z7 : w5.cell? ⟨w.heap.size, 7, none⟩ = some (.int .u32 (oi : Int)) := zz.cell 7
      clear zz
      have hc := evalC Ac; have hf := evalF Ac; have hgl := evalG Ac
      obtain ⟨ρ, hρ⟩ : ∃ ρ, Ac.eval = ρ := ⟨_, rfl⟩
      rw [hρ] at a66 hc hf hgl
      exact relPure hρ (.int .u32 (oi : Int)) (by simp [go_sem, hc, hf, hgl, ↓IntWalk.iteOmega, a66, *]) rfl
    · refine relStep_plain rfl ?_
      intro Ac w5 hp
      have hb := hp.bel
      have a67 : Ac.eval (.tmp 67) = .int .u32 (oi : Int) := hp.dep 17 (by kernel_rfl)
      have hc := evalC Ac; have hf := evalF Ac; have hgl := evalG Ac
      obtain ⟨ρ, hρ⟩ : ∃ ρ, Ac.eval = ρ := ⟨_, rfl⟩
      rw [hρ] at a67 hc hf hgl
      refine relCall hρ 35 #[.int .u32 (oi : Int)] (by simp [go_sem, hc, hf, hgl, ↓IntWalk.iteOmega, a67, *]) ?_
      refine (refAddr_any oi (by omega) w5).mono ?_
      rintro e w6 ⟨rfl, rfl⟩
      exact ⟨_, rfl, rfl, Below.refl _ _⟩
    · refine relStep_plain rfl ?_
      intro Ac w5 hp
      have hb := hp.bel
      have a64 : Ac.eval (.tmp 64) = .string (S4 ++ (⟨#[32]⟩ : ByteArray) ++ str (Lib.decDigits oa) ++ (⟨#[32]⟩ : ByteArray) ++ str (Lib.decDigits a) ++ (⟨#[32]⟩ : ByteArray)) := hp.dep 14 (by kernel_rfl)
      have a68 : Ac.eval (.tmp 68) = .string (str (addrL oi)) := hp.dep 18 (by kernel_rfl)
      have hc := evalC Ac; have hf := evalF Ac; have hgl := evalG Ac
      obtain ⟨ρ, hρ⟩ : ∃ ρ, Ac.eval = ρ := ⟨_, rfl⟩
      rw [hρ] at a64 a68 hc hf hgl
      exact relPure hρ (.string (S4 ++ (⟨#[32]⟩ : ByteArray) ++ str (Lib.decDigits oa) ++ (⟨#[32]⟩ : ByteArray) ++ str (Lib.decDigits a) ++ (⟨#[32]⟩ : ByteArray) ++ str (addrL oi))) (by simp [go_sem, hc, hf, hgl, ↓IntWalk.iteOmega, a64, a68, *]) rfl
    intro u w8 hb7 hall
    have e69 : u 19 = .string (S4 ++ (⟨#[32]⟩ : ByteArray) ++ str (Lib.decDigits oa) ++ (⟨#[32]⟩ : ByteArray) ++ str (Lib.decDigits a) ++ (⟨#[32]⟩ : ByteArray) ++ str (addrL oi)) := relAll_at hall (i := 19) (by decide +kernel)
    clear hall
    simp only [List.drop_succ_cons, List.drop_zero, List.take_succ_cons, List.take_zero, putAll, Act.put, List.setIfInBounds_toArray, List.set_cons_zero, List.set_cons_succ, Nat.zero_add, Nat.reduceAdd, e69]
    have HK3 := hide (HK2.out.below hb7 HK2.out.lt)
    have HB3 := hide (HB2.out.trans (hb7.mono HB2.out.size))
    have hl3 := HK3.out.lt
    clear hb7 c0 c1 c2 c3 c4 c5 c6 c7 c8
    have c0 : w8.cell? ⟨w.heap.size, 0, none⟩ = some (.int .i64 9) := HK3.out.cell 0
    have c1 : w8.cell? ⟨w.heap.size, 1, none⟩ = some (.int .u32 (p : Int)) := HK3.out.cell 1
    have c2 : w8.cell? ⟨w.heap.size, 2, none⟩ = some (.int .i64 nn) := HK3.out.cell 2
    have c3 : w8.cell? ⟨w.heap.size, 3, none⟩ = some (va) := HK3.out.cell 3
    have c4 : w8.cell? ⟨w.heap.size, 4, none⟩ = some (.string (str t)) := HK3.out.cell 4
    have c5 : w8.cell? ⟨w.heap.size, 5, none⟩ = some (.int .u32 (oa : Int)) := HK3.out.cell 5
    have c6 : w8.cell? ⟨w.heap.size, 6, none⟩ = some (.int .i64 (a : Int)) := HK3.out.cell 6
    have c7 : w8.cell? ⟨w.heap.size, 7, none⟩ = some (.int .u32 (oi : Int)) := HK3.out.cell 7
    have c8 : w8.cell? ⟨w.heap.size, 8, none⟩ = some (.bool fo) := HK3.out.cell 8
    have HJ : Hid (S4 ++ (⟨#[32]⟩ : ByteArray) ++ str (Lib.decDigits oa) ++ (⟨#[32]⟩ : ByteArray) ++ str (Lib.decDigits a) ++ (⟨#[32]⟩ : ByteArray) ++ str (addrL oi) = str (jw [wordM 9, addrL p, Lib.decDigits oa, Lib.decDigits a, addrL oi])) := hide (by
      rw [← HS4.out]
      show str (wordM 9) ++ str [32] ++ str (addrL p) ++ str [32] ++ str (Lib.decDigits oa) ++ str [32] ++ str (Lib.decDigits a) ++ str [32] ++ str (addrL oi) = _
      simp only [cat_str, jw_cons2, jw_one]; simp)
    go_wp2
    rw [HJ.out]
    go_loopw [6, 7] (fun lv iv wr => ∃ j : Nat, j ≤ 0 ∧ iv = .int .i64 (j : Nat) ∧ wr.ownsRow w8.heap.size 9 1 lv (1 + j) (strv ([jw [wordM 9, addrL p, Lib.decDigits oa, Lib.decDigits a, addrL oi]] ++ (([] : List (List UInt8)).take j).map (124 :: ·))) ∧ Below w8.heap.size w8 wr) (fun _ iv _ => 0 - (intOf iv).toNat)
    case atStart => exact ⟨0, Nat.zero_le _, rfl, own_oneS _ (Nat.le_refl _), (Below.refl _ _).alloc (Nat.le_refl _) _⟩
    case round =>
      obtain ⟨j, hj, rfl, hown, hbel⟩ := hrel
      obtain ⟨A6, d6, rfl⟩ := own_slice hown
      have HO := hide hown
      have HB := hide hbel
      have hsw := hbel.size
      clear hown
      obtain rfl : j = 0 := by omega
      clear hbel
      go_wp2
      go_ret
      have HFn : Hid (shownM ⟨9, p, nn, b, t, oa, (a : Int), oi, fo⟩ = [jw [wordM 9, addrL p, Lib.decDigits oa, Lib.decDigits a, addrL oi]] ++ (([] : List (List UInt8)).take 0).map (124 :: ·)) := hide (by simp [shownM, headM, tailM, behM])
      exact ⟨A6, _, d6, rfl, by rw [HFn.out]; rfl, by rw [HFn.out]; exact own_baseLe HO.out HB3.out.size, HB3.out.trans (HB.out.mono HB3.out.size)⟩
  · have HK0 : Hid (Blk (((w.alloc (.cells #[.int .i64 10, .int .u32 (p : Int), .int .i64 nn, va, .string (str t), .int .u32 (oa : Int), .int .i64 oh, .int .u32 (oi : Int), .bool fo] 32)).alloc (.cells #[.string ⟨#[]⟩, .string ⟨#[115, 116, 97, 114, 116]⟩, .string ⟨#[115, 116, 111, 112]⟩, .string ⟨#[117, 112]⟩, .string ⟨#[100, 111, 119, 110]⟩, .string ⟨#[98, 121, 116, 101, 115]⟩, .string ⟨#[116, 105, 99, 107]⟩, .string ⟨#[99, 111, 110, 102, 105, 103]⟩, .string ⟨#[116, 97, 107, 101]⟩, .string ⟨#[114, 105, 118, 97, 108]⟩, .string ⟨#[114, 101, 115, 101, 116]⟩] 9)).alloc (.cells #[] 9)) w.heap.size 32 #[.int .i64 10, .int .u32 (p : Int), .int .i64 nn, va, .string (str t), .int .u32 (oa : Int), .int .i64 oh, .int .u32 (oi : Int), .bool fo]) := hide (((Blk.new w _ _).alloc _).alloc _)
    have HB0 : Hid (Below w.heap.size w (((w.alloc (.cells #[.int .i64 10, .int .u32 (p : Int), .int .i64 nn, va, .string (str t), .int .u32 (oa : Int), .int .i64 oh, .int .u32 (oi : Int), .bool fo] 32)).alloc (.cells #[.string ⟨#[]⟩, .string ⟨#[115, 116, 97, 114, 116]⟩, .string ⟨#[115, 116, 111, 112]⟩, .string ⟨#[117, 112]⟩, .string ⟨#[100, 111, 119, 110]⟩, .string ⟨#[98, 121, 116, 101, 115]⟩, .string ⟨#[116, 105, 99, 107]⟩, .string ⟨#[99, 111, 110, 102, 105, 103]⟩, .string ⟨#[116, 97, 107, 101]⟩, .string ⟨#[114, 105, 118, 97, 108]⟩, .string ⟨#[114, 101, 115, 101, 116]⟩] 9)).alloc (.cells #[] 9))) := hide ((((Below.refl _ w).alloc (Nat.le_refl _) _).alloc (by simp) _).alloc (by simp; omega) _)
    go_enter Tryz.func24, Tryz.ntmps24
    go_wp2_with fail
    refine (refAddr_any p (by omega) _).mono ?_
    rintro e w2 ⟨rfl, hw⟩
    have HK2 : Hid (Blk w2 w.heap.size 32 #[.int .i64 10, .int .u32 (p : Int), .int .i64 nn, va, .string (str t), .int .u32 (oa : Int), .int .i64 oh, .int .u32 (oi : Int), .bool fo]) := hide (by rw [← hw]; exact HK0.out)
    have HB2 : Hid (Below w.heap.size w w2) := hide (by rw [← hw]; exact HB0.out)
    have hl2 := HK2.out.lt
    clear hw
    have c0 : w2.cell? ⟨w.heap.size, 0, none⟩ = some (.int .i64 10) := HK2.out.cell 0
    have c1 : w2.cell? ⟨w.heap.size, 1, none⟩ = some (.int .u32 (p : Int)) := HK2.out.cell 1
    have c2 : w2.cell? ⟨w.heap.size, 2, none⟩ = some (.int .i64 nn) := HK2.out.cell 2
    have c3 : w2.cell? ⟨w.heap.size, 3, none⟩ = some (va) := HK2.out.cell 3
    have c4 : w2.cell? ⟨w.heap.size, 4, none⟩ = some (.string (str t)) := HK2.out.cell 4
    have c5 : w2.cell? ⟨w.heap.size, 5, none⟩ = some (.int .u32 (oa : Int)) := HK2.out.cell 5
    have c6 : w2.cell? ⟨w.heap.size, 6, none⟩ = some (.int .i64 oh) := HK2.out.cell 6
    have c7 : w2.cell? ⟨w.heap.size, 7, none⟩ = some (.int .u32 (oi : Int)) := HK2.out.cell 7
    have c8 : w2.cell? ⟨w.heap.size, 8, none⟩ = some (.bool fo) := HK2.out.cell 8
    have HJ : Hid ((⟨#[114, 101, 115, 101, 116]⟩ : ByteArray) ++ (⟨#[32]⟩ : ByteArray) ++ str (addrL p) = str (jw [wordM 10, addrL p])) := hide (by
      show str (wordM 10) ++ str [32] ++ str (addrL p) = _
      rw [cat_str, cat_str, jw_cons2, jw_one]; simp)
    go_wp2
    rw [HJ.out]
    go_loopw [6, 7] (fun lv iv wr => ∃ j : Nat, j ≤ 0 ∧ iv = .int .i64 (j : Nat) ∧ wr.ownsRow w2.heap.size 9 1 lv (1 + j) (strv ([jw [wordM 10, addrL p]] ++ (([] : List (List UInt8)).take j).map (124 :: ·))) ∧ Below w2.heap.size w2 wr) (fun _ iv _ => 0 - (intOf iv).toNat)
    case atStart => exact ⟨0, Nat.zero_le _, rfl, own_oneS _ (Nat.le_refl _), (Below.refl _ _).alloc (Nat.le_refl _) _⟩
    case round =>
      obtain ⟨j, hj, rfl, hown, hbel⟩ := hrel
      obtain ⟨A6, d6, rfl⟩ := own_slice hown
      have HO := hide hown
      have HB := hide hbel
      have hsw := hbel.size
      clear hown
      obtain rfl : j = 0 := by omega
      clear hbel
      go_wp2
      go_ret
      have HFn : Hid (shownM ⟨10, p, nn, b, t, oa, oh, oi, fo⟩ = [jw [wordM 10, addrL p]] ++ (([] : List (List UInt8)).take 0).map (124 :: ·)) := hide (by simp [shownM, headM, tailM, behM])
      exact ⟨A6, _, d6, rfl, by rw [HFn.out]; rfl, by rw [HFn.out]; exact own_baseLe HO.out HB2.out.size, HB2.out.trans (HB.out.mono HB2.out.size)⟩
end Go.Proofs.YtlfknndpbejbcaaGreatDoor
set_option linter.unusedSimpArgs false
set_option linter.unusedVariables false
namespace Go.Proofs.YtlfknndpbejbcaaGreatDoor
open Go.RowKit Go.WideShapes Go.ChangeShapes
attribute [local go_sem] Oper.semAt_some
set_option maxRecDepth 100000 in
set_option maxHeartbeats 4000000 in
theorem rtext_any (m : MV) (A : Option Addr) (n c : Nat) (w : World) (h : LstAt 1 byR w A n c m.b) (ok : MvOk m) (hg : mvGood m = true) :
    Calls Tryz.prog 11 #[mvV m (.slice A n c)] w fun e w' => e = .returned (.string (str (feedT (shownM m)))) ∧ Below w.heap.size w w' := by
  have HG := hide hg
  have HLs := hide h
  have HOk := hide ok
  have HF := hide (shown_feed ok hg)
  have HE := hide (shown_lens ok hg)
  have HNl := hide (feedT_num (shownM m))
  obtain ⟨k, p, nn, b, t, oa, oh, oi, fo⟩ := m
  have HB0 := hide ((Below.refl w.heap.size w).alloc (Nat.le_refl _) (.cells #[.int .i64 k, .int .u32 (p : Int), .int .i64 nn, .slice A n c, .string (str t), .int .u32 (oa : Int), .int .i64 oh, .int .u32 (oi : Int), .bool fo] 32))
  have HSh := hide (rshow_any ⟨k, p, nn, b, t, oa, oh, oi, fo⟩ A n c _ (HLs.out.below byMono HB0.out) HOk.out HG.out)
  obtain ⟨SM, hSM⟩ : ∃ SM, shownM ⟨k, p, nn, b, t, oa, oh, oi, fo⟩ = SM := ⟨_, rfl⟩
  have HShP : Hid (∀ (W W' : World) (e : Ending), ShownP ⟨k, p, nn, b, t, oa, oh, oi, fo⟩ W e W' → ∃ A n c, e = .returned (.slice A n c) ∧ n = SM.length ∧ W'.ownsRow W.heap.size 9 1 (.slice A n c) n (strv SM) ∧ Below W.heap.size W W') := hide (by intro W W' e hp; unfold ShownP at hp; rw [hSM] at hp; exact hp)
  rw [hSM] at HF HE HNl ⊢
  clear h ok hg hSM
  unfold mvV
  simp only
  go_enter Tryz.func11, Tryz.ntmps11
  go_wp2_with fail
  refine HSh.out.mono ?_
  intro e w2 hp
  obtain ⟨A2, n2, c2, rfl, hn2, ho, hb⟩ := HShP.out _ _ _ hp
  have HN : Hid (SM.length = n2) := hide hn2.symm
  have HS := hide (StrsAt.of_own ho (fun x hx => by have := HE.out x hx; unfold maxLen; omega))
  have HB2 := hide (HB0.out.trans (hb.mono HB0.out.size))
  have hnb : n2 ≤ 1000000 := by have h1 := HNl.out; have h2 := HF.out; omega
  clear hp hn2 ho hb
  go_wp2
  go_loopw [3, 5] (fun sv iv wr => ∃ j : Nat, j ≤ n2 ∧ iv = .int .i64 (j : Nat) ∧ sv = .string (str (feedT (SM.take j))) ∧ Below w2.heap.size w2 wr) (fun _ iv _ => n2 - (intOf iv).toNat)
  case atStart => exact ⟨0, Nat.zero_le _, rfl, rfl, Below.refl _ _⟩
  case round =>
    obtain ⟨j, hj, rfl, rfl, hbel⟩ := hrel
    have HB := hide hbel
    by_cases hlt : j < n2
    · obtain ⟨g, o, x, rfl, hg, hx, hxs, hc⟩ := (HS.out.below rfl hbel).at_ (k := j) hlt
      have hnc := HS.out.2.1
      have HX : Hid (∃ y, SM[j]? = some y ∧ x = str y) := hide (by
        rw [List.getElem?_map, Option.map_eq_some_iff] at hx
        obtain ⟨y, hy, rfl⟩ := hx
        exact ⟨y, hy, rfl⟩)
      have q0 : (0 : Int) ≤ (j : Int) := by omega
      have q1 : (j : Int) < (n2 : Int) := by omega
      have hxz : x.size ≤ 200000 := by
        obtain ⟨y, hy, rfl⟩ := HX.out
        rw [str_size]
        exact HE.out y (List.mem_of_getElem? hy)
      have hsz : (str (feedT (SM.take j))).size ≤ 1000000 := by
        rw [str_size]
        have h1 := feedT_take SM j
        have h2 := HF.out
        omega
      have HJ : Hid (str (feedT (SM.take j)) ++ x ++ (⟨#[10]⟩ : ByteArray) = str (feedT (SM.take (j + 1)))) := hide (by
        obtain ⟨y, hy, rfl⟩ := HX.out
        have e10 : (⟨#[10]⟩ : ByteArray) = str [10] := rfl
        rw [e10, cat_str, cat_str, List.take_add_one, hy, Option.toList_some, feedT_snoc, List.append_assoc])
      have hsz2 : (str (feedT (SM.take j)) ++ x).size ≤ 1200000 := by rw [ByteArray.size_append]; omega
      obtain ⟨S, hS⟩ : ∃ S, str (feedT (SM.take j)) = S := ⟨_, rfl⟩
      rw [hS] at HJ hsz hsz2 ⊢
      clear hx hxs hbel hS
      go_wp2
      rw [HJ.out]
      go_roundw
      case rel => exact ⟨j + 1, by omega, by go_num, rfl, HB.out⟩
      case measure => simp [intOf]; omega
    · obtain rfl : j = n2 := by omega
      have hsm : SM.take j = SM := List.take_of_length_le (by rw [HN.out]; exact Nat.le_refl _)
      rw [hsm]
      clear hsm hbel
      go_wp2
      go_ret
      exact ⟨rfl, HB2.out.trans (HB.out.mono HB2.out.size)⟩
end Go.Proofs.YtlfknndpbejbcaaGreatDoor
set_option linter.unusedSimpArgs false
set_option linter.unusedVariables false
namespace Go.Proofs.YtlfknndpbejbcaaGreatDoor
open Go.RowKit Go.WideShapes Go.ChangeShapes Go.ChangeAt
attribute [local go_sem] Oper.semAt_some
def liveSM : List MV := [⟨3, 167772162, 0, [], [], 0, 0, 0, false⟩, ⟨7, 0, 0, [], [114, 111, 117, 116, 101, 114, 32, 49, 32, 49, 46, 49, 46, 49, 46, 49, 10], 0, 0, 0, false⟩]
def liveST : List UInt8 := [117, 112, 32, 49, 48, 46, 48, 46, 48, 46, 50, 10, 99, 111, 110, 102, 105, 103, 32, 49, 10, 124, 114, 111, 117, 116, 101, 114, 32, 49, 32, 49, 46, 49, 46, 49, 46, 49, 10]
theorem liveST_is : textsM liveSM = liveST := by decide +kernel
theorem liveSM_ok : ∀ m ∈ liveSM, mvGood m = true ∧ MvOk m := by
  intro m hm
  simp only [liveSM, List.mem_cons, List.not_mem_nil, or_false] at hm
  rcases hm with rfl | rfl
  · exact ⟨by decide, ⟨by decide, by decide, by decide, by decide, by decide, by decide⟩⟩
  · exact ⟨by decide, ⟨by decide, by decide, by decide, by decide, by decide, by decide⟩⟩
set_option maxRecDepth 100000 in
set_option maxHeartbeats 2000000 in
theorem slives_any (w : World) (he : Env w) (ht : SpTab w) : Calls Tryz.prog 12 #[] w (GoodP true w) := by
  have HR := hide (sread_any liveST (by decide) w he ht)
  clear he ht
  go_enter Tryz.func12, Tryz.ntmps12
  go_wp2_with fail
  refine HR.out.mono ?_
  rintro e w1 ⟨hr, hb⟩
  rw [← liveST_is] at hr
  rcases read_moves liveSM_ok hr with ⟨_, A, n, c, rfl, hn, hl⟩ | ⟨h5, _⟩
  · obtain rfl : n = 2 := hn.symm
    obtain ⟨g, o, x0, vs0, rfl, hg, hx0, _, ⟨A0, n0, c0, rfl, _⟩, hc0⟩ := hl.at_ (k := 0) (by omega)
    obtain ⟨g', o', x1, vs1, hA, _, hx1, _, ⟨A1, n1, c1, rfl, _⟩, hc1⟩ := hl.at_ (k := 1) (by omega)
    cases hA
    have e0 : x0 = ⟨3, 167772162, 0, [], [], 0, 0, 0, false⟩ := by
      have : (liveSM.map mvOnly)[0]? = some ⟨3, 167772162, 0, [], [], 0, 0, 0, false⟩ := by simp [liveSM, mvOnly]
      rw [this] at hx0; exact (Option.some.inj hx0).symm
    have e1 : x1 = ⟨7, 0, 0, [], [114, 111, 117, 116, 101, 114, 32, 49, 32, 49, 46, 49, 46, 49, 46, 49, 10], 0, 0, 0, false⟩ := by
      have : (liveSM.map mvOnly)[1]? = some ⟨7, 0, 0, [], [114, 111, 117, 116, 101, 114, 32, 49, 32, 49, 46, 49, 46, 49, 46, 49, 10], 0, 0, 0, false⟩ := by simp [liveSM, mvOnly]
      rw [this] at hx1; exact (Option.some.inj hx1).symm
    subst e0 e1
    have k0 : w1.cell? ⟨g, o, none⟩ = some (.int .i64 3) := by have := hc0 0 _ rfl; simpa using this
    have k1 : w1.cell? ⟨g, o + 9 + 4, none⟩ = some (.string ⟨#[114, 111, 117, 116, 101, 114, 32, 49, 32, 49, 46, 49, 46, 49, 46, 49, 10]⟩) := by have := hc1 4 _ rfl; rw [Nat.one_mul] at this; exact this
    have k2 : w1.cell? ⟨g, o + 13, none⟩ = some (.string ⟨#[114, 111, 117, 116, 101, 114, 32, 49, 32, 49, 46, 49, 46, 49, 46, 49, 10]⟩) := k1
    have k3 : ((⟨#[114, 111, 117, 116, 101, 114, 32, 49, 32, 49, 46, 49, 46, 49, 46, 49, 10]⟩ : ByteArray).toList == [114, 111, 117, 116, 101, 114, 32, 49, 32, 49, 46, 49, 46, 49, 46, 49, 10]) = true := by decide +kernel
    have HB := hide hb
    have h2c := hl.2.1
    clear hr hn hl hx0 hx1 hc0 hc1 hb
    go_wp2
    go_ret
    exact ⟨rfl, HB.out⟩
  · exact absurd h5 (by decide)
theorem conv_by {w : World} {A : Option Addr} {n c : Nat} {l : List UInt8} (h : LstAt 1 byR w A n c l) : (convert 28 9 (.slice A n c)).run Tryz.prog w = .ok (.string (str l)) w := by
  by_cases hn : 0 < n
  · obtain ⟨g, o, rfl, hg, hc⟩ := h.2.2.2 hn
    have := run_convert_bytes_back (P := Tryz.prog) w 28 9 5 ⟨g, o, none⟩ c l Tryz.underlying28 Tryz.underlying5 Tryz.underlying9 (fun j hj => by
      obtain ⟨vs, _, rfl, h3⟩ := hc j l[j] (List.getElem?_eq_getElem hj)
      have h4 := h3 0 _ rfl
      have e : (⟨g, o, none⟩ : Addr).add j = ⟨g, o + j, none⟩ := by unfold Addr.add; split <;> simp_all
      rw [e]
      simpa using h4)
    rw [h.1] at this
    exact this
  · obtain rfl : n = 0 := by omega
    obtain rfl : l = [] := List.eq_nil_of_length_eq_zero h.1
    cases A with
    | some a => exact run_convert_bytes_back (P := Tryz.prog) w 28 9 5 a c [] Tryz.underlying28 Tryz.underlying5 Tryz.underlying9 (fun j hj => by cases hj)
    | none =>
      rw [run_convert_bytes_string w 28 9 5 none 0 c Tryz.underlying28 Tryz.underlying5 Tryz.underlying9]
      simp [Conv.bytesToString, loadCells, str, ByteArray.empty, ByteArray.emptyWithCapacity]
      rfl
theorem cut_str (S : ByteArray) (k : Nat) (h : k < S.size) : S.extract 0 k = str (S.data.toList.take k) := by
  have : (S.extract 0 k).data = (str (S.data.toList.take k)).data := by
    rw [ByteArray.data_extract]
    unfold str
    apply Array.ext'
    simp [Array.toList_extract, List.take_eq_take_iff]
  cases hx : S.extract 0 k
  rw [hx] at this
  simp only at this
  rw [this]
end Go.Proofs.YtlfknndpbejbcaaGreatDoor
set_option linter.unusedSimpArgs false
set_option linter.unusedVariables false
namespace Go.Proofs.YtlfknndpbejbcaaGreatDoor
open Go.RowKit Go.WideShapes Go.ChangeShapes
attribute [local go_sem] Oper.semAt_some
def onlyV (m : MV) (v : Value) : Value := if m.k = 5 then v else .slice none 0 0
set_option maxRecDepth 100000 in
set_option maxHeartbeats 4000000 in
theorem ronly_any (m : MV) (A : Option Addr) (n c : Nat) (w : World) : Calls Tryz.prog 10 #[mvV m (.slice A n c)] w fun e w' => e = .returned (mvV (mvOnly m) (onlyV m (.slice A n c))) ∧ Below w.heap.size w w' := by
  obtain ⟨k, p, nn, b, t, oa, oh, oi, fo⟩ := m
  have HB : Hid (∀ o1 o2 o3 : Obj, Below w.heap.size w (((w.alloc o1).alloc o2).alloc o3)) := hide (fun o1 o2 o3 => (((Below.refl _ w).alloc (Nat.le_refl _) _).alloc (by simp) _).alloc (by simp; omega) _)
  unfold mvV
  simp only
  by_cases h6 : k = 6
  · subst h6
    go_enter Tryz.func10, Tryz.ntmps10
    go_wp2
    refine bodyPost_ret (v := .agg #[.int .i64 6, .int .u32 0, .int .i64 0, .slice none 0 0, .string ⟨#[]⟩, .int .u32 0, .int .i64 0, .int .u32 0, .bool false]) (by simp [results, Tryz.results10, go_sem]) rfl ⟨by simp [mvOnly, onlyV, str], HB.out _ _ _⟩
  · have e6 : (k == 6) = false := by simpa using h6
    by_cases h7 : k = 7
    · subst h7
      go_enter Tryz.func10, Tryz.ntmps10
      go_wp2
      refine bodyPost_ret (v := .agg #[.int .i64 7, .int .u32 0, .int .i64 0, .slice none 0 0, .string (str t), .int .u32 0, .int .i64 0, .int .u32 0, .bool false]) (by simp [results, Tryz.results10, go_sem]) rfl ⟨by simp [mvOnly, onlyV, str], HB.out _ _ _⟩
    · have e7 : (k == 7) = false := by simpa using h7
      by_cases h5 : k = 5
      · subst h5
        go_enter Tryz.func10, Tryz.ntmps10
        go_wp2
        refine bodyPost_ret (v := .agg #[.int .i64 5, .int .u32 (p : Int), .int .i64 0, .slice A n c, .string ⟨#[]⟩, .int .u32 0, .int .i64 0, .int .u32 0, .bool false]) (by simp [results, Tryz.results10, go_sem]) rfl ⟨by simp [mvOnly, onlyV, str], HB.out _ _ _⟩
      · have e5 : (k == 5) = false := by simpa using h5
        by_cases h8 : k = 8
        · subst h8
          go_enter Tryz.func10, Tryz.ntmps10
          go_wp2
          refine bodyPost_ret (v := .agg #[.int .i64 8, .int .u32 (p : Int), .int .i64 nn, .slice none 0 0, .string ⟨#[]⟩, .int .u32 0, .int .i64 0, .int .u32 0, .bool false]) (by simp [results, Tryz.results10, go_sem]) rfl ⟨by simp [mvOnly, onlyV, str], HB.out _ _ _⟩
        · have e8 : (k == 8) = false := by simpa using h8
          by_cases h9 : k = 9
          · subst h9
            go_enter Tryz.func10, Tryz.ntmps10
            go_wp2
            refine bodyPost_ret (v := .agg #[.int .i64 9, .int .u32 (p : Int), .int .i64 0, .slice none 0 0, .string ⟨#[]⟩, .int .u32 (oa : Int), .int .i64 oh, .int .u32 (oi : Int), .bool fo]) (by simp [results, Tryz.results10, go_sem]) rfl ⟨by simp [mvOnly, onlyV, str], HB.out _ _ _⟩
          · have e9 : (k == 9) = false := by simpa using h9
            by_cases hlo : k < 1
            · have d1 : decide (k < 1) = true := decide_eq_true hlo
              have HEq : Hid (mvOnly ⟨k, p, nn, b, t, oa, oh, oi, fo⟩ = mv0) := hide (by unfold mvOnly; rw [if_pos (.inl hlo)])
              have HV : Hid (onlyV ⟨k, p, nn, b, t, oa, oh, oi, fo⟩ (.slice A n c) = .slice none 0 0) := hide (by unfold onlyV; rw [if_neg h5])
              clear h5 h6 h7 h8 h9 hlo
              go_enter Tryz.func10, Tryz.ntmps10
              go_wp2
              refine bodyPost_ret (v := .agg #[.int .i64 0, .int .u32 0, .int .i64 0, .slice none 0 0, .string ⟨#[]⟩, .int .u32 0, .int .i64 0, .int .u32 0, .bool false]) (by simp [results, Tryz.results10, go_sem]) rfl ⟨by rw [HEq.out, HV.out]; rfl, HB.out _ _ _⟩
            · have d1 : decide (k < 1) = false := decide_eq_false hlo
              by_cases hhi : 10 < k
              · have d2 : decide (10 < k) = true := decide_eq_true hhi
                have HEq : Hid (mvOnly ⟨k, p, nn, b, t, oa, oh, oi, fo⟩ = mv0) := hide (by unfold mvOnly; rw [if_pos (.inr hhi)])
                have HV : Hid (onlyV ⟨k, p, nn, b, t, oa, oh, oi, fo⟩ (.slice A n c) = .slice none 0 0) := hide (by unfold onlyV; rw [if_neg h5])
                clear h5 h6 h7 h8 h9 hlo hhi
                go_enter Tryz.func10, Tryz.ntmps10
                go_wp2
                refine bodyPost_ret (v := .agg #[.int .i64 0, .int .u32 0, .int .i64 0, .slice none 0 0, .string ⟨#[]⟩, .int .u32 0, .int .i64 0, .int .u32 0, .bool false]) (by simp [results, Tryz.results10, go_sem]) rfl ⟨by rw [HEq.out, HV.out]; rfl, HB.out _ _ _⟩
              · have d2 : decide (10 < k) = false := decide_eq_false hhi
                have HEq : Hid (mvOnly ⟨k, p, nn, b, t, oa, oh, oi, fo⟩ = ⟨k, p, 0, [], [], 0, 0, 0, false⟩) := hide (by unfold mvOnly; rw [if_neg (by simp only; omega)]; simp [h5, h6, h7, h8, h9])
                have HV : Hid (onlyV ⟨k, p, nn, b, t, oa, oh, oi, fo⟩ (.slice A n c) = .slice none 0 0) := hide (by unfold onlyV; rw [if_neg h5])
                clear h5 h6 h7 h8 h9 hlo hhi
                go_enter Tryz.func10, Tryz.ntmps10
                go_wp2
                refine bodyPost_ret (v := .agg #[.int .i64 k, .int .u32 (p : Int), .int .i64 0, .slice none 0 0, .string ⟨#[]⟩, .int .u32 0, .int .i64 0, .int .u32 0, .bool false]) (by simp [results, Tryz.results10, go_sem]) rfl ⟨by rw [HEq.out, HV.out]; rfl, HB.out _ _ _⟩
end Go.Proofs.YtlfknndpbejbcaaGreatDoor
set_option linter.unusedSimpArgs false
set_option linter.unusedVariables false
namespace Go.Proofs.YtlfknndpbejbcaaGreatDoor
open Go.RowKit Go.WideShapes Go.ChangeShapes
attribute [local go_sem] Oper.semAt_some
def mvCut (m : MV) : MV := ⟨m.k, m.p, m.n, m.b.take 600, m.t.take 1500, m.oa, m.oh, m.oi, m.fo⟩
def MvCutP (m : MV) (w : World) (e : Ending) (w' : World) : Prop := ∃ A n c, e = .returned (mvV (mvCut m) (.slice A n c)) ∧ (mvCut m).b.length = n ∧ w'.ownsRow w.heap.size 5 1 (.slice A n c) n (byB (mvCut m).b) ∧ Below w.heap.size w w'
set_option maxRecDepth 100000 in
set_option maxHeartbeats 8000000 in
theorem smove_any (m : MV) (A : Option Addr) (n c : Nat) (w : World) (h : LstAt 1 byR w A n c m.b) (ht : m.t.length ≤ 9223372036854775807) : Calls Tryz.prog 18 #[mvV m (.slice A n c)] w (MvCutP m w) := by
  obtain ⟨k, p, nn, b, t, oa, oh, oi, fo⟩ := m
  simp only at h ht
  unfold mvV
  simp only
  have hsz : (str t).size = t.length := str_size t
  have hcut : 1500 < t.length → (str t).extract 0 1500 = str (t.take 1500) := fun h => by
    have := cut_str (str t) 1500 (by rw [str_size]; exact h)
    rwa [str_data] at this
  have HCut := hide hcut
  have hno : ¬ 1500 < t.length → t.take 1500 = t := fun h => List.take_of_length_le (by omega)
  have HNo := hide hno
  obtain ⟨T, hT⟩ : ∃ T, str t = T := ⟨_, rfl⟩
  rw [hT] at hsz HCut ⊢
  have HTT := hide hT
  have HSz := hide hsz
  have hTb : T.size ≤ 9223372036854775807 := by omega
  have HB0 : Hid (Below w.heap.size w ((w.alloc (.cells #[.int .i64 k, .int .u32 (p : Int), .int .i64 nn, .slice A n c, .string T, .int .u32 (oa : Int), .int .i64 oh, .int .u32 (oi : Int), .bool fo] 32)).alloc (.cells #[.int .i64 0, .int .u32 0, .int .i64 0, .slice none 0 0, .string ⟨#[]⟩, .int .u32 0, .int .i64 0, .int .u32 0, .bool false] 32))) := hide (((Below.refl _ w).alloc (Nat.le_refl _) _).alloc (by simp) _)
  have HBy := hide (lawBytes_any A n c b 600 (by decide) ((w.alloc (.cells #[.int .i64 k, .int .u32 (p : Int), .int .i64 nn, .slice A n c, .string T, .int .u32 (oa : Int), .int .i64 oh, .int .u32 (oi : Int), .bool fo] 32)).alloc (.cells #[.int .i64 0, .int .u32 0, .int .i64 0, .slice none 0 0, .string ⟨#[]⟩, .int .u32 0, .int .i64 0, .int .u32 0, .bool false] 32)) (h.below byMono HB0.out))
  obtain ⟨b2, hb2⟩ : ∃ b2, b.take 600 = b2 := ⟨_, rfl⟩
  rw [hb2] at HBy
  have HB2 := hide hb2
  have HK0 : Hid (Blk ((w.alloc (.cells #[.int .i64 k, .int .u32 (p : Int), .int .i64 nn, .slice A n c, .string T, .int .u32 (oa : Int), .int .i64 oh, .int .u32 (oi : Int), .bool fo] 32)).alloc (.cells #[.int .i64 0, .int .u32 0, .int .i64 0, .slice none 0 0, .string ⟨#[]⟩, .int .u32 0, .int .i64 0, .int .u32 0, .bool false] 32)) w.heap.size 32 #[.int .i64 k, .int .u32 (p : Int), .int .i64 nn, .slice A n c, .string T, .int .u32 (oa : Int), .int .i64 oh, .int .u32 (oi : Int), .bool fo]) := hide ((Blk.new w _ _).alloc _)
  have HR0 : Hid (Blk ((w.alloc (.cells #[.int .i64 k, .int .u32 (p : Int), .int .i64 nn, .slice A n c, .string T, .int .u32 (oa : Int), .int .i64 oh, .int .u32 (oi : Int), .bool fo] 32)).alloc (.cells #[.int .i64 0, .int .u32 0, .int .i64 0, .slice none 0 0, .string ⟨#[]⟩, .int .u32 0, .int .i64 0, .int .u32 0, .bool false] 32)) (w.heap.size + 1) 32 #[.int .i64 0, .int .u32 0, .int .i64 0, .slice none 0 0, .string ⟨#[]⟩, .int .u32 0, .int .i64 0, .int .u32 0, .bool false]) := hide (blk_new' _ _ (by simp))
  clear h ht hT hsz hb2 hcut hno
  go_enter Tryz.func18, Tryz.ntmps18
  go_wp2_with fail
  refine HBy.out.mono ?_
  rintro e w2 ⟨A2, n2, q2, rfl, hn2, ho, hb⟩
  have HN2 := hide hn2
  have HO : Hid (w2.ownsRow (w.heap.size + 2) 5 1 (.slice A2 n2 q2) n2 (byB b2)) := hide (by simpa using ho)
  have HK2 := hide (HK0.out.below hb (by simp; omega))
  have HR2 := hide (HR0.out.below hb (by simp))
  have HBw := hide (HB0.out.trans (hb.mono HB0.out.size))
  have hlk := HK2.out.lt
  have hlr := HR2.out.lt
  have c0 : w2.cell? ⟨w.heap.size, 0, none⟩ = some (.int .i64 k) := HK2.out.cell 0
  have c1 : w2.cell? ⟨w.heap.size, 1, none⟩ = some (.int .u32 (p : Int)) := HK2.out.cell 1
  have c2 : w2.cell? ⟨w.heap.size, 2, none⟩ = some (.int .i64 nn) := HK2.out.cell 2
  have c3 : w2.cell? ⟨w.heap.size, 3, none⟩ = some (.slice A n c) := HK2.out.cell 3
  have c4 : w2.cell? ⟨w.heap.size, 4, none⟩ = some (.string T) := HK2.out.cell 4
  have c5 : w2.cell? ⟨w.heap.size, 5, none⟩ = some (.int .u32 (oa : Int)) := HK2.out.cell 5
  have c6 : w2.cell? ⟨w.heap.size, 6, none⟩ = some (.int .i64 oh) := HK2.out.cell 6
  have c7 : w2.cell? ⟨w.heap.size, 7, none⟩ = some (.int .u32 (oi : Int)) := HK2.out.cell 7
  have c8 : w2.cell? ⟨w.heap.size, 8, none⟩ = some (.bool fo) := HK2.out.cell 8
  have cf3 := HK2.out.frozen 3
  have cf4 := HK2.out.frozen 4
  have r0 : w2.cell? ⟨w.heap.size + 1, 0, none⟩ = some (.int .i64 0) := HR2.out.cell 0
  have r1 : w2.cell? ⟨w.heap.size + 1, 1, none⟩ = some (.int .u32 0) := HR2.out.cell 1
  have r2 : w2.cell? ⟨w.heap.size + 1, 2, none⟩ = some (.int .i64 0) := HR2.out.cell 2
  have r3 : w2.cell? ⟨w.heap.size + 1, 3, none⟩ = some (.slice none 0 0) := HR2.out.cell 3
  have r4 : w2.cell? ⟨w.heap.size + 1, 4, none⟩ = some (.string ⟨#[]⟩) := HR2.out.cell 4
  have r5 : w2.cell? ⟨w.heap.size + 1, 5, none⟩ = some (.int .u32 0) := HR2.out.cell 5
  have r6 : w2.cell? ⟨w.heap.size + 1, 6, none⟩ = some (.int .i64 0) := HR2.out.cell 6
  have r7 : w2.cell? ⟨w.heap.size + 1, 7, none⟩ = some (.int .u32 0) := HR2.out.cell 7
  have r8 : w2.cell? ⟨w.heap.size + 1, 8, none⟩ = some (.bool false) := HR2.out.cell 8
  have rf0 := HR2.out.frozen 0
  have rf1 := HR2.out.frozen 1
  have rf2 := HR2.out.frozen 2
  have rf3 := HR2.out.frozen 3
  have rf4 := HR2.out.frozen 4
  have rf5 := HR2.out.frozen 5
  have rf6 := HR2.out.frozen 6
  have rf7 := HR2.out.frozen 7
  have rf8 := HR2.out.frozen 8
  clear hn2 ho hb
  by_cases h1 : 1500 < T.size
  · have HE : Hid (T.extract 0 1500 = str (t.take 1500)) := hide (HCut.out (by rw [← HSz.out]; exact h1))
    obtain ⟨T2, hT2⟩ : ∃ T2, str (t.take 1500) = T2 := ⟨_, rfl⟩
    rw [hT2] at HE
    have HT2 := hide hT2
    have hE := HE.out
    have hq : (1500 : Int) ≤ (T.size : Int) := by omega
    clear hT2
    go_wp2
    have HF : Hid (Blk (((((((((((w2.setCell ⟨w.heap.size, 3, none⟩ (.slice A2 n2 q2)).setCell ⟨w.heap.size, 4, none⟩ (.string T2)).setCell ⟨w.heap.size + 1, 0, none⟩ (.int .i64 k)).setCell ⟨w.heap.size + 1, 1, none⟩ (.int .u32 (p : Int))).setCell ⟨w.heap.size + 1, 2, none⟩ (.int .i64 nn)).setCell ⟨w.heap.size + 1, 3, none⟩ (.slice A2 n2 q2)).setCell ⟨w.heap.size + 1, 4, none⟩ (.string T2)).setCell ⟨w.heap.size + 1, 5, none⟩ (.int .u32 (oa : Int))).setCell ⟨w.heap.size + 1, 6, none⟩ (.int .i64 oh)).setCell ⟨w.heap.size + 1, 7, none⟩ (.int .u32 (oi : Int))).setCell ⟨w.heap.size + 1, 8, none⟩ (.bool fo)) (w.heap.size + 1) 32 #[.int .i64 k, .int .u32 (p : Int), .int .i64 nn, .slice A2 n2 q2, .string T2, .int .u32 (oa : Int), .int .i64 oh, .int .u32 (oi : Int), .bool fo]) := hide (by
      have := setMv_blk (m := ⟨k, p, nn, b2, t.take 1500, oa, oh, oi, fo⟩) (v := .slice A2 n2 q2) ((HR2.out.far (p := ⟨w.heap.size, 3, none⟩) (by show w.heap.size + 1 ≠ w.heap.size; omega) (.slice A2 n2 q2)).far (p := ⟨w.heap.size, 4, none⟩) (by show w.heap.size + 1 ≠ w.heap.size; omega) (.string T2))
      unfold setMv mvC at this
      simp only at this
      rw [HT2.out] at this
      exact this)
    have HOF : Hid (World.ownsRow (((((((((((w2.setCell ⟨w.heap.size, 3, none⟩ (.slice A2 n2 q2)).setCell ⟨w.heap.size, 4, none⟩ (.string T2)).setCell ⟨w.heap.size + 1, 0, none⟩ (.int .i64 k)).setCell ⟨w.heap.size + 1, 1, none⟩ (.int .u32 (p : Int))).setCell ⟨w.heap.size + 1, 2, none⟩ (.int .i64 nn)).setCell ⟨w.heap.size + 1, 3, none⟩ (.slice A2 n2 q2)).setCell ⟨w.heap.size + 1, 4, none⟩ (.string T2)).setCell ⟨w.heap.size + 1, 5, none⟩ (.int .u32 (oa : Int))).setCell ⟨w.heap.size + 1, 6, none⟩ (.int .i64 oh)).setCell ⟨w.heap.size + 1, 7, none⟩ (.int .u32 (oi : Int))).setCell ⟨w.heap.size + 1, 8, none⟩ (.bool fo)) (w.heap.size + 2) 5 1 (.slice A2 n2 q2) n2 (byB b2)) := hide (by
      have := setMv_own (R := w.heap.size + 1) (m := ⟨k, p, nn, b2, t.take 1500, oa, oh, oi, fo⟩) (v := .slice A2 n2 q2) (own_set (g := w.heap.size) (i := 4) (own_set (g := w.heap.size) (i := 3) HO.out (fun e => by have := own_low_block HO.out _ e; omega) (.slice A2 n2 q2)) (fun e => by have := own_low_block HO.out _ e; omega) (.string T2)) (fun e => by have := own_low_block HO.out _ e; omega)
      unfold setMv at this
      simp only at this
      rw [HT2.out] at this
      exact this)
    have HBF : Hid (Below w.heap.size w (((((((((((w2.setCell ⟨w.heap.size, 3, none⟩ (.slice A2 n2 q2)).setCell ⟨w.heap.size, 4, none⟩ (.string T2)).setCell ⟨w.heap.size + 1, 0, none⟩ (.int .i64 k)).setCell ⟨w.heap.size + 1, 1, none⟩ (.int .u32 (p : Int))).setCell ⟨w.heap.size + 1, 2, none⟩ (.int .i64 nn)).setCell ⟨w.heap.size + 1, 3, none⟩ (.slice A2 n2 q2)).setCell ⟨w.heap.size + 1, 4, none⟩ (.string T2)).setCell ⟨w.heap.size + 1, 5, none⟩ (.int .u32 (oa : Int))).setCell ⟨w.heap.size + 1, 6, none⟩ (.int .i64 oh)).setCell ⟨w.heap.size + 1, 7, none⟩ (.int .u32 (oi : Int))).setCell ⟨w.heap.size + 1, 8, none⟩ (.bool fo))) := hide (by
      have := setMv_below (R := w.heap.size + 1) (m := ⟨k, p, nn, b2, t.take 1500, oa, oh, oi, fo⟩) (v := .slice A2 n2 q2) ((HBw.out.setCell (p := ⟨w.heap.size, 3, none⟩) (Nat.le_refl _) (.slice A2 n2 q2)).setCell (p := ⟨w.heap.size, 4, none⟩) (Nat.le_refl _) (.string T2)) (Nat.le_succ _)
      unfold setMv at this
      simp only at this
      rw [HT2.out] at this
      exact this)
    have u0 : (((((((((((w2.setCell ⟨w.heap.size, 3, none⟩ (.slice A2 n2 q2)).setCell ⟨w.heap.size, 4, none⟩ (.string T2)).setCell ⟨w.heap.size + 1, 0, none⟩ (.int .i64 k)).setCell ⟨w.heap.size + 1, 1, none⟩ (.int .u32 (p : Int))).setCell ⟨w.heap.size + 1, 2, none⟩ (.int .i64 nn)).setCell ⟨w.heap.size + 1, 3, none⟩ (.slice A2 n2 q2)).setCell ⟨w.heap.size + 1, 4, none⟩ (.string T2)).setCell ⟨w.heap.size + 1, 5, none⟩ (.int .u32 (oa : Int))).setCell ⟨w.heap.size + 1, 6, none⟩ (.int .i64 oh)).setCell ⟨w.heap.size + 1, 7, none⟩ (.int .u32 (oi : Int))).setCell ⟨w.heap.size + 1, 8, none⟩ (.bool fo)).cell? ⟨w.heap.size + 1, 0, none⟩ = some (.int .i64 k) := HF.out.cell 0
    have u1 : (((((((((((w2.setCell ⟨w.heap.size, 3, none⟩ (.slice A2 n2 q2)).setCell ⟨w.heap.size, 4, none⟩ (.string T2)).setCell ⟨w.heap.size + 1, 0, none⟩ (.int .i64 k)).setCell ⟨w.heap.size + 1, 1, none⟩ (.int .u32 (p : Int))).setCell ⟨w.heap.size + 1, 2, none⟩ (.int .i64 nn)).setCell ⟨w.heap.size + 1, 3, none⟩ (.slice A2 n2 q2)).setCell ⟨w.heap.size + 1, 4, none⟩ (.string T2)).setCell ⟨w.heap.size + 1, 5, none⟩ (.int .u32 (oa : Int))).setCell ⟨w.heap.size + 1, 6, none⟩ (.int .i64 oh)).setCell ⟨w.heap.size + 1, 7, none⟩ (.int .u32 (oi : Int))).setCell ⟨w.heap.size + 1, 8, none⟩ (.bool fo)).cell? ⟨w.heap.size + 1, 1, none⟩ = some (.int .u32 (p : Int)) := HF.out.cell 1
    have u2 : (((((((((((w2.setCell ⟨w.heap.size, 3, none⟩ (.slice A2 n2 q2)).setCell ⟨w.heap.size, 4, none⟩ (.string T2)).setCell ⟨w.heap.size + 1, 0, none⟩ (.int .i64 k)).setCell ⟨w.heap.size + 1, 1, none⟩ (.int .u32 (p : Int))).setCell ⟨w.heap.size + 1, 2, none⟩ (.int .i64 nn)).setCell ⟨w.heap.size + 1, 3, none⟩ (.slice A2 n2 q2)).setCell ⟨w.heap.size + 1, 4, none⟩ (.string T2)).setCell ⟨w.heap.size + 1, 5, none⟩ (.int .u32 (oa : Int))).setCell ⟨w.heap.size + 1, 6, none⟩ (.int .i64 oh)).setCell ⟨w.heap.size + 1, 7, none⟩ (.int .u32 (oi : Int))).setCell ⟨w.heap.size + 1, 8, none⟩ (.bool fo)).cell? ⟨w.heap.size + 1, 2, none⟩ = some (.int .i64 nn) := HF.out.cell 2
    have u3 : (((((((((((w2.setCell ⟨w.heap.size, 3, none⟩ (.slice A2 n2 q2)).setCell ⟨w.heap.size, 4, none⟩ (.string T2)).setCell ⟨w.heap.size + 1, 0, none⟩ (.int .i64 k)).setCell ⟨w.heap.size + 1, 1, none⟩ (.int .u32 (p : Int))).setCell ⟨w.heap.size + 1, 2, none⟩ (.int .i64 nn)).setCell ⟨w.heap.size + 1, 3, none⟩ (.slice A2 n2 q2)).setCell ⟨w.heap.size + 1, 4, none⟩ (.string T2)).setCell ⟨w.heap.size + 1, 5, none⟩ (.int .u32 (oa : Int))).setCell ⟨w.heap.size + 1, 6, none⟩ (.int .i64 oh)).setCell ⟨w.heap.size + 1, 7, none⟩ (.int .u32 (oi : Int))).setCell ⟨w.heap.size + 1, 8, none⟩ (.bool fo)).cell? ⟨w.heap.size + 1, 3, none⟩ = some (.slice A2 n2 q2) := HF.out.cell 3
    have u4 : (((((((((((w2.setCell ⟨w.heap.size, 3, none⟩ (.slice A2 n2 q2)).setCell ⟨w.heap.size, 4, none⟩ (.string T2)).setCell ⟨w.heap.size + 1, 0, none⟩ (.int .i64 k)).setCell ⟨w.heap.size + 1, 1, none⟩ (.int .u32 (p : Int))).setCell ⟨w.heap.size + 1, 2, none⟩ (.int .i64 nn)).setCell ⟨w.heap.size + 1, 3, none⟩ (.slice A2 n2 q2)).setCell ⟨w.heap.size + 1, 4, none⟩ (.string T2)).setCell ⟨w.heap.size + 1, 5, none⟩ (.int .u32 (oa : Int))).setCell ⟨w.heap.size + 1, 6, none⟩ (.int .i64 oh)).setCell ⟨w.heap.size + 1, 7, none⟩ (.int .u32 (oi : Int))).setCell ⟨w.heap.size + 1, 8, none⟩ (.bool fo)).cell? ⟨w.heap.size + 1, 4, none⟩ = some (.string T2) := HF.out.cell 4
    have u5 : (((((((((((w2.setCell ⟨w.heap.size, 3, none⟩ (.slice A2 n2 q2)).setCell ⟨w.heap.size, 4, none⟩ (.string T2)).setCell ⟨w.heap.size + 1, 0, none⟩ (.int .i64 k)).setCell ⟨w.heap.size + 1, 1, none⟩ (.int .u32 (p : Int))).setCell ⟨w.heap.size + 1, 2, none⟩ (.int .i64 nn)).setCell ⟨w.heap.size + 1, 3, none⟩ (.slice A2 n2 q2)).setCell ⟨w.heap.size + 1, 4, none⟩ (.string T2)).setCell ⟨w.heap.size + 1, 5, none⟩ (.int .u32 (oa : Int))).setCell ⟨w.heap.size + 1, 6, none⟩ (.int .i64 oh)).setCell ⟨w.heap.size + 1, 7, none⟩ (.int .u32 (oi : Int))).setCell ⟨w.heap.size + 1, 8, none⟩ (.bool fo)).cell? ⟨w.heap.size + 1, 5, none⟩ = some (.int .u32 (oa : Int)) := HF.out.cell 5
    have u6 : (((((((((((w2.setCell ⟨w.heap.size, 3, none⟩ (.slice A2 n2 q2)).setCell ⟨w.heap.size, 4, none⟩ (.string T2)).setCell ⟨w.heap.size + 1, 0, none⟩ (.int .i64 k)).setCell ⟨w.heap.size + 1, 1, none⟩ (.int .u32 (p : Int))).setCell ⟨w.heap.size + 1, 2, none⟩ (.int .i64 nn)).setCell ⟨w.heap.size + 1, 3, none⟩ (.slice A2 n2 q2)).setCell ⟨w.heap.size + 1, 4, none⟩ (.string T2)).setCell ⟨w.heap.size + 1, 5, none⟩ (.int .u32 (oa : Int))).setCell ⟨w.heap.size + 1, 6, none⟩ (.int .i64 oh)).setCell ⟨w.heap.size + 1, 7, none⟩ (.int .u32 (oi : Int))).setCell ⟨w.heap.size + 1, 8, none⟩ (.bool fo)).cell? ⟨w.heap.size + 1, 6, none⟩ = some (.int .i64 oh) := HF.out.cell 6
    have u7 : (((((((((((w2.setCell ⟨w.heap.size, 3, none⟩ (.slice A2 n2 q2)).setCell ⟨w.heap.size, 4, none⟩ (.string T2)).setCell ⟨w.heap.size + 1, 0, none⟩ (.int .i64 k)).setCell ⟨w.heap.size + 1, 1, none⟩ (.int .u32 (p : Int))).setCell ⟨w.heap.size + 1, 2, none⟩ (.int .i64 nn)).setCell ⟨w.heap.size + 1, 3, none⟩ (.slice A2 n2 q2)).setCell ⟨w.heap.size + 1, 4, none⟩ (.string T2)).setCell ⟨w.heap.size + 1, 5, none⟩ (.int .u32 (oa : Int))).setCell ⟨w.heap.size + 1, 6, none⟩ (.int .i64 oh)).setCell ⟨w.heap.size + 1, 7, none⟩ (.int .u32 (oi : Int))).setCell ⟨w.heap.size + 1, 8, none⟩ (.bool fo)).cell? ⟨w.heap.size + 1, 7, none⟩ = some (.int .u32 (oi : Int)) := HF.out.cell 7
    have u8 : (((((((((((w2.setCell ⟨w.heap.size, 3, none⟩ (.slice A2 n2 q2)).setCell ⟨w.heap.size, 4, none⟩ (.string T2)).setCell ⟨w.heap.size + 1, 0, none⟩ (.int .i64 k)).setCell ⟨w.heap.size + 1, 1, none⟩ (.int .u32 (p : Int))).setCell ⟨w.heap.size + 1, 2, none⟩ (.int .i64 nn)).setCell ⟨w.heap.size + 1, 3, none⟩ (.slice A2 n2 q2)).setCell ⟨w.heap.size + 1, 4, none⟩ (.string T2)).setCell ⟨w.heap.size + 1, 5, none⟩ (.int .u32 (oa : Int))).setCell ⟨w.heap.size + 1, 6, none⟩ (.int .i64 oh)).setCell ⟨w.heap.size + 1, 7, none⟩ (.int .u32 (oi : Int))).setCell ⟨w.heap.size + 1, 8, none⟩ (.bool fo)).cell? ⟨w.heap.size + 1, 8, none⟩ = some (.bool fo) := HF.out.cell 8
    have HMc : Hid (mvCut ⟨k, p, nn, b, t, oa, oh, oi, fo⟩ = ⟨k, p, nn, b2, t.take 1500, oa, oh, oi, fo⟩) := hide (by unfold mvCut; rw [HB2.out])
    refine bodyPost_ret (v := .agg #[.int .i64 k, .int .u32 (p : Int), .int .i64 nn, .slice A2 n2 q2, .string T2, .int .u32 (oa : Int), .int .i64 oh, .int .u32 (oi : Int), .bool fo]) (by simp [results, Tryz.results18, go_sem, u0, u1, u2, u3, u4, u5, u6, u7, u8]) rfl ⟨A2, n2, q2, ?_, ?_, ?_, HBF.out⟩
    · rw [HMc.out]; unfold mvV; simp only; rw [HT2.out]
    · rw [HMc.out]; exact HN2.out
    · rw [HMc.out]; exact own_baseLe HOF.out (by omega)
  · have HE : Hid (t.take 1500 = t) := hide (HNo.out (by rw [← HSz.out]; exact h1))
    go_wp2
    have HF : Hid (Blk ((((((((((w2.setCell ⟨w.heap.size, 3, none⟩ (.slice A2 n2 q2)).setCell ⟨w.heap.size + 1, 0, none⟩ (.int .i64 k)).setCell ⟨w.heap.size + 1, 1, none⟩ (.int .u32 (p : Int))).setCell ⟨w.heap.size + 1, 2, none⟩ (.int .i64 nn)).setCell ⟨w.heap.size + 1, 3, none⟩ (.slice A2 n2 q2)).setCell ⟨w.heap.size + 1, 4, none⟩ (.string T)).setCell ⟨w.heap.size + 1, 5, none⟩ (.int .u32 (oa : Int))).setCell ⟨w.heap.size + 1, 6, none⟩ (.int .i64 oh)).setCell ⟨w.heap.size + 1, 7, none⟩ (.int .u32 (oi : Int))).setCell ⟨w.heap.size + 1, 8, none⟩ (.bool fo)) (w.heap.size + 1) 32 #[.int .i64 k, .int .u32 (p : Int), .int .i64 nn, .slice A2 n2 q2, .string T, .int .u32 (oa : Int), .int .i64 oh, .int .u32 (oi : Int), .bool fo]) := hide (by
      have := setMv_blk (m := ⟨k, p, nn, b2, t, oa, oh, oi, fo⟩) (v := .slice A2 n2 q2) (HR2.out.far (p := ⟨w.heap.size, 3, none⟩) (by show w.heap.size + 1 ≠ w.heap.size; omega) (.slice A2 n2 q2))
      unfold setMv mvC at this
      simp only at this
      rw [HTT.out] at this
      exact this)
    have HOF : Hid (World.ownsRow ((((((((((w2.setCell ⟨w.heap.size, 3, none⟩ (.slice A2 n2 q2)).setCell ⟨w.heap.size + 1, 0, none⟩ (.int .i64 k)).setCell ⟨w.heap.size + 1, 1, none⟩ (.int .u32 (p : Int))).setCell ⟨w.heap.size + 1, 2, none⟩ (.int .i64 nn)).setCell ⟨w.heap.size + 1, 3, none⟩ (.slice A2 n2 q2)).setCell ⟨w.heap.size + 1, 4, none⟩ (.string T)).setCell ⟨w.heap.size + 1, 5, none⟩ (.int .u32 (oa : Int))).setCell ⟨w.heap.size + 1, 6, none⟩ (.int .i64 oh)).setCell ⟨w.heap.size + 1, 7, none⟩ (.int .u32 (oi : Int))).setCell ⟨w.heap.size + 1, 8, none⟩ (.bool fo)) (w.heap.size + 2) 5 1 (.slice A2 n2 q2) n2 (byB b2)) := hide (by
      have := setMv_own (R := w.heap.size + 1) (m := ⟨k, p, nn, b2, t, oa, oh, oi, fo⟩) (v := .slice A2 n2 q2) (own_set (g := w.heap.size) (i := 3) HO.out (fun e => by have := own_low_block HO.out _ e; omega) (.slice A2 n2 q2)) (fun e => by have := own_low_block HO.out _ e; omega)
      unfold setMv at this
      simp only at this
      rw [HTT.out] at this
      exact this)
    have HBF : Hid (Below w.heap.size w ((((((((((w2.setCell ⟨w.heap.size, 3, none⟩ (.slice A2 n2 q2)).setCell ⟨w.heap.size + 1, 0, none⟩ (.int .i64 k)).setCell ⟨w.heap.size + 1, 1, none⟩ (.int .u32 (p : Int))).setCell ⟨w.heap.size + 1, 2, none⟩ (.int .i64 nn)).setCell ⟨w.heap.size + 1, 3, none⟩ (.slice A2 n2 q2)).setCell ⟨w.heap.size + 1, 4, none⟩ (.string T)).setCell ⟨w.heap.size + 1, 5, none⟩ (.int .u32 (oa : Int))).setCell ⟨w.heap.size + 1, 6, none⟩ (.int .i64 oh)).setCell ⟨w.heap.size + 1, 7, none⟩ (.int .u32 (oi : Int))).setCell ⟨w.heap.size + 1, 8, none⟩ (.bool fo))) := hide (by
      have := setMv_below (R := w.heap.size + 1) (m := ⟨k, p, nn, b2, t, oa, oh, oi, fo⟩) (v := .slice A2 n2 q2) (HBw.out.setCell (p := ⟨w.heap.size, 3, none⟩) (Nat.le_refl _) (.slice A2 n2 q2)) (Nat.le_succ _)
      unfold setMv at this
      simp only at this
      rw [HTT.out] at this
      exact this)
    have u0 : ((((((((((w2.setCell ⟨w.heap.size, 3, none⟩ (.slice A2 n2 q2)).setCell ⟨w.heap.size + 1, 0, none⟩ (.int .i64 k)).setCell ⟨w.heap.size + 1, 1, none⟩ (.int .u32 (p : Int))).setCell ⟨w.heap.size + 1, 2, none⟩ (.int .i64 nn)).setCell ⟨w.heap.size + 1, 3, none⟩ (.slice A2 n2 q2)).setCell ⟨w.heap.size + 1, 4, none⟩ (.string T)).setCell ⟨w.heap.size + 1, 5, none⟩ (.int .u32 (oa : Int))).setCell ⟨w.heap.size + 1, 6, none⟩ (.int .i64 oh)).setCell ⟨w.heap.size + 1, 7, none⟩ (.int .u32 (oi : Int))).setCell ⟨w.heap.size + 1, 8, none⟩ (.bool fo)).cell? ⟨w.heap.size + 1, 0, none⟩ = some (.int .i64 k) := HF.out.cell 0
    have u1 : ((((((((((w2.setCell ⟨w.heap.size, 3, none⟩ (.slice A2 n2 q2)).setCell ⟨w.heap.size + 1, 0, none⟩ (.int .i64 k)).setCell ⟨w.heap.size + 1, 1, none⟩ (.int .u32 (p : Int))).setCell ⟨w.heap.size + 1, 2, none⟩ (.int .i64 nn)).setCell ⟨w.heap.size + 1, 3, none⟩ (.slice A2 n2 q2)).setCell ⟨w.heap.size + 1, 4, none⟩ (.string T)).setCell ⟨w.heap.size + 1, 5, none⟩ (.int .u32 (oa : Int))).setCell ⟨w.heap.size + 1, 6, none⟩ (.int .i64 oh)).setCell ⟨w.heap.size + 1, 7, none⟩ (.int .u32 (oi : Int))).setCell ⟨w.heap.size + 1, 8, none⟩ (.bool fo)).cell? ⟨w.heap.size + 1, 1, none⟩ = some (.int .u32 (p : Int)) := HF.out.cell 1
    have u2 : ((((((((((w2.setCell ⟨w.heap.size, 3, none⟩ (.slice A2 n2 q2)).setCell ⟨w.heap.size + 1, 0, none⟩ (.int .i64 k)).setCell ⟨w.heap.size + 1, 1, none⟩ (.int .u32 (p : Int))).setCell ⟨w.heap.size + 1, 2, none⟩ (.int .i64 nn)).setCell ⟨w.heap.size + 1, 3, none⟩ (.slice A2 n2 q2)).setCell ⟨w.heap.size + 1, 4, none⟩ (.string T)).setCell ⟨w.heap.size + 1, 5, none⟩ (.int .u32 (oa : Int))).setCell ⟨w.heap.size + 1, 6, none⟩ (.int .i64 oh)).setCell ⟨w.heap.size + 1, 7, none⟩ (.int .u32 (oi : Int))).setCell ⟨w.heap.size + 1, 8, none⟩ (.bool fo)).cell? ⟨w.heap.size + 1, 2, none⟩ = some (.int .i64 nn) := HF.out.cell 2
    have u3 : ((((((((((w2.setCell ⟨w.heap.size, 3, none⟩ (.slice A2 n2 q2)).setCell ⟨w.heap.size + 1, 0, none⟩ (.int .i64 k)).setCell ⟨w.heap.size + 1, 1, none⟩ (.int .u32 (p : Int))).setCell ⟨w.heap.size + 1, 2, none⟩ (.int .i64 nn)).setCell ⟨w.heap.size + 1, 3, none⟩ (.slice A2 n2 q2)).setCell ⟨w.heap.size + 1, 4, none⟩ (.string T)).setCell ⟨w.heap.size + 1, 5, none⟩ (.int .u32 (oa : Int))).setCell ⟨w.heap.size + 1, 6, none⟩ (.int .i64 oh)).setCell ⟨w.heap.size + 1, 7, none⟩ (.int .u32 (oi : Int))).setCell ⟨w.heap.size + 1, 8, none⟩ (.bool fo)).cell? ⟨w.heap.size + 1, 3, none⟩ = some (.slice A2 n2 q2) := HF.out.cell 3
    have u4 : ((((((((((w2.setCell ⟨w.heap.size, 3, none⟩ (.slice A2 n2 q2)).setCell ⟨w.heap.size + 1, 0, none⟩ (.int .i64 k)).setCell ⟨w.heap.size + 1, 1, none⟩ (.int .u32 (p : Int))).setCell ⟨w.heap.size + 1, 2, none⟩ (.int .i64 nn)).setCell ⟨w.heap.size + 1, 3, none⟩ (.slice A2 n2 q2)).setCell ⟨w.heap.size + 1, 4, none⟩ (.string T)).setCell ⟨w.heap.size + 1, 5, none⟩ (.int .u32 (oa : Int))).setCell ⟨w.heap.size + 1, 6, none⟩ (.int .i64 oh)).setCell ⟨w.heap.size + 1, 7, none⟩ (.int .u32 (oi : Int))).setCell ⟨w.heap.size + 1, 8, none⟩ (.bool fo)).cell? ⟨w.heap.size + 1, 4, none⟩ = some (.string T) := HF.out.cell 4
    have u5 : ((((((((((w2.setCell ⟨w.heap.size, 3, none⟩ (.slice A2 n2 q2)).setCell ⟨w.heap.size + 1, 0, none⟩ (.int .i64 k)).setCell ⟨w.heap.size + 1, 1, none⟩ (.int .u32 (p : Int))).setCell ⟨w.heap.size + 1, 2, none⟩ (.int .i64 nn)).setCell ⟨w.heap.size + 1, 3, none⟩ (.slice A2 n2 q2)).setCell ⟨w.heap.size + 1, 4, none⟩ (.string T)).setCell ⟨w.heap.size + 1, 5, none⟩ (.int .u32 (oa : Int))).setCell ⟨w.heap.size + 1, 6, none⟩ (.int .i64 oh)).setCell ⟨w.heap.size + 1, 7, none⟩ (.int .u32 (oi : Int))).setCell ⟨w.heap.size + 1, 8, none⟩ (.bool fo)).cell? ⟨w.heap.size + 1, 5, none⟩ = some (.int .u32 (oa : Int)) := HF.out.cell 5
    have u6 : ((((((((((w2.setCell ⟨w.heap.size, 3, none⟩ (.slice A2 n2 q2)).setCell ⟨w.heap.size + 1, 0, none⟩ (.int .i64 k)).setCell ⟨w.heap.size + 1, 1, none⟩ (.int .u32 (p : Int))).setCell ⟨w.heap.size + 1, 2, none⟩ (.int .i64 nn)).setCell ⟨w.heap.size + 1, 3, none⟩ (.slice A2 n2 q2)).setCell ⟨w.heap.size + 1, 4, none⟩ (.string T)).setCell ⟨w.heap.size + 1, 5, none⟩ (.int .u32 (oa : Int))).setCell ⟨w.heap.size + 1, 6, none⟩ (.int .i64 oh)).setCell ⟨w.heap.size + 1, 7, none⟩ (.int .u32 (oi : Int))).setCell ⟨w.heap.size + 1, 8, none⟩ (.bool fo)).cell? ⟨w.heap.size + 1, 6, none⟩ = some (.int .i64 oh) := HF.out.cell 6
    have u7 : ((((((((((w2.setCell ⟨w.heap.size, 3, none⟩ (.slice A2 n2 q2)).setCell ⟨w.heap.size + 1, 0, none⟩ (.int .i64 k)).setCell ⟨w.heap.size + 1, 1, none⟩ (.int .u32 (p : Int))).setCell ⟨w.heap.size + 1, 2, none⟩ (.int .i64 nn)).setCell ⟨w.heap.size + 1, 3, none⟩ (.slice A2 n2 q2)).setCell ⟨w.heap.size + 1, 4, none⟩ (.string T)).setCell ⟨w.heap.size + 1, 5, none⟩ (.int .u32 (oa : Int))).setCell ⟨w.heap.size + 1, 6, none⟩ (.int .i64 oh)).setCell ⟨w.heap.size + 1, 7, none⟩ (.int .u32 (oi : Int))).setCell ⟨w.heap.size + 1, 8, none⟩ (.bool fo)).cell? ⟨w.heap.size + 1, 7, none⟩ = some (.int .u32 (oi : Int)) := HF.out.cell 7
    have u8 : ((((((((((w2.setCell ⟨w.heap.size, 3, none⟩ (.slice A2 n2 q2)).setCell ⟨w.heap.size + 1, 0, none⟩ (.int .i64 k)).setCell ⟨w.heap.size + 1, 1, none⟩ (.int .u32 (p : Int))).setCell ⟨w.heap.size + 1, 2, none⟩ (.int .i64 nn)).setCell ⟨w.heap.size + 1, 3, none⟩ (.slice A2 n2 q2)).setCell ⟨w.heap.size + 1, 4, none⟩ (.string T)).setCell ⟨w.heap.size + 1, 5, none⟩ (.int .u32 (oa : Int))).setCell ⟨w.heap.size + 1, 6, none⟩ (.int .i64 oh)).setCell ⟨w.heap.size + 1, 7, none⟩ (.int .u32 (oi : Int))).setCell ⟨w.heap.size + 1, 8, none⟩ (.bool fo)).cell? ⟨w.heap.size + 1, 8, none⟩ = some (.bool fo) := HF.out.cell 8
    have HMc : Hid (mvCut ⟨k, p, nn, b, t, oa, oh, oi, fo⟩ = ⟨k, p, nn, b2, t, oa, oh, oi, fo⟩) := hide (by unfold mvCut; rw [HB2.out]; simp only; rw [HE.out])
    refine bodyPost_ret (v := .agg #[.int .i64 k, .int .u32 (p : Int), .int .i64 nn, .slice A2 n2 q2, .string T, .int .u32 (oa : Int), .int .i64 oh, .int .u32 (oi : Int), .bool fo]) (by simp [results, Tryz.results18, go_sem, u0, u1, u2, u3, u4, u5, u6, u7, u8]) rfl ⟨A2, n2, q2, ?_, ?_, ?_, HBF.out⟩
    · rw [HMc.out]; unfold mvV; simp only; rw [HTT.out]
    · rw [HMc.out]; exact HN2.out
    · rw [HMc.out]; exact own_baseLe HOF.out (by omega)
end Go.Proofs.YtlfknndpbejbcaaGreatDoor
set_option linter.unusedSimpArgs false
set_option linter.unusedVariables false
namespace Go.Proofs.YtlfknndpbejbcaaGreatDoor
open Go.RowKit Go.WideShapes Go.ChangeShapes Go.ChangeAt
theorem gSp : Tryz.prog.globalNamed "strings.asciiSpace" = some 0 := by kernel_rfl
theorem gSpType : (Tryz.prog.globals[0]?).map (·.type) = some 99 := by kernel_rfl
theorem cells256 : Tryz.prog.cellsOf 99 = 256 := by kernel_rfl
theorem cells8 : Tryz.prog.cellsOf 5 = 1 := by kernel_rfl
theorem spData : (Rows.laid_strings_asciiSpace : DataW Unit) = Lib.tabData .u8 Lib.asciiSpaceTab := by kernel_rfl
theorem sp_of_laid {W : World} {laid : List (String × DataW Unit)} (hh : (laid.all fun x => x.2.handleName?.isNone) = true) (hm : ("strings.asciiSpace", Rows.laid_strings_asciiSpace) ∈ laid) (h : laidMetH Tryz.prog laid W) : SpTab W := by
  rw [MakeChecks.laidMetH_plain _ _ _ hh] at h
  rw [spData] at hm
  exact tabIs_of_mem (zs := Lib.asciiSpaceTab) gSp gSpType Tryz.underlying99 Tryz.underlying5 cells8 cells256 h hm
theorem bytes_open {H : Type} {enc : TypeId × Value → H} {W : World} {A : Option Addr} {n c : Nat} {d : DataW H} {p : List MemPlace}
    (h : DataW.Trod enc Tryz.prog W 0 (fun _ => true) true 28 (.slice A n c) d p) : ∃ l, LstAt 1 byR W A n c l := by
  obtain ⟨fuel, hf⟩ := h
  obtain ⟨A', n', c', l, e, hl⟩ := lst_open (R := byR) (sz := 1) Tryz.underlying28 cells8 (by decide) (fun f cs x hx => by
    obtain ⟨z, e, _, w⟩ := DataW.trod_int Tryz.underlying5 hx
    have c0 : 0 ≤ z ∧ z ≤ 255 := by simpa [Lit.wf, IntKind.min, IntKind.max, IntKind.signed, IntKind.bits] using w
    refine ⟨UInt8.ofNat z.toNat, ?_⟩
    unfold byR
    rw [e, UInt8.toNat_ofNat']
    congr 2
    omega) hf
  have e2 : Value.slice A n c = .slice A' n' c' := by simpa [Value.cells] using e
  injection e2 with e1 e2 e3
  subst e1 e2 e3
  exact ⟨l, hl⟩
end Go.Proofs.YtlfknndpbejbcaaGreatDoor
set_option linter.unusedSimpArgs false
set_option linter.unusedVariables false
namespace Go.Proofs.YtlfknndpbejbcaaGreatDoor
open Go.RowKit Go.WideShapes Go.ChangeShapes Go.ChangeAt
def mvP (w : World) (vs : List Value) (m : MV) : Prop := ∃ A n c, vs = mvC m (.slice A n c) ∧ LstAt 1 byR w A n c m.b ∧ MvOk m ∧ m.t.length ≤ 9223372036854775807
set_option maxRecDepth 100000 in
set_option maxHeartbeats 4000000 in
theorem mv_opens {H : Type} {enc : TypeId × Value → H} {W : World} {f : Nat} {cs : List Value} {x : DataW H × List MemPlace} (h : DataW.trod enc Tryz.prog W 0 (fun _ => true) true f 32 cs = some x) : ∃ y, mvP W cs y := by
  obtain ⟨xs, n, _, rfl, hl, hlen, hf⟩ := DataW.trod_struct Tryz.underlying32 h
  have c9 : Tryz.prog.cellsOf 32 = 9 := by kernel_rfl
  have c4 : Tryz.prog.cellsOf 30 = 4 := by kernel_rfl
  rw [c9] at hl
  match xs, hlen with
  | [y0, y1, y2, y3, y4, y5], _ =>
  match cs, hl with
  | [v0, v1, v2, v3, v4, v5, v6, v7, v8], _ =>
    have h0 : DataW.trod enc Tryz.prog W 0 (fun _ => true) true n 3 [v0] = some y0 := hf 0 _ rfl
    have h1 : DataW.trod enc Tryz.prog W 0 (fun _ => true) true n 27 [v1] = some y1 := hf 1 _ rfl
    have h2 : DataW.trod enc Tryz.prog W 0 (fun _ => true) true n 3 [v2] = some y2 := hf 2 _ rfl
    have h3 : DataW.trod enc Tryz.prog W 0 (fun _ => true) true n 28 [v3] = some y3 := hf 3 _ rfl
    have h4 : DataW.trod enc Tryz.prog W 0 (fun _ => true) true n 9 [v4] = some y4 := hf 4 _ rfl
    have h5 : DataW.trod enc Tryz.prog W 0 (fun _ => true) true n 30 [v5, v6, v7, v8] = some y5 := hf 5 _ rfl
    clear hf
    obtain ⟨zs, n2, rfl, rfl, hl2, hlen2, hf2⟩ := DataW.trod_struct Tryz.underlying30 h5
    match zs, hlen2 with
    | [z0, z1, z2, z3], _ =>
      have g0 : DataW.trod enc Tryz.prog W 0 (fun _ => true) true n2 27 [v5] = some z0 := hf2 0 _ rfl
      have g1 : DataW.trod enc Tryz.prog W 0 (fun _ => true) true n2 3 [v6] = some z1 := hf2 1 _ rfl
      have g2 : DataW.trod enc Tryz.prog W 0 (fun _ => true) true n2 27 [v7] = some z2 := hf2 2 _ rfl
      have g3 : DataW.trod enc Tryz.prog W 0 (fun _ => true) true n2 4 [v8] = some z3 := hf2 3 _ rfl
      clear hf2 h5
      obtain ⟨k, e0, _, w0⟩ := DataW.trod_int Tryz.underlying3 h0
      obtain ⟨p, e1, _, w1⟩ := DataW.trod_int Tryz.underlying27 h1
      obtain ⟨nn, e2, _, w2⟩ := DataW.trod_int Tryz.underlying3 h2
      have h3' : ∃ A n c, v3 = .slice A n c := by
        rcases DataW.trod_slice Tryz.underlying28 h3 with ⟨e, _⟩ | ⟨a, len, cap, elems, rest, n, _, e, _⟩
        · exact ⟨none, 0, 0, by simpa using e⟩
        · exact ⟨some a, len, cap, by simpa using e⟩
      obtain ⟨A, m, c, rfl⟩ := h3'
      obtain ⟨l, hl⟩ := bytes_open (A := A) (n := m) (c := c) ⟨n2 + 1, by simpa [Value.cells] using h3⟩
      obtain ⟨s, e4, _, w4⟩ := DataW.trod_string Tryz.underlying9 h4
      obtain ⟨oa, e5, _, w5⟩ := DataW.trod_int Tryz.underlying27 g0
      obtain ⟨oh, e6, _, w6⟩ := DataW.trod_int Tryz.underlying3 g1
      obtain ⟨oi, e7, _, w7⟩ := DataW.trod_int Tryz.underlying27 g2
      obtain ⟨fo, e8, _⟩ := DataW.trod_bool Tryz.underlying4 g3
      simp only [List.cons.injEq, and_true] at e0 e1 e2 e4 e5 e6 e7 e8
      subst e0 e1 e2 e4 e5 e6 e7 e8
      have b1 : 0 ≤ p ∧ p ≤ 4294967295 := by simpa [Lit.wf, IntKind.min, IntKind.max, IntKind.signed, IntKind.bits] using w1
      have b5 : 0 ≤ oa ∧ oa ≤ 4294967295 := by simpa [Lit.wf, IntKind.min, IntKind.max, IntKind.signed, IntKind.bits] using w5
      have b7 : 0 ≤ oi ∧ oi ≤ 4294967295 := by simpa [Lit.wf, IntKind.min, IntKind.max, IntKind.signed, IntKind.bits] using w7
      have b0 : -9223372036854775808 ≤ k ∧ k ≤ 9223372036854775807 := by simpa [Lit.wf, IntKind.min, IntKind.max, IntKind.signed, IntKind.bits] using w0
      have b2 : -9223372036854775808 ≤ nn ∧ nn ≤ 9223372036854775807 := by simpa [Lit.wf, IntKind.min, IntKind.max, IntKind.signed, IntKind.bits] using w2
      have b6 : -9223372036854775808 ≤ oh ∧ oh ≤ 9223372036854775807 := by simpa [Lit.wf, IntKind.min, IntKind.max, IntKind.signed, IntKind.bits] using w6
      obtain ⟨p', rfl⟩ := Int.eq_ofNat_of_zero_le b1.1
      obtain ⟨oa', rfl⟩ := Int.eq_ofNat_of_zero_le b5.1
      obtain ⟨oi', rfl⟩ := Int.eq_ofNat_of_zero_le b7.1
      refine ⟨⟨k, p', nn, l, s.data.toList, oa', oh, oi', fo⟩, A, m, c, ?_, hl, ⟨by show p' < _; omega, by show oa' < _; omega, by show oi' < _; omega, b0, b2, b6⟩, ?_⟩
      · unfold mvC
        simp only
        rw [str_of]
      · have : s.data.toList.length = s.size := by rw [Array.length_toList]; rfl
        unfold maxLen at w4
        simp only
        omega
end Go.Proofs.YtlfknndpbejbcaaGreatDoor
set_option linter.unusedSimpArgs false
set_option linter.unusedVariables false
namespace Go.Proofs.YtlfknndpbejbcaaGreatDoor
open Go.RowKit Go.WideShapes Go.ChangeShapes
attribute [local go_sem] Oper.semAt_some
set_option maxRecDepth 100000 in
set_option maxHeartbeats 4000000 in
theorem scGood_any (m : MV) (A : Option Addr) (n c : Nat) (w : World) (hb : m.b.length = n) (ht : m.t.length ≤ 9223372036854775807) :
    Calls Tryz.prog 21 #[mvV m (.slice A n c)] w (GoodP (mvGood m) w) := by
  obtain ⟨k, p, nn, b, t, oa, oh, oi, fo⟩ := m
  have HBx : Hid (Below w.heap.size w (w.alloc (.cells #[.int .i64 k, .int .u32 (p : Int), .int .i64 nn, .slice A n c, .string (str t), .int .u32 (oa : Int), .int .i64 oh, .int .u32 (oi : Int), .bool fo] 32))) := hide ((Below.refl _ w).alloc (Nat.le_refl _) _)
  have HGo := hide (sgood_any ⟨k, p, nn, b, t, oa, oh, oi, fo⟩ A n c (w.alloc (.cells #[.int .i64 k, .int .u32 (p : Int), .int .i64 nn, .slice A n c, .string (str t), .int .u32 (oa : Int), .int .i64 oh, .int .u32 (oi : Int), .bool fo] 32)) hb ht)
  have Hb := hide hb
  clear hb
  unfold mvV
  simp only
  go_enter Tryz.func21, Tryz.ntmps21
  go_wp2_with fail
  refine HGo.out.mono ?_
  rintro e w2 ⟨rfl, hb2⟩
  have HB2 := hide (HBx.out.trans (hb2.mono HBx.out.size))
  clear hb2
  go_wp2
  go_ret
  exact ⟨rfl, HB2.out⟩
def ShowP (m : MV) (w : World) (e : Ending) (w' : World) : Prop := ((mvGood m = false ∧ e = .returned (.tuple #[.slice none 0 0, .int .i64 2])) ∨ (mvGood m = true ∧ ∃ A n c, e = .returned (.tuple #[.slice A n c, .int .i64 0]) ∧ n = (shownM m).length ∧ w'.ownsRow w.heap.size 9 1 (.slice A n c) n (strv (shownM m)))) ∧ Below w.heap.size w w'
set_option maxRecDepth 100000 in
set_option maxHeartbeats 4000000 in
theorem scShow_any (m : MV) (A : Option Addr) (n c : Nat) (w : World) (h : LstAt 1 byR w A n c m.b) (ok : MvOk m) (ht : m.t.length ≤ 9223372036854775807) (he : Env w) (hsp : SpTab w) :
    Calls Tryz.prog 20 #[mvV m (.slice A n c)] w (ShowP m w) := by
  have HLs := hide h
  have HOk := hide ok
  have HEn := hide he
  have HTb := hide hsp
  obtain ⟨k, p, nn, b, t, oa, oh, oi, fo⟩ := m
  have HK : Hid (Blk (w.alloc (.cells #[.int .i64 k, .int .u32 (p : Int), .int .i64 nn, .slice A n c, .string (str t), .int .u32 (oa : Int), .int .i64 oh, .int .u32 (oi : Int), .bool fo] 32)) w.heap.size 32 #[.int .i64 k, .int .u32 (p : Int), .int .i64 nn, .slice A n c, .string (str t), .int .u32 (oa : Int), .int .i64 oh, .int .u32 (oi : Int), .bool fo]) := hide (Blk.new w _ _)
  have HBx : Hid (Below w.heap.size w (w.alloc (.cells #[.int .i64 k, .int .u32 (p : Int), .int .i64 nn, .slice A n c, .string (str t), .int .u32 (oa : Int), .int .i64 oh, .int .u32 (oi : Int), .bool fo] 32))) := hide ((Below.refl _ w).alloc (Nat.le_refl _) _)
  have HGo := hide (sgood_any ⟨k, p, nn, b, t, oa, oh, oi, fo⟩ A n c (w.alloc (.cells #[.int .i64 k, .int .u32 (p : Int), .int .i64 nn, .slice A n c, .string (str t), .int .u32 (oa : Int), .int .i64 oh, .int .u32 (oi : Int), .bool fo] 32)) h.1 ht)
  clear h ok he hsp
  unfold mvV
  simp only
  go_enter Tryz.func20, Tryz.ntmps20
  go_wp2_with fail
  refine HGo.out.mono ?_
  rintro e w2 ⟨rfl, hb2⟩
  have HB2 := hide (HBx.out.trans (hb2.mono HBx.out.size))
  have HK2 := hide (HK.out.below hb2 (by simp))
  have hs2 := HB2.out.size
  have hl2 : w.heap.size < w2.heap.size := HK2.out.lt
  have d0 : w2.cell? ⟨w.heap.size, 0, none⟩ = some (.int .i64 k) := HK2.out.cell 0
  have d1 : w2.cell? ⟨w.heap.size, 1, none⟩ = some (.int .u32 (p : Int)) := HK2.out.cell 1
  have d2 : w2.cell? ⟨w.heap.size, 2, none⟩ = some (.int .i64 nn) := HK2.out.cell 2
  have d3 : w2.cell? ⟨w.heap.size, 3, none⟩ = some (.slice A n c) := HK2.out.cell 3
  have d4 : w2.cell? ⟨w.heap.size, 4, none⟩ = some (.string (str t)) := HK2.out.cell 4
  have d5 : w2.cell? ⟨w.heap.size, 5, none⟩ = some (.int .u32 (oa : Int)) := HK2.out.cell 5
  have d6 : w2.cell? ⟨w.heap.size, 6, none⟩ = some (.int .i64 oh) := HK2.out.cell 6
  have d7 : w2.cell? ⟨w.heap.size, 7, none⟩ = some (.int .u32 (oi : Int)) := HK2.out.cell 7
  have d8 : w2.cell? ⟨w.heap.size, 8, none⟩ = some (.bool fo) := HK2.out.cell 8
  clear hb2
  cases hgm : mvGood ⟨k, p, nn, b, t, oa, oh, oi, fo⟩
  · have HGm := hide hgm
    clear hgm
    go_wp2
    go_ret2
    exact ⟨.inl ⟨HGm.out, rfl⟩, HB2.out⟩
  · have HGm := hide hgm
    have HSh := hide (shown_any ⟨k, p, nn, b, t, oa, oh, oi, fo⟩ A n c w2 (HLs.out.below byMono HB2.out) HOk.out HGm.out (HEn.out.below HB2.out) (HTb.out.below HB2.out))
    clear hgm
    go_wp2_with fail
    refine HSh.out.mono ?_
    rintro e w3 ⟨A2, n2, c2, rfl, hn2, hown, hb3⟩
    have HB3 := hide (HB2.out.trans (hb3.mono hs2))
    have HO := hide (own_baseLe hown hs2)
    have HN := hide hn2
    clear hb3 hown hn2
    go_wp2
    go_ret2
    exact ⟨.inr ⟨HGm.out, _, _, _, rfl, HN.out, HO.out⟩, HB3.out⟩
end Go.Proofs.YtlfknndpbejbcaaGreatDoor
set_option linter.unusedSimpArgs false
set_option linter.unusedVariables false
namespace Go.Proofs.YtlfknndpbejbcaaGreatDoor
open Go.RowKit Go.WideShapes Go.ChangeShapes
attribute [local go_sem] Oper.semAt_some
theorem clone_by {w : World} {A : Option Addr} {n c : Nat} {l : List UInt8} (h : LstAt 1 byR w A n c l) (hbig : n ≤ 140737488355328) :
    Calls Tryz.prog 52 #[.slice A n c] w fun e w' => ∃ A' n' c', e = .returned (.slice A' n' c') ∧ l.length = n' ∧ w'.ownsRow w.heap.size 5 1 (.slice A' n' c') n' (byB l) ∧ Below w.heap.size w w' := by
  have e : (l.map fun x => (x.toNat : Int)).map (Value.int .u8) = byB l := by unfold byB; rw [List.map_map]; rfl
  cases A with
  | none =>
    have hn : n = 0 := by
      rcases Nat.eq_zero_or_pos n with h0 | h0
      · exact h0
      · obtain ⟨g, o, hA, _⟩ := h.2.2.2 h0; cases hA
    subst hn
    obtain rfl : l = [] := List.eq_nil_of_length_eq_zero h.1
    refine (Tryz.bytes_Clone_nil 0 c w).mono ?_
    rintro e w' ⟨rfl, rfl⟩
    exact ⟨none, 0, 0, rfl, rfl, ⟨rfl, .inl ⟨rfl, rfl⟩⟩, Below.refl _ _⟩
  | some a =>
    refine (Tryz.bytes_Clone_at a n c (l.map fun x => (x.toNat : Int)) w (by rw [List.length_map]; exact h.1) hbig (fun i hi => ?_)).mono ?_
    · obtain ⟨g, o, hA, hg, hc⟩ := h.2.2.2 (by omega)
      cases hA
      have hi2 : i < l.length := by rw [h.1]; exact hi
      obtain ⟨vs, _, rfl, h3⟩ := hc i l[i] (List.getElem?_eq_getElem hi2)
      have h4 := h3 0 _ rfl
      have e : (⟨g, o, none⟩ : Addr).add i = ⟨g, o + i, none⟩ := by unfold Addr.add; split <;> simp_all
      rw [e]
      have e2 : (l.map fun x => (x.toNat : Int)).getD i 0 = (l[i].toNat : Int) := by simp [hi2]
      rw [e2]
      simpa using h4
    · rintro e2 w' ⟨v', rfl, hown, _, hb⟩
      rw [e] at hown
      obtain ⟨A', c', rfl⟩ := own_slice hown
      exact ⟨A', n, c', rfl, h.1, hown, hb⟩
def OnlyP (m : MV) (w : World) (e : Ending) (w' : World) : Prop := ∃ A n c, e = .returned (mvV (mvOnly m) (.slice A n c)) ∧ LstAt 1 byR w' A n c (mvOnly m).b ∧ Below w.heap.size w w'
set_option maxRecDepth 100000 in
set_option maxHeartbeats 8000000 in
theorem sconly_any (m : MV) (A : Option Addr) (n c : Nat) (w : World) (h : LstAt 1 byR w A n c m.b) (hbig : n ≤ 140737488355328) : Calls Tryz.prog 33 #[mvV m (.slice A n c)] w (OnlyP m w) := by
  obtain ⟨k, p, nn, b, t, oa, oh, oi, fo⟩ := m
  simp only at h
  have HLs := hide h
  have HB : Hid (∀ o1 o2 o3 : Obj, Below w.heap.size w (((w.alloc o1).alloc o2).alloc o3)) := hide (fun o1 o2 o3 => (((Below.refl _ w).alloc (Nat.le_refl _) _).alloc (by simp) _).alloc (by simp; omega) _)
  have hnc := h.2.1
  clear h
  unfold mvV
  simp only
  by_cases h6 : k = 6
  · subst h6
    go_enter Tryz.func33, Tryz.ntmps33
    go_wp2
    refine bodyPost_ret (v := .agg #[.int .i64 6, .int .u32 0, .int .i64 0, .slice none 0 0, .string ⟨#[]⟩, .int .u32 0, .int .i64 0, .int .u32 0, .bool false]) (by simp [results, Tryz.results33, go_sem]) rfl ⟨none, 0, 0, by simp [mvOnly, mvV, str], by simp only [mvOnly]; exact LstAt.none_, HB.out _ _ _⟩
  have e6 : (k == 6) = false := by simpa using h6
  by_cases h7 : k = 7
  · subst h7
    go_enter Tryz.func33, Tryz.ntmps33
    go_wp2
    refine bodyPost_ret (v := .agg #[.int .i64 7, .int .u32 0, .int .i64 0, .slice none 0 0, .string (str t), .int .u32 0, .int .i64 0, .int .u32 0, .bool false]) (by simp [results, Tryz.results33, go_sem]) rfl ⟨none, 0, 0, by simp [mvOnly, mvV, str], by simp only [mvOnly]; exact LstAt.none_, HB.out _ _ _⟩
  have e7 : (k == 7) = false := by simpa using h7
  by_cases h8 : k = 8
  · subst h8
    go_enter Tryz.func33, Tryz.ntmps33
    go_wp2
    refine bodyPost_ret (v := .agg #[.int .i64 8, .int .u32 (p : Int), .int .i64 nn, .slice none 0 0, .string ⟨#[]⟩, .int .u32 0, .int .i64 0, .int .u32 0, .bool false]) (by simp [results, Tryz.results33, go_sem]) rfl ⟨none, 0, 0, by simp [mvOnly, mvV, str], by simp only [mvOnly]; exact LstAt.none_, HB.out _ _ _⟩
  have e8 : (k == 8) = false := by simpa using h8
  by_cases h9 : k = 9
  · subst h9
    go_enter Tryz.func33, Tryz.ntmps33
    go_wp2
    refine bodyPost_ret (v := .agg #[.int .i64 9, .int .u32 (p : Int), .int .i64 0, .slice none 0 0, .string ⟨#[]⟩, .int .u32 (oa : Int), .int .i64 oh, .int .u32 (oi : Int), .bool fo]) (by simp [results, Tryz.results33, go_sem]) rfl ⟨none, 0, 0, by simp [mvOnly, mvV, str], by simp only [mvOnly]; exact LstAt.none_, HB.out _ _ _⟩
  have e9 : (k == 9) = false := by simpa using h9
  by_cases h5 : k = 5
  · subst h5
    have HB0 := hide (HB.out (.cells #[.int .i64 5, .int .u32 (p : Int), .int .i64 nn, .slice A n c, .string (str t), .int .u32 (oa : Int), .int .i64 oh, .int .u32 (oi : Int), .bool fo] 32) (.cells #[.int .i64 0, .int .u32 0, .int .i64 0, .slice none 0 0, .string ⟨#[]⟩, .int .u32 0, .int .i64 0, .int .u32 0, .bool false] 32) (.cells #[.int .i64 5, .int .u32 (p : Int), .int .i64 0, .slice none 0 0, .string ⟨#[]⟩, .int .u32 0, .int .i64 0, .int .u32 0, .bool false] 32))
    have HCl := hide (clone_by (HLs.out.below byMono HB0.out) hbig)
    have HK1 : Hid (Blk (((w.alloc (.cells #[.int .i64 5, .int .u32 (p : Int), .int .i64 nn, .slice A n c, .string (str t), .int .u32 (oa : Int), .int .i64 oh, .int .u32 (oi : Int), .bool fo] 32)).alloc (.cells #[.int .i64 0, .int .u32 0, .int .i64 0, .slice none 0 0, .string ⟨#[]⟩, .int .u32 0, .int .i64 0, .int .u32 0, .bool false] 32)).alloc (.cells #[.int .i64 5, .int .u32 (p : Int), .int .i64 0, .slice none 0 0, .string ⟨#[]⟩, .int .u32 0, .int .i64 0, .int .u32 0, .bool false] 32)) w.heap.size 32 #[.int .i64 5, .int .u32 (p : Int), .int .i64 nn, .slice A n c, .string (str t), .int .u32 (oa : Int), .int .i64 oh, .int .u32 (oi : Int), .bool fo]) := hide (((Blk.new w _ _).alloc _).alloc _)
    have HK2 : Hid (Blk (((w.alloc (.cells #[.int .i64 5, .int .u32 (p : Int), .int .i64 nn, .slice A n c, .string (str t), .int .u32 (oa : Int), .int .i64 oh, .int .u32 (oi : Int), .bool fo] 32)).alloc (.cells #[.int .i64 0, .int .u32 0, .int .i64 0, .slice none 0 0, .string ⟨#[]⟩, .int .u32 0, .int .i64 0, .int .u32 0, .bool false] 32)).alloc (.cells #[.int .i64 5, .int .u32 (p : Int), .int .i64 0, .slice none 0 0, .string ⟨#[]⟩, .int .u32 0, .int .i64 0, .int .u32 0, .bool false] 32)) (w.heap.size + 1) 32 #[.int .i64 0, .int .u32 0, .int .i64 0, .slice none 0 0, .string ⟨#[]⟩, .int .u32 0, .int .i64 0, .int .u32 0, .bool false]) := hide ((blk_new' _ _ (by simp)).alloc _)
    have HK3 : Hid (Blk (((w.alloc (.cells #[.int .i64 5, .int .u32 (p : Int), .int .i64 nn, .slice A n c, .string (str t), .int .u32 (oa : Int), .int .i64 oh, .int .u32 (oi : Int), .bool fo] 32)).alloc (.cells #[.int .i64 0, .int .u32 0, .int .i64 0, .slice none 0 0, .string ⟨#[]⟩, .int .u32 0, .int .i64 0, .int .u32 0, .bool false] 32)).alloc (.cells #[.int .i64 5, .int .u32 (p : Int), .int .i64 0, .slice none 0 0, .string ⟨#[]⟩, .int .u32 0, .int .i64 0, .int .u32 0, .bool false] 32)) (w.heap.size + 2) 32 #[.int .i64 5, .int .u32 (p : Int), .int .i64 0, .slice none 0 0, .string ⟨#[]⟩, .int .u32 0, .int .i64 0, .int .u32 0, .bool false]) := hide (blk_new' _ _ (by simp))
    go_enter Tryz.func33, Tryz.ntmps33
    go_wp2_with fail
    refine HCl.out.mono ?_
    rintro e w2 ⟨A2, n2, q2, rfl, hn2, ho, hb⟩
    have HN2 := hide hn2
    have HO : Hid (w2.ownsRow (w.heap.size + 3) 5 1 (.slice A2 n2 q2) n2 (byB b)) := hide (by simpa using ho)
    have HJ1 := hide (HK1.out.below hb (by simp; omega))
    have HJ2 := hide (HK2.out.below hb (by simp))
    have HJ3 := hide (HK3.out.below hb (by simp))
    have HBw := hide (HB0.out.trans (hb.mono HB0.out.size))
    have hl1 := HJ1.out.lt
    have hl2 := HJ2.out.lt
    have hl3 := HJ3.out.lt
    have x0 : w2.cell? ⟨w.heap.size, 0, none⟩ = some (.int .i64 5) := HJ1.out.cell 0
    have x1 : w2.cell? ⟨w.heap.size, 1, none⟩ = some (.int .u32 (p : Int)) := HJ1.out.cell 1
    have x2 : w2.cell? ⟨w.heap.size, 2, none⟩ = some (.int .i64 nn) := HJ1.out.cell 2
    have x3 : w2.cell? ⟨w.heap.size, 3, none⟩ = some (.slice A n c) := HJ1.out.cell 3
    have x4 : w2.cell? ⟨w.heap.size, 4, none⟩ = some (.string (str t)) := HJ1.out.cell 4
    have x5 : w2.cell? ⟨w.heap.size, 5, none⟩ = some (.int .u32 (oa : Int)) := HJ1.out.cell 5
    have x6 : w2.cell? ⟨w.heap.size, 6, none⟩ = some (.int .i64 oh) := HJ1.out.cell 6
    have x7 : w2.cell? ⟨w.heap.size, 7, none⟩ = some (.int .u32 (oi : Int)) := HJ1.out.cell 7
    have x8 : w2.cell? ⟨w.heap.size, 8, none⟩ = some (.bool fo) := HJ1.out.cell 8
    have y0 : w2.cell? ⟨w.heap.size + 1, 0, none⟩ = some (.int .i64 0) := HJ2.out.cell 0
    have y1 : w2.cell? ⟨w.heap.size + 1, 1, none⟩ = some (.int .u32 0) := HJ2.out.cell 1
    have y2 : w2.cell? ⟨w.heap.size + 1, 2, none⟩ = some (.int .i64 0) := HJ2.out.cell 2
    have y3 : w2.cell? ⟨w.heap.size + 1, 3, none⟩ = some (.slice none 0 0) := HJ2.out.cell 3
    have y4 : w2.cell? ⟨w.heap.size + 1, 4, none⟩ = some (.string ⟨#[]⟩) := HJ2.out.cell 4
    have y5 : w2.cell? ⟨w.heap.size + 1, 5, none⟩ = some (.int .u32 0) := HJ2.out.cell 5
    have y6 : w2.cell? ⟨w.heap.size + 1, 6, none⟩ = some (.int .i64 0) := HJ2.out.cell 6
    have y7 : w2.cell? ⟨w.heap.size + 1, 7, none⟩ = some (.int .u32 0) := HJ2.out.cell 7
    have y8 : w2.cell? ⟨w.heap.size + 1, 8, none⟩ = some (.bool false) := HJ2.out.cell 8
    have z0 : w2.cell? ⟨w.heap.size + 2, 0, none⟩ = some (.int .i64 5) := HJ3.out.cell 0
    have z1 : w2.cell? ⟨w.heap.size + 2, 1, none⟩ = some (.int .u32 (p : Int)) := HJ3.out.cell 1
    have z2 : w2.cell? ⟨w.heap.size + 2, 2, none⟩ = some (.int .i64 0) := HJ3.out.cell 2
    have z3 : w2.cell? ⟨w.heap.size + 2, 3, none⟩ = some (.slice none 0 0) := HJ3.out.cell 3
    have z4 : w2.cell? ⟨w.heap.size + 2, 4, none⟩ = some (.string ⟨#[]⟩) := HJ3.out.cell 4
    have z5 : w2.cell? ⟨w.heap.size + 2, 5, none⟩ = some (.int .u32 0) := HJ3.out.cell 5
    have z6 : w2.cell? ⟨w.heap.size + 2, 6, none⟩ = some (.int .i64 0) := HJ3.out.cell 6
    have z7 : w2.cell? ⟨w.heap.size + 2, 7, none⟩ = some (.int .u32 0) := HJ3.out.cell 7
    have z8 : w2.cell? ⟨w.heap.size + 2, 8, none⟩ = some (.bool false) := HJ3.out.cell 8
    have yf0 := HJ2.out.frozen 0
    have yf1 := HJ2.out.frozen 1
    have yf2 := HJ2.out.frozen 2
    have yf3 := HJ2.out.frozen 3
    have yf4 := HJ2.out.frozen 4
    have yf5 := HJ2.out.frozen 5
    have yf6 := HJ2.out.frozen 6
    have yf7 := HJ2.out.frozen 7
    have yf8 := HJ2.out.frozen 8
    have zf3 := HJ3.out.frozen 3
    clear hn2 ho hb
    go_wp2
    have hch : ∀ WF, setMv (w2.setCell ⟨w.heap.size + 1 + 1, 3, none⟩ (.slice A2 n2 q2)) (w.heap.size + 1) ⟨5, p, 0, b, [], 0, 0, 0, false⟩ (.slice A2 n2 q2) = WF → Blk WF (w.heap.size + 1) 32 #[.int .i64 5, .int .u32 (p : Int), .int .i64 0, .slice A2 n2 q2, .string ⟨#[]⟩, .int .u32 0, .int .i64 0, .int .u32 0, .bool false] ∧ WF.ownsRow (w.heap.size + 3) 5 1 (.slice A2 n2 q2) n2 (byB b) ∧ Below w.heap.size w WF := by
      rintro WF rfl
      exact ⟨setMv_blk (HJ2.out.far (p := ⟨w.heap.size + 1 + 1, 3, none⟩) (by show w.heap.size + 1 ≠ w.heap.size + 1 + 1; omega) (.slice A2 n2 q2)), setMv_own (own_set (g := w.heap.size + 1 + 1) (i := 3) HO.out (fun e => by have := own_low_block HO.out _ e; omega) (.slice A2 n2 q2)) (fun e => by have := own_low_block HO.out _ e; omega), setMv_below (HBw.out.setCell (p := ⟨w.heap.size + 1 + 1, 3, none⟩) (by show w.heap.size ≤ w.heap.size + 1 + 1; omega) (.slice A2 n2 q2)) (Nat.le_succ _)⟩
    have HCh := hide hch
    clear hch x0 x1 x2 x3 x4 x5 x6 x7 x8 y0 y1 y2 y3 y4 y5 y6 y7 y8 z0 z1 z2 z3 z4 z5 z6 z7 z8 yf0 yf1 yf2 yf3 yf4 yf5 yf6 yf7 yf8 zf3
    change bodyPost _ _ _ _ _ (setMv (w2.setCell ⟨w.heap.size + 1 + 1, 3, none⟩ (.slice A2 n2 q2)) (w.heap.size + 1) ⟨5, p, 0, b, [], 0, 0, 0, false⟩ (.slice A2 n2 q2))
    obtain ⟨WF, hWF⟩ : ∃ WF, setMv (w2.setCell ⟨w.heap.size + 1 + 1, 3, none⟩ (.slice A2 n2 q2)) (w.heap.size + 1) ⟨5, p, 0, b, [], 0, 0, 0, false⟩ (.slice A2 n2 q2) = WF := ⟨_, rfl⟩
    obtain ⟨hF, hO, hBl⟩ := HCh.out WF hWF
    rw [hWF]
    have u0 : WF.cell? ⟨w.heap.size + 1, 0, none⟩ = some (.int .i64 5) := hF.cell 0
    have u1 : WF.cell? ⟨w.heap.size + 1, 1, none⟩ = some (.int .u32 (p : Int)) := hF.cell 1
    have u2 : WF.cell? ⟨w.heap.size + 1, 2, none⟩ = some (.int .i64 0) := hF.cell 2
    have u3 : WF.cell? ⟨w.heap.size + 1, 3, none⟩ = some (.slice A2 n2 q2) := hF.cell 3
    have u4 : WF.cell? ⟨w.heap.size + 1, 4, none⟩ = some (.string ⟨#[]⟩) := hF.cell 4
    have u5 : WF.cell? ⟨w.heap.size + 1, 5, none⟩ = some (.int .u32 0) := hF.cell 5
    have u6 : WF.cell? ⟨w.heap.size + 1, 6, none⟩ = some (.int .i64 0) := hF.cell 6
    have u7 : WF.cell? ⟨w.heap.size + 1, 7, none⟩ = some (.int .u32 0) := hF.cell 7
    have u8 : WF.cell? ⟨w.heap.size + 1, 8, none⟩ = some (.bool false) := hF.cell 8
    refine bodyPost_ret (v := .agg #[.int .i64 5, .int .u32 (p : Int), .int .i64 0, .slice A2 n2 q2, .string ⟨#[]⟩, .int .u32 0, .int .i64 0, .int .u32 0, .bool false]) (by simp [results, Tryz.results33, go_sem, u0, u1, u2, u3, u4, u5, u6, u7, u8]) rfl ⟨A2, n2, q2, by simp [mvOnly, mvV, str], ?_, hBl⟩
    have e : (mvOnly ⟨5, p, nn, b, t, oa, oh, oi, fo⟩).b = b := by simp [mvOnly]
    rw [e]
    have hn := HN2.out
    subst hn
    exact by_lst hO
  have e5 : (k == 5) = false := by simpa using h5
  by_cases hlo : k < 1
  · have d_hlo : decide (k < 1) = true := decide_eq_true hlo
    have HEq : Hid (mvOnly ⟨k, p, nn, b, t, oa, oh, oi, fo⟩ = mv0) := hide (by unfold mvOnly; rw [if_pos (.inl hlo)])
    clear h5 h6 h7 h8 h9 hlo
    go_enter Tryz.func33, Tryz.ntmps33
    go_wp2
    refine bodyPost_ret (v := .agg #[.int .i64 0, .int .u32 0, .int .i64 0, .slice none 0 0, .string ⟨#[]⟩, .int .u32 0, .int .i64 0, .int .u32 0, .bool false]) (by simp [results, Tryz.results33, go_sem]) rfl ⟨none, 0, 0, by rw [HEq.out]; rfl, by rw [HEq.out]; exact LstAt.none_, HB.out _ _ _⟩
  have d_hlo : decide (k < 1) = false := decide_eq_false hlo
  by_cases hhi : 10 < k
  · have d_hhi : decide (10 < k) = true := decide_eq_true hhi
    have HEq : Hid (mvOnly ⟨k, p, nn, b, t, oa, oh, oi, fo⟩ = mv0) := hide (by unfold mvOnly; rw [if_pos (.inr hhi)])
    clear h5 h6 h7 h8 h9 hhi
    go_enter Tryz.func33, Tryz.ntmps33
    go_wp2
    refine bodyPost_ret (v := .agg #[.int .i64 0, .int .u32 0, .int .i64 0, .slice none 0 0, .string ⟨#[]⟩, .int .u32 0, .int .i64 0, .int .u32 0, .bool false]) (by simp [results, Tryz.results33, go_sem]) rfl ⟨none, 0, 0, by rw [HEq.out]; rfl, by rw [HEq.out]; exact LstAt.none_, HB.out _ _ _⟩
  have d_hhi : decide (10 < k) = false := decide_eq_false hhi
  have HEq : Hid (mvOnly ⟨k, p, nn, b, t, oa, oh, oi, fo⟩ = ⟨k, p, 0, [], [], 0, 0, 0, false⟩) := hide (by unfold mvOnly; rw [if_neg (by simp only; omega)]; simp [h5, h6, h7, h8, h9])
  clear h5 h6 h7 h8 h9 hlo hhi
  go_enter Tryz.func33, Tryz.ntmps33
  go_wp2
  refine bodyPost_ret (v := .agg #[.int .i64 k, .int .u32 (p : Int), .int .i64 0, .slice none 0 0, .string ⟨#[]⟩, .int .u32 0, .int .i64 0, .int .u32 0, .bool false]) (by simp [results, Tryz.results33, go_sem]) rfl ⟨none, 0, 0, by rw [HEq.out]; rfl, by rw [HEq.out]; exact LstAt.none_, HB.out _ _ _⟩
end Go.Proofs.YtlfknndpbejbcaaGreatDoor
set_option linter.unusedSimpArgs false
set_option linter.unusedVariables false
namespace Go.Proofs.YtlfknndpbejbcaaGreatDoor
open Go.RowKit Go.WideShapes Go.ChangeShapes
attribute [local go_sem] Oper.semAt_some
def sameM (a b : MV) : Bool := decide (a.k = b.k ∧ a.p = b.p ∧ a.n = b.n ∧ a.b = b.b ∧ a.t = b.t ∧ a.oa = b.oa ∧ a.oh = b.oh ∧ a.oi = b.oi ∧ a.fo = b.fo)
theorem sameM_self (m : MV) : sameM m m = true := by simp [sameM]
set_option maxRecDepth 100000 in
set_option maxHeartbeats 16000000 in
theorem rsame_any (m y : MV) (A B : Option Addr) (n c q d : Nat) (w : World) (hA : LstAt 1 byR w A n c m.b) (hB : LstAt 1 byR w B q d y.b) :
    Calls Tryz.prog 9 #[mvV m (.slice A n c), mvV y (.slice B q d)] w (GoodP (sameM m y) w) := by
  obtain ⟨k, p, nn, b, t, oa, oh, oi, fo⟩ := m
  obtain ⟨k', p', nn', b', t', oa', oh', oi', fo'⟩ := y
  simp only at hA hB
  have hbl : Below w.heap.size w ((w.alloc (.cells #[.int .i64 k, .int .u32 (p : Int), .int .i64 nn, .slice A n c, .string (str t), .int .u32 (oa : Int), .int .i64 oh, .int .u32 (oi : Int), .bool fo] 32)).alloc (.cells #[.int .i64 k', .int .u32 (p' : Int), .int .i64 nn', .slice B q d, .string (str t'), .int .u32 (oa' : Int), .int .i64 oh', .int .u32 (oi' : Int), .bool fo'] 32)) := ((Below.refl _ w).alloc (Nat.le_refl _) _).alloc (by simp) _
  have hcA := conv_by (hA.below byMono hbl)
  have hcB := conv_by (hB.below byMono hbl)
  have HB := hide hbl
  clear hA hB hbl
  have hsm : sameM ⟨k, p, nn, b, t, oa, oh, oi, fo⟩ ⟨k', p', nn', b', t', oa', oh', oi', fo'⟩ = decide (k = k' ∧ p = p' ∧ nn = nn' ∧ b = b' ∧ t = t' ∧ oa = oa' ∧ oh = oh' ∧ oi = oi' ∧ fo = fo') := rfl
  rw [hsm]
  clear hsm
  unfold mvV
  simp only
  by_cases h : k = k'
  case neg =>
    have e1 : (k == k') = false := by simpa using h
    rw [decide_eq_false (p := k = k' ∧ p = p' ∧ nn = nn' ∧ b = b' ∧ t = t' ∧ oa = oa' ∧ oh = oh' ∧ oi = oi' ∧ fo = fo') (fun hh => h (by simp_all))]
    clear h
    go_enter Tryz.func9, Tryz.ntmps9
    go_wp2
    go_ret
    exact ⟨rfl, HB.out⟩
  subst h
  by_cases h : p = p'
  case neg =>
    have e1 : ((p : Int) == (p' : Int)) = false := by simp; omega
    rw [decide_eq_false (p := k = k ∧ p = p' ∧ nn = nn' ∧ b = b' ∧ t = t' ∧ oa = oa' ∧ oh = oh' ∧ oi = oi' ∧ fo = fo') (fun hh => h (by simp_all))]
    clear h
    go_enter Tryz.func9, Tryz.ntmps9
    go_wp2
    go_ret
    exact ⟨rfl, HB.out⟩
  subst h
  by_cases h : nn = nn'
  case neg =>
    have e1 : (nn == nn') = false := by simpa using h
    rw [decide_eq_false (p := k = k ∧ p = p ∧ nn = nn' ∧ b = b' ∧ t = t' ∧ oa = oa' ∧ oh = oh' ∧ oi = oi' ∧ fo = fo') (fun hh => h (by simp_all))]
    clear h
    go_enter Tryz.func9, Tryz.ntmps9
    go_wp2
    go_ret
    exact ⟨rfl, HB.out⟩
  subst h
  by_cases h : b = b'
  case neg =>
    have e1 : ((str b).toList == (str b').toList) = false := by rw [str_beq]; simpa using h
    rw [decide_eq_false (p := k = k ∧ p = p ∧ nn = nn ∧ b = b' ∧ t = t' ∧ oa = oa' ∧ oh = oh' ∧ oi = oi' ∧ fo = fo') (fun hh => h (by simp_all))]
    clear h
    go_enter Tryz.func9, Tryz.ntmps9
    go_wp2
    go_ret
    exact ⟨rfl, HB.out⟩
  subst h
  by_cases h : t = t'
  case neg =>
    have e1 : ((str t).toList == (str t').toList) = false := by rw [str_beq]; simpa using h
    rw [decide_eq_false (p := k = k ∧ p = p ∧ nn = nn ∧ b = b ∧ t = t' ∧ oa = oa' ∧ oh = oh' ∧ oi = oi' ∧ fo = fo') (fun hh => h (by simp_all))]
    clear h
    go_enter Tryz.func9, Tryz.ntmps9
    go_wp2
    go_ret
    exact ⟨rfl, HB.out⟩
  subst h
  by_cases h : oa = oa'
  case neg =>
    have e1 : ((oa : Int) == (oa' : Int)) = false := by simp; omega
    rw [decide_eq_false (p := k = k ∧ p = p ∧ nn = nn ∧ b = b ∧ t = t ∧ oa = oa' ∧ oh = oh' ∧ oi = oi' ∧ fo = fo') (fun hh => h (by simp_all))]
    clear h
    go_enter Tryz.func9, Tryz.ntmps9
    go_wp2
    go_ret
    exact ⟨rfl, HB.out⟩
  subst h
  by_cases h : oh = oh'
  case neg =>
    have e1 : (oh == oh') = false := by simpa using h
    rw [decide_eq_false (p := k = k ∧ p = p ∧ nn = nn ∧ b = b ∧ t = t ∧ oa = oa ∧ oh = oh' ∧ oi = oi' ∧ fo = fo') (fun hh => h (by simp_all))]
    clear h
    go_enter Tryz.func9, Tryz.ntmps9
    go_wp2
    go_ret
    exact ⟨rfl, HB.out⟩
  subst h
  by_cases h : oi = oi'
  case neg =>
    have e1 : ((oi : Int) == (oi' : Int)) = false := by simp; omega
    rw [decide_eq_false (p := k = k ∧ p = p ∧ nn = nn ∧ b = b ∧ t = t ∧ oa = oa ∧ oh = oh ∧ oi = oi' ∧ fo = fo') (fun hh => h (by simp_all))]
    clear h
    go_enter Tryz.func9, Tryz.ntmps9
    go_wp2
    go_ret
    exact ⟨rfl, HB.out⟩
  subst h
  by_cases h : fo = fo'
  case neg =>
    have e1 : (fo == fo') = false := by simpa using h
    rw [decide_eq_false (p := k = k ∧ p = p ∧ nn = nn ∧ b = b ∧ t = t ∧ oa = oa ∧ oh = oh ∧ oi = oi ∧ fo = fo') (fun hh => h (by simp_all))]
    clear h
    go_enter Tryz.func9, Tryz.ntmps9
    go_wp2
    go_ret
    exact ⟨rfl, HB.out⟩
  subst h
  rw [decide_eq_true (p := k = k ∧ p = p ∧ nn = nn ∧ b = b ∧ t = t ∧ oa = oa ∧ oh = oh ∧ oi = oi ∧ fo = fo) (by simp)]
  go_enter Tryz.func9, Tryz.ntmps9
  go_wp2
  go_ret
  exact ⟨by simp, HB.out⟩
theorem wpList_skip {P : Program} {ops : Array Oper} {Q : Exit → Act → World → Prop} {l : List Oper} {o : Oper} {a : Act} {w w2 : World} (hg : o.guard = none) (hd : o.dst = none) (h : (execOp a.eval o).run P w = .ok .skip w2) (hn : wpList P ops Q l a w2) : wpList P ops Q (o :: l) a w := by
  unfold wpList
  rw [if_pos (by simp [Region.wanted, hg])]
  left
  unfold Oper.wp
  rw [h, Oper.upon_skip, hd]
  exact hn
set_option maxRecDepth 100000 in
set_option maxHeartbeats 1000000 in
theorem store_mvAt {x0 x1 x2 x3 x4 x5 x6 x7 x8 : Value} (w : World) (R : Nat) (m : MV) (A : Option Addr) (n c : Nat) (h : Blk w R 32 #[x0, x1, x2, x3, x4, x5, x6, x7, x8]) :
    (Instr.storeAt 32 (.pointer (some ⟨R, 0, none⟩)) (mvV m (.slice A n c))).run Tryz.prog w = .ok () (setMv w R m (.slice A n c)) := by
  have r0 : w.cell? ⟨R, 0, none⟩ = some x0 := h.cell 0
  have rf0 := h.frozen 0
  have r1 : w.cell? ⟨R, 1, none⟩ = some x1 := h.cell 1
  have rf1 := h.frozen 1
  have r2 : w.cell? ⟨R, 2, none⟩ = some x2 := h.cell 2
  have rf2 := h.frozen 2
  have r3 : w.cell? ⟨R, 3, none⟩ = some x3 := h.cell 3
  have rf3 := h.frozen 3
  have r4 : w.cell? ⟨R, 4, none⟩ = some x4 := h.cell 4
  have rf4 := h.frozen 4
  have r5 : w.cell? ⟨R, 5, none⟩ = some x5 := h.cell 5
  have rf5 := h.frozen 5
  have r6 : w.cell? ⟨R, 6, none⟩ = some x6 := h.cell 6
  have rf6 := h.frozen 6
  have r7 : w.cell? ⟨R, 7, none⟩ = some x7 := h.cell 7
  have rf7 := h.frozen 7
  have r8 : w.cell? ⟨R, 8, none⟩ = some x8 := h.cell 8
  have rf8 := h.frozen 8
  clear h
  unfold mvV setMv
  simp [go_sem, *]
theorem setMv_blkAt {x0 x1 x2 x3 x4 x5 x6 x7 x8 : Value} {w : World} {R : Nat} {m : MV} {v : Value} (h : Blk w R 32 #[x0, x1, x2, x3, x4, x5, x6, x7, x8]) : Blk (setMv w R m v) R 32 (mvC m v).toArray := by
  have := (((((((((h.set_ 0 (.int .i64 m.k)).set_ 1 (.int .u32 (m.p : Int))).set_ 2 (.int .i64 m.n)).set_ 3 (v)).set_ 4 (.string (str m.t))).set_ 5 (.int .u32 (m.oa : Int))).set_ 6 (.int .i64 m.oh)).set_ 7 (.int .u32 (m.oi : Int))).set_ 8 (.bool m.fo))
  unfold setMv mvC
  simpa using this
theorem setMv_far {w : World} {R S : Nat} {t : TypeId} {cs : Array Value} {m : MV} {v : Value} (h : Blk w S t cs) (hne : S ≠ R) : Blk (setMv w R m v) S t cs := by
  unfold setMv
  exact (((((((((h.far (p := ⟨R, 0, none⟩) hne (.int .i64 m.k)).far (p := ⟨R, 1, none⟩) hne (.int .u32 (m.p : Int))).far (p := ⟨R, 2, none⟩) hne (.int .i64 m.n)).far (p := ⟨R, 3, none⟩) hne (v)).far (p := ⟨R, 4, none⟩) hne (.string (str m.t))).far (p := ⟨R, 5, none⟩) hne (.int .u32 (m.oa : Int))).far (p := ⟨R, 6, none⟩) hne (.int .i64 m.oh)).far (p := ⟨R, 7, none⟩) hne (.int .u32 (m.oi : Int))).far (p := ⟨R, 8, none⟩) hne (.bool m.fo))
set_option maxRecDepth 100000 in
theorem mv_open {H : Type} {enc : TypeId × Value → H} {W : World} {r : Reach} {b0 : Nat} {v : Value} {d : DataW H} {p : List MemPlace} (hv : Value.okWide Tryz.prog W r b0 32 v)
    (h : DataW.Trod enc Tryz.prog W 0 (fun _ => true) true 32 v d p) :
    ∃ (m : MV) (A : Option Addr) (n c : Nat), v = mvV m (.slice A n c) ∧ LstAt 1 byR W A n c m.b ∧ MvOk m ∧ m.t.length ≤ 9223372036854775807 := by
  obtain ⟨cs, rfl, hsz⟩ := okWide_struct Tryz.underlying32 hv
  obtain ⟨fuel, hf⟩ := h
  obtain ⟨m, A, n, c, e, h1, h2, h3⟩ := mv_opens hf
  refine ⟨m, A, n, c, ?_, h1, h2, h3⟩
  have e2 : cs.toList = mvC m (.slice A n c) := e
  have e3 : cs = (mvC m (.slice A n c)).toArray := by rw [← e2]
  rw [e3]
  rfl
theorem by_grown {w w' : World} {g : Nat} {A : Option Addr} {n c : Nat} {l : List UInt8} (h : LstAt 1 byR w A n c l) (hg : w.grownBy w' (some g)) (hA : 0 < n → ∀ a, A = some a → a.block ≠ g) : LstAt 1 byR w' A n c l := by
  refine ⟨h.1, h.2.1, h.2.2.1, fun hn => ?_⟩
  obtain ⟨b, o, rfl, hb, hc⟩ := h.2.2.2 hn
  refine ⟨b, o, rfl, Nat.lt_of_lt_of_le hb hg.size, fun k x hk => ?_⟩
  obtain ⟨vs, h1, h2, h3⟩ := hc k x hk
  refine ⟨vs, h1, h2, fun j v hv => ?_⟩
  rw [World.cell?_of_block (hg.block b hb (by simp; exact hA hn _ rfl))]
  exact h3 j v hv
/-- Bytes lie in no box of a move. -/
theorem by_apart {w : World} {R : Nat} {A : Option Addr} {n c : Nat} {l : List UInt8} (h : LstAt 1 byR w A n c l) (hB : Blk w R 32 #[.int .i64 0, .int .u32 0, .int .i64 0, .slice none 0 0, .string ⟨#[]⟩, .int .u32 0, .int .i64 0, .int .u32 0, .bool false]) : 0 < n → ∀ a, A = some a → a.block ≠ R := by
  intro hn a ha e
  obtain ⟨g, o, x, hA, _, _, hc⟩ := BYat h hn
  rw [hA] at ha
  cases ha
  simp only at e
  subst e
  rw [Nat.add_zero] at hc
  have h2 := hB.cell o
  rw [hc] at h2
  match o, h2 with
  | 0, h2 => simp at h2
  | 1, h2 => simp at h2
  | 2, h2 => simp at h2
  | 3, h2 => simp at h2
  | 4, h2 => simp at h2
  | 5, h2 => simp at h2
  | 6, h2 => simp at h2
  | 7, h2 => simp at h2
  | 8, h2 => simp at h2
  | o + 9, h2 => simp at h2
set_option maxRecDepth 100000 in
set_option maxHeartbeats 16000000 in
theorem ssame_any (m y : MV) (A B : Option Addr) (n c q d : Nat) (w : World) (hA : LstAt 1 byR w A n c m.b) (hB : LstAt 1 byR w B q d y.b) (hn : n ≤ 140737488355328) (hq : q ≤ 140737488355328) :
    Calls Tryz.prog 22 #[mvV m (.slice A n c), mvV y (.slice B q d)] w (GoodP (sameM (mvOnly m) (mvOnly y)) w) := by
  obtain ⟨k, p, nn, b, t, oa, oh, oi, fo⟩ := m
  obtain ⟨kz, pz, nz, b2, t2, oaz, ohz, oiz, foz⟩ := y
  simp only at hA hB
  have HBn := hide hn
  have HBm := hide hq
  obtain ⟨MM, hMM⟩ : ∃ M', mvOnly ⟨k, p, nn, b, t, oa, oh, oi, fo⟩ = M' := ⟨_, rfl⟩
  obtain ⟨MN, hMN⟩ : ∃ M', mvOnly ⟨kz, pz, nz, b2, t2, oaz, ohz, oiz, foz⟩ = M' := ⟨_, rfl⟩
  rw [hMM, hMN]
  obtain ⟨ko, po, no, bo, tO, oao, oho, oio, foo⟩ := MM
  obtain ⟨kq, pq, nq, bq, tq, oaq, ohq, oiq, foq⟩ := MN
  have HOx := hide hMM
  have HOz := hide hMN
  have hbel : Below w.heap.size w ((w.alloc (.cells #[.int .i64 k, .int .u32 (p : Int), .int .i64 nn, .slice A n c, .string (str t), .int .u32 (oa : Int), .int .i64 oh, .int .u32 (oi : Int), .bool fo] 32)).alloc (.cells #[.int .i64 kz, .int .u32 (pz : Int), .int .i64 nz, .slice B q d, .string (str t2), .int .u32 (oaz : Int), .int .i64 ohz, .int .u32 (oiz : Int), .bool foz] 32)) := ((Below.refl _ w).alloc (Nat.le_refl _) _).alloc (by simp) _
  have HBx := hide hbel
  have HK : Hid (Blk ((w.alloc (.cells #[.int .i64 k, .int .u32 (p : Int), .int .i64 nn, .slice A n c, .string (str t), .int .u32 (oa : Int), .int .i64 oh, .int .u32 (oi : Int), .bool fo] 32)).alloc (.cells #[.int .i64 kz, .int .u32 (pz : Int), .int .i64 nz, .slice B q d, .string (str t2), .int .u32 (oaz : Int), .int .i64 ohz, .int .u32 (oiz : Int), .bool foz] 32)) w.heap.size 32 #[.int .i64 k, .int .u32 (p : Int), .int .i64 nn, .slice A n c, .string (str t), .int .u32 (oa : Int), .int .i64 oh, .int .u32 (oi : Int), .bool fo]) := hide ((Blk.new w _ _).alloc _)
  have HKz : Hid (Blk ((w.alloc (.cells #[.int .i64 k, .int .u32 (p : Int), .int .i64 nn, .slice A n c, .string (str t), .int .u32 (oa : Int), .int .i64 oh, .int .u32 (oi : Int), .bool fo] 32)).alloc (.cells #[.int .i64 kz, .int .u32 (pz : Int), .int .i64 nz, .slice B q d, .string (str t2), .int .u32 (oaz : Int), .int .i64 ohz, .int .u32 (oiz : Int), .bool foz] 32)) (w.heap.size + 1) 32 #[.int .i64 kz, .int .u32 (pz : Int), .int .i64 nz, .slice B q d, .string (str t2), .int .u32 (oaz : Int), .int .i64 ohz, .int .u32 (oiz : Int), .bool foz]) := hide (blk_new' _ _ (by simp))
  have HLs := hide (hA.below byMono hbel)
  have HLz := hide (hB.below byMono hbel)
  obtain ⟨w1, hw1⟩ : ∃ w1, ((w.alloc (.cells #[.int .i64 k, .int .u32 (p : Int), .int .i64 nn, .slice A n c, .string (str t), .int .u32 (oa : Int), .int .i64 oh, .int .u32 (oi : Int), .bool fo] 32)).alloc (.cells #[.int .i64 kz, .int .u32 (pz : Int), .int .i64 nz, .slice B q d, .string (str t2), .int .u32 (oaz : Int), .int .i64 ohz, .int .u32 (oiz : Int), .bool foz] 32)) = w1 := ⟨_, rfl⟩
  rw [hw1] at HBx HK HKz HLs HLz
  have Hw1 := hide hw1
  obtain ⟨RR, hRR⟩ : ∃ RR, sameM ⟨ko, po, no, bo, tO, oao, oho, oio, foo⟩ ⟨kq, pq, nq, bq, tq, oaq, ohq, oiq, foq⟩ = RR := ⟨_, rfl⟩
  rw [hRR]
  have HRs := hide hRR
  clear hA hB hn hq hMM hMN hbel hw1 hRR
  unfold mvV
  simp only
  go_enter Tryz.func22, Tryz.ntmps22
  go_wp2
  rw [Hw1.out]
  clear Hw1
  refine wp_region_relET 6 w1.heap.size (Nat.le_refl _) [(fun v _ => v = .agg #[.int .i64 k, .int .u32 (p : Int), .int .i64 nn, .slice A n c, .string (str t), .int .u32 (oa : Int), .int .i64 oh, .int .u32 (oi : Int), .bool fo]), (fun v W => ∃ A n c, v = .agg #[.int .i64 ko, .int .u32 (po : Int), .int .i64 no, .slice A n c, .string (str tO), .int .u32 (oao : Int), .int .i64 oho, .int .u32 (oio : Int), .bool foo] ∧ LstAt 1 byR W A n c bo), (fun v _ => v = .agg #[.int .i64 kz, .int .u32 (pz : Int), .int .i64 nz, .slice B q d, .string (str t2), .int .u32 (oaz : Int), .int .i64 ohz, .int .u32 (oiz : Int), .bool foz]), (fun v W => ∃ A n c, v = .agg #[.int .i64 kq, .int .u32 (pq : Int), .int .i64 nq, .slice A n c, .string (str tq), .int .u32 (oaq : Int), .int .i64 ohq, .int .u32 (oiq : Int), .bool foq] ∧ LstAt 1 byR W A n c bq), (fun v w => ∃ R, v = .pointer (some ⟨R, 0, none⟩) ∧ Blk w R 32 #[.int .i64 0, .int .u32 0, .int .i64 0, .slice none 0 0, .string ⟨#[]⟩, .int .u32 0, .int .i64 0, .int .u32 0, .bool false] ∧ w1.heap.size ≤ R), (fun v w => ∃ R, v = .pointer (some ⟨R, 0, none⟩) ∧ Blk w R 32 #[.int .i64 0, .int .u32 0, .int .i64 0, .slice none 0 0, .string ⟨#[]⟩, .int .u32 0, .int .i64 0, .int .u32 0, .bool false] ∧ w1.heap.size ≤ R)] (fun _ _ => True) (fun _ wa wb => Below wa.heap.size wa wb) (fun i j v v2 => ((i = 4 ∧ j = 5) ∨ (i = 5 ∧ j = 4)) → v ≠ v2) (by kernel_rfl) (by kernel_rfl) (by kernel_rfl) (by kernel_rfl) (by kernel_rfl) (fun i wa wb hB he => he.mono hB) (fun i2 j2 v2 wa wb _ _ he h => by refine relMono _ ?_ i2 v2 wa wb he h; exact ⟨fun _ _ _ _ h => h, fun v W W2 hb ⟨A, n, c, e, h⟩ => ⟨A, n, c, e, h.below byMono hb⟩, fun _ _ _ _ h => h, fun v W W2 hb ⟨A, n, c, e, h⟩ => ⟨A, n, c, e, h.below byMono hb⟩, fun v w w2 hb ⟨R, e, h, h2⟩ => ⟨R, e, h.below hb h.lt, h2⟩, fun v w w2 hb ⟨R, e, h, h2⟩ => ⟨R, e, h.below hb h.lt, h2⟩, trivial⟩) (fun _ _ _ _ _ _ _ _ => trivial) (fun i j v v2 h hh e => h (by omega) e.symm) (fun _ _ => trivial) ⟨?_, ?_, ?_, ?_, ?_, ?_, trivial⟩ ?_
  · refine relE_of rfl (fun j v v2 hh => absurd hh (by omega)) ?_
    intro Dn Ac w5 hp
    have hb := hp.bel
    have a2 : Ac.eval (.tmp 2) = .pointer (some ⟨w.heap.size, 0, none⟩) := hp.out 2 (by rfl)
    have zz := HK.out.below hb HK.out.lt
    have z0 : w5.cell? ⟨w.heap.size, 0, none⟩ = some (.int .i64 k) := zz.cell 0
    have z1 : w5.cell? ⟨w.heap.size, 1, none⟩ = some (.int .u32 (p : Int)) := zz.cell 1
    have z2 : w5.cell? ⟨w.heap.size, 2, none⟩ = some (.int .i64 nn) := zz.cell 2
    have z3 : w5.cell? ⟨w.heap.size, 3, none⟩ = some (.slice A n c) := zz.cell 3
    have z4 : w5.cell? ⟨w.heap.size, 4, none⟩ = some (.string (str t)) := zz.cell 4
    have z5 : w5.cell? ⟨w.heap.size, 5, none⟩ = some (.int .u32 (oa : Int)) := zz.cell 5
    have z6 : w5.cell? ⟨w.heap.size, 6, none⟩ = some (.int .i64 oh) := zz.cell 6
    have z7 : w5.cell? ⟨w.heap.size, 7, none⟩ = some (.int .u32 (oi : Int)) := zz.cell 7
    have z8 : w5.cell? ⟨w.heap.size, 8, none⟩ = some (.bool fo) := zz.cell 8
    clear zz
    have hc := evalC Ac; have hf := evalF Ac; have hgl := evalG Ac
    obtain ⟨ρ, hρ⟩ : ∃ ρ, Ac.eval = ρ := ⟨_, rfl⟩
    rw [hρ] at a2 hc hf hgl
    exact relPure hρ (.agg #[.int .i64 k, .int .u32 (p : Int), .int .i64 nn, .slice A n c, .string (str t), .int .u32 (oa : Int), .int .i64 oh, .int .u32 (oi : Int), .bool fo]) (by simp [go_sem, hc, hf, hgl, ↓IntWalk.iteOmega, a2, *]) rfl
  · refine relE_of rfl (fun j v v2 hh => absurd hh (by omega)) ?_
    intro Dn Ac w5 hp
    have hb := hp.bel
    have a7 : Ac.eval (.tmp 7) = .agg #[.int .i64 k, .int .u32 (p : Int), .int .i64 nn, .slice A n c, .string (str t), .int .u32 (oa : Int), .int .i64 oh, .int .u32 (oi : Int), .bool fo] := hp.dep 0 (by kernel_rfl)
    have hc := evalC Ac; have hf := evalF Ac; have hgl := evalG Ac
    obtain ⟨ρ, hρ⟩ : ∃ ρ, Ac.eval = ρ := ⟨_, rfl⟩
    rw [hρ] at a7 hc hf hgl
    refine relCall hρ 33 #[.agg #[.int .i64 k, .int .u32 (p : Int), .int .i64 nn, .slice A n c, .string (str t), .int .u32 (oa : Int), .int .i64 oh, .int .u32 (oi : Int), .bool fo]] (by simp [go_sem, hc, hf, hgl, ↓IntWalk.iteOmega, a7, *]) ?_
    refine (sconly_any ⟨k, p, nn, b, t, oa, oh, oi, fo⟩ A n c w5 (HLs.out.below byMono hb) HBn.out).mono ?_
    intro e w6 hmv
    unfold OnlyP at hmv
    rw [HOx.out] at hmv
    obtain ⟨A6, n6, q6, rfl, hl6, hb6⟩ := hmv
    exact ⟨_, rfl, ⟨A6, n6, q6, rfl, hl6⟩, hb6⟩
  · refine relE_of rfl (fun j v v2 hh => absurd hh (by omega)) ?_
    intro Dn Ac w5 hp
    have hb := hp.bel
    have a3 : Ac.eval (.tmp 3) = .pointer (some ⟨w.heap.size + 1, 0, none⟩) := hp.out 3 (by rfl)
    have zz := HKz.out.below hb HKz.out.lt
    have z0 : w5.cell? ⟨w.heap.size + 1, 0, none⟩ = some (.int .i64 kz) := zz.cell 0
    have z1 : w5.cell? ⟨w.heap.size + 1, 1, none⟩ = some (.int .u32 (pz : Int)) := zz.cell 1
    have z2 : w5.cell? ⟨w.heap.size + 1, 2, none⟩ = some (.int .i64 nz) := zz.cell 2
    have z3 : w5.cell? ⟨w.heap.size + 1, 3, none⟩ = some (.slice B q d) := zz.cell 3
    have z4 : w5.cell? ⟨w.heap.size + 1, 4, none⟩ = some (.string (str t2)) := zz.cell 4
    have z5 : w5.cell? ⟨w.heap.size + 1, 5, none⟩ = some (.int .u32 (oaz : Int)) := zz.cell 5
    have z6 : w5.cell? ⟨w.heap.size + 1, 6, none⟩ = some (.int .i64 ohz) := zz.cell 6
    have z7 : w5.cell? ⟨w.heap.size + 1, 7, none⟩ = some (.int .u32 (oiz : Int)) := zz.cell 7
    have z8 : w5.cell? ⟨w.heap.size + 1, 8, none⟩ = some (.bool foz) := zz.cell 8
    clear zz
    have hc := evalC Ac; have hf := evalF Ac; have hgl := evalG Ac
    obtain ⟨ρ, hρ⟩ : ∃ ρ, Ac.eval = ρ := ⟨_, rfl⟩
    rw [hρ] at a3 hc hf hgl
    exact relPure hρ (.agg #[.int .i64 kz, .int .u32 (pz : Int), .int .i64 nz, .slice B q d, .string (str t2), .int .u32 (oaz : Int), .int .i64 ohz, .int .u32 (oiz : Int), .bool foz]) (by simp [go_sem, hc, hf, hgl, ↓IntWalk.iteOmega, a3, *]) rfl
  · refine relE_of rfl (fun j v v2 hh => absurd hh (by omega)) ?_
    intro Dn Ac w5 hp
    have hb := hp.bel
    have a9 : Ac.eval (.tmp 9) = .agg #[.int .i64 kz, .int .u32 (pz : Int), .int .i64 nz, .slice B q d, .string (str t2), .int .u32 (oaz : Int), .int .i64 ohz, .int .u32 (oiz : Int), .bool foz] := hp.dep 2 (by kernel_rfl)
    have hc := evalC Ac; have hf := evalF Ac; have hgl := evalG Ac
    obtain ⟨ρ, hρ⟩ : ∃ ρ, Ac.eval = ρ := ⟨_, rfl⟩
    rw [hρ] at a9 hc hf hgl
    refine relCall hρ 33 #[.agg #[.int .i64 kz, .int .u32 (pz : Int), .int .i64 nz, .slice B q d, .string (str t2), .int .u32 (oaz : Int), .int .i64 ohz, .int .u32 (oiz : Int), .bool foz]] (by simp [go_sem, hc, hf, hgl, ↓IntWalk.iteOmega, a9, *]) ?_
    refine (sconly_any ⟨kz, pz, nz, b2, t2, oaz, ohz, oiz, foz⟩ B q d w5 (HLz.out.below byMono hb) HBm.out).mono ?_
    intro e w6 hmv
    unfold OnlyP at hmv
    rw [HOz.out] at hmv
    obtain ⟨A6, n6, q6, rfl, hl6, hb6⟩ := hmv
    exact ⟨_, rfl, ⟨A6, n6, q6, rfl, hl6⟩, hb6⟩
  · skip
    intro Dn Ac w5 hp
    have hb := hp.bel
    have hc := evalC Ac; have hf := evalF Ac; have hgl := evalG Ac
    obtain ⟨ρ, hρ⟩ : ∃ ρ, Ac.eval = ρ := ⟨_, rfl⟩
    refine Oper.wp_mono ?_ (relVal (Rs := [fun v w' => v = .pointer (some ⟨w5.heap.size, 0, none⟩) ∧ w' = w5.alloc (.cells #[.int .i64 0, .int .u32 0, .int .i64 0, .slice none 0 0, .string ⟨#[]⟩, .int .u32 0, .int .i64 0, .int .u32 0, .bool false] 32)]) (i := 0) hρ (.pointer (some ⟨w5.heap.size, 0, none⟩)) (w5.alloc (.cells #[.int .i64 0, .int .u32 0, .int .i64 0, .slice none 0 0, .string ⟨#[]⟩, .int .u32 0, .int .i64 0, .int .u32 0, .bool false] 32)) (by simp [go_sem, hc, hf, hgl, ↓IntWalk.iteOmega, *]) ⟨rfl, rfl⟩ ((Below.refl _ _).alloc (Nat.le_refl _) _))
    rintro A' w' ⟨v, rfl, ⟨rfl, rfl⟩, hb9⟩
    refine ⟨_, rfl, ⟨_, rfl, Blk.new w5 _ _, hb.size⟩, hb9, ?_⟩
    intro j hD hj e
    obtain rfl : j = 5 := by omega
    obtain ⟨R, e2, hR, _⟩ := hp.has 5 hD
    rw [e2] at e
    injection e with e
    injection e with e
    injection e with e
    have := hR.lt
    omega
  · skip
    intro Dn Ac w5 hp
    have hb := hp.bel
    have hc := evalC Ac; have hf := evalF Ac; have hgl := evalG Ac
    obtain ⟨ρ, hρ⟩ : ∃ ρ, Ac.eval = ρ := ⟨_, rfl⟩
    refine Oper.wp_mono ?_ (relVal (Rs := [fun v w' => v = .pointer (some ⟨w5.heap.size, 0, none⟩) ∧ w' = w5.alloc (.cells #[.int .i64 0, .int .u32 0, .int .i64 0, .slice none 0 0, .string ⟨#[]⟩, .int .u32 0, .int .i64 0, .int .u32 0, .bool false] 32)]) (i := 0) hρ (.pointer (some ⟨w5.heap.size, 0, none⟩)) (w5.alloc (.cells #[.int .i64 0, .int .u32 0, .int .i64 0, .slice none 0 0, .string ⟨#[]⟩, .int .u32 0, .int .i64 0, .int .u32 0, .bool false] 32)) (by simp [go_sem, hc, hf, hgl, ↓IntWalk.iteOmega, *]) ⟨rfl, rfl⟩ ((Below.refl _ _).alloc (Nat.le_refl _) _))
    rintro A' w' ⟨v, rfl, ⟨rfl, rfl⟩, hb9⟩
    refine ⟨_, rfl, ⟨_, rfl, Blk.new w5 _ _, hb.size⟩, hb9, ?_⟩
    intro j hD hj e
    obtain rfl : j = 4 := by omega
    obtain ⟨R, e2, hR, _⟩ := hp.has 4 hD
    rw [e2] at e
    injection e with e
    injection e with e
    injection e with e
    have := hR.lt
    omega
  intro u w3 hb7 hall hprs
  obtain ⟨A1, n1, c1, e8, hl1⟩ := relAll_at hall (i := 1) (by decide +kernel)
  change u 1 = _ at e8
  obtain ⟨A2, n2, c2, e10, hl2⟩ := relAll_at hall (i := 3) (by decide +kernel)
  change u 3 = _ at e10
  obtain ⟨R5, e5, hR5, hRb5⟩ := relAll_at hall (i := 4) (by decide +kernel)
  change u 4 = _ at e5
  obtain ⟨R6, e6, hR6, hRb6⟩ := relAll_at hall (i := 5) (by decide +kernel)
  change u 5 = _ at e6
  clear hall
  simp only [List.drop_succ_cons, List.drop_zero, List.take_succ_cons, List.take_zero, putAll, Act.put, List.setIfInBounds_toArray, List.set_cons_zero, List.set_cons_succ, Nat.zero_add, Nat.reduceAdd, e8, e10, e5, e6]
  have hne : R5 ≠ R6 := by
    intro e
    have h4 := hprs 4 5 (by decide) (by decide +kernel) (by decide +kernel) (.inl ⟨rfl, rfl⟩)
    rw [show u 4 = .pointer (some ⟨R5, 0, none⟩) from e5, show u 5 = .pointer (some ⟨R6, 0, none⟩) from e6, e] at h4
    exact h4 rfl
  refine wpList_skip rfl rfl (exec_store rfl (x := .pointer (some ⟨R5, 0, none⟩)) (y := .agg #[.int .i64 ko, .int .u32 (po : Int), .int .i64 no, .slice A1 n1 c1, .string (str tO), .int .u32 (oao : Int), .int .i64 oho, .int .u32 (oio : Int), .bool foo]) rfl rfl (store_move w3 R5 ⟨ko, po, no, bo, tO, oao, oho, oio, foo⟩ A1 n1 c1 hR5)) ?_
  refine wpList_skip rfl rfl (exec_store rfl (x := .pointer (some ⟨R6, 0, none⟩)) (y := .agg #[.int .i64 kq, .int .u32 (pq : Int), .int .i64 nq, .slice A2 n2 c2, .string (str tq), .int .u32 (oaq : Int), .int .i64 ohq, .int .u32 (oiq : Int), .bool foq]) rfl rfl (store_move _ R6 ⟨kq, pq, nq, bq, tq, oaq, ohq, oiq, foq⟩ A2 n2 c2 (setMv_far hR6 (Ne.symm hne)))) ?_
  have hs1 := HBx.out.size
  have hbw := HBx.out.trans (hb7.mono hs1)
  obtain ⟨w4, hw4⟩ : ∃ w4, setMv (setMv w3 R5 ⟨ko, po, no, bo, tO, oao, oho, oio, foo⟩ (.slice A1 n1 c1)) R6 ⟨kq, pq, nq, bq, tq, oaq, ohq, oiq, foq⟩ (.slice A2 n2 c2) = w4 := ⟨_, rfl⟩
  rw [hw4]
  have HK4 : Hid (Blk w4 R5 32 #[.int .i64 ko, .int .u32 (po : Int), .int .i64 no, .slice A1 n1 c1, .string (str tO), .int .u32 (oao : Int), .int .i64 oho, .int .u32 (oio : Int), .bool foo]) := hide (by rw [← hw4]; exact setMv_far (setMv_blk hR5) hne)
  have HKz4 : Hid (Blk w4 R6 32 #[.int .i64 kq, .int .u32 (pq : Int), .int .i64 nq, .slice A2 n2 c2, .string (str tq), .int .u32 (oaq : Int), .int .i64 ohq, .int .u32 (oiq : Int), .bool foq]) := hide (by rw [← hw4]; exact setMv_blk (setMv_far hR6 (Ne.symm hne)))
  have HLx : Hid (LstAt 1 byR w4 A1 n1 c1 bo) := hide (by rw [← hw4]; exact by_grown (by_grown hl1 setMv_grown (by_apart hl1 hR5)) setMv_grown (by_apart hl1 hR6))
  have HLy : Hid (LstAt 1 byR w4 A2 n2 c2 bq) := hide (by rw [← hw4]; exact by_grown (by_grown hl2 setMv_grown (by_apart hl2 hR5)) setMv_grown (by_apart hl2 hR6))
  have HB4 : Hid (Below w.heap.size w w4) := hide (by rw [← hw4]; exact setMv_below (setMv_below hbw (by omega)) (by omega))
  have hl4 := HK4.out.lt
  have hlz4 := HKz4.out.lt
  clear hw4 hR5 hR6 hRb5 hRb6 hl1 hl2 hbw hs1 hb7 hprs e5 e6 e8 e10 hne HBx HK HKz HLs HLz HOx HOz HBn HBm
  have k0 : w4.cell? ⟨R5, 0, none⟩ = some (.int .i64 ko) := HK4.out.cell 0
  have k1 : w4.cell? ⟨R5, 1, none⟩ = some (.int .u32 (po : Int)) := HK4.out.cell 1
  have k2 : w4.cell? ⟨R5, 2, none⟩ = some (.int .i64 no) := HK4.out.cell 2
  have k3 : w4.cell? ⟨R5, 3, none⟩ = some (.slice A1 n1 c1) := HK4.out.cell 3
  have k4 : w4.cell? ⟨R5, 4, none⟩ = some (.string (str tO)) := HK4.out.cell 4
  have k5 : w4.cell? ⟨R5, 5, none⟩ = some (.int .u32 (oao : Int)) := HK4.out.cell 5
  have k6 : w4.cell? ⟨R5, 6, none⟩ = some (.int .i64 oho) := HK4.out.cell 6
  have k7 : w4.cell? ⟨R5, 7, none⟩ = some (.int .u32 (oio : Int)) := HK4.out.cell 7
  have k8 : w4.cell? ⟨R5, 8, none⟩ = some (.bool foo) := HK4.out.cell 8
  have z0 : w4.cell? ⟨R6, 0, none⟩ = some (.int .i64 kq) := HKz4.out.cell 0
  have z1 : w4.cell? ⟨R6, 1, none⟩ = some (.int .u32 (pq : Int)) := HKz4.out.cell 1
  have z2 : w4.cell? ⟨R6, 2, none⟩ = some (.int .i64 nq) := HKz4.out.cell 2
  have z3 : w4.cell? ⟨R6, 3, none⟩ = some (.slice A2 n2 c2) := HKz4.out.cell 3
  have z4 : w4.cell? ⟨R6, 4, none⟩ = some (.string (str tq)) := HKz4.out.cell 4
  have z5 : w4.cell? ⟨R6, 5, none⟩ = some (.int .u32 (oaq : Int)) := HKz4.out.cell 5
  have z6 : w4.cell? ⟨R6, 6, none⟩ = some (.int .i64 ohq) := HKz4.out.cell 6
  have z7 : w4.cell? ⟨R6, 7, none⟩ = some (.int .u32 (oiq : Int)) := HKz4.out.cell 7
  have z8 : w4.cell? ⟨R6, 8, none⟩ = some (.bool foq) := HKz4.out.cell 8
  by_cases h : ko = kq
  case neg =>
    have e1 : (ko == kq) = false := by simpa using h
    obtain rfl : RR = false := by rw [← HRs.out]; exact decide_eq_false (fun hh => h (by simp_all))
    clear h
    go_wp2
    go_ret
    exact ⟨rfl, HB4.out⟩
  subst h
  by_cases h : po = pq
  case neg =>
    have e1 : ((po : Int) == (pq : Int)) = false := by simp; omega
    obtain rfl : RR = false := by rw [← HRs.out]; exact decide_eq_false (fun hh => h (by simp_all))
    clear h
    go_wp2
    go_ret
    exact ⟨rfl, HB4.out⟩
  subst h
  by_cases h : no = nq
  case neg =>
    have e1 : (no == nq) = false := by simpa using h
    obtain rfl : RR = false := by rw [← HRs.out]; exact decide_eq_false (fun hh => h (by simp_all))
    clear h
    go_wp2
    go_ret
    exact ⟨rfl, HB4.out⟩
  subst h
  by_cases h : tO = tq
  case neg =>
    have e1 : ((str tO).toList == (str tq).toList) = false := by rw [str_beq]; simpa using h
    obtain rfl : RR = false := by rw [← HRs.out]; exact decide_eq_false (fun hh => h (by simp_all))
    clear h
    go_wp2
    go_ret
    exact ⟨rfl, HB4.out⟩
  subst h
  by_cases h : oao = oaq
  case neg =>
    have e1 : ((oao : Int) == (oaq : Int)) = false := by simp; omega
    obtain rfl : RR = false := by rw [← HRs.out]; exact decide_eq_false (fun hh => h (by simp_all))
    clear h
    go_wp2
    go_ret
    exact ⟨rfl, HB4.out⟩
  subst h
  by_cases h : oho = ohq
  case neg =>
    have e1 : (oho == ohq) = false := by simpa using h
    obtain rfl : RR = false := by rw [← HRs.out]; exact decide_eq_false (fun hh => h (by simp_all))
    clear h
    go_wp2
    go_ret
    exact ⟨rfl, HB4.out⟩
  subst h
  by_cases h : oio = oiq
  case neg =>
    have e1 : ((oio : Int) == (oiq : Int)) = false := by simp; omega
    obtain rfl : RR = false := by rw [← HRs.out]; exact decide_eq_false (fun hh => h (by simp_all))
    clear h
    go_wp2
    go_ret
    exact ⟨rfl, HB4.out⟩
  subst h
  by_cases h : foo = foq
  case neg =>
    have e1 : (foo == foq) = false := by simpa using h
    obtain rfl : RR = false := by rw [← HRs.out]; exact decide_eq_false (fun hh => h (by simp_all))
    clear h
    go_wp2
    go_ret
    exact ⟨rfl, HB4.out⟩
  subst h
  have hcA := conv_by HLx.out
  have hcB := conv_by HLy.out
  have HEq := hide (Tryz.bytes_Equal_strs (.slice A1 n1 c1) (.slice A2 n2 c2) (str bo) (str bq) w4 hcA hcB)
  clear hcA hcB
  go_wp2_with fail
  refine HEq.out.mono ?_
  rintro e w5 ⟨rfl, rfl⟩
  have hbb : ((str bo).toList == (str bq).toList) = decide (bo = bq) := by
    rw [str_beq]
    exact Bool.eq_iff_iff.2 (by simp)
  rw [hbb]
  by_cases h : bo = bq
  · subst h
    obtain rfl : RR = true := by rw [← HRs.out]; exact sameM_self _
    rw [decide_eq_true (p := bo = bo) rfl]
    go_wp2
    go_ret
    exact ⟨rfl, HB4.out⟩
  · rw [decide_eq_false h]
    obtain rfl : RR = false := by rw [← HRs.out]; exact decide_eq_false (fun hh => h (by simp_all))
    go_wp2
    go_ret
    exact ⟨rfl, HB4.out⟩
end Go.Proofs.YtlfknndpbejbcaaGreatDoor
set_option linter.unusedSimpArgs false
set_option linter.unusedVariables false
namespace Go.Proofs.YtlfknndpbejbcaaGreatDoor
open Go.RowKit Go.WideShapes Go.ChangeShapes
attribute [local go_sem] Oper.semAt_some
theorem head_cut {m : MV} (ok : MvOk m) (hg : mvGood m = true) (hb : m.b.length ≤ 600) : (jw (headM m)).length ≤ 2500 := by
  have h0 := jw_len2 (headM m)
  have hw := wordM_len m.k
  have ha := addrL_len m.p
  have hi := addrL_len m.oi
  have hl : (headM m).length ≤ 5 ∧ ((headM m).map List.length).sum ≤ 2000 := by
    obtain ⟨o1, o2, o3, o4, o5, o6⟩ := ok
    unfold mvGood at hg
    unfold headM tailM
    by_cases h8 : m.k = 8
    · rw [h8] at hg hw
      simp at hg
      have := dec_len m.n.toNat 18 (by omega)
      simp [h8]; omega
    · by_cases h5 : m.k = 5
      · rw [h5] at hg hw
        simp at hg
        have := hexT_len m.b
        simp [h5]; omega
      · by_cases h7 : m.k = 7
        · rw [h7] at hg hw
          simp at hg
          have h1 := linesM_len m.t
          have := dec_len (linesM m.t).length 18 (by omega)
          simp [h7]; omega
        · by_cases h9 : m.k = 9
          · rw [h9] at hg hw
            simp at hg
            have := dec_len m.oa 18 (by omega)
            have := dec_len m.oh.toNat 18 (by omega)
            simp [h9]; omega
          · by_cases h6 : m.k = 6
            · rw [h6] at hw
              simp [h6]; omega
            · simp [h5, h6, h7, h8, h9]; omega
  omega
theorem shown_cut {m : MV} (ok : MvOk m) (hg : mvGood m = true) (hb : m.b.length ≤ 600) (ht : m.t.length ≤ 1500) : (feedT (shownM m)).length ≤ 8000 := by
  have h0 := head_cut ok hg hb
  unfold shownM
  rw [feedT_cons_len]
  have : (feedT (behM m)).length ≤ 4000 := by
    unfold behM
    split
    · have h2 : ∀ l : List (List UInt8), (feedT (l.map (124 :: ·))).length = (feedT l).length + l.length := by
        intro l
        induction l with
        | nil => rfl
        | cons x l ih => rw [List.map_cons, feedT_cons_len, feedT_cons_len, ih]; simp; omega
      rw [h2]
      have h3 := linesM_feed m.t
      have h4 := linesM_len m.t
      omega
    · simp [feedT]
  omega
theorem only_lst {K : MV} {A : Option Addr} {n c : Nat} {w : World} (h : LstAt 1 byR w A n c K.b) : ∃ A2 n2 c2, onlyV K (.slice A n c) = .slice A2 n2 c2 ∧ LstAt 1 byR w A2 n2 c2 (mvOnly K).b := by
  unfold onlyV mvOnly
  by_cases h5 : K.k = 5
  · refine ⟨A, n, c, by rw [if_pos h5], ?_⟩
    rw [if_neg (by omega)]
    simp only [h5, if_true]
    exact h
  · refine ⟨none, 0, 0, by rw [if_neg h5], ?_⟩
    split
    · exact LstAt.none_
    · simp only [h5, if_false]
      exact LstAt.none_
theorem by_lst2 {B nb c : Nat} {w : World} {A : Option Addr} {b : List UInt8} (hn : b.length = nb) (h : w.ownsRow B 5 1 (.slice A nb c) nb (byB b)) : LstAt 1 byR w A nb c b := by
  subst hn
  exact by_lst h
end Go.Proofs.YtlfknndpbejbcaaGreatDoor
