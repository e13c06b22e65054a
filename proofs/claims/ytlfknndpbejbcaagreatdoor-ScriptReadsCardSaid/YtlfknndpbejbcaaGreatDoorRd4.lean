import Derived.Test.YtlfknndpbejbcaaGreatDoorRd3
import Derived.WalkKit
import Derived.ProofKit
import Derived.OpenShut
import Derived.Below
import Derived.Laws.OwnMore
import Derived.Laws.Rows
import Derived.Laws.MakeOwn
import Derived.Deep.AppendLies
import Derived.Deep.Draws
import Derived.Deep.OwnRows
import Derived.Deep.QuietTactic
import Derived.Maps.AppendAt
import Derived.RegionTactic
import Derived.OwnWalk
import Derived.ChangeSame
import Derived.Outline
import Derived.BigQuiet
import Derived.WalkMore
import Derived.ScopeJumps
import Derived.WalkLawsBesides
import Derived.WalkSpells
import Derived.Laws.BitsLemmas
import Derived.Laws.BitsAllLaws
import Derived.Deep.Quiet
import Derived.WideKeyArgs
import Derived.Deep.DeepHandedRow
import Derived.Deep.DeepWitnessRowRef
import Derived.Lib.LaidTab
import Derived.Lib.AppendIntMem
import Derived.LaidMore
import Derived.MakeChecks
import Derived.Lib.Itoa
import Derived.Lib.ItoaMem
import Derived.BigRegion
import Derived.Deep.Slices
import Derived.Orders
import Derived.Lib.PathFns
import Derived.Lib.IndexBytes
import Derived.RangeFuncWrites
import Derived.RangeFuncNested
import Derived.RangeFuncBound
import Derived.RangeFuncCalls
import Derived.RangeFuncLeaves
import Derived.RangeFuncBox
import Derived.Shelf.Abstract
import Derived.Shelf.RegionOpen
import Derived.OwnWalkIn
import Derived.TacticsInMore
import Derived.LoopNIn
import Derived.LoopIn
import Derived.Lib.SmallJoins
import Derived.Lib.ParseIntBCases
import Derived.Lib.IndexMore
import Derived.Shelf.Vars
import Derived.Lib.AtoiAllCases
import Derived.SliceStrings
import Derived.Deep.RegionLaw
import Derived.Sort.LotA
import Derived.BigRegionIn
import Derived.Lib.Strings
import Derived.Lib.Bytealg
import Derived.StillTailTactics
import Derived.Deep.RegionHeld3
import Derived.Shelf.Strings.SplitShaped
import Derived.Shelf.Strings.Prefix
import Derived.Shelf.Small.Strs
import Derived.Shelf.Strings.BuilderK
import Derived.Laws.BytesString
import Derived.Laws.IdiomStrings
set_option linter.unusedSimpArgs false
set_option linter.unusedVariables false
namespace Go.Proofs.YtlfknndpbejbcaaGreatDoor
open Go.RowKit Go.WideShapes Go.ChangeShapes
attribute [local go_sem] Oper.semAt_some
theorem pieces_c10 (l : List UInt8) : pieces 10 (10 :: l) = [] :: pieces 10 l := by
  conv => lhs; unfold pieces
  rw [if_pos rfl]
theorem pieces_cne {x : UInt8} (h : x ≠ 10) (l : List UInt8) : pieces 10 (x :: l) = (x :: (pieces 10 l).headD []) :: (pieces 10 l).tail := by
  conv => lhs; unfold pieces
  rw [if_neg h]
theorem pieces_snoc {c : UInt8} (hc : c ≠ 10) : ∀ (r : List UInt8), ∃ q z, pieces 10 r = q ++ [z] ∧ pieces 10 (r ++ [c]) = q ++ [z ++ [c]]
  | [] => ⟨[], [], rfl, by rw [List.nil_append, pieces_cne hc]; rfl⟩
  | x :: l => by
    obtain ⟨q, z, h1, h2⟩ := pieces_snoc hc l
    rw [List.cons_append]
    by_cases hx : x = 10
    · subst hx
      exact ⟨[] :: q, z, by rw [pieces_c10, h1]; rfl, by rw [pieces_c10, h2]; rfl⟩
    · cases q with
      | nil => exact ⟨[], x :: z, by rw [pieces_cne hx, h1]; rfl, by rw [pieces_cne hx, h2]; rfl⟩
      | cons a q => exact ⟨(x :: a) :: q, z, by rw [pieces_cne hx, h1]; rfl, by rw [pieces_cne hx, h2]; rfl⟩
theorem lines_snoc10 (r : List UInt8) : linesM (r ++ [10]) = linesM r ++ [restM r] := by
  rw [linesM_end]
  unfold linesM restM
  exact (List.dropLast_concat_getLast (pieces_ne 10 r)).symm
theorem lines_snoc {c : UInt8} (hc : c ≠ 10) (r : List UInt8) : linesM (r ++ [c]) = linesM r := by
  obtain ⟨q, z, h1, h2⟩ := pieces_snoc hc r
  unfold linesM
  rw [h1, h2, List.dropLast_concat, List.dropLast_concat]
def fromM (r : List UInt8) : Nat := (feedT (linesM r)).length
theorem rest_drop (r : List UInt8) : restM r = r.drop (fromM r) := by
  have h := feed_all r
  have e : feedT ((pieces 10 r).dropLast) = feedT (linesM r) := rfl
  have e2 : (pieces 10 r).getLast (pieces_ne 10 r) = restM r := rfl
  rw [e, e2] at h
  have h2 := congrArg (List.drop (fromM r)) h
  rw [show fromM r = (feedT (linesM r)).length from rfl, List.drop_left] at h2
  exact h2
theorem from_le (r : List UInt8) : fromM r ≤ r.length := linesM_feed r
theorem from_snoc10 (r : List UInt8) : fromM (r ++ [10]) = r.length + 1 := by
  have h := congrArg List.length (feed_all r)
  have e : feedT ((pieces 10 r).dropLast) = feedT (linesM r) := rfl
  have e2 : (pieces 10 r).getLast (pieces_ne 10 r) = restM r := rfl
  rw [e, e2, List.length_append] at h
  unfold fromM
  rw [lines_snoc10, feedT_snoc, List.length_append, List.length_append]
  simp; omega
theorem cut_mid (t : List UInt8) (a b : Nat) (hb : b ≤ t.length) : (str t).extract a b = str ((t.take b).drop a) := by
  have : ((str t).extract a b).data = (str ((t.take b).drop a)).data := by
    rw [ByteArray.data_extract]
    unfold str
    apply Array.ext'
    simp only [Array.toList_extract, List.extract]
    rw [List.drop_take]
  cases hx : (str t).extract a b
  rw [hx] at this
  simp only at this
  rw [this]
set_option maxRecDepth 100000 in
set_option maxHeartbeats 4000000 in
theorem rlines_any (t : List UInt8) (hl : t.length ≤ 1000000) (w : World) :
    Calls Tryz.prog 13 #[.string (str t)] w fun e w' => ∃ A n c, e = .returned (.slice A n c) ∧ (linesM t).length = n ∧ w'.ownsRow w.heap.size 9 1 (.slice A n c) n (strv (linesM t)) ∧ Below w.heap.size w w' := by
  obtain ⟨i0, hi, hz0, hz1, hz2⟩ := info_parts infoStr
  have hsz : (str t).size = t.length := str_size t
  obtain ⟨T, hT⟩ : ∃ T, str t = T := ⟨_, rfl⟩
  rw [hT] at hsz ⊢
  have HT := hide hT
  have HN := hide hsz
  have hsb : T.size ≤ 1000000 := by omega
  have HM0 : Hid ((w.alloc (.cells #[] 9)).ownsRow w.heap.size 9 1 (.slice (some ⟨w.heap.size, 0, none⟩) 0 0) 0 []) := hide (World.ownsRow_made w #[] 0 (Nat.le_refl _) (by simp [maxLen]) (by simp))
  have HBe := hide ((Below.refl w.heap.size w).alloc (Nat.le_refl _) (.cells #[] 9))
  clear hT hsz
  go_enter Tryz.func13, Tryz.ntmps13
  go_wp2
  go_loopw [3, 4, 5] (fun lv fv iv wr => ∃ (i q f : Nat), i ≤ T.size ∧ iv = .int .i64 (i : Nat) ∧ fv = .int .i64 (f : Nat) ∧ f = fromM (t.take i) ∧ q = (linesM (t.take i)).length ∧ wr.ownsRow w.heap.size 9 1 lv q (strv (linesM (t.take i))) ∧ Below w.heap.size w wr) (fun _ _ iv _ => T.size - (intOf iv).toNat)
  case atStart => exact ⟨0, 0, 0, Nat.zero_le _, rfl, rfl, rfl, rfl, HM0.out, HBe.out⟩
  case round =>
    obtain ⟨i, q, f, hi2, rfl, rfl, hf, hq, hown, hbel⟩ := hrel
    obtain ⟨Al, cl, rfl⟩ := own_slice hown
    have HO := hide hown
    have HB := hide hbel
    have HF := hide hf
    have HQ := hide hq
    have hsw := hbel.size
    have hfi : f ≤ i := by
      rw [hf]
      have h1 := from_le (t.take i)
      rw [List.length_take] at h1
      omega
    have hqi : q ≤ i := by
      rw [hq]
      have h1 := linesM_len (t.take i)
      rw [List.length_take] at h1
      omega
    clear hown hbel hf hq
    have q0 : (0 : Int) ≤ (i : Int) := by omega
    have q2 : (0 : Int) ≤ (f : Int) := by omega
    have q3 : (f : Int) ≤ (i : Int) := by omega
    by_cases hlt : i < T.size
    · have q1 : (i : Int) < (T.size : Int) := by omega
      have q4 : (i : Int) ≤ (T.size : Int) := by omega
      obtain ⟨a, ha⟩ : ∃ a, t[i]? = some a := ⟨_, List.getElem?_eq_getElem (by have := HN.out; omega)⟩
      have hSa : ∀ h : i < T.size, T[i]'h = a := fun h => by
        have := str_at HT.out i h
        rw [ha] at this
        injection this with this
        exact this.symm
      have HTk : Hid (t.take (i + 1) = t.take i ++ [a]) := hide (by rw [List.take_add_one, ha]; rfl)
      by_cases h10 : a = 10
      · subst h10
        have HEx : Hid (T.extract f i = str (restM (t.take i))) := hide (by
          rw [← HT.out, cut_mid t f i (by have := HN.out; omega), rest_drop, ← HF.out])
        clear ha
        go_wp2_with (at_builtin; refine wpList_append_any _ rfl (.tmp 17) (.tmp 22) 37 rfl w.heap.size 9 i0 _ 1 16 Tryz.underlying37 hi hz0 hz1 hz2 rfl (by decide) (.slice Al q cl) q _ rfl (HO.out.alloc _) (wr.heap.size + 1) (some ⟨wr.heap.size, 0, none⟩) 1 1 [_] rfl (reads_blkN (Blk.new _ _ _) (Nat.lt_succ_self _) rfl rfl) (by simp [Value.oneCell']) (by unfold maxLen; omega) (by omega) (by simp; omega) ?_; intro v1 w3 hown hgrow hat; have HO3 := hide hown; have HB3 : Hid (Below w.heap.size w w3) := hide (Below.grown (HB.out.alloc hsw _) hgrow (by simp; omega) (fun k hk => own_low_block HO.out k hk)); clear hown hgrow hat)
        go_roundw
        case rel =>
          refine ⟨i + 1, q + 1, i + 1, by omega, by go_num, by go_num, ?_, ?_, ?_, HB3.out⟩
          · rw [HTk.out, from_snoc10, List.length_take]; have := HN.out; omega
          · rw [HTk.out, lines_snoc10, List.length_append, ← HQ.out]; rfl
          · have h3 := HO3.out
            rw [HEx.out] at h3
            rw [HTk.out, lines_snoc10, strv_snoc]
            exact h3
        case measure => simp [intOf]; omega
      · have e10 : ((a.toNat : Int) == 10) = false := by
          rw [beq_eq_false_iff_ne]
          intro h
          have h2 : a.toNat = 10 := by omega
          exact h10 (UInt8.toNat_inj.1 h2)
        have HL := hide (lines_snoc h10 (t.take i))
        clear ha h10
        go_wp2
        go_roundw
        case rel =>
          refine ⟨i + 1, q, f, by omega, by go_num, rfl, ?_, ?_, ?_, HB.out⟩
          · rw [HTk.out]; unfold fromM; rw [HL.out]; exact HF.out
          · rw [HTk.out, HL.out]; exact HQ.out
          · rw [HTk.out, HL.out]; exact HO.out
        case measure => simp [intOf]; omega
    · obtain rfl : i = T.size := by omega
      have HTk : Hid (t.take T.size = t) := hide (List.take_of_length_le (by rw [HN.out]; exact Nat.le_refl _))
      go_wp2
      go_ret
      exact ⟨Al, q, cl, rfl, by rw [HQ.out, HTk.out], by have := HO.out; rwa [HTk.out] at this, HB.out⟩
theorem rint_any (n : Nat) (h : n < 4294967296) (w : World) : Calls Tryz.prog 36 #[.int .i64 (n : Int)] w fun e w' => e = .returned (.string (str (Lib.decDigits n))) ∧ w = w' := by
  have HX := hide (num_any n (by omega) w)
  have hwr : IntKind.u64.wrap (n : Int) = (n : Int) := by rw [IntKind.wrap_u64]; omega
  have e1 : decide ((n : Int) < 0) = false := by simp
  go_enter Tryz.func36, Tryz.ntmps36
  go_wp2_with fail
  refine HX.out.mono ?_
  rintro e w1 ⟨rfl, rfl⟩
  go_wp2
  go_ret
  exact ⟨rfl, rfl⟩
end Go.Proofs.YtlfknndpbejbcaaGreatDoor
set_option linter.unusedSimpArgs false
set_option linter.unusedVariables false
namespace Go.Proofs.YtlfknndpbejbcaaGreatDoor
open Go.RowKit Go.WideShapes Go.ChangeShapes
attribute [local go_sem] Oper.semAt_some
set_option maxRecDepth 100000 in
set_option maxHeartbeats 16000000 in
theorem rshow_any (m : MV) (A : Option Addr) (n c : Nat) (w : World) (h : LstAt 1 byR w A n c m.b) (ok : MvOk m) (hg : mvGood m = true) :
    Calls Tryz.prog 24 #[mvV m (.slice A n c)] w (ShownP m w) := by
  obtain ⟨i0, hi, hz0, hz1, hz2⟩ := info_parts infoStr
  have hk := mvGood_k hg
  obtain ⟨k, p, nn, b, t, oa, oh, oi, fo⟩ := m
  obtain ⟨o1, o2, o3, o4, o5, o6⟩ := ok
  simp only at hk h o1 o2 o3 o4 o5 o6
  unfold mvV
  simp only
  obtain ⟨va, hva⟩ : ∃ va, Value.slice A n c = va := ⟨_, rfl⟩
  rw [hva]
  have HVa := hide hva
  have HLs := hide h
  have HG := hide hg
  clear h hg hva
  have hcase : k = 1 ∨ k = 2 ∨ k = 3 ∨ k = 4 ∨ k = 5 ∨ k = 6 ∨ k = 7 ∨ k = 8 ∨ k = 9 ∨ k = 10 := by omega
  have sz1 : (str (addrL p)).size ≤ 15 := by rw [str_size]; exact addrL_len p
  have sz2 : (str (addrL oi)).size ≤ 15 := by rw [str_size]; exact addrL_len oi
  have sz3 : (str (Lib.decDigits oa)).size ≤ 10 := by rw [str_size]; exact dec_len _ 9 (by omega)
  clear hk o4 o5 o6
  rcases hcase with rfl | rfl | rfl | rfl | rfl | rfl | rfl | rfl | rfl | rfl
  · have HK0 : Hid (Blk (((w.alloc (.cells #[.int .i64 1, .int .u32 (p : Int), .int .i64 nn, va, .string (str t), .int .u32 (oa : Int), .int .i64 oh, .int .u32 (oi : Int), .bool fo] 32)).alloc (.cells #[.string ⟨#[]⟩, .string ⟨#[115, 116, 97, 114, 116]⟩, .string ⟨#[115, 116, 111, 112]⟩, .string ⟨#[117, 112]⟩, .string ⟨#[100, 111, 119, 110]⟩, .string ⟨#[98, 121, 116, 101, 115]⟩, .string ⟨#[116, 105, 99, 107]⟩, .string ⟨#[99, 111, 110, 102, 105, 103]⟩, .string ⟨#[116, 97, 107, 101]⟩, .string ⟨#[114, 105, 118, 97, 108]⟩, .string ⟨#[114, 101, 115, 101, 116]⟩] 9)).alloc (.cells #[] 9)) w.heap.size 32 #[.int .i64 1, .int .u32 (p : Int), .int .i64 nn, va, .string (str t), .int .u32 (oa : Int), .int .i64 oh, .int .u32 (oi : Int), .bool fo]) := hide (((Blk.new w _ _).alloc _).alloc _)
    have HB0 : Hid (Below w.heap.size w (((w.alloc (.cells #[.int .i64 1, .int .u32 (p : Int), .int .i64 nn, va, .string (str t), .int .u32 (oa : Int), .int .i64 oh, .int .u32 (oi : Int), .bool fo] 32)).alloc (.cells #[.string ⟨#[]⟩, .string ⟨#[115, 116, 97, 114, 116]⟩, .string ⟨#[115, 116, 111, 112]⟩, .string ⟨#[117, 112]⟩, .string ⟨#[100, 111, 119, 110]⟩, .string ⟨#[98, 121, 116, 101, 115]⟩, .string ⟨#[116, 105, 99, 107]⟩, .string ⟨#[99, 111, 110, 102, 105, 103]⟩, .string ⟨#[116, 97, 107, 101]⟩, .string ⟨#[114, 105, 118, 97, 108]⟩, .string ⟨#[114, 101, 115, 101, 116]⟩] 9)).alloc (.cells #[] 9))) := hide ((((Below.refl _ w).alloc (Nat.le_refl _) _).alloc (by simp) _).alloc (by simp; omega) _)
    go_enter Tryz.func24, Tryz.ntmps24
    go_wp2_with fail
    refine (refAddr_any p (by omega) _).mono ?_
    rintro e w2 ⟨rfl, hw⟩
    have HK2 : Hid (Blk w2 w.heap.size 32 #[.int .i64 1, .int .u32 (p : Int), .int .i64 nn, va, .string (str t), .int .u32 (oa : Int), .int .i64 oh, .int .u32 (oi : Int), .bool fo]) := hide (by rw [← hw]; exact HK0.out)
    have HB2 : Hid (Below w.heap.size w w2) := hide (by rw [← hw]; exact HB0.out)
    have hl2 := HK2.out.lt
    clear hw
    have c0 : w2.cell? ⟨w.heap.size, 0, none⟩ = some (.int .i64 1) := HK2.out.cell 0
    have c1 : w2.cell? ⟨w.heap.size, 1, none⟩ = some (.int .u32 (p : Int)) := HK2.out.cell 1
    have c2 : w2.cell? ⟨w.heap.size, 2, none⟩ = some (.int .i64 nn) := HK2.out.cell 2
    have c3 : w2.cell? ⟨w.heap.size, 3, none⟩ = some (va) := HK2.out.cell 3
    have c4 : w2.cell? ⟨w.heap.size, 4, none⟩ = some (.string (str t)) := HK2.out.cell 4
    have c5 : w2.cell? ⟨w.heap.size, 5, none⟩ = some (.int .u32 (oa : Int)) := HK2.out.cell 5
    have c6 : w2.cell? ⟨w.heap.size, 6, none⟩ = some (.int .i64 oh) := HK2.out.cell 6
    have c7 : w2.cell? ⟨w.heap.size, 7, none⟩ = some (.int .u32 (oi : Int)) := HK2.out.cell 7
    have c8 : w2.cell? ⟨w.heap.size, 8, none⟩ = some (.bool fo) := HK2.out.cell 8
    have HJ : Hid ((⟨#[115, 116, 97, 114, 116]⟩ : ByteArray) ++ (⟨#[32]⟩ : ByteArray) ++ str (addrL p) = str (jw [wordM 1, addrL p])) := hide (by
      show str (wordM 1) ++ str [32] ++ str (addrL p) = _
      rw [cat_str, cat_str, jw_cons2, jw_one]; simp)
    go_wp2
    rw [HJ.out]
    go_loopw [6, 7] (fun lv iv wr => ∃ j : Nat, j ≤ 0 ∧ iv = .int .i64 (j : Nat) ∧ wr.ownsRow w2.heap.size 9 1 lv (1 + j) (strv ([jw [wordM 1, addrL p]] ++ (([] : List (List UInt8)).take j).map (124 :: ·))) ∧ Below w2.heap.size w2 wr) (fun _ iv _ => 0 - (intOf iv).toNat)
    case atStart => exact ⟨0, Nat.zero_le _, rfl, own_oneS _ (Nat.le_refl _), (Below.refl _ _).alloc (Nat.le_refl _) _⟩
    case round =>
      obtain ⟨j, hj, rfl, hown, hbel⟩ := hrel
      obtain ⟨A6, d6, rfl⟩ := own_slice hown
      have HO := hide hown
      have HB := hide hbel
      have hsw := hbel.size
      clear hown
      obtain rfl : j = 0 := by omega
      clear hbel
      go_wp2
      go_ret
      have HFn : Hid (shownM ⟨1, p, nn, b, t, oa, oh, oi, fo⟩ = [jw [wordM 1, addrL p]] ++ (([] : List (List UInt8)).take 0).map (124 :: ·)) := hide (by simp [shownM, headM, tailM, behM])
      exact ⟨A6, _, d6, rfl, by rw [HFn.out]; rfl, by rw [HFn.out]; exact own_baseLe HO.out HB2.out.size, HB2.out.trans (HB.out.mono HB2.out.size)⟩
  · have HK0 : Hid (Blk (((w.alloc (.cells #[.int .i64 2, .int .u32 (p : Int), .int .i64 nn, va, .string (str t), .int .u32 (oa : Int), .int .i64 oh, .int .u32 (oi : Int), .bool fo] 32)).alloc (.cells #[.string ⟨#[]⟩, .string ⟨#[115, 116, 97, 114, 116]⟩, .string ⟨#[115, 116, 111, 112]⟩, .string ⟨#[117, 112]⟩, .string ⟨#[100, 111, 119, 110]⟩, .string ⟨#[98, 121, 116, 101, 115]⟩, .string ⟨#[116, 105, 99, 107]⟩, .string ⟨#[99, 111, 110, 102, 105, 103]⟩, .string ⟨#[116, 97, 107, 101]⟩, .string ⟨#[114, 105, 118, 97, 108]⟩, .string ⟨#[114, 101, 115, 101, 116]⟩] 9)).alloc (.cells #[] 9)) w.heap.size 32 #[.int .i64 2, .int .u32 (p : Int), .int .i64 nn, va, .string (str t), .int .u32 (oa : Int), .int .i64 oh, .int .u32 (oi : Int), .bool fo]) := hide (((Blk.new w _ _).alloc _).alloc _)
    have HB0 : Hid (Below w.heap.size w (((w.alloc (.cells #[.int .i64 2, .int .u32 (p : Int), .int .i64 nn, va, .string (str t), .int .u32 (oa : Int), .int .i64 oh, .int .u32 (oi : Int), .bool fo] 32)).alloc (.cells #[.string ⟨#[]⟩, .string ⟨#[115, 116, 97, 114, 116]⟩, .string ⟨#[115, 116, 111, 112]⟩, .string ⟨#[117, 112]⟩, .string ⟨#[100, 111, 119, 110]⟩, .string ⟨#[98, 121, 116, 101, 115]⟩, .string ⟨#[116, 105, 99, 107]⟩, .string ⟨#[99, 111, 110, 102, 105, 103]⟩, .string ⟨#[116, 97, 107, 101]⟩, .string ⟨#[114, 105, 118, 97, 108]⟩, .string ⟨#[114, 101, 115, 101, 116]⟩] 9)).alloc (.cells #[] 9))) := hide ((((Below.refl _ w).alloc (Nat.le_refl _) _).alloc (by simp) _).alloc (by simp; omega) _)
    go_enter Tryz.func24, Tryz.ntmps24
    go_wp2_with fail
    refine (refAddr_any p (by omega) _).mono ?_
    rintro e w2 ⟨rfl, hw⟩
    have HK2 : Hid (Blk w2 w.heap.size 32 #[.int .i64 2, .int .u32 (p : Int), .int .i64 nn, va, .string (str t), .int .u32 (oa : Int), .int .i64 oh, .int .u32 (oi : Int), .bool fo]) := hide (by rw [← hw]; exact HK0.out)
    have HB2 : Hid (Below w.heap.size w w2) := hide (by rw [← hw]; exact HB0.out)
    have hl2 := HK2.out.lt
    clear hw
    have c0 : w2.cell? ⟨w.heap.size, 0, none⟩ = some (.int .i64 2) := HK2.out.cell 0
    have c1 : w2.cell? ⟨w.heap.size, 1, none⟩ = some (.int .u32 (p : Int)) := HK2.out.cell 1
    have c2 : w2.cell? ⟨w.heap.size, 2, none⟩ = some (.int .i64 nn) := HK2.out.cell 2
    have c3 : w2.cell? ⟨w.heap.size, 3, none⟩ = some (va) := HK2.out.cell 3
    have c4 : w2.cell? ⟨w.heap.size, 4, none⟩ = some (.string (str t)) := HK2.out.cell 4
    have c5 : w2.cell? ⟨w.heap.size, 5, none⟩ = some (.int .u32 (oa : Int)) := HK2.out.cell 5
    have c6 : w2.cell? ⟨w.heap.size, 6, none⟩ = some (.int .i64 oh) := HK2.out.cell 6
    have c7 : w2.cell? ⟨w.heap.size, 7, none⟩ = some (.int .u32 (oi : Int)) := HK2.out.cell 7
    have c8 : w2.cell? ⟨w.heap.size, 8, none⟩ = some (.bool fo) := HK2.out.cell 8
    have HJ : Hid ((⟨#[115, 116, 111, 112]⟩ : ByteArray) ++ (⟨#[32]⟩ : ByteArray) ++ str (addrL p) = str (jw [wordM 2, addrL p])) := hide (by
      show str (wordM 2) ++ str [32] ++ str (addrL p) = _
      rw [cat_str, cat_str, jw_cons2, jw_one]; simp)
    go_wp2
    rw [HJ.out]
    go_loopw [6, 7] (fun lv iv wr => ∃ j : Nat, j ≤ 0 ∧ iv = .int .i64 (j : Nat) ∧ wr.ownsRow w2.heap.size 9 1 lv (1 + j) (strv ([jw [wordM 2, addrL p]] ++ (([] : List (List UInt8)).take j).map (124 :: ·))) ∧ Below w2.heap.size w2 wr) (fun _ iv _ => 0 - (intOf iv).toNat)
    case atStart => exact ⟨0, Nat.zero_le _, rfl, own_oneS _ (Nat.le_refl _), (Below.refl _ _).alloc (Nat.le_refl _) _⟩
    case round =>
      obtain ⟨j, hj, rfl, hown, hbel⟩ := hrel
      obtain ⟨A6, d6, rfl⟩ := own_slice hown
      have HO := hide hown
      have HB := hide hbel
      have hsw := hbel.size
      clear hown
      obtain rfl : j = 0 := by omega
      clear hbel
      go_wp2
      go_ret
      have HFn : Hid (shownM ⟨2, p, nn, b, t, oa, oh, oi, fo⟩ = [jw [wordM 2, addrL p]] ++ (([] : List (List UInt8)).take 0).map (124 :: ·)) := hide (by simp [shownM, headM, tailM, behM])
      exact ⟨A6, _, d6, rfl, by rw [HFn.out]; rfl, by rw [HFn.out]; exact own_baseLe HO.out HB2.out.size, HB2.out.trans (HB.out.mono HB2.out.size)⟩
  · have HK0 : Hid (Blk (((w.alloc (.cells #[.int .i64 3, .int .u32 (p : Int), .int .i64 nn, va, .string (str t), .int .u32 (oa : Int), .int .i64 oh, .int .u32 (oi : Int), .bool fo] 32)).alloc (.cells #[.string ⟨#[]⟩, .string ⟨#[115, 116, 97, 114, 116]⟩, .string ⟨#[115, 116, 111, 112]⟩, .string ⟨#[117, 112]⟩, .string ⟨#[100, 111, 119, 110]⟩, .string ⟨#[98, 121, 116, 101, 115]⟩, .string ⟨#[116, 105, 99, 107]⟩, .string ⟨#[99, 111, 110, 102, 105, 103]⟩, .string ⟨#[116, 97, 107, 101]⟩, .string ⟨#[114, 105, 118, 97, 108]⟩, .string ⟨#[114, 101, 115, 101, 116]⟩] 9)).alloc (.cells #[] 9)) w.heap.size 32 #[.int .i64 3, .int .u32 (p : Int), .int .i64 nn, va, .string (str t), .int .u32 (oa : Int), .int .i64 oh, .int .u32 (oi : Int), .bool fo]) := hide (((Blk.new w _ _).alloc _).alloc _)
    have HB0 : Hid (Below w.heap.size w (((w.alloc (.cells #[.int .i64 3, .int .u32 (p : Int), .int .i64 nn, va, .string (str t), .int .u32 (oa : Int), .int .i64 oh, .int .u32 (oi : Int), .bool fo] 32)).alloc (.cells #[.string ⟨#[]⟩, .string ⟨#[115, 116, 97, 114, 116]⟩, .string ⟨#[115, 116, 111, 112]⟩, .string ⟨#[117, 112]⟩, .string ⟨#[100, 111, 119, 110]⟩, .string ⟨#[98, 121, 116, 101, 115]⟩, .string ⟨#[116, 105, 99, 107]⟩, .string ⟨#[99, 111, 110, 102, 105, 103]⟩, .string ⟨#[116, 97, 107, 101]⟩, .string ⟨#[114, 105, 118, 97, 108]⟩, .string ⟨#[114, 101, 115, 101, 116]⟩] 9)).alloc (.cells #[] 9))) := hide ((((Below.refl _ w).alloc (Nat.le_refl _) _).alloc (by simp) _).alloc (by simp; omega) _)
    go_enter Tryz.func24, Tryz.ntmps24
    go_wp2_with fail
    refine (refAddr_any p (by omega) _).mono ?_
    rintro e w2 ⟨rfl, hw⟩
    have HK2 : Hid (Blk w2 w.heap.size 32 #[.int .i64 3, .int .u32 (p : Int), .int .i64 nn, va, .string (str t), .int .u32 (oa : Int), .int .i64 oh, .int .u32 (oi : Int), .bool fo]) := hide (by rw [← hw]; exact HK0.out)
    have HB2 : Hid (Below w.heap.size w w2) := hide (by rw [← hw]; exact HB0.out)
    have hl2 := HK2.out.lt
    clear hw
    have c0 : w2.cell? ⟨w.heap.size, 0, none⟩ = some (.int .i64 3) := HK2.out.cell 0
    have c1 : w2.cell? ⟨w.heap.size, 1, none⟩ = some (.int .u32 (p : Int)) := HK2.out.cell 1
    have c2 : w2.cell? ⟨w.heap.size, 2, none⟩ = some (.int .i64 nn) := HK2.out.cell 2
    have c3 : w2.cell? ⟨w.heap.size, 3, none⟩ = some (va) := HK2.out.cell 3
    have c4 : w2.cell? ⟨w.heap.size, 4, none⟩ = some (.string (str t)) := HK2.out.cell 4
    have c5 : w2.cell? ⟨w.heap.size, 5, none⟩ = some (.int .u32 (oa : Int)) := HK2.out.cell 5
    have c6 : w2.cell? ⟨w.heap.size, 6, none⟩ = some (.int .i64 oh) := HK2.out.cell 6
    have c7 : w2.cell? ⟨w.heap.size, 7, none⟩ = some (.int .u32 (oi : Int)) := HK2.out.cell 7
    have c8 : w2.cell? ⟨w.heap.size, 8, none⟩ = some (.bool fo) := HK2.out.cell 8
    have HJ : Hid ((⟨#[117, 112]⟩ : ByteArray) ++ (⟨#[32]⟩ : ByteArray) ++ str (addrL p) = str (jw [wordM 3, addrL p])) := hide (by
      show str (wordM 3) ++ str [32] ++ str (addrL p) = _
      rw [cat_str, cat_str, jw_cons2, jw_one]; simp)
    go_wp2
    rw [HJ.out]
    go_loopw [6, 7] (fun lv iv wr => ∃ j : Nat, j ≤ 0 ∧ iv = .int .i64 (j : Nat) ∧ wr.ownsRow w2.heap.size 9 1 lv (1 + j) (strv ([jw [wordM 3, addrL p]] ++ (([] : List (List UInt8)).take j).map (124 :: ·))) ∧ Below w2.heap.size w2 wr) (fun _ iv _ => 0 - (intOf iv).toNat)
    case atStart => exact ⟨0, Nat.zero_le _, rfl, own_oneS _ (Nat.le_refl _), (Below.refl _ _).alloc (Nat.le_refl _) _⟩
    case round =>
      obtain ⟨j, hj, rfl, hown, hbel⟩ := hrel
      obtain ⟨A6, d6, rfl⟩ := own_slice hown
      have HO := hide hown
      have HB := hide hbel
      have hsw := hbel.size
      clear hown
      obtain rfl : j = 0 := by omega
      clear hbel
      go_wp2
      go_ret
      have HFn : Hid (shownM ⟨3, p, nn, b, t, oa, oh, oi, fo⟩ = [jw [wordM 3, addrL p]] ++ (([] : List (List UInt8)).take 0).map (124 :: ·)) := hide (by simp [shownM, headM, tailM, behM])
      exact ⟨A6, _, d6, rfl, by rw [HFn.out]; rfl, by rw [HFn.out]; exact own_baseLe HO.out HB2.out.size, HB2.out.trans (HB.out.mono HB2.out.size)⟩
  · have HK0 : Hid (Blk (((w.alloc (.cells #[.int .i64 4, .int .u32 (p : Int), .int .i64 nn, va, .string (str t), .int .u32 (oa : Int), .int .i64 oh, .int .u32 (oi : Int), .bool fo] 32)).alloc (.cells #[.string ⟨#[]⟩, .string ⟨#[115, 116, 97, 114, 116]⟩, .string ⟨#[115, 116, 111, 112]⟩, .string ⟨#[117, 112]⟩, .string ⟨#[100, 111, 119, 110]⟩, .string ⟨#[98, 121, 116, 101, 115]⟩, .string ⟨#[116, 105, 99, 107]⟩, .string ⟨#[99, 111, 110, 102, 105, 103]⟩, .string ⟨#[116, 97, 107, 101]⟩, .string ⟨#[114, 105, 118, 97, 108]⟩, .string ⟨#[114, 101, 115, 101, 116]⟩] 9)).alloc (.cells #[] 9)) w.heap.size 32 #[.int .i64 4, .int .u32 (p : Int), .int .i64 nn, va, .string (str t), .int .u32 (oa : Int), .int .i64 oh, .int .u32 (oi : Int), .bool fo]) := hide (((Blk.new w _ _).alloc _).alloc _)
    have HB0 : Hid (Below w.heap.size w (((w.alloc (.cells #[.int .i64 4, .int .u32 (p : Int), .int .i64 nn, va, .string (str t), .int .u32 (oa : Int), .int .i64 oh, .int .u32 (oi : Int), .bool fo] 32)).alloc (.cells #[.string ⟨#[]⟩, .string ⟨#[115, 116, 97, 114, 116]⟩, .string ⟨#[115, 116, 111, 112]⟩, .string ⟨#[117, 112]⟩, .string ⟨#[100, 111, 119, 110]⟩, .string ⟨#[98, 121, 116, 101, 115]⟩, .string ⟨#[116, 105, 99, 107]⟩, .string ⟨#[99, 111, 110, 102, 105, 103]⟩, .string ⟨#[116, 97, 107, 101]⟩, .string ⟨#[114, 105, 118, 97, 108]⟩, .string ⟨#[114, 101, 115, 101, 116]⟩] 9)).alloc (.cells #[] 9))) := hide ((((Below.refl _ w).alloc (Nat.le_refl _) _).alloc (by simp) _).alloc (by simp; omega) _)
    go_enter Tryz.func24, Tryz.ntmps24
    go_wp2_with fail
    refine (refAddr_any p (by omega) _).mono ?_
    rintro e w2 ⟨rfl, hw⟩
    have HK2 : Hid (Blk w2 w.heap.size 32 #[.int .i64 4, .int .u32 (p : Int), .int .i64 nn, va, .string (str t), .int .u32 (oa : Int), .int .i64 oh, .int .u32 (oi : Int), .bool fo]) := hide (by rw [← hw]; exact HK0.out)
    have HB2 : Hid (Below w.heap.size w w2) := hide (by rw [← hw]; exact HB0.out)
    have hl2 := HK2.out.lt
    clear hw
    have c0 : w2.cell? ⟨w.heap.size, 0, none⟩ = some (.int .i64 4) := HK2.out.cell 0
    have c1 : w2.cell? ⟨w.heap.size, 1, none⟩ = some (.int .u32 (p : Int)) := HK2.out.cell 1
    have c2 : w2.cell? ⟨w.heap.size, 2, none⟩ = some (.int .i64 nn) := HK2.out.cell 2
    have c3 : w2.cell? ⟨w.heap.size, 3, none⟩ = some (va) := HK2.out.cell 3
    have c4 : w2.cell? ⟨w.heap.size, 4, none⟩ = some (.string (str t)) := HK2.out.cell 4
    have c5 : w2.cell? ⟨w.heap.size, 5, none⟩ = some (.int .u32 (oa : Int)) := HK2.out.cell 5
    have c6 : w2.cell? ⟨w.heap.size, 6, none⟩ = some (.int .i64 oh) := HK2.out.cell 6
    have c7 : w2.cell? ⟨w.heap.size, 7, none⟩ = some (.int .u32 (oi : Int)) := HK2.out.cell 7
    have c8 : w2.cell? ⟨w.heap.size, 8, none⟩ = some (.bool fo) := HK2.out.cell 8
    have HJ : Hid ((⟨#[100, 111, 119, 110]⟩ : ByteArray) ++ (⟨#[32]⟩ : ByteArray) ++ str (addrL p) = str (jw [wordM 4, addrL p])) := hide (by
      show str (wordM 4) ++ str [32] ++ str (addrL p) = _
      rw [cat_str, cat_str, jw_cons2, jw_one]; simp)
    go_wp2
    rw [HJ.out]
    go_loopw [6, 7] (fun lv iv wr => ∃ j : Nat, j ≤ 0 ∧ iv = .int .i64 (j : Nat) ∧ wr.ownsRow w2.heap.size 9 1 lv (1 + j) (strv ([jw [wordM 4, addrL p]] ++ (([] : List (List UInt8)).take j).map (124 :: ·))) ∧ Below w2.heap.size w2 wr) (fun _ iv _ => 0 - (intOf iv).toNat)
    case atStart => exact ⟨0, Nat.zero_le _, rfl, own_oneS _ (Nat.le_refl _), (Below.refl _ _).alloc (Nat.le_refl _) _⟩
    case round =>
      obtain ⟨j, hj, rfl, hown, hbel⟩ := hrel
      obtain ⟨A6, d6, rfl⟩ := own_slice hown
      have HO := hide hown
      have HB := hide hbel
      have hsw := hbel.size
      clear hown
      obtain rfl : j = 0 := by omega
      clear hbel
      go_wp2
      go_ret
      have HFn : Hid (shownM ⟨4, p, nn, b, t, oa, oh, oi, fo⟩ = [jw [wordM 4, addrL p]] ++ (([] : List (List UInt8)).take 0).map (124 :: ·)) := hide (by simp [shownM, headM, tailM, behM])
      exact ⟨A6, _, d6, rfl, by rw [HFn.out]; rfl, by rw [HFn.out]; exact own_baseLe HO.out HB2.out.size, HB2.out.trans (HB.out.mono HB2.out.size)⟩
  · have sz4 : (str (hexT b)).size ≤ 10000 := by rw [str_size]; have h1 := hexT_len b; have := HG.out; unfold mvGood at this; simp at this; omega
    have hnb : n ≤ 1000000 := by have := HG.out; unfold mvGood at this; simp at this; have := HLs.out.1; omega
    have HK0 : Hid (Blk (((w.alloc (.cells #[.int .i64 5, .int .u32 (p : Int), .int .i64 nn, va, .string (str t), .int .u32 (oa : Int), .int .i64 oh, .int .u32 (oi : Int), .bool fo] 32)).alloc (.cells #[.string ⟨#[]⟩, .string ⟨#[115, 116, 97, 114, 116]⟩, .string ⟨#[115, 116, 111, 112]⟩, .string ⟨#[117, 112]⟩, .string ⟨#[100, 111, 119, 110]⟩, .string ⟨#[98, 121, 116, 101, 115]⟩, .string ⟨#[116, 105, 99, 107]⟩, .string ⟨#[99, 111, 110, 102, 105, 103]⟩, .string ⟨#[116, 97, 107, 101]⟩, .string ⟨#[114, 105, 118, 97, 108]⟩, .string ⟨#[114, 101, 115, 101, 116]⟩] 9)).alloc (.cells #[] 9)) w.heap.size 32 #[.int .i64 5, .int .u32 (p : Int), .int .i64 nn, va, .string (str t), .int .u32 (oa : Int), .int .i64 oh, .int .u32 (oi : Int), .bool fo]) := hide (((Blk.new w _ _).alloc _).alloc _)
    have HB0 : Hid (Below w.heap.size w (((w.alloc (.cells #[.int .i64 5, .int .u32 (p : Int), .int .i64 nn, va, .string (str t), .int .u32 (oa : Int), .int .i64 oh, .int .u32 (oi : Int), .bool fo] 32)).alloc (.cells #[.string ⟨#[]⟩, .string ⟨#[115, 116, 97, 114, 116]⟩, .string ⟨#[115, 116, 111, 112]⟩, .string ⟨#[117, 112]⟩, .string ⟨#[100, 111, 119, 110]⟩, .string ⟨#[98, 121, 116, 101, 115]⟩, .string ⟨#[116, 105, 99, 107]⟩, .string ⟨#[99, 111, 110, 102, 105, 103]⟩, .string ⟨#[116, 97, 107, 101]⟩, .string ⟨#[114, 105, 118, 97, 108]⟩, .string ⟨#[114, 101, 115, 101, 116]⟩] 9)).alloc (.cells #[] 9))) := hide ((((Below.refl _ w).alloc (Nat.le_refl _) _).alloc (by simp) _).alloc (by simp; omega) _)
    go_enter Tryz.func24, Tryz.ntmps24
    go_wp2_with fail
    refine (refAddr_any p (by omega) _).mono ?_
    rintro e w2 ⟨rfl, hw⟩
    have HK2 : Hid (Blk w2 w.heap.size 32 #[.int .i64 5, .int .u32 (p : Int), .int .i64 nn, va, .string (str t), .int .u32 (oa : Int), .int .i64 oh, .int .u32 (oi : Int), .bool fo]) := hide (by rw [← hw]; exact HK0.out)
    have HB2 : Hid (Below w.heap.size w w2) := hide (by rw [← hw]; exact HB0.out)
    have hl2 := HK2.out.lt
    clear hw
    have c0 : w2.cell? ⟨w.heap.size, 0, none⟩ = some (.int .i64 5) := HK2.out.cell 0
    have c1 : w2.cell? ⟨w.heap.size, 1, none⟩ = some (.int .u32 (p : Int)) := HK2.out.cell 1
    have c2 : w2.cell? ⟨w.heap.size, 2, none⟩ = some (.int .i64 nn) := HK2.out.cell 2
    have c3 : w2.cell? ⟨w.heap.size, 3, none⟩ = some (va) := HK2.out.cell 3
    have c4 : w2.cell? ⟨w.heap.size, 4, none⟩ = some (.string (str t)) := HK2.out.cell 4
    have c5 : w2.cell? ⟨w.heap.size, 5, none⟩ = some (.int .u32 (oa : Int)) := HK2.out.cell 5
    have c6 : w2.cell? ⟨w.heap.size, 6, none⟩ = some (.int .i64 oh) := HK2.out.cell 6
    have c7 : w2.cell? ⟨w.heap.size, 7, none⟩ = some (.int .u32 (oi : Int)) := HK2.out.cell 7
    have c8 : w2.cell? ⟨w.heap.size, 8, none⟩ = some (.bool fo) := HK2.out.cell 8
    have HHx := rhex_any A n c b w2 (HLs.out.below byMono HB2.out) hnb
    rw [HVa.out] at HHx
    have HHx := hide HHx
    go_wp2_with fail
    refine HHx.out.mono ?_
    rintro e w3 ⟨rfl, hb⟩
    have HK3 := hide (HK2.out.below hb HK2.out.lt)
    have HB3 := hide (HB2.out.trans (hb.mono HB2.out.size))
    have hl3 := HK3.out.lt
    clear hb c0 c1 c2 c3 c4 c5 c6 c7 c8
    have c0 : w3.cell? ⟨w.heap.size, 0, none⟩ = some (.int .i64 5) := HK3.out.cell 0
    have c1 : w3.cell? ⟨w.heap.size, 1, none⟩ = some (.int .u32 (p : Int)) := HK3.out.cell 1
    have c2 : w3.cell? ⟨w.heap.size, 2, none⟩ = some (.int .i64 nn) := HK3.out.cell 2
    have c3 : w3.cell? ⟨w.heap.size, 3, none⟩ = some (va) := HK3.out.cell 3
    have c4 : w3.cell? ⟨w.heap.size, 4, none⟩ = some (.string (str t)) := HK3.out.cell 4
    have c5 : w3.cell? ⟨w.heap.size, 5, none⟩ = some (.int .u32 (oa : Int)) := HK3.out.cell 5
    have c6 : w3.cell? ⟨w.heap.size, 6, none⟩ = some (.int .i64 oh) := HK3.out.cell 6
    have c7 : w3.cell? ⟨w.heap.size, 7, none⟩ = some (.int .u32 (oi : Int)) := HK3.out.cell 7
    have c8 : w3.cell? ⟨w.heap.size, 8, none⟩ = some (.bool fo) := HK3.out.cell 8
    have HJ : Hid ((⟨#[98, 121, 116, 101, 115]⟩ : ByteArray) ++ (⟨#[32]⟩ : ByteArray) ++ str (addrL p) ++ (⟨#[32]⟩ : ByteArray) ++ str (hexT b) = str (jw [wordM 5, addrL p, hexT b])) := hide (by
      show str (wordM 5) ++ str [32] ++ str (addrL p) ++ str [32] ++ str (hexT b) = _
      rw [cat_str, cat_str, cat_str, cat_str, jw_cons2, jw_cons2, jw_one]; simp)
    go_wp2
    rw [HJ.out]
    go_loopw [6, 7] (fun lv iv wr => ∃ j : Nat, j ≤ 0 ∧ iv = .int .i64 (j : Nat) ∧ wr.ownsRow w3.heap.size 9 1 lv (1 + j) (strv ([jw [wordM 5, addrL p, hexT b]] ++ (([] : List (List UInt8)).take j).map (124 :: ·))) ∧ Below w3.heap.size w3 wr) (fun _ iv _ => 0 - (intOf iv).toNat)
    case atStart => exact ⟨0, Nat.zero_le _, rfl, own_oneS _ (Nat.le_refl _), (Below.refl _ _).alloc (Nat.le_refl _) _⟩
    case round =>
      obtain ⟨j, hj, rfl, hown, hbel⟩ := hrel
      obtain ⟨A6, d6, rfl⟩ := own_slice hown
      have HO := hide hown
      have HB := hide hbel
      have hsw := hbel.size
      clear hown
      obtain rfl : j = 0 := by omega
      clear hbel
      go_wp2
      go_ret
      have HFn : Hid (shownM ⟨5, p, nn, b, t, oa, oh, oi, fo⟩ = [jw [wordM 5, addrL p, hexT b]] ++ (([] : List (List UInt8)).take 0).map (124 :: ·)) := hide (by simp [shownM, headM, tailM, behM])
      exact ⟨A6, _, d6, rfl, by rw [HFn.out]; rfl, by rw [HFn.out]; exact own_baseLe HO.out HB3.out.size, HB3.out.trans (HB.out.mono HB3.out.size)⟩
  · have HK0 : Hid (Blk (((w.alloc (.cells #[.int .i64 6, .int .u32 (p : Int), .int .i64 nn, va, .string (str t), .int .u32 (oa : Int), .int .i64 oh, .int .u32 (oi : Int), .bool fo] 32)).alloc (.cells #[.string ⟨#[]⟩, .string ⟨#[115, 116, 97, 114, 116]⟩, .string ⟨#[115, 116, 111, 112]⟩, .string ⟨#[117, 112]⟩, .string ⟨#[100, 111, 119, 110]⟩, .string ⟨#[98, 121, 116, 101, 115]⟩, .string ⟨#[116, 105, 99, 107]⟩, .string ⟨#[99, 111, 110, 102, 105, 103]⟩, .string ⟨#[116, 97, 107, 101]⟩, .string ⟨#[114, 105, 118, 97, 108]⟩, .string ⟨#[114, 101, 115, 101, 116]⟩] 9)).alloc (.cells #[] 9)) w.heap.size 32 #[.int .i64 6, .int .u32 (p : Int), .int .i64 nn, va, .string (str t), .int .u32 (oa : Int), .int .i64 oh, .int .u32 (oi : Int), .bool fo]) := hide (((Blk.new w _ _).alloc _).alloc _)
    have HB0 : Hid (Below w.heap.size w (((w.alloc (.cells #[.int .i64 6, .int .u32 (p : Int), .int .i64 nn, va, .string (str t), .int .u32 (oa : Int), .int .i64 oh, .int .u32 (oi : Int), .bool fo] 32)).alloc (.cells #[.string ⟨#[]⟩, .string ⟨#[115, 116, 97, 114, 116]⟩, .string ⟨#[115, 116, 111, 112]⟩, .string ⟨#[117, 112]⟩, .string ⟨#[100, 111, 119, 110]⟩, .string ⟨#[98, 121, 116, 101, 115]⟩, .string ⟨#[116, 105, 99, 107]⟩, .string ⟨#[99, 111, 110, 102, 105, 103]⟩, .string ⟨#[116, 97, 107, 101]⟩, .string ⟨#[114, 105, 118, 97, 108]⟩, .string ⟨#[114, 101, 115, 101, 116]⟩] 9)).alloc (.cells #[] 9))) := hide ((((Below.refl _ w).alloc (Nat.le_refl _) _).alloc (by simp) _).alloc (by simp; omega) _)
    obtain ⟨w2, hw2⟩ : ∃ x, ((w.alloc (.cells #[.int .i64 6, .int .u32 (p : Int), .int .i64 nn, va, .string (str t), .int .u32 (oa : Int), .int .i64 oh, .int .u32 (oi : Int), .bool fo] 32)).alloc (.cells #[.string ⟨#[]⟩, .string ⟨#[115, 116, 97, 114, 116]⟩, .string ⟨#[115, 116, 111, 112]⟩, .string ⟨#[117, 112]⟩, .string ⟨#[100, 111, 119, 110]⟩, .string ⟨#[98, 121, 116, 101, 115]⟩, .string ⟨#[116, 105, 99, 107]⟩, .string ⟨#[99, 111, 110, 102, 105, 103]⟩, .string ⟨#[116, 97, 107, 101]⟩, .string ⟨#[114, 105, 118, 97, 108]⟩, .string ⟨#[114, 101, 115, 101, 116]⟩] 9)).alloc (.cells #[] 9) = x := ⟨_, rfl⟩
    have HB2 : Hid (Below w.heap.size w w2) := hide (by rw [← hw2]; exact HB0.out)
    have HJ : Hid ((⟨#[116, 105, 99, 107]⟩ : ByteArray) = str (jw [wordM 6])) := hide (by rw [jw_one]; rfl)
    have HW2 := hide hw2
    clear hw2
    go_enter Tryz.func24, Tryz.ntmps24
    go_wp2
    rw [HW2.out, HJ.out]
    have hs2 : w2.heap.size = w.heap.size + 1 + 1 + 1 := by rw [← HW2.out]; simp
    go_loopw [6, 7] (fun lv iv wr => ∃ j : Nat, j ≤ 0 ∧ iv = .int .i64 (j : Nat) ∧ wr.ownsRow w2.heap.size 9 1 lv (1 + j) (strv ([jw [wordM 6]] ++ (([] : List (List UInt8)).take j).map (124 :: ·))) ∧ Below w2.heap.size w2 wr) (fun _ iv _ => 0 - (intOf iv).toNat)
    case atStart => exact ⟨0, Nat.zero_le _, rfl, by have h1 := own_oneS (w := w2) (base := w2.heap.size) (.string (str (jw [wordM 6]))) (Nat.le_refl _); rw [show w.heap.size + 1 + 1 + 1 = w2.heap.size from hs2.symm]; exact h1, (Below.refl _ _).alloc (Nat.le_refl _) _⟩
    case round =>
      obtain ⟨j, hj, rfl, hown, hbel⟩ := hrel
      obtain ⟨A6, d6, rfl⟩ := own_slice hown
      have HO := hide hown
      have HB := hide hbel
      have hsw := hbel.size
      clear hown
      obtain rfl : j = 0 := by omega
      clear hbel
      go_wp2
      go_ret
      have HFn : Hid (shownM ⟨6, p, nn, b, t, oa, oh, oi, fo⟩ = [jw [wordM 6]] ++ (([] : List (List UInt8)).take 0).map (124 :: ·)) := hide (by simp [shownM, headM, tailM, behM])
      exact ⟨A6, _, d6, rfl, by rw [HFn.out]; rfl, by rw [HFn.out]; exact own_baseLe HO.out HB2.out.size, HB2.out.trans (HB.out.mono HB2.out.size)⟩
  · have HK0 : Hid (Blk (((w.alloc (.cells #[.int .i64 7, .int .u32 (p : Int), .int .i64 nn, va, .string (str t), .int .u32 (oa : Int), .int .i64 oh, .int .u32 (oi : Int), .bool fo] 32)).alloc (.cells #[.string ⟨#[]⟩, .string ⟨#[115, 116, 97, 114, 116]⟩, .string ⟨#[115, 116, 111, 112]⟩, .string ⟨#[117, 112]⟩, .string ⟨#[100, 111, 119, 110]⟩, .string ⟨#[98, 121, 116, 101, 115]⟩, .string ⟨#[116, 105, 99, 107]⟩, .string ⟨#[99, 111, 110, 102, 105, 103]⟩, .string ⟨#[116, 97, 107, 101]⟩, .string ⟨#[114, 105, 118, 97, 108]⟩, .string ⟨#[114, 101, 115, 101, 116]⟩] 9)).alloc (.cells #[] 9)) w.heap.size 32 #[.int .i64 7, .int .u32 (p : Int), .int .i64 nn, va, .string (str t), .int .u32 (oa : Int), .int .i64 oh, .int .u32 (oi : Int), .bool fo]) := hide (((Blk.new w _ _).alloc _).alloc _)
    have HB0 : Hid (Below w.heap.size w (((w.alloc (.cells #[.int .i64 7, .int .u32 (p : Int), .int .i64 nn, va, .string (str t), .int .u32 (oa : Int), .int .i64 oh, .int .u32 (oi : Int), .bool fo] 32)).alloc (.cells #[.string ⟨#[]⟩, .string ⟨#[115, 116, 97, 114, 116]⟩, .string ⟨#[115, 116, 111, 112]⟩, .string ⟨#[117, 112]⟩, .string ⟨#[100, 111, 119, 110]⟩, .string ⟨#[98, 121, 116, 101, 115]⟩, .string ⟨#[116, 105, 99, 107]⟩, .string ⟨#[99, 111, 110, 102, 105, 103]⟩, .string ⟨#[116, 97, 107, 101]⟩, .string ⟨#[114, 105, 118, 97, 108]⟩, .string ⟨#[114, 101, 115, 101, 116]⟩] 9)).alloc (.cells #[] 9))) := hide ((((Below.refl _ w).alloc (Nat.le_refl _) _).alloc (by simp) _).alloc (by simp; omega) _)
    have HG7 : Hid (t.length ≤ 100000) := hide (by have := HG.out; unfold mvGood at this; simp at this; exact this.1)
    have HLi := hide (fun W => rlines_any t (by have := HG7.out; omega) W)
    obtain ⟨L7, hL7⟩ : ∃ L, linesM t = L := ⟨_, rfl⟩
    have hl7 := linesM_len t
    rw [hL7] at HLi hl7
    have hl7b : L7.length ≤ 100000 := by have := HG7.out; omega
    have HLe : Hid (∀ x ∈ L7, x.length ≤ 100000) := hide (fun x hx => by rw [← hL7] at hx; have := linesM_each t x hx; have := HG7.out; omega)
    have HLL := hide hL7
    clear hL7 hl7
    go_enter Tryz.func24, Tryz.ntmps24
    go_wp2_with fail
    refine (HLi.out _).mono ?_
    rintro e w2 ⟨A7, n7, d7, rfl, hn7, ho, hb⟩
    have HN7 : Hid (L7.length = n7) := hide hn7
    have HS7 := hide (StrsAt.of_own ho (fun x hx => by have := HLe.out x hx; unfold maxLen; omega))
    have HK2 := hide (HK0.out.below hb HK0.out.lt)
    have HB2 := hide (HB0.out.trans (hb.mono HB0.out.size))
    have hl2 := HK2.out.lt
    have hn7b : n7 ≤ 100000 := by omega
    have sz4 : (str (Lib.decDigits n7)).size ≤ 10 := by rw [str_size]; exact dec_len _ 9 (by omega)
    clear hb ho hn7 hl7b
    have c0 : w2.cell? ⟨w.heap.size, 0, none⟩ = some (.int .i64 7) := HK2.out.cell 0
    have c1 : w2.cell? ⟨w.heap.size, 1, none⟩ = some (.int .u32 (p : Int)) := HK2.out.cell 1
    have c2 : w2.cell? ⟨w.heap.size, 2, none⟩ = some (.int .i64 nn) := HK2.out.cell 2
    have c3 : w2.cell? ⟨w.heap.size, 3, none⟩ = some (va) := HK2.out.cell 3
    have c4 : w2.cell? ⟨w.heap.size, 4, none⟩ = some (.string (str t)) := HK2.out.cell 4
    have c5 : w2.cell? ⟨w.heap.size, 5, none⟩ = some (.int .u32 (oa : Int)) := HK2.out.cell 5
    have c6 : w2.cell? ⟨w.heap.size, 6, none⟩ = some (.int .i64 oh) := HK2.out.cell 6
    have c7 : w2.cell? ⟨w.heap.size, 7, none⟩ = some (.int .u32 (oi : Int)) := HK2.out.cell 7
    have c8 : w2.cell? ⟨w.heap.size, 8, none⟩ = some (.bool fo) := HK2.out.cell 8
    go_wp2_with fail
    refine (rint_any n7 (by omega) _).mono ?_
    rintro e w3 ⟨rfl, hw⟩
    have HK3 : Hid (Blk w3 w.heap.size 32 #[.int .i64 7, .int .u32 (p : Int), .int .i64 nn, va, .string (str t), .int .u32 (oa : Int), .int .i64 oh, .int .u32 (oi : Int), .bool fo]) := hide (by rw [← hw]; exact HK2.out)
    have HB3 : Hid (Below w.heap.size w w3) := hide (by rw [← hw]; exact HB2.out)
    have HS3 : Hid (StrsAt w3 A7 n7 d7 (L7.map str)) := hide (by rw [← hw]; exact HS7.out)
    have hl3 := HK3.out.lt
    clear hw c0 c1 c2 c3 c4 c5 c6 c7 c8
    have c0 : w3.cell? ⟨w.heap.size, 0, none⟩ = some (.int .i64 7) := HK3.out.cell 0
    have c1 : w3.cell? ⟨w.heap.size, 1, none⟩ = some (.int .u32 (p : Int)) := HK3.out.cell 1
    have c2 : w3.cell? ⟨w.heap.size, 2, none⟩ = some (.int .i64 nn) := HK3.out.cell 2
    have c3 : w3.cell? ⟨w.heap.size, 3, none⟩ = some (va) := HK3.out.cell 3
    have c4 : w3.cell? ⟨w.heap.size, 4, none⟩ = some (.string (str t)) := HK3.out.cell 4
    have c5 : w3.cell? ⟨w.heap.size, 5, none⟩ = some (.int .u32 (oa : Int)) := HK3.out.cell 5
    have c6 : w3.cell? ⟨w.heap.size, 6, none⟩ = some (.int .i64 oh) := HK3.out.cell 6
    have c7 : w3.cell? ⟨w.heap.size, 7, none⟩ = some (.int .u32 (oi : Int)) := HK3.out.cell 7
    have c8 : w3.cell? ⟨w.heap.size, 8, none⟩ = some (.bool fo) := HK3.out.cell 8
    have HJ : Hid ((⟨#[99, 111, 110, 102, 105, 103]⟩ : ByteArray) ++ (⟨#[32]⟩ : ByteArray) ++ str (Lib.decDigits n7) = str (jw [wordM 7, Lib.decDigits n7])) := hide (by
      show str (wordM 7) ++ str [32] ++ str (Lib.decDigits n7) = _
      rw [cat_str, cat_str, jw_cons2, jw_one]; simp)
    go_wp2
    rw [HJ.out]
    go_loopw [6, 7] (fun lv iv wr => ∃ j : Nat, j ≤ n7 ∧ iv = .int .i64 (j : Nat) ∧ wr.ownsRow w3.heap.size 9 1 lv (1 + j) (strv ([jw [wordM 7, Lib.decDigits n7]] ++ (L7.take j).map (124 :: ·))) ∧ Below w3.heap.size w3 wr) (fun _ iv _ => n7 - (intOf iv).toNat)
    case atStart => exact ⟨0, Nat.zero_le _, rfl, own_oneS _ (Nat.le_refl _), (Below.refl _ _).alloc (Nat.le_refl _) _⟩
    case round =>
      obtain ⟨j, hj, rfl, hown, hbel⟩ := hrel
      obtain ⟨A6, d6, rfl⟩ := own_slice hown
      have HO := hide hown
      have HB := hide hbel
      have hsw := hbel.size
      clear hown
      by_cases hlt : j < n7
      · obtain ⟨g, o, x, rfl, hg, hx, hxs, hc⟩ := (HS3.out.below rfl hbel).at_ (k := j) hlt
        have hnc := HS3.out.2.1
        have HX : Hid (∃ y, L7[j]? = some y ∧ x = str y) := hide (by
          rw [List.getElem?_map, Option.map_eq_some_iff] at hx
          obtain ⟨y, hy, rfl⟩ := hx
          exact ⟨y, hy, rfl⟩)
        have q0 : (0 : Int) ≤ (j : Int) := by omega
        have q1 : (j : Int) < (n7 : Int) := by omega
        have hxz : x.size + 1 ≤ 9223372036854775807 := by
          obtain ⟨y, hy, rfl⟩ := HX.out
          rw [str_size]
          have := HLe.out y (List.mem_of_getElem? hy)
          omega
        clear hx hxs hbel
        go_wp2_with (at_builtin; refine wpList_append_any _ rfl (.tmp 90) (.tmp 96) 37 rfl w3.heap.size 9 i0 _ 1 16 Tryz.underlying37 hi hz0 hz1 hz2 rfl (by decide) (.slice A6 (1 + j) d6) (1 + j) _ rfl (HO.out.alloc _) (wr.heap.size + 1) (some ⟨wr.heap.size, 0, none⟩) 1 1 [.string (⟨#[124]⟩ ++ x)] rfl (reads_blkN (Blk.new _ _ _) (Nat.lt_succ_self _) rfl rfl) (by simp [Value.oneCell']) (by unfold maxLen; omega) (by omega) (by simp; omega) ?_; intro v1 w10 hown hgrow hat; have HO3 := hide hown; have HB3 : Hid (Below w3.heap.size w3 w10) := hide (Below.grown (HB.out.alloc hsw _) hgrow (by simp; omega) (fun k hk => own_low_block HO.out k hk)); clear hown hgrow hat)
        go_roundw
        case rel =>
          refine ⟨j + 1, by omega, by go_num, ?_, HB3.out⟩
          obtain ⟨y, hy, rfl⟩ := HX.out
          have h3 := HO3.out
          rw [List.take_add_one, hy, List.map_append, Option.toList_some, List.map_cons, List.map_nil, ← List.append_assoc, strv_snoc]
          exact h3
        case measure => simp [intOf]; omega
      · obtain rfl : j = n7 := by omega
        clear hbel
        go_wp2
        go_ret
        have HFn : Hid (shownM ⟨7, p, nn, b, t, oa, oh, oi, fo⟩ = [jw [wordM 7, Lib.decDigits j]] ++ (L7.take j).map (124 :: ·)) := hide (by rw [List.take_of_length_le (by rw [HN7.out]; exact Nat.le_refl _)]; simp [shownM, headM, tailM, behM, HLL.out, HN7.out])
        exact ⟨A6, _, d6, rfl, by rw [HFn.out]; rw [List.length_append, List.length_map, List.length_take, HN7.out]; simp, by rw [HFn.out]; exact own_baseLe HO.out HB3.out.size, HB3.out.trans (HB.out.mono HB3.out.size)⟩
  · obtain ⟨a, rfl⟩ : ∃ a : Nat, nn = (a : Int) := ⟨nn.toNat, by have := HG.out; unfold mvGood at this; simp at this; omega⟩
    have sz4 : (str (Lib.decDigits a)).size ≤ 10 := by rw [str_size]; exact dec_len _ 9 (by have := HG.out; unfold mvGood at this; simp at this; omega)
    have hab : a < 4294967296 := by have := HG.out; unfold mvGood at this; simp at this; omega
    have HK0 : Hid (Blk (((w.alloc (.cells #[.int .i64 8, .int .u32 (p : Int), .int .i64 (a : Int), va, .string (str t), .int .u32 (oa : Int), .int .i64 oh, .int .u32 (oi : Int), .bool fo] 32)).alloc (.cells #[.string ⟨#[]⟩, .string ⟨#[115, 116, 97, 114, 116]⟩, .string ⟨#[115, 116, 111, 112]⟩, .string ⟨#[117, 112]⟩, .string ⟨#[100, 111, 119, 110]⟩, .string ⟨#[98, 121, 116, 101, 115]⟩, .string ⟨#[116, 105, 99, 107]⟩, .string ⟨#[99, 111, 110, 102, 105, 103]⟩, .string ⟨#[116, 97, 107, 101]⟩, .string ⟨#[114, 105, 118, 97, 108]⟩, .string ⟨#[114, 101, 115, 101, 116]⟩] 9)).alloc (.cells #[] 9)) w.heap.size 32 #[.int .i64 8, .int .u32 (p : Int), .int .i64 (a : Int), va, .string (str t), .int .u32 (oa : Int), .int .i64 oh, .int .u32 (oi : Int), .bool fo]) := hide (((Blk.new w _ _).alloc _).alloc _)
    have HB0 : Hid (Below w.heap.size w (((w.alloc (.cells #[.int .i64 8, .int .u32 (p : Int), .int .i64 (a : Int), va, .string (str t), .int .u32 (oa : Int), .int .i64 oh, .int .u32 (oi : Int), .bool fo] 32)).alloc (.cells #[.string ⟨#[]⟩, .string ⟨#[115, 116, 97, 114, 116]⟩, .string ⟨#[115, 116, 111, 112]⟩, .string ⟨#[117, 112]⟩, .string ⟨#[100, 111, 119, 110]⟩, .string ⟨#[98, 121, 116, 101, 115]⟩, .string ⟨#[116, 105, 99, 107]⟩, .string ⟨#[99, 111, 110, 102, 105, 103]⟩, .string ⟨#[116, 97, 107, 101]⟩, .string ⟨#[114, 105, 118, 97, 108]⟩, .string ⟨#[114, 101, 115, 101, 116]⟩] 9)).alloc (.cells #[] 9))) := hide ((((Below.refl _ w).alloc (Nat.le_refl _) _).alloc (by simp) _).alloc (by simp; omega) _)
    go_enter Tryz.func24, Tryz.ntmps24
    go_wp2_with fail
    refine (refAddr_any p (by omega) _).mono ?_
    rintro e w2 ⟨rfl, hw⟩
    have HK2 : Hid (Blk w2 w.heap.size 32 #[.int .i64 8, .int .u32 (p : Int), .int .i64 (a : Int), va, .string (str t), .int .u32 (oa : Int), .int .i64 oh, .int .u32 (oi : Int), .bool fo]) := hide (by rw [← hw]; exact HK0.out)
    have HB2 : Hid (Below w.heap.size w w2) := hide (by rw [← hw]; exact HB0.out)
    have hl2 := HK2.out.lt
    clear hw
    have c0 : w2.cell? ⟨w.heap.size, 0, none⟩ = some (.int .i64 8) := HK2.out.cell 0
    have c1 : w2.cell? ⟨w.heap.size, 1, none⟩ = some (.int .u32 (p : Int)) := HK2.out.cell 1
    have c2 : w2.cell? ⟨w.heap.size, 2, none⟩ = some (.int .i64 (a : Int)) := HK2.out.cell 2
    have c3 : w2.cell? ⟨w.heap.size, 3, none⟩ = some (va) := HK2.out.cell 3
    have c4 : w2.cell? ⟨w.heap.size, 4, none⟩ = some (.string (str t)) := HK2.out.cell 4
    have c5 : w2.cell? ⟨w.heap.size, 5, none⟩ = some (.int .u32 (oa : Int)) := HK2.out.cell 5
    have c6 : w2.cell? ⟨w.heap.size, 6, none⟩ = some (.int .i64 oh) := HK2.out.cell 6
    have c7 : w2.cell? ⟨w.heap.size, 7, none⟩ = some (.int .u32 (oi : Int)) := HK2.out.cell 7
    have c8 : w2.cell? ⟨w.heap.size, 8, none⟩ = some (.bool fo) := HK2.out.cell 8
    go_wp2_with fail
    refine (rint_any a hab _).mono ?_
    rintro e w3 ⟨rfl, hw⟩
    have HK3 : Hid (Blk w3 w.heap.size 32 #[.int .i64 8, .int .u32 (p : Int), .int .i64 (a : Int), va, .string (str t), .int .u32 (oa : Int), .int .i64 oh, .int .u32 (oi : Int), .bool fo]) := hide (by rw [← hw]; exact HK2.out)
    have HB3 : Hid (Below w.heap.size w w3) := hide (by rw [← hw]; exact HB2.out)
    have hl3 := HK3.out.lt
    clear hw c0 c1 c2 c3 c4 c5 c6 c7 c8
    have c0 : w3.cell? ⟨w.heap.size, 0, none⟩ = some (.int .i64 8) := HK3.out.cell 0
    have c1 : w3.cell? ⟨w.heap.size, 1, none⟩ = some (.int .u32 (p : Int)) := HK3.out.cell 1
    have c2 : w3.cell? ⟨w.heap.size, 2, none⟩ = some (.int .i64 (a : Int)) := HK3.out.cell 2
    have c3 : w3.cell? ⟨w.heap.size, 3, none⟩ = some (va) := HK3.out.cell 3
    have c4 : w3.cell? ⟨w.heap.size, 4, none⟩ = some (.string (str t)) := HK3.out.cell 4
    have c5 : w3.cell? ⟨w.heap.size, 5, none⟩ = some (.int .u32 (oa : Int)) := HK3.out.cell 5
    have c6 : w3.cell? ⟨w.heap.size, 6, none⟩ = some (.int .i64 oh) := HK3.out.cell 6
    have c7 : w3.cell? ⟨w.heap.size, 7, none⟩ = some (.int .u32 (oi : Int)) := HK3.out.cell 7
    have c8 : w3.cell? ⟨w.heap.size, 8, none⟩ = some (.bool fo) := HK3.out.cell 8
    have HJ : Hid ((⟨#[116, 97, 107, 101]⟩ : ByteArray) ++ (⟨#[32]⟩ : ByteArray) ++ str (addrL p) ++ (⟨#[32]⟩ : ByteArray) ++ str (Lib.decDigits a) = str (jw [wordM 8, addrL p, Lib.decDigits a])) := hide (by
      show str (wordM 8) ++ str [32] ++ str (addrL p) ++ str [32] ++ str (Lib.decDigits a) = _
      rw [cat_str, cat_str, cat_str, cat_str, jw_cons2, jw_cons2, jw_one]; simp)
    go_wp2
    rw [HJ.out]
    go_loopw [6, 7] (fun lv iv wr => ∃ j : Nat, j ≤ 0 ∧ iv = .int .i64 (j : Nat) ∧ wr.ownsRow w3.heap.size 9 1 lv (1 + j) (strv ([jw [wordM 8, addrL p, Lib.decDigits a]] ++ (([] : List (List UInt8)).take j).map (124 :: ·))) ∧ Below w3.heap.size w3 wr) (fun _ iv _ => 0 - (intOf iv).toNat)
    case atStart => exact ⟨0, Nat.zero_le _, rfl, own_oneS _ (Nat.le_refl _), (Below.refl _ _).alloc (Nat.le_refl _) _⟩
    case round =>
      obtain ⟨j, hj, rfl, hown, hbel⟩ := hrel
      obtain ⟨A6, d6, rfl⟩ := own_slice hown
      have HO := hide hown
      have HB := hide hbel
      have hsw := hbel.size
      clear hown
      obtain rfl : j = 0 := by omega
      clear hbel
      go_wp2
      go_ret
      have HFn : Hid (shownM ⟨8, p, (a : Int), b, t, oa, oh, oi, fo⟩ = [jw [wordM 8, addrL p, Lib.decDigits a]] ++ (([] : List (List UInt8)).take 0).map (124 :: ·)) := hide (by simp [shownM, headM, tailM, behM])
      exact ⟨A6, _, d6, rfl, by rw [HFn.out]; rfl, by rw [HFn.out]; exact own_baseLe HO.out HB3.out.size, HB3.out.trans (HB.out.mono HB3.out.size)⟩
  · have hwu : IntKind.u64.wrap (oa : Int) = (oa : Int) := by rw [IntKind.wrap_u64]; omega
    obtain ⟨a, rfl⟩ : ∃ a : Nat, oh = (a : Int) := ⟨oh.toNat, by have := HG.out; unfold mvGood at this; simp at this; omega⟩
    have sz4 : (str (Lib.decDigits a)).size ≤ 10 := by rw [str_size]; exact dec_len _ 9 (by have := HG.out; unfold mvGood at this; simp at this; omega)
    have hab : a < 4294967296 := by have := HG.out; unfold mvGood at this; simp at this; omega
    have HK0 : Hid (Blk (((w.alloc (.cells #[.int .i64 9, .int .u32 (p : Int), .int .i64 nn, va, .string (str t), .int .u32 (oa : Int), .int .i64 (a : Int), .int .u32 (oi : Int), .bool fo] 32)).alloc (.cells #[.string ⟨#[]⟩, .string ⟨#[115, 116, 97, 114, 116]⟩, .string ⟨#[115, 116, 111, 112]⟩, .string ⟨#[117, 112]⟩, .string ⟨#[100, 111, 119, 110]⟩, .string ⟨#[98, 121, 116, 101, 115]⟩, .string ⟨#[116, 105, 99, 107]⟩, .string ⟨#[99, 111, 110, 102, 105, 103]⟩, .string ⟨#[116, 97, 107, 101]⟩, .string ⟨#[114, 105, 118, 97, 108]⟩, .string ⟨#[114, 101, 115, 101, 116]⟩] 9)).alloc (.cells #[] 9)) w.heap.size 32 #[.int .i64 9, .int .u32 (p : Int), .int .i64 nn, va, .string (str t), .int .u32 (oa : Int), .int .i64 (a : Int), .int .u32 (oi : Int), .bool fo]) := hide (((Blk.new w _ _).alloc _).alloc _)
    have HB0 : Hid (Below w.heap.size w (((w.alloc (.cells #[.int .i64 9, .int .u32 (p : Int), .int .i64 nn, va, .string (str t), .int .u32 (oa : Int), .int .i64 (a : Int), .int .u32 (oi : Int), .bool fo] 32)).alloc (.cells #[.string ⟨#[]⟩, .string ⟨#[115, 116, 97, 114, 116]⟩, .string ⟨#[115, 116, 111, 112]⟩, .string ⟨#[117, 112]⟩, .string ⟨#[100, 111, 119, 110]⟩, .string ⟨#[98, 121, 116, 101, 115]⟩, .string ⟨#[116, 105, 99, 107]⟩, .string ⟨#[99, 111, 110, 102, 105, 103]⟩, .string ⟨#[116, 97, 107, 101]⟩, .string ⟨#[114, 105, 118, 97, 108]⟩, .string ⟨#[114, 101, 115, 101, 116]⟩] 9)).alloc (.cells #[] 9))) := hide ((((Below.refl _ w).alloc (Nat.le_refl _) _).alloc (by simp) _).alloc (by simp; omega) _)
    go_enter Tryz.func24, Tryz.ntmps24
    go_wp2_with fail
    refine (refAddr_any p (by omega) _).mono ?_
    rintro e w2 ⟨rfl, hw⟩
    have HK2 : Hid (Blk w2 w.heap.size 32 #[.int .i64 9, .int .u32 (p : Int), .int .i64 nn, va, .string (str t), .int .u32 (oa : Int), .int .i64 (a : Int), .int .u32 (oi : Int), .bool fo]) := hide (by rw [← hw]; exact HK0.out)
    have HB2 : Hid (Below w.heap.size w w2) := hide (by rw [← hw]; exact HB0.out)
    have hl2 := HK2.out.lt
    clear hw
    have c0 : w2.cell? ⟨w.heap.size, 0, none⟩ = some (.int .i64 9) := HK2.out.cell 0
    have c1 : w2.cell? ⟨w.heap.size, 1, none⟩ = some (.int .u32 (p : Int)) := HK2.out.cell 1
    have c2 : w2.cell? ⟨w.heap.size, 2, none⟩ = some (.int .i64 nn) := HK2.out.cell 2
    have c3 : w2.cell? ⟨w.heap.size, 3, none⟩ = some (va) := HK2.out.cell 3
    have c4 : w2.cell? ⟨w.heap.size, 4, none⟩ = some (.string (str t)) := HK2.out.cell 4
    have c5 : w2.cell? ⟨w.heap.size, 5, none⟩ = some (.int .u32 (oa : Int)) := HK2.out.cell 5
    have c6 : w2.cell? ⟨w.heap.size, 6, none⟩ = some (.int .i64 (a : Int)) := HK2.out.cell 6
    have c7 : w2.cell? ⟨w.heap.size, 7, none⟩ = some (.int .u32 (oi : Int)) := HK2.out.cell 7
    have c8 : w2.cell? ⟨w.heap.size, 8, none⟩ = some (.bool fo) := HK2.out.cell 8
    obtain ⟨S4, hS4⟩ : ∃ S, (⟨#[114, 105, 118, 97, 108]⟩ : ByteArray) ++ (⟨#[32]⟩ : ByteArray) ++ str (addrL p) = S := ⟨_, rfl⟩
    have HS4 := hide hS4
    have sS4 : S4.size ≤ 100 := by
      rw [← hS4]
      show (str (wordM 9) ++ str [32] ++ str (addrL p)).size ≤ 100
      rw [cat_str, cat_str, str_size]
      have h1 := addrL_len p
      have h2 := wordM_len 9
      simp; omega
    go_wp2
    try rw [hS4]
    clear hS4
    refine wp_region_relT 20 [(fun v _ => v = .string S4), (fun v _ => v = .string (S4 ++ (⟨#[32]⟩ : ByteArray))), (fun v _ => v = .pointer (some ⟨w.heap.size, 5, none⟩)), (fun v _ => v = .pointer (some ⟨w.heap.size, 5, none⟩)), (fun v _ => v = .int .u32 (oa : Int)), (fun v _ => v = .int .u64 (oa : Int)), (fun v _ => v = .string (str (Lib.decDigits oa))), (fun v _ => v = .string (S4 ++ (⟨#[32]⟩ : ByteArray) ++ str (Lib.decDigits oa))), (fun v _ => v = .string (S4 ++ (⟨#[32]⟩ : ByteArray) ++ str (Lib.decDigits oa) ++ (⟨#[32]⟩ : ByteArray))), (fun v _ => v = .pointer (some ⟨w.heap.size, 5, none⟩)), (fun v _ => v = .pointer (some ⟨w.heap.size, 6, none⟩)), (fun v _ => v = .int .i64 (a : Int)), (fun v _ => v = .string (str (Lib.decDigits a))), (fun v _ => v = .string (S4 ++ (⟨#[32]⟩ : ByteArray) ++ str (Lib.decDigits oa) ++ (⟨#[32]⟩ : ByteArray) ++ str (Lib.decDigits a))), (fun v _ => v = .string (S4 ++ (⟨#[32]⟩ : ByteArray) ++ str (Lib.decDigits oa) ++ (⟨#[32]⟩ : ByteArray) ++ str (Lib.decDigits a) ++ (⟨#[32]⟩ : ByteArray))), (fun v _ => v = .pointer (some ⟨w.heap.size, 5, none⟩)), (fun v _ => v = .pointer (some ⟨w.heap.size, 7, none⟩)), (fun v _ => v = .int .u32 (oi : Int)), (fun v _ => v = .string (str (addrL oi))), (fun v _ => v = .string (S4 ++ (⟨#[32]⟩ : ByteArray) ++ str (Lib.decDigits oa) ++ (⟨#[32]⟩ : ByteArray) ++ str (Lib.decDigits a) ++ (⟨#[32]⟩ : ByteArray) ++ str (addrL oi)))] (by kernel_rfl) (by kernel_rfl) (by kernel_rfl) (by kernel_rfl) (by kernel_rfl) (relMono _ ⟨fun _ _ _ _ h => h, fun _ _ _ _ h => h, fun _ _ _ _ h => h, fun _ _ _ _ h => h, fun _ _ _ _ h => h, fun _ _ _ _ h => h, fun _ _ _ _ h => h, fun _ _ _ _ h => h, fun _ _ _ _ h => h, fun _ _ _ _ h => h, fun _ _ _ _ h => h, fun _ _ _ _ h => h, fun _ _ _ _ h => h, fun _ _ _ _ h => h, fun _ _ _ _ h => h, fun _ _ _ _ h => h, fun _ _ _ _ h => h, fun _ _ _ _ h => h, fun _ _ _ _ h => h, fun _ _ _ _ h => h, trivial⟩) ⟨?_, ?_, ?_, ?_, ?_, ?_, ?_, ?_, ?_, ?_, ?_, ?_, ?_, ?_, ?_, ?_, ?_, ?_, ?_, ?_, trivial⟩ ?_
    · refine relStep_plain rfl ?_
      intro Ac w5 hp
      have hb := hp.bel
      have a4 : Ac.eval (.tmp 4) = .string S4 := hp.out 4 (by rfl)
      have hc := evalC Ac; have hf := evalF Ac; have hgl := evalG Ac
      obtain ⟨ρ, hρ⟩ : ∃ ρ, Ac.eval = ρ := ⟨_, rfl⟩
      rw [hρ] at a4 hc hf hgl
      exact relPure hρ (.string S4) (by simp [go_sem, hc, hf, hgl, ↓IntWalk.iteOmega, a4, *]) rfl
    · refine relStep_plain rfl ?_
      intro Ac w5 hp
      have hb := hp.bel
      have a50 : Ac.eval (.tmp 50) = .string S4 := hp.dep 0 (by kernel_rfl)
      have hc := evalC Ac; have hf := evalF Ac; have hgl := evalG Ac
      obtain ⟨ρ, hρ⟩ : ∃ ρ, Ac.eval = ρ := ⟨_, rfl⟩
      rw [hρ] at a50 hc hf hgl
      exact relPure hρ (.string (S4 ++ (⟨#[32]⟩ : ByteArray))) (by simp [go_sem, hc, hf, hgl, ↓IntWalk.iteOmega, a50, *]) rfl
    · refine relStep_plain rfl ?_
      intro Ac w5 hp
      have hb := hp.bel
      have a1 : Ac.eval (.tmp 1) = .pointer (some ⟨w.heap.size, 0, none⟩) := hp.out 1 (by rfl)
      have hc := evalC Ac; have hf := evalF Ac; have hgl := evalG Ac
      obtain ⟨ρ, hρ⟩ : ∃ ρ, Ac.eval = ρ := ⟨_, rfl⟩
      rw [hρ] at a1 hc hf hgl
      exact relPure hρ (.pointer (some ⟨w.heap.size, 5, none⟩)) (by simp [go_sem, hc, hf, hgl, ↓IntWalk.iteOmega, a1, *]) rfl
    · refine relStep_plain rfl ?_
      intro Ac w5 hp
      have hb := hp.bel
      have a52 : Ac.eval (.tmp 52) = .pointer (some ⟨w.heap.size, 5, none⟩) := hp.dep 2 (by kernel_rfl)
      have hc := evalC Ac; have hf := evalF Ac; have hgl := evalG Ac
      obtain ⟨ρ, hρ⟩ : ∃ ρ, Ac.eval = ρ := ⟨_, rfl⟩
      rw [hρ] at a52 hc hf hgl
      exact relPure hρ (.pointer (some ⟨w.heap.size, 5, none⟩)) (by simp [go_sem, hc, hf, hgl, ↓IntWalk.iteOmega, a52, *]) rfl
    · refine relStep_plain rfl ?_
      intro Ac w5 hp
      have hb := hp.bel
      have a53 : Ac.eval (.tmp 53) = .pointer (some ⟨w.heap.size, 5, none⟩) := hp.dep 3 (by kernel_rfl)
      have zz := HK2.out.below hb HK2.out.lt
      have z5 : w5.cell? ⟨w.heap.size, 5, none⟩ = some (.int .u32 (oa : Int)) := zz.cell 5
      have z6 : w5.cell? ⟨w.heap.size, 6, none⟩ = some (.int .i64 (a : Int)) := zz.cell 6
      have z7 : w5.cell? ⟨w.heap.size, 7, none⟩ = some (.int .u32 (oi : Int)) := zz.cell 7
      clear zz
      have hc := evalC Ac; have hf := evalF Ac; have hgl := evalG Ac
      obtain ⟨ρ, hρ⟩ : ∃ ρ, Ac.eval = ρ := ⟨_, rfl⟩
      rw [hρ] at a53 hc hf hgl
      exact relPure hρ (.int .u32 (oa : Int)) (by simp [go_sem, hc, hf, hgl, ↓IntWalk.iteOmega, a53, *]) rfl
    · refine relStep_plain rfl ?_
      intro Ac w5 hp
      have hb := hp.bel
      have a54 : Ac.eval (.tmp 54) = .int .u32 (oa : Int) := hp.dep 4 (by kernel_rfl)
      have hc := evalC Ac; have hf := evalF Ac; have hgl := evalG Ac
      obtain ⟨ρ, hρ⟩ : ∃ ρ, Ac.eval = ρ := ⟨_, rfl⟩
      rw [hρ] at a54 hc hf hgl
      exact relPure hρ (.int .u64 (oa : Int)) (by simp [go_sem, hc, hf, hgl, ↓IntWalk.iteOmega, a54, *]) rfl
    · refine relStep_plain rfl ?_
      intro Ac w5 hp
      have hb := hp.bel
      have a55 : Ac.eval (.tmp 55) = .int .u64 (oa : Int) := hp.dep 5 (by kernel_rfl)
      have hc := evalC Ac; have hf := evalF Ac; have hgl := evalG Ac
      obtain ⟨ρ, hρ⟩ : ∃ ρ, Ac.eval = ρ := ⟨_, rfl⟩
      rw [hρ] at a55 hc hf hgl
      refine relCall hρ 37 #[.int .u64 (oa : Int)] (by simp [go_sem, hc, hf, hgl, ↓IntWalk.iteOmega, a55, *]) ?_
      refine (num_any oa (by omega) w5).mono ?_
      rintro e w6 ⟨rfl, rfl⟩
      exact ⟨_, rfl, rfl, Below.refl _ _⟩
    · refine relStep_plain rfl ?_
      intro Ac w5 hp
      have hb := hp.bel
      have a51 : Ac.eval (.tmp 51) = .string (S4 ++ (⟨#[32]⟩ : ByteArray)) := hp.dep 1 (by kernel_rfl)
      have a56 : Ac.eval (.tmp 56) = .string (str (Lib.decDigits oa)) := hp.dep 6 (by kernel_rfl)
      have hc := evalC Ac; have hf := evalF Ac; have hgl := evalG Ac
      obtain ⟨ρ, hρ⟩ : ∃ ρ, Ac.eval = ρ := ⟨_, rfl⟩
      rw [hρ] at a51 a56 hc hf hgl
      exact relPure hρ (.string (S4 ++ (⟨#[32]⟩ : ByteArray) ++ str (Lib.decDigits oa))) (by simp [go_sem, hc, hf, hgl, ↓IntWalk.iteOmega, a51, a56, *]) rfl
    · refine relStep_plain rfl ?_
      intro Ac w5 hp
      have hb := hp.bel
      have a57 : Ac.eval (.tmp 57) = .string (S4 ++ (⟨#[32]⟩ : ByteArray) ++ str (Lib.decDigits oa)) := hp.dep 7 (by kernel_rfl)
      have hc := evalC Ac; have hf := evalF Ac; have hgl := evalG Ac
      obtain ⟨ρ, hρ⟩ : ∃ ρ, Ac.eval = ρ := ⟨_, rfl⟩
      rw [hρ] at a57 hc hf hgl
      exact relPure hρ (.string (S4 ++ (⟨#[32]⟩ : ByteArray) ++ str (Lib.decDigits oa) ++ (⟨#[32]⟩ : ByteArray))) (by simp [go_sem, hc, hf, hgl, ↓IntWalk.iteOmega, a57, *]) rfl
    · refine relStep_plain rfl ?_
      intro Ac w5 hp
      have hb := hp.bel
      have a1 : Ac.eval (.tmp 1) = .pointer (some ⟨w.heap.size, 0, none⟩) := hp.out 1 (by rfl)
      have hc := evalC Ac; have hf := evalF Ac; have hgl := evalG Ac
      obtain ⟨ρ, hρ⟩ : ∃ ρ, Ac.eval = ρ := ⟨_, rfl⟩
      rw [hρ] at a1 hc hf hgl
      exact relPure hρ (.pointer (some ⟨w.heap.size, 5, none⟩)) (by simp [go_sem, hc, hf, hgl, ↓IntWalk.iteOmega, a1, *]) rfl
    · refine relStep_plain rfl ?_
      intro Ac w5 hp
      have hb := hp.bel
      have a59 : Ac.eval (.tmp 59) = .pointer (some ⟨w.heap.size, 5, none⟩) := hp.dep 9 (by kernel_rfl)
      have hc := evalC Ac; have hf := evalF Ac; have hgl := evalG Ac
      obtain ⟨ρ, hρ⟩ : ∃ ρ, Ac.eval = ρ := ⟨_, rfl⟩
      rw [hρ] at a59 hc hf hgl
      exact relPure hρ (.pointer (some ⟨w.heap.size, 6, none⟩)) (by simp [go_sem, hc, hf, hgl, ↓IntWalk.iteOmega, a59, *]) rfl
    · refine relStep_plain rfl ?_
      intro Ac w5 hp
      have hb := hp.bel
      have a60 : Ac.eval (.tmp 60) = .pointer (some ⟨w.heap.size, 6, none⟩) := hp.dep 10 (by kernel_rfl)
      have zz := HK2.out.below hb HK2.out.lt
      have z5 : w5.cell? ⟨w.heap.size, 5, none⟩ = some (.int .u32 (oa : Int)) := zz.cell 5
      have z6 : w5.cell? ⟨w.heap.size, 6, none⟩ = some (.int .i64 (a : Int)) := zz.cell 6
      have z7 : w5.cell? ⟨w.heap.size, 7, none⟩ = some (.int .u32 (oi : Int)) := zz.cell 7
      clear zz
      have hc := evalC Ac; have hf := evalF Ac; have hgl := evalG Ac
      obtain ⟨ρ, hρ⟩ : ∃ ρ, Ac.eval = ρ := ⟨_, rfl⟩
      rw [hρ] at a60 hc hf hgl
      exact relPure hρ (.int .i64 (a : Int)) (by simp [go_sem, hc, hf, hgl, ↓IntWalk.iteOmega, a60, *]) rfl
    · refine relStep_plain rfl ?_
      intro Ac w5 hp
      have hb := hp.bel
      have a61 : Ac.eval (.tmp 61) = .int .i64 (a : Int) := hp.dep 11 (by kernel_rfl)
      have hc := evalC Ac; have hf := evalF Ac; have hgl := evalG Ac
      obtain ⟨ρ, hρ⟩ : ∃ ρ, Ac.eval = ρ := ⟨_, rfl⟩
      rw [hρ] at a61 hc hf hgl
      refine relCall hρ 36 #[.int .i64 (a : Int)] (by simp [go_sem, hc, hf, hgl, ↓IntWalk.iteOmega, a61, *]) ?_
      refine (rint_any a (by omega) w5).mono ?_
      rintro e w6 ⟨rfl, rfl⟩
      exact ⟨_, rfl, rfl, Below.refl _ _⟩
    · refine relStep_plain rfl ?_
      intro Ac w5 hp
      have hb := hp.bel
      have a58 : Ac.eval (.tmp 58) = .string (S4 ++ (⟨#[32]⟩ : ByteArray) ++ str (Lib.decDigits oa) ++ (⟨#[32]⟩ : ByteArray)) := hp.dep 8 (by kernel_rfl)
      have a62 : Ac.eval (.tmp 62) = .string (str (Lib.decDigits a)) := hp.dep 12 (by kernel_rfl)
      have hc := evalC Ac; have hf := evalF Ac; have hgl := evalG Ac
      obtain ⟨ρ, hρ⟩ : ∃ ρ, Ac.eval = ρ := ⟨_, rfl⟩
      rw [hρ] at a58 a62 hc hf hgl
      exact relPure hρ (.string (S4 ++ (⟨#[32]⟩ : ByteArray) ++ str (Lib.decDigits oa) ++ (⟨#[32]⟩ : ByteArray) ++ str (Lib.decDigits a))) (by simp [go_sem, hc, hf, hgl, ↓IntWalk.iteOmega, a58, a62, *]) rfl
    · refine relStep_plain rfl ?_
      intro Ac w5 hp
      have hb := hp.bel
      have a63 : Ac.eval (.tmp 63) = .string (S4 ++ (⟨#[32]⟩ : ByteArray) ++ str (Lib.decDigits oa) ++ (⟨#[32]⟩ : ByteArray) ++ str (Lib.decDigits a)) := hp.dep 13 (by kernel_rfl)
      have hc := evalC Ac; have hf := evalF Ac; have hgl := evalG Ac
      obtain ⟨ρ, hρ⟩ : ∃ ρ, Ac.eval = ρ := ⟨_, rfl⟩
      rw [hρ] at a63 hc hf hgl
      exact relPure hρ (.string (S4 ++ (⟨#[32]⟩ : ByteArray) ++ str (Lib.decDigits oa) ++ (⟨#[32]⟩ : ByteArray) ++ str (Lib.decDigits a) ++ (⟨#[32]⟩ : ByteArray))) (by simp [go_sem, hc, hf, hgl, ↓IntWalk.iteOmega, a63, *]) rfl
    · refine relStep_plain rfl ?_
      intro Ac w5 hp
      have hb := hp.bel
      have a1 : Ac.eval (.tmp 1) = .pointer (some ⟨w.heap.size, 0, none⟩) := hp.out 1 (by rfl)
      have hc := evalC Ac; have hf := evalF Ac; have hgl := evalG Ac
      obtain ⟨ρ, hρ⟩ : ∃ ρ, Ac.eval = ρ := ⟨_, rfl⟩
      rw [hρ] at a1 hc hf hgl
      exact relPure hρ (.pointer (some ⟨w.heap.size, 5, none⟩)) (by simp [go_sem, hc, hf, hgl, ↓IntWalk.iteOmega, a1, *]) rfl
    · refine relStep_plain rfl ?_
      intro Ac w5 hp
      have hb := hp.bel
      have a65 : Ac.eval (.tmp 65) = .pointer (some ⟨w.heap.size, 5, none⟩) := hp.dep 15 (by kernel_rfl)
      have hc := evalC Ac; have hf := evalF Ac; have hgl := evalG Ac
      obtain ⟨ρ, hρ⟩ : ∃ ρ, Ac.eval = ρ := ⟨_, rfl⟩
      rw [hρ] at a65 hc hf hgl
      exact relPure hρ (.pointer (some ⟨w.heap.size, 7, none⟩)) (by simp [go_sem, hc, hf, hgl, ↓IntWalk.iteOmega, a65, *]) rfl
    · refine relStep_plain rfl ?_
      intro Ac w5 hp
      have hb := hp.bel
      have a66 : Ac.eval (.tmp 66) = .pointer (some ⟨w.heap.size, 7, none⟩) := hp.dep 16 (by kernel_rfl)
      have zz := HK2.out.below hb HK2.out.lt
      have z5 : w5.cell? ⟨w.heap.size, 5, none⟩ = some (.int .u32 (oa : Int)) := zz.cell 5
      have z6 : w5.cell? ⟨w.heap.size, 6, none⟩ = some (.int .i64 (a : Int)) := zz.cell 6
      have z7 : w5.cell? ⟨w.heap.size, 7, none⟩ = some (.int .u32 (oi : Int)) := zz.cell 7
      clear zz
      have hc := evalC Ac; have hf := evalF Ac; have hgl := evalG Ac
      obtain ⟨ρ, hρ⟩ : ∃ ρ, Ac.eval = ρ := ⟨_, rfl⟩
      rw [hρ] at a66 hc hf hgl
      exact relPure hρ (.int .u32 (oi : Int)) (by simp [go_sem, hc, hf, hgl, ↓IntWalk.iteOmega, a66, *]) rfl
    · refine relStep_plain rfl ?_
      intro Ac w5 hp
      have hb := hp.bel
      have a67 : Ac.eval (.tmp 67) = .int .u32 (oi : Int) := hp.dep 17 (by kernel_rfl)
      have hc := evalC Ac; have hf := evalF Ac; have hgl := evalG Ac
      obtain ⟨ρ, hρ⟩ : ∃ ρ, Ac.eval = ρ := ⟨_, rfl⟩
      rw [hρ] at a67 hc hf hgl
      refine relCall hρ 35 #[.int .u32 (oi : Int)] (by simp [go_sem, hc, hf, hgl, ↓IntWalk.iteOmega, a67, *]) ?_
      refine (refAddr_any oi (by omega) w5).mono ?_
      rintro e w6 ⟨rfl, rfl⟩
      exact ⟨_, rfl, rfl, Below.refl _ _⟩
    · refine relStep_plain rfl ?_
      intro Ac w5 hp
      have hb := hp.bel
      have a64 : Ac.eval (.tmp 64) = .string (S4 ++ (⟨#[32]⟩ : ByteArray) ++ str (Lib.decDigits oa) ++ (⟨#[32]⟩ : ByteArray) ++ str (Lib.decDigits a) ++ (⟨#[32]⟩ : ByteArray)) := hp.dep 14 (by kernel_rfl)
      have a68 : Ac.eval (.tmp 68) = .string (str (addrL oi)) := hp.dep 18 (by kernel_rfl)
      have hc := evalC Ac; have hf := evalF Ac; have hgl := evalG Ac
      obtain ⟨ρ, hρ⟩ : ∃ ρ, Ac.eval = ρ := ⟨_, rfl⟩
      rw [hρ] at a64 a68 hc hf hgl
      exact relPure hρ (.string (S4 ++ (⟨#[32]⟩ : ByteArray) ++ str (Lib.decDigits oa) ++ (⟨#[32]⟩ : ByteArray) ++ str (Lib.decDigits a) ++ (⟨#[32]⟩ : ByteArray) ++ str (addrL oi))) (by simp [go_sem, hc, hf, hgl, ↓IntWalk.iteOmega, a64, a68, *]) rfl
    intro u w8 hb7 hall
    have e69 : u 19 = .string (S4 ++ (⟨#[32]⟩ : ByteArray) ++ str (Lib.decDigits oa) ++ (⟨#[32]⟩ : ByteArray) ++ str (Lib.decDigits a) ++ (⟨#[32]⟩ : ByteArray) ++ str (addrL oi)) := relAll_at hall (i := 19) (by decide +kernel)
    clear hall
    simp only [List.drop_succ_cons, List.drop_zero, List.take_succ_cons, List.take_zero, putAll, Act.put, List.setIfInBounds_toArray, List.set_cons_zero, List.set_cons_succ, Nat.zero_add, Nat.reduceAdd, e69]
    have HK3 := hide (HK2.out.below hb7 HK2.out.lt)
    have HB3 := hide (HB2.out.trans (hb7.mono HB2.out.size))
    have hl3 := HK3.out.lt
    clear hb7 c0 c1 c2 c3 c4 c5 c6 c7 c8
    have c0 : w8.cell? ⟨w.heap.size, 0, none⟩ = some (.int .i64 9) := HK3.out.cell 0
    have c1 : w8.cell? ⟨w.heap.size, 1, none⟩ = some (.int .u32 (p : Int)) := HK3.out.cell 1
    have c2 : w8.cell? ⟨w.heap.size, 2, none⟩ = some (.int .i64 nn) := HK3.out.cell 2
    have c3 : w8.cell? ⟨w.heap.size, 3, none⟩ = some (va) := HK3.out.cell 3
    have c4 : w8.cell? ⟨w.heap.size, 4, none⟩ = some (.string (str t)) := HK3.out.cell 4
    have c5 : w8.cell? ⟨w.heap.size, 5, none⟩ = some (.int .u32 (oa : Int)) := HK3.out.cell 5
    have c6 : w8.cell? ⟨w.heap.size, 6, none⟩ = some (.int .i64 (a : Int)) := HK3.out.cell 6
    have c7 : w8.cell? ⟨w.heap.size, 7, none⟩ = some (.int .u32 (oi : Int)) := HK3.out.cell 7
    have c8 : w8.cell? ⟨w.heap.size, 8, none⟩ = some (.bool fo) := HK3.out.cell 8
    have HJ : Hid (S4 ++ (⟨#[32]⟩ : ByteArray) ++ str (Lib.decDigits oa) ++ (⟨#[32]⟩ : ByteArray) ++ str (Lib.decDigits a) ++ (⟨#[32]⟩ : ByteArray) ++ str (addrL oi) = str (jw [wordM 9, addrL p, Lib.decDigits oa, Lib.decDigits a, addrL oi])) := hide (by
      rw [← HS4.out]
      show str (wordM 9) ++ str [32] ++ str (addrL p) ++ str [32] ++ str (Lib.decDigits oa) ++ str [32] ++ str (Lib.decDigits a) ++ str [32] ++ str (addrL oi) = _
      simp only [cat_str, jw_cons2, jw_one]; simp)
    go_wp2
    rw [HJ.out]
    go_loopw [6, 7] (fun lv iv wr => ∃ j : Nat, j ≤ 0 ∧ iv = .int .i64 (j : Nat) ∧ wr.ownsRow w8.heap.size 9 1 lv (1 + j) (strv ([jw [wordM 9, addrL p, Lib.decDigits oa, Lib.decDigits a, addrL oi]] ++ (([] : List (List UInt8)).take j).map (124 :: ·))) ∧ Below w8.heap.size w8 wr) (fun _ iv _ => 0 - (intOf iv).toNat)
    case atStart => exact ⟨0, Nat.zero_le _, rfl, own_oneS _ (Nat.le_refl _), (Below.refl _ _).alloc (Nat.le_refl _) _⟩
    case round =>
      obtain ⟨j, hj, rfl, hown, hbel⟩ := hrel
      obtain ⟨A6, d6, rfl⟩ := own_slice hown
      have HO := hide hown
      have HB := hide hbel
      have hsw := hbel.size
      clear hown
      obtain rfl : j = 0 := by omega
      clear hbel
      go_wp2
      go_ret
      have HFn : Hid (shownM ⟨9, p, nn, b, t, oa, (a : Int), oi, fo⟩ = [jw [wordM 9, addrL p, Lib.decDigits oa, Lib.decDigits a, addrL oi]] ++ (([] : List (List UInt8)).take 0).map (124 :: ·)) := hide (by simp [shownM, headM, tailM, behM])
      exact ⟨A6, _, d6, rfl, by rw [HFn.out]; rfl, by rw [HFn.out]; exact own_baseLe HO.out HB3.out.size, HB3.out.trans (HB.out.mono HB3.out.size)⟩
  · have HK0 : Hid (Blk (((w.alloc (.cells #[.int .i64 10, .int .u32 (p : Int), .int .i64 nn, va, .string (str t), .int .u32 (oa : Int), .int .i64 oh, .int .u32 (oi : Int), .bool fo] 32)).alloc (.cells #[.string ⟨#[]⟩, .string ⟨#[115, 116, 97, 114, 116]⟩, .string ⟨#[115, 116, 111, 112]⟩, .string ⟨#[117, 112]⟩, .string ⟨#[100, 111, 119, 110]⟩, .string ⟨#[98, 121, 116, 101, 115]⟩, .string ⟨#[116, 105, 99, 107]⟩, .string ⟨#[99, 111, 110, 102, 105, 103]⟩, .string ⟨#[116, 97, 107, 101]⟩, .string ⟨#[114, 105, 118, 97, 108]⟩, .string ⟨#[114, 101, 115, 101, 116]⟩] 9)).alloc (.cells #[] 9)) w.heap.size 32 #[.int .i64 10, .int .u32 (p : Int), .int .i64 nn, va, .string (str t), .int .u32 (oa : Int), .int .i64 oh, .int .u32 (oi : Int), .bool fo]) := hide (((Blk.new w _ _).alloc _).alloc _)
    have HB0 : Hid (Below w.heap.size w (((w.alloc (.cells #[.int .i64 10, .int .u32 (p : Int), .int .i64 nn, va, .string (str t), .int .u32 (oa : Int), .int .i64 oh, .int .u32 (oi : Int), .bool fo] 32)).alloc (.cells #[.string ⟨#[]⟩, .string ⟨#[115, 116, 97, 114, 116]⟩, .string ⟨#[115, 116, 111, 112]⟩, .string ⟨#[117, 112]⟩, .string ⟨#[100, 111, 119, 110]⟩, .string ⟨#[98, 121, 116, 101, 115]⟩, .string ⟨#[116, 105, 99, 107]⟩, .string ⟨#[99, 111, 110, 102, 105, 103]⟩, .string ⟨#[116, 97, 107, 101]⟩, .string ⟨#[114, 105, 118, 97, 108]⟩, .string ⟨#[114, 101, 115, 101, 116]⟩] 9)).alloc (.cells #[] 9))) := hide ((((Below.refl _ w).alloc (Nat.le_refl _) _).alloc (by simp) _).alloc (by simp; omega) _)
    go_enter Tryz.func24, Tryz.ntmps24
    go_wp2_with fail
    refine (refAddr_any p (by omega) _).mono ?_
    rintro e w2 ⟨rfl, hw⟩
    have HK2 : Hid (Blk w2 w.heap.size 32 #[.int .i64 10, .int .u32 (p : Int), .int .i64 nn, va, .string (str t), .int .u32 (oa : Int), .int .i64 oh, .int .u32 (oi : Int), .bool fo]) := hide (by rw [← hw]; exact HK0.out)
    have HB2 : Hid (Below w.heap.size w w2) := hide (by rw [← hw]; exact HB0.out)
    have hl2 := HK2.out.lt
    clear hw
    have c0 : w2.cell? ⟨w.heap.size, 0, none⟩ = some (.int .i64 10) := HK2.out.cell 0
    have c1 : w2.cell? ⟨w.heap.size, 1, none⟩ = some (.int .u32 (p : Int)) := HK2.out.cell 1
    have c2 : w2.cell? ⟨w.heap.size, 2, none⟩ = some (.int .i64 nn) := HK2.out.cell 2
    have c3 : w2.cell? ⟨w.heap.size, 3, none⟩ = some (va) := HK2.out.cell 3
    have c4 : w2.cell? ⟨w.heap.size, 4, none⟩ = some (.string (str t)) := HK2.out.cell 4
    have c5 : w2.cell? ⟨w.heap.size, 5, none⟩ = some (.int .u32 (oa : Int)) := HK2.out.cell 5
    have c6 : w2.cell? ⟨w.heap.size, 6, none⟩ = some (.int .i64 oh) := HK2.out.cell 6
    have c7 : w2.cell? ⟨w.heap.size, 7, none⟩ = some (.int .u32 (oi : Int)) := HK2.out.cell 7
    have c8 : w2.cell? ⟨w.heap.size, 8, none⟩ = some (.bool fo) := HK2.out.cell 8
    have HJ : Hid ((⟨#[114, 101, 115, 101, 116]⟩ : ByteArray) ++ (⟨#[32]⟩ : ByteArray) ++ str (addrL p) = str (jw [wordM 10, addrL p])) := hide (by
      show str (wordM 10) ++ str [32] ++ str (addrL p) = _
      rw [cat_str, cat_str, jw_cons2, jw_one]; simp)
    go_wp2
    rw [HJ.out]
    go_loopw [6, 7] (fun lv iv wr => ∃ j : Nat, j ≤ 0 ∧ iv = .int .i64 (j : Nat) ∧ wr.ownsRow w2.heap.size 9 1 lv (1 + j) (strv ([jw [wordM 10, addrL p]] ++ (([] : List (List UInt8)).take j).map (124 :: ·))) ∧ Below w2.heap.size w2 wr) (fun _ iv _ => 0 - (intOf iv).toNat)
    case atStart => exact ⟨0, Nat.zero_le _, rfl, own_oneS _ (Nat.le_refl _), (Below.refl _ _).alloc (Nat.le_refl _) _⟩
    case round =>
      obtain ⟨j, hj, rfl, hown, hbel⟩ := hrel
      obtain ⟨A6, d6, rfl⟩ := own_slice hown
      have HO := hide hown
      have HB := hide hbel
      have hsw := hbel.size
      clear hown
      obtain rfl : j = 0 := by omega
      clear hbel
      go_wp2
      go_ret
      have HFn : Hid (shownM ⟨10, p, nn, b, t, oa, oh, oi, fo⟩ = [jw [wordM 10, addrL p]] ++ (([] : List (List UInt8)).take 0).map (124 :: ·)) := hide (by simp [shownM, headM, tailM, behM])
      exact ⟨A6, _, d6, rfl, by rw [HFn.out]; rfl, by rw [HFn.out]; exact own_baseLe HO.out HB2.out.size, HB2.out.trans (HB.out.mono HB2.out.size)⟩
end Go.Proofs.YtlfknndpbejbcaaGreatDoor
set_option linter.unusedSimpArgs false
set_option linter.unusedVariables false
namespace Go.Proofs.YtlfknndpbejbcaaGreatDoor
open Go.RowKit Go.WideShapes Go.ChangeShapes
attribute [local go_sem] Oper.semAt_some
set_option maxRecDepth 100000 in
set_option maxHeartbeats 4000000 in
theorem rtext_any (m : MV) (A : Option Addr) (n c : Nat) (w : World) (h : LstAt 1 byR w A n c m.b) (ok : MvOk m) (hg : mvGood m = true) :
    Calls Tryz.prog 11 #[mvV m (.slice A n c)] w fun e w' => e = .returned (.string (str (feedT (shownM m)))) ∧ Below w.heap.size w w' := by
  have HG := hide hg
  have HLs := hide h
  have HOk := hide ok
  have HF := hide (shown_feed ok hg)
  have HE := hide (shown_lens ok hg)
  have HNl := hide (feedT_num (shownM m))
  obtain ⟨k, p, nn, b, t, oa, oh, oi, fo⟩ := m
  have HB0 := hide ((Below.refl w.heap.size w).alloc (Nat.le_refl _) (.cells #[.int .i64 k, .int .u32 (p : Int), .int .i64 nn, .slice A n c, .string (str t), .int .u32 (oa : Int), .int .i64 oh, .int .u32 (oi : Int), .bool fo] 32))
  have HSh := hide (rshow_any ⟨k, p, nn, b, t, oa, oh, oi, fo⟩ A n c _ (HLs.out.below byMono HB0.out) HOk.out HG.out)
  obtain ⟨SM, hSM⟩ : ∃ SM, shownM ⟨k, p, nn, b, t, oa, oh, oi, fo⟩ = SM := ⟨_, rfl⟩
  have HShP : Hid (∀ (W W' : World) (e : Ending), ShownP ⟨k, p, nn, b, t, oa, oh, oi, fo⟩ W e W' → ∃ A n c, e = .returned (.slice A n c) ∧ n = SM.length ∧ W'.ownsRow W.heap.size 9 1 (.slice A n c) n (strv SM) ∧ Below W.heap.size W W') := hide (by intro W W' e hp; unfold ShownP at hp; rw [hSM] at hp; exact hp)
  rw [hSM] at HF HE HNl ⊢
  clear h ok hg hSM
  unfold mvV
  simp only
  go_enter Tryz.func11, Tryz.ntmps11
  go_wp2_with fail
  refine HSh.out.mono ?_
  intro e w2 hp
  obtain ⟨A2, n2, c2, rfl, hn2, ho, hb⟩ := HShP.out _ _ _ hp
  have HN : Hid (SM.length = n2) := hide hn2.symm
  have HS := hide (StrsAt.of_own ho (fun x hx => by have := HE.out x hx; unfold maxLen; omega))
  have HB2 := hide (HB0.out.trans (hb.mono HB0.out.size))
  have hnb : n2 ≤ 1000000 := by have h1 := HNl.out; have h2 := HF.out; omega
  clear hp hn2 ho hb
  go_wp2
  go_loopw [3, 5] (fun sv iv wr => ∃ j : Nat, j ≤ n2 ∧ iv = .int .i64 (j : Nat) ∧ sv = .string (str (feedT (SM.take j))) ∧ Below w2.heap.size w2 wr) (fun _ iv _ => n2 - (intOf iv).toNat)
  case atStart => exact ⟨0, Nat.zero_le _, rfl, rfl, Below.refl _ _⟩
  case round =>
    obtain ⟨j, hj, rfl, rfl, hbel⟩ := hrel
    have HB := hide hbel
    by_cases hlt : j < n2
    · obtain ⟨g, o, x, rfl, hg, hx, hxs, hc⟩ := (HS.out.below rfl hbel).at_ (k := j) hlt
      have hnc := HS.out.2.1
      have HX : Hid (∃ y, SM[j]? = some y ∧ x = str y) := hide (by
        rw [List.getElem?_map, Option.map_eq_some_iff] at hx
        obtain ⟨y, hy, rfl⟩ := hx
        exact ⟨y, hy, rfl⟩)
      have q0 : (0 : Int) ≤ (j : Int) := by omega
      have q1 : (j : Int) < (n2 : Int) := by omega
      have hxz : x.size ≤ 200000 := by
        obtain ⟨y, hy, rfl⟩ := HX.out
        rw [str_size]
        exact HE.out y (List.mem_of_getElem? hy)
      have hsz : (str (feedT (SM.take j))).size ≤ 1000000 := by
        rw [str_size]
        have h1 := feedT_take SM j
        have h2 := HF.out
        omega
      have HJ : Hid (str (feedT (SM.take j)) ++ x ++ (⟨#[10]⟩ : ByteArray) = str (feedT (SM.take (j + 1)))) := hide (by
        obtain ⟨y, hy, rfl⟩ := HX.out
        have e10 : (⟨#[10]⟩ : ByteArray) = str [10] := rfl
        rw [e10, cat_str, cat_str, List.take_add_one, hy, Option.toList_some, feedT_snoc, List.append_assoc])
      have hsz2 : (str (feedT (SM.take j)) ++ x).size ≤ 1200000 := by rw [ByteArray.size_append]; omega
      obtain ⟨S, hS⟩ : ∃ S, str (feedT (SM.take j)) = S := ⟨_, rfl⟩
      rw [hS] at HJ hsz hsz2 ⊢
      clear hx hxs hbel hS
      go_wp2
      rw [HJ.out]
      go_roundw
      case rel => exact ⟨j + 1, by omega, by go_num, rfl, HB.out⟩
      case measure => simp [intOf]; omega
    · obtain rfl : j = n2 := by omega
      have hsm : SM.take j = SM := List.take_of_length_le (by rw [HN.out]; exact Nat.le_refl _)
      rw [hsm]
      clear hsm hbel
      go_wp2
      go_ret
      exact ⟨rfl, HB2.out.trans (HB.out.mono HB2.out.size)⟩
end Go.Proofs.YtlfknndpbejbcaaGreatDoor
set_option linter.unusedSimpArgs false
set_option linter.unusedVariables false
namespace Go.Proofs.YtlfknndpbejbcaaGreatDoor
open Go.RowKit Go.WideShapes Go.ChangeShapes Go.ChangeAt
attribute [local go_sem] Oper.semAt_some
def liveSM : List MV := [⟨3, 167772162, 0, [], [], 0, 0, 0, false⟩, ⟨7, 0, 0, [], [114, 111, 117, 116, 101, 114, 32, 49, 32, 49, 46, 49, 46, 49, 46, 49, 10], 0, 0, 0, false⟩]
def liveST : List UInt8 := [117, 112, 32, 49, 48, 46, 48, 46, 48, 46, 50, 10, 99, 111, 110, 102, 105, 103, 32, 49, 10, 124, 114, 111, 117, 116, 101, 114, 32, 49, 32, 49, 46, 49, 46, 49, 46, 49, 10]
theorem liveST_is : textsM liveSM = liveST := by decide +kernel
theorem liveSM_ok : ∀ m ∈ liveSM, mvGood m = true ∧ MvOk m := by
  intro m hm
  simp only [liveSM, List.mem_cons, List.not_mem_nil, or_false] at hm
  rcases hm with rfl | rfl
  · exact ⟨by decide, ⟨by decide, by decide, by decide, by decide, by decide, by decide⟩⟩
  · exact ⟨by decide, ⟨by decide, by decide, by decide, by decide, by decide, by decide⟩⟩
set_option maxRecDepth 100000 in
set_option maxHeartbeats 2000000 in
theorem slives_any (w : World) (he : Env w) (ht : SpTab w) : Calls Tryz.prog 12 #[] w (GoodP true w) := by
  have HR := hide (sread_any liveST (by decide) w he ht)
  clear he ht
  go_enter Tryz.func12, Tryz.ntmps12
  go_wp2_with fail
  refine HR.out.mono ?_
  rintro e w1 ⟨hr, hb⟩
  rw [← liveST_is] at hr
  rcases read_moves liveSM_ok hr with ⟨_, A, n, c, rfl, hn, hl⟩ | ⟨h5, _⟩
  · obtain rfl : n = 2 := hn.symm
    obtain ⟨g, o, x0, vs0, rfl, hg, hx0, _, ⟨A0, n0, c0, rfl, _⟩, hc0⟩ := hl.at_ (k := 0) (by omega)
    obtain ⟨g', o', x1, vs1, hA, _, hx1, _, ⟨A1, n1, c1, rfl, _⟩, hc1⟩ := hl.at_ (k := 1) (by omega)
    cases hA
    have e0 : x0 = ⟨3, 167772162, 0, [], [], 0, 0, 0, false⟩ := by
      have : (liveSM.map mvOnly)[0]? = some ⟨3, 167772162, 0, [], [], 0, 0, 0, false⟩ := by simp [liveSM, mvOnly]
      rw [this] at hx0; exact (Option.some.inj hx0).symm
    have e1 : x1 = ⟨7, 0, 0, [], [114, 111, 117, 116, 101, 114, 32, 49, 32, 49, 46, 49, 46, 49, 46, 49, 10], 0, 0, 0, false⟩ := by
      have : (liveSM.map mvOnly)[1]? = some ⟨7, 0, 0, [], [114, 111, 117, 116, 101, 114, 32, 49, 32, 49, 46, 49, 46, 49, 46, 49, 10], 0, 0, 0, false⟩ := by simp [liveSM, mvOnly]
      rw [this] at hx1; exact (Option.some.inj hx1).symm
    subst e0 e1
    have k0 : w1.cell? ⟨g, o, none⟩ = some (.int .i64 3) := by have := hc0 0 _ rfl; simpa using this
    have k1 : w1.cell? ⟨g, o + 9 + 4, none⟩ = some (.string ⟨#[114, 111, 117, 116, 101, 114, 32, 49, 32, 49, 46, 49, 46, 49, 46, 49, 10]⟩) := by have := hc1 4 _ rfl; rw [Nat.one_mul] at this; exact this
    have k2 : w1.cell? ⟨g, o + 13, none⟩ = some (.string ⟨#[114, 111, 117, 116, 101, 114, 32, 49, 32, 49, 46, 49, 46, 49, 46, 49, 10]⟩) := k1
    have k3 : ((⟨#[114, 111, 117, 116, 101, 114, 32, 49, 32, 49, 46, 49, 46, 49, 46, 49, 10]⟩ : ByteArray).toList == [114, 111, 117, 116, 101, 114, 32, 49, 32, 49, 46, 49, 46, 49, 46, 49, 10]) = true := by decide +kernel
    have HB := hide hb
    have h2c := hl.2.1
    clear hr hn hl hx0 hx1 hc0 hc1 hb
    go_wp2
    go_ret
    exact ⟨rfl, HB.out⟩
  · exact absurd h5 (by decide)
theorem conv_by {w : World} {A : Option Addr} {n c : Nat} {l : List UInt8} (h : LstAt 1 byR w A n c l) : (convert 28 9 (.slice A n c)).run Tryz.prog w = .ok (.string (str l)) w := by
  by_cases hn : 0 < n
  · obtain ⟨g, o, rfl, hg, hc⟩ := h.2.2.2 hn
    have := run_convert_bytes_back (P := Tryz.prog) w 28 9 5 ⟨g, o, none⟩ c l Tryz.underlying28 Tryz.underlying5 Tryz.underlying9 (fun j hj => by
      obtain ⟨vs, _, rfl, h3⟩ := hc j l[j] (List.getElem?_eq_getElem hj)
      have h4 := h3 0 _ rfl
      have e : (⟨g, o, none⟩ : Addr).add j = ⟨g, o + j, none⟩ := by unfold Addr.add; split <;> simp_all
      rw [e]
      simpa using h4)
    rw [h.1] at this
    exact this
  · obtain rfl : n = 0 := by omega
    obtain rfl : l = [] := List.eq_nil_of_length_eq_zero h.1
    cases A with
    | some a => exact run_convert_bytes_back (P := Tryz.prog) w 28 9 5 a c [] Tryz.underlying28 Tryz.underlying5 Tryz.underlying9 (fun j hj => by cases hj)
    | none =>
      rw [run_convert_bytes_string w 28 9 5 none 0 c Tryz.underlying28 Tryz.underlying5 Tryz.underlying9]
      simp [Conv.bytesToString, loadCells, str, ByteArray.empty, ByteArray.emptyWithCapacity]
      rfl
theorem cut_str (S : ByteArray) (k : Nat) (h : k < S.size) : S.extract 0 k = str (S.data.toList.take k) := by
  have : (S.extract 0 k).data = (str (S.data.toList.take k)).data := by
    rw [ByteArray.data_extract]
    unfold str
    apply Array.ext'
    simp [Array.toList_extract, List.take_eq_take_iff]
  cases hx : S.extract 0 k
  rw [hx] at this
  simp only at this
  rw [this]
end Go.Proofs.YtlfknndpbejbcaaGreatDoor
set_option linter.unusedSimpArgs false
set_option linter.unusedVariables false
namespace Go.Proofs.YtlfknndpbejbcaaGreatDoor
open Go.RowKit Go.WideShapes Go.ChangeShapes
attribute [local go_sem] Oper.semAt_some
def onlyV (m : MV) (v : Value) : Value := if m.k = 5 then v else .slice none 0 0
set_option maxRecDepth 100000 in
set_option maxHeartbeats 4000000 in
theorem ronly_any (m : MV) (A : Option Addr) (n c : Nat) (w : World) : Calls Tryz.prog 10 #[mvV m (.slice A n c)] w fun e w' => e = .returned (mvV (mvOnly m) (onlyV m (.slice A n c))) ∧ Below w.heap.size w w' := by
  obtain ⟨k, p, nn, b, t, oa, oh, oi, fo⟩ := m
  have HB : Hid (∀ o1 o2 o3 : Obj, Below w.heap.size w (((w.alloc o1).alloc o2).alloc o3)) := hide (fun o1 o2 o3 => (((Below.refl _ w).alloc (Nat.le_refl _) _).alloc (by simp) _).alloc (by simp; omega) _)
  unfold mvV
  simp only
  by_cases h6 : k = 6
  · subst h6
    go_enter Tryz.func10, Tryz.ntmps10
    go_wp2
    refine bodyPost_ret (v := .agg #[.int .i64 6, .int .u32 0, .int .i64 0, .slice none 0 0, .string ⟨#[]⟩, .int .u32 0, .int .i64 0, .int .u32 0, .bool false]) (by simp [results, Tryz.results10, go_sem]) rfl ⟨by simp [mvOnly, onlyV, str], HB.out _ _ _⟩
  · have e6 : (k == 6) = false := by simpa using h6
    by_cases h7 : k = 7
    · subst h7
      go_enter Tryz.func10, Tryz.ntmps10
      go_wp2
      refine bodyPost_ret (v := .agg #[.int .i64 7, .int .u32 0, .int .i64 0, .slice none 0 0, .string (str t), .int .u32 0, .int .i64 0, .int .u32 0, .bool false]) (by simp [results, Tryz.results10, go_sem]) rfl ⟨by simp [mvOnly, onlyV, str], HB.out _ _ _⟩
    · have e7 : (k == 7) = false := by simpa using h7
      by_cases h5 : k = 5
      · subst h5
        go_enter Tryz.func10, Tryz.ntmps10
        go_wp2
        refine bodyPost_ret (v := .agg #[.int .i64 5, .int .u32 (p : Int), .int .i64 0, .slice A n c, .string ⟨#[]⟩, .int .u32 0, .int .i64 0, .int .u32 0, .bool false]) (by simp [results, Tryz.results10, go_sem]) rfl ⟨by simp [mvOnly, onlyV, str], HB.out _ _ _⟩
      · have e5 : (k == 5) = false := by simpa using h5
        by_cases h8 : k = 8
        · subst h8
          go_enter Tryz.func10, Tryz.ntmps10
          go_wp2
          refine bodyPost_ret (v := .agg #[.int .i64 8, .int .u32 (p : Int), .int .i64 nn, .slice none 0 0, .string ⟨#[]⟩, .int .u32 0, .int .i64 0, .int .u32 0, .bool false]) (by simp [results, Tryz.results10, go_sem]) rfl ⟨by simp [mvOnly, onlyV, str], HB.out _ _ _⟩
        · have e8 : (k == 8) = false := by simpa using h8
          by_cases h9 : k = 9
          · subst h9
            go_enter Tryz.func10, Tryz.ntmps10
            go_wp2
            refine bodyPost_ret (v := .agg #[.int .i64 9, .int .u32 (p : Int), .int .i64 0, .slice none 0 0, .string ⟨#[]⟩, .int .u32 (oa : Int), .int .i64 oh, .int .u32 (oi : Int), .bool fo]) (by simp [results, Tryz.results10, go_sem]) rfl ⟨by simp [mvOnly, onlyV, str], HB.out _ _ _⟩
          · have e9 : (k == 9) = false := by simpa using h9
            by_cases hlo : k < 1
            · have d1 : decide (k < 1) = true := decide_eq_true hlo
              have HEq : Hid (mvOnly ⟨k, p, nn, b, t, oa, oh, oi, fo⟩ = mv0) := hide (by unfold mvOnly; rw [if_pos (.inl hlo)])
              have HV : Hid (onlyV ⟨k, p, nn, b, t, oa, oh, oi, fo⟩ (.slice A n c) = .slice none 0 0) := hide (by unfold onlyV; rw [if_neg h5])
              clear h5 h6 h7 h8 h9 hlo
              go_enter Tryz.func10, Tryz.ntmps10
              go_wp2
              refine bodyPost_ret (v := .agg #[.int .i64 0, .int .u32 0, .int .i64 0, .slice none 0 0, .string ⟨#[]⟩, .int .u32 0, .int .i64 0, .int .u32 0, .bool false]) (by simp [results, Tryz.results10, go_sem]) rfl ⟨by rw [HEq.out, HV.out]; rfl, HB.out _ _ _⟩
            · have d1 : decide (k < 1) = false := decide_eq_false hlo
              by_cases hhi : 10 < k
              · have d2 : decide (10 < k) = true := decide_eq_true hhi
                have HEq : Hid (mvOnly ⟨k, p, nn, b, t, oa, oh, oi, fo⟩ = mv0) := hide (by unfold mvOnly; rw [if_pos (.inr hhi)])
                have HV : Hid (onlyV ⟨k, p, nn, b, t, oa, oh, oi, fo⟩ (.slice A n c) = .slice none 0 0) := hide (by unfold onlyV; rw [if_neg h5])
                clear h5 h6 h7 h8 h9 hlo hhi
                go_enter Tryz.func10, Tryz.ntmps10
                go_wp2
                refine bodyPost_ret (v := .agg #[.int .i64 0, .int .u32 0, .int .i64 0, .slice none 0 0, .string ⟨#[]⟩, .int .u32 0, .int .i64 0, .int .u32 0, .bool false]) (by simp [results, Tryz.results10, go_sem]) rfl ⟨by rw [HEq.out, HV.out]; rfl, HB.out _ _ _⟩
              · have d2 : decide (10 < k) = false := decide_eq_false hhi
                have HEq : Hid (mvOnly ⟨k, p, nn, b, t, oa, oh, oi, fo⟩ = ⟨k, p, 0, [], [], 0, 0, 0, false⟩) := hide (by unfold mvOnly; rw [if_neg (by simp only; omega)]; simp [h5, h6, h7, h8, h9])
                have HV : Hid (onlyV ⟨k, p, nn, b, t, oa, oh, oi, fo⟩ (.slice A n c) = .slice none 0 0) := hide (by unfold onlyV; rw [if_neg h5])
                clear h5 h6 h7 h8 h9 hlo hhi
                go_enter Tryz.func10, Tryz.ntmps10
                go_wp2
                refine bodyPost_ret (v := .agg #[.int .i64 k, .int .u32 (p : Int), .int .i64 0, .slice none 0 0, .string ⟨#[]⟩, .int .u32 0, .int .i64 0, .int .u32 0, .bool false]) (by simp [results, Tryz.results10, go_sem]) rfl ⟨by rw [HEq.out, HV.out]; rfl, HB.out _ _ _⟩
set_option maxRecDepth 100000 in
set_option maxHeartbeats 4000000 in
theorem rsame_eq (m : MV) (A B : Option Addr) (n c q d : Nat) (w : World) (hA : LstAt 1 byR w A n c m.b) (hB : LstAt 1 byR w B q d m.b) :
    Calls Tryz.prog 9 #[mvV m (.slice A n c), mvV m (.slice B q d)] w fun e w' => e = .returned (.bool true) ∧ Below w.heap.size w w' := by
  obtain ⟨k, p, nn, b, t, oa, oh, oi, fo⟩ := m
  simp only at hA hB
  have hbl : Below w.heap.size w ((w.alloc (.cells #[.int .i64 k, .int .u32 (p : Int), .int .i64 nn, .slice A n c, .string (str t), .int .u32 (oa : Int), .int .i64 oh, .int .u32 (oi : Int), .bool fo] 32)).alloc (.cells #[.int .i64 k, .int .u32 (p : Int), .int .i64 nn, .slice B q d, .string (str t), .int .u32 (oa : Int), .int .i64 oh, .int .u32 (oi : Int), .bool fo] 32)) := ((Below.refl _ w).alloc (Nat.le_refl _) _).alloc (by simp) _
  have hcA := conv_by (hA.below byMono hbl)
  have hcB := conv_by (hB.below byMono hbl)
  obtain ⟨S, hS⟩ : ∃ S, str b = S := ⟨_, rfl⟩
  rw [hS] at hcA hcB
  have HB := hide hbl
  clear hA hB hbl hS
  unfold mvV
  simp only
  go_enter Tryz.func9, Tryz.ntmps9
  go_wp2
  go_ret
  exact ⟨by simp, HB.out⟩
end Go.Proofs.YtlfknndpbejbcaaGreatDoor
set_option linter.unusedSimpArgs false
set_option linter.unusedVariables false
namespace Go.Proofs.YtlfknndpbejbcaaGreatDoor
open Go.RowKit Go.WideShapes Go.ChangeShapes Go.ChangeAt
attribute [local go_sem] Oper.semAt_some
theorem textsM_app (a b : List MV) : textsM (a ++ b) = textsM a ++ textsM b := by
  unfold textsM feedT
  rw [List.flatMap_append, List.flatMap_append]
theorem textsM_take (l : List MV) (j : Nat) : (textsM (l.take j)).length ≤ (textsM l).length := by
  conv => rhs; rw [← List.take_append_drop j l]
  rw [textsM_app, List.length_append]; omega
theorem rd_text {s : List UInt8} {out : List MV} (h : RdTo (linesM s) (linesM s).length out) (hr : restM s = []) : textsM out = s := by
  have h1 := h.sound.1
  rw [List.take_length] at h1
  unfold textsM
  rw [h1]
  have h2 := feed_all s
  have e2 : (pieces 10 s).getLast (pieces_ne 10 s) = restM s := rfl
  rw [e2, hr, List.append_nil] at h2
  exact h2
theorem rd_ahead {s : List UInt8} {i : Nat} {out : List MV} (h : RdTo (linesM s) i out) : feedT ((linesM s).take i) = textsM out := by
  unfold textsM
  rw [h.sound.1]
theorem read_no {ls : List (List UInt8)} (h10 : ∀ p ∈ ls, (10 : UInt8) ∉ p) {q : Nat} (hq : 0 < (ls.take q).length) (hn : nextP ls = none) {e : Ending} {w' : World} (hr : ReadR (feedT (ls.take q)) w' e) :
    ∃ (z : Int) (y : Int), e = .returned (.tuple #[.slice none 0 0, .int .i64 z, .int .i64 y]) ∧ (y == 0) = false := by
  have hp := pieces_feed (ls.take q) (fun p hp => h10 p (List.mem_of_mem_take hp))
  have hl : linesM (feedT (ls.take q)) = ls.take q := by unfold linesM; rw [hp, List.dropLast_concat]
  cases hr with
  | bad _ _ => exact ⟨_, _, rfl, rfl⟩
  | long _ _ _ => exact ⟨_, _, rfl, rfl⟩
  | @ok out A n c h1 _ _ _ _ =>
    exfalso
    rw [hl] at h1
    have hs := h1.sound.1
    rw [List.take_length] at hs
    cases out with
    | nil => rw [← hs] at hq; simp at hq
    | cons m r =>
      obtain ⟨g1, o1, k1⟩ := h1.full m (by simp)
      have h3 : ls = shownM m ++ (r.flatMap shownM ++ ls.drop q) := by
        conv => lhs; rw [← List.take_append_drop q ls]
        rw [← hs, List.flatMap_cons, List.append_assoc]
      rw [h3, nextP_shown k1 g1] at hn
      cases hn
set_option maxRecDepth 100000 in
set_option maxHeartbeats 16000000 in
theorem scriptReads_any (S : ByteArray) (hs : S.size ≤ maxLen) (w : World) (he : Env w) (ht : SpTab w) : Calls Tryz.prog 3 #[.string S] w (GoodP true w) := by
  obtain ⟨s0, hs0, hS0⟩ : ∃ s0 : List UInt8, s0.length ≤ 600 ∧ (if 600 < S.size then S.extract 0 600 else S) = str s0 := by
    by_cases h : 600 < S.size
    · exact ⟨S.data.toList.take 600, by rw [List.length_take]; omega, by rw [if_pos h, cut_str S 600 h]⟩
    · refine ⟨S.data.toList, ?_, by rw [if_neg h]; exact str_of S⟩
      have : S.data.toList.length = S.size := by rw [Array.length_toList]; rfl
      omega
  have HRd := hide (sread_any s0 (by omega) w he ht)
  have HEn := hide he
  have HTb := hide ht
  have HS0l := hide hs0
  have HLi := hide (fun W => rlines_any s0 (by omega) W)
  have HLen : Hid ((linesM s0).length ≤ 600) := hide (by have := linesM_len s0; omega)
  clear he ht
  by_cases hS : 600 < S.size
  · have HS : Hid (S.extract 0 600 = str s0) := hide (by rw [if_pos hS] at hS0; exact hS0)
    obtain ⟨T, hT⟩ : ∃ T, str s0 = T := ⟨_, rfl⟩
    rw [hT] at HRd HLi HS
    have HT := hide hT
    have hTs : T.size ≤ 600 := by rw [← hT, str_size]; exact hs0
    have hq1 : (600 : Int) ≤ (S.size : Int) := by omega
    have HSx := HS.out
    clear hS0 hT hs0
    go_enter Tryz.func3, Tryz.ntmps3
    go_wp2_with fail
    try rw [HS.out]
    clear HSx
    refine HRd.out.mono ?_
    rintro e w1 ⟨hr, hb⟩
    have HB1 := hide hb
    clear hb
    cases hr with
    | long h1 _ h3 =>
      exfalso
      have h4 := h1.len
      have h5 := HLen.out
      omega
    | @ok out A n c hrd hrest hlen hn hlst =>
      have HTx : Hid (textsM out = s0) := hide (rd_text hrd hrest)
      have HFull := hide hrd.full
      have HN := hide hn
      have HL := hide hlst
      have hn5 : n ≤ 5000 := by omega
      have hnc := hlst.2.1
      have hmx := hlst.2.2.1
      unfold maxLen at hmx
      clear hrd hrest hlen hn hlst
      go_wp2
      go_loopw [6, 7] (fun sv iv wr => ∃ j : Nat, j ≤ n ∧ iv = .int .i64 (j : Nat) ∧ sv = .string (str (textsM (out.take j))) ∧ Below w1.heap.size w1 wr) (fun _ iv _ => n - (intOf iv).toNat)
      case atStart => exact ⟨0, Nat.zero_le _, rfl, rfl, Below.refl _ _⟩
      case round =>
        obtain ⟨j, hj, rfl, rfl, hbel⟩ := hrel
        have HB := hide hbel
        have hsz : (str (textsM (out.take j))).size ≤ 600 := by
          rw [str_size]
          have h1 := textsM_take out j
          rw [HTx.out] at h1
          have h2 := HS0l.out
          omega
        by_cases hlt : j < n
        · obtain ⟨g, o, M, vs, rfl, hg, hx, _, ⟨A1, n1, c1, rfl, hby⟩, hc⟩ := (HL.out.below mvMono hbel).at_ hlt
          have hM := HFull.out M (List.mem_of_getElem? hx)
          have HX := hide hx
          have hMt : M.t.length ≤ 9223372036854775807 := by
            have h1 := hM.1
            unfold mvGood at h1
            have h2 : textsM (out.take (j + 1)) = textsM (out.take j) ++ feedT (shownM M) := by rw [List.take_add_one, hx, Option.toList_some, textsM_snoc]
            by_cases h7 : M.k = 7
            · rw [h7] at h1; simp at h1; omega
            · have h3 : M.t = [] := by
                have h4 := congrArg MV.t hM.2.1
                unfold mvOnly at h4
                split at h4
                · exact h4.symm
                · simp only [h7, if_false] at h4; exact h4.symm
              rw [h3]; simp
          have hMb : M.k ≠ 5 → M.b = [] := fun h5 => by
            have h4 := congrArg MV.b hM.2.1
            unfold mvOnly at h4
            split at h4
            · exact h4.symm
            · simp only [h5, if_false] at h4; exact h4.symm
          have HMb := hide hMb
          have hFs : (feedT (shownM M)).length ≤ 600 := by
            have h2 : textsM (out.take (j + 1)) = textsM (out.take j) ++ feedT (shownM M) := by rw [List.take_add_one, hx, Option.toList_some, textsM_snoc]
            have h1 := textsM_take out (j + 1)
            rw [h2, HTx.out, List.length_append] at h1
            have h3 := HS0l.out
            omega
          have HFs : Hid ((str (feedT (shownM M))).size ≤ 600) := hide (by rw [str_size]; exact hFs)
          obtain ⟨⟨k, p, nn, b, t, oa, oh, oi, fo⟩, hMM⟩ : ∃ M', M = M' := ⟨_, rfl⟩
          subst hMM
          have HFu := hide hM
          have HTl := hide hMt
          have HBl := hide hby
          obtain ⟨A2, n2, c2, hov, hov2⟩ : ∃ A2 n2 c2, onlyV ⟨k, p, nn, b, t, oa, oh, oi, fo⟩ (.slice A1 n1 c1) = .slice A2 n2 c2 ∧ LstAt 1 byR wr A2 n2 c2 b := by
            by_cases h5 : k = 5
            · exact ⟨A1, n1, c1, by unfold onlyV; rw [if_pos h5], hby⟩
            · refine ⟨none, 0, 0, by unfold onlyV; rw [if_neg h5], ?_⟩
              have := HMb.out h5
              simp only at this
              rw [this]; exact LstAt.none_
          have HOn : Hid (mvV (mvOnly ⟨k, p, nn, b, t, oa, oh, oi, fo⟩) (onlyV ⟨k, p, nn, b, t, oa, oh, oi, fo⟩ (.slice A1 n1 c1)) = mvV ⟨k, p, nn, b, t, oa, oh, oi, fo⟩ (.slice A2 n2 c2)) := hide (by rw [HFu.out.2.1, hov])
          have HB2l := hide hov2
          have k0 : wr.cell? ⟨g, o + j * 9, none⟩ = some (.int .i64 k) := hc 0 _ rfl
          have HK0 := hide k0
          have k1 : wr.cell? ⟨g, o + j * 9 + 1, none⟩ = some (.int .u32 (p : Int)) := hc 1 _ rfl
          have HK1 := hide k1
          have k2 : wr.cell? ⟨g, o + j * 9 + 2, none⟩ = some (.int .i64 nn) := hc 2 _ rfl
          have HK2 := hide k2
          have k3 : wr.cell? ⟨g, o + j * 9 + 3, none⟩ = some (.slice A1 n1 c1) := hc 3 _ rfl
          have HK3 := hide k3
          have k4 : wr.cell? ⟨g, o + j * 9 + 4, none⟩ = some (.string (str t)) := hc 4 _ rfl
          have HK4 := hide k4
          have k5 : wr.cell? ⟨g, o + j * 9 + 5, none⟩ = some (.int .u32 (oa : Int)) := hc 5 _ rfl
          have HK5 := hide k5
          have k6 : wr.cell? ⟨g, o + j * 9 + 6, none⟩ = some (.int .i64 oh) := hc 6 _ rfl
          have HK6 := hide k6
          have k7 : wr.cell? ⟨g, o + j * 9 + 7, none⟩ = some (.int .u32 (oi : Int)) := hc 7 _ rfl
          have HK7 := hide k7
          have k8 : wr.cell? ⟨g, o + j * 9 + 8, none⟩ = some (.bool fo) := hc 8 _ rfl
          have HK8 := hide k8
          have HRt := hide (fun W (hb : Below wr.heap.size wr W) => rtext_any ⟨k, p, nn, b, t, oa, oh, oi, fo⟩ A1 n1 c1 W (HBl.out.below byMono hb) HFu.out.2.2 HFu.out.1)
          have HJ : Hid (str (textsM (out.take j)) ++ str (feedT (shownM ⟨k, p, nn, b, t, oa, oh, oi, fo⟩)) = str (textsM (out.take (j + 1)))) := hide (by
            rw [cat_str, List.take_add_one, HX.out, Option.toList_some, textsM_snoc])
          obtain ⟨FS, hFS⟩ : ∃ FS, str (feedT (shownM ⟨k, p, nn, b, t, oa, oh, oi, fo⟩)) = FS := ⟨_, rfl⟩
          rw [hFS] at HRt HJ HFs
          obtain ⟨TS, hTS⟩ : ∃ TS, str (textsM (out.take j)) = TS := ⟨_, rfl⟩
          rw [hTS] at HJ hsz ⊢
          have q0 : (0 : Int) ≤ (j : Int) := by omega
          have q1 : (j : Int) < (n : Int) := by omega
          have hFS2 := HFs.out
          clear hx hby hc hM hMt hMb hFs hov hov2 hbel hFS hTS
          go_wp2
          refine wp_region_rel [(fun v _ => v = .slice (some ⟨g, o, none⟩) n c), (fun v _ => v = .int .i64 (j : Int)), (fun v _ => v = .pointer (some ⟨g, o + j * 9, none⟩)), (fun v _ => v = .agg #[.int .i64 k, .int .u32 (p : Int), .int .i64 nn, .slice A1 n1 c1, .string (str t), .int .u32 (oa : Int), .int .i64 oh, .int .u32 (oi : Int), .bool fo]), (fun v _ => v = .bool true), (fun v _ => v = .bool false), (fun v _ => v = .bool false), (fun v _ => v = .slice (some ⟨g, o, none⟩) n c), (fun v _ => v = .int .i64 (j : Int)), (fun v _ => v = .pointer (some ⟨g, o + j * 9, none⟩)), (fun v _ => v = .agg #[.int .i64 k, .int .u32 (p : Int), .int .i64 nn, .slice A1 n1 c1, .string (str t), .int .u32 (oa : Int), .int .i64 oh, .int .u32 (oi : Int), .bool fo]), (fun v _ => v = .slice (some ⟨g, o, none⟩) n c), (fun v _ => v = .int .i64 (j : Int)), (fun v _ => v = .pointer (some ⟨g, o + j * 9, none⟩)), (fun v _ => v = .agg #[.int .i64 k, .int .u32 (p : Int), .int .i64 nn, .slice A1 n1 c1, .string (str t), .int .u32 (oa : Int), .int .i64 oh, .int .u32 (oi : Int), .bool fo]), (fun v _ => v = .agg #[.int .i64 k, .int .u32 (p : Int), .int .i64 nn, .slice A2 n2 c2, .string (str t), .int .u32 (oa : Int), .int .i64 oh, .int .u32 (oi : Int), .bool fo]), (fun v _ => v = .bool true), (fun v _ => v = .bool false), (fun v _ => v = .bool false)] (by kernel_rfl) (by kernel_rfl) (relMono _ ⟨fun _ _ _ _ h => h, fun _ _ _ _ h => h, fun _ _ _ _ h => h, fun _ _ _ _ h => h, fun _ _ _ _ h => h, fun _ _ _ _ h => h, fun _ _ _ _ h => h, fun _ _ _ _ h => h, fun _ _ _ _ h => h, fun _ _ _ _ h => h, fun _ _ _ _ h => h, fun _ _ _ _ h => h, fun _ _ _ _ h => h, fun _ _ _ _ h => h, fun _ _ _ _ h => h, fun _ _ _ _ h => h, fun _ _ _ _ h => h, fun _ _ _ _ h => h, fun _ _ _ _ h => h, trivial⟩) ⟨?_, ?_, ?_, ?_, ?_, ?_, ?_, ?_, ?_, ?_, ?_, ?_, ?_, ?_, ?_, ?_, ?_, ?_, ?_, trivial⟩ ?_
          · refine relStep_plain rfl ?_
            intro Ac w5 hp
            have hb := hp.bel
            have a3 : Ac.eval (.tmp 3) = .slice (some ⟨g, o, none⟩) n c := hp.out 3 (by rfl)
            have hc := evalC Ac; have hf := evalF Ac; have hgl := evalG Ac
            obtain ⟨ρ, hρ⟩ : ∃ ρ, Ac.eval = ρ := ⟨_, rfl⟩
            rw [hρ] at a3 hc hf hgl
            exact relPure hρ (.slice (some ⟨g, o, none⟩) n c) (by simp [go_sem, hc, hf, hgl, ↓IntWalk.iteOmega, a3, *]) rfl
          · refine relStep_plain rfl ?_
            intro Ac w5 hp
            have hb := hp.bel
            have a7 : Ac.eval (.tmp 7) = .int .i64 (j : Int) := hp.out 7 (by rfl)
            have hc := evalC Ac; have hf := evalF Ac; have hgl := evalG Ac
            obtain ⟨ρ, hρ⟩ : ∃ ρ, Ac.eval = ρ := ⟨_, rfl⟩
            rw [hρ] at a7 hc hf hgl
            exact relPure hρ (.int .i64 (j : Int)) (by simp [go_sem, hc, hf, hgl, ↓IntWalk.iteOmega, a7, *]) rfl
          · refine relStep_plain rfl ?_
            intro Ac w5 hp
            have hb := hp.bel
            have a38 : Ac.eval (.tmp 38) = .slice (some ⟨g, o, none⟩) n c := hp.dep 0 (by kernel_rfl)
            have a39 : Ac.eval (.tmp 39) = .int .i64 (j : Int) := hp.dep 1 (by kernel_rfl)
            have hc := evalC Ac; have hf := evalF Ac; have hgl := evalG Ac
            obtain ⟨ρ, hρ⟩ : ∃ ρ, Ac.eval = ρ := ⟨_, rfl⟩
            rw [hρ] at a38 a39 hc hf hgl
            exact relPure hρ (.pointer (some ⟨g, o + j * 9, none⟩)) (by simp [go_sem, hc, hf, hgl, ↓IntWalk.iteOmega, a38, a39, *]) rfl
          · refine relStep_plain rfl ?_
            intro Ac w5 hp
            have hb := hp.bel
            have a40 : Ac.eval (.tmp 40) = .pointer (some ⟨g, o + j * 9, none⟩) := hp.dep 2 (by kernel_rfl)
            have z0 : w5.cell? ⟨g, o + j * 9, none⟩ = some (.int .i64 k) := (hb.cell hg).trans HK0.out
            have z1 : w5.cell? ⟨g, o + j * 9 + 1, none⟩ = some (.int .u32 (p : Int)) := (hb.cell hg).trans HK1.out
            have z2 : w5.cell? ⟨g, o + j * 9 + 2, none⟩ = some (.int .i64 nn) := (hb.cell hg).trans HK2.out
            have z3 : w5.cell? ⟨g, o + j * 9 + 3, none⟩ = some (.slice A1 n1 c1) := (hb.cell hg).trans HK3.out
            have z4 : w5.cell? ⟨g, o + j * 9 + 4, none⟩ = some (.string (str t)) := (hb.cell hg).trans HK4.out
            have z5 : w5.cell? ⟨g, o + j * 9 + 5, none⟩ = some (.int .u32 (oa : Int)) := (hb.cell hg).trans HK5.out
            have z6 : w5.cell? ⟨g, o + j * 9 + 6, none⟩ = some (.int .i64 oh) := (hb.cell hg).trans HK6.out
            have z7 : w5.cell? ⟨g, o + j * 9 + 7, none⟩ = some (.int .u32 (oi : Int)) := (hb.cell hg).trans HK7.out
            have z8 : w5.cell? ⟨g, o + j * 9 + 8, none⟩ = some (.bool fo) := (hb.cell hg).trans HK8.out
            have hc := evalC Ac; have hf := evalF Ac; have hgl := evalG Ac
            obtain ⟨ρ, hρ⟩ : ∃ ρ, Ac.eval = ρ := ⟨_, rfl⟩
            rw [hρ] at a40 hc hf hgl
            exact relPure hρ (.agg #[.int .i64 k, .int .u32 (p : Int), .int .i64 nn, .slice A1 n1 c1, .string (str t), .int .u32 (oa : Int), .int .i64 oh, .int .u32 (oi : Int), .bool fo]) (by simp [go_sem, hc, hf, hgl, ↓IntWalk.iteOmega, a40, *]) rfl
          · refine relStep_plain rfl ?_
            intro Ac w5 hp
            have hb := hp.bel
            have a41 : Ac.eval (.tmp 41) = .agg #[.int .i64 k, .int .u32 (p : Int), .int .i64 nn, .slice A1 n1 c1, .string (str t), .int .u32 (oa : Int), .int .i64 oh, .int .u32 (oi : Int), .bool fo] := hp.dep 3 (by kernel_rfl)
            have hc := evalC Ac; have hf := evalF Ac; have hgl := evalG Ac
            obtain ⟨ρ, hρ⟩ : ∃ ρ, Ac.eval = ρ := ⟨_, rfl⟩
            rw [hρ] at a41 hc hf hgl
            refine relCall hρ 8 #[.agg #[.int .i64 k, .int .u32 (p : Int), .int .i64 nn, .slice A1 n1 c1, .string (str t), .int .u32 (oa : Int), .int .i64 oh, .int .u32 (oi : Int), .bool fo]] (by simp [go_sem, hc, hf, hgl, ↓IntWalk.iteOmega, a41, *]) ?_
            refine (rgood_any ⟨k, p, nn, b, t, oa, oh, oi, fo⟩ A1 n1 c1 w5 HBl.out.1 HTl.out).mono ?_
            rintro e w6 ⟨rfl, hb6⟩
            exact ⟨_, rfl, by rw [HFu.out.1]; rfl, hb6⟩
          · refine relStep_plain rfl ?_
            intro Ac w5 hp
            have hb := hp.bel
            have a42 : Ac.eval (.tmp 42) = .bool true := hp.dep 4 (by kernel_rfl)
            have hc := evalC Ac; have hf := evalF Ac; have hgl := evalG Ac
            obtain ⟨ρ, hρ⟩ : ∃ ρ, Ac.eval = ρ := ⟨_, rfl⟩
            rw [hρ] at a42 hc hf hgl
            exact relPure hρ (.bool false) (by simp [go_sem, hc, hf, hgl, ↓IntWalk.iteOmega, a42, *]) rfl
          · refine relStep_plain rfl ?_
            intro Ac w5 hp
            have hb := hp.bel
            have a43 : Ac.eval (.tmp 43) = .bool false := hp.dep 5 (by kernel_rfl)
            have hc := evalC Ac; have hf := evalF Ac; have hgl := evalG Ac
            obtain ⟨ρ, hρ⟩ : ∃ ρ, Ac.eval = ρ := ⟨_, rfl⟩
            rw [hρ] at a43 hc hf hgl
            exact relPure hρ (.bool false) (by simp [go_sem, hc, hf, hgl, ↓IntWalk.iteOmega, a43, *]) rfl
          · refine relStep_guard (g := 6) (b := false) (x := false) rfl (by kernel_rfl) rfl (by kernel_rfl) rfl (fun _ _ h => h) ?_
            intro Ac w5 hp
            have hb := hp.bel
            have a3 : Ac.eval (.tmp 3) = .slice (some ⟨g, o, none⟩) n c := hp.out 3 (by rfl)
            have hc := evalC Ac; have hf := evalF Ac; have hgl := evalG Ac
            obtain ⟨ρ, hρ⟩ : ∃ ρ, Ac.eval = ρ := ⟨_, rfl⟩
            rw [hρ] at a3 hc hf hgl
            exact relPure hρ (.slice (some ⟨g, o, none⟩) n c) (by simp [go_sem, hc, hf, hgl, ↓IntWalk.iteOmega, a3, *]) rfl
          · refine relStep_guard (g := 6) (b := false) (x := false) rfl (by kernel_rfl) rfl (by kernel_rfl) rfl (fun _ _ h => h) ?_
            intro Ac w5 hp
            have hb := hp.bel
            have a7 : Ac.eval (.tmp 7) = .int .i64 (j : Int) := hp.out 7 (by rfl)
            have hc := evalC Ac; have hf := evalF Ac; have hgl := evalG Ac
            obtain ⟨ρ, hρ⟩ : ∃ ρ, Ac.eval = ρ := ⟨_, rfl⟩
            rw [hρ] at a7 hc hf hgl
            exact relPure hρ (.int .i64 (j : Int)) (by simp [go_sem, hc, hf, hgl, ↓IntWalk.iteOmega, a7, *]) rfl
          · refine relStep_guard (g := 6) (b := false) (x := false) rfl (by kernel_rfl) rfl (by kernel_rfl) rfl (fun _ _ h => h) ?_
            intro Ac w5 hp
            have hb := hp.bel
            have a45 : Ac.eval (.tmp 45) = .slice (some ⟨g, o, none⟩) n c := hp.dep 7 (by kernel_rfl)
            have a46 : Ac.eval (.tmp 46) = .int .i64 (j : Int) := hp.dep 8 (by kernel_rfl)
            have hc := evalC Ac; have hf := evalF Ac; have hgl := evalG Ac
            obtain ⟨ρ, hρ⟩ : ∃ ρ, Ac.eval = ρ := ⟨_, rfl⟩
            rw [hρ] at a45 a46 hc hf hgl
            exact relPure hρ (.pointer (some ⟨g, o + j * 9, none⟩)) (by simp [go_sem, hc, hf, hgl, ↓IntWalk.iteOmega, a45, a46, *]) rfl
          · refine relStep_guard (g := 6) (b := false) (x := false) rfl (by kernel_rfl) rfl (by kernel_rfl) rfl (fun _ _ h => h) ?_
            intro Ac w5 hp
            have hb := hp.bel
            have a47 : Ac.eval (.tmp 47) = .pointer (some ⟨g, o + j * 9, none⟩) := hp.dep 9 (by kernel_rfl)
            have z0 : w5.cell? ⟨g, o + j * 9, none⟩ = some (.int .i64 k) := (hb.cell hg).trans HK0.out
            have z1 : w5.cell? ⟨g, o + j * 9 + 1, none⟩ = some (.int .u32 (p : Int)) := (hb.cell hg).trans HK1.out
            have z2 : w5.cell? ⟨g, o + j * 9 + 2, none⟩ = some (.int .i64 nn) := (hb.cell hg).trans HK2.out
            have z3 : w5.cell? ⟨g, o + j * 9 + 3, none⟩ = some (.slice A1 n1 c1) := (hb.cell hg).trans HK3.out
            have z4 : w5.cell? ⟨g, o + j * 9 + 4, none⟩ = some (.string (str t)) := (hb.cell hg).trans HK4.out
            have z5 : w5.cell? ⟨g, o + j * 9 + 5, none⟩ = some (.int .u32 (oa : Int)) := (hb.cell hg).trans HK5.out
            have z6 : w5.cell? ⟨g, o + j * 9 + 6, none⟩ = some (.int .i64 oh) := (hb.cell hg).trans HK6.out
            have z7 : w5.cell? ⟨g, o + j * 9 + 7, none⟩ = some (.int .u32 (oi : Int)) := (hb.cell hg).trans HK7.out
            have z8 : w5.cell? ⟨g, o + j * 9 + 8, none⟩ = some (.bool fo) := (hb.cell hg).trans HK8.out
            have hc := evalC Ac; have hf := evalF Ac; have hgl := evalG Ac
            obtain ⟨ρ, hρ⟩ : ∃ ρ, Ac.eval = ρ := ⟨_, rfl⟩
            rw [hρ] at a47 hc hf hgl
            exact relPure hρ (.agg #[.int .i64 k, .int .u32 (p : Int), .int .i64 nn, .slice A1 n1 c1, .string (str t), .int .u32 (oa : Int), .int .i64 oh, .int .u32 (oi : Int), .bool fo]) (by simp [go_sem, hc, hf, hgl, ↓IntWalk.iteOmega, a47, *]) rfl
          · refine relStep_guard (g := 6) (b := false) (x := false) rfl (by kernel_rfl) rfl (by kernel_rfl) rfl (fun _ _ h => h) ?_
            intro Ac w5 hp
            have hb := hp.bel
            have a3 : Ac.eval (.tmp 3) = .slice (some ⟨g, o, none⟩) n c := hp.out 3 (by rfl)
            have hc := evalC Ac; have hf := evalF Ac; have hgl := evalG Ac
            obtain ⟨ρ, hρ⟩ : ∃ ρ, Ac.eval = ρ := ⟨_, rfl⟩
            rw [hρ] at a3 hc hf hgl
            exact relPure hρ (.slice (some ⟨g, o, none⟩) n c) (by simp [go_sem, hc, hf, hgl, ↓IntWalk.iteOmega, a3, *]) rfl
          · refine relStep_guard (g := 6) (b := false) (x := false) rfl (by kernel_rfl) rfl (by kernel_rfl) rfl (fun _ _ h => h) ?_
            intro Ac w5 hp
            have hb := hp.bel
            have a7 : Ac.eval (.tmp 7) = .int .i64 (j : Int) := hp.out 7 (by rfl)
            have hc := evalC Ac; have hf := evalF Ac; have hgl := evalG Ac
            obtain ⟨ρ, hρ⟩ : ∃ ρ, Ac.eval = ρ := ⟨_, rfl⟩
            rw [hρ] at a7 hc hf hgl
            exact relPure hρ (.int .i64 (j : Int)) (by simp [go_sem, hc, hf, hgl, ↓IntWalk.iteOmega, a7, *]) rfl
          · refine relStep_guard (g := 6) (b := false) (x := false) rfl (by kernel_rfl) rfl (by kernel_rfl) rfl (fun _ _ h => h) ?_
            intro Ac w5 hp
            have hb := hp.bel
            have a49 : Ac.eval (.tmp 49) = .slice (some ⟨g, o, none⟩) n c := hp.dep 11 (by kernel_rfl)
            have a50 : Ac.eval (.tmp 50) = .int .i64 (j : Int) := hp.dep 12 (by kernel_rfl)
            have hc := evalC Ac; have hf := evalF Ac; have hgl := evalG Ac
            obtain ⟨ρ, hρ⟩ : ∃ ρ, Ac.eval = ρ := ⟨_, rfl⟩
            rw [hρ] at a49 a50 hc hf hgl
            exact relPure hρ (.pointer (some ⟨g, o + j * 9, none⟩)) (by simp [go_sem, hc, hf, hgl, ↓IntWalk.iteOmega, a49, a50, *]) rfl
          · refine relStep_guard (g := 6) (b := false) (x := false) rfl (by kernel_rfl) rfl (by kernel_rfl) rfl (fun _ _ h => h) ?_
            intro Ac w5 hp
            have hb := hp.bel
            have a51 : Ac.eval (.tmp 51) = .pointer (some ⟨g, o + j * 9, none⟩) := hp.dep 13 (by kernel_rfl)
            have z0 : w5.cell? ⟨g, o + j * 9, none⟩ = some (.int .i64 k) := (hb.cell hg).trans HK0.out
            have z1 : w5.cell? ⟨g, o + j * 9 + 1, none⟩ = some (.int .u32 (p : Int)) := (hb.cell hg).trans HK1.out
            have z2 : w5.cell? ⟨g, o + j * 9 + 2, none⟩ = some (.int .i64 nn) := (hb.cell hg).trans HK2.out
            have z3 : w5.cell? ⟨g, o + j * 9 + 3, none⟩ = some (.slice A1 n1 c1) := (hb.cell hg).trans HK3.out
            have z4 : w5.cell? ⟨g, o + j * 9 + 4, none⟩ = some (.string (str t)) := (hb.cell hg).trans HK4.out
            have z5 : w5.cell? ⟨g, o + j * 9 + 5, none⟩ = some (.int .u32 (oa : Int)) := (hb.cell hg).trans HK5.out
            have z6 : w5.cell? ⟨g, o + j * 9 + 6, none⟩ = some (.int .i64 oh) := (hb.cell hg).trans HK6.out
            have z7 : w5.cell? ⟨g, o + j * 9 + 7, none⟩ = some (.int .u32 (oi : Int)) := (hb.cell hg).trans HK7.out
            have z8 : w5.cell? ⟨g, o + j * 9 + 8, none⟩ = some (.bool fo) := (hb.cell hg).trans HK8.out
            have hc := evalC Ac; have hf := evalF Ac; have hgl := evalG Ac
            obtain ⟨ρ, hρ⟩ : ∃ ρ, Ac.eval = ρ := ⟨_, rfl⟩
            rw [hρ] at a51 hc hf hgl
            exact relPure hρ (.agg #[.int .i64 k, .int .u32 (p : Int), .int .i64 nn, .slice A1 n1 c1, .string (str t), .int .u32 (oa : Int), .int .i64 oh, .int .u32 (oi : Int), .bool fo]) (by simp [go_sem, hc, hf, hgl, ↓IntWalk.iteOmega, a51, *]) rfl
          · refine relStep_guard (g := 6) (b := false) (x := false) rfl (by kernel_rfl) rfl (by kernel_rfl) rfl (fun _ _ h => h) ?_
            intro Ac w5 hp
            have hb := hp.bel
            have a52 : Ac.eval (.tmp 52) = .agg #[.int .i64 k, .int .u32 (p : Int), .int .i64 nn, .slice A1 n1 c1, .string (str t), .int .u32 (oa : Int), .int .i64 oh, .int .u32 (oi : Int), .bool fo] := hp.dep 14 (by kernel_rfl)
            have hc := evalC Ac; have hf := evalF Ac; have hgl := evalG Ac
            obtain ⟨ρ, hρ⟩ : ∃ ρ, Ac.eval = ρ := ⟨_, rfl⟩
            rw [hρ] at a52 hc hf hgl
            refine relCall hρ 10 #[.agg #[.int .i64 k, .int .u32 (p : Int), .int .i64 nn, .slice A1 n1 c1, .string (str t), .int .u32 (oa : Int), .int .i64 oh, .int .u32 (oi : Int), .bool fo]] (by simp [go_sem, hc, hf, hgl, ↓IntWalk.iteOmega, a52, *]) ?_
            refine (ronly_any ⟨k, p, nn, b, t, oa, oh, oi, fo⟩ A1 n1 c1 w5).mono ?_
            rintro e w6 ⟨rfl, hb6⟩
            exact ⟨_, rfl, by rw [HOn.out]; rfl, hb6⟩
          · refine relStep_guard (g := 6) (b := false) (x := false) rfl (by kernel_rfl) rfl (by kernel_rfl) rfl (fun _ _ h => h) ?_
            intro Ac w5 hp
            have hb := hp.bel
            have a48 : Ac.eval (.tmp 48) = .agg #[.int .i64 k, .int .u32 (p : Int), .int .i64 nn, .slice A1 n1 c1, .string (str t), .int .u32 (oa : Int), .int .i64 oh, .int .u32 (oi : Int), .bool fo] := hp.dep 10 (by kernel_rfl)
            have a53 : Ac.eval (.tmp 53) = .agg #[.int .i64 k, .int .u32 (p : Int), .int .i64 nn, .slice A2 n2 c2, .string (str t), .int .u32 (oa : Int), .int .i64 oh, .int .u32 (oi : Int), .bool fo] := hp.dep 15 (by kernel_rfl)
            have hc := evalC Ac; have hf := evalF Ac; have hgl := evalG Ac
            obtain ⟨ρ, hρ⟩ : ∃ ρ, Ac.eval = ρ := ⟨_, rfl⟩
            rw [hρ] at a48 a53 hc hf hgl
            refine relCall hρ 9 #[.agg #[.int .i64 k, .int .u32 (p : Int), .int .i64 nn, .slice A1 n1 c1, .string (str t), .int .u32 (oa : Int), .int .i64 oh, .int .u32 (oi : Int), .bool fo], .agg #[.int .i64 k, .int .u32 (p : Int), .int .i64 nn, .slice A2 n2 c2, .string (str t), .int .u32 (oa : Int), .int .i64 oh, .int .u32 (oi : Int), .bool fo]] (by simp [go_sem, hc, hf, hgl, ↓IntWalk.iteOmega, a48, a53, *]) ?_
            refine (rsame_eq ⟨k, p, nn, b, t, oa, oh, oi, fo⟩ A1 A2 n1 c1 n2 c2 w5 (HBl.out.below byMono hb) (HB2l.out.below byMono hb)).mono ?_
            rintro e w6 ⟨rfl, hb6⟩
            exact ⟨_, rfl, rfl, hb6⟩
          · refine relStep_guard (g := 6) (b := false) (x := false) rfl (by kernel_rfl) rfl (by kernel_rfl) rfl (fun _ _ h => h) ?_
            intro Ac w5 hp
            have hb := hp.bel
            have a54 : Ac.eval (.tmp 54) = .bool true := hp.dep 16 (by kernel_rfl)
            have hc := evalC Ac; have hf := evalF Ac; have hgl := evalG Ac
            obtain ⟨ρ, hρ⟩ : ∃ ρ, Ac.eval = ρ := ⟨_, rfl⟩
            rw [hρ] at a54 hc hf hgl
            exact relPure hρ (.bool false) (by simp [go_sem, hc, hf, hgl, ↓IntWalk.iteOmega, a54, *]) rfl
          · refine relStep_plain rfl ?_
            intro Ac w5 hp
            have hb := hp.bel
            have a44 : Ac.eval (.tmp 44) = .bool false := hp.dep 6 (by kernel_rfl)
            have a55 : Ac.eval (.tmp 55) = .bool false := hp.dep 17 (by kernel_rfl)
            have hc := evalC Ac; have hf := evalF Ac; have hgl := evalG Ac
            obtain ⟨ρ, hρ⟩ : ∃ ρ, Ac.eval = ρ := ⟨_, rfl⟩
            rw [hρ] at a44 a55 hc hf hgl
            exact relPure hρ (.bool false) (by simp [go_sem, hc, hf, hgl, ↓IntWalk.iteOmega, a44, a55, *]) rfl
          intro u w8 hb7 hall
          have e56 : u 18 = .bool false := relAll_at hall (i := 18) (by decide +kernel)
          clear hall
          simp only [List.drop_succ_cons, List.drop_zero, List.take_succ_cons, List.take_zero, putAll, Act.put, List.setIfInBounds_toArray, List.set_cons_zero, List.set_cons_succ, Nat.zero_add, Nat.reduceAdd, e56]
          have HB8 := hide (HB.out.trans (hb7.mono HB.out.size))
          have hg8 : g < w8.heap.size := Nat.lt_of_lt_of_le hg hb7.size
          have d0 : w8.cell? ⟨g, o + j * 9, none⟩ = some (.int .i64 k) := (hb7.cell hg).trans HK0.out
          have d1 : w8.cell? ⟨g, o + j * 9 + 1, none⟩ = some (.int .u32 (p : Int)) := (hb7.cell hg).trans HK1.out
          have d2 : w8.cell? ⟨g, o + j * 9 + 2, none⟩ = some (.int .i64 nn) := (hb7.cell hg).trans HK2.out
          have d3 : w8.cell? ⟨g, o + j * 9 + 3, none⟩ = some (.slice A1 n1 c1) := (hb7.cell hg).trans HK3.out
          have d4 : w8.cell? ⟨g, o + j * 9 + 4, none⟩ = some (.string (str t)) := (hb7.cell hg).trans HK4.out
          have d5 : w8.cell? ⟨g, o + j * 9 + 5, none⟩ = some (.int .u32 (oa : Int)) := (hb7.cell hg).trans HK5.out
          have d6 : w8.cell? ⟨g, o + j * 9 + 6, none⟩ = some (.int .i64 oh) := (hb7.cell hg).trans HK6.out
          have d7 : w8.cell? ⟨g, o + j * 9 + 7, none⟩ = some (.int .u32 (oi : Int)) := (hb7.cell hg).trans HK7.out
          have d8 : w8.cell? ⟨g, o + j * 9 + 8, none⟩ = some (.bool fo) := (hb7.cell hg).trans HK8.out
          have HRt8 := hide (HRt.out w8 hb7)
          clear hb7 k0 k1 k2 k3 k4 k5 k6 k7 k8
          go_wp2_with fail
          refine HRt8.out.mono ?_
          rintro e w9 ⟨rfl, hb9⟩
          have HB9 := hide (HB8.out.trans (hb9.mono HB8.out.size))
          clear hb9
          go_wp2
          rw [HJ.out]
          go_roundw
          case rel => exact ⟨j + 1, by omega, by go_num, rfl, HB9.out⟩
          case measure => simp [intOf]; omega
        · obtain rfl : j = n := by omega
          have hall : out.take j = out := List.take_of_length_le (by rw [HN.out]; exact Nat.le_refl _)
          rw [hall, HTx.out, HT.out]
          have HBw := hide (HB1.out.trans (hbel.mono HB1.out.size))
          clear hall hbel hsz
          go_wp2_with fail
          refine (slives_any wr (HEn.out.below HBw.out) (HTb.out.below HBw.out)).mono ?_
          rintro e w9 ⟨rfl, hb9⟩
          have HB9 := hide (HBw.out.trans (hb9.mono HBw.out.size))
          clear hb9
          go_wp2
          go_ret
          exact ⟨rfl, HB9.out⟩
    | @bad i out hrd hcase =>
      have HAh : Hid (feedT ((linesM s0).take i) = textsM out) := hide (rd_ahead hrd)
      have HFull := hide hrd.full
      have hil := hrd.le
      have hol := hrd.len
      have HLens : Hid (∀ x ∈ linesM s0, x.length ≤ 600) := hide (fun x hx => by have h1 := linesM_each s0 x hx; have h2 := HS0l.out; omega)
      have HFd : Hid ((feedT (linesM s0)).length ≤ 600) := hide (by have h1 := linesM_feed s0; have h2 := HS0l.out; omega)
      have H10 : Hid (∀ p ∈ linesM s0, (10 : UInt8) ∉ p) := hide (fun p hp => pieces_no10 s0 p (List.dropLast_subset _ hp))
      have HCase : Hid (i < (linesM s0).length → nextP ((linesM s0).drop i) = none) := hide (fun h => by
        rcases hcase with ⟨_, h2⟩ | ⟨h2, _⟩
        · exact h2
        · omega)
      obtain ⟨Ls, hLs⟩ : ∃ Ls, linesM s0 = Ls := ⟨_, rfl⟩
      rw [hLs] at HAh HLens HFd H10 HCase HLi HLen hil
      obtain ⟨L, hL⟩ : ∃ L, Ls.length = L := ⟨_, rfl⟩
      rw [hL] at HLi HCase HLen hil
      have HLL := hide hL
      have hLb : L ≤ 600 := HLen.out
      have hib : i ≤ 600 := by omega
      have hob : out.length ≤ 5000 := by omega
      have HOb := hide hob
      clear hrd hcase hLs hL hol hob
      have hw1 : IntKind.i64.wrap ((i : Int) + 1 - 1) = (i : Int) := by rw [IntKind.wrap_i64]; omega
      have e1 : decide ((i : Int) + 1 < 1) = false := by simp; omega
      have e2 : decide ((L : Int) + 1 < (i : Int) + 1) = false := by simp; omega
      have hw2 : IntKind.i64.wrap ((L : Int) + 1) = (L : Int) + 1 := by rw [IntKind.wrap_i64]; omega
      go_wp2_with fail
      refine (HLi.out _).mono ?_
      rintro e w2 ⟨A2, n2, c2, rfl, hn2, ho, hb⟩
      subst hn2
      have HS2 := hide (StrsAt.of_own ho (fun x hx => by have := HLens.out x hx; unfold maxLen; omega))
      have HB2 := hide (HB1.out.trans (hb.mono HB1.out.size))
      have hnc2 := HS2.out.2.1
      have hmx2 := HS2.out.2.2.1
      unfold maxLen at hmx2
      clear ho hb
      go_wp2
      go_loopw [9, 11] (fun sv iv wr => ∃ j : Nat, j ≤ i ∧ iv = .int .i64 (j : Nat) ∧ sv = .string (str (feedT (Ls.take j))) ∧ Below w2.heap.size w2 wr) (fun _ iv _ => i - (intOf iv).toNat)
      case atStart => exact ⟨0, Nat.zero_le _, rfl, rfl, Below.refl _ _⟩
      case round =>
        obtain ⟨j, hj, rfl, rfl, hbel⟩ := hrel
        have HB := hide hbel
        have hsz : (str (feedT (Ls.take j))).size ≤ 600 := by
          rw [str_size]
          have h1 := feedT_take Ls j
          have h2 := HFd.out
          omega
        by_cases hlt : j < i
        · obtain ⟨g, o, x, rfl, hg, hx, hxs, hc⟩ := (HS2.out.below rfl hbel).at_ (k := j) (by omega)
          have HX : Hid (∃ y, Ls[j]? = some y ∧ x = str y) := hide (by
            rw [List.getElem?_map, Option.map_eq_some_iff] at hx
            obtain ⟨y, hy, rfl⟩ := hx
            exact ⟨y, hy, rfl⟩)
          have hxz : x.size ≤ 600 := by
            obtain ⟨y, hy, rfl⟩ := HX.out
            rw [str_size]
            exact HLens.out y (List.mem_of_getElem? hy)
          have HJ : Hid (str (feedT (Ls.take j)) ++ x ++ (⟨#[10]⟩ : ByteArray) = str (feedT (Ls.take (j + 1)))) := hide (by
            obtain ⟨y, hy, rfl⟩ := HX.out
            have e10 : (⟨#[10]⟩ : ByteArray) = str [10] := rfl
            rw [e10, cat_str, cat_str, List.take_add_one, hy, Option.toList_some, feedT_snoc, List.append_assoc])
          have hsz2 : (str (feedT (Ls.take j)) ++ x).size ≤ 1200 := by rw [ByteArray.size_append]; omega
          obtain ⟨Q, hQ⟩ : ∃ Q, str (feedT (Ls.take j)) = Q := ⟨_, rfl⟩
          rw [hQ] at HJ hsz hsz2 ⊢
          have q0 : (0 : Int) ≤ (j : Int) := by omega
          have q1 : (j : Int) < (L : Int) := by omega
          have q2 : (j : Int) < (i : Int) := by omega
          clear hx hxs hbel hQ
          go_wp2
          rw [HJ.out]
          go_roundw
          case rel => exact ⟨j + 1, by omega, by go_num, rfl, HB.out⟩
          case measure => simp [intOf]; omega
        · obtain rfl : j = i := by omega
          rw [HAh.out]
          have HBr := hide (HB2.out.trans (hbel.mono HB2.out.size))
          have hTz : (textsM out).length ≤ 600 := by rw [← HAh.out, ← str_size]; exact hsz
          have HRa := hide (sread_any (textsM out) (by omega) wr (HEn.out.below HBr.out) (HTb.out.below HBr.out))
          clear hsz hTz
          obtain ⟨TA, hTA⟩ : ∃ TA, str (textsM out) = TA := ⟨_, rfl⟩
          rw [hTA] at HRa ⊢
          clear hTA
          have HS3 := hide (HS2.out.below rfl hbel)
          clear hbel
          go_wp2_with fail
          refine HRa.out.mono ?_
          rintro e w3 ⟨hr3, hb3⟩
          rcases read_moves (fun m hm => ⟨(HFull.out m hm).1, (HFull.out m hm).2.2⟩) hr3 with ⟨_, A3, n3, c3, rfl, _, _⟩ | ⟨h5, _⟩
          · have HB3 := hide (HBr.out.trans (hb3.mono HBr.out.size))
            have HS4 := hide (HS3.out.below rfl hb3)
            clear hr3 hb3
            go_wp2
            go_loopw [10, 15] (fun sv iv wr => ∃ q : Nat, j + q ≤ L ∧ iv = .int .i64 ((j + q : Nat) : Int) ∧ sv = .string (str (feedT ((Ls.drop j).take q))) ∧ Below w3.heap.size w3 wr) (fun _ iv _ => L - (intOf iv).toNat)
            case atStart => exact ⟨0, by omega, rfl, rfl, Below.refl _ _⟩
            case round =>
              obtain ⟨q, hq, rfl, rfl, hbel⟩ := hrel
              have HB := hide hbel
              have hsz : (str (feedT ((Ls.drop j).take q))).size ≤ 600 := by
                rw [str_size]
                have h1 := feedT_take (Ls.drop j) q
                have h3 := feedT_drop Ls j
                have h2 := HFd.out
                omega
              by_cases hlt : j + q < L
              · obtain ⟨g, o, x, rfl, hg, hx, hxs, hc⟩ := (HS4.out.below rfl hbel).at_ (k := j + q) (by omega)
                have HX : Hid (∃ y, (Ls.drop j)[q]? = some y ∧ x = str y ∧ y ∈ Ls) := hide (by
                  rw [List.getElem?_map, Option.map_eq_some_iff] at hx
                  obtain ⟨y, hy, rfl⟩ := hx
                  exact ⟨y, by rw [List.getElem?_drop]; exact hy, rfl, List.mem_of_getElem? hy⟩)
                have hxz : x.size ≤ 600 := by
                  obtain ⟨y, _, rfl, hy⟩ := HX.out
                  rw [str_size]
                  exact HLens.out y hy
                have HJ : Hid (str (feedT ((Ls.drop j).take q)) ++ x ++ (⟨#[10]⟩ : ByteArray) = str (feedT ((Ls.drop j).take (q + 1)))) := hide (by
                  obtain ⟨y, hy, rfl, _⟩ := HX.out
                  have e10 : (⟨#[10]⟩ : ByteArray) = str [10] := rfl
                  rw [e10, cat_str, cat_str, List.take_add_one, hy, Option.toList_some, feedT_snoc, List.append_assoc])
                have hsz2 : (str (feedT ((Ls.drop j).take q)) ++ x).size ≤ 1200 := by rw [ByteArray.size_append]; omega
                have hRl : (feedT ((Ls.drop j).take (q + 1))).length ≤ 600 := by
                  have h1 := feedT_take (Ls.drop j) (q + 1)
                  have h3 := feedT_drop Ls j
                  have h2 := HFd.out
                  omega
                have HBw := hide (HB3.out.trans (hbel.mono HB3.out.size))
                have HRb := hide (sread_any (feedT ((Ls.drop j).take (q + 1))) (by omega) wr (HEn.out.below HBw.out) (HTb.out.below HBw.out))
                have HNo := hide (fun (e : Ending) (W : World) (hr : ReadR (feedT ((Ls.drop j).take (q + 1))) W e) => read_no (ls := Ls.drop j) (q := q + 1) (fun p hp => H10.out p (List.mem_of_mem_drop hp)) (by rw [List.length_take, List.length_drop]; have := HLL.out; omega) (HCase.out (by omega)) hr)
                obtain ⟨Q, hQ⟩ : ∃ Q, str (feedT ((Ls.drop j).take q)) = Q := ⟨_, rfl⟩
                rw [hQ] at HJ hsz hsz2 ⊢
                obtain ⟨Q2, hQ2⟩ : ∃ Q, str (feedT ((Ls.drop j).take (q + 1))) = Q := ⟨_, rfl⟩
                have HQ2 := hide hQ2
                rw [hQ2] at HJ HRb
                obtain ⟨v, hv⟩ : ∃ v, j + q = v := ⟨_, rfl⟩
                rw [hv] at hc hlt ⊢
                have HV := hide hv
                have q0 : (0 : Int) ≤ (v : Int) := by omega
                have q1 : (v : Int) < (L : Int) := by omega
                clear hx hxs hbel hQ hQ2 hRl hv
                go_wp2_with fail
                rw [HJ.out]
                refine HRb.out.mono ?_
                rintro e w5 ⟨hr5, hb5⟩
                obtain ⟨z, y, rfl, hy⟩ := HNo.out _ _ hr5
                have HB5 := hide (HB.out.trans (hb5.mono HB.out.size))
                clear hr5 hb5
                go_wp2
                go_roundw
                case rel => exact ⟨q + 1, by have := HV.out; omega, by have := HV.out; go_num, by rw [HQ2.out], HB5.out⟩
                case measure => simp [intOf]; omega
              · obtain ⟨v, hv⟩ : ∃ v, j + q = v := ⟨_, rfl⟩
                rw [hv] at hlt ⊢
                have q1 : decide ((v : Int) < (L : Int)) = false := by simp; omega
                have HBw := hide (HB3.out.trans (hbel.mono HB3.out.size))
                clear hv hbel hsz
                go_wp2_with fail
                refine (slives_any wr (HEn.out.below HBw.out) (HTb.out.below HBw.out)).mono ?_
                rintro e w9 ⟨rfl, hb9⟩
                have HB9 := hide (HBw.out.trans (hb9.mono HBw.out.size))
                clear hb9
                go_wp2
                go_ret
                exact ⟨rfl, HB9.out⟩
          · exact absurd HOb.out (by omega)
  · have HS : Hid (S = str s0) := hide (by rw [if_neg hS] at hS0; exact hS0)
    obtain ⟨T, hT⟩ : ∃ T, str s0 = T := ⟨_, rfl⟩
    rw [hT] at HRd HLi HS
    have HT := hide hT
    have hTs : T.size ≤ 600 := by rw [← hT, str_size]; exact hs0
    have hSe := HS.out
    subst hSe
    have eS : decide ((600 : Int) < (S.size : Int)) = false := by simp; omega
    clear hS0 hT hs0 hS hs
    go_enter Tryz.func3, Tryz.ntmps3
    go_wp2_with fail
    refine HRd.out.mono ?_
    rintro e w1 ⟨hr, hb⟩
    have HB1 := hide hb
    clear hb
    cases hr with
    | long h1 _ h3 =>
      exfalso
      have h4 := h1.len
      have h5 := HLen.out
      omega
    | @ok out A n c hrd hrest hlen hn hlst =>
      have HTx : Hid (textsM out = s0) := hide (rd_text hrd hrest)
      have HFull := hide hrd.full
      have HN := hide hn
      have HL := hide hlst
      have hn5 : n ≤ 5000 := by omega
      have hnc := hlst.2.1
      have hmx := hlst.2.2.1
      unfold maxLen at hmx
      clear hrd hrest hlen hn hlst
      go_wp2
      go_loopw [6, 7] (fun sv iv wr => ∃ j : Nat, j ≤ n ∧ iv = .int .i64 (j : Nat) ∧ sv = .string (str (textsM (out.take j))) ∧ Below w1.heap.size w1 wr) (fun _ iv _ => n - (intOf iv).toNat)
      case atStart => exact ⟨0, Nat.zero_le _, rfl, rfl, Below.refl _ _⟩
      case round =>
        obtain ⟨j, hj, rfl, rfl, hbel⟩ := hrel
        have HB := hide hbel
        have hsz : (str (textsM (out.take j))).size ≤ 600 := by
          rw [str_size]
          have h1 := textsM_take out j
          rw [HTx.out] at h1
          have h2 := HS0l.out
          omega
        by_cases hlt : j < n
        · obtain ⟨g, o, M, vs, rfl, hg, hx, _, ⟨A1, n1, c1, rfl, hby⟩, hc⟩ := (HL.out.below mvMono hbel).at_ hlt
          have hM := HFull.out M (List.mem_of_getElem? hx)
          have HX := hide hx
          have hMt : M.t.length ≤ 9223372036854775807 := by
            have h1 := hM.1
            unfold mvGood at h1
            have h2 : textsM (out.take (j + 1)) = textsM (out.take j) ++ feedT (shownM M) := by rw [List.take_add_one, hx, Option.toList_some, textsM_snoc]
            by_cases h7 : M.k = 7
            · rw [h7] at h1; simp at h1; omega
            · have h3 : M.t = [] := by
                have h4 := congrArg MV.t hM.2.1
                unfold mvOnly at h4
                split at h4
                · exact h4.symm
                · simp only [h7, if_false] at h4; exact h4.symm
              rw [h3]; simp
          have hMb : M.k ≠ 5 → M.b = [] := fun h5 => by
            have h4 := congrArg MV.b hM.2.1
            unfold mvOnly at h4
            split at h4
            · exact h4.symm
            · simp only [h5, if_false] at h4; exact h4.symm
          have HMb := hide hMb
          have hFs : (feedT (shownM M)).length ≤ 600 := by
            have h2 : textsM (out.take (j + 1)) = textsM (out.take j) ++ feedT (shownM M) := by rw [List.take_add_one, hx, Option.toList_some, textsM_snoc]
            have h1 := textsM_take out (j + 1)
            rw [h2, HTx.out, List.length_append] at h1
            have h3 := HS0l.out
            omega
          have HFs : Hid ((str (feedT (shownM M))).size ≤ 600) := hide (by rw [str_size]; exact hFs)
          obtain ⟨⟨k, p, nn, b, t, oa, oh, oi, fo⟩, hMM⟩ : ∃ M', M = M' := ⟨_, rfl⟩
          subst hMM
          have HFu := hide hM
          have HTl := hide hMt
          have HBl := hide hby
          obtain ⟨A2, n2, c2, hov, hov2⟩ : ∃ A2 n2 c2, onlyV ⟨k, p, nn, b, t, oa, oh, oi, fo⟩ (.slice A1 n1 c1) = .slice A2 n2 c2 ∧ LstAt 1 byR wr A2 n2 c2 b := by
            by_cases h5 : k = 5
            · exact ⟨A1, n1, c1, by unfold onlyV; rw [if_pos h5], hby⟩
            · refine ⟨none, 0, 0, by unfold onlyV; rw [if_neg h5], ?_⟩
              have := HMb.out h5
              simp only at this
              rw [this]; exact LstAt.none_
          have HOn : Hid (mvV (mvOnly ⟨k, p, nn, b, t, oa, oh, oi, fo⟩) (onlyV ⟨k, p, nn, b, t, oa, oh, oi, fo⟩ (.slice A1 n1 c1)) = mvV ⟨k, p, nn, b, t, oa, oh, oi, fo⟩ (.slice A2 n2 c2)) := hide (by rw [HFu.out.2.1, hov])
          have HB2l := hide hov2
          have k0 : wr.cell? ⟨g, o + j * 9, none⟩ = some (.int .i64 k) := hc 0 _ rfl
          have HK0 := hide k0
          have k1 : wr.cell? ⟨g, o + j * 9 + 1, none⟩ = some (.int .u32 (p : Int)) := hc 1 _ rfl
          have HK1 := hide k1
          have k2 : wr.cell? ⟨g, o + j * 9 + 2, none⟩ = some (.int .i64 nn) := hc 2 _ rfl
          have HK2 := hide k2
          have k3 : wr.cell? ⟨g, o + j * 9 + 3, none⟩ = some (.slice A1 n1 c1) := hc 3 _ rfl
          have HK3 := hide k3
          have k4 : wr.cell? ⟨g, o + j * 9 + 4, none⟩ = some (.string (str t)) := hc 4 _ rfl
          have HK4 := hide k4
          have k5 : wr.cell? ⟨g, o + j * 9 + 5, none⟩ = some (.int .u32 (oa : Int)) := hc 5 _ rfl
          have HK5 := hide k5
          have k6 : wr.cell? ⟨g, o + j * 9 + 6, none⟩ = some (.int .i64 oh) := hc 6 _ rfl
          have HK6 := hide k6
          have k7 : wr.cell? ⟨g, o + j * 9 + 7, none⟩ = some (.int .u32 (oi : Int)) := hc 7 _ rfl
          have HK7 := hide k7
          have k8 : wr.cell? ⟨g, o + j * 9 + 8, none⟩ = some (.bool fo) := hc 8 _ rfl
          have HK8 := hide k8
          have HRt := hide (fun W (hb : Below wr.heap.size wr W) => rtext_any ⟨k, p, nn, b, t, oa, oh, oi, fo⟩ A1 n1 c1 W (HBl.out.below byMono hb) HFu.out.2.2 HFu.out.1)
          have HJ : Hid (str (textsM (out.take j)) ++ str (feedT (shownM ⟨k, p, nn, b, t, oa, oh, oi, fo⟩)) = str (textsM (out.take (j + 1)))) := hide (by
            rw [cat_str, List.take_add_one, HX.out, Option.toList_some, textsM_snoc])
          obtain ⟨FS, hFS⟩ : ∃ FS, str (feedT (shownM ⟨k, p, nn, b, t, oa, oh, oi, fo⟩)) = FS := ⟨_, rfl⟩
          rw [hFS] at HRt HJ HFs
          obtain ⟨TS, hTS⟩ : ∃ TS, str (textsM (out.take j)) = TS := ⟨_, rfl⟩
          rw [hTS] at HJ hsz ⊢
          have q0 : (0 : Int) ≤ (j : Int) := by omega
          have q1 : (j : Int) < (n : Int) := by omega
          have hFS2 := HFs.out
          clear hx hby hc hM hMt hMb hFs hov hov2 hbel hFS hTS
          go_wp2
          refine wp_region_rel [(fun v _ => v = .slice (some ⟨g, o, none⟩) n c), (fun v _ => v = .int .i64 (j : Int)), (fun v _ => v = .pointer (some ⟨g, o + j * 9, none⟩)), (fun v _ => v = .agg #[.int .i64 k, .int .u32 (p : Int), .int .i64 nn, .slice A1 n1 c1, .string (str t), .int .u32 (oa : Int), .int .i64 oh, .int .u32 (oi : Int), .bool fo]), (fun v _ => v = .bool true), (fun v _ => v = .bool false), (fun v _ => v = .bool false), (fun v _ => v = .slice (some ⟨g, o, none⟩) n c), (fun v _ => v = .int .i64 (j : Int)), (fun v _ => v = .pointer (some ⟨g, o + j * 9, none⟩)), (fun v _ => v = .agg #[.int .i64 k, .int .u32 (p : Int), .int .i64 nn, .slice A1 n1 c1, .string (str t), .int .u32 (oa : Int), .int .i64 oh, .int .u32 (oi : Int), .bool fo]), (fun v _ => v = .slice (some ⟨g, o, none⟩) n c), (fun v _ => v = .int .i64 (j : Int)), (fun v _ => v = .pointer (some ⟨g, o + j * 9, none⟩)), (fun v _ => v = .agg #[.int .i64 k, .int .u32 (p : Int), .int .i64 nn, .slice A1 n1 c1, .string (str t), .int .u32 (oa : Int), .int .i64 oh, .int .u32 (oi : Int), .bool fo]), (fun v _ => v = .agg #[.int .i64 k, .int .u32 (p : Int), .int .i64 nn, .slice A2 n2 c2, .string (str t), .int .u32 (oa : Int), .int .i64 oh, .int .u32 (oi : Int), .bool fo]), (fun v _ => v = .bool true), (fun v _ => v = .bool false), (fun v _ => v = .bool false)] (by kernel_rfl) (by kernel_rfl) (relMono _ ⟨fun _ _ _ _ h => h, fun _ _ _ _ h => h, fun _ _ _ _ h => h, fun _ _ _ _ h => h, fun _ _ _ _ h => h, fun _ _ _ _ h => h, fun _ _ _ _ h => h, fun _ _ _ _ h => h, fun _ _ _ _ h => h, fun _ _ _ _ h => h, fun _ _ _ _ h => h, fun _ _ _ _ h => h, fun _ _ _ _ h => h, fun _ _ _ _ h => h, fun _ _ _ _ h => h, fun _ _ _ _ h => h, fun _ _ _ _ h => h, fun _ _ _ _ h => h, fun _ _ _ _ h => h, trivial⟩) ⟨?_, ?_, ?_, ?_, ?_, ?_, ?_, ?_, ?_, ?_, ?_, ?_, ?_, ?_, ?_, ?_, ?_, ?_, ?_, trivial⟩ ?_
          · refine relStep_plain rfl ?_
            intro Ac w5 hp
            have hb := hp.bel
            have a3 : Ac.eval (.tmp 3) = .slice (some ⟨g, o, none⟩) n c := hp.out 3 (by rfl)
            have hc := evalC Ac; have hf := evalF Ac; have hgl := evalG Ac
            obtain ⟨ρ, hρ⟩ : ∃ ρ, Ac.eval = ρ := ⟨_, rfl⟩
            rw [hρ] at a3 hc hf hgl
            exact relPure hρ (.slice (some ⟨g, o, none⟩) n c) (by simp [go_sem, hc, hf, hgl, ↓IntWalk.iteOmega, a3, *]) rfl
          · refine relStep_plain rfl ?_
            intro Ac w5 hp
            have hb := hp.bel
            have a7 : Ac.eval (.tmp 7) = .int .i64 (j : Int) := hp.out 7 (by rfl)
            have hc := evalC Ac; have hf := evalF Ac; have hgl := evalG Ac
            obtain ⟨ρ, hρ⟩ : ∃ ρ, Ac.eval = ρ := ⟨_, rfl⟩
            rw [hρ] at a7 hc hf hgl
            exact relPure hρ (.int .i64 (j : Int)) (by simp [go_sem, hc, hf, hgl, ↓IntWalk.iteOmega, a7, *]) rfl
          · refine relStep_plain rfl ?_
            intro Ac w5 hp
            have hb := hp.bel
            have a38 : Ac.eval (.tmp 38) = .slice (some ⟨g, o, none⟩) n c := hp.dep 0 (by kernel_rfl)
            have a39 : Ac.eval (.tmp 39) = .int .i64 (j : Int) := hp.dep 1 (by kernel_rfl)
            have hc := evalC Ac; have hf := evalF Ac; have hgl := evalG Ac
            obtain ⟨ρ, hρ⟩ : ∃ ρ, Ac.eval = ρ := ⟨_, rfl⟩
            rw [hρ] at a38 a39 hc hf hgl
            exact relPure hρ (.pointer (some ⟨g, o + j * 9, none⟩)) (by simp [go_sem, hc, hf, hgl, ↓IntWalk.iteOmega, a38, a39, *]) rfl
          · refine relStep_plain rfl ?_
            intro Ac w5 hp
            have hb := hp.bel
            have a40 : Ac.eval (.tmp 40) = .pointer (some ⟨g, o + j * 9, none⟩) := hp.dep 2 (by kernel_rfl)
            have z0 : w5.cell? ⟨g, o + j * 9, none⟩ = some (.int .i64 k) := (hb.cell hg).trans HK0.out
            have z1 : w5.cell? ⟨g, o + j * 9 + 1, none⟩ = some (.int .u32 (p : Int)) := (hb.cell hg).trans HK1.out
            have z2 : w5.cell? ⟨g, o + j * 9 + 2, none⟩ = some (.int .i64 nn) := (hb.cell hg).trans HK2.out
            have z3 : w5.cell? ⟨g, o + j * 9 + 3, none⟩ = some (.slice A1 n1 c1) := (hb.cell hg).trans HK3.out
            have z4 : w5.cell? ⟨g, o + j * 9 + 4, none⟩ = some (.string (str t)) := (hb.cell hg).trans HK4.out
            have z5 : w5.cell? ⟨g, o + j * 9 + 5, none⟩ = some (.int .u32 (oa : Int)) := (hb.cell hg).trans HK5.out
            have z6 : w5.cell? ⟨g, o + j * 9 + 6, none⟩ = some (.int .i64 oh) := (hb.cell hg).trans HK6.out
            have z7 : w5.cell? ⟨g, o + j * 9 + 7, none⟩ = some (.int .u32 (oi : Int)) := (hb.cell hg).trans HK7.out
            have z8 : w5.cell? ⟨g, o + j * 9 + 8, none⟩ = some (.bool fo) := (hb.cell hg).trans HK8.out
            have hc := evalC Ac; have hf := evalF Ac; have hgl := evalG Ac
            obtain ⟨ρ, hρ⟩ : ∃ ρ, Ac.eval = ρ := ⟨_, rfl⟩
            rw [hρ] at a40 hc hf hgl
            exact relPure hρ (.agg #[.int .i64 k, .int .u32 (p : Int), .int .i64 nn, .slice A1 n1 c1, .string (str t), .int .u32 (oa : Int), .int .i64 oh, .int .u32 (oi : Int), .bool fo]) (by simp [go_sem, hc, hf, hgl, ↓IntWalk.iteOmega, a40, *]) rfl
          · refine relStep_plain rfl ?_
            intro Ac w5 hp
            have hb := hp.bel
            have a41 : Ac.eval (.tmp 41) = .agg #[.int .i64 k, .int .u32 (p : Int), .int .i64 nn, .slice A1 n1 c1, .string (str t), .int .u32 (oa : Int), .int .i64 oh, .int .u32 (oi : Int), .bool fo] := hp.dep 3 (by kernel_rfl)
            have hc := evalC Ac; have hf := evalF Ac; have hgl := evalG Ac
            obtain ⟨ρ, hρ⟩ : ∃ ρ, Ac.eval = ρ := ⟨_, rfl⟩
            rw [hρ] at a41 hc hf hgl
            refine relCall hρ 8 #[.agg #[.int .i64 k, .int .u32 (p : Int), .int .i64 nn, .slice A1 n1 c1, .string (str t), .int .u32 (oa : Int), .int .i64 oh, .int .u32 (oi : Int), .bool fo]] (by simp [go_sem, hc, hf, hgl, ↓IntWalk.iteOmega, a41, *]) ?_
            refine (rgood_any ⟨k, p, nn, b, t, oa, oh, oi, fo⟩ A1 n1 c1 w5 HBl.out.1 HTl.out).mono ?_
            rintro e w6 ⟨rfl, hb6⟩
            exact ⟨_, rfl, by rw [HFu.out.1]; rfl, hb6⟩
          · refine relStep_plain rfl ?_
            intro Ac w5 hp
            have hb := hp.bel
            have a42 : Ac.eval (.tmp 42) = .bool true := hp.dep 4 (by kernel_rfl)
            have hc := evalC Ac; have hf := evalF Ac; have hgl := evalG Ac
            obtain ⟨ρ, hρ⟩ : ∃ ρ, Ac.eval = ρ := ⟨_, rfl⟩
            rw [hρ] at a42 hc hf hgl
            exact relPure hρ (.bool false) (by simp [go_sem, hc, hf, hgl, ↓IntWalk.iteOmega, a42, *]) rfl
          · refine relStep_plain rfl ?_
            intro Ac w5 hp
            have hb := hp.bel
            have a43 : Ac.eval (.tmp 43) = .bool false := hp.dep 5 (by kernel_rfl)
            have hc := evalC Ac; have hf := evalF Ac; have hgl := evalG Ac
            obtain ⟨ρ, hρ⟩ : ∃ ρ, Ac.eval = ρ := ⟨_, rfl⟩
            rw [hρ] at a43 hc hf hgl
            exact relPure hρ (.bool false) (by simp [go_sem, hc, hf, hgl, ↓IntWalk.iteOmega, a43, *]) rfl
          · refine relStep_guard (g := 6) (b := false) (x := false) rfl (by kernel_rfl) rfl (by kernel_rfl) rfl (fun _ _ h => h) ?_
            intro Ac w5 hp
            have hb := hp.bel
            have a3 : Ac.eval (.tmp 3) = .slice (some ⟨g, o, none⟩) n c := hp.out 3 (by rfl)
            have hc := evalC Ac; have hf := evalF Ac; have hgl := evalG Ac
            obtain ⟨ρ, hρ⟩ : ∃ ρ, Ac.eval = ρ := ⟨_, rfl⟩
            rw [hρ] at a3 hc hf hgl
            exact relPure hρ (.slice (some ⟨g, o, none⟩) n c) (by simp [go_sem, hc, hf, hgl, ↓IntWalk.iteOmega, a3, *]) rfl
          · refine relStep_guard (g := 6) (b := false) (x := false) rfl (by kernel_rfl) rfl (by kernel_rfl) rfl (fun _ _ h => h) ?_
            intro Ac w5 hp
            have hb := hp.bel
            have a7 : Ac.eval (.tmp 7) = .int .i64 (j : Int) := hp.out 7 (by rfl)
            have hc := evalC Ac; have hf := evalF Ac; have hgl := evalG Ac
            obtain ⟨ρ, hρ⟩ : ∃ ρ, Ac.eval = ρ := ⟨_, rfl⟩
            rw [hρ] at a7 hc hf hgl
            exact relPure hρ (.int .i64 (j : Int)) (by simp [go_sem, hc, hf, hgl, ↓IntWalk.iteOmega, a7, *]) rfl
          · refine relStep_guard (g := 6) (b := false) (x := false) rfl (by kernel_rfl) rfl (by kernel_rfl) rfl (fun _ _ h => h) ?_
            intro Ac w5 hp
            have hb := hp.bel
            have a45 : Ac.eval (.tmp 45) = .slice (some ⟨g, o, none⟩) n c := hp.dep 7 (by kernel_rfl)
            have a46 : Ac.eval (.tmp 46) = .int .i64 (j : Int) := hp.dep 8 (by kernel_rfl)
            have hc := evalC Ac; have hf := evalF Ac; have hgl := evalG Ac
            obtain ⟨ρ, hρ⟩ : ∃ ρ, Ac.eval = ρ := ⟨_, rfl⟩
            rw [hρ] at a45 a46 hc hf hgl
            exact relPure hρ (.pointer (some ⟨g, o + j * 9, none⟩)) (by simp [go_sem, hc, hf, hgl, ↓IntWalk.iteOmega, a45, a46, *]) rfl
          · refine relStep_guard (g := 6) (b := false) (x := false) rfl (by kernel_rfl) rfl (by kernel_rfl) rfl (fun _ _ h => h) ?_
            intro Ac w5 hp
            have hb := hp.bel
            have a47 : Ac.eval (.tmp 47) = .pointer (some ⟨g, o + j * 9, none⟩) := hp.dep 9 (by kernel_rfl)
            have z0 : w5.cell? ⟨g, o + j * 9, none⟩ = some (.int .i64 k) := (hb.cell hg).trans HK0.out
            have z1 : w5.cell? ⟨g, o + j * 9 + 1, none⟩ = some (.int .u32 (p : Int)) := (hb.cell hg).trans HK1.out
            have z2 : w5.cell? ⟨g, o + j * 9 + 2, none⟩ = some (.int .i64 nn) := (hb.cell hg).trans HK2.out
            have z3 : w5.cell? ⟨g, o + j * 9 + 3, none⟩ = some (.slice A1 n1 c1) := (hb.cell hg).trans HK3.out
            have z4 : w5.cell? ⟨g, o + j * 9 + 4, none⟩ = some (.string (str t)) := (hb.cell hg).trans HK4.out
            have z5 : w5.cell? ⟨g, o + j * 9 + 5, none⟩ = some (.int .u32 (oa : Int)) := (hb.cell hg).trans HK5.out
            have z6 : w5.cell? ⟨g, o + j * 9 + 6, none⟩ = some (.int .i64 oh) := (hb.cell hg).trans HK6.out
            have z7 : w5.cell? ⟨g, o + j * 9 + 7, none⟩ = some (.int .u32 (oi : Int)) := (hb.cell hg).trans HK7.out
            have z8 : w5.cell? ⟨g, o + j * 9 + 8, none⟩ = some (.bool fo) := (hb.cell hg).trans HK8.out
            have hc := evalC Ac; have hf := evalF Ac; have hgl := evalG Ac
            obtain ⟨ρ, hρ⟩ : ∃ ρ, Ac.eval = ρ := ⟨_, rfl⟩
            rw [hρ] at a47 hc hf hgl
            exact relPure hρ (.agg #[.int .i64 k, .int .u32 (p : Int), .int .i64 nn, .slice A1 n1 c1, .string (str t), .int .u32 (oa : Int), .int .i64 oh, .int .u32 (oi : Int), .bool fo]) (by simp [go_sem, hc, hf, hgl, ↓IntWalk.iteOmega, a47, *]) rfl
          · refine relStep_guard (g := 6) (b := false) (x := false) rfl (by kernel_rfl) rfl (by kernel_rfl) rfl (fun _ _ h => h) ?_
            intro Ac w5 hp
            have hb := hp.bel
            have a3 : Ac.eval (.tmp 3) = .slice (some ⟨g, o, none⟩) n c := hp.out 3 (by rfl)
            have hc := evalC Ac; have hf := evalF Ac; have hgl := evalG Ac
            obtain ⟨ρ, hρ⟩ : ∃ ρ, Ac.eval = ρ := ⟨_, rfl⟩
            rw [hρ] at a3 hc hf hgl
            exact relPure hρ (.slice (some ⟨g, o, none⟩) n c) (by simp [go_sem, hc, hf, hgl, ↓IntWalk.iteOmega, a3, *]) rfl
          · refine relStep_guard (g := 6) (b := false) (x := false) rfl (by kernel_rfl) rfl (by kernel_rfl) rfl (fun _ _ h => h) ?_
            intro Ac w5 hp
            have hb := hp.bel
            have a7 : Ac.eval (.tmp 7) = .int .i64 (j : Int) := hp.out 7 (by rfl)
            have hc := evalC Ac; have hf := evalF Ac; have hgl := evalG Ac
            obtain ⟨ρ, hρ⟩ : ∃ ρ, Ac.eval = ρ := ⟨_, rfl⟩
            rw [hρ] at a7 hc hf hgl
            exact relPure hρ (.int .i64 (j : Int)) (by simp [go_sem, hc, hf, hgl, ↓IntWalk.iteOmega, a7, *]) rfl
          · refine relStep_guard (g := 6) (b := false) (x := false) rfl (by kernel_rfl) rfl (by kernel_rfl) rfl (fun _ _ h => h) ?_
            intro Ac w5 hp
            have hb := hp.bel
            have a49 : Ac.eval (.tmp 49) = .slice (some ⟨g, o, none⟩) n c := hp.dep 11 (by kernel_rfl)
            have a50 : Ac.eval (.tmp 50) = .int .i64 (j : Int) := hp.dep 12 (by kernel_rfl)
            have hc := evalC Ac; have hf := evalF Ac; have hgl := evalG Ac
            obtain ⟨ρ, hρ⟩ : ∃ ρ, Ac.eval = ρ := ⟨_, rfl⟩
            rw [hρ] at a49 a50 hc hf hgl
            exact relPure hρ (.pointer (some ⟨g, o + j * 9, none⟩)) (by simp [go_sem, hc, hf, hgl, ↓IntWalk.iteOmega, a49, a50, *]) rfl
          · refine relStep_guard (g := 6) (b := false) (x := false) rfl (by kernel_rfl) rfl (by kernel_rfl) rfl (fun _ _ h => h) ?_
            intro Ac w5 hp
            have hb := hp.bel
            have a51 : Ac.eval (.tmp 51) = .pointer (some ⟨g, o + j * 9, none⟩) := hp.dep 13 (by kernel_rfl)
            have z0 : w5.cell? ⟨g, o + j * 9, none⟩ = some (.int .i64 k) := (hb.cell hg).trans HK0.out
            have z1 : w5.cell? ⟨g, o + j * 9 + 1, none⟩ = some (.int .u32 (p : Int)) := (hb.cell hg).trans HK1.out
            have z2 : w5.cell? ⟨g, o + j * 9 + 2, none⟩ = some (.int .i64 nn) := (hb.cell hg).trans HK2.out
            have z3 : w5.cell? ⟨g, o + j * 9 + 3, none⟩ = some (.slice A1 n1 c1) := (hb.cell hg).trans HK3.out
            have z4 : w5.cell? ⟨g, o + j * 9 + 4, none⟩ = some (.string (str t)) := (hb.cell hg).trans HK4.out
            have z5 : w5.cell? ⟨g, o + j * 9 + 5, none⟩ = some (.int .u32 (oa : Int)) := (hb.cell hg).trans HK5.out
            have z6 : w5.cell? ⟨g, o + j * 9 + 6, none⟩ = some (.int .i64 oh) := (hb.cell hg).trans HK6.out
            have z7 : w5.cell? ⟨g, o + j * 9 + 7, none⟩ = some (.int .u32 (oi : Int)) := (hb.cell hg).trans HK7.out
            have z8 : w5.cell? ⟨g, o + j * 9 + 8, none⟩ = some (.bool fo) := (hb.cell hg).trans HK8.out
            have hc := evalC Ac; have hf := evalF Ac; have hgl := evalG Ac
            obtain ⟨ρ, hρ⟩ : ∃ ρ, Ac.eval = ρ := ⟨_, rfl⟩
            rw [hρ] at a51 hc hf hgl
            exact relPure hρ (.agg #[.int .i64 k, .int .u32 (p : Int), .int .i64 nn, .slice A1 n1 c1, .string (str t), .int .u32 (oa : Int), .int .i64 oh, .int .u32 (oi : Int), .bool fo]) (by simp [go_sem, hc, hf, hgl, ↓IntWalk.iteOmega, a51, *]) rfl
          · refine relStep_guard (g := 6) (b := false) (x := false) rfl (by kernel_rfl) rfl (by kernel_rfl) rfl (fun _ _ h => h) ?_
            intro Ac w5 hp
            have hb := hp.bel
            have a52 : Ac.eval (.tmp 52) = .agg #[.int .i64 k, .int .u32 (p : Int), .int .i64 nn, .slice A1 n1 c1, .string (str t), .int .u32 (oa : Int), .int .i64 oh, .int .u32 (oi : Int), .bool fo] := hp.dep 14 (by kernel_rfl)
            have hc := evalC Ac; have hf := evalF Ac; have hgl := evalG Ac
            obtain ⟨ρ, hρ⟩ : ∃ ρ, Ac.eval = ρ := ⟨_, rfl⟩
            rw [hρ] at a52 hc hf hgl
            refine relCall hρ 10 #[.agg #[.int .i64 k, .int .u32 (p : Int), .int .i64 nn, .slice A1 n1 c1, .string (str t), .int .u32 (oa : Int), .int .i64 oh, .int .u32 (oi : Int), .bool fo]] (by simp [go_sem, hc, hf, hgl, ↓IntWalk.iteOmega, a52, *]) ?_
            refine (ronly_any ⟨k, p, nn, b, t, oa, oh, oi, fo⟩ A1 n1 c1 w5).mono ?_
            rintro e w6 ⟨rfl, hb6⟩
            exact ⟨_, rfl, by rw [HOn.out]; rfl, hb6⟩
          · refine relStep_guard (g := 6) (b := false) (x := false) rfl (by kernel_rfl) rfl (by kernel_rfl) rfl (fun _ _ h => h) ?_
            intro Ac w5 hp
            have hb := hp.bel
            have a48 : Ac.eval (.tmp 48) = .agg #[.int .i64 k, .int .u32 (p : Int), .int .i64 nn, .slice A1 n1 c1, .string (str t), .int .u32 (oa : Int), .int .i64 oh, .int .u32 (oi : Int), .bool fo] := hp.dep 10 (by kernel_rfl)
            have a53 : Ac.eval (.tmp 53) = .agg #[.int .i64 k, .int .u32 (p : Int), .int .i64 nn, .slice A2 n2 c2, .string (str t), .int .u32 (oa : Int), .int .i64 oh, .int .u32 (oi : Int), .bool fo] := hp.dep 15 (by kernel_rfl)
            have hc := evalC Ac; have hf := evalF Ac; have hgl := evalG Ac
            obtain ⟨ρ, hρ⟩ : ∃ ρ, Ac.eval = ρ := ⟨_, rfl⟩
            rw [hρ] at a48 a53 hc hf hgl
            refine relCall hρ 9 #[.agg #[.int .i64 k, .int .u32 (p : Int), .int .i64 nn, .slice A1 n1 c1, .string (str t), .int .u32 (oa : Int), .int .i64 oh, .int .u32 (oi : Int), .bool fo], .agg #[.int .i64 k, .int .u32 (p : Int), .int .i64 nn, .slice A2 n2 c2, .string (str t), .int .u32 (oa : Int), .int .i64 oh, .int .u32 (oi : Int), .bool fo]] (by simp [go_sem, hc, hf, hgl, ↓IntWalk.iteOmega, a48, a53, *]) ?_
            refine (rsame_eq ⟨k, p, nn, b, t, oa, oh, oi, fo⟩ A1 A2 n1 c1 n2 c2 w5 (HBl.out.below byMono hb) (HB2l.out.below byMono hb)).mono ?_
            rintro e w6 ⟨rfl, hb6⟩
            exact ⟨_, rfl, rfl, hb6⟩
          · refine relStep_guard (g := 6) (b := false) (x := false) rfl (by kernel_rfl) rfl (by kernel_rfl) rfl (fun _ _ h => h) ?_
            intro Ac w5 hp
            have hb := hp.bel
            have a54 : Ac.eval (.tmp 54) = .bool true := hp.dep 16 (by kernel_rfl)
            have hc := evalC Ac; have hf := evalF Ac; have hgl := evalG Ac
            obtain ⟨ρ, hρ⟩ : ∃ ρ, Ac.eval = ρ := ⟨_, rfl⟩
            rw [hρ] at a54 hc hf hgl
            exact relPure hρ (.bool false) (by simp [go_sem, hc, hf, hgl, ↓IntWalk.iteOmega, a54, *]) rfl
          · refine relStep_plain rfl ?_
            intro Ac w5 hp
            have hb := hp.bel
            have a44 : Ac.eval (.tmp 44) = .bool false := hp.dep 6 (by kernel_rfl)
            have a55 : Ac.eval (.tmp 55) = .bool false := hp.dep 17 (by kernel_rfl)
            have hc := evalC Ac; have hf := evalF Ac; have hgl := evalG Ac
            obtain ⟨ρ, hρ⟩ : ∃ ρ, Ac.eval = ρ := ⟨_, rfl⟩
            rw [hρ] at a44 a55 hc hf hgl
            exact relPure hρ (.bool false) (by simp [go_sem, hc, hf, hgl, ↓IntWalk.iteOmega, a44, a55, *]) rfl
          intro u w8 hb7 hall
          have e56 : u 18 = .bool false := relAll_at hall (i := 18) (by decide +kernel)
          clear hall
          simp only [List.drop_succ_cons, List.drop_zero, List.take_succ_cons, List.take_zero, putAll, Act.put, List.setIfInBounds_toArray, List.set_cons_zero, List.set_cons_succ, Nat.zero_add, Nat.reduceAdd, e56]
          have HB8 := hide (HB.out.trans (hb7.mono HB.out.size))
          have hg8 : g < w8.heap.size := Nat.lt_of_lt_of_le hg hb7.size
          have d0 : w8.cell? ⟨g, o + j * 9, none⟩ = some (.int .i64 k) := (hb7.cell hg).trans HK0.out
          have d1 : w8.cell? ⟨g, o + j * 9 + 1, none⟩ = some (.int .u32 (p : Int)) := (hb7.cell hg).trans HK1.out
          have d2 : w8.cell? ⟨g, o + j * 9 + 2, none⟩ = some (.int .i64 nn) := (hb7.cell hg).trans HK2.out
          have d3 : w8.cell? ⟨g, o + j * 9 + 3, none⟩ = some (.slice A1 n1 c1) := (hb7.cell hg).trans HK3.out
          have d4 : w8.cell? ⟨g, o + j * 9 + 4, none⟩ = some (.string (str t)) := (hb7.cell hg).trans HK4.out
          have d5 : w8.cell? ⟨g, o + j * 9 + 5, none⟩ = some (.int .u32 (oa : Int)) := (hb7.cell hg).trans HK5.out
          have d6 : w8.cell? ⟨g, o + j * 9 + 6, none⟩ = some (.int .i64 oh) := (hb7.cell hg).trans HK6.out
          have d7 : w8.cell? ⟨g, o + j * 9 + 7, none⟩ = some (.int .u32 (oi : Int)) := (hb7.cell hg).trans HK7.out
          have d8 : w8.cell? ⟨g, o + j * 9 + 8, none⟩ = some (.bool fo) := (hb7.cell hg).trans HK8.out
          have HRt8 := hide (HRt.out w8 hb7)
          clear hb7 k0 k1 k2 k3 k4 k5 k6 k7 k8
          go_wp2_with fail
          refine HRt8.out.mono ?_
          rintro e w9 ⟨rfl, hb9⟩
          have HB9 := hide (HB8.out.trans (hb9.mono HB8.out.size))
          clear hb9
          go_wp2
          rw [HJ.out]
          go_roundw
          case rel => exact ⟨j + 1, by omega, by go_num, rfl, HB9.out⟩
          case measure => simp [intOf]; omega
        · obtain rfl : j = n := by omega
          have hall : out.take j = out := List.take_of_length_le (by rw [HN.out]; exact Nat.le_refl _)
          rw [hall, HTx.out, HT.out]
          have HBw := hide (HB1.out.trans (hbel.mono HB1.out.size))
          clear hall hbel hsz
          go_wp2_with fail
          refine (slives_any wr (HEn.out.below HBw.out) (HTb.out.below HBw.out)).mono ?_
          rintro e w9 ⟨rfl, hb9⟩
          have HB9 := hide (HBw.out.trans (hb9.mono HBw.out.size))
          clear hb9
          go_wp2
          go_ret
          exact ⟨rfl, HB9.out⟩
    | @bad i out hrd hcase =>
      have HAh : Hid (feedT ((linesM s0).take i) = textsM out) := hide (rd_ahead hrd)
      have HFull := hide hrd.full
      have hil := hrd.le
      have hol := hrd.len
      have HLens : Hid (∀ x ∈ linesM s0, x.length ≤ 600) := hide (fun x hx => by have h1 := linesM_each s0 x hx; have h2 := HS0l.out; omega)
      have HFd : Hid ((feedT (linesM s0)).length ≤ 600) := hide (by have h1 := linesM_feed s0; have h2 := HS0l.out; omega)
      have H10 : Hid (∀ p ∈ linesM s0, (10 : UInt8) ∉ p) := hide (fun p hp => pieces_no10 s0 p (List.dropLast_subset _ hp))
      have HCase : Hid (i < (linesM s0).length → nextP ((linesM s0).drop i) = none) := hide (fun h => by
        rcases hcase with ⟨_, h2⟩ | ⟨h2, _⟩
        · exact h2
        · omega)
      obtain ⟨Ls, hLs⟩ : ∃ Ls, linesM s0 = Ls := ⟨_, rfl⟩
      rw [hLs] at HAh HLens HFd H10 HCase HLi HLen hil
      obtain ⟨L, hL⟩ : ∃ L, Ls.length = L := ⟨_, rfl⟩
      rw [hL] at HLi HCase HLen hil
      have HLL := hide hL
      have hLb : L ≤ 600 := HLen.out
      have hib : i ≤ 600 := by omega
      have hob : out.length ≤ 5000 := by omega
      have HOb := hide hob
      clear hrd hcase hLs hL hol hob
      have hw1 : IntKind.i64.wrap ((i : Int) + 1 - 1) = (i : Int) := by rw [IntKind.wrap_i64]; omega
      have e1 : decide ((i : Int) + 1 < 1) = false := by simp; omega
      have e2 : decide ((L : Int) + 1 < (i : Int) + 1) = false := by simp; omega
      have hw2 : IntKind.i64.wrap ((L : Int) + 1) = (L : Int) + 1 := by rw [IntKind.wrap_i64]; omega
      go_wp2_with fail
      refine (HLi.out _).mono ?_
      rintro e w2 ⟨A2, n2, c2, rfl, hn2, ho, hb⟩
      subst hn2
      have HS2 := hide (StrsAt.of_own ho (fun x hx => by have := HLens.out x hx; unfold maxLen; omega))
      have HB2 := hide (HB1.out.trans (hb.mono HB1.out.size))
      have hnc2 := HS2.out.2.1
      have hmx2 := HS2.out.2.2.1
      unfold maxLen at hmx2
      clear ho hb
      go_wp2
      go_loopw [9, 11] (fun sv iv wr => ∃ j : Nat, j ≤ i ∧ iv = .int .i64 (j : Nat) ∧ sv = .string (str (feedT (Ls.take j))) ∧ Below w2.heap.size w2 wr) (fun _ iv _ => i - (intOf iv).toNat)
      case atStart => exact ⟨0, Nat.zero_le _, rfl, rfl, Below.refl _ _⟩
      case round =>
        obtain ⟨j, hj, rfl, rfl, hbel⟩ := hrel
        have HB := hide hbel
        have hsz : (str (feedT (Ls.take j))).size ≤ 600 := by
          rw [str_size]
          have h1 := feedT_take Ls j
          have h2 := HFd.out
          omega
        by_cases hlt : j < i
        · obtain ⟨g, o, x, rfl, hg, hx, hxs, hc⟩ := (HS2.out.below rfl hbel).at_ (k := j) (by omega)
          have HX : Hid (∃ y, Ls[j]? = some y ∧ x = str y) := hide (by
            rw [List.getElem?_map, Option.map_eq_some_iff] at hx
            obtain ⟨y, hy, rfl⟩ := hx
            exact ⟨y, hy, rfl⟩)
          have hxz : x.size ≤ 600 := by
            obtain ⟨y, hy, rfl⟩ := HX.out
            rw [str_size]
            exact HLens.out y (List.mem_of_getElem? hy)
          have HJ : Hid (str (feedT (Ls.take j)) ++ x ++ (⟨#[10]⟩ : ByteArray) = str (feedT (Ls.take (j + 1)))) := hide (by
            obtain ⟨y, hy, rfl⟩ := HX.out
            have e10 : (⟨#[10]⟩ : ByteArray) = str [10] := rfl
            rw [e10, cat_str, cat_str, List.take_add_one, hy, Option.toList_some, feedT_snoc, List.append_assoc])
          have hsz2 : (str (feedT (Ls.take j)) ++ x).size ≤ 1200 := by rw [ByteArray.size_append]; omega
          obtain ⟨Q, hQ⟩ : ∃ Q, str (feedT (Ls.take j)) = Q := ⟨_, rfl⟩
          rw [hQ] at HJ hsz hsz2 ⊢
          have q0 : (0 : Int) ≤ (j : Int) := by omega
          have q1 : (j : Int) < (L : Int) := by omega
          have q2 : (j : Int) < (i : Int) := by omega
          clear hx hxs hbel hQ
          go_wp2
          rw [HJ.out]
          go_roundw
          case rel => exact ⟨j + 1, by omega, by go_num, rfl, HB.out⟩
          case measure => simp [intOf]; omega
        · obtain rfl : j = i := by omega
          rw [HAh.out]
          have HBr := hide (HB2.out.trans (hbel.mono HB2.out.size))
          have hTz : (textsM out).length ≤ 600 := by rw [← HAh.out, ← str_size]; exact hsz
          have HRa := hide (sread_any (textsM out) (by omega) wr (HEn.out.below HBr.out) (HTb.out.below HBr.out))
          clear hsz hTz
          obtain ⟨TA, hTA⟩ : ∃ TA, str (textsM out) = TA := ⟨_, rfl⟩
          rw [hTA] at HRa ⊢
          clear hTA
          have HS3 := hide (HS2.out.below rfl hbel)
          clear hbel
          go_wp2_with fail
          refine HRa.out.mono ?_
          rintro e w3 ⟨hr3, hb3⟩
          rcases read_moves (fun m hm => ⟨(HFull.out m hm).1, (HFull.out m hm).2.2⟩) hr3 with ⟨_, A3, n3, c3, rfl, _, _⟩ | ⟨h5, _⟩
          · have HB3 := hide (HBr.out.trans (hb3.mono HBr.out.size))
            have HS4 := hide (HS3.out.below rfl hb3)
            clear hr3 hb3
            go_wp2
            go_loopw [10, 15] (fun sv iv wr => ∃ q : Nat, j + q ≤ L ∧ iv = .int .i64 ((j + q : Nat) : Int) ∧ sv = .string (str (feedT ((Ls.drop j).take q))) ∧ Below w3.heap.size w3 wr) (fun _ iv _ => L - (intOf iv).toNat)
            case atStart => exact ⟨0, by omega, rfl, rfl, Below.refl _ _⟩
            case round =>
              obtain ⟨q, hq, rfl, rfl, hbel⟩ := hrel
              have HB := hide hbel
              have hsz : (str (feedT ((Ls.drop j).take q))).size ≤ 600 := by
                rw [str_size]
                have h1 := feedT_take (Ls.drop j) q
                have h3 := feedT_drop Ls j
                have h2 := HFd.out
                omega
              by_cases hlt : j + q < L
              · obtain ⟨g, o, x, rfl, hg, hx, hxs, hc⟩ := (HS4.out.below rfl hbel).at_ (k := j + q) (by omega)
                have HX : Hid (∃ y, (Ls.drop j)[q]? = some y ∧ x = str y ∧ y ∈ Ls) := hide (by
                  rw [List.getElem?_map, Option.map_eq_some_iff] at hx
                  obtain ⟨y, hy, rfl⟩ := hx
                  exact ⟨y, by rw [List.getElem?_drop]; exact hy, rfl, List.mem_of_getElem? hy⟩)
                have hxz : x.size ≤ 600 := by
                  obtain ⟨y, _, rfl, hy⟩ := HX.out
                  rw [str_size]
                  exact HLens.out y hy
                have HJ : Hid (str (feedT ((Ls.drop j).take q)) ++ x ++ (⟨#[10]⟩ : ByteArray) = str (feedT ((Ls.drop j).take (q + 1)))) := hide (by
                  obtain ⟨y, hy, rfl, _⟩ := HX.out
                  have e10 : (⟨#[10]⟩ : ByteArray) = str [10] := rfl
                  rw [e10, cat_str, cat_str, List.take_add_one, hy, Option.toList_some, feedT_snoc, List.append_assoc])
                have hsz2 : (str (feedT ((Ls.drop j).take q)) ++ x).size ≤ 1200 := by rw [ByteArray.size_append]; omega
                have hRl : (feedT ((Ls.drop j).take (q + 1))).length ≤ 600 := by
                  have h1 := feedT_take (Ls.drop j) (q + 1)
                  have h3 := feedT_drop Ls j
                  have h2 := HFd.out
                  omega
                have HBw := hide (HB3.out.trans (hbel.mono HB3.out.size))
                have HRb := hide (sread_any (feedT ((Ls.drop j).take (q + 1))) (by omega) wr (HEn.out.below HBw.out) (HTb.out.below HBw.out))
                have HNo := hide (fun (e : Ending) (W : World) (hr : ReadR (feedT ((Ls.drop j).take (q + 1))) W e) => read_no (ls := Ls.drop j) (q := q + 1) (fun p hp => H10.out p (List.mem_of_mem_drop hp)) (by rw [List.length_take, List.length_drop]; have := HLL.out; omega) (HCase.out (by omega)) hr)
                obtain ⟨Q, hQ⟩ : ∃ Q, str (feedT ((Ls.drop j).take q)) = Q := ⟨_, rfl⟩
                rw [hQ] at HJ hsz hsz2 ⊢
                obtain ⟨Q2, hQ2⟩ : ∃ Q, str (feedT ((Ls.drop j).take (q + 1))) = Q := ⟨_, rfl⟩
                have HQ2 := hide hQ2
                rw [hQ2] at HJ HRb
                obtain ⟨v, hv⟩ : ∃ v, j + q = v := ⟨_, rfl⟩
                rw [hv] at hc hlt ⊢
                have HV := hide hv
                have q0 : (0 : Int) ≤ (v : Int) := by omega
                have q1 : (v : Int) < (L : Int) := by omega
                clear hx hxs hbel hQ hQ2 hRl hv
                go_wp2_with fail
                rw [HJ.out]
                refine HRb.out.mono ?_
                rintro e w5 ⟨hr5, hb5⟩
                obtain ⟨z, y, rfl, hy⟩ := HNo.out _ _ hr5
                have HB5 := hide (HB.out.trans (hb5.mono HB.out.size))
                clear hr5 hb5
                go_wp2
                go_roundw
                case rel => exact ⟨q + 1, by have := HV.out; omega, by have := HV.out; go_num, by rw [HQ2.out], HB5.out⟩
                case measure => simp [intOf]; omega
              · obtain ⟨v, hv⟩ : ∃ v, j + q = v := ⟨_, rfl⟩
                rw [hv] at hlt ⊢
                have q1 : decide ((v : Int) < (L : Int)) = false := by simp; omega
                have HBw := hide (HB3.out.trans (hbel.mono HB3.out.size))
                clear hv hbel hsz
                go_wp2_with fail
                refine (slives_any wr (HEn.out.below HBw.out) (HTb.out.below HBw.out)).mono ?_
                rintro e w9 ⟨rfl, hb9⟩
                have HB9 := hide (HBw.out.trans (hb9.mono HBw.out.size))
                clear hb9
                go_wp2
                go_ret
                exact ⟨rfl, HB9.out⟩
          · exact absurd HOb.out (by omega)
end Go.Proofs.YtlfknndpbejbcaaGreatDoor
set_option linter.unusedSimpArgs false
set_option linter.unusedVariables false
namespace Go.Proofs.YtlfknndpbejbcaaGreatDoor
open Go.RowKit Go.WideShapes Go.ChangeShapes Go.ChangeAt
theorem gSp : Tryz.prog.globalNamed "strings.asciiSpace" = some 0 := by kernel_rfl
theorem gSpType : (Tryz.prog.globals[0]?).map (·.type) = some 99 := by kernel_rfl
theorem cells256 : Tryz.prog.cellsOf 99 = 256 := by kernel_rfl
theorem cells8 : Tryz.prog.cellsOf 5 = 1 := by kernel_rfl
theorem spData : (Rows.laid_strings_asciiSpace : DataW Unit) = Lib.tabData .u8 Lib.asciiSpaceTab := by kernel_rfl
theorem sp_of_laid {W : World} {laid : List (String × DataW Unit)} (hh : (laid.all fun x => x.2.handleName?.isNone) = true) (hm : ("strings.asciiSpace", Rows.laid_strings_asciiSpace) ∈ laid) (h : laidMetH Tryz.prog laid W) : SpTab W := by
  rw [MakeChecks.laidMetH_plain _ _ _ hh] at h
  rw [spData] at hm
  exact tabIs_of_mem (zs := Lib.asciiSpaceTab) gSp gSpType Tryz.underlying99 Tryz.underlying5 cells8 cells256 h hm
end Go.Proofs.YtlfknndpbejbcaaGreatDoor
