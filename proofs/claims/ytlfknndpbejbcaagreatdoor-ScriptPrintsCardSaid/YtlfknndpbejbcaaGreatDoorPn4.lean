import Derived.Test.YtlfknndpbejbcaaGreatDoorPn3
import Derived.WalkKit
import Derived.ProofKit
import Derived.OpenShut
import Derived.Below
import Derived.Laws.OwnMore
import Derived.Laws.Rows
import Derived.Laws.MakeOwn
import Derived.Deep.AppendLies
import Derived.Deep.Draws
import Derived.Deep.OwnRows
import Derived.Deep.QuietTactic
import Derived.Maps.AppendAt
import Derived.RegionTactic
import Derived.OwnWalk
import Derived.ChangeSame
import Derived.Outline
import Derived.BigQuiet
import Derived.WalkMore
import Derived.ScopeJumps
import Derived.WalkLawsBesides
import Derived.WalkSpells
import Derived.Laws.BitsLemmas
import Derived.Laws.BitsAllLaws
import Derived.Deep.Quiet
import Derived.WideKeyArgs
import Derived.Deep.DeepHandedRow
import Derived.Deep.DeepWitnessRowRef
import Derived.Lib.LaidTab
import Derived.Lib.AppendIntMem
import Derived.LaidMore
import Derived.MakeChecks
import Derived.Lib.Itoa
import Derived.Lib.ItoaMem
import Derived.BigRegion
import Derived.Deep.Slices
import Derived.Orders
import Derived.Lib.PathFns
import Derived.Lib.IndexBytes
import Derived.RangeFuncWrites
import Derived.RangeFuncNested
import Derived.RangeFuncBound
import Derived.RangeFuncCalls
import Derived.RangeFuncLeaves
import Derived.RangeFuncBox
import Derived.Shelf.Abstract
import Derived.Shelf.RegionOpen
import Derived.OwnWalkIn
import Derived.TacticsInMore
import Derived.LoopNIn
import Derived.LoopIn
import Derived.Lib.SmallJoins
import Derived.Lib.ParseIntBCases
import Derived.Lib.IndexMore
import Derived.Shelf.Vars
import Derived.Lib.AtoiAllCases
import Derived.SliceStrings
import Derived.Deep.RegionLaw
import Derived.Sort.LotA
import Derived.BigRegionIn
import Derived.Lib.Strings
import Derived.Lib.Bytealg
import Derived.StillTailTactics
import Derived.Deep.RegionHeld3
import Derived.Shelf.Strings.SplitShaped
import Derived.Shelf.Strings.Prefix
import Derived.Shelf.Small.Strs
import Derived.Shelf.Strings.BuilderK
import Derived.Laws.BytesString
import Derived.Laws.IdiomStrings
set_option linter.unusedSimpArgs false
set_option linter.unusedVariables false
namespace Go.Proofs.YtlfknndpbejbcaaGreatDoor
open Go.RowKit Go.WideShapes Go.ChangeShapes
attribute [local go_sem] Oper.semAt_some
theorem builder_wsk (B b : Nat) (bs : List Value) (s : ByteArray) (w : World) (h : Lib.IsBuilderF 57 5 B b bs w) (hlen : bs.length + s.size ≤ 140737488355328) (hBw : B ≤ w.heap.size) :
    Calls Tryz.prog 31 #[.pointer (some ⟨b, 0, none⟩), .string s] w fun e w' => e = .returned (.tuple #[.int .i64 s.size, .nilIface]) ∧ (Lib.BuilderAtF 57 5 B b (.pointer (some ⟨b, 0, none⟩)) (bs ++ Lib.strCells s) w' ∧ Below B w w' ∧ Lib.OthersKept 5 (some b) w w') :=
  Any.Builder_WriteString_k { Tryz.lays156 with } Tryz.Builder_Extra_156 B b bs s w h hlen hBw
theorem builder_strk (B b : Nat) (l : List UInt8) (w : World) (h : Lib.IsBuilderF 57 5 B b (Lib.byteCells l) w) (h0 : l ≠ []) :
    Calls Tryz.prog 32 #[.pointer (some ⟨b, 0, none⟩)] w fun e w' => e = .returned (.string ⟨l.toArray⟩) ∧ (Lib.IsBuilderF 57 5 B b (Lib.byteCells l) w' ∧ Below B w w' ∧ Lib.OthersKept 5 (some b) w w') :=
  Any.Builder_String_k { Tryz.lays156 with } Tryz.Builder_Extra_156 B b l w h h0
theorem builderF_below {T e : TypeId} {B b : Nat} {bs : List Value} {w w' : World} (h : Lib.IsBuilderF T e B b bs w) (hb : Below w.heap.size w w') : Lib.IsBuilderF T e B b bs w' := by
  have aux : ∀ p, Lib.BuilderAtF T e B b p bs w → Lib.BuilderAtF T e B b p bs w' := by
    rintro p ⟨h1, v, h2, h3, h4⟩
    exact ⟨h1, v, (hb.block b (Array.getElem?_eq_some_iff.1 h2).1).trans h2, h3.kept (row := none) (grown_of hb) (by
      rcases h5 : v.ownBlock with _ | g
      · exact .inl rfl
      · exact .inr (by simp)), h4⟩
  exact h.imp (aux _) (aux _)
theorem own_others {w w' : World} {base size n b : Nat} {e e' : TypeId} {v : Value} {xs : List Value} (h : w.ownsRow base e' size v n xs) (hk : Lib.OthersKept e (some b) w w') (hne : e' ≠ e) (hb : v.ownBlock ≠ some b) : w'.ownsRow base e' size v n xs := by
  refine ⟨h.1, ?_⟩
  rcases h.2 with h3 | ⟨g, cap, cur, e1, e2, e3, rest⟩
  · exact .inl h3
  · refine .inr ⟨g, cap, cur, e1, e2, hk g _ e3 (fun e => hb (by rw [e1, ← e]; rfl)) (fun c fz he => ?_), rest⟩
    injection he with _ he
    exact hne he
theorem textsM_snoc (l : List MV) (m : MV) : textsM (l ++ [m]) = textsM l ++ feedT (shownM m) := by
  unfold textsM feedT
  rw [List.flatMap_append, List.flatMap_append]
  simp
theorem feedT_snoc (l : List (List UInt8)) (x : List UInt8) : feedT (l ++ [x]) = feedT l ++ (x ++ [10]) := by
  unfold feedT
  simp
theorem byteC_app (a b : List UInt8) : Lib.byteCells a ++ Lib.strCells (str b) = Lib.byteCells (a ++ b) := by simp [Lib.byteCells, Lib.strCells, str]
theorem shown_feed {m : MV} (ok : MvOk m) (hg : mvGood m = true) : (feedT (shownM m)).length ≤ 1000000 := by
  have h0 := head_len ok hg
  unfold shownM
  rw [feedT_cons_len]
  have : (feedT (behM m)).length ≤ 200000 := by
    unfold behM
    split
    · rename_i h7
      have h2 : ∀ l : List (List UInt8), (feedT (l.map (124 :: ·))).length = (feedT l).length + l.length := by
        intro l
        induction l with
        | nil => rfl
        | cons x l ih => rw [List.map_cons, feedT_cons_len, feedT_cons_len, ih]; simp; omega
      rw [h2]
      have h3 := linesM_feed m.t
      have h4 := linesM_len m.t
      unfold mvGood at hg
      rw [h7] at hg
      simp at hg
      omega
    · simp [feedT]
  omega
theorem textsM_len (ms : List MV) (h : ∀ m ∈ ms, mvGood m = true ∧ MvOk m) : (textsM ms).length ≤ 1000000 * ms.length := by
  induction ms with
  | nil => simp [textsM, feedT]
  | cons m ms ih =>
    have e : textsM (m :: ms) = feedT (shownM m) ++ textsM ms := by unfold textsM feedT; rw [List.flatMap_cons, List.flatMap_append]
    have := ih (fun x hx => h x (by simp [hx]))
    have h2 := shown_feed (h m (by simp)).2 (h m (by simp)).1
    rw [e, List.length_append, List.length_cons]
    omega
theorem textsM_ne {ms : List MV} (h : ms ≠ []) : textsM ms ≠ [] := by
  intro e
  cases ms with
  | nil => exact h rfl
  | cons m ms =>
    have := congrArg List.length e
    unfold textsM at this
    rw [List.flatMap_cons] at this
    unfold shownM at this
    rw [List.cons_append, feedT_cons_len] at this
    simp at this
inductive PrintR (ms : List MV) : Ending → Prop
  | long : 5000 < ms.length → PrintR ms (.returned (.tuple #[.string ⟨#[]⟩, .int .i64 0, .int .i64 6]))
  | bad {i : Nat} {m : MV} : ms.length ≤ 5000 → ms[i]? = some m → mvGood m = false → (∀ m ∈ ms.take i, mvGood m = true) → PrintR ms (.returned (.tuple #[.string ⟨#[]⟩, .int .i64 ((i : Int) + 1), .int .i64 2]))
  | ok : ms.length ≤ 5000 → (∀ m ∈ ms, mvGood m = true) → PrintR ms (.returned (.tuple #[.string (str (textsM ms)), .int .i64 0, .int .i64 0]))
def PrintP (ms : List MV) (w : World) (e : Ending) (w' : World) : Prop := PrintR ms e ∧ Below w.heap.size w w'
set_option maxRecDepth 100000 in
set_option maxHeartbeats 8000000 in
theorem sprint_any (A : Option Addr) (n c : Nat) (ms : List MV) (w : World) (h : LstAt 9 mvR w A n c ms) (hok : ∀ m ∈ ms, MvOk m) (hts : ∀ m ∈ ms, m.t.length ≤ 9223372036854775807) (he : Env w) (ht : SpTab w) :
    Calls Tryz.prog 19 #[.slice A n c] w (PrintP ms w) := by
  have hlen := h.1
  have hnc := h.2.1
  have hmx := h.2.2.1
  unfold maxLen at hmx
  have HLs := hide h
  have HEn := hide he
  have HTb := hide ht
  have HOk := hide hok
  have HTs := hide hts
  have HLn := hide hlen
  clear h he ht hok hts hlen
  by_cases h5 : 5000 < n
  · have e1 : decide ((5000 : Int) < (n : Int)) = true := by simp; omega
    have H5 := hide h5
    clear h5
    go_enter Tryz.func19, Tryz.ntmps19
    go_wp2
    go_ret3
    exact ⟨.long (by rw [HLn.out]; exact H5.out), Below.refl _ _⟩
  · have e1 : decide ((5000 : Int) < (n : Int)) = false := by simp; omega
    have hn5 : n ≤ 5000 := by omega
    clear h5
    have HB0 : Hid (Lib.IsBuilder 57 5 w.heap.size w.heap.size (Lib.byteCells []) (w.alloc (.cells #[.pointer none, .slice none 0 0] 57))) := hide (Lib.fresh_isBuilder 57 5 w)
    have HBe := hide ((Below.refl w.heap.size w).alloc (Nat.le_refl _) (.cells #[.pointer none, .slice none 0 0] 57))
    go_enter Tryz.func19, Tryz.ntmps19
    go_wp2
    go_loopw [15] (fun iv wr => ∃ q : Nat, q ≤ n ∧ iv = .int .i64 (q : Nat) ∧ Lib.IsBuilderF 57 5 w.heap.size w.heap.size (Lib.byteCells (textsM (ms.take q))) wr ∧ (q = 0 → Lib.IsBuilder 57 5 w.heap.size w.heap.size (Lib.byteCells []) wr) ∧ Below w.heap.size w wr ∧ w.heap.size < wr.heap.size ∧ ∀ m ∈ ms.take q, mvGood m = true) (fun iv _ => n - (intOf iv).toNat)
    case atStart => exact ⟨0, Nat.zero_le _, rfl, Lib.IsBuilderF.of HB0.out, fun _ => HB0.out, HBe.out, by simp, by simp⟩
    case round =>
      obtain ⟨q, hq, rfl, hbu, hbu0, hbel, hblt, hgd⟩ := hrel
      have HBu := hide hbu
      have HBu0 := hide hbu0
      have HB := hide hbel
      have HGd := hide hgd
      have hsz := hbel.size
      have HTl : Hid ((textsM (ms.take q)).length ≤ 5000000000) := hide (by
        have h1 := textsM_len (ms.take q) (fun m hm => ⟨hgd m hm, HOk.out m (List.mem_of_mem_take hm)⟩)
        have h2 : (ms.take q).length ≤ 5000 := by rw [List.length_take]; omega
        omega)
      by_cases hlt : q < n
      · obtain ⟨g, o, M, vs, rfl, hg, hx, _, ⟨A1, n1, c1, rfl, hby⟩, hc⟩ := (HLs.out.below mvMono hbel).at_ hlt
        have hMm : M ∈ ms := List.mem_of_getElem? hx
        have hMok := HOk.out M hMm
        have hMt := HTs.out M hMm
        have HX := hide hx
        obtain ⟨⟨k, p, nn, b, t, oa, oh, oi, fo⟩, hM⟩ : ∃ M', M = M' := ⟨_, rfl⟩
        subst hM
        have HBy := hide hby
        have HMk := hide hMok
        have HMt := hide hMt
        have k0 : wr.cell? ⟨g, o + q * 9, none⟩ = some (.int .i64 k) := hc 0 _ rfl
        have k1 : wr.cell? ⟨g, o + q * 9 + 1, none⟩ = some (.int .u32 (p : Int)) := hc 1 _ rfl
        have k2 : wr.cell? ⟨g, o + q * 9 + 2, none⟩ = some (.int .i64 nn) := hc 2 _ rfl
        have k3 : wr.cell? ⟨g, o + q * 9 + 3, none⟩ = some (.slice A1 n1 c1) := hc 3 _ rfl
        have k4 : wr.cell? ⟨g, o + q * 9 + 4, none⟩ = some (.string (str t)) := hc 4 _ rfl
        have k5 : wr.cell? ⟨g, o + q * 9 + 5, none⟩ = some (.int .u32 (oa : Int)) := hc 5 _ rfl
        have k6 : wr.cell? ⟨g, o + q * 9 + 6, none⟩ = some (.int .i64 oh) := hc 6 _ rfl
        have k7 : wr.cell? ⟨g, o + q * 9 + 7, none⟩ = some (.int .u32 (oi : Int)) := hc 7 _ rfl
        have k8 : wr.cell? ⟨g, o + q * 9 + 8, none⟩ = some (.bool fo) := hc 8 _ rfl
        clear hbu hbu0 hbel hgd hx hc hby hMok hMt hMm
        have q0 : (0 : Int) ≤ (q : Int) := by omega
        have q1 : (q : Int) < (n : Int) := by omega
        have hwq : IntKind.i64.wrap ((q : Int) + 1) = (q : Int) + 1 := by rw [IntKind.wrap_i64]; omega
        have hal : Below wr.heap.size wr (wr.alloc (.cells #[.int .i64 k, .int .u32 (p : Int), .int .i64 nn, .slice A1 n1 c1, .string (str t), .int .u32 (oa : Int), .int .i64 oh, .int .u32 (oi : Int), .bool fo] 32)) := (Below.refl _ _).alloc (Nat.le_refl _) _
        have HGo := hide (sgood_any ⟨k, p, nn, b, t, oa, oh, oi, fo⟩ A1 n1 c1 (wr.alloc (.cells #[.int .i64 k, .int .u32 (p : Int), .int .i64 nn, .slice A1 n1 c1, .string (str t), .int .u32 (oa : Int), .int .i64 oh, .int .u32 (oi : Int), .bool fo] 32)) HBy.out.1 HMt.out)
        have HAl := hide hal
        have HBx : Hid (Blk (wr.alloc (.cells #[.int .i64 k, .int .u32 (p : Int), .int .i64 nn, .slice A1 n1 c1, .string (str t), .int .u32 (oa : Int), .int .i64 oh, .int .u32 (oi : Int), .bool fo] 32)) wr.heap.size 32 #[.int .i64 k, .int .u32 (p : Int), .int .i64 nn, .slice A1 n1 c1, .string (str t), .int .u32 (oa : Int), .int .i64 oh, .int .u32 (oi : Int), .bool fo]) := hide (Blk.new _ _ _)
        clear hal
        go_wp2_with fail
        refine HGo.out.mono ?_
        rintro e w2 ⟨rfl, hb⟩
        have HB2 := hide (below2 HAl.out hb)
        have HBx2 := hide (HBx.out.below hb (by simp))
        have hl2 : wr.heap.size < w2.heap.size := HBx2.out.lt
        have d0 : w2.cell? ⟨wr.heap.size, 0, none⟩ = some (.int .i64 k) := HBx2.out.cell 0
        have d1 : w2.cell? ⟨wr.heap.size, 1, none⟩ = some (.int .u32 (p : Int)) := HBx2.out.cell 1
        have d2 : w2.cell? ⟨wr.heap.size, 2, none⟩ = some (.int .i64 nn) := HBx2.out.cell 2
        have d3 : w2.cell? ⟨wr.heap.size, 3, none⟩ = some (.slice A1 n1 c1) := HBx2.out.cell 3
        have d4 : w2.cell? ⟨wr.heap.size, 4, none⟩ = some (.string (str t)) := HBx2.out.cell 4
        have d5 : w2.cell? ⟨wr.heap.size, 5, none⟩ = some (.int .u32 (oa : Int)) := HBx2.out.cell 5
        have d6 : w2.cell? ⟨wr.heap.size, 6, none⟩ = some (.int .i64 oh) := HBx2.out.cell 6
        have d7 : w2.cell? ⟨wr.heap.size, 7, none⟩ = some (.int .u32 (oi : Int)) := HBx2.out.cell 7
        have d8 : w2.cell? ⟨wr.heap.size, 8, none⟩ = some (.bool fo) := HBx2.out.cell 8
        clear hb
        cases hgm : mvGood ⟨k, p, nn, b, t, oa, oh, oi, fo⟩
        · have HGm := hide hgm
          clear hgm
          go_wp2
          go_ret3
          exact ⟨.bad (by rw [HLn.out]; exact hn5) HX.out HGm.out HGd.out, HB.out.trans (HB2.out.mono hsz)⟩
        · have HGm := hide hgm
          have hbw2 := HB.out.trans (HB2.out.mono hsz)
          have HSh := hide (shown_any ⟨k, p, nn, b, t, oa, oh, oi, fo⟩ A1 n1 c1 w2 (HBy.out.below byMono HB2.out) HMk.out HGm.out (HEn.out.below hbw2) (HTb.out.below hbw2))
          have HBw2 := hide hbw2
          have HBu2 := hide (builderF_below HBu.out HB2.out)
          have HSf := hide (shown_feed HMk.out HGm.out)
          have HSl := hide (shown_lens HMk.out HGm.out)
          obtain ⟨SM, hSM⟩ : ∃ SM, shownM ⟨k, p, nn, b, t, oa, oh, oi, fo⟩ = SM := ⟨_, rfl⟩
          have HShP : Hid (∀ (W W' : World) (e : Ending), ShownP ⟨k, p, nn, b, t, oa, oh, oi, fo⟩ W e W' → ∃ A n c, e = .returned (.slice A n c) ∧ n = SM.length ∧ W'.ownsRow W.heap.size 9 1 (.slice A n c) n (strv SM) ∧ Below W.heap.size W W') := hide (by intro W W' e hp; unfold ShownP at hp; rw [hSM] at hp; exact hp)
          rw [hSM] at HSf HSl
          have HSM := hide hSM
          clear hgm hbw2 hSM
          go_wp2_with fail
          refine HSh.out.mono ?_
          intro e w3 hp
          obtain ⟨A3, n3, c3, rfl, hn3, ho3, hb3⟩ := HShP.out _ _ _ hp
          have HN3 : Hid (SM.length = n3) := hide hn3.symm
          have HO3 := hide ho3
          have hn3b : n3 ≤ 1000000 := by have h1 := feedT_num SM; have h2 := HSf.out; rw [HN3.out] at h1; omega
          have HBw3 := hide (HBw2.out.trans (hb3.mono HBw2.out.size))
          have HBu3 := hide (builderF_below HBu2.out hb3)
          have hs3 := hb3.size
          clear hp hn3 ho3 hb3
          obtain ⟨wo, hwo⟩ : ∃ wo : World, wo = wr := ⟨_, rfl⟩
          subst hwo
          go_wp2
          go_loopw [28] (fun iv wr2 => ∃ j : Nat, j ≤ n3 ∧ iv = .int .i64 (j : Nat) ∧ Lib.IsBuilderF 57 5 w.heap.size w.heap.size (Lib.byteCells (textsM (ms.take q) ++ feedT (SM.take j))) wr2 ∧ wr2.ownsRow w2.heap.size 9 1 (.slice A3 n3 c3) n3 (strv SM) ∧ Below w.heap.size w wr2 ∧ w.heap.size < wr2.heap.size) (fun iv _ => n3 - (intOf iv).toNat)
          case atStart => exact ⟨0, Nat.zero_le _, rfl, by simpa [feedT] using HBu3.out, HO3.out, HBw3.out, by omega⟩
          case round =>
            obtain ⟨j, hj, rfl, hbu4, ho4, hbel4, hlt4⟩ := hrel
            have HBu4 := hide hbu4
            have HO4 := hide ho4
            have HB4 := hide hbel4
            have hs4 := hbel4.size
            by_cases hj3 : j < n3
            · have hstr := StrsAt.of_own ho4 (fun x hx => by have := HSl.out x hx; unfold maxLen; omega)
              obtain ⟨g4, o4, x4, rfl, hg4, hx4, _, hc4⟩ := hstr.at_ (k := j) hj3
              have hnc4 := hstr.2.1
              have HX4 : Hid (∃ y, SM[j]? = some y ∧ x4 = str y) := hide (by
                rw [List.getElem?_map, Option.map_eq_some_iff] at hx4
                obtain ⟨y, hy, rfl⟩ := hx4
                exact ⟨y, hy, rfl⟩)
              have hx4s : x4.size ≤ 200000 := by
                obtain ⟨y, hy, rfl⟩ := HX4.out
                rw [str_size]
                exact HSl.out y (List.mem_of_getElem? hy)
              have r0 : (0 : Int) ≤ (j : Int) := by omega
              have r1 : (j : Int) < (n3 : Int) := by omega
              have HF4 : Hid ((feedT (SM.take j)).length ≤ 1000000) := hide (by have h1 := feedT_take SM j; have h2 := HSf.out; omega)
              have HW4 := hide (builder_wsk w.heap.size w.heap.size (Lib.byteCells (textsM (ms.take q) ++ feedT (SM.take j))) (x4 ++ (⟨#[10]⟩ : ByteArray)) wr HBu4.out (by
                rw [Lib.byteCells_length, List.length_append]
                have h1 := HTl.out
                have h2 := HF4.out
                have h3 : (x4 ++ (⟨#[10]⟩ : ByteArray)).size = x4.size + 1 := by rw [ByteArray.size_append]; rfl
                omega) hs4)
              clear hbu4 ho4 hbel4 hstr hx4
              go_wp2_with fail
              refine HW4.out.mono ?_
              rintro e w5 ⟨rfl, hb5, hbe5, hk5⟩
              have HB5 : Hid (Lib.IsBuilderF 57 5 w.heap.size w.heap.size (Lib.byteCells (textsM (ms.take q) ++ feedT (SM.take (j + 1)))) w5) := hide (by
                obtain ⟨y, hy, rfl⟩ := HX4.out
                have e10 : (⟨#[10]⟩ : ByteArray) = str [10] := rfl
                rw [e10, cat_str, byteC_app] at hb5
                rw [List.take_add_one, hy, Option.toList_some, feedT_snoc, ← List.append_assoc]
                exact .inr hb5)
              have HO5 := hide (own_others HO4.out hk5 (by decide) (fun e => by have := own_low_block HO4.out _ e; omega))
              have HBl5 := hide (HB4.out.trans hbe5)
              have hs5 := hbe5.size
              clear hb5 hbe5 hk5
              go_wp2
              go_roundw
              case rel => exact ⟨j + 1, by omega, by go_num, HB5.out, HO5.out, HBl5.out, by omega⟩
              case measure => simp [intOf]; omega
            · obtain rfl : j = n3 := by omega
              have HB6 : Hid (Lib.IsBuilderF 57 5 w.heap.size w.heap.size (Lib.byteCells (textsM (ms.take (q + 1)))) wr) := hide (by
                have h1 := hbu4
                have hsm : SM.take j = SM := List.take_of_length_le (by rw [HN3.out]; exact Nat.le_refl _)
                rw [hsm] at h1
                rw [List.take_add_one, HX.out, Option.toList_some, textsM_snoc, HSM.out]
                exact h1)
              have HG6 : Hid (∀ m ∈ ms.take (q + 1), mvGood m = true) := hide (by
                rw [List.take_add_one, HX.out, Option.toList_some]
                intro m hm
                rcases List.mem_append.1 hm with hm | hm
                · exact HGd.out m hm
                · simp at hm; subst hm; exact HGm.out)
              clear hbu4 ho4 hbel4
              go_wp2
              go_roundw
              case rel => exact ⟨q + 1, by omega, by go_num, HB6.out, fun e => by omega, HB4.out, hlt4, HG6.out⟩
              case measure => simp [intOf]; omega
      · obtain rfl : q = n := by omega
        have hall : ms.take q = ms := List.take_of_length_le (by rw [HLn.out]; exact Nat.le_refl _)
        rw [hall] at HBu HGd
        have HAll := hide hall
        clear hbu hbu0 hbel hgd hall
        by_cases h0 : q = 0
        · subst h0
          have HM0 : Hid (ms = []) := hide (List.eq_nil_of_length_eq_zero HLn.out)
          have HS0 := hide (builder_strA w.heap.size w.heap.size [] wr (HBu0.out rfl) hsz)
          go_wp2_with fail
          refine HS0.out.mono ?_
          rintro e w2 ⟨rfl, hb⟩
          have HB2 := hide (HB.out.trans hb)
          clear hb
          go_wp2
          go_ret3
          refine ⟨?_, HB2.out⟩
          rw [HM0.out]
          exact .ok (by simp) (by simp)
        · have HS0 := hide (builder_strk w.heap.size w.heap.size (textsM ms) wr HBu.out (textsM_ne (fun e => h0 (by have := HLn.out; rw [e] at this; simpa using this.symm))))
          clear h0
          go_wp2_with fail
          refine HS0.out.mono ?_
          rintro e w2 ⟨rfl, _, hb, _⟩
          have HB2 := hide (HB.out.trans hb)
          clear hb
          go_wp2
          go_ret3
          exact ⟨.ok (by rw [HLn.out]; exact hn5) HGd.out, HB2.out⟩
end Go.Proofs.YtlfknndpbejbcaaGreatDoor
set_option linter.unusedSimpArgs false
set_option linter.unusedVariables false
namespace Go.Proofs.YtlfknndpbejbcaaGreatDoor
open Go.RowKit Go.WideShapes Go.ChangeShapes
attribute [local go_sem] Oper.semAt_some
theorem pieces_c10 (l : List UInt8) : pieces 10 (10 :: l) = [] :: pieces 10 l := by
  conv => lhs; unfold pieces
  rw [if_pos rfl]
theorem pieces_cne {x : UInt8} (h : x ≠ 10) (l : List UInt8) : pieces 10 (x :: l) = (x :: (pieces 10 l).headD []) :: (pieces 10 l).tail := by
  conv => lhs; unfold pieces
  rw [if_neg h]
theorem pieces_snoc {c : UInt8} (hc : c ≠ 10) : ∀ (r : List UInt8), ∃ q z, pieces 10 r = q ++ [z] ∧ pieces 10 (r ++ [c]) = q ++ [z ++ [c]]
  | [] => ⟨[], [], rfl, by rw [List.nil_append, pieces_cne hc]; rfl⟩
  | x :: l => by
    obtain ⟨q, z, h1, h2⟩ := pieces_snoc hc l
    rw [List.cons_append]
    by_cases hx : x = 10
    · subst hx
      exact ⟨[] :: q, z, by rw [pieces_c10, h1]; rfl, by rw [pieces_c10, h2]; rfl⟩
    · cases q with
      | nil => exact ⟨[], x :: z, by rw [pieces_cne hx, h1]; rfl, by rw [pieces_cne hx, h2]; rfl⟩
      | cons a q => exact ⟨(x :: a) :: q, z, by rw [pieces_cne hx, h1]; rfl, by rw [pieces_cne hx, h2]; rfl⟩
theorem lines_snoc10 (r : List UInt8) : linesM (r ++ [10]) = linesM r ++ [restM r] := by
  rw [linesM_end]
  unfold linesM restM
  exact (List.dropLast_concat_getLast (pieces_ne 10 r)).symm
theorem lines_snoc {c : UInt8} (hc : c ≠ 10) (r : List UInt8) : linesM (r ++ [c]) = linesM r := by
  obtain ⟨q, z, h1, h2⟩ := pieces_snoc hc r
  unfold linesM
  rw [h1, h2, List.dropLast_concat, List.dropLast_concat]
def fromM (r : List UInt8) : Nat := (feedT (linesM r)).length
theorem rest_drop (r : List UInt8) : restM r = r.drop (fromM r) := by
  have h := feed_all r
  have e : feedT ((pieces 10 r).dropLast) = feedT (linesM r) := rfl
  have e2 : (pieces 10 r).getLast (pieces_ne 10 r) = restM r := rfl
  rw [e, e2] at h
  have h2 := congrArg (List.drop (fromM r)) h
  rw [show fromM r = (feedT (linesM r)).length from rfl, List.drop_left] at h2
  exact h2
theorem from_le (r : List UInt8) : fromM r ≤ r.length := linesM_feed r
theorem from_snoc10 (r : List UInt8) : fromM (r ++ [10]) = r.length + 1 := by
  have h := congrArg List.length (feed_all r)
  have e : feedT ((pieces 10 r).dropLast) = feedT (linesM r) := rfl
  have e2 : (pieces 10 r).getLast (pieces_ne 10 r) = restM r := rfl
  rw [e, e2, List.length_append] at h
  unfold fromM
  rw [lines_snoc10, feedT_snoc, List.length_append, List.length_append]
  simp; omega
theorem cut_mid (t : List UInt8) (a b : Nat) (hb : b ≤ t.length) : (str t).extract a b = str ((t.take b).drop a) := by
  have : ((str t).extract a b).data = (str ((t.take b).drop a)).data := by
    rw [ByteArray.data_extract]
    unfold str
    apply Array.ext'
    simp only [Array.toList_extract, List.extract]
    rw [List.drop_take]
  cases hx : (str t).extract a b
  rw [hx] at this
  simp only at this
  rw [this]
set_option maxRecDepth 100000 in
set_option maxHeartbeats 4000000 in
theorem rlines_any (t : List UInt8) (hl : t.length ≤ 1000000) (w : World) :
    Calls Tryz.prog 13 #[.string (str t)] w fun e w' => ∃ A n c, e = .returned (.slice A n c) ∧ (linesM t).length = n ∧ w'.ownsRow w.heap.size 9 1 (.slice A n c) n (strv (linesM t)) ∧ Below w.heap.size w w' := by
  obtain ⟨i0, hi, hz0, hz1, hz2⟩ := info_parts infoStr
  have hsz : (str t).size = t.length := str_size t
  obtain ⟨T, hT⟩ : ∃ T, str t = T := ⟨_, rfl⟩
  rw [hT] at hsz ⊢
  have HT := hide hT
  have HN := hide hsz
  have hsb : T.size ≤ 1000000 := by omega
  have HM0 : Hid ((w.alloc (.cells #[] 9)).ownsRow w.heap.size 9 1 (.slice (some ⟨w.heap.size, 0, none⟩) 0 0) 0 []) := hide (World.ownsRow_made w #[] 0 (Nat.le_refl _) (by simp [maxLen]) (by simp))
  have HBe := hide ((Below.refl w.heap.size w).alloc (Nat.le_refl _) (.cells #[] 9))
  clear hT hsz
  go_enter Tryz.func13, Tryz.ntmps13
  go_wp2
  go_loopw [3, 4, 5] (fun lv fv iv wr => ∃ (i q f : Nat), i ≤ T.size ∧ iv = .int .i64 (i : Nat) ∧ fv = .int .i64 (f : Nat) ∧ f = fromM (t.take i) ∧ q = (linesM (t.take i)).length ∧ wr.ownsRow w.heap.size 9 1 lv q (strv (linesM (t.take i))) ∧ Below w.heap.size w wr) (fun _ _ iv _ => T.size - (intOf iv).toNat)
  case atStart => exact ⟨0, 0, 0, Nat.zero_le _, rfl, rfl, rfl, rfl, HM0.out, HBe.out⟩
  case round =>
    obtain ⟨i, q, f, hi2, rfl, rfl, hf, hq, hown, hbel⟩ := hrel
    obtain ⟨Al, cl, rfl⟩ := own_slice hown
    have HO := hide hown
    have HB := hide hbel
    have HF := hide hf
    have HQ := hide hq
    have hsw := hbel.size
    have hfi : f ≤ i := by
      rw [hf]
      have h1 := from_le (t.take i)
      rw [List.length_take] at h1
      omega
    have hqi : q ≤ i := by
      rw [hq]
      have h1 := linesM_len (t.take i)
      rw [List.length_take] at h1
      omega
    clear hown hbel hf hq
    have q0 : (0 : Int) ≤ (i : Int) := by omega
    have q2 : (0 : Int) ≤ (f : Int) := by omega
    have q3 : (f : Int) ≤ (i : Int) := by omega
    by_cases hlt : i < T.size
    · have q1 : (i : Int) < (T.size : Int) := by omega
      have q4 : (i : Int) ≤ (T.size : Int) := by omega
      obtain ⟨a, ha⟩ : ∃ a, t[i]? = some a := ⟨_, List.getElem?_eq_getElem (by have := HN.out; omega)⟩
      have hSa : ∀ h : i < T.size, T[i]'h = a := fun h => by
        have := str_at HT.out i h
        rw [ha] at this
        injection this with this
        exact this.symm
      have HTk : Hid (t.take (i + 1) = t.take i ++ [a]) := hide (by rw [List.take_add_one, ha]; rfl)
      by_cases h10 : a = 10
      · subst h10
        have HEx : Hid (T.extract f i = str (restM (t.take i))) := hide (by
          rw [← HT.out, cut_mid t f i (by have := HN.out; omega), rest_drop, ← HF.out])
        clear ha
        go_wp2_with (at_builtin; refine wpList_append_any _ rfl (.tmp 17) (.tmp 22) 37 rfl w.heap.size 9 i0 _ 1 16 Tryz.underlying37 hi hz0 hz1 hz2 rfl (by decide) (.slice Al q cl) q _ rfl (HO.out.alloc _) (wr.heap.size + 1) (some ⟨wr.heap.size, 0, none⟩) 1 1 [_] rfl (reads_blkN (Blk.new _ _ _) (Nat.lt_succ_self _) rfl rfl) (by simp [Value.oneCell']) (by unfold maxLen; omega) (by omega) (by simp; omega) ?_; intro v1 w3 hown hgrow hat; have HO3 := hide hown; have HB3 : Hid (Below w.heap.size w w3) := hide (Below.grown (HB.out.alloc hsw _) hgrow (by simp; omega) (fun k hk => own_low_block HO.out k hk)); clear hown hgrow hat)
        go_roundw
        case rel =>
          refine ⟨i + 1, q + 1, i + 1, by omega, by go_num, by go_num, ?_, ?_, ?_, HB3.out⟩
          · rw [HTk.out, from_snoc10, List.length_take]; have := HN.out; omega
          · rw [HTk.out, lines_snoc10, List.length_append, ← HQ.out]; rfl
          · have h3 := HO3.out
            rw [HEx.out] at h3
            rw [HTk.out, lines_snoc10, strv_snoc]
            exact h3
        case measure => simp [intOf]; omega
      · have e10 : ((a.toNat : Int) == 10) = false := by
          rw [beq_eq_false_iff_ne]
          intro h
          have h2 : a.toNat = 10 := by omega
          exact h10 (UInt8.toNat_inj.1 h2)
        have HL := hide (lines_snoc h10 (t.take i))
        clear ha h10
        go_wp2
        go_roundw
        case rel =>
          refine ⟨i + 1, q, f, by omega, by go_num, rfl, ?_, ?_, ?_, HB.out⟩
          · rw [HTk.out]; unfold fromM; rw [HL.out]; exact HF.out
          · rw [HTk.out, HL.out]; exact HQ.out
          · rw [HTk.out, HL.out]; exact HO.out
        case measure => simp [intOf]; omega
    · obtain rfl : i = T.size := by omega
      have HTk : Hid (t.take T.size = t) := hide (List.take_of_length_le (by rw [HN.out]; exact Nat.le_refl _))
      go_wp2
      go_ret
      exact ⟨Al, q, cl, rfl, by rw [HQ.out, HTk.out], by have := HO.out; rwa [HTk.out] at this, HB.out⟩
theorem rint_any (n : Nat) (h : n < 4294967296) (w : World) : Calls Tryz.prog 36 #[.int .i64 (n : Int)] w fun e w' => e = .returned (.string (str (Lib.decDigits n))) ∧ w = w' := by
  have HX := hide (num_any n (by omega) w)
  have hwr : IntKind.u64.wrap (n : Int) = (n : Int) := by rw [IntKind.wrap_u64]; omega
  have e1 : decide ((n : Int) < 0) = false := by simp
  go_enter Tryz.func36, Tryz.ntmps36
  go_wp2_with fail
  refine HX.out.mono ?_
  rintro e w1 ⟨rfl, rfl⟩
  go_wp2
  go_ret
  exact ⟨rfl, rfl⟩
end Go.Proofs.YtlfknndpbejbcaaGreatDoor
set_option linter.unusedSimpArgs false
set_option linter.unusedVariables false
namespace Go.Proofs.YtlfknndpbejbcaaGreatDoor
open Go.RowKit Go.WideShapes Go.ChangeShapes
attribute [local go_sem] Oper.semAt_some
set_option maxRecDepth 100000 in
set_option maxHeartbeats 16000000 in
theorem rshow_any (m : MV) (A : Option Addr) (n c : Nat) (w : World) (h : LstAt 1 byR w A n c m.b) (ok : MvOk m) (hg : mvGood m = true) :
    Calls Tryz.prog 24 #[mvV m (.slice A n c)] w (ShownP m w) := by
  obtain ⟨i0, hi, hz0, hz1, hz2⟩ := info_parts infoStr
  have hk := mvGood_k hg
  obtain ⟨k, p, nn, b, t, oa, oh, oi, fo⟩ := m
  obtain ⟨o1, o2, o3, o4, o5, o6⟩ := ok
  simp only at hk h o1 o2 o3 o4 o5 o6
  unfold mvV
  simp only
  obtain ⟨va, hva⟩ : ∃ va, Value.slice A n c = va := ⟨_, rfl⟩
  rw [hva]
  have HVa := hide hva
  have HLs := hide h
  have HG := hide hg
  clear h hg hva
  have hcase : k = 1 ∨ k = 2 ∨ k = 3 ∨ k = 4 ∨ k = 5 ∨ k = 6 ∨ k = 7 ∨ k = 8 ∨ k = 9 ∨ k = 10 := by omega
  have sz1 : (str (addrL p)).size ≤ 15 := by rw [str_size]; exact addrL_len p
  have sz2 : (str (addrL oi)).size ≤ 15 := by rw [str_size]; exact addrL_len oi
  have sz3 : (str (Lib.decDigits oa)).size ≤ 10 := by rw [str_size]; exact dec_len _ 9 (by omega)
  clear hk o4 o5 o6
  rcases hcase with rfl | rfl | rfl | rfl | rfl | rfl | rfl | rfl | rfl | rfl
  · have HK0 : Hid (Blk (((w.alloc (.cells #[.int .i64 1, .int .u32 (p : Int), .int .i64 nn, va, .string (str t), .int .u32 (oa : Int), .int .i64 oh, .int .u32 (oi : Int), .bool fo] 32)).alloc (.cells #[.string ⟨#[]⟩, .string ⟨#[115, 116, 97, 114, 116]⟩, .string ⟨#[115, 116, 111, 112]⟩, .string ⟨#[117, 112]⟩, .string ⟨#[100, 111, 119, 110]⟩, .string ⟨#[98, 121, 116, 101, 115]⟩, .string ⟨#[116, 105, 99, 107]⟩, .string ⟨#[99, 111, 110, 102, 105, 103]⟩, .string ⟨#[116, 97, 107, 101]⟩, .string ⟨#[114, 105, 118, 97, 108]⟩, .string ⟨#[114, 101, 115, 101, 116]⟩] 9)).alloc (.cells #[] 9)) w.heap.size 32 #[.int .i64 1, .int .u32 (p : Int), .int .i64 nn, va, .string (str t), .int .u32 (oa : Int), .int .i64 oh, .int .u32 (oi : Int), .bool fo]) := hide (((Blk.new w _ _).alloc _).alloc _)
    have HB0 : Hid (Below w.heap.size w (((w.alloc (.cells #[.int .i64 1, .int .u32 (p : Int), .int .i64 nn, va, .string (str t), .int .u32 (oa : Int), .int .i64 oh, .int .u32 (oi : Int), .bool fo] 32)).alloc (.cells #[.string ⟨#[]⟩, .string ⟨#[115, 116, 97, 114, 116]⟩, .string ⟨#[115, 116, 111, 112]⟩, .string ⟨#[117, 112]⟩, .string ⟨#[100, 111, 119, 110]⟩, .string ⟨#[98, 121, 116, 101, 115]⟩, .string ⟨#[116, 105, 99, 107]⟩, .string ⟨#[99, 111, 110, 102, 105, 103]⟩, .string ⟨#[116, 97, 107, 101]⟩, .string ⟨#[114, 105, 118, 97, 108]⟩, .string ⟨#[114, 101, 115, 101, 116]⟩] 9)).alloc (.cells #[] 9))) := hide ((((Below.refl _ w).alloc (Nat.le_refl _) _).alloc (by simp) _).alloc (by simp; omega) _)
    go_enter Tryz.func24, Tryz.ntmps24
    go_wp2_with fail
    refine (refAddr_any p (by omega) _).mono ?_
    rintro e w2 ⟨rfl, hw⟩
    have HK2 : Hid (Blk w2 w.heap.size 32 #[.int .i64 1, .int .u32 (p : Int), .int .i64 nn, va, .string (str t), .int .u32 (oa : Int), .int .i64 oh, .int .u32 (oi : Int), .bool fo]) := hide (by rw [← hw]; exact HK0.out)
    have HB2 : Hid (Below w.heap.size w w2) := hide (by rw [← hw]; exact HB0.out)
    have hl2 := HK2.out.lt
    clear hw
    have c0 : w2.cell? ⟨w.heap.size, 0, none⟩ = some (.int .i64 1) := HK2.out.cell 0
    have c1 : w2.cell? ⟨w.heap.size, 1, none⟩ = some (.int .u32 (p : Int)) := HK2.out.cell 1
    have c2 : w2.cell? ⟨w.heap.size, 2, none⟩ = some (.int .i64 nn) := HK2.out.cell 2
    have c3 : w2.cell? ⟨w.heap.size, 3, none⟩ = some (va) := HK2.out.cell 3
    have c4 : w2.cell? ⟨w.heap.size, 4, none⟩ = some (.string (str t)) := HK2.out.cell 4
    have c5 : w2.cell? ⟨w.heap.size, 5, none⟩ = some (.int .u32 (oa : Int)) := HK2.out.cell 5
    have c6 : w2.cell? ⟨w.heap.size, 6, none⟩ = some (.int .i64 oh) := HK2.out.cell 6
    have c7 : w2.cell? ⟨w.heap.size, 7, none⟩ = some (.int .u32 (oi : Int)) := HK2.out.cell 7
    have c8 : w2.cell? ⟨w.heap.size, 8, none⟩ = some (.bool fo) := HK2.out.cell 8
    have HJ : Hid ((⟨#[115, 116, 97, 114, 116]⟩ : ByteArray) ++ (⟨#[32]⟩ : ByteArray) ++ str (addrL p) = str (jw [wordM 1, addrL p])) := hide (by
      show str (wordM 1) ++ str [32] ++ str (addrL p) = _
      rw [cat_str, cat_str, jw_cons2, jw_one]; simp)
    go_wp2
    rw [HJ.out]
    go_loopw [6, 7] (fun lv iv wr => ∃ j : Nat, j ≤ 0 ∧ iv = .int .i64 (j : Nat) ∧ wr.ownsRow w2.heap.size 9 1 lv (1 + j) (strv ([jw [wordM 1, addrL p]] ++ (([] : List (List UInt8)).take j).map (124 :: ·))) ∧ Below w2.heap.size w2 wr) (fun _ iv _ => 0 - (intOf iv).toNat)
    case atStart => exact ⟨0, Nat.zero_le _, rfl, own_oneS _ (Nat.le_refl _), (Below.refl _ _).alloc (Nat.le_refl _) _⟩
    case round =>
      obtain ⟨j, hj, rfl, hown, hbel⟩ := hrel
      obtain ⟨A6, d6, rfl⟩ := own_slice hown
      have HO := hide hown
      have HB := hide hbel
      have hsw := hbel.size
      clear hown
      obtain rfl : j = 0 := by omega
      clear hbel
      go_wp2
      go_ret
      have HFn : Hid (shownM ⟨1, p, nn, b, t, oa, oh, oi, fo⟩ = [jw [wordM 1, addrL p]] ++ (([] : List (List UInt8)).take 0).map (124 :: ·)) := hide (by simp [shownM, headM, tailM, behM])
      exact ⟨A6, _, d6, rfl, by rw [HFn.out]; rfl, by rw [HFn.out]; exact own_baseLe HO.out HB2.out.size, HB2.out.trans (HB.out.mono HB2.out.size)⟩
  · have HK0 : Hid (Blk (((w.alloc (.cells #[.int .i64 2, .int .u32 (p : Int), .int .i64 nn, va, .string (str t), .int .u32 (oa : Int), .int .i64 oh, .int .u32 (oi : Int), .bool fo] 32)).alloc (.cells #[.string ⟨#[]⟩, .string ⟨#[115, 116, 97, 114, 116]⟩, .string ⟨#[115, 116, 111, 112]⟩, .string ⟨#[117, 112]⟩, .string ⟨#[100, 111, 119, 110]⟩, .string ⟨#[98, 121, 116, 101, 115]⟩, .string ⟨#[116, 105, 99, 107]⟩, .string ⟨#[99, 111, 110, 102, 105, 103]⟩, .string ⟨#[116, 97, 107, 101]⟩, .string ⟨#[114, 105, 118, 97, 108]⟩, .string ⟨#[114, 101, 115, 101, 116]⟩] 9)).alloc (.cells #[] 9)) w.heap.size 32 #[.int .i64 2, .int .u32 (p : Int), .int .i64 nn, va, .string (str t), .int .u32 (oa : Int), .int .i64 oh, .int .u32 (oi : Int), .bool fo]) := hide (((Blk.new w _ _).alloc _).alloc _)
    have HB0 : Hid (Below w.heap.size w (((w.alloc (.cells #[.int .i64 2, .int .u32 (p : Int), .int .i64 nn, va, .string (str t), .int .u32 (oa : Int), .int .i64 oh, .int .u32 (oi : Int), .bool fo] 32)).alloc (.cells #[.string ⟨#[]⟩, .string ⟨#[115, 116, 97, 114, 116]⟩, .string ⟨#[115, 116, 111, 112]⟩, .string ⟨#[117, 112]⟩, .string ⟨#[100, 111, 119, 110]⟩, .string ⟨#[98, 121, 116, 101, 115]⟩, .string ⟨#[116, 105, 99, 107]⟩, .string ⟨#[99, 111, 110, 102, 105, 103]⟩, .string ⟨#[116, 97, 107, 101]⟩, .string ⟨#[114, 105, 118, 97, 108]⟩, .string ⟨#[114, 101, 115, 101, 116]⟩] 9)).alloc (.cells #[] 9))) := hide ((((Below.refl _ w).alloc (Nat.le_refl _) _).alloc (by simp) _).alloc (by simp; omega) _)
    go_enter Tryz.func24, Tryz.ntmps24
    go_wp2_with fail
    refine (refAddr_any p (by omega) _).mono ?_
    rintro e w2 ⟨rfl, hw⟩
    have HK2 : Hid (Blk w2 w.heap.size 32 #[.int .i64 2, .int .u32 (p : Int), .int .i64 nn, va, .string (str t), .int .u32 (oa : Int), .int .i64 oh, .int .u32 (oi : Int), .bool fo]) := hide (by rw [← hw]; exact HK0.out)
    have HB2 : Hid (Below w.heap.size w w2) := hide (by rw [← hw]; exact HB0.out)
    have hl2 := HK2.out.lt
    clear hw
    have c0 : w2.cell? ⟨w.heap.size, 0, none⟩ = some (.int .i64 2) := HK2.out.cell 0
    have c1 : w2.cell? ⟨w.heap.size, 1, none⟩ = some (.int .u32 (p : Int)) := HK2.out.cell 1
    have c2 : w2.cell? ⟨w.heap.size, 2, none⟩ = some (.int .i64 nn) := HK2.out.cell 2
    have c3 : w2.cell? ⟨w.heap.size, 3, none⟩ = some (va) := HK2.out.cell 3
    have c4 : w2.cell? ⟨w.heap.size, 4, none⟩ = some (.string (str t)) := HK2.out.cell 4
    have c5 : w2.cell? ⟨w.heap.size, 5, none⟩ = some (.int .u32 (oa : Int)) := HK2.out.cell 5
    have c6 : w2.cell? ⟨w.heap.size, 6, none⟩ = some (.int .i64 oh) := HK2.out.cell 6
    have c7 : w2.cell? ⟨w.heap.size, 7, none⟩ = some (.int .u32 (oi : Int)) := HK2.out.cell 7
    have c8 : w2.cell? ⟨w.heap.size, 8, none⟩ = some (.bool fo) := HK2.out.cell 8
    have HJ : Hid ((⟨#[115, 116, 111, 112]⟩ : ByteArray) ++ (⟨#[32]⟩ : ByteArray) ++ str (addrL p) = str (jw [wordM 2, addrL p])) := hide (by
      show str (wordM 2) ++ str [32] ++ str (addrL p) = _
      rw [cat_str, cat_str, jw_cons2, jw_one]; simp)
    go_wp2
    rw [HJ.out]
    go_loopw [6, 7] (fun lv iv wr => ∃ j : Nat, j ≤ 0 ∧ iv = .int .i64 (j : Nat) ∧ wr.ownsRow w2.heap.size 9 1 lv (1 + j) (strv ([jw [wordM 2, addrL p]] ++ (([] : List (List UInt8)).take j).map (124 :: ·))) ∧ Below w2.heap.size w2 wr) (fun _ iv _ => 0 - (intOf iv).toNat)
    case atStart => exact ⟨0, Nat.zero_le _, rfl, own_oneS _ (Nat.le_refl _), (Below.refl _ _).alloc (Nat.le_refl _) _⟩
    case round =>
      obtain ⟨j, hj, rfl, hown, hbel⟩ := hrel
      obtain ⟨A6, d6, rfl⟩ := own_slice hown
      have HO := hide hown
      have HB := hide hbel
      have hsw := hbel.size
      clear hown
      obtain rfl : j = 0 := by omega
      clear hbel
      go_wp2
      go_ret
      have HFn : Hid (shownM ⟨2, p, nn, b, t, oa, oh, oi, fo⟩ = [jw [wordM 2, addrL p]] ++ (([] : List (List UInt8)).take 0).map (124 :: ·)) := hide (by simp [shownM, headM, tailM, behM])
      exact ⟨A6, _, d6, rfl, by rw [HFn.out]; rfl, by rw [HFn.out]; exact own_baseLe HO.out HB2.out.size, HB2.out.trans (HB.out.mono HB2.out.size)⟩
  · have HK0 : Hid (Blk (((w.alloc (.cells #[.int .i64 3, .int .u32 (p : Int), .int .i64 nn, va, .string (str t), .int .u32 (oa : Int), .int .i64 oh, .int .u32 (oi : Int), .bool fo] 32)).alloc (.cells #[.string ⟨#[]⟩, .string ⟨#[115, 116, 97, 114, 116]⟩, .string ⟨#[115, 116, 111, 112]⟩, .string ⟨#[117, 112]⟩, .string ⟨#[100, 111, 119, 110]⟩, .string ⟨#[98, 121, 116, 101, 115]⟩, .string ⟨#[116, 105, 99, 107]⟩, .string ⟨#[99, 111, 110, 102, 105, 103]⟩, .string ⟨#[116, 97, 107, 101]⟩, .string ⟨#[114, 105, 118, 97, 108]⟩, .string ⟨#[114, 101, 115, 101, 116]⟩] 9)).alloc (.cells #[] 9)) w.heap.size 32 #[.int .i64 3, .int .u32 (p : Int), .int .i64 nn, va, .string (str t), .int .u32 (oa : Int), .int .i64 oh, .int .u32 (oi : Int), .bool fo]) := hide (((Blk.new w _ _).alloc _).alloc _)
    have HB0 : Hid (Below w.heap.size w (((w.alloc (.cells #[.int .i64 3, .int .u32 (p : Int), .int .i64 nn, va, .string (str t), .int .u32 (oa : Int), .int .i64 oh, .int .u32 (oi : Int), .bool fo] 32)).alloc (.cells #[.string ⟨#[]⟩, .string ⟨#[115, 116, 97, 114, 116]⟩, .string ⟨#[115, 116, 111, 112]⟩, .string ⟨#[117, 112]⟩, .string ⟨#[100, 111, 119, 110]⟩, .string ⟨#[98, 121, 116, 101, 115]⟩, .string ⟨#[116, 105, 99, 107]⟩, .string ⟨#[99, 111, 110, 102, 105, 103]⟩, .string ⟨#[116, 97, 107, 101]⟩, .string ⟨#[114, 105, 118, 97, 108]⟩, .string ⟨#[114, 101, 115, 101, 116]⟩] 9)).alloc (.cells #[] 9))) := hide ((((Below.refl _ w).alloc (Nat.le_refl _) _).alloc (by simp) _).alloc (by simp; omega) _)
    go_enter Tryz.func24, Tryz.ntmps24
    go_wp2_with fail
    refine (refAddr_any p (by omega) _).mono ?_
    rintro e w2 ⟨rfl, hw⟩
    have HK2 : Hid (Blk w2 w.heap.size 32 #[.int .i64 3, .int .u32 (p : Int), .int .i64 nn, va, .string (str t), .int .u32 (oa : Int), .int .i64 oh, .int .u32 (oi : Int), .bool fo]) := hide (by rw [← hw]; exact HK0.out)
    have HB2 : Hid (Below w.heap.size w w2) := hide (by rw [← hw]; exact HB0.out)
    have hl2 := HK2.out.lt
    clear hw
    have c0 : w2.cell? ⟨w.heap.size, 0, none⟩ = some (.int .i64 3) := HK2.out.cell 0
    have c1 : w2.cell? ⟨w.heap.size, 1, none⟩ = some (.int .u32 (p : Int)) := HK2.out.cell 1
    have c2 : w2.cell? ⟨w.heap.size, 2, none⟩ = some (.int .i64 nn) := HK2.out.cell 2
    have c3 : w2.cell? ⟨w.heap.size, 3, none⟩ = some (va) := HK2.out.cell 3
    have c4 : w2.cell? ⟨w.heap.size, 4, none⟩ = some (.string (str t)) := HK2.out.cell 4
    have c5 : w2.cell? ⟨w.heap.size, 5, none⟩ = some (.int .u32 (oa : Int)) := HK2.out.cell 5
    have c6 : w2.cell? ⟨w.heap.size, 6, none⟩ = some (.int .i64 oh) := HK2.out.cell 6
    have c7 : w2.cell? ⟨w.heap.size, 7, none⟩ = some (.int .u32 (oi : Int)) := HK2.out.cell 7
    have c8 : w2.cell? ⟨w.heap.size, 8, none⟩ = some (.bool fo) := HK2.out.cell 8
    have HJ : Hid ((⟨#[117, 112]⟩ : ByteArray) ++ (⟨#[32]⟩ : ByteArray) ++ str (addrL p) = str (jw [wordM 3, addrL p])) := hide (by
      show str (wordM 3) ++ str [32] ++ str (addrL p) = _
      rw [cat_str, cat_str, jw_cons2, jw_one]; simp)
    go_wp2
    rw [HJ.out]
    go_loopw [6, 7] (fun lv iv wr => ∃ j : Nat, j ≤ 0 ∧ iv = .int .i64 (j : Nat) ∧ wr.ownsRow w2.heap.size 9 1 lv (1 + j) (strv ([jw [wordM 3, addrL p]] ++ (([] : List (List UInt8)).take j).map (124 :: ·))) ∧ Below w2.heap.size w2 wr) (fun _ iv _ => 0 - (intOf iv).toNat)
    case atStart => exact ⟨0, Nat.zero_le _, rfl, own_oneS _ (Nat.le_refl _), (Below.refl _ _).alloc (Nat.le_refl _) _⟩
    case round =>
      obtain ⟨j, hj, rfl, hown, hbel⟩ := hrel
      obtain ⟨A6, d6, rfl⟩ := own_slice hown
      have HO := hide hown
      have HB := hide hbel
      have hsw := hbel.size
      clear hown
      obtain rfl : j = 0 := by omega
      clear hbel
      go_wp2
      go_ret
      have HFn : Hid (shownM ⟨3, p, nn, b, t, oa, oh, oi, fo⟩ = [jw [wordM 3, addrL p]] ++ (([] : List (List UInt8)).take 0).map (124 :: ·)) := hide (by simp [shownM, headM, tailM, behM])
      exact ⟨A6, _, d6, rfl, by rw [HFn.out]; rfl, by rw [HFn.out]; exact own_baseLe HO.out HB2.out.size, HB2.out.trans (HB.out.mono HB2.out.size)⟩
  · have HK0 : Hid (Blk (((w.alloc (.cells #[.int .i64 4, .int .u32 (p : Int), .int .i64 nn, va, .string (str t), .int .u32 (oa : Int), .int .i64 oh, .int .u32 (oi : Int), .bool fo] 32)).alloc (.cells #[.string ⟨#[]⟩, .string ⟨#[115, 116, 97, 114, 116]⟩, .string ⟨#[115, 116, 111, 112]⟩, .string ⟨#[117, 112]⟩, .string ⟨#[100, 111, 119, 110]⟩, .string ⟨#[98, 121, 116, 101, 115]⟩, .string ⟨#[116, 105, 99, 107]⟩, .string ⟨#[99, 111, 110, 102, 105, 103]⟩, .string ⟨#[116, 97, 107, 101]⟩, .string ⟨#[114, 105, 118, 97, 108]⟩, .string ⟨#[114, 101, 115, 101, 116]⟩] 9)).alloc (.cells #[] 9)) w.heap.size 32 #[.int .i64 4, .int .u32 (p : Int), .int .i64 nn, va, .string (str t), .int .u32 (oa : Int), .int .i64 oh, .int .u32 (oi : Int), .bool fo]) := hide (((Blk.new w _ _).alloc _).alloc _)
    have HB0 : Hid (Below w.heap.size w (((w.alloc (.cells #[.int .i64 4, .int .u32 (p : Int), .int .i64 nn, va, .string (str t), .int .u32 (oa : Int), .int .i64 oh, .int .u32 (oi : Int), .bool fo] 32)).alloc (.cells #[.string ⟨#[]⟩, .string ⟨#[115, 116, 97, 114, 116]⟩, .string ⟨#[115, 116, 111, 112]⟩, .string ⟨#[117, 112]⟩, .string ⟨#[100, 111, 119, 110]⟩, .string ⟨#[98, 121, 116, 101, 115]⟩, .string ⟨#[116, 105, 99, 107]⟩, .string ⟨#[99, 111, 110, 102, 105, 103]⟩, .string ⟨#[116, 97, 107, 101]⟩, .string ⟨#[114, 105, 118, 97, 108]⟩, .string ⟨#[114, 101, 115, 101, 116]⟩] 9)).alloc (.cells #[] 9))) := hide ((((Below.refl _ w).alloc (Nat.le_refl _) _).alloc (by simp) _).alloc (by simp; omega) _)
    go_enter Tryz.func24, Tryz.ntmps24
    go_wp2_with fail
    refine (refAddr_any p (by omega) _).mono ?_
    rintro e w2 ⟨rfl, hw⟩
    have HK2 : Hid (Blk w2 w.heap.size 32 #[.int .i64 4, .int .u32 (p : Int), .int .i64 nn, va, .string (str t), .int .u32 (oa : Int), .int .i64 oh, .int .u32 (oi : Int), .bool fo]) := hide (by rw [← hw]; exact HK0.out)
    have HB2 : Hid (Below w.heap.size w w2) := hide (by rw [← hw]; exact HB0.out)
    have hl2 := HK2.out.lt
    clear hw
    have c0 : w2.cell? ⟨w.heap.size, 0, none⟩ = some (.int .i64 4) := HK2.out.cell 0
    have c1 : w2.cell? ⟨w.heap.size, 1, none⟩ = some (.int .u32 (p : Int)) := HK2.out.cell 1
    have c2 : w2.cell? ⟨w.heap.size, 2, none⟩ = some (.int .i64 nn) := HK2.out.cell 2
    have c3 : w2.cell? ⟨w.heap.size, 3, none⟩ = some (va) := HK2.out.cell 3
    have c4 : w2.cell? ⟨w.heap.size, 4, none⟩ = some (.string (str t)) := HK2.out.cell 4
    have c5 : w2.cell? ⟨w.heap.size, 5, none⟩ = some (.int .u32 (oa : Int)) := HK2.out.cell 5
    have c6 : w2.cell? ⟨w.heap.size, 6, none⟩ = some (.int .i64 oh) := HK2.out.cell 6
    have c7 : w2.cell? ⟨w.heap.size, 7, none⟩ = some (.int .u32 (oi : Int)) := HK2.out.cell 7
    have c8 : w2.cell? ⟨w.heap.size, 8, none⟩ = some (.bool fo) := HK2.out.cell 8
    have HJ : Hid ((⟨#[100, 111, 119, 110]⟩ : ByteArray) ++ (⟨#[32]⟩ : ByteArray) ++ str (addrL p) = str (jw [wordM 4, addrL p])) := hide (by
      show str (wordM 4) ++ str [32] ++ str (addrL p) = _
      rw [cat_str, cat_str, jw_cons2, jw_one]; simp)
    go_wp2
    rw [HJ.out]
    go_loopw [6, 7] (fun lv iv wr => ∃ j : Nat, j ≤ 0 ∧ iv = .int .i64 (j : Nat) ∧ wr.ownsRow w2.heap.size 9 1 lv (1 + j) (strv ([jw [wordM 4, addrL p]] ++ (([] : List (List UInt8)).take j).map (124 :: ·))) ∧ Below w2.heap.size w2 wr) (fun _ iv _ => 0 - (intOf iv).toNat)
    case atStart => exact ⟨0, Nat.zero_le _, rfl, own_oneS _ (Nat.le_refl _), (Below.refl _ _).alloc (Nat.le_refl _) _⟩
    case round =>
      obtain ⟨j, hj, rfl, hown, hbel⟩ := hrel
      obtain ⟨A6, d6, rfl⟩ := own_slice hown
      have HO := hide hown
      have HB := hide hbel
      have hsw := hbel.size
      clear hown
      obtain rfl : j = 0 := by omega
      clear hbel
      go_wp2
      go_ret
      have HFn : Hid (shownM ⟨4, p, nn, b, t, oa, oh, oi, fo⟩ = [jw [wordM 4, addrL p]] ++ (([] : List (List UInt8)).take 0).map (124 :: ·)) := hide (by simp [shownM, headM, tailM, behM])
      exact ⟨A6, _, d6, rfl, by rw [HFn.out]; rfl, by rw [HFn.out]; exact own_baseLe HO.out HB2.out.size, HB2.out.trans (HB.out.mono HB2.out.size)⟩
  · have sz4 : (str (hexT b)).size ≤ 10000 := by rw [str_size]; have h1 := hexT_len b; have := HG.out; unfold mvGood at this; simp at this; omega
    have hnb : n ≤ 1000000 := by have := HG.out; unfold mvGood at this; simp at this; have := HLs.out.1; omega
    have HK0 : Hid (Blk (((w.alloc (.cells #[.int .i64 5, .int .u32 (p : Int), .int .i64 nn, va, .string (str t), .int .u32 (oa : Int), .int .i64 oh, .int .u32 (oi : Int), .bool fo] 32)).alloc (.cells #[.string ⟨#[]⟩, .string ⟨#[115, 116, 97, 114, 116]⟩, .string ⟨#[115, 116, 111, 112]⟩, .string ⟨#[117, 112]⟩, .string ⟨#[100, 111, 119, 110]⟩, .string ⟨#[98, 121, 116, 101, 115]⟩, .string ⟨#[116, 105, 99, 107]⟩, .string ⟨#[99, 111, 110, 102, 105, 103]⟩, .string ⟨#[116, 97, 107, 101]⟩, .string ⟨#[114, 105, 118, 97, 108]⟩, .string ⟨#[114, 101, 115, 101, 116]⟩] 9)).alloc (.cells #[] 9)) w.heap.size 32 #[.int .i64 5, .int .u32 (p : Int), .int .i64 nn, va, .string (str t), .int .u32 (oa : Int), .int .i64 oh, .int .u32 (oi : Int), .bool fo]) := hide (((Blk.new w _ _).alloc _).alloc _)
    have HB0 : Hid (Below w.heap.size w (((w.alloc (.cells #[.int .i64 5, .int .u32 (p : Int), .int .i64 nn, va, .string (str t), .int .u32 (oa : Int), .int .i64 oh, .int .u32 (oi : Int), .bool fo] 32)).alloc (.cells #[.string ⟨#[]⟩, .string ⟨#[115, 116, 97, 114, 116]⟩, .string ⟨#[115, 116, 111, 112]⟩, .string ⟨#[117, 112]⟩, .string ⟨#[100, 111, 119, 110]⟩, .string ⟨#[98, 121, 116, 101, 115]⟩, .string ⟨#[116, 105, 99, 107]⟩, .string ⟨#[99, 111, 110, 102, 105, 103]⟩, .string ⟨#[116, 97, 107, 101]⟩, .string ⟨#[114, 105, 118, 97, 108]⟩, .string ⟨#[114, 101, 115, 101, 116]⟩] 9)).alloc (.cells #[] 9))) := hide ((((Below.refl _ w).alloc (Nat.le_refl _) _).alloc (by simp) _).alloc (by simp; omega) _)
    go_enter Tryz.func24, Tryz.ntmps24
    go_wp2_with fail
    refine (refAddr_any p (by omega) _).mono ?_
    rintro e w2 ⟨rfl, hw⟩
    have HK2 : Hid (Blk w2 w.heap.size 32 #[.int .i64 5, .int .u32 (p : Int), .int .i64 nn, va, .string (str t), .int .u32 (oa : Int), .int .i64 oh, .int .u32 (oi : Int), .bool fo]) := hide (by rw [← hw]; exact HK0.out)
    have HB2 : Hid (Below w.heap.size w w2) := hide (by rw [← hw]; exact HB0.out)
    have hl2 := HK2.out.lt
    clear hw
    have c0 : w2.cell? ⟨w.heap.size, 0, none⟩ = some (.int .i64 5) := HK2.out.cell 0
    have c1 : w2.cell? ⟨w.heap.size, 1, none⟩ = some (.int .u32 (p : Int)) := HK2.out.cell 1
    have c2 : w2.cell? ⟨w.heap.size, 2, none⟩ = some (.int .i64 nn) := HK2.out.cell 2
    have c3 : w2.cell? ⟨w.heap.size, 3, none⟩ = some (va) := HK2.out.cell 3
    have c4 : w2.cell? ⟨w.heap.size, 4, none⟩ = some (.string (str t)) := HK2.out.cell 4
    have c5 : w2.cell? ⟨w.heap.size, 5, none⟩ = some (.int .u32 (oa : Int)) := HK2.out.cell 5
    have c6 : w2.cell? ⟨w.heap.size, 6, none⟩ = some (.int .i64 oh) := HK2.out.cell 6
    have c7 : w2.cell? ⟨w.heap.size, 7, none⟩ = some (.int .u32 (oi : Int)) := HK2.out.cell 7
    have c8 : w2.cell? ⟨w.heap.size, 8, none⟩ = some (.bool fo) := HK2.out.cell 8
    have HHx := rhex_any A n c b w2 (HLs.out.below byMono HB2.out) hnb
    rw [HVa.out] at HHx
    have HHx := hide HHx
    go_wp2_with fail
    refine HHx.out.mono ?_
    rintro e w3 ⟨rfl, hb⟩
    have HK3 := hide (HK2.out.below hb HK2.out.lt)
    have HB3 := hide (HB2.out.trans (hb.mono HB2.out.size))
    have hl3 := HK3.out.lt
    clear hb c0 c1 c2 c3 c4 c5 c6 c7 c8
    have c0 : w3.cell? ⟨w.heap.size, 0, none⟩ = some (.int .i64 5) := HK3.out.cell 0
    have c1 : w3.cell? ⟨w.heap.size, 1, none⟩ = some (.int .u32 (p : Int)) := HK3.out.cell 1
    have c2 : w3.cell? ⟨w.heap.size, 2, none⟩ = some (.int .i64 nn) := HK3.out.cell 2
    have c3 : w3.cell? ⟨w.heap.size, 3, none⟩ = some (va) := HK3.out.cell 3
    have c4 : w3.cell? ⟨w.heap.size, 4, none⟩ = some (.string (str t)) := HK3.out.cell 4
    have c5 : w3.cell? ⟨w.heap.size, 5, none⟩ = some (.int .u32 (oa : Int)) := HK3.out.cell 5
    have c6 : w3.cell? ⟨w.heap.size, 6, none⟩ = some (.int .i64 oh) := HK3.out.cell 6
    have c7 : w3.cell? ⟨w.heap.size, 7, none⟩ = some (.int .u32 (oi : Int)) := HK3.out.cell 7
    have c8 : w3.cell? ⟨w.heap.size, 8, none⟩ = some (.bool fo) := HK3.out.cell 8
    have HJ : Hid ((⟨#[98, 121, 116, 101, 115]⟩ : ByteArray) ++ (⟨#[32]⟩ : ByteArray) ++ str (addrL p) ++ (⟨#[32]⟩ : ByteArray) ++ str (hexT b) = str (jw [wordM 5, addrL p, hexT b])) := hide (by
      show str (wordM 5) ++ str [32] ++ str (addrL p) ++ str [32] ++ str (hexT b) = _
      rw [cat_str, cat_str, cat_str, cat_str, jw_cons2, jw_cons2, jw_one]; simp)
    go_wp2
    rw [HJ.out]
    go_loopw [6, 7] (fun lv iv wr => ∃ j : Nat, j ≤ 0 ∧ iv = .int .i64 (j : Nat) ∧ wr.ownsRow w3.heap.size 9 1 lv (1 + j) (strv ([jw [wordM 5, addrL p, hexT b]] ++ (([] : List (List UInt8)).take j).map (124 :: ·))) ∧ Below w3.heap.size w3 wr) (fun _ iv _ => 0 - (intOf iv).toNat)
    case atStart => exact ⟨0, Nat.zero_le _, rfl, own_oneS _ (Nat.le_refl _), (Below.refl _ _).alloc (Nat.le_refl _) _⟩
    case round =>
      obtain ⟨j, hj, rfl, hown, hbel⟩ := hrel
      obtain ⟨A6, d6, rfl⟩ := own_slice hown
      have HO := hide hown
      have HB := hide hbel
      have hsw := hbel.size
      clear hown
      obtain rfl : j = 0 := by omega
      clear hbel
      go_wp2
      go_ret
      have HFn : Hid (shownM ⟨5, p, nn, b, t, oa, oh, oi, fo⟩ = [jw [wordM 5, addrL p, hexT b]] ++ (([] : List (List UInt8)).take 0).map (124 :: ·)) := hide (by simp [shownM, headM, tailM, behM])
      exact ⟨A6, _, d6, rfl, by rw [HFn.out]; rfl, by rw [HFn.out]; exact own_baseLe HO.out HB3.out.size, HB3.out.trans (HB.out.mono HB3.out.size)⟩
  · have HK0 : Hid (Blk (((w.alloc (.cells #[.int .i64 6, .int .u32 (p : Int), .int .i64 nn, va, .string (str t), .int .u32 (oa : Int), .int .i64 oh, .int .u32 (oi : Int), .bool fo] 32)).alloc (.cells #[.string ⟨#[]⟩, .string ⟨#[115, 116, 97, 114, 116]⟩, .string ⟨#[115, 116, 111, 112]⟩, .string ⟨#[117, 112]⟩, .string ⟨#[100, 111, 119, 110]⟩, .string ⟨#[98, 121, 116, 101, 115]⟩, .string ⟨#[116, 105, 99, 107]⟩, .string ⟨#[99, 111, 110, 102, 105, 103]⟩, .string ⟨#[116, 97, 107, 101]⟩, .string ⟨#[114, 105, 118, 97, 108]⟩, .string ⟨#[114, 101, 115, 101, 116]⟩] 9)).alloc (.cells #[] 9)) w.heap.size 32 #[.int .i64 6, .int .u32 (p : Int), .int .i64 nn, va, .string (str t), .int .u32 (oa : Int), .int .i64 oh, .int .u32 (oi : Int), .bool fo]) := hide (((Blk.new w _ _).alloc _).alloc _)
    have HB0 : Hid (Below w.heap.size w (((w.alloc (.cells #[.int .i64 6, .int .u32 (p : Int), .int .i64 nn, va, .string (str t), .int .u32 (oa : Int), .int .i64 oh, .int .u32 (oi : Int), .bool fo] 32)).alloc (.cells #[.string ⟨#[]⟩, .string ⟨#[115, 116, 97, 114, 116]⟩, .string ⟨#[115, 116, 111, 112]⟩, .string ⟨#[117, 112]⟩, .string ⟨#[100, 111, 119, 110]⟩, .string ⟨#[98, 121, 116, 101, 115]⟩, .string ⟨#[116, 105, 99, 107]⟩, .string ⟨#[99, 111, 110, 102, 105, 103]⟩, .string ⟨#[116, 97, 107, 101]⟩, .string ⟨#[114, 105, 118, 97, 108]⟩, .string ⟨#[114, 101, 115, 101, 116]⟩] 9)).alloc (.cells #[] 9))) := hide ((((Below.refl _ w).alloc (Nat.le_refl _) _).alloc (by simp) _).alloc (by simp; omega) _)
    obtain ⟨w2, hw2⟩ : ∃ x, ((w.alloc (.cells #[.int .i64 6, .int .u32 (p : Int), .int .i64 nn, va, .string (str t), .int .u32 (oa : Int), .int .i64 oh, .int .u32 (oi : Int), .bool fo] 32)).alloc (.cells #[.string ⟨#[]⟩, .string ⟨#[115, 116, 97, 114, 116]⟩, .string ⟨#[115, 116, 111, 112]⟩, .string ⟨#[117, 112]⟩, .string ⟨#[100, 111, 119, 110]⟩, .string ⟨#[98, 121, 116, 101, 115]⟩, .string ⟨#[116, 105, 99, 107]⟩, .string ⟨#[99, 111, 110, 102, 105, 103]⟩, .string ⟨#[116, 97, 107, 101]⟩, .string ⟨#[114, 105, 118, 97, 108]⟩, .string ⟨#[114, 101, 115, 101, 116]⟩] 9)).alloc (.cells #[] 9) = x := ⟨_, rfl⟩
    have HB2 : Hid (Below w.heap.size w w2) := hide (by rw [← hw2]; exact HB0.out)
    have HJ : Hid ((⟨#[116, 105, 99, 107]⟩ : ByteArray) = str (jw [wordM 6])) := hide (by rw [jw_one]; rfl)
    have HW2 := hide hw2
    clear hw2
    go_enter Tryz.func24, Tryz.ntmps24
    go_wp2
    rw [HW2.out, HJ.out]
    have hs2 : w2.heap.size = w.heap.size + 1 + 1 + 1 := by rw [← HW2.out]; simp
    go_loopw [6, 7] (fun lv iv wr => ∃ j : Nat, j ≤ 0 ∧ iv = .int .i64 (j : Nat) ∧ wr.ownsRow w2.heap.size 9 1 lv (1 + j) (strv ([jw [wordM 6]] ++ (([] : List (List UInt8)).take j).map (124 :: ·))) ∧ Below w2.heap.size w2 wr) (fun _ iv _ => 0 - (intOf iv).toNat)
    case atStart => exact ⟨0, Nat.zero_le _, rfl, by have h1 := own_oneS (w := w2) (base := w2.heap.size) (.string (str (jw [wordM 6]))) (Nat.le_refl _); rw [show w.heap.size + 1 + 1 + 1 = w2.heap.size from hs2.symm]; exact h1, (Below.refl _ _).alloc (Nat.le_refl _) _⟩
    case round =>
      obtain ⟨j, hj, rfl, hown, hbel⟩ := hrel
      obtain ⟨A6, d6, rfl⟩ := own_slice hown
      have HO := hide hown
      have HB := hide hbel
      have hsw := hbel.size
      clear hown
      obtain rfl : j = 0 := by omega
      clear hbel
      go_wp2
      go_ret
      have HFn : Hid (shownM ⟨6, p, nn, b, t, oa, oh, oi, fo⟩ = [jw [wordM 6]] ++ (([] : List (List UInt8)).take 0).map (124 :: ·)) := hide (by simp [shownM, headM, tailM, behM])
      exact ⟨A6, _, d6, rfl, by rw [HFn.out]; rfl, by rw [HFn.out]; exact own_baseLe HO.out HB2.out.size, HB2.out.trans (HB.out.mono HB2.out.size)⟩
  · have HK0 : Hid (Blk (((w.alloc (.cells #[.int .i64 7, .int .u32 (p : Int), .int .i64 nn, va, .string (str t), .int .u32 (oa : Int), .int .i64 oh, .int .u32 (oi : Int), .bool fo] 32)).alloc (.cells #[.string ⟨#[]⟩, .string ⟨#[115, 116, 97, 114, 116]⟩, .string ⟨#[115, 116, 111, 112]⟩, .string ⟨#[117, 112]⟩, .string ⟨#[100, 111, 119, 110]⟩, .string ⟨#[98, 121, 116, 101, 115]⟩, .string ⟨#[116, 105, 99, 107]⟩, .string ⟨#[99, 111, 110, 102, 105, 103]⟩, .string ⟨#[116, 97, 107, 101]⟩, .string ⟨#[114, 105, 118, 97, 108]⟩, .string ⟨#[114, 101, 115, 101, 116]⟩] 9)).alloc (.cells #[] 9)) w.heap.size 32 #[.int .i64 7, .int .u32 (p : Int), .int .i64 nn, va, .string (str t), .int .u32 (oa : Int), .int .i64 oh, .int .u32 (oi : Int), .bool fo]) := hide (((Blk.new w _ _).alloc _).alloc _)
    have HB0 : Hid (Below w.heap.size w (((w.alloc (.cells #[.int .i64 7, .int .u32 (p : Int), .int .i64 nn, va, .string (str t), .int .u32 (oa : Int), .int .i64 oh, .int .u32 (oi : Int), .bool fo] 32)).alloc (.cells #[.string ⟨#[]⟩, .string ⟨#[115, 116, 97, 114, 116]⟩, .string ⟨#[115, 116, 111, 112]⟩, .string ⟨#[117, 112]⟩, .string ⟨#[100, 111, 119, 110]⟩, .string ⟨#[98, 121, 116, 101, 115]⟩, .string ⟨#[116, 105, 99, 107]⟩, .string ⟨#[99, 111, 110, 102, 105, 103]⟩, .string ⟨#[116, 97, 107, 101]⟩, .string ⟨#[114, 105, 118, 97, 108]⟩, .string ⟨#[114, 101, 115, 101, 116]⟩] 9)).alloc (.cells #[] 9))) := hide ((((Below.refl _ w).alloc (Nat.le_refl _) _).alloc (by simp) _).alloc (by simp; omega) _)
    have HG7 : Hid (t.length ≤ 100000) := hide (by have := HG.out; unfold mvGood at this; simp at this; exact this.1)
    have HLi := hide (fun W => rlines_any t (by have := HG7.out; omega) W)
    obtain ⟨L7, hL7⟩ : ∃ L, linesM t = L := ⟨_, rfl⟩
    have hl7 := linesM_len t
    rw [hL7] at HLi hl7
    have hl7b : L7.length ≤ 100000 := by have := HG7.out; omega
    have HLe : Hid (∀ x ∈ L7, x.length ≤ 100000) := hide (fun x hx => by rw [← hL7] at hx; have := linesM_each t x hx; have := HG7.out; omega)
    have HLL := hide hL7
    clear hL7 hl7
    go_enter Tryz.func24, Tryz.ntmps24
    go_wp2_with fail
    refine (HLi.out _).mono ?_
    rintro e w2 ⟨A7, n7, d7, rfl, hn7, ho, hb⟩
    have HN7 : Hid (L7.length = n7) := hide hn7
    have HS7 := hide (StrsAt.of_own ho (fun x hx => by have := HLe.out x hx; unfold maxLen; omega))
    have HK2 := hide (HK0.out.below hb HK0.out.lt)
    have HB2 := hide (HB0.out.trans (hb.mono HB0.out.size))
    have hl2 := HK2.out.lt
    have hn7b : n7 ≤ 100000 := by omega
    have sz4 : (str (Lib.decDigits n7)).size ≤ 10 := by rw [str_size]; exact dec_len _ 9 (by omega)
    clear hb ho hn7 hl7b
    have c0 : w2.cell? ⟨w.heap.size, 0, none⟩ = some (.int .i64 7) := HK2.out.cell 0
    have c1 : w2.cell? ⟨w.heap.size, 1, none⟩ = some (.int .u32 (p : Int)) := HK2.out.cell 1
    have c2 : w2.cell? ⟨w.heap.size, 2, none⟩ = some (.int .i64 nn) := HK2.out.cell 2
    have c3 : w2.cell? ⟨w.heap.size, 3, none⟩ = some (va) := HK2.out.cell 3
    have c4 : w2.cell? ⟨w.heap.size, 4, none⟩ = some (.string (str t)) := HK2.out.cell 4
    have c5 : w2.cell? ⟨w.heap.size, 5, none⟩ = some (.int .u32 (oa : Int)) := HK2.out.cell 5
    have c6 : w2.cell? ⟨w.heap.size, 6, none⟩ = some (.int .i64 oh) := HK2.out.cell 6
    have c7 : w2.cell? ⟨w.heap.size, 7, none⟩ = some (.int .u32 (oi : Int)) := HK2.out.cell 7
    have c8 : w2.cell? ⟨w.heap.size, 8, none⟩ = some (.bool fo) := HK2.out.cell 8
    go_wp2_with fail
    refine (rint_any n7 (by omega) _).mono ?_
    rintro e w3 ⟨rfl, hw⟩
    have HK3 : Hid (Blk w3 w.heap.size 32 #[.int .i64 7, .int .u32 (p : Int), .int .i64 nn, va, .string (str t), .int .u32 (oa : Int), .int .i64 oh, .int .u32 (oi : Int), .bool fo]) := hide (by rw [← hw]; exact HK2.out)
    have HB3 : Hid (Below w.heap.size w w3) := hide (by rw [← hw]; exact HB2.out)
    have HS3 : Hid (StrsAt w3 A7 n7 d7 (L7.map str)) := hide (by rw [← hw]; exact HS7.out)
    have hl3 := HK3.out.lt
    clear hw c0 c1 c2 c3 c4 c5 c6 c7 c8
    have c0 : w3.cell? ⟨w.heap.size, 0, none⟩ = some (.int .i64 7) := HK3.out.cell 0
    have c1 : w3.cell? ⟨w.heap.size, 1, none⟩ = some (.int .u32 (p : Int)) := HK3.out.cell 1
    have c2 : w3.cell? ⟨w.heap.size, 2, none⟩ = some (.int .i64 nn) := HK3.out.cell 2
    have c3 : w3.cell? ⟨w.heap.size, 3, none⟩ = some (va) := HK3.out.cell 3
    have c4 : w3.cell? ⟨w.heap.size, 4, none⟩ = some (.string (str t)) := HK3.out.cell 4
    have c5 : w3.cell? ⟨w.heap.size, 5, none⟩ = some (.int .u32 (oa : Int)) := HK3.out.cell 5
    have c6 : w3.cell? ⟨w.heap.size, 6, none⟩ = some (.int .i64 oh) := HK3.out.cell 6
    have c7 : w3.cell? ⟨w.heap.size, 7, none⟩ = some (.int .u32 (oi : Int)) := HK3.out.cell 7
    have c8 : w3.cell? ⟨w.heap.size, 8, none⟩ = some (.bool fo) := HK3.out.cell 8
    have HJ : Hid ((⟨#[99, 111, 110, 102, 105, 103]⟩ : ByteArray) ++ (⟨#[32]⟩ : ByteArray) ++ str (Lib.decDigits n7) = str (jw [wordM 7, Lib.decDigits n7])) := hide (by
      show str (wordM 7) ++ str [32] ++ str (Lib.decDigits n7) = _
      rw [cat_str, cat_str, jw_cons2, jw_one]; simp)
    go_wp2
    rw [HJ.out]
    go_loopw [6, 7] (fun lv iv wr => ∃ j : Nat, j ≤ n7 ∧ iv = .int .i64 (j : Nat) ∧ wr.ownsRow w3.heap.size 9 1 lv (1 + j) (strv ([jw [wordM 7, Lib.decDigits n7]] ++ (L7.take j).map (124 :: ·))) ∧ Below w3.heap.size w3 wr) (fun _ iv _ => n7 - (intOf iv).toNat)
    case atStart => exact ⟨0, Nat.zero_le _, rfl, own_oneS _ (Nat.le_refl _), (Below.refl _ _).alloc (Nat.le_refl _) _⟩
    case round =>
      obtain ⟨j, hj, rfl, hown, hbel⟩ := hrel
      obtain ⟨A6, d6, rfl⟩ := own_slice hown
      have HO := hide hown
      have HB := hide hbel
      have hsw := hbel.size
      clear hown
      by_cases hlt : j < n7
      · obtain ⟨g, o, x, rfl, hg, hx, hxs, hc⟩ := (HS3.out.below rfl hbel).at_ (k := j) hlt
        have hnc := HS3.out.2.1
        have HX : Hid (∃ y, L7[j]? = some y ∧ x = str y) := hide (by
          rw [List.getElem?_map, Option.map_eq_some_iff] at hx
          obtain ⟨y, hy, rfl⟩ := hx
          exact ⟨y, hy, rfl⟩)
        have q0 : (0 : Int) ≤ (j : Int) := by omega
        have q1 : (j : Int) < (n7 : Int) := by omega
        have hxz : x.size + 1 ≤ 9223372036854775807 := by
          obtain ⟨y, hy, rfl⟩ := HX.out
          rw [str_size]
          have := HLe.out y (List.mem_of_getElem? hy)
          omega
        clear hx hxs hbel
        go_wp2_with (at_builtin; refine wpList_append_any _ rfl (.tmp 90) (.tmp 96) 37 rfl w3.heap.size 9 i0 _ 1 16 Tryz.underlying37 hi hz0 hz1 hz2 rfl (by decide) (.slice A6 (1 + j) d6) (1 + j) _ rfl (HO.out.alloc _) (wr.heap.size + 1) (some ⟨wr.heap.size, 0, none⟩) 1 1 [.string (⟨#[124]⟩ ++ x)] rfl (reads_blkN (Blk.new _ _ _) (Nat.lt_succ_self _) rfl rfl) (by simp [Value.oneCell']) (by unfold maxLen; omega) (by omega) (by simp; omega) ?_; intro v1 w10 hown hgrow hat; have HO3 := hide hown; have HB3 : Hid (Below w3.heap.size w3 w10) := hide (Below.grown (HB.out.alloc hsw _) hgrow (by simp; omega) (fun k hk => own_low_block HO.out k hk)); clear hown hgrow hat)
        go_roundw
        case rel =>
          refine ⟨j + 1, by omega, by go_num, ?_, HB3.out⟩
          obtain ⟨y, hy, rfl⟩ := HX.out
          have h3 := HO3.out
          rw [List.take_add_one, hy, List.map_append, Option.toList_some, List.map_cons, List.map_nil, ← List.append_assoc, strv_snoc]
          exact h3
        case measure => simp [intOf]; omega
      · obtain rfl : j = n7 := by omega
        clear hbel
        go_wp2
        go_ret
        have HFn : Hid (shownM ⟨7, p, nn, b, t, oa, oh, oi, fo⟩ = [jw [wordM 7, Lib.decDigits j]] ++ (L7.take j).map (124 :: ·)) := hide (by rw [List.take_of_length_le (by rw [HN7.out]; exact Nat.le_refl _)]; simp [shownM, headM, tailM, behM, HLL.out, HN7.out])
        exact ⟨A6, _, d6, rfl, by rw [HFn.out]; rw [List.length_append, List.length_map, List.length_take, HN7.out]; simp, by rw [HFn.out]; exact own_baseLe HO.out HB3.out.size, HB3.out.trans (HB.out.mono HB3.out.size)⟩
  · obtain ⟨a, rfl⟩ : ∃ a : Nat, nn = (a : Int) := ⟨nn.toNat, by have := HG.out; unfold mvGood at this; simp at this; omega⟩
    have sz4 : (str (Lib.decDigits a)).size ≤ 10 := by rw [str_size]; exact dec_len _ 9 (by have := HG.out; unfold mvGood at this; simp at this; omega)
    have hab : a < 4294967296 := by have := HG.out; unfold mvGood at this; simp at this; omega
    have HK0 : Hid (Blk (((w.alloc (.cells #[.int .i64 8, .int .u32 (p : Int), .int .i64 (a : Int), va, .string (str t), .int .u32 (oa : Int), .int .i64 oh, .int .u32 (oi : Int), .bool fo] 32)).alloc (.cells #[.string ⟨#[]⟩, .string ⟨#[115, 116, 97, 114, 116]⟩, .string ⟨#[115, 116, 111, 112]⟩, .string ⟨#[117, 112]⟩, .string ⟨#[100, 111, 119, 110]⟩, .string ⟨#[98, 121, 116, 101, 115]⟩, .string ⟨#[116, 105, 99, 107]⟩, .string ⟨#[99, 111, 110, 102, 105, 103]⟩, .string ⟨#[116, 97, 107, 101]⟩, .string ⟨#[114, 105, 118, 97, 108]⟩, .string ⟨#[114, 101, 115, 101, 116]⟩] 9)).alloc (.cells #[] 9)) w.heap.size 32 #[.int .i64 8, .int .u32 (p : Int), .int .i64 (a : Int), va, .string (str t), .int .u32 (oa : Int), .int .i64 oh, .int .u32 (oi : Int), .bool fo]) := hide (((Blk.new w _ _).alloc _).alloc _)
    have HB0 : Hid (Below w.heap.size w (((w.alloc (.cells #[.int .i64 8, .int .u32 (p : Int), .int .i64 (a : Int), va, .string (str t), .int .u32 (oa : Int), .int .i64 oh, .int .u32 (oi : Int), .bool fo] 32)).alloc (.cells #[.string ⟨#[]⟩, .string ⟨#[115, 116, 97, 114, 116]⟩, .string ⟨#[115, 116, 111, 112]⟩, .string ⟨#[117, 112]⟩, .string ⟨#[100, 111, 119, 110]⟩, .string ⟨#[98, 121, 116, 101, 115]⟩, .string ⟨#[116, 105, 99, 107]⟩, .string ⟨#[99, 111, 110, 102, 105, 103]⟩, .string ⟨#[116, 97, 107, 101]⟩, .string ⟨#[114, 105, 118, 97, 108]⟩, .string ⟨#[114, 101, 115, 101, 116]⟩] 9)).alloc (.cells #[] 9))) := hide ((((Below.refl _ w).alloc (Nat.le_refl _) _).alloc (by simp) _).alloc (by simp; omega) _)
    go_enter Tryz.func24, Tryz.ntmps24
    go_wp2_with fail
    refine (refAddr_any p (by omega) _).mono ?_
    rintro e w2 ⟨rfl, hw⟩
    have HK2 : Hid (Blk w2 w.heap.size 32 #[.int .i64 8, .int .u32 (p : Int), .int .i64 (a : Int), va, .string (str t), .int .u32 (oa : Int), .int .i64 oh, .int .u32 (oi : Int), .bool fo]) := hide (by rw [← hw]; exact HK0.out)
    have HB2 : Hid (Below w.heap.size w w2) := hide (by rw [← hw]; exact HB0.out)
    have hl2 := HK2.out.lt
    clear hw
    have c0 : w2.cell? ⟨w.heap.size, 0, none⟩ = some (.int .i64 8) := HK2.out.cell 0
    have c1 : w2.cell? ⟨w.heap.size, 1, none⟩ = some (.int .u32 (p : Int)) := HK2.out.cell 1
    have c2 : w2.cell? ⟨w.heap.size, 2, none⟩ = some (.int .i64 (a : Int)) := HK2.out.cell 2
    have c3 : w2.cell? ⟨w.heap.size, 3, none⟩ = some (va) := HK2.out.cell 3
    have c4 : w2.cell? ⟨w.heap.size, 4, none⟩ = some (.string (str t)) := HK2.out.cell 4
    have c5 : w2.cell? ⟨w.heap.size, 5, none⟩ = some (.int .u32 (oa : Int)) := HK2.out.cell 5
    have c6 : w2.cell? ⟨w.heap.size, 6, none⟩ = some (.int .i64 oh) := HK2.out.cell 6
    have c7 : w2.cell? ⟨w.heap.size, 7, none⟩ = some (.int .u32 (oi : Int)) := HK2.out.cell 7
    have c8 : w2.cell? ⟨w.heap.size, 8, none⟩ = some (.bool fo) := HK2.out.cell 8
    go_wp2_with fail
    refine (rint_any a hab _).mono ?_
    rintro e w3 ⟨rfl, hw⟩
    have HK3 : Hid (Blk w3 w.heap.size 32 #[.int .i64 8, .int .u32 (p : Int), .int .i64 (a : Int), va, .string (str t), .int .u32 (oa : Int), .int .i64 oh, .int .u32 (oi : Int), .bool fo]) := hide (by rw [← hw]; exact HK2.out)
    have HB3 : Hid (Below w.heap.size w w3) := hide (by rw [← hw]; exact HB2.out)
    have hl3 := HK3.out.lt
    clear hw c0 c1 c2 c3 c4 c5 c6 c7 c8
    have c0 : w3.cell? ⟨w.heap.size, 0, none⟩ = some (.int .i64 8) := HK3.out.cell 0
    have c1 : w3.cell? ⟨w.heap.size, 1, none⟩ = some (.int .u32 (p : Int)) := HK3.out.cell 1
    have c2 : w3.cell? ⟨w.heap.size, 2, none⟩ = some (.int .i64 (a : Int)) := HK3.out.cell 2
    have c3 : w3.cell? ⟨w.heap.size, 3, none⟩ = some (va) := HK3.out.cell 3
    have c4 : w3.cell? ⟨w.heap.size, 4, none⟩ = some (.string (str t)) := HK3.out.cell 4
    have c5 : w3.cell? ⟨w.heap.size, 5, none⟩ = some (.int .u32 (oa : Int)) := HK3.out.cell 5
    have c6 : w3.cell? ⟨w.heap.size, 6, none⟩ = some (.int .i64 oh) := HK3.out.cell 6
    have c7 : w3.cell? ⟨w.heap.size, 7, none⟩ = some (.int .u32 (oi : Int)) := HK3.out.cell 7
    have c8 : w3.cell? ⟨w.heap.size, 8, none⟩ = some (.bool fo) := HK3.out.cell 8
    have HJ : Hid ((⟨#[116, 97, 107, 101]⟩ : ByteArray) ++ (⟨#[32]⟩ : ByteArray) ++ str (addrL p) ++ (⟨#[32]⟩ : ByteArray) ++ str (Lib.decDigits a) = str (jw [wordM 8, addrL p, Lib.decDigits a])) := hide (by
      show str (wordM 8) ++ str [32] ++ str (addrL p) ++ str [32] ++ str (Lib.decDigits a) = _
      rw [cat_str, cat_str, cat_str, cat_str, jw_cons2, jw_cons2, jw_one]; simp)
    go_wp2
    rw [HJ.out]
    go_loopw [6, 7] (fun lv iv wr => ∃ j : Nat, j ≤ 0 ∧ iv = .int .i64 (j : Nat) ∧ wr.ownsRow w3.heap.size 9 1 lv (1 + j) (strv ([jw [wordM 8, addrL p, Lib.decDigits a]] ++ (([] : List (List UInt8)).take j).map (124 :: ·))) ∧ Below w3.heap.size w3 wr) (fun _ iv _ => 0 - (intOf iv).toNat)
    case atStart => exact ⟨0, Nat.zero_le _, rfl, own_oneS _ (Nat.le_refl _), (Below.refl _ _).alloc (Nat.le_refl _) _⟩
    case round =>
      obtain ⟨j, hj, rfl, hown, hbel⟩ := hrel
      obtain ⟨A6, d6, rfl⟩ := own_slice hown
      have HO := hide hown
      have HB := hide hbel
      have hsw := hbel.size
      clear hown
      obtain rfl : j = 0 := by omega
      clear hbel
      go_wp2
      go_ret
      have HFn : Hid (shownM ⟨8, p, (a : Int), b, t, oa, oh, oi, fo⟩ = [jw [wordM 8, addrL p, Lib.decDigits a]] ++ (([] : List (List UInt8)).take 0).map (124 :: ·)) := hide (by simp [shownM, headM, tailM, behM])
      exact ⟨A6, _, d6, rfl, by rw [HFn.out]; rfl, by rw [HFn.out]; exact own_baseLe HO.out HB3.out.size, HB3.out.trans (HB.out.mono HB3.out.size)⟩
  · have hwu : IntKind.u64.wrap (oa : Int) = (oa : Int) := by rw [IntKind.wrap_u64]; omega
    obtain ⟨a, rfl⟩ : ∃ a : Nat, oh = (a : Int) := ⟨oh.toNat, by have := HG.out; unfold mvGood at this; simp at this; omega⟩
    have sz4 : (str (Lib.decDigits a)).size ≤ 10 := by rw [str_size]; exact dec_len _ 9 (by have := HG.out; unfold mvGood at this; simp at this; omega)
    have hab : a < 4294967296 := by have := HG.out; unfold mvGood at this; simp at this; omega
    have HK0 : Hid (Blk (((w.alloc (.cells #[.int .i64 9, .int .u32 (p : Int), .int .i64 nn, va, .string (str t), .int .u32 (oa : Int), .int .i64 (a : Int), .int .u32 (oi : Int), .bool fo] 32)).alloc (.cells #[.string ⟨#[]⟩, .string ⟨#[115, 116, 97, 114, 116]⟩, .string ⟨#[115, 116, 111, 112]⟩, .string ⟨#[117, 112]⟩, .string ⟨#[100, 111, 119, 110]⟩, .string ⟨#[98, 121, 116, 101, 115]⟩, .string ⟨#[116, 105, 99, 107]⟩, .string ⟨#[99, 111, 110, 102, 105, 103]⟩, .string ⟨#[116, 97, 107, 101]⟩, .string ⟨#[114, 105, 118, 97, 108]⟩, .string ⟨#[114, 101, 115, 101, 116]⟩] 9)).alloc (.cells #[] 9)) w.heap.size 32 #[.int .i64 9, .int .u32 (p : Int), .int .i64 nn, va, .string (str t), .int .u32 (oa : Int), .int .i64 (a : Int), .int .u32 (oi : Int), .bool fo]) := hide (((Blk.new w _ _).alloc _).alloc _)
    have HB0 : Hid (Below w.heap.size w (((w.alloc (.cells #[.int .i64 9, .int .u32 (p : Int), .int .i64 nn, va, .string (str t), .int .u32 (oa : Int), .int .i64 (a : Int), .int .u32 (oi : Int), .bool fo] 32)).alloc (.cells #[.string ⟨#[]⟩, .string ⟨#[115, 116, 97, 114, 116]⟩, .string ⟨#[115, 116, 111, 112]⟩, .string ⟨#[117, 112]⟩, .string ⟨#[100, 111, 119, 110]⟩, .string ⟨#[98, 121, 116, 101, 115]⟩, .string ⟨#[116, 105, 99, 107]⟩, .string ⟨#[99, 111, 110, 102, 105, 103]⟩, .string ⟨#[116, 97, 107, 101]⟩, .string ⟨#[114, 105, 118, 97, 108]⟩, .string ⟨#[114, 101, 115, 101, 116]⟩] 9)).alloc (.cells #[] 9))) := hide ((((Below.refl _ w).alloc (Nat.le_refl _) _).alloc (by simp) _).alloc (by simp; omega) _)
    go_enter Tryz.func24, Tryz.ntmps24
    go_wp2_with fail
    refine (refAddr_any p (by omega) _).mono ?_
    rintro e w2 ⟨rfl, hw⟩
    have HK2 : Hid (Blk w2 w.heap.size 32 #[.int .i64 9, .int .u32 (p : Int), .int .i64 nn, va, .string (str t), .int .u32 (oa : Int), .int .i64 (a : Int), .int .u32 (oi : Int), .bool fo]) := hide (by rw [← hw]; exact HK0.out)
    have HB2 : Hid (Below w.heap.size w w2) := hide (by rw [← hw]; exact HB0.out)
    have hl2 := HK2.out.lt
    clear hw
    have c0 : w2.cell? ⟨w.heap.size, 0, none⟩ = some (.int .i64 9) := HK2.out.cell 0
    have c1 : w2.cell? ⟨w.heap.size, 1, none⟩ = some (.int .u32 (p : Int)) := HK2.out.cell 1
    have c2 : w2.cell? ⟨w.heap.size, 2, none⟩ = some (.int .i64 nn) := HK2.out.cell 2
    have c3 : w2.cell? ⟨w.heap.size, 3, none⟩ = some (va) := HK2.out.cell 3
    have c4 : w2.cell? ⟨w.heap.size, 4, none⟩ = some (.string (str t)) := HK2.out.cell 4
    have c5 : w2.cell? ⟨w.heap.size, 5, none⟩ = some (.int .u32 (oa : Int)) := HK2.out.cell 5
    have c6 : w2.cell? ⟨w.heap.size, 6, none⟩ = some (.int .i64 (a : Int)) := HK2.out.cell 6
    have c7 : w2.cell? ⟨w.heap.size, 7, none⟩ = some (.int .u32 (oi : Int)) := HK2.out.cell 7
    have c8 : w2.cell? ⟨w.heap.size, 8, none⟩ = some (.bool fo) := HK2.out.cell 8
    obtain ⟨S4, hS4⟩ : ∃ S, (⟨#[114, 105, 118, 97, 108]⟩ : ByteArray) ++ (⟨#[32]⟩ : ByteArray) ++ str (addrL p) = S := ⟨_, rfl⟩
    have HS4 := hide hS4
    have sS4 : S4.size ≤ 100 := by
      rw [← hS4]
      show (str (wordM 9) ++ str [32] ++ str (addrL p)).size ≤ 100
      rw [cat_str, cat_str, str_size]
      have h1 := addrL_len p
      have h2 := wordM_len 9
      simp; omega
    go_wp2
    try rw [hS4]
    clear hS4
    refine wp_region_relT 20 [(fun v _ => v = .string S4), (fun v _ => v = .string (S4 ++ (⟨#[32]⟩ : ByteArray))), (fun v _ => v = .pointer (some ⟨w.heap.size, 5, none⟩)), (fun v _ => v = .pointer (some ⟨w.heap.size, 5, none⟩)), (fun v _ => v = .int .u32 (oa : Int)), (fun v _ => v = .int .u64 (oa : Int)), (fun v _ => v = .string (str (Lib.decDigits oa))), (fun v _ => v = .string (S4 ++ (⟨#[32]⟩ : ByteArray) ++ str (Lib.decDigits oa))), (fun v _ => v = .string (S4 ++ (⟨#[32]⟩ : ByteArray) ++ str (Lib.decDigits oa) ++ (⟨#[32]⟩ : ByteArray))), (fun v _ => v = .pointer (some ⟨w.heap.size, 5, none⟩)), (fun v _ => v = .pointer (some ⟨w.heap.size, 6, none⟩)), (fun v _ => v = .int .i64 (a : Int)), (fun v _ => v = .string (str (Lib.decDigits a))), (fun v _ => v = .string (S4 ++ (⟨#[32]⟩ : ByteArray) ++ str (Lib.decDigits oa) ++ (⟨#[32]⟩ : ByteArray) ++ str (Lib.decDigits a))), (fun v _ => v = .string (S4 ++ (⟨#[32]⟩ : ByteArray) ++ str (Lib.decDigits oa) ++ (⟨#[32]⟩ : ByteArray) ++ str (Lib.decDigits a) ++ (⟨#[32]⟩ : ByteArray))), (fun v _ => v = .pointer (some ⟨w.heap.size, 5, none⟩)), (fun v _ => v = .pointer (some ⟨w.heap.size, 7, none⟩)), (fun v _ => v = .int .u32 (oi : Int)), (fun v _ => v = .string (str (addrL oi))), (fun v _ => v = .string (S4 ++ (⟨#[32]⟩ : ByteArray) ++ str (Lib.decDigits oa) ++ (⟨#[32]⟩ : ByteArray) ++ str (Lib.decDigits a) ++ (⟨#[32]⟩ : ByteArray) ++ str (addrL oi)))] (by kernel_rfl) (by kernel_rfl) (by kernel_rfl) (by kernel_rfl) (by kernel_rfl) (relMono _ ⟨fun _ _ _ _ h => h, fun _ _ _ _ h => h, fun _ _ _ _ h => h, fun _ _ _ _ h => h, fun _ _ _ _ h => h, fun _ _ _ _ h => h, fun _ _ _ _ h => h, fun _ _ _ _ h => h, fun _ _ _ _ h => h, fun _ _ _ _ h => h, fun _ _ _ _ h => h, fun _ _ _ _ h => h, fun _ _ _ _ h => h, fun _ _ _ _ h => h, fun _ _ _ _ h => h, fun _ _ _ _ h => h, fun _ _ _ _ h => h, fun _ _ _ _ h => h, fun _ _ _ _ h => h, fun _ _ _ _ h => h, trivial⟩) ⟨?_, ?_, ?_, ?_, ?_, ?_, ?_, ?_, ?_, ?_, ?_, ?_, ?_, ?_, ?_, ?_, ?_, ?_, ?_, ?_, trivial⟩ ?_
    · refine relStep_plain rfl ?_
      intro Ac w5 hp
      have hb := hp.bel
      have a4 : Ac.eval (.tmp 4) = .string S4 := hp.out 4 (by rfl)
      have hc := evalC Ac; have hf := evalF Ac; have hgl := evalG Ac
      obtain ⟨ρ, hρ⟩ : ∃ ρ, Ac.eval = ρ := ⟨_, rfl⟩
      rw [hρ] at a4 hc hf hgl
      exact relPure hρ (.string S4) (by simp [go_sem, hc, hf, hgl, ↓IntWalk.iteOmega, a4, *]) rfl
    · refine relStep_plain rfl ?_
      intro Ac w5 hp
      have hb := hp.bel
      have a50 : Ac.eval (.tmp 50) = .string S4 := hp.dep 0 (by kernel_rfl)
      have hc := evalC Ac; have hf := evalF Ac; have hgl := evalG Ac
      obtain ⟨ρ, hρ⟩ : ∃ ρ, Ac.eval = ρ := ⟨_, rfl⟩
      rw [hρ] at a50 hc hf hgl
      exact relPure hρ (.string (S4 ++ (⟨#[32]⟩ : ByteArray))) (by simp [go_sem, hc, hf, hgl, ↓IntWalk.iteOmega, a50, *]) rfl
    · refine relStep_plain rfl ?_
      intro Ac w5 hp
      have hb := hp.bel
      have a1 : Ac.eval (.tmp 1) = .pointer (some ⟨w.heap.size, 0, none⟩) := hp.out 1 (by rfl)
      have hc := evalC Ac; have hf := evalF Ac; have hgl := evalG Ac
      obtain ⟨ρ, hρ⟩ : ∃ ρ, Ac.eval = ρ := ⟨_, rfl⟩
      rw [hρ] at a1 hc hf hgl
      exact relPure hρ (.pointer (some ⟨w.heap.size, 5, none⟩)) (by simp [go_sem, hc, hf, hgl, ↓IntWalk.iteOmega, a1, *]) rfl
    · refine relStep_plain rfl ?_
      intro Ac w5 hp
      have hb := hp.bel
      have a52 : Ac.eval (.tmp 52) = .pointer (some ⟨w.heap.size, 5, none⟩) := hp.dep 2 (by kernel_rfl)
      have hc := evalC Ac; have hf := evalF Ac; have hgl := evalG Ac
      obtain ⟨ρ, hρ⟩ : ∃ ρ, Ac.eval = ρ := ⟨_, rfl⟩
      rw [hρ] at a52 hc hf hgl
      exact relPure hρ (.pointer (some ⟨w.heap.size, 5, none⟩)) (by simp [go_sem, hc, hf, hgl, ↓IntWalk.iteOmega, a52, *]) rfl
    · refine relStep_plain rfl ?_
      intro Ac w5 hp
      have hb := hp.bel
      have a53 : Ac.eval (.tmp 53) = .pointer (some ⟨w.heap.size, 5, none⟩) := hp.dep 3 (by kernel_rfl)
      have zz := HK2.out.below hb HK2.out.lt
      have z5 : w5.cell? ⟨w.heap.size, 5, none⟩ = some (.int .u32 (oa : Int)) := zz.cell 5
      have z6 : w5.cell? ⟨w.heap.size, 6, none⟩ = some (.int .i64 (a : Int)) := zz.cell 6
      have z7 : w5.cell? ⟨w.heap.size, 7, none⟩ = some (.int .u32 (oi : Int)) := zz.cell 7
      clear zz
      have hc := evalC Ac; have hf := evalF Ac; have hgl := evalG Ac
      obtain ⟨ρ, hρ⟩ : ∃ ρ, Ac.eval = ρ := ⟨_, rfl⟩
      rw [hρ] at a53 hc hf hgl
      exact relPure hρ (.int .u32 (oa : Int)) (by simp [go_sem, hc, hf, hgl, ↓IntWalk.iteOmega, a53, *]) rfl
    · refine relStep_plain rfl ?_
      intro Ac w5 hp
      have hb := hp.bel
      have a54 : Ac.eval (.tmp 54) = .int .u32 (oa : Int) := hp.dep 4 (by kernel_rfl)
      have hc := evalC Ac; have hf := evalF Ac; have hgl := evalG Ac
      obtain ⟨ρ, hρ⟩ : ∃ ρ, Ac.eval = ρ := ⟨_, rfl⟩
      rw [hρ] at a54 hc hf hgl
      exact relPure hρ (.int .u64 (oa : Int)) (by simp [go_sem, hc, hf, hgl, ↓IntWalk.iteOmega, a54, *]) rfl
    · refine relStep_plain rfl ?_
      intro Ac w5 hp
      have hb := hp.bel
      have a55 : Ac.eval (.tmp 55) = .int .u64 (oa : Int) := hp.dep 5 (by kernel_rfl)
      have hc := evalC Ac; have hf := evalF Ac; have hgl := evalG Ac
      obtain ⟨ρ, hρ⟩ : ∃ ρ, Ac.eval = ρ := ⟨_, rfl⟩
      rw [hρ] at a55 hc hf hgl
      refine relCall hρ 37 #[.int .u64 (oa : Int)] (by simp [go_sem, hc, hf, hgl, ↓IntWalk.iteOmega, a55, *]) ?_
      refine (num_any oa (by omega) w5).mono ?_
      rintro e w6 ⟨rfl, rfl⟩
      exact ⟨_, rfl, rfl, Below.refl _ _⟩
    · refine relStep_plain rfl ?_
      intro Ac w5 hp
      have hb := hp.bel
      have a51 : Ac.eval (.tmp 51) = .string (S4 ++ (⟨#[32]⟩ : ByteArray)) := hp.dep 1 (by kernel_rfl)
      have a56 : Ac.eval (.tmp 56) = .string (str (Lib.decDigits oa)) := hp.dep 6 (by kernel_rfl)
      have hc := evalC Ac; have hf := evalF Ac; have hgl := evalG Ac
      obtain ⟨ρ, hρ⟩ : ∃ ρ, Ac.eval = ρ := ⟨_, rfl⟩
      rw [hρ] at a51 a56 hc hf hgl
      exact relPure hρ (.string (S4 ++ (⟨#[32]⟩ : ByteArray) ++ str (Lib.decDigits oa))) (by simp [go_sem, hc, hf, hgl, ↓IntWalk.iteOmega, a51, a56, *]) rfl
    · refine relStep_plain rfl ?_
      intro Ac w5 hp
      have hb := hp.bel
      have a57 : Ac.eval (.tmp 57) = .string (S4 ++ (⟨#[32]⟩ : ByteArray) ++ str (Lib.decDigits oa)) := hp.dep 7 (by kernel_rfl)
      have hc := evalC Ac; have hf := evalF Ac; have hgl := evalG Ac
      obtain ⟨ρ, hρ⟩ : ∃ ρ, Ac.eval = ρ := ⟨_, rfl⟩
      rw [hρ] at a57 hc hf hgl
      exact relPure hρ (.string (S4 ++ (⟨#[32]⟩ : ByteArray) ++ str (Lib.decDigits oa) ++ (⟨#[32]⟩ : ByteArray))) (by simp [go_sem, hc, hf, hgl, ↓IntWalk.iteOmega, a57, *]) rfl
    · refine relStep_plain rfl ?_
      intro Ac w5 hp
      have hb := hp.bel
      have a1 : Ac.eval (.tmp 1) = .pointer (some ⟨w.heap.size, 0, none⟩) := hp.out 1 (by rfl)
      have hc := evalC Ac; have hf := evalF Ac; have hgl := evalG Ac
      obtain ⟨ρ, hρ⟩ : ∃ ρ, Ac.eval = ρ := ⟨_, rfl⟩
      rw [hρ] at a1 hc hf hgl
      exact relPure hρ (.pointer (some ⟨w.heap.size, 5, none⟩)) (by simp [go_sem, hc, hf, hgl, ↓IntWalk.iteOmega, a1, *]) rfl
    · refine relStep_plain rfl ?_
      intro Ac w5 hp
      have hb := hp.bel
      have a59 : Ac.eval (.tmp 59) = .pointer (some ⟨w.heap.size, 5, none⟩) := hp.dep 9 (by kernel_rfl)
      have hc := evalC Ac; have hf := evalF Ac; have hgl := evalG Ac
      obtain ⟨ρ, hρ⟩ : ∃ ρ, Ac.eval = ρ := ⟨_, rfl⟩
      rw [hρ] at a59 hc hf hgl
      exact relPure hρ (.pointer (some ⟨w.heap.size, 6, none⟩)) (by simp [go_sem, hc, hf, hgl, ↓IntWalk.iteOmega, a59, *]) rfl
    · refine relStep_plain rfl ?_
      intro Ac w5 hp
      have hb := hp.bel
      have a60 : Ac.eval (.tmp 60) = .pointer (some ⟨w.heap.size, 6, none⟩) := hp.dep 10 (by kernel_rfl)
      have zz := HK2.out.below hb HK2.out.lt
      have z5 : w5.cell? ⟨w.heap.size, 5, none⟩ = some (.int .u32 (oa : Int)) := zz.cell 5
      have z6 : w5.cell? ⟨w.heap.size, 6, none⟩ = some (.int .i64 (a : Int)) := zz.cell 6
      have z7 : w5.cell? ⟨w.heap.size, 7, none⟩ = some (.int .u32 (oi : Int)) := zz.cell 7
      clear zz
      have hc := evalC Ac; have hf := evalF Ac; have hgl := evalG Ac
      obtain ⟨ρ, hρ⟩ : ∃ ρ, Ac.eval = ρ := ⟨_, rfl⟩
      rw [hρ] at a60 hc hf hgl
      exact relPure hρ (.int .i64 (a : Int)) (by simp [go_sem, hc, hf, hgl, ↓IntWalk.iteOmega, a60, *]) rfl
    · refine relStep_plain rfl ?_
      intro Ac w5 hp
      have hb := hp.bel
      have a61 : Ac.eval (.tmp 61) = .int .i64 (a : Int) := hp.dep 11 (by kernel_rfl)
      have hc := evalC Ac; have hf := evalF Ac; have hgl := evalG Ac
      obtain ⟨ρ, hρ⟩ : ∃ ρ, Ac.eval = ρ := ⟨_, rfl⟩
      rw [hρ] at a61 hc hf hgl
      refine relCall hρ 36 #[.int .i64 (a : Int)] (by simp [go_sem, hc, hf, hgl, ↓IntWalk.iteOmega, a61, *]) ?_
      refine (rint_any a (by omega) w5).mono ?_
      rintro e w6 ⟨rfl, rfl⟩
      exact ⟨_, rfl, rfl, Below.refl _ _⟩
    · refine relStep_plain rfl ?_
      intro Ac w5 hp
      have hb := hp.bel
      have a58 : Ac.eval (.tmp 58) = .string (S4 ++ (⟨#[32]⟩ : ByteArray) ++ str (Lib.decDigits oa) ++ (⟨#[32]⟩ : ByteArray)) := hp.dep 8 (by kernel_rfl)
      have a62 : Ac.eval (.tmp 62) = .string (str (Lib.decDigits a)) := hp.dep 12 (by kernel_rfl)
      have hc := evalC Ac; have hf := evalF Ac; have hgl := evalG Ac
      obtain ⟨ρ, hρ⟩ : ∃ ρ, Ac.eval = ρ := ⟨_, rfl⟩
      rw [hρ] at a58 a62 hc hf hgl
      exact relPure hρ (.string (S4 ++ (⟨#[32]⟩ : ByteArray) ++ str (Lib.decDigits oa) ++ (⟨#[32]⟩ : ByteArray) ++ str (Lib.decDigits a))) (by simp [go_sem, hc, hf, hgl, ↓IntWalk.iteOmega, a58, a62, *]) rfl
    · refine relStep_plain rfl ?_
      intro Ac w5 hp
      have hb := hp.bel
      have a63 : Ac.eval (.tmp 63) = .string (S4 ++ (⟨#[32]⟩ : ByteArray) ++ str (Lib.decDigits oa) ++ (⟨#[32]⟩ : ByteArray) ++ str (Lib.decDigits a)) := hp.dep 13 (by kernel_rfl)
      have hc := evalC Ac; have hf := evalF Ac; have hgl := evalG Ac
      obtain ⟨ρ, hρ⟩ : ∃ ρ, Ac.eval = ρ := ⟨_, rfl⟩
      rw [hρ] at a63 hc hf hgl
      exact relPure hρ (.string (S4 ++ (⟨#[32]⟩ : ByteArray) ++ str (Lib.decDigits oa) ++ (⟨#[32]⟩ : ByteArray) ++ str (Lib.decDigits a) ++ (⟨#[32]⟩ : ByteArray))) (by simp [go_sem, hc, hf, hgl, ↓IntWalk.iteOmega, a63, *]) rfl
    · refine relStep_plain rfl ?_
      intro Ac w5 hp
      have hb := hp.bel
      have a1 : Ac.eval (.tmp 1) = .pointer (some ⟨w.heap.size, 0, none⟩) := hp.out 1 (by rfl)
      have hc := evalC Ac; have hf := evalF Ac; have hgl := evalG Ac
      obtain ⟨ρ, hρ⟩ : ∃ ρ, Ac.eval = ρ := ⟨_, rfl⟩
      rw [hρ] at a1 hc hf hgl
      exact relPure hρ (.pointer (some ⟨w.heap.size, 5, none⟩)) (by simp [go_sem, hc, hf, hgl, ↓IntWalk.iteOmega, a1, *]) rfl
    · refine relStep_plain rfl ?_
      intro Ac w5 hp
      have hb := hp.bel
      have a65 : Ac.eval (.tmp 65) = .pointer (some ⟨w.heap.size, 5, none⟩) := hp.dep 15 (by kernel_rfl)
      have hc := evalC Ac; have hf := evalF Ac; have hgl := evalG Ac
      obtain ⟨ρ, hρ⟩ : ∃ ρ, Ac.eval = ρ := ⟨_, rfl⟩
      rw [hρ] at a65 hc hf hgl
      exact relPure hρ (.pointer (some ⟨w.heap.size, 7, none⟩)) (by simp [go_sem, hc, hf, hgl, ↓IntWalk.iteOmega, a65, *]) rfl
    · refine relStep_plain rfl ?_
      intro Ac w5 hp
      have hb := hp.bel
      have a66 : Ac.eval (.tmp 66) = .pointer (some ⟨w.heap.size, 7, none⟩) := hp.dep 16 (by kernel_rfl)
      have zz := HK2.out.below hb HK2.out.lt
      have z5 : w5.cell? ⟨w.heap.size, 5, none⟩ = some (.int .u32 (oa : Int)) := zz.cell 5
      have z6 : w5.cell? ⟨w.heap.size, 6, none⟩ = some (.int .i64 (a : Int)) := zz.cell 6
      have z7 : w5.cell? ⟨w.heap.size, 7, none⟩ = some (.int .u32 (oi : Int)) := zz.cell 7
      clear zz
      have hc := evalC Ac; have hf := evalF Ac; have hgl := evalG Ac
      obtain ⟨ρ, hρ⟩ : ∃ ρ, Ac.eval = ρ := ⟨_, rfl⟩
      rw [hρ] at a66 hc hf hgl
      exact relPure hρ (.int .u32 (oi : Int)) (by simp [go_sem, hc, hf, hgl, ↓IntWalk.iteOmega, a66, *]) rfl
    · refine relStep_plain rfl ?_
      intro Ac w5 hp
      have hb := hp.bel
      have a67 : Ac.eval (.tmp 67) = .int .u32 (oi : Int) := hp.dep 17 (by kernel_rfl)
      have hc := evalC Ac; have hf := evalF Ac; have hgl := evalG Ac
      obtain ⟨ρ, hρ⟩ : ∃ ρ, Ac.eval = ρ := ⟨_, rfl⟩
      rw [hρ] at a67 hc hf hgl
      refine relCall hρ 35 #[.int .u32 (oi : Int)] (by simp [go_sem, hc, hf, hgl, ↓IntWalk.iteOmega, a67, *]) ?_
      refine (refAddr_any oi (by omega) w5).mono ?_
      rintro e w6 ⟨rfl, rfl⟩
      exact ⟨_, rfl, rfl, Below.refl _ _⟩
    · refine relStep_plain rfl ?_
      intro Ac w5 hp
      have hb := hp.bel
      have a64 : Ac.eval (.tmp 64) = .string (S4 ++ (⟨#[32]⟩ : ByteArray) ++ str (Lib.decDigits oa) ++ (⟨#[32]⟩ : ByteArray) ++ str (Lib.decDigits a) ++ (⟨#[32]⟩ : ByteArray)) := hp.dep 14 (by kernel_rfl)
      have a68 : Ac.eval (.tmp 68) = .string (str (addrL oi)) := hp.dep 18 (by kernel_rfl)
      have hc := evalC Ac; have hf := evalF Ac; have hgl := evalG Ac
      obtain ⟨ρ, hρ⟩ : ∃ ρ, Ac.eval = ρ := ⟨_, rfl⟩
      rw [hρ] at a64 a68 hc hf hgl
      exact relPure hρ (.string (S4 ++ (⟨#[32]⟩ : ByteArray) ++ str (Lib.decDigits oa) ++ (⟨#[32]⟩ : ByteArray) ++ str (Lib.decDigits a) ++ (⟨#[32]⟩ : ByteArray) ++ str (addrL oi))) (by simp [go_sem, hc, hf, hgl, ↓IntWalk.iteOmega, a64, a68, *]) rfl
    intro u w8 hb7 hall
    have e69 : u 19 = .string (S4 ++ (⟨#[32]⟩ : ByteArray) ++ str (Lib.decDigits oa) ++ (⟨#[32]⟩ : ByteArray) ++ str (Lib.decDigits a) ++ (⟨#[32]⟩ : ByteArray) ++ str (addrL oi)) := relAll_at hall (i := 19) (by decide +kernel)
    clear hall
    simp only [List.drop_succ_cons, List.drop_zero, List.take_succ_cons, List.take_zero, putAll, Act.put, List.setIfInBounds_toArray, List.set_cons_zero, List.set_cons_succ, Nat.zero_add, Nat.reduceAdd, e69]
    have HK3 := hide (HK2.out.below hb7 HK2.out.lt)
    have HB3 := hide (HB2.out.trans (hb7.mono HB2.out.size))
    have hl3 := HK3.out.lt
    clear hb7 c0 c1 c2 c3 c4 c5 c6 c7 c8
    have c0 : w8.cell? ⟨w.heap.size, 0, none⟩ = some (.int .i64 9) := HK3.out.cell 0
    have c1 : w8.cell? ⟨w.heap.size, 1, none⟩ = some (.int .u32 (p : Int)) := HK3.out.cell 1
    have c2 : w8.cell? ⟨w.heap.size, 2, none⟩ = some (.int .i64 nn) := HK3.out.cell 2
    have c3 : w8.cell? ⟨w.heap.size, 3, none⟩ = some (va) := HK3.out.cell 3
    have c4 : w8.cell? ⟨w.heap.size, 4, none⟩ = some (.string (str t)) := HK3.out.cell 4
    have c5 : w8.cell? ⟨w.heap.size, 5, none⟩ = some (.int .u32 (oa : Int)) := HK3.out.cell 5
    have c6 : w8.cell? ⟨w.heap.size, 6, none⟩ = some (.int .i64 (a : Int)) := HK3.out.cell 6
    have c7 : w8.cell? ⟨w.heap.size, 7, none⟩ = some (.int .u32 (oi : Int)) := HK3.out.cell 7
    have c8 : w8.cell? ⟨w.heap.size, 8, none⟩ = some (.bool fo) := HK3.out.cell 8
    have HJ : Hid (S4 ++ (⟨#[32]⟩ : ByteArray) ++ str (Lib.decDigits oa) ++ (⟨#[32]⟩ : ByteArray) ++ str (Lib.decDigits a) ++ (⟨#[32]⟩ : ByteArray) ++ str (addrL oi) = str (jw [wordM 9, addrL p, Lib.decDigits oa, Lib.decDigits a, addrL oi])) := hide (by
      rw [← HS4.out]
      show str (wordM 9) ++ str [32] ++ str (addrL p) ++ str [32] ++ str (Lib.decDigits oa) ++ str [32] ++ str (Lib.decDigits a) ++ str [32] ++ str (addrL oi) = _
      simp only [cat_str, jw_cons2, jw_one]; simp)
    go_wp2
    rw [HJ.out]
    go_loopw [6, 7] (fun lv iv wr => ∃ j : Nat, j ≤ 0 ∧ iv = .int .i64 (j : Nat) ∧ wr.ownsRow w8.heap.size 9 1 lv (1 + j) (strv ([jw [wordM 9, addrL p, Lib.decDigits oa, Lib.decDigits a, addrL oi]] ++ (([] : List (List UInt8)).take j).map (124 :: ·))) ∧ Below w8.heap.size w8 wr) (fun _ iv _ => 0 - (intOf iv).toNat)
    case atStart => exact ⟨0, Nat.zero_le _, rfl, own_oneS _ (Nat.le_refl _), (Below.refl _ _).alloc (Nat.le_refl _) _⟩
    case round =>
      obtain ⟨j, hj, rfl, hown, hbel⟩ := hrel
      obtain ⟨A6, d6, rfl⟩ := own_slice hown
      have HO := hide hown
      have HB := hide hbel
      have hsw := hbel.size
      clear hown
      obtain rfl : j = 0 := by omega
      clear hbel
      go_wp2
      go_ret
      have HFn : Hid (shownM ⟨9, p, nn, b, t, oa, (a : Int), oi, fo⟩ = [jw [wordM 9, addrL p, Lib.decDigits oa, Lib.decDigits a, addrL oi]] ++ (([] : List (List UInt8)).take 0).map (124 :: ·)) := hide (by simp [shownM, headM, tailM, behM])
      exact ⟨A6, _, d6, rfl, by rw [HFn.out]; rfl, by rw [HFn.out]; exact own_baseLe HO.out HB3.out.size, HB3.out.trans (HB.out.mono HB3.out.size)⟩
  · have HK0 : Hid (Blk (((w.alloc (.cells #[.int .i64 10, .int .u32 (p : Int), .int .i64 nn, va, .string (str t), .int .u32 (oa : Int), .int .i64 oh, .int .u32 (oi : Int), .bool fo] 32)).alloc (.cells #[.string ⟨#[]⟩, .string ⟨#[115, 116, 97, 114, 116]⟩, .string ⟨#[115, 116, 111, 112]⟩, .string ⟨#[117, 112]⟩, .string ⟨#[100, 111, 119, 110]⟩, .string ⟨#[98, 121, 116, 101, 115]⟩, .string ⟨#[116, 105, 99, 107]⟩, .string ⟨#[99, 111, 110, 102, 105, 103]⟩, .string ⟨#[116, 97, 107, 101]⟩, .string ⟨#[114, 105, 118, 97, 108]⟩, .string ⟨#[114, 101, 115, 101, 116]⟩] 9)).alloc (.cells #[] 9)) w.heap.size 32 #[.int .i64 10, .int .u32 (p : Int), .int .i64 nn, va, .string (str t), .int .u32 (oa : Int), .int .i64 oh, .int .u32 (oi : Int), .bool fo]) := hide (((Blk.new w _ _).alloc _).alloc _)
    have HB0 : Hid (Below w.heap.size w (((w.alloc (.cells #[.int .i64 10, .int .u32 (p : Int), .int .i64 nn, va, .string (str t), .int .u32 (oa : Int), .int .i64 oh, .int .u32 (oi : Int), .bool fo] 32)).alloc (.cells #[.string ⟨#[]⟩, .string ⟨#[115, 116, 97, 114, 116]⟩, .string ⟨#[115, 116, 111, 112]⟩, .string ⟨#[117, 112]⟩, .string ⟨#[100, 111, 119, 110]⟩, .string ⟨#[98, 121, 116, 101, 115]⟩, .string ⟨#[116, 105, 99, 107]⟩, .string ⟨#[99, 111, 110, 102, 105, 103]⟩, .string ⟨#[116, 97, 107, 101]⟩, .string ⟨#[114, 105, 118, 97, 108]⟩, .string ⟨#[114, 101, 115, 101, 116]⟩] 9)).alloc (.cells #[] 9))) := hide ((((Below.refl _ w).alloc (Nat.le_refl _) _).alloc (by simp) _).alloc (by simp; omega) _)
    go_enter Tryz.func24, Tryz.ntmps24
    go_wp2_with fail
    refine (refAddr_any p (by omega) _).mono ?_
    rintro e w2 ⟨rfl, hw⟩
    have HK2 : Hid (Blk w2 w.heap.size 32 #[.int .i64 10, .int .u32 (p : Int), .int .i64 nn, va, .string (str t), .int .u32 (oa : Int), .int .i64 oh, .int .u32 (oi : Int), .bool fo]) := hide (by rw [← hw]; exact HK0.out)
    have HB2 : Hid (Below w.heap.size w w2) := hide (by rw [← hw]; exact HB0.out)
    have hl2 := HK2.out.lt
    clear hw
    have c0 : w2.cell? ⟨w.heap.size, 0, none⟩ = some (.int .i64 10) := HK2.out.cell 0
    have c1 : w2.cell? ⟨w.heap.size, 1, none⟩ = some (.int .u32 (p : Int)) := HK2.out.cell 1
    have c2 : w2.cell? ⟨w.heap.size, 2, none⟩ = some (.int .i64 nn) := HK2.out.cell 2
    have c3 : w2.cell? ⟨w.heap.size, 3, none⟩ = some (va) := HK2.out.cell 3
    have c4 : w2.cell? ⟨w.heap.size, 4, none⟩ = some (.string (str t)) := HK2.out.cell 4
    have c5 : w2.cell? ⟨w.heap.size, 5, none⟩ = some (.int .u32 (oa : Int)) := HK2.out.cell 5
    have c6 : w2.cell? ⟨w.heap.size, 6, none⟩ = some (.int .i64 oh) := HK2.out.cell 6
    have c7 : w2.cell? ⟨w.heap.size, 7, none⟩ = some (.int .u32 (oi : Int)) := HK2.out.cell 7
    have c8 : w2.cell? ⟨w.heap.size, 8, none⟩ = some (.bool fo) := HK2.out.cell 8
    have HJ : Hid ((⟨#[114, 101, 115, 101, 116]⟩ : ByteArray) ++ (⟨#[32]⟩ : ByteArray) ++ str (addrL p) = str (jw [wordM 10, addrL p])) := hide (by
      show str (wordM 10) ++ str [32] ++ str (addrL p) = _
      rw [cat_str, cat_str, jw_cons2, jw_one]; simp)
    go_wp2
    rw [HJ.out]
    go_loopw [6, 7] (fun lv iv wr => ∃ j : Nat, j ≤ 0 ∧ iv = .int .i64 (j : Nat) ∧ wr.ownsRow w2.heap.size 9 1 lv (1 + j) (strv ([jw [wordM 10, addrL p]] ++ (([] : List (List UInt8)).take j).map (124 :: ·))) ∧ Below w2.heap.size w2 wr) (fun _ iv _ => 0 - (intOf iv).toNat)
    case atStart => exact ⟨0, Nat.zero_le _, rfl, own_oneS _ (Nat.le_refl _), (Below.refl _ _).alloc (Nat.le_refl _) _⟩
    case round =>
      obtain ⟨j, hj, rfl, hown, hbel⟩ := hrel
      obtain ⟨A6, d6, rfl⟩ := own_slice hown
      have HO := hide hown
      have HB := hide hbel
      have hsw := hbel.size
      clear hown
      obtain rfl : j = 0 := by omega
      clear hbel
      go_wp2
      go_ret
      have HFn : Hid (shownM ⟨10, p, nn, b, t, oa, oh, oi, fo⟩ = [jw [wordM 10, addrL p]] ++ (([] : List (List UInt8)).take 0).map (124 :: ·)) := hide (by simp [shownM, headM, tailM, behM])
      exact ⟨A6, _, d6, rfl, by rw [HFn.out]; rfl, by rw [HFn.out]; exact own_baseLe HO.out HB2.out.size, HB2.out.trans (HB.out.mono HB2.out.size)⟩
end Go.Proofs.YtlfknndpbejbcaaGreatDoor
set_option linter.unusedSimpArgs false
set_option linter.unusedVariables false
namespace Go.Proofs.YtlfknndpbejbcaaGreatDoor
open Go.RowKit Go.WideShapes Go.ChangeShapes
attribute [local go_sem] Oper.semAt_some
set_option maxRecDepth 100000 in
set_option maxHeartbeats 4000000 in
theorem rtext_any (m : MV) (A : Option Addr) (n c : Nat) (w : World) (h : LstAt 1 byR w A n c m.b) (ok : MvOk m) (hg : mvGood m = true) :
    Calls Tryz.prog 11 #[mvV m (.slice A n c)] w fun e w' => e = .returned (.string (str (feedT (shownM m)))) ∧ Below w.heap.size w w' := by
  have HG := hide hg
  have HLs := hide h
  have HOk := hide ok
  have HF := hide (shown_feed ok hg)
  have HE := hide (shown_lens ok hg)
  have HNl := hide (feedT_num (shownM m))
  obtain ⟨k, p, nn, b, t, oa, oh, oi, fo⟩ := m
  have HB0 := hide ((Below.refl w.heap.size w).alloc (Nat.le_refl _) (.cells #[.int .i64 k, .int .u32 (p : Int), .int .i64 nn, .slice A n c, .string (str t), .int .u32 (oa : Int), .int .i64 oh, .int .u32 (oi : Int), .bool fo] 32))
  have HSh := hide (rshow_any ⟨k, p, nn, b, t, oa, oh, oi, fo⟩ A n c _ (HLs.out.below byMono HB0.out) HOk.out HG.out)
  obtain ⟨SM, hSM⟩ : ∃ SM, shownM ⟨k, p, nn, b, t, oa, oh, oi, fo⟩ = SM := ⟨_, rfl⟩
  have HShP : Hid (∀ (W W' : World) (e : Ending), ShownP ⟨k, p, nn, b, t, oa, oh, oi, fo⟩ W e W' → ∃ A n c, e = .returned (.slice A n c) ∧ n = SM.length ∧ W'.ownsRow W.heap.size 9 1 (.slice A n c) n (strv SM) ∧ Below W.heap.size W W') := hide (by intro W W' e hp; unfold ShownP at hp; rw [hSM] at hp; exact hp)
  rw [hSM] at HF HE HNl ⊢
  clear h ok hg hSM
  unfold mvV
  simp only
  go_enter Tryz.func11, Tryz.ntmps11
  go_wp2_with fail
  refine HSh.out.mono ?_
  intro e w2 hp
  obtain ⟨A2, n2, c2, rfl, hn2, ho, hb⟩ := HShP.out _ _ _ hp
  have HN : Hid (SM.length = n2) := hide hn2.symm
  have HS := hide (StrsAt.of_own ho (fun x hx => by have := HE.out x hx; unfold maxLen; omega))
  have HB2 := hide (HB0.out.trans (hb.mono HB0.out.size))
  have hnb : n2 ≤ 1000000 := by have h1 := HNl.out; have h2 := HF.out; omega
  clear hp hn2 ho hb
  go_wp2
  go_loopw [3, 5] (fun sv iv wr => ∃ j : Nat, j ≤ n2 ∧ iv = .int .i64 (j : Nat) ∧ sv = .string (str (feedT (SM.take j))) ∧ Below w2.heap.size w2 wr) (fun _ iv _ => n2 - (intOf iv).toNat)
  case atStart => exact ⟨0, Nat.zero_le _, rfl, rfl, Below.refl _ _⟩
  case round =>
    obtain ⟨j, hj, rfl, rfl, hbel⟩ := hrel
    have HB := hide hbel
    by_cases hlt : j < n2
    · obtain ⟨g, o, x, rfl, hg, hx, hxs, hc⟩ := (HS.out.below rfl hbel).at_ (k := j) hlt
      have hnc := HS.out.2.1
      have HX : Hid (∃ y, SM[j]? = some y ∧ x = str y) := hide (by
        rw [List.getElem?_map, Option.map_eq_some_iff] at hx
        obtain ⟨y, hy, rfl⟩ := hx
        exact ⟨y, hy, rfl⟩)
      have q0 : (0 : Int) ≤ (j : Int) := by omega
      have q1 : (j : Int) < (n2 : Int) := by omega
      have hxz : x.size ≤ 200000 := by
        obtain ⟨y, hy, rfl⟩ := HX.out
        rw [str_size]
        exact HE.out y (List.mem_of_getElem? hy)
      have hsz : (str (feedT (SM.take j))).size ≤ 1000000 := by
        rw [str_size]
        have h1 := feedT_take SM j
        have h2 := HF.out
        omega
      have HJ : Hid (str (feedT (SM.take j)) ++ x ++ (⟨#[10]⟩ : ByteArray) = str (feedT (SM.take (j + 1)))) := hide (by
        obtain ⟨y, hy, rfl⟩ := HX.out
        have e10 : (⟨#[10]⟩ : ByteArray) = str [10] := rfl
        rw [e10, cat_str, cat_str, List.take_add_one, hy, Option.toList_some, feedT_snoc, List.append_assoc])
      have hsz2 : (str (feedT (SM.take j)) ++ x).size ≤ 1200000 := by rw [ByteArray.size_append]; omega
      obtain ⟨S, hS⟩ : ∃ S, str (feedT (SM.take j)) = S := ⟨_, rfl⟩
      rw [hS] at HJ hsz hsz2 ⊢
      clear hx hxs hbel hS
      go_wp2
      rw [HJ.out]
      go_roundw
      case rel => exact ⟨j + 1, by omega, by go_num, rfl, HB.out⟩
      case measure => simp [intOf]; omega
    · obtain rfl : j = n2 := by omega
      have hsm : SM.take j = SM := List.take_of_length_le (by rw [HN.out]; exact Nat.le_refl _)
      rw [hsm]
      clear hsm hbel
      go_wp2
      go_ret
      exact ⟨rfl, HB2.out.trans (HB.out.mono HB2.out.size)⟩
end Go.Proofs.YtlfknndpbejbcaaGreatDoor
set_option linter.unusedSimpArgs false
set_option linter.unusedVariables false
namespace Go.Proofs.YtlfknndpbejbcaaGreatDoor
open Go.RowKit Go.WideShapes Go.ChangeShapes Go.ChangeAt
attribute [local go_sem] Oper.semAt_some
def liveSM : List MV := [⟨3, 167772162, 0, [], [], 0, 0, 0, false⟩, ⟨7, 0, 0, [], [114, 111, 117, 116, 101, 114, 32, 49, 32, 49, 46, 49, 46, 49, 46, 49, 10], 0, 0, 0, false⟩]
def liveST : List UInt8 := [117, 112, 32, 49, 48, 46, 48, 46, 48, 46, 50, 10, 99, 111, 110, 102, 105, 103, 32, 49, 10, 124, 114, 111, 117, 116, 101, 114, 32, 49, 32, 49, 46, 49, 46, 49, 46, 49, 10]
theorem liveST_is : textsM liveSM = liveST := by decide +kernel
theorem liveSM_ok : ∀ m ∈ liveSM, mvGood m = true ∧ MvOk m := by
  intro m hm
  simp only [liveSM, List.mem_cons, List.not_mem_nil, or_false] at hm
  rcases hm with rfl | rfl
  · exact ⟨by decide, ⟨by decide, by decide, by decide, by decide, by decide, by decide⟩⟩
  · exact ⟨by decide, ⟨by decide, by decide, by decide, by decide, by decide, by decide⟩⟩
set_option maxRecDepth 100000 in
set_option maxHeartbeats 2000000 in
theorem slives_any (w : World) (he : Env w) (ht : SpTab w) : Calls Tryz.prog 12 #[] w (GoodP true w) := by
  have HR := hide (sread_any liveST (by decide) w he ht)
  clear he ht
  go_enter Tryz.func12, Tryz.ntmps12
  go_wp2_with fail
  refine HR.out.mono ?_
  rintro e w1 ⟨hr, hb⟩
  rw [← liveST_is] at hr
  rcases read_moves liveSM_ok hr with ⟨_, A, n, c, rfl, hn, hl⟩ | ⟨h5, _⟩
  · obtain rfl : n = 2 := hn.symm
    obtain ⟨g, o, x0, vs0, rfl, hg, hx0, _, ⟨A0, n0, c0, rfl, _⟩, hc0⟩ := hl.at_ (k := 0) (by omega)
    obtain ⟨g', o', x1, vs1, hA, _, hx1, _, ⟨A1, n1, c1, rfl, _⟩, hc1⟩ := hl.at_ (k := 1) (by omega)
    cases hA
    have e0 : x0 = ⟨3, 167772162, 0, [], [], 0, 0, 0, false⟩ := by
      have : (liveSM.map mvOnly)[0]? = some ⟨3, 167772162, 0, [], [], 0, 0, 0, false⟩ := by simp [liveSM, mvOnly]
      rw [this] at hx0; exact (Option.some.inj hx0).symm
    have e1 : x1 = ⟨7, 0, 0, [], [114, 111, 117, 116, 101, 114, 32, 49, 32, 49, 46, 49, 46, 49, 46, 49, 10], 0, 0, 0, false⟩ := by
      have : (liveSM.map mvOnly)[1]? = some ⟨7, 0, 0, [], [114, 111, 117, 116, 101, 114, 32, 49, 32, 49, 46, 49, 46, 49, 46, 49, 10], 0, 0, 0, false⟩ := by simp [liveSM, mvOnly]
      rw [this] at hx1; exact (Option.some.inj hx1).symm
    subst e0 e1
    have k0 : w1.cell? ⟨g, o, none⟩ = some (.int .i64 3) := by have := hc0 0 _ rfl; simpa using this
    have k1 : w1.cell? ⟨g, o + 9 + 4, none⟩ = some (.string ⟨#[114, 111, 117, 116, 101, 114, 32, 49, 32, 49, 46, 49, 46, 49, 46, 49, 10]⟩) := by have := hc1 4 _ rfl; rw [Nat.one_mul] at this; exact this
    have k2 : w1.cell? ⟨g, o + 13, none⟩ = some (.string ⟨#[114, 111, 117, 116, 101, 114, 32, 49, 32, 49, 46, 49, 46, 49, 46, 49, 10]⟩) := k1
    have k3 : ((⟨#[114, 111, 117, 116, 101, 114, 32, 49, 32, 49, 46, 49, 46, 49, 46, 49, 10]⟩ : ByteArray).toList == [114, 111, 117, 116, 101, 114, 32, 49, 32, 49, 46, 49, 46, 49, 46, 49, 10]) = true := by decide +kernel
    have HB := hide hb
    have h2c := hl.2.1
    clear hr hn hl hx0 hx1 hc0 hc1 hb
    go_wp2
    go_ret
    exact ⟨rfl, HB.out⟩
  · exact absurd h5 (by decide)
theorem conv_by {w : World} {A : Option Addr} {n c : Nat} {l : List UInt8} (h : LstAt 1 byR w A n c l) : (convert 28 9 (.slice A n c)).run Tryz.prog w = .ok (.string (str l)) w := by
  by_cases hn : 0 < n
  · obtain ⟨g, o, rfl, hg, hc⟩ := h.2.2.2 hn
    have := run_convert_bytes_back (P := Tryz.prog) w 28 9 5 ⟨g, o, none⟩ c l Tryz.underlying28 Tryz.underlying5 Tryz.underlying9 (fun j hj => by
      obtain ⟨vs, _, rfl, h3⟩ := hc j l[j] (List.getElem?_eq_getElem hj)
      have h4 := h3 0 _ rfl
      have e : (⟨g, o, none⟩ : Addr).add j = ⟨g, o + j, none⟩ := by unfold Addr.add; split <;> simp_all
      rw [e]
      simpa using h4)
    rw [h.1] at this
    exact this
  · obtain rfl : n = 0 := by omega
    obtain rfl : l = [] := List.eq_nil_of_length_eq_zero h.1
    cases A with
    | some a => exact run_convert_bytes_back (P := Tryz.prog) w 28 9 5 a c [] Tryz.underlying28 Tryz.underlying5 Tryz.underlying9 (fun j hj => by cases hj)
    | none =>
      rw [run_convert_bytes_string w 28 9 5 none 0 c Tryz.underlying28 Tryz.underlying5 Tryz.underlying9]
      simp [Conv.bytesToString, loadCells, str, ByteArray.empty, ByteArray.emptyWithCapacity]
      rfl
theorem cut_str (S : ByteArray) (k : Nat) (h : k < S.size) : S.extract 0 k = str (S.data.toList.take k) := by
  have : (S.extract 0 k).data = (str (S.data.toList.take k)).data := by
    rw [ByteArray.data_extract]
    unfold str
    apply Array.ext'
    simp [Array.toList_extract, List.take_eq_take_iff]
  cases hx : S.extract 0 k
  rw [hx] at this
  simp only at this
  rw [this]
end Go.Proofs.YtlfknndpbejbcaaGreatDoor
set_option linter.unusedSimpArgs false
set_option linter.unusedVariables false
namespace Go.Proofs.YtlfknndpbejbcaaGreatDoor
open Go.RowKit Go.WideShapes Go.ChangeShapes
attribute [local go_sem] Oper.semAt_some
def onlyV (m : MV) (v : Value) : Value := if m.k = 5 then v else .slice none 0 0
set_option maxRecDepth 100000 in
set_option maxHeartbeats 4000000 in
theorem ronly_any (m : MV) (A : Option Addr) (n c : Nat) (w : World) : Calls Tryz.prog 10 #[mvV m (.slice A n c)] w fun e w' => e = .returned (mvV (mvOnly m) (onlyV m (.slice A n c))) ∧ Below w.heap.size w w' := by
  obtain ⟨k, p, nn, b, t, oa, oh, oi, fo⟩ := m
  have HB : Hid (∀ o1 o2 o3 : Obj, Below w.heap.size w (((w.alloc o1).alloc o2).alloc o3)) := hide (fun o1 o2 o3 => (((Below.refl _ w).alloc (Nat.le_refl _) _).alloc (by simp) _).alloc (by simp; omega) _)
  unfold mvV
  simp only
  by_cases h6 : k = 6
  · subst h6
    go_enter Tryz.func10, Tryz.ntmps10
    go_wp2
    refine bodyPost_ret (v := .agg #[.int .i64 6, .int .u32 0, .int .i64 0, .slice none 0 0, .string ⟨#[]⟩, .int .u32 0, .int .i64 0, .int .u32 0, .bool false]) (by simp [results, Tryz.results10, go_sem]) rfl ⟨by simp [mvOnly, onlyV, str], HB.out _ _ _⟩
  · have e6 : (k == 6) = false := by simpa using h6
    by_cases h7 : k = 7
    · subst h7
      go_enter Tryz.func10, Tryz.ntmps10
      go_wp2
      refine bodyPost_ret (v := .agg #[.int .i64 7, .int .u32 0, .int .i64 0, .slice none 0 0, .string (str t), .int .u32 0, .int .i64 0, .int .u32 0, .bool false]) (by simp [results, Tryz.results10, go_sem]) rfl ⟨by simp [mvOnly, onlyV, str], HB.out _ _ _⟩
    · have e7 : (k == 7) = false := by simpa using h7
      by_cases h5 : k = 5
      · subst h5
        go_enter Tryz.func10, Tryz.ntmps10
        go_wp2
        refine bodyPost_ret (v := .agg #[.int .i64 5, .int .u32 (p : Int), .int .i64 0, .slice A n c, .string ⟨#[]⟩, .int .u32 0, .int .i64 0, .int .u32 0, .bool false]) (by simp [results, Tryz.results10, go_sem]) rfl ⟨by simp [mvOnly, onlyV, str], HB.out _ _ _⟩
      · have e5 : (k == 5) = false := by simpa using h5
        by_cases h8 : k = 8
        · subst h8
          go_enter Tryz.func10, Tryz.ntmps10
          go_wp2
          refine bodyPost_ret (v := .agg #[.int .i64 8, .int .u32 (p : Int), .int .i64 nn, .slice none 0 0, .string ⟨#[]⟩, .int .u32 0, .int .i64 0, .int .u32 0, .bool false]) (by simp [results, Tryz.results10, go_sem]) rfl ⟨by simp [mvOnly, onlyV, str], HB.out _ _ _⟩
        · have e8 : (k == 8) = false := by simpa using h8
          by_cases h9 : k = 9
          · subst h9
            go_enter Tryz.func10, Tryz.ntmps10
            go_wp2
            refine bodyPost_ret (v := .agg #[.int .i64 9, .int .u32 (p : Int), .int .i64 0, .slice none 0 0, .string ⟨#[]⟩, .int .u32 (oa : Int), .int .i64 oh, .int .u32 (oi : Int), .bool fo]) (by simp [results, Tryz.results10, go_sem]) rfl ⟨by simp [mvOnly, onlyV, str], HB.out _ _ _⟩
          · have e9 : (k == 9) = false := by simpa using h9
            by_cases hlo : k < 1
            · have d1 : decide (k < 1) = true := decide_eq_true hlo
              have HEq : Hid (mvOnly ⟨k, p, nn, b, t, oa, oh, oi, fo⟩ = mv0) := hide (by unfold mvOnly; rw [if_pos (.inl hlo)])
              have HV : Hid (onlyV ⟨k, p, nn, b, t, oa, oh, oi, fo⟩ (.slice A n c) = .slice none 0 0) := hide (by unfold onlyV; rw [if_neg h5])
              clear h5 h6 h7 h8 h9 hlo
              go_enter Tryz.func10, Tryz.ntmps10
              go_wp2
              refine bodyPost_ret (v := .agg #[.int .i64 0, .int .u32 0, .int .i64 0, .slice none 0 0, .string ⟨#[]⟩, .int .u32 0, .int .i64 0, .int .u32 0, .bool false]) (by simp [results, Tryz.results10, go_sem]) rfl ⟨by rw [HEq.out, HV.out]; rfl, HB.out _ _ _⟩
            · have d1 : decide (k < 1) = false := decide_eq_false hlo
              by_cases hhi : 10 < k
              · have d2 : decide (10 < k) = true := decide_eq_true hhi
                have HEq : Hid (mvOnly ⟨k, p, nn, b, t, oa, oh, oi, fo⟩ = mv0) := hide (by unfold mvOnly; rw [if_pos (.inr hhi)])
                have HV : Hid (onlyV ⟨k, p, nn, b, t, oa, oh, oi, fo⟩ (.slice A n c) = .slice none 0 0) := hide (by unfold onlyV; rw [if_neg h5])
                clear h5 h6 h7 h8 h9 hlo hhi
                go_enter Tryz.func10, Tryz.ntmps10
                go_wp2
                refine bodyPost_ret (v := .agg #[.int .i64 0, .int .u32 0, .int .i64 0, .slice none 0 0, .string ⟨#[]⟩, .int .u32 0, .int .i64 0, .int .u32 0, .bool false]) (by simp [results, Tryz.results10, go_sem]) rfl ⟨by rw [HEq.out, HV.out]; rfl, HB.out _ _ _⟩
              · have d2 : decide (10 < k) = false := decide_eq_false hhi
                have HEq : Hid (mvOnly ⟨k, p, nn, b, t, oa, oh, oi, fo⟩ = ⟨k, p, 0, [], [], 0, 0, 0, false⟩) := hide (by unfold mvOnly; rw [if_neg (by simp only; omega)]; simp [h5, h6, h7, h8, h9])
                have HV : Hid (onlyV ⟨k, p, nn, b, t, oa, oh, oi, fo⟩ (.slice A n c) = .slice none 0 0) := hide (by unfold onlyV; rw [if_neg h5])
                clear h5 h6 h7 h8 h9 hlo hhi
                go_enter Tryz.func10, Tryz.ntmps10
                go_wp2
                refine bodyPost_ret (v := .agg #[.int .i64 k, .int .u32 (p : Int), .int .i64 0, .slice none 0 0, .string ⟨#[]⟩, .int .u32 0, .int .i64 0, .int .u32 0, .bool false]) (by simp [results, Tryz.results10, go_sem]) rfl ⟨by rw [HEq.out, HV.out]; rfl, HB.out _ _ _⟩
set_option maxRecDepth 100000 in
set_option maxHeartbeats 4000000 in
theorem rsame_eq (m : MV) (A B : Option Addr) (n c q d : Nat) (w : World) (hA : LstAt 1 byR w A n c m.b) (hB : LstAt 1 byR w B q d m.b) :
    Calls Tryz.prog 9 #[mvV m (.slice A n c), mvV m (.slice B q d)] w fun e w' => e = .returned (.bool true) ∧ Below w.heap.size w w' := by
  obtain ⟨k, p, nn, b, t, oa, oh, oi, fo⟩ := m
  simp only at hA hB
  have hbl : Below w.heap.size w ((w.alloc (.cells #[.int .i64 k, .int .u32 (p : Int), .int .i64 nn, .slice A n c, .string (str t), .int .u32 (oa : Int), .int .i64 oh, .int .u32 (oi : Int), .bool fo] 32)).alloc (.cells #[.int .i64 k, .int .u32 (p : Int), .int .i64 nn, .slice B q d, .string (str t), .int .u32 (oa : Int), .int .i64 oh, .int .u32 (oi : Int), .bool fo] 32)) := ((Below.refl _ w).alloc (Nat.le_refl _) _).alloc (by simp) _
  have hcA := conv_by (hA.below byMono hbl)
  have hcB := conv_by (hB.below byMono hbl)
  obtain ⟨S, hS⟩ : ∃ S, str b = S := ⟨_, rfl⟩
  rw [hS] at hcA hcB
  have HB := hide hbl
  clear hA hB hbl hS
  unfold mvV
  simp only
  go_enter Tryz.func9, Tryz.ntmps9
  go_wp2
  go_ret
  exact ⟨by simp, HB.out⟩
end Go.Proofs.YtlfknndpbejbcaaGreatDoor
set_option linter.unusedSimpArgs false
set_option linter.unusedVariables false
namespace Go.Proofs.YtlfknndpbejbcaaGreatDoor
open Go.RowKit Go.WideShapes Go.ChangeShapes
attribute [local go_sem] Oper.semAt_some
def mvCut (m : MV) : MV := ⟨m.k, m.p, m.n, m.b.take 600, m.t.take 1500, m.oa, m.oh, m.oi, m.fo⟩
def MvCutP (m : MV) (w : World) (e : Ending) (w' : World) : Prop := ∃ A n c, e = .returned (mvV (mvCut m) (.slice A n c)) ∧ (mvCut m).b.length = n ∧ w'.ownsRow w.heap.size 5 1 (.slice A n c) n (byB (mvCut m).b) ∧ Below w.heap.size w w'
set_option maxRecDepth 100000 in
set_option maxHeartbeats 8000000 in
theorem smove_any (m : MV) (A : Option Addr) (n c : Nat) (w : World) (h : LstAt 1 byR w A n c m.b) (ht : m.t.length ≤ 9223372036854775807) : Calls Tryz.prog 18 #[mvV m (.slice A n c)] w (MvCutP m w) := by
  obtain ⟨k, p, nn, b, t, oa, oh, oi, fo⟩ := m
  simp only at h ht
  unfold mvV
  simp only
  have hsz : (str t).size = t.length := str_size t
  have hcut : 1500 < t.length → (str t).extract 0 1500 = str (t.take 1500) := fun h => by
    have := cut_str (str t) 1500 (by rw [str_size]; exact h)
    rwa [str_data] at this
  have HCut := hide hcut
  have hno : ¬ 1500 < t.length → t.take 1500 = t := fun h => List.take_of_length_le (by omega)
  have HNo := hide hno
  obtain ⟨T, hT⟩ : ∃ T, str t = T := ⟨_, rfl⟩
  rw [hT] at hsz HCut ⊢
  have HTT := hide hT
  have HSz := hide hsz
  have hTb : T.size ≤ 9223372036854775807 := by omega
  have HB0 : Hid (Below w.heap.size w ((w.alloc (.cells #[.int .i64 k, .int .u32 (p : Int), .int .i64 nn, .slice A n c, .string T, .int .u32 (oa : Int), .int .i64 oh, .int .u32 (oi : Int), .bool fo] 32)).alloc (.cells #[.int .i64 0, .int .u32 0, .int .i64 0, .slice none 0 0, .string ⟨#[]⟩, .int .u32 0, .int .i64 0, .int .u32 0, .bool false] 32))) := hide (((Below.refl _ w).alloc (Nat.le_refl _) _).alloc (by simp) _)
  have HBy := hide (lawBytes_any A n c b 600 (by decide) ((w.alloc (.cells #[.int .i64 k, .int .u32 (p : Int), .int .i64 nn, .slice A n c, .string T, .int .u32 (oa : Int), .int .i64 oh, .int .u32 (oi : Int), .bool fo] 32)).alloc (.cells #[.int .i64 0, .int .u32 0, .int .i64 0, .slice none 0 0, .string ⟨#[]⟩, .int .u32 0, .int .i64 0, .int .u32 0, .bool false] 32)) (h.below byMono HB0.out))
  obtain ⟨b2, hb2⟩ : ∃ b2, b.take 600 = b2 := ⟨_, rfl⟩
  rw [hb2] at HBy
  have HB2 := hide hb2
  have HK0 : Hid (Blk ((w.alloc (.cells #[.int .i64 k, .int .u32 (p : Int), .int .i64 nn, .slice A n c, .string T, .int .u32 (oa : Int), .int .i64 oh, .int .u32 (oi : Int), .bool fo] 32)).alloc (.cells #[.int .i64 0, .int .u32 0, .int .i64 0, .slice none 0 0, .string ⟨#[]⟩, .int .u32 0, .int .i64 0, .int .u32 0, .bool false] 32)) w.heap.size 32 #[.int .i64 k, .int .u32 (p : Int), .int .i64 nn, .slice A n c, .string T, .int .u32 (oa : Int), .int .i64 oh, .int .u32 (oi : Int), .bool fo]) := hide ((Blk.new w _ _).alloc _)
  have HR0 : Hid (Blk ((w.alloc (.cells #[.int .i64 k, .int .u32 (p : Int), .int .i64 nn, .slice A n c, .string T, .int .u32 (oa : Int), .int .i64 oh, .int .u32 (oi : Int), .bool fo] 32)).alloc (.cells #[.int .i64 0, .int .u32 0, .int .i64 0, .slice none 0 0, .string ⟨#[]⟩, .int .u32 0, .int .i64 0, .int .u32 0, .bool false] 32)) (w.heap.size + 1) 32 #[.int .i64 0, .int .u32 0, .int .i64 0, .slice none 0 0, .string ⟨#[]⟩, .int .u32 0, .int .i64 0, .int .u32 0, .bool false]) := hide (blk_new' _ _ (by simp))
  clear h ht hT hsz hb2 hcut hno
  go_enter Tryz.func18, Tryz.ntmps18
  go_wp2_with fail
  refine HBy.out.mono ?_
  rintro e w2 ⟨A2, n2, q2, rfl, hn2, ho, hb⟩
  have HN2 := hide hn2
  have HO : Hid (w2.ownsRow (w.heap.size + 2) 5 1 (.slice A2 n2 q2) n2 (byB b2)) := hide (by simpa using ho)
  have HK2 := hide (HK0.out.below hb (by simp; omega))
  have HR2 := hide (HR0.out.below hb (by simp))
  have HBw := hide (HB0.out.trans (hb.mono HB0.out.size))
  have hlk := HK2.out.lt
  have hlr := HR2.out.lt
  have c0 : w2.cell? ⟨w.heap.size, 0, none⟩ = some (.int .i64 k) := HK2.out.cell 0
  have c1 : w2.cell? ⟨w.heap.size, 1, none⟩ = some (.int .u32 (p : Int)) := HK2.out.cell 1
  have c2 : w2.cell? ⟨w.heap.size, 2, none⟩ = some (.int .i64 nn) := HK2.out.cell 2
  have c3 : w2.cell? ⟨w.heap.size, 3, none⟩ = some (.slice A n c) := HK2.out.cell 3
  have c4 : w2.cell? ⟨w.heap.size, 4, none⟩ = some (.string T) := HK2.out.cell 4
  have c5 : w2.cell? ⟨w.heap.size, 5, none⟩ = some (.int .u32 (oa : Int)) := HK2.out.cell 5
  have c6 : w2.cell? ⟨w.heap.size, 6, none⟩ = some (.int .i64 oh) := HK2.out.cell 6
  have c7 : w2.cell? ⟨w.heap.size, 7, none⟩ = some (.int .u32 (oi : Int)) := HK2.out.cell 7
  have c8 : w2.cell? ⟨w.heap.size, 8, none⟩ = some (.bool fo) := HK2.out.cell 8
  have cf3 := HK2.out.frozen 3
  have cf4 := HK2.out.frozen 4
  have r0 : w2.cell? ⟨w.heap.size + 1, 0, none⟩ = some (.int .i64 0) := HR2.out.cell 0
  have r1 : w2.cell? ⟨w.heap.size + 1, 1, none⟩ = some (.int .u32 0) := HR2.out.cell 1
  have r2 : w2.cell? ⟨w.heap.size + 1, 2, none⟩ = some (.int .i64 0) := HR2.out.cell 2
  have r3 : w2.cell? ⟨w.heap.size + 1, 3, none⟩ = some (.slice none 0 0) := HR2.out.cell 3
  have r4 : w2.cell? ⟨w.heap.size + 1, 4, none⟩ = some (.string ⟨#[]⟩) := HR2.out.cell 4
  have r5 : w2.cell? ⟨w.heap.size + 1, 5, none⟩ = some (.int .u32 0) := HR2.out.cell 5
  have r6 : w2.cell? ⟨w.heap.size + 1, 6, none⟩ = some (.int .i64 0) := HR2.out.cell 6
  have r7 : w2.cell? ⟨w.heap.size + 1, 7, none⟩ = some (.int .u32 0) := HR2.out.cell 7
  have r8 : w2.cell? ⟨w.heap.size + 1, 8, none⟩ = some (.bool false) := HR2.out.cell 8
  have rf0 := HR2.out.frozen 0
  have rf1 := HR2.out.frozen 1
  have rf2 := HR2.out.frozen 2
  have rf3 := HR2.out.frozen 3
  have rf4 := HR2.out.frozen 4
  have rf5 := HR2.out.frozen 5
  have rf6 := HR2.out.frozen 6
  have rf7 := HR2.out.frozen 7
  have rf8 := HR2.out.frozen 8
  clear hn2 ho hb
  by_cases h1 : 1500 < T.size
  · have HE : Hid (T.extract 0 1500 = str (t.take 1500)) := hide (HCut.out (by rw [← HSz.out]; exact h1))
    obtain ⟨T2, hT2⟩ : ∃ T2, str (t.take 1500) = T2 := ⟨_, rfl⟩
    rw [hT2] at HE
    have HT2 := hide hT2
    have hE := HE.out
    have hq : (1500 : Int) ≤ (T.size : Int) := by omega
    clear hT2
    go_wp2
    have HF : Hid (Blk (((((((((((w2.setCell ⟨w.heap.size, 3, none⟩ (.slice A2 n2 q2)).setCell ⟨w.heap.size, 4, none⟩ (.string T2)).setCell ⟨w.heap.size + 1, 0, none⟩ (.int .i64 k)).setCell ⟨w.heap.size + 1, 1, none⟩ (.int .u32 (p : Int))).setCell ⟨w.heap.size + 1, 2, none⟩ (.int .i64 nn)).setCell ⟨w.heap.size + 1, 3, none⟩ (.slice A2 n2 q2)).setCell ⟨w.heap.size + 1, 4, none⟩ (.string T2)).setCell ⟨w.heap.size + 1, 5, none⟩ (.int .u32 (oa : Int))).setCell ⟨w.heap.size + 1, 6, none⟩ (.int .i64 oh)).setCell ⟨w.heap.size + 1, 7, none⟩ (.int .u32 (oi : Int))).setCell ⟨w.heap.size + 1, 8, none⟩ (.bool fo)) (w.heap.size + 1) 32 #[.int .i64 k, .int .u32 (p : Int), .int .i64 nn, .slice A2 n2 q2, .string T2, .int .u32 (oa : Int), .int .i64 oh, .int .u32 (oi : Int), .bool fo]) := hide (by
      have := setMv_blk (m := ⟨k, p, nn, b2, t.take 1500, oa, oh, oi, fo⟩) (v := .slice A2 n2 q2) ((HR2.out.far (p := ⟨w.heap.size, 3, none⟩) (by show w.heap.size + 1 ≠ w.heap.size; omega) (.slice A2 n2 q2)).far (p := ⟨w.heap.size, 4, none⟩) (by show w.heap.size + 1 ≠ w.heap.size; omega) (.string T2))
      unfold setMv mvC at this
      simp only at this
      rw [HT2.out] at this
      exact this)
    have HOF : Hid (World.ownsRow (((((((((((w2.setCell ⟨w.heap.size, 3, none⟩ (.slice A2 n2 q2)).setCell ⟨w.heap.size, 4, none⟩ (.string T2)).setCell ⟨w.heap.size + 1, 0, none⟩ (.int .i64 k)).setCell ⟨w.heap.size + 1, 1, none⟩ (.int .u32 (p : Int))).setCell ⟨w.heap.size + 1, 2, none⟩ (.int .i64 nn)).setCell ⟨w.heap.size + 1, 3, none⟩ (.slice A2 n2 q2)).setCell ⟨w.heap.size + 1, 4, none⟩ (.string T2)).setCell ⟨w.heap.size + 1, 5, none⟩ (.int .u32 (oa : Int))).setCell ⟨w.heap.size + 1, 6, none⟩ (.int .i64 oh)).setCell ⟨w.heap.size + 1, 7, none⟩ (.int .u32 (oi : Int))).setCell ⟨w.heap.size + 1, 8, none⟩ (.bool fo)) (w.heap.size + 2) 5 1 (.slice A2 n2 q2) n2 (byB b2)) := hide (by
      have := setMv_own (R := w.heap.size + 1) (m := ⟨k, p, nn, b2, t.take 1500, oa, oh, oi, fo⟩) (v := .slice A2 n2 q2) (own_set (g := w.heap.size) (i := 4) (own_set (g := w.heap.size) (i := 3) HO.out (fun e => by have := own_low_block HO.out _ e; omega) (.slice A2 n2 q2)) (fun e => by have := own_low_block HO.out _ e; omega) (.string T2)) (fun e => by have := own_low_block HO.out _ e; omega)
      unfold setMv at this
      simp only at this
      rw [HT2.out] at this
      exact this)
    have HBF : Hid (Below w.heap.size w (((((((((((w2.setCell ⟨w.heap.size, 3, none⟩ (.slice A2 n2 q2)).setCell ⟨w.heap.size, 4, none⟩ (.string T2)).setCell ⟨w.heap.size + 1, 0, none⟩ (.int .i64 k)).setCell ⟨w.heap.size + 1, 1, none⟩ (.int .u32 (p : Int))).setCell ⟨w.heap.size + 1, 2, none⟩ (.int .i64 nn)).setCell ⟨w.heap.size + 1, 3, none⟩ (.slice A2 n2 q2)).setCell ⟨w.heap.size + 1, 4, none⟩ (.string T2)).setCell ⟨w.heap.size + 1, 5, none⟩ (.int .u32 (oa : Int))).setCell ⟨w.heap.size + 1, 6, none⟩ (.int .i64 oh)).setCell ⟨w.heap.size + 1, 7, none⟩ (.int .u32 (oi : Int))).setCell ⟨w.heap.size + 1, 8, none⟩ (.bool fo))) := hide (by
      have := setMv_below (R := w.heap.size + 1) (m := ⟨k, p, nn, b2, t.take 1500, oa, oh, oi, fo⟩) (v := .slice A2 n2 q2) ((HBw.out.setCell (p := ⟨w.heap.size, 3, none⟩) (Nat.le_refl _) (.slice A2 n2 q2)).setCell (p := ⟨w.heap.size, 4, none⟩) (Nat.le_refl _) (.string T2)) (Nat.le_succ _)
      unfold setMv at this
      simp only at this
      rw [HT2.out] at this
      exact this)
    have u0 : (((((((((((w2.setCell ⟨w.heap.size, 3, none⟩ (.slice A2 n2 q2)).setCell ⟨w.heap.size, 4, none⟩ (.string T2)).setCell ⟨w.heap.size + 1, 0, none⟩ (.int .i64 k)).setCell ⟨w.heap.size + 1, 1, none⟩ (.int .u32 (p : Int))).setCell ⟨w.heap.size + 1, 2, none⟩ (.int .i64 nn)).setCell ⟨w.heap.size + 1, 3, none⟩ (.slice A2 n2 q2)).setCell ⟨w.heap.size + 1, 4, none⟩ (.string T2)).setCell ⟨w.heap.size + 1, 5, none⟩ (.int .u32 (oa : Int))).setCell ⟨w.heap.size + 1, 6, none⟩ (.int .i64 oh)).setCell ⟨w.heap.size + 1, 7, none⟩ (.int .u32 (oi : Int))).setCell ⟨w.heap.size + 1, 8, none⟩ (.bool fo)).cell? ⟨w.heap.size + 1, 0, none⟩ = some (.int .i64 k) := HF.out.cell 0
    have u1 : (((((((((((w2.setCell ⟨w.heap.size, 3, none⟩ (.slice A2 n2 q2)).setCell ⟨w.heap.size, 4, none⟩ (.string T2)).setCell ⟨w.heap.size + 1, 0, none⟩ (.int .i64 k)).setCell ⟨w.heap.size + 1, 1, none⟩ (.int .u32 (p : Int))).setCell ⟨w.heap.size + 1, 2, none⟩ (.int .i64 nn)).setCell ⟨w.heap.size + 1, 3, none⟩ (.slice A2 n2 q2)).setCell ⟨w.heap.size + 1, 4, none⟩ (.string T2)).setCell ⟨w.heap.size + 1, 5, none⟩ (.int .u32 (oa : Int))).setCell ⟨w.heap.size + 1, 6, none⟩ (.int .i64 oh)).setCell ⟨w.heap.size + 1, 7, none⟩ (.int .u32 (oi : Int))).setCell ⟨w.heap.size + 1, 8, none⟩ (.bool fo)).cell? ⟨w.heap.size + 1, 1, none⟩ = some (.int .u32 (p : Int)) := HF.out.cell 1
    have u2 : (((((((((((w2.setCell ⟨w.heap.size, 3, none⟩ (.slice A2 n2 q2)).setCell ⟨w.heap.size, 4, none⟩ (.string T2)).setCell ⟨w.heap.size + 1, 0, none⟩ (.int .i64 k)).setCell ⟨w.heap.size + 1, 1, none⟩ (.int .u32 (p : Int))).setCell ⟨w.heap.size + 1, 2, none⟩ (.int .i64 nn)).setCell ⟨w.heap.size + 1, 3, none⟩ (.slice A2 n2 q2)).setCell ⟨w.heap.size + 1, 4, none⟩ (.string T2)).setCell ⟨w.heap.size + 1, 5, none⟩ (.int .u32 (oa : Int))).setCell ⟨w.heap.size + 1, 6, none⟩ (.int .i64 oh)).setCell ⟨w.heap.size + 1, 7, none⟩ (.int .u32 (oi : Int))).setCell ⟨w.heap.size + 1, 8, none⟩ (.bool fo)).cell? ⟨w.heap.size + 1, 2, none⟩ = some (.int .i64 nn) := HF.out.cell 2
    have u3 : (((((((((((w2.setCell ⟨w.heap.size, 3, none⟩ (.slice A2 n2 q2)).setCell ⟨w.heap.size, 4, none⟩ (.string T2)).setCell ⟨w.heap.size + 1, 0, none⟩ (.int .i64 k)).setCell ⟨w.heap.size + 1, 1, none⟩ (.int .u32 (p : Int))).setCell ⟨w.heap.size + 1, 2, none⟩ (.int .i64 nn)).setCell ⟨w.heap.size + 1, 3, none⟩ (.slice A2 n2 q2)).setCell ⟨w.heap.size + 1, 4, none⟩ (.string T2)).setCell ⟨w.heap.size + 1, 5, none⟩ (.int .u32 (oa : Int))).setCell ⟨w.heap.size + 1, 6, none⟩ (.int .i64 oh)).setCell ⟨w.heap.size + 1, 7, none⟩ (.int .u32 (oi : Int))).setCell ⟨w.heap.size + 1, 8, none⟩ (.bool fo)).cell? ⟨w.heap.size + 1, 3, none⟩ = some (.slice A2 n2 q2) := HF.out.cell 3
    have u4 : (((((((((((w2.setCell ⟨w.heap.size, 3, none⟩ (.slice A2 n2 q2)).setCell ⟨w.heap.size, 4, none⟩ (.string T2)).setCell ⟨w.heap.size + 1, 0, none⟩ (.int .i64 k)).setCell ⟨w.heap.size + 1, 1, none⟩ (.int .u32 (p : Int))).setCell ⟨w.heap.size + 1, 2, none⟩ (.int .i64 nn)).setCell ⟨w.heap.size + 1, 3, none⟩ (.slice A2 n2 q2)).setCell ⟨w.heap.size + 1, 4, none⟩ (.string T2)).setCell ⟨w.heap.size + 1, 5, none⟩ (.int .u32 (oa : Int))).setCell ⟨w.heap.size + 1, 6, none⟩ (.int .i64 oh)).setCell ⟨w.heap.size + 1, 7, none⟩ (.int .u32 (oi : Int))).setCell ⟨w.heap.size + 1, 8, none⟩ (.bool fo)).cell? ⟨w.heap.size + 1, 4, none⟩ = some (.string T2) := HF.out.cell 4
    have u5 : (((((((((((w2.setCell ⟨w.heap.size, 3, none⟩ (.slice A2 n2 q2)).setCell ⟨w.heap.size, 4, none⟩ (.string T2)).setCell ⟨w.heap.size + 1, 0, none⟩ (.int .i64 k)).setCell ⟨w.heap.size + 1, 1, none⟩ (.int .u32 (p : Int))).setCell ⟨w.heap.size + 1, 2, none⟩ (.int .i64 nn)).setCell ⟨w.heap.size + 1, 3, none⟩ (.slice A2 n2 q2)).setCell ⟨w.heap.size + 1, 4, none⟩ (.string T2)).setCell ⟨w.heap.size + 1, 5, none⟩ (.int .u32 (oa : Int))).setCell ⟨w.heap.size + 1, 6, none⟩ (.int .i64 oh)).setCell ⟨w.heap.size + 1, 7, none⟩ (.int .u32 (oi : Int))).setCell ⟨w.heap.size + 1, 8, none⟩ (.bool fo)).cell? ⟨w.heap.size + 1, 5, none⟩ = some (.int .u32 (oa : Int)) := HF.out.cell 5
    have u6 : (((((((((((w2.setCell ⟨w.heap.size, 3, none⟩ (.slice A2 n2 q2)).setCell ⟨w.heap.size, 4, none⟩ (.string T2)).setCell ⟨w.heap.size + 1, 0, none⟩ (.int .i64 k)).setCell ⟨w.heap.size + 1, 1, none⟩ (.int .u32 (p : Int))).setCell ⟨w.heap.size + 1, 2, none⟩ (.int .i64 nn)).setCell ⟨w.heap.size + 1, 3, none⟩ (.slice A2 n2 q2)).setCell ⟨w.heap.size + 1, 4, none⟩ (.string T2)).setCell ⟨w.heap.size + 1, 5, none⟩ (.int .u32 (oa : Int))).setCell ⟨w.heap.size + 1, 6, none⟩ (.int .i64 oh)).setCell ⟨w.heap.size + 1, 7, none⟩ (.int .u32 (oi : Int))).setCell ⟨w.heap.size + 1, 8, none⟩ (.bool fo)).cell? ⟨w.heap.size + 1, 6, none⟩ = some (.int .i64 oh) := HF.out.cell 6
    have u7 : (((((((((((w2.setCell ⟨w.heap.size, 3, none⟩ (.slice A2 n2 q2)).setCell ⟨w.heap.size, 4, none⟩ (.string T2)).setCell ⟨w.heap.size + 1, 0, none⟩ (.int .i64 k)).setCell ⟨w.heap.size + 1, 1, none⟩ (.int .u32 (p : Int))).setCell ⟨w.heap.size + 1, 2, none⟩ (.int .i64 nn)).setCell ⟨w.heap.size + 1, 3, none⟩ (.slice A2 n2 q2)).setCell ⟨w.heap.size + 1, 4, none⟩ (.string T2)).setCell ⟨w.heap.size + 1, 5, none⟩ (.int .u32 (oa : Int))).setCell ⟨w.heap.size + 1, 6, none⟩ (.int .i64 oh)).setCell ⟨w.heap.size + 1, 7, none⟩ (.int .u32 (oi : Int))).setCell ⟨w.heap.size + 1, 8, none⟩ (.bool fo)).cell? ⟨w.heap.size + 1, 7, none⟩ = some (.int .u32 (oi : Int)) := HF.out.cell 7
    have u8 : (((((((((((w2.setCell ⟨w.heap.size, 3, none⟩ (.slice A2 n2 q2)).setCell ⟨w.heap.size, 4, none⟩ (.string T2)).setCell ⟨w.heap.size + 1, 0, none⟩ (.int .i64 k)).setCell ⟨w.heap.size + 1, 1, none⟩ (.int .u32 (p : Int))).setCell ⟨w.heap.size + 1, 2, none⟩ (.int .i64 nn)).setCell ⟨w.heap.size + 1, 3, none⟩ (.slice A2 n2 q2)).setCell ⟨w.heap.size + 1, 4, none⟩ (.string T2)).setCell ⟨w.heap.size + 1, 5, none⟩ (.int .u32 (oa : Int))).setCell ⟨w.heap.size + 1, 6, none⟩ (.int .i64 oh)).setCell ⟨w.heap.size + 1, 7, none⟩ (.int .u32 (oi : Int))).setCell ⟨w.heap.size + 1, 8, none⟩ (.bool fo)).cell? ⟨w.heap.size + 1, 8, none⟩ = some (.bool fo) := HF.out.cell 8
    have HMc : Hid (mvCut ⟨k, p, nn, b, t, oa, oh, oi, fo⟩ = ⟨k, p, nn, b2, t.take 1500, oa, oh, oi, fo⟩) := hide (by unfold mvCut; rw [HB2.out])
    refine bodyPost_ret (v := .agg #[.int .i64 k, .int .u32 (p : Int), .int .i64 nn, .slice A2 n2 q2, .string T2, .int .u32 (oa : Int), .int .i64 oh, .int .u32 (oi : Int), .bool fo]) (by simp [results, Tryz.results18, go_sem, u0, u1, u2, u3, u4, u5, u6, u7, u8]) rfl ⟨A2, n2, q2, ?_, ?_, ?_, HBF.out⟩
    · rw [HMc.out]; unfold mvV; simp only; rw [HT2.out]
    · rw [HMc.out]; exact HN2.out
    · rw [HMc.out]; exact own_baseLe HOF.out (by omega)
  · have HE : Hid (t.take 1500 = t) := hide (HNo.out (by rw [← HSz.out]; exact h1))
    go_wp2
    have HF : Hid (Blk ((((((((((w2.setCell ⟨w.heap.size, 3, none⟩ (.slice A2 n2 q2)).setCell ⟨w.heap.size + 1, 0, none⟩ (.int .i64 k)).setCell ⟨w.heap.size + 1, 1, none⟩ (.int .u32 (p : Int))).setCell ⟨w.heap.size + 1, 2, none⟩ (.int .i64 nn)).setCell ⟨w.heap.size + 1, 3, none⟩ (.slice A2 n2 q2)).setCell ⟨w.heap.size + 1, 4, none⟩ (.string T)).setCell ⟨w.heap.size + 1, 5, none⟩ (.int .u32 (oa : Int))).setCell ⟨w.heap.size + 1, 6, none⟩ (.int .i64 oh)).setCell ⟨w.heap.size + 1, 7, none⟩ (.int .u32 (oi : Int))).setCell ⟨w.heap.size + 1, 8, none⟩ (.bool fo)) (w.heap.size + 1) 32 #[.int .i64 k, .int .u32 (p : Int), .int .i64 nn, .slice A2 n2 q2, .string T, .int .u32 (oa : Int), .int .i64 oh, .int .u32 (oi : Int), .bool fo]) := hide (by
      have := setMv_blk (m := ⟨k, p, nn, b2, t, oa, oh, oi, fo⟩) (v := .slice A2 n2 q2) (HR2.out.far (p := ⟨w.heap.size, 3, none⟩) (by show w.heap.size + 1 ≠ w.heap.size; omega) (.slice A2 n2 q2))
      unfold setMv mvC at this
      simp only at this
      rw [HTT.out] at this
      exact this)
    have HOF : Hid (World.ownsRow ((((((((((w2.setCell ⟨w.heap.size, 3, none⟩ (.slice A2 n2 q2)).setCell ⟨w.heap.size + 1, 0, none⟩ (.int .i64 k)).setCell ⟨w.heap.size + 1, 1, none⟩ (.int .u32 (p : Int))).setCell ⟨w.heap.size + 1, 2, none⟩ (.int .i64 nn)).setCell ⟨w.heap.size + 1, 3, none⟩ (.slice A2 n2 q2)).setCell ⟨w.heap.size + 1, 4, none⟩ (.string T)).setCell ⟨w.heap.size + 1, 5, none⟩ (.int .u32 (oa : Int))).setCell ⟨w.heap.size + 1, 6, none⟩ (.int .i64 oh)).setCell ⟨w.heap.size + 1, 7, none⟩ (.int .u32 (oi : Int))).setCell ⟨w.heap.size + 1, 8, none⟩ (.bool fo)) (w.heap.size + 2) 5 1 (.slice A2 n2 q2) n2 (byB b2)) := hide (by
      have := setMv_own (R := w.heap.size + 1) (m := ⟨k, p, nn, b2, t, oa, oh, oi, fo⟩) (v := .slice A2 n2 q2) (own_set (g := w.heap.size) (i := 3) HO.out (fun e => by have := own_low_block HO.out _ e; omega) (.slice A2 n2 q2)) (fun e => by have := own_low_block HO.out _ e; omega)
      unfold setMv at this
      simp only at this
      rw [HTT.out] at this
      exact this)
    have HBF : Hid (Below w.heap.size w ((((((((((w2.setCell ⟨w.heap.size, 3, none⟩ (.slice A2 n2 q2)).setCell ⟨w.heap.size + 1, 0, none⟩ (.int .i64 k)).setCell ⟨w.heap.size + 1, 1, none⟩ (.int .u32 (p : Int))).setCell ⟨w.heap.size + 1, 2, none⟩ (.int .i64 nn)).setCell ⟨w.heap.size + 1, 3, none⟩ (.slice A2 n2 q2)).setCell ⟨w.heap.size + 1, 4, none⟩ (.string T)).setCell ⟨w.heap.size + 1, 5, none⟩ (.int .u32 (oa : Int))).setCell ⟨w.heap.size + 1, 6, none⟩ (.int .i64 oh)).setCell ⟨w.heap.size + 1, 7, none⟩ (.int .u32 (oi : Int))).setCell ⟨w.heap.size + 1, 8, none⟩ (.bool fo))) := hide (by
      have := setMv_below (R := w.heap.size + 1) (m := ⟨k, p, nn, b2, t, oa, oh, oi, fo⟩) (v := .slice A2 n2 q2) (HBw.out.setCell (p := ⟨w.heap.size, 3, none⟩) (Nat.le_refl _) (.slice A2 n2 q2)) (Nat.le_succ _)
      unfold setMv at this
      simp only at this
      rw [HTT.out] at this
      exact this)
    have u0 : ((((((((((w2.setCell ⟨w.heap.size, 3, none⟩ (.slice A2 n2 q2)).setCell ⟨w.heap.size + 1, 0, none⟩ (.int .i64 k)).setCell ⟨w.heap.size + 1, 1, none⟩ (.int .u32 (p : Int))).setCell ⟨w.heap.size + 1, 2, none⟩ (.int .i64 nn)).setCell ⟨w.heap.size + 1, 3, none⟩ (.slice A2 n2 q2)).setCell ⟨w.heap.size + 1, 4, none⟩ (.string T)).setCell ⟨w.heap.size + 1, 5, none⟩ (.int .u32 (oa : Int))).setCell ⟨w.heap.size + 1, 6, none⟩ (.int .i64 oh)).setCell ⟨w.heap.size + 1, 7, none⟩ (.int .u32 (oi : Int))).setCell ⟨w.heap.size + 1, 8, none⟩ (.bool fo)).cell? ⟨w.heap.size + 1, 0, none⟩ = some (.int .i64 k) := HF.out.cell 0
    have u1 : ((((((((((w2.setCell ⟨w.heap.size, 3, none⟩ (.slice A2 n2 q2)).setCell ⟨w.heap.size + 1, 0, none⟩ (.int .i64 k)).setCell ⟨w.heap.size + 1, 1, none⟩ (.int .u32 (p : Int))).setCell ⟨w.heap.size + 1, 2, none⟩ (.int .i64 nn)).setCell ⟨w.heap.size + 1, 3, none⟩ (.slice A2 n2 q2)).setCell ⟨w.heap.size + 1, 4, none⟩ (.string T)).setCell ⟨w.heap.size + 1, 5, none⟩ (.int .u32 (oa : Int))).setCell ⟨w.heap.size + 1, 6, none⟩ (.int .i64 oh)).setCell ⟨w.heap.size + 1, 7, none⟩ (.int .u32 (oi : Int))).setCell ⟨w.heap.size + 1, 8, none⟩ (.bool fo)).cell? ⟨w.heap.size + 1, 1, none⟩ = some (.int .u32 (p : Int)) := HF.out.cell 1
    have u2 : ((((((((((w2.setCell ⟨w.heap.size, 3, none⟩ (.slice A2 n2 q2)).setCell ⟨w.heap.size + 1, 0, none⟩ (.int .i64 k)).setCell ⟨w.heap.size + 1, 1, none⟩ (.int .u32 (p : Int))).setCell ⟨w.heap.size + 1, 2, none⟩ (.int .i64 nn)).setCell ⟨w.heap.size + 1, 3, none⟩ (.slice A2 n2 q2)).setCell ⟨w.heap.size + 1, 4, none⟩ (.string T)).setCell ⟨w.heap.size + 1, 5, none⟩ (.int .u32 (oa : Int))).setCell ⟨w.heap.size + 1, 6, none⟩ (.int .i64 oh)).setCell ⟨w.heap.size + 1, 7, none⟩ (.int .u32 (oi : Int))).setCell ⟨w.heap.size + 1, 8, none⟩ (.bool fo)).cell? ⟨w.heap.size + 1, 2, none⟩ = some (.int .i64 nn) := HF.out.cell 2
    have u3 : ((((((((((w2.setCell ⟨w.heap.size, 3, none⟩ (.slice A2 n2 q2)).setCell ⟨w.heap.size + 1, 0, none⟩ (.int .i64 k)).setCell ⟨w.heap.size + 1, 1, none⟩ (.int .u32 (p : Int))).setCell ⟨w.heap.size + 1, 2, none⟩ (.int .i64 nn)).setCell ⟨w.heap.size + 1, 3, none⟩ (.slice A2 n2 q2)).setCell ⟨w.heap.size + 1, 4, none⟩ (.string T)).setCell ⟨w.heap.size + 1, 5, none⟩ (.int .u32 (oa : Int))).setCell ⟨w.heap.size + 1, 6, none⟩ (.int .i64 oh)).setCell ⟨w.heap.size + 1, 7, none⟩ (.int .u32 (oi : Int))).setCell ⟨w.heap.size + 1, 8, none⟩ (.bool fo)).cell? ⟨w.heap.size + 1, 3, none⟩ = some (.slice A2 n2 q2) := HF.out.cell 3
    have u4 : ((((((((((w2.setCell ⟨w.heap.size, 3, none⟩ (.slice A2 n2 q2)).setCell ⟨w.heap.size + 1, 0, none⟩ (.int .i64 k)).setCell ⟨w.heap.size + 1, 1, none⟩ (.int .u32 (p : Int))).setCell ⟨w.heap.size + 1, 2, none⟩ (.int .i64 nn)).setCell ⟨w.heap.size + 1, 3, none⟩ (.slice A2 n2 q2)).setCell ⟨w.heap.size + 1, 4, none⟩ (.string T)).setCell ⟨w.heap.size + 1, 5, none⟩ (.int .u32 (oa : Int))).setCell ⟨w.heap.size + 1, 6, none⟩ (.int .i64 oh)).setCell ⟨w.heap.size + 1, 7, none⟩ (.int .u32 (oi : Int))).setCell ⟨w.heap.size + 1, 8, none⟩ (.bool fo)).cell? ⟨w.heap.size + 1, 4, none⟩ = some (.string T) := HF.out.cell 4
    have u5 : ((((((((((w2.setCell ⟨w.heap.size, 3, none⟩ (.slice A2 n2 q2)).setCell ⟨w.heap.size + 1, 0, none⟩ (.int .i64 k)).setCell ⟨w.heap.size + 1, 1, none⟩ (.int .u32 (p : Int))).setCell ⟨w.heap.size + 1, 2, none⟩ (.int .i64 nn)).setCell ⟨w.heap.size + 1, 3, none⟩ (.slice A2 n2 q2)).setCell ⟨w.heap.size + 1, 4, none⟩ (.string T)).setCell ⟨w.heap.size + 1, 5, none⟩ (.int .u32 (oa : Int))).setCell ⟨w.heap.size + 1, 6, none⟩ (.int .i64 oh)).setCell ⟨w.heap.size + 1, 7, none⟩ (.int .u32 (oi : Int))).setCell ⟨w.heap.size + 1, 8, none⟩ (.bool fo)).cell? ⟨w.heap.size + 1, 5, none⟩ = some (.int .u32 (oa : Int)) := HF.out.cell 5
    have u6 : ((((((((((w2.setCell ⟨w.heap.size, 3, none⟩ (.slice A2 n2 q2)).setCell ⟨w.heap.size + 1, 0, none⟩ (.int .i64 k)).setCell ⟨w.heap.size + 1, 1, none⟩ (.int .u32 (p : Int))).setCell ⟨w.heap.size + 1, 2, none⟩ (.int .i64 nn)).setCell ⟨w.heap.size + 1, 3, none⟩ (.slice A2 n2 q2)).setCell ⟨w.heap.size + 1, 4, none⟩ (.string T)).setCell ⟨w.heap.size + 1, 5, none⟩ (.int .u32 (oa : Int))).setCell ⟨w.heap.size + 1, 6, none⟩ (.int .i64 oh)).setCell ⟨w.heap.size + 1, 7, none⟩ (.int .u32 (oi : Int))).setCell ⟨w.heap.size + 1, 8, none⟩ (.bool fo)).cell? ⟨w.heap.size + 1, 6, none⟩ = some (.int .i64 oh) := HF.out.cell 6
    have u7 : ((((((((((w2.setCell ⟨w.heap.size, 3, none⟩ (.slice A2 n2 q2)).setCell ⟨w.heap.size + 1, 0, none⟩ (.int .i64 k)).setCell ⟨w.heap.size + 1, 1, none⟩ (.int .u32 (p : Int))).setCell ⟨w.heap.size + 1, 2, none⟩ (.int .i64 nn)).setCell ⟨w.heap.size + 1, 3, none⟩ (.slice A2 n2 q2)).setCell ⟨w.heap.size + 1, 4, none⟩ (.string T)).setCell ⟨w.heap.size + 1, 5, none⟩ (.int .u32 (oa : Int))).setCell ⟨w.heap.size + 1, 6, none⟩ (.int .i64 oh)).setCell ⟨w.heap.size + 1, 7, none⟩ (.int .u32 (oi : Int))).setCell ⟨w.heap.size + 1, 8, none⟩ (.bool fo)).cell? ⟨w.heap.size + 1, 7, none⟩ = some (.int .u32 (oi : Int)) := HF.out.cell 7
    have u8 : ((((((((((w2.setCell ⟨w.heap.size, 3, none⟩ (.slice A2 n2 q2)).setCell ⟨w.heap.size + 1, 0, none⟩ (.int .i64 k)).setCell ⟨w.heap.size + 1, 1, none⟩ (.int .u32 (p : Int))).setCell ⟨w.heap.size + 1, 2, none⟩ (.int .i64 nn)).setCell ⟨w.heap.size + 1, 3, none⟩ (.slice A2 n2 q2)).setCell ⟨w.heap.size + 1, 4, none⟩ (.string T)).setCell ⟨w.heap.size + 1, 5, none⟩ (.int .u32 (oa : Int))).setCell ⟨w.heap.size + 1, 6, none⟩ (.int .i64 oh)).setCell ⟨w.heap.size + 1, 7, none⟩ (.int .u32 (oi : Int))).setCell ⟨w.heap.size + 1, 8, none⟩ (.bool fo)).cell? ⟨w.heap.size + 1, 8, none⟩ = some (.bool fo) := HF.out.cell 8
    have HMc : Hid (mvCut ⟨k, p, nn, b, t, oa, oh, oi, fo⟩ = ⟨k, p, nn, b2, t, oa, oh, oi, fo⟩) := hide (by unfold mvCut; rw [HB2.out]; simp only; rw [HE.out])
    refine bodyPost_ret (v := .agg #[.int .i64 k, .int .u32 (p : Int), .int .i64 nn, .slice A2 n2 q2, .string T, .int .u32 (oa : Int), .int .i64 oh, .int .u32 (oi : Int), .bool fo]) (by simp [results, Tryz.results18, go_sem, u0, u1, u2, u3, u4, u5, u6, u7, u8]) rfl ⟨A2, n2, q2, ?_, ?_, ?_, HBF.out⟩
    · rw [HMc.out]; unfold mvV; simp only; rw [HTT.out]
    · rw [HMc.out]; exact HN2.out
    · rw [HMc.out]; exact own_baseLe HOF.out (by omega)
end Go.Proofs.YtlfknndpbejbcaaGreatDoor
set_option linter.unusedSimpArgs false
set_option linter.unusedVariables false
namespace Go.Proofs.YtlfknndpbejbcaaGreatDoor
open Go.RowKit Go.WideShapes Go.ChangeShapes Go.ChangeAt
theorem gSp : Tryz.prog.globalNamed "strings.asciiSpace" = some 0 := by kernel_rfl
theorem gSpType : (Tryz.prog.globals[0]?).map (·.type) = some 99 := by kernel_rfl
theorem cells256 : Tryz.prog.cellsOf 99 = 256 := by kernel_rfl
theorem cells8 : Tryz.prog.cellsOf 5 = 1 := by kernel_rfl
theorem spData : (Rows.laid_strings_asciiSpace : DataW Unit) = Lib.tabData .u8 Lib.asciiSpaceTab := by kernel_rfl
theorem sp_of_laid {W : World} {laid : List (String × DataW Unit)} (hh : (laid.all fun x => x.2.handleName?.isNone) = true) (hm : ("strings.asciiSpace", Rows.laid_strings_asciiSpace) ∈ laid) (h : laidMetH Tryz.prog laid W) : SpTab W := by
  rw [MakeChecks.laidMetH_plain _ _ _ hh] at h
  rw [spData] at hm
  exact tabIs_of_mem (zs := Lib.asciiSpaceTab) gSp gSpType Tryz.underlying99 Tryz.underlying5 cells8 cells256 h hm
theorem bytes_open {H : Type} {enc : TypeId × Value → H} {W : World} {A : Option Addr} {n c : Nat} {d : DataW H} {p : List MemPlace}
    (h : DataW.Trod enc Tryz.prog W 0 (fun _ => true) true 28 (.slice A n c) d p) : ∃ l, LstAt 1 byR W A n c l := by
  obtain ⟨fuel, hf⟩ := h
  obtain ⟨A', n', c', l, e, hl⟩ := lst_open (R := byR) (sz := 1) Tryz.underlying28 cells8 (by decide) (fun f cs x hx => by
    obtain ⟨z, e, _, w⟩ := DataW.trod_int Tryz.underlying5 hx
    have c0 : 0 ≤ z ∧ z ≤ 255 := by simpa [Lit.wf, IntKind.min, IntKind.max, IntKind.signed, IntKind.bits] using w
    refine ⟨UInt8.ofNat z.toNat, ?_⟩
    unfold byR
    rw [e, UInt8.toNat_ofNat']
    congr 2
    omega) hf
  have e2 : Value.slice A n c = .slice A' n' c' := by simpa [Value.cells] using e
  injection e2 with e1 e2 e3
  subst e1 e2 e3
  exact ⟨l, hl⟩
end Go.Proofs.YtlfknndpbejbcaaGreatDoor
set_option linter.unusedSimpArgs false
set_option linter.unusedVariables false
namespace Go.Proofs.YtlfknndpbejbcaaGreatDoor
open Go.RowKit Go.WideShapes Go.ChangeShapes Go.ChangeAt
def mvP (w : World) (vs : List Value) (m : MV) : Prop := ∃ A n c, vs = mvC m (.slice A n c) ∧ LstAt 1 byR w A n c m.b ∧ MvOk m ∧ m.t.length ≤ 9223372036854775807
theorem mvpMono : SMono mvP := fun w w' vs m hb ⟨A, n, c, e, h, k, l⟩ => ⟨A, n, c, e, h.below byMono hb, k, l⟩
set_option maxRecDepth 100000 in
set_option maxHeartbeats 4000000 in
theorem mv_opens {H : Type} {enc : TypeId × Value → H} {W : World} {f : Nat} {cs : List Value} {x : DataW H × List MemPlace} (h : DataW.trod enc Tryz.prog W 0 (fun _ => true) true f 32 cs = some x) : ∃ y, mvP W cs y := by
  obtain ⟨xs, n, _, rfl, hl, hlen, hf⟩ := DataW.trod_struct Tryz.underlying32 h
  have c9 : Tryz.prog.cellsOf 32 = 9 := by kernel_rfl
  have c4 : Tryz.prog.cellsOf 30 = 4 := by kernel_rfl
  rw [c9] at hl
  match xs, hlen with
  | [y0, y1, y2, y3, y4, y5], _ =>
  match cs, hl with
  | [v0, v1, v2, v3, v4, v5, v6, v7, v8], _ =>
    have h0 : DataW.trod enc Tryz.prog W 0 (fun _ => true) true n 3 [v0] = some y0 := hf 0 _ rfl
    have h1 : DataW.trod enc Tryz.prog W 0 (fun _ => true) true n 27 [v1] = some y1 := hf 1 _ rfl
    have h2 : DataW.trod enc Tryz.prog W 0 (fun _ => true) true n 3 [v2] = some y2 := hf 2 _ rfl
    have h3 : DataW.trod enc Tryz.prog W 0 (fun _ => true) true n 28 [v3] = some y3 := hf 3 _ rfl
    have h4 : DataW.trod enc Tryz.prog W 0 (fun _ => true) true n 9 [v4] = some y4 := hf 4 _ rfl
    have h5 : DataW.trod enc Tryz.prog W 0 (fun _ => true) true n 30 [v5, v6, v7, v8] = some y5 := hf 5 _ rfl
    clear hf
    obtain ⟨zs, n2, rfl, rfl, hl2, hlen2, hf2⟩ := DataW.trod_struct Tryz.underlying30 h5
    match zs, hlen2 with
    | [z0, z1, z2, z3], _ =>
      have g0 : DataW.trod enc Tryz.prog W 0 (fun _ => true) true n2 27 [v5] = some z0 := hf2 0 _ rfl
      have g1 : DataW.trod enc Tryz.prog W 0 (fun _ => true) true n2 3 [v6] = some z1 := hf2 1 _ rfl
      have g2 : DataW.trod enc Tryz.prog W 0 (fun _ => true) true n2 27 [v7] = some z2 := hf2 2 _ rfl
      have g3 : DataW.trod enc Tryz.prog W 0 (fun _ => true) true n2 4 [v8] = some z3 := hf2 3 _ rfl
      clear hf2 h5
      obtain ⟨k, e0, _, w0⟩ := DataW.trod_int Tryz.underlying3 h0
      obtain ⟨p, e1, _, w1⟩ := DataW.trod_int Tryz.underlying27 h1
      obtain ⟨nn, e2, _, w2⟩ := DataW.trod_int Tryz.underlying3 h2
      have h3' : ∃ A n c, v3 = .slice A n c := by
        rcases DataW.trod_slice Tryz.underlying28 h3 with ⟨e, _⟩ | ⟨a, len, cap, elems, rest, n, _, e, _⟩
        · exact ⟨none, 0, 0, by simpa using e⟩
        · exact ⟨some a, len, cap, by simpa using e⟩
      obtain ⟨A, m, c, rfl⟩ := h3'
      obtain ⟨l, hl⟩ := bytes_open (A := A) (n := m) (c := c) ⟨n2 + 1, by simpa [Value.cells] using h3⟩
      obtain ⟨s, e4, _, w4⟩ := DataW.trod_string Tryz.underlying9 h4
      obtain ⟨oa, e5, _, w5⟩ := DataW.trod_int Tryz.underlying27 g0
      obtain ⟨oh, e6, _, w6⟩ := DataW.trod_int Tryz.underlying3 g1
      obtain ⟨oi, e7, _, w7⟩ := DataW.trod_int Tryz.underlying27 g2
      obtain ⟨fo, e8, _⟩ := DataW.trod_bool Tryz.underlying4 g3
      simp only [List.cons.injEq, and_true] at e0 e1 e2 e4 e5 e6 e7 e8
      subst e0 e1 e2 e4 e5 e6 e7 e8
      have b1 : 0 ≤ p ∧ p ≤ 4294967295 := by simpa [Lit.wf, IntKind.min, IntKind.max, IntKind.signed, IntKind.bits] using w1
      have b5 : 0 ≤ oa ∧ oa ≤ 4294967295 := by simpa [Lit.wf, IntKind.min, IntKind.max, IntKind.signed, IntKind.bits] using w5
      have b7 : 0 ≤ oi ∧ oi ≤ 4294967295 := by simpa [Lit.wf, IntKind.min, IntKind.max, IntKind.signed, IntKind.bits] using w7
      have b0 : -9223372036854775808 ≤ k ∧ k ≤ 9223372036854775807 := by simpa [Lit.wf, IntKind.min, IntKind.max, IntKind.signed, IntKind.bits] using w0
      have b2 : -9223372036854775808 ≤ nn ∧ nn ≤ 9223372036854775807 := by simpa [Lit.wf, IntKind.min, IntKind.max, IntKind.signed, IntKind.bits] using w2
      have b6 : -9223372036854775808 ≤ oh ∧ oh ≤ 9223372036854775807 := by simpa [Lit.wf, IntKind.min, IntKind.max, IntKind.signed, IntKind.bits] using w6
      obtain ⟨p', rfl⟩ := Int.eq_ofNat_of_zero_le b1.1
      obtain ⟨oa', rfl⟩ := Int.eq_ofNat_of_zero_le b5.1
      obtain ⟨oi', rfl⟩ := Int.eq_ofNat_of_zero_le b7.1
      refine ⟨⟨k, p', nn, l, s.data.toList, oa', oh, oi', fo⟩, A, m, c, ?_, hl, ⟨by show p' < _; omega, by show oa' < _; omega, by show oi' < _; omega, b0, b2, b6⟩, ?_⟩
      · unfold mvC
        simp only
        rw [str_of]
      · have : s.data.toList.length = s.size := by rw [Array.length_toList]; rfl
        unfold maxLen at w4
        simp only
        omega
theorem moves_open {H : Type} {enc : TypeId × Value → H} {W : World} {A : Option Addr} {n c : Nat} {d : DataW H} {p : List MemPlace}
    (h : DataW.Trod enc Tryz.prog W 0 (fun _ => true) true 22 (.slice A n c) d p) : ∃ l, LstAt 9 mvP W A n c l := by
  obtain ⟨fuel, hf⟩ := h
  obtain ⟨A', n', c', l, e, hl⟩ := lst_open (R := mvP) (sz := 9) Tryz.underlying22 (by kernel_rfl) (by decide) (fun f cs x hx => mv_opens hx) hf
  have e2 : Value.slice A n c = .slice A' n' c' := by simpa [Value.cells] using e
  injection e2 with e1 e2 e3
  subst e1 e2 e3
  exact ⟨l, hl⟩
end Go.Proofs.YtlfknndpbejbcaaGreatDoor
