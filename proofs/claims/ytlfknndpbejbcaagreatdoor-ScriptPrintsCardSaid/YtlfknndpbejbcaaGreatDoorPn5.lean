import Derived.Test.YtlfknndpbejbcaaGreatDoorPn4
import Derived.WalkKit
import Derived.ProofKit
import Derived.OpenShut
import Derived.Below
import Derived.Laws.OwnMore
import Derived.Laws.Rows
import Derived.Laws.MakeOwn
import Derived.Deep.AppendLies
import Derived.Deep.Draws
import Derived.Deep.OwnRows
import Derived.Deep.QuietTactic
import Derived.Maps.AppendAt
import Derived.RegionTactic
import Derived.OwnWalk
import Derived.ChangeSame
import Derived.Outline
import Derived.BigQuiet
import Derived.WalkMore
import Derived.ScopeJumps
import Derived.WalkLawsBesides
import Derived.WalkSpells
import Derived.Laws.BitsLemmas
import Derived.Laws.BitsAllLaws
import Derived.Deep.Quiet
import Derived.WideKeyArgs
import Derived.Deep.DeepHandedRow
import Derived.Deep.DeepWitnessRowRef
import Derived.Lib.LaidTab
import Derived.Lib.AppendIntMem
import Derived.LaidMore
import Derived.MakeChecks
import Derived.Lib.Itoa
import Derived.Lib.ItoaMem
import Derived.BigRegion
import Derived.Deep.Slices
import Derived.Orders
import Derived.Lib.PathFns
import Derived.Lib.IndexBytes
import Derived.RangeFuncWrites
import Derived.RangeFuncNested
import Derived.RangeFuncBound
import Derived.RangeFuncCalls
import Derived.RangeFuncLeaves
import Derived.RangeFuncBox
import Derived.Shelf.Abstract
import Derived.Shelf.RegionOpen
import Derived.OwnWalkIn
import Derived.TacticsInMore
import Derived.LoopNIn
import Derived.LoopIn
import Derived.Lib.SmallJoins
import Derived.Lib.ParseIntBCases
import Derived.Lib.IndexMore
import Derived.Shelf.Vars
import Derived.Lib.AtoiAllCases
import Derived.SliceStrings
import Derived.Deep.RegionLaw
import Derived.Sort.LotA
import Derived.BigRegionIn
import Derived.Lib.Strings
import Derived.Lib.Bytealg
import Derived.StillTailTactics
import Derived.Deep.RegionHeld3
import Derived.Shelf.Strings.SplitShaped
import Derived.Shelf.Strings.Prefix
import Derived.Shelf.Small.Strs
import Derived.Shelf.Strings.BuilderK
import Derived.Laws.BytesString
import Derived.Laws.IdiomStrings
set_option linter.unusedSimpArgs false
set_option linter.unusedVariables false
namespace Go.Proofs.YtlfknndpbejbcaaGreatDoor
open Go.RowKit Go.WideShapes Go.ChangeShapes
attribute [local go_sem] Oper.semAt_some
/-- What is known when q moves of l have been looked at: all good and their text, or the first that is not. -/
inductive BadAt (l : List MV) (q : Nat) : Nat → List UInt8 → Prop
  | none : (∀ m ∈ l.take q, mvGood m = true) → BadAt l q 0 (textsM (l.take q))
  | at_ {i : Nat} {m : MV} {tx : List UInt8} : i < q → l[i]? = some m → mvGood m = false → (∀ m ∈ l.take i, mvGood m = true) → BadAt l q (i + 1) tx
theorem BadAt.good {l : List MV} {q : Nat} {m : MV} {tx : List UInt8} (h : BadAt l q 0 tx) (hx : l[q]? = some m) (hg : mvGood m = true) : BadAt l (q + 1) 0 (tx ++ feedT (shownM m)) := by
  cases h with
  | none h =>
    have e : l.take (q + 1) = l.take q ++ [m] := by rw [List.take_add_one, hx]; rfl
    rw [← textsM_snoc, ← e]
    exact .none (by rw [e]; intro x hx2; rcases List.mem_append.1 hx2 with hx2 | hx2; exact h x hx2; rw [List.mem_singleton.1 hx2]; exact hg)
theorem BadAt.bad {l : List MV} {q : Nat} {m : MV} {tx : List UInt8} (h : BadAt l q 0 tx) (hx : l[q]? = some m) (hg : mvGood m = false) : BadAt l (q + 1) (q + 1) tx := by
  cases h with
  | none h => exact .at_ (Nat.lt_succ_self q) hx hg h
theorem BadAt.more {l : List MV} {q b : Nat} {tx : List UInt8} (h : BadAt l q (b + 1) tx) : BadAt l (q + 1) (b + 1) tx := by
  cases h with
  | at_ h1 h2 h3 h4 => exact .at_ (Nat.lt_succ_of_lt h1) h2 h3 h4
theorem BadAt.le {l : List MV} {q b : Nat} {tx : List UInt8} (h : BadAt l q b tx) : b ≤ q := by
  cases h with
  | none h => omega
  | at_ h1 h2 h3 h4 => omega
theorem BadAt.txt {l : List MV} {q : Nat} {tx : List UInt8} (h : BadAt l q 0 tx) : tx = textsM (l.take q) := by
  cases h with
  | none h => rfl
theorem BadAt.all {l : List MV} {q : Nat} {tx : List UInt8} (h : BadAt l q 0 tx) : ∀ m ∈ l.take q, mvGood m = true := by
  cases h with
  | none h => exact h
theorem BadAt.first {l : List MV} {q b : Nat} {tx : List UInt8} (h : BadAt l q (b + 1) tx) : ∃ m, (l.take q)[b]? = some m ∧ mvGood m = false ∧ ∀ m ∈ (l.take q).take b, mvGood m = true := by
  cases h with
  | at_ h1 h2 h3 h4 => exact ⟨_, by rw [List.getElem?_take_of_lt h1]; exact h2, h3, fun m hm => h4 m (by rw [List.take_take, Nat.min_eq_left (by omega)] at hm; exact hm)⟩
theorem first_lt {l : List MV} {i b : Nat} {m : MV} (h1 : l[i]? = some m) (h2 : mvGood m = false) (h3 : ∀ m ∈ l.take b, mvGood m = true) : b ≤ i := by
  rcases Nat.lt_or_ge i b with h | h
  · exfalso
    have h4 : m ∈ l.take b := List.mem_of_getElem? (i := i) (by rw [List.getElem?_take_of_lt h]; exact h1)
    rw [h3 m h4] at h2
    cases h2
  · exact h
theorem head_cut {m : MV} (ok : MvOk m) (hg : mvGood m = true) (hb : m.b.length ≤ 600) : (jw (headM m)).length ≤ 2500 := by
  have h0 := jw_len2 (headM m)
  have hw := wordM_len m.k
  have ha := addrL_len m.p
  have hi := addrL_len m.oi
  have hl : (headM m).length ≤ 5 ∧ ((headM m).map List.length).sum ≤ 2000 := by
    obtain ⟨o1, o2, o3, o4, o5, o6⟩ := ok
    unfold mvGood at hg
    unfold headM tailM
    by_cases h8 : m.k = 8
    · rw [h8] at hg hw
      simp at hg
      have := dec_len m.n.toNat 18 (by omega)
      simp [h8]; omega
    · by_cases h5 : m.k = 5
      · rw [h5] at hg hw
        simp at hg
        have := hexT_len m.b
        simp [h5]; omega
      · by_cases h7 : m.k = 7
        · rw [h7] at hg hw
          simp at hg
          have h1 := linesM_len m.t
          have := dec_len (linesM m.t).length 18 (by omega)
          simp [h7]; omega
        · by_cases h9 : m.k = 9
          · rw [h9] at hg hw
            simp at hg
            have := dec_len m.oa 18 (by omega)
            have := dec_len m.oh.toNat 18 (by omega)
            simp [h9]; omega
          · by_cases h6 : m.k = 6
            · rw [h6] at hw
              simp [h6]; omega
            · simp [h5, h6, h7, h8, h9]; omega
  omega
theorem shown_cut {m : MV} (ok : MvOk m) (hg : mvGood m = true) (hb : m.b.length ≤ 600) (ht : m.t.length ≤ 1500) : (feedT (shownM m)).length ≤ 8000 := by
  have h0 := head_cut ok hg hb
  unfold shownM
  rw [feedT_cons_len]
  have : (feedT (behM m)).length ≤ 4000 := by
    unfold behM
    split
    · have h2 : ∀ l : List (List UInt8), (feedT (l.map (124 :: ·))).length = (feedT l).length + l.length := by
        intro l
        induction l with
        | nil => rfl
        | cons x l ih => rw [List.map_cons, feedT_cons_len, feedT_cons_len, ih]; simp; omega
      rw [h2]
      have h3 := linesM_feed m.t
      have h4 := linesM_len m.t
      omega
    · simp [feedT]
  omega
theorem textsM_cut (ms : List MV) (h : ∀ m ∈ ms, mvGood m = true ∧ MvOk m ∧ m.b.length ≤ 600 ∧ m.t.length ≤ 1500) : (textsM ms).length ≤ 8000 * ms.length := by
  induction ms with
  | nil => simp [textsM, feedT]
  | cons m ms ih =>
    have e : textsM (m :: ms) = feedT (shownM m) ++ textsM ms := by unfold textsM feedT; rw [List.flatMap_cons, List.flatMap_append]
    have := ih (fun x hx => h x (by simp [hx]))
    obtain ⟨g1, g2, g3, g4⟩ := h m (by simp)
    have h2 := shown_cut g2 g1 g3 g4
    rw [e, List.length_append, List.length_cons]
    omega
theorem only_lst {K : MV} {A : Option Addr} {n c : Nat} {w : World} (h : LstAt 1 byR w A n c K.b) : ∃ A2 n2 c2, onlyV K (.slice A n c) = .slice A2 n2 c2 ∧ LstAt 1 byR w A2 n2 c2 (mvOnly K).b := by
  unfold onlyV mvOnly
  by_cases h5 : K.k = 5
  · refine ⟨A, n, c, by rw [if_pos h5], ?_⟩
    rw [if_neg (by omega)]
    simp only [h5, if_true]
    exact h
  · refine ⟨none, 0, 0, by rw [if_neg h5], ?_⟩
    split
    · exact LstAt.none_
    · simp only [h5, if_false]
      exact LstAt.none_
theorem mvCut_ok {m : MV} (h : MvOk m) : MvOk (mvCut m) := ⟨h.p, h.oa, h.oi, h.k, h.n, h.oh⟩
theorem own_lt_ {w : World} {base n size : Nat} {e : TypeId} {v : Value} {xs : List Value} (h : w.ownsRow base e size v n xs) : ∀ k, v.ownBlock = some k → k < w.heap.size := by
  intro k hk
  rcases h.2 with ⟨rfl, _⟩ | ⟨g, cap, cur, rfl, e2, e3, rest⟩
  · simp [Value.ownBlock] at hk
  · have : g = k := by simpa [Value.ownBlock] using hk
    subst this
    exact (Array.getElem?_eq_some_iff.1 e3).1
theorem by_lst2 {B nb c : Nat} {w : World} {A : Option Addr} {b : List UInt8} (hn : b.length = nb) (h : w.ownsRow B 5 1 (.slice A nb c) nb (byB b)) : LstAt 1 byR w A nb c b := by
  subst hn
  exact by_lst h
set_option maxRecDepth 100000 in
set_option maxHeartbeats 8000000 in
theorem scriptPrints_any (A : Option Addr) (n c : Nat) (ms : List MV) (w : World) (h : LstAt 9 mvP w A n c ms) (he : Env w) (ht : SpTab w) :
    Calls Tryz.prog 5 #[.slice A n c] w (GoodP true w) := by
  have hlen := h.1
  have hnc := h.2.1
  have hmx := h.2.2.1
  unfold maxLen at hmx
  obtain ⟨i0, hi, hz0, hz1, hz2⟩ := info_parts moveInfo
  have HLs := hide h
  have HEn := hide he
  have HTb := hide ht
  have HLn := hide hlen
  obtain ⟨L, hL⟩ : ∃ L, ms.map mvCut = L := ⟨_, rfl⟩
  have HL := hide hL
  have HB0 : Hid (Below w.heap.size w (w.alloc (.cells #[] 32))) := hide ((Below.refl _ w).alloc (Nat.le_refl _) _)
  have HR0 : Hid (MvRow w.heap.size (w.alloc (.cells #[] 32)) (.slice (some ⟨w.heap.size, 0, none⟩) 0 0) []) := hide ⟨[], w.ownsRow_lit #[] 0 (Nat.le_refl _) (by unfold maxLen; omega) rfl, Chunks.nil_⟩
  have HLo : Hid (∀ m ∈ L, MvOk m ∧ m.b.length ≤ 600 ∧ m.t.length ≤ 1500) := hide (by
    rw [← hL]
    intro m hm
    obtain ⟨m', hm', rfl⟩ := List.mem_map.1 hm
    obtain ⟨i, hi2⟩ := List.getElem?_of_mem hm'
    have hlt : i < n := by rw [← hlen]; exact (List.getElem?_eq_some_iff.1 hi2).1
    obtain ⟨g, o, M, vs, _, _, hx, _, ⟨_, _, _, _, _, hok, _⟩, _⟩ := h.at_ hlt
    rw [hi2] at hx
    cases hx
    exact ⟨mvCut_ok hok, by unfold mvCut; simp only; rw [List.length_take]; omega, by unfold mvCut; simp only; rw [List.length_take]; omega⟩)
  clear h he ht hlen hL
  go_enter Tryz.func5, Tryz.ntmps5
  go_wp2
  go_loopw [3, 4, 5, 6] (fun vo vt vb iv wr => ∃ (q : Nat) (tx : List UInt8) (bd : Nat), q ≤ n ∧ q ≤ 12 ∧ iv = .int .i64 (q : Nat) ∧ vt = .string (str tx) ∧ vb = .int .i64 (bd : Nat) ∧ BadAt L q bd tx ∧ MvRow w.heap.size wr vo (L.take q) ∧ Below w.heap.size w wr) (fun _ _ _ iv _ => n - (intOf iv).toNat)
  case atStart => exact ⟨0, [], 0, Nat.zero_le _, Nat.zero_le _, rfl, rfl, rfl, .none (by simp), HR0.out, HB0.out⟩
  case round =>
    obtain ⟨q, tx, bd, hqn, hq12, rfl, rfl, rfl, hbad, hrow, hbel⟩ := hrel
    have HBad := hide hbad
    have hbl := hbad.le
    have hszr := hbel.size
    have HRow := hide hrow
    obtain ⟨xs, hown, hch⟩ := hrow.row
    have hno : (L.take q).length = q := by rw [List.length_take, ← HL.out, List.length_map, HLn.out]; omega
    have HNo := hide hno
    rw [hno] at hown
    obtain ⟨A7, c7, rfl⟩ := own_slice hown
    have HO := hide hown
    have HC := hide hch
    have HB := hide hbel
    clear hbad hrow hown hch hno
    have q0 : (0 : Int) ≤ (q : Int) := by omega
    have hwq : IntKind.i64.wrap ((q : Int) + 1) = (q : Int) + 1 := by rw [IntKind.wrap_i64]; omega
    by_cases hlt : q < n ∧ q < 12
    · obtain ⟨hlt, hl12⟩ := hlt
      obtain ⟨g, o, M, vs, rfl, hg, hx, _, ⟨A1, n1, c1, rfl, hby, hok, hts⟩, hc⟩ := (HLs.out.below mvpMono hbel).at_ hlt
      have HLx : Hid (L[q]? = some (mvCut M)) := hide (by rw [← HL.out, List.getElem?_map, hx]; rfl)
      have HMv := hide (smove_any M A1 n1 c1 wr hby hts)
      have HOk := hide (mvCut_ok hok)
      have HTs : Hid ((mvCut M).t.length ≤ 1500) := hide (by unfold mvCut; simp only; rw [List.length_take]; omega)
      obtain ⟨⟨k, p, nn, b, t, oa, oh, oi, fo⟩, hM⟩ : ∃ M', M = M' := ⟨_, rfl⟩
      subst hM
      have k0 : wr.cell? ⟨g, o + q * 9, none⟩ = some (.int .i64 k) := hc 0 _ rfl
      have k1 : wr.cell? ⟨g, o + q * 9 + 1, none⟩ = some (.int .u32 (p : Int)) := hc 1 _ rfl
      have k2 : wr.cell? ⟨g, o + q * 9 + 2, none⟩ = some (.int .i64 nn) := hc 2 _ rfl
      have k3 : wr.cell? ⟨g, o + q * 9 + 3, none⟩ = some (.slice A1 n1 c1) := hc 3 _ rfl
      have k4 : wr.cell? ⟨g, o + q * 9 + 4, none⟩ = some (.string (str t)) := hc 4 _ rfl
      have k5 : wr.cell? ⟨g, o + q * 9 + 5, none⟩ = some (.int .u32 (oa : Int)) := hc 5 _ rfl
      have k6 : wr.cell? ⟨g, o + q * 9 + 6, none⟩ = some (.int .i64 oh) := hc 6 _ rfl
      have k7 : wr.cell? ⟨g, o + q * 9 + 7, none⟩ = some (.int .u32 (oi : Int)) := hc 7 _ rfl
      have k8 : wr.cell? ⟨g, o + q * 9 + 8, none⟩ = some (.bool fo) := hc 8 _ rfl
      clear hx hc hby hok hts hbel
      have q1 : (q : Int) < (n : Int) := by omega
      have q2 : (q : Int) < 12 := by omega
      go_wp2_with fail
      refine HMv.out.mono ?_
      intro e w2 hmv
      unfold MvCutP at hmv
      obtain ⟨Ab, nb, cb, rfl, hnb, hob, hb⟩ := hmv
      obtain ⟨⟨kz, pz, nz, bz, tz, oaz, ohz, oiz, foz⟩, hM2⟩ : ∃ M', mvCut ⟨k, p, nn, b, t, oa, oh, oi, fo⟩ = M' := ⟨_, rfl⟩
      rw [hM2] at hnb hob HLx HOk HTs ⊢
      simp only at hnb
      have HB2 := hide (HB.out.trans (hb.mono hszr))
      have hs2 := HB2.out.size
      have HO2 := hide (own_below HO.out hb)
      have HC2 : Hid (Chunks 9 (mvO w.heap.size) w2 xs (L.take q)) := hide ⟨HC.out.1, fun k x hk => (HC.out.2 k x hk).below hb⟩
      have HOb := hide (own_baseLe hob hszr)
      have HNb := hide hnb
      have HTk : Hid (L.take (q + 1) = L.take q ++ [⟨kz, pz, nz, bz, tz, oaz, ohz, oiz, foz⟩]) := hide (by rw [List.take_add_one, HLx.out]; rfl)
      clear hb hob hnb hM2 k0 k1 k2 k3 k4 k5 k6 k7 k8
      unfold mvV
      simp only

      go_wp2_with (at_builtin; refine wpList_append_any _ rfl (.tmp 31) (.tmp 33) 22 rfl w.heap.size 32 i0 _ 9 88 Tryz.underlying22 hi hz0 hz1 hz2 rfl (by decide) (.slice A7 q c7) q _ rfl ((HO2.out.alloc _).alloc _) (w2.heap.size + 1 + 1) (some ⟨w2.heap.size + 1, 0, none⟩) 1 1 (mvC ⟨kz, pz, nz, bz, tz, oaz, ohz, oiz, foz⟩ (.slice Ab nb cb)) rfl (reads_blkN (g := w2.heap.size + 1) (blk_new' _ _ (by simp)) (Nat.lt_succ_self _) rfl rfl) (mvC_one _ _ _ _) (by unfold maxLen; omega) (by omega) (by simp; omega) ?_; intro v1 w3 hown hgrow hat; have HRow3 : Hid (MvRow w.heap.size w3 v1 (L.take (q + 1))) := hide (by rw [HTk.out]; exact MvRow.push (w := w2.alloc (.cells (mvC ⟨kz, pz, nz, bz, tz, oaz, ohz, oiz, foz⟩ (.slice Ab nb cb)).toArray 32)) (v := .slice A7 q c7) (xs := xs) (A := Ab) (c := cb) (by rw [HNo.out]; exact HO2.out.alloc _) ⟨HC2.out.1, fun j x hj => (HC2.out.2 j x hj).below ((Below.refl _ _).alloc (Nat.le_refl _) _)⟩ (by simp only; rw [HNb.out]; exact HOb.out.alloc _) (by rw [HNo.out]; simp only; rw [HNb.out]; exact hown) hgrow); have HB3 : Hid (Below w.heap.size w w3) := hide (Below.grown ((HB2.out.alloc hs2 _).alloc (by simp; omega) _) hgrow (by simp; omega) (fun k hk => own_low_block HO2.out k hk)); have HBx : Hid (Blk w3 w2.heap.size 32 (mvC ⟨kz, pz, nz, bz, tz, oaz, ohz, oiz, foz⟩ (.slice Ab nb cb)).toArray) := hide (((Blk.new w2 _ _).alloc _).grown hgrow (fun e => Nat.lt_irrefl _ (own_lt_ HO2.out _ e.symm))); have HLb : Hid (LstAt 1 byR w3 Ab nb cb (bz)) := hide (by_lst2 HNb.out (own_other (HOb.out.alloc (.cells #[.int .i64 kz, .int .u32 (pz : Int), .int .i64 nz, .slice Ab nb cb, .string (str tz), .int .u32 (oaz : Int), .int .i64 ohz, .int .u32 (oiz : Int), .bool foz] 32)) (HO2.out.alloc (.cells #[.int .i64 kz, .int .u32 (pz : Int), .int .i64 nz, .slice Ab nb cb, .string (str tz), .int .u32 (oaz : Int), .int .i64 ohz, .int .u32 (oiz : Int), .bool foz] 32)) (by decide) hgrow)); clear hown hgrow hat; have d0 : w3.cell? ⟨w2.heap.size, 0, none⟩ = some (.int .i64 kz) := HBx.out.cell 0; have d1 : w3.cell? ⟨w2.heap.size, 1, none⟩ = some (.int .u32 (pz : Int)) := HBx.out.cell 1; have d2 : w3.cell? ⟨w2.heap.size, 2, none⟩ = some (.int .i64 nz) := HBx.out.cell 2; have d3 : w3.cell? ⟨w2.heap.size, 3, none⟩ = some (.slice Ab nb cb) := HBx.out.cell 3; have d4 : w3.cell? ⟨w2.heap.size, 4, none⟩ = some (.string (str tz)) := HBx.out.cell 4; have d5 : w3.cell? ⟨w2.heap.size, 5, none⟩ = some (.int .u32 (oaz : Int)) := HBx.out.cell 5; have d6 : w3.cell? ⟨w2.heap.size, 6, none⟩ = some (.int .i64 ohz) := HBx.out.cell 6; have d7 : w3.cell? ⟨w2.heap.size, 7, none⟩ = some (.int .u32 (oiz : Int)) := HBx.out.cell 7; have d8 : w3.cell? ⟨w2.heap.size, 8, none⟩ = some (.bool foz) := HBx.out.cell 8)
      have hl3 : w2.heap.size < w3.heap.size := HBx.out.lt
      have HGo := hide (rgood_any ⟨kz, pz, nz, bz, tz, oaz, ohz, oiz, foz⟩ Ab nb cb w3 HNb.out (by have := HTs.out; simp only at this ⊢; omega))
      refine HGo.out.mono ?_
      rintro e w4 ⟨rfl, hb⟩
      have hs3 := HB3.out.size
      have HB4 := hide (HB3.out.trans (hb.mono hs3))
      have HRow4 := hide (HRow3.out.below hb)
      have HBx4 := hide (HBx.out.below hb hl3)
      have HLb4 := hide (HLb.out.below byMono hb)
      have hs4 := HB4.out.size
      have hl4 : w2.heap.size < w4.heap.size := HBx4.out.lt
      clear hb d0 d1 d2 d3 d4 d5 d6 d7 d8
      have d0 : w4.cell? ⟨w2.heap.size, 0, none⟩ = some (.int .i64 kz) := HBx4.out.cell 0
      have d1 : w4.cell? ⟨w2.heap.size, 1, none⟩ = some (.int .u32 (pz : Int)) := HBx4.out.cell 1
      have d2 : w4.cell? ⟨w2.heap.size, 2, none⟩ = some (.int .i64 nz) := HBx4.out.cell 2
      have d3 : w4.cell? ⟨w2.heap.size, 3, none⟩ = some (.slice Ab nb cb) := HBx4.out.cell 3
      have d4 : w4.cell? ⟨w2.heap.size, 4, none⟩ = some (.string (str tz)) := HBx4.out.cell 4
      have d5 : w4.cell? ⟨w2.heap.size, 5, none⟩ = some (.int .u32 (oaz : Int)) := HBx4.out.cell 5
      have d6 : w4.cell? ⟨w2.heap.size, 6, none⟩ = some (.int .i64 ohz) := HBx4.out.cell 6
      have d7 : w4.cell? ⟨w2.heap.size, 7, none⟩ = some (.int .u32 (oiz : Int)) := HBx4.out.cell 7
      have d8 : w4.cell? ⟨w2.heap.size, 8, none⟩ = some (.bool foz) := HBx4.out.cell 8
      have hwq2 : IntKind.i64.wrap ((q : Int) + 1) = ((q + 1 : Nat) : Int) := by rw [IntKind.wrap_i64]; omega
      clear hwq
      rcases Nat.eq_zero_or_pos bd with h0 | h0
      · subst h0
        cases hgm : mvGood ⟨kz, pz, nz, bz, tz, oaz, ohz, oiz, foz⟩
        · have HBad2 := hide (HBad.out.bad HLx.out hgm)
          clear hgm
          have e1 : (((q + 1 : Nat) : Int) == 0) = false := by simp; omega
          go_wp2
          go_roundw
          case rel => exact ⟨q + 1, tx, q + 1, by omega, by omega, rfl, rfl, rfl, HBad2.out, HRow4.out, HB4.out⟩
          case measure => simp [intOf]; omega
        · have HBad2 := hide (HBad.out.good HLx.out hgm)
          have HTx := hide (rtext_any ⟨kz, pz, nz, bz, tz, oaz, ohz, oiz, foz⟩ Ab nb cb w4 HLb4.out HOk.out hgm)
          have hsf := shown_feed HOk.out hgm
          obtain ⟨F, hF⟩ : ∃ F, feedT (shownM ⟨kz, pz, nz, bz, tz, oaz, ohz, oiz, foz⟩) = F := ⟨_, rfl⟩
          rw [hF] at HBad2 HTx hsf
          have hst : (str tx).size ≤ 12000000 := by
            have h1 := HBad.out.txt
            have h2 := HBad.out
            cases h2 with
            | none h3 =>
              have h4 := textsM_len (L.take q) (fun m hm => ⟨h3 m hm, (HLo.out m (List.mem_of_mem_take hm)).1⟩)
              have h5 : (L.take q).length ≤ 12 := by rw [List.length_take]; omega
              rw [str_size]; omega
          have hsF : (str F).size ≤ 1000000 := by rw [str_size]; exact hsf
          have HCat := hide (cat_str tx F)
          obtain ⟨T, hT⟩ : ∃ T, str tx = T := ⟨_, rfl⟩
          obtain ⟨S, hS⟩ : ∃ S, str F = S := ⟨_, rfl⟩
          rw [hT] at hst HCat ⊢
          rw [hS] at hsF HTx HCat
          clear hgm hF hsf hT hS
          go_wp2_with fail
          refine HTx.out.mono ?_
          rintro e w5 ⟨rfl, hb⟩
          have HB5 := hide (HB4.out.trans (hb.mono hs4))
          have HRow5 := hide (HRow4.out.below hb)
          clear hb
          go_wp2
          rw [HCat.out]
          go_roundw
          case rel => exact ⟨q + 1, tx ++ F, 0, by omega, by omega, rfl, rfl, rfl, HBad2.out, HRow5.out, HB5.out⟩
          case measure => simp [intOf]; omega
      · obtain ⟨bd', rfl⟩ : ∃ d, bd = d + 1 := ⟨bd - 1, by omega⟩
        have HBad2 := hide HBad.out.more
        have e1 : (((bd' + 1 : Nat) : Int) == 0) = false := by simp; omega
        cases hgm : mvGood ⟨kz, pz, nz, bz, tz, oaz, ohz, oiz, foz⟩
        · clear hgm
          go_wp2
          go_roundw
          case rel => exact ⟨q + 1, tx, bd' + 1, by omega, by omega, rfl, rfl, rfl, HBad2.out, HRow4.out, HB4.out⟩
          case measure => simp [intOf]; omega
        · clear hgm
          go_wp2
          go_roundw
          case rel => exact ⟨q + 1, tx, bd' + 1, by omega, by omega, rfl, rfl, rfl, HBad2.out, HRow4.out, HB4.out⟩
          case measure => simp [intOf]; omega
    · by_cases hqn2 : q < n
      · have e1 : decide ((q : Int) < (n : Int)) = true := by simp; omega
        have e2 : decide ((q : Int) < 12) = false := by simp; omega
        clear hlt
        obtain ⟨ks, hks⟩ : ∃ ks, L.take q = ks := ⟨_, rfl⟩
        have HGd : Hid (bd = 0 → tx = textsM ks ∧ ∀ m ∈ ks, mvGood m = true) := hide (by rw [← hks]; intro h; subst h; exact ⟨HBad.out.txt, HBad.out.all⟩)
        have HFi : Hid (∀ b, bd = b + 1 → ∃ m, ks[b]? = some m ∧ mvGood m = false ∧ ∀ m ∈ ks.take b, mvGood m = true) := hide (by rw [← hks]; intro b h; subst h; exact HBad.out.first)
        have HKo : Hid (∀ m ∈ ks, MvOk m ∧ m.b.length ≤ 600 ∧ m.t.length ≤ 1500) := hide (by rw [← hks]; exact fun m hm => HLo.out m (List.mem_of_mem_take hm))
        rw [hks] at HRow HNo
        have HPr := hide (sprint_any A7 q c7 ks wr (HRow.out.lst HNo.out) (fun m hm => (HKo.out m hm).1) (fun m hm => by have := (HKo.out m hm).2.2; omega) (HEn.out.below hbel) (HTb.out.below hbel))
        clear hks hbel
        go_wp2_with fail
        refine HPr.out.mono ?_
        rintro e w2 ⟨hpr, hb⟩
        have HB2 := hide (HB.out.trans (hb.mono hszr))
        have HRow2 := hide (HRow.out.below hb)
        have hs2 := HB2.out.size
        clear hb
        rcases Nat.eq_zero_or_pos bd with h0 | h0
        · subst h0
          obtain ⟨rfl, hgd⟩ := HGd.out rfl
          have HG := hide hgd
          clear hgd
          cases hpr with
          | long h => exfalso; have := HNo.out; omega
          | bad h1 h2 h3 h4 => exfalso; have := HG.out _ (List.mem_of_getElem? h2); rw [h3] at this; cases this
          | ok h1 h2 =>
            have HRd := hide (sread_any (textsM ks) (by have h3 := textsM_cut ks (fun m hm => ⟨HG.out m hm, HKo.out m hm⟩); have := HNo.out; omega) w2 (HEn.out.below HB2.out) (HTb.out.below HB2.out))
            obtain ⟨T, hT⟩ : ∃ T, str (textsM ks) = T := ⟨_, rfl⟩
            rw [hT] at HRd ⊢
            clear h1 h2 hT
            go_wp2_with fail
            refine HRd.out.mono ?_
            rintro e w3 ⟨hr, hb⟩
            have HB3 := hide (HB2.out.trans (hb.mono hs2))
            have HRow3 := hide (HRow2.out.below hb)
            have hs3 := HB3.out.size
            clear hb
            rcases read_moves (fun m hm => ⟨HG.out m hm, (HKo.out m hm).1⟩) hr with ⟨_, A8, n8, c8, rfl, hn8, hl8⟩ | ⟨h5, _⟩
            · obtain rfl : q = n8 := by have := HNo.out; omega
              have HL8 := hide hl8
              have hnc8 := hl8.2.1
              clear hr hl8 hn8
              go_wp2
              go_loopw [14] (fun iv wr => ∃ j : Nat, j ≤ q ∧ iv = .int .i64 (j : Nat) ∧ Below w3.heap.size w3 wr) (fun iv _ => q - (intOf iv).toNat)
              case atStart => exact ⟨0, Nat.zero_le _, rfl, Below.refl _ _⟩
              case round =>
                obtain ⟨j, hj, rfl, hbel⟩ := hrel
                have HBr := hide hbel
                by_cases hlt : j < q
                · obtain ⟨g, o, M, vs, rfl, hg, hx, _, ⟨A1, n1, c1, rfl, hby⟩, hc⟩ := (HL8.out.below mvMono hbel).at_ hlt
                  obtain ⟨g2, o2, K, vs2, rfl, hg2, hx2, _, ⟨A3, n3, c3, rfl, hby2⟩, hc2⟩ := ((HRow3.out.lst HNo.out).below mvMono hbel).at_ hlt
                  have hMK : mvOnly K = M := by rw [List.getElem?_map, hx2] at hx; simpa using hx
                  obtain ⟨A2, n2, c2, hov, hov2⟩ := only_lst hby2
                  rw [hMK] at hov2
                  have hOn : mvV (mvOnly K) (onlyV K (.slice A3 n3 c3)) = mvV M (.slice A2 n2 c2) := by rw [hMK, hov]
                  clear hMK hov
                  obtain ⟨⟨k, p, nn, b, t, oa, oh, oi, fo⟩, hKK⟩ : ∃ M', K = M' := ⟨_, rfl⟩
                  subst hKK
                  obtain ⟨⟨ky, py, ny, bY, ty, oay, ohy, oiy, foy⟩, hMM⟩ : ∃ M', M = M' := ⟨_, rfl⟩
                  subst hMM
                  have HOn := hide hOn
                  have HBl := hide hby
                  have HB2l := hide hov2
                  have k0 : wr.cell? ⟨g, o + j * 9, none⟩ = some (.int .i64 ky) := hc 0 _ rfl
                  have HK0 := hide k0
                  have k1 : wr.cell? ⟨g, o + j * 9 + 1, none⟩ = some (.int .u32 (py : Int)) := hc 1 _ rfl
                  have HK1 := hide k1
                  have k2 : wr.cell? ⟨g, o + j * 9 + 2, none⟩ = some (.int .i64 ny) := hc 2 _ rfl
                  have HK2 := hide k2
                  have k3 : wr.cell? ⟨g, o + j * 9 + 3, none⟩ = some (.slice A1 n1 c1) := hc 3 _ rfl
                  have HK3 := hide k3
                  have k4 : wr.cell? ⟨g, o + j * 9 + 4, none⟩ = some (.string (str ty)) := hc 4 _ rfl
                  have HK4 := hide k4
                  have k5 : wr.cell? ⟨g, o + j * 9 + 5, none⟩ = some (.int .u32 (oay : Int)) := hc 5 _ rfl
                  have HK5 := hide k5
                  have k6 : wr.cell? ⟨g, o + j * 9 + 6, none⟩ = some (.int .i64 ohy) := hc 6 _ rfl
                  have HK6 := hide k6
                  have k7 : wr.cell? ⟨g, o + j * 9 + 7, none⟩ = some (.int .u32 (oiy : Int)) := hc 7 _ rfl
                  have HK7 := hide k7
                  have k8 : wr.cell? ⟨g, o + j * 9 + 8, none⟩ = some (.bool foy) := hc 8 _ rfl
                  have HK8 := hide k8
                  have i0_ : wr.cell? ⟨g2, o2 + j * 9, none⟩ = some (.int .i64 k) := hc2 0 _ rfl
                  have HY0 := hide i0_
                  have i1_ : wr.cell? ⟨g2, o2 + j * 9 + 1, none⟩ = some (.int .u32 (p : Int)) := hc2 1 _ rfl
                  have HY1 := hide i1_
                  have i2_ : wr.cell? ⟨g2, o2 + j * 9 + 2, none⟩ = some (.int .i64 nn) := hc2 2 _ rfl
                  have HY2 := hide i2_
                  have i3_ : wr.cell? ⟨g2, o2 + j * 9 + 3, none⟩ = some (.slice A3 n3 c3) := hc2 3 _ rfl
                  have HY3 := hide i3_
                  have i4_ : wr.cell? ⟨g2, o2 + j * 9 + 4, none⟩ = some (.string (str t)) := hc2 4 _ rfl
                  have HY4 := hide i4_
                  have i5_ : wr.cell? ⟨g2, o2 + j * 9 + 5, none⟩ = some (.int .u32 (oa : Int)) := hc2 5 _ rfl
                  have HY5 := hide i5_
                  have i6_ : wr.cell? ⟨g2, o2 + j * 9 + 6, none⟩ = some (.int .i64 oh) := hc2 6 _ rfl
                  have HY6 := hide i6_
                  have i7_ : wr.cell? ⟨g2, o2 + j * 9 + 7, none⟩ = some (.int .u32 (oi : Int)) := hc2 7 _ rfl
                  have HY7 := hide i7_
                  have i8_ : wr.cell? ⟨g2, o2 + j * 9 + 8, none⟩ = some (.bool fo) := hc2 8 _ rfl
                  have HY8 := hide i8_
                  have q0 : (0 : Int) ≤ (j : Int) := by omega
                  have q1 : (j : Int) < (q : Int) := by omega
                  clear hx hby hc hx2 hby2 hc2 hov2 hOn hbel
                  go_wp2
                  refine wp_region_rel [(fun v _ => v = .slice (some ⟨g, o, none⟩) q c8), (fun v _ => v = .int .i64 (j : Int)), (fun v _ => v = .pointer (some ⟨g, o + j * 9, none⟩)), (fun v _ => v = .agg #[.int .i64 ky, .int .u32 (py : Int), .int .i64 ny, .slice A1 n1 c1, .string (str ty), .int .u32 (oay : Int), .int .i64 ohy, .int .u32 (oiy : Int), .bool foy]), (fun v _ => v = .slice (some ⟨g2, o2, none⟩) q c7), (fun v _ => v = .int .i64 (j : Int)), (fun v _ => v = .pointer (some ⟨g2, o2 + j * 9, none⟩)), (fun v _ => v = .agg #[.int .i64 k, .int .u32 (p : Int), .int .i64 nn, .slice A3 n3 c3, .string (str t), .int .u32 (oa : Int), .int .i64 oh, .int .u32 (oi : Int), .bool fo]), (fun v _ => v = .agg #[.int .i64 ky, .int .u32 (py : Int), .int .i64 ny, .slice A2 n2 c2, .string (str ty), .int .u32 (oay : Int), .int .i64 ohy, .int .u32 (oiy : Int), .bool foy]), (fun v _ => v = .bool true), (fun v _ => v = .bool false)] (by kernel_rfl) (by kernel_rfl) (relMono _ ⟨fun _ _ _ _ h => h, fun _ _ _ _ h => h, fun _ _ _ _ h => h, fun _ _ _ _ h => h, fun _ _ _ _ h => h, fun _ _ _ _ h => h, fun _ _ _ _ h => h, fun _ _ _ _ h => h, fun _ _ _ _ h => h, fun _ _ _ _ h => h, fun _ _ _ _ h => h, trivial⟩) ⟨?_, ?_, ?_, ?_, ?_, ?_, ?_, ?_, ?_, ?_, ?_, trivial⟩ ?_
                  · refine relStep_plain rfl ?_
                    intro Ac w5 hp
                    have hb := hp.bel
                    have a11 : Ac.eval (.tmp 11) = .slice (some ⟨g, o, none⟩) q c8 := hp.out 11 (by rfl)
                    have hc := evalC Ac; have hf := evalF Ac; have hgl := evalG Ac
                    obtain ⟨ρ, hρ⟩ : ∃ ρ, Ac.eval = ρ := ⟨_, rfl⟩
                    rw [hρ] at a11 hc hf hgl
                    exact relPure hρ (.slice (some ⟨g, o, none⟩) q c8) (by simp [go_sem, hc, hf, hgl, ↓IntWalk.iteOmega, a11, *]) rfl
                  · refine relStep_plain rfl ?_
                    intro Ac w5 hp
                    have hb := hp.bel
                    have a14 : Ac.eval (.tmp 14) = .int .i64 (j : Int) := hp.out 14 (by rfl)
                    have hc := evalC Ac; have hf := evalF Ac; have hgl := evalG Ac
                    obtain ⟨ρ, hρ⟩ : ∃ ρ, Ac.eval = ρ := ⟨_, rfl⟩
                    rw [hρ] at a14 hc hf hgl
                    exact relPure hρ (.int .i64 (j : Int)) (by simp [go_sem, hc, hf, hgl, ↓IntWalk.iteOmega, a14, *]) rfl
                  · refine relStep_plain rfl ?_
                    intro Ac w5 hp
                    have hb := hp.bel
                    have a110 : Ac.eval (.tmp 110) = .slice (some ⟨g, o, none⟩) q c8 := hp.dep 0 (by kernel_rfl)
                    have a111 : Ac.eval (.tmp 111) = .int .i64 (j : Int) := hp.dep 1 (by kernel_rfl)
                    have hc := evalC Ac; have hf := evalF Ac; have hgl := evalG Ac
                    obtain ⟨ρ, hρ⟩ : ∃ ρ, Ac.eval = ρ := ⟨_, rfl⟩
                    rw [hρ] at a110 a111 hc hf hgl
                    exact relPure hρ (.pointer (some ⟨g, o + j * 9, none⟩)) (by simp [go_sem, hc, hf, hgl, ↓IntWalk.iteOmega, a110, a111, *]) rfl
                  · refine relStep_plain rfl ?_
                    intro Ac w5 hp
                    have hb := hp.bel
                    have a112 : Ac.eval (.tmp 112) = .pointer (some ⟨g, o + j * 9, none⟩) := hp.dep 2 (by kernel_rfl)
                    have z0 : w5.cell? ⟨g, o + j * 9, none⟩ = some (.int .i64 ky) := (hb.cell hg).trans HK0.out
                    have z1 : w5.cell? ⟨g, o + j * 9 + 1, none⟩ = some (.int .u32 (py : Int)) := (hb.cell hg).trans HK1.out
                    have z2 : w5.cell? ⟨g, o + j * 9 + 2, none⟩ = some (.int .i64 ny) := (hb.cell hg).trans HK2.out
                    have z3 : w5.cell? ⟨g, o + j * 9 + 3, none⟩ = some (.slice A1 n1 c1) := (hb.cell hg).trans HK3.out
                    have z4 : w5.cell? ⟨g, o + j * 9 + 4, none⟩ = some (.string (str ty)) := (hb.cell hg).trans HK4.out
                    have z5 : w5.cell? ⟨g, o + j * 9 + 5, none⟩ = some (.int .u32 (oay : Int)) := (hb.cell hg).trans HK5.out
                    have z6 : w5.cell? ⟨g, o + j * 9 + 6, none⟩ = some (.int .i64 ohy) := (hb.cell hg).trans HK6.out
                    have z7 : w5.cell? ⟨g, o + j * 9 + 7, none⟩ = some (.int .u32 (oiy : Int)) := (hb.cell hg).trans HK7.out
                    have z8 : w5.cell? ⟨g, o + j * 9 + 8, none⟩ = some (.bool foy) := (hb.cell hg).trans HK8.out
                    have y0 : w5.cell? ⟨g2, o2 + j * 9, none⟩ = some (.int .i64 k) := (hb.cell hg2).trans HY0.out
                    have y1 : w5.cell? ⟨g2, o2 + j * 9 + 1, none⟩ = some (.int .u32 (p : Int)) := (hb.cell hg2).trans HY1.out
                    have y2 : w5.cell? ⟨g2, o2 + j * 9 + 2, none⟩ = some (.int .i64 nn) := (hb.cell hg2).trans HY2.out
                    have y3 : w5.cell? ⟨g2, o2 + j * 9 + 3, none⟩ = some (.slice A3 n3 c3) := (hb.cell hg2).trans HY3.out
                    have y4 : w5.cell? ⟨g2, o2 + j * 9 + 4, none⟩ = some (.string (str t)) := (hb.cell hg2).trans HY4.out
                    have y5 : w5.cell? ⟨g2, o2 + j * 9 + 5, none⟩ = some (.int .u32 (oa : Int)) := (hb.cell hg2).trans HY5.out
                    have y6 : w5.cell? ⟨g2, o2 + j * 9 + 6, none⟩ = some (.int .i64 oh) := (hb.cell hg2).trans HY6.out
                    have y7 : w5.cell? ⟨g2, o2 + j * 9 + 7, none⟩ = some (.int .u32 (oi : Int)) := (hb.cell hg2).trans HY7.out
                    have y8 : w5.cell? ⟨g2, o2 + j * 9 + 8, none⟩ = some (.bool fo) := (hb.cell hg2).trans HY8.out
                    have hc := evalC Ac; have hf := evalF Ac; have hgl := evalG Ac
                    obtain ⟨ρ, hρ⟩ : ∃ ρ, Ac.eval = ρ := ⟨_, rfl⟩
                    rw [hρ] at a112 hc hf hgl
                    exact relPure hρ (.agg #[.int .i64 ky, .int .u32 (py : Int), .int .i64 ny, .slice A1 n1 c1, .string (str ty), .int .u32 (oay : Int), .int .i64 ohy, .int .u32 (oiy : Int), .bool foy]) (by simp [go_sem, hc, hf, hgl, ↓IntWalk.iteOmega, a112, *]) rfl
                  · refine relStep_plain rfl ?_
                    intro Ac w5 hp
                    have hb := hp.bel
                    have a3 : Ac.eval (.tmp 3) = .slice (some ⟨g2, o2, none⟩) q c7 := hp.out 3 (by rfl)
                    have hc := evalC Ac; have hf := evalF Ac; have hgl := evalG Ac
                    obtain ⟨ρ, hρ⟩ : ∃ ρ, Ac.eval = ρ := ⟨_, rfl⟩
                    rw [hρ] at a3 hc hf hgl
                    exact relPure hρ (.slice (some ⟨g2, o2, none⟩) q c7) (by simp [go_sem, hc, hf, hgl, ↓IntWalk.iteOmega, a3, *]) rfl
                  · refine relStep_plain rfl ?_
                    intro Ac w5 hp
                    have hb := hp.bel
                    have a14 : Ac.eval (.tmp 14) = .int .i64 (j : Int) := hp.out 14 (by rfl)
                    have hc := evalC Ac; have hf := evalF Ac; have hgl := evalG Ac
                    obtain ⟨ρ, hρ⟩ : ∃ ρ, Ac.eval = ρ := ⟨_, rfl⟩
                    rw [hρ] at a14 hc hf hgl
                    exact relPure hρ (.int .i64 (j : Int)) (by simp [go_sem, hc, hf, hgl, ↓IntWalk.iteOmega, a14, *]) rfl
                  · refine relStep_plain rfl ?_
                    intro Ac w5 hp
                    have hb := hp.bel
                    have a114 : Ac.eval (.tmp 114) = .slice (some ⟨g2, o2, none⟩) q c7 := hp.dep 4 (by kernel_rfl)
                    have a115 : Ac.eval (.tmp 115) = .int .i64 (j : Int) := hp.dep 5 (by kernel_rfl)
                    have hc := evalC Ac; have hf := evalF Ac; have hgl := evalG Ac
                    obtain ⟨ρ, hρ⟩ : ∃ ρ, Ac.eval = ρ := ⟨_, rfl⟩
                    rw [hρ] at a114 a115 hc hf hgl
                    exact relPure hρ (.pointer (some ⟨g2, o2 + j * 9, none⟩)) (by simp [go_sem, hc, hf, hgl, ↓IntWalk.iteOmega, a114, a115, *]) rfl
                  · refine relStep_plain rfl ?_
                    intro Ac w5 hp
                    have hb := hp.bel
                    have a116 : Ac.eval (.tmp 116) = .pointer (some ⟨g2, o2 + j * 9, none⟩) := hp.dep 6 (by kernel_rfl)
                    have z0 : w5.cell? ⟨g, o + j * 9, none⟩ = some (.int .i64 ky) := (hb.cell hg).trans HK0.out
                    have z1 : w5.cell? ⟨g, o + j * 9 + 1, none⟩ = some (.int .u32 (py : Int)) := (hb.cell hg).trans HK1.out
                    have z2 : w5.cell? ⟨g, o + j * 9 + 2, none⟩ = some (.int .i64 ny) := (hb.cell hg).trans HK2.out
                    have z3 : w5.cell? ⟨g, o + j * 9 + 3, none⟩ = some (.slice A1 n1 c1) := (hb.cell hg).trans HK3.out
                    have z4 : w5.cell? ⟨g, o + j * 9 + 4, none⟩ = some (.string (str ty)) := (hb.cell hg).trans HK4.out
                    have z5 : w5.cell? ⟨g, o + j * 9 + 5, none⟩ = some (.int .u32 (oay : Int)) := (hb.cell hg).trans HK5.out
                    have z6 : w5.cell? ⟨g, o + j * 9 + 6, none⟩ = some (.int .i64 ohy) := (hb.cell hg).trans HK6.out
                    have z7 : w5.cell? ⟨g, o + j * 9 + 7, none⟩ = some (.int .u32 (oiy : Int)) := (hb.cell hg).trans HK7.out
                    have z8 : w5.cell? ⟨g, o + j * 9 + 8, none⟩ = some (.bool foy) := (hb.cell hg).trans HK8.out
                    have y0 : w5.cell? ⟨g2, o2 + j * 9, none⟩ = some (.int .i64 k) := (hb.cell hg2).trans HY0.out
                    have y1 : w5.cell? ⟨g2, o2 + j * 9 + 1, none⟩ = some (.int .u32 (p : Int)) := (hb.cell hg2).trans HY1.out
                    have y2 : w5.cell? ⟨g2, o2 + j * 9 + 2, none⟩ = some (.int .i64 nn) := (hb.cell hg2).trans HY2.out
                    have y3 : w5.cell? ⟨g2, o2 + j * 9 + 3, none⟩ = some (.slice A3 n3 c3) := (hb.cell hg2).trans HY3.out
                    have y4 : w5.cell? ⟨g2, o2 + j * 9 + 4, none⟩ = some (.string (str t)) := (hb.cell hg2).trans HY4.out
                    have y5 : w5.cell? ⟨g2, o2 + j * 9 + 5, none⟩ = some (.int .u32 (oa : Int)) := (hb.cell hg2).trans HY5.out
                    have y6 : w5.cell? ⟨g2, o2 + j * 9 + 6, none⟩ = some (.int .i64 oh) := (hb.cell hg2).trans HY6.out
                    have y7 : w5.cell? ⟨g2, o2 + j * 9 + 7, none⟩ = some (.int .u32 (oi : Int)) := (hb.cell hg2).trans HY7.out
                    have y8 : w5.cell? ⟨g2, o2 + j * 9 + 8, none⟩ = some (.bool fo) := (hb.cell hg2).trans HY8.out
                    have hc := evalC Ac; have hf := evalF Ac; have hgl := evalG Ac
                    obtain ⟨ρ, hρ⟩ : ∃ ρ, Ac.eval = ρ := ⟨_, rfl⟩
                    rw [hρ] at a116 hc hf hgl
                    exact relPure hρ (.agg #[.int .i64 k, .int .u32 (p : Int), .int .i64 nn, .slice A3 n3 c3, .string (str t), .int .u32 (oa : Int), .int .i64 oh, .int .u32 (oi : Int), .bool fo]) (by simp [go_sem, hc, hf, hgl, ↓IntWalk.iteOmega, a116, *]) rfl
                  · refine relStep_plain rfl ?_
                    intro Ac w5 hp
                    have hb := hp.bel
                    have a117 : Ac.eval (.tmp 117) = .agg #[.int .i64 k, .int .u32 (p : Int), .int .i64 nn, .slice A3 n3 c3, .string (str t), .int .u32 (oa : Int), .int .i64 oh, .int .u32 (oi : Int), .bool fo] := hp.dep 7 (by kernel_rfl)
                    have hc := evalC Ac; have hf := evalF Ac; have hgl := evalG Ac
                    obtain ⟨ρ, hρ⟩ : ∃ ρ, Ac.eval = ρ := ⟨_, rfl⟩
                    rw [hρ] at a117 hc hf hgl
                    refine relCall hρ 10 #[.agg #[.int .i64 k, .int .u32 (p : Int), .int .i64 nn, .slice A3 n3 c3, .string (str t), .int .u32 (oa : Int), .int .i64 oh, .int .u32 (oi : Int), .bool fo]] (by simp [go_sem, hc, hf, hgl, ↓IntWalk.iteOmega, a117, *]) ?_
                    refine (ronly_any ⟨k, p, nn, b, t, oa, oh, oi, fo⟩ A3 n3 c3 w5).mono ?_
                    rintro e w6 ⟨rfl, hb6⟩
                    exact ⟨_, rfl, by rw [HOn.out]; rfl, hb6⟩
                  · refine relStep_plain rfl ?_
                    intro Ac w5 hp
                    have hb := hp.bel
                    have a113 : Ac.eval (.tmp 113) = .agg #[.int .i64 ky, .int .u32 (py : Int), .int .i64 ny, .slice A1 n1 c1, .string (str ty), .int .u32 (oay : Int), .int .i64 ohy, .int .u32 (oiy : Int), .bool foy] := hp.dep 3 (by kernel_rfl)
                    have a118 : Ac.eval (.tmp 118) = .agg #[.int .i64 ky, .int .u32 (py : Int), .int .i64 ny, .slice A2 n2 c2, .string (str ty), .int .u32 (oay : Int), .int .i64 ohy, .int .u32 (oiy : Int), .bool foy] := hp.dep 8 (by kernel_rfl)
                    have hc := evalC Ac; have hf := evalF Ac; have hgl := evalG Ac
                    obtain ⟨ρ, hρ⟩ : ∃ ρ, Ac.eval = ρ := ⟨_, rfl⟩
                    rw [hρ] at a113 a118 hc hf hgl
                    refine relCall hρ 9 #[.agg #[.int .i64 ky, .int .u32 (py : Int), .int .i64 ny, .slice A1 n1 c1, .string (str ty), .int .u32 (oay : Int), .int .i64 ohy, .int .u32 (oiy : Int), .bool foy], .agg #[.int .i64 ky, .int .u32 (py : Int), .int .i64 ny, .slice A2 n2 c2, .string (str ty), .int .u32 (oay : Int), .int .i64 ohy, .int .u32 (oiy : Int), .bool foy]] (by simp [go_sem, hc, hf, hgl, ↓IntWalk.iteOmega, a113, a118, *]) ?_
                    refine (rsame_eq ⟨ky, py, ny, bY, ty, oay, ohy, oiy, foy⟩ A1 A2 n1 c1 n2 c2 w5 (HBl.out.below byMono hb) (HB2l.out.below byMono hb)).mono ?_
                    rintro e w6 ⟨rfl, hb6⟩
                    exact ⟨_, rfl, rfl, hb6⟩
                  · refine relStep_plain rfl ?_
                    intro Ac w5 hp
                    have hb := hp.bel
                    have a119 : Ac.eval (.tmp 119) = .bool true := hp.dep 9 (by kernel_rfl)
                    have hc := evalC Ac; have hf := evalF Ac; have hgl := evalG Ac
                    obtain ⟨ρ, hρ⟩ : ∃ ρ, Ac.eval = ρ := ⟨_, rfl⟩
                    rw [hρ] at a119 hc hf hgl
                    exact relPure hρ (.bool false) (by simp [go_sem, hc, hf, hgl, ↓IntWalk.iteOmega, a119, *]) rfl
                  intro u w8 hb7 hall
                  have e120 : u 10 = .bool false := relAll_at hall (i := 10) (by decide +kernel)
                  clear hall
                  simp only [List.drop_succ_cons, List.drop_zero, List.take_succ_cons, List.take_zero, putAll, Act.put, List.setIfInBounds_toArray, List.set_cons_zero, List.set_cons_succ, Nat.zero_add, Nat.reduceAdd, e120]
                  have HB8 := hide (HBr.out.trans (hb7.mono HBr.out.size))
                  clear hb7
                  clear k0 k1 k2 k3 k4 k5 k6 k7 k8 i0_ i1_ i2_ i3_ i4_ i5_ i6_ i7_ i8_
                  go_wp2
                  go_roundw
                  case rel => exact ⟨j + 1, by omega, by go_num, HB8.out⟩
                  case measure => simp [intOf]; omega
                · obtain rfl : j = q := by omega
                  have HBw := hide (HB3.out.trans (hbel.mono hs3))
                  clear hbel
                  have HLv := hide (slives_any wr (HEn.out.below HBw.out) (HTb.out.below HBw.out))
                  go_wp2_with fail
                  refine HLv.out.mono ?_
                  rintro e w9 ⟨rfl, hb9⟩
                  have HB9 := hide (HBw.out.trans (hb9.mono HBw.out.size))
                  clear hb9
                  go_wp2
                  go_ret
                  exact ⟨rfl, HB9.out⟩
            · exfalso; have := HNo.out; omega
        · obtain ⟨b, rfl⟩ : ∃ d, bd = d + 1 := ⟨bd - 1, by omega⟩
          obtain ⟨m, f1, f2, f3⟩ := HFi.out b rfl
          cases hpr with
          | long h => exfalso; have := HNo.out; omega
          | ok h1 h2 => exfalso; have := h2 _ (List.mem_of_getElem? f1); rw [f2] at this; cases this
          | @bad i m2 h1 h2 h3 h4 =>
            obtain rfl : i = b := Nat.le_antisymm (first_lt f1 f2 h4) (first_lt h2 h3 f3)
            have hcs : ((i + 1 : Nat) : Int) = (i : Int) + 1 := by omega
            have HLv := hide (slives_any w2 (HEn.out.below HB2.out) (HTb.out.below HB2.out))
            clear h1 h2 h3 h4 f1 f2 f3
            rw [hcs]
            clear hcs
            go_wp2_with fail
            refine HLv.out.mono ?_
            rintro e w3 ⟨rfl, hb⟩
            have HB3 := hide (HB2.out.trans (hb.mono hs2))
            clear hb
            go_wp2
            go_ret
            exact ⟨rfl, HB3.out⟩
      · have e1 : decide ((q : Int) < (n : Int)) = false := by simp; omega
        clear hlt
        obtain ⟨ks, hks⟩ : ∃ ks, L.take q = ks := ⟨_, rfl⟩
        have HGd : Hid (bd = 0 → tx = textsM ks ∧ ∀ m ∈ ks, mvGood m = true) := hide (by rw [← hks]; intro h; subst h; exact ⟨HBad.out.txt, HBad.out.all⟩)
        have HFi : Hid (∀ b, bd = b + 1 → ∃ m, ks[b]? = some m ∧ mvGood m = false ∧ ∀ m ∈ ks.take b, mvGood m = true) := hide (by rw [← hks]; intro b h; subst h; exact HBad.out.first)
        have HKo : Hid (∀ m ∈ ks, MvOk m ∧ m.b.length ≤ 600 ∧ m.t.length ≤ 1500) := hide (by rw [← hks]; exact fun m hm => HLo.out m (List.mem_of_mem_take hm))
        rw [hks] at HRow HNo
        have HPr := hide (sprint_any A7 q c7 ks wr (HRow.out.lst HNo.out) (fun m hm => (HKo.out m hm).1) (fun m hm => by have := (HKo.out m hm).2.2; omega) (HEn.out.below hbel) (HTb.out.below hbel))
        clear hks hbel
        go_wp2_with fail
        refine HPr.out.mono ?_
        rintro e w2 ⟨hpr, hb⟩
        have HB2 := hide (HB.out.trans (hb.mono hszr))
        have HRow2 := hide (HRow.out.below hb)
        have hs2 := HB2.out.size
        clear hb
        rcases Nat.eq_zero_or_pos bd with h0 | h0
        · subst h0
          obtain ⟨rfl, hgd⟩ := HGd.out rfl
          have HG := hide hgd
          clear hgd
          cases hpr with
          | long h => exfalso; have := HNo.out; omega
          | bad h1 h2 h3 h4 => exfalso; have := HG.out _ (List.mem_of_getElem? h2); rw [h3] at this; cases this
          | ok h1 h2 =>
            have HRd := hide (sread_any (textsM ks) (by have h3 := textsM_cut ks (fun m hm => ⟨HG.out m hm, HKo.out m hm⟩); have := HNo.out; omega) w2 (HEn.out.below HB2.out) (HTb.out.below HB2.out))
            obtain ⟨T, hT⟩ : ∃ T, str (textsM ks) = T := ⟨_, rfl⟩
            rw [hT] at HRd ⊢
            clear h1 h2 hT
            go_wp2_with fail
            refine HRd.out.mono ?_
            rintro e w3 ⟨hr, hb⟩
            have HB3 := hide (HB2.out.trans (hb.mono hs2))
            have HRow3 := hide (HRow2.out.below hb)
            have hs3 := HB3.out.size
            clear hb
            rcases read_moves (fun m hm => ⟨HG.out m hm, (HKo.out m hm).1⟩) hr with ⟨_, A8, n8, c8, rfl, hn8, hl8⟩ | ⟨h5, _⟩
            · obtain rfl : q = n8 := by have := HNo.out; omega
              have HL8 := hide hl8
              have hnc8 := hl8.2.1
              clear hr hl8 hn8
              go_wp2
              go_loopw [14] (fun iv wr => ∃ j : Nat, j ≤ q ∧ iv = .int .i64 (j : Nat) ∧ Below w3.heap.size w3 wr) (fun iv _ => q - (intOf iv).toNat)
              case atStart => exact ⟨0, Nat.zero_le _, rfl, Below.refl _ _⟩
              case round =>
                obtain ⟨j, hj, rfl, hbel⟩ := hrel
                have HBr := hide hbel
                by_cases hlt : j < q
                · obtain ⟨g, o, M, vs, rfl, hg, hx, _, ⟨A1, n1, c1, rfl, hby⟩, hc⟩ := (HL8.out.below mvMono hbel).at_ hlt
                  obtain ⟨g2, o2, K, vs2, rfl, hg2, hx2, _, ⟨A3, n3, c3, rfl, hby2⟩, hc2⟩ := ((HRow3.out.lst HNo.out).below mvMono hbel).at_ hlt
                  have hMK : mvOnly K = M := by rw [List.getElem?_map, hx2] at hx; simpa using hx
                  obtain ⟨A2, n2, c2, hov, hov2⟩ := only_lst hby2
                  rw [hMK] at hov2
                  have hOn : mvV (mvOnly K) (onlyV K (.slice A3 n3 c3)) = mvV M (.slice A2 n2 c2) := by rw [hMK, hov]
                  clear hMK hov
                  obtain ⟨⟨k, p, nn, b, t, oa, oh, oi, fo⟩, hKK⟩ : ∃ M', K = M' := ⟨_, rfl⟩
                  subst hKK
                  obtain ⟨⟨ky, py, ny, bY, ty, oay, ohy, oiy, foy⟩, hMM⟩ : ∃ M', M = M' := ⟨_, rfl⟩
                  subst hMM
                  have HOn := hide hOn
                  have HBl := hide hby
                  have HB2l := hide hov2
                  have k0 : wr.cell? ⟨g, o + j * 9, none⟩ = some (.int .i64 ky) := hc 0 _ rfl
                  have HK0 := hide k0
                  have k1 : wr.cell? ⟨g, o + j * 9 + 1, none⟩ = some (.int .u32 (py : Int)) := hc 1 _ rfl
                  have HK1 := hide k1
                  have k2 : wr.cell? ⟨g, o + j * 9 + 2, none⟩ = some (.int .i64 ny) := hc 2 _ rfl
                  have HK2 := hide k2
                  have k3 : wr.cell? ⟨g, o + j * 9 + 3, none⟩ = some (.slice A1 n1 c1) := hc 3 _ rfl
                  have HK3 := hide k3
                  have k4 : wr.cell? ⟨g, o + j * 9 + 4, none⟩ = some (.string (str ty)) := hc 4 _ rfl
                  have HK4 := hide k4
                  have k5 : wr.cell? ⟨g, o + j * 9 + 5, none⟩ = some (.int .u32 (oay : Int)) := hc 5 _ rfl
                  have HK5 := hide k5
                  have k6 : wr.cell? ⟨g, o + j * 9 + 6, none⟩ = some (.int .i64 ohy) := hc 6 _ rfl
                  have HK6 := hide k6
                  have k7 : wr.cell? ⟨g, o + j * 9 + 7, none⟩ = some (.int .u32 (oiy : Int)) := hc 7 _ rfl
                  have HK7 := hide k7
                  have k8 : wr.cell? ⟨g, o + j * 9 + 8, none⟩ = some (.bool foy) := hc 8 _ rfl
                  have HK8 := hide k8
                  have i0_ : wr.cell? ⟨g2, o2 + j * 9, none⟩ = some (.int .i64 k) := hc2 0 _ rfl
                  have HY0 := hide i0_
                  have i1_ : wr.cell? ⟨g2, o2 + j * 9 + 1, none⟩ = some (.int .u32 (p : Int)) := hc2 1 _ rfl
                  have HY1 := hide i1_
                  have i2_ : wr.cell? ⟨g2, o2 + j * 9 + 2, none⟩ = some (.int .i64 nn) := hc2 2 _ rfl
                  have HY2 := hide i2_
                  have i3_ : wr.cell? ⟨g2, o2 + j * 9 + 3, none⟩ = some (.slice A3 n3 c3) := hc2 3 _ rfl
                  have HY3 := hide i3_
                  have i4_ : wr.cell? ⟨g2, o2 + j * 9 + 4, none⟩ = some (.string (str t)) := hc2 4 _ rfl
                  have HY4 := hide i4_
                  have i5_ : wr.cell? ⟨g2, o2 + j * 9 + 5, none⟩ = some (.int .u32 (oa : Int)) := hc2 5 _ rfl
                  have HY5 := hide i5_
                  have i6_ : wr.cell? ⟨g2, o2 + j * 9 + 6, none⟩ = some (.int .i64 oh) := hc2 6 _ rfl
                  have HY6 := hide i6_
                  have i7_ : wr.cell? ⟨g2, o2 + j * 9 + 7, none⟩ = some (.int .u32 (oi : Int)) := hc2 7 _ rfl
                  have HY7 := hide i7_
                  have i8_ : wr.cell? ⟨g2, o2 + j * 9 + 8, none⟩ = some (.bool fo) := hc2 8 _ rfl
                  have HY8 := hide i8_
                  have q0 : (0 : Int) ≤ (j : Int) := by omega
                  have q1 : (j : Int) < (q : Int) := by omega
                  clear hx hby hc hx2 hby2 hc2 hov2 hOn hbel
                  go_wp2
                  refine wp_region_rel [(fun v _ => v = .slice (some ⟨g, o, none⟩) q c8), (fun v _ => v = .int .i64 (j : Int)), (fun v _ => v = .pointer (some ⟨g, o + j * 9, none⟩)), (fun v _ => v = .agg #[.int .i64 ky, .int .u32 (py : Int), .int .i64 ny, .slice A1 n1 c1, .string (str ty), .int .u32 (oay : Int), .int .i64 ohy, .int .u32 (oiy : Int), .bool foy]), (fun v _ => v = .slice (some ⟨g2, o2, none⟩) q c7), (fun v _ => v = .int .i64 (j : Int)), (fun v _ => v = .pointer (some ⟨g2, o2 + j * 9, none⟩)), (fun v _ => v = .agg #[.int .i64 k, .int .u32 (p : Int), .int .i64 nn, .slice A3 n3 c3, .string (str t), .int .u32 (oa : Int), .int .i64 oh, .int .u32 (oi : Int), .bool fo]), (fun v _ => v = .agg #[.int .i64 ky, .int .u32 (py : Int), .int .i64 ny, .slice A2 n2 c2, .string (str ty), .int .u32 (oay : Int), .int .i64 ohy, .int .u32 (oiy : Int), .bool foy]), (fun v _ => v = .bool true), (fun v _ => v = .bool false)] (by kernel_rfl) (by kernel_rfl) (relMono _ ⟨fun _ _ _ _ h => h, fun _ _ _ _ h => h, fun _ _ _ _ h => h, fun _ _ _ _ h => h, fun _ _ _ _ h => h, fun _ _ _ _ h => h, fun _ _ _ _ h => h, fun _ _ _ _ h => h, fun _ _ _ _ h => h, fun _ _ _ _ h => h, fun _ _ _ _ h => h, trivial⟩) ⟨?_, ?_, ?_, ?_, ?_, ?_, ?_, ?_, ?_, ?_, ?_, trivial⟩ ?_
                  · refine relStep_plain rfl ?_
                    intro Ac w5 hp
                    have hb := hp.bel
                    have a11 : Ac.eval (.tmp 11) = .slice (some ⟨g, o, none⟩) q c8 := hp.out 11 (by rfl)
                    have hc := evalC Ac; have hf := evalF Ac; have hgl := evalG Ac
                    obtain ⟨ρ, hρ⟩ : ∃ ρ, Ac.eval = ρ := ⟨_, rfl⟩
                    rw [hρ] at a11 hc hf hgl
                    exact relPure hρ (.slice (some ⟨g, o, none⟩) q c8) (by simp [go_sem, hc, hf, hgl, ↓IntWalk.iteOmega, a11, *]) rfl
                  · refine relStep_plain rfl ?_
                    intro Ac w5 hp
                    have hb := hp.bel
                    have a14 : Ac.eval (.tmp 14) = .int .i64 (j : Int) := hp.out 14 (by rfl)
                    have hc := evalC Ac; have hf := evalF Ac; have hgl := evalG Ac
                    obtain ⟨ρ, hρ⟩ : ∃ ρ, Ac.eval = ρ := ⟨_, rfl⟩
                    rw [hρ] at a14 hc hf hgl
                    exact relPure hρ (.int .i64 (j : Int)) (by simp [go_sem, hc, hf, hgl, ↓IntWalk.iteOmega, a14, *]) rfl
                  · refine relStep_plain rfl ?_
                    intro Ac w5 hp
                    have hb := hp.bel
                    have a110 : Ac.eval (.tmp 110) = .slice (some ⟨g, o, none⟩) q c8 := hp.dep 0 (by kernel_rfl)
                    have a111 : Ac.eval (.tmp 111) = .int .i64 (j : Int) := hp.dep 1 (by kernel_rfl)
                    have hc := evalC Ac; have hf := evalF Ac; have hgl := evalG Ac
                    obtain ⟨ρ, hρ⟩ : ∃ ρ, Ac.eval = ρ := ⟨_, rfl⟩
                    rw [hρ] at a110 a111 hc hf hgl
                    exact relPure hρ (.pointer (some ⟨g, o + j * 9, none⟩)) (by simp [go_sem, hc, hf, hgl, ↓IntWalk.iteOmega, a110, a111, *]) rfl
                  · refine relStep_plain rfl ?_
                    intro Ac w5 hp
                    have hb := hp.bel
                    have a112 : Ac.eval (.tmp 112) = .pointer (some ⟨g, o + j * 9, none⟩) := hp.dep 2 (by kernel_rfl)
                    have z0 : w5.cell? ⟨g, o + j * 9, none⟩ = some (.int .i64 ky) := (hb.cell hg).trans HK0.out
                    have z1 : w5.cell? ⟨g, o + j * 9 + 1, none⟩ = some (.int .u32 (py : Int)) := (hb.cell hg).trans HK1.out
                    have z2 : w5.cell? ⟨g, o + j * 9 + 2, none⟩ = some (.int .i64 ny) := (hb.cell hg).trans HK2.out
                    have z3 : w5.cell? ⟨g, o + j * 9 + 3, none⟩ = some (.slice A1 n1 c1) := (hb.cell hg).trans HK3.out
                    have z4 : w5.cell? ⟨g, o + j * 9 + 4, none⟩ = some (.string (str ty)) := (hb.cell hg).trans HK4.out
                    have z5 : w5.cell? ⟨g, o + j * 9 + 5, none⟩ = some (.int .u32 (oay : Int)) := (hb.cell hg).trans HK5.out
                    have z6 : w5.cell? ⟨g, o + j * 9 + 6, none⟩ = some (.int .i64 ohy) := (hb.cell hg).trans HK6.out
                    have z7 : w5.cell? ⟨g, o + j * 9 + 7, none⟩ = some (.int .u32 (oiy : Int)) := (hb.cell hg).trans HK7.out
                    have z8 : w5.cell? ⟨g, o + j * 9 + 8, none⟩ = some (.bool foy) := (hb.cell hg).trans HK8.out
                    have y0 : w5.cell? ⟨g2, o2 + j * 9, none⟩ = some (.int .i64 k) := (hb.cell hg2).trans HY0.out
                    have y1 : w5.cell? ⟨g2, o2 + j * 9 + 1, none⟩ = some (.int .u32 (p : Int)) := (hb.cell hg2).trans HY1.out
                    have y2 : w5.cell? ⟨g2, o2 + j * 9 + 2, none⟩ = some (.int .i64 nn) := (hb.cell hg2).trans HY2.out
                    have y3 : w5.cell? ⟨g2, o2 + j * 9 + 3, none⟩ = some (.slice A3 n3 c3) := (hb.cell hg2).trans HY3.out
                    have y4 : w5.cell? ⟨g2, o2 + j * 9 + 4, none⟩ = some (.string (str t)) := (hb.cell hg2).trans HY4.out
                    have y5 : w5.cell? ⟨g2, o2 + j * 9 + 5, none⟩ = some (.int .u32 (oa : Int)) := (hb.cell hg2).trans HY5.out
                    have y6 : w5.cell? ⟨g2, o2 + j * 9 + 6, none⟩ = some (.int .i64 oh) := (hb.cell hg2).trans HY6.out
                    have y7 : w5.cell? ⟨g2, o2 + j * 9 + 7, none⟩ = some (.int .u32 (oi : Int)) := (hb.cell hg2).trans HY7.out
                    have y8 : w5.cell? ⟨g2, o2 + j * 9 + 8, none⟩ = some (.bool fo) := (hb.cell hg2).trans HY8.out
                    have hc := evalC Ac; have hf := evalF Ac; have hgl := evalG Ac
                    obtain ⟨ρ, hρ⟩ : ∃ ρ, Ac.eval = ρ := ⟨_, rfl⟩
                    rw [hρ] at a112 hc hf hgl
                    exact relPure hρ (.agg #[.int .i64 ky, .int .u32 (py : Int), .int .i64 ny, .slice A1 n1 c1, .string (str ty), .int .u32 (oay : Int), .int .i64 ohy, .int .u32 (oiy : Int), .bool foy]) (by simp [go_sem, hc, hf, hgl, ↓IntWalk.iteOmega, a112, *]) rfl
                  · refine relStep_plain rfl ?_
                    intro Ac w5 hp
                    have hb := hp.bel
                    have a3 : Ac.eval (.tmp 3) = .slice (some ⟨g2, o2, none⟩) q c7 := hp.out 3 (by rfl)
                    have hc := evalC Ac; have hf := evalF Ac; have hgl := evalG Ac
                    obtain ⟨ρ, hρ⟩ : ∃ ρ, Ac.eval = ρ := ⟨_, rfl⟩
                    rw [hρ] at a3 hc hf hgl
                    exact relPure hρ (.slice (some ⟨g2, o2, none⟩) q c7) (by simp [go_sem, hc, hf, hgl, ↓IntWalk.iteOmega, a3, *]) rfl
                  · refine relStep_plain rfl ?_
                    intro Ac w5 hp
                    have hb := hp.bel
                    have a14 : Ac.eval (.tmp 14) = .int .i64 (j : Int) := hp.out 14 (by rfl)
                    have hc := evalC Ac; have hf := evalF Ac; have hgl := evalG Ac
                    obtain ⟨ρ, hρ⟩ : ∃ ρ, Ac.eval = ρ := ⟨_, rfl⟩
                    rw [hρ] at a14 hc hf hgl
                    exact relPure hρ (.int .i64 (j : Int)) (by simp [go_sem, hc, hf, hgl, ↓IntWalk.iteOmega, a14, *]) rfl
                  · refine relStep_plain rfl ?_
                    intro Ac w5 hp
                    have hb := hp.bel
                    have a114 : Ac.eval (.tmp 114) = .slice (some ⟨g2, o2, none⟩) q c7 := hp.dep 4 (by kernel_rfl)
                    have a115 : Ac.eval (.tmp 115) = .int .i64 (j : Int) := hp.dep 5 (by kernel_rfl)
                    have hc := evalC Ac; have hf := evalF Ac; have hgl := evalG Ac
                    obtain ⟨ρ, hρ⟩ : ∃ ρ, Ac.eval = ρ := ⟨_, rfl⟩
                    rw [hρ] at a114 a115 hc hf hgl
                    exact relPure hρ (.pointer (some ⟨g2, o2 + j * 9, none⟩)) (by simp [go_sem, hc, hf, hgl, ↓IntWalk.iteOmega, a114, a115, *]) rfl
                  · refine relStep_plain rfl ?_
                    intro Ac w5 hp
                    have hb := hp.bel
                    have a116 : Ac.eval (.tmp 116) = .pointer (some ⟨g2, o2 + j * 9, none⟩) := hp.dep 6 (by kernel_rfl)
                    have z0 : w5.cell? ⟨g, o + j * 9, none⟩ = some (.int .i64 ky) := (hb.cell hg).trans HK0.out
                    have z1 : w5.cell? ⟨g, o + j * 9 + 1, none⟩ = some (.int .u32 (py : Int)) := (hb.cell hg).trans HK1.out
                    have z2 : w5.cell? ⟨g, o + j * 9 + 2, none⟩ = some (.int .i64 ny) := (hb.cell hg).trans HK2.out
                    have z3 : w5.cell? ⟨g, o + j * 9 + 3, none⟩ = some (.slice A1 n1 c1) := (hb.cell hg).trans HK3.out
                    have z4 : w5.cell? ⟨g, o + j * 9 + 4, none⟩ = some (.string (str ty)) := (hb.cell hg).trans HK4.out
                    have z5 : w5.cell? ⟨g, o + j * 9 + 5, none⟩ = some (.int .u32 (oay : Int)) := (hb.cell hg).trans HK5.out
                    have z6 : w5.cell? ⟨g, o + j * 9 + 6, none⟩ = some (.int .i64 ohy) := (hb.cell hg).trans HK6.out
                    have z7 : w5.cell? ⟨g, o + j * 9 + 7, none⟩ = some (.int .u32 (oiy : Int)) := (hb.cell hg).trans HK7.out
                    have z8 : w5.cell? ⟨g, o + j * 9 + 8, none⟩ = some (.bool foy) := (hb.cell hg).trans HK8.out
                    have y0 : w5.cell? ⟨g2, o2 + j * 9, none⟩ = some (.int .i64 k) := (hb.cell hg2).trans HY0.out
                    have y1 : w5.cell? ⟨g2, o2 + j * 9 + 1, none⟩ = some (.int .u32 (p : Int)) := (hb.cell hg2).trans HY1.out
                    have y2 : w5.cell? ⟨g2, o2 + j * 9 + 2, none⟩ = some (.int .i64 nn) := (hb.cell hg2).trans HY2.out
                    have y3 : w5.cell? ⟨g2, o2 + j * 9 + 3, none⟩ = some (.slice A3 n3 c3) := (hb.cell hg2).trans HY3.out
                    have y4 : w5.cell? ⟨g2, o2 + j * 9 + 4, none⟩ = some (.string (str t)) := (hb.cell hg2).trans HY4.out
                    have y5 : w5.cell? ⟨g2, o2 + j * 9 + 5, none⟩ = some (.int .u32 (oa : Int)) := (hb.cell hg2).trans HY5.out
                    have y6 : w5.cell? ⟨g2, o2 + j * 9 + 6, none⟩ = some (.int .i64 oh) := (hb.cell hg2).trans HY6.out
                    have y7 : w5.cell? ⟨g2, o2 + j * 9 + 7, none⟩ = some (.int .u32 (oi : Int)) := (hb.cell hg2).trans HY7.out
                    have y8 : w5.cell? ⟨g2, o2 + j * 9 + 8, none⟩ = some (.bool fo) := (hb.cell hg2).trans HY8.out
                    have hc := evalC Ac; have hf := evalF Ac; have hgl := evalG Ac
                    obtain ⟨ρ, hρ⟩ : ∃ ρ, Ac.eval = ρ := ⟨_, rfl⟩
                    rw [hρ] at a116 hc hf hgl
                    exact relPure hρ (.agg #[.int .i64 k, .int .u32 (p : Int), .int .i64 nn, .slice A3 n3 c3, .string (str t), .int .u32 (oa : Int), .int .i64 oh, .int .u32 (oi : Int), .bool fo]) (by simp [go_sem, hc, hf, hgl, ↓IntWalk.iteOmega, a116, *]) rfl
                  · refine relStep_plain rfl ?_
                    intro Ac w5 hp
                    have hb := hp.bel
                    have a117 : Ac.eval (.tmp 117) = .agg #[.int .i64 k, .int .u32 (p : Int), .int .i64 nn, .slice A3 n3 c3, .string (str t), .int .u32 (oa : Int), .int .i64 oh, .int .u32 (oi : Int), .bool fo] := hp.dep 7 (by kernel_rfl)
                    have hc := evalC Ac; have hf := evalF Ac; have hgl := evalG Ac
                    obtain ⟨ρ, hρ⟩ : ∃ ρ, Ac.eval = ρ := ⟨_, rfl⟩
                    rw [hρ] at a117 hc hf hgl
                    refine relCall hρ 10 #[.agg #[.int .i64 k, .int .u32 (p : Int), .int .i64 nn, .slice A3 n3 c3, .string (str t), .int .u32 (oa : Int), .int .i64 oh, .int .u32 (oi : Int), .bool fo]] (by simp [go_sem, hc, hf, hgl, ↓IntWalk.iteOmega, a117, *]) ?_
                    refine (ronly_any ⟨k, p, nn, b, t, oa, oh, oi, fo⟩ A3 n3 c3 w5).mono ?_
                    rintro e w6 ⟨rfl, hb6⟩
                    exact ⟨_, rfl, by rw [HOn.out]; rfl, hb6⟩
                  · refine relStep_plain rfl ?_
                    intro Ac w5 hp
                    have hb := hp.bel
                    have a113 : Ac.eval (.tmp 113) = .agg #[.int .i64 ky, .int .u32 (py : Int), .int .i64 ny, .slice A1 n1 c1, .string (str ty), .int .u32 (oay : Int), .int .i64 ohy, .int .u32 (oiy : Int), .bool foy] := hp.dep 3 (by kernel_rfl)
                    have a118 : Ac.eval (.tmp 118) = .agg #[.int .i64 ky, .int .u32 (py : Int), .int .i64 ny, .slice A2 n2 c2, .string (str ty), .int .u32 (oay : Int), .int .i64 ohy, .int .u32 (oiy : Int), .bool foy] := hp.dep 8 (by kernel_rfl)
                    have hc := evalC Ac; have hf := evalF Ac; have hgl := evalG Ac
                    obtain ⟨ρ, hρ⟩ : ∃ ρ, Ac.eval = ρ := ⟨_, rfl⟩
                    rw [hρ] at a113 a118 hc hf hgl
                    refine relCall hρ 9 #[.agg #[.int .i64 ky, .int .u32 (py : Int), .int .i64 ny, .slice A1 n1 c1, .string (str ty), .int .u32 (oay : Int), .int .i64 ohy, .int .u32 (oiy : Int), .bool foy], .agg #[.int .i64 ky, .int .u32 (py : Int), .int .i64 ny, .slice A2 n2 c2, .string (str ty), .int .u32 (oay : Int), .int .i64 ohy, .int .u32 (oiy : Int), .bool foy]] (by simp [go_sem, hc, hf, hgl, ↓IntWalk.iteOmega, a113, a118, *]) ?_
                    refine (rsame_eq ⟨ky, py, ny, bY, ty, oay, ohy, oiy, foy⟩ A1 A2 n1 c1 n2 c2 w5 (HBl.out.below byMono hb) (HB2l.out.below byMono hb)).mono ?_
                    rintro e w6 ⟨rfl, hb6⟩
                    exact ⟨_, rfl, rfl, hb6⟩
                  · refine relStep_plain rfl ?_
                    intro Ac w5 hp
                    have hb := hp.bel
                    have a119 : Ac.eval (.tmp 119) = .bool true := hp.dep 9 (by kernel_rfl)
                    have hc := evalC Ac; have hf := evalF Ac; have hgl := evalG Ac
                    obtain ⟨ρ, hρ⟩ : ∃ ρ, Ac.eval = ρ := ⟨_, rfl⟩
                    rw [hρ] at a119 hc hf hgl
                    exact relPure hρ (.bool false) (by simp [go_sem, hc, hf, hgl, ↓IntWalk.iteOmega, a119, *]) rfl
                  intro u w8 hb7 hall
                  have e120 : u 10 = .bool false := relAll_at hall (i := 10) (by decide +kernel)
                  clear hall
                  simp only [List.drop_succ_cons, List.drop_zero, List.take_succ_cons, List.take_zero, putAll, Act.put, List.setIfInBounds_toArray, List.set_cons_zero, List.set_cons_succ, Nat.zero_add, Nat.reduceAdd, e120]
                  have HB8 := hide (HBr.out.trans (hb7.mono HBr.out.size))
                  clear hb7
                  clear k0 k1 k2 k3 k4 k5 k6 k7 k8 i0_ i1_ i2_ i3_ i4_ i5_ i6_ i7_ i8_
                  go_wp2
                  go_roundw
                  case rel => exact ⟨j + 1, by omega, by go_num, HB8.out⟩
                  case measure => simp [intOf]; omega
                · obtain rfl : j = q := by omega
                  have HBw := hide (HB3.out.trans (hbel.mono hs3))
                  clear hbel
                  have HLv := hide (slives_any wr (HEn.out.below HBw.out) (HTb.out.below HBw.out))
                  go_wp2_with fail
                  refine HLv.out.mono ?_
                  rintro e w9 ⟨rfl, hb9⟩
                  have HB9 := hide (HBw.out.trans (hb9.mono HBw.out.size))
                  clear hb9
                  go_wp2
                  go_ret
                  exact ⟨rfl, HB9.out⟩
            · exfalso; have := HNo.out; omega
        · obtain ⟨b, rfl⟩ : ∃ d, bd = d + 1 := ⟨bd - 1, by omega⟩
          obtain ⟨m, f1, f2, f3⟩ := HFi.out b rfl
          cases hpr with
          | long h => exfalso; have := HNo.out; omega
          | ok h1 h2 => exfalso; have := h2 _ (List.mem_of_getElem? f1); rw [f2] at this; cases this
          | @bad i m2 h1 h2 h3 h4 =>
            obtain rfl : i = b := Nat.le_antisymm (first_lt f1 f2 h4) (first_lt h2 h3 f3)
            have hcs : ((i + 1 : Nat) : Int) = (i : Int) + 1 := by omega
            have HLv := hide (slives_any w2 (HEn.out.below HB2.out) (HTb.out.below HB2.out))
            clear h1 h2 h3 h4 f1 f2 f3
            rw [hcs]
            clear hcs
            go_wp2_with fail
            refine HLv.out.mono ?_
            rintro e w3 ⟨rfl, hb⟩
            have HB3 := hide (HB2.out.trans (hb.mono hs2))
            clear hb
            go_wp2
            go_ret
            exact ⟨rfl, HB3.out⟩
end Go.Proofs.YtlfknndpbejbcaaGreatDoor
