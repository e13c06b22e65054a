import Derived.Test.YtlfknndpbejbcaaGreatDoorSw2
import Derived.WalkKit
import Derived.ProofKit
import Derived.OpenShut
import Derived.Below
import Derived.Laws.OwnMore
import Derived.Laws.Rows
import Derived.Laws.MakeOwn
import Derived.Deep.AppendLies
import Derived.Deep.Draws
import Derived.Deep.OwnRows
import Derived.Deep.QuietTactic
import Derived.Maps.AppendAt
import Derived.RegionTactic
import Derived.OwnWalk
import Derived.ChangeSame
import Derived.Outline
import Derived.BigQuiet
import Derived.WalkMore
import Derived.ScopeJumps
import Derived.WalkLawsBesides
import Derived.WalkSpells
import Derived.Laws.BitsLemmas
import Derived.Laws.BitsAllLaws
import Derived.Deep.Quiet
import Derived.WideKeyArgs
import Derived.Deep.DeepHandedRow
import Derived.Deep.DeepWitnessRowRef
import Derived.Lib.LaidTab
import Derived.Lib.AppendIntMem
import Derived.LaidMore
import Derived.MakeChecks
import Derived.Lib.Itoa
import Derived.Lib.ItoaMem
import Derived.BigRegion
import Derived.Deep.Slices
import Derived.Orders
import Derived.Lib.PathFns
import Derived.Lib.IndexBytes
import Derived.RangeFuncWrites
import Derived.RangeFuncNested
import Derived.RangeFuncBound
import Derived.RangeFuncCalls
import Derived.RangeFuncLeaves
import Derived.RangeFuncBox
import Derived.Shelf.Abstract
import Derived.Shelf.RegionOpen
import Derived.OwnWalkIn
import Derived.TacticsInMore
import Derived.LoopNIn
import Derived.LoopIn
import Derived.Lib.SmallJoins
import Derived.Lib.ParseIntBCases
import Derived.Lib.IndexMore
import Derived.Shelf.Vars
import Derived.Lib.AtoiAllCases
import Derived.SliceStrings
import Derived.Deep.RegionLaw
import Derived.Sort.LotA
import Derived.BigRegionIn
import Derived.Lib.Strings
import Derived.Lib.Bytealg
import Derived.StillTailTactics
import Derived.Deep.RegionHeld3
import Derived.Shelf.Strings.SplitShaped
import Derived.Shelf.Strings.Prefix
import Derived.Shelf.Small.Strs
import Derived.Shelf.Strings.BuilderK
set_option linter.unusedSimpArgs false
set_option linter.unusedVariables false
namespace Go.Proofs.YtlfknndpbejbcaaGreatDoor
open Go.RowKit Go.WideShapes Go.ChangeShapes
attribute [local go_sem] Oper.semAt_some
theorem wordM_len (k : Int) : (wordM k).length ≤ 6 := by
  have h : ∀ w ∈ wordsM, w.length ≤ 6 := by decide
  unfold wordM
  by_cases hk : (k - 1).toNat < wordsM.length
  · have e : wordsM.getD (k - 1).toNat [] = wordsM[(k - 1).toNat] := by rw [List.getD_eq_getElem?_getD, List.getElem?_eq_getElem hk]; rfl
    rw [e]
    exact h _ (List.getElem_mem hk)
  · rw [List.getD_eq_getElem?_getD, List.getElem?_eq_none (by omega)]
    simp
theorem wordM_at (k : Int) (q : Nat) (h : k = q + 1) (hq : q < 10) : (wordsM.map str)[q]? = some (str (wordM k)) := by
  have hl : q < wordsM.length := hq
  have e : wordM k = wordsM[q] := by
    unfold wordM
    rw [show (k - 1).toNat = q by omega, List.getD_eq_getElem?_getD, List.getElem?_eq_getElem hl]; rfl
  rw [e, List.getElem?_map, List.getElem?_eq_getElem hl]; rfl
theorem head_len {m : MV} (ok : MvOk m) (hg : mvGood m = true) : (jw (headM m)).length ≤ 20000 := by
  have h0 := jw_len2 (headM m)
  have hw := wordM_len m.k
  have ha := addrL_len m.p
  have hi := addrL_len m.oi
  have hl : (headM m).length ≤ 5 ∧ ((headM m).map List.length).sum ≤ 15000 := by
    obtain ⟨o1, o2, o3, o4, o5, o6⟩ := ok
    unfold mvGood at hg
    unfold headM tailM
    by_cases h8 : m.k = 8
    · rw [h8] at hg hw
      simp at hg
      have := dec_len m.n.toNat 18 (by omega)
      simp [h8]; omega
    · by_cases h5 : m.k = 5
      · rw [h5] at hg hw
        simp at hg
        have := hexT_len m.b
        simp [h5]; omega
      · by_cases h7 : m.k = 7
        · rw [h7] at hg hw
          simp at hg
          have h1 := linesM_len m.t
          have := dec_len (linesM m.t).length 18 (by omega)
          simp [h7]; omega
        · by_cases h9 : m.k = 9
          · rw [h9] at hg hw
            simp at hg
            have := dec_len m.oa 18 (by omega)
            have := dec_len m.oh.toNat 18 (by omega)
            simp [h9]; omega
          · by_cases h6 : m.k = 6
            · rw [h6] at hw
              simp [h6]; omega
            · simp [h5, h6, h7, h8, h9]; omega
  omega
structure ShSt (w W : World) (m : MV) (v : Value) (A : Option Addr) (n c : Nat) (l : List (List UInt8)) : Prop where
  box : Blk W w.heap.size 32 (mvC m v).toArray
  own : W.ownsRow w.heap.size 9 1 (.slice A n c) n (strv l)
  bel : Below w.heap.size w W
theorem ShSt.below {w W W' : World} {m : MV} {v : Value} {A : Option Addr} {n c : Nat} {l : List (List UInt8)} (h : ShSt w W m v A n c l) (hb : Below W.heap.size W W') : ShSt w W' m v A n c l :=
  ⟨h.box.below hb h.box.lt, own_below h.own hb, h.bel.trans (hb.mono h.bel.size)⟩
theorem ShSt.push {w W W' : World} {m : MV} {v : Value} {A A' : Option Addr} {n n' c c' : Nat} {l : List (List UInt8)} {x : List UInt8} {o : Obj} (h : ShSt w W m v A n c l) (hn : n' = n + 1) (ho : W'.ownsRow w.heap.size 9 1 (.slice A' n' c') n' (strv l ++ [.string (str x)])) (hg : (W.alloc o).grownBy W' (Value.slice A n c).ownBlock) : ShSt w W' m v A' n' c' (l ++ [x]) := by
  have hs := h.bel.size
  refine ⟨(h.box.alloc o).grown hg (Ne.symm (own_blk_ne h.own h.box (by decide))), ?_, Below.grown (h.bel.alloc hs o) hg (by simp; omega) (fun k hk => own_low_block h.own k hk)⟩
  rw [strv_snoc]; exact ho
theorem ShSt.push3 {w W W' : World} {m : MV} {v : Value} {A A' : Option Addr} {n n' c c' : Nat} {l : List (List UInt8)} {x y z : List UInt8} (h : ShSt w W m v A n c l) (hn : n' = n + 3) (ho : W'.ownsRow w.heap.size 9 1 (.slice A' n' c') n' (strv l ++ [.string (str x), .string (str y), .string (str z)])) (hg : W.grownBy W' (Value.slice A n c).ownBlock) : ShSt w W' m v A' n' c' (l ++ [x, y, z]) := by
  have hs := h.bel.size
  refine ⟨h.box.grown hg (Ne.symm (own_blk_ne h.own h.box (by decide))), ?_, Below.grown h.bel hg (by omega) (fun k hk => own_low_block h.own k hk)⟩
  have e : strv (l ++ [x, y, z]) = strv l ++ [.string (str x), .string (str y), .string (str z)] := by simp [strv]
  rw [e]; exact ho
/-- A step of another row: this one stays. -/
theorem ShSt.grown_ {w W W' : World} {m : MV} {v : Value} {A : Option Addr} {n c : Nat} {l : List (List UInt8)} {row : Option Nat} (h : ShSt w W m v A n c l) (hg : W.grownBy W' row) (hne : (Value.slice A n c).ownBlock = none ∨ (Value.slice A n c).ownBlock ≠ row) (hw : ∀ k, row = some k → w.heap.size < k) : ShSt w W' m v A n c l :=
  ⟨h.box.grown hg (fun e => by have := hw _ e.symm; omega), h.own.kept hg hne, Below.grown h.bel hg h.bel.size (fun k hk => by have := hw _ hk; omega)⟩
def ShownP (m : MV) (w : World) (e : Ending) (w' : World) : Prop := ∃ A n c, e = .returned (.slice A n c) ∧ n = (shownM m).length ∧ w'.ownsRow w.heap.size 9 1 (.slice A n c) n (strv (shownM m)) ∧ Below w.heap.size w w'
set_option maxRecDepth 100000 in
set_option maxHeartbeats 8000000 in
theorem shown_any (m : MV) (A : Option Addr) (n c : Nat) (w : World) (h : LstAt 1 byR w A n c m.b) (ok : MvOk m) (hg : mvGood m = true) (he : Env w) (ht : SpTab w) :
    Calls Tryz.prog 30 #[mvV m (.slice A n c)] w (ShownP m w) := by
  obtain ⟨i0, hi, hz0, hz1, hz2⟩ := info_parts infoStr
  have hk := mvGood_k hg
  have HL := hide (head_len ok hg)
  obtain ⟨k, p, nn, b, t, oa, oh, oi, fo⟩ := m
  obtain ⟨o1, o2, o3, o4, o5, o6⟩ := ok
  simp only at hk h o1 o2 o3 o4 o5 o6
  unfold mvV
  simp only
  obtain ⟨va, hva⟩ : ∃ va, Value.slice A n c = va := ⟨_, rfl⟩
  rw [hva]
  have HVa := hide hva
  have HLs := hide h
  have HG := hide hg
  obtain ⟨q, hq⟩ : ∃ q : Nat, k = (q : Int) + 1 := ⟨(k - 1).toNat, by omega⟩
  have hq10 : q < 10 := by omega
  have HWd := hide (wordM_at k q hq hq10)
  have hwr : IntKind.i64.wrap (k - 1) = (q : Int) := by rw [IntKind.wrap_i64]; omega
  have hq0 : (0 : Int) ≤ (q : Int) := by omega
  have hq1 : (q : Int) < 10 := by omega
  have HQ := hide hq
  have HB0 : Hid (Below w.heap.size w (w.alloc (.cells #[.int .i64 k, .int .u32 (p : Int), .int .i64 nn, va, .string (str t), .int .u32 (oa : Int), .int .i64 oh, .int .u32 (oi : Int), .bool fo] 32))) := hide ((Below.refl w.heap.size w).alloc (Nat.le_refl _) _)
  have HK0 : Hid (Blk (w.alloc (.cells #[.int .i64 k, .int .u32 (p : Int), .int .i64 nn, va, .string (str t), .int .u32 (oa : Int), .int .i64 oh, .int .u32 (oi : Int), .bool fo] 32)) w.heap.size 32 #[.int .i64 k, .int .u32 (p : Int), .int .i64 nn, va, .string (str t), .int .u32 (oa : Int), .int .i64 oh, .int .u32 (oi : Int), .bool fo]) := hide (Blk.new w _ _)
  have HTb := hide ht
  have HEn := hide he
  clear ht he h hg hva hq
  go_enter Tryz.func30, Tryz.ntmps30
  go_wp2
  refine wp_region_rel [(fun v W => ∃ R, v = .slice (some ⟨R, 0, none⟩) 10 10 ∧ StrsAt W (some ⟨R, 0, none⟩) 10 10 (wordsM.map str)), (fun v _ => v = .pointer (some ⟨w.heap.size, 0, none⟩)), (fun v _ => v = .int .i64 k), (fun v _ => v = .int .i64 (q : Int)), (fun v W => ∃ R, v = .pointer (some ⟨R, q, none⟩) ∧ W.cell? ⟨R, q, none⟩ = some (.string (str (wordM k))) ∧ R < W.heap.size), (fun v _ => v = .string (str (wordM k))), (fun v _ => v = .string (str (wordM k)))] (by kernel_rfl) (by kernel_rfl) (relMono _ ⟨fun v W W2 hb ⟨R, e, h⟩ => ⟨R, e, h.below rfl hb⟩, fun _ _ _ _ h => h, fun _ _ _ _ h => h, fun _ _ _ _ h => h, fun v W W2 hb ⟨R, e, h, h2⟩ => ⟨R, e, (hb.cell (by exact h2)).trans h, Nat.lt_of_lt_of_le h2 hb.size⟩, fun _ _ _ _ h => h, fun _ _ _ _ h => h, trivial⟩) ⟨?_, ?_, ?_, ?_, ?_, ?_, ?_, trivial⟩ ?_
  · refine relStep_plain rfl ?_
    intro Ac w5 hp
    have hb := hp.bel
    have hc := evalC Ac; have hf := evalF Ac; have hgl := evalG Ac
    obtain ⟨ρ, hρ⟩ : ∃ ρ, Ac.eval = ρ := ⟨_, rfl⟩
    rw [hρ] at hc hf hgl
    refine relCall hρ 45 #[] (by simp [go_sem, hc, hf, hgl, ↓IntWalk.iteOmega, *]) ?_
    refine (words_any w5 (HTb.out.below (below2 HB0.out hb))).mono ?_
    rintro e w6 ⟨rfl, hb6, hs6⟩
    exact ⟨_, rfl, ⟨_, rfl, hs6⟩, hb6⟩
  · refine relStep_plain rfl ?_
    intro Ac w5 hp
    have hb := hp.bel
    have a1 : Ac.eval (.tmp 1) = .pointer (some ⟨w.heap.size, 0, none⟩) := hp.out 1 (by rfl)
    have hc := evalC Ac; have hf := evalF Ac; have hgl := evalG Ac
    obtain ⟨ρ, hρ⟩ : ∃ ρ, Ac.eval = ρ := ⟨_, rfl⟩
    rw [hρ] at a1 hc hf hgl
    exact relPure hρ (.pointer (some ⟨w.heap.size, 0, none⟩)) (by simp [go_sem, hc, hf, hgl, ↓IntWalk.iteOmega, a1, *]) rfl
  · refine relStep_plain rfl ?_
    intro Ac w5 hp
    have hb := hp.bel
    have a9 : Ac.eval (.tmp 9) = .pointer (some ⟨w.heap.size, 0, none⟩) := hp.dep 1 (by kernel_rfl)
    have z0 := (HK0.out.below hb HK0.out.lt).cell 0
    have hc := evalC Ac; have hf := evalF Ac; have hgl := evalG Ac
    obtain ⟨ρ, hρ⟩ : ∃ ρ, Ac.eval = ρ := ⟨_, rfl⟩
    rw [hρ] at a9 hc hf hgl
    exact relPure hρ (.int .i64 k) (by simp [go_sem, hc, hf, hgl, ↓IntWalk.iteOmega, a9, *]) rfl
  · refine relStep_plain rfl ?_
    intro Ac w5 hp
    have hb := hp.bel
    have a10 : Ac.eval (.tmp 10) = .int .i64 k := hp.dep 2 (by kernel_rfl)
    have hc := evalC Ac; have hf := evalF Ac; have hgl := evalG Ac
    obtain ⟨ρ, hρ⟩ : ∃ ρ, Ac.eval = ρ := ⟨_, rfl⟩
    rw [hρ] at a10 hc hf hgl
    exact relPure hρ (.int .i64 (q : Int)) (by simp [go_sem, hc, hf, hgl, ↓IntWalk.iteOmega, a10, *]) rfl
  · refine relStep_plain rfl ?_
    intro Ac w5 hp
    have hb := hp.bel
    obtain ⟨R8, a8, hR8⟩ := hp.dep 0 (by kernel_rfl)
    change Ac.eval (.tmp 8) = _ at a8
    have a11 : Ac.eval (.tmp 11) = .int .i64 (q : Int) := hp.dep 3 (by kernel_rfl)
    obtain ⟨g9, o9, x9, hA9, hg9, hx9, _, hc9⟩ := hR8.at_ (k := q) hq10
    injection hA9 with hA9
    injection hA9 with e1 e2
    subst e1 e2
    rw [HWd.out] at hx9
    injection hx9 with hx9
    subst hx9
    rw [Nat.zero_add] at hc9
    have hc := evalC Ac; have hf := evalF Ac; have hgl := evalG Ac
    obtain ⟨ρ, hρ⟩ : ∃ ρ, Ac.eval = ρ := ⟨_, rfl⟩
    rw [hρ] at a8 a11 hc hf hgl
    exact relPure hρ (.pointer (some ⟨R8, q, none⟩)) (by simp [go_sem, hc, hf, hgl, ↓IntWalk.iteOmega, a8, a11, *]) ⟨_, rfl, hc9, hg9⟩
  · refine relStep_plain rfl ?_
    intro Ac w5 hp
    have hb := hp.bel
    obtain ⟨R12, a12, hR12, hl12⟩ := hp.dep 4 (by kernel_rfl)
    change Ac.eval (.tmp 12) = _ at a12
    have z0 := (HK0.out.below hb HK0.out.lt).cell 0
    have hc := evalC Ac; have hf := evalF Ac; have hgl := evalG Ac
    obtain ⟨ρ, hρ⟩ : ∃ ρ, Ac.eval = ρ := ⟨_, rfl⟩
    rw [hρ] at a12 hc hf hgl
    exact relPure hρ (.string (str (wordM k))) (by simp [go_sem, hc, hf, hgl, ↓IntWalk.iteOmega, a12, *]) rfl
  · refine relStep_plain rfl ?_
    intro Ac w5 hp
    have hb := hp.bel
    have a13 : Ac.eval (.tmp 13) = .string (str (wordM k)) := hp.dep 5 (by kernel_rfl)
    have hc := evalC Ac; have hf := evalF Ac; have hgl := evalG Ac
    obtain ⟨ρ, hρ⟩ : ∃ ρ, Ac.eval = ρ := ⟨_, rfl⟩
    rw [hρ] at a13 hc hf hgl
    exact relPure hρ (.string (str (wordM k))) (by simp [go_sem, hc, hf, hgl, ↓IntWalk.iteOmega, a13, *]) rfl
  intro u w8 hb7 hall
  have e3 : u 6 = .string (str (wordM k)) := relAll_at hall (i := 6) (by decide +kernel)
  clear hall
  simp only [List.drop_succ_cons, List.drop_zero, List.take_succ_cons, List.take_zero, putAll, Act.put, List.setIfInBounds_toArray, List.set_cons_zero, List.set_cons_succ, Nat.zero_add, Nat.reduceAdd, e3]
  have HK8 := hide (HK0.out.below hb7 HK0.out.lt)
  have HB8 := hide (below2 HB0.out hb7)
  have hs8 := HB8.out.size
  have HS0 : Hid (ShSt w (w8.alloc (.cells #[.string (str (wordM k))] 9)) ⟨k, p, nn, b, t, oa, oh, oi, fo⟩ va (some ⟨w8.heap.size, 0, none⟩) 1 1 [wordM k]) := hide ⟨HK8.out.alloc _, own_oneS _ hs8, HB8.out.alloc hs8 _⟩
  clear hb7 hwr hq0 hq1 hq10
  have hl8 := HK8.out.lt
  have c0 : w8.cell? ⟨w.heap.size, 0, none⟩ = some (.int .i64 k) := HK8.out.cell 0
  have c1 : w8.cell? ⟨w.heap.size, 1, none⟩ = some (.int .u32 (p : Int)) := HK8.out.cell 1
  have c2 : w8.cell? ⟨w.heap.size, 2, none⟩ = some (.int .i64 nn) := HK8.out.cell 2
  have c3 : w8.cell? ⟨w.heap.size, 3, none⟩ = some (va) := HK8.out.cell 3
  have c4 : w8.cell? ⟨w.heap.size, 4, none⟩ = some (.string (str t)) := HK8.out.cell 4
  have c5 : w8.cell? ⟨w.heap.size, 5, none⟩ = some (.int .u32 (oa : Int)) := HK8.out.cell 5
  have c6 : w8.cell? ⟨w.heap.size, 6, none⟩ = some (.int .i64 oh) := HK8.out.cell 6
  have c7 : w8.cell? ⟨w.heap.size, 7, none⟩ = some (.int .u32 (oi : Int)) := HK8.out.cell 7
  have c8 : w8.cell? ⟨w.heap.size, 8, none⟩ = some (.bool fo) := HK8.out.cell 8
  by_cases h6 : k = 6
  · subst h6
    have HLx : Hid ((jw [wordM 6]).length ≤ 20000) := hide (by have := HL.out; unfold headM tailM at this; simpa using this)
    go_wp2_with fail
    refine (lexTextB_any (some ⟨w8.heap.size, 0, none⟩) 1 1 w.heap.size [wordM 6] _ HS0.out.own (by omega) (by have := HLx.out; omega)).mono ?_
    rintro e wt ⟨rfl, hb⟩
    have HSt := hide (HS0.out.below hb)
    have hst := HSt.out.bel.size
    clear hb
    go_wp2_with (at_builtin; refine wpList_append_any _ rfl (.tmp 90) (.tmp 91) 37 rfl w.heap.size 9 i0 _ 1 16 Tryz.underlying37 hi hz0 hz1 hz2 rfl (by decide) (.slice (some ⟨wt.heap.size, 0, none⟩) 1 1) 1 _ rfl (own_oneS _ hst) 0 none 0 0 [] rfl Reads.none_ (by simp) (by unfold maxLen; omega) (by omega) (by simp; omega) ?_; intro v1 wz hown hgrow hat; obtain ⟨Az, cz, rfl⟩ := own_slice hown; have HOz := hide hown; have HBz : Hid (Below w.heap.size w wz) := hide (Below.grown (HSt.out.bel.alloc hst _) hgrow (by simp; omega) (fun k hk => by simp [Value.ownBlock] at hk; omega)); clear hown hgrow hat)
    go_ret
    have HFn : Hid (shownM ⟨6, p, nn, b, t, oa, oh, oi, fo⟩ = [jw [wordM 6]]) := hide (by simp [shownM, headM, tailM, behM])
    exact ⟨_, _, _, rfl, by rw [HFn.out]; rfl, by rw [HFn.out]; exact HOz.out, HBz.out⟩
  · have e6 : (k == 6) = false := by simpa using h6
    have e6n : (k != 6) = true := by simpa using h6
    by_cases h7 : k = 7
    · subst h7
      have HG7 : Hid (t.length ≤ 100000 ∧ (t = [] ∨ t.getLast? = some 10)) := hide (by have := HG.out; unfold mvGood at this; simpa using this)
      have HXl := hide (texts_any t HG7.out.2 HG7.out.1)
      have HEn0 := hide (HEn.out.below HS0.out.bel)
      have hw9 : (w8.alloc (.cells #[.string (str (wordM 7))] 9)).heap.size = w8.heap.size + 1 := by simp
      obtain ⟨L, hL⟩ : ∃ L, linesM t = L := ⟨_, rfl⟩
      have hLn := linesM_len t
      rw [hL] at hLn HXl
      have HLn : Hid (L.length ≤ 100000) := hide (by have := HG7.out.1; omega)
      have HLe : Hid (∀ x ∈ L, x.length ≤ 100000) := hide (fun x hx => by
        rw [← hL] at hx
        have := pieces_each 10 t x (List.dropLast_subset _ hx)
        have := HG7.out.1
        omega)
      have HLL := hide hL
      clear hL hLn
      go_wp2_with fail
      refine (HXl.out _ HEn0.out).mono ?_
      rintro e w9 ⟨At, nt, ct, rfl, hst, hb⟩
      have HS9 := hide (HS0.out.below hb)
      have hs9 := hb.size
      rw [hw9] at hs9
      have HSt9 := hide hst
      have hnt : L.length = nt := by have := hst.1; simpa using this
      have htm := hst.2.2.1
      have htc := hst.2.1
      unfold maxLen at htm
      have HB5 : Hid ((Value.slice none 0 0) = .slice none 0 0) := hide rfl
      clear hb hst c0 c1 c2 c3 c4 c5 c6 c7 c8
      have c4 : w9.cell? ⟨w.heap.size, 4, none⟩ = some (.string (str t)) := HS9.out.box.cell 4
      have hl9 := HS9.out.box.lt
      go_wp2
      go_loopw [5, 72] (fun vv iv wr => ∃ j : Nat, j ≤ nt ∧ iv = .int .i64 (j : Nat) ∧ wr.ownsRow w9.heap.size 9 1 vv j (strv ((L.take j).map (124 :: ·))) ∧ Below w9.heap.size w9 wr) (fun _ iv _ => nt - (intOf iv).toNat)
      case atStart => exact ⟨0, Nat.zero_le _, rfl, ⟨rfl, .inl ⟨rfl, rfl⟩⟩, Below.refl _ _⟩
      case round =>
        obtain ⟨j, hj, rfl, hown, hbel⟩ := hrel
        have HB := hide hbel
        obtain ⟨A5, c5, rfl⟩ := own_slice hown
        have HO := hide hown
        have hsb := hbel.size
        have hn5 : nt ≤ 100000 := by have := HLn.out; omega
        by_cases hlt : j < nt
        · obtain ⟨g, o, x, rfl, hg, hx, hxs, hc⟩ := (HSt9.out.below rfl hbel).at_ (k := j) hlt
          have HX : Hid (∃ y, L[j]? = some y ∧ x = str y) := hide (by
            rw [List.getElem?_map, Option.map_eq_some_iff] at hx
            obtain ⟨y, hy, rfl⟩ := hx
            exact ⟨y, hy, rfl⟩)
          have q0 : (0 : Int) ≤ (j : Int) := by omega
          have q1 : (j : Int) < (nt : Int) := by omega
          have hxz : x.size + 1 ≤ 9223372036854775807 := by
            obtain ⟨y, hy, rfl⟩ := HX.out
            rw [str_size]
            have := HLe.out y (List.mem_of_getElem? hy)
            omega
          clear hx hxs hown hbel
          go_wp2_with (at_builtin; refine wpList_append_any _ rfl (.tmp 76) (.tmp 79) 37 rfl w9.heap.size 9 i0 _ 1 16 Tryz.underlying37 hi hz0 hz1 hz2 rfl (by decide) (.slice A5 j c5) j _ rfl (HO.out.alloc _) (wr.heap.size + 1) (some ⟨wr.heap.size, 0, none⟩) 1 1 [.string (⟨#[124]⟩ ++ x)] rfl (reads_blkN (Blk.new _ _ _) (Nat.lt_succ_self _) rfl rfl) (by simp [Value.oneCell']) (by unfold maxLen; omega) (by omega) (by simp; omega) ?_; intro v1 w10 hown hgrow hat; have HO3 := hide hown; have HB3 : Hid (Below w9.heap.size w9 w10) := hide (Below.grown (HB.out.alloc hsb _) hgrow (by simp; omega) (fun k hk => own_low_block HO.out k hk)); clear hown hgrow hat)
          go_roundw
          case rel =>
            refine ⟨j + 1, by omega, by go_num, ?_, HB3.out⟩
            obtain ⟨y, hy, rfl⟩ := HX.out
            have h3 := HO3.out
            rw [List.take_add_one, hy, List.map_append, Option.toList_some, List.map_cons, List.map_nil, strv_snoc]
            exact h3
          case measure => simp [intOf]; omega
        · obtain rfl : j = nt := by omega
          have HO5 : Hid (wr.ownsRow w9.heap.size 9 1 (.slice A5 j c5) j (strv (L.map (124 :: ·)))) := hide (by
            have := HO.out
            rwa [List.take_of_length_le (by omega)] at this)
          have HSr := hide (HS9.out.below hbel)
          have HEr := hide (HEn.out.below HSr.out.bel)
          have HIt := hide (itoa_any j (by omega) wr HEr.out.tab)
          have hlr := HSr.out.box.lt
          clear hown hbel c4
          go_wp2_with fail
          refine HIt.out.mono ?_
          rintro e w10 ⟨rfl, hb⟩
          have HSx := hide (HSr.out.below hb)
          have HO6 := hide (own_below HO5.out hb)
          have hs10 := hb.size
          have hsx := HSx.out.bel.size
          have hlx := HSx.out.box.lt
          clear hb
          go_wp2_with (at_builtin; refine wpList_append_any _ rfl (.tmp 82) (.tmp 86) 37 rfl w.heap.size 9 i0 _ 1 16 Tryz.underlying37 hi hz0 hz1 hz2 rfl (by decide) (.slice (some ⟨w8.heap.size, 0, none⟩) 1 1) 1 _ rfl (HSx.out.own.alloc _) (w10.heap.size + 1) (some ⟨w10.heap.size, 0, none⟩) 1 1 [.string (str (Lib.decDigits j))] rfl (reads_blkN (Blk.new _ _ _) (Nat.lt_succ_self _) rfl rfl) (by simp [Value.oneCell']) (by unfold maxLen; omega) (by omega) (by simp; omega) ?_; intro v1 w11 hown hgrow hat; obtain ⟨A4, m4, rfl⟩ := own_slice hown; have HS1 := hide (HSx.out.push rfl hown hgrow); have HO7 : Hid (w11.ownsRow w9.heap.size 9 1 (.slice A5 j c5) j (strv (L.map (124 :: ·)))) := hide ((HO6.out.alloc _).kept hgrow (by
            rcases h5 : (Value.slice A5 j c5).ownBlock with _ | k5
            · exact .inl rfl
            · refine .inr (fun e => ?_)
              have h1 := own_low_block HO6.out k5 h5
              have h2 : some k5 = some w8.heap.size := by simpa [Value.ownBlock] using e
              injection h2 with h2
              omega)); clear hown hgrow hat)
          have HN7 : Hid (L.length = j) := hide hnt
          have HLx : Hid ((jw [wordM 7, Lib.decDigits j]).length ≤ 20000) := hide (by have := HL.out; unfold headM tailM at this; simpa [HLL.out, HN7.out] using this)
          refine (lexTextB_any A4 2 m4 w.heap.size [wordM 7, Lib.decDigits j] _ HS1.out.own (by omega) (by have := HLx.out; omega)).mono ?_
          rintro e wt ⟨rfl, hb⟩
          have HSt := hide (HS1.out.below hb)
          have hst := HSt.out.bel.size
          have HO8 := hide (own_below HO7.out hb)
          clear hb
          have HRd := hide (Reads.of_own (HO8.out.alloc (.cells #[.string (str (jw [wordM 7, Lib.decDigits j]))] 9)))
          go_wp2_with (at_builtin; refine wpList_append_any _ rfl (.tmp 90) (.tmp 91) 37 rfl w.heap.size 9 i0 _ 1 16 Tryz.underlying37 hi hz0 hz1 hz2 rfl (by decide) (.slice (some ⟨wt.heap.size, 0, none⟩) 1 1) 1 _ rfl (own_oneS _ hst) _ A5 j c5 _ rfl HRd.out (strv_one _) (by unfold maxLen; omega) (by omega) (by simp; omega) ?_; intro v1 wz hown hgrow hat; obtain ⟨Az, cz, rfl⟩ := own_slice hown; have HOz := hide hown; have HBz : Hid (Below w.heap.size w wz) := hide (Below.grown (HSt.out.bel.alloc hst _) hgrow (by simp; omega) (fun k hk => by simp [Value.ownBlock] at hk; omega)); clear hown hgrow hat)
          go_ret
          have HFn : Hid (shownM ⟨7, p, nn, b, t, oa, oh, oi, fo⟩ = jw [wordM 7, Lib.decDigits j] :: L.map (124 :: ·)) := hide (by simp [shownM, headM, tailM, behM, HLL.out, HN7.out])
          exact ⟨_, _, _, rfl, by rw [HFn.out, List.length_cons, List.length_map, HN7.out]; omega, by rw [HFn.out]; exact HOz.out, HBz.out⟩
    · have e7 : (k == 7) = false := by simpa using h7
      have e7n : (k != 7) = true := by simpa using h7
      go_wp2_with fail
      refine (Addr_any p (by omega) _ (HEn.out.tab.below HS0.out.bel)).mono ?_
      rintro e w9 ⟨rfl, hb⟩
      have HSx := hide (HS0.out.below hb)
      have hsx := HSx.out.bel.size
      have hlx := HSx.out.box.lt
      clear hb c0 c1 c2 c3 c4 c5 c6 c7 c8
      by_cases h5 : k = 5
      · subst h5
        have HHx := hide (fun (W : World) (hb : Below w.heap.size w W) => hex_any A n c b W (HLs.out.below byMono hb) (by have := HG.out; unfold mvGood at this; simp at this; have := HLs.out.1; omega))
        rw [HVa.out] at HHx
        go_wp2_with (at_builtin; refine wpList_append_any _ rfl (.tmp 24) (.tmp 28) 37 rfl w.heap.size 9 i0 _ 1 16 Tryz.underlying37 hi hz0 hz1 hz2 rfl (by decide) (.slice (some ⟨w8.heap.size, 0, none⟩) 1 1) 1 _ rfl (HSx.out.own.alloc _) (w9.heap.size + 1) (some ⟨w9.heap.size, 0, none⟩) 1 1 [.string (str (addrL p))] rfl (reads_blkN (Blk.new _ _ _) (Nat.lt_succ_self _) rfl rfl) (by simp [Value.oneCell']) (by unfold maxLen; omega) (by omega) (by simp; omega) ?_; intro v1 w9a hown hgrow hat; obtain ⟨A4, m4, rfl⟩ := own_slice hown; have HS1 := hide (HSx.out.push rfl hown hgrow); clear hown hgrow hat; have hlw9 := HS1.out.box.lt; have c0 : w9a.cell? ⟨w.heap.size, 0, none⟩ = some (.int .i64 5) := HS1.out.box.cell 0; have c1 : w9a.cell? ⟨w.heap.size, 1, none⟩ = some (.int .u32 (p : Int)) := HS1.out.box.cell 1; have c2 : w9a.cell? ⟨w.heap.size, 2, none⟩ = some (.int .i64 nn) := HS1.out.box.cell 2; have c3 : w9a.cell? ⟨w.heap.size, 3, none⟩ = some (va) := HS1.out.box.cell 3; have c4 : w9a.cell? ⟨w.heap.size, 4, none⟩ = some (.string (str t)) := HS1.out.box.cell 4; have c5 : w9a.cell? ⟨w.heap.size, 5, none⟩ = some (.int .u32 (oa : Int)) := HS1.out.box.cell 5; have c6 : w9a.cell? ⟨w.heap.size, 6, none⟩ = some (.int .i64 oh) := HS1.out.box.cell 6; have c7 : w9a.cell? ⟨w.heap.size, 7, none⟩ = some (.int .u32 (oi : Int)) := HS1.out.box.cell 7; have c8 : w9a.cell? ⟨w.heap.size, 8, none⟩ = some (.bool fo) := HS1.out.box.cell 8)
        clear HSx hsx hlx
        refine (HHx.out _ HS1.out.bel).mono ?_
        rintro e w10 ⟨rfl, hb⟩
        have HSx := hide (HS1.out.below hb)
        have hsx := HSx.out.bel.size
        have hlx := HSx.out.box.lt
        clear hb c0 c1 c2 c3 c4 c5 c6 c7 c8
        go_wp2_with (at_builtin; refine wpList_append_any _ rfl (.tmp 34) (.tmp 38) 37 rfl w.heap.size 9 i0 _ 1 16 Tryz.underlying37 hi hz0 hz1 hz2 rfl (by decide) (.slice A4 2 m4) 2 _ rfl (HSx.out.own.alloc _) (w10.heap.size + 1) (some ⟨w10.heap.size, 0, none⟩) 1 1 [.string (str (hexT b))] rfl (reads_blkN (Blk.new _ _ _) (Nat.lt_succ_self _) rfl rfl) (by simp [Value.oneCell']) (by unfold maxLen; omega) (by omega) (by simp; omega) ?_; intro v1 w10a hown hgrow hat; obtain ⟨A5, m5, rfl⟩ := own_slice hown; have HS2 := hide (HSx.out.push rfl hown hgrow); clear hown hgrow hat; have hlw10 := HS2.out.box.lt; have c0 : w10a.cell? ⟨w.heap.size, 0, none⟩ = some (.int .i64 5) := HS2.out.box.cell 0; have c1 : w10a.cell? ⟨w.heap.size, 1, none⟩ = some (.int .u32 (p : Int)) := HS2.out.box.cell 1; have c2 : w10a.cell? ⟨w.heap.size, 2, none⟩ = some (.int .i64 nn) := HS2.out.box.cell 2; have c3 : w10a.cell? ⟨w.heap.size, 3, none⟩ = some (va) := HS2.out.box.cell 3; have c4 : w10a.cell? ⟨w.heap.size, 4, none⟩ = some (.string (str t)) := HS2.out.box.cell 4; have c5 : w10a.cell? ⟨w.heap.size, 5, none⟩ = some (.int .u32 (oa : Int)) := HS2.out.box.cell 5; have c6 : w10a.cell? ⟨w.heap.size, 6, none⟩ = some (.int .i64 oh) := HS2.out.box.cell 6; have c7 : w10a.cell? ⟨w.heap.size, 7, none⟩ = some (.int .u32 (oi : Int)) := HS2.out.box.cell 7; have c8 : w10a.cell? ⟨w.heap.size, 8, none⟩ = some (.bool fo) := HS2.out.box.cell 8)
        clear HSx hsx hlx
        have HLx : Hid ((jw [wordM 5, addrL p, hexT b]).length ≤ 20000) := hide (by have := HL.out; unfold headM tailM at this; simpa using this)
        refine (lexTextB_any A5 3 m5 w.heap.size [wordM 5, addrL p, hexT b] _ HS2.out.own (by omega) (by have := HLx.out; omega)).mono ?_
        rintro e wt ⟨rfl, hb⟩
        have HSt := hide (HS2.out.below hb)
        have hst := HSt.out.bel.size
        clear hb
        go_wp2_with (at_builtin; refine wpList_append_any _ rfl (.tmp 90) (.tmp 91) 37 rfl w.heap.size 9 i0 _ 1 16 Tryz.underlying37 hi hz0 hz1 hz2 rfl (by decide) (.slice (some ⟨wt.heap.size, 0, none⟩) 1 1) 1 _ rfl (own_oneS _ hst) 0 none 0 0 [] rfl Reads.none_ (by simp) (by unfold maxLen; omega) (by omega) (by simp; omega) ?_; intro v1 wz hown hgrow hat; obtain ⟨Az, cz, rfl⟩ := own_slice hown; have HOz := hide hown; have HBz : Hid (Below w.heap.size w wz) := hide (Below.grown (HSt.out.bel.alloc hst _) hgrow (by simp; omega) (fun k hk => by simp [Value.ownBlock] at hk; omega)); clear hown hgrow hat)
        go_ret
        have HFn : Hid (shownM ⟨5, p, nn, b, t, oa, oh, oi, fo⟩ = [jw [wordM 5, addrL p, hexT b]]) := hide (by simp [shownM, headM, tailM, behM])
        exact ⟨_, _, _, rfl, by rw [HFn.out]; rfl, by rw [HFn.out]; exact HOz.out, HBz.out⟩
      · have e5 : (k == 5) = false := by simpa using h5
        by_cases h8 : k = 8
        · subst h8
          obtain ⟨a, rfl⟩ : ∃ a : Nat, nn = (a : Int) := ⟨nn.toNat, by have := HG.out; unfold mvGood at this; simp at this; omega⟩
          go_wp2_with (at_builtin; refine wpList_append_any _ rfl (.tmp 24) (.tmp 28) 37 rfl w.heap.size 9 i0 _ 1 16 Tryz.underlying37 hi hz0 hz1 hz2 rfl (by decide) (.slice (some ⟨w8.heap.size, 0, none⟩) 1 1) 1 _ rfl (HSx.out.own.alloc _) (w9.heap.size + 1) (some ⟨w9.heap.size, 0, none⟩) 1 1 [.string (str (addrL p))] rfl (reads_blkN (Blk.new _ _ _) (Nat.lt_succ_self _) rfl rfl) (by simp [Value.oneCell']) (by unfold maxLen; omega) (by omega) (by simp; omega) ?_; intro v1 w9a hown hgrow hat; obtain ⟨A4, m4, rfl⟩ := own_slice hown; have HS1 := hide (HSx.out.push rfl hown hgrow); clear hown hgrow hat; have hlw9 := HS1.out.box.lt; have c0 : w9a.cell? ⟨w.heap.size, 0, none⟩ = some (.int .i64 8) := HS1.out.box.cell 0; have c1 : w9a.cell? ⟨w.heap.size, 1, none⟩ = some (.int .u32 (p : Int)) := HS1.out.box.cell 1; have c2 : w9a.cell? ⟨w.heap.size, 2, none⟩ = some (.int .i64 (a : Int)) := HS1.out.box.cell 2; have c3 : w9a.cell? ⟨w.heap.size, 3, none⟩ = some (va) := HS1.out.box.cell 3; have c4 : w9a.cell? ⟨w.heap.size, 4, none⟩ = some (.string (str t)) := HS1.out.box.cell 4; have c5 : w9a.cell? ⟨w.heap.size, 5, none⟩ = some (.int .u32 (oa : Int)) := HS1.out.box.cell 5; have c6 : w9a.cell? ⟨w.heap.size, 6, none⟩ = some (.int .i64 oh) := HS1.out.box.cell 6; have c7 : w9a.cell? ⟨w.heap.size, 7, none⟩ = some (.int .u32 (oi : Int)) := HS1.out.box.cell 7; have c8 : w9a.cell? ⟨w.heap.size, 8, none⟩ = some (.bool fo) := HS1.out.box.cell 8)
          clear HSx hsx hlx
          refine (itoa_any a (by omega) _ (HEn.out.tab.below HS1.out.bel)).mono ?_
          rintro e w10 ⟨rfl, hb⟩
          have HSx := hide (HS1.out.below hb)
          have hsx := HSx.out.bel.size
          have hlx := HSx.out.box.lt
          clear hb c0 c1 c2 c3 c4 c5 c6 c7 c8
          go_wp2_with (at_builtin; refine wpList_append_any _ rfl (.tmp 42) (.tmp 46) 37 rfl w.heap.size 9 i0 _ 1 16 Tryz.underlying37 hi hz0 hz1 hz2 rfl (by decide) (.slice A4 2 m4) 2 _ rfl (HSx.out.own.alloc _) (w10.heap.size + 1) (some ⟨w10.heap.size, 0, none⟩) 1 1 [.string (str (Lib.decDigits a))] rfl (reads_blkN (Blk.new _ _ _) (Nat.lt_succ_self _) rfl rfl) (by simp [Value.oneCell']) (by unfold maxLen; omega) (by omega) (by simp; omega) ?_; intro v1 w10a hown hgrow hat; obtain ⟨A5, m5, rfl⟩ := own_slice hown; have HS2 := hide (HSx.out.push rfl hown hgrow); clear hown hgrow hat; have hlw10 := HS2.out.box.lt; have c0 : w10a.cell? ⟨w.heap.size, 0, none⟩ = some (.int .i64 8) := HS2.out.box.cell 0; have c1 : w10a.cell? ⟨w.heap.size, 1, none⟩ = some (.int .u32 (p : Int)) := HS2.out.box.cell 1; have c2 : w10a.cell? ⟨w.heap.size, 2, none⟩ = some (.int .i64 (a : Int)) := HS2.out.box.cell 2; have c3 : w10a.cell? ⟨w.heap.size, 3, none⟩ = some (va) := HS2.out.box.cell 3; have c4 : w10a.cell? ⟨w.heap.size, 4, none⟩ = some (.string (str t)) := HS2.out.box.cell 4; have c5 : w10a.cell? ⟨w.heap.size, 5, none⟩ = some (.int .u32 (oa : Int)) := HS2.out.box.cell 5; have c6 : w10a.cell? ⟨w.heap.size, 6, none⟩ = some (.int .i64 oh) := HS2.out.box.cell 6; have c7 : w10a.cell? ⟨w.heap.size, 7, none⟩ = some (.int .u32 (oi : Int)) := HS2.out.box.cell 7; have c8 : w10a.cell? ⟨w.heap.size, 8, none⟩ = some (.bool fo) := HS2.out.box.cell 8)
          clear HSx hsx hlx
          have HLx : Hid ((jw [wordM 8, addrL p, Lib.decDigits a]).length ≤ 20000) := hide (by have := HL.out; unfold headM tailM at this; simpa using this)
          refine (lexTextB_any A5 3 m5 w.heap.size [wordM 8, addrL p, Lib.decDigits a] _ HS2.out.own (by omega) (by have := HLx.out; omega)).mono ?_
          rintro e wt ⟨rfl, hb⟩
          have HSt := hide (HS2.out.below hb)
          have hst := HSt.out.bel.size
          clear hb
          go_wp2_with (at_builtin; refine wpList_append_any _ rfl (.tmp 90) (.tmp 91) 37 rfl w.heap.size 9 i0 _ 1 16 Tryz.underlying37 hi hz0 hz1 hz2 rfl (by decide) (.slice (some ⟨wt.heap.size, 0, none⟩) 1 1) 1 _ rfl (own_oneS _ hst) 0 none 0 0 [] rfl Reads.none_ (by simp) (by unfold maxLen; omega) (by omega) (by simp; omega) ?_; intro v1 wz hown hgrow hat; obtain ⟨Az, cz, rfl⟩ := own_slice hown; have HOz := hide hown; have HBz : Hid (Below w.heap.size w wz) := hide (Below.grown (HSt.out.bel.alloc hst _) hgrow (by simp; omega) (fun k hk => by simp [Value.ownBlock] at hk; omega)); clear hown hgrow hat)
          go_ret
          have HFn : Hid (shownM ⟨8, p, (a : Int), b, t, oa, oh, oi, fo⟩ = [jw [wordM 8, addrL p, Lib.decDigits a]]) := hide (by simp [shownM, headM, tailM, behM])
          exact ⟨_, _, _, rfl, by rw [HFn.out]; rfl, by rw [HFn.out]; exact HOz.out, HBz.out⟩
        · have e8 : (k == 8) = false := by simpa using h8
          by_cases h9 : k = 9
          · subst h9
            obtain ⟨a, rfl⟩ : ∃ a : Nat, oh = (a : Int) := ⟨oh.toNat, by have := HG.out; unfold mvGood at this; simp at this; omega⟩
            have hwu : IntKind.u64.wrap (oa : Int) = (oa : Int) := by rw [IntKind.wrap_u64]; omega
            go_wp2_with (at_builtin; refine wpList_append_any _ rfl (.tmp 24) (.tmp 28) 37 rfl w.heap.size 9 i0 _ 1 16 Tryz.underlying37 hi hz0 hz1 hz2 rfl (by decide) (.slice (some ⟨w8.heap.size, 0, none⟩) 1 1) 1 _ rfl (HSx.out.own.alloc _) (w9.heap.size + 1) (some ⟨w9.heap.size, 0, none⟩) 1 1 [.string (str (addrL p))] rfl (reads_blkN (Blk.new _ _ _) (Nat.lt_succ_self _) rfl rfl) (by simp [Value.oneCell']) (by unfold maxLen; omega) (by omega) (by simp; omega) ?_; intro v1 w9a hown hgrow hat; obtain ⟨A4, m4, rfl⟩ := own_slice hown; have HS1 := hide (HSx.out.push rfl hown hgrow); clear hown hgrow hat; have hlw9 := HS1.out.box.lt; have c0 : w9a.cell? ⟨w.heap.size, 0, none⟩ = some (.int .i64 9) := HS1.out.box.cell 0; have c1 : w9a.cell? ⟨w.heap.size, 1, none⟩ = some (.int .u32 (p : Int)) := HS1.out.box.cell 1; have c2 : w9a.cell? ⟨w.heap.size, 2, none⟩ = some (.int .i64 nn) := HS1.out.box.cell 2; have c3 : w9a.cell? ⟨w.heap.size, 3, none⟩ = some (va) := HS1.out.box.cell 3; have c4 : w9a.cell? ⟨w.heap.size, 4, none⟩ = some (.string (str t)) := HS1.out.box.cell 4; have c5 : w9a.cell? ⟨w.heap.size, 5, none⟩ = some (.int .u32 (oa : Int)) := HS1.out.box.cell 5; have c6 : w9a.cell? ⟨w.heap.size, 6, none⟩ = some (.int .i64 (a : Int)) := HS1.out.box.cell 6; have c7 : w9a.cell? ⟨w.heap.size, 7, none⟩ = some (.int .u32 (oi : Int)) := HS1.out.box.cell 7; have c8 : w9a.cell? ⟨w.heap.size, 8, none⟩ = some (.bool fo) := HS1.out.box.cell 8)
            clear HSx hsx hlx
            have HS2 := hide HS1.out
            obtain ⟨w5b, hw5⟩ : ∃ x, w9a = x := ⟨_, rfl⟩
            rw [hw5] at HS1 HS2 c0 c1 c2 c3 c4 c5 c6 c7 c8 hlw9 ⊢
            clear hw5
            refine wp_region_relT 15 [(fun v _ => v = .slice A4 2 m4), (fun v _ => v = .pointer (some ⟨w.heap.size, 5, none⟩)), (fun v _ => v = .pointer (some ⟨w.heap.size, 5, none⟩)), (fun v _ => v = .int .u32 (oa : Int)), (fun v _ => v = .int .u64 (oa : Int)), (fun v _ => v = .string (str (Lib.decDigits oa))), (fun v _ => v = .pointer (some ⟨w.heap.size, 5, none⟩)), (fun v _ => v = .pointer (some ⟨w.heap.size, 6, none⟩)), (fun v _ => v = .int .i64 (a : Int)), (fun v _ => v = .string (str (Lib.decDigits a))), (fun v _ => v = .pointer (some ⟨w.heap.size, 5, none⟩)), (fun v _ => v = .pointer (some ⟨w.heap.size, 7, none⟩)), (fun v _ => v = .int .u32 (oi : Int)), (fun v _ => v = .string (str (addrL oi))), (fun v w => ∃ R, v = .slice (some ⟨R, 0, none⟩) 3 3 ∧ Blk w R 9 #[.string (str (Lib.decDigits oa)), .string (str (Lib.decDigits a)), .string (str (addrL oi))] ∧ w5b.heap.size ≤ R)] (by kernel_rfl) (by kernel_rfl) (by kernel_rfl) (by kernel_rfl) (by kernel_rfl) (relMono _ ⟨fun _ _ _ _ h => h, fun _ _ _ _ h => h, fun _ _ _ _ h => h, fun _ _ _ _ h => h, fun _ _ _ _ h => h, fun _ _ _ _ h => h, fun _ _ _ _ h => h, fun _ _ _ _ h => h, fun _ _ _ _ h => h, fun _ _ _ _ h => h, fun _ _ _ _ h => h, fun _ _ _ _ h => h, fun _ _ _ _ h => h, fun _ _ _ _ h => h, fun v w w2 hb ⟨R, e, h, h2⟩ => ⟨R, e, h.below hb h.lt, h2⟩, trivial⟩) ⟨?_, ?_, ?_, ?_, ?_, ?_, ?_, ?_, ?_, ?_, ?_, ?_, ?_, ?_, ?_, trivial⟩ ?_
            · refine relStep_plain rfl ?_
              intro Ac w5 hp
              have hb := hp.bel
              have a4 : Ac.eval (.tmp 4) = .slice A4 2 m4 := hp.out 4 (by rfl)
              have hc := evalC Ac; have hf := evalF Ac; have hgl := evalG Ac
              obtain ⟨ρ, hρ⟩ : ∃ ρ, Ac.eval = ρ := ⟨_, rfl⟩
              rw [hρ] at a4 hc hf hgl
              exact relPure hρ (.slice A4 2 m4) (by simp [go_sem, hc, hf, hgl, ↓IntWalk.iteOmega, a4, *]) rfl
            · refine relStep_plain rfl ?_
              intro Ac w5 hp
              have hb := hp.bel
              have a1 : Ac.eval (.tmp 1) = .pointer (some ⟨w.heap.size, 0, none⟩) := hp.out 1 (by rfl)
              have hc := evalC Ac; have hf := evalF Ac; have hgl := evalG Ac
              obtain ⟨ρ, hρ⟩ : ∃ ρ, Ac.eval = ρ := ⟨_, rfl⟩
              rw [hρ] at a1 hc hf hgl
              exact relPure hρ (.pointer (some ⟨w.heap.size, 5, none⟩)) (by simp [go_sem, hc, hf, hgl, ↓IntWalk.iteOmega, a1, *]) rfl
            · refine relStep_plain rfl ?_
              intro Ac w5 hp
              have hb := hp.bel
              have a51 : Ac.eval (.tmp 51) = .pointer (some ⟨w.heap.size, 5, none⟩) := hp.dep 1 (by kernel_rfl)
              have hc := evalC Ac; have hf := evalF Ac; have hgl := evalG Ac
              obtain ⟨ρ, hρ⟩ : ∃ ρ, Ac.eval = ρ := ⟨_, rfl⟩
              rw [hρ] at a51 hc hf hgl
              exact relPure hρ (.pointer (some ⟨w.heap.size, 5, none⟩)) (by simp [go_sem, hc, hf, hgl, ↓IntWalk.iteOmega, a51, *]) rfl
            · refine relStep_plain rfl ?_
              intro Ac w5 hp
              have hb := hp.bel
              have a52 : Ac.eval (.tmp 52) = .pointer (some ⟨w.heap.size, 5, none⟩) := hp.dep 2 (by kernel_rfl)
              have zz := HS2.out.box.below hb HS2.out.box.lt
              have z5 : w5.cell? ⟨w.heap.size, 5, none⟩ = some (.int .u32 (oa : Int)) := zz.cell 5
              have z6 : w5.cell? ⟨w.heap.size, 6, none⟩ = some (.int .i64 (a : Int)) := zz.cell 6
              have z7 : w5.cell? ⟨w.heap.size, 7, none⟩ = some (.int .u32 (oi : Int)) := zz.cell 7
              clear zz
              have hc := evalC Ac; have hf := evalF Ac; have hgl := evalG Ac
              obtain ⟨ρ, hρ⟩ : ∃ ρ, Ac.eval = ρ := ⟨_, rfl⟩
              rw [hρ] at a52 hc hf hgl
              exact relPure hρ (.int .u32 (oa : Int)) (by simp [go_sem, hc, hf, hgl, ↓IntWalk.iteOmega, a52, *]) rfl
            · refine relStep_plain rfl ?_
              intro Ac w5 hp
              have hb := hp.bel
              have a53 : Ac.eval (.tmp 53) = .int .u32 (oa : Int) := hp.dep 3 (by kernel_rfl)
              have hc := evalC Ac; have hf := evalF Ac; have hgl := evalG Ac
              obtain ⟨ρ, hρ⟩ : ∃ ρ, Ac.eval = ρ := ⟨_, rfl⟩
              rw [hρ] at a53 hc hf hgl
              exact relPure hρ (.int .u64 (oa : Int)) (by simp [go_sem, hc, hf, hgl, ↓IntWalk.iteOmega, a53, *]) rfl
            · refine relStep_plain rfl ?_
              intro Ac w5 hp
              have hb := hp.bel
              have a54 : Ac.eval (.tmp 54) = .int .u64 (oa : Int) := hp.dep 4 (by kernel_rfl)
              have hc := evalC Ac; have hf := evalF Ac; have hgl := evalG Ac
              obtain ⟨ρ, hρ⟩ : ∃ ρ, Ac.eval = ρ := ⟨_, rfl⟩
              rw [hρ] at a54 hc hf hgl
              refine relCall hρ 48 #[.int .u64 (oa : Int), .int .i64 10] (by simp [go_sem, hc, hf, hgl, ↓IntWalk.iteOmega, a54, *]) ?_
              refine (fmtU_any oa (by omega) w5 (HEn.out.tab.below (below2 HS2.out.bel hb))).mono ?_
              rintro e w6 ⟨rfl, hb6⟩
              exact ⟨_, rfl, rfl, hb6⟩
            · refine relStep_plain rfl ?_
              intro Ac w5 hp
              have hb := hp.bel
              have a1 : Ac.eval (.tmp 1) = .pointer (some ⟨w.heap.size, 0, none⟩) := hp.out 1 (by rfl)
              have hc := evalC Ac; have hf := evalF Ac; have hgl := evalG Ac
              obtain ⟨ρ, hρ⟩ : ∃ ρ, Ac.eval = ρ := ⟨_, rfl⟩
              rw [hρ] at a1 hc hf hgl
              exact relPure hρ (.pointer (some ⟨w.heap.size, 5, none⟩)) (by simp [go_sem, hc, hf, hgl, ↓IntWalk.iteOmega, a1, *]) rfl
            · refine relStep_plain rfl ?_
              intro Ac w5 hp
              have hb := hp.bel
              have a56 : Ac.eval (.tmp 56) = .pointer (some ⟨w.heap.size, 5, none⟩) := hp.dep 6 (by kernel_rfl)
              have hc := evalC Ac; have hf := evalF Ac; have hgl := evalG Ac
              obtain ⟨ρ, hρ⟩ : ∃ ρ, Ac.eval = ρ := ⟨_, rfl⟩
              rw [hρ] at a56 hc hf hgl
              exact relPure hρ (.pointer (some ⟨w.heap.size, 6, none⟩)) (by simp [go_sem, hc, hf, hgl, ↓IntWalk.iteOmega, a56, *]) rfl
            · refine relStep_plain rfl ?_
              intro Ac w5 hp
              have hb := hp.bel
              have a57 : Ac.eval (.tmp 57) = .pointer (some ⟨w.heap.size, 6, none⟩) := hp.dep 7 (by kernel_rfl)
              have zz := HS2.out.box.below hb HS2.out.box.lt
              have z5 : w5.cell? ⟨w.heap.size, 5, none⟩ = some (.int .u32 (oa : Int)) := zz.cell 5
              have z6 : w5.cell? ⟨w.heap.size, 6, none⟩ = some (.int .i64 (a : Int)) := zz.cell 6
              have z7 : w5.cell? ⟨w.heap.size, 7, none⟩ = some (.int .u32 (oi : Int)) := zz.cell 7
              clear zz
              have hc := evalC Ac; have hf := evalF Ac; have hgl := evalG Ac
              obtain ⟨ρ, hρ⟩ : ∃ ρ, Ac.eval = ρ := ⟨_, rfl⟩
              rw [hρ] at a57 hc hf hgl
              exact relPure hρ (.int .i64 (a : Int)) (by simp [go_sem, hc, hf, hgl, ↓IntWalk.iteOmega, a57, *]) rfl
            · refine relStep_plain rfl ?_
              intro Ac w5 hp
              have hb := hp.bel
              have a58 : Ac.eval (.tmp 58) = .int .i64 (a : Int) := hp.dep 8 (by kernel_rfl)
              have hc := evalC Ac; have hf := evalF Ac; have hgl := evalG Ac
              obtain ⟨ρ, hρ⟩ : ∃ ρ, Ac.eval = ρ := ⟨_, rfl⟩
              rw [hρ] at a58 hc hf hgl
              refine relCall hρ 47 #[.int .i64 (a : Int)] (by simp [go_sem, hc, hf, hgl, ↓IntWalk.iteOmega, a58, *]) ?_
              refine (itoa_any a (by omega) w5 (HEn.out.tab.below (below2 HS2.out.bel hb))).mono ?_
              rintro e w6 ⟨rfl, hb6⟩
              exact ⟨_, rfl, rfl, hb6⟩
            · refine relStep_plain rfl ?_
              intro Ac w5 hp
              have hb := hp.bel
              have a1 : Ac.eval (.tmp 1) = .pointer (some ⟨w.heap.size, 0, none⟩) := hp.out 1 (by rfl)
              have hc := evalC Ac; have hf := evalF Ac; have hgl := evalG Ac
              obtain ⟨ρ, hρ⟩ : ∃ ρ, Ac.eval = ρ := ⟨_, rfl⟩
              rw [hρ] at a1 hc hf hgl
              exact relPure hρ (.pointer (some ⟨w.heap.size, 5, none⟩)) (by simp [go_sem, hc, hf, hgl, ↓IntWalk.iteOmega, a1, *]) rfl
            · refine relStep_plain rfl ?_
              intro Ac w5 hp
              have hb := hp.bel
              have a60 : Ac.eval (.tmp 60) = .pointer (some ⟨w.heap.size, 5, none⟩) := hp.dep 10 (by kernel_rfl)
              have hc := evalC Ac; have hf := evalF Ac; have hgl := evalG Ac
              obtain ⟨ρ, hρ⟩ : ∃ ρ, Ac.eval = ρ := ⟨_, rfl⟩
              rw [hρ] at a60 hc hf hgl
              exact relPure hρ (.pointer (some ⟨w.heap.size, 7, none⟩)) (by simp [go_sem, hc, hf, hgl, ↓IntWalk.iteOmega, a60, *]) rfl
            · refine relStep_plain rfl ?_
              intro Ac w5 hp
              have hb := hp.bel
              have a61 : Ac.eval (.tmp 61) = .pointer (some ⟨w.heap.size, 7, none⟩) := hp.dep 11 (by kernel_rfl)
              have zz := HS2.out.box.below hb HS2.out.box.lt
              have z5 : w5.cell? ⟨w.heap.size, 5, none⟩ = some (.int .u32 (oa : Int)) := zz.cell 5
              have z6 : w5.cell? ⟨w.heap.size, 6, none⟩ = some (.int .i64 (a : Int)) := zz.cell 6
              have z7 : w5.cell? ⟨w.heap.size, 7, none⟩ = some (.int .u32 (oi : Int)) := zz.cell 7
              clear zz
              have hc := evalC Ac; have hf := evalF Ac; have hgl := evalG Ac
              obtain ⟨ρ, hρ⟩ : ∃ ρ, Ac.eval = ρ := ⟨_, rfl⟩
              rw [hρ] at a61 hc hf hgl
              exact relPure hρ (.int .u32 (oi : Int)) (by simp [go_sem, hc, hf, hgl, ↓IntWalk.iteOmega, a61, *]) rfl
            · refine relStep_plain rfl ?_
              intro Ac w5 hp
              have hb := hp.bel
              have a62 : Ac.eval (.tmp 62) = .int .u32 (oi : Int) := hp.dep 12 (by kernel_rfl)
              have hc := evalC Ac; have hf := evalF Ac; have hgl := evalG Ac
              obtain ⟨ρ, hρ⟩ : ∃ ρ, Ac.eval = ρ := ⟨_, rfl⟩
              rw [hρ] at a62 hc hf hgl
              refine relCall hρ 46 #[.int .u32 (oi : Int)] (by simp [go_sem, hc, hf, hgl, ↓IntWalk.iteOmega, a62, *]) ?_
              refine (Addr_any oi (by omega) w5 (HEn.out.tab.below (below2 HS2.out.bel hb))).mono ?_
              rintro e w6 ⟨rfl, hb6⟩
              exact ⟨_, rfl, rfl, hb6⟩
            · refine relStep_plain rfl ?_
              intro Ac w5 hp
              have hb := hp.bel
              have a55 : Ac.eval (.tmp 55) = .string (str (Lib.decDigits oa)) := hp.dep 5 (by kernel_rfl)
              have a59 : Ac.eval (.tmp 59) = .string (str (Lib.decDigits a)) := hp.dep 9 (by kernel_rfl)
              have a63 : Ac.eval (.tmp 63) = .string (str (addrL oi)) := hp.dep 13 (by kernel_rfl)
              have hc := evalC Ac; have hf := evalF Ac; have hgl := evalG Ac
              obtain ⟨ρ, hρ⟩ : ∃ ρ, Ac.eval = ρ := ⟨_, rfl⟩
              rw [hρ] at a55 a59 a63 hc hf hgl
              exact relVal hρ (.slice (some ⟨w5.heap.size, 0, none⟩) 3 3) (w5.alloc (.cells #[.string (str (Lib.decDigits oa)), .string (str (Lib.decDigits a)), .string (str (addrL oi))] 9)) (by simp [go_sem, hc, hf, hgl, ↓IntWalk.iteOmega, a55, a59, a63, *]) ⟨_, rfl, Blk.new w5 _ _, hb.size⟩ ((Below.refl _ _).alloc (Nat.le_refl _) _)
            intro u w8b hb7 hall
            have e50 : u 0 = .slice A4 2 m4 := relAll_at hall (i := 0) (by decide +kernel)
            obtain ⟨R64, e64, hR64, hRb64⟩ := relAll_at hall (i := 14) (by decide +kernel)
            change u 14 = _ at e64
            clear hall
            simp only [List.drop_succ_cons, List.drop_zero, List.take_succ_cons, List.take_zero, putAll, Act.put, List.setIfInBounds_toArray, List.set_cons_zero, List.set_cons_succ, Nat.zero_add, Nat.reduceAdd, e50, e64]
            have HS3 := hide (HS2.out.below hb7)
            have hs3 := HS3.out.bel.size
            have hl3 := HS3.out.box.lt
            clear c0 c1 c2 c3 c4 c5 c6 c7 c8
            go_wp2_with (at_builtin; refine wpList_append_any _ rfl (.tmp 50) (.tmp 64) 37 rfl w.heap.size 9 i0 _ 1 16 Tryz.underlying37 hi hz0 hz1 hz2 rfl (by decide) (.slice A4 2 m4) 2 _ rfl HS3.out.own w8b.heap.size (some ⟨R64, 0, none⟩) 3 3 [.string (str (Lib.decDigits oa)), .string (str (Lib.decDigits a)), .string (str (addrL oi))] rfl (reads_blkN hR64 hR64.lt rfl rfl) (by simp [Value.oneCell']) (by unfold maxLen; omega) (by omega) (by omega) ?_; intro v1 w11 hown hgrow hat; obtain ⟨A5, m5, rfl⟩ := own_slice hown; have HS4 := hide (HS3.out.push3 rfl hown hgrow); clear hown hgrow hat)
            have HLx : Hid ((jw [wordM 9, addrL p, Lib.decDigits oa, Lib.decDigits a, addrL oi]).length ≤ 20000) := hide (by have := HL.out; unfold headM tailM at this; simpa using this)
            refine (lexTextB_any A5 5 m5 w.heap.size [wordM 9, addrL p, Lib.decDigits oa, Lib.decDigits a, addrL oi] _ HS4.out.own (by omega) (by have := HLx.out; omega)).mono ?_
            rintro e wt ⟨rfl, hb⟩
            have HSt := hide (HS4.out.below hb)
            have hst := HSt.out.bel.size
            clear hb
            go_wp2_with (at_builtin; refine wpList_append_any _ rfl (.tmp 90) (.tmp 91) 37 rfl w.heap.size 9 i0 _ 1 16 Tryz.underlying37 hi hz0 hz1 hz2 rfl (by decide) (.slice (some ⟨wt.heap.size, 0, none⟩) 1 1) 1 _ rfl (own_oneS _ hst) 0 none 0 0 [] rfl Reads.none_ (by simp) (by unfold maxLen; omega) (by omega) (by simp; omega) ?_; intro v1 wz hown hgrow hat; obtain ⟨Az, cz, rfl⟩ := own_slice hown; have HOz := hide hown; have HBz : Hid (Below w.heap.size w wz) := hide (Below.grown (HSt.out.bel.alloc hst _) hgrow (by simp; omega) (fun k hk => by simp [Value.ownBlock] at hk; omega)); clear hown hgrow hat)
            go_ret
            have HFn : Hid (shownM ⟨9, p, nn, b, t, oa, (a : Int), oi, fo⟩ = [jw [wordM 9, addrL p, Lib.decDigits oa, Lib.decDigits a, addrL oi]]) := hide (by simp [shownM, headM, tailM, behM])
            exact ⟨_, _, _, rfl, by rw [HFn.out]; rfl, by rw [HFn.out]; exact HOz.out, HBz.out⟩
          · have e9 : (k == 9) = false := by simpa using h9
            have HLx : Hid ((jw [wordM k, addrL p]).length ≤ 20000) := hide (by have := HL.out; unfold headM tailM at this; simpa [h5, h6, h7, h8, h9] using this)
            have HFn : Hid (shownM ⟨k, p, nn, b, t, oa, oh, oi, fo⟩ = [jw [wordM k, addrL p]]) := hide (by simp [shownM, headM, tailM, behM, h5, h6, h7, h8, h9])
            clear h5 h6 h7 h8 h9
            go_wp2_with (at_builtin; refine wpList_append_any _ rfl (.tmp 24) (.tmp 28) 37 rfl w.heap.size 9 i0 _ 1 16 Tryz.underlying37 hi hz0 hz1 hz2 rfl (by decide) (.slice (some ⟨w8.heap.size, 0, none⟩) 1 1) 1 _ rfl (HSx.out.own.alloc _) (w9.heap.size + 1) (some ⟨w9.heap.size, 0, none⟩) 1 1 [.string (str (addrL p))] rfl (reads_blkN (Blk.new _ _ _) (Nat.lt_succ_self _) rfl rfl) (by simp [Value.oneCell']) (by unfold maxLen; omega) (by omega) (by simp; omega) ?_; intro v1 w9a hown hgrow hat; obtain ⟨A4, m4, rfl⟩ := own_slice hown; have HS1 := hide (HSx.out.push rfl hown hgrow); clear hown hgrow hat; have hlw9 := HS1.out.box.lt; have c0 : w9a.cell? ⟨w.heap.size, 0, none⟩ = some (.int .i64 k) := HS1.out.box.cell 0; have c1 : w9a.cell? ⟨w.heap.size, 1, none⟩ = some (.int .u32 (p : Int)) := HS1.out.box.cell 1; have c2 : w9a.cell? ⟨w.heap.size, 2, none⟩ = some (.int .i64 nn) := HS1.out.box.cell 2; have c3 : w9a.cell? ⟨w.heap.size, 3, none⟩ = some (va) := HS1.out.box.cell 3; have c4 : w9a.cell? ⟨w.heap.size, 4, none⟩ = some (.string (str t)) := HS1.out.box.cell 4; have c5 : w9a.cell? ⟨w.heap.size, 5, none⟩ = some (.int .u32 (oa : Int)) := HS1.out.box.cell 5; have c6 : w9a.cell? ⟨w.heap.size, 6, none⟩ = some (.int .i64 oh) := HS1.out.box.cell 6; have c7 : w9a.cell? ⟨w.heap.size, 7, none⟩ = some (.int .u32 (oi : Int)) := HS1.out.box.cell 7; have c8 : w9a.cell? ⟨w.heap.size, 8, none⟩ = some (.bool fo) := HS1.out.box.cell 8)
            clear HSx hsx hlx
            refine (lexTextB_any A4 2 m4 w.heap.size [wordM k, addrL p] _ HS1.out.own (by omega) (by have := HLx.out; omega)).mono ?_
            rintro e wt ⟨rfl, hb⟩
            have HSt := hide (HS1.out.below hb)
            have hst := HSt.out.bel.size
            clear hb
            go_wp2_with (at_builtin; refine wpList_append_any _ rfl (.tmp 90) (.tmp 91) 37 rfl w.heap.size 9 i0 _ 1 16 Tryz.underlying37 hi hz0 hz1 hz2 rfl (by decide) (.slice (some ⟨wt.heap.size, 0, none⟩) 1 1) 1 _ rfl (own_oneS _ hst) 0 none 0 0 [] rfl Reads.none_ (by simp) (by unfold maxLen; omega) (by omega) (by simp; omega) ?_; intro v1 wz hown hgrow hat; obtain ⟨Az, cz, rfl⟩ := own_slice hown; have HOz := hide hown; have HBz : Hid (Below w.heap.size w wz) := hide (Below.grown (HSt.out.bel.alloc hst _) hgrow (by simp; omega) (fun k hk => by simp [Value.ownBlock] at hk; omega)); clear hown hgrow hat)
            go_ret
            exact ⟨_, _, _, rfl, by rw [HFn.out]; rfl, by rw [HFn.out]; exact HOz.out, HBz.out⟩
end Go.Proofs.YtlfknndpbejbcaaGreatDoor
set_option linter.unusedSimpArgs false
set_option linter.unusedVariables false
namespace Go.Proofs.YtlfknndpbejbcaaGreatDoor
open Go.RowKit Go.WideShapes Go.ChangeShapes
attribute [local go_sem] Oper.semAt_some
theorem StrsAt.take_ {w : World} {A : Option Addr} {n c : Nat} {l : List ByteArray} (h : StrsAt w A n c l) {m : Nat} (hm : m ≤ n) : StrsAt w A m c (l.take m) := by
  refine ⟨by rw [List.length_take, h.1]; omega, by have := h.2.1; omega, h.2.2.1, fun x hx => h.2.2.2.1 x (List.mem_of_mem_take hx), fun hn => ?_⟩
  obtain ⟨g, o, hA, hg, hc⟩ := h.2.2.2.2 (by omega)
  refine ⟨g, o, hA, hg, fun k x hk => hc k x ?_⟩
  rw [List.getElem?_take] at hk
  split at hk
  · exact hk
  · cases hk
theorem StrsAt.drop_ {w : World} {A : Option Addr} {g o n c : Nat} {l : List ByteArray} (h : StrsAt w (some ⟨g, o, none⟩) n c l) {k : Nat} (hk : k ≤ n) (hA : k < n → A = some ⟨g, o + k, none⟩) : StrsAt w A (n - k) (c - k) (l.drop k) := by
  refine ⟨by rw [List.length_drop, h.1], by have := h.2.1; omega, by have := h.2.2.1; omega, fun x hx => h.2.2.2.1 x (List.mem_of_mem_drop hx), fun hn => ?_⟩
  obtain ⟨g2, o2, hA2, hg, hc⟩ := h.2.2.2.2 (by omega)
  cases hA2
  refine ⟨g, o + k, hA (by omega), hg, fun i x hi => ?_⟩
  rw [List.getElem?_drop] at hi
  have := hc _ x hi
  rwa [← Nat.add_assoc] at this
theorem moveP_t (line : List UInt8) : (moveP line).1.t = [] := by
  unfold moveP
  simp only
  split
  · rfl
  · split
    · rfl
    · split
      · rfl
      · split
        · rfl
        · split <;> rfl
theorem linesM_each (t : List UInt8) : ∀ x ∈ linesM t, x.length ≤ t.length := fun x hx => pieces_each 10 t x (List.dropLast_subset _ hx)
theorem shown_lens {m : MV} (ok : MvOk m) (hg : mvGood m = true) : ∀ x ∈ shownM m, x.length ≤ 200000 := by
  intro x hx
  have h0 := head_len ok hg
  unfold shownM behM at hx
  rcases List.mem_cons.1 hx with rfl | hx
  · omega
  · split at hx
    · rename_i h7
      obtain ⟨y, hy, rfl⟩ := List.mem_map.1 hx
      have h1 := linesM_each _ y hy
      unfold mvGood at hg
      rw [h7] at hg
      simp at hg
      simp; omega
    · cases hx
theorem trimP_len (x p : List UInt8) : (Lib.trimPrefix x p).length ≤ x.length := by
  unfold Lib.trimPrefix
  split
  · simp
  · exact Nat.le_refl _
theorem joinB_len : ∀ l : List (List UInt8), (joinB l).length ≤ (feedT l).length
  | [] => by simp [joinB]
  | x :: l => by
    have ih := joinB_len l
    have := trimP_len x [124]
    unfold joinB feedT at ih ⊢
    simp only [List.flatMap_cons, List.length_append, List.length_cons, List.length_nil]
    omega
theorem joinB_snoc (l : List (List UInt8)) (x : List UInt8) : joinB (l ++ [x]) = joinB l ++ (Lib.trimPrefix x [124] ++ [10]) := by simp [joinB]
theorem feedT_take (l : List (List UInt8)) (k : Nat) : (feedT (l.take k)).length ≤ (feedT l).length := by
  conv => rhs; rw [← List.take_append_drop k l]
  unfold feedT
  rw [List.flatMap_append, List.length_append]
  omega
theorem feedT_drop (l : List (List UInt8)) (k : Nat) : (feedT (l.drop k)).length ≤ (feedT l).length := by
  conv => rhs; rw [← List.take_append_drop k l]
  unfold feedT
  rw [List.flatMap_append, List.length_append]
  omega
theorem feedT_cons_len (y : List UInt8) (l : List (List UInt8)) : (feedT (y :: l)).length = y.length + 1 + (feedT l).length := by
  unfold feedT
  rw [List.flatMap_cons, List.length_append, List.length_append]
  rfl
theorem feedT_mem {l : List (List UInt8)} {x : List UInt8} (h : x ∈ l) : x.length < (feedT l).length := by
  induction l with
  | nil => cases h
  | cons y l ih =>
    rw [feedT_cons_len]
    rcases List.mem_cons.1 h with rfl | h
    · omega
    · have := ih h
      omega
theorem feedT_num : ∀ l : List (List UInt8), l.length ≤ (feedT l).length
  | [] => by simp
  | x :: l => by
    have ih := feedT_num l
    rw [feedT_cons_len, List.length_cons]
    omega
theorem strs_dec (a b : List (List UInt8)) : decide (a.map str = b.map str) = decide (a = b) := by
  rw [decide_eq_decide]
  constructor
  · intro h
    exact (List.map_inj_right (fun x y e => str_inj e)).1 h
  · rintro rfl; rfl
structure NxSt (w W : World) (g5 : Nat) (m : MV) (v : Value) : Prop where
  res : Blk W w.heap.size 32 #[.int .i64 0, .int .u32 0, .int .i64 0, .slice none 0 0, .string ⟨#[]⟩, .int .u32 0, .int .i64 0, .int .u32 0, .bool false]
  mb : Blk W g5 32 (mvC m v).toArray
  own : W.ownsRow (w.heap.size + 1) 5 1 v m.b.length (byB m.b)
  bel : Below w.heap.size w W
  lt : w.heap.size < g5
theorem NxSt.below {w W W' : World} {g5 : Nat} {m : MV} {v : Value} (h : NxSt w W g5 m v) (hb : Below W.heap.size W W') : NxSt w W' g5 m v :=
  ⟨h.res.below hb h.res.lt, h.mb.below hb h.mb.lt, own_below h.own hb, h.bel.trans (hb.mono h.bel.size), h.lt⟩
theorem NxSt.set_ {w W : World} {g5 : Nat} {m m' : MV} {v : Value} (h : NxSt w W g5 m v) (i : Nat) (u : Value) (he : (mvC m v).toArray.setIfInBounds i u = (mvC m' v).toArray) (hm : m'.b = m.b) : NxSt w (W.setCell ⟨g5, i, none⟩ u) g5 m' v :=
  ⟨h.res.far (by show w.heap.size ≠ g5; have := h.lt; omega) _, he ▸ h.mb.set_ i u, by rw [hm]; exact own_set h.own (own_blk_ne h.own h.mb (by decide)) u, h.bel.setCell (p := ⟨g5, i, none⟩) (by show w.heap.size ≤ g5; have := h.lt; omega) u, h.lt⟩
/-- .. without the result's box. -/
structure NxB (w W : World) (g5 : Nat) (m : MV) (v : Value) : Prop where
  mb : Blk W g5 32 (mvC m v).toArray
  own : W.ownsRow (w.heap.size + 1) 5 1 v m.b.length (byB m.b)
  bel : Below w.heap.size w W
  lt : w.heap.size < g5
theorem NxSt.b {w W : World} {g5 : Nat} {m : MV} {v : Value} (h : NxSt w W g5 m v) : NxB w W g5 m v := ⟨h.mb, h.own, h.bel, h.lt⟩
theorem NxB.below {w W W' : World} {g5 : Nat} {m : MV} {v : Value} (h : NxB w W g5 m v) (hb : Below W.heap.size W W') : NxB w W' g5 m v :=
  ⟨h.mb.below hb h.mb.lt, own_below h.own hb, h.bel.trans (hb.mono h.bel.size), h.lt⟩
theorem NxB.grown {w W W' : World} {g5 : Nat} {m : MV} {v : Value} (h : NxB w W g5 m v) (hg : W.grownBy W' (some w.heap.size)) : NxB w W' g5 m v :=
  ⟨h.mb.grown hg (by have := h.lt; simp; omega), h.own.kept hg (.inr (fun e => by have := own_low_block h.own _ e; omega)), h.bel.trans (below_of hg (Nat.le_refl _) h.bel.size), h.lt⟩
theorem NxB.drew {w W : World} {g5 : Nat} {m : MV} {v : Value} (h : NxB w W g5 m v) : NxB w W.drew g5 m v := h.below ⟨rfl, rfl, rfl, Nat.le_refl _, fun _ _ => rfl⟩
/-- The result's box, filled. -/
structure NxF (w W : World) (m : MV) (v : Value) : Prop where
  res : Blk W w.heap.size 32 (mvC m v).toArray
  own : W.ownsRow (w.heap.size + 1) 5 1 v m.b.length (byB m.b)
  bel : Below w.heap.size w W
theorem NxF.below {w W W' : World} {m : MV} {v : Value} (h : NxF w W m v) (hb : Below W.heap.size W W') : NxF w W' m v :=
  ⟨h.res.below hb h.res.lt, own_below h.own hb, h.bel.trans (hb.mono h.bel.size)⟩
theorem exec_store {P : Program} {ρ : Operand → Value} {o : Oper} {t : TypeId} {a v : Operand} (ho : o.op = .store t a v) {x y : Value} (ha : ρ a = x) (hv : ρ v = y) {w w' : World} (h : (Instr.storeAt t x y).run P w = .ok () w') : (execOp ρ o).run P w = .ok .skip w' := by
  unfold execOp
  rw [ho]
  simp only [ha, hv, Sem.run_bind, h, Result.andThen_ok]
  rfl
/-- A move put into a box. -/
def setMv (w : World) (R : Nat) (m : MV) (v : Value) : World := (((((((((w.setCell ⟨R, 0, none⟩ (.int .i64 m.k)).setCell ⟨R, 1, none⟩ (.int .u32 (m.p : Int))).setCell ⟨R, 2, none⟩ (.int .i64 m.n)).setCell ⟨R, 3, none⟩ (v)).setCell ⟨R, 4, none⟩ (.string (str m.t))).setCell ⟨R, 5, none⟩ (.int .u32 (m.oa : Int))).setCell ⟨R, 6, none⟩ (.int .i64 m.oh)).setCell ⟨R, 7, none⟩ (.int .u32 (m.oi : Int))).setCell ⟨R, 8, none⟩ (.bool m.fo))
set_option maxHeartbeats 1000000 in
theorem store_move (w : World) (R : Nat) (m : MV) (A : Option Addr) (n c : Nat) (h : Blk w R 32 #[.int .i64 0, .int .u32 0, .int .i64 0, .slice none 0 0, .string ⟨#[]⟩, .int .u32 0, .int .i64 0, .int .u32 0, .bool false]) :
    (Instr.storeAt 32 (.pointer (some ⟨R, 0, none⟩)) (mvV m (.slice A n c))).run Tryz.prog w = .ok () (setMv w R m (.slice A n c)) := by
  have r0 : w.cell? ⟨R, 0, none⟩ = some (.int .i64 0) := h.cell 0
  have rf0 := h.frozen 0
  have r1 : w.cell? ⟨R, 1, none⟩ = some (.int .u32 0) := h.cell 1
  have rf1 := h.frozen 1
  have r2 : w.cell? ⟨R, 2, none⟩ = some (.int .i64 0) := h.cell 2
  have rf2 := h.frozen 2
  have r3 : w.cell? ⟨R, 3, none⟩ = some (.slice none 0 0) := h.cell 3
  have rf3 := h.frozen 3
  have r4 : w.cell? ⟨R, 4, none⟩ = some (.string ⟨#[]⟩) := h.cell 4
  have rf4 := h.frozen 4
  have r5 : w.cell? ⟨R, 5, none⟩ = some (.int .u32 0) := h.cell 5
  have rf5 := h.frozen 5
  have r6 : w.cell? ⟨R, 6, none⟩ = some (.int .i64 0) := h.cell 6
  have rf6 := h.frozen 6
  have r7 : w.cell? ⟨R, 7, none⟩ = some (.int .u32 0) := h.cell 7
  have rf7 := h.frozen 7
  have r8 : w.cell? ⟨R, 8, none⟩ = some (.bool false) := h.cell 8
  have rf8 := h.frozen 8
  clear h
  unfold mvV setMv
  simp [go_sem, *]
theorem setMv_blk {w : World} {R : Nat} {m : MV} {v : Value} (h : Blk w R 32 #[.int .i64 0, .int .u32 0, .int .i64 0, .slice none 0 0, .string ⟨#[]⟩, .int .u32 0, .int .i64 0, .int .u32 0, .bool false]) : Blk (setMv w R m v) R 32 (mvC m v).toArray := by
  have := (((((((((h.set_ 0 (.int .i64 m.k)).set_ 1 (.int .u32 (m.p : Int))).set_ 2 (.int .i64 m.n)).set_ 3 (v)).set_ 4 (.string (str m.t))).set_ 5 (.int .u32 (m.oa : Int))).set_ 6 (.int .i64 m.oh)).set_ 7 (.int .u32 (m.oi : Int))).set_ 8 (.bool m.fo))
  unfold setMv mvC
  simpa using this
theorem setMv_own {w : World} {R base e size n : Nat} {m : MV} {v u : Value} {xs : List Value} (h : w.ownsRow base e size u n xs) (hne : u.ownBlock ≠ some R) : (setMv w R m v).ownsRow base e size u n xs := by
  unfold setMv
  exact (own_set (g := R) (i := 8) (own_set (g := R) (i := 7) (own_set (g := R) (i := 6) (own_set (g := R) (i := 5) (own_set (g := R) (i := 4) (own_set (g := R) (i := 3) (own_set (g := R) (i := 2) (own_set (g := R) (i := 1) (own_set (g := R) (i := 0) h hne (.int .i64 m.k)) hne (.int .u32 (m.p : Int))) hne (.int .i64 m.n)) hne (v)) hne (.string (str m.t))) hne (.int .u32 (m.oa : Int))) hne (.int .i64 m.oh)) hne (.int .u32 (m.oi : Int))) hne (.bool m.fo))
theorem setMv_below {w a : World} {R B : Nat} {m : MV} {v : Value} (h : Below B a w) (hR : B ≤ R) : Below B a (setMv w R m v) := by
  unfold setMv
  exact (((((((((h.setCell (p := ⟨R, 0, none⟩) hR (.int .i64 m.k)).setCell (p := ⟨R, 1, none⟩) hR (.int .u32 (m.p : Int))).setCell (p := ⟨R, 2, none⟩) hR (.int .i64 m.n)).setCell (p := ⟨R, 3, none⟩) hR (v)).setCell (p := ⟨R, 4, none⟩) hR (.string (str m.t))).setCell (p := ⟨R, 5, none⟩) hR (.int .u32 (m.oa : Int))).setCell (p := ⟨R, 6, none⟩) hR (.int .i64 m.oh)).setCell (p := ⟨R, 7, none⟩) hR (.int .u32 (m.oi : Int))).setCell (p := ⟨R, 8, none⟩) hR (.bool m.fo))
theorem setMv_grown {w : World} {R : Nat} {m : MV} {v : Value} : w.grownBy (setMv w R m v) (some R) := by
  unfold setMv
  exact (only_setCell (p := ⟨R, 8, none⟩) (only_setCell (p := ⟨R, 7, none⟩) (only_setCell (p := ⟨R, 6, none⟩) (only_setCell (p := ⟨R, 5, none⟩) (only_setCell (p := ⟨R, 4, none⟩) (only_setCell (p := ⟨R, 3, none⟩) (only_setCell (p := ⟨R, 2, none⟩) (only_setCell (p := ⟨R, 1, none⟩) (only_setCell (p := ⟨R, 0, none⟩) (only_of_below (Below.refl _ w) (some R)) (.inl rfl) (.int .i64 m.k)) (.inl rfl) (.int .u32 (m.p : Int))) (.inl rfl) (.int .i64 m.n)) (.inl rfl) (v)) (.inl rfl) (.string (str m.t))) (.inl rfl) (.int .u32 (m.oa : Int))) (.inl rfl) (.int .i64 m.oh)) (.inl rfl) (.int .u32 (m.oi : Int))) (.inl rfl) (.bool m.fo))
def NextP (ls : List (List UInt8)) (w : World) (e : Ending) (w' : World) : Prop := ∃ (M : MV) (A : Option Addr) (c N : Nat), e = .returned (.tuple #[mvV M (.slice A M.b.length c), .int .i64 (N : Int), .bool (nextP ls).isSome]) ∧ (∀ m k, nextP ls = some (m, k) → M = m ∧ N = k) ∧ w'.ownsRow w.heap.size 5 1 (.slice A M.b.length c) M.b.length (byB M.b) ∧ Below w.heap.size w w'
set_option maxRecDepth 100000 in
set_option maxHeartbeats 16000000 in
theorem next_any (g o n c : Nat) (ls : List (List UInt8)) (w : World) (h : StrsAt w (some ⟨g, o, none⟩) n c (ls.map str)) (hn : 0 < n) (hl : (feedT ls).length ≤ 100000) (he : Env w) (ht : SpTab w) :
    Calls Tryz.prog 26 #[.slice (some ⟨g, o, none⟩) n c] w (NextP ls w) := by
  obtain ⟨i0, hi, hz0, hz1, hz2⟩ := info_parts infoStr
  have hln : ls.length = n := by have := h.1; rwa [List.length_map] at this
  have hm := h.2.2.1
  have hnc := h.2.1
  unfold maxLen at hm
  obtain ⟨g9, o9, x0, hA9, hg9, hx0, _, hc0⟩ := h.at_ (k := 0) hn
  cases hA9
  have hnum := feedT_num ls
  obtain ⟨l0, r0, hls⟩ : ∃ l0 r0, ls = l0 :: r0 := by
    cases ls with
    | nil => simp at hln; omega
    | cons a r => exact ⟨a, r, rfl⟩
  have hx0b : x0 = str l0 := by rw [hls] at hx0; simp at hx0; exact hx0.symm
  have hl0 : l0.length ≤ 100000 := by have := feedT_mem (l := ls) (x := l0) (by rw [hls]; simp); omega
  have k0 : w.cell? ⟨g, o, none⟩ = some (.string (str l0)) := by rw [← hx0b]; simpa using hc0
  have hB0 : Below w.heap.size w (w.alloc (.cells #[.int .i64 0, .int .u32 0, .int .i64 0, .slice none 0 0, .string ⟨#[]⟩, .int .u32 0, .int .i64 0, .int .u32 0, .bool false] 32)) := (Below.refl _ w).alloc (Nat.le_refl _) _
  have HMv := hide (move_any l0 hl0 _ (he.below hB0) (ht.below hB0))
  have HB0 := hide hB0
  have HR0 : Hid (Blk (w.alloc (.cells #[.int .i64 0, .int .u32 0, .int .i64 0, .slice none 0 0, .string ⟨#[]⟩, .int .u32 0, .int .i64 0, .int .u32 0, .bool false] 32)) w.heap.size 32 #[.int .i64 0, .int .u32 0, .int .i64 0, .slice none 0 0, .string ⟨#[]⟩, .int .u32 0, .int .i64 0, .int .u32 0, .bool false]) := hide (Blk.new w _ _)
  have HLs := hide h
  have HEn := hide he
  have HTb := hide ht
  have hmt := moveP_t l0
  have HNx : Hid (nextP ls = if ls.length ≤ (moveP l0).2 then none else if mvGood (fullM ls) && decide (shownM (fullM ls) = ls.take ((moveP l0).2 + 1)) then some (fullM ls, (moveP l0).2 + 1) else none) := hide (by unfold nextP; rw [hls]; rfl)
  have HFu : Hid (fullM ls = { (moveP l0).1 with t := joinB ((ls.drop 1).take (moveP l0).2) }) := hide (by unfold fullM; rw [hls]; rfl)
  obtain ⟨M0, hM0⟩ : ∃ M0, moveP l0 = M0 := ⟨_, rfl⟩
  have HMvE := hide hM0
  rw [hM0] at HNx HFu hmt
  have HMp : Hid (∀ (W W' : World) (e : Ending), MoveP l0 W e W' → ∃ v, e = .returned (.tuple #[mvV M0.1 v, .int .i64 (M0.2 : Int)]) ∧ W'.ownsRow W.heap.size 5 1 v M0.1.b.length (byB M0.1.b) ∧ Below W.heap.size W W') := hide (by intro W W' e hp; unfold MoveP at hp; rw [hM0] at hp; exact hp)
  obtain ⟨⟨k, p, nn, b, t0, oa, oh, oi, fo⟩, N⟩ := M0
  simp only at hmt
  subst hmt
  simp only at HMp HNx HFu
  have HLn := hide hln
  have HLL := hide hl
  have HNm := hide hnum
  have hn0 : (0 : Int) < (n : Int) := by omega
  clear h he ht hB0 hc0 hx0 hx0b hls hM0 hl hnum hln
  go_enter Tryz.func26, Tryz.ntmps26
  go_wp2_with fail
  refine HMv.out.mono ?_
  intro e w1 hmp
  obtain ⟨v, rfl, ho, hb⟩ := HMp.out _ _ _ hmp
  obtain ⟨Ab, cb, rfl⟩ := own_slice ho
  obtain ⟨nb, hnb⟩ : ∃ nb, b.length = nb := ⟨_, rfl⟩
  rw [hnb] at ho ⊢
  have HNb := hide hnb
  have hb1 : Below w.heap.size w w1 := HB0.out.trans (hb.mono HB0.out.size)
  have HM0 : Hid (NxSt w (w1.alloc (.cells #[.int .i64 k, .int .u32 (p : Int), .int .i64 nn, .slice Ab nb cb, .string (str []), .int .u32 (oa : Int), .int .i64 oh, .int .u32 (oi : Int), .bool fo] 32)) w1.heap.size ⟨k, p, nn, b, [], oa, oh, oi, fo⟩ (.slice Ab nb cb)) := hide
    ⟨(HR0.out.below hb HR0.out.lt).alloc _, Blk.new _ _ _, by simp only; rw [hnb]; have h2 := ho.alloc (.cells #[.int .i64 k, .int .u32 (p : Int), .int .i64 nn, .slice Ab nb cb, .string (str []), .int .u32 (oa : Int), .int .i64 oh, .int .u32 (oi : Int), .bool fo] 32); simpa using h2, hb1.alloc hb1.size _, by have := (HR0.out.below hb HR0.out.lt).lt; omega⟩
  have k1 : w1.cell? ⟨g, o, none⟩ = some (.string (str l0)) := (hb1.cell hg9).trans k0
  have hg1 : g < w1.heap.size := Nat.lt_of_lt_of_le hg9 hb1.size
  have HL1 := hide (HLs.out.below rfl hb1)
  have HR1 := hide (HR0.out.below hb HR0.out.lt)
  have hlw : w.heap.size < w1.heap.size := (HR0.out.below hb HR0.out.lt).lt
  have HB1 := hide hb1
  have HO1 : Hid (w1.ownsRow (w.heap.size + 1) 5 1 (.slice Ab nb cb) nb (byB b)) := hide (by simpa using ho)
  clear hmp hb ho hnb hb1
  unfold mvV
  simp only
  by_cases hnl : n ≤ N
  · have e1 : decide ((n : Int) ≤ (N : Int)) = true := by simp; exact hnl
    have e1n : decide (n ≤ N) = true := decide_eq_true hnl
    have HNone : Hid (nextP ls = none) := hide (by rw [HNx.out, if_pos (by rw [HLn.out]; exact hnl)])
    clear hnl
    have q0 : w1.cell? ⟨w.heap.size, 0, none⟩ = some (.int .i64 0) := HR1.out.cell 0
    have q1 : w1.cell? ⟨w.heap.size, 1, none⟩ = some (.int .u32 0) := HR1.out.cell 1
    have q2 : w1.cell? ⟨w.heap.size, 2, none⟩ = some (.int .i64 0) := HR1.out.cell 2
    have q3 : w1.cell? ⟨w.heap.size, 3, none⟩ = some (.slice none 0 0) := HR1.out.cell 3
    have q4 : w1.cell? ⟨w.heap.size, 4, none⟩ = some (.string ⟨#[]⟩) := HR1.out.cell 4
    have q5 : w1.cell? ⟨w.heap.size, 5, none⟩ = some (.int .u32 0) := HR1.out.cell 5
    have q6 : w1.cell? ⟨w.heap.size, 6, none⟩ = some (.int .i64 0) := HR1.out.cell 6
    have q7 : w1.cell? ⟨w.heap.size, 7, none⟩ = some (.int .u32 0) := HR1.out.cell 7
    have q8 : w1.cell? ⟨w.heap.size, 8, none⟩ = some (.bool false) := HR1.out.cell 8
    have qf0 : w1.frozen? ⟨w.heap.size, 0, none⟩ = false := HR1.out.frozen 0
    have qf1 : w1.frozen? ⟨w.heap.size, 1, none⟩ = false := HR1.out.frozen 1
    have qf2 : w1.frozen? ⟨w.heap.size, 2, none⟩ = false := HR1.out.frozen 2
    have qf3 : w1.frozen? ⟨w.heap.size, 3, none⟩ = false := HR1.out.frozen 3
    have qf4 : w1.frozen? ⟨w.heap.size, 4, none⟩ = false := HR1.out.frozen 4
    have qf5 : w1.frozen? ⟨w.heap.size, 5, none⟩ = false := HR1.out.frozen 5
    have qf6 : w1.frozen? ⟨w.heap.size, 6, none⟩ = false := HR1.out.frozen 6
    have qf7 : w1.frozen? ⟨w.heap.size, 7, none⟩ = false := HR1.out.frozen 7
    have qf8 : w1.frozen? ⟨w.heap.size, 8, none⟩ = false := HR1.out.frozen 8
    have HF : Hid (Blk ((((((((((w1.setCell ⟨w.heap.size, 0, none⟩ (.int .i64 k)).setCell ⟨w.heap.size, 1, none⟩ (.int .u32 (p : Int))).setCell ⟨w.heap.size, 2, none⟩ (.int .i64 nn)).setCell ⟨w.heap.size, 3, none⟩ (.slice Ab nb cb)).setCell ⟨w.heap.size, 4, none⟩ (.string (str []))).setCell ⟨w.heap.size, 5, none⟩ (.int .u32 (oa : Int))).setCell ⟨w.heap.size, 6, none⟩ (.int .i64 oh)).setCell ⟨w.heap.size, 7, none⟩ (.int .u32 (oi : Int))).setCell ⟨w.heap.size, 8, none⟩ (.bool fo)).alloc (.cells #[.int .i64 k, .int .u32 (p : Int), .int .i64 nn, .slice Ab nb cb, .string (str []), .int .u32 (oa : Int), .int .i64 oh, .int .u32 (oi : Int), .bool fo] 32)) w.heap.size 32 #[.int .i64 k, .int .u32 (p : Int), .int .i64 nn, .slice Ab nb cb, .string (str []), .int .u32 (oa : Int), .int .i64 oh, .int .u32 (oi : Int), .bool fo]) := hide ((setMv_blk (m := ⟨k, p, nn, b, [], oa, oh, oi, fo⟩) (v := .slice Ab nb cb) HR1.out).alloc _)
    have HBF : Hid (Below w.heap.size w ((((((((((w1.setCell ⟨w.heap.size, 0, none⟩ (.int .i64 k)).setCell ⟨w.heap.size, 1, none⟩ (.int .u32 (p : Int))).setCell ⟨w.heap.size, 2, none⟩ (.int .i64 nn)).setCell ⟨w.heap.size, 3, none⟩ (.slice Ab nb cb)).setCell ⟨w.heap.size, 4, none⟩ (.string (str []))).setCell ⟨w.heap.size, 5, none⟩ (.int .u32 (oa : Int))).setCell ⟨w.heap.size, 6, none⟩ (.int .i64 oh)).setCell ⟨w.heap.size, 7, none⟩ (.int .u32 (oi : Int))).setCell ⟨w.heap.size, 8, none⟩ (.bool fo)).alloc (.cells #[.int .i64 k, .int .u32 (p : Int), .int .i64 nn, .slice Ab nb cb, .string (str []), .int .u32 (oa : Int), .int .i64 oh, .int .u32 (oi : Int), .bool fo] 32))) := hide ((setMv_below (R := w.heap.size) (m := ⟨k, p, nn, b, [], oa, oh, oi, fo⟩) (v := .slice Ab nb cb) HB1.out (Nat.le_refl _)).alloc (setMv_below (R := w.heap.size) (m := ⟨k, p, nn, b, [], oa, oh, oi, fo⟩) (v := .slice Ab nb cb) HB1.out (Nat.le_refl _)).size _)
    have HOF : Hid (World.ownsRow ((((((((((w1.setCell ⟨w.heap.size, 0, none⟩ (.int .i64 k)).setCell ⟨w.heap.size, 1, none⟩ (.int .u32 (p : Int))).setCell ⟨w.heap.size, 2, none⟩ (.int .i64 nn)).setCell ⟨w.heap.size, 3, none⟩ (.slice Ab nb cb)).setCell ⟨w.heap.size, 4, none⟩ (.string (str []))).setCell ⟨w.heap.size, 5, none⟩ (.int .u32 (oa : Int))).setCell ⟨w.heap.size, 6, none⟩ (.int .i64 oh)).setCell ⟨w.heap.size, 7, none⟩ (.int .u32 (oi : Int))).setCell ⟨w.heap.size, 8, none⟩ (.bool fo)).alloc (.cells #[.int .i64 k, .int .u32 (p : Int), .int .i64 nn, .slice Ab nb cb, .string (str []), .int .u32 (oa : Int), .int .i64 oh, .int .u32 (oi : Int), .bool fo] 32)) (w.heap.size + 1) 5 1 (.slice Ab nb cb) nb (byB b)) := hide ((setMv_own (R := w.heap.size) (m := ⟨k, p, nn, b, [], oa, oh, oi, fo⟩) (v := .slice Ab nb cb) HO1.out (fun e => by have := own_low_block HO1.out _ e; omega)).alloc _)
    go_wp2
    have u0 : ((((((((((w1.setCell ⟨w.heap.size, 0, none⟩ (.int .i64 k)).setCell ⟨w.heap.size, 1, none⟩ (.int .u32 (p : Int))).setCell ⟨w.heap.size, 2, none⟩ (.int .i64 nn)).setCell ⟨w.heap.size, 3, none⟩ (.slice Ab nb cb)).setCell ⟨w.heap.size, 4, none⟩ (.string (str []))).setCell ⟨w.heap.size, 5, none⟩ (.int .u32 (oa : Int))).setCell ⟨w.heap.size, 6, none⟩ (.int .i64 oh)).setCell ⟨w.heap.size, 7, none⟩ (.int .u32 (oi : Int))).setCell ⟨w.heap.size, 8, none⟩ (.bool fo)).alloc (.cells #[.int .i64 k, .int .u32 (p : Int), .int .i64 nn, .slice Ab nb cb, .string (str []), .int .u32 (oa : Int), .int .i64 oh, .int .u32 (oi : Int), .bool fo] 32)).cell? ⟨w.heap.size, 0, none⟩ = some (.int .i64 k) := HF.out.cell 0
    have u1 : ((((((((((w1.setCell ⟨w.heap.size, 0, none⟩ (.int .i64 k)).setCell ⟨w.heap.size, 1, none⟩ (.int .u32 (p : Int))).setCell ⟨w.heap.size, 2, none⟩ (.int .i64 nn)).setCell ⟨w.heap.size, 3, none⟩ (.slice Ab nb cb)).setCell ⟨w.heap.size, 4, none⟩ (.string (str []))).setCell ⟨w.heap.size, 5, none⟩ (.int .u32 (oa : Int))).setCell ⟨w.heap.size, 6, none⟩ (.int .i64 oh)).setCell ⟨w.heap.size, 7, none⟩ (.int .u32 (oi : Int))).setCell ⟨w.heap.size, 8, none⟩ (.bool fo)).alloc (.cells #[.int .i64 k, .int .u32 (p : Int), .int .i64 nn, .slice Ab nb cb, .string (str []), .int .u32 (oa : Int), .int .i64 oh, .int .u32 (oi : Int), .bool fo] 32)).cell? ⟨w.heap.size, 1, none⟩ = some (.int .u32 (p : Int)) := HF.out.cell 1
    have u2 : ((((((((((w1.setCell ⟨w.heap.size, 0, none⟩ (.int .i64 k)).setCell ⟨w.heap.size, 1, none⟩ (.int .u32 (p : Int))).setCell ⟨w.heap.size, 2, none⟩ (.int .i64 nn)).setCell ⟨w.heap.size, 3, none⟩ (.slice Ab nb cb)).setCell ⟨w.heap.size, 4, none⟩ (.string (str []))).setCell ⟨w.heap.size, 5, none⟩ (.int .u32 (oa : Int))).setCell ⟨w.heap.size, 6, none⟩ (.int .i64 oh)).setCell ⟨w.heap.size, 7, none⟩ (.int .u32 (oi : Int))).setCell ⟨w.heap.size, 8, none⟩ (.bool fo)).alloc (.cells #[.int .i64 k, .int .u32 (p : Int), .int .i64 nn, .slice Ab nb cb, .string (str []), .int .u32 (oa : Int), .int .i64 oh, .int .u32 (oi : Int), .bool fo] 32)).cell? ⟨w.heap.size, 2, none⟩ = some (.int .i64 nn) := HF.out.cell 2
    have u3 : ((((((((((w1.setCell ⟨w.heap.size, 0, none⟩ (.int .i64 k)).setCell ⟨w.heap.size, 1, none⟩ (.int .u32 (p : Int))).setCell ⟨w.heap.size, 2, none⟩ (.int .i64 nn)).setCell ⟨w.heap.size, 3, none⟩ (.slice Ab nb cb)).setCell ⟨w.heap.size, 4, none⟩ (.string (str []))).setCell ⟨w.heap.size, 5, none⟩ (.int .u32 (oa : Int))).setCell ⟨w.heap.size, 6, none⟩ (.int .i64 oh)).setCell ⟨w.heap.size, 7, none⟩ (.int .u32 (oi : Int))).setCell ⟨w.heap.size, 8, none⟩ (.bool fo)).alloc (.cells #[.int .i64 k, .int .u32 (p : Int), .int .i64 nn, .slice Ab nb cb, .string (str []), .int .u32 (oa : Int), .int .i64 oh, .int .u32 (oi : Int), .bool fo] 32)).cell? ⟨w.heap.size, 3, none⟩ = some (.slice Ab nb cb) := HF.out.cell 3
    have u4 : ((((((((((w1.setCell ⟨w.heap.size, 0, none⟩ (.int .i64 k)).setCell ⟨w.heap.size, 1, none⟩ (.int .u32 (p : Int))).setCell ⟨w.heap.size, 2, none⟩ (.int .i64 nn)).setCell ⟨w.heap.size, 3, none⟩ (.slice Ab nb cb)).setCell ⟨w.heap.size, 4, none⟩ (.string (str []))).setCell ⟨w.heap.size, 5, none⟩ (.int .u32 (oa : Int))).setCell ⟨w.heap.size, 6, none⟩ (.int .i64 oh)).setCell ⟨w.heap.size, 7, none⟩ (.int .u32 (oi : Int))).setCell ⟨w.heap.size, 8, none⟩ (.bool fo)).alloc (.cells #[.int .i64 k, .int .u32 (p : Int), .int .i64 nn, .slice Ab nb cb, .string (str []), .int .u32 (oa : Int), .int .i64 oh, .int .u32 (oi : Int), .bool fo] 32)).cell? ⟨w.heap.size, 4, none⟩ = some (.string (str [])) := HF.out.cell 4
    have u5 : ((((((((((w1.setCell ⟨w.heap.size, 0, none⟩ (.int .i64 k)).setCell ⟨w.heap.size, 1, none⟩ (.int .u32 (p : Int))).setCell ⟨w.heap.size, 2, none⟩ (.int .i64 nn)).setCell ⟨w.heap.size, 3, none⟩ (.slice Ab nb cb)).setCell ⟨w.heap.size, 4, none⟩ (.string (str []))).setCell ⟨w.heap.size, 5, none⟩ (.int .u32 (oa : Int))).setCell ⟨w.heap.size, 6, none⟩ (.int .i64 oh)).setCell ⟨w.heap.size, 7, none⟩ (.int .u32 (oi : Int))).setCell ⟨w.heap.size, 8, none⟩ (.bool fo)).alloc (.cells #[.int .i64 k, .int .u32 (p : Int), .int .i64 nn, .slice Ab nb cb, .string (str []), .int .u32 (oa : Int), .int .i64 oh, .int .u32 (oi : Int), .bool fo] 32)).cell? ⟨w.heap.size, 5, none⟩ = some (.int .u32 (oa : Int)) := HF.out.cell 5
    have u6 : ((((((((((w1.setCell ⟨w.heap.size, 0, none⟩ (.int .i64 k)).setCell ⟨w.heap.size, 1, none⟩ (.int .u32 (p : Int))).setCell ⟨w.heap.size, 2, none⟩ (.int .i64 nn)).setCell ⟨w.heap.size, 3, none⟩ (.slice Ab nb cb)).setCell ⟨w.heap.size, 4, none⟩ (.string (str []))).setCell ⟨w.heap.size, 5, none⟩ (.int .u32 (oa : Int))).setCell ⟨w.heap.size, 6, none⟩ (.int .i64 oh)).setCell ⟨w.heap.size, 7, none⟩ (.int .u32 (oi : Int))).setCell ⟨w.heap.size, 8, none⟩ (.bool fo)).alloc (.cells #[.int .i64 k, .int .u32 (p : Int), .int .i64 nn, .slice Ab nb cb, .string (str []), .int .u32 (oa : Int), .int .i64 oh, .int .u32 (oi : Int), .bool fo] 32)).cell? ⟨w.heap.size, 6, none⟩ = some (.int .i64 oh) := HF.out.cell 6
    have u7 : ((((((((((w1.setCell ⟨w.heap.size, 0, none⟩ (.int .i64 k)).setCell ⟨w.heap.size, 1, none⟩ (.int .u32 (p : Int))).setCell ⟨w.heap.size, 2, none⟩ (.int .i64 nn)).setCell ⟨w.heap.size, 3, none⟩ (.slice Ab nb cb)).setCell ⟨w.heap.size, 4, none⟩ (.string (str []))).setCell ⟨w.heap.size, 5, none⟩ (.int .u32 (oa : Int))).setCell ⟨w.heap.size, 6, none⟩ (.int .i64 oh)).setCell ⟨w.heap.size, 7, none⟩ (.int .u32 (oi : Int))).setCell ⟨w.heap.size, 8, none⟩ (.bool fo)).alloc (.cells #[.int .i64 k, .int .u32 (p : Int), .int .i64 nn, .slice Ab nb cb, .string (str []), .int .u32 (oa : Int), .int .i64 oh, .int .u32 (oi : Int), .bool fo] 32)).cell? ⟨w.heap.size, 7, none⟩ = some (.int .u32 (oi : Int)) := HF.out.cell 7
    have u8 : ((((((((((w1.setCell ⟨w.heap.size, 0, none⟩ (.int .i64 k)).setCell ⟨w.heap.size, 1, none⟩ (.int .u32 (p : Int))).setCell ⟨w.heap.size, 2, none⟩ (.int .i64 nn)).setCell ⟨w.heap.size, 3, none⟩ (.slice Ab nb cb)).setCell ⟨w.heap.size, 4, none⟩ (.string (str []))).setCell ⟨w.heap.size, 5, none⟩ (.int .u32 (oa : Int))).setCell ⟨w.heap.size, 6, none⟩ (.int .i64 oh)).setCell ⟨w.heap.size, 7, none⟩ (.int .u32 (oi : Int))).setCell ⟨w.heap.size, 8, none⟩ (.bool fo)).alloc (.cells #[.int .i64 k, .int .u32 (p : Int), .int .i64 nn, .slice Ab nb cb, .string (str []), .int .u32 (oa : Int), .int .i64 oh, .int .u32 (oi : Int), .bool fo] 32)).cell? ⟨w.heap.size, 8, none⟩ = some (.bool fo) := HF.out.cell 8
    refine bodyPost_ret (v := .tuple #[.agg #[.int .i64 k, .int .u32 (p : Int), .int .i64 nn, .slice Ab nb cb, .string (str []), .int .u32 (oa : Int), .int .i64 oh, .int .u32 (oi : Int), .bool fo], .int .i64 ((0 : Nat) : Int), .bool false]) (by simp [results, Tryz.results26, go_sem, u0, u1, u2, u3, u4, u5, u6, u7, u8]) rfl ⟨⟨k, p, nn, b, [], oa, oh, oi, fo⟩, Ab, cb, 0, (by rw [HNb.out, HNone.out]; rfl), (fun m k e => by rw [HNone.out] at e; cases e), by simp only; rw [HNb.out]; exact own_baseLe HOF.out (Nat.le_succ _), HBF.out⟩
  · have e1 : decide ((n : Int) ≤ (N : Int)) = false := by simp; omega
    have e1n : decide (n ≤ N) = false := decide_eq_false hnl
    have hNn : N < n := by omega
    have hwr : IntKind.i64.wrap ((N : Int) + 1) = (N : Int) + 1 := by rw [IntKind.wrap_i64]; omega
    have hN1 : (1 : Int) ≤ (N : Int) + 1 := by omega
    have hN2 : (N : Int) + 1 ≤ (c : Int) := by omega
    have hN0 : (0 : Int) ≤ (N : Int) + 1 := by omega
    have hNN : (N : Int) + 1 - 1 = (N : Int) := by omega
    have HNx2 : Hid (nextP ls = if mvGood (fullM ls) && decide (shownM (fullM ls) = ls.take (N + 1)) then some (fullM ls, N + 1) else none) := hide (by rw [HNx.out, if_neg (by rw [HLn.out]; omega)])
    obtain ⟨T, hT⟩ : ∃ T, (ls.drop 1).take N = T := ⟨_, rfl⟩
    have HTl : Hid (T.length = N) := hide (by rw [← hT, List.length_take, List.length_drop, HLn.out]; omega)
    have HTf : Hid ((feedT T).length ≤ 100000) := hide (by rw [← hT]; have h1 := feedT_take (ls.drop 1) N; have h2 := feedT_drop ls 1; have h3 := HLL.out; omega)
    have HTT := hide hT
    rw [hT] at HFu
    clear hnl hT
    by_cases hc1 : c = 1
    · subst hc1
      obtain rfl : n = 1 := by omega
      have HN0 : Hid (N = 0) := hide (by omega)
      go_wp2
      go_loopw [26] (fun iv wr => ∃ j : Nat, j ≤ N ∧ iv = .int .i64 (j : Nat) ∧ NxSt w wr w1.heap.size ⟨k, p, nn, b, joinB (T.take j), oa, oh, oi, fo⟩ (.slice Ab nb cb)) (fun iv _ => N - (intOf iv).toNat)
      case atStart => exact ⟨0, Nat.zero_le _, rfl, HM0.out⟩
      case round =>
        obtain ⟨j, hj, rfl, hst⟩ := hrel
        have HM := hide hst
        obtain ⟨g5, hg5⟩ : ∃ x, w1.heap.size = x := ⟨_, rfl⟩
        rw [hg5] at hst HM ⊢
        have hmlt := hst.mb.lt
        have hfr := hst.mb.frozen 4
        clear hst
        have hTj := HTl.out
        by_cases hlt : j < N
        · exfalso
          have := HN0.out
          omega
        · obtain rfl : j = N := by omega
          have HTk : Hid (T.take j = T) := hide (List.take_of_length_le (by omega))
          rw [HTk.out] at HM
          obtain ⟨tq, htq⟩ : ∃ tq, joinB T = tq := ⟨_, rfl⟩
          rw [htq] at HM HFu
          try simp only at HFu
          have HTl : Hid (tq.length ≤ 9223372036854775807) := hide (by
            rw [← htq]
            have h1 := joinB_len T
            have h3 := HTf.out
            omega)
          have HO5 : Hid (LstAt 1 byR wr Ab nb cb b) := hide (by have h := HM.out.own; simp only at h; rw [HNb.out] at h; exact by_lst h)
          have HLt := hide (HLs.out.take_ (m := j + 1) (by omega))
          rw [← List.map_take] at HLt
          clear htq hlt hTj hmlt hfr
          cases hgd : mvGood ⟨k, p, nn, b, tq, oa, oh, oi, fo⟩
          · have HGd := hide hgd
            have HNone : Hid (nextP ls = none) := hide (by rw [HNx2.out, HFu.out, hgd]; rfl)
            clear hgd
            go_wp2
            refine wp_region_relG 16 w.heap.size HM.out.bel.size [(fun v _ => v = .agg #[.int .i64 k, .int .u32 (p : Int), .int .i64 nn, .slice Ab nb cb, .string (str tq), .int .u32 (oa : Int), .int .i64 oh, .int .u32 (oi : Int), .bool fo]), (fun v _ => v = .int .i64 (j : Int)), (fun v _ => v = .int .i64 ((j : Int) + 1)), (fun v _ => v = .agg #[.int .i64 k, .int .u32 (p : Int), .int .i64 nn, .slice Ab nb cb, .string (str tq), .int .u32 (oa : Int), .int .i64 oh, .int .u32 (oi : Int), .bool fo]), (fun v _ => v = .bool false), (fun v _ => v = .bool false), (fun v _ => v = undef), (fun v _ => v = undef), (fun v _ => v = undef), (fun v _ => v = undef), (fun v _ => v = undef), (fun v _ => v = undef), (fun v _ => v = undef), (fun v _ => v = .bool false), (fun _ W => NxF w W ⟨k, p, nn, b, tq, oa, oh, oi, fo⟩ (.slice Ab nb cb)), (fun v _ => v = .int .i64 ((j : Int) + 1))] (fun i W => (i = 14 → Blk W w.heap.size 32 #[.int .i64 0, .int .u32 0, .int .i64 0, .slice none 0 0, .string ⟨#[]⟩, .int .u32 0, .int .i64 0, .int .u32 0, .bool false]) ∧ NxB w W g5 ⟨k, p, nn, b, tq, oa, oh, oi, fo⟩ (.slice Ab nb cb)) (fun i Wa Wb => if i = 14 then Wa.grownBy Wb (some w.heap.size) else Below Wa.heap.size Wa Wb) (by kernel_rfl) (by kernel_rfl) (by kernel_rfl) (by kernel_rfl) (by kernel_rfl) ?hE ?hR ?hP ?h0 ⟨?_, ?_, ?_, ?_, ?_, ?_, ?_, ?_, ?_, ?_, ?_, ?_, ?_, ?_, ?_, ?_, trivial⟩ ?_
            case hE =>
              intro i2 wa wb hB he
              split at he
              · exact below_of he (Nat.le_refl _) hB
              · exact he.mono hB
            case hR =>
              intro i2 j2 v2 wa wb hij hB he h
              split at he
              · rename_i hj2
                subst hj2
                refine keepAll_at (E := fun wa wb => wa.grownBy wb (some w.heap.size)) (x := 14) (k := 0) ?_ (by omega) he h
                exact ⟨fun _ v w1 w2 he h => h, fun _ v w1 w2 he h => h, fun _ v w1 w2 he h => h, fun _ v w1 w2 he h => h, fun _ v w1 w2 he h => h, fun _ v w1 w2 he h => h, fun _ v w1 w2 he h => h, fun _ v w1 w2 he h => h, fun _ v w1 w2 he h => h, fun _ v w1 w2 he h => h, fun _ v w1 w2 he h => h, fun _ v w1 w2 he h => h, fun _ v w1 w2 he h => h, fun _ v w1 w2 he h => h, fun hn => absurd rfl hn, fun _ v w1 w2 he h => h, trivial⟩
              · refine relMono _ ?_ i2 v2 wa wb he h
                exact ⟨fun _ _ _ _ h => h, fun _ _ _ _ h => h, fun _ _ _ _ h => h, fun _ _ _ _ h => h, fun _ _ _ _ h => h, fun _ _ _ _ h => h, fun _ _ _ _ h => h, fun _ _ _ _ h => h, fun _ _ _ _ h => h, fun _ _ _ _ h => h, fun _ _ _ _ h => h, fun _ _ _ _ h => h, fun _ _ _ _ h => h, fun _ _ _ _ h => h, fun v w1 w2 hb h => h.below hb, fun _ _ _ _ h => h, trivial⟩
            case hP =>
              intro i2 j2 wa wb hij hB he h
              split at he
              · rename_i hj2
                exact ⟨fun e => absurd (e.trans hj2.symm) hij, h.2.grown he⟩
              · exact ⟨fun e => (h.1 e).below he (h.1 e).lt, h.2.below he⟩
            case h0 =>
              intro j2 hj2
              show (j2 = 14 → Blk wr.drew w.heap.size 32 _) ∧ NxB w wr.drew g5 _ _
              have h1 := HM.out.res.drew
              have h2 := NxB.drew (NxSt.b HM.out)
              exact ⟨fun _ => h1, h2⟩
            · refine relG_plain rfl rfl (fun _ _ h => h) ?_
              intro Ac w5 hp
              have hb := hp.bel
              have a5 : Ac.eval (.tmp 5) = .pointer (some ⟨g5, 0, none⟩) := hp.out 5 (by rfl)
              have HN := hp.pre.2
              have z0 : w5.cell? ⟨g5, 0, none⟩ = some (.int .i64 k) := HN.mb.cell 0
              have z1 : w5.cell? ⟨g5, 1, none⟩ = some (.int .u32 (p : Int)) := HN.mb.cell 1
              have z2 : w5.cell? ⟨g5, 2, none⟩ = some (.int .i64 nn) := HN.mb.cell 2
              have z3 : w5.cell? ⟨g5, 3, none⟩ = some (.slice Ab nb cb) := HN.mb.cell 3
              have z4 : w5.cell? ⟨g5, 4, none⟩ = some (.string (str tq)) := HN.mb.cell 4
              have z5 : w5.cell? ⟨g5, 5, none⟩ = some (.int .u32 (oa : Int)) := HN.mb.cell 5
              have z6 : w5.cell? ⟨g5, 6, none⟩ = some (.int .i64 oh) := HN.mb.cell 6
              have z7 : w5.cell? ⟨g5, 7, none⟩ = some (.int .u32 (oi : Int)) := HN.mb.cell 7
              have z8 : w5.cell? ⟨g5, 8, none⟩ = some (.bool fo) := HN.mb.cell 8
              have hc := evalC Ac; have hf := evalF Ac; have hgl := evalG Ac
              obtain ⟨ρ, hρ⟩ : ∃ ρ, Ac.eval = ρ := ⟨_, rfl⟩
              rw [hρ] at a5 hc hf hgl
              exact relPure hρ (.agg #[.int .i64 k, .int .u32 (p : Int), .int .i64 nn, .slice Ab nb cb, .string (str tq), .int .u32 (oa : Int), .int .i64 oh, .int .u32 (oi : Int), .bool fo]) (by simp [go_sem, hc, hf, hgl, ↓IntWalk.iteOmega, a5, *]) rfl
            · refine relG_plain rfl rfl (fun _ _ h => h) ?_
              intro Ac w5 hp
              have hb := hp.bel
              have a6 : Ac.eval (.tmp 6) = .int .i64 (j : Int) := hp.out 6 (by rfl)
              have hc := evalC Ac; have hf := evalF Ac; have hgl := evalG Ac
              obtain ⟨ρ, hρ⟩ : ∃ ρ, Ac.eval = ρ := ⟨_, rfl⟩
              rw [hρ] at a6 hc hf hgl
              exact relPure hρ (.int .i64 (j : Int)) (by simp [go_sem, hc, hf, hgl, ↓IntWalk.iteOmega, a6, *]) rfl
            · refine relG_plain rfl rfl (fun _ _ h => h) ?_
              intro Ac w5 hp
              have hb := hp.bel
              have a39 : Ac.eval (.tmp 39) = .int .i64 (j : Int) := hp.dep 1 (by kernel_rfl)
              have hc := evalC Ac; have hf := evalF Ac; have hgl := evalG Ac
              obtain ⟨ρ, hρ⟩ : ∃ ρ, Ac.eval = ρ := ⟨_, rfl⟩
              rw [hρ] at a39 hc hf hgl
              exact relPure hρ (.int .i64 ((j : Int) + 1)) (by simp [go_sem, hc, hf, hgl, ↓IntWalk.iteOmega, a39, *]) rfl
            · refine relG_plain rfl rfl (fun _ _ h => h) ?_
              intro Ac w5 hp
              have hb := hp.bel
              have a5 : Ac.eval (.tmp 5) = .pointer (some ⟨g5, 0, none⟩) := hp.out 5 (by rfl)
              have HN := hp.pre.2
              have z0 : w5.cell? ⟨g5, 0, none⟩ = some (.int .i64 k) := HN.mb.cell 0
              have z1 : w5.cell? ⟨g5, 1, none⟩ = some (.int .u32 (p : Int)) := HN.mb.cell 1
              have z2 : w5.cell? ⟨g5, 2, none⟩ = some (.int .i64 nn) := HN.mb.cell 2
              have z3 : w5.cell? ⟨g5, 3, none⟩ = some (.slice Ab nb cb) := HN.mb.cell 3
              have z4 : w5.cell? ⟨g5, 4, none⟩ = some (.string (str tq)) := HN.mb.cell 4
              have z5 : w5.cell? ⟨g5, 5, none⟩ = some (.int .u32 (oa : Int)) := HN.mb.cell 5
              have z6 : w5.cell? ⟨g5, 6, none⟩ = some (.int .i64 oh) := HN.mb.cell 6
              have z7 : w5.cell? ⟨g5, 7, none⟩ = some (.int .u32 (oi : Int)) := HN.mb.cell 7
              have z8 : w5.cell? ⟨g5, 8, none⟩ = some (.bool fo) := HN.mb.cell 8
              have hc := evalC Ac; have hf := evalF Ac; have hgl := evalG Ac
              obtain ⟨ρ, hρ⟩ : ∃ ρ, Ac.eval = ρ := ⟨_, rfl⟩
              rw [hρ] at a5 hc hf hgl
              exact relPure hρ (.agg #[.int .i64 k, .int .u32 (p : Int), .int .i64 nn, .slice Ab nb cb, .string (str tq), .int .u32 (oa : Int), .int .i64 oh, .int .u32 (oi : Int), .bool fo]) (by simp [go_sem, hc, hf, hgl, ↓IntWalk.iteOmega, a5, *]) rfl
            · refine relG_plain rfl rfl (fun _ _ h => h) ?_
              intro Ac w5 hp
              have hb := hp.bel
              have a41 : Ac.eval (.tmp 41) = .agg #[.int .i64 k, .int .u32 (p : Int), .int .i64 nn, .slice Ab nb cb, .string (str tq), .int .u32 (oa : Int), .int .i64 oh, .int .u32 (oi : Int), .bool fo] := hp.dep 3 (by kernel_rfl)
              have hc := evalC Ac; have hf := evalF Ac; have hgl := evalG Ac
              obtain ⟨ρ, hρ⟩ : ∃ ρ, Ac.eval = ρ := ⟨_, rfl⟩
              rw [hρ] at a41 hc hf hgl
              refine relCall hρ 29 #[.agg #[.int .i64 k, .int .u32 (p : Int), .int .i64 nn, .slice Ab nb cb, .string (str tq), .int .u32 (oa : Int), .int .i64 oh, .int .u32 (oi : Int), .bool fo]] (by simp [go_sem, hc, hf, hgl, ↓IntWalk.iteOmega, a41, *]) ?_
              refine (sgood_any ⟨k, p, nn, b, tq, oa, oh, oi, fo⟩ Ab nb cb w5 HNb.out HTl.out).mono ?_
              rintro e w6 ⟨rfl, hb6⟩
              exact ⟨_, rfl, by rw [HGd.out]; rfl, hb6⟩
            · refine relG_plain rfl rfl (fun _ _ h => h) ?_
              intro Ac w5 hp
              have hb := hp.bel
              have a42 : Ac.eval (.tmp 42) = .bool false := hp.dep 4 (by kernel_rfl)
              have hc := evalC Ac; have hf := evalF Ac; have hgl := evalG Ac
              obtain ⟨ρ, hρ⟩ : ∃ ρ, Ac.eval = ρ := ⟨_, rfl⟩
              rw [hρ] at a42 hc hf hgl
              exact relPure hρ (.bool false) (by simp [go_sem, hc, hf, hgl, ↓IntWalk.iteOmega, a42, *]) rfl
            · refine relG_guard (g := 5) (b := true) (x := false) rfl (by kernel_rfl) rfl rfl (fun _ _ h => h) (by kernel_rfl) rfl rfl (fun _ _ h => h) ?_
              exact fun _ => rfl
            · refine relG_guard (g := 5) (b := true) (x := false) rfl (by kernel_rfl) rfl rfl (fun _ _ h => h) (by kernel_rfl) rfl rfl (fun _ _ h => h) ?_
              exact fun _ => rfl
            · refine relG_guard (g := 5) (b := true) (x := false) rfl (by kernel_rfl) rfl rfl (fun _ _ h => h) (by kernel_rfl) rfl rfl (fun _ _ h => h) ?_
              exact fun _ => rfl
            · refine relG_guard (g := 5) (b := true) (x := false) rfl (by kernel_rfl) rfl rfl (fun _ _ h => h) (by kernel_rfl) rfl rfl (fun _ _ h => h) ?_
              exact fun _ => rfl
            · refine relG_guard (g := 5) (b := true) (x := false) rfl (by kernel_rfl) rfl rfl (fun _ _ h => h) (by kernel_rfl) rfl rfl (fun _ _ h => h) ?_
              exact fun _ => rfl
            · refine relG_guard (g := 5) (b := true) (x := false) rfl (by kernel_rfl) rfl rfl (fun _ _ h => h) (by kernel_rfl) rfl rfl (fun _ _ h => h) ?_
              exact fun _ => rfl
            · refine relG_guard (g := 5) (b := true) (x := false) rfl (by kernel_rfl) rfl rfl (fun _ _ h => h) (by kernel_rfl) rfl rfl (fun _ _ h => h) ?_
              exact fun _ => rfl
            · refine relG_plain rfl rfl (fun _ _ h => h) ?_
              intro Ac w5 hp
              have hb := hp.bel
              have a43 : Ac.eval (.tmp 43) = .bool false := hp.dep 5 (by kernel_rfl)
              have hc := evalC Ac; have hf := evalF Ac; have hgl := evalG Ac
              obtain ⟨ρ, hρ⟩ : ∃ ρ, Ac.eval = ρ := ⟨_, rfl⟩
              rw [hρ] at a43 hc hf hgl
              exact relPure hρ (.bool false) (by simp [go_sem, hc, hf, hgl, ↓IntWalk.iteOmega, a43, *]) rfl
            · refine relG_store rfl ?_
              intro Ac w5 hp
              have hb := hp.bel
              have a2 : Ac.eval (.tmp 2) = .pointer (some ⟨w.heap.size, 0, none⟩) := hp.out 2 (by rfl)
              have a38 : Ac.eval (.tmp 38) = .agg #[.int .i64 k, .int .u32 (p : Int), .int .i64 nn, .slice Ab nb cb, .string (str tq), .int .u32 (oa : Int), .int .i64 oh, .int .u32 (oi : Int), .bool fo] := hp.dep 0 (by kernel_rfl)
              have a2 : Ac.eval (.tmp 2) = .pointer (some ⟨w.heap.size, 0, none⟩) := hp.out 2 (by rfl)
              have a38 : Ac.eval (.tmp 38) = .agg #[.int .i64 k, .int .u32 (p : Int), .int .i64 nn, .slice Ab nb cb, .string (str tq), .int .u32 (oa : Int), .int .i64 oh, .int .u32 (oi : Int), .bool fo] := hp.dep 0 (by kernel_rfl)
              have HN2 := hide hp.pre.2
              have hres2 := hide (hp.pre.1 rfl)
              clear hp
              refine ⟨setMv w5 w.heap.size ⟨k, p, nn, b, tq, oa, oh, oi, fo⟩ (.slice Ab nb cb), .inl (exec_store rfl a2 a38 (store_move w5 _ ⟨k, p, nn, b, tq, oa, oh, oi, fo⟩ Ab nb cb hres2.out)), ⟨?_, ?_, ?_⟩, ?_⟩
              · exact setMv_blk hres2.out
              · exact setMv_own HN2.out.own (fun e => by have := own_low_block HN2.out.own _ e; omega)
              · exact setMv_below HN2.out.bel (Nat.le_refl _)
              · exact setMv_grown
            · refine relG_plain rfl rfl (fun _ _ h => h) ?_
              intro Ac w5 hp
              have hb := hp.bel
              have a40 : Ac.eval (.tmp 40) = .int .i64 ((j : Int) + 1) := hp.dep 2 (by kernel_rfl)
              have hc := evalC Ac; have hf := evalF Ac; have hgl := evalG Ac
              obtain ⟨ρ, hρ⟩ : ∃ ρ, Ac.eval = ρ := ⟨_, rfl⟩
              rw [hρ] at a40 hc hf hgl
              exact relPure hρ (.int .i64 ((j : Int) + 1)) (by simp [go_sem, hc, hf, hgl, ↓IntWalk.iteOmega, a40, *]) rfl
            intro u w8 hb7 hall
            have e3 : u 15 = .int .i64 ((j : Int) + 1) := relAll_at hall (i := 15) (by decide +kernel)
            have e51 : u 13 = .bool false := relAll_at hall (i := 13) (by decide +kernel)
            have efin : NxF w w8 ⟨k, p, nn, b, tq, oa, oh, oi, fo⟩ (.slice Ab nb cb) := relAll_at hall (i := 14) (by decide +kernel)
            clear hall
            simp only [List.drop_succ_cons, List.drop_zero, List.take_succ_cons, List.take_zero, putAll, Act.put, List.setIfInBounds_toArray, List.set_cons_zero, List.set_cons_succ, Nat.zero_add, Nat.reduceAdd, e3, e51]
            have HF8 := hide efin
            have HF := hide efin.res
            have HBF := hide efin.bel
            have HOF := hide efin.own
            clear efin
            go_wp2
            have u0 : w8.cell? ⟨w.heap.size, 0, none⟩ = some (.int .i64 k) := HF.out.cell 0
            have u1 : w8.cell? ⟨w.heap.size, 1, none⟩ = some (.int .u32 (p : Int)) := HF.out.cell 1
            have u2 : w8.cell? ⟨w.heap.size, 2, none⟩ = some (.int .i64 nn) := HF.out.cell 2
            have u3 : w8.cell? ⟨w.heap.size, 3, none⟩ = some (.slice Ab nb cb) := HF.out.cell 3
            have u4 : w8.cell? ⟨w.heap.size, 4, none⟩ = some (.string (str tq)) := HF.out.cell 4
            have u5 : w8.cell? ⟨w.heap.size, 5, none⟩ = some (.int .u32 (oa : Int)) := HF.out.cell 5
            have u6 : w8.cell? ⟨w.heap.size, 6, none⟩ = some (.int .i64 oh) := HF.out.cell 6
            have u7 : w8.cell? ⟨w.heap.size, 7, none⟩ = some (.int .u32 (oi : Int)) := HF.out.cell 7
            have u8 : w8.cell? ⟨w.heap.size, 8, none⟩ = some (.bool fo) := HF.out.cell 8
            refine bodyPost_ret (v := .tuple #[.agg #[.int .i64 k, .int .u32 (p : Int), .int .i64 nn, .slice Ab nb cb, .string (str tq), .int .u32 (oa : Int), .int .i64 oh, .int .u32 (oi : Int), .bool fo], .int .i64 ((j : Int) + 1), .bool false]) (by simp [results, Tryz.results26, go_sem, u0, u1, u2, u3, u4, u5, u6, u7, u8]) rfl ⟨⟨k, p, nn, b, tq, oa, oh, oi, fo⟩, Ab, cb, j + 1, (by rw [HNb.out, HNone.out]; rfl), (fun m k e => by rw [HNone.out] at e; cases e), by simp only; rw [HNb.out]; have := HOF.out; simp only [HNb.out] at this; exact own_baseLe this (Nat.le_succ _), HBF.out⟩
          · have HGd := hide hgd
            have hfo := fullM_only (ls := ls) (by rw [HFu.out]; exact hgd)
            rw [HFu.out] at hfo
            have HOk := hide hfo.2
            obtain ⟨SM, hSM⟩ : ∃ SM, shownM ⟨k, p, nn, b, tq, oa, oh, oi, fo⟩ = SM := ⟨_, rfl⟩
            have HLe : Hid (∀ x ∈ SM, x.length ≤ maxLen) := hide (fun x hx => by rw [← hSM] at hx; have := shown_lens hfo.2 hgd x hx; unfold maxLen; omega)
            obtain ⟨E, hE⟩ : ∃ E, decide (SM = ls.take (j + 1)) = E := ⟨_, rfl⟩
            have HEq : Hid (decide (SM.map str = (ls.take (j + 1)).map str) = E) := hide (by rw [strs_dec]; exact hE)
            have HNq : Hid (nextP ls = if E then some (⟨k, p, nn, b, tq, oa, oh, oi, fo⟩, j + 1) else none) := hide (by rw [HNx2.out, HFu.out, hgd, hSM, hE]; rfl)
            have HSM := hide hSM
            clear hgd hfo hSM hE
            go_wp2
            refine wp_region_relG 16 w.heap.size HM.out.bel.size [(fun v _ => v = .agg #[.int .i64 k, .int .u32 (p : Int), .int .i64 nn, .slice Ab nb cb, .string (str tq), .int .u32 (oa : Int), .int .i64 oh, .int .u32 (oi : Int), .bool fo]), (fun v _ => v = .int .i64 (j : Int)), (fun v _ => v = .int .i64 ((j : Int) + 1)), (fun v _ => v = .agg #[.int .i64 k, .int .u32 (p : Int), .int .i64 nn, .slice Ab nb cb, .string (str tq), .int .u32 (oa : Int), .int .i64 oh, .int .u32 (oi : Int), .bool fo]), (fun v _ => v = .bool true), (fun v _ => v = .bool true), (fun v _ => v = .agg #[.int .i64 k, .int .u32 (p : Int), .int .i64 nn, .slice Ab nb cb, .string (str tq), .int .u32 (oa : Int), .int .i64 oh, .int .u32 (oi : Int), .bool fo]), (fun v W => ∃ A n c, v = .slice A n c ∧ StrsAt W A n c (SM.map str) ∧ ∀ ad, A = some ad → w.heap.size < ad.block), (fun v _ => v = .slice (some ⟨g, o, none⟩) 1 1), (fun v _ => v = .int .i64 (j : Int)), (fun v _ => v = .int .i64 ((j : Int) + 1)), (fun v _ => v = .slice (some ⟨g, o, none⟩) (j + 1) 1), (fun v _ => v = .bool E), (fun v _ => v = .bool E), (fun _ W => NxF w W ⟨k, p, nn, b, tq, oa, oh, oi, fo⟩ (.slice Ab nb cb)), (fun v _ => v = .int .i64 ((j : Int) + 1))] (fun i W => (i = 14 → Blk W w.heap.size 32 #[.int .i64 0, .int .u32 0, .int .i64 0, .slice none 0 0, .string ⟨#[]⟩, .int .u32 0, .int .i64 0, .int .u32 0, .bool false]) ∧ NxB w W g5 ⟨k, p, nn, b, tq, oa, oh, oi, fo⟩ (.slice Ab nb cb)) (fun i Wa Wb => if i = 14 then Wa.grownBy Wb (some w.heap.size) else Below Wa.heap.size Wa Wb) (by kernel_rfl) (by kernel_rfl) (by kernel_rfl) (by kernel_rfl) (by kernel_rfl) ?hE ?hR ?hP ?h0 ⟨?_, ?_, ?_, ?_, ?_, ?_, ?_, ?_, ?_, ?_, ?_, ?_, ?_, ?_, ?_, ?_, trivial⟩ ?_
            case hE =>
              intro i2 wa wb hB he
              split at he
              · exact below_of he (Nat.le_refl _) hB
              · exact he.mono hB
            case hR =>
              intro i2 j2 v2 wa wb hij hB he h
              split at he
              · rename_i hj2
                subst hj2
                refine keepAll_at (E := fun wa wb => wa.grownBy wb (some w.heap.size)) (x := 14) (k := 0) ?_ (by omega) he h
                exact ⟨fun _ v w1 w2 he h => h, fun _ v w1 w2 he h => h, fun _ v w1 w2 he h => h, fun _ v w1 w2 he h => h, fun _ v w1 w2 he h => h, fun _ v w1 w2 he h => h, fun _ v w1 w2 he h => h, fun _ v w1 w2 he h => by obtain ⟨A, n, c, e, h1, h2⟩ := h; exact ⟨A, n, c, e, h1.grown_ he (fun ad ea => by have := h2 ad ea; omega), h2⟩, fun _ v w1 w2 he h => h, fun _ v w1 w2 he h => h, fun _ v w1 w2 he h => h, fun _ v w1 w2 he h => h, fun _ v w1 w2 he h => h, fun _ v w1 w2 he h => h, fun hn => absurd rfl hn, fun _ v w1 w2 he h => h, trivial⟩
              · refine relMono _ ?_ i2 v2 wa wb he h
                exact ⟨fun _ _ _ _ h => h, fun _ _ _ _ h => h, fun _ _ _ _ h => h, fun _ _ _ _ h => h, fun _ _ _ _ h => h, fun _ _ _ _ h => h, fun _ _ _ _ h => h, fun v W W2 hb ⟨A, n, c, e, h, h2⟩ => ⟨A, n, c, e, h.below rfl hb, h2⟩, fun _ _ _ _ h => h, fun _ _ _ _ h => h, fun _ _ _ _ h => h, fun _ _ _ _ h => h, fun _ _ _ _ h => h, fun _ _ _ _ h => h, fun v w1 w2 hb h => h.below hb, fun _ _ _ _ h => h, trivial⟩
            case hP =>
              intro i2 j2 wa wb hij hB he h
              split at he
              · rename_i hj2
                exact ⟨fun e => absurd (e.trans hj2.symm) hij, h.2.grown he⟩
              · exact ⟨fun e => (h.1 e).below he (h.1 e).lt, h.2.below he⟩
            case h0 =>
              intro j2 hj2
              show (j2 = 14 → Blk wr.drew w.heap.size 32 _) ∧ NxB w wr.drew g5 _ _
              have h1 := HM.out.res.drew
              have h2 := NxB.drew (NxSt.b HM.out)
              exact ⟨fun _ => h1, h2⟩
            · refine relG_plain rfl rfl (fun _ _ h => h) ?_
              intro Ac w5 hp
              have hb := hp.bel
              have a5 : Ac.eval (.tmp 5) = .pointer (some ⟨g5, 0, none⟩) := hp.out 5 (by rfl)
              have HN := hp.pre.2
              have z0 : w5.cell? ⟨g5, 0, none⟩ = some (.int .i64 k) := HN.mb.cell 0
              have z1 : w5.cell? ⟨g5, 1, none⟩ = some (.int .u32 (p : Int)) := HN.mb.cell 1
              have z2 : w5.cell? ⟨g5, 2, none⟩ = some (.int .i64 nn) := HN.mb.cell 2
              have z3 : w5.cell? ⟨g5, 3, none⟩ = some (.slice Ab nb cb) := HN.mb.cell 3
              have z4 : w5.cell? ⟨g5, 4, none⟩ = some (.string (str tq)) := HN.mb.cell 4
              have z5 : w5.cell? ⟨g5, 5, none⟩ = some (.int .u32 (oa : Int)) := HN.mb.cell 5
              have z6 : w5.cell? ⟨g5, 6, none⟩ = some (.int .i64 oh) := HN.mb.cell 6
              have z7 : w5.cell? ⟨g5, 7, none⟩ = some (.int .u32 (oi : Int)) := HN.mb.cell 7
              have z8 : w5.cell? ⟨g5, 8, none⟩ = some (.bool fo) := HN.mb.cell 8
              have hc := evalC Ac; have hf := evalF Ac; have hgl := evalG Ac
              obtain ⟨ρ, hρ⟩ : ∃ ρ, Ac.eval = ρ := ⟨_, rfl⟩
              rw [hρ] at a5 hc hf hgl
              exact relPure hρ (.agg #[.int .i64 k, .int .u32 (p : Int), .int .i64 nn, .slice Ab nb cb, .string (str tq), .int .u32 (oa : Int), .int .i64 oh, .int .u32 (oi : Int), .bool fo]) (by simp [go_sem, hc, hf, hgl, ↓IntWalk.iteOmega, a5, *]) rfl
            · refine relG_plain rfl rfl (fun _ _ h => h) ?_
              intro Ac w5 hp
              have hb := hp.bel
              have a6 : Ac.eval (.tmp 6) = .int .i64 (j : Int) := hp.out 6 (by rfl)
              have hc := evalC Ac; have hf := evalF Ac; have hgl := evalG Ac
              obtain ⟨ρ, hρ⟩ : ∃ ρ, Ac.eval = ρ := ⟨_, rfl⟩
              rw [hρ] at a6 hc hf hgl
              exact relPure hρ (.int .i64 (j : Int)) (by simp [go_sem, hc, hf, hgl, ↓IntWalk.iteOmega, a6, *]) rfl
            · refine relG_plain rfl rfl (fun _ _ h => h) ?_
              intro Ac w5 hp
              have hb := hp.bel
              have a39 : Ac.eval (.tmp 39) = .int .i64 (j : Int) := hp.dep 1 (by kernel_rfl)
              have hc := evalC Ac; have hf := evalF Ac; have hgl := evalG Ac
              obtain ⟨ρ, hρ⟩ : ∃ ρ, Ac.eval = ρ := ⟨_, rfl⟩
              rw [hρ] at a39 hc hf hgl
              exact relPure hρ (.int .i64 ((j : Int) + 1)) (by simp [go_sem, hc, hf, hgl, ↓IntWalk.iteOmega, a39, *]) rfl
            · refine relG_plain rfl rfl (fun _ _ h => h) ?_
              intro Ac w5 hp
              have hb := hp.bel
              have a5 : Ac.eval (.tmp 5) = .pointer (some ⟨g5, 0, none⟩) := hp.out 5 (by rfl)
              have HN := hp.pre.2
              have z0 : w5.cell? ⟨g5, 0, none⟩ = some (.int .i64 k) := HN.mb.cell 0
              have z1 : w5.cell? ⟨g5, 1, none⟩ = some (.int .u32 (p : Int)) := HN.mb.cell 1
              have z2 : w5.cell? ⟨g5, 2, none⟩ = some (.int .i64 nn) := HN.mb.cell 2
              have z3 : w5.cell? ⟨g5, 3, none⟩ = some (.slice Ab nb cb) := HN.mb.cell 3
              have z4 : w5.cell? ⟨g5, 4, none⟩ = some (.string (str tq)) := HN.mb.cell 4
              have z5 : w5.cell? ⟨g5, 5, none⟩ = some (.int .u32 (oa : Int)) := HN.mb.cell 5
              have z6 : w5.cell? ⟨g5, 6, none⟩ = some (.int .i64 oh) := HN.mb.cell 6
              have z7 : w5.cell? ⟨g5, 7, none⟩ = some (.int .u32 (oi : Int)) := HN.mb.cell 7
              have z8 : w5.cell? ⟨g5, 8, none⟩ = some (.bool fo) := HN.mb.cell 8
              have hc := evalC Ac; have hf := evalF Ac; have hgl := evalG Ac
              obtain ⟨ρ, hρ⟩ : ∃ ρ, Ac.eval = ρ := ⟨_, rfl⟩
              rw [hρ] at a5 hc hf hgl
              exact relPure hρ (.agg #[.int .i64 k, .int .u32 (p : Int), .int .i64 nn, .slice Ab nb cb, .string (str tq), .int .u32 (oa : Int), .int .i64 oh, .int .u32 (oi : Int), .bool fo]) (by simp [go_sem, hc, hf, hgl, ↓IntWalk.iteOmega, a5, *]) rfl
            · refine relG_plain rfl rfl (fun _ _ h => h) ?_
              intro Ac w5 hp
              have hb := hp.bel
              have a41 : Ac.eval (.tmp 41) = .agg #[.int .i64 k, .int .u32 (p : Int), .int .i64 nn, .slice Ab nb cb, .string (str tq), .int .u32 (oa : Int), .int .i64 oh, .int .u32 (oi : Int), .bool fo] := hp.dep 3 (by kernel_rfl)
              have hc := evalC Ac; have hf := evalF Ac; have hgl := evalG Ac
              obtain ⟨ρ, hρ⟩ : ∃ ρ, Ac.eval = ρ := ⟨_, rfl⟩
              rw [hρ] at a41 hc hf hgl
              refine relCall hρ 29 #[.agg #[.int .i64 k, .int .u32 (p : Int), .int .i64 nn, .slice Ab nb cb, .string (str tq), .int .u32 (oa : Int), .int .i64 oh, .int .u32 (oi : Int), .bool fo]] (by simp [go_sem, hc, hf, hgl, ↓IntWalk.iteOmega, a41, *]) ?_
              refine (sgood_any ⟨k, p, nn, b, tq, oa, oh, oi, fo⟩ Ab nb cb w5 HNb.out HTl.out).mono ?_
              rintro e w6 ⟨rfl, hb6⟩
              exact ⟨_, rfl, by rw [HGd.out]; rfl, hb6⟩
            · refine relG_plain rfl rfl (fun _ _ h => h) ?_
              intro Ac w5 hp
              have hb := hp.bel
              have a42 : Ac.eval (.tmp 42) = .bool true := hp.dep 4 (by kernel_rfl)
              have hc := evalC Ac; have hf := evalF Ac; have hgl := evalG Ac
              obtain ⟨ρ, hρ⟩ : ∃ ρ, Ac.eval = ρ := ⟨_, rfl⟩
              rw [hρ] at a42 hc hf hgl
              exact relPure hρ (.bool true) (by simp [go_sem, hc, hf, hgl, ↓IntWalk.iteOmega, a42, *]) rfl
            · refine relG_guard (g := 5) (b := true) (x := true) rfl (by kernel_rfl) rfl rfl (fun _ _ h => h) (by kernel_rfl) rfl rfl (fun _ _ h => h) ?_
              intro Ac w5 hp
              have hb := hp.bel
              have a5 : Ac.eval (.tmp 5) = .pointer (some ⟨g5, 0, none⟩) := hp.out 5 (by rfl)
              have HN := hp.pre.2
              have z0 : w5.cell? ⟨g5, 0, none⟩ = some (.int .i64 k) := HN.mb.cell 0
              have z1 : w5.cell? ⟨g5, 1, none⟩ = some (.int .u32 (p : Int)) := HN.mb.cell 1
              have z2 : w5.cell? ⟨g5, 2, none⟩ = some (.int .i64 nn) := HN.mb.cell 2
              have z3 : w5.cell? ⟨g5, 3, none⟩ = some (.slice Ab nb cb) := HN.mb.cell 3
              have z4 : w5.cell? ⟨g5, 4, none⟩ = some (.string (str tq)) := HN.mb.cell 4
              have z5 : w5.cell? ⟨g5, 5, none⟩ = some (.int .u32 (oa : Int)) := HN.mb.cell 5
              have z6 : w5.cell? ⟨g5, 6, none⟩ = some (.int .i64 oh) := HN.mb.cell 6
              have z7 : w5.cell? ⟨g5, 7, none⟩ = some (.int .u32 (oi : Int)) := HN.mb.cell 7
              have z8 : w5.cell? ⟨g5, 8, none⟩ = some (.bool fo) := HN.mb.cell 8
              have hc := evalC Ac; have hf := evalF Ac; have hgl := evalG Ac
              obtain ⟨ρ, hρ⟩ : ∃ ρ, Ac.eval = ρ := ⟨_, rfl⟩
              rw [hρ] at a5 hc hf hgl
              exact relPure hρ (.agg #[.int .i64 k, .int .u32 (p : Int), .int .i64 nn, .slice Ab nb cb, .string (str tq), .int .u32 (oa : Int), .int .i64 oh, .int .u32 (oi : Int), .bool fo]) (by simp [go_sem, hc, hf, hgl, ↓IntWalk.iteOmega, a5, *]) rfl
            · refine relG_guard (g := 5) (b := true) (x := true) rfl (by kernel_rfl) rfl rfl (fun _ _ h => h) (by kernel_rfl) rfl rfl (fun _ _ h => h) ?_
              intro Ac w5 hp
              have hb := hp.bel
              have a44 : Ac.eval (.tmp 44) = .agg #[.int .i64 k, .int .u32 (p : Int), .int .i64 nn, .slice Ab nb cb, .string (str tq), .int .u32 (oa : Int), .int .i64 oh, .int .u32 (oi : Int), .bool fo] := hp.dep 6 (by kernel_rfl)
              have hc := evalC Ac; have hf := evalF Ac; have hgl := evalG Ac
              obtain ⟨ρ, hρ⟩ : ∃ ρ, Ac.eval = ρ := ⟨_, rfl⟩
              rw [hρ] at a44 hc hf hgl
              refine relCall hρ 30 #[.agg #[.int .i64 k, .int .u32 (p : Int), .int .i64 nn, .slice Ab nb cb, .string (str tq), .int .u32 (oa : Int), .int .i64 oh, .int .u32 (oi : Int), .bool fo]] (by simp [go_sem, hc, hf, hgl, ↓IntWalk.iteOmega, a44, *]) ?_
              have hby : LstAt 1 byR w5 Ab nb cb b := by have h := hp.pre.2.own; simp only [HNb.out] at h; exact by_lst h
              refine (shown_any ⟨k, p, nn, b, tq, oa, oh, oi, fo⟩ Ab nb cb w5 hby HOk.out HGd.out (HEn.out.below hp.pre.2.bel) (HTb.out.below hp.pre.2.bel)).mono ?_
              rintro e w6 ⟨A6, n6, c6, rfl, hn6, ho6, hb6⟩
              rw [HSM.out] at ho6
              exact ⟨_, rfl, ⟨_, _, _, rfl, StrsAt.of_own ho6 HLe.out, fun ad e => by have h1 := own_low_block ho6 ad.block (by rw [e]; rfl); have h2 := hp.pre.2.mb.lt; have h3 := hp.pre.2.lt; omega⟩, hb6⟩
            · refine relG_guard (g := 5) (b := true) (x := true) rfl (by kernel_rfl) rfl rfl (fun _ _ h => h) (by kernel_rfl) rfl rfl (fun _ _ h => h) ?_
              intro Ac w5 hp
              have hb := hp.bel
              have a0 : Ac.eval (.tmp 0) = .slice (some ⟨g, o, none⟩) 1 1 := hp.out 0 (by rfl)
              have hc := evalC Ac; have hf := evalF Ac; have hgl := evalG Ac
              obtain ⟨ρ, hρ⟩ : ∃ ρ, Ac.eval = ρ := ⟨_, rfl⟩
              rw [hρ] at a0 hc hf hgl
              exact relPure hρ (.slice (some ⟨g, o, none⟩) 1 1) (by simp [go_sem, hc, hf, hgl, ↓IntWalk.iteOmega, a0, *]) rfl
            · refine relG_guard (g := 5) (b := true) (x := true) rfl (by kernel_rfl) rfl rfl (fun _ _ h => h) (by kernel_rfl) rfl rfl (fun _ _ h => h) ?_
              intro Ac w5 hp
              have hb := hp.bel
              have a6 : Ac.eval (.tmp 6) = .int .i64 (j : Int) := hp.out 6 (by rfl)
              have hc := evalC Ac; have hf := evalF Ac; have hgl := evalG Ac
              obtain ⟨ρ, hρ⟩ : ∃ ρ, Ac.eval = ρ := ⟨_, rfl⟩
              rw [hρ] at a6 hc hf hgl
              exact relPure hρ (.int .i64 (j : Int)) (by simp [go_sem, hc, hf, hgl, ↓IntWalk.iteOmega, a6, *]) rfl
            · refine relG_guard (g := 5) (b := true) (x := true) rfl (by kernel_rfl) rfl rfl (fun _ _ h => h) (by kernel_rfl) rfl rfl (fun _ _ h => h) ?_
              intro Ac w5 hp
              have hb := hp.bel
              have a47 : Ac.eval (.tmp 47) = .int .i64 (j : Int) := hp.dep 9 (by kernel_rfl)
              have hc := evalC Ac; have hf := evalF Ac; have hgl := evalG Ac
              obtain ⟨ρ, hρ⟩ : ∃ ρ, Ac.eval = ρ := ⟨_, rfl⟩
              rw [hρ] at a47 hc hf hgl
              exact relPure hρ (.int .i64 ((j : Int) + 1)) (by simp [go_sem, hc, hf, hgl, ↓IntWalk.iteOmega, a47, *]) rfl
            · refine relG_guard (g := 5) (b := true) (x := true) rfl (by kernel_rfl) rfl rfl (fun _ _ h => h) (by kernel_rfl) rfl rfl (fun _ _ h => h) ?_
              intro Ac w5 hp
              have hb := hp.bel
              have a46 : Ac.eval (.tmp 46) = .slice (some ⟨g, o, none⟩) 1 1 := hp.dep 8 (by kernel_rfl)
              have a48 : Ac.eval (.tmp 48) = .int .i64 ((j : Int) + 1) := hp.dep 10 (by kernel_rfl)
              have hc := evalC Ac; have hf := evalF Ac; have hgl := evalG Ac
              obtain ⟨ρ, hρ⟩ : ∃ ρ, Ac.eval = ρ := ⟨_, rfl⟩
              rw [hρ] at a46 a48 hc hf hgl
              exact relPure hρ (.slice (some ⟨g, o, none⟩) (j + 1) 1) (by simp [go_sem, hc, hf, hgl, ↓IntWalk.iteOmega, a46, a48, *]) rfl
            · refine relG_guard (g := 5) (b := true) (x := true) rfl (by kernel_rfl) rfl rfl (fun _ _ h => h) (by kernel_rfl) rfl rfl (fun _ _ h => h) ?_
              intro Ac w5 hp
              have hb := hp.bel
              obtain ⟨A45, n45, c45, a45, hs45, _⟩ := hp.dep 7 (by kernel_rfl)
              change Ac.eval (.tmp 45) = _ at a45
              have a49 : Ac.eval (.tmp 49) = .slice (some ⟨g, o, none⟩) (j + 1) 1 := hp.dep 11 (by kernel_rfl)
              have hc := evalC Ac; have hf := evalF Ac; have hgl := evalG Ac
              obtain ⟨ρ, hρ⟩ : ∃ ρ, Ac.eval = ρ := ⟨_, rfl⟩
              rw [hρ] at a45 a49 hc hf hgl
              refine relCall hρ 41 #[.slice A45 n45 c45, .slice (some ⟨g, o, none⟩) (j + 1) 1] (by simp [go_sem, hc, hf, hgl, ↓IntWalk.iteOmega, a45, a49, *]) ?_
              refine (strEq_any A45 (some ⟨g, o, none⟩) n45 c45 (j + 1) 1 _ _ w5 hs45 (HLt.out.below rfl hp.pre.2.bel)).mono ?_
              rintro e w6 ⟨rfl, hb6⟩
              exact ⟨_, rfl, by rw [HEq.out]; rfl, hb6⟩
            · refine relG_plain rfl rfl (fun _ _ h => h) ?_
              intro Ac w5 hp
              have hb := hp.bel
              have a43 : Ac.eval (.tmp 43) = .bool true := hp.dep 5 (by kernel_rfl)
              have a50 : Ac.eval (.tmp 50) = .bool E := hp.dep 12 (by kernel_rfl)
              have hc := evalC Ac; have hf := evalF Ac; have hgl := evalG Ac
              obtain ⟨ρ, hρ⟩ : ∃ ρ, Ac.eval = ρ := ⟨_, rfl⟩
              rw [hρ] at a43 a50 hc hf hgl
              exact relPure hρ (.bool E) (by simp [go_sem, hc, hf, hgl, ↓IntWalk.iteOmega, a43, a50, *]) rfl
            · refine relG_store rfl ?_
              intro Ac w5 hp
              have hb := hp.bel
              have a2 : Ac.eval (.tmp 2) = .pointer (some ⟨w.heap.size, 0, none⟩) := hp.out 2 (by rfl)
              have a38 : Ac.eval (.tmp 38) = .agg #[.int .i64 k, .int .u32 (p : Int), .int .i64 nn, .slice Ab nb cb, .string (str tq), .int .u32 (oa : Int), .int .i64 oh, .int .u32 (oi : Int), .bool fo] := hp.dep 0 (by kernel_rfl)
              have a2 : Ac.eval (.tmp 2) = .pointer (some ⟨w.heap.size, 0, none⟩) := hp.out 2 (by rfl)
              have a38 : Ac.eval (.tmp 38) = .agg #[.int .i64 k, .int .u32 (p : Int), .int .i64 nn, .slice Ab nb cb, .string (str tq), .int .u32 (oa : Int), .int .i64 oh, .int .u32 (oi : Int), .bool fo] := hp.dep 0 (by kernel_rfl)
              have HN2 := hide hp.pre.2
              have hres2 := hide (hp.pre.1 rfl)
              clear hp
              refine ⟨setMv w5 w.heap.size ⟨k, p, nn, b, tq, oa, oh, oi, fo⟩ (.slice Ab nb cb), .inl (exec_store rfl a2 a38 (store_move w5 _ ⟨k, p, nn, b, tq, oa, oh, oi, fo⟩ Ab nb cb hres2.out)), ⟨?_, ?_, ?_⟩, ?_⟩
              · exact setMv_blk hres2.out
              · exact setMv_own HN2.out.own (fun e => by have := own_low_block HN2.out.own _ e; omega)
              · exact setMv_below HN2.out.bel (Nat.le_refl _)
              · exact setMv_grown
            · refine relG_plain rfl rfl (fun _ _ h => h) ?_
              intro Ac w5 hp
              have hb := hp.bel
              have a40 : Ac.eval (.tmp 40) = .int .i64 ((j : Int) + 1) := hp.dep 2 (by kernel_rfl)
              have hc := evalC Ac; have hf := evalF Ac; have hgl := evalG Ac
              obtain ⟨ρ, hρ⟩ : ∃ ρ, Ac.eval = ρ := ⟨_, rfl⟩
              rw [hρ] at a40 hc hf hgl
              exact relPure hρ (.int .i64 ((j : Int) + 1)) (by simp [go_sem, hc, hf, hgl, ↓IntWalk.iteOmega, a40, *]) rfl
            intro u w8 hb7 hall
            have e3 : u 15 = .int .i64 ((j : Int) + 1) := relAll_at hall (i := 15) (by decide +kernel)
            have e51 : u 13 = .bool E := relAll_at hall (i := 13) (by decide +kernel)
            have efin : NxF w w8 ⟨k, p, nn, b, tq, oa, oh, oi, fo⟩ (.slice Ab nb cb) := relAll_at hall (i := 14) (by decide +kernel)
            clear hall
            simp only [List.drop_succ_cons, List.drop_zero, List.take_succ_cons, List.take_zero, putAll, Act.put, List.setIfInBounds_toArray, List.set_cons_zero, List.set_cons_succ, Nat.zero_add, Nat.reduceAdd, e3, e51]
            have HF8 := hide efin
            have HF := hide efin.res
            have HBF := hide efin.bel
            have HOF := hide efin.own
            clear efin
            go_wp2
            have u0 : w8.cell? ⟨w.heap.size, 0, none⟩ = some (.int .i64 k) := HF.out.cell 0
            have u1 : w8.cell? ⟨w.heap.size, 1, none⟩ = some (.int .u32 (p : Int)) := HF.out.cell 1
            have u2 : w8.cell? ⟨w.heap.size, 2, none⟩ = some (.int .i64 nn) := HF.out.cell 2
            have u3 : w8.cell? ⟨w.heap.size, 3, none⟩ = some (.slice Ab nb cb) := HF.out.cell 3
            have u4 : w8.cell? ⟨w.heap.size, 4, none⟩ = some (.string (str tq)) := HF.out.cell 4
            have u5 : w8.cell? ⟨w.heap.size, 5, none⟩ = some (.int .u32 (oa : Int)) := HF.out.cell 5
            have u6 : w8.cell? ⟨w.heap.size, 6, none⟩ = some (.int .i64 oh) := HF.out.cell 6
            have u7 : w8.cell? ⟨w.heap.size, 7, none⟩ = some (.int .u32 (oi : Int)) := HF.out.cell 7
            have u8 : w8.cell? ⟨w.heap.size, 8, none⟩ = some (.bool fo) := HF.out.cell 8
            refine bodyPost_ret (v := .tuple #[.agg #[.int .i64 k, .int .u32 (p : Int), .int .i64 nn, .slice Ab nb cb, .string (str tq), .int .u32 (oa : Int), .int .i64 oh, .int .u32 (oi : Int), .bool fo], .int .i64 ((j : Int) + 1), .bool E]) (by simp [results, Tryz.results26, go_sem, u0, u1, u2, u3, u4, u5, u6, u7, u8]) rfl ⟨⟨k, p, nn, b, tq, oa, oh, oi, fo⟩, Ab, cb, j + 1, (by rw [HNb.out, HNq.out]; cases E <;> rfl), (fun m k e => by
          rw [HNq.out] at e
          cases E
          · cases e
          · injection e with e; injection e with e1 e2; exact ⟨e1, e2⟩), by simp only; rw [HNb.out]; have := HOF.out; simp only [HNb.out] at this; exact own_baseLe this (Nat.le_succ _), HBF.out⟩
    · have hc2 : (c == 1) = false := by simpa using hc1
      have hc3 : (2 : Int) ≤ (c : Int) := by have := hnc; omega
      go_wp2
      go_loopw [26] (fun iv wr => ∃ j : Nat, j ≤ N ∧ iv = .int .i64 (j : Nat) ∧ NxSt w wr w1.heap.size ⟨k, p, nn, b, joinB (T.take j), oa, oh, oi, fo⟩ (.slice Ab nb cb)) (fun iv _ => N - (intOf iv).toNat)
      case atStart => exact ⟨0, Nat.zero_le _, rfl, HM0.out⟩
      case round =>
        obtain ⟨j, hj, rfl, hst⟩ := hrel
        have HM := hide hst
        obtain ⟨g5, hg5⟩ : ∃ x, w1.heap.size = x := ⟨_, rfl⟩
        rw [hg5] at hst HM ⊢
        have hmlt := hst.mb.lt
        have hfr := hst.mb.frozen 4
        clear hst
        have hTj := HTl.out
        by_cases hlt : j < N
        · obtain ⟨y, hy⟩ : ∃ y, T[j]? = some y := ⟨_, List.getElem?_eq_getElem (by omega)⟩
          obtain ⟨tt, htt⟩ : ∃ tt, str (joinB (T.take j)) = tt := ⟨_, rfl⟩
          have HTt := hide htt
          obtain ⟨x, hx⟩ : ∃ x, str y = x := ⟨_, rfl⟩
          obtain ⟨tx, htx⟩ : ∃ tx, str (Lib.trimPrefix y [124]) = tx := ⟨_, rfl⟩
          have HTx : Hid ((⟨(Lib.trimPrefix x.data.toList (⟨#[124]⟩ : ByteArray).data.toList).toArray⟩ : ByteArray) = tx) := hide (by rw [← htx, ← hx, str_data]; rfl)
          have HNe : Hid (tt ++ (tx ++ ⟨#[10]⟩) = str (joinB (T.take (j + 1)))) := hide (by
            rw [List.take_add_one, hy, Option.toList_some, joinB_snoc, ← cat_str, ← cat_str, htt, htx]; rfl)
          have hs1 : tt.size ≤ 100000 := by
            rw [← htt, str_size]
            have h1 := joinB_len (T.take j)
            have h2 := feedT_take T j
            have h3 := HTf.out
            omega
          have hs2 : tx.size ≤ 100000 := by
            rw [← htx, str_size]
            have h1 := trimP_len y [124]
            have h2 := feedT_mem (List.mem_of_getElem? hy)
            have h3 := HTf.out
            omega
          have hcx : wr.cell? ⟨g, (o + 1) + j, none⟩ = some (.string x) := by
            obtain ⟨g2, o2, hA2, _, hc2⟩ := HLs.out.2.2.2.2 (by omega)
            cases hA2
            have hT2 : (ls.map str)[1 + j]? = some x := by
              have := HTT.out
              rw [← this, List.getElem?_take, if_pos hlt, List.getElem?_drop] at hy
              rw [List.getElem?_map, hy, ← hx]; rfl
            have := (HM.out.bel.cell (p := ⟨g, o + (1 + j), none⟩) hg9).trans (hc2 _ _ hT2)
            rwa [← Nat.add_assoc] at this
          have hgr : g < wr.heap.size := Nat.lt_of_lt_of_le hg9 HM.out.bel.size
          clear htt hx htx hy
          go_wp2
          refine wp_region_relT 7 [(fun v _ => v = .pointer (some ⟨g5, 4, none⟩)), (fun v _ => v = .string tt), (fun v _ => v = .string x), (fun v _ => v = .string tx), (fun v _ => v = .string (tx ++ (⟨#[10]⟩ : ByteArray))), (fun v _ => v = .string (tt ++ (tx ++ (⟨#[10]⟩ : ByteArray)))), (fun v _ => v = .pointer (some ⟨g5, 4, none⟩))] (by kernel_rfl) (by kernel_rfl) (by kernel_rfl) (by kernel_rfl) (by kernel_rfl) (relMono _ ⟨fun _ _ _ _ h => h, fun _ _ _ _ h => h, fun _ _ _ _ h => h, fun _ _ _ _ h => h, fun _ _ _ _ h => h, fun _ _ _ _ h => h, fun _ _ _ _ h => h, trivial⟩) ⟨?_, ?_, ?_, ?_, ?_, ?_, ?_, trivial⟩ ?_
          · refine relStep_plain rfl ?_
            intro Ac w5 hp
            have hb := hp.bel
            have a5 : Ac.eval (.tmp 5) = .pointer (some ⟨g5, 0, none⟩) := hp.out 5 (by rfl)
            have hc := evalC Ac; have hf := evalF Ac; have hgl := evalG Ac
            obtain ⟨ρ, hρ⟩ : ∃ ρ, Ac.eval = ρ := ⟨_, rfl⟩
            rw [hρ] at a5 hc hf hgl
            exact relPure hρ (.pointer (some ⟨g5, 4, none⟩)) (by simp [go_sem, hc, hf, hgl, ↓IntWalk.iteOmega, a5, *]) rfl
          · refine relStep_plain rfl ?_
            intro Ac w5 hp
            have hb := hp.bel
            have a30 : Ac.eval (.tmp 30) = .pointer (some ⟨g5, 4, none⟩) := hp.dep 0 (by kernel_rfl)
            have z4 : w5.cell? ⟨g5, 4, none⟩ = some (.string (str (joinB (T.take j)))) := (HM.out.mb.below hb HM.out.mb.lt).cell 4
            rw [HTt.out] at z4
            have hc := evalC Ac; have hf := evalF Ac; have hgl := evalG Ac
            obtain ⟨ρ, hρ⟩ : ∃ ρ, Ac.eval = ρ := ⟨_, rfl⟩
            rw [hρ] at a30 hc hf hgl
            exact relPure hρ (.string tt) (by simp [go_sem, hc, hf, hgl, ↓IntWalk.iteOmega, a30, *]) rfl
          · refine relStep_plain rfl ?_
            intro Ac w5 hp
            have hb := hp.bel
            have a8 : Ac.eval (.tmp 8) = .string x := hp.out 8 (by rfl)
            have hc := evalC Ac; have hf := evalF Ac; have hgl := evalG Ac
            obtain ⟨ρ, hρ⟩ : ∃ ρ, Ac.eval = ρ := ⟨_, rfl⟩
            rw [hρ] at a8 hc hf hgl
            exact relPure hρ (.string x) (by simp [go_sem, hc, hf, hgl, ↓IntWalk.iteOmega, a8, *]) rfl
          · refine relStep_plain rfl ?_
            intro Ac w5 hp
            have hb := hp.bel
            have a32 : Ac.eval (.tmp 32) = .string x := hp.dep 2 (by kernel_rfl)
            have hc := evalC Ac; have hf := evalF Ac; have hgl := evalG Ac
            obtain ⟨ρ, hρ⟩ : ∃ ρ, Ac.eval = ρ := ⟨_, rfl⟩
            rw [hρ] at a32 hc hf hgl
            refine relCall hρ 40 #[.string x, .string ⟨#[124]⟩] (by simp [go_sem, hc, hf, hgl, ↓IntWalk.iteOmega, a32, *]) ?_
            refine (Tryz.strings_TrimPrefix x ⟨#[124]⟩ w5).mono ?_
            rintro e w6 ⟨rfl, rfl⟩
            exact ⟨_, rfl, by rw [HTx.out]; rfl, Below.refl _ _⟩
          · refine relStep_plain rfl ?_
            intro Ac w5 hp
            have hb := hp.bel
            have a33 : Ac.eval (.tmp 33) = .string tx := hp.dep 3 (by kernel_rfl)
            have hc := evalC Ac; have hf := evalF Ac; have hgl := evalG Ac
            obtain ⟨ρ, hρ⟩ : ∃ ρ, Ac.eval = ρ := ⟨_, rfl⟩
            rw [hρ] at a33 hc hf hgl
            exact relPure hρ (.string (tx ++ (⟨#[10]⟩ : ByteArray))) (by simp [go_sem, hc, hf, hgl, ↓IntWalk.iteOmega, a33, *]) rfl
          · refine relStep_plain rfl ?_
            intro Ac w5 hp
            have hb := hp.bel
            have a31 : Ac.eval (.tmp 31) = .string tt := hp.dep 1 (by kernel_rfl)
            have a34 : Ac.eval (.tmp 34) = .string (tx ++ (⟨#[10]⟩ : ByteArray)) := hp.dep 4 (by kernel_rfl)
            have hc := evalC Ac; have hf := evalF Ac; have hgl := evalG Ac
            obtain ⟨ρ, hρ⟩ : ∃ ρ, Ac.eval = ρ := ⟨_, rfl⟩
            rw [hρ] at a31 a34 hc hf hgl
            exact relPure hρ (.string (tt ++ (tx ++ (⟨#[10]⟩ : ByteArray)))) (by simp [go_sem, hc, hf, hgl, ↓IntWalk.iteOmega, a31, a34, *]) rfl
          · refine relStep_plain rfl ?_
            intro Ac w5 hp
            have hb := hp.bel
            have a5 : Ac.eval (.tmp 5) = .pointer (some ⟨g5, 0, none⟩) := hp.out 5 (by rfl)
            have hc := evalC Ac; have hf := evalF Ac; have hgl := evalG Ac
            obtain ⟨ρ, hρ⟩ : ∃ ρ, Ac.eval = ρ := ⟨_, rfl⟩
            rw [hρ] at a5 hc hf hgl
            exact relPure hρ (.pointer (some ⟨g5, 4, none⟩)) (by simp [go_sem, hc, hf, hgl, ↓IntWalk.iteOmega, a5, *]) rfl
          intro u w8 hb7 hall
          have e35 : u 5 = .string (tt ++ (tx ++ (⟨#[10]⟩ : ByteArray))) := relAll_at hall (i := 5) (by decide +kernel)
          have e36 : u 6 = .pointer (some ⟨g5, 4, none⟩) := relAll_at hall (i := 6) (by decide +kernel)
          clear hall
          simp only [List.drop_succ_cons, List.drop_zero, List.take_succ_cons, List.take_zero, putAll, Act.put, List.setIfInBounds_toArray, List.set_cons_zero, List.set_cons_succ, Nat.zero_add, Nat.reduceAdd, e35, e36]
          have hM8 := HM.out.below hb7
          have HM8 := hide hM8
          have d4 := hM8.mb.cell 4
          have f4 := hM8.mb.frozen 4
          have HM9 : Hid (NxSt w (w8.setCell ⟨g5, 4, none⟩ (.string (tt ++ (tx ++ ⟨#[10]⟩)))) g5 ⟨k, p, nn, b, joinB (T.take (j + 1)), oa, oh, oi, fo⟩ (.slice Ab nb cb)) := hide (hM8.set_ 4 _ (by rw [HNe.out]; rfl) rfl)
          clear hM8
          go_wp2
          go_roundw
          case rel => exact ⟨j + 1, by omega, by go_num, HM9.out⟩
          case measure => simp [intOf]; omega
        · obtain rfl : j = N := by omega
          have HTk : Hid (T.take j = T) := hide (List.take_of_length_le (by omega))
          rw [HTk.out] at HM
          obtain ⟨tq, htq⟩ : ∃ tq, joinB T = tq := ⟨_, rfl⟩
          rw [htq] at HM HFu
          try simp only at HFu
          have HTl : Hid (tq.length ≤ 9223372036854775807) := hide (by
            rw [← htq]
            have h1 := joinB_len T
            have h3 := HTf.out
            omega)
          have HO5 : Hid (LstAt 1 byR wr Ab nb cb b) := hide (by have h := HM.out.own; simp only at h; rw [HNb.out] at h; exact by_lst h)
          have HLt := hide (HLs.out.take_ (m := j + 1) (by omega))
          rw [← List.map_take] at HLt
          clear htq hlt hTj hmlt hfr
          cases hgd : mvGood ⟨k, p, nn, b, tq, oa, oh, oi, fo⟩
          · have HGd := hide hgd
            have HNone : Hid (nextP ls = none) := hide (by rw [HNx2.out, HFu.out, hgd]; rfl)
            clear hgd
            go_wp2
            refine wp_region_relG 16 w.heap.size HM.out.bel.size [(fun v _ => v = .agg #[.int .i64 k, .int .u32 (p : Int), .int .i64 nn, .slice Ab nb cb, .string (str tq), .int .u32 (oa : Int), .int .i64 oh, .int .u32 (oi : Int), .bool fo]), (fun v _ => v = .int .i64 (j : Int)), (fun v _ => v = .int .i64 ((j : Int) + 1)), (fun v _ => v = .agg #[.int .i64 k, .int .u32 (p : Int), .int .i64 nn, .slice Ab nb cb, .string (str tq), .int .u32 (oa : Int), .int .i64 oh, .int .u32 (oi : Int), .bool fo]), (fun v _ => v = .bool false), (fun v _ => v = .bool false), (fun v _ => v = undef), (fun v _ => v = undef), (fun v _ => v = undef), (fun v _ => v = undef), (fun v _ => v = undef), (fun v _ => v = undef), (fun v _ => v = undef), (fun v _ => v = .bool false), (fun _ W => NxF w W ⟨k, p, nn, b, tq, oa, oh, oi, fo⟩ (.slice Ab nb cb)), (fun v _ => v = .int .i64 ((j : Int) + 1))] (fun i W => (i = 14 → Blk W w.heap.size 32 #[.int .i64 0, .int .u32 0, .int .i64 0, .slice none 0 0, .string ⟨#[]⟩, .int .u32 0, .int .i64 0, .int .u32 0, .bool false]) ∧ NxB w W g5 ⟨k, p, nn, b, tq, oa, oh, oi, fo⟩ (.slice Ab nb cb)) (fun i Wa Wb => if i = 14 then Wa.grownBy Wb (some w.heap.size) else Below Wa.heap.size Wa Wb) (by kernel_rfl) (by kernel_rfl) (by kernel_rfl) (by kernel_rfl) (by kernel_rfl) ?hE ?hR ?hP ?h0 ⟨?_, ?_, ?_, ?_, ?_, ?_, ?_, ?_, ?_, ?_, ?_, ?_, ?_, ?_, ?_, ?_, trivial⟩ ?_
            case hE =>
              intro i2 wa wb hB he
              split at he
              · exact below_of he (Nat.le_refl _) hB
              · exact he.mono hB
            case hR =>
              intro i2 j2 v2 wa wb hij hB he h
              split at he
              · rename_i hj2
                subst hj2
                refine keepAll_at (E := fun wa wb => wa.grownBy wb (some w.heap.size)) (x := 14) (k := 0) ?_ (by omega) he h
                exact ⟨fun _ v w1 w2 he h => h, fun _ v w1 w2 he h => h, fun _ v w1 w2 he h => h, fun _ v w1 w2 he h => h, fun _ v w1 w2 he h => h, fun _ v w1 w2 he h => h, fun _ v w1 w2 he h => h, fun _ v w1 w2 he h => h, fun _ v w1 w2 he h => h, fun _ v w1 w2 he h => h, fun _ v w1 w2 he h => h, fun _ v w1 w2 he h => h, fun _ v w1 w2 he h => h, fun _ v w1 w2 he h => h, fun hn => absurd rfl hn, fun _ v w1 w2 he h => h, trivial⟩
              · refine relMono _ ?_ i2 v2 wa wb he h
                exact ⟨fun _ _ _ _ h => h, fun _ _ _ _ h => h, fun _ _ _ _ h => h, fun _ _ _ _ h => h, fun _ _ _ _ h => h, fun _ _ _ _ h => h, fun _ _ _ _ h => h, fun _ _ _ _ h => h, fun _ _ _ _ h => h, fun _ _ _ _ h => h, fun _ _ _ _ h => h, fun _ _ _ _ h => h, fun _ _ _ _ h => h, fun _ _ _ _ h => h, fun v w1 w2 hb h => h.below hb, fun _ _ _ _ h => h, trivial⟩
            case hP =>
              intro i2 j2 wa wb hij hB he h
              split at he
              · rename_i hj2
                exact ⟨fun e => absurd (e.trans hj2.symm) hij, h.2.grown he⟩
              · exact ⟨fun e => (h.1 e).below he (h.1 e).lt, h.2.below he⟩
            case h0 =>
              intro j2 hj2
              show (j2 = 14 → Blk wr.drew w.heap.size 32 _) ∧ NxB w wr.drew g5 _ _
              have h1 := HM.out.res.drew
              have h2 := NxB.drew (NxSt.b HM.out)
              exact ⟨fun _ => h1, h2⟩
            · refine relG_plain rfl rfl (fun _ _ h => h) ?_
              intro Ac w5 hp
              have hb := hp.bel
              have a5 : Ac.eval (.tmp 5) = .pointer (some ⟨g5, 0, none⟩) := hp.out 5 (by rfl)
              have HN := hp.pre.2
              have z0 : w5.cell? ⟨g5, 0, none⟩ = some (.int .i64 k) := HN.mb.cell 0
              have z1 : w5.cell? ⟨g5, 1, none⟩ = some (.int .u32 (p : Int)) := HN.mb.cell 1
              have z2 : w5.cell? ⟨g5, 2, none⟩ = some (.int .i64 nn) := HN.mb.cell 2
              have z3 : w5.cell? ⟨g5, 3, none⟩ = some (.slice Ab nb cb) := HN.mb.cell 3
              have z4 : w5.cell? ⟨g5, 4, none⟩ = some (.string (str tq)) := HN.mb.cell 4
              have z5 : w5.cell? ⟨g5, 5, none⟩ = some (.int .u32 (oa : Int)) := HN.mb.cell 5
              have z6 : w5.cell? ⟨g5, 6, none⟩ = some (.int .i64 oh) := HN.mb.cell 6
              have z7 : w5.cell? ⟨g5, 7, none⟩ = some (.int .u32 (oi : Int)) := HN.mb.cell 7
              have z8 : w5.cell? ⟨g5, 8, none⟩ = some (.bool fo) := HN.mb.cell 8
              have hc := evalC Ac; have hf := evalF Ac; have hgl := evalG Ac
              obtain ⟨ρ, hρ⟩ : ∃ ρ, Ac.eval = ρ := ⟨_, rfl⟩
              rw [hρ] at a5 hc hf hgl
              exact relPure hρ (.agg #[.int .i64 k, .int .u32 (p : Int), .int .i64 nn, .slice Ab nb cb, .string (str tq), .int .u32 (oa : Int), .int .i64 oh, .int .u32 (oi : Int), .bool fo]) (by simp [go_sem, hc, hf, hgl, ↓IntWalk.iteOmega, a5, *]) rfl
            · refine relG_plain rfl rfl (fun _ _ h => h) ?_
              intro Ac w5 hp
              have hb := hp.bel
              have a6 : Ac.eval (.tmp 6) = .int .i64 (j : Int) := hp.out 6 (by rfl)
              have hc := evalC Ac; have hf := evalF Ac; have hgl := evalG Ac
              obtain ⟨ρ, hρ⟩ : ∃ ρ, Ac.eval = ρ := ⟨_, rfl⟩
              rw [hρ] at a6 hc hf hgl
              exact relPure hρ (.int .i64 (j : Int)) (by simp [go_sem, hc, hf, hgl, ↓IntWalk.iteOmega, a6, *]) rfl
            · refine relG_plain rfl rfl (fun _ _ h => h) ?_
              intro Ac w5 hp
              have hb := hp.bel
              have a39 : Ac.eval (.tmp 39) = .int .i64 (j : Int) := hp.dep 1 (by kernel_rfl)
              have hc := evalC Ac; have hf := evalF Ac; have hgl := evalG Ac
              obtain ⟨ρ, hρ⟩ : ∃ ρ, Ac.eval = ρ := ⟨_, rfl⟩
              rw [hρ] at a39 hc hf hgl
              exact relPure hρ (.int .i64 ((j : Int) + 1)) (by simp [go_sem, hc, hf, hgl, ↓IntWalk.iteOmega, a39, *]) rfl
            · refine relG_plain rfl rfl (fun _ _ h => h) ?_
              intro Ac w5 hp
              have hb := hp.bel
              have a5 : Ac.eval (.tmp 5) = .pointer (some ⟨g5, 0, none⟩) := hp.out 5 (by rfl)
              have HN := hp.pre.2
              have z0 : w5.cell? ⟨g5, 0, none⟩ = some (.int .i64 k) := HN.mb.cell 0
              have z1 : w5.cell? ⟨g5, 1, none⟩ = some (.int .u32 (p : Int)) := HN.mb.cell 1
              have z2 : w5.cell? ⟨g5, 2, none⟩ = some (.int .i64 nn) := HN.mb.cell 2
              have z3 : w5.cell? ⟨g5, 3, none⟩ = some (.slice Ab nb cb) := HN.mb.cell 3
              have z4 : w5.cell? ⟨g5, 4, none⟩ = some (.string (str tq)) := HN.mb.cell 4
              have z5 : w5.cell? ⟨g5, 5, none⟩ = some (.int .u32 (oa : Int)) := HN.mb.cell 5
              have z6 : w5.cell? ⟨g5, 6, none⟩ = some (.int .i64 oh) := HN.mb.cell 6
              have z7 : w5.cell? ⟨g5, 7, none⟩ = some (.int .u32 (oi : Int)) := HN.mb.cell 7
              have z8 : w5.cell? ⟨g5, 8, none⟩ = some (.bool fo) := HN.mb.cell 8
              have hc := evalC Ac; have hf := evalF Ac; have hgl := evalG Ac
              obtain ⟨ρ, hρ⟩ : ∃ ρ, Ac.eval = ρ := ⟨_, rfl⟩
              rw [hρ] at a5 hc hf hgl
              exact relPure hρ (.agg #[.int .i64 k, .int .u32 (p : Int), .int .i64 nn, .slice Ab nb cb, .string (str tq), .int .u32 (oa : Int), .int .i64 oh, .int .u32 (oi : Int), .bool fo]) (by simp [go_sem, hc, hf, hgl, ↓IntWalk.iteOmega, a5, *]) rfl
            · refine relG_plain rfl rfl (fun _ _ h => h) ?_
              intro Ac w5 hp
              have hb := hp.bel
              have a41 : Ac.eval (.tmp 41) = .agg #[.int .i64 k, .int .u32 (p : Int), .int .i64 nn, .slice Ab nb cb, .string (str tq), .int .u32 (oa : Int), .int .i64 oh, .int .u32 (oi : Int), .bool fo] := hp.dep 3 (by kernel_rfl)
              have hc := evalC Ac; have hf := evalF Ac; have hgl := evalG Ac
              obtain ⟨ρ, hρ⟩ : ∃ ρ, Ac.eval = ρ := ⟨_, rfl⟩
              rw [hρ] at a41 hc hf hgl
              refine relCall hρ 29 #[.agg #[.int .i64 k, .int .u32 (p : Int), .int .i64 nn, .slice Ab nb cb, .string (str tq), .int .u32 (oa : Int), .int .i64 oh, .int .u32 (oi : Int), .bool fo]] (by simp [go_sem, hc, hf, hgl, ↓IntWalk.iteOmega, a41, *]) ?_
              refine (sgood_any ⟨k, p, nn, b, tq, oa, oh, oi, fo⟩ Ab nb cb w5 HNb.out HTl.out).mono ?_
              rintro e w6 ⟨rfl, hb6⟩
              exact ⟨_, rfl, by rw [HGd.out]; rfl, hb6⟩
            · refine relG_plain rfl rfl (fun _ _ h => h) ?_
              intro Ac w5 hp
              have hb := hp.bel
              have a42 : Ac.eval (.tmp 42) = .bool false := hp.dep 4 (by kernel_rfl)
              have hc := evalC Ac; have hf := evalF Ac; have hgl := evalG Ac
              obtain ⟨ρ, hρ⟩ : ∃ ρ, Ac.eval = ρ := ⟨_, rfl⟩
              rw [hρ] at a42 hc hf hgl
              exact relPure hρ (.bool false) (by simp [go_sem, hc, hf, hgl, ↓IntWalk.iteOmega, a42, *]) rfl
            · refine relG_guard (g := 5) (b := true) (x := false) rfl (by kernel_rfl) rfl rfl (fun _ _ h => h) (by kernel_rfl) rfl rfl (fun _ _ h => h) ?_
              exact fun _ => rfl
            · refine relG_guard (g := 5) (b := true) (x := false) rfl (by kernel_rfl) rfl rfl (fun _ _ h => h) (by kernel_rfl) rfl rfl (fun _ _ h => h) ?_
              exact fun _ => rfl
            · refine relG_guard (g := 5) (b := true) (x := false) rfl (by kernel_rfl) rfl rfl (fun _ _ h => h) (by kernel_rfl) rfl rfl (fun _ _ h => h) ?_
              exact fun _ => rfl
            · refine relG_guard (g := 5) (b := true) (x := false) rfl (by kernel_rfl) rfl rfl (fun _ _ h => h) (by kernel_rfl) rfl rfl (fun _ _ h => h) ?_
              exact fun _ => rfl
            · refine relG_guard (g := 5) (b := true) (x := false) rfl (by kernel_rfl) rfl rfl (fun _ _ h => h) (by kernel_rfl) rfl rfl (fun _ _ h => h) ?_
              exact fun _ => rfl
            · refine relG_guard (g := 5) (b := true) (x := false) rfl (by kernel_rfl) rfl rfl (fun _ _ h => h) (by kernel_rfl) rfl rfl (fun _ _ h => h) ?_
              exact fun _ => rfl
            · refine relG_guard (g := 5) (b := true) (x := false) rfl (by kernel_rfl) rfl rfl (fun _ _ h => h) (by kernel_rfl) rfl rfl (fun _ _ h => h) ?_
              exact fun _ => rfl
            · refine relG_plain rfl rfl (fun _ _ h => h) ?_
              intro Ac w5 hp
              have hb := hp.bel
              have a43 : Ac.eval (.tmp 43) = .bool false := hp.dep 5 (by kernel_rfl)
              have hc := evalC Ac; have hf := evalF Ac; have hgl := evalG Ac
              obtain ⟨ρ, hρ⟩ : ∃ ρ, Ac.eval = ρ := ⟨_, rfl⟩
              rw [hρ] at a43 hc hf hgl
              exact relPure hρ (.bool false) (by simp [go_sem, hc, hf, hgl, ↓IntWalk.iteOmega, a43, *]) rfl
            · refine relG_store rfl ?_
              intro Ac w5 hp
              have hb := hp.bel
              have a2 : Ac.eval (.tmp 2) = .pointer (some ⟨w.heap.size, 0, none⟩) := hp.out 2 (by rfl)
              have a38 : Ac.eval (.tmp 38) = .agg #[.int .i64 k, .int .u32 (p : Int), .int .i64 nn, .slice Ab nb cb, .string (str tq), .int .u32 (oa : Int), .int .i64 oh, .int .u32 (oi : Int), .bool fo] := hp.dep 0 (by kernel_rfl)
              have a2 : Ac.eval (.tmp 2) = .pointer (some ⟨w.heap.size, 0, none⟩) := hp.out 2 (by rfl)
              have a38 : Ac.eval (.tmp 38) = .agg #[.int .i64 k, .int .u32 (p : Int), .int .i64 nn, .slice Ab nb cb, .string (str tq), .int .u32 (oa : Int), .int .i64 oh, .int .u32 (oi : Int), .bool fo] := hp.dep 0 (by kernel_rfl)
              have HN2 := hide hp.pre.2
              have hres2 := hide (hp.pre.1 rfl)
              clear hp
              refine ⟨setMv w5 w.heap.size ⟨k, p, nn, b, tq, oa, oh, oi, fo⟩ (.slice Ab nb cb), .inl (exec_store rfl a2 a38 (store_move w5 _ ⟨k, p, nn, b, tq, oa, oh, oi, fo⟩ Ab nb cb hres2.out)), ⟨?_, ?_, ?_⟩, ?_⟩
              · exact setMv_blk hres2.out
              · exact setMv_own HN2.out.own (fun e => by have := own_low_block HN2.out.own _ e; omega)
              · exact setMv_below HN2.out.bel (Nat.le_refl _)
              · exact setMv_grown
            · refine relG_plain rfl rfl (fun _ _ h => h) ?_
              intro Ac w5 hp
              have hb := hp.bel
              have a40 : Ac.eval (.tmp 40) = .int .i64 ((j : Int) + 1) := hp.dep 2 (by kernel_rfl)
              have hc := evalC Ac; have hf := evalF Ac; have hgl := evalG Ac
              obtain ⟨ρ, hρ⟩ : ∃ ρ, Ac.eval = ρ := ⟨_, rfl⟩
              rw [hρ] at a40 hc hf hgl
              exact relPure hρ (.int .i64 ((j : Int) + 1)) (by simp [go_sem, hc, hf, hgl, ↓IntWalk.iteOmega, a40, *]) rfl
            intro u w8 hb7 hall
            have e3 : u 15 = .int .i64 ((j : Int) + 1) := relAll_at hall (i := 15) (by decide +kernel)
            have e51 : u 13 = .bool false := relAll_at hall (i := 13) (by decide +kernel)
            have efin : NxF w w8 ⟨k, p, nn, b, tq, oa, oh, oi, fo⟩ (.slice Ab nb cb) := relAll_at hall (i := 14) (by decide +kernel)
            clear hall
            simp only [List.drop_succ_cons, List.drop_zero, List.take_succ_cons, List.take_zero, putAll, Act.put, List.setIfInBounds_toArray, List.set_cons_zero, List.set_cons_succ, Nat.zero_add, Nat.reduceAdd, e3, e51]
            have HF8 := hide efin
            have HF := hide efin.res
            have HBF := hide efin.bel
            have HOF := hide efin.own
            clear efin
            go_wp2
            have u0 : w8.cell? ⟨w.heap.size, 0, none⟩ = some (.int .i64 k) := HF.out.cell 0
            have u1 : w8.cell? ⟨w.heap.size, 1, none⟩ = some (.int .u32 (p : Int)) := HF.out.cell 1
            have u2 : w8.cell? ⟨w.heap.size, 2, none⟩ = some (.int .i64 nn) := HF.out.cell 2
            have u3 : w8.cell? ⟨w.heap.size, 3, none⟩ = some (.slice Ab nb cb) := HF.out.cell 3
            have u4 : w8.cell? ⟨w.heap.size, 4, none⟩ = some (.string (str tq)) := HF.out.cell 4
            have u5 : w8.cell? ⟨w.heap.size, 5, none⟩ = some (.int .u32 (oa : Int)) := HF.out.cell 5
            have u6 : w8.cell? ⟨w.heap.size, 6, none⟩ = some (.int .i64 oh) := HF.out.cell 6
            have u7 : w8.cell? ⟨w.heap.size, 7, none⟩ = some (.int .u32 (oi : Int)) := HF.out.cell 7
            have u8 : w8.cell? ⟨w.heap.size, 8, none⟩ = some (.bool fo) := HF.out.cell 8
            refine bodyPost_ret (v := .tuple #[.agg #[.int .i64 k, .int .u32 (p : Int), .int .i64 nn, .slice Ab nb cb, .string (str tq), .int .u32 (oa : Int), .int .i64 oh, .int .u32 (oi : Int), .bool fo], .int .i64 ((j : Int) + 1), .bool false]) (by simp [results, Tryz.results26, go_sem, u0, u1, u2, u3, u4, u5, u6, u7, u8]) rfl ⟨⟨k, p, nn, b, tq, oa, oh, oi, fo⟩, Ab, cb, j + 1, (by rw [HNb.out, HNone.out]; rfl), (fun m k e => by rw [HNone.out] at e; cases e), by simp only; rw [HNb.out]; have := HOF.out; simp only [HNb.out] at this; exact own_baseLe this (Nat.le_succ _), HBF.out⟩
          · have HGd := hide hgd
            have hfo := fullM_only (ls := ls) (by rw [HFu.out]; exact hgd)
            rw [HFu.out] at hfo
            have HOk := hide hfo.2
            obtain ⟨SM, hSM⟩ : ∃ SM, shownM ⟨k, p, nn, b, tq, oa, oh, oi, fo⟩ = SM := ⟨_, rfl⟩
            have HLe : Hid (∀ x ∈ SM, x.length ≤ maxLen) := hide (fun x hx => by rw [← hSM] at hx; have := shown_lens hfo.2 hgd x hx; unfold maxLen; omega)
            obtain ⟨E, hE⟩ : ∃ E, decide (SM = ls.take (j + 1)) = E := ⟨_, rfl⟩
            have HEq : Hid (decide (SM.map str = (ls.take (j + 1)).map str) = E) := hide (by rw [strs_dec]; exact hE)
            have HNq : Hid (nextP ls = if E then some (⟨k, p, nn, b, tq, oa, oh, oi, fo⟩, j + 1) else none) := hide (by rw [HNx2.out, HFu.out, hgd, hSM, hE]; rfl)
            have HSM := hide hSM
            clear hgd hfo hSM hE
            go_wp2
            refine wp_region_relG 16 w.heap.size HM.out.bel.size [(fun v _ => v = .agg #[.int .i64 k, .int .u32 (p : Int), .int .i64 nn, .slice Ab nb cb, .string (str tq), .int .u32 (oa : Int), .int .i64 oh, .int .u32 (oi : Int), .bool fo]), (fun v _ => v = .int .i64 (j : Int)), (fun v _ => v = .int .i64 ((j : Int) + 1)), (fun v _ => v = .agg #[.int .i64 k, .int .u32 (p : Int), .int .i64 nn, .slice Ab nb cb, .string (str tq), .int .u32 (oa : Int), .int .i64 oh, .int .u32 (oi : Int), .bool fo]), (fun v _ => v = .bool true), (fun v _ => v = .bool true), (fun v _ => v = .agg #[.int .i64 k, .int .u32 (p : Int), .int .i64 nn, .slice Ab nb cb, .string (str tq), .int .u32 (oa : Int), .int .i64 oh, .int .u32 (oi : Int), .bool fo]), (fun v W => ∃ A n c, v = .slice A n c ∧ StrsAt W A n c (SM.map str) ∧ ∀ ad, A = some ad → w.heap.size < ad.block), (fun v _ => v = .slice (some ⟨g, o, none⟩) n c), (fun v _ => v = .int .i64 (j : Int)), (fun v _ => v = .int .i64 ((j : Int) + 1)), (fun v _ => v = .slice (some ⟨g, o, none⟩) (j + 1) c), (fun v _ => v = .bool E), (fun v _ => v = .bool E), (fun _ W => NxF w W ⟨k, p, nn, b, tq, oa, oh, oi, fo⟩ (.slice Ab nb cb)), (fun v _ => v = .int .i64 ((j : Int) + 1))] (fun i W => (i = 14 → Blk W w.heap.size 32 #[.int .i64 0, .int .u32 0, .int .i64 0, .slice none 0 0, .string ⟨#[]⟩, .int .u32 0, .int .i64 0, .int .u32 0, .bool false]) ∧ NxB w W g5 ⟨k, p, nn, b, tq, oa, oh, oi, fo⟩ (.slice Ab nb cb)) (fun i Wa Wb => if i = 14 then Wa.grownBy Wb (some w.heap.size) else Below Wa.heap.size Wa Wb) (by kernel_rfl) (by kernel_rfl) (by kernel_rfl) (by kernel_rfl) (by kernel_rfl) ?hE ?hR ?hP ?h0 ⟨?_, ?_, ?_, ?_, ?_, ?_, ?_, ?_, ?_, ?_, ?_, ?_, ?_, ?_, ?_, ?_, trivial⟩ ?_
            case hE =>
              intro i2 wa wb hB he
              split at he
              · exact below_of he (Nat.le_refl _) hB
              · exact he.mono hB
            case hR =>
              intro i2 j2 v2 wa wb hij hB he h
              split at he
              · rename_i hj2
                subst hj2
                refine keepAll_at (E := fun wa wb => wa.grownBy wb (some w.heap.size)) (x := 14) (k := 0) ?_ (by omega) he h
                exact ⟨fun _ v w1 w2 he h => h, fun _ v w1 w2 he h => h, fun _ v w1 w2 he h => h, fun _ v w1 w2 he h => h, fun _ v w1 w2 he h => h, fun _ v w1 w2 he h => h, fun _ v w1 w2 he h => h, fun _ v w1 w2 he h => by obtain ⟨A, n, c, e, h1, h2⟩ := h; exact ⟨A, n, c, e, h1.grown_ he (fun ad ea => by have := h2 ad ea; omega), h2⟩, fun _ v w1 w2 he h => h, fun _ v w1 w2 he h => h, fun _ v w1 w2 he h => h, fun _ v w1 w2 he h => h, fun _ v w1 w2 he h => h, fun _ v w1 w2 he h => h, fun hn => absurd rfl hn, fun _ v w1 w2 he h => h, trivial⟩
              · refine relMono _ ?_ i2 v2 wa wb he h
                exact ⟨fun _ _ _ _ h => h, fun _ _ _ _ h => h, fun _ _ _ _ h => h, fun _ _ _ _ h => h, fun _ _ _ _ h => h, fun _ _ _ _ h => h, fun _ _ _ _ h => h, fun v W W2 hb ⟨A, n, c, e, h, h2⟩ => ⟨A, n, c, e, h.below rfl hb, h2⟩, fun _ _ _ _ h => h, fun _ _ _ _ h => h, fun _ _ _ _ h => h, fun _ _ _ _ h => h, fun _ _ _ _ h => h, fun _ _ _ _ h => h, fun v w1 w2 hb h => h.below hb, fun _ _ _ _ h => h, trivial⟩
            case hP =>
              intro i2 j2 wa wb hij hB he h
              split at he
              · rename_i hj2
                exact ⟨fun e => absurd (e.trans hj2.symm) hij, h.2.grown he⟩
              · exact ⟨fun e => (h.1 e).below he (h.1 e).lt, h.2.below he⟩
            case h0 =>
              intro j2 hj2
              show (j2 = 14 → Blk wr.drew w.heap.size 32 _) ∧ NxB w wr.drew g5 _ _
              have h1 := HM.out.res.drew
              have h2 := NxB.drew (NxSt.b HM.out)
              exact ⟨fun _ => h1, h2⟩
            · refine relG_plain rfl rfl (fun _ _ h => h) ?_
              intro Ac w5 hp
              have hb := hp.bel
              have a5 : Ac.eval (.tmp 5) = .pointer (some ⟨g5, 0, none⟩) := hp.out 5 (by rfl)
              have HN := hp.pre.2
              have z0 : w5.cell? ⟨g5, 0, none⟩ = some (.int .i64 k) := HN.mb.cell 0
              have z1 : w5.cell? ⟨g5, 1, none⟩ = some (.int .u32 (p : Int)) := HN.mb.cell 1
              have z2 : w5.cell? ⟨g5, 2, none⟩ = some (.int .i64 nn) := HN.mb.cell 2
              have z3 : w5.cell? ⟨g5, 3, none⟩ = some (.slice Ab nb cb) := HN.mb.cell 3
              have z4 : w5.cell? ⟨g5, 4, none⟩ = some (.string (str tq)) := HN.mb.cell 4
              have z5 : w5.cell? ⟨g5, 5, none⟩ = some (.int .u32 (oa : Int)) := HN.mb.cell 5
              have z6 : w5.cell? ⟨g5, 6, none⟩ = some (.int .i64 oh) := HN.mb.cell 6
              have z7 : w5.cell? ⟨g5, 7, none⟩ = some (.int .u32 (oi : Int)) := HN.mb.cell 7
              have z8 : w5.cell? ⟨g5, 8, none⟩ = some (.bool fo) := HN.mb.cell 8
              have hc := evalC Ac; have hf := evalF Ac; have hgl := evalG Ac
              obtain ⟨ρ, hρ⟩ : ∃ ρ, Ac.eval = ρ := ⟨_, rfl⟩
              rw [hρ] at a5 hc hf hgl
              exact relPure hρ (.agg #[.int .i64 k, .int .u32 (p : Int), .int .i64 nn, .slice Ab nb cb, .string (str tq), .int .u32 (oa : Int), .int .i64 oh, .int .u32 (oi : Int), .bool fo]) (by simp [go_sem, hc, hf, hgl, ↓IntWalk.iteOmega, a5, *]) rfl
            · refine relG_plain rfl rfl (fun _ _ h => h) ?_
              intro Ac w5 hp
              have hb := hp.bel
              have a6 : Ac.eval (.tmp 6) = .int .i64 (j : Int) := hp.out 6 (by rfl)
              have hc := evalC Ac; have hf := evalF Ac; have hgl := evalG Ac
              obtain ⟨ρ, hρ⟩ : ∃ ρ, Ac.eval = ρ := ⟨_, rfl⟩
              rw [hρ] at a6 hc hf hgl
              exact relPure hρ (.int .i64 (j : Int)) (by simp [go_sem, hc, hf, hgl, ↓IntWalk.iteOmega, a6, *]) rfl
            · refine relG_plain rfl rfl (fun _ _ h => h) ?_
              intro Ac w5 hp
              have hb := hp.bel
              have a39 : Ac.eval (.tmp 39) = .int .i64 (j : Int) := hp.dep 1 (by kernel_rfl)
              have hc := evalC Ac; have hf := evalF Ac; have hgl := evalG Ac
              obtain ⟨ρ, hρ⟩ : ∃ ρ, Ac.eval = ρ := ⟨_, rfl⟩
              rw [hρ] at a39 hc hf hgl
              exact relPure hρ (.int .i64 ((j : Int) + 1)) (by simp [go_sem, hc, hf, hgl, ↓IntWalk.iteOmega, a39, *]) rfl
            · refine relG_plain rfl rfl (fun _ _ h => h) ?_
              intro Ac w5 hp
              have hb := hp.bel
              have a5 : Ac.eval (.tmp 5) = .pointer (some ⟨g5, 0, none⟩) := hp.out 5 (by rfl)
              have HN := hp.pre.2
              have z0 : w5.cell? ⟨g5, 0, none⟩ = some (.int .i64 k) := HN.mb.cell 0
              have z1 : w5.cell? ⟨g5, 1, none⟩ = some (.int .u32 (p : Int)) := HN.mb.cell 1
              have z2 : w5.cell? ⟨g5, 2, none⟩ = some (.int .i64 nn) := HN.mb.cell 2
              have z3 : w5.cell? ⟨g5, 3, none⟩ = some (.slice Ab nb cb) := HN.mb.cell 3
              have z4 : w5.cell? ⟨g5, 4, none⟩ = some (.string (str tq)) := HN.mb.cell 4
              have z5 : w5.cell? ⟨g5, 5, none⟩ = some (.int .u32 (oa : Int)) := HN.mb.cell 5
              have z6 : w5.cell? ⟨g5, 6, none⟩ = some (.int .i64 oh) := HN.mb.cell 6
              have z7 : w5.cell? ⟨g5, 7, none⟩ = some (.int .u32 (oi : Int)) := HN.mb.cell 7
              have z8 : w5.cell? ⟨g5, 8, none⟩ = some (.bool fo) := HN.mb.cell 8
              have hc := evalC Ac; have hf := evalF Ac; have hgl := evalG Ac
              obtain ⟨ρ, hρ⟩ : ∃ ρ, Ac.eval = ρ := ⟨_, rfl⟩
              rw [hρ] at a5 hc hf hgl
              exact relPure hρ (.agg #[.int .i64 k, .int .u32 (p : Int), .int .i64 nn, .slice Ab nb cb, .string (str tq), .int .u32 (oa : Int), .int .i64 oh, .int .u32 (oi : Int), .bool fo]) (by simp [go_sem, hc, hf, hgl, ↓IntWalk.iteOmega, a5, *]) rfl
            · refine relG_plain rfl rfl (fun _ _ h => h) ?_
              intro Ac w5 hp
              have hb := hp.bel
              have a41 : Ac.eval (.tmp 41) = .agg #[.int .i64 k, .int .u32 (p : Int), .int .i64 nn, .slice Ab nb cb, .string (str tq), .int .u32 (oa : Int), .int .i64 oh, .int .u32 (oi : Int), .bool fo] := hp.dep 3 (by kernel_rfl)
              have hc := evalC Ac; have hf := evalF Ac; have hgl := evalG Ac
              obtain ⟨ρ, hρ⟩ : ∃ ρ, Ac.eval = ρ := ⟨_, rfl⟩
              rw [hρ] at a41 hc hf hgl
              refine relCall hρ 29 #[.agg #[.int .i64 k, .int .u32 (p : Int), .int .i64 nn, .slice Ab nb cb, .string (str tq), .int .u32 (oa : Int), .int .i64 oh, .int .u32 (oi : Int), .bool fo]] (by simp [go_sem, hc, hf, hgl, ↓IntWalk.iteOmega, a41, *]) ?_
              refine (sgood_any ⟨k, p, nn, b, tq, oa, oh, oi, fo⟩ Ab nb cb w5 HNb.out HTl.out).mono ?_
              rintro e w6 ⟨rfl, hb6⟩
              exact ⟨_, rfl, by rw [HGd.out]; rfl, hb6⟩
            · refine relG_plain rfl rfl (fun _ _ h => h) ?_
              intro Ac w5 hp
              have hb := hp.bel
              have a42 : Ac.eval (.tmp 42) = .bool true := hp.dep 4 (by kernel_rfl)
              have hc := evalC Ac; have hf := evalF Ac; have hgl := evalG Ac
              obtain ⟨ρ, hρ⟩ : ∃ ρ, Ac.eval = ρ := ⟨_, rfl⟩
              rw [hρ] at a42 hc hf hgl
              exact relPure hρ (.bool true) (by simp [go_sem, hc, hf, hgl, ↓IntWalk.iteOmega, a42, *]) rfl
            · refine relG_guard (g := 5) (b := true) (x := true) rfl (by kernel_rfl) rfl rfl (fun _ _ h => h) (by kernel_rfl) rfl rfl (fun _ _ h => h) ?_
              intro Ac w5 hp
              have hb := hp.bel
              have a5 : Ac.eval (.tmp 5) = .pointer (some ⟨g5, 0, none⟩) := hp.out 5 (by rfl)
              have HN := hp.pre.2
              have z0 : w5.cell? ⟨g5, 0, none⟩ = some (.int .i64 k) := HN.mb.cell 0
              have z1 : w5.cell? ⟨g5, 1, none⟩ = some (.int .u32 (p : Int)) := HN.mb.cell 1
              have z2 : w5.cell? ⟨g5, 2, none⟩ = some (.int .i64 nn) := HN.mb.cell 2
              have z3 : w5.cell? ⟨g5, 3, none⟩ = some (.slice Ab nb cb) := HN.mb.cell 3
              have z4 : w5.cell? ⟨g5, 4, none⟩ = some (.string (str tq)) := HN.mb.cell 4
              have z5 : w5.cell? ⟨g5, 5, none⟩ = some (.int .u32 (oa : Int)) := HN.mb.cell 5
              have z6 : w5.cell? ⟨g5, 6, none⟩ = some (.int .i64 oh) := HN.mb.cell 6
              have z7 : w5.cell? ⟨g5, 7, none⟩ = some (.int .u32 (oi : Int)) := HN.mb.cell 7
              have z8 : w5.cell? ⟨g5, 8, none⟩ = some (.bool fo) := HN.mb.cell 8
              have hc := evalC Ac; have hf := evalF Ac; have hgl := evalG Ac
              obtain ⟨ρ, hρ⟩ : ∃ ρ, Ac.eval = ρ := ⟨_, rfl⟩
              rw [hρ] at a5 hc hf hgl
              exact relPure hρ (.agg #[.int .i64 k, .int .u32 (p : Int), .int .i64 nn, .slice Ab nb cb, .string (str tq), .int .u32 (oa : Int), .int .i64 oh, .int .u32 (oi : Int), .bool fo]) (by simp [go_sem, hc, hf, hgl, ↓IntWalk.iteOmega, a5, *]) rfl
            · refine relG_guard (g := 5) (b := true) (x := true) rfl (by kernel_rfl) rfl rfl (fun _ _ h => h) (by kernel_rfl) rfl rfl (fun _ _ h => h) ?_
              intro Ac w5 hp
              have hb := hp.bel
              have a44 : Ac.eval (.tmp 44) = .agg #[.int .i64 k, .int .u32 (p : Int), .int .i64 nn, .slice Ab nb cb, .string (str tq), .int .u32 (oa : Int), .int .i64 oh, .int .u32 (oi : Int), .bool fo] := hp.dep 6 (by kernel_rfl)
              have hc := evalC Ac; have hf := evalF Ac; have hgl := evalG Ac
              obtain ⟨ρ, hρ⟩ : ∃ ρ, Ac.eval = ρ := ⟨_, rfl⟩
              rw [hρ] at a44 hc hf hgl
              refine relCall hρ 30 #[.agg #[.int .i64 k, .int .u32 (p : Int), .int .i64 nn, .slice Ab nb cb, .string (str tq), .int .u32 (oa : Int), .int .i64 oh, .int .u32 (oi : Int), .bool fo]] (by simp [go_sem, hc, hf, hgl, ↓IntWalk.iteOmega, a44, *]) ?_
              have hby : LstAt 1 byR w5 Ab nb cb b := by have h := hp.pre.2.own; simp only [HNb.out] at h; exact by_lst h
              refine (shown_any ⟨k, p, nn, b, tq, oa, oh, oi, fo⟩ Ab nb cb w5 hby HOk.out HGd.out (HEn.out.below hp.pre.2.bel) (HTb.out.below hp.pre.2.bel)).mono ?_
              rintro e w6 ⟨A6, n6, c6, rfl, hn6, ho6, hb6⟩
              rw [HSM.out] at ho6
              exact ⟨_, rfl, ⟨_, _, _, rfl, StrsAt.of_own ho6 HLe.out, fun ad e => by have h1 := own_low_block ho6 ad.block (by rw [e]; rfl); have h2 := hp.pre.2.mb.lt; have h3 := hp.pre.2.lt; omega⟩, hb6⟩
            · refine relG_guard (g := 5) (b := true) (x := true) rfl (by kernel_rfl) rfl rfl (fun _ _ h => h) (by kernel_rfl) rfl rfl (fun _ _ h => h) ?_
              intro Ac w5 hp
              have hb := hp.bel
              have a0 : Ac.eval (.tmp 0) = .slice (some ⟨g, o, none⟩) n c := hp.out 0 (by rfl)
              have hc := evalC Ac; have hf := evalF Ac; have hgl := evalG Ac
              obtain ⟨ρ, hρ⟩ : ∃ ρ, Ac.eval = ρ := ⟨_, rfl⟩
              rw [hρ] at a0 hc hf hgl
              exact relPure hρ (.slice (some ⟨g, o, none⟩) n c) (by simp [go_sem, hc, hf, hgl, ↓IntWalk.iteOmega, a0, *]) rfl
            · refine relG_guard (g := 5) (b := true) (x := true) rfl (by kernel_rfl) rfl rfl (fun _ _ h => h) (by kernel_rfl) rfl rfl (fun _ _ h => h) ?_
              intro Ac w5 hp
              have hb := hp.bel
              have a6 : Ac.eval (.tmp 6) = .int .i64 (j : Int) := hp.out 6 (by rfl)
              have hc := evalC Ac; have hf := evalF Ac; have hgl := evalG Ac
              obtain ⟨ρ, hρ⟩ : ∃ ρ, Ac.eval = ρ := ⟨_, rfl⟩
              rw [hρ] at a6 hc hf hgl
              exact relPure hρ (.int .i64 (j : Int)) (by simp [go_sem, hc, hf, hgl, ↓IntWalk.iteOmega, a6, *]) rfl
            · refine relG_guard (g := 5) (b := true) (x := true) rfl (by kernel_rfl) rfl rfl (fun _ _ h => h) (by kernel_rfl) rfl rfl (fun _ _ h => h) ?_
              intro Ac w5 hp
              have hb := hp.bel
              have a47 : Ac.eval (.tmp 47) = .int .i64 (j : Int) := hp.dep 9 (by kernel_rfl)
              have hc := evalC Ac; have hf := evalF Ac; have hgl := evalG Ac
              obtain ⟨ρ, hρ⟩ : ∃ ρ, Ac.eval = ρ := ⟨_, rfl⟩
              rw [hρ] at a47 hc hf hgl
              exact relPure hρ (.int .i64 ((j : Int) + 1)) (by simp [go_sem, hc, hf, hgl, ↓IntWalk.iteOmega, a47, *]) rfl
            · refine relG_guard (g := 5) (b := true) (x := true) rfl (by kernel_rfl) rfl rfl (fun _ _ h => h) (by kernel_rfl) rfl rfl (fun _ _ h => h) ?_
              intro Ac w5 hp
              have hb := hp.bel
              have a46 : Ac.eval (.tmp 46) = .slice (some ⟨g, o, none⟩) n c := hp.dep 8 (by kernel_rfl)
              have a48 : Ac.eval (.tmp 48) = .int .i64 ((j : Int) + 1) := hp.dep 10 (by kernel_rfl)
              have hc := evalC Ac; have hf := evalF Ac; have hgl := evalG Ac
              obtain ⟨ρ, hρ⟩ : ∃ ρ, Ac.eval = ρ := ⟨_, rfl⟩
              rw [hρ] at a46 a48 hc hf hgl
              exact relPure hρ (.slice (some ⟨g, o, none⟩) (j + 1) c) (by simp [go_sem, hc, hf, hgl, ↓IntWalk.iteOmega, a46, a48, *]) rfl
            · refine relG_guard (g := 5) (b := true) (x := true) rfl (by kernel_rfl) rfl rfl (fun _ _ h => h) (by kernel_rfl) rfl rfl (fun _ _ h => h) ?_
              intro Ac w5 hp
              have hb := hp.bel
              obtain ⟨A45, n45, c45, a45, hs45, _⟩ := hp.dep 7 (by kernel_rfl)
              change Ac.eval (.tmp 45) = _ at a45
              have a49 : Ac.eval (.tmp 49) = .slice (some ⟨g, o, none⟩) (j + 1) c := hp.dep 11 (by kernel_rfl)
              have hc := evalC Ac; have hf := evalF Ac; have hgl := evalG Ac
              obtain ⟨ρ, hρ⟩ : ∃ ρ, Ac.eval = ρ := ⟨_, rfl⟩
              rw [hρ] at a45 a49 hc hf hgl
              refine relCall hρ 41 #[.slice A45 n45 c45, .slice (some ⟨g, o, none⟩) (j + 1) c] (by simp [go_sem, hc, hf, hgl, ↓IntWalk.iteOmega, a45, a49, *]) ?_
              refine (strEq_any A45 (some ⟨g, o, none⟩) n45 c45 (j + 1) c _ _ w5 hs45 (HLt.out.below rfl hp.pre.2.bel)).mono ?_
              rintro e w6 ⟨rfl, hb6⟩
              exact ⟨_, rfl, by rw [HEq.out]; rfl, hb6⟩
            · refine relG_plain rfl rfl (fun _ _ h => h) ?_
              intro Ac w5 hp
              have hb := hp.bel
              have a43 : Ac.eval (.tmp 43) = .bool true := hp.dep 5 (by kernel_rfl)
              have a50 : Ac.eval (.tmp 50) = .bool E := hp.dep 12 (by kernel_rfl)
              have hc := evalC Ac; have hf := evalF Ac; have hgl := evalG Ac
              obtain ⟨ρ, hρ⟩ : ∃ ρ, Ac.eval = ρ := ⟨_, rfl⟩
              rw [hρ] at a43 a50 hc hf hgl
              exact relPure hρ (.bool E) (by simp [go_sem, hc, hf, hgl, ↓IntWalk.iteOmega, a43, a50, *]) rfl
            · refine relG_store rfl ?_
              intro Ac w5 hp
              have hb := hp.bel
              have a2 : Ac.eval (.tmp 2) = .pointer (some ⟨w.heap.size, 0, none⟩) := hp.out 2 (by rfl)
              have a38 : Ac.eval (.tmp 38) = .agg #[.int .i64 k, .int .u32 (p : Int), .int .i64 nn, .slice Ab nb cb, .string (str tq), .int .u32 (oa : Int), .int .i64 oh, .int .u32 (oi : Int), .bool fo] := hp.dep 0 (by kernel_rfl)
              have a2 : Ac.eval (.tmp 2) = .pointer (some ⟨w.heap.size, 0, none⟩) := hp.out 2 (by rfl)
              have a38 : Ac.eval (.tmp 38) = .agg #[.int .i64 k, .int .u32 (p : Int), .int .i64 nn, .slice Ab nb cb, .string (str tq), .int .u32 (oa : Int), .int .i64 oh, .int .u32 (oi : Int), .bool fo] := hp.dep 0 (by kernel_rfl)
              have HN2 := hide hp.pre.2
              have hres2 := hide (hp.pre.1 rfl)
              clear hp
              refine ⟨setMv w5 w.heap.size ⟨k, p, nn, b, tq, oa, oh, oi, fo⟩ (.slice Ab nb cb), .inl (exec_store rfl a2 a38 (store_move w5 _ ⟨k, p, nn, b, tq, oa, oh, oi, fo⟩ Ab nb cb hres2.out)), ⟨?_, ?_, ?_⟩, ?_⟩
              · exact setMv_blk hres2.out
              · exact setMv_own HN2.out.own (fun e => by have := own_low_block HN2.out.own _ e; omega)
              · exact setMv_below HN2.out.bel (Nat.le_refl _)
              · exact setMv_grown
            · refine relG_plain rfl rfl (fun _ _ h => h) ?_
              intro Ac w5 hp
              have hb := hp.bel
              have a40 : Ac.eval (.tmp 40) = .int .i64 ((j : Int) + 1) := hp.dep 2 (by kernel_rfl)
              have hc := evalC Ac; have hf := evalF Ac; have hgl := evalG Ac
              obtain ⟨ρ, hρ⟩ : ∃ ρ, Ac.eval = ρ := ⟨_, rfl⟩
              rw [hρ] at a40 hc hf hgl
              exact relPure hρ (.int .i64 ((j : Int) + 1)) (by simp [go_sem, hc, hf, hgl, ↓IntWalk.iteOmega, a40, *]) rfl
            intro u w8 hb7 hall
            have e3 : u 15 = .int .i64 ((j : Int) + 1) := relAll_at hall (i := 15) (by decide +kernel)
            have e51 : u 13 = .bool E := relAll_at hall (i := 13) (by decide +kernel)
            have efin : NxF w w8 ⟨k, p, nn, b, tq, oa, oh, oi, fo⟩ (.slice Ab nb cb) := relAll_at hall (i := 14) (by decide +kernel)
            clear hall
            simp only [List.drop_succ_cons, List.drop_zero, List.take_succ_cons, List.take_zero, putAll, Act.put, List.setIfInBounds_toArray, List.set_cons_zero, List.set_cons_succ, Nat.zero_add, Nat.reduceAdd, e3, e51]
            have HF8 := hide efin
            have HF := hide efin.res
            have HBF := hide efin.bel
            have HOF := hide efin.own
            clear efin
            go_wp2
            have u0 : w8.cell? ⟨w.heap.size, 0, none⟩ = some (.int .i64 k) := HF.out.cell 0
            have u1 : w8.cell? ⟨w.heap.size, 1, none⟩ = some (.int .u32 (p : Int)) := HF.out.cell 1
            have u2 : w8.cell? ⟨w.heap.size, 2, none⟩ = some (.int .i64 nn) := HF.out.cell 2
            have u3 : w8.cell? ⟨w.heap.size, 3, none⟩ = some (.slice Ab nb cb) := HF.out.cell 3
            have u4 : w8.cell? ⟨w.heap.size, 4, none⟩ = some (.string (str tq)) := HF.out.cell 4
            have u5 : w8.cell? ⟨w.heap.size, 5, none⟩ = some (.int .u32 (oa : Int)) := HF.out.cell 5
            have u6 : w8.cell? ⟨w.heap.size, 6, none⟩ = some (.int .i64 oh) := HF.out.cell 6
            have u7 : w8.cell? ⟨w.heap.size, 7, none⟩ = some (.int .u32 (oi : Int)) := HF.out.cell 7
            have u8 : w8.cell? ⟨w.heap.size, 8, none⟩ = some (.bool fo) := HF.out.cell 8
            refine bodyPost_ret (v := .tuple #[.agg #[.int .i64 k, .int .u32 (p : Int), .int .i64 nn, .slice Ab nb cb, .string (str tq), .int .u32 (oa : Int), .int .i64 oh, .int .u32 (oi : Int), .bool fo], .int .i64 ((j : Int) + 1), .bool E]) (by simp [results, Tryz.results26, go_sem, u0, u1, u2, u3, u4, u5, u6, u7, u8]) rfl ⟨⟨k, p, nn, b, tq, oa, oh, oi, fo⟩, Ab, cb, j + 1, (by rw [HNb.out, HNq.out]; cases E <;> rfl), (fun m k e => by
          rw [HNq.out] at e
          cases E
          · cases e
          · injection e with e; injection e with e1 e2; exact ⟨e1, e2⟩), by simp only; rw [HNb.out]; have := HOF.out; simp only [HNb.out] at this; exact own_baseLe this (Nat.le_succ _), HBF.out⟩
end Go.Proofs.YtlfknndpbejbcaaGreatDoor
set_option linter.unusedSimpArgs false
set_option linter.unusedVariables false
namespace Go.Proofs.YtlfknndpbejbcaaGreatDoor
open Go.RowKit Go.WideShapes Go.ChangeShapes
attribute [local go_sem] Oper.semAt_some
theorem moveInfo : (Tryz.prog.info? 32).map (fun i => (i.zero, i.size, i.bytes)) = some (some (.agg #[.int .i64 0, .int .u32 0, .int .i64 0, .slice none 0 0, .string ⟨#[]⟩, .int .u32 0, .int .i64 0, .int .u32 0, .bool false]), 9, 88) := by kernel_rfl
/-- A move's cells, its bytes a row of one's own. -/
def mvO (B : Nat) (w : World) (vs : List Value) (m : MV) : Prop := ∃ A c, vs = mvC m (.slice A m.b.length c) ∧ w.ownsRow B 5 1 (.slice A m.b.length c) m.b.length (byB m.b)
/-- .. its bytes wherever they lie. -/
def mvR (w : World) (vs : List Value) (m : MV) : Prop := ∃ A n c, vs = mvC m (.slice A n c) ∧ LstAt 1 byR w A n c m.b
theorem mvO.r {B : Nat} {w : World} {vs : List Value} {m : MV} (h : mvO B w vs m) : mvR w vs m := by
  obtain ⟨A, c, e, h⟩ := h
  exact ⟨A, _, c, e, by_lst h⟩
theorem mvO.below {B : Nat} {w w' : World} {vs : List Value} {m : MV} (h : mvO B w vs m) (hb : Below w.heap.size w w') : mvO B w' vs m := by
  obtain ⟨A, c, e, h⟩ := h
  exact ⟨A, c, e, own_below h hb⟩
theorem mvO.other {B B' n : Nat} {w w3 : World} {vs : List Value} {m : MV} {o : Obj} {v : Value} {xs : List Value} (h : mvO B w vs m) (h2 : w.ownsRow B' 32 9 v n xs) (hg : (w.alloc o).grownBy w3 v.ownBlock) : mvO B w3 vs m := by
  obtain ⟨A, c, e, h⟩ := h
  exact ⟨A, c, e, own_other h h2 (by decide) hg⟩
theorem mvC_len (m : MV) (v : Value) : (mvC m v).length = 9 := rfl
theorem mvC_one (m : MV) (A : Option Addr) (n c : Nat) : ∀ u ∈ mvC m (.slice A n c), u.oneCell' = true := by
  intro u hu
  simp only [mvC, List.mem_cons, List.not_mem_nil, or_false] at hu
  rcases hu with rfl | rfl | rfl | rfl | rfl | rfl | rfl | rfl | rfl <;> rfl
/-- A row of moves of one's own. -/
structure MvRow (B : Nat) (w : World) (v : Value) (out : List MV) : Prop where
  row : ∃ xs, w.ownsRow B 32 9 v out.length xs ∧ Chunks 9 (mvO B) w xs out
theorem MvRow.nil {B : Nat} {w : World} : MvRow B w (.slice none 0 0) [] := ⟨[], ⟨rfl, .inl ⟨rfl, rfl⟩⟩, Chunks.nil_⟩
theorem MvRow.below {B : Nat} {w w' : World} {v : Value} {out : List MV} (h : MvRow B w v out) (hb : Below w.heap.size w w') : MvRow B w' v out := by
  obtain ⟨xs, h1, h2⟩ := h.row
  exact ⟨xs, own_below h1 hb, h2.1, fun k x hk => (h2.2 k x hk).below hb⟩
theorem MvRow.lst {B n : Nat} {w : World} {A : Option Addr} {c : Nat} {out : List MV} (h : MvRow B w (.slice A n c) out) (hn : out.length = n) : LstAt 9 mvR w A n c out := by
  subst hn
  obtain ⟨xs, h1, h2⟩ := h.row
  exact LstAt.of_own (by decide) h1 ⟨h2.1, fun k x hk => (h2.2 k x hk).r⟩
theorem MvRow.push {B : Nat} {w w3 : World} {v v' : Value} {out : List MV} {m : MV} {xs : List Value} {o : Obj} {A : Option Addr} {c : Nat} (h : w.ownsRow B 32 9 v out.length xs) (hc : Chunks 9 (mvO B) w xs out) (hm : w.ownsRow B 5 1 (.slice A m.b.length c) m.b.length (byB m.b))
    (ho : w3.ownsRow B 32 9 v' (out.length + 1) (xs ++ mvC m (.slice A m.b.length c))) (hg : (w.alloc o).grownBy w3 v.ownBlock) : MvRow B w3 v' (out ++ [m]) := by
  refine ⟨_, by rw [List.length_append, List.length_singleton]; exact ho, ?_⟩
  have h1 : Chunks 9 (mvO B) w3 xs out := ⟨hc.1, fun k x hk => (hc.2 k x hk).other h hg⟩
  have hm2 : mvO B w (mvC m (.slice A m.b.length c)) m := ⟨A, c, rfl, hm⟩
  exact h1.app_ (Chunks.one_ (mvC_len _ _) (hm2.other h hg))
theorem RdTo.len {ls : List (List UInt8)} {i : Nat} {out : List MV} (h : RdTo ls i out) : out.length ≤ i := by
  induction h with
  | zero => simp
  | step h1 h2 h3 ih =>
    have := (nextP_sound h3).2.2.2.1
    simp; omega
def restM (s : List UInt8) : List UInt8 := (pieces 10 s).getLast (pieces_ne 10 s)
theorem linesM_len1 (s : List UInt8) : (pieces 10 s).length = (linesM s).length + 1 := by
  have := List.length_pos_iff.2 (pieces_ne 10 s)
  unfold linesM
  rw [List.length_dropLast]; omega
theorem linesM_feed (s : List UInt8) : (feedT (linesM s)).length ≤ s.length := by
  have h := congrArg List.length (feed_all s)
  rw [List.length_append] at h
  have e : (feedT (linesM s)).length = (feedT ((pieces 10 s).dropLast)).length := rfl
  omega
theorem restM_at (s : List UInt8) : (pieces 10 s)[(linesM s).length]? = some (restM s) := by
  have h := linesM_len1 s
  unfold restM
  rw [List.getElem?_eq_getElem (by omega), List.getLast_eq_getElem]
  simp only [h]
  congr 1
theorem linesM_take (s : List UInt8) : (pieces 10 s).take (linesM s).length = linesM s := by
  have h := linesM_len1 s
  unfold linesM at h ⊢
  rw [List.dropLast_eq_take, List.length_take]
  congr 1
  omega
inductive ReadR (s : List UInt8) (w' : World) : Ending → Prop
  | bad {i : Nat} {out : List MV} : RdTo (linesM s) i out → ((i < (linesM s).length ∧ nextP ((linesM s).drop i) = none) ∨ (i = (linesM s).length ∧ restM s ≠ [])) → ReadR s w' (.returned (.tuple #[.slice none 0 0, .int .i64 ((i : Int) + 1), .int .i64 2]))
  | long {out : List MV} : RdTo (linesM s) (linesM s).length out → restM s = [] → 5000 < out.length → ReadR s w' (.returned (.tuple #[.slice none 0 0, .int .i64 0, .int .i64 6]))
  | ok {out : List MV} {A : Option Addr} {n c : Nat} : RdTo (linesM s) (linesM s).length out → restM s = [] → out.length ≤ 5000 → out.length = n → LstAt 9 mvR w' A n c out → ReadR s w' (.returned (.tuple #[.slice A n c, .int .i64 0, .int .i64 0]))
def ReadP (s : List UInt8) (w : World) (e : Ending) (w' : World) : Prop := ReadR s w' e ∧ Below w.heap.size w w'
set_option maxRecDepth 100000 in
set_option maxHeartbeats 16000000 in
theorem sread_any (s : List UInt8) (hs : s.length ≤ 100000) (w : World) (he : Env w) (ht : SpTab w) : Calls Tryz.prog 7 #[.string (str s)] w (ReadP s w) := by
  obtain ⟨i0, hi, hz0, hz1, hz2⟩ := info_parts moveInfo
  have HSp := hide (split_any 10 s hs w he)
  have HEn := hide he
  have HTb := hide ht
  have hsz : (str s).size = s.length := str_size s
  have hsb : (str s).size ≤ 100000 := by rw [hsz]; exact hs
  have hl1 := linesM_len1 s
  have HRs := hide (restM_at s)
  have HLt := hide (linesM_take s)
  have HFd : Hid ((feedT (linesM s)).length ≤ 100000) := hide (by have := linesM_feed s; omega)
  have hln := pieces_len 10 s
  obtain ⟨T, hT⟩ : ∃ T, str s = T := ⟨_, rfl⟩
  rw [hT] at hsb HSp ⊢
  obtain ⟨n1, hn1⟩ : ∃ n1, (linesM s).length = n1 := ⟨_, rfl⟩
  rw [hn1] at hl1 HRs HLt
  have HN1 := hide hn1
  obtain ⟨ps, hps⟩ : ∃ ps, pieces 10 s = ps := ⟨_, rfl⟩
  rw [hps] at hl1 HRs HLt hln
  have HPs := hide hps
  have hsp2 : Hid (∀ (W W' : World) (e : Ending), SplP 10 s W e W' → e = .returned (.slice (some ⟨W.heap.size, 0, none⟩) (n1 + 1) (n1 + 1)) ∧ Below W.heap.size W W' ∧ W.heap.size < W'.heap.size ∧ StrsAt W' (some ⟨W.heap.size, 0, none⟩) (n1 + 1) (n1 + 1) (ps.map str)) := hide (by
    intro W W' e h
    obtain ⟨h1, h2, h3, h4⟩ := h
    have h5 := spl_strs h3 h4 (by omega)
    rw [HPs.out, hl1] at h1 h5
    exact ⟨h1, h2, h3, h5⟩)
  have hn1b : n1 ≤ 100000 := by omega
  clear he ht hT hsz hn1 hps hl1 hln hs
  go_enter Tryz.func7, Tryz.ntmps7
  go_wp2_with fail
  refine HSp.out.mono ?_
  intro e w1 hq
  obtain ⟨rfl, hb1, hlt1, hst1⟩ := hsp2.out _ _ _ hq
  clear hq
  have HSt := hide hst1
  have HB1 := hide hb1
  have HRc : Hid (w1.cell? ⟨w.heap.size, n1, none⟩ = some (.string (str (restM s)))) := hide (by
    obtain ⟨g, o, hA, _, hc⟩ := hst1.2.2.2.2 (by omega)
    cases hA
    have := hc n1 (str (restM s)) (by rw [List.getElem?_map, HRs.out]; rfl)
    simpa using this)
  have HStL : Hid (StrsAt w1 (some ⟨w.heap.size, 0, none⟩) n1 (n1 + 1) ((linesM s).map str)) := hide (by
    have := hst1.take_ (m := n1) (by omega)
    rwa [← List.map_take, HLt.out] at this)
  have k1 := HRc.out
  have hg1 : w.heap.size < w1.heap.size := hlt1
  clear hb1 hlt1 hst1
  have hwr : IntKind.i64.wrap ((n1 : Int) + 1 - 1) = (n1 : Int) := by rw [IntKind.wrap_i64]; omega
  have hq0 : (0 : Int) ≤ (n1 : Int) := by omega
  have hq1 : (n1 : Int) < (n1 : Int) + 1 := by omega
  have hq2 : (n1 : Int) ≤ (n1 : Int) + 1 := by omega
  go_wp2
  obtain ⟨R, hR⟩ : ∃ R, str (restM s) = R := ⟨_, rfl⟩
  rw [hR] at k1 HRc ⊢
  have HRR := hide hR
  clear hR k1
  go_loopw [7, 8] (fun vo iv wr => ∃ (i : Nat) (out : List MV), i ≤ n1 ∧ iv = .int .i64 (i : Nat) ∧ RdTo (linesM s) i out ∧ MvRow w1.heap.size wr vo out ∧ Below w1.heap.size w1 wr) (fun _ iv _ => n1 - (intOf iv).toNat)
  case atStart => exact ⟨0, [], Nat.zero_le _, rfl, .zero, MvRow.nil, Below.refl _ _⟩
  case round =>
    obtain ⟨i, out, hin, rfl, hrd, hrow, hbel⟩ := hrel
    have HRd := hide hrd
    have hol := hrd.len
    obtain ⟨xs, hown, hch⟩ := hrow.row
    obtain ⟨no, hno⟩ : ∃ no, out.length = no := ⟨_, rfl⟩
    rw [hno] at hown hol
    have HNo := hide hno
    obtain ⟨A7, c7, rfl⟩ := own_slice hown
    have HO := hide hown
    have HC := hide hch
    have HB := hide hbel
    have HRow := hide hrow
    have hszr := hbel.size
    clear hrd hown hch hrow hno
    by_cases hlt : i < n1
    · have hgr : w.heap.size < wr.heap.size := Nat.lt_of_lt_of_le hg1 hszr
      have HStR := hide ((HStL.out.below rfl hbel).drop_ (k := i) (A := some ⟨w.heap.size, i, none⟩) (by omega) (fun _ => by rw [Nat.zero_add]))
      have HFd2 : Hid ((feedT ((linesM s).drop i)).length ≤ 100000) := hide (by have := feedT_drop (linesM s) i; have := HFd.out; omega)
      have HStM : Hid (StrsAt wr (some ⟨w.heap.size, i, none⟩) (n1 - i) (n1 + 1 - i) (((linesM s).drop i).map str)) := hide (by rw [List.map_drop]; exact HStR.out)
      have HNx := hide (next_any w.heap.size i (n1 - i) (n1 + 1 - i) ((linesM s).drop i) wr HStM.out (by omega) HFd2.out (HEn.out.below (HB1.out.trans (hbel.mono HB1.out.size))) (HTb.out.below (HB1.out.trans (hbel.mono HB1.out.size))))
      have hq0 : (0 : Int) ≤ (i : Int) := by omega
      have hq1 : (i : Int) ≤ (n1 : Int) := by omega
      have hq2 : (i : Int) < (n1 : Int) := by omega
      have hq3 : (i : Int) ≤ (n1 : Int) + 1 := by omega
      have hq4 : ((n1 : Int) + 1 - (i : Int) == 0) = false := by simp; omega
      have hq5 : i ≠ n1 + 1 := by omega
      have hq6 : n1 + 1 ≠ i := by omega
      have hwi : IntKind.i64.wrap ((i : Int) + 1) = (i : Int) + 1 := by rw [IntKind.wrap_i64]; omega
      clear hbel
      go_wp2_with fail
      refine HNx.out.mono ?_
      rintro e w2 ⟨M, Ab, cb, N, rfl, hnx, ho, hb⟩
      have HB2 := hide (HB.out.trans (hb.mono hszr))
      have HO2 := hide (own_below HO.out hb)
      have HC2 : Hid (Chunks 9 (mvO w1.heap.size) w2 xs out) := hide ⟨HC.out.1, fun k x hk => (HC.out.2 k x hk).below hb⟩
      have HOb := hide (own_baseLe ho hszr)
      have hs2 := HB2.out.size
      clear hb ho
      rcases hq : nextP ((linesM s).drop i) with _ | ⟨m, k⟩
      · have HBad : Hid (nextP ((linesM s).drop i) = none) := hide hq
        obtain ⟨⟨k, p, nn, b, t, oa, oh, oi, fo⟩, hM⟩ : ∃ M', M = M' := ⟨_, rfl⟩
        subst hM
        obtain ⟨nb, hnb⟩ : ∃ nb, b.length = nb := ⟨_, rfl⟩
        clear hq hnx HOb
        unfold mvV
        simp only [Option.isSome_none]
        rw [hnb]
        clear hnb
        go_wp2
        go_ret3
        exact ⟨.bad HRd.out (.inl ⟨by rw [HN1.out]; exact hlt, HBad.out⟩), HB1.out.trans ((HB2.out.alloc hs2 _).mono HB1.out.size)⟩
      · obtain ⟨rfl, rfl⟩ := hnx _ _ hq
        have hk1 := (nextP_sound hq).2.2.2.1
        have hk2 := (nextP_sound hq).2.2.2.2.1
        rw [List.length_drop, HN1.out] at hk2
        have HRd2 := hide (HRd.out.step (by rw [HN1.out]; exact hlt) hq)
        obtain ⟨⟨k, p, nn, b, t, oa, oh, oi, fo⟩, hM⟩ : ∃ M', M = M' := ⟨_, rfl⟩
        subst hM
        simp only at HOb
        obtain ⟨nb, hnb⟩ : ∃ nb, b.length = nb := ⟨_, rfl⟩
        have HNb := hide hnb
        clear hq hnx
        unfold mvV
        simp only [Option.isSome_some]
        rw [hnb]
        have hwN : IntKind.i64.wrap ((i : Int) + (N : Int)) = ((i + N : Nat) : Int) := by rw [IntKind.wrap_i64]; omega
        clear hnb
        go_wp2_with (at_builtin; refine wpList_append_any _ rfl (.tmp 44) (.tmp 46) 22 rfl w1.heap.size 32 i0 _ 9 88 Tryz.underlying22 hi hz0 hz1 hz2 rfl (by decide) (.slice A7 no c7) no _ rfl ((HO2.out.alloc _).alloc _) (w2.heap.size + 1 + 1) (some ⟨w2.heap.size + 1, 0, none⟩) 1 1 (mvC ⟨k, p, nn, b, t, oa, oh, oi, fo⟩ (.slice Ab nb cb)) rfl (reads_blkN (g := w2.heap.size + 1) (blk_new' _ _ (by simp)) (Nat.lt_succ_self _) rfl rfl) (mvC_one _ _ _ _) (by unfold maxLen; omega) (by omega) (by simp; omega) ?_; intro v1 w3 hown hgrow hat; have HRow3 : Hid (MvRow w1.heap.size w3 v1 (out ++ [⟨k, p, nn, b, t, oa, oh, oi, fo⟩])) := hide (MvRow.push (w := w2.alloc (.cells (mvC ⟨k, p, nn, b, t, oa, oh, oi, fo⟩ (.slice Ab nb cb)).toArray 32)) (v := .slice A7 no c7) (xs := xs) (A := Ab) (c := cb) (by rw [HNo.out]; exact HO2.out.alloc _) ⟨HC2.out.1, fun j x hj => (HC2.out.2 j x hj).below ((Below.refl _ _).alloc (Nat.le_refl _) _)⟩ (HOb.out.alloc _) (by rw [HNo.out]; simp only; rw [HNb.out]; exact hown) hgrow); have HB3 : Hid (Below w1.heap.size w1 w3) := hide (Below.grown ((HB2.out.alloc hs2 _).alloc (by simp; omega) _) hgrow (by simp; omega) (fun k hk => own_low_block HO2.out k hk)); clear hown hgrow hat)
        go_roundw
        case rel => exact ⟨i + N, _, by omega, rfl, HRd2.out, HRow3.out, HB3.out⟩
        case measure => simp [intOf]; omega
    · obtain rfl : i = n1 := by omega
      have HBw := hide (HB1.out.trans (hbel.mono HB1.out.size))
      clear hbel
      have HRd2 : Hid (RdTo (linesM s) (linesM s).length out) := hide (by rw [HN1.out]; exact HRd.out)
      have hwi : IntKind.i64.wrap ((i : Int) + 1) = (i : Int) + 1 := by rw [IntKind.wrap_i64]; omega
      have htn : (R.toList == []) = decide (restM s = []) := by
        rw [← HRR.out]
        unfold str; rw [ByteArray.toList_mk]
        cases restM s <;> simp
      have htm : (R.toList != []) = !decide (restM s = []) := by rw [bne, htn]
      by_cases hr : restM s = []
      · have e1 : (R.toList == []) = true := by rw [htn]; exact decide_eq_true hr
        have e2 : (R.toList != []) = false := by rw [htm, decide_eq_true hr]; rfl
        have HR0 := hide hr
        clear htn htm hr
        by_cases h5 : 5000 < no
        · have e3 : decide ((5000 : Int) < (no : Int)) = true := by simp; omega
          have H5 : Hid (5000 < out.length) := hide (by rw [HNo.out]; exact h5)
          clear h5
          go_wp2
          go_ret3
          exact ⟨.long HRd2.out HR0.out H5.out, HBw.out⟩
        · have e3 : decide ((5000 : Int) < (no : Int)) = false := by simp; omega
          have H5 : Hid (out.length ≤ 5000) := hide (by rw [HNo.out]; omega)
          clear h5
          go_wp2
          go_ret3
          exact ⟨.ok HRd2.out HR0.out H5.out HNo.out (HRow.out.lst HNo.out), HBw.out⟩
      · have e1 : (R.toList == []) = false := by rw [htn]; exact decide_eq_false hr
        have e2 : (R.toList != []) = true := by rw [htm, decide_eq_false hr]; rfl
        have HR0 := hide hr
        clear htn htm hr
        go_wp2
        go_ret3
        exact ⟨.bad HRd.out (.inr ⟨HN1.out.symm, HR0.out⟩), HBw.out⟩
end Go.Proofs.YtlfknndpbejbcaaGreatDoor
set_option linter.unusedSimpArgs false
set_option linter.unusedVariables false
namespace Go.Proofs.YtlfknndpbejbcaaGreatDoor
open Go.RowKit Go.WideShapes Go.ChangeShapes
def MvFull (m : MV) : Prop := mvGood m = true ∧ mvOnly m = m ∧ MvOk m
theorem moves_pre : ∀ (a b : List MV) (r s : List (List UInt8)), (∀ m ∈ a, MvFull m) → (∀ m ∈ b, MvFull m) → a.flatMap shownM ++ r = b.flatMap shownM ++ s → (a.flatMap shownM).length ≤ (b.flatMap shownM).length → ∃ t, b = a ++ t
  | [], b, r, s, _, _, _, _ => ⟨b, rfl⟩
  | m :: a, [], r, s, _, _, _, h => by
    simp [shownM] at h
  | m :: a, m2 :: b, r, s, ha, hb, he, hl => by
    obtain ⟨g1, o1, k1⟩ := ha m (by simp)
    obtain ⟨g2, o2, k2⟩ := hb m2 (by simp)
    rw [List.flatMap_cons, List.flatMap_cons, List.append_assoc, List.append_assoc] at he
    have n1 := nextP_shown k1 g1 (a.flatMap shownM ++ r)
    have n2 := nextP_shown k2 g2 (b.flatMap shownM ++ s)
    rw [← he, n1, o1, o2] at n2
    injection n2 with n2
    injection n2 with n2 _
    subst n2
    have he2 := List.append_cancel_left he
    rw [List.flatMap_cons, List.flatMap_cons, List.length_append, List.length_append] at hl
    obtain ⟨t, ht⟩ := moves_pre a b r s (fun x hx => ha x (by simp [hx])) (fun x hx => hb x (by simp [hx])) he2 (by omega)
    exact ⟨t, by rw [ht]; rfl⟩
theorem RdTo.full {ls : List (List UInt8)} {i : Nat} {out : List MV} (h : RdTo ls i out) : ∀ m ∈ out, MvFull m := h.sound.2
/-- Of two readings of one text one is the other's beginning. -/
theorem RdTo.pre {ls : List (List UInt8)} {i j : Nat} {a b : List MV} (h : RdTo ls i a) (h' : RdTo ls j b) (hij : i ≤ j) : ∃ t, b = a ++ t := by
  refine moves_pre a b (ls.drop i) (ls.drop j) h.full h'.full ?_ ?_
  · rw [h.sound.1, h'.sound.1, List.take_append_drop, List.take_append_drop]
  · rw [h.sound.1, h'.sound.1, List.length_take, List.length_take]; omega
theorem RdTo.same {ls : List (List UInt8)} {i : Nat} {a b : List MV} (h : RdTo ls i a) (h' : RdTo ls i b) : a = b := by
  obtain ⟨t, rfl⟩ := h.pre h' (Nat.le_refl _)
  have e := h.sound.1.trans h'.sound.1.symm
  rw [List.flatMap_append] at e
  cases t with
  | nil => simp
  | cons m t =>
    have := congrArg List.length e
    simp [shownM] at this
/-- A reading that comes to the end stands nowhere. -/
theorem RdTo.no_stop {ls : List (List UInt8)} {i j : Nat} {a b : List MV} (h : RdTo ls i a) (h' : RdTo ls j b) (hij : i < j) : nextP (ls.drop i) ≠ none := by
  obtain ⟨t, rfl⟩ := h.pre h' (Nat.le_of_lt hij)
  have e := h'.sound.1
  have hle := h'.le
  rw [List.flatMap_append, h.sound.1] at e
  have e2 : t.flatMap shownM = (ls.drop i).take (j - i) := by
    have h1 : ls.take j = ls.take i ++ (ls.drop i).take (j - i) := by rw [← List.take_add]; congr 1; omega
    rw [h1] at e
    exact List.append_cancel_left e
  cases t with
  | nil =>
    have := congrArg List.length e2
    simp at this; omega
  | cons m t =>
    obtain ⟨g1, o1, k1⟩ := h'.full m (by simp)
    have h3 : ls.drop i = shownM m ++ (t.flatMap shownM ++ (ls.drop i).drop (j - i)) := by
      conv => lhs; rw [← List.take_append_drop (j - i) (ls.drop i)]
      rw [← e2, List.flatMap_cons, List.append_assoc]
    rw [h3, nextP_shown k1 g1]
    simp
theorem shown_no10 {m : MV} (hg : mvGood m = true) : ∀ p ∈ shownM m, (10 : UInt8) ∉ p := by
  intro p hp h
  unfold shownM behM at hp
  rcases List.mem_cons.1 hp with rfl | hp
  · have : ∀ (l : List (List UInt8)), (∀ w ∈ l, ∀ x ∈ w, x ≠ 32 ∧ x ≠ 10) → (10 : UInt8) ∉ jw l := by
      intro l
      induction l with
      | nil => intro _; simp [jw, Lib.join]
      | cons a l ih =>
        intro hl
        cases l with
        | nil => rw [jw_one]; exact fun hx => (hl a (by simp) 10 hx).2 rfl
        | cons b r =>
          rw [jw_cons2]
          intro hx
          rcases List.mem_append.1 hx with hx | hx
          · exact (hl a (by simp) 10 hx).2 rfl
          · rcases List.mem_cons.1 hx with hx | hx
            · cases hx
            · exact ih (fun w hw => hl w (by simp at hw ⊢; exact .inr hw)) hx
    exact this _ (headM_no m) h
  · split at hp
    · obtain ⟨y, hy, rfl⟩ := List.mem_map.1 hp
      rcases List.mem_cons.1 h with h | h
      · cases h
      · exact pieces_no10 m.t y (List.dropLast_subset _ hy) h
    · cases hp
def textsM (ms : List MV) : List UInt8 := feedT (ms.flatMap shownM)
theorem textsM_pieces {ms : List MV} (h : ∀ m ∈ ms, mvGood m = true) : pieces 10 (textsM ms) = ms.flatMap shownM ++ [[]] :=
  pieces_feed _ fun p hp => by
    obtain ⟨m, hm, hp⟩ := List.mem_flatMap.1 hp
    exact shown_no10 (h m hm) p hp
theorem textsM_lines {ms : List MV} (h : ∀ m ∈ ms, mvGood m = true) : linesM (textsM ms) = ms.flatMap shownM := by
  unfold linesM
  rw [textsM_pieces h, List.dropLast_concat]
theorem textsM_rest {ms : List MV} (h : ∀ m ∈ ms, mvGood m = true) : restM (textsM ms) = [] := by
  unfold restM
  simp only [textsM_pieces h]
  simp
theorem textsM_rd {ms : List MV} (h : ∀ m ∈ ms, mvGood m = true ∧ MvOk m) : RdTo (linesM (textsM ms)) (linesM (textsM ms)).length (ms.map mvOnly) := by
  have hl := textsM_lines (fun m hm => (h m hm).1)
  have := RdTo.all ms (linesM (textsM ms)) 0 [] .zero (by rw [hl]; rfl) h
  simpa using this
/-- What is read of moves' text is these moves, of each what plays a part. -/
theorem read_moves {ms : List MV} (h : ∀ m ∈ ms, mvGood m = true ∧ MvOk m) {e : Ending} {w' : World} (hr : ReadR (textsM ms) w' e) :
    (ms.length ≤ 5000 ∧ ∃ A n c, e = .returned (.tuple #[.slice A n c, .int .i64 0, .int .i64 0]) ∧ ms.length = n ∧ LstAt 9 mvR w' A n c (ms.map mvOnly)) ∨ (5000 < ms.length ∧ e = .returned (.tuple #[.slice none 0 0, .int .i64 0, .int .i64 6])) := by
  have hrd := textsM_rd h
  have hre := textsM_rest (fun m hm => (h m hm).1)
  cases hr with
  | bad h1 h2 =>
    exfalso
    rcases h2 with ⟨h2, h3⟩ | ⟨h2, h3⟩
    · exact h1.no_stop hrd h2 h3
    · exact h3 hre
  | long h1 h2 h3 =>
    have := h1.same hrd
    subst this
    right
    exact ⟨by simpa using h3, rfl⟩
  | ok h1 h2 h3 h4 h5 =>
    have := h1.same hrd
    subst this
    left
    exact ⟨by simpa using h3, _, _, _, rfl, by simpa using h4, h5⟩
end Go.Proofs.YtlfknndpbejbcaaGreatDoor
set_option linter.unusedSimpArgs false
set_option linter.unusedVariables false
namespace Go.Proofs.YtlfknndpbejbcaaGreatDoor
open Go.RowKit Go.WideShapes Go.ChangeShapes
attribute [local go_sem] Oper.semAt_some
theorem sHex_any (A : Option Addr) (n c : Nat) (l : List UInt8) (w : World) (h : LstAt 1 byR w A n c l) (hn : n ≤ 1000000) :
    Calls Tryz.prog 17 #[.slice A n c] w fun e w' => e = .returned (.string (str (hexT l))) ∧ Below w.heap.size w w' := by
  have HX := hide (hex_any A n c l w h hn)
  clear h
  go_enter Tryz.func17, Tryz.ntmps17
  go_wp2_with fail
  refine HX.out.mono ?_
  rintro e w1 ⟨rfl, hb⟩
  have HB := hide hb
  clear hb
  go_wp2
  go_ret
  exact ⟨rfl, HB.out⟩
end Go.Proofs.YtlfknndpbejbcaaGreatDoor
set_option linter.unusedSimpArgs false
set_option linter.unusedVariables false
namespace Go.Proofs.YtlfknndpbejbcaaGreatDoor
open Go.RowKit Go.WideShapes Go.ChangeShapes
attribute [local go_sem] Oper.semAt_some
theorem byB_one (l : List UInt8) : ∀ u ∈ byB l, u.oneCell' = true := by
  intro u hu
  obtain ⟨x, _, rfl⟩ := List.mem_map.1 hu
  rfl
theorem by_reads {w : World} {A : Option Addr} {n c : Nat} {l : List UInt8} (h : LstAt 1 byR w A n c l) : Reads w w.heap.size 1 A n (byB l) := by
  refine ⟨by rw [byB_len, h.1, Nat.mul_one], fun hn => ?_⟩
  obtain ⟨g, o, hA, hg, hc⟩ := h.2.2.2 hn
  refine ⟨_, hA, hg, fun j u hu => ?_⟩
  unfold byB at hu
  rw [List.getElem?_map, Option.map_eq_some_iff] at hu
  obtain ⟨x, hx, rfl⟩ := hu
  obtain ⟨vs, _, rfl, h3⟩ := hc j x hx
  have := h3 0 _ rfl
  have e : (⟨g, o, none⟩ : Addr).add j = ⟨g, o + j, none⟩ := by unfold Addr.add; split <;> simp_all
  rw [e]
  simpa using this
def BytesP (l : List UInt8) (w : World) (e : Ending) (w' : World) : Prop := ∃ A n c, e = .returned (.slice A n c) ∧ l.length = n ∧ w'.ownsRow w.heap.size 5 1 (.slice A n c) n (byB l) ∧ Below w.heap.size w w'
set_option maxRecDepth 100000 in
theorem lawBytes_any (A : Option Addr) (n c : Nat) (l : List UInt8) (most : Nat) (hmost : most ≤ 100000) (w : World) (h : LstAt 1 byR w A n c l) :
    Calls Tryz.prog 14 #[.slice A n c, .int .i64 (most : Int)] w (BytesP (l.take most) w) := by
  obtain ⟨i0, hi, hz0, hz1, hz2⟩ := info_parts sU8Info
  have hn := h.2.2.1
  have hnc := h.2.1
  unfold maxLen at hn
  have hlen := h.1
  by_cases hm : most < n
  · have HT := hide (h.take_ (m := most) (by omega))
    have HC : Hid ((l.take most).length = most) := hide (by rw [List.length_take]; omega)
    clear hlen h
    go_enter Tryz.func14, Tryz.ntmps14
    go_wp2_with (at_builtin; refine wpList_append_any _ rfl (.tmp 12) (.tmp 13) 28 rfl w.heap.size 5 i0 _ 1 1 Tryz.underlying28 hi hz0 hz1 hz2 rfl (by decide) (.slice (some ⟨w.heap.size, 0, none⟩) 0 0) 0 [] rfl (World.ownsRow_made _ _ _ (Nat.le_refl _) (by simp [maxLen]) (by simp)) w.heap.size A most c (byB (l.take most)) rfl ((by_reads HT.out).alloc (Nat.le_refl _) _) (byB_one _) (by unfold maxLen; omega) (by omega) (by simp) ?_; intro v' w1 hown' hgrow _)
    go_ret
    obtain ⟨A', c', rfl⟩ := own_slice hown'
    exact ⟨A', _, c', rfl, by rw [HC.out]; omega, by simpa using hown', ((Below.refl _ _).alloc (Nat.le_refl _) _).grown hgrow (by simp) (fun k hk => by simp [Value.ownBlock] at hk; omega)⟩
  · have HL := hide hlen
    have HT := hide h
    have HC : Hid (l.take most = l) := hide (List.take_of_length_le (by omega))
    clear hlen h
    go_enter Tryz.func14, Tryz.ntmps14
    go_wp2_with (at_builtin; refine wpList_append_any _ rfl (.tmp 12) (.tmp 13) 28 rfl w.heap.size 5 i0 _ 1 1 Tryz.underlying28 hi hz0 hz1 hz2 rfl (by decide) (.slice (some ⟨w.heap.size, 0, none⟩) 0 0) 0 [] rfl (World.ownsRow_made _ _ _ (Nat.le_refl _) (by simp [maxLen]) (by simp)) w.heap.size A n c (byB l) rfl ((by_reads HT.out).alloc (Nat.le_refl _) _) (byB_one _) (by unfold maxLen; omega) (by omega) (by simp) ?_; intro v' w1 hown' hgrow _)
    go_ret
    obtain ⟨A', c', rfl⟩ := own_slice hown'
    exact ⟨A', _, c', rfl, by rw [HC.out, HL.out]; omega, by rw [HC.out]; simpa using hown', ((Below.refl _ _).alloc (Nat.le_refl _) _).grown hgrow (by simp) (fun k hk => by simp [Value.ownBlock] at hk; omega)⟩
theorem dg_cut (q : Nat) (h : q < 16) : (⟨#[48, 49, 50, 51, 52, 53, 54, 55, 56, 57, 97, 98, 99, 100, 101, 102]⟩ : ByteArray).extract q (q + 1) = str [dgN q] := by
  have hh : ∀ n : Fin 16, (⟨#[48, 49, 50, 51, 52, 53, 54, 55, 56, 57, 97, 98, 99, 100, 101, 102]⟩ : ByteArray).extract n.val (n.val + 1) = str [dgN n.val] := by decide +kernel
  exact hh ⟨q, h⟩
set_option maxRecDepth 100000 in
set_option maxHeartbeats 2000000 in
theorem rhex_any (A : Option Addr) (n c : Nat) (l : List UInt8) (w : World) (h : LstAt 1 byR w A n c l) (hn : n ≤ 1000000) :
    Calls Tryz.prog 16 #[.slice A n c] w fun e w' => e = .returned (.string (str (hexT l))) ∧ Below w.heap.size w w' := by
  have HU := hide h
  have hm := h.2.2.1
  have hnc := h.2.1
  unfold maxLen at hm
  clear h
  go_enter Tryz.func16, Tryz.ntmps16
  go_wp2
  go_loopw [3, 5] (fun sv iv wr => ∃ k : Nat, k ≤ n ∧ iv = .int .i64 (k : Nat) ∧ sv = .string (str (hexD (l.take k))) ∧ Below w.heap.size w wr) (fun _ iv _ => n - (intOf iv).toNat)
  case atStart => exact ⟨0, Nat.zero_le _, rfl, rfl, Below.refl _ _⟩
  case round =>
    obtain ⟨k, hk, rfl, rfl, hbel⟩ := hrel
    have HB := hide hbel
    have hlen := hexD_len (l.take k)
    rw [List.length_take] at hlen
    by_cases hlt : k < n
    · obtain ⟨g, o, x, rfl, hg, hx, hc⟩ := BYat (HU.out.below byMono hbel) hlt
      have q0 : (0 : Int) ≤ (k : Int) := by omega
      have q1 : (k : Int) < (n : Int) := by omega
      obtain ⟨hi, hhi⟩ : ∃ hi, x.toNat / 16 = hi := ⟨_, rfl⟩
      obtain ⟨lo, hlo⟩ : ∃ lo, x.toNat % 16 = lo := ⟨_, rfl⟩
      have hxl := x.toNat_lt
      have hi16 : hi < 16 := by omega
      have lo16 : lo < 16 := by omega
      have d1 : (x.toNat : Int) / 16 = (hi : Int) := by omega
      have d2 : (x.toNat : Int) % 16 = (lo : Int) := by omega
      have d3 : IntKind.u8.wrap (hi : Int) = (hi : Int) := by simp [IntKind.wrap, IntKind.bits, IntKind.signed]; omega
      have d4 : IntKind.u8.wrap ((hi : Int) + 1) = (hi : Int) + 1 := by simp [IntKind.wrap, IntKind.bits, IntKind.signed]; omega
      have d5 : IntKind.u8.wrap ((lo : Int) + 1) = (lo : Int) + 1 := by simp [IntKind.wrap, IntKind.bits, IntKind.signed]; omega
      have d6 : (0 : Int) ≤ (hi : Int) := by omega
      have d7 : (hi : Int) + 1 ≤ 16 := by omega
      have d8 : (0 : Int) ≤ (lo : Int) := by omega
      have d9 : (lo : Int) + 1 ≤ 16 := by omega
      have t1 : (IntKind.u8.wrap (hi : Int)).toNat = hi := by rw [d3]; simp
      have HS : Hid (str (hexD (l.take k)) ++ str [dgN hi] ++ str [dgN lo] = str (hexD (l.take (k + 1)))) := hide (by
        rw [List.take_add_one, hx, cat_str, cat_str]
        unfold hexD
        rw [List.flatMap_append]
        simp [hhi, hlo])
      have HC1 := hide (dg_cut hi hi16)
      have HC2 := hide (dg_cut lo lo16)
      have hsz : (str (hexD (l.take k))).size ≤ 2000000 := by rw [str_size]; omega
      obtain ⟨S, hS⟩ : ∃ S, str (hexD (l.take k)) = S := ⟨_, rfl⟩
      rw [hS] at hsz HS ⊢
      clear hx hbel hlen hS hhi hlo hxl
      go_wp2
      go_quiet (fail)
      rw [HC1.out, HC2.out, HS.out]
      go_wp2
      go_roundw
      case rel => exact ⟨k + 1, by omega, by go_num, rfl, below_drewN HB.out _⟩
      case measure => simp [intOf]; omega
    · obtain rfl : k = n := by omega
      have ht : Hid (l.take k = l) := hide (List.take_of_length_le (by rw [HU.out.1]; exact Nat.le_refl _))
      rw [ht.out]
      have hb0 : ((str (hexD l)).toList == []) = decide (l = []) := by
        unfold str; rw [ByteArray.toList_mk]
        cases l with
        | nil => rfl
        | cons a b => rw [hexD_cons]; simp
      by_cases h0 : l = []
      · have hb1 : ((str (hexD l)).toList == []) = true := by rw [hb0]; exact decide_eq_true h0
        have HL : Hid (hexT l = [45]) := hide (by rw [h0]; rfl)
        clear hb0 h0 hlen hbel
        go_wp2
        go_ret
        exact ⟨by rw [HL.out]; rfl, HB.out⟩
      · have hb1 : ((str (hexD l)).toList == []) = false := by rw [hb0]; exact decide_eq_false h0
        have HL : Hid (hexT l = hexD l) := hide (by unfold hexT; rw [if_neg h0])
        clear hb0 h0 hlen hbel
        go_wp2
        go_ret
        exact ⟨by rw [HL.out]; rfl, HB.out⟩
end Go.Proofs.YtlfknndpbejbcaaGreatDoor
set_option linter.unusedSimpArgs false
set_option linter.unusedVariables false
namespace Go.Proofs.YtlfknndpbejbcaaGreatDoor
open Go.RowKit Go.WideShapes Go.ChangeShapes
attribute [local go_sem] Oper.semAt_some
theorem last_at {t : List UInt8} {j : Nat} {T : ByteArray} (hT : str t = T) (hj : T.size = j + 1) : ∃ c, t.getLast? = some c ∧ ∀ h : j < T.size, T[j]'h = c := by
  subst hT
  rw [str_size] at hj
  have hjl : j < t.length := by omega
  refine ⟨t[j], ?_, fun h => ?_⟩
  · rw [List.getLast?_eq_getElem?, hj, Nat.add_sub_cancel, List.getElem?_eq_getElem hjl]
  · have := str_at (s := t) rfl j h
    rw [List.getElem?_eq_getElem hjl] at this
    exact (Option.some.inj this).symm
set_option maxRecDepth 100000 in
set_option maxHeartbeats 2000000 in
theorem rgood_any (m : MV) (A : Option Addr) (n c : Nat) (w : World) (hb : m.b.length = n) (ht : m.t.length ≤ 9223372036854775807) :
    Calls Tryz.prog 8 #[mvV m (.slice A n c)] w (GoodP (mvGood m) w) := by
  obtain ⟨k, p, nn, b, t, oa, oh, oi, fo⟩ := m
  simp only at hb ht
  have HB := hide ((Below.refl w.heap.size w).alloc (Nat.le_refl _) (.cells #[.int .i64 k, .int .u32 (p : Int), .int .i64 nn, .slice A n c, .string (str t), .int .u32 (oa : Int), .int .i64 oh, .int .u32 (oi : Int), .bool fo] 32))
  have Hb := hide hb
  clear hb
  unfold mvV
  simp only
  by_cases h8 : k = 8
  · subst h8
    have HR : Hid (mvGood ⟨8, p, nn, b, t, oa, oh, oi, fo⟩ = (decide (0 < nn) && decide (nn ≤ 1048576))) := hide (by
      unfold mvGood
      simp only [if_true]
      rw [Bool.eq_iff_iff]
      simp; omega)
    rw [HR.out]
    obtain ⟨q1, hq1⟩ : ∃ q, decide (0 < nn) = q := ⟨_, rfl⟩
    obtain ⟨q2, hq2⟩ : ∃ q, decide (nn ≤ 1048576) = q := ⟨_, rfl⟩
    rw [hq1, hq2]
    cases q1
    all_goals
      go_enter Tryz.func8, Tryz.ntmps8
      go_wp2
      go_ret
      exact ⟨by simp, HB.out⟩
  · have e8 : (k == 8) = false := by simpa using h8
    by_cases h5 : k = 5
    · subst h5
      have HR : Hid (mvGood ⟨5, p, nn, b, t, oa, oh, oi, fo⟩ = decide ((n : Int) ≤ 4096)) := hide (by unfold mvGood; simp [Hb.out]; omega)
      rw [HR.out]
      go_enter Tryz.func8, Tryz.ntmps8
      go_wp2
      go_ret
      exact ⟨by simp, HB.out⟩
    · have e5 : (k == 5) = false := by simpa using h5
      by_cases h7 : k = 7
      · subst h7
        have hsz : (str t).size = t.length := str_size t
        have HR : Hid (mvGood ⟨7, p, nn, b, t, oa, oh, oi, fo⟩ = (decide ((t.length : Int) ≤ 100000) && (decide (t = []) || decide (t.getLast? = some 10)))) := hide (by
          unfold mvGood
          simp only [show ((7 : Int) = 8) = False by simp, show ((7 : Int) = 5) = False by simp, if_false, if_true]
          congr 1
          simp only [decide_eq_decide]; omega)
        rw [HR.out]
        have hte : ((str t).toList == []) = decide (t = []) := by
          unfold str; rw [ByteArray.toList_mk]
          cases t <;> simp
        obtain ⟨T, hT⟩ : ∃ T, str t = T := ⟨_, rfl⟩
        have HTT := hide hT
        rw [hT] at hsz hte HB ⊢
        obtain ⟨q1, hq1⟩ : ∃ q, decide ((t.length : Int) ≤ 100000) = q := ⟨_, rfl⟩
        rw [hq1]
        have hq1s : decide ((T.size : Int) ≤ 100000) = q1 := by rw [hsz]; exact hq1
        have HSz := hide hsz
        clear hsz hq1 hT
        cases q1
        · clear hte
          go_enter Tryz.func8, Tryz.ntmps8
          go_wp2
          go_ret
          exact ⟨rfl, HB.out⟩
        · by_cases hn0 : t = []
          · have hte2 : (T.toList == []) = true := by rw [hte]; exact decide_eq_true hn0
            have HF : Hid (decide (t = []) = true) := hide (decide_eq_true hn0)
            clear hte hn0
            go_enter Tryz.func8, Tryz.ntmps8
            go_wp2
            go_ret
            exact ⟨by rw [HF.out]; rfl, HB.out⟩
          · have hte2 : (T.toList == []) = false := by rw [hte]; exact decide_eq_false hn0
            have HF : Hid (decide (t = []) = false) := hide (decide_eq_false hn0)
            have hpos : 0 < t.length := List.length_pos_iff.2 hn0
            obtain ⟨j, hj⟩ : ∃ j, T.size = j + 1 := ⟨T.size - 1, by have := HSz.out; omega⟩
            obtain ⟨cc, hcc, hix⟩ := last_at HTT.out hj
            have HL : Hid (decide (t.getLast? = some 10) = ((cc.toNat : Int) == 10)) := hide (by
              rw [hcc, Bool.eq_iff_iff]
              simp only [decide_eq_true_eq, Option.some.injEq, beq_iff_eq]
              constructor
              · rintro rfl; rfl
              · intro h
                have h2 : cc.toNat = 10 := by omega
                exact UInt8.toNat_inj.1 h2)
            have hTb : T.size ≤ 9223372036854775807 := by have := HSz.out; omega
            have hwr : IntKind.i64.wrap ((T.size : Int) - 1) = (j : Int) := by rw [IntKind.wrap_i64]; omega
            have hj0 : (0 : Int) ≤ (j : Int) := by omega
            have hj1 : (j : Int) < (T.size : Int) := by omega
            have hj2 : j < T.size := by omega
            clear hte hn0 hpos hcc hj
            go_enter Tryz.func8, Tryz.ntmps8
            go_wp2
            go_ret
            exact ⟨by rw [HF.out, HL.out]; simp, HB.out⟩
      · have e7 : (k == 7) = false := by simpa using h7
        by_cases h9 : k = 9
        · subst h9
          have HR : Hid (mvGood ⟨9, p, nn, b, t, oa, oh, oi, fo⟩ = (decide (0 ≤ oh) && decide (oh < 65536) && fo)) := hide (by
            unfold mvGood
            simp only [show ((9 : Int) = 8) = False by simp, show ((9 : Int) = 5) = False by simp, show ((9 : Int) = 7) = False by simp, if_false, if_true]
            congr 1
            rw [Bool.eq_iff_iff]
            simp; omega)
          rw [HR.out]
          obtain ⟨q1, hq1⟩ : ∃ q, decide (0 ≤ oh) = q := ⟨_, rfl⟩
          obtain ⟨q2, hq2⟩ : ∃ q, decide (oh < 65536) = q := ⟨_, rfl⟩
          rw [hq1, hq2]
          cases q1 <;> cases q2
          all_goals
            go_enter Tryz.func8, Tryz.ntmps8
            go_wp2
            go_ret
            exact ⟨by simp, HB.out⟩
        · have e9 : (k == 9) = false := by simpa using h9
          have HR : Hid (mvGood ⟨k, p, nn, b, t, oa, oh, oi, fo⟩ = (decide (0 < k) && decide (k < 11))) := hide (by
            unfold mvGood
            rw [if_neg h8, if_neg h5, if_neg h7, if_neg h9, Bool.eq_iff_iff]
            simp; omega)
          rw [HR.out]
          obtain ⟨q1, hq1⟩ : ∃ q, decide (0 < k) = q := ⟨_, rfl⟩
          obtain ⟨q2, hq2⟩ : ∃ q, decide (k < 11) = q := ⟨_, rfl⟩
          rw [hq1, hq2]
          clear h5 h7 h8 h9
          cases q1
          all_goals
            go_enter Tryz.func8, Tryz.ntmps8
            go_wp2
            go_ret
            exact ⟨by simp, HB.out⟩
end Go.Proofs.YtlfknndpbejbcaaGreatDoor
set_option linter.unusedSimpArgs false
set_option linter.unusedVariables false
namespace Go.Proofs.YtlfknndpbejbcaaGreatDoor
open Go.RowKit Go.WideShapes Go.ChangeShapes
attribute [local go_sem] Oper.semAt_some
theorem feedT_snoc (l : List (List UInt8)) (x : List UInt8) : feedT (l ++ [x]) = feedT l ++ (x ++ [10]) := by
  unfold feedT
  simp
theorem shown_feed {m : MV} (ok : MvOk m) (hg : mvGood m = true) : (feedT (shownM m)).length ≤ 1000000 := by
  have h0 := head_len ok hg
  unfold shownM
  rw [feedT_cons_len]
  have : (feedT (behM m)).length ≤ 200000 := by
    unfold behM
    split
    · rename_i h7
      have h2 : ∀ l : List (List UInt8), (feedT (l.map (124 :: ·))).length = (feedT l).length + l.length := by
        intro l
        induction l with
        | nil => rfl
        | cons x l ih => rw [List.map_cons, feedT_cons_len, feedT_cons_len, ih]; simp; omega
      rw [h2]
      have h3 := linesM_feed m.t
      have h4 := linesM_len m.t
      unfold mvGood at hg
      rw [h7] at hg
      simp at hg
      omega
    · simp [feedT]
  omega
end Go.Proofs.YtlfknndpbejbcaaGreatDoor
