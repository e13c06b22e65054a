import Derived.Test.YtiibglkiakhfgaaDoorAlA
import Derived.Test.YtiibglkiakhfgaaDoorLexWordsW
import Derived.Test.YtiibglkiakhfgaaDoorFmtU
import Derived.Test.YtiibglkiakhfgaaDoorShEq
set_option linter.unusedSimpArgs false
set_option linter.unusedVariables false
namespace Go.Proofs.YtiibglkiakhfgaaDoor
open Go.RowKit
attribute [local go_sem] Oper.semAt_some
/-! ### A rule, read and written: plain -/
def manyT : List UInt8 := [42]
def anyT : List UInt8 := [46]
def permitT : List UInt8 := [112, 101, 114, 109, 105, 116]
def denyT : List UInt8 := [100, 101, 110, 121]
/-- A piece, of a word. -/
def pieceP (l : List UInt8) : Int × Nat := if l = anyT then (2, 0) else if l = manyT then (3, 0) else (1, if numOk l 4294967295 then numOf l else 0)
def knownP (t : Int × Nat) : Bool := (t.1 == 1) || ((t.1 == 2 || t.1 == 3) && t.2 == 0)
def goodP (ts : List (Int × Nat)) : Bool := decide (ts.length ≤ 30) && ts.all knownP
def wordP (t : Int × Nat) : List UInt8 := if t.1 = 2 then anyT else if t.1 = 3 then manyT else Lib.decDigits t.2
def wordsP (b : Bool) (ts : List (Int × Nat)) : List (List UInt8) := (if b then permitT else denyT) :: ts.map wordP
theorem pieceP_lt (l : List UInt8) : (pieceP l).2 < 4294967296 := by
  unfold pieceP
  split
  · simp
  · split
    · simp
    · simp only
      split
      · next h =>
        simp only [numOk, Bool.and_eq_true, decide_eq_true_eq] at h
        omega
      · omega
theorem eqConst (l : List UInt8) (c : List UInt8) : ((str l).toList == c) = decide (l = c) := by
  unfold str; rw [ByteArray.toList_mk]; by_cases h : l = c <;> simp [h]
set_option maxHeartbeats 1000000 in
theorem piece_any (l : List UInt8) (hl : l.length ≤ 1000) (w : World) (he : Env w) :
    Calls Tryd.prog 148 #[.string (str l)] w fun e w' => e = .returned (.agg #[.int .i64 (pieceP l).1, .int .u32 ((pieceP l).2 : Nat)]) ∧ Below w.heap.size w w' := by
  have hal : Below w.heap.size w (w.alloc (.cells #[.int .i64 0, .int .u32 0] 83)) := (Below.refl _ w).alloc (Nat.le_refl _) _
  have HN := hide (lexNumber_any l hl 4294967295 _ (he.below hal))
  have HB := hide hal
  clear he hal
  by_cases h1 : l = anyT
  · have hp : Hid (pieceP l = (2, 0)) := hide (by unfold pieceP; rw [if_pos h1])
    have ht : ((str l).toList == [46]) = true := by rw [eqConst]; exact decide_eq_true h1
    clear h1 HN
    go_enter Tryd.func148, Tryd.ntmps148
    go_wp2
    refine bodyPost_ret (v := .agg #[.int .i64 2, .int .u32 0]) (by simp [results, Tryd.results148, go_sem]) rfl ⟨by rw [hp.out]; rfl, (Below.refl _ w).alloc (Nat.le_refl _) _⟩
  · have ht : ((str l).toList == [46]) = false := by rw [eqConst]; exact decide_eq_false h1
    by_cases h2 : l = manyT
    · have hp : Hid (pieceP l = (3, 0)) := hide (by unfold pieceP; rw [if_neg h1, if_pos h2])
      have ht2 : ((str l).toList == [42]) = true := by rw [eqConst]; exact decide_eq_true h2
      clear h1 h2 HN
      go_enter Tryd.func148, Tryd.ntmps148
      go_wp2
      refine bodyPost_ret (v := .agg #[.int .i64 3, .int .u32 0]) (by simp [results, Tryd.results148, go_sem]) rfl ⟨by rw [hp.out]; rfl, (Below.refl _ w).alloc (Nat.le_refl _) _⟩
    · have ht2 : ((str l).toList == [42]) = false := by rw [eqConst]; exact decide_eq_false h2
      have hp : Hid (pieceP l = (1, if numOk l 4294967295 then numOf l else 0)) := hide (by unfold pieceP; rw [if_neg h1, if_neg h2])
      obtain ⟨n, b, hn, hnb, hr⟩ : ∃ (n : Nat) (b : Bool), (if numOk l 4294967295 then numOf l else 0) = n ∧ n < 4294967296 ∧ numRes l 4294967295 = .tuple #[.int .i64 (n : Nat), .bool b] := by
        unfold numRes
        by_cases hk : numOk l 4294967295 = true
        · rw [if_pos hk, if_pos hk]
          refine ⟨_, _, rfl, ?_, rfl⟩
          simp only [numOk, Bool.and_eq_true, decide_eq_true_eq] at hk
          omega
        · rw [if_neg hk, if_neg hk]
          exact ⟨0, _, rfl, by omega, rfl⟩
      rw [hn] at hp
      have hw1 : IntKind.u32.wrap (n : Int) = (n : Int) := by rw [IntKind.wrap_u32]; omega
      have HR := hide hr
      clear h1 h2 hn hr
      go_enter Tryd.func148, Tryd.ntmps148
      go_wp2_with fail
      refine HN.out.mono ?_
      rintro e w1 ⟨rfl, hb⟩
      rw [HR.out]
      have hk := (Blk.new w 83 #[.int .i64 0, .int .u32 0]).below hb (by simp)
      have HK := hide hk
      have x0 := hk.cell 0
      have x1 := hk.cell 1
      have y0 := hk.frozen 0
      have y1 := hk.frozen 1
      have HB1 := hide (below2 HB.out hb)
      clear hb hk
      go_wp2
      have HK1 := ((HK.out.set_ 0 (.int .i64 1)).set_ 1 (.int .u32 (n : Int)))
      have z0 := HK1.cell 0
      have z1 := HK1.cell 1
      refine bodyPost_ret (v := .agg #[.int .i64 1, .int .u32 (n : Nat)]) (by simp [results, Tryd.results148, go_sem, z0, z1]) rfl ⟨by rw [hp.out], ?_⟩
      exact (HB1.out.setCell (p := ⟨w.heap.size, 0, none⟩) (Nat.le_refl _) _).setCell (p := ⟨w.heap.size, 1, none⟩) (Nat.le_refl _) _
set_option maxHeartbeats 1000000 in
theorem tokKnown_any (kd : Int) (x : Nat) (w : World) :
    Calls Tryd.prog 178 #[.agg #[.int .i64 kd, .int .u32 x]] w fun e w' => e = .returned (.bool (knownP (kd, x))) ∧ Below w.heap.size w w' := by
  have HB : Hid (Below w.heap.size w (w.alloc (.cells #[.int .i64 kd, .int .u32 (x : Int)] 83))) := hide ((Below.refl _ w).alloc (Nat.le_refl _) _)
  have hx : ((x : Int) == 0) = (x == 0) := by rw [Bool.eq_iff_iff]; simp
  cases h1 : ((kd : Int) == 1)
  · cases h2 : ((kd : Int) == 2)
    · cases h3 : ((kd : Int) == 3)
      · have HR := hide (show knownP (kd, x) = false by simp [knownP, h1, h2, h3])
        clear hx
        go_enter Tryd.func178, Tryd.ntmps178
        go_wp2
        go_ret
        exact ⟨ret_bool HR.out.symm, HB.out⟩
      · have HR := hide (show knownP (kd, x) = ((x : Int) == 0) by rw [hx]; simp [knownP, h1, h2, h3])
        clear hx
        go_enter Tryd.func178, Tryd.ntmps178
        go_wp2
        go_ret
        exact ⟨ret_bool HR.out.symm, HB.out⟩
    · have HR := hide (show knownP (kd, x) = ((x : Int) == 0) by rw [hx]; simp [knownP, h1, h2])
      clear hx
      go_enter Tryd.func178, Tryd.ntmps178
      go_wp2
      go_ret
      exact ⟨ret_bool HR.out.symm, HB.out⟩
  · have HR := hide (show knownP (kd, x) = true by simp [knownP, h1])
    clear hx
    go_enter Tryd.func178, Tryd.ntmps178
    go_wp2
    go_ret
    exact ⟨ret_bool HR.out.symm, HB.out⟩
set_option maxHeartbeats 1000000 in
theorem odd_any (kd : Int) (x : Nat) (w : World) :
    Calls Tryd.prog 177 #[.agg #[.int .i64 kd, .int .u32 x]] w fun e w' => e = .returned (.bool (!knownP (kd, x))) ∧ Below w.heap.size w w' := by
  have hal : Below w.heap.size w (w.alloc (.cells #[.int .i64 kd, .int .u32 (x : Int)] 83)) := (Below.refl _ w).alloc (Nat.le_refl _) _
  have HK := hide (tokKnown_any kd x (w.alloc (.cells #[.int .i64 kd, .int .u32 (x : Int)] 83)))
  have HB := hide hal
  clear hal
  go_enter Tryd.func177, Tryd.ntmps177
  go_wp2_with fail
  refine HK.out.mono ?_
  rintro e w1 ⟨rfl, hb⟩
  have HB1 := hide (below2 HB.out hb)
  clear hb
  go_wp2
  go_ret
  exact ⟨rfl, HB1.out⟩
set_option maxHeartbeats 1000000 in
theorem tokIndex_any (A : Option Addr) (n c : Nat) (ts : List (Int × Nat)) (w : World) (h : TokAt w A n c ts) :
    Calls Tryd.prog 208 #[.slice A n c, .func (.func 177) #[] #[]] w fun e w' => ∃ i : Int, e = .returned (.int .i64 i) ∧ decide (0 ≤ i) = !ts.all knownP ∧ Below w.heap.size w w' := by
  have hm := h.2.2.1
  have hnc := h.2.1
  unfold maxLen at hm
  have HU := hide h
  clear h
  go_enter Tryd.func208, Tryd.ntmps208
  go_wp2
  go_loopw [8] (fun i wr => ∃ k : Nat, k ≤ n ∧ i = .int .i64 k ∧ (ts.take k).all knownP = true ∧ Below w.heap.size w wr) (fun i _ => n - (intOf i).toNat)
  case atStart => exact ⟨0, Nat.zero_le _, rfl, by simp, Below.refl _ _⟩
  case round =>
    obtain ⟨k, hk, rfl, hno, hb⟩ := hrel
    have HN := hide hno
    have HA := hide (HU.out.below hb)
    have HB := hide hb
    have hsz := hb.size
    clear hno hb
    by_cases hlt : k < n
    · obtain ⟨g, kd, x, rfl, hg, hy, _, hx, c0, c1⟩ := HA.out.at_ hlt
      have HO := hide (odd_any kd x wr)
      have HY := hide hy
      clear hy
      go_wp2_with fail
      refine HO.out.mono ?_
      rintro e w1 ⟨rfl, hb1⟩
      have HB1 := hide (HB.out.trans (hb1.mono hsz))
      clear hb1
      cases hkn : knownP (kd, x)
      · have hin := hide (show decide ((0 : Int) ≤ (k : Int)) = !ts.all knownP by
          have hm : (kd, x) ∈ ts := List.mem_of_getElem? HY.out
          have : ts.all knownP = false := by
            rw [List.all_eq_false]; exact ⟨_, hm, by simp [hkn]⟩
          rw [this]; simp)
        clear hkn
        go_wp2
        go_ret
        exact ⟨_, rfl, hin.out, HB1.out⟩
      · have hn2 := hide (show (ts.take (k + 1)).all knownP = true by
          rw [List.take_add_one, HY.out, List.all_append, HN.out]
          simp [hkn])
        clear hkn
        go_wp2
        go_roundw
        case rel => exact ⟨k + 1, by omega, by go_num, hn2.out, HB1.out⟩
        case measure => simp [intOf]; omega
    · obtain rfl : k = n := by omega
      have hf := hide (show decide ((0 : Int) ≤ -1) = !ts.all knownP by
        have := HN.out
        rw [List.take_of_length_le (by rw [HU.out.1]; exact Nat.le_refl _)] at this
        rw [this]; simp)
      go_wp2
      go_ret
      exact ⟨_, rfl, hf.out, HB.out⟩
set_option maxHeartbeats 1000000 in
theorem tokOdd_any (A : Option Addr) (n c : Nat) (ts : List (Int × Nat)) (w : World) (h : TokAt w A n c ts) :
    Calls Tryd.prog 179 #[.slice A n c, .func (.func 177) #[] #[]] w fun e w' => e = .returned (.bool (!ts.all knownP)) ∧ Below w.heap.size w w' := by
  have HI := hide (tokIndex_any A n c ts w h)
  clear h
  go_enter Tryd.func179, Tryd.ntmps179
  go_wp2_with fail
  refine HI.out.mono ?_
  rintro e w1 ⟨i, rfl, hd, hb⟩
  have HD := hide hd
  have HB := hide hb
  clear hd hb
  go_wp2
  go_ret
  exact ⟨ret_bool HD.out, HB.out⟩
set_option maxHeartbeats 1000000 in
theorem agood_any (b : Bool) (A : Option Addr) (n c : Nat) (ts : List (Int × Nat)) (w : World) (h : TokAt w A n c ts) :
    Calls Tryd.prog 149 #[.agg #[.bool b, .slice A n c]] w fun e w' => e = .returned (.bool (goodP ts)) ∧ Below w.heap.size w w' := by
  have hal : Below w.heap.size w (w.alloc (.cells #[.bool b, .slice A n c] 78)) := (Below.refl _ w).alloc (Nat.le_refl _) _
  have HO := hide (tokOdd_any A n c ts _ (h.below hal))
  have HB := hide hal
  have hm := h.2.2.1
  have hnc := h.2.1
  have hl := hide h.1
  unfold maxLen at hm
  clear h hal
  by_cases h30 : n ≤ 30
  · have hd : decide ((n : Int) ≤ 30) = true := by simp; omega
    have HR := hide (show goodP ts = ts.all knownP by unfold goodP; rw [hl.out, decide_eq_true h30]; rfl)
    clear h30
    go_enter Tryd.func149, Tryd.ntmps149
    go_wp2_with fail
    refine HO.out.mono ?_
    rintro e w1 ⟨rfl, hb⟩
    have HB1 := hide (below2 HB.out hb)
    obtain ⟨q, hq⟩ : ∃ q, ts.all knownP = q := ⟨_, rfl⟩
    rw [hq] at HR ⊢
    clear hb hq
    go_wp2
    go_ret
    exact ⟨ret_bool (by rw [HR.out]), HB1.out⟩
  · have hd : decide ((n : Int) ≤ 30) = false := by simp; omega
    have HR := hide (show goodP ts = false by unfold goodP; rw [hl.out, decide_eq_false h30]; rfl)
    clear h30
    go_enter Tryd.func149, Tryd.ntmps149
    go_wp2
    go_ret
    exact ⟨ret_bool HR.out.symm, HB.out⟩
end Go.Proofs.YtiibglkiakhfgaaDoor
set_option linter.unusedSimpArgs false
set_option linter.unusedVariables false
namespace Go.Proofs.YtiibglkiakhfgaaDoor
open Go.RowKit
attribute [local go_sem] Oper.semAt_some
theorem own_oneS {w : World} {base : Nat} (x : Value) (hb : base ≤ w.heap.size) : (w.alloc (.cells #[x] 9)).ownsRow base 9 1 (.slice (some ⟨w.heap.size, 0, none⟩) 1 1) 1 [x] :=
  ⟨rfl, .inr ⟨w.heap.size, 1, #[x], rfl, hb, heap_alloc_new w _, Nat.le_refl _, by simp [maxLen], rfl, by simp⟩⟩
theorem wordsP_snoc (b : Bool) (ts : List (Int × Nat)) {k : Nat} {t : Int × Nat} (h : ts[k]? = some t) : wordsP b (ts.take (k + 1)) = wordsP b (ts.take k) ++ [wordP t] := by
  unfold wordsP
  rw [take_snoc_g h]
  simp
theorem wordsP_len (b : Bool) (ts : List (Int × Nat)) : (wordsP b ts).length = ts.length + 1 := by simp [wordsP]
structure WdSt (base : Nat) (w0 w : World) (k : Nat) (v : Value) (b : Bool) (ts : List (Int × Nat)) : Prop where
  own : w.ownsRow base 9 1 v (k + 1) (strv (wordsP b (ts.take k)))
  val : ∃ A c, v = .slice A (k + 1) c
  bel : Below base w0 w
theorem WdSt.next {base k : Nat} {w0 wr w2 w3 : World} {v v' : Value} {b : Bool} {ts : List (Int × Nat)} {t : Int × Nat} (h : WdSt base w0 wr k v b ts) (hbase : base = w0.heap.size) (hx : ts[k]? = some t) (hb : Below wr.heap.size wr w2)
    (ho : w3.ownsRow base 9 1 v' (k + 1 + 1) (strv (wordsP b (ts.take k)) ++ [.string (str (wordP t))])) (hg : (w2.alloc (.cells #[.string (str (wordP t))] 9)).grownBy w3 v.ownBlock) : WdSt base w0 w3 (k + 1) v' b ts := by
  have hs : base ≤ wr.heap.size := by rw [hbase]; rw [hbase] at h; exact h.bel.size
  have hs2 := hb.size
  have hB2 : Below base w0 w2 := h.bel.trans (hb.mono hs)
  have hO2 := own_below h.own hb
  refine ⟨?_, own_slice ho, ?_⟩
  · rw [wordsP_snoc b ts hx, strv_snoc]; exact ho
  · exact Below.grown (hB2.alloc (by omega) _) hg (by simp; omega) (fun k hk => (hO2.lt k hk).1)
set_option maxHeartbeats 4000000 in
theorem awords_any (b : Bool) (A : Option Addr) (n c : Nat) (ts : List (Int × Nat)) (w : World) (h : TokAt w A n c ts) (hn : n ≤ 1000) (ht : Tab w) :
    Calls Tryd.prog 151 #[.agg #[.bool b, .slice A n c]] w fun e w' => ∃ A' c', e = .returned (.slice A' (n + 1) c') ∧ w'.ownsRow w.heap.size 9 1 (.slice A' (n + 1) c') (n + 1) (strv (wordsP b ts)) ∧ Below w.heap.size w w' := by
  obtain ⟨i0, hi, hz0, hz1, hz2⟩ := info_parts infoStr
  have hal : Below w.heap.size w ((w.alloc (.cells #[.bool b, .slice A n c] 78)).alloc (.cells #[.string (str (if b then permitT else denyT))] 9)) := ((Below.refl _ w).alloc (Nat.le_refl _) _).alloc (by simp) _
  have HS0 : Hid (WdSt w.heap.size w ((w.alloc (.cells #[.bool b, .slice A n c] 78)).alloc (.cells #[.string (str (if b then permitT else denyT))] 9)) 0 (.slice (some ⟨w.heap.size + 1, 0, none⟩) 1 1) b ts) := hide ⟨by
    have := own_oneS (w := w.alloc (.cells #[.bool b, .slice A n c] 78)) (base := w.heap.size) (.string (str (if b then permitT else denyT))) (by simp)
    simpa [wordsP, strv] using this, ⟨_, _, rfl⟩, hal⟩
  have HA := hide h
  have HT := hide ht
  have hm := h.2.2.1
  have hnc := h.2.1
  unfold maxLen at hm
  clear h ht hal
  cases b
  all_goals
    go_enter Tryd.func151, Tryd.ntmps151
    go_wp2
    go_loopw [3, 14] (fun v i wr => ∃ k : Nat, k ≤ n ∧ i = .int .i64 (k : Nat) ∧ WdSt w.heap.size w wr k v _ ts) (fun _ i _ => n - (intOf i).toNat)
    case atStart => exact ⟨0, Nat.zero_le _, rfl, HS0.out⟩
    case round =>
      obtain ⟨k, hk, rfl, hst⟩ := hrel
      have HST := hide hst
      have HO := hide hst.own
      obtain ⟨A', c', rfl⟩ := hst.val
      have HA2 := hide (HA.out.below hst.bel)
      have HT2 := hide (HT.out.below hst.bel)
      have hsz := hst.bel.size
      clear hst
      by_cases hlt : k < n
      · obtain ⟨g, kd, x, rfl, hg, hx, _, hx2, c0, c1⟩ := HA2.out.at_ hlt
        have HX := hide hx
        clear hx
        have hal1 : Below wr.heap.size wr (wr.alloc (.cells #[.int .i64 kd, .int .u32 (x : Int)] 83)) := (Below.refl _ wr).alloc (Nat.le_refl _) _
        have HB1 := hide hal1
        have HF := hide (fmtU_any x (by omega) _ (HT2.out.below hal1))
        have hwr : IntKind.u64.wrap (x : Int) = (x : Int) := by rw [IntKind.wrap_u64]; omega
        clear hal1
        cases h2 : ((kd : Int) == 2)
        · cases h3 : ((kd : Int) == 3)
          · have HWd : Hid (wordP (kd, x) = Lib.decDigits x) := hide (by unfold wordP; rw [if_neg (by simpa using h2), if_neg (by simpa using h3)])
            go_wp2_with fail
            refine HF.out.mono ?_
            rintro e w2 ⟨rfl, hb2⟩
            have HB2 := hide (below2 HB1.out hb2)
            have HO2 := hide (own_below HO.out (below2 HB1.out hb2))
            have hs2 := (below2 HB1.out hb2).size
            clear hb2
            rw [← HWd.out]
            go_wp2_with (at_builtin; refine wpList_append_any _ rfl (.tmp 20) (.tmp 25) 70 rfl w.heap.size 9 i0 _ 1 16 Tryd.underlying70 hi hz0 hz1 hz2 rfl (by decide) (.slice A' (k + 1) c') (k + 1) _ rfl (HO2.out.alloc _) (w2.heap.size + 1) (some ⟨w2.heap.size, 0, none⟩) 1 1 [.string (str (wordP (kd, x)))] rfl ((reads_oneS (by simp)).more (by simp)) (by simp [Value.oneCell']) (by unfold maxLen; omega) (by omega) (by simp; omega) ?_; intro v' w3 hown' hgrow hat; have HS3 := hide (HST.out.next rfl HX.out HB2.out hown' hgrow); clear hown' hgrow hat)
            go_roundw
            case rel => exact ⟨k + 1, by omega, by go_num, HS3.out⟩
            case measure => simp [intOf]; omega
          · have HWd : Hid (wordP (kd, x) = manyT) := hide (by unfold wordP; rw [if_neg (by simpa using h2), if_pos (by simpa using h3)])
            go_wp2_with (at_builtin; refine wpList_append_any _ rfl (.tmp 34) (.tmp 35) 70 rfl w.heap.size 9 i0 _ 1 16 Tryd.underlying70 hi hz0 hz1 hz2 rfl (by decide) (.slice A' (k + 1) c') (k + 1) _ rfl ((own_below HO.out HB1.out).alloc _) (wr.heap.size + 1 + 1) (some ⟨wr.heap.size + 1, 0, none⟩) 1 1 [.string (str (manyT))] rfl ((reads_oneS (g := wr.heap.size + 1) (by simp [str, manyT])).more (by simp)) (by simp [Value.oneCell']) (by unfold maxLen; omega) (by omega) (by simp; omega) ?_; intro v' w3 hown' hgrow hat; have HS3 := hide (HST.out.next rfl HX.out HB1.out (by rw [HWd.out]; exact hown') (by rw [HWd.out]; exact hgrow)); clear hown' hgrow hat)
            go_roundw
            case rel => exact ⟨k + 1, by omega, by go_num, HS3.out⟩
            case measure => simp [intOf]; omega
        · have HWd : Hid (wordP (kd, x) = anyT) := hide (by unfold wordP; rw [if_pos (by simpa using h2)])
          go_wp2_with (at_builtin; refine wpList_append_any _ rfl (.tmp 29) (.tmp 30) 70 rfl w.heap.size 9 i0 _ 1 16 Tryd.underlying70 hi hz0 hz1 hz2 rfl (by decide) (.slice A' (k + 1) c') (k + 1) _ rfl ((own_below HO.out HB1.out).alloc _) (wr.heap.size + 1 + 1) (some ⟨wr.heap.size + 1, 0, none⟩) 1 1 [.string (str (anyT))] rfl ((reads_oneS (g := wr.heap.size + 1) (by simp [str, anyT])).more (by simp)) (by simp [Value.oneCell']) (by unfold maxLen; omega) (by omega) (by simp; omega) ?_; intro v' w3 hown' hgrow hat; have HS3 := hide (HST.out.next rfl HX.out HB1.out (by rw [HWd.out]; exact hown') (by rw [HWd.out]; exact hgrow)); clear hown' hgrow hat)
          go_roundw
          case rel => exact ⟨k + 1, by omega, by go_num, HS3.out⟩
          case measure => simp [intOf]; omega
      · obtain rfl : k = n := by omega
        have hw : Hid (ts.take k = ts) := hide (List.take_of_length_le (by rw [HA2.out.1]; exact Nat.le_refl _))
        go_wp2
        go_ret
        exact ⟨_, _, rfl, by have := HO.out; rw [hw.out] at this; exact this, HST.out.bel⟩
theorem StrsAt.of_own {w : World} {base n c : Nat} {A : Option Addr} {l : List (List UInt8)} (h : w.ownsRow base 9 1 (.slice A n c) n (strv l)) (hb : ∀ x ∈ l, x.length ≤ maxLen) : StrsAt w A n c (l.map str) := by
  have hl : l.length = n := by have := h.1; rw [strv_len] at this; omega
  have hsz : ∀ x ∈ l.map str, x.size ≤ maxLen := fun x hx => by
    obtain ⟨y, hy, rfl⟩ := List.mem_map.1 hx
    rw [str_size]; exact hb y hy
  rcases h.2 with ⟨hv, h0⟩ | ⟨g, cap, cur, hv, _, hh, hnc, hm, _⟩
  · injection hv with e1 e2 e3
    subst e2 e3
    exact ⟨by simp [hl], Nat.le_refl _, by simp [maxLen], hsz, fun h => by omega⟩
  · injection hv with e1 _ e3
    subst e1 e3
    refine ⟨by simp [hl], hnc, hm, hsz, fun _ => ⟨g, 0, rfl, (Array.getElem?_eq_some_iff.1 hh).1, fun k x hk => ?_⟩⟩
    rw [List.getElem?_map, Option.map_eq_some_iff] at hk
    obtain ⟨y, hy, rfl⟩ := hk
    have := h.cells (g := g) rfl k (.string (str y)) (by simp [strv, hy])
    rw [show (⟨g, 0, none⟩ : Addr).add k = ⟨g, 0 + k, none⟩ by unfold Addr.add; split <;> simp_all] at this
    exact this
theorem map_str_inj {a b : List (List UInt8)} (h : a.map str = b.map str) : a = b := by
  induction a generalizing b with
  | nil => cases b with
    | nil => rfl
    | cons y b => simp at h
  | cons x a ih => cases b with
    | nil => simp at h
    | cons y b =>
      rw [List.map_cons, List.map_cons, List.cons.injEq] at h
      rw [str_inj h.1, ih h.2]
set_option maxHeartbeats 1000000 in
theorem strEq_any (A B : Option Addr) (n c m d : Nat) (xs ys : List ByteArray) (w : World) (hx : StrsAt w A n c xs) (hy : StrsAt w B m d ys) :
    Calls Tryd.prog 150 #[.slice A n c, .slice B m d] w fun e w' => e = .returned (.bool (decide (xs = ys))) ∧ Below w.heap.size w w' := by
  have hm1 := hx.2.2.1
  have hm2 := hy.2.2.1
  have hnc := hx.2.1
  have hmd := hy.2.1
  unfold maxLen at hm1 hm2
  by_cases hnm : n = m
  · subst hnm
    by_cases h0 : n = 0
    · subst h0
      refine (Tryd.slices_Equal_string_empty A B c 0 d w (by omega)).mono ?_
      rintro e w' ⟨rfl, rfl⟩
      refine ⟨ret_bool ?_, Below.refl _ _⟩
      rw [List.eq_nil_of_length_eq_zero hx.1, List.eq_nil_of_length_eq_zero hy.1]; rfl
    · obtain ⟨g, o, rfl, hg, hc⟩ := hx.2.2.2.2 (by omega)
      obtain ⟨g2, o2, rfl, hg2, hc2⟩ := hy.2.2.2.2 (by omega)
      refine (Tryd.slices_Equal_string g o n c g2 o2 n d xs ys w (by rw [hx.1]; exact Nat.le_refl _) (by rw [hy.1]; exact Nat.le_refl _) (by omega) (by omega) (fun j hj => ?_) (fun j hj => ?_)).mono ?_
      · rw [hc j _ (List.getElem?_eq_getElem hj)]; simp [List.getD, hj]
      · rw [hc2 j _ (List.getElem?_eq_getElem hj)]; simp [List.getD, hj]
      · rintro e w' ⟨rfl, q, rfl⟩
        refine ⟨ret_bool ?_, below_drewN0 _ _⟩
        rw [List.take_of_length_le (by rw [hx.1]; exact Nat.le_refl _), List.take_of_length_le (by rw [hy.1]; exact Nat.le_refl _)]
  · have hne : decide (n = m) = false := decide_eq_false hnm
    have hne2 : ((n : Int) != (m : Int)) = true := by simp; omega
    have HR := hide (show decide (xs = ys) = false by
      refine decide_eq_false fun e => hnm ?_
      rw [← hx.1, ← hy.1, e])
    clear hx hy hnm
    go_enter Tryd.func150, Tryd.ntmps150
    go_wp2
    go_ret
    exact ⟨ret_bool HR.out.symm, Below.refl _ _⟩

def toksP (ls : List (List UInt8)) : List (Int × Nat) := ls.tail.map pieceP
def permP (ls : List (List UInt8)) : Bool := decide (ls.head? = some permitT)
def aparseB (ls : List (List UInt8)) : Bool := goodP (toksP ls) && decide (wordsP (permP ls) (toksP ls) = ls)
theorem toksP_zero (ls : List (List UInt8)) : toksP (ls.take 0) = [] := rfl
theorem toksP_one (ls : List (List UInt8)) : toksP (ls.take 1) = [] := by cases ls <;> rfl
theorem toksP_snoc {ls : List (List UInt8)} {k : Nat} {x : List UInt8} (h : ls[k]? = some x) (hk : 0 < k) : toksP (ls.take (k + 1)) = toksP (ls.take k) ++ [pieceP x] := by
  unfold toksP
  rw [take_snoc_g h, List.tail_append_of_ne_nil (by
    intro e
    have := (List.getElem?_eq_some_iff.1 h).1
    have := congrArg List.length e
    rw [List.length_take, List.length_nil] at this
    omega)]
  simp
theorem toksP_lt (ls : List (List UInt8)) : ∀ t ∈ toksP ls, t.2 < 4294967296 := by
  intro t ht
  obtain ⟨x, _, rfl⟩ := List.mem_map.1 ht
  exact pieceP_lt x
theorem permP_take {ls : List (List UInt8)} {k : Nat} (hk : 0 < k) : permP (ls.take k) = permP ls := by
  unfold permP
  cases k with
  | zero => omega
  | succ k => cases ls <;> rfl
theorem reads_twoS {w : World} {g : Nat} {u v : Value} (h : w.cell? ⟨g, 0, none⟩ = some u) (h2 : w.cell? ⟨g, 1, none⟩ = some v) : Reads w w.heap.size 2 (some ⟨g, 0, none⟩) 1 [u, v] :=
  ⟨rfl, fun _ => ⟨_, rfl, World.block_lt_of_cell? w _ h, fun j x hx => by
    match j with
    | 0 => cases hx; exact h
    | 1 => cases hx; exact h2
    | j + 2 => simp at hx⟩⟩
structure APSt (H : Nat) (w0 w : World) (b : Bool) (v : Value) (ts : List (Int × Nat)) : Prop where
  own : w.ownsRow H 83 2 v ts.length (tokc ts)
  b0 : Blk w H 78 #[.bool false, .slice none 0 0]
  b1 : Blk w (H + 1) 78 #[.bool b, v]
  bel : Below H w0 w
theorem APSt.setB {H : Nat} {w0 w : World} {b b' : Bool} {v : Value} {ts : List (Int × Nat)} (h : APSt H w0 w b v ts) : APSt H w0 (w.setCell ⟨H + 1, 0, none⟩ (.bool b')) b' v ts :=
  ⟨own_set h.own (own_blk_ne h.own h.b1 (by decide)) _, h.b0.far (by simp) _, h.b1.set_ 0 _, h.bel.setCell (by show H ≤ H + 1; omega) _⟩
theorem APSt.below {H : Nat} {w0 w w' : World} {b : Bool} {v : Value} {ts : List (Int × Nat)} (h : APSt H w0 w b v ts) (hs : H + 2 ≤ w.heap.size) (hb : Below w.heap.size w w') : APSt H w0 w' b v ts :=
  ⟨own_below h.own hb, h.b0.below hb (by omega), h.b1.below hb (by omega), h.bel.trans (hb.mono (by omega))⟩
theorem APSt.put {H : Nat} {w0 w w3 : World} {o : Obj} {b : Bool} {v v' : Value} {ts : List (Int × Nat)} {t : Int × Nat} (h : APSt H w0 w b v ts) (hs : H + 2 ≤ w.heap.size)
    (ho : w3.ownsRow H 83 2 v' (ts.length + 1) (tokc ts ++ [.int .i64 t.1, .int .u32 (t.2 : Int)])) (hg : (w.alloc o).grownBy w3 v.ownBlock) : APSt H w0 (w3.setCell ⟨H + 1, 1, none⟩ v') b v' (ts ++ [t]) := by
  have hn0 : v.ownBlock ≠ some H := own_blk_ne h.own h.b0 (by decide)
  have hn1 : v.ownBlock ≠ some (H + 1) := own_blk_ne h.own h.b1 (by decide)
  have k0 : Blk w3 H 78 #[.bool false, .slice none 0 0] := (h.b0.alloc o).grown hg (Ne.symm hn0)
  have k1 : Blk w3 (H + 1) 78 #[.bool b, v] := (h.b1.alloc o).grown hg (Ne.symm hn1)
  have hb3 : Below H w0 w3 := Below.grown (h.bel.alloc (by omega) o) hg (by simp; omega) (fun k hk => (h.own.lt k hk).1)
  refine ⟨?_, k0.far (by simp) _, k1.set_ 1 _, hb3.setCell (by show H ≤ H + 1; omega) _⟩
  have : (ts ++ [t]).length = ts.length + 1 := by simp
  rw [this, tokc_app]
  exact own_set ho (own_blk_ne ho k1 (by decide)) _
theorem APSt.mid {H : Nat} {w0 w w3 : World} {o : Obj} {b : Bool} {v : Value} {ts : List (Int × Nat)} (h : APSt H w0 w b v ts) (hg : (w.alloc o).grownBy w3 v.ownBlock) : Blk w3 (H + 1) 78 #[.bool b, v] ∧ w.heap.size ≤ w3.heap.size := by
  have hn1 : v.ownBlock ≠ some (H + 1) := own_blk_ne h.own h.b1 (by decide)
  exact ⟨(h.b1.alloc o).grown hg (Ne.symm hn1), Nat.le_trans (by simp) hg.size⟩
theorem wordP_len (t : Int × Nat) (h : t.2 < 4294967296) : (wordP t).length ≤ 10 := by
  unfold wordP
  split
  · decide
  · split
    · decide
    · exact dec_len _ 9 (by omega)
theorem wordsP_lens (b : Bool) {ts : List (Int × Nat)} (h : ∀ t ∈ ts, t.2 < 4294967296) : ∀ x ∈ wordsP b ts, x.length ≤ 10 := by
  intro x hx
  rcases List.mem_cons.1 hx with rfl | hx
  · cases b <;> decide
  · obtain ⟨t, ht, rfl⟩ := List.mem_map.1 hx
    exact wordP_len t (h t ht)
end Go.Proofs.YtiibglkiakhfgaaDoor
set_option linter.unusedSimpArgs false
set_option linter.unusedVariables false
namespace Go.Proofs.YtiibglkiakhfgaaDoor
open Go.RowKit
attribute [local go_sem] Oper.semAt_some
def AParsP (H : Nat) (ls : List (List UInt8)) (w : World) (e : Ending) (w' : World) : Prop :=
  Below w.heap.size w w' ∧ ((aparseB ls = true ∧ ∃ v, e = .returned (.tuple #[.agg #[.bool (permP ls), v], .int .i64 0]) ∧ w'.ownsRow H 83 2 v (toksP ls).length (tokc (toksP ls))) ∨
    (aparseB ls = false ∧ e = .returned (.tuple #[.agg #[.bool false, .slice none 0 0], .int .i64 2])))
set_option maxRecDepth 100000 in
set_option maxHeartbeats 4000000 in
theorem aparse_any (A : Option Addr) (n c : Nat) (ls : List (List UInt8)) (w : World) (h : StrsAt w A n c (ls.map str)) (hn : n ≤ 1000) (hl : ∀ x ∈ ls, x.length ≤ 1000) (he : Env w) :
    Calls Tryd.prog 111 #[.slice A n c] w (AParsP w.heap.size ls w) := by
  obtain ⟨i0, hi, hz0, hz1, hz2⟩ := info_parts tokInfo
  have hm := h.2.2.1
  have hnc := h.2.1
  unfold maxLen at hm
  have hlen : Hid (ls.length = n) := hide (by have := h.1; simpa using this)
  have HA := hide h
  have HE := hide he
  have HS0 : Hid (APSt w.heap.size w ((w.alloc (.cells #[.bool false, .slice none 0 0] 78)).alloc (.cells #[.bool false, .slice none 0 0] 78)) false (.slice none 0 0) []) := hide
    ⟨World.ownsRow_nil _ _ _ _, (Blk.new w 78 _).alloc _, blk_new' 78 _ (by simp), ((Below.refl _ w).alloc (Nat.le_refl _) _).alloc (by simp) _⟩
  clear h he
  go_enter Tryd.func111, Tryd.ntmps111
  go_wp2
  go_loopw [10] (fun i wr => ∃ (k : Nat) (b : Bool) (v : Value), k ≤ n ∧ i = .int .i64 (k : Nat) ∧ b = permP (ls.take k) ∧ w.heap.size + 2 ≤ wr.heap.size ∧ APSt w.heap.size w wr b v (toksP (ls.take k))) (fun i _ => n - (intOf i).toNat)
  case atStart => exact ⟨0, false, _, Nat.zero_le _, rfl, rfl, by simp, HS0.out⟩
  case round =>
    obtain ⟨k, b, v, hk, rfl, hb, hsz, hst⟩ := hrel
    have HP := hide hb
    have HST := hide hst
    have hbw := hst.bel
    have HA2 := hide (StrsAt.below HA.out rfl hbw)
    have HE2 := hide (HE.out.below hbw)
    obtain ⟨A', c', rfl⟩ := own_slice hst.own
    obtain ⟨tk, htk⟩ : ∃ tk, toksP (ls.take k) = tk := ⟨_, rfl⟩
    rw [htk] at hst HST
    have HTK := hide htk
    obtain ⟨L, hL⟩ : ∃ L, tk.length = L := ⟨_, rfl⟩
    have hLn : L ≤ 1000 := by
      rw [← hL, ← htk]; unfold toksP; rw [List.length_map, List.length_tail, List.length_take]; omega
    rw [hL] at hst HST
    have HL := hide hL
    have c0 : wr.cell? ⟨w.heap.size + 1, 0, none⟩ = some (.bool b) := hst.b1.cell 0
    have c1 : wr.cell? ⟨w.heap.size + 1, 1, none⟩ = some (.slice A' L c') := hst.b1.cell 1
    have f0 := hst.b1.frozen 0
    have f1 := hst.b1.frozen 1
    have d0 : wr.cell? ⟨w.heap.size, 0, none⟩ = some (.bool false) := hst.b0.cell 0
    have d1 : wr.cell? ⟨w.heap.size, 1, none⟩ = some (.slice none 0 0) := hst.b0.cell 1
    have g0 := hst.b0.frozen 0
    have g1 := hst.b0.frozen 1
    have HO : Hid (wr.ownsRow w.heap.size 83 2 (.slice A' L c') L (tokc tk)) := hide (by have := hst.own; rw [hL] at this; exact this)
    clear hb hst hbw htk hL
    by_cases hlt : k < n
    · obtain ⟨g, o, x0, rfl, hg, hx0, hxm, hc⟩ := HA2.out.at_ hlt
      rw [List.getElem?_map, Option.map_eq_some_iff] at hx0
      obtain ⟨x, hx, rfl⟩ := hx0
      have HX := hide hx
      have hlx := hide (hl x (List.mem_of_getElem? hx))
      clear hx
      by_cases hk0 : k = 0
      · subst hk0
        have hz : Hid (toksP (ls.take (0 + 1)) = toksP (ls.take 0)) := hide (by rw [toksP_zero, toksP_one])
        obtain ⟨q, hq⟩ : ∃ q : Bool, ((str x).toList == [112, 101, 114, 109, 105, 116]) = q := ⟨_, rfl⟩
        have HQ : Hid (q = permP (ls.take (0 + 1))) := hide (by
          rw [← hq, eqConst]
          unfold permP
          have := HX.out
          cases ls with
          | nil => simp at this
          | cons y r =>
            simp at this
            subst this
            apply decide_eq_decide.2; simp [permitT])
        have HS3 := hide (HST.out.setB (b' := q))
        have hc0 : wr.cell? ⟨g, o, none⟩ = some (.string (str x)) := by simpa using hc
        clear hc
        go_wp2
        go_roundw
        case rel => exact ⟨1, q, _, by omega, rfl, HQ.out, by simp; omega, by rw [hz.out, HTK.out]; exact HS3.out⟩
        case measure => simp [intOf]; omega
      · have hne : ((k : Int) == 0) = false := by simp; omega
        have hk1 : 0 < k := by omega
        have hz : Hid (toksP (ls.take (k + 1)) = toksP (ls.take k) ++ [pieceP x]) := hide (toksP_snoc HX.out hk1)
        have hpt : Hid (permP (ls.take (k + 1)) = permP (ls.take k)) := hide (by rw [permP_take hk1, permP_take (by omega)])
        have HPc := hide (fun w he => piece_any x hlx.out w he)
        obtain ⟨⟨kd, y⟩, hpy⟩ : ∃ t, pieceP x = t := ⟨_, rfl⟩
        rw [hpy] at hz HPc
        clear hpy hk0
        go_wp2
        go_region_law (first
          | (go_simp; go_at_call 148; refine (HPc.out _ (HE2.out.below (by first | exact Below.refl _ _ | exact (Below.refl _ _).drew))).mono ?_; rintro e w5 ⟨rfl, hb5⟩; have hb6 : Below wr.heap.size wr w5 := (by first | exact hb5 | exact (((Below.refl _ _).drew).trans hb5)); have hst5 := HST.out.below hsz hb6; have z0 : w5.cell? ⟨w.heap.size + 1, 1, none⟩ = some (.slice A' L c') := hst5.b1.cell 1; have HST5 := hide hst5; have hsz5 := Nat.le_trans hsz hb6.size; have HO5 := hide (own_below HO.out hb6); have z3 : ∀ o, (w5.alloc o).cell? ⟨w.heap.size + 1, 1, none⟩ = some (.slice A' L c') := (fun o => (World.cell?_alloc_lt w5 o _ (by show w.heap.size + 1 < w5.heap.size; omega)).trans z0); clear hb5 hb6 hst5)
          | (refine step_append_any _ (by rfl) (.tmp 21) (.tmp 24) 75 (by rfl) w.heap.size 83 i0 _ 2 16 Tryd.underlying75 hi hz0 hz1 hz2 rfl (by decide) (.slice A' L c') L (tokc tk) (by rfl) ?_ (w5.heap.size + 1) (some ⟨w5.heap.size, 0, none⟩) 1 1 [.int .i64 kd, .int .u32 (y : Nat)] (by rfl) ?_ ?_ ?_ ?_ ?_ ?_
             · exact HO5.out.alloc _
             · exact ((reads_twoS (by simp) (by simp)).more (by simp))
             · simp [Value.oneCell']
             · unfold maxLen; omega
             · omega
             · simp; omega
             intro v' w3 hown' hgrow _; have hst3 := HST5.out.put (t := (kd, y)) hsz5 (by rw [HL.out]; exact hown') hgrow; obtain ⟨hk3, hs3⟩ := HST5.out.mid hgrow; have hs3 := Nat.le_trans hsz5 hs3; obtain ⟨A1, c1', rfl⟩ := own_slice hown'; have z1 := hk3.frozen 1; have z2 : w3.cell? ⟨w.heap.size + 1, 1, none⟩ = some (.slice A' L c') := hk3.cell 1; have HST3 := hide hst3; clear hown' hgrow hst3 hk3)
          | fail)
        all_goals
          go_wp2
          go_roundw
          case rel => exact ⟨k + 1, b, _, by omega, by go_num, by rw [hpt.out]; exact HP.out, by simpa using hs3, by rw [hz.out, HTK.out]; exact HST3.out⟩
          case measure => simp [intOf]; omega
    · obtain rfl : k = n := by omega
      have hw2 : Hid (ls.take k = ls) := hide (List.take_of_length_le (by rw [hlen.out]; exact Nat.le_refl _))
      have HTk : Hid (toksP ls = tk) := hide (by rw [← HTK.out, hw2.out])
      have HPk : Hid (b = permP ls) := hide (by rw [HP.out, hw2.out])
      have HT32 : Hid (∀ t ∈ tk, t.2 < 4294967296) := hide (by rw [← HTk.out]; exact toksP_lt ls)
      have htok : TokAt wr A' L c' tk := TokAt.of_own HO.out HT32.out
      have HTok := hide htok
      have HG := hide (agood_any b A' L c' tk wr htok)
      clear htok hlt
      obtain ⟨q, hq⟩ : ∃ q, goodP tk = q := ⟨_, rfl⟩
      rw [hq] at HG
      have HQ := hide hq
      clear hq
      go_wp2_with fail
      refine HG.out.mono ?_
      rintro e w2 ⟨rfl, hb2⟩
      have hst2 := HST.out.below hsz hb2
      have HST2 := hide hst2
      have c0 : w2.cell? ⟨w.heap.size + 1, 0, none⟩ = some (.bool b) := hst2.b1.cell 0
      have c1 : w2.cell? ⟨w.heap.size + 1, 1, none⟩ = some (.slice A' L c') := hst2.b1.cell 1
      have d0 : w2.cell? ⟨w.heap.size, 0, none⟩ = some (.bool false) := hst2.b0.cell 0
      have d1 : w2.cell? ⟨w.heap.size, 1, none⟩ = some (.slice none 0 0) := hst2.b0.cell 1
      have g0 := hst2.b0.frozen 0
      have g1 := hst2.b0.frozen 1
      have HTok2 := hide (HTok.out.below hb2)
      have HA3 := hide (StrsAt.below HA2.out rfl hb2)
      have HE3 := hide (HE2.out.below hb2)
      have hsz2 := Nat.le_trans hsz hb2.size
      clear hb2 hst2
      cases q
      · have HF : Hid (aparseB ls = false) := hide (by unfold aparseB; rw [HTk.out, HQ.out]; rfl)
        go_wp2
        have y0 : ((w2.setCell ⟨w.heap.size, 0, none⟩ (.bool false)).setCell ⟨w.heap.size, 1, none⟩ (.slice none 0 0)).cell? ⟨w.heap.size, 0, none⟩ = some (.bool false) := ((HST2.out.b0.set_ 0 (.bool false)).set_ 1 (.slice none 0 0)).cell 0
        have y1 : ((w2.setCell ⟨w.heap.size, 0, none⟩ (.bool false)).setCell ⟨w.heap.size, 1, none⟩ (.slice none 0 0)).cell? ⟨w.heap.size, 1, none⟩ = some (.slice none 0 0) := ((HST2.out.b0.set_ 0 (.bool false)).set_ 1 (.slice none 0 0)).cell 1
        refine bodyPost_ret (v := .tuple #[.agg #[.bool false, .slice none 0 0], .int .i64 2]) (by simp [results, Tryd.results111, go_sem, y0, y1]) rfl ⟨?_, .inr ⟨HF.out, rfl⟩⟩
        exact (HST2.out.bel.setCell (p := ⟨w.heap.size, 0, none⟩) (Nat.le_refl _) _).setCell (p := ⟨w.heap.size, 1, none⟩) (Nat.le_refl _) _
      · have HWd := hide (awords_any b A' L c' tk w2 HTok2.out hLn HE3.out.tab)
        have HLen : Hid (∀ x ∈ wordsP b tk, x.length ≤ maxLen) := hide (fun x hx => by have := wordsP_lens b HT32.out x hx; unfold maxLen; omega)
        go_wp2_with fail
        refine HWd.out.mono ?_
        rintro e w3 ⟨A2, c2, rfl, ho3, hb3⟩
        have hS2 := StrsAt.of_own ho3 HLen.out
        have HEq := hide (strEq_any A2 A (L + 1) c2 k c _ _ w3 hS2 (StrsAt.below HA3.out rfl hb3))
        have hst3 := HST2.out.below hsz2 hb3
        have HST3 := hide hst3
        have hsz3 := Nat.le_trans hsz2 hb3.size
        obtain ⟨r, hr⟩ : ∃ r, decide ((wordsP b tk).map str = ls.map str) = r := ⟨_, rfl⟩
        rw [hr] at HEq
        have HR : Hid (aparseB ls = r) := hide (by
          unfold aparseB
          rw [HTk.out, HQ.out, ← HPk.out, ← hr, Bool.true_and]
          exact decide_eq_decide.2 ⟨fun h => by rw [h], map_str_inj⟩)
        clear ho3 hb3 hS2 hst3 hr c0 c1 d0 d1 g0 g1
        go_wp2_with fail
        refine HEq.out.mono ?_
        rintro e w4 ⟨rfl, hb4⟩
        have hst4 := HST3.out.below hsz3 hb4
        have HST4 := hide hst4
        have c0 : w4.cell? ⟨w.heap.size + 1, 0, none⟩ = some (.bool b) := hst4.b1.cell 0
        have c1 : w4.cell? ⟨w.heap.size + 1, 1, none⟩ = some (.slice A' L c') := hst4.b1.cell 1
        have d0 : w4.cell? ⟨w.heap.size, 0, none⟩ = some (.bool false) := hst4.b0.cell 0
        have d1 : w4.cell? ⟨w.heap.size, 1, none⟩ = some (.slice none 0 0) := hst4.b0.cell 1
        have g0 := hst4.b0.frozen 0
        have g1 := hst4.b0.frozen 1
        clear hb4 hst4
        cases r
        · go_wp2
          have y0 : ((w4.setCell ⟨w.heap.size, 0, none⟩ (.bool false)).setCell ⟨w.heap.size, 1, none⟩ (.slice none 0 0)).cell? ⟨w.heap.size, 0, none⟩ = some (.bool false) := ((HST4.out.b0.set_ 0 (.bool false)).set_ 1 (.slice none 0 0)).cell 0
          have y1 : ((w4.setCell ⟨w.heap.size, 0, none⟩ (.bool false)).setCell ⟨w.heap.size, 1, none⟩ (.slice none 0 0)).cell? ⟨w.heap.size, 1, none⟩ = some (.slice none 0 0) := ((HST4.out.b0.set_ 0 (.bool false)).set_ 1 (.slice none 0 0)).cell 1
          refine bodyPost_ret (v := .tuple #[.agg #[.bool false, .slice none 0 0], .int .i64 2]) (by simp [results, Tryd.results111, go_sem, y0, y1]) rfl ⟨?_, .inr ⟨HR.out, rfl⟩⟩
          exact (HST4.out.bel.setCell (p := ⟨w.heap.size, 0, none⟩) (Nat.le_refl _) _).setCell (p := ⟨w.heap.size, 1, none⟩) (Nat.le_refl _) _
        · go_wp2
          have y0 : ((w4.setCell ⟨w.heap.size, 0, none⟩ (.bool b)).setCell ⟨w.heap.size, 1, none⟩ (.slice A' L c')).cell? ⟨w.heap.size, 0, none⟩ = some (.bool b) := ((HST4.out.b0.set_ 0 (.bool b)).set_ 1 (.slice A' L c')).cell 0
          have y1 : ((w4.setCell ⟨w.heap.size, 0, none⟩ (.bool b)).setCell ⟨w.heap.size, 1, none⟩ (.slice A' L c')).cell? ⟨w.heap.size, 1, none⟩ = some (.slice A' L c') := ((HST4.out.b0.set_ 0 (.bool b)).set_ 1 (.slice A' L c')).cell 1
          have hne := own_blk_ne HST4.out.own HST4.out.b0 (by decide)
          refine bodyPost_ret (v := .tuple #[.agg #[.bool b, .slice A' L c'], .int .i64 0]) (by simp [results, Tryd.results111, go_sem, y0, y1]) rfl ⟨?_, .inl ⟨HR.out, _, by rw [← HPk.out], ?_⟩⟩
          · exact (HST4.out.bel.setCell (p := ⟨w.heap.size, 0, none⟩) (Nat.le_refl _) _).setCell (p := ⟨w.heap.size, 1, none⟩) (Nat.le_refl _) _
          · rw [HTk.out]
            exact own_set (own_set HST4.out.own hne _) hne _
end Go.Proofs.YtiibglkiakhfgaaDoor
