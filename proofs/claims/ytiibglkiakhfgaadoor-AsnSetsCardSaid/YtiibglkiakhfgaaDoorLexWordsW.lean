import Derived.Test.YtiibglkiakhfgaaDoorLexNum
import Derived.SliceStrings
set_option linter.unusedSimpArgs false
set_option linter.unusedVariables false
namespace Go.Proofs.YtiibglkiakhfgaaDoor
open Go.RowKit
/-- A slice of texts. -/
def StrsAt (w : World) (A : Option Addr) (n c : Nat) (l : List ByteArray) : Prop :=
  l.length = n ∧ n ≤ c ∧ c ≤ maxLen ∧ (∀ x ∈ l, x.size ≤ maxLen) ∧ (0 < n → ∃ g o, A = some ⟨g, o, none⟩ ∧ g < w.heap.size ∧ ∀ (k : Nat) (x : ByteArray), l[k]? = some x → w.cell? ⟨g, o + k, none⟩ = some (.string x))
theorem StrsAt.below {w w' : World} {A : Option Addr} {n c : Nat} {l : List ByteArray} {B : Nat} (h : StrsAt w A n c l) (hB : w.heap.size = B) (hb : Below B w w') : StrsAt w' A n c l := by
  subst hB
  refine ⟨h.1, h.2.1, h.2.2.1, h.2.2.2.1, fun hn => ?_⟩
  obtain ⟨g, o, hA, hg, hc⟩ := h.2.2.2.2 hn
  exact ⟨g, o, hA, Nat.lt_of_lt_of_le hg hb.size, fun k x hk => (hb.cell (by exact hg)).trans (hc k x hk)⟩
theorem StrsAt.at_ {w : World} {A : Option Addr} {n c : Nat} {l : List ByteArray} (h : StrsAt w A n c l) {k : Nat} (hk : k < n) :
    ∃ g o x, A = some ⟨g, o, none⟩ ∧ g < w.heap.size ∧ l[k]? = some x ∧ x.size ≤ maxLen ∧ w.cell? ⟨g, o + k, none⟩ = some (.string x) := by
  obtain ⟨g, o, hA, hg, hc⟩ := h.2.2.2.2 (by omega)
  have hx : l[k]? = some (l[k]'(by rw [h.1]; exact hk)) := List.getElem?_eq_getElem _
  exact ⟨g, o, _, hA, hg, hx, h.2.2.2.1 _ (List.getElem_mem _), hc k _ hx⟩
theorem cellsStr : Tryd.prog.cellsOf 9 = 1 := by kernel_rfl
theorem infoStr : (Tryd.prog.info? 9).map (fun i => (i.zero, i.size, i.bytes)) = some (some (.string ⟨#[]⟩), 1, 16) := by kernel_rfl
open Go.WideShapes Go.ChangeShapes Go.ChangeAt in
theorem strs_open {H : Type} {enc : TypeId × Value → H} {W : World} {A : Option Addr} {n c : Nat} {d : DataW H} {p : List MemPlace}
    (h : DataW.Trod enc Tryd.prog W 0 (fun _ => true) true 70 (.slice A n c) d p) : ∃ l, StrsAt W A n c l := by
  obtain ⟨fuel, hf⟩ := h
  rcases open_strings Tryd.underlying70 Tryd.underlying9 cellsStr hf with ⟨hcs, _⟩ | ⟨a, len, cap, ss, hcs, _, hl, hm, hz, _, hcell, hw⟩
  · simp [Value.cells] at hcs
    obtain ⟨rfl, rfl, rfl⟩ := hcs
    exact ⟨[], rfl, Nat.le_refl _, by simp [maxLen], by simp, fun h => by omega⟩
  · simp [Value.cells] at hcs
    obtain ⟨rfl, rfl, rfl⟩ := hcs
    simp only [if_true] at hz
    refine ⟨ss.take n, by simp [hz]; omega, hl, hm, fun x hx => hw x (List.mem_of_mem_take hx), fun hn => ?_⟩
    obtain ⟨b, off, spot⟩ := a
    have h0 := hcell 0 (by omega)
    have hspot : spot = none := by simpa [Addr.add] using World.cell?_spot h0
    subst hspot
    have hc : ∀ j, j < ss.length → W.cell? ⟨b, off + j, none⟩ = some (.string (ss.getD j ByteArray.empty)) := fun j hj => by rw [← Go.WideShapes.add_plain]; exact hcell j hj
    refine ⟨b, off, rfl, World.block_lt_of_cell? W _ (hc 0 (by omega)), fun k x hk => ?_⟩
    rw [List.getElem?_take] at hk
    split at hk
    · have hk2 : k < ss.length := (List.getElem?_eq_some_iff.1 hk).1
      have := hc k hk2
      rw [this]
      simp [List.getD, hk]
    · cases hk
def strv (l : List (List UInt8)) : List Value := l.map fun x => .string (str x)
theorem strv_one (l : List (List UInt8)) : ∀ u ∈ strv l, u.oneCell' = true := by
  intro u hu
  simp only [strv, List.mem_map] at hu
  obtain ⟨x, _, rfl⟩ := hu
  rfl
theorem join_snoc (sep : List UInt8) (l : List (List UInt8)) (x : List UInt8) : Lib.join (l ++ [x]) sep = (if l = [] then [] else Lib.join l sep ++ sep) ++ x := by
  cases l with
  | nil => simp [Lib.join_one]
  | cons a r =>
    rw [List.cons_append, Lib.join_cons, Lib.join_cons, if_neg (by simp)]
    simp [Lib.joinTail]
def jw (l : List (List UInt8)) : List UInt8 := Lib.join l [32]
theorem jw_snoc (l : List (List UInt8)) (x : List UInt8) : jw (l ++ [x]) = (if l = [] then [] else jw l ++ [32]) ++ x := join_snoc [32] l x
theorem jw_len (l : List (List UInt8)) (h : ∀ x ∈ l, x.length ≤ 30) : (jw l).length ≤ 31 * l.length := by
  cases l with
  | nil => simp [jw, Lib.join_nil]
  | cons a r =>
    have aux : ∀ r : List (List UInt8), (∀ x ∈ r, x.length ≤ 30) → (Lib.joinTail [32] r).length ≤ 31 * r.length := by
      intro r
      induction r with
      | nil => simp [Lib.joinTail]
      | cons b r ih =>
        intro hb
        have := ih (fun x hx => hb x (by simp [hx]))
        have := hb b (by simp)
        simp [Lib.joinTail] at *
        omega
    unfold jw
    rw [Lib.join_cons]
    have := aux r (fun x hx => h x (by simp [hx]))
    have := h a (by simp)
    simp; omega
set_option maxHeartbeats 1000000 in
theorem lexText_any (A : Option Addr) (k c base : Nat) (l : List (List UInt8)) (w : World) (h : w.ownsRow base 9 1 (.slice A k c) k (strv l)) (hk : k ≤ 1000) (hl : ∀ x ∈ l, x.length ≤ 30) :
    Calls Tryd.prog 53 #[.slice A k c] w fun e w' => e = .returned (.string (str (jw l))) ∧ Below w.heap.size w w' := by
  have hlk : l.length = k := by have := h.1; simp [strv] at this; omega
  have HJ : Hid (Calls Tryd.prog 140 #[.slice A k c, .string ⟨#[32]⟩] w fun e w' => e = .returned (.string (str (jw l))) ∧ Below w.heap.size w w') := hide (by
    by_cases hk0 : k = 0
    · subst hk0
      obtain rfl : l = [] := List.eq_nil_of_length_eq_zero hlk
      refine (Tryd.strings_Join_none A c ⟨#[32]⟩ w).mono ?_
      rintro e w' ⟨rfl, rfl⟩
      exact ⟨rfl, Below.refl _ _⟩
    · obtain ⟨g, cap, hv, _, hlt⟩ := h.form (by omega)
      cases hv
      have hcap : k ≤ c := by
        rcases h.2 with ⟨hv, h0⟩ | ⟨g', cap', cur, hv, _, _, hnc, _⟩
        · cases hv
        · cases hv; exact hnc
      have hj := Tryd.strings_Join g 0 c (l.map str) ⟨#[32]⟩ w (fun j x hx => by
          have := h.cells (g := g) rfl j (.string x) (by simp only [strv, List.getElem?_map] at hx ⊢; rw [Option.map_eq_some_iff] at hx ⊢; obtain ⟨y, hy, rfl⟩ := hx; exact ⟨y, hy, rfl⟩)
          rw [show (⟨g, 0, none⟩ : Addr).add j = ⟨g, 0 + j, none⟩ by unfold Addr.add; split <;> simp_all] at this
          exact this) hlt (by simp; omega) (by simp; omega) (by
          have hm : (l.map str).map (·.data.toList) = l := by rw [List.map_map]; exact (List.map_congr_left (fun x _ => str_data x)).trans (List.map_id l)
          rw [hm]
          have := jw_len l hl
          unfold jw at this
          show (Lib.join l [32]).length ≤ _
          omega)
      have hm : (l.map str).map (·.data.toList) = l := by rw [List.map_map]; exact (List.map_congr_left (fun x _ => str_data x)).trans (List.map_id l)
      rw [hm, List.length_map, hlk] at hj
      refine hj.mono ?_
      rintro e w' ⟨rfl, hb⟩
      exact ⟨rfl, hb⟩)
  have HT : Hid (Calls Tryd.prog 100 #[.slice A k c] w fun e w' => e = .returned (.string (str (jw l))) ∧ Below w.heap.size w w') := hide (by
    go_enter Tryd.func100, Tryd.ntmps100
    go_wp2_with fail
    refine HJ.out.mono ?_
    rintro e w1 ⟨rfl, hb⟩
    have HB := hide hb
    clear hb
    go_wp2
    go_ret
    exact ⟨rfl, HB.out⟩)
  clear h hlk HJ
  go_enter Tryd.func53, Tryd.ntmps53
  go_wp2_with fail
  refine HT.out.mono ?_
  rintro e w1 ⟨rfl, hb⟩
  have HB := hide hb
  clear hb
  go_wp2
  go_ret
  exact ⟨rfl, HB.out⟩
/-- A word, somewhat cut. -/
def c30 (x : ByteArray) : List UInt8 := x.data.toList.take 30
theorem c30_len (x : ByteArray) : (c30 x).length ≤ 30 := List.length_take_le _ _
theorem c30_short {x : ByteArray} (h : x.size ≤ 30) : str (c30 x) = x := by
  unfold c30
  rw [List.take_of_length_le (by rw [Array.length_toList]; exact h)]
  exact str_of x
theorem c30_long {x : ByteArray} (h : 30 < x.size) : x.extract 0 30 = str (c30 x) := by
  rw [← str_of (x.extract 0 30)]
  exact congrArg str (Lib.extract_from_zero x 30)
theorem reads_oneS {w : World} {g : Nat} {u : Value} (h : w.cell? ⟨g, 0, none⟩ = some u) : Reads w w.heap.size 1 (some ⟨g, 0, none⟩) 1 [u] :=
  ⟨rfl, fun _ => ⟨_, rfl, World.block_lt_of_cell? w _ h, fun j v hv => by
    cases j with
    | zero => cases hv; exact h
    | succ j => simp at hv⟩⟩
/-- What the law's loop has: the words so far, and their text. -/
def WordSt (base : Nat) (w : World) (v t : Value) (ws : List (List UInt8)) : Prop := w.ownsRow base 9 1 v ws.length (strv ws) ∧ (∃ A c, v = .slice A ws.length c) ∧ t = .string (str (jw ws))
set_option maxRecDepth 100000 in
set_option maxHeartbeats 8000000 in
theorem lexWords_any (s : ByteArray) (l : List UInt8) (most : Int) (A : Option Addr) (n c : Nat) (xs : List ByteArray) (hl : l.length ≤ 60) (hm1 : -9223372036854775808 ≤ most) (hm2 : most ≤ 9223372036854775807)
    (hs : s.size ≤ 60 ∧ s = str l ∨ 60 < s.size ∧ s.size ≤ 9223372036854775807 ∧ s.extract 0 60 = str l) (w : World) (hx : StrsAt w A n c xs) (he : Env w) :
    Calls Tryd.prog 12 #[.string s, .int .i64 most, .slice A n c] w (GoodP true w) := by
  have HN := hide (fun w he => lexNumber_any l (by omega) most w he)
  have HR := hide (fun w => refNumber_any (str l) (by rw [str_size]; omega) most w)
  have hsz : (str l).size ≤ 60 := by rw [str_size]; exact hl
  have HNm := hide (fun w => name_any (str l) w (by unfold maxLen; omega))
  have HRN := hide (fun w => refName_any (str l) w (by unfold maxLen; omega))
  obtain ⟨q, hq⟩ : ∃ q, nameB (str l) = q := ⟨_, rfl⟩
  rw [hq] at HNm HRN
  rw [str_data] at HR
  have HX := hide hx
  have HE := hide he
  have hnc := hx.2.1
  have hmc := hx.2.2.1
  unfold maxLen at hmc
  obtain ⟨i0, hi, hz0, hz1, hz2⟩ := info_parts infoStr
  have hszl : (str l).size = l.length := str_size l
  have HSz := hide hszl
  clear hx he hq hszl
  have HNR : Hid ((numOk l most = true ∧ numRes l most = .tuple #[.int .i64 (numOf l : Nat), .bool true] ∧ (numOf l : Int) ≤ most ∧ numOf l < 9223372036854775808) ∨ (numOk l most = false ∧ numRes l most = .tuple #[.int .i64 0, .bool false])) := hide (by
    cases hb : numOk l most
    · exact .inr ⟨rfl, by unfold numRes; rw [hb]; rfl⟩
    · obtain ⟨k, h1, h2, h3, h4⟩ := (numOk_iff l most).1 hb
      exact .inl ⟨rfl, by unfold numRes; rw [hb]; rfl, by rw [h4]; exact h3, by rw [h4]; exact h2⟩)
  have HRR : Hid (refNumRes l most = if l.length ≤ 18 then numRes l most else .tuple #[.int .i64 0, .bool false]) := hide rfl
  have HWS : Hid (∀ w : World, WordSt w.heap.size (w.alloc (.cells #[] 9)) (.slice (some ⟨w.heap.size, 0, none⟩) 0 0) (.string ⟨#[]⟩) []) := hide fun w => ⟨World.ownsRow_made _ _ _ (Nat.le_refl _) (by simp [maxLen]) (by simp), ⟨_, _, rfl⟩, rfl⟩
  rcases hs with ⟨hs1, rfl⟩ | ⟨hs1, hs2, hex⟩
  rotate_left
  · have HEX := hide hex
    clear hex
    go_enter Tryd.func12, Tryd.ntmps12
    go_wp2_with fail
    try rw [HEX.out]
    refine (HN.out _ HE.out).mono ?_
    rintro e w1 ⟨rfl, hb1⟩
    have HE1 := hide (HE.out.below hb1)
    have HX1 := hide (HX.out.below rfl hb1)
    have HB1 := hide hb1
    clear hb1
    rcases HNR.out with ⟨ho, hr, hle, hlt⟩ | ⟨ho, hr⟩
    all_goals
      rw [hr]
      have HRes := hide hr
      clear ho hr
      go_wp2_with fail
      refine (HR.out _).mono ?_
      rintro e w2 ⟨rfl, rfl⟩
      rw [HRR.out]
      by_cases hl18 : l.length ≤ 18
      · rw [if_pos hl18, HRes.out]
        have hl19 : (str l).size < 19 := by rw [HSz.out]; omega
        go_wp2_with fail
        refine (HNm.out _).mono ?_
        rintro e w3 ⟨rfl, rfl⟩
        go_wp2_with fail
        refine (HRN.out _).mono ?_
        rintro e w3 ⟨rfl, rfl⟩
        have hqq : (q != q) = false := by cases q <;> rfl
        go_wp2
        go_loopw [11, 12, 13] (fun v t i wr => ∃ k : Nat, k ≤ n ∧ k ≤ 10 ∧ i = .int .i64 k ∧ WordSt w1.heap.size wr v t ((xs.take k).map c30) ∧ Below w1.heap.size w1 wr) (fun _ _ i _ => 10 - (intOf i).toNat)
        case atStart => exact ⟨0, by omega, by omega, rfl, HWS.out w1, (Below.refl _ _).alloc (Nat.le_refl _) _⟩
        case round =>
          obtain ⟨k, hk, hk10, rfl, hst, hbel⟩ := hrel
          obtain ⟨hown, ⟨A', c', rfl⟩, rfl⟩ := hst
          have HX2 := hide (HX1.out.below rfl hbel)
          have HB2 := hide hbel
          have hsz2 := hbel.size
          obtain ⟨ws, hws⟩ : ∃ ws, (xs.take k).map c30 = ws := ⟨_, rfl⟩
          have hwl : ws.length = k := by rw [← hws, List.length_map, List.length_take, HX2.out.1]; omega
          have hw30 : ∀ x ∈ ws, x.length ≤ 30 := fun x hx => by rw [← hws] at hx; obtain ⟨y, _, rfl⟩ := List.mem_map.1 hx; exact c30_len y
          rw [hws] at hown ⊢
          rw [hwl] at hown ⊢
          have hjl : (str (jw ws)).size ≤ 310 := by rw [str_size]; have := jw_len ws hw30; omega
          have HO := hide hown
          have HWs := hide hws
          have HW30 := hide hw30
          have HWl := hide hwl
          clear hown hbel hws hw30 hwl
          by_cases hgo : k < n ∧ k < 10
          · obtain ⟨hgo1, hgo2⟩ := hgo
            obtain ⟨g, o, x, rfl, hg, hxx, hxm, hc⟩ := HX2.out.at_ hgo1
            have HXX := hide hxx
            clear hxx
            have hg1 : decide (k < n) = true := by simpa using hgo1
            have hcc : ∀ y, c30 x = y → Hid ((xs.take (k + 1)).map c30 = ws ++ [y]) := fun y hy => hide (by
              rw [List.take_add_one, HXX.out, List.map_append, HWs.out]; simp [hy])
            have HCC := hide hcc
            clear hcc
            by_cases h30 : x.size ≤ 30
            · obtain ⟨y, hy, rfl⟩ : ∃ y, c30 x = y ∧ x = str y := ⟨_, rfl, (c30_short h30).symm⟩
              have hsn := HCC.out y hy
              have hy30 : (str y).size ≤ 30 := h30
              clear hy
              by_cases hk0 : k = 0
              · have hw0 : Hid (ws = []) := hide (List.eq_nil_of_length_eq_zero (by rw [HWl.out]; exact hk0))
                have hk1 : (k : Int) ≤ 0 := by omega
                clear hk0
                go_wp2_with (at_builtin; refine wpList_append_any _ rfl (.tmp 84) (.tmp 86) 70 rfl w1.heap.size 9 i0 _ 1 16 Tryd.underlying70 hi hz0 hz1 hz2 rfl (by decide) (.slice A' k c') k (strv ws) rfl (HO.out.alloc _) (wr.heap.size + 1) (some ⟨wr.heap.size, 0, none⟩) 1 1 [.string (str y)] rfl ((reads_oneS (by simp)).more (by simp)) (by simp [Value.oneCell']) (by unfold maxLen; omega) (by omega) (by simp; omega) ?_; intro v' w3 hown' hgrow hat; have HO3 := hide hown'; have HG3 := hide hgrow; clear hown' hgrow hat)
                have HB3 : Hid (Below w1.heap.size w1 w3) := hide (Below.grown (HB2.out.alloc (by omega) (.cells #[.string (str y)] 9)) HG3.out (by simp; omega) (fun k hk => (HO.out.lt k hk).1))
                have HSt : Hid (WordSt w1.heap.size w3 v' (.string (str (jw ws) ++ str y)) ((xs.take (k + 1)).map c30)) := hide (by
                  rw [hsn.out]
                  refine ⟨?_, ?_, ?_⟩
                  · rw [List.length_append, HWl.out]; simpa [strv] using HO3.out
                  · obtain ⟨A2, c2, h2⟩ := own_slice HO3.out; exact ⟨A2, c2, by rw [List.length_append, HWl.out]; exact h2⟩
                  · rw [jw_snoc, if_pos hw0.out, hw0.out, cat_str]; rfl)
                go_roundw
                case rel => exact ⟨k + 1, by omega, by omega, by go_num, HSt.out, HB3.out⟩
                case measure => simp [intOf]; omega
              · have hw0 : Hid (ws ≠ []) := hide (fun h => hk0 (by rw [← HWl.out, h]; rfl))
                have hk1 : (0 : Int) < (k : Int) := by omega
                go_wp2_with (at_builtin; refine wpList_append_any _ rfl (.tmp 84) (.tmp 86) 70 rfl w1.heap.size 9 i0 _ 1 16 Tryd.underlying70 hi hz0 hz1 hz2 rfl (by decide) (.slice A' k c') k (strv ws) rfl (HO.out.alloc _) (wr.heap.size + 1) (some ⟨wr.heap.size, 0, none⟩) 1 1 [.string (str y)] rfl ((reads_oneS (by simp)).more (by simp)) (by simp [Value.oneCell']) (by unfold maxLen; omega) (by omega) (by simp; omega) ?_; intro v' w3 hown' hgrow hat; have HO3 := hide hown'; have HG3 := hide hgrow; clear hown' hgrow hat)
                have HB3 : Hid (Below w1.heap.size w1 w3) := hide (Below.grown (HB2.out.alloc (by omega) (.cells #[.string (str y)] 9)) HG3.out (by simp; omega) (fun k hk => (HO.out.lt k hk).1))
                have HSt : Hid (WordSt w1.heap.size w3 v' (.string (str (jw ws) ++ str [32] ++ str y)) ((xs.take (k + 1)).map c30)) := hide (by
                  rw [hsn.out]
                  refine ⟨?_, ?_, ?_⟩
                  · rw [List.length_append, HWl.out]; simpa [strv] using HO3.out
                  · obtain ⟨A2, c2, h2⟩ := own_slice HO3.out; exact ⟨A2, c2, by rw [List.length_append, HWl.out]; exact h2⟩
                  · rw [jw_snoc, if_neg hw0.out, cat_str, cat_str])
                go_roundw
                case rel => exact ⟨k + 1, by omega, by omega, by go_num, HSt.out, HB3.out⟩
                case measure => simp [intOf]; omega
            · obtain ⟨y, hy, hcut⟩ : ∃ y, c30 x = y ∧ x.extract 0 30 = str y := ⟨_, rfl, c30_long (by omega)⟩
              have hsn := HCC.out y hy
              have hy30 : (str y).size ≤ 30 := by rw [str_size, ← hy]; exact c30_len x
              have h30' : 30 < x.size := by omega
              unfold maxLen at hxm
              clear hy h30
              by_cases hk0 : k = 0
              · have hw0 : Hid (ws = []) := hide (List.eq_nil_of_length_eq_zero (by rw [HWl.out]; exact hk0))
                have hk1 : (k : Int) ≤ 0 := by omega
                clear hk0
                go_wp2_with (at_builtin; refine wpList_append_any _ rfl (.tmp 84) (.tmp 86) 70 rfl w1.heap.size 9 i0 _ 1 16 Tryd.underlying70 hi hz0 hz1 hz2 rfl (by decide) (.slice A' k c') k (strv ws) rfl (HO.out.alloc _) (wr.heap.size + 1) (some ⟨wr.heap.size, 0, none⟩) 1 1 [.string (str y)] rfl ((reads_oneS (by simp)).more (by simp)) (by simp [Value.oneCell']) (by unfold maxLen; omega) (by omega) (by simp; omega) ?_; intro v' w3 hown' hgrow hat; have HO3 := hide hown'; have HG3 := hide hgrow; clear hown' hgrow hat)
                have HB3 : Hid (Below w1.heap.size w1 w3) := hide (Below.grown (HB2.out.alloc (by omega) (.cells #[.string (str y)] 9)) HG3.out (by simp; omega) (fun k hk => (HO.out.lt k hk).1))
                have HSt : Hid (WordSt w1.heap.size w3 v' (.string (str (jw ws) ++ str y)) ((xs.take (k + 1)).map c30)) := hide (by
                  rw [hsn.out]
                  refine ⟨?_, ?_, ?_⟩
                  · rw [List.length_append, HWl.out]; simpa [strv] using HO3.out
                  · obtain ⟨A2, c2, h2⟩ := own_slice HO3.out; exact ⟨A2, c2, by rw [List.length_append, HWl.out]; exact h2⟩
                  · rw [jw_snoc, if_pos hw0.out, hw0.out, cat_str]; rfl)
                go_roundw
                case rel => exact ⟨k + 1, by omega, by omega, by go_num, HSt.out, HB3.out⟩
                case measure => simp [intOf]; omega
              · have hw0 : Hid (ws ≠ []) := hide (fun h => hk0 (by rw [← HWl.out, h]; rfl))
                have hk1 : (0 : Int) < (k : Int) := by omega
                go_wp2_with (at_builtin; refine wpList_append_any _ rfl (.tmp 84) (.tmp 86) 70 rfl w1.heap.size 9 i0 _ 1 16 Tryd.underlying70 hi hz0 hz1 hz2 rfl (by decide) (.slice A' k c') k (strv ws) rfl (HO.out.alloc _) (wr.heap.size + 1) (some ⟨wr.heap.size, 0, none⟩) 1 1 [.string (str y)] rfl ((reads_oneS (by simp)).more (by simp)) (by simp [Value.oneCell']) (by unfold maxLen; omega) (by omega) (by simp; omega) ?_; intro v' w3 hown' hgrow hat; have HO3 := hide hown'; have HG3 := hide hgrow; clear hown' hgrow hat)
                have HB3 : Hid (Below w1.heap.size w1 w3) := hide (Below.grown (HB2.out.alloc (by omega) (.cells #[.string (str y)] 9)) HG3.out (by simp; omega) (fun k hk => (HO.out.lt k hk).1))
                have HSt : Hid (WordSt w1.heap.size w3 v' (.string (str (jw ws) ++ str [32] ++ str y)) ((xs.take (k + 1)).map c30)) := hide (by
                  rw [hsn.out]
                  refine ⟨?_, ?_, ?_⟩
                  · rw [List.length_append, HWl.out]; simpa [strv] using HO3.out
                  · obtain ⟨A2, c2, h2⟩ := own_slice HO3.out; exact ⟨A2, c2, by rw [List.length_append, HWl.out]; exact h2⟩
                  · rw [jw_snoc, if_neg hw0.out, cat_str, cat_str])
                go_roundw
                case rel => exact ⟨k + 1, by omega, by omega, by go_num, HSt.out, HB3.out⟩
                case measure => simp [intOf]; omega
          · have HT := hide (fun w h => lexText_any A' k c' w1.heap.size ws w h (by omega) HW30.out)
            by_cases hk2 : k < n
            · have hkten : k = 10 := by omega
              have hg1 : decide (k < n) = true := by simpa using hk2
              have hg2 : decide ((k : Int) < 10) = false := by simp; omega
              clear hgo hkten
              go_wp2_with fail
              refine (HT.out _ HO.out).mono ?_
              rintro e w4 ⟨rfl, hb4⟩
              have HB4 := hide (HB2.out.trans (hb4.mono HB2.out.size))
              clear hb4
              go_wp2_with fail
              refine (lexLives_any _).mono ?_
              rintro e w5 ⟨rfl, hb5⟩
              have HB5 := hide (HB4.out.trans (hb5.mono HB4.out.size))
              clear hb5
              go_wp2
              go_ret
              exact ⟨rfl, HB1.out.trans (HB5.out.mono HB1.out.size)⟩
            · have hg1 : decide (k < n) = false := by simpa using hk2
              clear hgo
              go_wp2_with fail
              refine (HT.out _ HO.out).mono ?_
              rintro e w4 ⟨rfl, hb4⟩
              have HB4 := hide (HB2.out.trans (hb4.mono HB2.out.size))
              clear hb4
              go_wp2_with fail
              refine (lexLives_any _).mono ?_
              rintro e w5 ⟨rfl, hb5⟩
              have HB5 := hide (HB4.out.trans (hb5.mono HB4.out.size))
              clear hb5
              go_wp2
              go_ret
              exact ⟨rfl, HB1.out.trans (HB5.out.mono HB1.out.size)⟩
      · rw [if_neg hl18]
        have hl19 : 19 ≤ (str l).size := by rw [HSz.out]; omega
        go_wp2_with fail
        refine (HNm.out _).mono ?_
        rintro e w3 ⟨rfl, rfl⟩
        go_wp2_with fail
        refine (HRN.out _).mono ?_
        rintro e w3 ⟨rfl, rfl⟩
        have hqq : (q != q) = false := by cases q <;> rfl
        go_wp2
        go_loopw [11, 12, 13] (fun v t i wr => ∃ k : Nat, k ≤ n ∧ k ≤ 10 ∧ i = .int .i64 k ∧ WordSt w1.heap.size wr v t ((xs.take k).map c30) ∧ Below w1.heap.size w1 wr) (fun _ _ i _ => 10 - (intOf i).toNat)
        case atStart => exact ⟨0, by omega, by omega, rfl, HWS.out w1, (Below.refl _ _).alloc (Nat.le_refl _) _⟩
        case round =>
          obtain ⟨k, hk, hk10, rfl, hst, hbel⟩ := hrel
          obtain ⟨hown, ⟨A', c', rfl⟩, rfl⟩ := hst
          have HX2 := hide (HX1.out.below rfl hbel)
          have HB2 := hide hbel
          have hsz2 := hbel.size
          obtain ⟨ws, hws⟩ : ∃ ws, (xs.take k).map c30 = ws := ⟨_, rfl⟩
          have hwl : ws.length = k := by rw [← hws, List.length_map, List.length_take, HX2.out.1]; omega
          have hw30 : ∀ x ∈ ws, x.length ≤ 30 := fun x hx => by rw [← hws] at hx; obtain ⟨y, _, rfl⟩ := List.mem_map.1 hx; exact c30_len y
          rw [hws] at hown ⊢
          rw [hwl] at hown ⊢
          have hjl : (str (jw ws)).size ≤ 310 := by rw [str_size]; have := jw_len ws hw30; omega
          have HO := hide hown
          have HWs := hide hws
          have HW30 := hide hw30
          have HWl := hide hwl
          clear hown hbel hws hw30 hwl
          by_cases hgo : k < n ∧ k < 10
          · obtain ⟨hgo1, hgo2⟩ := hgo
            obtain ⟨g, o, x, rfl, hg, hxx, hxm, hc⟩ := HX2.out.at_ hgo1
            have HXX := hide hxx
            clear hxx
            have hg1 : decide (k < n) = true := by simpa using hgo1
            have hcc : ∀ y, c30 x = y → Hid ((xs.take (k + 1)).map c30 = ws ++ [y]) := fun y hy => hide (by
              rw [List.take_add_one, HXX.out, List.map_append, HWs.out]; simp [hy])
            have HCC := hide hcc
            clear hcc
            by_cases h30 : x.size ≤ 30
            · obtain ⟨y, hy, rfl⟩ : ∃ y, c30 x = y ∧ x = str y := ⟨_, rfl, (c30_short h30).symm⟩
              have hsn := HCC.out y hy
              have hy30 : (str y).size ≤ 30 := h30
              clear hy
              by_cases hk0 : k = 0
              · have hw0 : Hid (ws = []) := hide (List.eq_nil_of_length_eq_zero (by rw [HWl.out]; exact hk0))
                have hk1 : (k : Int) ≤ 0 := by omega
                clear hk0
                go_wp2_with (at_builtin; refine wpList_append_any _ rfl (.tmp 84) (.tmp 86) 70 rfl w1.heap.size 9 i0 _ 1 16 Tryd.underlying70 hi hz0 hz1 hz2 rfl (by decide) (.slice A' k c') k (strv ws) rfl (HO.out.alloc _) (wr.heap.size + 1) (some ⟨wr.heap.size, 0, none⟩) 1 1 [.string (str y)] rfl ((reads_oneS (by simp)).more (by simp)) (by simp [Value.oneCell']) (by unfold maxLen; omega) (by omega) (by simp; omega) ?_; intro v' w3 hown' hgrow hat; have HO3 := hide hown'; have HG3 := hide hgrow; clear hown' hgrow hat)
                have HB3 : Hid (Below w1.heap.size w1 w3) := hide (Below.grown (HB2.out.alloc (by omega) (.cells #[.string (str y)] 9)) HG3.out (by simp; omega) (fun k hk => (HO.out.lt k hk).1))
                have HSt : Hid (WordSt w1.heap.size w3 v' (.string (str (jw ws) ++ str y)) ((xs.take (k + 1)).map c30)) := hide (by
                  rw [hsn.out]
                  refine ⟨?_, ?_, ?_⟩
                  · rw [List.length_append, HWl.out]; simpa [strv] using HO3.out
                  · obtain ⟨A2, c2, h2⟩ := own_slice HO3.out; exact ⟨A2, c2, by rw [List.length_append, HWl.out]; exact h2⟩
                  · rw [jw_snoc, if_pos hw0.out, hw0.out, cat_str]; rfl)
                go_roundw
                case rel => exact ⟨k + 1, by omega, by omega, by go_num, HSt.out, HB3.out⟩
                case measure => simp [intOf]; omega
              · have hw0 : Hid (ws ≠ []) := hide (fun h => hk0 (by rw [← HWl.out, h]; rfl))
                have hk1 : (0 : Int) < (k : Int) := by omega
                go_wp2_with (at_builtin; refine wpList_append_any _ rfl (.tmp 84) (.tmp 86) 70 rfl w1.heap.size 9 i0 _ 1 16 Tryd.underlying70 hi hz0 hz1 hz2 rfl (by decide) (.slice A' k c') k (strv ws) rfl (HO.out.alloc _) (wr.heap.size + 1) (some ⟨wr.heap.size, 0, none⟩) 1 1 [.string (str y)] rfl ((reads_oneS (by simp)).more (by simp)) (by simp [Value.oneCell']) (by unfold maxLen; omega) (by omega) (by simp; omega) ?_; intro v' w3 hown' hgrow hat; have HO3 := hide hown'; have HG3 := hide hgrow; clear hown' hgrow hat)
                have HB3 : Hid (Below w1.heap.size w1 w3) := hide (Below.grown (HB2.out.alloc (by omega) (.cells #[.string (str y)] 9)) HG3.out (by simp; omega) (fun k hk => (HO.out.lt k hk).1))
                have HSt : Hid (WordSt w1.heap.size w3 v' (.string (str (jw ws) ++ str [32] ++ str y)) ((xs.take (k + 1)).map c30)) := hide (by
                  rw [hsn.out]
                  refine ⟨?_, ?_, ?_⟩
                  · rw [List.length_append, HWl.out]; simpa [strv] using HO3.out
                  · obtain ⟨A2, c2, h2⟩ := own_slice HO3.out; exact ⟨A2, c2, by rw [List.length_append, HWl.out]; exact h2⟩
                  · rw [jw_snoc, if_neg hw0.out, cat_str, cat_str])
                go_roundw
                case rel => exact ⟨k + 1, by omega, by omega, by go_num, HSt.out, HB3.out⟩
                case measure => simp [intOf]; omega
            · obtain ⟨y, hy, hcut⟩ : ∃ y, c30 x = y ∧ x.extract 0 30 = str y := ⟨_, rfl, c30_long (by omega)⟩
              have hsn := HCC.out y hy
              have hy30 : (str y).size ≤ 30 := by rw [str_size, ← hy]; exact c30_len x
              have h30' : 30 < x.size := by omega
              unfold maxLen at hxm
              clear hy h30
              by_cases hk0 : k = 0
              · have hw0 : Hid (ws = []) := hide (List.eq_nil_of_length_eq_zero (by rw [HWl.out]; exact hk0))
                have hk1 : (k : Int) ≤ 0 := by omega
                clear hk0
                go_wp2_with (at_builtin; refine wpList_append_any _ rfl (.tmp 84) (.tmp 86) 70 rfl w1.heap.size 9 i0 _ 1 16 Tryd.underlying70 hi hz0 hz1 hz2 rfl (by decide) (.slice A' k c') k (strv ws) rfl (HO.out.alloc _) (wr.heap.size + 1) (some ⟨wr.heap.size, 0, none⟩) 1 1 [.string (str y)] rfl ((reads_oneS (by simp)).more (by simp)) (by simp [Value.oneCell']) (by unfold maxLen; omega) (by omega) (by simp; omega) ?_; intro v' w3 hown' hgrow hat; have HO3 := hide hown'; have HG3 := hide hgrow; clear hown' hgrow hat)
                have HB3 : Hid (Below w1.heap.size w1 w3) := hide (Below.grown (HB2.out.alloc (by omega) (.cells #[.string (str y)] 9)) HG3.out (by simp; omega) (fun k hk => (HO.out.lt k hk).1))
                have HSt : Hid (WordSt w1.heap.size w3 v' (.string (str (jw ws) ++ str y)) ((xs.take (k + 1)).map c30)) := hide (by
                  rw [hsn.out]
                  refine ⟨?_, ?_, ?_⟩
                  · rw [List.length_append, HWl.out]; simpa [strv] using HO3.out
                  · obtain ⟨A2, c2, h2⟩ := own_slice HO3.out; exact ⟨A2, c2, by rw [List.length_append, HWl.out]; exact h2⟩
                  · rw [jw_snoc, if_pos hw0.out, hw0.out, cat_str]; rfl)
                go_roundw
                case rel => exact ⟨k + 1, by omega, by omega, by go_num, HSt.out, HB3.out⟩
                case measure => simp [intOf]; omega
              · have hw0 : Hid (ws ≠ []) := hide (fun h => hk0 (by rw [← HWl.out, h]; rfl))
                have hk1 : (0 : Int) < (k : Int) := by omega
                go_wp2_with (at_builtin; refine wpList_append_any _ rfl (.tmp 84) (.tmp 86) 70 rfl w1.heap.size 9 i0 _ 1 16 Tryd.underlying70 hi hz0 hz1 hz2 rfl (by decide) (.slice A' k c') k (strv ws) rfl (HO.out.alloc _) (wr.heap.size + 1) (some ⟨wr.heap.size, 0, none⟩) 1 1 [.string (str y)] rfl ((reads_oneS (by simp)).more (by simp)) (by simp [Value.oneCell']) (by unfold maxLen; omega) (by omega) (by simp; omega) ?_; intro v' w3 hown' hgrow hat; have HO3 := hide hown'; have HG3 := hide hgrow; clear hown' hgrow hat)
                have HB3 : Hid (Below w1.heap.size w1 w3) := hide (Below.grown (HB2.out.alloc (by omega) (.cells #[.string (str y)] 9)) HG3.out (by simp; omega) (fun k hk => (HO.out.lt k hk).1))
                have HSt : Hid (WordSt w1.heap.size w3 v' (.string (str (jw ws) ++ str [32] ++ str y)) ((xs.take (k + 1)).map c30)) := hide (by
                  rw [hsn.out]
                  refine ⟨?_, ?_, ?_⟩
                  · rw [List.length_append, HWl.out]; simpa [strv] using HO3.out
                  · obtain ⟨A2, c2, h2⟩ := own_slice HO3.out; exact ⟨A2, c2, by rw [List.length_append, HWl.out]; exact h2⟩
                  · rw [jw_snoc, if_neg hw0.out, cat_str, cat_str])
                go_roundw
                case rel => exact ⟨k + 1, by omega, by omega, by go_num, HSt.out, HB3.out⟩
                case measure => simp [intOf]; omega
          · have HT := hide (fun w h => lexText_any A' k c' w1.heap.size ws w h (by omega) HW30.out)
            by_cases hk2 : k < n
            · have hkten : k = 10 := by omega
              have hg1 : decide (k < n) = true := by simpa using hk2
              have hg2 : decide ((k : Int) < 10) = false := by simp; omega
              clear hgo hkten
              go_wp2_with fail
              refine (HT.out _ HO.out).mono ?_
              rintro e w4 ⟨rfl, hb4⟩
              have HB4 := hide (HB2.out.trans (hb4.mono HB2.out.size))
              clear hb4
              go_wp2_with fail
              refine (lexLives_any _).mono ?_
              rintro e w5 ⟨rfl, hb5⟩
              have HB5 := hide (HB4.out.trans (hb5.mono HB4.out.size))
              clear hb5
              go_wp2
              go_ret
              exact ⟨rfl, HB1.out.trans (HB5.out.mono HB1.out.size)⟩
            · have hg1 : decide (k < n) = false := by simpa using hk2
              clear hgo
              go_wp2_with fail
              refine (HT.out _ HO.out).mono ?_
              rintro e w4 ⟨rfl, hb4⟩
              have HB4 := hide (HB2.out.trans (hb4.mono HB2.out.size))
              clear hb4
              go_wp2_with fail
              refine (lexLives_any _).mono ?_
              rintro e w5 ⟨rfl, hb5⟩
              have HB5 := hide (HB4.out.trans (hb5.mono HB4.out.size))
              clear hb5
              go_wp2
              go_ret
              exact ⟨rfl, HB1.out.trans (HB5.out.mono HB1.out.size)⟩
  · have HEX := hide (rfl : str l = str l)
    go_enter Tryd.func12, Tryd.ntmps12
    go_wp2_with fail
    try rw [HEX.out]
    refine (HN.out _ HE.out).mono ?_
    rintro e w1 ⟨rfl, hb1⟩
    have HE1 := hide (HE.out.below hb1)
    have HX1 := hide (HX.out.below rfl hb1)
    have HB1 := hide hb1
    clear hb1
    rcases HNR.out with ⟨ho, hr, hle, hlt⟩ | ⟨ho, hr⟩
    all_goals
      rw [hr]
      have HRes := hide hr
      clear ho hr
      go_wp2_with fail
      refine (HR.out _).mono ?_
      rintro e w2 ⟨rfl, rfl⟩
      rw [HRR.out]
      by_cases hl18 : l.length ≤ 18
      · rw [if_pos hl18, HRes.out]
        have hl19 : (str l).size < 19 := by rw [HSz.out]; omega
        go_wp2_with fail
        refine (HNm.out _).mono ?_
        rintro e w3 ⟨rfl, rfl⟩
        go_wp2_with fail
        refine (HRN.out _).mono ?_
        rintro e w3 ⟨rfl, rfl⟩
        have hqq : (q != q) = false := by cases q <;> rfl
        go_wp2
        go_loopw [11, 12, 13] (fun v t i wr => ∃ k : Nat, k ≤ n ∧ k ≤ 10 ∧ i = .int .i64 k ∧ WordSt w1.heap.size wr v t ((xs.take k).map c30) ∧ Below w1.heap.size w1 wr) (fun _ _ i _ => 10 - (intOf i).toNat)
        case atStart => exact ⟨0, by omega, by omega, rfl, HWS.out w1, (Below.refl _ _).alloc (Nat.le_refl _) _⟩
        case round =>
          obtain ⟨k, hk, hk10, rfl, hst, hbel⟩ := hrel
          obtain ⟨hown, ⟨A', c', rfl⟩, rfl⟩ := hst
          have HX2 := hide (HX1.out.below rfl hbel)
          have HB2 := hide hbel
          have hsz2 := hbel.size
          obtain ⟨ws, hws⟩ : ∃ ws, (xs.take k).map c30 = ws := ⟨_, rfl⟩
          have hwl : ws.length = k := by rw [← hws, List.length_map, List.length_take, HX2.out.1]; omega
          have hw30 : ∀ x ∈ ws, x.length ≤ 30 := fun x hx => by rw [← hws] at hx; obtain ⟨y, _, rfl⟩ := List.mem_map.1 hx; exact c30_len y
          rw [hws] at hown ⊢
          rw [hwl] at hown ⊢
          have hjl : (str (jw ws)).size ≤ 310 := by rw [str_size]; have := jw_len ws hw30; omega
          have HO := hide hown
          have HWs := hide hws
          have HW30 := hide hw30
          have HWl := hide hwl
          clear hown hbel hws hw30 hwl
          by_cases hgo : k < n ∧ k < 10
          · obtain ⟨hgo1, hgo2⟩ := hgo
            obtain ⟨g, o, x, rfl, hg, hxx, hxm, hc⟩ := HX2.out.at_ hgo1
            have HXX := hide hxx
            clear hxx
            have hg1 : decide (k < n) = true := by simpa using hgo1
            have hcc : ∀ y, c30 x = y → Hid ((xs.take (k + 1)).map c30 = ws ++ [y]) := fun y hy => hide (by
              rw [List.take_add_one, HXX.out, List.map_append, HWs.out]; simp [hy])
            have HCC := hide hcc
            clear hcc
            by_cases h30 : x.size ≤ 30
            · obtain ⟨y, hy, rfl⟩ : ∃ y, c30 x = y ∧ x = str y := ⟨_, rfl, (c30_short h30).symm⟩
              have hsn := HCC.out y hy
              have hy30 : (str y).size ≤ 30 := h30
              clear hy
              by_cases hk0 : k = 0
              · have hw0 : Hid (ws = []) := hide (List.eq_nil_of_length_eq_zero (by rw [HWl.out]; exact hk0))
                have hk1 : (k : Int) ≤ 0 := by omega
                clear hk0
                go_wp2_with (at_builtin; refine wpList_append_any _ rfl (.tmp 84) (.tmp 86) 70 rfl w1.heap.size 9 i0 _ 1 16 Tryd.underlying70 hi hz0 hz1 hz2 rfl (by decide) (.slice A' k c') k (strv ws) rfl (HO.out.alloc _) (wr.heap.size + 1) (some ⟨wr.heap.size, 0, none⟩) 1 1 [.string (str y)] rfl ((reads_oneS (by simp)).more (by simp)) (by simp [Value.oneCell']) (by unfold maxLen; omega) (by omega) (by simp; omega) ?_; intro v' w3 hown' hgrow hat; have HO3 := hide hown'; have HG3 := hide hgrow; clear hown' hgrow hat)
                have HB3 : Hid (Below w1.heap.size w1 w3) := hide (Below.grown (HB2.out.alloc (by omega) (.cells #[.string (str y)] 9)) HG3.out (by simp; omega) (fun k hk => (HO.out.lt k hk).1))
                have HSt : Hid (WordSt w1.heap.size w3 v' (.string (str (jw ws) ++ str y)) ((xs.take (k + 1)).map c30)) := hide (by
                  rw [hsn.out]
                  refine ⟨?_, ?_, ?_⟩
                  · rw [List.length_append, HWl.out]; simpa [strv] using HO3.out
                  · obtain ⟨A2, c2, h2⟩ := own_slice HO3.out; exact ⟨A2, c2, by rw [List.length_append, HWl.out]; exact h2⟩
                  · rw [jw_snoc, if_pos hw0.out, hw0.out, cat_str]; rfl)
                go_roundw
                case rel => exact ⟨k + 1, by omega, by omega, by go_num, HSt.out, HB3.out⟩
                case measure => simp [intOf]; omega
              · have hw0 : Hid (ws ≠ []) := hide (fun h => hk0 (by rw [← HWl.out, h]; rfl))
                have hk1 : (0 : Int) < (k : Int) := by omega
                go_wp2_with (at_builtin; refine wpList_append_any _ rfl (.tmp 84) (.tmp 86) 70 rfl w1.heap.size 9 i0 _ 1 16 Tryd.underlying70 hi hz0 hz1 hz2 rfl (by decide) (.slice A' k c') k (strv ws) rfl (HO.out.alloc _) (wr.heap.size + 1) (some ⟨wr.heap.size, 0, none⟩) 1 1 [.string (str y)] rfl ((reads_oneS (by simp)).more (by simp)) (by simp [Value.oneCell']) (by unfold maxLen; omega) (by omega) (by simp; omega) ?_; intro v' w3 hown' hgrow hat; have HO3 := hide hown'; have HG3 := hide hgrow; clear hown' hgrow hat)
                have HB3 : Hid (Below w1.heap.size w1 w3) := hide (Below.grown (HB2.out.alloc (by omega) (.cells #[.string (str y)] 9)) HG3.out (by simp; omega) (fun k hk => (HO.out.lt k hk).1))
                have HSt : Hid (WordSt w1.heap.size w3 v' (.string (str (jw ws) ++ str [32] ++ str y)) ((xs.take (k + 1)).map c30)) := hide (by
                  rw [hsn.out]
                  refine ⟨?_, ?_, ?_⟩
                  · rw [List.length_append, HWl.out]; simpa [strv] using HO3.out
                  · obtain ⟨A2, c2, h2⟩ := own_slice HO3.out; exact ⟨A2, c2, by rw [List.length_append, HWl.out]; exact h2⟩
                  · rw [jw_snoc, if_neg hw0.out, cat_str, cat_str])
                go_roundw
                case rel => exact ⟨k + 1, by omega, by omega, by go_num, HSt.out, HB3.out⟩
                case measure => simp [intOf]; omega
            · obtain ⟨y, hy, hcut⟩ : ∃ y, c30 x = y ∧ x.extract 0 30 = str y := ⟨_, rfl, c30_long (by omega)⟩
              have hsn := HCC.out y hy
              have hy30 : (str y).size ≤ 30 := by rw [str_size, ← hy]; exact c30_len x
              have h30' : 30 < x.size := by omega
              unfold maxLen at hxm
              clear hy h30
              by_cases hk0 : k = 0
              · have hw0 : Hid (ws = []) := hide (List.eq_nil_of_length_eq_zero (by rw [HWl.out]; exact hk0))
                have hk1 : (k : Int) ≤ 0 := by omega
                clear hk0
                go_wp2_with (at_builtin; refine wpList_append_any _ rfl (.tmp 84) (.tmp 86) 70 rfl w1.heap.size 9 i0 _ 1 16 Tryd.underlying70 hi hz0 hz1 hz2 rfl (by decide) (.slice A' k c') k (strv ws) rfl (HO.out.alloc _) (wr.heap.size + 1) (some ⟨wr.heap.size, 0, none⟩) 1 1 [.string (str y)] rfl ((reads_oneS (by simp)).more (by simp)) (by simp [Value.oneCell']) (by unfold maxLen; omega) (by omega) (by simp; omega) ?_; intro v' w3 hown' hgrow hat; have HO3 := hide hown'; have HG3 := hide hgrow; clear hown' hgrow hat)
                have HB3 : Hid (Below w1.heap.size w1 w3) := hide (Below.grown (HB2.out.alloc (by omega) (.cells #[.string (str y)] 9)) HG3.out (by simp; omega) (fun k hk => (HO.out.lt k hk).1))
                have HSt : Hid (WordSt w1.heap.size w3 v' (.string (str (jw ws) ++ str y)) ((xs.take (k + 1)).map c30)) := hide (by
                  rw [hsn.out]
                  refine ⟨?_, ?_, ?_⟩
                  · rw [List.length_append, HWl.out]; simpa [strv] using HO3.out
                  · obtain ⟨A2, c2, h2⟩ := own_slice HO3.out; exact ⟨A2, c2, by rw [List.length_append, HWl.out]; exact h2⟩
                  · rw [jw_snoc, if_pos hw0.out, hw0.out, cat_str]; rfl)
                go_roundw
                case rel => exact ⟨k + 1, by omega, by omega, by go_num, HSt.out, HB3.out⟩
                case measure => simp [intOf]; omega
              · have hw0 : Hid (ws ≠ []) := hide (fun h => hk0 (by rw [← HWl.out, h]; rfl))
                have hk1 : (0 : Int) < (k : Int) := by omega
                go_wp2_with (at_builtin; refine wpList_append_any _ rfl (.tmp 84) (.tmp 86) 70 rfl w1.heap.size 9 i0 _ 1 16 Tryd.underlying70 hi hz0 hz1 hz2 rfl (by decide) (.slice A' k c') k (strv ws) rfl (HO.out.alloc _) (wr.heap.size + 1) (some ⟨wr.heap.size, 0, none⟩) 1 1 [.string (str y)] rfl ((reads_oneS (by simp)).more (by simp)) (by simp [Value.oneCell']) (by unfold maxLen; omega) (by omega) (by simp; omega) ?_; intro v' w3 hown' hgrow hat; have HO3 := hide hown'; have HG3 := hide hgrow; clear hown' hgrow hat)
                have HB3 : Hid (Below w1.heap.size w1 w3) := hide (Below.grown (HB2.out.alloc (by omega) (.cells #[.string (str y)] 9)) HG3.out (by simp; omega) (fun k hk => (HO.out.lt k hk).1))
                have HSt : Hid (WordSt w1.heap.size w3 v' (.string (str (jw ws) ++ str [32] ++ str y)) ((xs.take (k + 1)).map c30)) := hide (by
                  rw [hsn.out]
                  refine ⟨?_, ?_, ?_⟩
                  · rw [List.length_append, HWl.out]; simpa [strv] using HO3.out
                  · obtain ⟨A2, c2, h2⟩ := own_slice HO3.out; exact ⟨A2, c2, by rw [List.length_append, HWl.out]; exact h2⟩
                  · rw [jw_snoc, if_neg hw0.out, cat_str, cat_str])
                go_roundw
                case rel => exact ⟨k + 1, by omega, by omega, by go_num, HSt.out, HB3.out⟩
                case measure => simp [intOf]; omega
          · have HT := hide (fun w h => lexText_any A' k c' w1.heap.size ws w h (by omega) HW30.out)
            by_cases hk2 : k < n
            · have hkten : k = 10 := by omega
              have hg1 : decide (k < n) = true := by simpa using hk2
              have hg2 : decide ((k : Int) < 10) = false := by simp; omega
              clear hgo hkten
              go_wp2_with fail
              refine (HT.out _ HO.out).mono ?_
              rintro e w4 ⟨rfl, hb4⟩
              have HB4 := hide (HB2.out.trans (hb4.mono HB2.out.size))
              clear hb4
              go_wp2_with fail
              refine (lexLives_any _).mono ?_
              rintro e w5 ⟨rfl, hb5⟩
              have HB5 := hide (HB4.out.trans (hb5.mono HB4.out.size))
              clear hb5
              go_wp2
              go_ret
              exact ⟨rfl, HB1.out.trans (HB5.out.mono HB1.out.size)⟩
            · have hg1 : decide (k < n) = false := by simpa using hk2
              clear hgo
              go_wp2_with fail
              refine (HT.out _ HO.out).mono ?_
              rintro e w4 ⟨rfl, hb4⟩
              have HB4 := hide (HB2.out.trans (hb4.mono HB2.out.size))
              clear hb4
              go_wp2_with fail
              refine (lexLives_any _).mono ?_
              rintro e w5 ⟨rfl, hb5⟩
              have HB5 := hide (HB4.out.trans (hb5.mono HB4.out.size))
              clear hb5
              go_wp2
              go_ret
              exact ⟨rfl, HB1.out.trans (HB5.out.mono HB1.out.size)⟩
      · rw [if_neg hl18]
        have hl19 : 19 ≤ (str l).size := by rw [HSz.out]; omega
        go_wp2_with fail
        refine (HNm.out _).mono ?_
        rintro e w3 ⟨rfl, rfl⟩
        go_wp2_with fail
        refine (HRN.out _).mono ?_
        rintro e w3 ⟨rfl, rfl⟩
        have hqq : (q != q) = false := by cases q <;> rfl
        go_wp2
        go_loopw [11, 12, 13] (fun v t i wr => ∃ k : Nat, k ≤ n ∧ k ≤ 10 ∧ i = .int .i64 k ∧ WordSt w1.heap.size wr v t ((xs.take k).map c30) ∧ Below w1.heap.size w1 wr) (fun _ _ i _ => 10 - (intOf i).toNat)
        case atStart => exact ⟨0, by omega, by omega, rfl, HWS.out w1, (Below.refl _ _).alloc (Nat.le_refl _) _⟩
        case round =>
          obtain ⟨k, hk, hk10, rfl, hst, hbel⟩ := hrel
          obtain ⟨hown, ⟨A', c', rfl⟩, rfl⟩ := hst
          have HX2 := hide (HX1.out.below rfl hbel)
          have HB2 := hide hbel
          have hsz2 := hbel.size
          obtain ⟨ws, hws⟩ : ∃ ws, (xs.take k).map c30 = ws := ⟨_, rfl⟩
          have hwl : ws.length = k := by rw [← hws, List.length_map, List.length_take, HX2.out.1]; omega
          have hw30 : ∀ x ∈ ws, x.length ≤ 30 := fun x hx => by rw [← hws] at hx; obtain ⟨y, _, rfl⟩ := List.mem_map.1 hx; exact c30_len y
          rw [hws] at hown ⊢
          rw [hwl] at hown ⊢
          have hjl : (str (jw ws)).size ≤ 310 := by rw [str_size]; have := jw_len ws hw30; omega
          have HO := hide hown
          have HWs := hide hws
          have HW30 := hide hw30
          have HWl := hide hwl
          clear hown hbel hws hw30 hwl
          by_cases hgo : k < n ∧ k < 10
          · obtain ⟨hgo1, hgo2⟩ := hgo
            obtain ⟨g, o, x, rfl, hg, hxx, hxm, hc⟩ := HX2.out.at_ hgo1
            have HXX := hide hxx
            clear hxx
            have hg1 : decide (k < n) = true := by simpa using hgo1
            have hcc : ∀ y, c30 x = y → Hid ((xs.take (k + 1)).map c30 = ws ++ [y]) := fun y hy => hide (by
              rw [List.take_add_one, HXX.out, List.map_append, HWs.out]; simp [hy])
            have HCC := hide hcc
            clear hcc
            by_cases h30 : x.size ≤ 30
            · obtain ⟨y, hy, rfl⟩ : ∃ y, c30 x = y ∧ x = str y := ⟨_, rfl, (c30_short h30).symm⟩
              have hsn := HCC.out y hy
              have hy30 : (str y).size ≤ 30 := h30
              clear hy
              by_cases hk0 : k = 0
              · have hw0 : Hid (ws = []) := hide (List.eq_nil_of_length_eq_zero (by rw [HWl.out]; exact hk0))
                have hk1 : (k : Int) ≤ 0 := by omega
                clear hk0
                go_wp2_with (at_builtin; refine wpList_append_any _ rfl (.tmp 84) (.tmp 86) 70 rfl w1.heap.size 9 i0 _ 1 16 Tryd.underlying70 hi hz0 hz1 hz2 rfl (by decide) (.slice A' k c') k (strv ws) rfl (HO.out.alloc _) (wr.heap.size + 1) (some ⟨wr.heap.size, 0, none⟩) 1 1 [.string (str y)] rfl ((reads_oneS (by simp)).more (by simp)) (by simp [Value.oneCell']) (by unfold maxLen; omega) (by omega) (by simp; omega) ?_; intro v' w3 hown' hgrow hat; have HO3 := hide hown'; have HG3 := hide hgrow; clear hown' hgrow hat)
                have HB3 : Hid (Below w1.heap.size w1 w3) := hide (Below.grown (HB2.out.alloc (by omega) (.cells #[.string (str y)] 9)) HG3.out (by simp; omega) (fun k hk => (HO.out.lt k hk).1))
                have HSt : Hid (WordSt w1.heap.size w3 v' (.string (str (jw ws) ++ str y)) ((xs.take (k + 1)).map c30)) := hide (by
                  rw [hsn.out]
                  refine ⟨?_, ?_, ?_⟩
                  · rw [List.length_append, HWl.out]; simpa [strv] using HO3.out
                  · obtain ⟨A2, c2, h2⟩ := own_slice HO3.out; exact ⟨A2, c2, by rw [List.length_append, HWl.out]; exact h2⟩
                  · rw [jw_snoc, if_pos hw0.out, hw0.out, cat_str]; rfl)
                go_roundw
                case rel => exact ⟨k + 1, by omega, by omega, by go_num, HSt.out, HB3.out⟩
                case measure => simp [intOf]; omega
              · have hw0 : Hid (ws ≠ []) := hide (fun h => hk0 (by rw [← HWl.out, h]; rfl))
                have hk1 : (0 : Int) < (k : Int) := by omega
                go_wp2_with (at_builtin; refine wpList_append_any _ rfl (.tmp 84) (.tmp 86) 70 rfl w1.heap.size 9 i0 _ 1 16 Tryd.underlying70 hi hz0 hz1 hz2 rfl (by decide) (.slice A' k c') k (strv ws) rfl (HO.out.alloc _) (wr.heap.size + 1) (some ⟨wr.heap.size, 0, none⟩) 1 1 [.string (str y)] rfl ((reads_oneS (by simp)).more (by simp)) (by simp [Value.oneCell']) (by unfold maxLen; omega) (by omega) (by simp; omega) ?_; intro v' w3 hown' hgrow hat; have HO3 := hide hown'; have HG3 := hide hgrow; clear hown' hgrow hat)
                have HB3 : Hid (Below w1.heap.size w1 w3) := hide (Below.grown (HB2.out.alloc (by omega) (.cells #[.string (str y)] 9)) HG3.out (by simp; omega) (fun k hk => (HO.out.lt k hk).1))
                have HSt : Hid (WordSt w1.heap.size w3 v' (.string (str (jw ws) ++ str [32] ++ str y)) ((xs.take (k + 1)).map c30)) := hide (by
                  rw [hsn.out]
                  refine ⟨?_, ?_, ?_⟩
                  · rw [List.length_append, HWl.out]; simpa [strv] using HO3.out
                  · obtain ⟨A2, c2, h2⟩ := own_slice HO3.out; exact ⟨A2, c2, by rw [List.length_append, HWl.out]; exact h2⟩
                  · rw [jw_snoc, if_neg hw0.out, cat_str, cat_str])
                go_roundw
                case rel => exact ⟨k + 1, by omega, by omega, by go_num, HSt.out, HB3.out⟩
                case measure => simp [intOf]; omega
            · obtain ⟨y, hy, hcut⟩ : ∃ y, c30 x = y ∧ x.extract 0 30 = str y := ⟨_, rfl, c30_long (by omega)⟩
              have hsn := HCC.out y hy
              have hy30 : (str y).size ≤ 30 := by rw [str_size, ← hy]; exact c30_len x
              have h30' : 30 < x.size := by omega
              unfold maxLen at hxm
              clear hy h30
              by_cases hk0 : k = 0
              · have hw0 : Hid (ws = []) := hide (List.eq_nil_of_length_eq_zero (by rw [HWl.out]; exact hk0))
                have hk1 : (k : Int) ≤ 0 := by omega
                clear hk0
                go_wp2_with (at_builtin; refine wpList_append_any _ rfl (.tmp 84) (.tmp 86) 70 rfl w1.heap.size 9 i0 _ 1 16 Tryd.underlying70 hi hz0 hz1 hz2 rfl (by decide) (.slice A' k c') k (strv ws) rfl (HO.out.alloc _) (wr.heap.size + 1) (some ⟨wr.heap.size, 0, none⟩) 1 1 [.string (str y)] rfl ((reads_oneS (by simp)).more (by simp)) (by simp [Value.oneCell']) (by unfold maxLen; omega) (by omega) (by simp; omega) ?_; intro v' w3 hown' hgrow hat; have HO3 := hide hown'; have HG3 := hide hgrow; clear hown' hgrow hat)
                have HB3 : Hid (Below w1.heap.size w1 w3) := hide (Below.grown (HB2.out.alloc (by omega) (.cells #[.string (str y)] 9)) HG3.out (by simp; omega) (fun k hk => (HO.out.lt k hk).1))
                have HSt : Hid (WordSt w1.heap.size w3 v' (.string (str (jw ws) ++ str y)) ((xs.take (k + 1)).map c30)) := hide (by
                  rw [hsn.out]
                  refine ⟨?_, ?_, ?_⟩
                  · rw [List.length_append, HWl.out]; simpa [strv] using HO3.out
                  · obtain ⟨A2, c2, h2⟩ := own_slice HO3.out; exact ⟨A2, c2, by rw [List.length_append, HWl.out]; exact h2⟩
                  · rw [jw_snoc, if_pos hw0.out, hw0.out, cat_str]; rfl)
                go_roundw
                case rel => exact ⟨k + 1, by omega, by omega, by go_num, HSt.out, HB3.out⟩
                case measure => simp [intOf]; omega
              · have hw0 : Hid (ws ≠ []) := hide (fun h => hk0 (by rw [← HWl.out, h]; rfl))
                have hk1 : (0 : Int) < (k : Int) := by omega
                go_wp2_with (at_builtin; refine wpList_append_any _ rfl (.tmp 84) (.tmp 86) 70 rfl w1.heap.size 9 i0 _ 1 16 Tryd.underlying70 hi hz0 hz1 hz2 rfl (by decide) (.slice A' k c') k (strv ws) rfl (HO.out.alloc _) (wr.heap.size + 1) (some ⟨wr.heap.size, 0, none⟩) 1 1 [.string (str y)] rfl ((reads_oneS (by simp)).more (by simp)) (by simp [Value.oneCell']) (by unfold maxLen; omega) (by omega) (by simp; omega) ?_; intro v' w3 hown' hgrow hat; have HO3 := hide hown'; have HG3 := hide hgrow; clear hown' hgrow hat)
                have HB3 : Hid (Below w1.heap.size w1 w3) := hide (Below.grown (HB2.out.alloc (by omega) (.cells #[.string (str y)] 9)) HG3.out (by simp; omega) (fun k hk => (HO.out.lt k hk).1))
                have HSt : Hid (WordSt w1.heap.size w3 v' (.string (str (jw ws) ++ str [32] ++ str y)) ((xs.take (k + 1)).map c30)) := hide (by
                  rw [hsn.out]
                  refine ⟨?_, ?_, ?_⟩
                  · rw [List.length_append, HWl.out]; simpa [strv] using HO3.out
                  · obtain ⟨A2, c2, h2⟩ := own_slice HO3.out; exact ⟨A2, c2, by rw [List.length_append, HWl.out]; exact h2⟩
                  · rw [jw_snoc, if_neg hw0.out, cat_str, cat_str])
                go_roundw
                case rel => exact ⟨k + 1, by omega, by omega, by go_num, HSt.out, HB3.out⟩
                case measure => simp [intOf]; omega
          · have HT := hide (fun w h => lexText_any A' k c' w1.heap.size ws w h (by omega) HW30.out)
            by_cases hk2 : k < n
            · have hkten : k = 10 := by omega
              have hg1 : decide (k < n) = true := by simpa using hk2
              have hg2 : decide ((k : Int) < 10) = false := by simp; omega
              clear hgo hkten
              go_wp2_with fail
              refine (HT.out _ HO.out).mono ?_
              rintro e w4 ⟨rfl, hb4⟩
              have HB4 := hide (HB2.out.trans (hb4.mono HB2.out.size))
              clear hb4
              go_wp2_with fail
              refine (lexLives_any _).mono ?_
              rintro e w5 ⟨rfl, hb5⟩
              have HB5 := hide (HB4.out.trans (hb5.mono HB4.out.size))
              clear hb5
              go_wp2
              go_ret
              exact ⟨rfl, HB1.out.trans (HB5.out.mono HB1.out.size)⟩
            · have hg1 : decide (k < n) = false := by simpa using hk2
              clear hgo
              go_wp2_with fail
              refine (HT.out _ HO.out).mono ?_
              rintro e w4 ⟨rfl, hb4⟩
              have HB4 := hide (HB2.out.trans (hb4.mono HB2.out.size))
              clear hb4
              go_wp2_with fail
              refine (lexLives_any _).mono ?_
              rintro e w5 ⟨rfl, hb5⟩
              have HB5 := hide (HB4.out.trans (hb5.mono HB4.out.size))
              clear hb5
              go_wp2
              go_ret
              exact ⟨rfl, HB1.out.trans (HB5.out.mono HB1.out.size)⟩
theorem lexWords_law (s : ByteArray) (most : Int) (A : Option Addr) (n c : Nat) (xs : List ByteArray) (hs : s.size ≤ maxLen) (hm1 : -9223372036854775808 ≤ most) (hm2 : most ≤ 9223372036854775807)
    (w : World) (hx : StrsAt w A n c xs) (he : Env w) : Calls Tryd.prog 12 #[.string s, .int .i64 most, .slice A n c] w (GoodP true w) := by
  obtain ⟨l, hl, hh⟩ : ∃ l : List UInt8, l.length ≤ 60 ∧ (s.size ≤ 60 ∧ s = str l ∨ 60 < s.size ∧ s.size ≤ 9223372036854775807 ∧ s.extract 0 60 = str l) := by
    unfold maxLen at hs
    by_cases h : s.size ≤ 60
    · exact ⟨s.data.toList, by show s.data.toList.length ≤ 60; rw [Array.length_toList]; exact h, .inl ⟨h, (str_of s).symm⟩⟩
    · exact ⟨(s.extract 0 60).data.toList, by simp; omega, .inr ⟨by omega, by omega, (str_of _).symm⟩⟩
  exact lexWords_any s l most A n c xs hl hm1 hm2 hh w hx he
end Go.Proofs.YtiibglkiakhfgaaDoor
