import Derived.Test.YtiibglkiakhfgaaDoorLongPure
set_option linter.unusedSimpArgs false
set_option linter.unusedVariables false
namespace Go.Proofs.YtiibglkiakhfgaaDoor
open Go.RowKit
theorem u8Info : (Tryd.prog.info? 5).map (fun i => (i.zero, i.size, i.bytes)) = some (some (.int .u8 0), 1, 1) := by kernel_rfl
theorem reads_two {w : World} {g : Nat} {u v : Value} (h0 : w.cell? ⟨g, 0, none⟩ = some u) (h1 : w.cell? ⟨g, 1, none⟩ = some v) : Reads w w.heap.size 1 (some ⟨g, 0, none⟩) 2 [u, v] :=
  ⟨rfl, fun _ => ⟨_, rfl, World.block_lt_of_cell? w _ h0, fun j x hx => by
    match j, hx with
    | 0, hx => cases hx; exact h0
    | 1, hx => cases hx; exact h1
    | j + 2, hx => simp at hx⟩⟩
theorem byteCells_aT (k : Nat) : Lib.byteCells (aT k) ++ [.int .u8 97, .int .u8 10] = Lib.byteCells (aT (k + 1)) := by rw [aT_snoc]; simp [Lib.byteCells]
theorem conv_aT {w : World} {base n c : Nat} {A : Option Addr} (h : w.ownsRow base 5 1 (.slice A (2 * n) c) (2 * n) (Lib.byteCells (aT n))) (hn : 0 < n) :
    (convert 37 9 (.slice A (2 * n) c)).run Tryd.prog w = .ok (.string (str (aT n))) w := by
  obtain ⟨g, cap, hv, _, hlt⟩ := h.form (by omega)
  cases hv
  have := run_convert_bytes_back (P := Tryd.prog) w 37 9 5 ⟨g, 0, none⟩ c (aT n) Tryd.underlying37 Tryd.underlying5 Tryd.underlying9 (fun j hj => by
    have := h.cells (g := g) rfl j (.int .u8 ((aT n)[j].toNat : Int)) (by simp [Lib.byteCells, hj])
    exact this)
  rw [aT_len] at this
  exact this
/-- The second text's bytes, k of them laid. -/
def BlSt (w : World) (g m k : Nat) : Prop := ∃ cs : Array Value, Blk w g 5 cs ∧ cs.size = m ∧ (∀ j, j < m → ∃ v, cs[j]? = some v) ∧ ∀ j, j < k → cs[j]? = some (.int .u8 32)
theorem BlSt.put {w : World} {g m k : Nat} (h : BlSt w g m k) (hk : k < m) : BlSt (w.setCell ⟨g, k, none⟩ (.int .u8 32)) g m (k + 1) := by
  obtain ⟨cs, hb, hs, hv, hc⟩ := h
  refine ⟨_, hb.set_ k _, by simp [hs], fun j hj => ?_, fun j hj => ?_⟩
  · rw [Array.getElem?_setIfInBounds]
    split
    · exact ⟨_, by rw [if_pos (by omega)]⟩
    · exact hv j hj
  · rw [Array.getElem?_setIfInBounds]
    split
    · rw [if_pos (by omega)]
    · exact hc j (by omega)
theorem conv_bl {w : World} {g m : Nat} (h : BlSt w g m m) : (convert 37 9 (.slice (some ⟨g, 0, none⟩) m m)).run Tryd.prog w = .ok (.string (str (List.replicate m 32))) w := by
  obtain ⟨cs, hb, hs, hv, hc⟩ := h
  have := run_convert_bytes_back (P := Tryd.prog) w 37 9 5 ⟨g, 0, none⟩ m (List.replicate m 32) Tryd.underlying37 Tryd.underlying5 Tryd.underlying9 (fun j hj => by
    rw [List.length_replicate] at hj
    rw [show (⟨g, 0, none⟩ : Addr).add j = ⟨g, 0 + j, none⟩ by unfold Addr.add; split <;> simp_all, Nat.zero_add, hb.cell j, hc j hj]
    simp)
  rw [List.length_replicate] at this
  exact this

theorem lines_aT2 (n : Nat) (hn : n ≤ 2004) (w : World) : Calls Tryd.prog 26 #[.string (str (aT n))] w fun e w' => Below w.heap.size w w' ∧ ∃ (A : Option Addr) (c q cd : Nat), e = .returned (.tuple #[.slice A q c, .agg #[.int .i64 0, .int .i64 0, .int .i64 (cd : Int)]]) ∧ ((n ≤ 2000 ∧ q = n ∧ cd = 0) ∨ (2000 < n ∧ q = 0 ∧ cd = 6)) := by
  by_cases h : n ≤ 2000
  · refine (lines_aT n h w).mono ?_
    rintro e w' ⟨hb, A, c, rfl⟩
    exact ⟨hb, A, c, n, 0, rfl, .inl ⟨h, rfl, rfl⟩⟩
  · refine (lines_refused (aT n) (by rw [aT_len]; omega) (.inr (by rw [aT_count]; omega)) w).mono ?_
    rintro e w' ⟨rfl, hb⟩
    exact ⟨hb, none, 0, 0, 6, rfl, .inr ⟨by omega, rfl, rfl⟩⟩
theorem lines_bl2 (m : Nat) (hm : m ≤ 100004) (w : World) : Calls Tryd.prog 26 #[.string (str (List.replicate m 32))] w fun e w' => Below w.heap.size w w' ∧ ∃ (A : Option Addr) (c q cd : Nat), e = .returned (.tuple #[.slice A q c, .agg #[.int .i64 0, .int .i64 0, .int .i64 (cd : Int)]]) ∧ ((m ≤ 100000 ∧ cd = 0) ∨ (100000 < m ∧ cd = 6)) := by
  by_cases h : m ≤ 100000
  · refine (lines_bl m h w).mono ?_
    rintro e w' ⟨hb, A, c, rfl⟩
    exact ⟨hb, A, c, 0, 0, rfl, .inl ⟨h, rfl⟩⟩
  · refine (lines_refused (List.replicate m 32) (by rw [List.length_replicate]; omega) (.inl (by rw [List.length_replicate]; omega)) w).mono ?_
    rintro e w' ⟨rfl, hb⟩
    exact ⟨hb, none, 0, 0, 6, rfl, .inr ⟨by omega, rfl⟩⟩

set_option maxRecDepth 100000 in
set_option maxHeartbeats 4000000 in
theorem lexLong_any (a : Nat) (ha : a < 256) (w : World) : Calls Tryd.prog 5 #[.int .u8 a] w (GoodP true w) := by
  obtain ⟨i0, hi, hz0, hz1, hz2⟩ := info_parts u8Info
  obtain ⟨r, hr, hr9⟩ : ∃ r : Nat, (a : Int) % 10 = (r : Int) ∧ r < 10 := ⟨a % 10, by omega, by omega⟩
  obtain ⟨n, hn, hn1, hn2⟩ : ∃ n : Nat, (1995 : Int) + (r : Int) = (n : Int) ∧ 1995 ≤ n ∧ n ≤ 2004 := ⟨1995 + r, by omega, by omega, by omega⟩
  obtain ⟨m, hm, hm1, hm2⟩ : ∃ m : Nat, (99995 : Int) + (r : Int) = (m : Int) ∧ 99995 ≤ m ∧ m ≤ 100004 := ⟨99995 + r, by omega, by omega, by omega⟩
  go_enter Tryd.func5, Tryd.ntmps5
  go_wp2
  rw [hr]
  have HR := hide hr
  clear hr
  go_loopw [3, 5] (fun v i wr => ∃ k : Nat, k ≤ n ∧ i = .int .i64 (k : Nat) ∧ wr.ownsRow w.heap.size 5 1 v (2 * k) (Lib.byteCells (aT k)) ∧ (∃ A c, v = .slice A (2 * k) c) ∧ Below w.heap.size w wr) (fun _ i _ => n - (intOf i).toNat)
  case atStart =>
    exact ⟨0, by omega, rfl, World.ownsRow_made _ _ _ (Nat.le_refl _) (by simp [maxLen]) (by simp), ⟨_, _, rfl⟩, (Below.refl _ _).alloc (Nat.le_refl _) _⟩
  case round =>
    obtain ⟨k, hk, rfl, hown, ⟨A', c', rfl⟩, hb⟩ := hrel
    have HO := hide hown
    have HBl := hide hb
    have hsz := hb.size
    clear hown hb
    by_cases hlt : k < n
    · have hk1 : decide (k < n) = true := by simpa using hlt
      go_wp2_with (at_builtin; refine wpList_append_any _ rfl (.tmp 23) (.tmp 24) 37 rfl w.heap.size 5 i0 _ 1 1 Tryd.underlying37 hi hz0 hz1 hz2 rfl (by decide) (.slice A' (2 * k) c') (2 * k) (Lib.byteCells (aT k)) rfl (HO.out.alloc _) (wr.heap.size + 1) (some ⟨wr.heap.size, 0, none⟩) 2 2 [.int .u8 97, .int .u8 10] rfl ((reads_two (by simp) (by simp)).more (by simp)) (by simp [Value.oneCell']) (by unfold maxLen; omega) (by omega) (by simp; omega) ?_; intro v' w3 hown' hgrow hat; have HO3 := hide hown'; have HG3 := hide hgrow; clear hown' hgrow hat)
      have HB3 : Hid (Below w.heap.size w w3) := hide (Below.grown (HBl.out.alloc (by omega) (.cells #[.int .u8 97, .int .u8 10] 5)) HG3.out (by simp; omega) (fun k hk => (HO.out.lt k hk).1))
      have HF : Hid (w3.ownsRow w.heap.size 5 1 v' (2 * (k + 1)) (Lib.byteCells (aT (k + 1)))) := hide (by rw [← byteCells_aT]; exact HO3.out)
      have HV : Hid (∃ A c, v' = .slice A (2 * (k + 1)) c) := hide (own_slice HF.out)
      go_roundw
      case rel => exact ⟨k + 1, by omega, by go_num, HF.out, HV.out, HB3.out⟩
      case measure => simp [intOf]; omega
    · obtain rfl : k = n := by omega
      have hk1 : decide (k < k) = false := by simp
      have hcv := conv_aT HO.out (by omega)
      have HL := hide (lines_aT2 k hn2 wr)
      go_wp2_with fail
      refine HL.out.mono ?_
      rintro e w1 ⟨hb1, A1, c1, q, cd, rfl, hcase⟩
      have HB1 := hide (HBl.out.trans (hb1.mono HBl.out.size))
      have HCS := hide hcase
      have hs1 := (HBl.out.trans (hb1.mono HBl.out.size)).size
      clear hb1 hcase hcv
      have hr := HR.out
      go_wp2_with (at_make; refine wpList_make_full _ rfl _ _ 37 rfl w.heap.size 5 i0 _ 1 Tryd.underlying37 hi hz0 hz1 .i64 .i64 _ _ m rfl rfl rfl rfl (by rw [hz2]; omega) (by unfold maxLen; omega) (by simp; omega) ?_; intro w2 hown2 hg2; have HO2 := hide hown2; have HG2 := hide hg2; clear hown2 hg2)
      have HBL : Hid (BlSt w2 (w1.heap.size + 1) m 0) := hide (by
        rcases HO2.out.2 with ⟨e, _⟩ | ⟨g, cap, cur, e, _, hgc, _, _, hcs, _⟩
        · cases e
        · simp at e
          obtain ⟨rfl, rfl⟩ := e
          refine ⟨cur, hgc, by omega, fun j hj => ⟨_, Array.getElem?_eq_getElem (by omega)⟩, fun j hj => by omega⟩)
      have HT7 : Hid (Blk w2 w1.heap.size 41 #[.int .i64 0, .int .i64 0, .int .i64 (cd : Int)]) := hide ((Blk.new w1 _ _).grown HG2.out (by simp))
      have HB2 : Hid (Below w.heap.size w w2) := hide (Below.grown (HB1.out.alloc (by omega) _) HG2.out (by simp; omega) (fun k hk => by cases hk))
      clear hr
      obtain ⟨wo, hwo⟩ : ∃ wo : World, wo = wr := ⟨_, rfl⟩
      subst hwo
      go_loopw [9] (fun i wr => ∃ j : Nat, j ≤ m ∧ i = .int .i64 (j : Nat) ∧ BlSt wr (w1.heap.size + 1) m j ∧ Blk wr w1.heap.size 41 #[.int .i64 0, .int .i64 0, .int .i64 (cd : Int)] ∧ Below w.heap.size w wr) (fun i _ => m - (intOf i).toNat)
      case atStart => exact ⟨0, by omega, rfl, HBL.out, HT7.out, HB2.out⟩
      case round =>
        obtain ⟨j, hj, rfl, hbl, ht7, hbw⟩ := hrel
        have HBj := hide hbl
        have HTj := hide ht7
        have HWj := hide hbw
        by_cases hjl : j < m
        · have hj1 : decide (j < m) = true := by simpa using hjl
          have HN := hide (hbl.put hjl)
          obtain ⟨cs, hb, hcs, hv, hc⟩ := hbl
          obtain ⟨x, hx⟩ := hv j hjl
          have e1 := (hb.cell j).trans hx
          have f1 := hb.frozen j
          have hm63 : m ≤ 100004 := hm2
          clear hb hv hc hx ht7 hbw
          go_wp2
          go_roundw
          case rel => exact ⟨j + 1, by omega, by go_num, HN.out, HTj.out.far (by simp) _, HWj.out.setCell (p := ⟨w1.heap.size + 1, j, none⟩) (by show w.heap.size ≤ w1.heap.size + 1; omega) _⟩
          case measure => simp [intOf]; omega
        · obtain rfl : j = m := by omega
          have hj1 : decide (j < j) = false := by simp
          have hcv := conv_bl hbl
          have HL2 := hide (lines_bl2 j hm2 wr)
          clear hbl ht7 hbw
          go_wp2_with fail
          refine HL2.out.mono ?_
          rintro e w3 ⟨hb3, A3, c3, q3, cd3, rfl, hcase3⟩
          have HB3 := hide (HWj.out.trans (hb3.mono HWj.out.size))
          have T7 := HTj.out.below hb3 HTj.out.lt
          have d0 := T7.cell 0
          have d1 := T7.cell 1
          have d2 := T7.cell 2
          have g7 : w1.heap.size < w3.heap.size := T7.lt
          have hsz3 := (HWj.out.trans (hb3.mono HWj.out.size)).size
          clear hb3 hcv T7
          rcases (show (k ≤ 2000 ∧ k = q ∧ cd = 0) ∨ (2000 < k ∧ 0 = q ∧ cd = 6) by have := HCS.out; omega) with ⟨h1, rfl, hcd⟩ | ⟨h1, rfl, hcd⟩
          · rcases hcase3 with ⟨h3, hcd3⟩ | ⟨h3, hcd3⟩
            · have hA : decide ((2000 : Int) < (k : Int)) = false := by simp; omega
              have hA2 : decide (2000 < k) = false := by simp; omega
              have hB : decide ((100000 : Int) < (j : Int)) = false := by simp; omega
              have hB2 : decide (100000 < j) = false := by simp; omega
              clear h3 h1
              go_wp2_with fail
              refine (lexLives_any _).mono ?_
              rintro e w5 ⟨rfl, hb5⟩
              have HB5 := hide hb5
              clear hb5
              go_wp2
              go_ret
              refine ⟨rfl, ?_⟩
              have hq := (HB3.out.alloc (by omega) (.cells #[.int .i64 0, .int .i64 0, .int .i64 0] 41)).alloc (by simp; omega) (.cells #[.int .i64 0, .int .i64 0, .int .i64 6] 41)
              exact hq.trans (HB5.out.mono (by simp; omega))
            · have hA : decide ((2000 : Int) < (k : Int)) = false := by simp; omega
              have hA2 : decide (2000 < k) = false := by simp; omega
              have hB : decide ((100000 : Int) < (j : Int)) = true := by simp; omega
              have hB2 : decide (100000 < j) = true := by simp; omega
              have hE : ((cd3 : Int) == 6) = true := by simp; omega
              clear hcd3 h3 h1
              go_wp2_with fail
              refine (lexLives_any _).mono ?_
              rintro e w5 ⟨rfl, hb5⟩
              have HB5 := hide hb5
              clear hb5
              go_wp2
              go_ret
              refine ⟨rfl, ?_⟩
              have hq := (HB3.out.alloc (by omega) (.cells #[.int .i64 0, .int .i64 0, .int .i64 (cd3 : Int)] 41)).alloc (by simp; omega) (.cells #[.int .i64 0, .int .i64 0, .int .i64 6] 41)
              exact hq.trans (HB5.out.mono (by simp; omega))
          · rcases hcase3 with ⟨h3, hcd3⟩ | ⟨h3, hcd3⟩
            · have hA : decide ((2000 : Int) < (k : Int)) = true := by simp; omega
              have hA2 : decide (2000 < k) = true := by simp; omega
              have hB : decide ((100000 : Int) < (j : Int)) = false := by simp; omega
              have hB2 : decide (100000 < j) = false := by simp; omega
              clear h3 h1
              go_wp2_with fail
              refine (lexLives_any _).mono ?_
              rintro e w5 ⟨rfl, hb5⟩
              have HB5 := hide hb5
              clear hb5
              go_wp2
              go_ret
              refine ⟨rfl, ?_⟩
              have hq := (HB3.out.alloc (by omega) (.cells #[.int .i64 0, .int .i64 0, .int .i64 0] 41)).alloc (by simp; omega) (.cells #[.int .i64 0, .int .i64 0, .int .i64 6] 41)
              exact hq.trans (HB5.out.mono (by simp; omega))
            · have hA : decide ((2000 : Int) < (k : Int)) = true := by simp; omega
              have hA2 : decide (2000 < k) = true := by simp; omega
              have hB : decide ((100000 : Int) < (j : Int)) = true := by simp; omega
              have hB2 : decide (100000 < j) = true := by simp; omega
              have hE : ((cd3 : Int) == 6) = true := by simp; omega
              clear hcd3 h3 h1
              go_wp2_with fail
              refine (lexLives_any _).mono ?_
              rintro e w5 ⟨rfl, hb5⟩
              have HB5 := hide hb5
              clear hb5
              go_wp2
              go_ret
              refine ⟨rfl, ?_⟩
              have hq := (HB3.out.alloc (by omega) (.cells #[.int .i64 0, .int .i64 0, .int .i64 (cd3 : Int)] 41)).alloc (by simp; omega) (.cells #[.int .i64 0, .int .i64 0, .int .i64 6] 41)
              exact hq.trans (HB5.out.mono (by simp; omega))
end Go.Proofs.YtiibglkiakhfgaaDoor
