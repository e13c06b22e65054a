import Derived.Test.YtiibglkiakhfgaaDoorCommParse
set_option linter.unusedSimpArgs false
set_option linter.unusedVariables false
namespace Go.Proofs.YtiibglkiakhfgaaDoor
open Go.RowKit
set_option maxHeartbeats 400000 in
theorem cParse_any (l : List UInt8) (hl : l.length ≤ 100) (w : World) (he : Env w) : Calls Tryd.prog 47 #[.string (str l)] w fun e w' => Below w.heap.size w w' ∧
    ((∃ c : Nat, c < 4294967296 ∧ l = commT c ∧ e = .returned (.tuple #[.int .u32 (c : Int), .int .i64 0])) ∨
     ((∀ x, x < 4294967296 → l ≠ commT x) ∧ e = .returned (.tuple #[.int .u32 0, .int .i64 2]))) := by
  have HP := hide (cparse_any l hl w he)
  clear hl he
  go_enter Tryd.func47, Tryd.ntmps47
  go_wp2_with fail
  refine HP.out.mono ?_
  rintro e w1 ⟨hb1, c, b, hc, rfl, h1, h2⟩
  have H1 := hide h1
  have H2 := hide h2
  have HB := hide hb1
  clear h1 h2 hb1
  cases b
  · go_wp2
    go_ret2
    exact ⟨HB.out, Or.inr ⟨fun x hx hl => absurd (H2.out x hx hl).1 (by simp), rfl⟩⟩
  · go_wp2
    go_ret2
    exact ⟨HB.out, Or.inl ⟨c, hc, H1.out (by simp), rfl⟩⟩

set_option maxRecDepth 100000 in
set_option maxHeartbeats 2000000 in
theorem commTexts_short (c : Nat) (l : List UInt8) (hc : c < 4294967296) (hl : l.length ≤ 40) (w : World) (he : Env w) : Calls Tryd.prog 11 #[.int .u32 c, .string (str l)] w (GoodP true w) := by
  have HE := hide he
  have hsz : (str l).size ≤ 40 := by rw [str_size]; exact hl
  have HL := hide hl
  have HT := hide (Text_any c hc w he.tab)
  have hTl := hide (commT_len c hc)
  have HR := hide (fun w => refText_any c hc w)
  have HRx := hide (fun x hx w => refText_any x hx w)
  clear he hl
  go_enter Tryd.func11, Tryd.ntmps11
  go_wp2_with fail
  refine HT.out.mono ?_
  rintro e w1 ⟨rfl, hb1⟩
  have he1 := hide (HE.out.below hb1)
  have hbw1 := hide hb1
  clear hb1
  have HP1 := hide (cParse_any (commT c) (by have := hTl.out; omega) w1 he1.out)
  go_wp2_with fail
  refine HP1.out.mono ?_
  rintro e w2 ⟨hb2, ⟨c2, hc2, hcc, rfl⟩ | ⟨hno, rfl⟩⟩
  · have hcc2 := commT_inj hcc
    subst hcc2
    have he2 := hide (he1.out.below hb2)
    have hbw2 := hide (hbw1.out.trans (hb2.mono hbw1.out.size))
    clear hb2 hcc
    have HP2 := hide (cParse_any l (by have := HL.out; omega) w2 he2.out)
    go_wp2_with fail
    refine HP2.out.mono ?_
    rintro e w3 ⟨hb3, ⟨y, hy, hly, rfl⟩ | ⟨hno, rfl⟩⟩
    · have he3 := hide (he2.out.below hb3)
      have hbw3 := hide (hbw2.out.trans (hb3.mono hbw2.out.size))
      have HLY := hide (show ((str (commT y)).toList == (str l).toList) = true by rw [str_beq, hly]; simp)
      have htt := HLY.out
      clear hb3 hly
      go_wp2_with fail
      refine (HR.out _).mono ?_
      rintro e w4 ⟨rfl, rfl⟩
      go_wp2_with fail
      refine (HRx.out y hy _).mono ?_
      rintro e w4 ⟨rfl, rfl⟩
      go_wp2_with fail
      refine (commLives_any _ he3.out.tab).mono ?_
      rintro e w5 ⟨rfl, hb5⟩
      go_wp2
      go_ret
      exact ⟨rfl, hbw3.out.trans (hb5.mono hbw3.out.size)⟩
    · have he3 := hide (he2.out.below hb3)
      have hbw3 := hide (hbw2.out.trans (hb3.mono hbw2.out.size))
      have htt : ((str l).toList == (str (commT c)).toList) = false := by rw [str_beq]; simpa using hno c hc
      clear hb3
      have HNO := hide hno
      clear hno
      go_wp2_with fail
      refine (HR.out _).mono ?_
      rintro e w4 ⟨rfl, rfl⟩
      go_wp2_with fail
      refine (HR.out _).mono ?_
      rintro e w4 ⟨rfl, rfl⟩
      go_wp2_with fail
      refine (commLives_any _ he3.out.tab).mono ?_
      rintro e w5 ⟨rfl, hb5⟩
      go_wp2
      go_ret
      exact ⟨rfl, hbw3.out.trans (hb5.mono hbw3.out.size)⟩
  · exact absurd rfl (hno c hc)
set_option maxRecDepth 100000 in
set_option maxHeartbeats 2000000 in
theorem commTexts_long (c : Nat) (s : ByteArray) (hc : c < 4294967296) (hs : 40 < s.size) (hs2 : s.size ≤ maxLen) (w : World) (he : Env w) : Calls Tryd.prog 11 #[.int .u32 c, .string s] w (GoodP true w) := by
  obtain ⟨l, hll, hl⟩ : ∃ l, s.extract 0 40 = str l ∧ l.length ≤ 40 := ⟨(s.extract 0 40).data.toList, (str_of _).symm ▸ by apply ByteArray.ext; simp [str], by simp; omega⟩
  have HLL := hide hll
  unfold maxLen at hs2
  clear hll
  have HE := hide he
  have HL := hide hl
  have HT := hide (Text_any c hc w he.tab)
  have hTl := hide (commT_len c hc)
  have HR := hide (fun w => refText_any c hc w)
  have HRx := hide (fun x hx w => refText_any x hx w)
  clear he hl
  go_enter Tryd.func11, Tryd.ntmps11
  go_wp2_with fail
  rw [HLL.out]
  refine HT.out.mono ?_
  rintro e w1 ⟨rfl, hb1⟩
  have he1 := hide (HE.out.below hb1)
  have hbw1 := hide hb1
  clear hb1
  have HP1 := hide (cParse_any (commT c) (by have := hTl.out; omega) w1 he1.out)
  go_wp2_with fail
  refine HP1.out.mono ?_
  rintro e w2 ⟨hb2, ⟨c2, hc2, hcc, rfl⟩ | ⟨hno, rfl⟩⟩
  · have hcc2 := commT_inj hcc
    subst hcc2
    have he2 := hide (he1.out.below hb2)
    have hbw2 := hide (hbw1.out.trans (hb2.mono hbw1.out.size))
    clear hb2 hcc
    have HP2 := hide (cParse_any l (by have := HL.out; omega) w2 he2.out)
    go_wp2_with fail
    refine HP2.out.mono ?_
    rintro e w3 ⟨hb3, ⟨y, hy, hly, rfl⟩ | ⟨hno, rfl⟩⟩
    · have he3 := hide (he2.out.below hb3)
      have hbw3 := hide (hbw2.out.trans (hb3.mono hbw2.out.size))
      have HLY := hide (show ((str (commT y)).toList == (str l).toList) = true by rw [str_beq, hly]; simp)
      have htt := HLY.out
      clear hb3 hly
      go_wp2_with fail
      refine (HR.out _).mono ?_
      rintro e w4 ⟨rfl, rfl⟩
      go_wp2_with fail
      refine (HRx.out y hy _).mono ?_
      rintro e w4 ⟨rfl, rfl⟩
      go_wp2_with fail
      refine (commLives_any _ he3.out.tab).mono ?_
      rintro e w5 ⟨rfl, hb5⟩
      go_wp2
      go_ret
      exact ⟨rfl, hbw3.out.trans (hb5.mono hbw3.out.size)⟩
    · have he3 := hide (he2.out.below hb3)
      have hbw3 := hide (hbw2.out.trans (hb3.mono hbw2.out.size))
      have htt : ((str l).toList == (str (commT c)).toList) = false := by rw [str_beq]; simpa using hno c hc
      clear hb3
      have HNO := hide hno
      clear hno
      go_wp2_with fail
      refine (HR.out _).mono ?_
      rintro e w4 ⟨rfl, rfl⟩
      go_wp2_with fail
      refine (HR.out _).mono ?_
      rintro e w4 ⟨rfl, rfl⟩
      go_wp2_with fail
      refine (commLives_any _ he3.out.tab).mono ?_
      rintro e w5 ⟨rfl, hb5⟩
      go_wp2
      go_ret
      exact ⟨rfl, hbw3.out.trans (hb5.mono hbw3.out.size)⟩
  · exact absurd rfl (hno c hc)

theorem commTexts_any (c : Nat) (s : ByteArray) (hc : c < 4294967296) (hs : s.size ≤ maxLen) (w : World) (he : Env w) : Calls Tryd.prog 11 #[.int .u32 c, .string s] w (GoodP true w) := by
  by_cases h : s.size ≤ 40
  · have := commTexts_short c s.data.toList hc (by show s.data.toList.length ≤ 40; rw [Array.length_toList]; exact h) w he
    rwa [show str s.data.toList = s by apply ByteArray.ext; simp [str]] at this
  · exact commTexts_long c s hc (by omega) hs w he
end Go.Proofs.YtiibglkiakhfgaaDoor
