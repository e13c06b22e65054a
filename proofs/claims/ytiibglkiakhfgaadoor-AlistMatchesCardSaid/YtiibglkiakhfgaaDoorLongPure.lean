import Derived.Test.YtiibglkiakhfgaaDoorLines
set_option linter.unusedSimpArgs false
set_option linter.unusedVariables false
namespace Go.Proofs.YtiibglkiakhfgaaDoor
open Go.RowKit
set_option maxRecDepth 100000 in
set_option maxHeartbeats 1000000 in
/-- lex.Lines refuses a text of too many bytes, or too many lines. -/
theorem lines_refused (s : List UInt8) (hs : s.length ≤ 1000000) (h : 100000 < s.length ∨ 2000 < s.count 10) (w : World) :
    Calls Tryd.prog 26 #[.string (str s)] w fun e w' => e = .returned (.tuple #[.slice none 0 0, .agg #[.int .i64 0, .int .i64 0, .int .i64 6]]) ∧ Below w.heap.size w w' := by
  have HC := hide (Tryd.strings_Count_one (str s) 10)
  have hct : Lib.countByte (str s).data.toList 10 = s.count 10 := by rw [str_data]; rfl
  rw [hct] at HC
  obtain ⟨z, hz⟩ : ∃ z, s.count 10 = z := ⟨_, rfl⟩
  rw [hz] at HC h
  have hsz := str_size s
  have hzl : z ≤ s.length := by rw [← hz]; exact List.count_le_length
  clear hct hz
  have k0 := (Blk.new w 38 #[.slice none 0 0]).alloc (.cells #[.int .i64 0, .int .i64 0, .int .i64 6] 41)
  have k1 := blk_new' (w := w.alloc (.cells #[.slice none 0 0] 38)) (g := w.heap.size + 1) 41 #[.int .i64 0, .int .i64 0, .int .i64 6] (by simp)
  have r0 := k0.cell 0
  have q0 := k0.frozen 0
  have r10 := k1.cell 0
  have r11 := k1.cell 1
  have r12 := k1.cell 2
  have q10 := k1.frozen 0
  have q11 := k1.frozen 1
  have q12 := k1.frozen 2
  by_cases hl : 100000 < s.length
  · have hl1 : decide ((100000 : Int) < (s.length : Int)) = true := by simp; omega
    go_enter Tryd.func26, Tryd.ntmps26
    go_wp2
    refine bodyPost_ret (v := .tuple #[.slice none 0 0, .agg #[.int .i64 0, .int .i64 0, .int .i64 6]]) (by simp [results, Tryd.results26, go_sem, r0, q0, r10, r11, r12, q10, q11, q12]) rfl ⟨rfl, ((Below.refl _ w).alloc (Nat.le_refl _) _).alloc (by simp) _⟩
  · have hl1 : decide ((100000 : Int) < (s.length : Int)) = false := by simp; omega
    have hl2 : decide ((2000 : Int) < (z : Int)) = true := by simp; omega
    go_enter Tryd.func26, Tryd.ntmps26
    go_wp2_with (go_at_call 87; refine (HC.out _).mono ?_; rintro e w1 ⟨rfl, rfl⟩)
    refine bodyPost_ret (v := .tuple #[.slice none 0 0, .agg #[.int .i64 0, .int .i64 0, .int .i64 6]]) (by simp [results, Tryd.results26, go_sem, r0, q0, r10, r11, r12, q10, q11, q12]) rfl ⟨rfl, ((Below.refl _ w).alloc (Nat.le_refl _) _).alloc (by simp) _⟩

/-! ### The two texts of the law -/
def aT : Nat → List UInt8
  | 0 => []
  | n + 1 => 97 :: 10 :: aT n
theorem aT_snoc : ∀ n, aT (n + 1) = aT n ++ [97, 10]
  | 0 => rfl
  | n + 1 => by
    show 97 :: 10 :: aT (n + 1) = 97 :: 10 :: aT n ++ [97, 10]
    rw [aT_snoc n]; rfl
theorem aT_len : ∀ n, (aT n).length = 2 * n
  | 0 => rfl
  | n + 1 => by rw [aT]; simp [aT_len n]; omega
theorem aT_count : ∀ n, (aT n).count 10 = n
  | 0 => rfl
  | n + 1 => by rw [aT]; simp [aT_count n]
theorem aT_pieces : ∀ n, pieces 10 (aT n) = List.replicate n [97] ++ [[]]
  | 0 => rfl
  | n + 1 => by
    have := pieces_cons_no (c := 10) (p := [97]) (by decide) (aT n)
    rw [aT, show (97 : UInt8) :: 10 :: aT n = [97] ++ 10 :: aT n from rfl, this, aT_pieces n]; rfl
theorem cut_a : cutR (str [97]) = [(0, 1)] ∧ (cutF (str [97])).2 = 0 := by decide +kernel
theorem cut_e : cutR (str []) = [] ∧ (cutF (str [])).2 = 0 := by decide +kernel
theorem aT_good (n : Nat) : ∀ x ∈ pieces 10 (aT n), (cutF (str x)).2 = 0 := by
  intro x hx
  rw [aT_pieces] at hx
  rcases List.mem_append.1 hx with hx | hx
  · rw [(List.mem_replicate.1 hx).2]; exact cut_a.2
  · rw [List.mem_singleton.1 hx]; exact cut_e.2
theorem aT_keep : ∀ (n k : Nat), (keepN k (List.replicate n [97] ++ [[]])).length = n
  | 0, k => by simp [keepN, cut_e.1]
  | n + 1, k => by
    rw [List.replicate_succ, List.cons_append, keepN, List.length_append, aT_keep n (k + 1), if_neg (by rw [cut_a.1]; simp)]
    simp; omega

theorem bl_pieces (m : Nat) : pieces 10 (List.replicate m 32) = [List.replicate m 32] := pieces_no (fun h => by have := (List.mem_replicate.1 h).2; cases this)
theorem bl_count (m : Nat) : (List.replicate m (32 : UInt8)).count 10 = 0 := by simp [List.count_replicate]
theorem bl_skip (m : Nat) : ∀ (j i : Nat), i + j = m → skipTo (str (List.replicate m 32)) i = m
  | 0, i, h => by
    have hs := str_size (List.replicate m (32 : UInt8))
    rw [List.length_replicate] at hs
    rw [skipTo_not _ _ (fun hh => by omega)]; omega
  | j + 1, i, h => by
    have hs := str_size (List.replicate m (32 : UInt8))
    rw [List.length_replicate] at hs
    rw [skipTo_blank _ _ (by omega) ?_]
    · exact bl_skip m j (i + 1) (by omega)
    · rw [byteAt_lt (by omega)]
      have : (str (List.replicate m (32 : UInt8)))[i]'(by omega) = 32 := by simp [str, ByteArray.getElem_eq_getElem_data]
      rw [this]; rfl
theorem bl_cut (m : Nat) : cutR (str (List.replicate m 32)) = [] ∧ (cutF (str (List.replicate m 32))).2 = 0 := by
  have hs := str_size (List.replicate m (32 : UInt8))
  rw [List.length_replicate] at hs
  have h : cutW (str (List.replicate m 32)) 0 0 = ([], (0, 0)) := by
    rw [cutW, if_neg]
    rw [bl_skip m m 0 (by omega)]
    rintro ⟨h, _⟩; omega
  unfold cutR cutF
  rw [h]
  exact ⟨rfl, rfl⟩
theorem bl_keep (m : Nat) : keepN 0 (pieces 10 (List.replicate m 32)) = [] := by rw [bl_pieces, keepN, keepN, if_pos (bl_cut m).1]; rfl
theorem bl_good (m : Nat) : ∀ x ∈ pieces 10 (List.replicate m 32), (cutF (str x)).2 = 0 := by
  intro x hx
  rw [bl_pieces] at hx
  rw [List.mem_singleton.1 hx]; exact (bl_cut m).2

/-- lex.Lines of n lines of one word each. -/
theorem lines_aT (n : Nat) (hn : n ≤ 2000) (w : World) : Calls Tryd.prog 26 #[.string (str (aT n))] w fun e w' => Below w.heap.size w w' ∧ ∃ A c, e = .returned (.tuple #[.slice A n c, .agg #[.int .i64 0, .int .i64 0, .int .i64 0]]) := by
  refine (lines_any (aT n) (by rw [aT_len]; omega) (by rw [aT_count]; exact hn) w).mono ?_
  rintro e w' ⟨hb, ⟨pre, p, post, hp, _, hbad, _⟩ | ⟨A, c, rs, _, hrs, rfl, _⟩⟩
  · exact absurd (aT_good n p (by rw [hp]; simp)) hbad
  · refine ⟨hb, A, c, ?_⟩
    have := congrArg List.length hrs
    rw [List.length_map, aT_pieces, aT_keep] at this
    rw [this]
/-- .. of a line of blanks. -/
theorem lines_bl (m : Nat) (hm : m ≤ 100000) (w : World) : Calls Tryd.prog 26 #[.string (str (List.replicate m 32))] w fun e w' => Below w.heap.size w w' ∧ ∃ A c, e = .returned (.tuple #[.slice A 0 c, .agg #[.int .i64 0, .int .i64 0, .int .i64 0]]) := by
  refine (lines_any (List.replicate m 32) (by rw [List.length_replicate]; exact hm) (by rw [bl_count]; omega) w).mono ?_
  rintro e w' ⟨hb, ⟨pre, p, post, hp, _, hbad, _⟩ | ⟨A, c, rs, _, hrs, rfl, _⟩⟩
  · exact absurd (bl_good m p (by rw [hp]; simp)) hbad
  · refine ⟨hb, A, c, ?_⟩
    rw [bl_keep] at hrs
    have := congrArg List.length hrs
    rw [List.length_map] at this
    rw [this]; rfl
end Go.Proofs.YtiibglkiakhfgaaDoor
