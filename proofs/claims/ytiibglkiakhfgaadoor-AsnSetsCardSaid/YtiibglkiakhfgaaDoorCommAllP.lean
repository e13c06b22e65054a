import Derived.Test.YtiibglkiakhfgaaDoorSeq
import Derived.Test.YtiibglkiakhfgaaDoorCommTextsW
import Derived.Test.YtiibglkiakhfgaaDoorLexWordsW
import Derived.Test.YtiibglkiakhfgaaDoorAsnSetW
set_option linter.unusedSimpArgs false
set_option linter.unusedVariables false
namespace Go.Proofs.YtiibglkiakhfgaaDoor
open Go.RowKit
set_option maxRecDepth 100000 in
set_option maxHeartbeats 2000000 in
theorem cparse4_any (l : List UInt8) (hl : l.length ≤ 400) (w : World) (he : Env w) : Calls Tryd.prog 103 #[.string (str l)] w fun e w' => Below w.heap.size w w' ∧
    ∃ (c : Nat) (b : Bool), c < 4294967296 ∧ e = .returned (.tuple #[.int .u32 (c : Int), .bool b]) ∧ (b = true → l = commT c) ∧ (∀ x, x < 4294967296 → l = commT x → b = true ∧ c = x) := by
  have HE := hide (env_cells he (.cells #[.int .u32 4294967041, .int .u32 4294967042, .int .u32 4294967043] 22))
  have HL := hide hl
  have hbw := hide ((Below.refl w.heap.size w).alloc (Nat.le_refl _) (.cells #[.int .u32 4294967041, .int .u32 4294967042, .int .u32 4294967043] 22))
  clear he hl
  have hn0 := hide (name_c 4294967041)
  have hn1 := hide (name_c 4294967042)
  have hn2 := hide (name_c 4294967043)
  go_enter Tryd.func103, Tryd.ntmps103
  go_wp2
  go_loop [16] (fun i => ∃ k : Nat, k ≤ 3 ∧ i = .int .i64 k ∧ ∀ j, j < k → l ≠ commName (4294967041 + j)) (fun i => 3 - (intOf i).toNat)
  case atStart => exact ⟨0, by omega, rfl, by omega⟩
  case round =>
    obtain ⟨k, hk, rfl, hne⟩ := hrel
    have HN := hide hne
    clear hne
    rcases (show k = 0 ∨ k = 1 ∨ k = 2 ∨ k = 3 by omega) with h | h | h | h
    · subst h
      by_cases hN : l = commName 4294967041
      · have HQ := hide hN
        have ht : ((str (commName 4294967041)).toList == (str l).toList) = true := by rw [str_beq, hN]; simp
        clear hN
        go_wp2_with fail
        refine (hn0.out _).mono ?_
        rintro e w1 ⟨rfl, rfl⟩
        go_wp2
        go_ret2
        have hCT : l = commT 4294967041 := by rw [HQ.out]; decide +kernel
        exact ⟨hbw.out, 4294967041, true, by omega, rfl, fun _ => hCT, fun x hx hlx => ⟨rfl, commT_inj (hCT.symm.trans hlx)⟩⟩
      · have HQ := hide hN
        have ht : ((str (commName 4294967041)).toList == (str l).toList) = false := by rw [str_beq]; simpa using fun h => hN h.symm
        clear hN
        go_wp2_with fail
        refine (hn0.out _).mono ?_
        rintro e w1 ⟨rfl, rfl⟩
        go_wp2
        go_round
        case rel => exact ⟨1, by omega, by go_num, fun j hj => by
          by_cases hjk : j < 0
          · exact HN.out j hjk
          · obtain rfl : j = 0 := by omega
            exact HQ.out⟩
        case measure => simp [intOf]
    · subst h
      by_cases hN : l = commName 4294967042
      · have HQ := hide hN
        have ht : ((str (commName 4294967042)).toList == (str l).toList) = true := by rw [str_beq, hN]; simp
        clear hN
        go_wp2_with fail
        refine (hn1.out _).mono ?_
        rintro e w1 ⟨rfl, rfl⟩
        go_wp2
        go_ret2
        have hCT : l = commT 4294967042 := by rw [HQ.out]; decide +kernel
        exact ⟨hbw.out, 4294967042, true, by omega, rfl, fun _ => hCT, fun x hx hlx => ⟨rfl, commT_inj (hCT.symm.trans hlx)⟩⟩
      · have HQ := hide hN
        have ht : ((str (commName 4294967042)).toList == (str l).toList) = false := by rw [str_beq]; simpa using fun h => hN h.symm
        clear hN
        go_wp2_with fail
        refine (hn1.out _).mono ?_
        rintro e w1 ⟨rfl, rfl⟩
        go_wp2
        go_round
        case rel => exact ⟨2, by omega, by go_num, fun j hj => by
          by_cases hjk : j < 1
          · exact HN.out j hjk
          · obtain rfl : j = 1 := by omega
            exact HQ.out⟩
        case measure => simp [intOf]
    · subst h
      by_cases hN : l = commName 4294967043
      · have HQ := hide hN
        have ht : ((str (commName 4294967043)).toList == (str l).toList) = true := by rw [str_beq, hN]; simp
        clear hN
        go_wp2_with fail
        refine (hn2.out _).mono ?_
        rintro e w1 ⟨rfl, rfl⟩
        go_wp2
        go_ret2
        have hCT : l = commT 4294967043 := by rw [HQ.out]; decide +kernel
        exact ⟨hbw.out, 4294967043, true, by omega, rfl, fun _ => hCT, fun x hx hlx => ⟨rfl, commT_inj (hCT.symm.trans hlx)⟩⟩
      · have HQ := hide hN
        have ht : ((str (commName 4294967043)).toList == (str l).toList) = false := by rw [str_beq]; simpa using fun h => hN h.symm
        clear hN
        go_wp2_with fail
        refine (hn2.out _).mono ?_
        rintro e w1 ⟨rfl, rfl⟩
        go_wp2
        go_round
        case rel => exact ⟨3, by omega, by go_num, fun j hj => by
          by_cases hjk : j < 2
          · exact HN.out j hjk
          · obtain rfl : j = 2 := by omega
            exact HQ.out⟩
        case measure => simp [intOf]
    · subst h
      have HC := hide (cut_any 58 l (by have := HL.out; omega) _ HE.out)
      have hx1 := cut_len1 l [58]
      have hx2 := cut_len2 l [58]
      have HCA := hide (cut_at 58)
      obtain ⟨x, hx⟩ : ∃ x, (Lib.cut l [58]).1 = x := ⟨_, rfl⟩
      obtain ⟨y, hy⟩ : ∃ y, (Lib.cut l [58]).2.1 = y := ⟨_, rfl⟩
      obtain ⟨z, hz⟩ : ∃ z, (Lib.cut l [58]).2.2 = z := ⟨_, rfl⟩
      rw [hx, hy, hz] at HC
      rw [hx] at hx1
      rw [hy] at hx2
      have HX := hide hx
      have HY := hide hy
      clear hx hy hz
      go_wp2_with fail
      refine HC.out.mono ?_
      rintro e w1 ⟨rfl, hb1⟩
      have he1 := hide (HE.out.below hb1)
      have hbw1 := hide (hbw.out.trans (hb1.mono hbw.out.size))
      clear hb1
      have HM1 := hide (number_any (str x) (by rw [str_size]; have := HL.out; omega) w1 he1.out)
      go_wp2_with fail
      refine HM1.out.mono ?_
      rintro e w2 ⟨hb2, u1, b1, hu1, rfl, hp1⟩
      have he2 := hide (he1.out.below hb2)
      have hbw2 := hide (hbw1.out.trans (hb2.mono hbw1.out.size))
      have HP1 := hide hp1
      clear hb2 hp1
      have HM2 := hide (number_any (str y) (by rw [str_size]; have := HL.out; omega) w2 he2.out)
      go_wp2_with fail
      refine HM2.out.mono ?_
      rintro e w3 ⟨hb3, u2, b2, hu2, rfl, hp2⟩
      have he3 := hide (he2.out.below hb3)
      have hbw3 := hide (hbw2.out.trans (hb3.mono hbw2.out.size))
      have HP2 := hide hp2
      clear hb3 hp2
      have HK := hide (make_any u1 u2 hu1 hu2 w3)
      go_wp2_with fail
      refine HK.out.mono ?_
      rintro e w4 ⟨rfl, rfl⟩
      obtain ⟨c, hc⟩ : ∃ c, u1 * 65536 + u2 = c := ⟨_, rfl⟩
      rw [hc]
      have hc32 : c < 4294967296 := by omega
      have key : ∀ t, t < 4294967296 → l = commT t → b1 = true ∧ b2 = true ∧ c = t := by
        intro t ht hlt
        by_cases hnt : commName t = []
        · have e1 : l = Lib.decDigits (t / 65536) ++ 58 :: Lib.decDigits (t % 65536) := by rw [hlt]; unfold commT; rw [if_pos hnt]
          have e2 := HCA.out (Lib.decDigits (t / 65536)) (Lib.decDigits (t % 65536)) (dec_no (by decide) _)
          rw [← e1] at e2
          have ex : x = Lib.decDigits (t / 65536) := by rw [← HX.out, e2]
          have ey : y = Lib.decDigits (t % 65536) := by rw [← HY.out, e2]
          have q1 := HP1.out (t / 65536) (by rw [str_data, ex]; exact parse_dec 16 _ (by decide) (by omega))
          have q2 := HP2.out (t % 65536) (by rw [str_data, ey]; exact parse_dec 16 _ (by decide) (by omega))
          exact ⟨q1.2, q2.2, by have h1 := q1.1; have h2 := q2.1; omega⟩
        · have e1 : l = commName t := by rw [hlt]; exact commName_txt t hnt
          have := (not_congr (commName_nil t)).1 hnt
          rcases (show t = 4294967041 ∨ t = 4294967042 ∨ t = 4294967043 by omega) with h | h | h
          · exact absurd (by rw [e1, h]) (HN.out 0 (by omega))
          · exact absurd (by rw [e1, h]) (HN.out 1 (by omega))
          · exact absurd (by rw [e1, h]) (HN.out 2 (by omega))
      have HKey := hide key
      clear key hc hu1 hu2
      cases b1
      · go_wp2
        go_ret2
        exact ⟨hbw3.out, c, false, hc32, rfl, fun h => by simp at h, fun t ht hlt => absurd (HKey.out t ht hlt).1 (by simp)⟩
      · cases b2
        · go_wp2
          go_ret2
          exact ⟨hbw3.out, c, false, hc32, rfl, fun h => by simp at h, fun t ht hlt => absurd (HKey.out t ht hlt).2.1 (by simp)⟩
        · have HTx := hide (text_any c hc32 w3 he3.out.tab)
          have hq := hide (str_beq (commT c) l)
          go_wp2_with fail
          refine HTx.out.mono ?_
          rintro e w5 ⟨rfl, hb5⟩
          go_wp2
          go_ret2
          refine ⟨hbw3.out.trans (hb5.mono hbw3.out.size), c, (commT c == l), hc32, by rw [← hq.out]; rfl, fun h => by simpa using (beq_iff_eq.1 h).symm, fun t ht hlt => ?_⟩
          have := (HKey.out t ht hlt).2.2
          subst this
          exact ⟨by simp [hlt], rfl⟩
/-! ### The texts of several communities -/

theorem pieces_cons_no {c : UInt8} {p : List UInt8} (h : c ∉ p) (r : List UInt8) : pieces c (p ++ c :: r) = p :: pieces c r := by
  induction p with
  | nil => simp [pieces]
  | cons x p ih =>
    have hx : x ≠ c := fun e => h (by simp [e])
    have := ih (fun hm => h (by simp [hm]))
    rw [List.cons_append]
    conv => lhs; unfold pieces
    rw [if_neg hx, this]; rfl
theorem pieces_no {c : UInt8} {p : List UInt8} (h : c ∉ p) : pieces c p = [p] := by
  induction p with
  | nil => rfl
  | cons x p ih =>
    have hx : x ≠ c := fun e => h (by simp [e])
    unfold pieces
    rw [if_neg hx, ih (fun hm => h (by simp [hm]))]; rfl
theorem jw_cons2 (a b : List UInt8) (r : List (List UInt8)) : jw (a :: b :: r) = a ++ 32 :: jw (b :: r) := by
  unfold jw
  rw [Lib.join_cons, Lib.join_cons]
  simp [Lib.joinTail]
theorem jw_one (a : List UInt8) : jw [a] = a := by
  unfold jw; rw [Lib.join_cons]; simp [Lib.joinTail]
theorem pieces_jw : ∀ (ps : List (List UInt8)), ps ≠ [] → (∀ p ∈ ps, (32 : UInt8) ∉ p) → pieces 32 (jw ps) = ps
  | [], h, _ => absurd rfl h
  | [a], _, h => by rw [jw_one]; exact pieces_no (h a (by simp))
  | a :: b :: r, _, h => by
    rw [jw_cons2, pieces_cons_no (h a (by simp)), pieces_jw (b :: r) (by simp) (fun p hp => h p (by simp [hp]))]
theorem jw_pieces : ∀ (s : List UInt8), jw (pieces 32 s) = s
  | [] => by simp [pieces, jw_one]
  | x :: l => by
    have ih := jw_pieces l
    obtain ⟨p, ps, hp⟩ : ∃ p ps, pieces 32 l = p :: ps := by
      cases h : pieces 32 l with
      | nil => exact absurd h (pieces_ne 32 l)
      | cons p ps => exact ⟨p, ps, rfl⟩
    unfold pieces
    by_cases hx : x = 32
    · rw [if_pos hx, hp, jw_cons2, ← hp, ih, hx]; rfl
    · rw [if_neg hx, hp]
      rw [hp] at ih
      cases ps with
      | nil => rw [jw_one] at ih; show jw [x :: p] = _; rw [jw_one, ih]
      | cons q ps => rw [jw_cons2] at ih; show jw ((x :: p) :: q :: ps) = _; rw [jw_cons2, ← ih]; rfl

theorem commName_blank (c : Nat) : (32 : UInt8) ∉ commName c := by
  unfold commName
  split
  · decide
  · split
    · decide
    · split
      · decide
      · simp
theorem commT_blank (c : Nat) : (32 : UInt8) ∉ commT c := by
  unfold commT
  split
  · intro h
    rcases List.mem_append.1 h with h | h
    · have := dec_dig _ _ h; simp at this
    · rcases List.mem_cons.1 h with h | h
      · cases h
      · have := dec_dig _ _ h; simp at this
  · exact commName_blank c
theorem commT_ne (c : Nat) : commT c ≠ [] := by
  unfold commT
  split
  · simp
  · assumption
theorem commT_dash (c : Nat) : commT c ≠ [45] := by
  unfold commT
  split
  · intro h
    have : (58 : UInt8) ∈ ([45] : List UInt8) := h ▸ (by simp)
    simp at this
  · unfold commName
    split
    · decide
    · split
      · decide
      · split
        · decide
        · simp

/-- The texts of several, with a blank between. -/
def ct (l : List Nat) : List UInt8 := jw (l.map commT)
def texP (l : List Nat) : List UInt8 := if l = [] then [45] else ct l
theorem ct_nil : ct [] = [] := by simp [ct, jw, Lib.join_nil]
theorem ct_snoc (l : List Nat) (x : Nat) : ct (l ++ [x]) = (if l = [] then [] else ct l ++ [32]) ++ commT x := by
  unfold ct
  rw [List.map_append, List.map_cons, List.map_nil, jw_snoc]
  simp
theorem ct_pieces {l : List Nat} (h : l ≠ []) : pieces 32 (ct l) = l.map commT :=
  pieces_jw _ (by simpa using h) (fun p hp => by
    obtain ⟨c, _, rfl⟩ := List.mem_map.1 hp
    exact commT_blank c)
theorem ct_ne {l : List Nat} (h : l ≠ []) : ct l ≠ [] := by
  intro e
  have := ct_pieces h
  rw [e] at this
  cases l with
  | nil => exact h rfl
  | cons x r =>
    simp [pieces] at this
    exact commT_ne x this.1
theorem ct_dash {l : List Nat} (h : l ≠ []) : ct l ≠ [45] := by
  intro e
  have := ct_pieces h
  rw [e] at this
  cases l with
  | nil => exact h rfl
  | cons x r =>
    simp [pieces] at this
    exact commT_dash x this.1.symm
theorem map_commT_inj : ∀ {l r : List Nat}, l.map commT = r.map commT → l = r
  | [], [], _ => rfl
  | [], _ :: _, h => by simp at h
  | _ :: _, [], h => by simp at h
  | x :: l, y :: r, h => by
    simp only [List.map_cons, List.cons.injEq] at h
    rw [commT_inj h.1, map_commT_inj h.2]
theorem texP_inj {l r : List Nat} (h : texP l = texP r) : l = r := by
  unfold texP at h
  by_cases hl : l = [] <;> by_cases hr : r = []
  · rw [hl, hr]
  · rw [if_pos hl, if_neg hr] at h; exact absurd h.symm (ct_dash hr)
  · rw [if_neg hl, if_pos hr] at h; exact absurd h (ct_dash hl)
  · rw [if_neg hl, if_neg hr] at h
    exact map_commT_inj (by rw [← ct_pieces hl, ← ct_pieces hr, h])
theorem jw_len40 : ∀ (l : List (List UInt8)), (∀ x ∈ l, x.length ≤ 40) → (jw l).length ≤ 41 * l.length
  | [], _ => by simp [jw, Lib.join_nil]
  | [a], h => by have := h a (by simp); rw [jw_one]; simp; omega
  | a :: b :: r, h => by
    have := jw_len40 (b :: r) (fun x hx => h x (by simp [hx]))
    have := h a (by simp)
    rw [jw_cons2]
    simp at *
    omega
theorem ct_len (l : List Nat) (h : ∀ x ∈ l, x < 4294967296) : (ct l).length ≤ 41 * l.length := by
  have := jw_len40 (l.map commT) (fun p hp => by obtain ⟨c, hc, rfl⟩ := List.mem_map.1 hp; exact commT_len c (h c hc))
  simpa [ct] using this
theorem texP_len (l : List Nat) (h : ∀ x ∈ l, x < 4294967296) (hl : l.length ≤ 15) : (texP l).length ≤ 620 := by
  unfold texP
  split
  · simp
  · have := ct_len l h; omega
theorem piece_len (c : UInt8) : ∀ (s : List UInt8) (p : List UInt8), p ∈ pieces c s → p.length ≤ s.length
  | [], p, h => by simp [pieces] at h; simp [h]
  | x :: l, p, h => by
    unfold pieces at h
    split at h
    · rcases List.mem_cons.1 h with rfl | h
      · simp
      · have := piece_len c l p h; simp; omega
    · rcases List.mem_cons.1 h with rfl | h
      · cases hp : pieces c l with
        | nil => exact absurd hp (pieces_ne c l)
        | cons q qs =>
          have := piece_len c l q (by rw [hp]; simp)
          simp; omega
      · have := piece_len c l p (List.mem_of_mem_tail h); simp; omega
end Go.Proofs.YtiibglkiakhfgaaDoor
