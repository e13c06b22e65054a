import Derived.Test.YtiibglkiakhfgaaDoorCommAllB
import Derived.Test.YtiibglkiakhfgaaDoorAsnTwoW
set_option linter.unusedSimpArgs false
set_option linter.unusedVariables false
namespace Go.Proofs.YtiibglkiakhfgaaDoor
open Go.RowKit
/-! ### The law -/
theorem few15 (A : Option Addr) (n c : Nat) (l : List Nat) (w : World) (h : U32s w A n c l) :
    Calls Tryd.prog 22 #[.slice A n c, .int .i64 15] w fun e w' => ∃ A' n' c', e = .returned (.slice A' n' c') ∧ U32s w' A' n' c' (l.take 15) ∧ n' ≤ 15 ∧ Below w.heap.size w w' := by
  refine (few_any A n c l 15 (by decide) w h).mono ?_
  rintro e w' ⟨v, rfl, ho⟩
  obtain ⟨A', c', rfl, hu⟩ := ho.u32s' (fun x hx => h.2.2.2.1 x (List.mem_of_mem_take hx))
  exact ⟨A', _, c', rfl, hu, List.length_take_le _ _, ho.2⟩
theorem few15' (A : Option Addr) (n c : Nat) (l : List Nat) (w : World) (h : U32s w A n c l) (hl : n ≤ 15) :
    Calls Tryd.prog 22 #[.slice A n c, .int .i64 15] w fun e w' => ∃ A' n' c', e = .returned (.slice A' n' c') ∧ U32s w' A' n' c' l ∧ n' ≤ 15 ∧ Below w.heap.size w w' := by
  refine (few15 A n c l w h).mono ?_
  rintro e w' ⟨A', n', c', rfl, hu, hn, hb⟩
  rw [List.take_of_length_le (by rw [h.1]; exact hl)] at hu
  exact ⟨A', n', c', rfl, hu, hn, hb⟩
theorem parseTex_any (q : List Nat) (hq : ∀ x ∈ q, x < 4294967296) (hl : q.length ≤ 15) (w : World) (he : Env w) : Calls Tryd.prog 70 #[.string (str (texP q))] w (PaP (texP q) w) := by
  refine parseAll_any (texP q) (by have := texP_len q hq hl; omega) (fun p hp => ?_) w he
  by_cases h0 : q = []
  · rw [texP, if_pos h0] at hp
    have := piece_len 32 [45] p hp
    simp at this; omega
  · rw [texP, if_neg h0, ct_pieces h0] at hp
    obtain ⟨y, hy, rfl⟩ := List.mem_map.1 hp
    have := commT_len y (hq y hy); omega
/-- What is kept from call to call. -/
structure CaSt (w W : World) (A : Option Addr) (n c : Nat) (q : List Nat) : Prop where
  env : Env W
  us : U32s W A n c q
  bel : Below w.heap.size w W
theorem CaSt.next {w W W' : World} {A : Option Addr} {n c : Nat} {q : List Nat} (h : CaSt w W A n c q) (hb : Below W.heap.size W W') : CaSt w W' A n c q :=
  ⟨h.env.below hb, h.us.below hb, h.bel.trans (hb.mono h.bel.size)⟩

set_option maxRecDepth 100000 in
set_option maxHeartbeats 4000000 in
theorem commAll_short (A : Option Addr) (n c : Nat) (l : List Nat) (t : List UInt8) (ht : t.length ≤ 200) (w : World) (h : U32s w A n c l) (he : Env w) :
    Calls Tryd.prog 15 #[.slice A n c, .string (str t)] w (GoodP true w) := by
  have hts : (str t).size ≤ 200 := by rw [str_size]; exact ht
  have HF := hide (few15 A n c l w h)
  have HT := hide ht
  have HE := hide he
  clear h he ht
  go_enter Tryd.func15, Tryd.ntmps15
  go_wp2_with fail
  refine HF.out.mono ?_
  rintro e w1 ⟨A1, n1, c1, rfl, hu1, hn1, hb1⟩
  obtain ⟨q, hq⟩ : ∃ q, l.take 15 = q := ⟨_, rfl⟩
  rw [hq] at hu1
  have hS : CaSt w w1 A1 n1 c1 q := ⟨HE.out.below hb1, hu1, hb1⟩
  have H1 := hide hS
  have HQ := hide hu1.2.2.2.1
  have HQL := hide (show q.length ≤ 15 by rw [hu1.1]; exact hn1)
  have HF2 := hide (few15' A1 n1 c1 q w1 hu1 hn1)
  clear hu1 hq hS hb1
  go_wp2_with fail
  refine HF2.out.mono ?_
  rintro e w2 ⟨A2, n2, c2, rfl, hu2, hn2, hb2⟩
  have H2 := hide (H1.out.next hb2)
  have HT2 := hide (cTexts_any A2 n2 c2 q w2 hu2 (by omega) H2.out.env.tab)
  clear hu2 hb2
  go_wp2_with fail
  refine HT2.out.mono ?_
  rintro e w3 ⟨rfl, hb3⟩
  have H3 := hide (H2.out.next hb3)
  have HT3 := hide (refTexts_any A1 n1 c1 q w3 H3.out.us (by omega))
  have hee : ((str (texP q)).toList != (str (texP q)).toList) = false := by rw [bne, str_beq]; simp
  clear hb3
  go_wp2_with fail
  refine HT3.out.mono ?_
  rintro e w4 ⟨rfl, hb4⟩
  have H4 := hide (H3.out.next hb4)
  have HT4 := hide (refTexts_any A1 n1 c1 q w4 H4.out.us (by omega))
  clear hb4
  go_wp2_with fail
  refine HT4.out.mono ?_
  rintro e w5 ⟨rfl, hb5⟩
  have H5 := hide (H4.out.next hb5)
  have HP5 := hide (parseTex_any q HQ.out HQL.out w5 H5.out.env)
  clear hb5
  go_wp2_with fail
  refine HP5.out.mono ?_
  rintro e w6 ⟨hb6, ⟨A6, c6, r, rfl, hu6, hr6, hri, hrt⟩ | ⟨rfl, hno⟩⟩
  · obtain rfl := texP_inj hrt
    have H6 := hide (H5.out.next hb6)
    have HV := hide hu6
    have HRI := hide hri
    clear hb6 hu6 hri hrt
    have HR6 := hide (rising_any A1 n1 c1 q w6 H6.out.us (by omega))
    go_wp2_with fail
    refine HR6.out.mono ?_
    rintro e w7 ⟨rfl, hb7⟩
    rw [HRI.out]
    have H7 := hide (H6.out.next hb7)
    have HV7 := hide (HV.out.below hb7)
    have HM7 := hide (refSame_self A6 q.length c6 q A1 n1 c1 w7 HV7.out H7.out.us)
    clear hb7
    go_wp2_with fail
    refine HM7.out.mono ?_
    rintro e w8 ⟨rfl, hb8⟩
    have H8 := hide (H7.out.next hb8)
    clear hb8
    have HP8 := hide (parseAll_any t (by have := HT.out; omega) (fun p hp => by have := piece_len 32 t p hp; have := HT.out; omega) w8 H8.out.env)
    go_wp2_with fail
    refine HP8.out.mono ?_
    rintro e w9 ⟨hb9, ⟨A9, c9, y, rfl, hu9, hy9, hyi, hyt⟩ | ⟨rfl, hnt⟩⟩
    · have H9 := hide (H8.out.next hb9)
      have HU9 := hide hu9
      have HYI := hide hyi
      have htt : ((str (texP y)).toList == (str t).toList) = true := by rw [str_beq, hyt]; simp
      clear hb9 hu9 hyi hyt
      have HR9 := hide (rising_any A9 y.length c9 y w9 HU9.out (by omega))
      go_wp2_with fail
      refine HR9.out.mono ?_
      rintro e w10 ⟨rfl, hb10⟩
      rw [HYI.out]
      have H10 := hide (H9.out.next hb10)
      have HT10 := hide (refTexts_any A9 y.length c9 y w10 (HU9.out.below hb10) (by omega))
      clear hb10
      go_wp2_with fail
      refine HT10.out.mono ?_
      rintro e w11 ⟨rfl, hb11⟩
      have H11 := hide (H10.out.next hb11)
      clear hb11
      go_wp2_with fail
      refine (commLives_any _ H11.out.env.tab).mono ?_
      rintro e w12 ⟨rfl, hb12⟩
      have H12 := hide (H11.out.next hb12)
      clear hb12
      go_wp2
      go_ret
      exact ⟨rfl, H12.out.bel⟩
    · have H9 := hide (H8.out.next hb9)
      have HNT := hide hnt
      clear hb9 hnt
      have HT9 := hide (refTexts_any A1 n1 c1 q w9 H9.out.us (by omega))
      by_cases hts2 : t = texP q
      · have HRT := hide (HNT.out q HQ.out hts2)
        have htt : ((str t).toList != (str (texP q)).toList) = false := by rw [bne, str_beq, hts2]; simp
        have htt2 : ((str t).toList == (str (texP q)).toList) = true := by rw [str_beq, hts2]; simp
        clear hts2
        go_wp2_with fail
        refine HT9.out.mono ?_
        rintro e w10 ⟨rfl, hb10⟩
        have H10 := hide (H9.out.next hb10)
        have HR10 := hide (rising_any A1 n1 c1 q w10 H10.out.us (by omega))
        clear hb10
        go_wp2_with fail
        refine HR10.out.mono ?_
        rintro e w11 ⟨rfl, hb11⟩
        rw [HRT.out]
        have H11 := hide (H10.out.next hb11)
        clear hb11
        go_wp2_with fail
        refine (commLives_any _ H11.out.env.tab).mono ?_
        rintro e w12 ⟨rfl, hb12⟩
        have H12 := hide (H11.out.next hb12)
        clear hb12
        go_wp2
        go_ret
        exact ⟨rfl, H12.out.bel⟩
      · have htt : ((str t).toList != (str (texP q)).toList) = true := by rw [bne, str_beq]; simpa using hts2
        have htt2 : ((str t).toList == (str (texP q)).toList) = false := by rw [str_beq]; simpa using hts2
        clear hts2
        go_wp2_with fail
        refine HT9.out.mono ?_
        rintro e w11 ⟨rfl, hb11⟩
        have H11 := hide (H9.out.next hb11)
        clear hb11
        go_wp2_with fail
        refine (commLives_any _ H11.out.env.tab).mono ?_
        rintro e w12 ⟨rfl, hb12⟩
        have H12 := hide (H11.out.next hb12)
        clear hb12
        go_wp2
        go_ret
        exact ⟨rfl, H12.out.bel⟩
  · have HRI := hide (hno q HQ.out rfl)
    have H6 := hide (H5.out.next hb6)
    clear hb6 hno
    have HR6 := hide (rising_any A1 n1 c1 q w6 H6.out.us (by omega))
    go_wp2_with fail
    refine HR6.out.mono ?_
    rintro e w8 ⟨rfl, hb7⟩
    rw [HRI.out]
    have H8 := hide (H6.out.next hb7)
    clear hb7
    have HP8 := hide (parseAll_any t (by have := HT.out; omega) (fun p hp => by have := piece_len 32 t p hp; have := HT.out; omega) w8 H8.out.env)
    go_wp2_with fail
    refine HP8.out.mono ?_
    rintro e w9 ⟨hb9, ⟨A9, c9, y, rfl, hu9, hy9, hyi, hyt⟩ | ⟨rfl, hnt⟩⟩
    · have H9 := hide (H8.out.next hb9)
      have HU9 := hide hu9
      have HYI := hide hyi
      have htt : ((str (texP y)).toList == (str t).toList) = true := by rw [str_beq, hyt]; simp
      clear hb9 hu9 hyi hyt
      have HR9 := hide (rising_any A9 y.length c9 y w9 HU9.out (by omega))
      go_wp2_with fail
      refine HR9.out.mono ?_
      rintro e w10 ⟨rfl, hb10⟩
      rw [HYI.out]
      have H10 := hide (H9.out.next hb10)
      have HT10 := hide (refTexts_any A9 y.length c9 y w10 (HU9.out.below hb10) (by omega))
      clear hb10
      go_wp2_with fail
      refine HT10.out.mono ?_
      rintro e w11 ⟨rfl, hb11⟩
      have H11 := hide (H10.out.next hb11)
      clear hb11
      go_wp2_with fail
      refine (commLives_any _ H11.out.env.tab).mono ?_
      rintro e w12 ⟨rfl, hb12⟩
      have H12 := hide (H11.out.next hb12)
      clear hb12
      go_wp2
      go_ret
      exact ⟨rfl, H12.out.bel⟩
    · have H9 := hide (H8.out.next hb9)
      have HNT := hide hnt
      clear hb9 hnt
      have HT9 := hide (refTexts_any A1 n1 c1 q w9 H9.out.us (by omega))
      by_cases hts2 : t = texP q
      · have HRT := hide (HNT.out q HQ.out hts2)
        have htt : ((str t).toList != (str (texP q)).toList) = false := by rw [bne, str_beq, hts2]; simp
        have htt2 : ((str t).toList == (str (texP q)).toList) = true := by rw [str_beq, hts2]; simp
        clear hts2
        go_wp2_with fail
        refine HT9.out.mono ?_
        rintro e w10 ⟨rfl, hb10⟩
        have H10 := hide (H9.out.next hb10)
        have HR10 := hide (rising_any A1 n1 c1 q w10 H10.out.us (by omega))
        clear hb10
        go_wp2_with fail
        refine HR10.out.mono ?_
        rintro e w11 ⟨rfl, hb11⟩
        rw [HRT.out]
        have H11 := hide (H10.out.next hb11)
        clear hb11
        go_wp2_with fail
        refine (commLives_any _ H11.out.env.tab).mono ?_
        rintro e w12 ⟨rfl, hb12⟩
        have H12 := hide (H11.out.next hb12)
        clear hb12
        go_wp2
        go_ret
        exact ⟨rfl, H12.out.bel⟩
      · have htt : ((str t).toList != (str (texP q)).toList) = true := by rw [bne, str_beq]; simpa using hts2
        have htt2 : ((str t).toList == (str (texP q)).toList) = false := by rw [str_beq]; simpa using hts2
        clear hts2
        go_wp2_with fail
        refine HT9.out.mono ?_
        rintro e w11 ⟨rfl, hb11⟩
        have H11 := hide (H9.out.next hb11)
        clear hb11
        go_wp2_with fail
        refine (commLives_any _ H11.out.env.tab).mono ?_
        rintro e w12 ⟨rfl, hb12⟩
        have H12 := hide (H11.out.next hb12)
        clear hb12
        go_wp2
        go_ret
        exact ⟨rfl, H12.out.bel⟩

set_option maxRecDepth 100000 in
set_option maxHeartbeats 4000000 in
theorem commAll_long (A : Option Addr) (n c : Nat) (l : List Nat) (s : ByteArray) (hs : 200 < s.size) (hs2 : s.size ≤ maxLen) (w : World) (h : U32s w A n c l) (he : Env w) :
    Calls Tryd.prog 15 #[.slice A n c, .string s] w (GoodP true w) := by
  obtain ⟨t, hll, ht⟩ : ∃ t, s.extract 0 200 = str t ∧ t.length ≤ 200 := ⟨(s.extract 0 200).data.toList, (str_of _).symm ▸ by apply ByteArray.ext; simp [str], by simp; omega⟩
  have HLL := hide hll
  unfold maxLen at hs2
  clear hll
  have HF := hide (few15 A n c l w h)
  have HT := hide ht
  have HE := hide he
  clear h he ht
  go_enter Tryd.func15, Tryd.ntmps15
  go_wp2_with fail
  refine HF.out.mono ?_
  rintro e w1 ⟨A1, n1, c1, rfl, hu1, hn1, hb1⟩
  obtain ⟨q, hq⟩ : ∃ q, l.take 15 = q := ⟨_, rfl⟩
  rw [hq] at hu1
  have hS : CaSt w w1 A1 n1 c1 q := ⟨HE.out.below hb1, hu1, hb1⟩
  have H1 := hide hS
  have HQ := hide hu1.2.2.2.1
  have HQL := hide (show q.length ≤ 15 by rw [hu1.1]; exact hn1)
  have HF2 := hide (few15' A1 n1 c1 q w1 hu1 hn1)
  clear hu1 hq hS hb1
  go_wp2_with fail
  rw [HLL.out]
  refine HF2.out.mono ?_
  rintro e w2 ⟨A2, n2, c2, rfl, hu2, hn2, hb2⟩
  have H2 := hide (H1.out.next hb2)
  have HT2 := hide (cTexts_any A2 n2 c2 q w2 hu2 (by omega) H2.out.env.tab)
  clear hu2 hb2
  go_wp2_with fail
  refine HT2.out.mono ?_
  rintro e w3 ⟨rfl, hb3⟩
  have H3 := hide (H2.out.next hb3)
  have HT3 := hide (refTexts_any A1 n1 c1 q w3 H3.out.us (by omega))
  have hee : ((str (texP q)).toList != (str (texP q)).toList) = false := by rw [bne, str_beq]; simp
  clear hb3
  go_wp2_with fail
  refine HT3.out.mono ?_
  rintro e w4 ⟨rfl, hb4⟩
  have H4 := hide (H3.out.next hb4)
  have HT4 := hide (refTexts_any A1 n1 c1 q w4 H4.out.us (by omega))
  clear hb4
  go_wp2_with fail
  refine HT4.out.mono ?_
  rintro e w5 ⟨rfl, hb5⟩
  have H5 := hide (H4.out.next hb5)
  have HP5 := hide (parseTex_any q HQ.out HQL.out w5 H5.out.env)
  clear hb5
  go_wp2_with fail
  refine HP5.out.mono ?_
  rintro e w6 ⟨hb6, ⟨A6, c6, r, rfl, hu6, hr6, hri, hrt⟩ | ⟨rfl, hno⟩⟩
  · obtain rfl := texP_inj hrt
    have H6 := hide (H5.out.next hb6)
    have HV := hide hu6
    have HRI := hide hri
    clear hb6 hu6 hri hrt
    have HR6 := hide (rising_any A1 n1 c1 q w6 H6.out.us (by omega))
    go_wp2_with fail
    refine HR6.out.mono ?_
    rintro e w7 ⟨rfl, hb7⟩
    rw [HRI.out]
    have H7 := hide (H6.out.next hb7)
    have HV7 := hide (HV.out.below hb7)
    have HM7 := hide (refSame_self A6 q.length c6 q A1 n1 c1 w7 HV7.out H7.out.us)
    clear hb7
    go_wp2_with fail
    refine HM7.out.mono ?_
    rintro e w8 ⟨rfl, hb8⟩
    have H8 := hide (H7.out.next hb8)
    clear hb8
    have HP8 := hide (parseAll_any t (by have := HT.out; omega) (fun p hp => by have := piece_len 32 t p hp; have := HT.out; omega) w8 H8.out.env)
    go_wp2_with fail
    refine HP8.out.mono ?_
    rintro e w9 ⟨hb9, ⟨A9, c9, y, rfl, hu9, hy9, hyi, hyt⟩ | ⟨rfl, hnt⟩⟩
    · have H9 := hide (H8.out.next hb9)
      have HU9 := hide hu9
      have HYI := hide hyi
      have htt : ((str (texP y)).toList == (str t).toList) = true := by rw [str_beq, hyt]; simp
      clear hb9 hu9 hyi hyt
      have HR9 := hide (rising_any A9 y.length c9 y w9 HU9.out (by omega))
      go_wp2_with fail
      refine HR9.out.mono ?_
      rintro e w10 ⟨rfl, hb10⟩
      rw [HYI.out]
      have H10 := hide (H9.out.next hb10)
      have HT10 := hide (refTexts_any A9 y.length c9 y w10 (HU9.out.below hb10) (by omega))
      clear hb10
      go_wp2_with fail
      refine HT10.out.mono ?_
      rintro e w11 ⟨rfl, hb11⟩
      have H11 := hide (H10.out.next hb11)
      clear hb11
      go_wp2_with fail
      refine (commLives_any _ H11.out.env.tab).mono ?_
      rintro e w12 ⟨rfl, hb12⟩
      have H12 := hide (H11.out.next hb12)
      clear hb12
      go_wp2
      go_ret
      exact ⟨rfl, H12.out.bel⟩
    · have H9 := hide (H8.out.next hb9)
      have HNT := hide hnt
      clear hb9 hnt
      have HT9 := hide (refTexts_any A1 n1 c1 q w9 H9.out.us (by omega))
      by_cases hts2 : t = texP q
      · have HRT := hide (HNT.out q HQ.out hts2)
        have htt : ((str t).toList != (str (texP q)).toList) = false := by rw [bne, str_beq, hts2]; simp
        have htt2 : ((str t).toList == (str (texP q)).toList) = true := by rw [str_beq, hts2]; simp
        clear hts2
        go_wp2_with fail
        refine HT9.out.mono ?_
        rintro e w10 ⟨rfl, hb10⟩
        have H10 := hide (H9.out.next hb10)
        have HR10 := hide (rising_any A1 n1 c1 q w10 H10.out.us (by omega))
        clear hb10
        go_wp2_with fail
        refine HR10.out.mono ?_
        rintro e w11 ⟨rfl, hb11⟩
        rw [HRT.out]
        have H11 := hide (H10.out.next hb11)
        clear hb11
        go_wp2_with fail
        refine (commLives_any _ H11.out.env.tab).mono ?_
        rintro e w12 ⟨rfl, hb12⟩
        have H12 := hide (H11.out.next hb12)
        clear hb12
        go_wp2
        go_ret
        exact ⟨rfl, H12.out.bel⟩
      · have htt : ((str t).toList != (str (texP q)).toList) = true := by rw [bne, str_beq]; simpa using hts2
        have htt2 : ((str t).toList == (str (texP q)).toList) = false := by rw [str_beq]; simpa using hts2
        clear hts2
        go_wp2_with fail
        refine HT9.out.mono ?_
        rintro e w11 ⟨rfl, hb11⟩
        have H11 := hide (H9.out.next hb11)
        clear hb11
        go_wp2_with fail
        refine (commLives_any _ H11.out.env.tab).mono ?_
        rintro e w12 ⟨rfl, hb12⟩
        have H12 := hide (H11.out.next hb12)
        clear hb12
        go_wp2
        go_ret
        exact ⟨rfl, H12.out.bel⟩
  · have HRI := hide (hno q HQ.out rfl)
    have H6 := hide (H5.out.next hb6)
    clear hb6 hno
    have HR6 := hide (rising_any A1 n1 c1 q w6 H6.out.us (by omega))
    go_wp2_with fail
    refine HR6.out.mono ?_
    rintro e w8 ⟨rfl, hb7⟩
    rw [HRI.out]
    have H8 := hide (H6.out.next hb7)
    clear hb7
    have HP8 := hide (parseAll_any t (by have := HT.out; omega) (fun p hp => by have := piece_len 32 t p hp; have := HT.out; omega) w8 H8.out.env)
    go_wp2_with fail
    refine HP8.out.mono ?_
    rintro e w9 ⟨hb9, ⟨A9, c9, y, rfl, hu9, hy9, hyi, hyt⟩ | ⟨rfl, hnt⟩⟩
    · have H9 := hide (H8.out.next hb9)
      have HU9 := hide hu9
      have HYI := hide hyi
      have htt : ((str (texP y)).toList == (str t).toList) = true := by rw [str_beq, hyt]; simp
      clear hb9 hu9 hyi hyt
      have HR9 := hide (rising_any A9 y.length c9 y w9 HU9.out (by omega))
      go_wp2_with fail
      refine HR9.out.mono ?_
      rintro e w10 ⟨rfl, hb10⟩
      rw [HYI.out]
      have H10 := hide (H9.out.next hb10)
      have HT10 := hide (refTexts_any A9 y.length c9 y w10 (HU9.out.below hb10) (by omega))
      clear hb10
      go_wp2_with fail
      refine HT10.out.mono ?_
      rintro e w11 ⟨rfl, hb11⟩
      have H11 := hide (H10.out.next hb11)
      clear hb11
      go_wp2_with fail
      refine (commLives_any _ H11.out.env.tab).mono ?_
      rintro e w12 ⟨rfl, hb12⟩
      have H12 := hide (H11.out.next hb12)
      clear hb12
      go_wp2
      go_ret
      exact ⟨rfl, H12.out.bel⟩
    · have H9 := hide (H8.out.next hb9)
      have HNT := hide hnt
      clear hb9 hnt
      have HT9 := hide (refTexts_any A1 n1 c1 q w9 H9.out.us (by omega))
      by_cases hts2 : t = texP q
      · have HRT := hide (HNT.out q HQ.out hts2)
        have htt : ((str t).toList != (str (texP q)).toList) = false := by rw [bne, str_beq, hts2]; simp
        have htt2 : ((str t).toList == (str (texP q)).toList) = true := by rw [str_beq, hts2]; simp
        clear hts2
        go_wp2_with fail
        refine HT9.out.mono ?_
        rintro e w10 ⟨rfl, hb10⟩
        have H10 := hide (H9.out.next hb10)
        have HR10 := hide (rising_any A1 n1 c1 q w10 H10.out.us (by omega))
        clear hb10
        go_wp2_with fail
        refine HR10.out.mono ?_
        rintro e w11 ⟨rfl, hb11⟩
        rw [HRT.out]
        have H11 := hide (H10.out.next hb11)
        clear hb11
        go_wp2_with fail
        refine (commLives_any _ H11.out.env.tab).mono ?_
        rintro e w12 ⟨rfl, hb12⟩
        have H12 := hide (H11.out.next hb12)
        clear hb12
        go_wp2
        go_ret
        exact ⟨rfl, H12.out.bel⟩
      · have htt : ((str t).toList != (str (texP q)).toList) = true := by rw [bne, str_beq]; simpa using hts2
        have htt2 : ((str t).toList == (str (texP q)).toList) = false := by rw [str_beq]; simpa using hts2
        clear hts2
        go_wp2_with fail
        refine HT9.out.mono ?_
        rintro e w11 ⟨rfl, hb11⟩
        have H11 := hide (H9.out.next hb11)
        clear hb11
        go_wp2_with fail
        refine (commLives_any _ H11.out.env.tab).mono ?_
        rintro e w12 ⟨rfl, hb12⟩
        have H12 := hide (H11.out.next hb12)
        clear hb12
        go_wp2
        go_ret
        exact ⟨rfl, H12.out.bel⟩

theorem commAll_any (A : Option Addr) (n c : Nat) (l : List Nat) (s : ByteArray) (hs : s.size ≤ maxLen) (w : World) (h : U32s w A n c l) (he : Env w) : Calls Tryd.prog 15 #[.slice A n c, .string s] w (GoodP true w) := by
  by_cases h2 : s.size ≤ 200
  · have := commAll_short A n c l s.data.toList (by show s.data.toList.length ≤ 200; rw [Array.length_toList]; exact h2) w h he
    rwa [str_of] at this
  · exact commAll_long A n c l s (by omega) hs w h he
end Go.Proofs.YtiibglkiakhfgaaDoor
