import Derived.Test.YtiibglkiakhfgaaDoorPrefixParse
set_option linter.unusedSimpArgs false
set_option linter.unusedVariables false
namespace Go.Proofs.YtiibglkiakhfgaaDoor
open Go.RowKit
theorem addrL_inj {a b : Nat} (ha : a < 4294967296) (hb : b < 4294967296) (h : addrL a = addrL b) : a = b := by
  have e := congrArg (parts 46) h
  rw [parts_addr, parts_addr] at e
  simp only [List.cons.injEq, and_true] at e
  obtain ⟨e0, e1, e2, e3⟩ := e
  have q0 := dec_inj e0; have q1 := dec_inj e1; have q2 := dec_inj e2; have q3 := dec_inj e3
  unfold octN at q0 q1 q2 q3
  simp only [Nat.reduceSub, Nat.reducePow, Nat.sub_zero, Nat.sub_self, Nat.pow_zero, Nat.div_one] at q0 q1 q2 q3
  omega
theorem textL_good {a : Nat} {n : Int} (h : goodB a n = true) : textL a n = addrL a ++ 47 :: Lib.decDigits n.toNat := by simp [textL, h]
theorem textL_inj {a b : Nat} {n m : Int} (ha : a < 4294967296) (hb : b < 4294967296) (h1 : goodB a n = true) (h2 : goodB b m = true) (h : textL a n = textL b m) : a = b ∧ n = m := by
  rw [textL_good h1, textL_good h2] at h
  obtain ⟨e1, e2⟩ := split_eq (addr_no47 a) (addr_no47 b) h
  have := goodB_32 h1
  have := goodB_32 h2
  have := dec_inj e2
  exact ⟨addrL_inj ha hb e1, by omega⟩
theorem textL_len (a : Nat) (n : Int) : (textL a n).length ≤ 40 := by
  unfold textL
  split
  · rename_i h
    have := goodB_32 h
    have l1 := addrL_len a
    have l2 : (Lib.decDigits n.toNat).length ≤ 2 := dec_len _ 1 (by omega)
    simp; omega
  · simp
theorem textL_bad {a : Nat} {n : Int} (h : goodB a n = false) : textL a n = [] := by simp [textL, h]
/-- Parse of a prefix's own text. -/
theorem pparse_own (a : Nat) (n : Int) (ha : a < 4294967296) (w : World) (he : Env w) : Calls Tryd.prog 72 #[.string (str (textL a n))] w fun e w' =>
    e = .returned (if goodB a n then .tuple #[pfx a n, .int .i64 0] else .tuple #[pfx 0 0, .int .i64 2]) ∧ Below w.heap.size w w' := by
  refine (pparse_any (textL a n) (by have := textL_len a n; omega) w he).mono ?_
  rintro e w' ⟨hb, ⟨b, m, hb2, hm, hg, hl, rfl⟩ | ⟨hno, rfl⟩⟩
  · refine ⟨?_, hb⟩
    cases hga : goodB a n
    · rw [textL_bad hga, textL_good hg] at hl
      simp at hl
    · obtain ⟨rfl, rfl⟩ := textL_inj ha hb2 hga hg hl
      simp
  · refine ⟨?_, hb⟩
    cases hga : goodB a n
    · simp
    · exact absurd rfl (hno a n ha hga)
theorem paddr_own (a : Nat) (ha : a < 4294967296) (w : World) (he : Env w) : Calls Tryd.prog 74 #[.string (str (addrL a))] w fun e w' =>
    e = .returned (.tuple #[.int .u32 (a : Int), .int .i64 0]) ∧ Below w.heap.size w w' := by
  refine (PAddr_any (addrL a) (by have := addrL_len a; omega) w he).mono ?_
  rintro e w' ⟨hb, ⟨b, hb2, hl, rfl⟩ | ⟨hno, rfl⟩⟩
  · rw [addrL_inj ha hb2 hl]
    exact ⟨rfl, hb⟩
  · exact absurd rfl (hno a ha)
theorem eq_self_str (l : List UInt8) : ((str l).toList != (str l).toList) = false := by simp
/-- What is kept along the law's walk: the library's variables, the prefix's box, what lay below. -/
structure PSt (w W : World) (a : Nat) (n : Int) : Prop where
  env : Env W
  blk : Blk W w.heap.size 46 #[.int .u32 (a : Int), .int .i64 n]
  bel : Below w.heap.size w W
theorem PSt.start (w : World) (he : Env w) (a : Nat) (n : Int) : PSt w (w.alloc (.cells #[.int .u32 (a : Int), .int .i64 n] 46)) a n :=
  ⟨env_cells he _, Blk.new w 46 _, (Below.refl _ w).alloc (Nat.le_refl _) _⟩
theorem PSt.below {w W W' : World} {a : Nat} {n : Int} (h : PSt w W a n) (hb : Below W.heap.size W W') : PSt w W' a n :=
  ⟨h.env.below hb, h.blk.below hb h.blk.lt, h.bel.trans (hb.mono h.bel.size)⟩
theorem PSt.box {w W : World} {a : Nat} {n : Int} (h : PSt w W a n) (o : Obj) : PSt w (W.alloc o) a n := h.below ((Below.refl _ _).alloc (Nat.le_refl _) _)
set_option maxRecDepth 100000 in
set_option maxHeartbeats 16000000 in
theorem prefixTexts_good (a : Nat) (n : Int) (s : ByteArray) (l : List UInt8) (ha : a < 4294967296) (h1 : -9223372036854775808 ≤ n) (h2 : n ≤ 9223372036854775807) (hl : l.length ≤ 60)
    (hs : s.size ≤ 60 ∧ s = str l ∨ 60 < s.size ∧ s.size ≤ 9223372036854775807 ∧ s.extract 0 60 = str l) (hg : goodB a n = true) (w : World) (he : Env w) :
    Calls Tryd.prog 16 #[pfx a n, .string s] w (GoodP true w) := by
  have HT := hide (PText_any a n ha h1 h2)
  have HQ := hide (pparse_own a n ha)
  rw [hg] at HQ
  have HRT := hide (refPText_any a n ha h1 h2)
  have HG := hide (refGood_any a n ha)
  rw [hg] at HG
  have HAd := hide (Addr_any a ha)
  have HPA := hide (paddr_own a ha)
  have HRA := hide (refAddr_any a ha)
  simp only [if_true, Bool.false_eq_true, if_false] at HQ
  unfold pfx at HT HQ HRT HG ⊢
  have HGd := hide hg
  have HL := hide hl
  have HS := hide (PSt.start w he a n)
  clear hg he hl
  rcases hs with ⟨hsz, rfl⟩ | ⟨hsz, hsm, hex⟩
  rotate_left
  · have HEX := hide hex
    clear hex
    go_enter Tryd.func16, Tryd.ntmps16
    go_wp2_with fail
    refine (HT.out _ HS.out.env.tab).mono ?_
    rintro e w1 ⟨rfl, hb1⟩
    have S1 := hide (HS.out.below hb1)
    clear hb1
    go_wp2_with fail
    refine (HQ.out _ S1.out.env).mono ?_
    rintro e w2 ⟨rfl, hb2⟩
    have S2 := hide ((S1.out.below hb2).box (.cells #[.int .u32 (a : Int), .int .i64 n] 46))
    have Q2 := hide (Blk.new w2 46 #[.int .u32 (a : Int), .int .i64 n])
    have c0 := blk_read (S1.out.below hb2).blk (i := 0) (v := .int .u32 (a : Int)) rfl
    have hlt2 := (S1.out.below hb2).blk.lt
    clear hb2
    go_wp2_with fail
    refine (HAd.out _ S2.out.env.tab).mono ?_
    rintro e w3 ⟨rfl, hb3⟩
    have S3 := hide (S2.out.below hb3)
    have Q3 := hide (Q2.out.below hb3 (by simp))
    clear hb3 c0 hlt2
    go_wp2_with fail
    refine (HPA.out _ S3.out.env).mono ?_
    rintro e w4 ⟨rfl, hb4⟩
    have S4 := hide (S3.out.below hb4)
    have Q4 := hide (Q3.out.below hb4 Q3.out.lt)
    clear hb4
    have k0 := fun x => cell?_far (W := w4) x (blk_read S4.out.blk (i := 0) (v := .int .u32 (a : Int)) rfl)
    have k1 := fun x => cell?_far (W := w4) x (blk_read S4.out.blk (i := 1) (v := .int .i64 n) rfl)
    have HTb := hide (fun x => S4.out.env.tab.below (below_far w4 x))
    go_wp2_with fail
    refine wp_region_far (by kernel_rfl) (by kernel_rfl) ?_
    iterate 24 (go_big_quiet_step ((first | (go_at_call 73; exact far_call (HT.out _ (HTb.out _))) | (go_at_call 76; exact far_call (HRT.out _)) | (go_at_call 75; exact far_call (HAd.out _ (HTb.out _))) | (go_at_call 77; exact far_same (HRA.out _)))))
    refine wpQuiet_nil ?_
    rintro _ ⟨x5, rfl⟩
    have S5 := hide (S4.out.below (below_far w4 x5))
    have Q5 := hide (Q4.out.below (below_far w4 x5) Q4.out.lt)
    clear k0 k1
    have c0 := blk_read S5.out.blk (i := 0) (v := .int .u32 (a : Int)) rfl
    have c1 := blk_read S5.out.blk (i := 1) (v := .int .i64 n) rfl
    go_wp2_with fail
    refine (HG.out _).mono ?_
    rintro e w6 ⟨rfl, hb6⟩
    have S6 := hide (S5.out.below hb6)
    have Q6 := hide (Q5.out.below hb6 Q5.out.lt)
    clear hb6 c0 c1
    have c0 := blk_read S6.out.blk (i := 0) (v := .int .u32 (a : Int)) rfl
    have c1 := blk_read S6.out.blk (i := 1) (v := .int .i64 n) rfl
    have d0 := blk_read Q6.out (i := 0) (v := .int .u32 (a : Int)) rfl
    have d1 := blk_read Q6.out (i := 1) (v := .int .i64 n) rfl
    go_wp2_with fail
    try rw [HEX.out]
    have HP := hide (pparse_any l (by have := HL.out; omega) _ S6.out.env)
    refine HP.out.mono ?_
    rintro e w7 ⟨hb7, ⟨b, m, hb, hm, hgb, hlb, rfl⟩ | ⟨hno, rfl⟩⟩
    · have X8 := hide (Blk.new w7 46 #[.int .u32 (b : Int), .int .i64 (m : Int)])
      have S8 := hide ((S6.out.below hb7).box (.cells #[.int .u32 (b : Int), .int .i64 (m : Int)] 46))
      have f1 := hide (show ((str (textL b (m : Int))).toList != (str l).toList) = false by rw [hlb]; simp)
      have g1 := hide (show ((str (textL b (m : Int))).toList == (str l).toList) = true by rw [hlb]; simp)
      have HRX := hide (refPText_any b (m : Int) hb (by omega) (by omega))
      unfold pfx at HRX
      unfold pfx
      clear hb7 hlb c0 c1 d0 d1
      have HPD := hide (PAddr_any l (by have := HL.out; omega) _ S8.out.env)
      go_wp2_with fail
      refine HPD.out.mono ?_
      rintro e w9 ⟨hb9, ⟨c, hc, hlc, rfl⟩ | ⟨hno2, rfl⟩⟩
      all_goals
        first | (have HLC := hide hlc; clear hlc) | (have HN2 := hide hno2; clear hno2)
        have S9 := hide (S8.out.below hb9)
        have X9 := hide (X8.out.below hb9 (by simp))
        have d0 := blk_read X9.out (i := 0) (v := .int .u32 (b : Int)) rfl
        have d1 := blk_read X9.out (i := 1) (v := .int .i64 (m : Int)) rfl
        clear hb9
        go_wp2_with fail
        refine (HRX.out _).mono ?_
        rintro e w10 ⟨rfl, hb10⟩
        have S10 := hide (S9.out.below hb10)
        clear hb10 d0 d1
        have f1' := f1.out
        have g1' := g1.out
      · have f2 : ((str (addrL c)).toList == (str l).toList) = true := by rw [HLC.out]; simp
        have HRC := hide (refAddr_any c hc)
        go_wp2_with fail
        refine (HRC.out _).mono ?_
        rintro e w12 ⟨rfl, rfl⟩
        have f3 := f2
        clear f2
        go_wp2_with fail
        refine (plives_any _ S10.out.env.tab).mono ?_
        rintro e w13 ⟨rfl, hb13⟩
        go_wp2
        go_ret
        exact ⟨rfl, S10.out.bel.trans (hb13.mono S10.out.bel.size)⟩
      · have f2 : ((str l).toList != (str (addrL a)).toList) = true := by
          unfold bne; rw [str_beq, beq_eq_false_iff_ne.2 (HN2.out a ha)]; rfl
        have f3 : ((str l).toList == (str (addrL a)).toList) = false := by
          rw [str_beq, beq_eq_false_iff_ne.2 (HN2.out a ha)]
        have c0 := blk_read S10.out.blk (i := 0) (v := .int .u32 (a : Int)) rfl
        go_wp2_with fail
        refine (HRA.out _).mono ?_
        rintro e w12 ⟨rfl, rfl⟩
        go_wp2_with fail
        refine (plives_any _ S10.out.env.tab).mono ?_
        rintro e w13 ⟨rfl, hb13⟩
        go_wp2
        go_ret
        exact ⟨rfl, S10.out.bel.trans (hb13.mono S10.out.bel.size)⟩
    · have X8 := hide (Blk.new w7 46 #[.int .u32 0, .int .i64 0])
      have S8 := hide ((S6.out.below hb7).box (.cells #[.int .u32 0, .int .i64 0] 46))
      unfold pfx
      have HNO := hide hno
      clear hb7 hno c0 c1 d0 d1
      have HPD := hide (PAddr_any l (by have := HL.out; omega) _ S8.out.env)
      go_wp2_with fail
      refine HPD.out.mono ?_
      rintro e w9 ⟨hb9, ⟨c, hc, hlc, rfl⟩ | ⟨hno2, rfl⟩⟩
      all_goals
        first | (have HLC := hide hlc; clear hlc) | (have HN2 := hide hno2; clear hno2)
        have S9 := hide (S8.out.below hb9)
        have X9 := hide (X8.out.below hb9 (by simp))
        have d0 := blk_read X9.out (i := 0) (v := .int .u32 0) rfl
        have d1 := blk_read X9.out (i := 1) (v := .int .i64 0) rfl
        have c0 := blk_read S9.out.blk (i := 0) (v := .int .u32 (a : Int)) rfl
        have c1 := blk_read S9.out.blk (i := 1) (v := .int .i64 n) rfl
        clear hb9
        go_wp2_with fail
        refine (HG.out _).mono ?_
        rintro e w10 ⟨rfl, hb10⟩
        have S10 := hide (S9.out.below hb10)
        clear hb10 d0 d1 c0 c1
        have f1' : ((str l).toList == (str (textL a n)).toList) = false := by rw [str_beq]; simpa using HNO.out a n ha HGd.out
        have c0 := blk_read S10.out.blk (i := 0) (v := .int .u32 (a : Int)) rfl
        have c1 := blk_read S10.out.blk (i := 1) (v := .int .i64 n) rfl
        go_wp2_with fail
        refine (HRT.out _).mono ?_
        rintro e w11 ⟨rfl, hb11⟩
        have S11 := hide (S10.out.below hb11)
        clear hb11 c0 c1 S10
        have S10 := S11
        clear S11
      · have f2 : ((str (addrL c)).toList == (str l).toList) = true := by rw [HLC.out]; simp
        have HRC := hide (refAddr_any c hc)
        go_wp2_with fail
        refine (HRC.out _).mono ?_
        rintro e w12 ⟨rfl, rfl⟩
        have f3 := f2
        clear f2
        go_wp2_with fail
        refine (plives_any _ S10.out.env.tab).mono ?_
        rintro e w13 ⟨rfl, hb13⟩
        go_wp2
        go_ret
        exact ⟨rfl, S10.out.bel.trans (hb13.mono S10.out.bel.size)⟩
      · have f2 : ((str l).toList != (str (addrL a)).toList) = true := by
          unfold bne; rw [str_beq, beq_eq_false_iff_ne.2 (HN2.out a ha)]; rfl
        have f3 : ((str l).toList == (str (addrL a)).toList) = false := by
          rw [str_beq, beq_eq_false_iff_ne.2 (HN2.out a ha)]
        have c0 := blk_read S10.out.blk (i := 0) (v := .int .u32 (a : Int)) rfl
        go_wp2_with fail
        refine (HRA.out _).mono ?_
        rintro e w12 ⟨rfl, rfl⟩
        go_wp2_with fail
        refine (plives_any _ S10.out.env.tab).mono ?_
        rintro e w13 ⟨rfl, hb13⟩
        go_wp2
        go_ret
        exact ⟨rfl, S10.out.bel.trans (hb13.mono S10.out.bel.size)⟩
  · have HEX := hide (rfl : str l = str l)
    go_enter Tryd.func16, Tryd.ntmps16
    go_wp2_with fail
    refine (HT.out _ HS.out.env.tab).mono ?_
    rintro e w1 ⟨rfl, hb1⟩
    have S1 := hide (HS.out.below hb1)
    clear hb1
    go_wp2_with fail
    refine (HQ.out _ S1.out.env).mono ?_
    rintro e w2 ⟨rfl, hb2⟩
    have S2 := hide ((S1.out.below hb2).box (.cells #[.int .u32 (a : Int), .int .i64 n] 46))
    have Q2 := hide (Blk.new w2 46 #[.int .u32 (a : Int), .int .i64 n])
    have c0 := blk_read (S1.out.below hb2).blk (i := 0) (v := .int .u32 (a : Int)) rfl
    have hlt2 := (S1.out.below hb2).blk.lt
    clear hb2
    go_wp2_with fail
    refine (HAd.out _ S2.out.env.tab).mono ?_
    rintro e w3 ⟨rfl, hb3⟩
    have S3 := hide (S2.out.below hb3)
    have Q3 := hide (Q2.out.below hb3 (by simp))
    clear hb3 c0 hlt2
    go_wp2_with fail
    refine (HPA.out _ S3.out.env).mono ?_
    rintro e w4 ⟨rfl, hb4⟩
    have S4 := hide (S3.out.below hb4)
    have Q4 := hide (Q3.out.below hb4 Q3.out.lt)
    clear hb4
    have k0 := fun x => cell?_far (W := w4) x (blk_read S4.out.blk (i := 0) (v := .int .u32 (a : Int)) rfl)
    have k1 := fun x => cell?_far (W := w4) x (blk_read S4.out.blk (i := 1) (v := .int .i64 n) rfl)
    have HTb := hide (fun x => S4.out.env.tab.below (below_far w4 x))
    go_wp2_with fail
    refine wp_region_far (by kernel_rfl) (by kernel_rfl) ?_
    iterate 24 (go_big_quiet_step ((first | (go_at_call 73; exact far_call (HT.out _ (HTb.out _))) | (go_at_call 76; exact far_call (HRT.out _)) | (go_at_call 75; exact far_call (HAd.out _ (HTb.out _))) | (go_at_call 77; exact far_same (HRA.out _)))))
    refine wpQuiet_nil ?_
    rintro _ ⟨x5, rfl⟩
    have S5 := hide (S4.out.below (below_far w4 x5))
    have Q5 := hide (Q4.out.below (below_far w4 x5) Q4.out.lt)
    clear k0 k1
    have c0 := blk_read S5.out.blk (i := 0) (v := .int .u32 (a : Int)) rfl
    have c1 := blk_read S5.out.blk (i := 1) (v := .int .i64 n) rfl
    go_wp2_with fail
    refine (HG.out _).mono ?_
    rintro e w6 ⟨rfl, hb6⟩
    have S6 := hide (S5.out.below hb6)
    have Q6 := hide (Q5.out.below hb6 Q5.out.lt)
    clear hb6 c0 c1
    have c0 := blk_read S6.out.blk (i := 0) (v := .int .u32 (a : Int)) rfl
    have c1 := blk_read S6.out.blk (i := 1) (v := .int .i64 n) rfl
    have d0 := blk_read Q6.out (i := 0) (v := .int .u32 (a : Int)) rfl
    have d1 := blk_read Q6.out (i := 1) (v := .int .i64 n) rfl
    go_wp2_with fail
    try rw [HEX.out]
    have HP := hide (pparse_any l (by have := HL.out; omega) _ S6.out.env)
    refine HP.out.mono ?_
    rintro e w7 ⟨hb7, ⟨b, m, hb, hm, hgb, hlb, rfl⟩ | ⟨hno, rfl⟩⟩
    · have X8 := hide (Blk.new w7 46 #[.int .u32 (b : Int), .int .i64 (m : Int)])
      have S8 := hide ((S6.out.below hb7).box (.cells #[.int .u32 (b : Int), .int .i64 (m : Int)] 46))
      have f1 := hide (show ((str (textL b (m : Int))).toList != (str l).toList) = false by rw [hlb]; simp)
      have g1 := hide (show ((str (textL b (m : Int))).toList == (str l).toList) = true by rw [hlb]; simp)
      have HRX := hide (refPText_any b (m : Int) hb (by omega) (by omega))
      unfold pfx at HRX
      unfold pfx
      clear hb7 hlb c0 c1 d0 d1
      have HPD := hide (PAddr_any l (by have := HL.out; omega) _ S8.out.env)
      go_wp2_with fail
      refine HPD.out.mono ?_
      rintro e w9 ⟨hb9, ⟨c, hc, hlc, rfl⟩ | ⟨hno2, rfl⟩⟩
      all_goals
        first | (have HLC := hide hlc; clear hlc) | (have HN2 := hide hno2; clear hno2)
        have S9 := hide (S8.out.below hb9)
        have X9 := hide (X8.out.below hb9 (by simp))
        have d0 := blk_read X9.out (i := 0) (v := .int .u32 (b : Int)) rfl
        have d1 := blk_read X9.out (i := 1) (v := .int .i64 (m : Int)) rfl
        clear hb9
        go_wp2_with fail
        refine (HRX.out _).mono ?_
        rintro e w10 ⟨rfl, hb10⟩
        have S10 := hide (S9.out.below hb10)
        clear hb10 d0 d1
        have f1' := f1.out
        have g1' := g1.out
      · have f2 : ((str (addrL c)).toList == (str l).toList) = true := by rw [HLC.out]; simp
        have HRC := hide (refAddr_any c hc)
        go_wp2_with fail
        refine (HRC.out _).mono ?_
        rintro e w12 ⟨rfl, rfl⟩
        have f3 := f2
        clear f2
        go_wp2_with fail
        refine (plives_any _ S10.out.env.tab).mono ?_
        rintro e w13 ⟨rfl, hb13⟩
        go_wp2
        go_ret
        exact ⟨rfl, S10.out.bel.trans (hb13.mono S10.out.bel.size)⟩
      · have f2 : ((str l).toList != (str (addrL a)).toList) = true := by
          unfold bne; rw [str_beq, beq_eq_false_iff_ne.2 (HN2.out a ha)]; rfl
        have f3 : ((str l).toList == (str (addrL a)).toList) = false := by
          rw [str_beq, beq_eq_false_iff_ne.2 (HN2.out a ha)]
        have c0 := blk_read S10.out.blk (i := 0) (v := .int .u32 (a : Int)) rfl
        go_wp2_with fail
        refine (HRA.out _).mono ?_
        rintro e w12 ⟨rfl, rfl⟩
        go_wp2_with fail
        refine (plives_any _ S10.out.env.tab).mono ?_
        rintro e w13 ⟨rfl, hb13⟩
        go_wp2
        go_ret
        exact ⟨rfl, S10.out.bel.trans (hb13.mono S10.out.bel.size)⟩
    · have X8 := hide (Blk.new w7 46 #[.int .u32 0, .int .i64 0])
      have S8 := hide ((S6.out.below hb7).box (.cells #[.int .u32 0, .int .i64 0] 46))
      unfold pfx
      have HNO := hide hno
      clear hb7 hno c0 c1 d0 d1
      have HPD := hide (PAddr_any l (by have := HL.out; omega) _ S8.out.env)
      go_wp2_with fail
      refine HPD.out.mono ?_
      rintro e w9 ⟨hb9, ⟨c, hc, hlc, rfl⟩ | ⟨hno2, rfl⟩⟩
      all_goals
        first | (have HLC := hide hlc; clear hlc) | (have HN2 := hide hno2; clear hno2)
        have S9 := hide (S8.out.below hb9)
        have X9 := hide (X8.out.below hb9 (by simp))
        have d0 := blk_read X9.out (i := 0) (v := .int .u32 0) rfl
        have d1 := blk_read X9.out (i := 1) (v := .int .i64 0) rfl
        have c0 := blk_read S9.out.blk (i := 0) (v := .int .u32 (a : Int)) rfl
        have c1 := blk_read S9.out.blk (i := 1) (v := .int .i64 n) rfl
        clear hb9
        go_wp2_with fail
        refine (HG.out _).mono ?_
        rintro e w10 ⟨rfl, hb10⟩
        have S10 := hide (S9.out.below hb10)
        clear hb10 d0 d1 c0 c1
        have f1' : ((str l).toList == (str (textL a n)).toList) = false := by rw [str_beq]; simpa using HNO.out a n ha HGd.out
        have c0 := blk_read S10.out.blk (i := 0) (v := .int .u32 (a : Int)) rfl
        have c1 := blk_read S10.out.blk (i := 1) (v := .int .i64 n) rfl
        go_wp2_with fail
        refine (HRT.out _).mono ?_
        rintro e w11 ⟨rfl, hb11⟩
        have S11 := hide (S10.out.below hb11)
        clear hb11 c0 c1 S10
        have S10 := S11
        clear S11
      · have f2 : ((str (addrL c)).toList == (str l).toList) = true := by rw [HLC.out]; simp
        have HRC := hide (refAddr_any c hc)
        go_wp2_with fail
        refine (HRC.out _).mono ?_
        rintro e w12 ⟨rfl, rfl⟩
        have f3 := f2
        clear f2
        go_wp2_with fail
        refine (plives_any _ S10.out.env.tab).mono ?_
        rintro e w13 ⟨rfl, hb13⟩
        go_wp2
        go_ret
        exact ⟨rfl, S10.out.bel.trans (hb13.mono S10.out.bel.size)⟩
      · have f2 : ((str l).toList != (str (addrL a)).toList) = true := by
          unfold bne; rw [str_beq, beq_eq_false_iff_ne.2 (HN2.out a ha)]; rfl
        have f3 : ((str l).toList == (str (addrL a)).toList) = false := by
          rw [str_beq, beq_eq_false_iff_ne.2 (HN2.out a ha)]
        have c0 := blk_read S10.out.blk (i := 0) (v := .int .u32 (a : Int)) rfl
        go_wp2_with fail
        refine (HRA.out _).mono ?_
        rintro e w12 ⟨rfl, rfl⟩
        go_wp2_with fail
        refine (plives_any _ S10.out.env.tab).mono ?_
        rintro e w13 ⟨rfl, hb13⟩
        go_wp2
        go_ret
        exact ⟨rfl, S10.out.bel.trans (hb13.mono S10.out.bel.size)⟩

set_option maxRecDepth 100000 in
set_option maxHeartbeats 16000000 in
theorem prefixTexts_bad (a : Nat) (n : Int) (s : ByteArray) (l : List UInt8) (ha : a < 4294967296) (h1 : -9223372036854775808 ≤ n) (h2 : n ≤ 9223372036854775807) (hl : l.length ≤ 60)
    (hs : s.size ≤ 60 ∧ s = str l ∨ 60 < s.size ∧ s.size ≤ 9223372036854775807 ∧ s.extract 0 60 = str l) (hg : goodB a n = false) (w : World) (he : Env w) :
    Calls Tryd.prog 16 #[pfx a n, .string s] w (GoodP true w) := by
  have HT := hide (PText_any a n ha h1 h2)
  have HQ := hide (pparse_own a n ha)
  rw [hg] at HQ
  have HRT := hide (refPText_any a n ha h1 h2)
  have HG := hide (refGood_any a n ha)
  rw [hg] at HG
  have HAd := hide (Addr_any a ha)
  have HPA := hide (paddr_own a ha)
  have HRA := hide (refAddr_any a ha)
  simp only [if_true, Bool.false_eq_true, if_false] at HQ
  unfold pfx at HT HQ HRT HG ⊢
  have HGd := hide hg
  have HL := hide hl
  have HS := hide (PSt.start w he a n)
  clear hg he hl
  rcases hs with ⟨hsz, rfl⟩ | ⟨hsz, hsm, hex⟩
  rotate_left
  · have HEX := hide hex
    clear hex
    go_enter Tryd.func16, Tryd.ntmps16
    go_wp2_with fail
    refine (HT.out _ HS.out.env.tab).mono ?_
    rintro e w1 ⟨rfl, hb1⟩
    have S1 := hide (HS.out.below hb1)
    clear hb1
    go_wp2_with fail
    refine (HQ.out _ S1.out.env).mono ?_
    rintro e w2 ⟨rfl, hb2⟩
    have S2 := hide ((S1.out.below hb2).box (.cells #[.int .u32 0, .int .i64 0] 46))
    have Q2 := hide (Blk.new w2 46 #[.int .u32 0, .int .i64 0])
    have c0 := blk_read (S1.out.below hb2).blk (i := 0) (v := .int .u32 (a : Int)) rfl
    have hlt2 := (S1.out.below hb2).blk.lt
    clear hb2
    go_wp2_with fail
    refine (HAd.out _ S2.out.env.tab).mono ?_
    rintro e w3 ⟨rfl, hb3⟩
    have S3 := hide (S2.out.below hb3)
    have Q3 := hide (Q2.out.below hb3 (by simp))
    clear hb3 c0 hlt2
    go_wp2_with fail
    refine (HPA.out _ S3.out.env).mono ?_
    rintro e w4 ⟨rfl, hb4⟩
    have S4 := hide (S3.out.below hb4)
    have Q4 := hide (Q3.out.below hb4 Q3.out.lt)
    clear hb4
    have k0 := fun x => cell?_far (W := w4) x (blk_read S4.out.blk (i := 0) (v := .int .u32 (a : Int)) rfl)
    have k1 := fun x => cell?_far (W := w4) x (blk_read S4.out.blk (i := 1) (v := .int .i64 n) rfl)
    have HTb := hide (fun x => S4.out.env.tab.below (below_far w4 x))
    go_wp2_with fail
    refine wp_region_far (by kernel_rfl) (by kernel_rfl) ?_
    iterate 24 (go_big_quiet_step ((first | (go_at_call 73; exact far_call (HT.out _ (HTb.out _))) | (go_at_call 76; exact far_call (HRT.out _)) | (go_at_call 75; exact far_call (HAd.out _ (HTb.out _))) | (go_at_call 77; exact far_same (HRA.out _)))))
    refine wpQuiet_nil ?_
    rintro _ ⟨x5, rfl⟩
    have S5 := hide (S4.out.below (below_far w4 x5))
    have Q5 := hide (Q4.out.below (below_far w4 x5) Q4.out.lt)
    clear k0 k1
    have c0 := blk_read S5.out.blk (i := 0) (v := .int .u32 (a : Int)) rfl
    have c1 := blk_read S5.out.blk (i := 1) (v := .int .i64 n) rfl
    go_wp2_with fail
    refine (HG.out _).mono ?_
    rintro e w6 ⟨rfl, hb6⟩
    have S6 := hide (S5.out.below hb6)
    have Q6 := hide (Q5.out.below hb6 Q5.out.lt)
    clear hb6 c0 c1
    have c0 := blk_read S6.out.blk (i := 0) (v := .int .u32 (a : Int)) rfl
    have c1 := blk_read S6.out.blk (i := 1) (v := .int .i64 n) rfl
    have d0 := blk_read Q6.out (i := 0) (v := .int .u32 0) rfl
    have d1 := blk_read Q6.out (i := 1) (v := .int .i64 0) rfl
    go_wp2_with fail
    try rw [HEX.out]
    have HP := hide (pparse_any l (by have := HL.out; omega) _ S6.out.env)
    refine HP.out.mono ?_
    rintro e w7 ⟨hb7, ⟨b, m, hb, hm, hgb, hlb, rfl⟩ | ⟨hno, rfl⟩⟩
    · have X8 := hide (Blk.new w7 46 #[.int .u32 (b : Int), .int .i64 (m : Int)])
      have S8 := hide ((S6.out.below hb7).box (.cells #[.int .u32 (b : Int), .int .i64 (m : Int)] 46))
      have f1 := hide (show ((str (textL b (m : Int))).toList != (str l).toList) = false by rw [hlb]; simp)
      have g1 := hide (show ((str (textL b (m : Int))).toList == (str l).toList) = true by rw [hlb]; simp)
      have HRX := hide (refPText_any b (m : Int) hb (by omega) (by omega))
      unfold pfx at HRX
      unfold pfx
      clear hb7 hlb c0 c1 d0 d1
      have HPD := hide (PAddr_any l (by have := HL.out; omega) _ S8.out.env)
      go_wp2_with fail
      refine HPD.out.mono ?_
      rintro e w9 ⟨hb9, ⟨c, hc, hlc, rfl⟩ | ⟨hno2, rfl⟩⟩
      all_goals
        first | (have HLC := hide hlc; clear hlc) | (have HN2 := hide hno2; clear hno2)
        have S9 := hide (S8.out.below hb9)
        have X9 := hide (X8.out.below hb9 (by simp))
        have d0 := blk_read X9.out (i := 0) (v := .int .u32 (b : Int)) rfl
        have d1 := blk_read X9.out (i := 1) (v := .int .i64 (m : Int)) rfl
        clear hb9
        go_wp2_with fail
        refine (HRX.out _).mono ?_
        rintro e w10 ⟨rfl, hb10⟩
        have S10 := hide (S9.out.below hb10)
        clear hb10 d0 d1
        have f1' := f1.out
        have g1' := g1.out
      · have f2 : ((str (addrL c)).toList == (str l).toList) = true := by rw [HLC.out]; simp
        have HRC := hide (refAddr_any c hc)
        go_wp2_with fail
        refine (HRC.out _).mono ?_
        rintro e w12 ⟨rfl, rfl⟩
        have f3 := f2
        clear f2
        go_wp2_with fail
        refine (plives_any _ S10.out.env.tab).mono ?_
        rintro e w13 ⟨rfl, hb13⟩
        go_wp2
        go_ret
        exact ⟨rfl, S10.out.bel.trans (hb13.mono S10.out.bel.size)⟩
      · have f2 : ((str l).toList != (str (addrL a)).toList) = true := by
          unfold bne; rw [str_beq, beq_eq_false_iff_ne.2 (HN2.out a ha)]; rfl
        have f3 : ((str l).toList == (str (addrL a)).toList) = false := by
          rw [str_beq, beq_eq_false_iff_ne.2 (HN2.out a ha)]
        have c0 := blk_read S10.out.blk (i := 0) (v := .int .u32 (a : Int)) rfl
        go_wp2_with fail
        refine (HRA.out _).mono ?_
        rintro e w12 ⟨rfl, rfl⟩
        go_wp2_with fail
        refine (plives_any _ S10.out.env.tab).mono ?_
        rintro e w13 ⟨rfl, hb13⟩
        go_wp2
        go_ret
        exact ⟨rfl, S10.out.bel.trans (hb13.mono S10.out.bel.size)⟩
    · have X8 := hide (Blk.new w7 46 #[.int .u32 0, .int .i64 0])
      have S8 := hide ((S6.out.below hb7).box (.cells #[.int .u32 0, .int .i64 0] 46))
      unfold pfx
      have HNO := hide hno
      clear hb7 hno c0 c1 d0 d1
      have HPD := hide (PAddr_any l (by have := HL.out; omega) _ S8.out.env)
      go_wp2_with fail
      refine HPD.out.mono ?_
      rintro e w9 ⟨hb9, ⟨c, hc, hlc, rfl⟩ | ⟨hno2, rfl⟩⟩
      all_goals
        first | (have HLC := hide hlc; clear hlc) | (have HN2 := hide hno2; clear hno2)
        have S9 := hide (S8.out.below hb9)
        have X9 := hide (X8.out.below hb9 (by simp))
        have d0 := blk_read X9.out (i := 0) (v := .int .u32 0) rfl
        have d1 := blk_read X9.out (i := 1) (v := .int .i64 0) rfl
        have c0 := blk_read S9.out.blk (i := 0) (v := .int .u32 (a : Int)) rfl
        have c1 := blk_read S9.out.blk (i := 1) (v := .int .i64 n) rfl
        clear hb9
        go_wp2_with fail
        refine (HG.out _).mono ?_
        rintro e w10 ⟨rfl, hb10⟩
        have S10 := hide (S9.out.below hb10)
        clear hb10 d0 d1 c0 c1
      · have f2 : ((str (addrL c)).toList == (str l).toList) = true := by rw [HLC.out]; simp
        have HRC := hide (refAddr_any c hc)
        go_wp2_with fail
        refine (HRC.out _).mono ?_
        rintro e w12 ⟨rfl, rfl⟩
        have f3 := f2
        clear f2
        go_wp2_with fail
        refine (plives_any _ S10.out.env.tab).mono ?_
        rintro e w13 ⟨rfl, hb13⟩
        go_wp2
        go_ret
        exact ⟨rfl, S10.out.bel.trans (hb13.mono S10.out.bel.size)⟩
      · have f2 : ((str l).toList != (str (addrL a)).toList) = true := by
          unfold bne; rw [str_beq, beq_eq_false_iff_ne.2 (HN2.out a ha)]; rfl
        have f3 : ((str l).toList == (str (addrL a)).toList) = false := by
          rw [str_beq, beq_eq_false_iff_ne.2 (HN2.out a ha)]
        have c0 := blk_read S10.out.blk (i := 0) (v := .int .u32 (a : Int)) rfl
        go_wp2_with fail
        refine (HRA.out _).mono ?_
        rintro e w12 ⟨rfl, rfl⟩
        go_wp2_with fail
        refine (plives_any _ S10.out.env.tab).mono ?_
        rintro e w13 ⟨rfl, hb13⟩
        go_wp2
        go_ret
        exact ⟨rfl, S10.out.bel.trans (hb13.mono S10.out.bel.size)⟩
  · have HEX := hide (rfl : str l = str l)
    go_enter Tryd.func16, Tryd.ntmps16
    go_wp2_with fail
    refine (HT.out _ HS.out.env.tab).mono ?_
    rintro e w1 ⟨rfl, hb1⟩
    have S1 := hide (HS.out.below hb1)
    clear hb1
    go_wp2_with fail
    refine (HQ.out _ S1.out.env).mono ?_
    rintro e w2 ⟨rfl, hb2⟩
    have S2 := hide ((S1.out.below hb2).box (.cells #[.int .u32 0, .int .i64 0] 46))
    have Q2 := hide (Blk.new w2 46 #[.int .u32 0, .int .i64 0])
    have c0 := blk_read (S1.out.below hb2).blk (i := 0) (v := .int .u32 (a : Int)) rfl
    have hlt2 := (S1.out.below hb2).blk.lt
    clear hb2
    go_wp2_with fail
    refine (HAd.out _ S2.out.env.tab).mono ?_
    rintro e w3 ⟨rfl, hb3⟩
    have S3 := hide (S2.out.below hb3)
    have Q3 := hide (Q2.out.below hb3 (by simp))
    clear hb3 c0 hlt2
    go_wp2_with fail
    refine (HPA.out _ S3.out.env).mono ?_
    rintro e w4 ⟨rfl, hb4⟩
    have S4 := hide (S3.out.below hb4)
    have Q4 := hide (Q3.out.below hb4 Q3.out.lt)
    clear hb4
    have k0 := fun x => cell?_far (W := w4) x (blk_read S4.out.blk (i := 0) (v := .int .u32 (a : Int)) rfl)
    have k1 := fun x => cell?_far (W := w4) x (blk_read S4.out.blk (i := 1) (v := .int .i64 n) rfl)
    have HTb := hide (fun x => S4.out.env.tab.below (below_far w4 x))
    go_wp2_with fail
    refine wp_region_far (by kernel_rfl) (by kernel_rfl) ?_
    iterate 24 (go_big_quiet_step ((first | (go_at_call 73; exact far_call (HT.out _ (HTb.out _))) | (go_at_call 76; exact far_call (HRT.out _)) | (go_at_call 75; exact far_call (HAd.out _ (HTb.out _))) | (go_at_call 77; exact far_same (HRA.out _)))))
    refine wpQuiet_nil ?_
    rintro _ ⟨x5, rfl⟩
    have S5 := hide (S4.out.below (below_far w4 x5))
    have Q5 := hide (Q4.out.below (below_far w4 x5) Q4.out.lt)
    clear k0 k1
    have c0 := blk_read S5.out.blk (i := 0) (v := .int .u32 (a : Int)) rfl
    have c1 := blk_read S5.out.blk (i := 1) (v := .int .i64 n) rfl
    go_wp2_with fail
    refine (HG.out _).mono ?_
    rintro e w6 ⟨rfl, hb6⟩
    have S6 := hide (S5.out.below hb6)
    have Q6 := hide (Q5.out.below hb6 Q5.out.lt)
    clear hb6 c0 c1
    have c0 := blk_read S6.out.blk (i := 0) (v := .int .u32 (a : Int)) rfl
    have c1 := blk_read S6.out.blk (i := 1) (v := .int .i64 n) rfl
    have d0 := blk_read Q6.out (i := 0) (v := .int .u32 0) rfl
    have d1 := blk_read Q6.out (i := 1) (v := .int .i64 0) rfl
    go_wp2_with fail
    try rw [HEX.out]
    have HP := hide (pparse_any l (by have := HL.out; omega) _ S6.out.env)
    refine HP.out.mono ?_
    rintro e w7 ⟨hb7, ⟨b, m, hb, hm, hgb, hlb, rfl⟩ | ⟨hno, rfl⟩⟩
    · have X8 := hide (Blk.new w7 46 #[.int .u32 (b : Int), .int .i64 (m : Int)])
      have S8 := hide ((S6.out.below hb7).box (.cells #[.int .u32 (b : Int), .int .i64 (m : Int)] 46))
      have f1 := hide (show ((str (textL b (m : Int))).toList != (str l).toList) = false by rw [hlb]; simp)
      have g1 := hide (show ((str (textL b (m : Int))).toList == (str l).toList) = true by rw [hlb]; simp)
      have HRX := hide (refPText_any b (m : Int) hb (by omega) (by omega))
      unfold pfx at HRX
      unfold pfx
      clear hb7 hlb c0 c1 d0 d1
      have HPD := hide (PAddr_any l (by have := HL.out; omega) _ S8.out.env)
      go_wp2_with fail
      refine HPD.out.mono ?_
      rintro e w9 ⟨hb9, ⟨c, hc, hlc, rfl⟩ | ⟨hno2, rfl⟩⟩
      all_goals
        first | (have HLC := hide hlc; clear hlc) | (have HN2 := hide hno2; clear hno2)
        have S9 := hide (S8.out.below hb9)
        have X9 := hide (X8.out.below hb9 (by simp))
        have d0 := blk_read X9.out (i := 0) (v := .int .u32 (b : Int)) rfl
        have d1 := blk_read X9.out (i := 1) (v := .int .i64 (m : Int)) rfl
        clear hb9
        go_wp2_with fail
        refine (HRX.out _).mono ?_
        rintro e w10 ⟨rfl, hb10⟩
        have S10 := hide (S9.out.below hb10)
        clear hb10 d0 d1
        have f1' := f1.out
        have g1' := g1.out
      · have f2 : ((str (addrL c)).toList == (str l).toList) = true := by rw [HLC.out]; simp
        have HRC := hide (refAddr_any c hc)
        go_wp2_with fail
        refine (HRC.out _).mono ?_
        rintro e w12 ⟨rfl, rfl⟩
        have f3 := f2
        clear f2
        go_wp2_with fail
        refine (plives_any _ S10.out.env.tab).mono ?_
        rintro e w13 ⟨rfl, hb13⟩
        go_wp2
        go_ret
        exact ⟨rfl, S10.out.bel.trans (hb13.mono S10.out.bel.size)⟩
      · have f2 : ((str l).toList != (str (addrL a)).toList) = true := by
          unfold bne; rw [str_beq, beq_eq_false_iff_ne.2 (HN2.out a ha)]; rfl
        have f3 : ((str l).toList == (str (addrL a)).toList) = false := by
          rw [str_beq, beq_eq_false_iff_ne.2 (HN2.out a ha)]
        have c0 := blk_read S10.out.blk (i := 0) (v := .int .u32 (a : Int)) rfl
        go_wp2_with fail
        refine (HRA.out _).mono ?_
        rintro e w12 ⟨rfl, rfl⟩
        go_wp2_with fail
        refine (plives_any _ S10.out.env.tab).mono ?_
        rintro e w13 ⟨rfl, hb13⟩
        go_wp2
        go_ret
        exact ⟨rfl, S10.out.bel.trans (hb13.mono S10.out.bel.size)⟩
    · have X8 := hide (Blk.new w7 46 #[.int .u32 0, .int .i64 0])
      have S8 := hide ((S6.out.below hb7).box (.cells #[.int .u32 0, .int .i64 0] 46))
      unfold pfx
      have HNO := hide hno
      clear hb7 hno c0 c1 d0 d1
      have HPD := hide (PAddr_any l (by have := HL.out; omega) _ S8.out.env)
      go_wp2_with fail
      refine HPD.out.mono ?_
      rintro e w9 ⟨hb9, ⟨c, hc, hlc, rfl⟩ | ⟨hno2, rfl⟩⟩
      all_goals
        first | (have HLC := hide hlc; clear hlc) | (have HN2 := hide hno2; clear hno2)
        have S9 := hide (S8.out.below hb9)
        have X9 := hide (X8.out.below hb9 (by simp))
        have d0 := blk_read X9.out (i := 0) (v := .int .u32 0) rfl
        have d1 := blk_read X9.out (i := 1) (v := .int .i64 0) rfl
        have c0 := blk_read S9.out.blk (i := 0) (v := .int .u32 (a : Int)) rfl
        have c1 := blk_read S9.out.blk (i := 1) (v := .int .i64 n) rfl
        clear hb9
        go_wp2_with fail
        refine (HG.out _).mono ?_
        rintro e w10 ⟨rfl, hb10⟩
        have S10 := hide (S9.out.below hb10)
        clear hb10 d0 d1 c0 c1
      · have f2 : ((str (addrL c)).toList == (str l).toList) = true := by rw [HLC.out]; simp
        have HRC := hide (refAddr_any c hc)
        go_wp2_with fail
        refine (HRC.out _).mono ?_
        rintro e w12 ⟨rfl, rfl⟩
        have f3 := f2
        clear f2
        go_wp2_with fail
        refine (plives_any _ S10.out.env.tab).mono ?_
        rintro e w13 ⟨rfl, hb13⟩
        go_wp2
        go_ret
        exact ⟨rfl, S10.out.bel.trans (hb13.mono S10.out.bel.size)⟩
      · have f2 : ((str l).toList != (str (addrL a)).toList) = true := by
          unfold bne; rw [str_beq, beq_eq_false_iff_ne.2 (HN2.out a ha)]; rfl
        have f3 : ((str l).toList == (str (addrL a)).toList) = false := by
          rw [str_beq, beq_eq_false_iff_ne.2 (HN2.out a ha)]
        have c0 := blk_read S10.out.blk (i := 0) (v := .int .u32 (a : Int)) rfl
        go_wp2_with fail
        refine (HRA.out _).mono ?_
        rintro e w12 ⟨rfl, rfl⟩
        go_wp2_with fail
        refine (plives_any _ S10.out.env.tab).mono ?_
        rintro e w13 ⟨rfl, hb13⟩
        go_wp2
        go_ret
        exact ⟨rfl, S10.out.bel.trans (hb13.mono S10.out.bel.size)⟩

theorem prefixTexts_any (a : Nat) (n : Int) (s : ByteArray) (ha : a < 4294967296) (h1 : -9223372036854775808 ≤ n) (h2 : n ≤ 9223372036854775807) (hs : s.size ≤ maxLen) (w : World) (he : Env w) :
    Calls Tryd.prog 16 #[pfx a n, .string s] w (GoodP true w) := by
  obtain ⟨l, hl, hh⟩ : ∃ l : List UInt8, l.length ≤ 60 ∧ (s.size ≤ 60 ∧ s = str l ∨ 60 < s.size ∧ s.size ≤ 9223372036854775807 ∧ s.extract 0 60 = str l) := by
    unfold maxLen at hs
    by_cases h : s.size ≤ 60
    · exact ⟨s.data.toList, by show s.data.toList.length ≤ 60; rw [Array.length_toList]; exact h, .inl ⟨h, (str_of s).symm⟩⟩
    · exact ⟨(s.extract 0 60).data.toList, by simp; omega, .inr ⟨by omega, by omega, (str_of _).symm⟩⟩
  cases hg : goodB a n
  · exact prefixTexts_bad a n s l ha h1 h2 hl hh hg w he
  · exact prefixTexts_good a n s l ha h1 h2 hl hh hg w he
end Go.Proofs.YtiibglkiakhfgaaDoor
