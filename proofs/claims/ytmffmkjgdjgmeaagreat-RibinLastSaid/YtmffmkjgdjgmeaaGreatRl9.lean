import Derived.Test.YtmffmkjgdjgmeaaGreatRl8
set_option linter.unusedSimpArgs false
set_option linter.unusedVariables false
namespace Go.Proofs.YtmffmkjgdjgmeaaGreat
open Go.RowKit Go.WideShapes Go.ChangeShapes
attribute [local go_sem] Oper.semAt_some
set_option maxRecDepth 100000 in
set_option maxHeartbeats 32000000 in
theorem cutA_any {α : Type} {F : Nat → Prop} {R : World → List Value → α → Prop} (a n : Nat) : ∀ (t : Tr α) (w : World), PG a n → TrA 9 319 F R w t → (trGet a n t).isSome = true → trCnt t < 100000000 →
    Calls Tryz.prog 354 #[trPtr t, .agg #[.int .u32 (a : Int), .int .i64 (n : Int)]] w fun e w' => ∃ t2, e = .returned (trPtr t2) ∧ CutR a n t t2 ∧ TrA 9 319 F R w' t2 ∧ (∀ k ∈ trB t2, k ∈ trB t) ∧ ChgS (fun k => k ∈ trB t) w w'
  | .nil, w, _, _, h, _ => by simp [trGet] at h
  | .nd b p m v l r, w, hPa, h, hgs, hcn => by
      have IHl := cutA_any (F := F) (R := R) a n l; have IHr := cutA_any (F := F) (R := R) a n r; obtain ⟨vs, hd⟩ := h.node; obtain ⟨v0, v1, v2, v3, v4, v5, v6, v7, v8, rfl⟩ := lenA hd.len; have HD := hide hd; have hPn := hd.wf.1; obtain ⟨w0, hw0⟩ : ∃ w0, w.alloc (.cells #[.int .u32 (a : Int), .int .i64 (n : Int)] 24) = w0 := ⟨_, rfl⟩
      have hb0 : Below w.heap.size w w0 := hw0 ▸ blkBelow1 w _; have HX : Hid (Blk w0 w.heap.size 24 #[.int .u32 (a : Int), .int .i64 (n : Int)]) := hide (hw0 ▸ Blk.new w _ _); have HN := hide (hd.blk.below hb0 hd.blk.lt); have HB := hide hb0; have HW0 := hide hw0; have HPa := hide hPa; have HPn := hide hPn; have hcn2 : trCnt l + trCnt r < 100000000 := (by simp only [trCnt] at hcn; omega)
      have HCn := hide hcn2; have hPn32 := hPn.2.1; have HGs := hide hgs; obtain ⟨cn, hcn3⟩ : ∃ c, trCnt l + trCnt r + (if v.isSome then 1 else 0) = c := ⟨_, rfl⟩
      rw [hcn3] at HN; clear hw0 hb0 hd h hcn hcn2 hcn3 hgs; show Calls Tryz.prog 354 #[.pointer (some ⟨b, 0, none⟩), .agg #[.int .u32 (a : Int), .int .i64 (n : Int)]] w _
      go_enter Tryz.func354, Tryz.ntmps354
      go_upto_region 1 with fail
      rw [HW0.out]; by_cases he : p = a ∧ m = n
      · obtain rfl : a = p := he.1.symm; obtain rfl : n = m := he.2.symm; clear he; have Hmn := hide (show AllMono [(isV (ptv b 0)), (isV (ptv b 0)), (isV (ptv b 0)), (isV (.agg #[.int .u32 (a : Int), .int .i64 (n : Int)])), (isV (.agg #[.int .u32 (a : Int), .int .i64 (n : Int)])), (isV (.bool true))] from by repeat (first | exact trivial | refine ⟨fun _ _ _ _ h => h, ?_⟩)); refine wp_region_rel _ (by kernel_rfl) (by kernel_rfl) (relMono _ Hmn.out) ⟨?_, ?_, ?_, ?_, ?_, ?_, trivial⟩ ?_
        · exact relStep_plain rfl fun Ac w5 hp => pureM (ptv b 0) 0 (hp.out 0 (by rfl))
        · exact relStep_plain rfl fun Ac w5 hp => pureM (ptv b 0) 7 (hp.d 0)
        · exact relStep_plain rfl fun Ac w5 hp => pureM (ptv b 0) 8 (hp.d 1)
        · refine relStep_plain rfl ?_; intro Ac w5 hp; have hb := hp.bel; have hk5 := HN.out.below hb HN.out.lt; have y0 : w5.cell? ⟨b, 0, none⟩ = some (.int .u32 (a : Int)) := hk5.cell 0; have y1 : w5.cell? ⟨b, 1, none⟩ = some (.int .i64 (n : Int)) := hk5.cell 1; exact pure1 (.agg #[.int .u32 (a : Int), .int .i64 (n : Int)]) 9 (ptv b 0) (hp.d 2)
        · refine relStep_plain rfl ?_; intro Ac w5 hp; have hb := hp.bel; have hk5 := HN.out.below hb HN.out.lt; have hx5 := HX.out.below hb HX.out.lt; have x0 : w5.cell? ⟨w.heap.size, 0, none⟩ = some (.int .u32 (a : Int)) := hx5.cell 0; have x1 : w5.cell? ⟨w.heap.size, 1, none⟩ = some (.int .i64 (n : Int)) := hx5.cell 1; exact pure1 (.agg #[.int .u32 (a : Int), .int .i64 (n : Int)]) 3 (ptv w.heap.size 0) (hp.out 3 (by rfl))
        · exact relStep_plain rfl fun Ac w5 hp => pure2 (.bool true) 10 (.agg #[.int .u32 (a : Int), .int .i64 (n : Int)]) (hp.d 3) 11 (.agg #[.int .u32 (a : Int), .int .i64 (n : Int)]) (hp.d 4)
        intro u w4 hb7 hall; have e12 : u 5 = .bool true := relAll_at hall (i := 5) (by decide +kernel); clear hall; simp only [List.drop_succ_cons, List.drop_zero, List.take_succ_cons, List.take_zero, putAll, Act.put, List.setIfInBounds_toArray, List.set_cons_zero, List.set_cons_succ, Nat.zero_add, Nat.reduceAdd, e12]; have HB4 := hide (btr HB.out hb7); have HN4w := HN.out.below hb7 HN.out.lt; obtain ⟨w4a, hw4a⟩ : ∃ W, w4.alloc (.cells zeroA 28) = W := ⟨_, rfl⟩
        have HZa : Hid (Blk w4a w4.heap.size 28 zeroA) := hide (hw4a ▸ Blk.new w4 _ _); have HN4 : Hid (Blk w4a b 319 _) := hide (hw4a ▸ HN4w.alloc _); have HB4a : Hid (Below w.heap.size w w4a) := hide (hw4a ▸ HB4.out.alloc HB4.out.size _); have HW4a := hide hw4a; clear hw4a HN4w hb7 HB HN HX
        go_upto_region 3 with fail
        rw [HW4a.out]; obtain ⟨z0, z1, z2, z3, z4, z5, z6, z7, z8⟩ := blk9 HZa.out; have q0 : w4a.cell? ⟨b, 2, none⟩ = some v0 := HN4.out.cell 2; have q1 : w4a.cell? ⟨b, 3, none⟩ = some v1 := HN4.out.cell 3; have q2 : w4a.cell? ⟨b, 4, none⟩ = some v2 := HN4.out.cell 4; have q3 : w4a.cell? ⟨b, 5, none⟩ = some v3 := HN4.out.cell 5; have q4 : w4a.cell? ⟨b, 6, none⟩ = some v4 := HN4.out.cell 6; have q5 : w4a.cell? ⟨b, 7, none⟩ = some v5 := HN4.out.cell 7; have q6 : w4a.cell? ⟨b, 8, none⟩ = some v6 := HN4.out.cell 8; have q7 : w4a.cell? ⟨b, 9, none⟩ = some v7 := HN4.out.cell 9; have q8 : w4a.cell? ⟨b, 10, none⟩ = some v8 := HN4.out.cell 10; have yp : w4a.cell? ⟨b, 11, none⟩ = some (.bool v.isSome) := HN4.out.cell 11; have zf := fun i => HN4.out.frozen i
        go_upto_region 6 with fail
        change Code.wp _ _ _ _ ((w4a.setCells b 2 [.int .i64 0, .int .i64 0, .slice none 0 0, .int .u32 0, .int .u32 0, .int .u32 0, .int .u32 0, .int .u32 0, .slice none 0 0]).setCell ⟨b, 11, none⟩ (.bool false)); obtain ⟨w5, hw5⟩ : ∃ W, (w4a.setCells b 2 [.int .i64 0, .int .i64 0, .slice none 0 0, .int .u32 0, .int .u32 0, .int .u32 0, .int .u32 0, .int .u32 0, .slice none 0 0]).setCell ⟨b, 11, none⟩ (.bool false) = W := ⟨_, rfl⟩
        have hN4a : Blk (w4a.setCells b 2 [.int .i64 0, .int .i64 0, .slice none 0 0, .int .u32 0, .int .u32 0, .int .u32 0, .int .u32 0, .int .u32 0, .slice none 0 0]) b 319 (ndC a n [.int .i64 0, .int .i64 0, .slice none 0 0, .int .u32 0, .int .u32 0, .int .u32 0, .int .u32 0, .int .u32 0, .slice none 0 0] v.isSome cn (trPtr l) (trPtr r)) := blk_setsM [.bool v.isSome, .int .i64 (cn : Int), trPtr l, trPtr r] [.int .i64 0, .int .i64 0, .slice none 0 0, .int .u32 0, .int .u32 0, .int .u32 0, .int .u32 0, .int .u32 0, .slice none 0 0] [.int .u32 (a : Int), .int .i64 (n : Int)] [v0, v1, v2, v3, v4, v5, v6, v7, v8] HN4.out rfl; have HN5 : Hid (Blk w5 b 319 (ndC a n [.int .i64 0, .int .i64 0, .slice none 0 0, .int .u32 0, .int .u32 0, .int .u32 0, .int .u32 0, .int .u32 0, .slice none 0 0] false cn (trPtr l) (trPtr r))) := hide (hw5 ▸ hN4a.set_ 11 _); have HC5 : Hid (ChgS (fun k => k = b) w w5) := hide (hw5 ▸ chg_trans (chg_trans (chg_below HB4a.out) (chg_sets (S := fun k => k = b) rfl [.int .i64 0, .int .i64 0, .slice none 0 0, .int .u32 0, .int .u32 0, .int .u32 0, .int .u32 0, .int .u32 0, .slice none 0 0] 2) (fun k h => .inl h)) (chg_set (S := fun k => k = b) (p := ⟨b, 11, none⟩) rfl _) (fun k h => .inl h)); have hFb : ∀ k, F k → ¬ (k = b) := fun k h e => HD.out.bf (e ▸ h); have HNt := hide (leanA_any (F := F) (R := R) b a n [.int .i64 0, .int .i64 0, .slice none 0 0, .int .u32 0, .int .u32 0, .int .u32 0, .int .u32 0, .int .u32 0, .slice none 0 0] ⟨rfl, by simp [Value.oneCell']⟩ none cn l r w5 (fun t ht => by rcases ht with rfl | rfl; exact HD.out.bl; exact HD.out.br) HN5.out (HD.out.left.chg HC5.out (fun k hk e => HD.out.bl (e ▸ hk)) hFb).mem (HD.out.right.chg HC5.out (fun k hk e => HD.out.br (e ▸ hk)) hFb).mem (by have := HCn.out; omega)); have HFb := hide hFb; rw [hw5]; clear hw5 hN4a hFb yp zf q0 q1 q2 q3 q4 q5 q6 q7 q8 z0 z1 z2 z3 z4 z5 z6 z7 z8
        go_wp2_with fail
        refine HNt.out.mono ?_; rintro e w6 ⟨rfl, hc6, hk6⟩; have HK6 := hide hk6; have HC6 : Hid (ChgS (fun k => k = b) w w6) := hide (chg_trans HC5.out hc6 (fun k h => .inl h)); clear hk6 hc6; go_wp2; go_ret; have hl6 := HD.out.left.chg HC6.out (fun k hk e => HD.out.bl (e ▸ hk)) HFb.out; have hr6 := HD.out.right.chg HC6.out (fun k hk e => HD.out.br (e ▸ hk)) HFb.out; obtain ⟨hT, hS⟩ := nd_lean (v := none) (b := b) (p := a) (m := n) hl6 hr6 (fun e => NdA.tree (vs := [.int .i64 0, .int .i64 0, .slice none 0 0, .int .u32 0, .int .u32 0, .int .u32 0, .int .u32 0, .int .u32 0, .slice none 0 0]) ⟨⟨rfl, by simp [Value.oneCell']⟩, HK6.out e, fun y hy => (by cases hy), hl6, hr6, HD.out.wf, HD.out.bl, HD.out.br, HD.out.bf, HD.out.lr⟩); exact ⟨_, rfl, cut_lean (cut_here HD.out.wf), hT, hS, chg_mono HC6.out (fun k h => .inl (by simp [trB, h]))⟩
      have HNe := hide (show (p : Int) = (a : Int) → ¬ (m : Int) = (n : Int) from fun h1 h2 => he ⟨by omega, by omega⟩); have HE := hide he
      have hcv : CvN p m a n := by
        have h := HGs.out; unfold trGet at h; split at h
        · assumption
        · simp at h
      have hlt : m < n := Nat.lt_of_le_of_ne hcv.1 fun e => he ⟨cvN_same hcv HPa.out e, e⟩; have hPa32 := HPa.out.2.1; have HCvP := hide hcv; have HSd := hide (fun W => side_any p m a n HPa.out.1 (by omega) W); clear he hcv; have Hmn := hide (show AllMono [(isV (ptv b 0)), (isV (ptv b 0)), (isV (ptv b 0)), (isV (.agg #[.int .u32 (p : Int), .int .i64 (m : Int)])), (isV (.agg #[.int .u32 (a : Int), .int .i64 (n : Int)])), (isV (.bool false))] from by repeat (first | exact trivial | refine ⟨fun _ _ _ _ h => h, ?_⟩)); refine wp_region_rel _ (by kernel_rfl) (by kernel_rfl) (relMono _ Hmn.out) ⟨?_, ?_, ?_, ?_, ?_, ?_, trivial⟩ ?_
      · exact relStep_plain rfl fun Ac w5 hp => pureM (ptv b 0) 0 (hp.out 0 (by rfl))
      · exact relStep_plain rfl fun Ac w5 hp => pureM (ptv b 0) 7 (hp.d 0)
      · exact relStep_plain rfl fun Ac w5 hp => pureM (ptv b 0) 8 (hp.d 1)
      · refine relStep_plain rfl ?_; intro Ac w5 hp; have hb := hp.bel; have hk5 := HN.out.below hb HN.out.lt; have y0 : w5.cell? ⟨b, 0, none⟩ = some (.int .u32 (p : Int)) := hk5.cell 0; have y1 : w5.cell? ⟨b, 1, none⟩ = some (.int .i64 (m : Int)) := hk5.cell 1; exact pure1 (.agg #[.int .u32 (p : Int), .int .i64 (m : Int)]) 9 (ptv b 0) (hp.d 2)
      · refine relStep_plain rfl ?_; intro Ac w5 hp; have hb := hp.bel; have hk5 := HN.out.below hb HN.out.lt; have hx5 := HX.out.below hb HX.out.lt; have x0 : w5.cell? ⟨w.heap.size, 0, none⟩ = some (.int .u32 (a : Int)) := hx5.cell 0; have x1 : w5.cell? ⟨w.heap.size, 1, none⟩ = some (.int .i64 (n : Int)) := hx5.cell 1; exact pure1 (.agg #[.int .u32 (a : Int), .int .i64 (n : Int)]) 3 (ptv w.heap.size 0) (hp.out 3 (by rfl))
      · refine relStep_plain rfl ?_; intro Ac w5 hp; have a10 : Ac.eval (.tmp 10) = .agg #[.int .u32 (p : Int), .int .i64 (m : Int)] := hp.d 3; have a11 : Ac.eval (.tmp 11) = .agg #[.int .u32 (a : Int), .int .i64 (n : Int)] := hp.d 4; exact relPureX (.bool false) (fun ρ hρ h1 h2 h3 => by rw [hρ] at a10 a11; simp [go_sem, ↓IntWalk.iteOmega, *] <;> exact HNe.out) rfl
      intro u w4 hb7 hall; have e12 : u 5 = .bool false := relAll_at hall (i := 5) (by decide +kernel); clear hall; simp only [List.drop_succ_cons, List.drop_zero, List.take_succ_cons, List.take_zero, putAll, Act.put, List.setIfInBounds_toArray, List.set_cons_zero, List.set_cons_succ, Nat.zero_add, Nat.reduceAdd, e12]; have HB4 := hide (btr HB.out hb7); have HN4 := hide (HN.out.below hb7 HN.out.lt); have HX4 := hide (HX.out.below hb7 HX.out.lt); clear hb7 HB HN HX; have HB := hide HB4.out; have HN := hide HN4.out; have HX := hide HX4.out; clear HB4 HN4 HX4; rcases bitN_01 a m with hbit | hbit
      all_goals
        have HBit := hide hbit
        have HGk : Hid ((if bitN a m = 0 then trGet a n l else trGet a n r).isSome = true) := hide (by
          have h := HGs.out; rw [trGet, if_pos HCvP.out, if_neg HE.out] at h; exact h)
        rw [hbit] at HGk; clear hbit
        first | (rw [if_pos rfl] at HGk) | (rw [if_neg (by decide)] at HGk)
      · go_upto_region 4 with fail
        have Hmn := hide (show AllMono [(isV (ptv b 0)), (isV (ptv b 0)), (isV (ptv b 0)), (isV (ptv b 0)), (isV (.agg #[.int .u32 (p : Int), .int .i64 (m : Int)])), (isV (.agg #[.int .u32 (a : Int), .int .i64 (n : Int)])), (isV (.int .i64 0)), (isV (ptv b 0)), (isV (ptv b 13)), (isV (ptv b 13))] from by repeat (first | exact trivial | refine ⟨fun _ _ _ _ h => h, ?_⟩)); refine wp_region_relT 10 _ (by kernel_rfl) (by kernel_rfl) (by kernel_rfl) (by kernel_rfl) (by kernel_rfl) (relMono _ Hmn.out) ⟨?_, ?_, ?_, ?_, ?_, ?_, ?_, ?_, ?_, ?_, trivial⟩ ?_
        · exact relStep_plain rfl fun Ac w5 hp => pureM (ptv b 0) 0 (hp.out 0 (by rfl))
        · exact relStep_plain rfl fun Ac w5 hp => pureM (ptv b 0) 0 (hp.out 0 (by rfl))
        · exact relStep_plain rfl fun Ac w5 hp => pureM (ptv b 0) 21 (hp.d 1)
        · exact relStep_plain rfl fun Ac w5 hp => pureM (ptv b 0) 22 (hp.d 2)
        · refine relStep_plain rfl ?_; intro Ac w5 hp; have hb := hp.bel; have hk5 := HN.out.below hb HN.out.lt; have y0 : w5.cell? ⟨b, 0, none⟩ = some (.int .u32 (p : Int)) := hk5.cell 0; have y1 : w5.cell? ⟨b, 1, none⟩ = some (.int .i64 (m : Int)) := hk5.cell 1; exact pure1 (.agg #[.int .u32 (p : Int), .int .i64 (m : Int)]) 23 (ptv b 0) (hp.d 3)
        · refine relStep_plain rfl ?_; intro Ac w5 hp; have hb := hp.bel; have hk5 := HN.out.below hb HN.out.lt; have hx5 := HX.out.below hb HX.out.lt; have x0 : w5.cell? ⟨w.heap.size, 0, none⟩ = some (.int .u32 (a : Int)) := hx5.cell 0; have x1 : w5.cell? ⟨w.heap.size, 1, none⟩ = some (.int .i64 (n : Int)) := hx5.cell 1; exact pure1 (.agg #[.int .u32 (a : Int), .int .i64 (n : Int)]) 3 (ptv w.heap.size 0) (hp.out 3 (by rfl))
        · refine relStep_plain rfl ?_; intro Ac w5 hp; have a24 : Ac.eval (.tmp 24) = .agg #[.int .u32 (p : Int), .int .i64 (m : Int)] := hp.d 4; have a25 : Ac.eval (.tmp 25) = .agg #[.int .u32 (a : Int), .int .i64 (n : Int)] := hp.d 5; obtain ⟨ρ, hρ, hc, hf, hgl⟩ := evalX Ac; rw [hρ] at a24 a25; refine relCall hρ 257 #[.agg #[.int .u32 (p : Int), .int .i64 (m : Int)], .agg #[.int .u32 (a : Int), .int .i64 (n : Int)]] (by simp [go_sem, ↓IntWalk.iteOmega, *]) ?_; refine (HSd.out w5).mono ?_; rintro e w6 ⟨rfl, hb6⟩; exact ⟨_, rfl, by rw [HBit.out]; rfl, hb6⟩
        · exact relStep_plain rfl fun Ac w5 hp => pureM (ptv b 0) 20 (hp.d 0)
        · exact relStep_plain rfl fun Ac w5 hp => pure1 (ptv b 13) 27 (ptv b 0) (hp.d 7)
        · exact relStep_plain rfl fun Ac w5 hp => pure2 (ptv b 13) 28 (ptv b 13) (hp.d 8) 26 (.int .i64 0) (hp.d 6)
        intro u w8 hb7 hall; have e29 : u 9 = .pointer (some ⟨b, 13, none⟩) := relAll_at hall (i := 9) (by decide +kernel); clear hall; simp only [List.drop_succ_cons, List.drop_zero, List.take_succ_cons, List.take_zero, putAll, Act.put, List.setIfInBounds_toArray, List.set_cons_zero, List.set_cons_succ, Nat.zero_add, Nat.reduceAdd, e29]; have HB8 := hide (btr HB.out hb7); have HN8 := hide (HN.out.below hb7 HN.out.lt); have HN8k := hide (HN.out.below hb7 HN.out.lt); have HX8 := hide (HX.out.below hb7 HX.out.lt); clear hb7 HB HN HX; have HB := hide HB8.out; have HN := hide HN8.out; have HX := hide HX8.out; clear HB8 HN8 HX8; have HCk : Hid (trCnt l < 100000000) := hide (by have := HCn.out; omega); have HRec := hide (fun W (hb : Below w8.heap.size w8 W) => IHl W HPa.out (HD.out.left.chg (S := fun _ => False) (chg_below (btr HB.out hb)) (by simp) (by simp)) HGk.out HCk.out)
        go_upto_region 5 with fail
        refine wp_region_relH 7 0 (Nat.zero_le _) [(fun v _ => v = .pointer (some ⟨b, 13, none⟩)), (fun v _ => v = .pointer (some ⟨b, 13, none⟩)), (fun v _ => v = .pointer (some ⟨b, 13, none⟩)), (fun v _ => v = trPtr l), (fun v _ => v = .agg #[.int .u32 (a : Int), .int .i64 (n : Int)]), (fun v W => ∃ t2, v = trPtr t2 ∧ CutR a n l t2 ∧ TrA 9 319 F R W t2 ∧ (∀ k ∈ trB t2, k ∈ trB l) ∧ ChgS (fun k => k ∈ trB l) w8 W), (fun v _ => v = .pointer (some ⟨b, 13, none⟩))] (fun i W => (1 ≤ i ∧ i ≤ 5) → Below w8.heap.size w8 W) (fun i Wa Wb => if i = 5 then Below 0 Wa Wb else Below Wa.heap.size Wa Wb) (by kernel_rfl) (by kernel_rfl) (by kernel_rfl) (by kernel_rfl) (by kernel_rfl) ?hE ?hR ?hP ?h0 ⟨?_, ?_, ?_, ?_, ?_, ?_, ?_, trivial⟩ ?_
        case hE =>
          intro i2 wa wb hB he; split at he
          · exact he
          · exact he.mono (Nat.zero_le _)
        case hR =>
          intro i2 j2 vz wa wb hij hB he h; split at he
          · rename_i hj2; subst hj2; refine keepAll_at (E := fun wa wb => Below 0 wa wb) (x := 5) (k := 0) ?_ (by omega) he h; exact ⟨fun _ v wa wb he h => h, fun _ v wa wb he h => h, fun _ v wa wb he h => h, fun _ v wa wb he h => h, fun _ v wa wb he h => h, fun hn => absurd rfl hn, fun _ v wa wb he h => h, trivial⟩
          · refine relMono _ ?_ i2 vz wa wb he h; exact ⟨fun _ _ _ _ h => h, fun _ _ _ _ h => h, fun _ _ _ _ h => h, fun _ _ _ _ h => h, fun _ _ _ _ h => h, fun v wa wb hb ⟨t2, e, h1, h2, h3, h4⟩ => ⟨t2, e, h1, h2.chg (S := fun _ => False) (chg_below hb) (by simp) (by simp), h3, chg_trans h4 (chg_below (S := fun _ => False) hb) (fun k h => h.elim)⟩, fun _ _ _ _ h => h, trivial⟩
        case hP =>
          intro i2 j2 wa wb hij hnb hB he h hi; split at he
          · rename_i hj2; subst hj2; have hi3 : i2 = 1 ∨ i2 = 2 ∨ i2 = 3 ∨ i2 = 4 ∨ i2 = 5 := (by omega)
            rcases hi3 with rfl | rfl | rfl | rfl | rfl
            all_goals first | exact absurd rfl hij | exact absurd hnb (by decide +kernel)
          · exact (h hi).trans (he.mono (h hi).size)
        case h0 =>
          intro j2 hj2 _; exact (Below.refl _ _).drew
        · exact relG_plain rfl rfl (fun _ _ h => h) fun Ac w5 hp => pureM (ptv b 13) 6 (hp.out 6 (by rfl))
        · exact relG_plain rfl rfl (fun _ _ h => h) fun Ac w5 hp => pureM (ptv b 13) 6 (hp.out 6 (by rfl))
        · exact relG_plain rfl rfl (fun _ _ h => h) fun Ac w5 hp => pureM (ptv b 13) 31 (hp.d 1)
        · refine relG_plain rfl rfl (fun _ _ h => h) ?_; intro Ac w5 hp; have hb := hp.bel; have hb := hp.pre ⟨by decide, by decide⟩; have hk5 := HN.out.below hb HN.out.lt; have y5 : w5.cell? ⟨b, 13, none⟩ = some (trPtr l) := hk5.cell 13; exact pure1 (trPtr l) 32 (ptv b 13) (hp.d 2)
        · refine relG_plain rfl rfl (fun _ _ h => h) ?_; intro Ac w5 hp; have hb := hp.bel; have hb := hp.pre ⟨by decide, by decide⟩; have hx5 := HX.out.below hb HX.out.lt; have x0 : w5.cell? ⟨w.heap.size, 0, none⟩ = some (.int .u32 (a : Int)) := hx5.cell 0; have x1 : w5.cell? ⟨w.heap.size, 1, none⟩ = some (.int .i64 (n : Int)) := hx5.cell 1; exact pure1 (.agg #[.int .u32 (a : Int), .int .i64 (n : Int)]) 3 (ptv w.heap.size 0) (hp.out 3 (by rfl))
        · refine relG_enter rfl rfl ?_; intro Ac w5 hp; have hb := hp.bel; have a33 : Ac.eval (.tmp 33) = trPtr l := hp.d 3; have a34 : Ac.eval (.tmp 34) = .agg #[.int .u32 (a : Int), .int .i64 (n : Int)] := hp.d 4; obtain ⟨ρ, hρ, hc, hf, hgl⟩ := evalX Ac; rw [hρ] at a33 a34; refine ⟨354, #[trPtr l, .agg #[.int .u32 (a : Int), .int .i64 (n : Int)]], by rw [hρ]; simp [go_sem, hc, hf, hgl, ↓IntWalk.iteOmega, a33, a34, *], ?_⟩; have hb := hp.pre ⟨by decide, by decide⟩; refine (HRec.out w5 hb).mono ?_; rintro e w6 ⟨t2, rfl, h1, h2, h3, h4⟩; refine ⟨_, rfl, ⟨t2, rfl, h1, h2, h3, chg_trans (chg_below hb) h4 (fun k h => .inl h)⟩, by show Below 0 w5 w6; exact ⟨h4.os, h4.tape, h4.output, h4.size, fun k hk => absurd hk (Nat.not_lt_zero k)⟩⟩
        · exact relG_plain rfl rfl (fun _ _ h => h) fun Ac w5 hp => pureM (ptv b 13) 30 (hp.d 0)
        intro u w9 hb7 hall; obtain ⟨t57, e35, h57a, h57b, h57c, h57d⟩ := relAll_at hall (i := 5) (by decide +kernel); change u 5 = _ at e35; have e36 : u 6 = .pointer (some ⟨b, 13, none⟩) := relAll_at hall (i := 6) (by decide +kernel); clear hall; simp only [List.drop_succ_cons, List.drop_zero, List.take_succ_cons, List.take_zero, putAll, Act.put, List.setIfInBounds_toArray, List.set_cons_zero, List.set_cons_succ, Nat.zero_add, Nat.reduceAdd, e35, e36]; have HN9 : Hid (Blk w9 b 319 (ndC p m [v0, v1, v2, v3, v4, v5, v6, v7, v8] v.isSome cn (trPtr l) (trPtr r))) := hide (chg_blk h57d HN8k.out HD.out.bl); have z9 : w9.cell? ⟨b, 13, none⟩ = some (trPtr l) := HN9.out.cell 13; have zf9 := HN9.out.frozen 13; obtain ⟨q57, hq57⟩ := trPtr_ptr t57; rw [hq57]; obtain ⟨w10, hw10p⟩ : ∃ W, w9.setCell ⟨b, 13, none⟩ (.pointer q57) = W := ⟨_, rfl⟩
        have hw10 : w9.setCell ⟨b, 13, none⟩ (trPtr t57) = w10 := (by rw [hq57]; exact hw10p)
        have HN10 : Hid (Blk w10 b 319 (ndC p m [v0, v1, v2, v3, v4, v5, v6, v7, v8] v.isSome cn (trPtr t57) (trPtr r))) := hide (hw10 ▸ HN9.out.set_ 13 _); have HC10 : Hid (ChgS (fun k => k = b) w9 w10) := hide (hw10 ▸ chg_set (S := fun k => k = b) (p := ⟨b, 13, none⟩) rfl _); have hbt : b ∉ trB t57 := fun h => HD.out.bl (h57c b h); have HbT := hide hbt; have hFb : ∀ k, F k → ¬ (k = b) := fun k h e => HD.out.bf (e ▸ h); have HT10 := hide (h57b.chg HC10.out (fun k hk e => hbt (e ▸ hk)) hFb); have HcA : Hid (ChgS (fun k => k ∈ trB l) w w9) := hide (chg_trans (chg_below HB.out) h57d (fun k h => .inl h)); have HO10 := hide (HD.out.right.chg (S := fun k => k ∈ trB l ∨ k = b) (chg_trans (chg_mono HcA.out (fun k h => .inl (.inl h))) HC10.out (fun k h => .inl (.inr h))) (fun k hk h => h.elim (fun h => HD.out.lr k h hk) (fun e => HD.out.br (e ▸ hk))) (fun k hF h => h.elim (fun h => HD.out.left.far k h hF) (fun e => HD.out.bf (e ▸ hF)))); have hcB : trCnt t57 + 1 = trCnt l := h57a.cnt HGk.out; have HNt := hide (leanA_any (F := F) (R := R) b p m [v0, v1, v2, v3, v4, v5, v6, v7, v8] HD.out.len v cn t57 r w10 (fun t ht => by rcases ht with rfl | rfl; exact HbT.out; exact HD.out.br) HN10.out HT10.out.mem HO10.out.mem (by have := HCn.out; omega)); have HWd := hide hw10p; have HCu := hide h57a; have HSub := hide h57c; have HFb := hide hFb; clear hw10 hw10p hq57 h57a h57b h57c h57d hb7 hbt hFb hcB
        go_upto_region 6 with fail
        rw [HWd.out]; clear z9 zf9
        go_wp2_with fail
        refine HNt.out.mono ?_; rintro e w11 ⟨rfl, hc11, hk11⟩; have HK11 := hide hk11; have HC11 := hide hc11; clear hk11 hc11; go_wp2; go_ret; have hCR := cut_left HD.out.wf HCvP.out HE.out HBit.out HCu.out; have hcW : ChgS (fun k => k ∈ trB l ∨ k = b) w w11 := chg_trans (chg_trans (chg_mono HcA.out (fun k h => .inl (.inl h))) HC10.out (fun k h => .inl (.inr h))) HC11.out (fun k h => .inl (.inr h)); have hT11 := HT10.out.chg HC11.out (fun k hk e => HbT.out (e ▸ hk)) HFb.out; have hO11 := HO10.out.chg HC11.out (fun k hk e => HD.out.br (e ▸ hk)) HFb.out; obtain ⟨hT, hS⟩ := nd_lean (v := v) (b := b) (p := p) (m := m) hT11 hO11 (fun e => (nd_left HD.out hCR.wf HT10.out (fun k hk => .inl (HSub.out k hk)) hcW HC11.out (HK11.out e)).1)
        exact ⟨_, rfl, cut_lean hCR, hT, fun k hk => by
          have h := hS k hk; simp only [trB, List.mem_cons, List.mem_append] at h ⊢; rcases h with h | h | h
          · exact .inl h
          · exact .inr (.inl (HSub.out k h))
          · exact .inr (.inr (h)), ndWhole hcW⟩
      · go_upto_region 4 with fail
        have Hmn := hide (show AllMono [(isV (ptv b 0)), (isV (ptv b 0)), (isV (ptv b 0)), (isV (ptv b 0)), (isV (.agg #[.int .u32 (p : Int), .int .i64 (m : Int)])), (isV (.agg #[.int .u32 (a : Int), .int .i64 (n : Int)])), (isV (.int .i64 1)), (isV (ptv b 0)), (isV (ptv b 13)), (isV (ptv b 14))] from by repeat (first | exact trivial | refine ⟨fun _ _ _ _ h => h, ?_⟩)); refine wp_region_relT 10 _ (by kernel_rfl) (by kernel_rfl) (by kernel_rfl) (by kernel_rfl) (by kernel_rfl) (relMono _ Hmn.out) ⟨?_, ?_, ?_, ?_, ?_, ?_, ?_, ?_, ?_, ?_, trivial⟩ ?_
        · exact relStep_plain rfl fun Ac w5 hp => pureM (ptv b 0) 0 (hp.out 0 (by rfl))
        · exact relStep_plain rfl fun Ac w5 hp => pureM (ptv b 0) 0 (hp.out 0 (by rfl))
        · exact relStep_plain rfl fun Ac w5 hp => pureM (ptv b 0) 21 (hp.d 1)
        · exact relStep_plain rfl fun Ac w5 hp => pureM (ptv b 0) 22 (hp.d 2)
        · refine relStep_plain rfl ?_; intro Ac w5 hp; have hb := hp.bel; have hk5 := HN.out.below hb HN.out.lt; have y0 : w5.cell? ⟨b, 0, none⟩ = some (.int .u32 (p : Int)) := hk5.cell 0; have y1 : w5.cell? ⟨b, 1, none⟩ = some (.int .i64 (m : Int)) := hk5.cell 1; exact pure1 (.agg #[.int .u32 (p : Int), .int .i64 (m : Int)]) 23 (ptv b 0) (hp.d 3)
        · refine relStep_plain rfl ?_; intro Ac w5 hp; have hb := hp.bel; have hk5 := HN.out.below hb HN.out.lt; have hx5 := HX.out.below hb HX.out.lt; have x0 : w5.cell? ⟨w.heap.size, 0, none⟩ = some (.int .u32 (a : Int)) := hx5.cell 0; have x1 : w5.cell? ⟨w.heap.size, 1, none⟩ = some (.int .i64 (n : Int)) := hx5.cell 1; exact pure1 (.agg #[.int .u32 (a : Int), .int .i64 (n : Int)]) 3 (ptv w.heap.size 0) (hp.out 3 (by rfl))
        · refine relStep_plain rfl ?_; intro Ac w5 hp; have a24 : Ac.eval (.tmp 24) = .agg #[.int .u32 (p : Int), .int .i64 (m : Int)] := hp.d 4; have a25 : Ac.eval (.tmp 25) = .agg #[.int .u32 (a : Int), .int .i64 (n : Int)] := hp.d 5; obtain ⟨ρ, hρ, hc, hf, hgl⟩ := evalX Ac; rw [hρ] at a24 a25; refine relCall hρ 257 #[.agg #[.int .u32 (p : Int), .int .i64 (m : Int)], .agg #[.int .u32 (a : Int), .int .i64 (n : Int)]] (by simp [go_sem, ↓IntWalk.iteOmega, *]) ?_; refine (HSd.out w5).mono ?_; rintro e w6 ⟨rfl, hb6⟩; exact ⟨_, rfl, by rw [HBit.out]; rfl, hb6⟩
        · exact relStep_plain rfl fun Ac w5 hp => pureM (ptv b 0) 20 (hp.d 0)
        · exact relStep_plain rfl fun Ac w5 hp => pure1 (ptv b 13) 27 (ptv b 0) (hp.d 7)
        · exact relStep_plain rfl fun Ac w5 hp => pure2 (ptv b 14) 28 (ptv b 13) (hp.d 8) 26 (.int .i64 1) (hp.d 6)
        intro u w8 hb7 hall; have e29 : u 9 = .pointer (some ⟨b, 14, none⟩) := relAll_at hall (i := 9) (by decide +kernel); clear hall; simp only [List.drop_succ_cons, List.drop_zero, List.take_succ_cons, List.take_zero, putAll, Act.put, List.setIfInBounds_toArray, List.set_cons_zero, List.set_cons_succ, Nat.zero_add, Nat.reduceAdd, e29]; have HB8 := hide (btr HB.out hb7); have HN8 := hide (HN.out.below hb7 HN.out.lt); have HN8k := hide (HN.out.below hb7 HN.out.lt); have HX8 := hide (HX.out.below hb7 HX.out.lt); clear hb7 HB HN HX; have HB := hide HB8.out; have HN := hide HN8.out; have HX := hide HX8.out; clear HB8 HN8 HX8; have HCk : Hid (trCnt r < 100000000) := hide (by have := HCn.out; omega); have HRec := hide (fun W (hb : Below w8.heap.size w8 W) => IHr W HPa.out (HD.out.right.chg (S := fun _ => False) (chg_below (btr HB.out hb)) (by simp) (by simp)) HGk.out HCk.out)
        go_upto_region 5 with fail
        refine wp_region_relH 7 0 (Nat.zero_le _) [(fun v _ => v = .pointer (some ⟨b, 14, none⟩)), (fun v _ => v = .pointer (some ⟨b, 14, none⟩)), (fun v _ => v = .pointer (some ⟨b, 14, none⟩)), (fun v _ => v = trPtr r), (fun v _ => v = .agg #[.int .u32 (a : Int), .int .i64 (n : Int)]), (fun v W => ∃ t2, v = trPtr t2 ∧ CutR a n r t2 ∧ TrA 9 319 F R W t2 ∧ (∀ k ∈ trB t2, k ∈ trB r) ∧ ChgS (fun k => k ∈ trB r) w8 W), (fun v _ => v = .pointer (some ⟨b, 14, none⟩))] (fun i W => (1 ≤ i ∧ i ≤ 5) → Below w8.heap.size w8 W) (fun i Wa Wb => if i = 5 then Below 0 Wa Wb else Below Wa.heap.size Wa Wb) (by kernel_rfl) (by kernel_rfl) (by kernel_rfl) (by kernel_rfl) (by kernel_rfl) ?hE ?hR ?hP ?h0 ⟨?_, ?_, ?_, ?_, ?_, ?_, ?_, trivial⟩ ?_
        case hE =>
          intro i2 wa wb hB he; split at he
          · exact he
          · exact he.mono (Nat.zero_le _)
        case hR =>
          intro i2 j2 vz wa wb hij hB he h; split at he
          · rename_i hj2; subst hj2; refine keepAll_at (E := fun wa wb => Below 0 wa wb) (x := 5) (k := 0) ?_ (by omega) he h; exact ⟨fun _ v wa wb he h => h, fun _ v wa wb he h => h, fun _ v wa wb he h => h, fun _ v wa wb he h => h, fun _ v wa wb he h => h, fun hn => absurd rfl hn, fun _ v wa wb he h => h, trivial⟩
          · refine relMono _ ?_ i2 vz wa wb he h; exact ⟨fun _ _ _ _ h => h, fun _ _ _ _ h => h, fun _ _ _ _ h => h, fun _ _ _ _ h => h, fun _ _ _ _ h => h, fun v wa wb hb ⟨t2, e, h1, h2, h3, h4⟩ => ⟨t2, e, h1, h2.chg (S := fun _ => False) (chg_below hb) (by simp) (by simp), h3, chg_trans h4 (chg_below (S := fun _ => False) hb) (fun k h => h.elim)⟩, fun _ _ _ _ h => h, trivial⟩
        case hP =>
          intro i2 j2 wa wb hij hnb hB he h hi; split at he
          · rename_i hj2; subst hj2; have hi3 : i2 = 1 ∨ i2 = 2 ∨ i2 = 3 ∨ i2 = 4 ∨ i2 = 5 := (by omega)
            rcases hi3 with rfl | rfl | rfl | rfl | rfl
            all_goals first | exact absurd rfl hij | exact absurd hnb (by decide +kernel)
          · exact (h hi).trans (he.mono (h hi).size)
        case h0 =>
          intro j2 hj2 _; exact (Below.refl _ _).drew
        · exact relG_plain rfl rfl (fun _ _ h => h) fun Ac w5 hp => pureM (ptv b 14) 6 (hp.out 6 (by rfl))
        · exact relG_plain rfl rfl (fun _ _ h => h) fun Ac w5 hp => pureM (ptv b 14) 6 (hp.out 6 (by rfl))
        · exact relG_plain rfl rfl (fun _ _ h => h) fun Ac w5 hp => pureM (ptv b 14) 31 (hp.d 1)
        · refine relG_plain rfl rfl (fun _ _ h => h) ?_; intro Ac w5 hp; have hb := hp.bel; have hb := hp.pre ⟨by decide, by decide⟩; have hk5 := HN.out.below hb HN.out.lt; have y5 : w5.cell? ⟨b, 14, none⟩ = some (trPtr r) := hk5.cell 14; exact pure1 (trPtr r) 32 (ptv b 14) (hp.d 2)
        · refine relG_plain rfl rfl (fun _ _ h => h) ?_; intro Ac w5 hp; have hb := hp.bel; have hb := hp.pre ⟨by decide, by decide⟩; have hx5 := HX.out.below hb HX.out.lt; have x0 : w5.cell? ⟨w.heap.size, 0, none⟩ = some (.int .u32 (a : Int)) := hx5.cell 0; have x1 : w5.cell? ⟨w.heap.size, 1, none⟩ = some (.int .i64 (n : Int)) := hx5.cell 1; exact pure1 (.agg #[.int .u32 (a : Int), .int .i64 (n : Int)]) 3 (ptv w.heap.size 0) (hp.out 3 (by rfl))
        · refine relG_enter rfl rfl ?_; intro Ac w5 hp; have hb := hp.bel; have a33 : Ac.eval (.tmp 33) = trPtr r := hp.d 3; have a34 : Ac.eval (.tmp 34) = .agg #[.int .u32 (a : Int), .int .i64 (n : Int)] := hp.d 4; obtain ⟨ρ, hρ, hc, hf, hgl⟩ := evalX Ac; rw [hρ] at a33 a34; refine ⟨354, #[trPtr r, .agg #[.int .u32 (a : Int), .int .i64 (n : Int)]], by rw [hρ]; simp [go_sem, hc, hf, hgl, ↓IntWalk.iteOmega, a33, a34, *], ?_⟩; have hb := hp.pre ⟨by decide, by decide⟩; refine (HRec.out w5 hb).mono ?_; rintro e w6 ⟨t2, rfl, h1, h2, h3, h4⟩; refine ⟨_, rfl, ⟨t2, rfl, h1, h2, h3, chg_trans (chg_below hb) h4 (fun k h => .inl h)⟩, by show Below 0 w5 w6; exact ⟨h4.os, h4.tape, h4.output, h4.size, fun k hk => absurd hk (Nat.not_lt_zero k)⟩⟩
        · exact relG_plain rfl rfl (fun _ _ h => h) fun Ac w5 hp => pureM (ptv b 14) 30 (hp.d 0)
        intro u w9 hb7 hall; obtain ⟨t57, e35, h57a, h57b, h57c, h57d⟩ := relAll_at hall (i := 5) (by decide +kernel); change u 5 = _ at e35; have e36 : u 6 = .pointer (some ⟨b, 14, none⟩) := relAll_at hall (i := 6) (by decide +kernel); clear hall; simp only [List.drop_succ_cons, List.drop_zero, List.take_succ_cons, List.take_zero, putAll, Act.put, List.setIfInBounds_toArray, List.set_cons_zero, List.set_cons_succ, Nat.zero_add, Nat.reduceAdd, e35, e36]; have HN9 : Hid (Blk w9 b 319 (ndC p m [v0, v1, v2, v3, v4, v5, v6, v7, v8] v.isSome cn (trPtr l) (trPtr r))) := hide (chg_blk h57d HN8k.out HD.out.br); have z9 : w9.cell? ⟨b, 14, none⟩ = some (trPtr r) := HN9.out.cell 14; have zf9 := HN9.out.frozen 14; obtain ⟨q57, hq57⟩ := trPtr_ptr t57; rw [hq57]; obtain ⟨w10, hw10p⟩ : ∃ W, w9.setCell ⟨b, 14, none⟩ (.pointer q57) = W := ⟨_, rfl⟩
        have hw10 : w9.setCell ⟨b, 14, none⟩ (trPtr t57) = w10 := (by rw [hq57]; exact hw10p)
        have HN10 : Hid (Blk w10 b 319 (ndC p m [v0, v1, v2, v3, v4, v5, v6, v7, v8] v.isSome cn (trPtr l) (trPtr t57))) := hide (hw10 ▸ HN9.out.set_ 14 _); have HC10 : Hid (ChgS (fun k => k = b) w9 w10) := hide (hw10 ▸ chg_set (S := fun k => k = b) (p := ⟨b, 14, none⟩) rfl _); have hbt : b ∉ trB t57 := fun h => HD.out.br (h57c b h); have HbT := hide hbt; have hFb : ∀ k, F k → ¬ (k = b) := fun k h e => HD.out.bf (e ▸ h); have HT10 := hide (h57b.chg HC10.out (fun k hk e => hbt (e ▸ hk)) hFb); have HcA : Hid (ChgS (fun k => k ∈ trB r) w w9) := hide (chg_trans (chg_below HB.out) h57d (fun k h => .inl h)); have HO10 := hide (HD.out.left.chg (S := fun k => k ∈ trB r ∨ k = b) (chg_trans (chg_mono HcA.out (fun k h => .inl (.inl h))) HC10.out (fun k h => .inl (.inr h))) (fun k hk h => h.elim (fun h => HD.out.lr k hk h) (fun e => HD.out.bl (e ▸ hk))) (fun k hF h => h.elim (fun h => HD.out.right.far k h hF) (fun e => HD.out.bf (e ▸ hF)))); have hcB : trCnt t57 + 1 = trCnt r := h57a.cnt HGk.out; have HNt := hide (leanA_any (F := F) (R := R) b p m [v0, v1, v2, v3, v4, v5, v6, v7, v8] HD.out.len v cn l t57 w10 (fun t ht => by rcases ht with rfl | rfl; exact HD.out.bl; exact HbT.out) HN10.out HO10.out.mem HT10.out.mem (by have := HCn.out; omega)); have HWd := hide hw10p; have HCu := hide h57a; have HSub := hide h57c; have HFb := hide hFb; clear hw10 hw10p hq57 h57a h57b h57c h57d hb7 hbt hFb hcB
        go_upto_region 6 with fail
        rw [HWd.out]; clear z9 zf9
        go_wp2_with fail
        refine HNt.out.mono ?_; rintro e w11 ⟨rfl, hc11, hk11⟩; have HK11 := hide hk11; have HC11 := hide hc11; clear hk11 hc11; go_wp2; go_ret; have hCR := cut_right HD.out.wf HCvP.out HE.out HBit.out HCu.out; have hcW : ChgS (fun k => k ∈ trB r ∨ k = b) w w11 := chg_trans (chg_trans (chg_mono HcA.out (fun k h => .inl (.inl h))) HC10.out (fun k h => .inl (.inr h))) HC11.out (fun k h => .inl (.inr h)); have hT11 := HT10.out.chg HC11.out (fun k hk e => HbT.out (e ▸ hk)) HFb.out; have hO11 := HO10.out.chg HC11.out (fun k hk e => HD.out.bl (e ▸ hk)) HFb.out; obtain ⟨hT, hS⟩ := nd_lean (v := v) (b := b) (p := p) (m := m) hO11 hT11 (fun e => (nd_right HD.out hCR.wf HT10.out (fun k hk => .inl (HSub.out k hk)) hcW HC11.out (HK11.out e)).1)
        exact ⟨_, rfl, cut_lean hCR, hT, fun k hk => by
          have h := hS k hk; simp only [trB, List.mem_cons, List.mem_append] at h ⊢; rcases h with h | h | h
          · exact .inl h
          · exact .inr (.inl (h))
          · exact .inr (.inr (HSub.out k h)), ndWholeR hcW⟩
abbrev atL9 (h o : Int) (A : Option Addr) (n c : Nat) (hp md pf aa ai : Int) (B : Option Addr) (m d : Nat) : List Value := [.int .i64 h, .int .i64 o, .slice A n c, .int .u32 hp, .int .u32 md, .int .u32 pf, .int .u32 aa, .int .u32 ai, .slice B m d]
set_option maxHeartbeats 4000000 in
theorem storeA9 {w : World} {R : Nat} {u0 u1 u2 u3 u4 u5 u6 u7 u8 : Value} {h o : Int} {A : Option Addr} {n c : Nat} {hp md pf aa ai : Int} {B : Option Addr} {m d : Nat} (hk : Blk w R 28 #[u0, u1, u2, u3, u4, u5, u6, u7, u8]) :
  (Instr.storeAt 28 (.pointer (some ⟨R, 0, none⟩)) (atV h o A n c hp md pf aa ai B m d)).run Tryz.prog w = .ok () (w.setCells R 0 (atL9 h o A n c hp md pf aa ai B m d)) := by
 obtain ⟨z0, z1, z2, z3, z4, z5, z6, z7, z8⟩ := blk9 hk; have zf := fun i => hk.frozen i; simp [go_sem, z0, z1, z2, z3, z4, z5, z6, z7, z8, zf, World.setCells]
def BoxAt (B : Nat) (w : World) (R : Nat) : Prop := B ≤ R ∧ ∃ u0 u1 u2 u3 u4 u5 u6 u7 u8, Blk w R 28 #[u0, u1, u2, u3, u4, u5, u6, u7, u8]
def EffBox (B0 : Nat) (w w' : World) : Prop := ∃ R h o A n c hp md pf aa ai B m d, BoxAt B0 w R ∧ w' = w.setCells R 0 (atL9 h o A n c hp md pf aa ai B m d)
theorem boxAt_below {B R : Nat} {w w' : World} (h : BoxAt B w R) (hb : Below w.heap.size w w') : BoxAt B w' R := by
 obtain ⟨h1, u0, u1, u2, u3, u4, u5, u6, u7, u8, h2⟩ := h; exact ⟨h1, u0, u1, u2, u3, u4, u5, u6, u7, u8, h2.below hb h2.lt⟩
theorem boxAt_eff {B R : Nat} {w w' : World} (h : BoxAt B w R) (he : EffBox B w w') : BoxAt B w' R := by
 obtain ⟨h1, u0, u1, u2, u3, u4, u5, u6, u7, u8, h2⟩ := h; obtain ⟨R2, h, o, A, n, c, hp, md, pf, aa, ai, Bq, m, d, ⟨hb2, v0, v1, v2, v3, v4, v5, v6, v7, v8, hk2⟩, rfl⟩ := he; by_cases e : R = R2
 ·subst e; exact ⟨h1, _, _, _, _, _, _, _, _, _, blk_sets (atL9 h o A n c hp md pf aa ai Bq m d) [] [u0, u1, u2, u3, u4, u5, u6, u7, u8] h2 rfl⟩
 ·exact ⟨h1, _, _, _, _, _, _, _, _, _, blk_sets_far e _ 0 h2⟩
theorem effBox_below {B : Nat} {w w' : World} (he : EffBox B w w') (hB : B ≤ w.heap.size) : Below B w w' := by
 obtain ⟨R2, h, o, A, n, c, hp, md, pf, aa, ai, Bq, m, d, ⟨hb2, _⟩, rfl⟩ := he; exact below_sets _ 0 (Below.refl B w) hb2
def EV (b : Bool) (v : Value) (_ : World) : Prop := ∃ h o A n c hp md pf aa ai B m d, v = .tuple #[atV h o A n c hp md pf aa ai B m d, .bool b]
def AVal (v : Value) (_ : World) : Prop := ∃ h o A n c hp md pf aa ai B m d, v = atV h o A n c hp md pf aa ai B m d
theorem tget_any (F : Nat → Prop) (g c k : Nat) (t : Tr AT) (w : World) (hc : PG c k) (h : TrT F w g t) :
  Calls Tryz.prog 179 #[.pointer (some ⟨g, 0, none⟩), .agg #[.int .u32 (c : Int), .int .i64 (k : Int)]] w fun e w' => ∃ v, e = .returned v ∧ EV (trGet c k t).isSome v w' ∧ Below w.heap.size w w' := by
 refine (getA_any (R := atR) g c k t w hc h.root h.tree.mem h.tree.wf h.low).mono ?_; rintro e w' ⟨hb, hm⟩
 cases hg : trGet c k t with
 | none =>
  rw [hg] at hm; exact ⟨_, hm, ⟨0, 0, none, 0, 0, 0, 0, 0, 0, 0, none, 0, 0, rfl⟩, hb⟩
 | some x =>
  rw [hg] at hm; obtain ⟨v0, v1, v2, v3, v4, v5, v6, v7, v8, rfl, hfr⟩ := hm; obtain ⟨XA, xn, xc, XB, xm, xd, hv, _, _⟩ := frs_here hfr; rw [hv]; exact ⟨_, rfl, ⟨_, _, _, _, _, _, _, _, _, _, _, _, _, rfl⟩, hb⟩
theorem cut_list {α : Type} {a n : Nat} {t t' : Tr α} (hw : trWf t) (hw' : trWf t') (hg : ∀ c k, trGet c k t' = if a = c ∧ n = k then none else trGet c k t) : trL t' = cutL a n (trL t) := by
 have hs := trL_sorted t hw; refine plt_ext _ _ (trL_sorted t' hw') (hs.sublist List.filter_sublist) fun z => ?_; obtain ⟨c, k, y⟩ := z; unfold cutL; rw [trL_mem t' hw', hg, List.mem_filter, trL_mem t hw]; by_cases e : a = c ∧ n = k
 ·simp [e]
 ·simp [e]
theorem cutL_none {α : Type} {a n : Nat} : ∀ {L : List (Nat × Nat × α)}, (∀ z ∈ L, ¬ (a = z.1 ∧ n = z.2.1)) → cutL a n L = L := fun {L} h => by
 unfold cutL; rw [List.filter_eq_self]; intro z hz; simp only [Bool.not_eq_true', decide_eq_false_iff_not]; exact h z hz
set_option maxRecDepth 100000 in
set_option maxHeartbeats 8000000 in
theorem full_any (own ax : Nat) (F : Nat → Prop) (r g a n0 : Nat) (t : Tr AT) (w : World) (ha : PG a n0) (hr : Blk w r 120 #[.int .u32 (own : Int), .int .u32 0, .int .u32 (ax : Int), .int .i64 0, .bool false, .string ⟨#[]⟩, .string ⟨#[]⟩, .string ⟨#[]⟩, .bool false, .string ⟨#[]⟩, .string ⟨#[]⟩, .string ⟨#[]⟩, .bool false, .pointer (some ⟨g, 0, none⟩)]) (hT : TrT F w g t) :
  Calls Tryz.prog 169 #[.pointer (some ⟨r, 0, none⟩), .agg #[.int .u32 (a : Int), .int .i64 (n0 : Int)]] w (GoodP false w) := by
 obtain ⟨w1, hw1⟩ : ∃ w1, w.alloc (.cells #[.int .u32 (a : Int), .int .i64 (n0 : Int)] 24) = w1 := ⟨_, rfl⟩
 have hb1 : Below w.heap.size w w1 := hw1 ▸ blkBelow1 w _; have HX : Hid (Blk w1 w.heap.size 24 #[.int .u32 (a : Int), .int .i64 (n0 : Int)]) := hide (hw1 ▸ Blk.new w _ _); have HR := hide (hr.below hb1 hr.lt); have HT := hide (fun W (hb : Below w1.heap.size w1 W) => (hT.below hb1).below hb); have HPg := hide ha; obtain ⟨IS, hIS⟩ : ∃ q, (trGet a n0 t).isSome = q := ⟨_, rfl⟩
 have HIS := hide hIS; have HB1 := hide hb1; have HW1 := hide hw1; clear hw1 hb1 hr hT hIS
 go_enter Tryz.func169, Tryz.ntmps169
 go_upto_region 1 with fail
 rw [HW1.out]; refine wp_region_relG 12 w1.heap.size (Nat.le_refl _) [(fun v _ => v = .pointer (some ⟨r, 0, none⟩)), (fun v _ => v = .pointer (some ⟨r, 0, none⟩)), (fun v _ => v = .pointer (some ⟨r, 13, none⟩)), (fun v _ => v = .pointer (some ⟨g, 0, none⟩)), (fun v _ => v = .agg #[.int .u32 (a : Int), .int .i64 (n0 : Int)]), (EV IS), (EV IS), (AVal), (fun v _ => v = .bool IS), (fun v w => ∃ R, v = .pointer (some ⟨R, 0, none⟩) ∧ BoxAt w1.heap.size w R), (fun _ W => True), (fun v _ => v = .bool IS)] (fun _ _ => True) (fun i Wa Wb => if i = 10 then EffBox w1.heap.size Wa Wb else Below Wa.heap.size Wa Wb) (by kernel_rfl) (by kernel_rfl) (by kernel_rfl) (by kernel_rfl) (by kernel_rfl) ?hE ?hR ?hP ?h0 ⟨?_, ?_, ?_, ?_, ?_, ?_, ?_, ?_, ?_, ?_, ?_, ?_, trivial⟩ ?_
 case hE =>
  intro i2 wa wb hB he; split at he
  ·exact effBox_below he hB
  ·exact he.mono hB
 case hR =>
  intro i2 j2 vq wa wb hij hB he h; split at he
  ·rename_i hj2; subst hj2; refine keepAll_at (E := fun wa wb => EffBox w1.heap.size wa wb) (x := 10) (k := 0) ?_ (by omega) he h; exact ⟨fun _ v w1 w2 he h => h, fun _ v w1 w2 he h => h, fun _ v w1 w2 he h => h, fun _ v w1 w2 he h => h, fun _ v w1 w2 he h => h, fun _ v w1 w2 he h => h, fun _ v w1 w2 he h => h, fun _ v w1 w2 he h => h, fun _ v w1 w2 he h => h, fun _ v w1 w2 he h => by obtain ⟨R, e, h1⟩ := h; exact ⟨R, e, boxAt_eff h1 he⟩, fun hn => absurd rfl hn, fun _ v w1 w2 he h => h, trivial⟩
  ·refine relMono _ ?_ i2 vq wa wb he h; exact ⟨fun _ _ _ _ h => h, fun _ _ _ _ h => h, fun _ _ _ _ h => h, fun _ _ _ _ h => h, fun _ _ _ _ h => h, fun v w1 w2 hb h => h, fun v w1 w2 hb h => h, fun v w1 w2 hb h => h, fun _ _ _ _ h => h, fun v w w2 hb ⟨R, e, h⟩ => ⟨R, e, boxAt_below h hb⟩, fun v w1 w2 hb h => trivial, fun _ _ _ _ h => h, trivial⟩
 case hP =>
  exact fun _ _ _ _ _ _ _ _ => trivial
 case h0 =>
  exact fun _ _ => trivial
 ·exact relG_plain rfl rfl (fun _ _ h => h) fun Ac w5 hp => pureM (ptv r 0) 0 (hp.out 0 (by rfl))
 ·exact relG_plain rfl rfl (fun _ _ h => h) fun Ac w5 hp => pureM (ptv r 0) 8 (hp.d 0)
 ·exact relG_plain rfl rfl (fun _ _ h => h) fun Ac w5 hp => pure1 (ptv r 13) 9 (ptv r 0) (hp.d 1)
 ·refine relG_plain rfl rfl (fun _ _ h => h) ?_; intro Ac w5 hp; have hb := hp.bel; have hr5 := HR.out.below hb HR.out.lt; have z13 : w5.cell? ⟨r, 13, none⟩ = some (ptv g 0) := hr5.cell 13; exact pure1 (ptv g 0) 10 (ptv r 13) (hp.d 2)
 ·refine relG_plain rfl rfl (fun _ _ h => h) ?_; intro Ac w5 hp; have hb := hp.bel; have hx5 := HX.out.below hb HX.out.lt; have x0 : w5.cell? ⟨w.heap.size, 0, none⟩ = some (.int .u32 (a : Int)) := hx5.cell 0; have x1 : w5.cell? ⟨w.heap.size, 1, none⟩ = some (.int .i64 (n0 : Int)) := hx5.cell 1; exact pure1 (.agg #[.int .u32 (a : Int), .int .i64 (n0 : Int)]) 3 (ptv w.heap.size 0) (hp.out 3 (by rfl))
 ·refine relG_plain rfl rfl (fun _ _ h => h) ?_; intro Ac w5 hp; have hb := hp.bel; have a11 : Ac.eval (.tmp 11) = .pointer (some ⟨g, 0, none⟩) := hp.d 3; have a12 : Ac.eval (.tmp 12) = .agg #[.int .u32 (a : Int), .int .i64 (n0 : Int)] := hp.d 4; obtain ⟨ρ, hρ, hc, hf, hgl⟩ := evalX Ac; rw [hρ] at a11 a12; refine relCall hρ 179 #[.pointer (some ⟨g, 0, none⟩), .agg #[.int .u32 (a : Int), .int .i64 (n0 : Int)]] (by simp [go_sem, ↓IntWalk.iteOmega, *]) ?_; refine (tget_any F g a n0 t w5 HPg.out (HT.out w5 hb)).mono ?_; rintro e w6 ⟨v6, rfl, he6, hb6⟩; rw [HIS.out] at he6; exact ⟨_, rfl, he6, hb6⟩
 ·refine relG_plain rfl rfl (fun _ _ h => h) ?_; intro Ac w5 hp; obtain ⟨hv, ov, Av, nv, cv, pv, mv, fv, sv, iv, Bv, kv, dv, a13⟩ := hp.d 5; change Ac.eval (.tmp 13) = _ at a13; exact relPureX (.tuple #[atV hv ov Av nv cv pv mv fv sv iv Bv kv dv, .bool IS]) (fun ρ hρ h1 h2 h3 => by rw [hρ] at a13; simp [go_sem, ↓IntWalk.iteOmega, *]) ⟨hv, ov, Av, nv, cv, pv, mv, fv, sv, iv, Bv, kv, dv, rfl⟩
 ·refine relG_plain rfl rfl (fun _ _ h => h) ?_; intro Ac w5 hp; obtain ⟨hy, oy, Ay, ny, cy, py, my, fy, sy, iy, By, ky, dy, a7⟩ := hp.d 6; change Ac.eval (.tmp 7) = _ at a7; exact relPureX (atV hy oy Ay ny cy py my fy sy iy By ky dy) (fun ρ hρ h1 h2 h3 => by rw [hρ] at a7; simp [go_sem, ↓IntWalk.iteOmega, *]) ⟨hy, oy, Ay, ny, cy, py, my, fy, sy, iy, By, ky, dy, rfl⟩
 ·refine relG_plain rfl rfl (fun _ _ h => h) ?_; intro Ac w5 hp; obtain ⟨hy, oy, Ay, ny, cy, py, my, fy, sy, iy, By, ky, dy, a7⟩ := hp.d 6; change Ac.eval (.tmp 7) = _ at a7; exact relPureX (.bool IS) (fun ρ hρ h1 h2 h3 => by rw [hρ] at a7; simp [go_sem, ↓IntWalk.iteOmega, *]) rfl
 ·refine relG_plain rfl rfl (fun _ _ h => h) ?_; intro Ac w5 hp; have hb := hp.bel; have hc := evalC Ac; have hf := evalF Ac; have hgl := evalG Ac; obtain ⟨ρ, hρ⟩ : ∃ ρ, Ac.eval = ρ := ⟨_, rfl⟩
  exact relVal hρ (.pointer (some ⟨w5.heap.size, 0, none⟩)) (w5.alloc (.cells zeroA 28)) (by simp [go_sem, ↓IntWalk.iteOmega, *]) ⟨_, rfl, hb.size, _, _, _, _, _, _, _, _, _, Blk.new w5 _ _⟩ ((Below.refl _ _).alloc (Nat.le_refl _) _)
 ·refine relG_store rfl ?_; intro Ac w5 hp; obtain ⟨R5, a5, hR5⟩ := hp.d 9; change Ac.eval (.tmp 5) = _ at a5; obtain ⟨hz, oz, Az, nz, cz, pz, mz, fz, sz, iz, Bz, kz, dz, a14⟩ := hp.d 7; change Ac.eval (.tmp 14) = _ at a14; obtain ⟨hRb, u0, u1, u2, u3, u4, u5, u6, u7, u8, hK⟩ := hR5; exact ⟨_, .inl (exec_store rfl a5 a14 (storeA9 hK)), trivial, R5, hz, oz, Az, nz, cz, pz, mz, fz, sz, iz, Bz, kz, dz, ⟨hRb, u0, u1, u2, u3, u4, u5, u6, u7, u8, hK⟩, rfl⟩
 ·exact relG_plain rfl rfl (fun _ _ h => h) fun Ac w5 hp => pureM (.bool IS) 15 (hp.d 8)
 intro u w8 hb7 hall; have e6 : u 11 = .bool IS := relAll_at hall (i := 11) (by decide +kernel); have efin : True := relAll_at hall (i := 10) (by decide +kernel); clear hall; simp only [List.drop_succ_cons, List.drop_zero, List.take_succ_cons, List.take_zero, putAll, Act.put, List.setIfInBounds_toArray, List.set_cons_zero, List.set_cons_succ, Nat.zero_add, Nat.reduceAdd, e6]; have HB8 := hide (btr HB1.out hb7); have HR8 := hide (HR.out.below hb7 HR.out.lt); clear hb7; have z3 : w8.cell? ⟨r, 3, none⟩ = some (.int .i64 0) := HR8.out.cell 3
 cases IS with
 | true =>
  go_wp2; go_ret; exact ⟨rfl, HB8.out⟩
 | false =>
  go_wp2; go_ret; exact ⟨rfl, HB8.out⟩
set_option maxRecDepth 100000 in
set_option maxHeartbeats 8000000 in
theorem tcutAB_any {α : Type} {F : Nat → Prop} {R : World → List Value → α → Prop} (g a n : Nat) (t : Tr α) (w : World) (ha : PG a n) (hg : Blk w g 215 #[trPtr t]) (h : TrA 9 319 F R w t) (hF : ∀ k, F k → k < w.heap.size) (hgF : ¬ F g) (hgB : g ∉ trB t) (hcn : trCnt t < 100000000) :
  Calls Tryz.prog 275 #[.pointer (some ⟨g, 0, none⟩), .agg #[.int .u32 (a : Int), .int .i64 (n : Int)]] w fun e w' => (∃ (vs : List Value) (q : Bool), vs.length = 9 ∧ (∀ u ∈ vs, u.oneCell' = true) ∧ e = .returned (.tuple #[.agg vs.toArray, .bool q]) ∧ q = (trGet a n t).isSome) ∧ ∃ t2, trWf t2 ∧ (∀ c k, trGet c k t2 = if a = c ∧ n = k then none else trGet c k t) ∧ Blk w' g 215 #[trPtr t2] ∧ TrA 9 319 F R w' t2 ∧ (∀ k ∈ trB t2, k ∈ trB t) ∧ ChgS (fun k => k = g ∨ k ∈ trB t) w w' ∧ trCnt t2 ≤ trCnt t := by
 obtain ⟨w0, hw0⟩ : ∃ w0, (w.alloc (.cells #[.int .u32 (a : Int), .int .i64 (n : Int)] 24)).alloc (.cells zeroA 28) = w0 := ⟨_, rfl⟩
 have hb0 : Below w.heap.size w w0 := hw0 ▸ blkBelow2 w _ _; have HX0 : Hid (Blk w0 w.heap.size 24 #[.int .u32 (a : Int), .int .i64 (n : Int)]) := hide (hw0 ▸ (Blk.new w _ _).alloc _); have HZ0 : Hid (Blk w0 (w.heap.size + 1) 28 zeroA) := hide (hw0 ▸ blk_new' _ _ (by simp)); have HFd := hide (findA_any (R := R) g a n t w0 ha (hg.below hb0 hg.lt) (h.mem.chg (S := fun _ => False) (chg_below hb0) (by simp) (by simp)) h.wf); have hgf := trGet_find a n t; have hfw := trFind_w a n t h.mem; have HF := hide hF; have HG := hide hg; have HT := hide h; have HPa := hide ha; have HgF := hide hgF; have HgB := hide hgB; have HCt := hide hcn; obtain ⟨s, hs⟩ : ∃ s, trFind a n t = s := ⟨_, rfl⟩
 rw [hs] at hgf hfw HFd; have HW0 := hide hw0; have HB0 := hide hb0; clear hw0 hb0 hs hg h hF ha hgF hgB hcn
 cases s with
 | nil =>
  simp only at hgf; have HNo := hide hgf; have e0 : trPtr (.nil : Tr α) = .pointer none := rfl; rw [e0] at HFd; clear hgf e0 hfw
  go_enter Tryz.func275, Tryz.ntmps275
  go_wp2_with fail
  rw [HW0.out]; refine HFd.out.mono ?_; rintro e w1 ⟨rfl, hb1⟩; have HB1 := hide (btr HB0.out hb1); have HZ1 := hide (HZ0.out.below hb1 HZ0.out.lt); obtain ⟨z0, z1, z2, z3, z4, z5, z6, z7, z8⟩ := blk9 HZ1.out; have zf := fun i => HZ1.out.frozen i; clear hb1; go_wp2; change bodyPost _ _ _ _ _ (w1.setCells (w.heap.size + 1) 0 zeroL); obtain ⟨wF, hwF⟩ : ∃ x, w1.setCells (w.heap.size + 1) 0 zeroL = x := ⟨_, rfl⟩
  have HFk := hide (hwF ▸ blk_sets zeroL [] zeroL HZ1.out rfl : Blk wF (w.heap.size + 1) 28 zeroA); have HFb := hide (hwF ▸ below_sets zeroL 0 HB1.out (by omega) : Below w.heap.size w wF); rw [hwF]; clear hwF z0 z1 z2 z3 z4 z5 z6 z7 z8 zf; obtain ⟨z0, z1, z2, z3, z4, z5, z6, z7, z8⟩ := blk9 HFk.out; exact bodyPost_ret (v := .tuple #[.agg #[.int .i64 0, .int .i64 0, .slice none 0 0, .int .u32 0, .int .u32 0, .int .u32 0, .int .u32 0, .int .u32 0, .slice none 0 0], .bool false]) (by simp [results, Tryz.results275, go_sem, z0, z1, z2, z3, z4, z5, z6, z7, z8]) rfl ⟨⟨[.int .i64 0, .int .i64 0, .slice none 0 0, .int .u32 0, .int .u32 0, .int .u32 0, .int .u32 0, .int .u32 0, .slice none 0 0], false, rfl, by simp [Value.oneCell'], rfl, by rw [HNo.out]; rfl⟩, t, HT.out.wf, fun c k => (by by_cases e : a = c ∧ n = k; obtain ⟨rfl, rfl⟩ := e; simp [HNo.out]; simp [e]), HG.out.below HFb.out HG.out.lt, HT.out.chg (S := fun _ => False) (chg_below HFb.out) (by simp) (by simp), fun k h => h, chg_below HFb.out, Nat.le_refl _⟩
 | nd b p m v l r =>
  have e0 : trPtr (.nd b p m v l r) = .pointer (some ⟨b, 0, none⟩) := rfl; rw [e0] at HFd; clear e0; simp only at hgf; have HGt := hide hgf; obtain ⟨⟨vs, hv, hk, hval⟩, _, _⟩ := hfw; obtain ⟨v0, v1, v2, v3, v4, v5, v6, v7, v8, rfl⟩ := lenA hv; have HN := hide hk; have HOne := hide hv.2; clear hgf hv hk hval; obtain ⟨cn, hcn⟩ : ∃ c, trCnt l + trCnt r + (if v.isSome then 1 else 0) = c := ⟨_, rfl⟩
  rw [hcn] at HN; clear hcn
  cases v with
  | none =>
   have HNo := hide HGt.out
   go_enter Tryz.func275, Tryz.ntmps275
   go_wp2_with fail
   rw [HW0.out]; refine HFd.out.mono ?_; rintro e w1 ⟨rfl, hb1⟩; have HB1 := hide (btr HB0.out hb1); have HZ1 := hide (HZ0.out.below hb1 HZ0.out.lt); have yp : w1.cell? ⟨b, 11, none⟩ = some (.bool false) := (HN.out.below HB1.out HN.out.lt).cell 11; obtain ⟨z0, z1, z2, z3, z4, z5, z6, z7, z8⟩ := blk9 HZ1.out; have zf := fun i => HZ1.out.frozen i; clear hb1; go_wp2; change bodyPost _ _ _ _ _ (w1.setCells (w.heap.size + 1) 0 zeroL); obtain ⟨wF, hwF⟩ : ∃ x, w1.setCells (w.heap.size + 1) 0 zeroL = x := ⟨_, rfl⟩
   have HFk := hide (hwF ▸ blk_sets zeroL [] zeroL HZ1.out rfl : Blk wF (w.heap.size + 1) 28 zeroA); have HFb := hide (hwF ▸ below_sets zeroL 0 HB1.out (by omega) : Below w.heap.size w wF); rw [hwF]; clear hwF z0 z1 z2 z3 z4 z5 z6 z7 z8 zf yp; obtain ⟨z0, z1, z2, z3, z4, z5, z6, z7, z8⟩ := blk9 HFk.out; exact bodyPost_ret (v := .tuple #[.agg #[.int .i64 0, .int .i64 0, .slice none 0 0, .int .u32 0, .int .u32 0, .int .u32 0, .int .u32 0, .int .u32 0, .slice none 0 0], .bool false]) (by simp [results, Tryz.results275, go_sem, z0, z1, z2, z3, z4, z5, z6, z7, z8]) rfl ⟨⟨[.int .i64 0, .int .i64 0, .slice none 0 0, .int .u32 0, .int .u32 0, .int .u32 0, .int .u32 0, .int .u32 0, .slice none 0 0], false, rfl, by simp [Value.oneCell'], rfl, by rw [HNo.out]; rfl⟩, t, HT.out.wf, fun c k => (by by_cases e : a = c ∧ n = k; obtain ⟨rfl, rfl⟩ := e; simp [HNo.out]; simp [e]), HG.out.below HFb.out HG.out.lt, HT.out.chg (S := fun _ => False) (chg_below HFb.out) (by simp) (by simp), fun k h => h, chg_below HFb.out, Nat.le_refl _⟩
  | some x =>
   go_enter Tryz.func275, Tryz.ntmps275
   go_wp2_with fail
   rw [HW0.out]; refine HFd.out.mono ?_; rintro e w1 ⟨rfl, hb1⟩; have HB1 := hide (btr HB0.out hb1); have HZ1 := hide (HZ0.out.below hb1 HZ0.out.lt); have HX1 := hide (HX0.out.below hb1 HX0.out.lt); have hN1 := HN.out.below HB1.out HN.out.lt; have yp : w1.cell? ⟨b, 11, none⟩ = some (.bool true) := hN1.cell 11; have y0 : w1.cell? ⟨b, 2, none⟩ = some v0 := hN1.cell 2; have y1 : w1.cell? ⟨b, 3, none⟩ = some v1 := hN1.cell 3; have y2 : w1.cell? ⟨b, 4, none⟩ = some v2 := hN1.cell 4; have y3 : w1.cell? ⟨b, 5, none⟩ = some v3 := hN1.cell 5; have y4 : w1.cell? ⟨b, 6, none⟩ = some v4 := hN1.cell 6; have y5 : w1.cell? ⟨b, 7, none⟩ = some v5 := hN1.cell 7; have y6 : w1.cell? ⟨b, 8, none⟩ = some v6 := hN1.cell 8; have y7 : w1.cell? ⟨b, 9, none⟩ = some v7 := hN1.cell 9; have y8 : w1.cell? ⟨b, 10, none⟩ = some v8 := hN1.cell 10; obtain ⟨z0, z1, z2, z3, z4, z5, z6, z7, z8⟩ := blk9 HZ1.out; have zf := fun i => HZ1.out.frozen i; clear hb1 hN1; have o0 := runS Tryz.prog v0 (HOne.out v0 (by simp)); have o1 := runS Tryz.prog v1 (HOne.out v1 (by simp)); have o2 := runS Tryz.prog v2 (HOne.out v2 (by simp)); have o3 := runS Tryz.prog v3 (HOne.out v3 (by simp)); have o4 := runS Tryz.prog v4 (HOne.out v4 (by simp)); have o5 := runS Tryz.prog v5 (HOne.out v5 (by simp)); have o6 := runS Tryz.prog v6 (HOne.out v6 (by simp)); have o7 := runS Tryz.prog v7 (HOne.out v7 (by simp)); have o8 := runS Tryz.prog v8 (HOne.out v8 (by simp))
   go_upto_region 5 with fail
   obtain ⟨w2, hw2⟩ : ∃ x, w1.setCells (w.heap.size + 1) 0 [v0, v1, v2, v3, v4, v5, v6, v7, v8] = x := ⟨_, rfl⟩
   change Code.wp _ _ _ _ (w1.setCells (w.heap.size + 1) 0 [v0, v1, v2, v3, v4, v5, v6, v7, v8]); rw [hw2]; have HZ2 := hide (hw2 ▸ blk_sets [v0, v1, v2, v3, v4, v5, v6, v7, v8] [] zeroL HZ1.out rfl : Blk w2 (w.heap.size + 1) 28 #[v0, v1, v2, v3, v4, v5, v6, v7, v8]); have HB2 : Hid (Below w.heap.size w w2) := hide (hw2 ▸ below_sets [v0, v1, v2, v3, v4, v5, v6, v7, v8] 0 HB1.out (by omega)); have HX2 := hide (hw2 ▸ blk_sets_far (by omega) [v0, v1, v2, v3, v4, v5, v6, v7, v8] 0 HX1.out : Blk w2 w.heap.size 24 #[.int .u32 (a : Int), .int .i64 (n : Int)]); have HG2 := hide (HG.out.below HB2.out HG.out.lt); have HRec := hide (fun W (hb : Below w2.heap.size w2 W) => cutA_any (F := F) (R := R) a n t W HPa.out (HT.out.chg (S := fun _ => False) (chg_below (btr HB2.out hb)) (by simp) (by simp)) (by rw [HGt.out]; rfl) HCt.out); clear hw2 y0 y1 y2 y3 y4 y5 y6 y7 y8 z0 z1 z2 z3 z4 z5 z6 z7 z8 zf yp; refine wp_region_relH 9 0 (Nat.zero_le _) [(fun v _ => v = .pointer (some ⟨g, 0, none⟩)), (fun v _ => v = .pointer (some ⟨g, 0, none⟩)), (fun v _ => v = .pointer (some ⟨g, 0, none⟩)), (fun v _ => v = .pointer (some ⟨g, 0, none⟩)), (fun v _ => v = trPtr t), (fun v _ => v = .agg #[.int .u32 (a : Int), .int .i64 (n : Int)]), (fun v W => ∃ t2, v = trPtr t2 ∧ CutR a n t t2 ∧ TrA 9 319 F R W t2 ∧ (∀ k ∈ trB t2, k ∈ trB t) ∧ ChgS (fun k => k ∈ trB t) w2 W), (fun v _ => v = .pointer (some ⟨g, 0, none⟩)), (fun v _ => v = .pointer (some ⟨g, 0, none⟩))] (fun i W => (1 ≤ i ∧ i ≤ 6) → Below w2.heap.size w2 W) (fun i Wa Wb => if i = 6 then Below 0 Wa Wb else Below Wa.heap.size Wa Wb) (by kernel_rfl) (by kernel_rfl) (by kernel_rfl) (by kernel_rfl) (by kernel_rfl) ?hE ?hR ?hP ?h0 ⟨?_, ?_, ?_, ?_, ?_, ?_, ?_, ?_, ?_, trivial⟩ ?_
   case hE =>
    intro i2 wa wb hB he; split at he
    ·exact he
    ·exact he.mono (Nat.zero_le _)
   case hR =>
    intro i2 j2 v2 wa wb hij hB he h; split at he
    ·rename_i hj2; subst hj2; refine keepAll_at (E := fun wa wb => Below 0 wa wb) (x := 6) (k := 0) ?_ (by omega) he h; exact ⟨fun _ v wa wb he h => h, fun _ v wa wb he h => h, fun _ v wa wb he h => h, fun _ v wa wb he h => h, fun _ v wa wb he h => h, fun _ v wa wb he h => h, fun hn => absurd rfl hn, fun _ v wa wb he h => h, fun _ v wa wb he h => h, trivial⟩
    ·refine relMono _ ?_ i2 v2 wa wb he h; exact ⟨fun _ _ _ _ h => h, fun _ _ _ _ h => h, fun _ _ _ _ h => h, fun _ _ _ _ h => h, fun _ _ _ _ h => h, fun _ _ _ _ h => h, fun v wa wb hb ⟨t2, e, h1, h2, h3, h4⟩ => ⟨t2, e, h1, h2.chg (S := fun _ => False) (chg_below hb) (by simp) (by simp), h3, chg_trans h4 (chg_below (S := fun _ => False) hb) (fun k h => h.elim)⟩, fun _ _ _ _ h => h, fun _ _ _ _ h => h, trivial⟩
   case hP =>
    intro i2 j2 wa wb hij hnb hB he h hi; split at he
    ·rename_i hj2; subst hj2; have hi3 : i2 = 1 ∨ i2 = 2 ∨ i2 = 3 ∨ i2 = 4 ∨ i2 = 5 ∨ i2 = 6 := (by omega)
     rcases hi3 with rfl | rfl | rfl | rfl | rfl | rfl
     all_goals first | exact absurd rfl hij | exact absurd hnb (by decide +kernel)
    ·exact (h hi).trans (he.mono (h hi).size)
   case h0 =>
    intro j2 hj2 _; exact (Below.refl _ _).drew
   ·exact relG_plain rfl rfl (fun _ _ h => h) fun Ac w5 hp => pureM (ptv g 0) 0 (hp.out 0 (by rfl))
   ·exact relG_plain rfl rfl (fun _ _ h => h) fun Ac w5 hp => pureM (ptv g 0) 0 (hp.out 0 (by rfl))
   ·exact relG_plain rfl rfl (fun _ _ h => h) fun Ac w5 hp => pureM (ptv g 0) 25 (hp.d 1)
   ·exact relG_plain rfl rfl (fun _ _ h => h) fun Ac w5 hp => pureM (ptv g 0) 26 (hp.d 2)
   ·refine relG_plain rfl rfl (fun _ _ h => h) ?_; intro Ac w5 hp; have hb := hp.bel; have hb := hp.pre ⟨by decide, by decide⟩; have hg5 := HG2.out.below hb HG2.out.lt; have z0 : w5.cell? ⟨g, 0, none⟩ = some (trPtr t) := hg5.cell 0; exact pure1 (trPtr t) 27 (ptv g 0) (hp.d 3)
   ·refine relG_plain rfl rfl (fun _ _ h => h) ?_; intro Ac w5 hp; have hb := hp.bel; have hb := hp.pre ⟨by decide, by decide⟩; have hx5 := HX2.out.below hb HX2.out.lt; have x0 : w5.cell? ⟨w.heap.size, 0, none⟩ = some (.int .u32 (a : Int)) := hx5.cell 0; have x1 : w5.cell? ⟨w.heap.size, 1, none⟩ = some (.int .i64 (n : Int)) := hx5.cell 1; exact pure1 (.agg #[.int .u32 (a : Int), .int .i64 (n : Int)]) 3 (ptv w.heap.size 0) (hp.out 3 (by rfl))
   ·refine relG_enter rfl rfl ?_; intro Ac w5 hp; have hb := hp.bel; have a28 : Ac.eval (.tmp 28) = trPtr t := hp.d 4; have a29 : Ac.eval (.tmp 29) = .agg #[.int .u32 (a : Int), .int .i64 (n : Int)] := hp.d 5; obtain ⟨ρ, hρ, hc, hf, hgl⟩ := evalX Ac; rw [hρ] at a28 a29; refine ⟨354, #[trPtr t, .agg #[.int .u32 (a : Int), .int .i64 (n : Int)]], by rw [hρ]; simp [go_sem, hc, hf, hgl, ↓IntWalk.iteOmega, a28, a29, *], ?_⟩; have hb := hp.pre ⟨by decide, by decide⟩; refine (HRec.out w5 hb).mono ?_; rintro e w6 ⟨t2, rfl, h1, h2, h3, h4⟩; refine ⟨_, rfl, ⟨t2, rfl, h1, h2, h3, chg_trans (chg_below hb) h4 (fun k h => .inl h)⟩, by show Below 0 w5 w6; exact ⟨h4.os, h4.tape, h4.output, h4.size, fun k hk => absurd hk (Nat.not_lt_zero k)⟩⟩
   ·exact relG_plain rfl rfl (fun _ _ h => h) fun Ac w5 hp => pureM (ptv g 0) 24 (hp.d 0)
   ·exact relG_plain rfl rfl (fun _ _ h => h) fun Ac w5 hp => pureM (ptv g 0) 31 (hp.d 7)
   intro u w9 hb7 hall; obtain ⟨t44, e30, h44a, h44b, h44c, h44d⟩ := relAll_at hall (i := 6) (by decide +kernel); change u 6 = _ at e30; have e32 : u 8 = .pointer (some ⟨g, 0, none⟩) := relAll_at hall (i := 8) (by decide +kernel); clear hall; simp only [List.drop_succ_cons, List.drop_zero, List.take_succ_cons, List.take_zero, putAll, Act.put, List.setIfInBounds_toArray, List.set_cons_zero, List.set_cons_succ, Nat.zero_add, Nat.reduceAdd, e30, e32]; have hcb : w.heap.size + 1 < w2.heap.size := HZ2.out.lt; have hgl := HG.out.lt; have htl := HT.out.mem.lt; have HG9 := hide (chg_blk h44d HG2.out HgB.out); have HZ9 := hide (chg_blk h44d HZ2.out (fun h => by have := htl _ h; omega)); have hg44 : g ∉ trB t44 := fun h => HgB.out (h44c g h); have hc44 : w.heap.size + 1 ∉ trB t44 := fun h => by have := htl _ (h44c _ h); omega
   obtain ⟨q44, hq44⟩ := trPtr_ptr t44; rw [hq44]; have zg : w9.cell? ⟨g, 0, none⟩ = some (trPtr t) := HG9.out.cell 0; have zgf := HG9.out.frozen 0; obtain ⟨w10, hw10⟩ : ∃ W, w9.setCell ⟨g, 0, none⟩ (.pointer q44) = W := ⟨_, rfl⟩
   have HZ10 : Hid (Blk w10 (w.heap.size + 1) 28 #[v0, v1, v2, v3, v4, v5, v6, v7, v8]) := hide (hw10 ▸ HZ9.out.far (p := ⟨g, 0, none⟩) (by show w.heap.size + 1 ≠ g; omega) _); have HG10 : Hid (Blk w10 g 215 #[trPtr t44]) := hide (by rw [hq44]; exact hw10 ▸ HG9.out.set_ 0 _); have HC10 : Hid (ChgS (fun k => k = g) w9 w10) := hide (hw10 ▸ chg_set (S := fun k => k = g) (p := ⟨g, 0, none⟩) rfl _); have HT10 := hide (h44b.chg HC10.out (fun k hk e => hg44 (e ▸ hk)) (fun k hF e => HgF.out (e ▸ hF))); have HCw : Hid (ChgS (fun k => k = g ∨ k ∈ trB t) w w10) := hide (chg_trans (chg_trans (chg_below (S := fun k => k = g ∨ k ∈ trB t) HB2.out) h44d (fun k h => .inl (.inr h))) HC10.out (fun k h => .inl (.inl h))); have HCu := hide h44a; have HSu := hide h44c; have Hc44 := hide hc44; have HWd := hide hw10; have HCnt : Hid (trCnt t44 ≤ trCnt t) := hide (by have := h44a.cnt (by rw [HGt.out]; rfl); omega); clear hw10 hq44 h44a h44b h44c h44d hb7 hg44 hc44 htl
   go_upto_region 6 with fail
   rw [HWd.out]; clear zg zgf; obtain ⟨z0, z1, z2, z3, z4, z5, z6, z7, z8⟩ := blk9 HZ10.out; have zf := fun i => HZ10.out.frozen i; go_wp2; change bodyPost _ _ _ _ _ (w10.setCells (w.heap.size + 1) 0 [v0, v1, v2, v3, v4, v5, v6, v7, v8]); obtain ⟨wF, hwF⟩ : ∃ x, w10.setCells (w.heap.size + 1) 0 [v0, v1, v2, v3, v4, v5, v6, v7, v8] = x := ⟨_, rfl⟩
   have HFk := hide (hwF ▸ blk_sets [v0, v1, v2, v3, v4, v5, v6, v7, v8] [] [v0, v1, v2, v3, v4, v5, v6, v7, v8] HZ10.out rfl : Blk wF (w.heap.size + 1) 28 #[v0, v1, v2, v3, v4, v5, v6, v7, v8]); have HFg := hide (hwF ▸ blk_sets_far (by omega) [v0, v1, v2, v3, v4, v5, v6, v7, v8] 0 HG10.out : Blk wF g 215 _); have HFc : Hid (ChgS (fun k => k = w.heap.size + 1) w10 wF) := hide (hwF ▸ chg_sets (S := fun k => k = w.heap.size + 1) rfl [v0, v1, v2, v3, v4, v5, v6, v7, v8] 0); rw [hwF]; clear hwF z0 z1 z2 z3 z4 z5 z6 z7 z8 zf o0 o1 o2 o3 o4 o5 o6 o7 o8; obtain ⟨z0, z1, z2, z3, z4, z5, z6, z7, z8⟩ := blk9 HFk.out; refine bodyPost_ret (v := .tuple #[.agg #[v0, v1, v2, v3, v4, v5, v6, v7, v8], .bool true]) (by simp [results, Tryz.results275, go_sem, z0, z1, z2, z3, z4, z5, z6, z7, z8]) rfl ⟨⟨[v0, v1, v2, v3, v4, v5, v6, v7, v8], true, rfl, HOne.out, rfl, by rw [HGt.out]; rfl⟩, t44, HCu.out.wf, HCu.out.get, HFg.out, HT10.out.chg HFc.out (fun k hk e => Hc44.out (e ▸ hk)) (fun k hF e => by have := HF.out k hF; omega), HSu.out, chg_trans HCw.out HFc.out (fun k h => .inr (by omega)), HCnt.out⟩
theorem trcutB_any (F : Nat → Prop) (g a n : Nat) (t : Tr AT) (w : World) (ha : PG a n) (hT : TrT F w g t) :
  Calls Tryz.prog 275 #[.pointer (some ⟨g, 0, none⟩), .agg #[.int .u32 (a : Int), .int .i64 (n : Int)]] w fun e w' =>
   (∃ (vs : List Value) (q : Bool), vs.length = 9 ∧ (∀ u ∈ vs, u.oneCell' = true) ∧ e = .returned (.tuple #[.agg vs.toArray, .bool q]) ∧ q = (trGet a n t).isSome) ∧ ∃ t2, trL t2 = cutL a n (trL t) ∧ TrT F w' g t2 ∧ (∀ j ∈ trB t2, j ∈ trB t) ∧ ChgS (fun j => j = g ∨ j ∈ trB t) w w' ∧ trCnt t2 ≤ trCnt t := by
 refine (tcutAB_any (R := atR) g a n t w ha hT.root hT.tree hT.low hT.gF hT.gB (by have := hT.cnt; omega)).mono ?_; rintro e w' ⟨he, t2, hw2, hg2, hk2, hA2, hB2, hc2, hn2⟩; have hl := cut_list hT.tree.wf hw2 hg2; refine ⟨he, t2, hl, ⟨hk2, hA2, hT.gF, fun h => hT.gB (hB2 g h), fun j hj => Nat.lt_of_lt_of_le (hT.low j hj) hc2.size, fun z hz => ?_, Nat.le_trans hn2 hT.cnt⟩, hB2, hc2, hn2⟩; rw [hl] at hz; exact hT.ok z (List.mem_filter.1 hz).1
theorem len9 {l : List Value} (h : l.length = 9) : ∃ v0 v1 v2 v3 v4 v5 v6 v7 v8, l = [v0, v1, v2, v3, v4, v5, v6, v7, v8] := by
 match l, h with
 | [v0, v1, v2, v3, v4, v5, v6, v7, v8], _ => exact ⟨v0, v1, v2, v3, v4, v5, v6, v7, v8, rfl⟩
set_option maxHeartbeats 4000000 in
theorem storeV9 {w : World} {R : Nat} {u0 u1 u2 u3 u4 u5 u6 u7 u8 v0 v1 v2 v3 v4 v5 v6 v7 v8 : Value} (hk : Blk w R 28 #[u0, u1, u2, u3, u4, u5, u6, u7, u8]) (ho : ∀ u ∈ [v0, v1, v2, v3, v4, v5, v6, v7, v8], u.oneCell' = true) :
  (Instr.storeAt 28 (.pointer (some ⟨R, 0, none⟩)) (.agg #[v0, v1, v2, v3, v4, v5, v6, v7, v8])).run Tryz.prog w = .ok () (w.setCells R 0 [v0, v1, v2, v3, v4, v5, v6, v7, v8]) := by
 obtain ⟨z0, z1, z2, z3, z4, z5, z6, z7, z8⟩ := blk9 hk; have zf := fun i => hk.frozen i; have o0 := runS Tryz.prog v0 (ho v0 (by simp)); have o1 := runS Tryz.prog v1 (ho v1 (by simp)); have o2 := runS Tryz.prog v2 (ho v2 (by simp)); have o3 := runS Tryz.prog v3 (ho v3 (by simp)); have o4 := runS Tryz.prog v4 (ho v4 (by simp)); have o5 := runS Tryz.prog v5 (ho v5 (by simp)); have o6 := runS Tryz.prog v6 (ho v6 (by simp)); have o7 := runS Tryz.prog v7 (ho v7 (by simp)); have o8 := runS Tryz.prog v8 (ho v8 (by simp)); clear ho; simp [go_sem, z0, z1, z2, z3, z4, z5, z6, z7, z8, zf, World.setCells, o0, o1, o2, o3, o4, o5, o6, o7, o8]
def EffB9 (B0 : Nat) (w w' : World) : Prop := ∃ (R : Nat) (vs : List Value), vs.length = 9 ∧ BoxAt B0 w R ∧ w' = w.setCells R 0 vs
theorem boxAt_effB9 {B R : Nat} {w w' : World} (h : BoxAt B w R) (he : EffB9 B w w') : BoxAt B w' R := by
 obtain ⟨h1, u0, u1, u2, u3, u4, u5, u6, u7, u8, h2⟩ := h; obtain ⟨R2, vs, hl, ⟨hb2, v0, v1, v2, v3, v4, v5, v6, v7, v8, hk2⟩, rfl⟩ := he; obtain ⟨x0, x1, x2, x3, x4, x5, x6, x7, x8, rfl⟩ := len9 hl; by_cases e : R = R2
 ·subst e; exact ⟨h1, _, _, _, _, _, _, _, _, _, blk_sets [x0, x1, x2, x3, x4, x5, x6, x7, x8] [] [u0, u1, u2, u3, u4, u5, u6, u7, u8] h2 rfl⟩
 ·exact ⟨h1, _, _, _, _, _, _, _, _, _, blk_sets_far e _ 0 h2⟩
theorem effB9_zero {B : Nat} {w w' : World} (he : EffB9 B w w') : Below 0 w w' := by
 obtain ⟨R2, vs, hl, _, rfl⟩ := he; exact below_sets _ 0 (Below.refl 0 w) (Nat.zero_le _)
theorem effB9_chg {B : Nat} {w w' : World} (he : EffB9 B w w') : ChgS (fun j => B ≤ j) w w' := by
 obtain ⟨R2, vs, hl, ⟨hb2, _⟩, rfl⟩ := he; exact chg_sets (S := fun j => B ≤ j) hb2 vs 0
theorem boxAt_chg {B R : Nat} {S : Nat → Prop} {w w' : World} (h : BoxAt B w R) (hc : ChgS S w w') (hS : ∀ j, S j → j < B) : BoxAt B w' R := by
 obtain ⟨h1, u0, u1, u2, u3, u4, u5, u6, u7, u8, h2⟩ := h; exact ⟨h1, u0, u1, u2, u3, u4, u5, u6, u7, u8, chg_blk hc h2 (fun hs => by have := hS R hs; omega)⟩
def CutV (q : Bool) (v : Value) : Prop := ∃ v0 v1 v2 v3 v4 v5 v6 v7 v8 : Value, (∀ u ∈ [v0, v1, v2, v3, v4, v5, v6, v7, v8], u.oneCell' = true) ∧ v = .tuple #[.agg #[v0, v1, v2, v3, v4, v5, v6, v7, v8], .bool q]
def CutA (v : Value) : Prop := ∃ v0 v1 v2 v3 v4 v5 v6 v7 v8 : Value, (∀ u ∈ [v0, v1, v2, v3, v4, v5, v6, v7, v8], u.oneCell' = true) ∧ v = .agg #[v0, v1, v2, v3, v4, v5, v6, v7, v8]
set_option maxRecDepth 100000 in
set_option maxHeartbeats 8000000 in
theorem rcut_any (own ax : Nat) (F : Nat → Prop) (r g a n0 : Nat) (t : Tr AT) (w : World) (ha : PG a n0) (hr : Blk w r 120 #[.int .u32 (own : Int), .int .u32 0, .int .u32 (ax : Int), .int .i64 0, .bool false, .string ⟨#[]⟩, .string ⟨#[]⟩, .string ⟨#[]⟩, .bool false, .string ⟨#[]⟩, .string ⟨#[]⟩, .string ⟨#[]⟩, .bool false, .pointer (some ⟨g, 0, none⟩)]) (hT : TrT F w g t) :
  Calls Tryz.prog 167 #[.pointer (some ⟨r, 0, none⟩), .agg #[.int .u32 (a : Int), .int .i64 (n0 : Int)]] w fun e w' => e = .returned (.bool (trGet a n0 t).isSome) ∧ ∃ t2, trL t2 = cutL a n0 (trL t) ∧ TrT F w' g t2 ∧ (∀ j ∈ trB t2, j ∈ trB t) ∧ ChgS (fun j => j = g ∨ j ∈ trB t) w w' ∧ trCnt t2 ≤ trCnt t := by
 obtain ⟨w1, hw1⟩ : ∃ w1, w.alloc (.cells #[.int .u32 (a : Int), .int .i64 (n0 : Int)] 24) = w1 := ⟨_, rfl⟩
 have hb1 : Below w.heap.size w w1 := hw1 ▸ blkBelow1 w _; have HX : Hid (Blk w1 w.heap.size 24 #[.int .u32 (a : Int), .int .i64 (n0 : Int)]) := hide (hw1 ▸ Blk.new w _ _); have HR := hide (hr.below hb1 hr.lt); have HT := hide (fun W (hb : Below w1.heap.size w1 W) => (hT.below hb1).below hb); have HLo : Hid (∀ j, (j = g ∨ j ∈ trB t) → j < w1.heap.size) := hide (fun j hj => Nat.lt_of_lt_of_le (hj.elim (fun e => e ▸ hT.root.lt) (fun h => hT.tree.mem.lt j h)) hb1.size); have HLF : Hid (∀ j, F j → j < w1.heap.size) := hide (fun j hj => Nat.lt_of_lt_of_le (hT.low j hj) hb1.size); have HPg := hide ha; obtain ⟨IS, hIS⟩ : ∃ q, (trGet a n0 t).isSome = q := ⟨_, rfl⟩
 rw [hIS]; have HIS := hide hIS; have HB1 := hide hb1; have HW1 := hide hw1; clear hw1 hb1 hr hT hIS
 go_enter Tryz.func167, Tryz.ntmps167
 go_upto_region 1 with fail
 rw [HW1.out]; refine wp_region_relH 12 0 (Nat.zero_le _) [(fun v _ => v = .pointer (some ⟨r, 0, none⟩)), (fun v _ => v = .pointer (some ⟨r, 0, none⟩)), (fun v _ => v = .pointer (some ⟨r, 13, none⟩)), (fun v _ => v = .pointer (some ⟨g, 0, none⟩)), (fun v _ => v = .agg #[.int .u32 (a : Int), .int .i64 (n0 : Int)]), (fun v W => ∃ t2, CutV IS v ∧ trL t2 = cutL a n0 (trL t) ∧ TrT F W g t2 ∧ (∀ j ∈ trB t2, j ∈ trB t) ∧ ChgS (fun j => j = g ∨ j ∈ trB t) w1 W ∧ trCnt t2 ≤ trCnt t), (fun v _ => CutV IS v), (fun v _ => CutA v), (fun v _ => v = .bool IS), (fun v w => ∃ R, v = .pointer (some ⟨R, 0, none⟩) ∧ BoxAt w1.heap.size w R), (fun _ W => True), (fun v _ => v = .bool IS)] (fun i W => (1 ≤ i ∧ i ≤ 5) → Below w1.heap.size w1 W) (fun i Wa Wb => if i = 5 then ChgS (fun j => j = g ∨ j ∈ trB t) Wa Wb else if i = 10 then EffB9 w1.heap.size Wa Wb else Below Wa.heap.size Wa Wb) (by kernel_rfl) (by kernel_rfl) (by kernel_rfl) (by kernel_rfl) (by kernel_rfl) ?hE ?hR ?hP ?h0 ⟨?_, ?_, ?_, ?_, ?_, ?_, ?_, ?_, ?_, ?_, ?_, ?_, trivial⟩ ?_
 case hE =>
  intro i2 wa wb hB he; split at he
  ·exact ⟨he.os, he.tape, he.output, he.size, fun k hk => absurd hk (Nat.not_lt_zero k)⟩
  ·split at he
   ·exact effB9_zero he
   ·exact he.mono (Nat.zero_le _)
 case hR =>
  intro i2 j2 vq wa wb hij hB he h; split at he
  ·rename_i hj2; subst hj2; refine keepAll_at (E := fun wa wb => ChgS (fun j => j = g ∨ j ∈ trB t) wa wb) (x := 5) (k := 0) ?_ (by omega) he h; exact ⟨fun _ v wa wb he h => h, fun _ v wa wb he h => h, fun _ v wa wb he h => h, fun _ v wa wb he h => h, fun _ v wa wb he h => h, fun hn => absurd rfl hn, fun _ v wa wb he h => h, fun _ v wa wb he h => h, fun _ v wa wb he h => h, fun _ v wa wb he h => by obtain ⟨R, e, h1⟩ := h; exact ⟨R, e, boxAt_chg h1 he (fun j hj => HLo.out j hj)⟩, fun _ v wa wb he h => h, fun _ v wa wb he h => h, trivial⟩
  ·split at he
   ·rename_i hj3; subst hj3; refine keepAll_at (E := fun wa wb => EffB9 w1.heap.size wa wb) (x := 10) (k := 0) ?_ (by omega) he h; exact ⟨fun _ v wa wb he h => h, fun _ v wa wb he h => h, fun _ v wa wb he h => h, fun _ v wa wb he h => h, fun _ v wa wb he h => h, fun _ v wa wb he h => by obtain ⟨t2, e, h1, h2, h3, h4, h5⟩ := h; exact ⟨t2, e, h1, h2.chg (effB9_chg he) (fun j hj hw => by have := HLo.out j (.inr (h3 j hj)); omega) (fun j hj hw => by have := HLF.out j hj; omega) (by have := HLo.out g (.inl rfl); omega), h3, chg_trans h4 (effB9_chg he) (fun k h => .inr h), h5⟩, fun _ v wa wb he h => h, fun _ v wa wb he h => h, fun _ v wa wb he h => h, fun _ v wa wb he h => by obtain ⟨R, e, h1⟩ := h; exact ⟨R, e, boxAt_effB9 h1 he⟩, fun hn => absurd rfl hn, fun _ v wa wb he h => h, trivial⟩
   ·refine relMono _ ?_ i2 vq wa wb he h; exact ⟨fun _ _ _ _ h => h, fun _ _ _ _ h => h, fun _ _ _ _ h => h, fun _ _ _ _ h => h, fun _ _ _ _ h => h, fun v wa wb hb ⟨t2, e, h1, h2, h3, h4, h5⟩ => ⟨t2, e, h1, h2.below hb, h3, chg_trans h4 (chg_below (S := fun _ => False) hb) (fun k h => h.elim), h5⟩, fun _ _ _ _ h => h, fun _ _ _ _ h => h, fun _ _ _ _ h => h, fun v w w2 hb ⟨R, e, h⟩ => ⟨R, e, boxAt_below h hb⟩, fun _ _ _ _ h => h, fun _ _ _ _ h => h, trivial⟩
 case hP =>
  intro i2 j2 wa wb hij hnb hB he h hi; split at he
  ·rename_i hj2; subst hj2; have hi3 : i2 = 1 ∨ i2 = 2 ∨ i2 = 3 ∨ i2 = 4 ∨ i2 = 5 := (by omega)
   rcases hi3 with rfl | rfl | rfl | rfl | rfl
   all_goals first | exact absurd rfl hij | exact absurd hnb (by decide +kernel)
  ·split at he
   ·rename_i hj3; subst hj3; have hi3 : i2 = 1 ∨ i2 = 2 ∨ i2 = 3 ∨ i2 = 4 ∨ i2 = 5 := (by omega)
    rcases hi3 with rfl | rfl | rfl | rfl | rfl
    all_goals exact absurd hnb (by decide +kernel)
   ·exact (h hi).trans (he.mono (h hi).size)
 case h0 =>
  intro j2 hj2 _; exact (Below.refl _ _).drew
 ·exact relG_plain rfl rfl (fun _ _ h => h) fun Ac w5 hp => pureM (ptv r 0) 0 (hp.out 0 (by rfl))
 ·exact relG_plain rfl rfl (fun _ _ h => h) fun Ac w5 hp => pureM (ptv r 0) 8 (hp.d 0)
 ·exact relG_plain rfl rfl (fun _ _ h => h) fun Ac w5 hp => pure1 (ptv r 13) 9 (ptv r 0) (hp.d 1)
 ·refine relG_plain rfl rfl (fun _ _ h => h) ?_; intro Ac w5 hp; have hb := hp.bel; have hb := hp.pre ⟨by decide, by decide⟩; have hr5 := HR.out.below hb HR.out.lt; have z13 : w5.cell? ⟨r, 13, none⟩ = some (ptv g 0) := hr5.cell 13; exact pure1 (ptv g 0) 10 (ptv r 13) (hp.d 2)
 ·refine relG_plain rfl rfl (fun _ _ h => h) ?_; intro Ac w5 hp; have hb := hp.bel; have hb := hp.pre ⟨by decide, by decide⟩; have hx5 := HX.out.below hb HX.out.lt; have x0 : w5.cell? ⟨w.heap.size, 0, none⟩ = some (.int .u32 (a : Int)) := hx5.cell 0; have x1 : w5.cell? ⟨w.heap.size, 1, none⟩ = some (.int .i64 (n0 : Int)) := hx5.cell 1; exact pure1 (.agg #[.int .u32 (a : Int), .int .i64 (n0 : Int)]) 3 (ptv w.heap.size 0) (hp.out 3 (by rfl))
 ·refine relG_enter rfl rfl ?_; intro Ac w5 hp; have hb := hp.bel; have a11 : Ac.eval (.tmp 11) = .pointer (some ⟨g, 0, none⟩) := hp.d 3; have a12 : Ac.eval (.tmp 12) = .agg #[.int .u32 (a : Int), .int .i64 (n0 : Int)] := hp.d 4; obtain ⟨ρ, hρ, hc, hf, hgl⟩ := evalX Ac; rw [hρ] at a11 a12; refine ⟨275, #[.pointer (some ⟨g, 0, none⟩), .agg #[.int .u32 (a : Int), .int .i64 (n0 : Int)]], by rw [hρ]; simp [go_sem, hc, hf, hgl, ↓IntWalk.iteOmega, a11, a12, *], ?_⟩; have hb := hp.pre ⟨by decide, by decide⟩; refine (trcutB_any F g a n0 t w5 HPg.out (HT.out w5 hb)).mono ?_; rintro e w6 ⟨⟨vs6, q6, hl6, ho6, rfl, hq6⟩, t2, h1, h2, h3, h4, h5⟩; obtain ⟨v0, v1, v2, v3, v4, v5, v6, v7, v8, rfl⟩ := len9 hl6; obtain rfl := hq6.trans HIS.out; exact ⟨_, rfl, ⟨t2, ⟨v0, v1, v2, v3, v4, v5, v6, v7, v8, ho6, rfl⟩, h1, h2, h3, chg_trans (chg_below hb) h4 (fun k h => .inl h), h5⟩, h4⟩
 ·refine relG_plain rfl rfl (fun _ _ h => h) ?_; intro Ac w5 hp; obtain ⟨t2, ⟨v0, v1, v2, v3, v4, v5, v6, v7, v8, hov, a13⟩, hl2, hT2, hB2, hc2, hn2⟩ := hp.d 5; change Ac.eval (.tmp 13) = _ at a13; exact relPureX (.tuple #[.agg #[v0, v1, v2, v3, v4, v5, v6, v7, v8], .bool IS]) (fun ρ hρ h1 h2 h3 => by rw [hρ] at a13; simp [go_sem, ↓IntWalk.iteOmega, *]) ⟨v0, v1, v2, v3, v4, v5, v6, v7, v8, hov, rfl⟩
 ·refine relG_plain rfl rfl (fun _ _ h => h) ?_; intro Ac w5 hp; obtain ⟨y0, y1, y2, y3, y4, y5, y6, y7, y8, hoy, a7⟩ := hp.d 6; change Ac.eval (.tmp 7) = _ at a7; exact relPureX (.agg #[y0, y1, y2, y3, y4, y5, y6, y7, y8]) (fun ρ hρ h1 h2 h3 => by rw [hρ] at a7; simp [go_sem, ↓IntWalk.iteOmega, *]) ⟨y0, y1, y2, y3, y4, y5, y6, y7, y8, hoy, rfl⟩
 ·refine relG_plain rfl rfl (fun _ _ h => h) ?_; intro Ac w5 hp; obtain ⟨y0, y1, y2, y3, y4, y5, y6, y7, y8, hoy, a7⟩ := hp.d 6; change Ac.eval (.tmp 7) = _ at a7; exact relPureX (.bool IS) (fun ρ hρ h1 h2 h3 => by rw [hρ] at a7; simp [go_sem, ↓IntWalk.iteOmega, *]) rfl
 ·refine relG_plain rfl rfl (fun _ _ h => h) ?_; intro Ac w5 hp; have hb := hp.bel; have hc := evalC Ac; have hf := evalF Ac; have hgl := evalG Ac; obtain ⟨ρ, hρ⟩ : ∃ ρ, Ac.eval = ρ := ⟨_, rfl⟩
  exact relVal hρ (.pointer (some ⟨w5.heap.size, 0, none⟩)) (w5.alloc (.cells zeroA 28)) (by simp [go_sem, ↓IntWalk.iteOmega, *]) ⟨_, rfl, hb.size, _, _, _, _, _, _, _, _, _, Blk.new w5 _ _⟩ ((Below.refl _ _).alloc (Nat.le_refl _) _)
 ·refine relG_store rfl ?_; intro Ac w5 hp; obtain ⟨R5, a5, hR5⟩ := hp.d 9; change Ac.eval (.tmp 5) = _ at a5; obtain ⟨z0, z1, z2, z3, z4, z5, z6, z7, z8, hoz, a14⟩ := hp.d 7; change Ac.eval (.tmp 14) = _ at a14; obtain ⟨hRb, u0, u1, u2, u3, u4, u5, u6, u7, u8, hK⟩ := hR5; exact ⟨_, .inl (exec_store rfl a5 a14 (storeV9 hK hoz)), trivial, R5, [z0, z1, z2, z3, z4, z5, z6, z7, z8], rfl, ⟨hRb, u0, u1, u2, u3, u4, u5, u6, u7, u8, hK⟩, rfl⟩
 ·exact relG_plain rfl rfl (fun _ _ h => h) fun Ac w5 hp => pureM (.bool IS) 15 (hp.d 8)
 intro u w8 hb7 hall; obtain ⟨t2, ⟨v0, v1, v2, v3, v4, v5, v6, v7, v8, hov, e13⟩, hl2, hT2, hB2, hc2, hn2⟩ := relAll_at hall (i := 5) (by decide +kernel); change u 5 = _ at e13; have e6 : u 11 = .bool IS := relAll_at hall (i := 11) (by decide +kernel); have efin : True := relAll_at hall (i := 10) (by decide +kernel); clear hall; simp only [List.drop_succ_cons, List.drop_zero, List.take_succ_cons, List.take_zero, putAll, Act.put, List.setIfInBounds_toArray, List.set_cons_zero, List.set_cons_succ, Nat.zero_add, Nat.reduceAdd, e13, e6]; have HL2 := hide hl2; have HT2 := hide hT2; have HB2 := hide hB2; have HN2 := hide hn2; have HC2 := hide (chg_trans (chg_below (S := fun j => j = g ∨ j ∈ trB t) HB1.out) hc2 (fun k h => .inl h)); clear hl2 hT2 hB2 hc2 hn2 hb7; go_wp2; refine bodyPost_ret (v := .bool IS) (by simp [results, Tryz.results167, go_sem]) rfl ⟨rfl, t2, HL2.out, HT2.out, HB2.out, HC2.out, HN2.out⟩
theorem trw_blkA {α : Type} {sz : Nat} {T : TypeId} {F : Nat → Prop} {R : World → List Value → α → Prop} {w : World} : ∀ {t : Tr α}, TrW sz T F R w t → ∀ k ∈ trB t, ∃ cs, Blk w k T cs
 | .nil, _, k, hk => by simp [trB] at hk
 | .nd b a n v l r, h, k, hk => by
   obtain ⟨⟨vs, _, hb, _⟩, hl, hr⟩ := h; simp only [trB, List.mem_cons, List.mem_append] at hk; rcases hk with rfl | hk | hk
   ·exact ⟨_, hb⟩
   ·exact trw_blkA hl k hk
   ·exact trw_blkA hr k hk
theorem trt_keepB {F : Nat → Prop} {w w' : World} {g b : Nat} {t : Tr AT} {T : TypeId} {cs : Array Value} (hT : TrT F w g t) (hc : ChgS (fun j => j = g ∨ j ∈ trB t) w w') (hk : Blk w b T cs) (h1 : T ≠ 215) (h2 : T ≠ 319) : Blk w' b T cs := by
 refine chg_blk hc hk ?_; rintro (rfl | hm)
 ·exact hk.ne_ hT.root h1 rfl
 ·obtain ⟨cs2, hb⟩ := trw_blkA hT.tree.mem b hm; exact hk.ne_ hb h2 rfl
theorem trt_keepO {F : Nat → Prop} {w w' : World} {g base sz n : Nat} {t : Tr AT} {e : TypeId} {v : Value} {xs : List Value} (hT : TrT F w g t) (hc : ChgS (fun j => j = g ∨ j ∈ trB t) w w') (h : w.ownsRow base e sz v n xs) (h1 : e ≠ 215) (h2 : e ≠ 319) : w'.ownsRow base e sz v n xs := by
 refine ⟨h.1, ?_⟩; rcases h.2 with h3 | ⟨b, cap, cur, e1, e2, e3, rest⟩
 ·exact .inl h3
 ·refine .inr ⟨b, cap, cur, e1, e2, (hc.block b (heap_lt e3) ?_).trans e3, rest⟩; rintro (rfl | hm)
  ·exact own_blk_ne h hT.root h1 (by rw [e1]; rfl)
  ·obtain ⟨cs2, hb⟩ := trw_blkA hT.tree.mem b hm; exact own_blk_ne h hb h2 (by rw [e1]; rfl)
theorem trputS_any (F S : Nat → Prop) (g : Nat) (t : Tr AT) (a n : Nat) (X : AT) (A : Option Addr) (k c : Nat) (B : Option Addr) (m d : Nat) (w : World) (hT : TrT F w g t) (ha : PG a n) (hX : AtOk X)
  (hv : FrS S none (fun w => atR w [.int .i64 X.has, .int .i64 X.org, .slice A k c, .int .u32 X.hop, .int .u32 X.med, .int .u32 X.pref, .int .u32 X.aas, .int .u32 X.aid, .slice B m d] X) w) (hS : ∀ j, S j → j < w.heap.size) (hgS : ¬ S g) (htS : ∀ j ∈ trB t, ¬ S j) (hc : trCnt t < 100000) :
  Calls Tryz.prog 170 #[.pointer (some ⟨g, 0, none⟩), .agg #[.int .u32 (a : Int), .int .i64 (n : Int)], .agg #[.int .i64 X.has, .int .i64 X.org, .slice A k c, .int .u32 X.hop, .int .u32 X.med, .int .u32 X.pref, .int .u32 X.aas, .int .u32 X.aid, .slice B m d]] w fun e w' =>
   (∃ v q, e = .returned (.tuple #[v, .bool q])) ∧ ∃ t2, trL t2 = putL a n X (trL t) ∧ trCnt t2 ≤ trCnt t + 1 ∧ TrT (fun j => F j ∨ S j) w' g t2 ∧ (∀ j ∈ trB t2, j ∈ trB t ∨ w.heap.size ≤ j) ∧ ChgS (fun j => j = g ∨ j ∈ trB t) w w' := by
 have hF : ∀ j, (F j ∨ S j) → j < w.heap.size := fun j hj => hj.elim (fun h => hT.low j h) (fun h => hS j h); have hgF : ¬ (F g ∨ S g) := fun h => h.elim hT.gF hgS; have hA := hT.tree.more (F' := fun j => F j ∨ S j) (fun j h => .inl h) (fun j hj h => h.elim (hT.tree.far j hj) (htS j hj)); have hv2 : FrS (fun j => F j ∨ S j) none (fun w => atR w [.int .i64 X.has, .int .i64 X.org, .slice A k c, .int .u32 X.hop, .int .u32 X.med, .int .u32 X.pref, .int .u32 X.aas, .int .u32 X.aid, .slice B m d] X) w := frs_more hv (fun j h => .inr h)
 cases hg : trGet a n t with
 | none =>
  refine (putnA_any (R := atR) g a n t X X.has X.org A k c X.hop X.med X.pref X.aas X.aid B m d w ha hT.root hA hF hv2 hgF hT.gB (by omega) hg).mono ?_; rintro e w' ⟨rfl, t2, h1, h2, h3, h4, h5⟩; have hcn := h1.cnt; rw [hg] at hcn; simp at hcn; refine ⟨⟨_, _, rfl⟩, t2, h1.list hT.tree.wf, by omega, ⟨h2, h3, hgF, fun h => (h4 g h).elim hT.gB (fun h => by have := hT.root.lt; omega), fun j hj => Nat.lt_of_lt_of_le (hF j hj) h5.size, trput_ok hT.tree.wf h1 hT.ok hX, by omega⟩, h4, h5⟩
 | some y =>
  refine (putfA_any (R := atR) g a n t X y X.has X.org A k c X.hop X.med X.pref X.aas X.aid B m d w ha hT.root hA hF hv2 hgF hT.gB (by omega) hg).mono ?_; rintro e w' ⟨v0, v1, v2, v3, v4, v5, v6, v7, v8, rfl, _, h1, h2, h3, h5⟩; have hB : ∀ j ∈ trB (trUpd a n X t), j ∈ trB t := fun j hj => by rwa [(trUpd_b (a := a) (n := n) (x := X) t).1] at hj
  have hcn := h1.cnt; rw [hg] at hcn; simp at hcn; refine ⟨⟨_, _, rfl⟩, trUpd a n X t, h1.list hT.tree.wf, by omega, ⟨h2, h3, hgF, fun h => hT.gB (hB g h), fun j hj => Nat.lt_of_lt_of_le (hF j hj) h5.size, trput_ok hT.tree.wf h1 hT.ok hX, by have := hT.cnt; omega⟩, fun j hj => .inl (hB j hj), chg_mono h5 (fun j hj => .inl (.inr hj))⟩
theorem accF_eq {own ax : Nat} {X Y : AT} {q : Bool} {v : Value} {w : World} (hY : accF own ax X = (Y, q)) (hv : AtR w X v) (hn : numS X.path ≤ 10000) (hm : X.comms.length ≤ 10000) :
  Calls Tryz.prog 168 #[.int .u32 (own : Int), .int .u32 (ax : Int), v] w fun e w' => ∃ v', e = .returned (.tuple #[v', .bool q]) ∧ AtO w.heap.size w' Y v' ∧ Below w.heap.size w w' := by
 have h := acc_any own ax X v w hv hn hm; rw [hY] at h; exact h
theorem accF_nrm {own ax : Nat} {X Y : AT} {q : Bool} (hY : accF own ax X = (Y, q)) : normA Y = Y := by
 have h : accF own ax X = (Y, q) := hY; unfold accF at h; have h0 : normA (normA X) = normA X := normA_eq X; split at h
 ·cases h; exact h0
 ·split at h
  ·split at h
   ·cases h; exact norm_or X
   ·cases h; exact h0
  ·split at h
   ·cases h; exact norm_not X
   ·cases h; exact h0
theorem accF_ok {own ax : Nat} {X Y : AT} {q : Bool} (hY : accF own ax X = (Y, q)) (hX : AtOk X) : AtOk Y := by
 have h : accF own ax X = (Y, q) := hY; unfold accF at h; have h0 : AtOk (normA X) := atok_norm hX; split at h
 ·cases h; exact h0
 ·split at h
  ·split at h
   ·cases h; exact h0
   ·cases h; exact h0
  ·split at h
   ·cases h; exact h0
   ·cases h; exact h0
def goneF (s : List (Nat × Nat × AT) × List (Nat × Nat)) (p : Nat × Nat) : List (Nat × Nat × AT) × List (Nat × Nat) := (cutL p.1 p.2 s.1, if (lkL p.1 p.2 s.1).isSome = true then s.2 ++ [p] else s.2)
def putF (Y : AT) (s : List (Nat × Nat × AT) × List (Nat × Nat)) (p : Nat × Nat) : List (Nat × Nat × AT) × List (Nat × Nat) := (putL p.1 p.2 Y s.1, s.2 ++ [p])
def fedF (Y : AT) (q : Bool) (L : List (Nat × Nat × AT)) (gone here : List (Nat × Nat)) : List (Nat × Nat × AT) × List (Nat × Nat) := here.foldl (if q = true then putF Y else goneF) (gone.foldl goneF (L, []))
theorem goneF_step {t t2 : Tr AT} {a n : Nat} {IS : Bool} {D : List (Nat × Nat)} {s : List (Nat × Nat × AT) × List (Nat × Nat)} {l : List (Nat × Nat)} {q : Nat} (hw : trWf t) (hIS : (trGet a n t).isSome = IS) (hl : trL t2 = cutL a n (trL t)) (hx : l.take (q + 1) = l.take q ++ [(a, n)]) (h : (trL t, D) = (l.take q).foldl goneF s) :
  (trL t2, if IS = true then D ++ [(a, n)] else D) = (l.take (q + 1)).foldl goneF s := by
 rw [hx, List.foldl_append, ← h, List.foldl_cons, List.foldl_nil]; unfold goneF; rw [trGet_lk hw] at hIS; rw [hl, hIS]
theorem putF_step {t t2 : Tr AT} {a n : Nat} {Y : AT} {D : List (Nat × Nat)} {s : List (Nat × Nat × AT) × List (Nat × Nat)} {l : List (Nat × Nat)} {q : Nat} (hl : trL t2 = putL a n Y (trL t)) (hx : l.take (q + 1) = l.take q ++ [(a, n)]) (h : (trL t, D) = (l.take q).foldl (putF Y) s) :
  (trL t2, D ++ [(a, n)]) = (l.take (q + 1)).foldl (putF Y) s := by
 rw [hx, List.foldl_append, ← h, List.foldl_cons, List.foldl_nil]; unfold putF; rw [hl]
end Go.Proofs.YtmffmkjgdjgmeaaGreat
namespace Go.Proofs.YtmffmkjgdjgmeaaGreat
open Go.RowKit Go.WideShapes Go.ChangeShapes
def OkM (X : AT) (b : Bool) (v : Value) (ob : Option Nat) (w : World) : Prop := ∃ A n c xs B m d, v = .tuple #[atV X.has X.org A n c X.hop X.med X.pref X.aas X.aid B m d, .bool b] ∧
  w.ownsRow 0 99 2 (.slice A n c) n xs ∧ Chunks 2 (fun w vs x => FrB 0 ob (fun w => sgR w vs x) w) w xs X.path ∧ FrB 0 ob (fun w => U32s w B m d X.comms) w
theorem grownBy_set (w : World) (R i : Nat) (v : Value) : w.grownBy (w.setCell ⟨R, i, none⟩ v) (some R) :=
 ⟨rfl, rfl, rfl, Nat.le_of_eq (by simp), fun k _ hk => Below.heap_setCell _ _ _ k (fun e => hk (by rw [e]))⟩
section
variable {X : AT} {b : Bool} {v : Value} {ob : Option Nat} {w w' : World} {R B0 : Nat}
theorem OkM.below (h : OkM X b v ob w) (hb : Below w.heap.size w w') : OkM X b v ob w' := by
 obtain ⟨A, n, c, xs, B, m, d, e, h1, h2, h3⟩ := h; exact ⟨A, n, c, xs, B, m, d, e, own_kept h1 hb, chunks_fr_below h2 hb, h3.below hb⟩
theorem fr_any {S : World → Prop} (h : FrB B0 none S w) (hob : ∀ k, ob = some k → k < B0) : FrB 0 ob S w := by
 intro w' ha; exact h w' ⟨ha.1, fun k o hk ho hc _ => ha.2 k o (Nat.zero_le _) ho hc (fun e => by have := hob k e.symm; omega)⟩
theorem OkM.of_low (h : AtO B0 w X v) (hob : ∀ k, ob = some k → k < B0) : OkM X b (.tuple #[v, .bool b]) ob w := by
 obtain ⟨A, n, c, xs, B, m, d, rfl, h1, h2⟩ := h; exact ⟨A, n, c, xs, B, m, d, rfl, own_baseLe h1.1 (Nat.zero_le _), ⟨h1.2.1, fun k x hx => fr_any (FrB.none_ (h1.2.2 k x hx)) hob⟩, fr_any h2 hob⟩
theorem fr_newer {S : World → Prop} (h : FrB 0 none S w) (hb : Below w.heap.size w w') (hob : w.heap.size ≤ R) : FrB 0 (some R) S w' := fr_new h hb (fun k e => by cases e; exact hob)
theorem OkM.new (h : OkM X b v none w) (hb : Below w.heap.size w w') (hR : w.heap.size ≤ R) : OkM X b v (some R) w' := by
 obtain ⟨A, n, c, xs, B, m, d, e, h1, h2, h3⟩ := h; exact ⟨A, n, c, xs, B, m, d, e, own_kept h1 hb, ⟨h2.1, fun k x hx => fr_newer (h2.2 k x hx) hb hR⟩, fr_newer h3 hb hR⟩
theorem own_setsT {base e size n H : Nat} {u : Value} {xs : List Value} {t : TypeId} {cs : Array Value} (hne : e ≠ t) : ∀ (vs : List Value) (i : Nat) {w : World} {cs : Array Value}, w.ownsRow base e size u n xs → Blk w H t cs → (w.setCells H i vs).ownsRow base e size u n xs
 | [], _, _, _, h, _ => h
 | v :: vs, i, _, _, h, hk => own_setsT hne vs (i + 1) (own_set h (own_blk_ne h hk hne) v) (hk.set_ i v) (cs := cs)
theorem fr_sets {S : World → Prop} : ∀ (vs : List Value) (i : Nat) {w : World}, FrB 0 (some R) S w → FrB 0 (some R) S (w.setCells R i vs)
 | [], _, _, h => h
 | v :: vs, i, w, h => fr_sets vs (i + 1) (h.ag (AgB.grown (grownBy_set w R i v)))
theorem OkM.sets {vs : List Value} {cs : Array Value} (h : OkM X b v (some R) w) (hk : Blk w R 28 cs) : OkM X b v (some R) (w.setCells R 0 vs) := by
 obtain ⟨A, n, c, xs, B, m, d, e, h1, h2, h3⟩ := h; exact ⟨A, n, c, xs, B, m, d, e, own_setsT (cs := cs) (by decide) vs 0 h1 hk, ⟨h2.1, fun k x hx => fr_sets vs 0 (h2.2 k x hx)⟩, fr_sets vs 0 h3⟩
theorem OkM.rd (h : OkM X b v ob w) : ∃ u, v = .tuple #[u, .bool b] ∧ AtR w X u := by
 obtain ⟨A, n, c, xs, B, m, d, e, h1, h2, h3⟩ := h; exact ⟨_, e, A, n, c, B, m, d, rfl, LstAt.of_own (by decide) h1 ⟨h2.1, fun k x hx => (h2.2 k x hx).here⟩, h3.here⟩
end
structure OkX (k : Nat) (X : AT) (b : Bool) (B0 : Nat) (D : Nat → Bool) (u : Nat → Value) (w : World) : Prop where
  d1 : D (k + 1) = true → D k = true
  d2 : D (k + 2) = true → D k = true
  d3 : D (k + 3) = true → D k = true
  d5 : D (k + 5) = true → D k = true ∧ D (k + 4) = true
  c0 : D k = true → D (k + 4) = false → OkM X b (u k) none w
  c1 : D (k + 1) = true → u (k + 1) = u k
  c2 : D (k + 2) = true → ∃ y z, u k = .tuple #[y, z] ∧ u (k + 2) = y
  c3 : D (k + 3) = true → ∃ y z, u k = .tuple #[y, z] ∧ u (k + 3) = z
  c4 : D (k + 4) = true → ∃ R, u (k + 4) = .pointer (some ⟨R, 0, none⟩) ∧ B0 ≤ R ∧ (∃ cs, Blk w R 28 cs ∧ (D (k + 5) = false → cs = zeroC)) ∧ (D k = true → OkM X b (u k) (some R) w)
  c5 : D (k + 5) = true → ∃ R A n c B m d, u (k + 4) = .pointer (some ⟨R, 0, none⟩) ∧ u k = .tuple #[atV X.has X.org A n c X.hop X.med X.pref X.aas X.aid B m d, .bool b] ∧ Blk w R 28 (atC X.has X.org A n c X.hop X.med X.pref X.aas X.aid B m d)
section
variable {k : Nat} {X : AT} {b : Bool} {B0 : Nat} {D : Nat → Bool} {u : Nat → Value} {w w' : World}
theorem okx_start (u : Nat → Value) (w : World) : OkX k X b B0 (fun _ => false) u w := by
 constructor <;> intro h <;> cases h
theorem okx_below (h : OkX k X b B0 D u w) (hb : Below w.heap.size w w') : OkX k X b B0 D u w' :=
  ⟨h.d1, h.d2, h.d3, h.d5, fun a c => (h.c0 a c).below hb, h.c1, h.c2, h.c3, fun a => by
    obtain ⟨R, e, hR, ⟨cs, hk, hz⟩, hm⟩ := h.c4 a; exact ⟨R, e, hR, ⟨cs, hk.below hb hk.lt, hz⟩, fun c => (hm c).below hb⟩, fun a => by
    obtain ⟨R, A, n, c, B, m, d, e, e2, hk⟩ := h.c5 a; exact ⟨R, A, n, c, B, m, d, e, e2, hk.below hb hk.lt⟩⟩
theorem okx_other {i : Nat} (hi : i < k ∨ k + 5 < i) (v : Value) (hb : Below w.heap.size w w') (h : OkX k X b B0 D u w) : OkX k X b B0 (updD D i) (updU u i v) w' := by
 have h' := okx_below h hb
 have e : ∀ j, k ≤ j → j ≤ k + 5 → updD D i j = D j ∧ updU u i v j = u j := fun j h1 h2 => by
  unfold updD updU; rw [if_neg (by omega), if_neg (by omega)]; exact ⟨rfl, rfl⟩
 obtain ⟨a0, b0⟩ := e k (by omega) (by omega); obtain ⟨a1, b1⟩ := e (k + 1) (by omega) (by omega); obtain ⟨a2, b2⟩ := e (k + 2) (by omega) (by omega); obtain ⟨a3, b3⟩ := e (k + 3) (by omega) (by omega); obtain ⟨a4, b4⟩ := e (k + 4) (by omega) (by omega); obtain ⟨a5, b5⟩ := e (k + 5) (by omega) (by omega); constructor <;> simp only [a0, a1, a2, a3, a4, a5, b0, b1, b2, b3, b4, b5]
 ·exact h'.d1
 ·exact h'.d2
 ·exact h'.d3
 ·exact h'.d5
 ·exact h'.c0
 ·exact h'.c1
 ·exact h'.c2
 ·exact h'.c3
 ·exact h'.c4
 ·exact h'.c5
theorem updD_self (D : Nat → Bool) (i : Nat) : updD D i i = true := by unfold updD; rw [if_pos rfl]
theorem updD_ne (D : Nat → Bool) {i j : Nat} (h : j ≠ i) : updD D i j = D j := by unfold updD; rw [if_neg h]
theorem updU_self (u : Nat → Value) (i : Nat) (v : Value) : updU u i v i = v := by unfold updU; rw [if_pos rfl]
theorem updU_ne (u : Nat → Value) {i j : Nat} (v : Value) (h : j ≠ i) : updU u i v j = u j := by unfold updU; rw [if_neg h]
theorem b_no {p : Prop} {x : Bool} (h : x = false) (h' : x = true) : p := by rw [h] at h'; cases h'
theorem okx_call {y : Value} (h : OkX k X b B0 D u w) (hn : D k = false) (hb : Below w.heap.size w w') (hy : AtO w.heap.size w' X y) : OkX k X b B0 (updD D k) (updU u k (.tuple #[y, .bool b])) w' := by
 constructor <;> simp only [updD_self, updU_self, updD_ne D (show k + 1 ≠ k by omega), updD_ne D (show k + 2 ≠ k by omega), updD_ne D (show k + 3 ≠ k by omega), updD_ne D (show k + 4 ≠ k by omega), updD_ne D (show k + 5 ≠ k by omega), updU_ne u _ (show k + 1 ≠ k by omega), updU_ne u _ (show k + 2 ≠ k by omega), updU_ne u _ (show k + 3 ≠ k by omega), updU_ne u _ (show k + 4 ≠ k by omega)]
 ·exact fun _ => trivial
 ·exact fun _ => trivial
 ·exact fun _ => trivial
 ·exact fun e => ⟨trivial, (h.d5 e).2⟩
 ·exact fun _ _ => OkM.of_low hy (fun k e => by cases e)
 ·exact fun e => b_no hn (h.d1 e)
 ·exact fun e => b_no hn (h.d2 e)
 ·exact fun e => b_no hn (h.d3 e)
 ·intro e; obtain ⟨R, e1, hR, ⟨cs, hk, hz⟩, hm⟩ := h.c4 e; exact ⟨R, e1, hR, ⟨cs, hk.below hb hk.lt, hz⟩, fun _ => OkM.of_low hy (fun k e => by cases e; exact hk.lt)⟩
 ·exact fun e => b_no hn (h.d5 e).1
theorem okx_move (h : OkX k X b B0 D u w) (hd : D k = true) : OkX k X b B0 (updD D (k + 1)) (updU u (k + 1) (u k)) w := by
 constructor <;> simp only [updD_self, updU_self, updD_ne D (show k ≠ k + 1 by omega), updD_ne D (show k + 2 ≠ k + 1 by omega), updD_ne D (show k + 3 ≠ k + 1 by omega), updD_ne D (show k + 4 ≠ k + 1 by omega), updD_ne D (show k + 5 ≠ k + 1 by omega), updU_ne u _ (show k ≠ k + 1 by omega), updU_ne u _ (show k + 2 ≠ k + 1 by omega), updU_ne u _ (show k + 3 ≠ k + 1 by omega), updU_ne u _ (show k + 4 ≠ k + 1 by omega)]
 ·exact fun _ => hd
 ·exact h.d2
 ·exact h.d3
 ·exact h.d5
 ·exact h.c0
 ·exact fun _ => trivial
 ·exact h.c2
 ·exact h.c3
 ·exact h.c4
 ·exact h.c5
theorem okx_ext0 {y z : Value} (h : OkX k X b B0 D u w) (hd : D k = true) (hu : u k = .tuple #[y, z]) : OkX k X b B0 (updD D (k + 2)) (updU u (k + 2) y) w := by
 constructor <;> simp only [updD_self, updU_self, updD_ne D (show k ≠ k + 2 by omega), updD_ne D (show k + 1 ≠ k + 2 by omega), updD_ne D (show k + 3 ≠ k + 2 by omega), updD_ne D (show k + 4 ≠ k + 2 by omega), updD_ne D (show k + 5 ≠ k + 2 by omega), updU_ne u _ (show k ≠ k + 2 by omega), updU_ne u _ (show k + 1 ≠ k + 2 by omega), updU_ne u _ (show k + 3 ≠ k + 2 by omega), updU_ne u _ (show k + 4 ≠ k + 2 by omega)]
 ·exact h.d1
 ·exact fun _ => hd
 ·exact h.d3
 ·exact h.d5
 ·exact h.c0
 ·exact h.c1
 ·exact fun _ => ⟨y, z, hu, rfl⟩
 ·exact h.c3
 ·exact h.c4
 ·exact h.c5
theorem okx_ext1 {y z : Value} (h : OkX k X b B0 D u w) (hd : D k = true) (hu : u k = .tuple #[y, z]) : OkX k X b B0 (updD D (k + 3)) (updU u (k + 3) z) w := by
 constructor <;> simp only [updD_self, updU_self, updD_ne D (show k ≠ k + 3 by omega), updD_ne D (show k + 1 ≠ k + 3 by omega), updD_ne D (show k + 2 ≠ k + 3 by omega), updD_ne D (show k + 4 ≠ k + 3 by omega), updD_ne D (show k + 5 ≠ k + 3 by omega), updU_ne u _ (show k ≠ k + 3 by omega), updU_ne u _ (show k + 1 ≠ k + 3 by omega), updU_ne u _ (show k + 2 ≠ k + 3 by omega), updU_ne u _ (show k + 4 ≠ k + 3 by omega)]
 ·exact h.d1
 ·exact h.d2
 ·exact fun _ => hd
 ·exact h.d5
 ·exact h.c0
 ·exact h.c1
 ·exact h.c2
 ·exact fun _ => ⟨y, z, hu, rfl⟩
 ·exact h.c4
 ·exact h.c5
theorem okx_alloc (h : OkX k X b B0 D u w) (hn : D (k + 4) = false) (hB : B0 ≤ w.heap.size) : OkX k X b B0 (updD D (k + 4)) (updU u (k + 4) (.pointer (some ⟨w.heap.size, 0, none⟩))) (w.alloc (.cells zeroC 28)) := by
 have hb : Below w.heap.size w (w.alloc (.cells zeroC 28)) := (Below.refl _ w).alloc (Nat.le_refl _) _; constructor <;> simp only [updD_self, updU_self, updD_ne D (show k ≠ k + 4 by omega), updD_ne D (show k + 1 ≠ k + 4 by omega), updD_ne D (show k + 2 ≠ k + 4 by omega), updD_ne D (show k + 3 ≠ k + 4 by omega), updD_ne D (show k + 5 ≠ k + 4 by omega), updU_ne u _ (show k ≠ k + 4 by omega), updU_ne u _ (show k + 1 ≠ k + 4 by omega), updU_ne u _ (show k + 2 ≠ k + 4 by omega), updU_ne u _ (show k + 3 ≠ k + 4 by omega)]
 ·exact h.d1
 ·exact h.d2
 ·exact h.d3
 ·exact fun e => b_no hn (h.d5 e).2
 ·exact fun _ e => by cases e
 ·exact h.c1
 ·exact h.c2
 ·exact h.c3
 ·exact fun _ => ⟨_, rfl, hB, ⟨_, Blk.new w _ _, fun _ => rfl⟩, fun hc => (h.c0 hc hn).new hb (Nat.le_refl _)⟩
 ·exact fun e => b_no hn (h.d5 e).2
theorem okx_store {R : Nat} {A : Option Addr} {n c : Nat} {B : Option Addr} {m d : Nat} (h : OkX k X b B0 D u w) (hd : D k = true) (hd4 : D (k + 4) = true) (hR : u (k + 4) = .pointer (some ⟨R, 0, none⟩)) (hn : D (k + 5) = false)
  (hu : u k = .tuple #[atV X.has X.org A n c X.hop X.med X.pref X.aas X.aid B m d, .bool b]) :
  OkX k X b B0 (updD D (k + 5)) (updU u (k + 5) undef) (w.setCells R 0 (aL X A n c B m d)) := by
 obtain ⟨R', e1, hB, ⟨cs, hk, hz⟩, hm⟩ := h.c4 hd4; rw [hR] at e1; simp only [Value.pointer.injEq, Option.some.injEq, Addr.mk.injEq, and_true] at e1; subst e1; obtain rfl := hz hn; have hk2 := blk9_set (v0 := .int .i64 X.has) (v1 := .int .i64 X.org) (v2 := .slice A n c) (v3 := .int .u32 X.hop) (v4 := .int .u32 X.med) (v5 := .int .u32 X.pref) (v6 := .int .u32 X.aas) (v7 := .int .u32 X.aid) (v8 := .slice B m d) hk; constructor <;> simp only [updD_self, updU_self, updD_ne D (show k ≠ k + 5 by omega), updD_ne D (show k + 1 ≠ k + 5 by omega), updD_ne D (show k + 2 ≠ k + 5 by omega), updD_ne D (show k + 3 ≠ k + 5 by omega), updD_ne D (show k + 4 ≠ k + 5 by omega), updU_ne u _ (show k ≠ k + 5 by omega), updU_ne u _ (show k + 1 ≠ k + 5 by omega), updU_ne u _ (show k + 2 ≠ k + 5 by omega), updU_ne u _ (show k + 3 ≠ k + 5 by omega), updU_ne u _ (show k + 4 ≠ k + 5 by omega)]
 ·exact h.d1
 ·exact h.d2
 ·exact h.d3
 ·exact fun _ => ⟨hd, hd4⟩
 ·exact fun _ e => b_no e hd4
 ·exact h.c1
 ·exact h.c2
 ·exact h.c3
 ·exact fun _ => ⟨R, hR, hB, ⟨_, hk2, fun e => by cases e⟩, fun _ => (hm hd).sets hk⟩
 ·exact fun _ => ⟨R, A, n, c, B, m, d, hR, hu, hk2⟩
theorem okx_fin (h : OkX k X b B0 D u w) (hd : D k = true) (hd2 : D (k + 2) = true) (hd3 : D (k + 3) = true) (hd4 : D (k + 4) = true) (hd5 : D (k + 5) = true) :
  ∃ R A n c B m d, u (k + 4) = .pointer (some ⟨R, 0, none⟩) ∧ u (k + 3) = .bool b ∧ B0 ≤ R ∧ Blk w R 28 (atC X.has X.org A n c X.hop X.med X.pref X.aas X.aid B m d) ∧ LstAt 2 sgR w A n c X.path ∧ U32s w B m d X.comms := by
 obtain ⟨R, A, n, c, B, m, d, e1, e2, hk⟩ := h.c5 hd5; obtain ⟨R', e3, hB, _, hm⟩ := h.c4 hd4; rw [e1] at e3; simp only [Value.pointer.injEq, Option.some.injEq, Addr.mk.injEq, and_true] at e3; subst e3; obtain ⟨v, hv, ha⟩ := (hm hd).rd; obtain ⟨y, z, e4, e5⟩ := h.c3 hd3; rw [e2] at e4 hv; simp only [Value.tuple.injEq, Array.mk.injEq, List.cons.injEq, and_true] at e4 hv; obtain ⟨rfl, rfl⟩ := e4; subst hv; obtain ⟨A', n', c', B', m', d', e6, hl, hu⟩ := ha; simp only [Value.agg.injEq, Array.mk.injEq, List.cons.injEq, and_true, true_and, Value.slice.injEq] at e6; obtain ⟨⟨rfl, rfl, rfl⟩, rfl, rfl, rfl⟩ := e6; exact ⟨R, A, n, c, B, m, d, e1, e5, hB, hk, hl, hu⟩
end
theorem relPureS {P : Program} {o : Oper} {A : Act} {w : World} {S : Value → World → Prop} {Q : Exit → Act → World → Prop} {ρ : Operand → Value} (hρ : A.eval = ρ) (v : Value) (h : (execOp ρ o).run P w = .ok (.value v) w) (hS : S v w) :
  o.wp P A w (fun A' w' => ∃ v, A' = A.put o.dst v ∧ S v w') Q := by
 subst hρ; unfold Oper.wp; rw [h]; exact ⟨v, rfl, hS⟩
theorem relValS {P : Program} {o : Oper} {A : Act} {w : World} {S : Value → World → Prop} {Q : Exit → Act → World → Prop} {ρ : Operand → Value} (hρ : A.eval = ρ) (v : Value) (w' : World) (h : (execOp ρ o).run P w = .ok (.value v) w') (hS : S v w') :
  o.wp P A w (fun A' w' => ∃ v, A' = A.put o.dst v ∧ S v w') Q := by
 subst hρ; unfold Oper.wp; rw [h]; exact ⟨v, rfl, hS⟩
theorem relCallS {P : Program} {o : Oper} {A : Act} {w : World} {S : Value → World → Prop} {Q : Exit → Act → World → Prop} {ρ : Operand → Value} (hρ : A.eval = ρ) (f : FuncId) (args : Array Value) (h : (execOp ρ o).run P w = .ok (.enter f args) w)
  (hc : Calls P f args w fun e w' => ∃ v, e = .returned v ∧ S v w') :
  o.wp P A w (fun A' w' => ∃ v, A' = A.put o.dst v ∧ S v w') Q := by
 subst hρ; unfold Oper.wp; rw [h]; refine hc.mono ?_; rintro e w' ⟨v, rfl, hS⟩; exact ⟨v, rfl, hS⟩
set_option maxHeartbeats 1000000 in
theorem storeA {w : World} {R : Nat} {h o : Int} {A : Option Addr} {n c : Nat} {hp md pf aa ai : Int} {B : Option Addr} {m d : Nat} (hk : Blk w R 28 zeroC) :
  (Instr.storeAt 28 (.pointer (some ⟨R, 0, none⟩)) (atV h o A n c hp md pf aa ai B m d)).run Tryz.prog w = .ok () (w.setCells R 0 [.int .i64 h, .int .i64 o, .slice A n c, .int .u32 hp, .int .u32 md, .int .u32 pf, .int .u32 aa, .int .u32 ai, .slice B m d]) := by
 obtain ⟨z0, z1, z2, z3, z4, z5, z6, z7, z8⟩ := blk9 hk; have zf := fun i => hk.frozen i; simp [go_sem, z0, z1, z2, z3, z4, z5, z6, z7, z8, zf, World.setCells]
def AllFlat : List (Value → World → Prop) → Prop
  | [] => True
  | R :: r => (∀ (v : Value) (w w' : World), R v w → R v w') ∧ AllFlat r
theorem relFlat : ∀ (Rs : List (Value → World → Prop)) (_ : AllFlat Rs) (i : Nat) (v : Value) (w w' : World), relAt Rs i v w → relAt Rs i v w'
 | [], _, i, v, w, w', h => by unfold relAt; simp
 | R :: r, h, 0, v, w, w', hr => h.1 v w w' hr
 | R :: r, h, i + 1, v, w, w', hr => relFlat r h.2 i v w w' hr
end Go.Proofs.YtmffmkjgdjgmeaaGreat
namespace Go.Proofs.YtmffmkjgdjgmeaaGreat
open Go.RowKit Go.WideShapes Go.ChangeShapes
def OkM3 (S : Nat → Prop) (B0 : Nat) (X : AT) (b : Bool) (v : Value) (ob : Option Nat) (w : World) : Prop := (∀ j, S j → j < B0) ∧ ∃ A n c B m d, v = .tuple #[atV X.has X.org A n c X.hop X.med X.pref X.aas X.aid B m d, .bool b] ∧ FrS S none (fun w => atR w [.int .i64 X.has, .int .i64 X.org, .slice A n c, .int .u32 X.hop, .int .u32 X.med, .int .u32 X.pref, .int .u32 X.aas, .int .u32 X.aid, .slice B m d] X) w
section
variable {S : Nat → Prop} {X : AT} {b : Bool} {v : Value} {ob : Option Nat} {w w' : World} {R B0 : Nat}
theorem OkM3.below (h : OkM3 S B0 X b v ob w) (hb : Below w.heap.size w w') : OkM3 S B0 X b v ob w' := by
 obtain ⟨hS, A, n, c, B, m, d, e, h1⟩ := h; exact ⟨hS, A, n, c, B, m, d, e, frs_chg h1 (chg_below (S := fun _ => False) hb) (fun _ _ h => h)⟩
theorem OkM3.new (h : OkM3 S B0 X b v none w) (hb : Below w.heap.size w w') (hR : w.heap.size ≤ R) : OkM3 S B0 X b v (some R) w' := by
 obtain ⟨hS, A, n, c, B, m, d, e, h1⟩ := h; exact ⟨hS, A, n, c, B, m, d, e, frs_chg h1 (chg_below (S := fun _ => False) hb) (fun _ _ h => h)⟩
theorem OkM3.sets {vs : List Value} (h : OkM3 S B0 X b v (some R) w) (hR : B0 ≤ R) : OkM3 S B0 X b v (some R) (w.setCells R 0 vs) := by
 obtain ⟨hS, A, n, c, B, m, d, e, h1⟩ := h; exact ⟨hS, A, n, c, B, m, d, e, frs_chg h1 (chg_sets (S := fun j => j = R) rfl vs 0) (fun k hk e => by have := hS k hk; omega)⟩
end
structure OkX3 (S : Nat → Prop) (k : Nat) (X : AT) (b : Bool) (B0 : Nat) (D : Nat → Bool) (u : Nat → Value) (w : World) : Prop where
  d1 : D (k + 1) = true → D k = true
  d2 : D (k + 2) = true → D k = true
  d3 : D (k + 3) = true → D k = true
  d5 : D (k + 5) = true → D k = true ∧ D (k + 4) = true
  c0 : D k = true → D (k + 4) = false → OkM3 S B0 X b (u k) none w
  c1 : D (k + 1) = true → u (k + 1) = u k
  c2 : D (k + 2) = true → ∃ y z, u k = .tuple #[y, z] ∧ u (k + 2) = y
  c3 : D (k + 3) = true → ∃ y z, u k = .tuple #[y, z] ∧ u (k + 3) = z
  c4 : D (k + 4) = true → ∃ R, u (k + 4) = .pointer (some ⟨R, 0, none⟩) ∧ B0 ≤ R ∧ (∃ cs, Blk w R 28 cs ∧ (D (k + 5) = false → cs = zeroC)) ∧ (D k = true → OkM3 S B0 X b (u k) (some R) w)
  c5 : D (k + 5) = true → ∃ R A n c B m d, u (k + 4) = .pointer (some ⟨R, 0, none⟩) ∧ u k = .tuple #[atV X.has X.org A n c X.hop X.med X.pref X.aas X.aid B m d, .bool b] ∧ Blk w R 28 (atC X.has X.org A n c X.hop X.med X.pref X.aas X.aid B m d)
section
variable {S : Nat → Prop} {k : Nat} {X : AT} {b : Bool} {B0 : Nat} {D : Nat → Bool} {u : Nat → Value} {w w' : World}
theorem okx3_start (u : Nat → Value) (w : World) : OkX3 S k X b B0 (fun _ => false) u w := by
 constructor <;> intro h <;> cases h
theorem okx3_below (h : OkX3 S k X b B0 D u w) (hb : Below w.heap.size w w') : OkX3 S k X b B0 D u w' :=
  ⟨h.d1, h.d2, h.d3, h.d5, fun a c => (h.c0 a c).below hb, h.c1, h.c2, h.c3, fun a => by
    obtain ⟨R, e, hR, ⟨cs, hk, hz⟩, hm⟩ := h.c4 a; exact ⟨R, e, hR, ⟨cs, hk.below hb hk.lt, hz⟩, fun c => (hm c).below hb⟩, fun a => by
    obtain ⟨R, A, n, c, B, m, d, e, e2, hk⟩ := h.c5 a; exact ⟨R, A, n, c, B, m, d, e, e2, hk.below hb hk.lt⟩⟩
theorem okx3_other {i : Nat} (hi : i < k ∨ k + 5 < i) (v : Value) (hb : Below w.heap.size w w') (h : OkX3 S k X b B0 D u w) : OkX3 S k X b B0 (updD D i) (updU u i v) w' := by
 have h' := okx3_below h hb
 have e : ∀ j, k ≤ j → j ≤ k + 5 → updD D i j = D j ∧ updU u i v j = u j := fun j h1 h2 => by
  unfold updD updU; rw [if_neg (by omega), if_neg (by omega)]; exact ⟨rfl, rfl⟩
 obtain ⟨a0, b0⟩ := e k (by omega) (by omega); obtain ⟨a1, b1⟩ := e (k + 1) (by omega) (by omega); obtain ⟨a2, b2⟩ := e (k + 2) (by omega) (by omega); obtain ⟨a3, b3⟩ := e (k + 3) (by omega) (by omega); obtain ⟨a4, b4⟩ := e (k + 4) (by omega) (by omega); obtain ⟨a5, b5⟩ := e (k + 5) (by omega) (by omega); constructor <;> simp only [a0, a1, a2, a3, a4, a5, b0, b1, b2, b3, b4, b5]
 ·exact h'.d1
 ·exact h'.d2
 ·exact h'.d3
 ·exact h'.d5
 ·exact h'.c0
 ·exact h'.c1
 ·exact h'.c2
 ·exact h'.c3
 ·exact h'.c4
 ·exact h'.c5
theorem okx3_call {y : Value} (h : OkX3 S k X b B0 D u w) (hn : D k = false) (hb : Below w.heap.size w w') (hy : ∀ ob, OkM3 S B0 X b (.tuple #[y, .bool b]) ob w') : OkX3 S k X b B0 (updD D k) (updU u k (.tuple #[y, .bool b])) w' := by
 constructor <;> simp only [updD_self, updU_self, updD_ne D (show k + 1 ≠ k by omega), updD_ne D (show k + 2 ≠ k by omega), updD_ne D (show k + 3 ≠ k by omega), updD_ne D (show k + 4 ≠ k by omega), updD_ne D (show k + 5 ≠ k by omega), updU_ne u _ (show k + 1 ≠ k by omega), updU_ne u _ (show k + 2 ≠ k by omega), updU_ne u _ (show k + 3 ≠ k by omega), updU_ne u _ (show k + 4 ≠ k by omega)]
 ·exact fun _ => trivial
 ·exact fun _ => trivial
 ·exact fun _ => trivial
 ·exact fun e => ⟨trivial, (h.d5 e).2⟩
 ·exact fun _ _ => hy _
 ·exact fun e => b_no hn (h.d1 e)
 ·exact fun e => b_no hn (h.d2 e)
 ·exact fun e => b_no hn (h.d3 e)
 ·intro e; obtain ⟨R, e1, hR, ⟨cs, hk, hz⟩, hm⟩ := h.c4 e; exact ⟨R, e1, hR, ⟨cs, hk.below hb hk.lt, hz⟩, fun _ => hy _⟩
 ·exact fun e => b_no hn (h.d5 e).1
theorem okx3_move (h : OkX3 S k X b B0 D u w) (hd : D k = true) : OkX3 S k X b B0 (updD D (k + 1)) (updU u (k + 1) (u k)) w := by
 constructor <;> simp only [updD_self, updU_self, updD_ne D (show k ≠ k + 1 by omega), updD_ne D (show k + 2 ≠ k + 1 by omega), updD_ne D (show k + 3 ≠ k + 1 by omega), updD_ne D (show k + 4 ≠ k + 1 by omega), updD_ne D (show k + 5 ≠ k + 1 by omega), updU_ne u _ (show k ≠ k + 1 by omega), updU_ne u _ (show k + 2 ≠ k + 1 by omega), updU_ne u _ (show k + 3 ≠ k + 1 by omega), updU_ne u _ (show k + 4 ≠ k + 1 by omega)]
 ·exact fun _ => hd
 ·exact h.d2
 ·exact h.d3
 ·exact h.d5
 ·exact h.c0
 ·exact fun _ => trivial
 ·exact h.c2
 ·exact h.c3
 ·exact h.c4
 ·exact h.c5
theorem okx3_ext0 {y z : Value} (h : OkX3 S k X b B0 D u w) (hd : D k = true) (hu : u k = .tuple #[y, z]) : OkX3 S k X b B0 (updD D (k + 2)) (updU u (k + 2) y) w := by
 constructor <;> simp only [updD_self, updU_self, updD_ne D (show k ≠ k + 2 by omega), updD_ne D (show k + 1 ≠ k + 2 by omega), updD_ne D (show k + 3 ≠ k + 2 by omega), updD_ne D (show k + 4 ≠ k + 2 by omega), updD_ne D (show k + 5 ≠ k + 2 by omega), updU_ne u _ (show k ≠ k + 2 by omega), updU_ne u _ (show k + 1 ≠ k + 2 by omega), updU_ne u _ (show k + 3 ≠ k + 2 by omega), updU_ne u _ (show k + 4 ≠ k + 2 by omega)]
 ·exact h.d1
 ·exact fun _ => hd
 ·exact h.d3
 ·exact h.d5
 ·exact h.c0
 ·exact h.c1
 ·exact fun _ => ⟨y, z, hu, rfl⟩
 ·exact h.c3
 ·exact h.c4
 ·exact h.c5
theorem okx3_ext1 {y z : Value} (h : OkX3 S k X b B0 D u w) (hd : D k = true) (hu : u k = .tuple #[y, z]) : OkX3 S k X b B0 (updD D (k + 3)) (updU u (k + 3) z) w := by
 constructor <;> simp only [updD_self, updU_self, updD_ne D (show k ≠ k + 3 by omega), updD_ne D (show k + 1 ≠ k + 3 by omega), updD_ne D (show k + 2 ≠ k + 3 by omega), updD_ne D (show k + 4 ≠ k + 3 by omega), updD_ne D (show k + 5 ≠ k + 3 by omega), updU_ne u _ (show k ≠ k + 3 by omega), updU_ne u _ (show k + 1 ≠ k + 3 by omega), updU_ne u _ (show k + 2 ≠ k + 3 by omega), updU_ne u _ (show k + 4 ≠ k + 3 by omega)]
 ·exact h.d1
 ·exact h.d2
 ·exact fun _ => hd
 ·exact h.d5
 ·exact h.c0
 ·exact h.c1
 ·exact h.c2
 ·exact fun _ => ⟨y, z, hu, rfl⟩
 ·exact h.c4
 ·exact h.c5
theorem okx3_alloc (h : OkX3 S k X b B0 D u w) (hn : D (k + 4) = false) (hB : B0 ≤ w.heap.size) : OkX3 S k X b B0 (updD D (k + 4)) (updU u (k + 4) (.pointer (some ⟨w.heap.size, 0, none⟩))) (w.alloc (.cells zeroC 28)) := by
 have hb : Below w.heap.size w (w.alloc (.cells zeroC 28)) := (Below.refl _ w).alloc (Nat.le_refl _) _; constructor <;> simp only [updD_self, updU_self, updD_ne D (show k ≠ k + 4 by omega), updD_ne D (show k + 1 ≠ k + 4 by omega), updD_ne D (show k + 2 ≠ k + 4 by omega), updD_ne D (show k + 3 ≠ k + 4 by omega), updD_ne D (show k + 5 ≠ k + 4 by omega), updU_ne u _ (show k ≠ k + 4 by omega), updU_ne u _ (show k + 1 ≠ k + 4 by omega), updU_ne u _ (show k + 2 ≠ k + 4 by omega), updU_ne u _ (show k + 3 ≠ k + 4 by omega)]
 ·exact h.d1
 ·exact h.d2
 ·exact h.d3
 ·exact fun e => b_no hn (h.d5 e).2
 ·exact fun _ e => by cases e
 ·exact h.c1
 ·exact h.c2
 ·exact h.c3
 ·exact fun _ => ⟨_, rfl, hB, ⟨_, Blk.new w _ _, fun _ => rfl⟩, fun hc => (h.c0 hc hn).new hb (Nat.le_refl _)⟩
 ·exact fun e => b_no hn (h.d5 e).2
theorem okx3_store {R : Nat} {A : Option Addr} {n c : Nat} {B : Option Addr} {m d : Nat} (h : OkX3 S k X b B0 D u w) (hd : D k = true) (hd4 : D (k + 4) = true) (hR : u (k + 4) = .pointer (some ⟨R, 0, none⟩)) (hn : D (k + 5) = false)
  (hu : u k = .tuple #[atV X.has X.org A n c X.hop X.med X.pref X.aas X.aid B m d, .bool b]) :
  OkX3 S k X b B0 (updD D (k + 5)) (updU u (k + 5) undef) (w.setCells R 0 (aL X A n c B m d)) := by
 obtain ⟨R', e1, hB, ⟨cs, hk, hz⟩, hm⟩ := h.c4 hd4; rw [hR] at e1; simp only [Value.pointer.injEq, Option.some.injEq, Addr.mk.injEq, and_true] at e1; subst e1; obtain rfl := hz hn; have hk2 := blk9_set (v0 := .int .i64 X.has) (v1 := .int .i64 X.org) (v2 := .slice A n c) (v3 := .int .u32 X.hop) (v4 := .int .u32 X.med) (v5 := .int .u32 X.pref) (v6 := .int .u32 X.aas) (v7 := .int .u32 X.aid) (v8 := .slice B m d) hk; constructor <;> simp only [updD_self, updU_self, updD_ne D (show k ≠ k + 5 by omega), updD_ne D (show k + 1 ≠ k + 5 by omega), updD_ne D (show k + 2 ≠ k + 5 by omega), updD_ne D (show k + 3 ≠ k + 5 by omega), updD_ne D (show k + 4 ≠ k + 5 by omega), updU_ne u _ (show k ≠ k + 5 by omega), updU_ne u _ (show k + 1 ≠ k + 5 by omega), updU_ne u _ (show k + 2 ≠ k + 5 by omega), updU_ne u _ (show k + 3 ≠ k + 5 by omega), updU_ne u _ (show k + 4 ≠ k + 5 by omega)]
 ·exact h.d1
 ·exact h.d2
 ·exact h.d3
 ·exact fun _ => ⟨hd, hd4⟩
 ·exact fun _ e => b_no e hd4
 ·exact h.c1
 ·exact h.c2
 ·exact h.c3
 ·exact fun _ => ⟨R, hR, hB, ⟨_, hk2, fun e => by cases e⟩, fun _ => (hm hd).sets hB⟩
 ·exact fun _ => ⟨R, A, n, c, B, m, d, hR, hu, hk2⟩
theorem okx3_fin (h : OkX3 S k X b B0 D u w) (hd : D k = true) (hd2 : D (k + 2) = true) (hd3 : D (k + 3) = true) (hd4 : D (k + 4) = true) (hd5 : D (k + 5) = true) :
  ∃ R A n c B m d, u (k + 4) = .pointer (some ⟨R, 0, none⟩) ∧ u (k + 3) = .bool b ∧ B0 ≤ R ∧ Blk w R 28 (atC X.has X.org A n c X.hop X.med X.pref X.aas X.aid B m d) ∧ LstAt 2 sgR w A n c X.path ∧ U32s w B m d X.comms := by
 obtain ⟨R, A, n, c, B, m, d, e1, e2, hk⟩ := h.c5 hd5; obtain ⟨R', e3, hB, _, hm⟩ := h.c4 hd4; rw [e1] at e3; simp only [Value.pointer.injEq, Option.some.injEq, Addr.mk.injEq, and_true] at e3; subst e3; obtain ⟨y, z, e4, e5⟩ := h.c3 hd3; rw [e2] at e4; simp only [Value.tuple.injEq, Array.mk.injEq, List.cons.injEq, and_true] at e4; obtain ⟨rfl, rfl⟩ := e4; obtain ⟨hS, A', n', c', B', m', d', e6, hf⟩ := hm hd; rw [e2] at e6; obtain ⟨A2, n2, c2, B2, m2, d2, e7, hl, hu⟩ := frs_here hf; simp only [Value.tuple.injEq, Array.mk.injEq, List.cons.injEq, and_true, Value.agg.injEq, true_and, Value.slice.injEq] at e6 e7; obtain ⟨⟨rfl, rfl, rfl⟩, rfl, rfl, rfl⟩ := e6; obtain ⟨⟨rfl, rfl, rfl⟩, rfl, rfl, rfl⟩ := e7; exact ⟨R, _, _, _, _, _, _, e1, e5, hB, hk, hl, hu⟩
end
theorem okx3_tup {S : Nat → Prop} {k : Nat} {X : AT} {b : Bool} {B0 : Nat} {D : Nat → Bool} {u : Nat → Value} {w : World} (h : OkX3 S k X b B0 D u w) (hd : D k = true) : ∃ A n c B m d, u k = .tuple #[atV X.has X.org A n c X.hop X.med X.pref X.aas X.aid B m d, .bool b] := by
 cases h4 : D (k + 4) with
 | false =>
  obtain ⟨_, A, n, c, B, m, d, e, _⟩ := h.c0 hd h4; exact ⟨A, n, c, B, m, d, e⟩
 | true =>
  obtain ⟨R, _, _, _, hm⟩ := h.c4 h4; obtain ⟨_, A, n, c, B, m, d, e, _⟩ := hm hd; exact ⟨A, n, c, B, m, d, e⟩
end Go.Proofs.YtmffmkjgdjgmeaaGreat
namespace Go.Proofs.YtmffmkjgdjgmeaaGreat
open Go.RowKit Go.WideShapes Go.ChangeShapes
attribute [local go_sem] Oper.semAt_some
def TgV (S : Nat → Prop) (Z : AT) (v : Value) (w : World) : Prop := ∃ A n c B m d, v = atV Z.has Z.org A n c Z.hop Z.med Z.pref Z.aas Z.aid B m d ∧ FrS S none (fun w => atR w [.int .i64 Z.has, .int .i64 Z.org, .slice A n c, .int .u32 Z.hop, .int .u32 Z.med, .int .u32 Z.pref, .int .u32 Z.aas, .int .u32 Z.aid, .slice B m d] Z) w
theorem okm3_of {S : Nat → Prop} {Z : AT} {v : Value} {w : World} {q : Bool} (h : TgV S Z v w) : ∃ A n c B m d, Value.tuple #[v, .bool q] = .tuple #[atV Z.has Z.org A n c Z.hop Z.med Z.pref Z.aas Z.aid B m d, .bool q] ∧ FrS S none (fun w => atR w [.int .i64 Z.has, .int .i64 Z.org, .slice A n c, .int .u32 Z.hop, .int .u32 Z.med, .int .u32 Z.pref, .int .u32 Z.aas, .int .u32 Z.aid, .slice B m d] Z) w := by
 obtain ⟨A, n, c, B, m, d, rfl, h⟩ := h; exact ⟨A, n, c, B, m, d, rfl, h⟩
def AT0 : AT := ⟨0, 0, [], 0, 0, 0, 0, 0, []⟩
theorem tgv_zero (S : Nat → Prop) (w : World) : TgV S AT0 (.agg #[.int .i64 0, .int .i64 0, .slice none 0 0, .int .u32 0, .int .u32 0, .int .u32 0, .int .u32 0, .int .u32 0, .slice none 0 0]) w := ⟨none, 0, 0, none, 0, 0, rfl, fun w2 _ => ⟨none, 0, 0, none, 0, 0, rfl, LstAt.none_, ⟨rfl, Nat.le_refl _, Nat.zero_le _, by simp [AT0], fun h => absurd h (by omega)⟩⟩⟩
theorem tgetX_any (F : Nat → Prop) (g c k : Nat) (t : Tr AT) (w : World) (hc : PG c k) (h : TrT F w g t) :
  Calls Tryz.prog 179 #[.pointer (some ⟨g, 0, none⟩), .agg #[.int .u32 (c : Int), .int .i64 (k : Int)]] w fun e w' => ∃ v, e = .returned (.tuple #[v, .bool (trGet c k t).isSome]) ∧ TgV F ((trGet c k t).getD AT0) v w' ∧ Below w.heap.size w w' := by
 refine (getA_any (R := atR) g c k t w hc h.root h.tree.mem h.tree.wf h.low).mono ?_; rintro e w' ⟨hb, hm⟩
 cases hg : trGet c k t with
 | none =>
  rw [hg] at hm; exact ⟨_, hm, tgv_zero F w', hb⟩
 | some x =>
  rw [hg] at hm; obtain ⟨v0, v1, v2, v3, v4, v5, v6, v7, v8, rfl, hfr⟩ := hm; obtain ⟨XA, xn, xc, XB, xm, xd, hv, _, _⟩ := frs_here hfr; simp only [Value.agg.injEq, Array.mk.injEq, List.cons.injEq, and_true] at hv; obtain ⟨rfl, rfl, rfl, rfl, rfl, rfl, rfl, rfl, rfl⟩ := hv; exact ⟨_, rfl, ⟨XA, xn, xc, XB, xm, xd, rfl, hfr⟩, hb⟩
set_option maxRecDepth 100000 in
set_option maxHeartbeats 8000000 in
theorem ribget_of (own ax r g a : Nat) (n0 : Int) (S : Nat → Prop) (Z : AT) (IS : Bool) (w : World) (hr : Blk w r 120 #[.int .u32 (own : Int), .int .u32 0, .int .u32 (ax : Int), .int .i64 0, .bool false, .string ⟨#[]⟩, .string ⟨#[]⟩, .string ⟨#[]⟩, .bool false, .string ⟨#[]⟩, .string ⟨#[]⟩, .string ⟨#[]⟩, .bool false, .pointer (some ⟨g, 0, none⟩)]) (hS : ∀ j, S j → j < w.heap.size) (hZ : AtOk Z) (HGet : ∀ W, Below w.heap.size w W → Calls Tryz.prog 179 #[.pointer (some ⟨g, 0, none⟩), .agg #[.int .u32 (a : Int), .int .i64 n0]] W fun e w' => ∃ v, e = .returned (.tuple #[v, .bool IS]) ∧ TgV S Z v w' ∧ Below W.heap.size W w') :
  Calls Tryz.prog 77 #[.pointer (some ⟨r, 0, none⟩), .agg #[.int .u32 (a : Int), .int .i64 n0]] w fun e w' => (∃ v, e = .returned (.tuple #[v, .bool IS]) ∧ AtO w.heap.size w' (normA Z) v) ∧ Below w.heap.size w w' := by
 obtain ⟨w0, hw0⟩ : ∃ w0, (w.alloc (.cells #[.int .u32 (a : Int), .int .i64 n0] 24)).alloc (.cells zeroA 28) = w0 := ⟨_, rfl⟩
 have hb0 : Below w.heap.size w w0 := hw0 ▸ blkBelow2 w _ _; have HX : Hid (Blk w0 w.heap.size 24 #[.int .u32 (a : Int), .int .i64 n0]) := hide (hw0 ▸ (Blk.new w _ _).alloc _); have HZ : Hid (Blk w0 (w.heap.size + 1) 28 zeroA) := hide (hw0 ▸ blk_new' _ _ (by simp)); have HR := hide (hr.below hb0 hr.lt); have HGet := hide HGet; have HS : Hid (∀ j, S j → j < w0.heap.size) := hide (fun j hj => Nat.lt_of_lt_of_le (hS j hj) hb0.size); have HZo := hide hZ; obtain ⟨Y, hY⟩ : ∃ Y, normA Z = Y := ⟨_, rfl⟩
 rw [hY]; have HY := hide hY; have hs0 : w0.heap.size = w.heap.size + 2 := (by rw [← hw0]; simp)
 have HB0 := hide hb0; have HW0 := hide hw0; clear hw0 hb0 hr hS hZ hY
 go_enter Tryz.func77, Tryz.ntmps77
 go_upto_region 3 with fail
 rw [HW0.out]; have Hmn := hide (show AllMono [(isV (ptv r 0)), (isV (ptv r 0)), (isV (ptv r 13)), (isV (ptv g 0)), (isV (.agg #[.int .u32 (a : Int), .int .i64 n0])), (fun _ _ => True), (fun _ _ => True), (fun _ _ => True), (fun _ _ => True), (fun _ _ => True), (fun _ _ => True)] from ⟨fun _ _ _ _ h => h, fun _ _ _ _ h => h, fun _ _ _ _ h => h, fun _ _ _ _ h => h, fun _ _ _ _ h => h, fun _ _ _ _ _ => trivial, fun _ _ _ _ _ => trivial, fun _ _ _ _ _ => trivial, fun _ _ _ _ _ => trivial, fun _ _ _ _ _ => trivial, fun _ _ _ _ _ => trivial, trivial⟩); have Hfl := hide (show AllFlat [(isV (ptv r 0)), (isV (ptv r 0)), (isV (ptv r 13)), (isV (ptv g 0)), (isV (.agg #[.int .u32 (a : Int), .int .i64 n0])), (fun _ _ => True), (fun _ _ => True), (fun _ _ => True), (fun _ _ => True), (fun _ _ => True), (fun _ _ => True)] from by repeat (first | exact trivial | refine ⟨fun _ _ _ h => h, ?_⟩)); refine wp_region_relX 11 w0.heap.size (Nat.le_refl _) [(isV (ptv r 0)), (isV (ptv r 0)), (isV (ptv r 13)), (isV (ptv g 0)), (isV (.agg #[.int .u32 (a : Int), .int .i64 n0])), (fun _ _ => True), (fun _ _ => True), (fun _ _ => True), (fun _ _ => True), (fun _ _ => True), (fun _ _ => True)] (OkX3 S 5 Z IS w0.heap.size) (by kernel_rfl) (by kernel_rfl) (by kernel_rfl) (by kernel_rfl) (by kernel_rfl) (okx3_start _ _) ⟨?_, ?_, ?_, ?_, ?_, ?_, ?_, ?_, ?_, ?_, ?_, trivial⟩ ?_
 ·refine relX_plain rfl rfl Hmn.out (Nat.le_refl _) (fun D u v w w2 hb h => okx3_other (by omega) v hb h) ?_; intro Dn Ac w5 hp; have a0 : Ac.eval (.tmp 0) = .pointer (some ⟨r, 0, none⟩) := hp.out 0 (by rfl); exact relPureX (.pointer (some ⟨r, 0, none⟩)) (fun ρ hρ h1 h2 h3 => by rw [hρ] at a0; simp [go_sem, ↓IntWalk.iteOmega, *]) rfl
 ·refine relX_plain rfl rfl Hmn.out (Nat.le_refl _) (fun D u v w w2 hb h => okx3_other (by omega) v hb h) ?_; intro Dn Ac w5 hp; have a12 : Ac.eval (.tmp 12) = .pointer (some ⟨r, 0, none⟩) := hp.d 0; exact relPureX (.pointer (some ⟨r, 0, none⟩)) (fun ρ hρ h1 h2 h3 => by rw [hρ] at a12; simp [go_sem, ↓IntWalk.iteOmega, *]) rfl
 ·refine relX_plain rfl rfl Hmn.out (Nat.le_refl _) (fun D u v w w2 hb h => okx3_other (by omega) v hb h) ?_; intro Dn Ac w5 hp; have a13 : Ac.eval (.tmp 13) = .pointer (some ⟨r, 0, none⟩) := hp.d 1; exact relPureX (.pointer (some ⟨r, 13, none⟩)) (fun ρ hρ h1 h2 h3 => by rw [hρ] at a13; simp [go_sem, ↓IntWalk.iteOmega, *]) rfl
 ·refine relX_plain rfl rfl Hmn.out (Nat.le_refl _) (fun D u v w w2 hb h => okx3_other (by omega) v hb h) ?_; intro Dn Ac w5 hp; have hb := hp.bel; have a14 : Ac.eval (.tmp 14) = .pointer (some ⟨r, 13, none⟩) := hp.d 2; have hr5 := HR.out.below hb HR.out.lt; have z13 : w5.cell? ⟨r, 13, none⟩ = some (.pointer (some ⟨g, 0, none⟩)) := hr5.cell 13; exact relPureX (.pointer (some ⟨g, 0, none⟩)) (fun ρ hρ h1 h2 h3 => by rw [hρ] at a14; simp [go_sem, ↓IntWalk.iteOmega, *]) rfl
 ·refine relX_plain rfl rfl Hmn.out (Nat.le_refl _) (fun D u v w w2 hb h => okx3_other (by omega) v hb h) ?_; intro Dn Ac w5 hp; have hb := hp.bel; have a3 : Ac.eval (.tmp 3) = .pointer (some ⟨w.heap.size, 0, none⟩) := hp.out 3 (by rfl); have hx5 := HX.out.below hb HX.out.lt; have x0 : w5.cell? ⟨w.heap.size, 0, none⟩ = some (.int .u32 (a : Int)) := hx5.cell 0; have x1 : w5.cell? ⟨w.heap.size, 1, none⟩ = some (.int .i64 n0) := hx5.cell 1; exact relPureX (.agg #[.int .u32 (a : Int), .int .i64 n0]) (fun ρ hρ h1 h2 h3 => by rw [hρ] at a3; simp [go_sem, ↓IntWalk.iteOmega, *]) rfl
 ·refine relX_op rfl rfl Hmn.out (Nat.le_refl _) ?_; intro D Ac w5 hp; have hb := hp.bel; have a15 : Ac.eval (.tmp 15) = .pointer (some ⟨g, 0, none⟩) := hp.d 3; have a16 : Ac.eval (.tmp 16) = .agg #[.int .u32 (a : Int), .int .i64 n0] := hp.d 4; have hx := hp.ext; have hno := hp.no; obtain ⟨ρ, hρ, hc, hf, hgl⟩ := evalX Ac; rw [hρ] at a15 a16; refine relCallS hρ 179 #[.pointer (some ⟨g, 0, none⟩), .agg #[.int .u32 (a : Int), .int .i64 n0]] (by simp [go_sem, ↓IntWalk.iteOmega, *]) ?_; refine (HGet.out w5 (btr HB0.out hb)).mono ?_; rintro e w6 ⟨v6, rfl, ho6, hb6⟩; exact ⟨_, rfl, trivial, hb6, okx3_call hx hno hb6 (fun ob => ⟨HS.out, okm3_of ho6⟩)⟩
 ·refine relX_op rfl rfl Hmn.out (Nat.le_refl _) ?_; intro D Ac w5 hp; have hd : D 5 = true := hp.dn 5 (by kernel_rfl); obtain ⟨ρ, hρ⟩ : ∃ ρ, Ac.eval = ρ := ⟨_, rfl⟩
  refine relPureS hρ (Ac.eval (.tmp 17)) (by rw [hρ]; simp [go_sem]) ⟨trivial, Below.refl _ _, ?_⟩; exact okx3_move hp.ext hd
 ·refine relX_op rfl rfl Hmn.out (Nat.le_refl _) ?_; intro D Ac w5 hp; have hd1 : D 6 = true := hp.dn 6 (by kernel_rfl); have hd := hp.ext.d1 hd1; obtain ⟨A6, n6, c6, B6, m6, d6, hu6⟩ := okx3_tup hp.ext hd; have hu7 := (hp.ext.c1 hd1).trans hu6; change Ac.eval (.tmp 11) = _ at hu7; have hx := hp.ext; obtain ⟨ρ, hρ⟩ : ∃ ρ, Ac.eval = ρ := ⟨_, rfl⟩
  rw [hρ] at hu7; refine relPureS hρ _ (by simp [go_sem, hu7]) ⟨trivial, Below.refl _ _, okx3_ext0 hx hd hu6⟩
 ·refine relX_op rfl rfl Hmn.out (Nat.le_refl _) ?_; intro D Ac w5 hp; have hd1 : D 6 = true := hp.dn 6 (by kernel_rfl); have hd := hp.ext.d1 hd1; obtain ⟨A6, n6, c6, B6, m6, d6, hu6⟩ := okx3_tup hp.ext hd; have hu7 := (hp.ext.c1 hd1).trans hu6; change Ac.eval (.tmp 11) = _ at hu7; have hx := hp.ext; obtain ⟨ρ, hρ⟩ : ∃ ρ, Ac.eval = ρ := ⟨_, rfl⟩
  rw [hρ] at hu7; refine relPureS hρ _ (by simp [go_sem, hu7]) ⟨trivial, Below.refl _ _, okx3_ext1 hx hd hu6⟩
 ·refine relX_op rfl rfl Hmn.out (Nat.le_refl _) ?_; intro D Ac w5 hp; obtain ⟨ρ, hρ⟩ : ∃ ρ, Ac.eval = ρ := ⟨_, rfl⟩
  refine relValS hρ (.pointer (some ⟨w5.heap.size, 0, none⟩)) (w5.alloc (.cells zeroC 28)) (by simp [go_sem]) ⟨trivial, (Below.refl _ _).alloc (Nat.le_refl _) _, okx3_alloc hp.ext hp.no hp.bel.size⟩
 ·refine relX_store rfl ?_; intro D Ac w5 hp; have hd4 : D 9 = true := hp.dn 9 (by kernel_rfl); have hd2 : D 7 = true := hp.dn 7 (by kernel_rfl); have hd := hp.ext.d2 hd2; obtain ⟨A6, n6, c6, B6, m6, d6, hu6⟩ := okx3_tup hp.ext hd; obtain ⟨y6, z6, hy, hv⟩ := hp.ext.c2 hd2; rw [hu6] at hy; simp only [Value.tuple.injEq, Array.mk.injEq, List.cons.injEq, and_true] at hy; obtain ⟨rfl, rfl⟩ := hy; obtain ⟨R6, hR6, hB6, ⟨cs6, hk6, hz6⟩, _⟩ := hp.ext.c4 hd4; obtain rfl := hz6 hp.no; have hpt := hR6; change Ac.eval (.tmp 6) = _ at hpt; change Ac.eval (.tmp 18) = _ at hv; exact ⟨_, .inl (exec_store rfl hpt hv (storeA hk6)), trivial, below_sets _ 0 (Below.refl _ _) hB6, fun j _ hj => relFlat _ Hfl.out _ _ _ _ (hp.has j hj), okx3_store hp.ext hd hd4 hR6 hp.no hu6⟩
 intro u w7 hb7 hall hox; obtain ⟨R9, A9, n9, c9, B9, m9, d9, hp9, hb9, hB9, hk9, hl9, hu9⟩ := okx3_fin hox (by decide) (by decide) (by decide) (by decide) (by decide); change u 9 = _ at hp9; change u 8 = _ at hb9; clear hall; simp only [List.drop_succ_cons, List.drop_zero, List.take_succ_cons, List.take_zero, putAll, Act.put, List.setIfInBounds_toArray, List.set_cons_zero, List.set_cons_succ, Nat.zero_add, Nat.reduceAdd, hp9, hb9]; have HB7 := hide (btr HB0.out hb7); have HZ7 := hide (HZ.out.below hb7 HZ.out.lt); have HK9 : Hid (Blk w7 R9 28 (aC Z A9 n9 c9 B9 m9 d9)) := hide hk9; have hs7 := hb7.size; have HNo := hide (attrNormX_any Z (.agg #[.int .i64 Z.has, .int .i64 Z.org, .slice A9 n9 c9, .int .u32 Z.hop, .int .u32 Z.med, .int .u32 Z.pref, .int .u32 Z.aas, .int .u32 Z.aid, .slice B9 m9 d9]) w7 ⟨_, _, _, _, _, _, rfl, hl9, hu9⟩ HZo.out.1 HZo.out.2); rw [HY.out] at HNo; clear hb7 hk9 hl9 hu9 hB9; obtain ⟨y0, y1, y2, y3, y4, y5, y6, y7, y8⟩ := blk9 HK9.out
 go_wp2_with fail
 refine HNo.out.mono ?_; rintro e w8 ⟨v8, rfl, ho8, hb8⟩; have HO8 := hide ho8; obtain ⟨A8, n8, c8, xs8, B8, m8, d8, rfl, _, _⟩ := ho8; have HB8 := hide (btr HB7.out hb8); have HZ8 := hide (HZ7.out.below hb8 HZ7.out.lt); have hsB : w0.heap.size ≤ w7.heap.size := (by omega)
 clear hb8 y0 y1 y2 y3 y4 y5 y6 y7 y8; obtain ⟨z0, z1, z2, z3, z4, z5, z6, z7, z8⟩ := blk9 HZ8.out; have zf := fun i => HZ8.out.frozen i; go_wp2; change bodyPost _ _ _ _ _ (w8.setCells (w.heap.size + 1) 0 (aL Y A8 n8 c8 B8 m8 d8)); obtain ⟨wF, hwF⟩ : ∃ x, w8.setCells (w.heap.size + 1) 0 (aL Y A8 n8 c8 B8 m8 d8) = x := ⟨_, rfl⟩
 have HFk := hide (hwF ▸ blk_sets (aL Y A8 n8 c8 B8 m8 d8) [] zeroL (HZ8.out) rfl : Blk wF (w.heap.size + 1) 28 (aC Y A8 n8 c8 B8 m8 d8)); have HFb : Hid (Below w.heap.size w wF) := hide (hwF ▸ below_sets (aL Y A8 n8 c8 B8 m8 d8) 0 HB8.out (by omega)); have HFo : Hid (AtO w.heap.size wF Y (.agg #[.int .i64 Y.has, .int .i64 Y.org, .slice A8 n8 c8, .int .u32 Y.hop, .int .u32 Y.med, .int .u32 Y.pref, .int .u32 Y.aas, .int .u32 Y.aid, .slice B8 m8 d8])) := hide (hwF ▸ (AtO.sets [.int .i64 Y.has, .int .i64 Y.org, .slice A8 n8 c8, .int .u32 Y.hop, .int .u32 Y.med, .int .u32 Y.pref, .int .u32 Y.aas, .int .u32 Y.aid, .slice B8 m8 d8] 0 (AtO.less HO8.out hsB) (by omega)).less (by omega)); rw [hwF]; clear hwF zf z0 z1 z2 z3 z4 z5 z6 z7 z8; obtain ⟨q0, q1, q2, q3, q4, q5, q6, q7, q8⟩ := blk9 HFk.out; refine bodyPost_ret (v := .tuple #[.agg #[.int .i64 Y.has, .int .i64 Y.org, .slice A8 n8 c8, .int .u32 Y.hop, .int .u32 Y.med, .int .u32 Y.pref, .int .u32 Y.aas, .int .u32 Y.aid, .slice B8 m8 d8], .bool IS]) (by simp [results, Tryz.results77, go_sem, q0, q1, q2, q3, q4, q5, q6, q7, q8]) rfl ⟨⟨_, rfl, HFo.out⟩, HFb.out⟩
set_option maxRecDepth 100000 in
set_option maxHeartbeats 8000000 in
theorem ribGet_of (own ax r g a : Nat) (n0 : Int) (S : Nat → Prop) (Z : AT) (IS : Bool) (w : World) (hr : Blk w r 120 #[.int .u32 (own : Int), .int .u32 0, .int .u32 (ax : Int), .int .i64 0, .bool false, .string ⟨#[]⟩, .string ⟨#[]⟩, .string ⟨#[]⟩, .bool false, .string ⟨#[]⟩, .string ⟨#[]⟩, .string ⟨#[]⟩, .bool false, .pointer (some ⟨g, 0, none⟩)]) (hS : ∀ j, S j → j < w.heap.size) (hZ : AtOk Z) (HGet : ∀ W, Below w.heap.size w W → Calls Tryz.prog 179 #[.pointer (some ⟨g, 0, none⟩), .agg #[.int .u32 (a : Int), .int .i64 n0]] W fun e w' => ∃ v, e = .returned (.tuple #[v, .bool IS]) ∧ TgV S Z v w' ∧ Below W.heap.size W w') :
  Calls Tryz.prog 29 #[.pointer (some ⟨r, 0, none⟩), .agg #[.int .u32 (a : Int), .int .i64 n0]] w fun e w' => (∃ v, e = .returned (.tuple #[v, .bool IS]) ∧ AtO w.heap.size w' (normA Z) v) ∧ Below w.heap.size w w' := by
 obtain ⟨w0, hw0⟩ : ∃ w0, (w.alloc (.cells #[.int .u32 (a : Int), .int .i64 n0] 24)).alloc (.cells zeroA 28) = w0 := ⟨_, rfl⟩
 have hb0 : Below w.heap.size w w0 := hw0 ▸ blkBelow2 w _ _; have HX : Hid (Blk w0 w.heap.size 24 #[.int .u32 (a : Int), .int .i64 n0]) := hide (hw0 ▸ (Blk.new w _ _).alloc _); have HZ : Hid (Blk w0 (w.heap.size + 1) 28 zeroA) := hide (hw0 ▸ blk_new' _ _ (by simp)); have HG := hide (ribget_of own ax r g a n0 S Z IS w0 (hr.below hb0 hr.lt) (fun j hj => Nat.lt_of_lt_of_le (hS j hj) hb0.size) hZ (fun W hb => HGet W (hb0.trans (hb.mono hb0.size)))); obtain ⟨Y, hY⟩ : ∃ Y, normA Z = Y := ⟨_, rfl⟩
 rw [hY] at HG ⊢; have hs0 : w0.heap.size = w.heap.size + 2 := (by rw [← hw0]; simp)
 have HB0 := hide hb0; have HW0 := hide hw0; clear hw0 hb0 hr hS hZ hY HGet; have x0 : w0.cell? ⟨w.heap.size, 0, none⟩ = some (.int .u32 (a : Int)) := HX.out.cell 0; have x1 : w0.cell? ⟨w.heap.size, 1, none⟩ = some (.int .i64 n0) := HX.out.cell 1
 go_enter Tryz.func29, Tryz.ntmps29
 go_wp2_with fail
 rw [HW0.out]; refine HG.out.mono ?_; rintro e w1 ⟨⟨v1, rfl, ho1⟩, hb1⟩; have HO1 := hide ho1; obtain ⟨A8, n8, c8, xs8, B8, m8, d8, rfl, _, _⟩ := ho1; have HB1 := hide (btr HB0.out hb1); have HZ1 := hide (HZ.out.below hb1 HZ.out.lt); have hsB : w0.heap.size ≤ w0.heap.size := Nat.le_refl _; clear hb1 x0 x1; obtain ⟨z0, z1, z2, z3, z4, z5, z6, z7, z8⟩ := blk9 HZ1.out; have zf := fun i => HZ1.out.frozen i; go_wp2; change bodyPost _ _ _ _ _ (w1.setCells (w.heap.size + 1) 0 (aL Y A8 n8 c8 B8 m8 d8)); obtain ⟨wF, hwF⟩ : ∃ x, w1.setCells (w.heap.size + 1) 0 (aL Y A8 n8 c8 B8 m8 d8) = x := ⟨_, rfl⟩
 have HFk := hide (hwF ▸ blk_sets (aL Y A8 n8 c8 B8 m8 d8) [] zeroL (HZ1.out) rfl : Blk wF (w.heap.size + 1) 28 (aC Y A8 n8 c8 B8 m8 d8)); have HFb : Hid (Below w.heap.size w wF) := hide (hwF ▸ below_sets (aL Y A8 n8 c8 B8 m8 d8) 0 HB1.out (by omega)); have HFo : Hid (AtO w.heap.size wF Y (.agg #[.int .i64 Y.has, .int .i64 Y.org, .slice A8 n8 c8, .int .u32 Y.hop, .int .u32 Y.med, .int .u32 Y.pref, .int .u32 Y.aas, .int .u32 Y.aid, .slice B8 m8 d8])) := hide (hwF ▸ (AtO.sets [.int .i64 Y.has, .int .i64 Y.org, .slice A8 n8 c8, .int .u32 Y.hop, .int .u32 Y.med, .int .u32 Y.pref, .int .u32 Y.aas, .int .u32 Y.aid, .slice B8 m8 d8] 0 (AtO.less HO1.out hsB) (by omega)).less (by omega)); rw [hwF]; clear hwF zf z0 z1 z2 z3 z4 z5 z6 z7 z8; obtain ⟨q0, q1, q2, q3, q4, q5, q6, q7, q8⟩ := blk9 HFk.out; refine bodyPost_ret (v := .tuple #[.agg #[.int .i64 Y.has, .int .i64 Y.org, .slice A8 n8 c8, .int .u32 Y.hop, .int .u32 Y.med, .int .u32 Y.pref, .int .u32 Y.aas, .int .u32 Y.aid, .slice B8 m8 d8], .bool IS]) (by simp [results, Tryz.results29, go_sem, q0, q1, q2, q3, q4, q5, q6, q7, q8]) rfl ⟨⟨_, rfl, HFo.out⟩, HFb.out⟩
end Go.Proofs.YtmffmkjgdjgmeaaGreat
namespace Go.Proofs.YtmffmkjgdjgmeaaGreat
open Go.RowKit Go.WideShapes Go.ChangeShapes
theorem goneF_sorted : ∀ (l : List (Nat × Nat)) (s : List (Nat × Nat × AT) × List (Nat × Nat)), s.1.Pairwise PLt → (l.foldl goneF s).1.Pairwise PLt
 | [], s, h => h
 | p :: l, s, h => goneF_sorted l (goneF s p) (h.sublist List.filter_sublist)
theorem lkL_cutL {c k a n : Nat} {L : List (Nat × Nat × AT)} (hs : L.Pairwise PLt) : lkL c k (cutL a n L) = if a = c ∧ n = k then none else lkL c k L := by
 unfold cutL; rw [lkL_filter hs]; by_cases e : a = c ∧ n = k
 ·rw [if_pos e]
  cases lkL c k L with
  | none => rfl
  | some x => simp [e]
 ·rw [if_neg e]
  cases lkL c k L with
  | none => rfl
  | some x => simp [e]
theorem goneF_lk {c k : Nat} : ∀ (l : List (Nat × Nat)) (s : List (Nat × Nat × AT) × List (Nat × Nat)), s.1.Pairwise PLt → lkL c k (l.foldl goneF s).1 = if (c, k) ∈ l then none else lkL c k s.1
 | [], s, h => by simp
 | p :: l, s, h => by
   have h1 := goneF_lk (c := c) (k := k) l (goneF s p) (h.sublist List.filter_sublist); rw [List.foldl_cons, h1]; have h2 : lkL c k (goneF s p).1 = if p.1 = c ∧ p.2 = k then none else lkL c k s.1 := lkL_cutL h; rw [h2]; obtain ⟨a, n⟩ := p; by_cases e : a = c ∧ n = k
   ·obtain ⟨rfl, rfl⟩ := e
    simp
   ·have e2 : ¬ ((c, k) = (a, n)) := fun h => e (by cases h; exact ⟨rfl, rfl⟩); simp only [List.mem_cons, e2, false_or]; rw [if_neg e]
theorem putF_lk {c k : Nat} {Y : AT} : ∀ (l : List (Nat × Nat)) (s : List (Nat × Nat × AT) × List (Nat × Nat)), s.1.Pairwise PLt → lkL c k (l.foldl (putF Y) s).1 = if (c, k) ∈ l then some Y else lkL c k s.1
 | [], s, h => by simp
 | p :: l, s, h => by
   have h1 := putF_lk (c := c) (k := k) (Y := Y) l (putF Y s p) (putL_sorted h); rw [List.foldl_cons, h1]; have h2 : lkL c k (putF Y s p).1 = if p.1 = c ∧ p.2 = k then some Y else lkL c k s.1 := lkL_putL h; rw [h2]; obtain ⟨a, n⟩ := p; by_cases e : a = c ∧ n = k
   ·obtain ⟨rfl, rfl⟩ := e
    simp
   ·have e2 : ¬ ((c, k) = (a, n)) := fun h => e (by cases h; exact ⟨rfl, rfl⟩); simp only [List.mem_cons, e2, false_or]; rw [if_neg e]
theorem fedF_lk {c k : Nat} {Y : AT} {q : Bool} {L : List (Nat × Nat × AT)} {gone here : List (Nat × Nat)} (hs : L.Pairwise PLt) : lkL c k (fedF Y q L gone here).1 = if (c, k) ∈ here then (if q = true then some Y else none) else if (c, k) ∈ gone then none else lkL c k L := by
 unfold fedF; have hs2 := goneF_sorted gone (L, []) hs
 cases q with
 | true =>
  rw [if_pos rfl, putF_lk _ _ hs2, goneF_lk _ _ hs]
  simp
 | false =>
  rw [if_neg (by decide), goneF_lk _ _ hs2, goneF_lk _ _ hs]
  simp
theorem goneF_nil : ∀ (l : List (Nat × Nat)) (s : List (Nat × Nat × AT) × List (Nat × Nat)), (l.foldl goneF s).2 = [] → s.2 = [] ∧ (l.foldl goneF s).1 = s.1
 | [], s, h => ⟨h, rfl⟩
 | p :: l, s, h => by
   have h1 := goneF_nil l (goneF s p) h; have h2 : (if (lkL p.1 p.2 s.1).isSome = true then s.2 ++ [p] else s.2) = [] := h1.1; by_cases e : (lkL p.1 p.2 s.1).isSome = true
   ·rw [if_pos e] at h2; simp at h2
   ·rw [if_neg e] at h2; refine ⟨h2, h1.2.trans ?_⟩; refine cutL_none fun z hz hk => e ?_; unfold lkL; rw [Option.isSome_map, List.find?_isSome]; exact ⟨z, hz, by rw [decide_eq_true_eq]; exact hk⟩
theorem putF_more {Y : AT} : ∀ (l : List (Nat × Nat)) (s : List (Nat × Nat × AT) × List (Nat × Nat)), (l.foldl (putF Y) s).2 = s.2 ++ l
 | [], s => by simp
 | p :: l, s => by
   rw [List.foldl_cons, putF_more l]; show (s.2 ++ [p]) ++ l = s.2 ++ p :: l
   simp
theorem fedF_nil {Y : AT} {q : Bool} {L : List (Nat × Nat × AT)} {gone here : List (Nat × Nat)} (h : (fedF Y q L gone here).2 = []) : (fedF Y q L gone here).1 = L := by
 unfold fedF at h ⊢
 cases q with
 | true =>
  rw [if_pos rfl] at h ⊢; rw [putF_more] at h; obtain ⟨h1, h2⟩ := List.append_eq_nil_iff.1 h; subst h2; exact (goneF_nil gone (L, []) h1).2
 | false =>
  rw [if_neg (by decide)] at h ⊢; obtain ⟨h1, h2⟩ := goneF_nil here _ h; exact h2.trans (goneF_nil gone (L, []) h1).2
theorem goneF_pg : ∀ (l : List (Nat × Nat)) (s : List (Nat × Nat × AT) × List (Nat × Nat)), ∀ x ∈ (l.foldl goneF s).2, x ∈ s.2 ∨ x ∈ l
 | [], s, x, h => .inl h
 | p :: l, s, x, h => by
   rcases goneF_pg l (goneF s p) x h with h | h
   ·have h2 : x ∈ (if (lkL p.1 p.2 s.1).isSome = true then s.2 ++ [p] else s.2) := h; split at h2
    ·rcases List.mem_append.1 h2 with h | h
     ·exact .inl h
     ·simp only [List.mem_singleton] at h; subst h; exact .inr List.mem_cons_self
    ·exact .inl h2
   ·exact .inr (List.mem_cons_of_mem _ h)
theorem fedF_mem {Y : AT} {q : Bool} {L : List (Nat × Nat × AT)} {gone here : List (Nat × Nat)} : ∀ x ∈ (fedF Y q L gone here).2, x ∈ gone ∨ x ∈ here := by
 unfold fedF; intro x h; have h0 : ∀ y ∈ (gone.foldl goneF (L, [])).2, y ∈ gone := fun y hy => (goneF_pg gone (L, []) y hy).elim (fun h => by simp at h) id
 cases q with
 | true =>
  rw [if_pos rfl, putF_more, List.mem_append] at h; exact h.imp (h0 x) id
 | false =>
  rw [if_neg (by decide)] at h; exact (goneF_pg here _ x h).imp (h0 x) id
def natP (x : Nat × Int) : Nat × Nat := (x.1, x.2.toNat)
theorem px_of_pz {w : World} {A : Option Addr} {n c : Nat} {l : List (Nat × Int)} (h : LstAt 2 pzR w A n c l) (hg : ∀ x ∈ l, goodB x.1 x.2 = true) : LstAt 2 pxR w A n c (l.map natP) := by
 refine ⟨by rw [List.length_map]; exact h.1, h.2.1, h.2.2.1, fun hn => ?_⟩; obtain ⟨b, o, e, hb, hc⟩ := h.2.2.2 hn; refine ⟨b, o, e, hb, fun i x hx => ?_⟩; rw [List.getElem?_map, Option.map_eq_some_iff] at hx; obtain ⟨y, hy, rfl⟩ := hx; obtain ⟨vs, hl, ⟨rfl, hz⟩, hcs⟩ := hc i y hy; refine ⟨_, hl, ?_, hcs⟩; have h2 := (pg_good hz.1 (hg y (List.mem_of_getElem? hy))).2; show _ = [Value.int .u32 (y.1 : Int), Value.int .i64 (y.2.toNat : Int)]
 rw [← h2]
theorem pg_of_pz {w : World} {A : Option Addr} {n c : Nat} {l : List (Nat × Int)} (h : LstAt 2 pzR w A n c l) (hg : ∀ x ∈ l, goodB x.1 x.2 = true) : ∀ x ∈ l.map natP, PG x.1 x.2 := by
 intro x hx; rw [List.mem_map] at hx; obtain ⟨y, hy, rfl⟩ := hx; obtain ⟨i, hi⟩ := List.getElem?_of_mem hy; by_cases hn : 0 < n
 ·obtain ⟨b, o, e, hb, hc⟩ := h.2.2.2 hn; obtain ⟨vs, hl, ⟨rfl, hz⟩, hcs⟩ := hc i y hi; exact (pg_good hz.1 (hg y hy)).1
 ·have h1 := h.1; have h2 : l.length = 0 := (by omega)
  rw [List.length_eq_zero_iff] at h2; subst h2
  cases hy
theorem natP_mem {l : List (Nat × Int)} {a : Nat} {n : Int} (hp : goodB a n = true) (ha : a < 4294967296) (hl : ∀ x ∈ l, goodB x.1 x.2 = true ∧ x.1 < 4294967296) : (a, n.toNat) ∈ l.map natP ↔ (a, n) ∈ l := by
 rw [List.mem_map]; constructor
 ·rintro ⟨⟨b, m⟩, hy, e⟩; have h1 := (pg_good (hl _ hy).2 (hl _ hy).1).2; have h2 := (pg_good ha hp).2; unfold natP at e; simp only [Prod.mk.injEq] at e h1; obtain ⟨rfl, e⟩ := e; have : m = n := (by omega)
  subst this; exact hy
 ·exact fun h => ⟨_, h, rfl⟩
end Go.Proofs.YtmffmkjgdjgmeaaGreat
