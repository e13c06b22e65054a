import Derived.Test.YtmffmkjgdjgmeaaGreatRl3
import Derived.Lib.Bytealg
import Derived.Shelf.Strings.SplitShaped
import Derived.Shelf.Strings.Prefix
import Derived.Shelf.Small.Strs
set_option linter.unusedSimpArgs false
set_option linter.unusedVariables false
namespace Go.Proofs.YtmffmkjgdjgmeaaGreat
open Go.RowKit Go.WideShapes Go.ChangeShapes
attribute [local go_sem] Oper.semAt_some
def cutSG (x : SG) : SG := ⟨x.k, x.r.take 300⟩
def cutP (l : List SG) : List SG := (l.take 12).map cutSG
theorem cutP_len (l : List SG) : (cutP l).length ≤ 12 := by unfold cutP; rw [List.length_map, List.length_take]; omega
theorem cutP_num (l : List SG) : numS (cutP l) ≤ 3600 := by
 have key : ∀ l : List SG, numS (l.map cutSG) ≤ 300 * l.length := by
  intro l
  induction l with
  | nil => simp [numS]
  | cons x l ih =>
   have e : numS ((x :: l).map cutSG) = (x.r.take 300).length + numS (l.map cutSG) := (by simp [numS, cutSG])
   rw [e, List.length_take, List.length_cons]; omega
 have h1 := key (l.take 12); have h2 : (l.take 12).length ≤ 12 := (by rw [List.length_take]; omega)
 unfold cutP; omega
theorem cutP_cut (l : List SG) : cutP (cutP l) = cutP l := by
 unfold cutP; rw [List.take_of_length_le (by rw [List.length_map, List.length_take]; omega), List.map_map]; refine List.map_congr_left fun x _ => ?_; simp [cutSG, List.take_take]
set_option maxRecDepth 100000 in
set_option maxHeartbeats 8000000 in
theorem pathFew_any (A : Option Addr) (n c : Nat) (l : List SG) (w : World) (h : LstAt 2 sgR w A n c l) :
    Calls Tryz.prog 145 #[.slice A n c] w (SegP (cutP l) w) := by
  obtain ⟨i0, hi, hz0, hz1, hz2⟩ := info_parts segInfo; have hln := h.1; have hnc := h.2.1; have hmx := h.2.2.1; unfold maxLen at hmx; have HLs := hide h; have HL0 : Hid (LOw 2 99 sgR (w.alloc (.cells #[] 99)) w.heap.size w.heap.size (some ⟨w.heap.size, 0, none⟩) 0 0 [] []) := hide ⟨w.ownsRow_lit #[] 0 (Nat.le_refl _) (by unfold maxLen; omega) rfl, by simp, fun k x hk => by simp at hk⟩; have HB0 : Hid (Below w.heap.size w (w.alloc (.cells #[] 99))) := hide ((Below.refl _ w).alloc (Nat.le_refl _) _); clear h
  go_enter Tryz.func145, Tryz.ntmps145
  go_wp2
  go_loopw [3, 4] (fun vo iv wr => ∃ (q : Nat) (A1 : Option Addr) (n1 c1 : Nat) (xs : List Value), q ≤ n ∧ q ≤ 12 ∧ iv = .int .i64 (q : Nat) ∧ vo = .slice A1 n1 c1 ∧ LOw 2 99 sgR wr w.heap.size w.heap.size A1 n1 c1 ((l.take q).map cutSG) xs ∧ Below w.heap.size w wr) (fun _ iv _ => n - (intOf iv).toNat)
  case atStart => exact ⟨0, some ⟨w.heap.size, 0, none⟩, 0, 0, [], Nat.zero_le _, Nat.zero_le _, rfl, rfl, HL0.out, HB0.out⟩
  case round =>
    obtain ⟨q, A1, n1, c1, xs, hq, hq12, rfl, rfl, hlo, hbel⟩ := hrel; have HLo := hide hlo; have HBe := hide hbel; have hs1 := hbel.size; have hn1 := (hlo.lst (by decide)).1; rw [List.length_map, List.length_take] at hn1; by_cases hlt : q < n ∧ q < 12
    · obtain ⟨hlt, hl12⟩ := hlt; obtain ⟨g, o, b, Bq, m, d, r, rfl, hg, hx, hr, hc0, hc1⟩ := SGat (HLs.out.below sgMono hbel) hlt; obtain ⟨RT, hRT⟩ : ∃ RT, r.take 300 = RT := ⟨_, rfl⟩
      have HE : Hid ((l.take (q + 1)).map cutSG = (l.take q).map cutSG ++ [⟨b, RT⟩]) := hide (by rw [List.take_add_one, hx, ← hRT]; simp [cutSG]); have HZ0 := hide hc0; have HZ1 := hide hc1; have HUr := hide hr; have HRT := hide hRT; have HRb : Hid (∀ y ∈ RT, y < 4294967296) := hide (by rw [← hRT]; exact fun y hy => hr.2.2.2.1 y (List.mem_of_mem_take hy)); have q1 : (q : Int) < (n : Int) := (by omega)
      have q2 : (q : Int) < 12 := (by omega)
      have q0 : (0 : Int) ≤ (q : Int) := (by omega)
      have hwq : IntKind.i64.wrap ((q : Int) + 1) = (q : Int) + 1 := (by rw [IntKind.wrap_i64]; omega)
      clear hlo hbel hx hr hc0 hc1 hRT; go_wp2; have Hmn := hide (show AllMono [(isV (Value.slice A1 n1 c1)), (isV (.slice (some ⟨g, o, none⟩) n c)), (isV (.int .i64 (q : Int))), (isV (ptv g (o + q * 2))), (isV (ptv g (o + q * 2))), (isV (.int .i64 b)), (isV (.slice (some ⟨g, o, none⟩) n c)), (isV (.int .i64 (q : Int))), (isV (ptv g (o + q * 2))), (isV (ptv g (o + q * 2 + 1))), (isV (Value.slice Bq m d)), (fun v W2 => ∃ A c, v = Value.slice A RT.length c ∧ W2.ownsRow wr.heap.size 22 1 (.slice A RT.length c) RT.length (u32c RT)), (fun v W2 => ∃ A c, v = .agg #[.int .i64 b, .slice A RT.length c] ∧ W2.ownsRow wr.heap.size 22 1 (.slice A RT.length c) RT.length (u32c RT)), (fun v W2 => ∃ R A c, v = .slice (some ⟨R, 0, none⟩) 1 1 ∧ Blk W2 R 99 #[.int .i64 b, .slice A RT.length c] ∧ W2.ownsRow wr.heap.size 22 1 (.slice A RT.length c) RT.length (u32c RT))] from ⟨fun _ _ _ _ h => h, fun _ _ _ _ h => h, fun _ _ _ _ h => h, fun _ _ _ _ h => h, fun _ _ _ _ h => h, fun _ _ _ _ h => h, fun _ _ _ _ h => h, fun _ _ _ _ h => h, fun _ _ _ _ h => h, fun _ _ _ _ h => h, fun _ _ _ _ h => h, fun v w2 w3 hb ⟨A, c, e, h⟩ => ⟨A, c, e, own_below h hb⟩, fun v w2 w3 hb ⟨A, c, e, h⟩ => ⟨A, c, e, own_below h hb⟩, fun v w2 w3 hb ⟨R, A, c, e, h1, h3⟩ => ⟨R, A, c, e, h1.below hb h1.lt, own_below h3 hb⟩, trivial⟩); refine wp_region_relT 14 _ (by kernel_rfl) (by kernel_rfl) (by kernel_rfl) (by kernel_rfl) (by kernel_rfl) (relMono _ Hmn.out) ⟨?_, ?_, ?_, ?_, ?_, ?_, ?_, ?_, ?_, ?_, ?_, ?_, ?_, ?_, trivial⟩ ?_
      · exact relStep_plain rfl fun Ac w5 hp => pureM (Value.slice A1 n1 c1) 3 (hp.out 3 (by rfl))
      · exact relStep_plain rfl fun Ac w5 hp => pureM (.slice (some ⟨g, o, none⟩) n c) 0 (hp.out 0 (by rfl))
      · exact relStep_plain rfl fun Ac w5 hp => pureM (.int .i64 (q : Int)) 4 (hp.out 4 (by rfl))
      · exact relStep_plain rfl fun Ac w5 hp => pure2 (ptv g (o + q * 2)) 17 (.slice (some ⟨g, o, none⟩) n c) (hp.d 1) 18 (.int .i64 (q : Int)) (hp.d 2)
      · exact relStep_plain rfl fun Ac w5 hp => pureM (ptv g (o + q * 2)) 19 (hp.d 3)
      · refine relStep_plain rfl ?_; intro Ac w5 hp; have hb := hp.bel; have z0 : w5.cell? ⟨g, o + q * 2, none⟩ = some (.int .i64 b) := (hb.cell hg).trans HZ0.out; exact pure1 (.int .i64 b) 20 (ptv g (o + q * 2)) (hp.d 4)
      · exact relStep_plain rfl fun Ac w5 hp => pureM (.slice (some ⟨g, o, none⟩) n c) 0 (hp.out 0 (by rfl))
      · exact relStep_plain rfl fun Ac w5 hp => pureM (.int .i64 (q : Int)) 4 (hp.out 4 (by rfl))
      · exact relStep_plain rfl fun Ac w5 hp => pure2 (ptv g (o + q * 2)) 22 (.slice (some ⟨g, o, none⟩) n c) (hp.d 6) 23 (.int .i64 (q : Int)) (hp.d 7)
      · exact relStep_plain rfl fun Ac w5 hp => pure1 (ptv g (o + q * 2 + 1)) 24 (ptv g (o + q * 2)) (hp.d 8)
      · refine relStep_plain rfl ?_; intro Ac w5 hp; have hb := hp.bel; have z1 : w5.cell? ⟨g, o + q * 2 + 1, none⟩ = some (.slice Bq m d) := (hb.cell hg).trans HZ1.out; exact pure1 (Value.slice Bq m d) 25 (ptv g (o + q * 2 + 1)) (hp.d 9)
      · refine relStep_plain rfl ?_; intro Ac w5 hp; have hb := hp.bel; have a26 : Ac.eval (.tmp 26) = Value.slice Bq m d := hp.d 10; obtain ⟨ρ, hρ, hc, hf, hgl⟩ := evalX Ac; rw [hρ] at a26; refine relCall hρ 101 #[Value.slice Bq m d, .int .i64 300] (by simp [go_sem, ↓IntWalk.iteOmega, *]) ?_; refine (few_any Bq m d r 300 (by decide) w5 (HUr.out.below hb)).mono ?_; rintro e w6 ⟨v6, rfl, ho6, hb6⟩; rw [HRT.out] at ho6; obtain ⟨A6, c6, rfl⟩ := own_slice ho6; exact ⟨_, rfl, ⟨A6, c6, rfl, own_baseLe ho6 hb.size⟩, hb6⟩
      · refine relStep_plain rfl ?_; intro Ac w5 hp; have a21 : Ac.eval (.tmp 21) = .int .i64 b := hp.d 5; obtain ⟨A27, c27, a27, ho27⟩ := hp.d 11; change Ac.eval (.tmp 27) = _ at a27; exact relPureX (.agg #[.int .i64 b, .slice A27 RT.length c27]) (fun ρ hρ h1 h2 h3 => by rw [hρ] at a21 a27; simp [go_sem, ↓IntWalk.iteOmega, *]) ⟨A27, c27, rfl, ho27⟩
      · refine relStep_plain rfl ?_; intro Ac w5 hp; obtain ⟨A28, c28, a28, ho28⟩ := hp.d 12; change Ac.eval (.tmp 28) = _ at a28; obtain ⟨ρ, hρ, hc, hf, hgl⟩ := evalX Ac; rw [hρ] at a28; exact relVal hρ (.slice (some ⟨w5.heap.size, 0, none⟩) 1 1) (w5.alloc (.cells #[.int .i64 b, .slice A28 RT.length c28] 99)) (by simp [go_sem, hc, hf, hgl, ↓IntWalk.iteOmega, a28]) ⟨w5.heap.size, A28, c28, rfl, Blk.new w5 _ _, ho28.alloc _⟩ ((Below.refl _ _).alloc (Nat.le_refl _) _)
      intro u w8 hb7 hall; have e16 : u 0 = Value.slice A1 n1 c1 := relAll_at hall (i := 0) (by decide +kernel); obtain ⟨R29, A29, c29, e29, hR29, ho29⟩ := relAll_at hall (i := 13) (by decide +kernel); change u 13 = _ at e29; clear hall; simp only [List.drop_succ_cons, List.drop_zero, List.take_succ_cons, List.take_zero, putAll, Act.put, List.setIfInBounds_toArray, List.set_cons_zero, List.set_cons_succ, Nat.zero_add, Nat.reduceAdd, e16, e29]; have hsw := hb7.size; have HLo8 := hide (HLo.out.below hb7); have HB8 := hide (HBe.out.trans (hb7.mono hs1)); refine wpList_append_any w8 rfl (.tmp 16) (.tmp 29) 25 rfl w.heap.size 99 i0 _ 2 32 Tryz.underlying25 hi hz0 hz1 hz2 rfl (by decide) (.slice A1 n1 c1) n1 xs rfl HLo8.out.1 w8.heap.size (some ⟨R29, 0, none⟩) 1 1 [.int .i64 b, .slice A29 RT.length c29] rfl (reads_blkN hR29 hR29.lt rfl rfl) (by simp [Value.oneCell']) (by unfold maxLen; omega) (by omega) (by omega) ?_; intro v2 w9 h2 h3 h4; obtain ⟨A4, c4, rfl, hlo4⟩ := LOw.push HLo8.out (chunk1_fr rfl (sg_fr ho29 HRb.out hs1 (fun k hk => own_block_lt HLo.out.1 k hk))) h2 h3 h4; have HL9 := hide hlo4; have HB9 := hide (HB8.out.grown h3 (by omega) (fun k hk => own_low_block HLo.out.1 k hk)); clear hlo4 h2 h3 h4 hb7 hR29 ho29 e16 e29; go_wp2
      go_roundw
      case rel => exact ⟨q + 1, A4, n1 + 1, c4, _, by omega, by omega, by go_num, rfl, by rw [HE.out]; exact HL9.out, HB9.out⟩
      case measure => simp [intOf]; omega
    · have HF : Hid (LOw 2 99 sgR wr w.heap.size w.heap.size A1 n1 c1 (cutP l) xs) := hide (by
        have e : l.take q = l.take 12 := by
          by_cases h12 : q = 12
          · rw [h12]
          · rw [List.take_of_length_le (by omega), List.take_of_length_le (by omega)]
        rw [e] at hlo; exact hlo)
      clear hlo hbel; by_cases hqn : q < n
      · have e1 : decide ((q : Int) < (n : Int)) = true := decide_eq_true (by omega); have e2 : decide ((q : Int) < 12) = false := decide_eq_false (by omega); clear hlt; go_wp2; go_ret; exact ⟨A1, n1, c1, xs, rfl, HF.out, HBe.out⟩
      · have e1 : decide ((q : Int) < (n : Int)) = false := decide_eq_false (by omega); clear hlt; go_wp2; go_ret; exact ⟨A1, n1, c1, xs, rfl, HF.out, HBe.out⟩
theorem exec_store {P : Program} {ρ : Operand → Value} {o : Oper} {t : TypeId} {a v : Operand} (ho : o.op = .store t a v) {x y : Value} (ha : ρ a = x) (hv : ρ v = y) {w w' : World} (h : (Instr.storeAt t x y).run P w = .ok () w') : (execOp ρ o).run P w = .ok .skip w' := by
 unfold execOp; rw [ho]; simp only [ha, hv, Sem.run_bind, h, Result.andThen_ok]
 rfl
def cutA (x : AT) : AT := ⟨x.has, x.org, cutP x.path, x.hop, x.med, x.pref, x.aas, x.aid, x.comms.take 260⟩
abbrev bxC (X : AT) (x2 x8 : Value) : Array Value := #[.int .i64 X.has, .int .i64 X.org, x2, .int .u32 X.hop, .int .u32 X.med, .int .u32 X.pref, .int .u32 X.aas, .int .u32 X.aid, x8]
def SlA (b : Nat) (P : List SG) (v : Value) (W : World) : Prop := ∃ A n c xs, v = .slice A n c ∧ LOw 2 99 sgR W b b A n c P xs
def SlB (b : Nat) (C : List Nat) (v : Value) (W : World) : Prop := ∃ B m d, v = .slice B m d ∧ FrB b none (fun w => U32s w B m d C) W
def BxA (H : Nat) (X : AT) (W : World) : Prop := ∃ x2 x8, Blk W H 28 (bxC X x2 x8) ∧ Blk W (H + 1) 28 zeroC
def StA (H b : Nat) (X : AT) (P : List SG) (W : World) : Prop := ∃ x2 x8, Blk W H 28 (bxC X x2 x8) ∧ Blk W (H + 1) 28 zeroC ∧ SlA b P x2 W
def StB (H b : Nat) (X : AT) (C : List Nat) (W : World) : Prop := ∃ x2 x8, Blk W H 28 (bxC X x2 x8) ∧ Blk W (H + 1) 28 zeroC ∧ SlB b C x8 W
section
variable {H b i : Nat} {X : AT} {P : List SG} {C : List Nat} {v u : Value} {W W' : World}
theorem SlA.below (h : SlA b P v W) (hb : Below W.heap.size W W') : SlA b P v W' := by
 obtain ⟨A, n, c, xs, e, hl⟩ := h; exact ⟨A, n, c, xs, e, hl.below hb⟩
theorem SlB.below (h : SlB b C v W) (hb : Below W.heap.size W W') : SlB b C v W' := by
 obtain ⟨A, n, c, e, hl⟩ := h; exact ⟨A, n, c, e, hl.below hb⟩
theorem SlA.setv (h : SlA b P v W) (hH : H < b) : SlA b P v (W.setCell ⟨H, i, none⟩ u) := by
 obtain ⟨A, n, c, xs, e, hl⟩ := h; exact ⟨A, n, c, xs, e, hl.set hH hH u⟩
theorem SlB.setv (h : SlB b C v W) (hH : H < b) : SlB b C v (W.setCell ⟨H, i, none⟩ u) := by
 obtain ⟨A, n, c, e, hl⟩ := h; exact ⟨A, n, c, e, hl.set (p := ⟨H, i, none⟩) hH u⟩
theorem BxA.lt_ (h : BxA H X W) : H < W.heap.size := by
 obtain ⟨x2, x8, h, _⟩ := h; exact h.lt
theorem blk_up {t : TypeId} {cs : Array Value} (h : Blk W (H + 1) t cs) : Blk (W.setCell ⟨H, i, none⟩ u) (H + 1) t cs := h.far (p := ⟨H, i, none⟩) (by show H + 1 ≠ H; omega) u
theorem BxA.below (h : BxA H X W) (hb : Below W.heap.size W W') : BxA H X W' := by
 obtain ⟨x2, x8, h, hz⟩ := h; exact ⟨x2, x8, h.below hb h.lt, hz.below hb hz.lt⟩
theorem BxA.set2 (h : BxA H X W) (u : Value) : BxA H X (W.setCell ⟨H, 2, none⟩ u) := by
 obtain ⟨x2, x8, h, hz⟩ := h; exact ⟨u, x8, h.set_ 2 u, blk_up hz⟩
theorem BxA.set8 (h : BxA H X W) (u : Value) : BxA H X (W.setCell ⟨H, 8, none⟩ u) := by
 obtain ⟨x2, x8, h, hz⟩ := h; exact ⟨x2, u, h.set_ 8 u, blk_up hz⟩
theorem StA.below (h : StA H b X P W) (hb : Below W.heap.size W W') : StA H b X P W' := by
 obtain ⟨x2, x8, h, hz, hs⟩ := h; exact ⟨x2, x8, h.below hb h.lt, hz.below hb hz.lt, hs.below hb⟩
theorem StB.below (h : StB H b X C W) (hb : Below W.heap.size W W') : StB H b X C W' := by
 obtain ⟨x2, x8, h, hz, hs⟩ := h; exact ⟨x2, x8, h.below hb h.lt, hz.below hb hz.lt, hs.below hb⟩
theorem StA.set8 (h : StA H b X P W) (hH : H < b) : StA H b X P (W.setCell ⟨H, 8, none⟩ u) := by
 obtain ⟨x2, x8, h, hz, hs⟩ := h; exact ⟨x2, u, h.set_ 8 u, blk_up hz, hs.setv hH⟩
theorem StB.set2 (h : StB H b X C W) (hH : H < b) : StB H b X C (W.setCell ⟨H, 2, none⟩ u) := by
 obtain ⟨x2, x8, h, hz, hs⟩ := h; exact ⟨u, x8, h.set_ 2 u, blk_up hz, hs.setv hH⟩
theorem st_both (h : StA H b X P W) (h' : StB H b X C W) : ∃ A n c xs B m d, Blk W H 28 (bxC X (.slice A n c) (.slice B m d)) ∧ Blk W (H + 1) 28 zeroC ∧ LOw 2 99 sgR W b b A n c P xs ∧ FrB b none (fun w => U32s w B m d C) W := by
 obtain ⟨x2, x8, h1, hz, A, n, c, xs, rfl, hl⟩ := h; obtain ⟨y2, y8, h2, _, B, m, d, rfl, hu⟩ := h'; have e := (h1.cell 8).symm.trans (h2.cell 8); simp only [List.getElem?_toArray, List.getElem?_cons_succ, List.getElem?_cons_zero, Option.some.injEq] at e; subst e; exact ⟨A, n, c, xs, B, m, d, h1, hz, hl, hu⟩
theorem cell_set_ne {j : Nat} (hne : i ≠ j) : (W.setCell ⟨H, i, none⟩ u).cell? ⟨H, j, none⟩ = W.cell? ⟨H, j, none⟩ := by
 refine World.cell?_setCell_other _ _ _ _ ?_; intro e
 cases e
 exact hne rfl
theorem st1A {tc : TypeId} {f n c : Nat} {A : Option Addr} {cs : Array Value} (h : Blk W H tc cs) (hf : cs[f]?.isSome = true) :
  (Instr.storeAt 25 (.pointer (some ⟨H, f, none⟩)) (.slice A n c)).run Tryz.prog W = .ok () (W.setCell ⟨H, f, none⟩ (.slice A n c)) := by
 have hc := h.cell f; have hz := h.frozen f; obtain ⟨x, hx⟩ := Option.isSome_iff_exists.1 hf; rw [hx] at hc; simp [go_sem, hc, hz]
theorem st1B {tc : TypeId} {f n c : Nat} {A : Option Addr} {cs : Array Value} (h : Blk W H tc cs) (hf : cs[f]?.isSome = true) :
  (Instr.storeAt 26 (.pointer (some ⟨H, f, none⟩)) (.slice A n c)).run Tryz.prog W = .ok () (W.setCell ⟨H, f, none⟩ (.slice A n c)) := by
 have hc := h.cell f; have hz := h.frozen f; obtain ⟨x, hx⟩ := Option.isSome_iff_exists.1 hf; rw [hx] at hc; simp [go_sem, hc, hz]
end
set_option maxRecDepth 100000 in
set_option maxHeartbeats 8000000 in
theorem attrsFew_any (X : AT) (v : Value) (w : World) (hv : AtR w X v) : Calls Tryz.prog 56 #[v] w (AtP (cutA X) w) := by
 obtain ⟨A, n, c, Bb, m, d, rfl, hP, hC⟩ := hv; obtain ⟨w1, hw1⟩ : ∃ w1, ((w.alloc (.cells (bxC X (.slice A n c) (.slice Bb m d)) 28)).alloc (.cells zeroC 28)) = w1 := ⟨_, rfl⟩
 have hb1 : Below w.heap.size w w1 := hw1 ▸ ((Below.refl _ w).alloc (Nat.le_refl _) _).alloc (by simp) _; have HKb : Hid (Blk w1 w.heap.size 28 (bxC X (.slice A n c) (.slice Bb m d))) := hide (hw1 ▸ (Blk.new w _ _).alloc _); have HKz : Hid (Blk w1 (w.heap.size + 1) 28 zeroC) := hide (hw1 ▸ blk_new' _ _ (by simp)); have HLt : Hid (w.heap.size < w1.heap.size) := hide HKb.out.lt; have HP := hide hP; have HC := hide hC; have HB1 := hide hb1; have HW1 := hide hw1; obtain ⟨PN, hPN⟩ : ∃ P, cutP X.path = P := ⟨_, rfl⟩
 obtain ⟨CN, hCN⟩ : ∃ C, X.comms.take 260 = C := ⟨_, rfl⟩
 have HCNb : Hid (∀ y ∈ CN, y < 4294967296) := hide (fun y hy => by rw [← hCN] at hy; exact hC.2.2.2.1 y (List.mem_of_mem_take hy)); have HPN := hide hPN; have HCN := hide hCN; have HX : Hid (cutA X = ⟨X.has, X.org, PN, X.hop, X.med, X.pref, X.aas, X.aid, CN⟩) := hide (by unfold cutA; rw [hPN, hCN]); clear hw1 hb1 hP hC hPN hCN
 go_enter Tryz.func56, Tryz.ntmps56
 go_upto_region 1 with fail
 rw [HW1.out]; refine wp_region_relH 10 w.heap.size (Nat.le_of_lt HLt.out) [(fun v _ => v = .pointer (some ⟨w.heap.size, 2, none⟩)), (fun v _ => v = .slice A n c), (SlA w1.heap.size PN), (fun v _ => v = .pointer (some ⟨w.heap.size, 8, none⟩)), (fun v _ => v = .slice Bb m d), (SlB w1.heap.size CN), (fun v _ => v = .pointer (some ⟨w.heap.size, 2, none⟩)), (fun _ W => StA w.heap.size w1.heap.size X PN W ), (fun v _ => v = .pointer (some ⟨w.heap.size, 8, none⟩)), (fun _ W => StB w.heap.size w1.heap.size X CN W )] (fun i W => BxA w.heap.size X W ∧ (i = 1 → W.cell? ⟨w.heap.size, 2, none⟩ = some (.slice A n c)) ∧ (i = 4 → W.cell? ⟨w.heap.size, 8, none⟩ = some (.slice Bb m d))) (fun i Wa Wb => if i = 7 then ∃ v, Wb = Wa.setCell ⟨w.heap.size, 2, none⟩ v else if i = 9 then ∃ v, Wb = Wa.setCell ⟨w.heap.size, 8, none⟩ v else Below Wa.heap.size Wa Wb) (by kernel_rfl) (by kernel_rfl) (by kernel_rfl) (by kernel_rfl) (by kernel_rfl) ?hE ?hR ?hP ?h0 ⟨?_, ?_, ?_, ?_, ?_, ?_, ?_, ?_, ?_, ?_, trivial⟩ ?_
 case hE =>
  intro i2 wa wb hB he; split at he
  ·obtain ⟨u, rfl⟩ := he; exact (Below.refl w.heap.size wa).setCell (p := ⟨w.heap.size, 2, none⟩) (Nat.le_refl _) u
  ·split at he
   ·obtain ⟨u, rfl⟩ := he; exact (Below.refl w.heap.size wa).setCell (p := ⟨w.heap.size, 8, none⟩) (Nat.le_refl _) u
   ·exact he.mono hB
 case hR =>
  intro i2 j2 v2 wa wb hij hB he h; split at he
  ·rename_i hj2; subst hj2; refine keepAll_at (E := fun wa wb => ∃ v, wb = wa.setCell ⟨w.heap.size, 2, none⟩ v) (x := 7) (k := 0) ?_ (by omega) he h; exact ⟨fun _ v wa wb he h => h, fun _ v wa wb he h => h, fun _ v wa wb he h => by obtain ⟨u, rfl⟩ := he; exact SlA.setv h HLt.out, fun _ v wa wb he h => h, fun _ v wa wb he h => h, fun _ v wa wb he h => by obtain ⟨u, rfl⟩ := he; exact SlB.setv h HLt.out, fun _ v wa wb he h => h, fun hn => absurd rfl hn, fun _ v wa wb he h => h, fun _ v wa wb he h => by obtain ⟨u, rfl⟩ := he; exact StB.set2 h HLt.out, trivial⟩
  ·split at he
   ·rename_i hj2; subst hj2; refine keepAll_at (E := fun wa wb => ∃ v, wb = wa.setCell ⟨w.heap.size, 8, none⟩ v) (x := 9) (k := 0) ?_ (by omega) he h; exact ⟨fun _ v wa wb he h => h, fun _ v wa wb he h => h, fun _ v wa wb he h => by obtain ⟨u, rfl⟩ := he; exact SlA.setv h HLt.out, fun _ v wa wb he h => h, fun _ v wa wb he h => h, fun _ v wa wb he h => by obtain ⟨u, rfl⟩ := he; exact SlB.setv h HLt.out, fun _ v wa wb he h => h, fun _ v wa wb he h => by obtain ⟨u, rfl⟩ := he; exact StA.set8 h HLt.out, fun _ v wa wb he h => h, fun hn => absurd rfl hn, trivial⟩
   ·refine relMono _ ?_ i2 v2 wa wb he h; exact ⟨fun _ _ _ _ h => h, fun _ _ _ _ h => h, fun v w2 w3 hb h => SlA.below h hb, fun _ _ _ _ h => h, fun _ _ _ _ h => h, fun v w2 w3 hb h => SlB.below h hb, fun _ _ _ _ h => h, fun v w1 w2 hb h => StA.below h hb, fun _ _ _ _ h => h, fun v w1 w2 hb h => StB.below h hb, trivial⟩
 case hP =>
  intro i2 j2 wa wb hij hnb hB he h; split at he
  ·rename_i hj2; subst hj2; obtain ⟨u, rfl⟩ := he; refine ⟨h.1.set2 u, fun e => ?_, fun e => (cell_set_ne (by decide)).trans (h.2.2 e)⟩; subst e; exact absurd hnb (by decide +kernel)
  ·split at he
   ·rename_i hj2; subst hj2; obtain ⟨u, rfl⟩ := he; refine ⟨h.1.set8 u, fun e => (cell_set_ne (by decide)).trans (h.2.1 e), fun e => ?_⟩; subst e; exact absurd hnb (by decide +kernel)
   ·exact ⟨h.1.below he, fun e => (he.cell h.1.lt_).trans (h.2.1 e), fun e => (he.cell h.1.lt_).trans (h.2.2 e)⟩
 case h0 =>
  intro j2 hj2; exact ⟨⟨_, _, HKb.out.drew, HKz.out.drew⟩, fun _ => HKb.out.cell 2, fun _ => HKb.out.cell 8⟩
 ·exact relG_plain rfl rfl (fun _ _ h => h) fun Ac w5 hp => pure1 (ptv w.heap.size 2) 1 (ptv w.heap.size 0) (hp.out 1 (by rfl))
 ·refine relG_plain rfl rfl (fun _ _ h => h) ?_; intro Ac w5 hp; have z2 := hp.pre.2.1 rfl; exact pure1 (.slice A n c) 3 (ptv w.heap.size 2) (hp.d 0)
 ·refine relG_plain rfl rfl (fun _ _ h => h) ?_; intro Ac w5 hp; have a4 : Ac.eval (.tmp 4) = .slice A n c := hp.d 1; obtain ⟨ρ, hρ, hc, hf, hgl⟩ := evalX Ac; rw [hρ] at a4; refine relCall hρ 145 #[.slice A n c] (by simp [go_sem, ↓IntWalk.iteOmega, *]) ?_; refine (pathFew_any A n c X.path w5 (HP.out.below sgMono (HB1.out.trans hp.bel))).mono ?_; intro e w6 hmv; unfold SegP at hmv; obtain ⟨A6, n6, c6, xs6, rfl, hl6, hb6⟩ := hmv; rw [HPN.out] at hl6; exact ⟨_, rfl, ⟨A6, n6, c6, xs6, rfl, hl6.less hp.bel.size hp.bel.size⟩, hb6⟩
 ·exact relG_plain rfl rfl (fun _ _ h => h) fun Ac w5 hp => pure1 (ptv w.heap.size 8) 1 (ptv w.heap.size 0) (hp.out 1 (by rfl))
 ·refine relG_plain rfl rfl (fun _ _ h => h) ?_; intro Ac w5 hp; have z8 := hp.pre.2.2 rfl; exact pure1 (.slice Bb m d) 6 (ptv w.heap.size 8) (hp.d 3)
 ·refine relG_plain rfl rfl (fun _ _ h => h) ?_; intro Ac w5 hp; have a7 : Ac.eval (.tmp 7) = .slice Bb m d := hp.d 4; obtain ⟨ρ, hρ, hc, hf, hgl⟩ := evalX Ac; rw [hρ] at a7; refine relCall hρ 101 #[.slice Bb m d, .int .i64 (260 : Nat)] (by simp [go_sem, ↓IntWalk.iteOmega, *]) ?_; refine (few_any Bb m d X.comms 260 (by decide) w5 (HC.out.below (HB1.out.trans hp.bel))).mono ?_; rintro e w6 ⟨v6, rfl, ho6, hb6⟩; rw [HCN.out] at ho6; obtain ⟨A6, c6, rfl⟩ := own_slice ho6; exact ⟨_, rfl, ⟨A6, _, c6, rfl, own_u32_fr ho6 HCNb.out hp.bel.size (fun k hk => by cases hk)⟩, hb6⟩
 ·exact relG_plain rfl rfl (fun _ _ h => h) fun Ac w5 hp => pure1 (ptv w.heap.size 2) 1 (ptv w.heap.size 0) (hp.out 1 (by rfl))
 ·refine relG_store rfl ?_; intro Ac w5 hp; have a9 : Ac.eval (.tmp 9) = .pointer (some ⟨w.heap.size, 2, none⟩) := hp.d 6; obtain ⟨A5, n5, c5, xs5, a5, hl5⟩ := hp.d 2; change Ac.eval (.tmp 5) = _ at a5; have a9 : Ac.eval (.tmp 9) = .pointer (some ⟨w.heap.size, 2, none⟩) := hp.d 6; obtain ⟨A5, n5, c5, xs5, ec, hl5⟩ := hp.d 2; change Ac.eval (.tmp 5) = _ at ec; obtain ⟨x2, x8, hk, hz⟩ := hp.pre.1; have HK := hide hk; have HZ := hide (hz.far (p := ⟨w.heap.size, 2, none⟩) (by show w.heap.size + 1 ≠ w.heap.size; omega) (.slice A5 n5 c5)); have HL := hide hl5; clear hp; refine ⟨w5.setCell ⟨w.heap.size, 2, none⟩ (.slice A5 n5 c5), .inl (exec_store rfl a9 ec (st1A HK.out rfl)), ?_, ⟨_, rfl⟩⟩; exact ⟨_, x8, HK.out.set_ 2 _, HZ.out, ⟨A5, n5, c5, xs5, rfl, HL.out.set HLt.out HLt.out _⟩⟩
 ·exact relG_plain rfl rfl (fun _ _ h => h) fun Ac w5 hp => pure1 (ptv w.heap.size 8) 1 (ptv w.heap.size 0) (hp.out 1 (by rfl))
 ·refine relG_store rfl ?_; intro Ac w5 hp; have a10 : Ac.eval (.tmp 10) = .pointer (some ⟨w.heap.size, 8, none⟩) := hp.d 8; obtain ⟨A8, n8, c8, a8, hu8⟩ := hp.d 5; change Ac.eval (.tmp 8) = _ at a8; have a10 : Ac.eval (.tmp 10) = .pointer (some ⟨w.heap.size, 8, none⟩) := hp.d 8; obtain ⟨A8, n8, c8, ec, hu8⟩ := hp.d 5; change Ac.eval (.tmp 8) = _ at ec; obtain ⟨x2, x8, hk, hz⟩ := hp.pre.1; have HK := hide hk; have HZ := hide (hz.far (p := ⟨w.heap.size, 8, none⟩) (by show w.heap.size + 1 ≠ w.heap.size; omega) (.slice A8 n8 c8)); have HL := hide hu8; clear hp; refine ⟨w5.setCell ⟨w.heap.size, 8, none⟩ (.slice A8 n8 c8), .inl (exec_store rfl a10 ec (st1B HK.out rfl)), ?_, ⟨_, rfl⟩⟩; exact ⟨x2, _, HK.out.set_ 8 _, HZ.out, ⟨A8, n8, c8, rfl, HL.out.set (p := ⟨w.heap.size, 8, none⟩) HLt.out _⟩⟩
 intro u w7 hb7 hall; have efin : StA w.heap.size w1.heap.size X PN w7  := relAll_at hall (i := 7) (by decide +kernel); have efin1 : StB w.heap.size w1.heap.size X CN w7  := relAll_at hall (i := 9) (by decide +kernel); clear hall; simp only [List.drop_succ_cons, List.drop_zero, List.take_succ_cons, List.take_zero, putAll, Act.put, List.setIfInBounds_toArray, List.set_cons_zero, List.set_cons_succ, Nat.zero_add, Nat.reduceAdd, ]; obtain ⟨A8, n8, c8, xs8, B8, m8, d8, hk, hz, hl, hu⟩ := st_both efin efin1; have HK := hide hk; have HZ := hide hz; have HB7 := hide (HB1.out.trans hb7); have HO := hide (show AtO w1.heap.size w7 ⟨X.has, X.org, PN, X.hop, X.med, X.pref, X.aas, X.aid, CN⟩ (atV X.has X.org A8 n8 c8 X.hop X.med X.pref X.aas X.aid B8 m8 d8) from ⟨A8, n8, c8, xs8, B8, m8, d8, rfl, hl, hu⟩); rw [← HX.out] at HO; have hlt : w.heap.size + 1 < w1.heap.size := HKz.out.lt; clear efin efin1 hk hz hl hu hb7; obtain ⟨a0, a1, a2, a3, a4, a5, a6, a7, a8⟩ := blk9 HK.out; obtain ⟨z0, z1, z2, z3, z4, z5, z6, z7, z8⟩ := blk9 HZ.out; have zf := fun i => HZ.out.frozen i; go_wp2; change bodyPost _ _ _ _ _ (w7.setCells (w.heap.size + 1) 0 (aL X A8 n8 c8 B8 m8 d8)); obtain ⟨wF, hwF⟩ : ∃ x, w7.setCells (w.heap.size + 1) 0 (aL X A8 n8 c8 B8 m8 d8) = x := ⟨_, rfl⟩
 have HFk := hide (hwF ▸ blk9_set HZ.out : Blk wF (w.heap.size + 1) 28 (atC X.has X.org A8 n8 c8 X.hop X.med X.pref X.aas X.aid B8 m8 d8)); have HFo := hide (hwF ▸ AtO.sets _ 0 HO.out hlt : AtO w1.heap.size wF (cutA X) (atV X.has X.org A8 n8 c8 X.hop X.med X.pref X.aas X.aid B8 m8 d8)); have HFb := hide (hwF ▸ below_sets _ 0 HB7.out (by omega) : Below w.heap.size w wF); rw [hwF]; clear hwF z0 z1 z2 z3 z4 z5 z6 z7 z8 zf a0 a1 a2 a3 a4 a5 a6 a7 a8; obtain ⟨z0, z1, z2, z3, z4, z5, z6, z7, z8⟩ := blk9 HFk.out; exact bodyPost_ret (v := atV X.has X.org A8 n8 c8 X.hop X.med X.pref X.aas X.aid B8 m8 d8) (by simp [results, Tryz.results56, go_sem, z0, z1, z2, z3, z4, z5, z6, z7, z8]) rfl ⟨_, rfl, HFo.out.less (b' := w.heap.size) (by omega), HFb.out⟩
end Go.Proofs.YtmffmkjgdjgmeaaGreat
namespace Go.Proofs.YtmffmkjgdjgmeaaGreat
open Go.RowKit Go.WideShapes Go.ChangeShapes
theorem setOf_idem (l : List Nat) : setOf (setOf l) = setOf l := rise_ext (setOf_rise _) (setOf_rise _) (fun x => by rw [setOf_mem])
theorem setOf_ne {l : List Nat} (h : l ≠ []) : setOf l ≠ [] := by
 obtain ⟨x, hx⟩ := List.exists_mem_of_ne_nil l h; intro e; have := (setOf_mem l x).2 hx; rw [e] at this; simp at this
theorem normS_concat (l : List SG) (x : SG) : normS (l ++ [x]) = stepS (normS l) x := by unfold normS; rw [List.foldl_append]; rfl
theorem putS_cases (q : List SG) (n : Nat) : putS q n = q ++ [⟨2, [n]⟩] ∨ ∃ q' r, q = q' ++ [⟨2, r⟩] ∧ putS q n = q' ++ [⟨2, r ++ [n]⟩] := by
 unfold putS
 cases h : q.getLast? with
 | none =>
  rw [List.getLast?_eq_none_iff] at h; subst h; exact .inl rfl
 | some x =>
  simp only; split
  ·right
   rename_i hx; obtain ⟨k, r⟩ := x; obtain ⟨rfl, _⟩ := hx; obtain ⟨ys, hy⟩ := List.getLast?_eq_some_iff.1 h; refine ⟨ys, r, hy, ?_⟩; rw [hy, List.dropLast_concat]
  ·exact .inl rfl
theorem stepS_seq (q : List SG) (r : List Nat) : stepS q ⟨2, r⟩ = r.foldl putS q := by unfold stepS; rw [if_pos rfl]
theorem putS_own {q : List SG} (h : normS q = q) (n : Nat) : normS (putS q n) = putS q n := by
 rcases putS_cases q n with e | ⟨q', r, rfl, e⟩
 ·rw [e, normS_concat, h, stepS_seq, ← e]; rfl
 ·have e2 : r.foldl putS (normS q') = q' ++ [⟨2, r⟩] := (by rw [← stepS_seq, ← normS_concat, h])
  rw [e, normS_concat, stepS_seq, List.foldl_append, e2, ← e]; rfl
theorem foldP_own : ∀ (r : List Nat) {q : List SG}, normS q = q → normS (r.foldl putS q) = r.foldl putS q
 | [], _, h => h
 | n :: r, q, h => foldP_own r (putS_own h n)
theorem stepS_own {q : List SG} (h : normS q = q) (x : SG) : normS (stepS q x) = stepS q x := by
 unfold stepS; split
 ·exact foldP_own _ h
 ·split
  ·rename_i hx; rw [normS_concat, h]; unfold stepS; rw [if_neg (by show ¬ ((1 : Int) = 2); decide), if_pos ⟨rfl, setOf_ne hx.2⟩]; simp only; rw [setOf_idem]
  ·exact h
theorem foldS_own : ∀ (l : List SG) {q : List SG}, normS q = q → normS (l.foldl stepS q) = l.foldl stepS q
 | [], _, h => h
 | x :: l, q, h => foldS_own l (stepS_own h x)
theorem normS_idem (l : List SG) : normS (normS l) = normS l := foldS_own l rfl
theorem numS_concat (q : List SG) (x : SG) : numS (q ++ [x]) = numS q + x.r.length := by simp [numS]
theorem numS_put (q : List SG) (n : Nat) : numS (putS q n) = numS q + 1 := by
 rcases putS_cases q n with e | ⟨q', r, rfl, e⟩
 ·rw [e, numS_concat]; rfl
 ·rw [e, numS_concat, numS_concat]; simp only [List.length_append, List.length_cons, List.length_nil]; omega
theorem numS_foldP : ∀ (r : List Nat) (q : List SG), numS (r.foldl putS q) = numS q + r.length
 | [], _ => rfl
 | n :: r, q => by rw [List.foldl_cons, numS_foldP r, numS_put, List.length_cons]; omega
theorem numS_step (q : List SG) (x : SG) : numS (stepS q x) ≤ numS q + x.r.length := by
 unfold stepS; split
 ·rw [numS_foldP]; omega
 ·split
  ·rw [numS_concat]; have := setOf_len x.r; simp only; omega
  ·omega
theorem numS_cons (x : SG) (l : List SG) : numS (x :: l) = x.r.length + numS l := by simp [numS]
theorem numS_fold : ∀ (l q : List SG), numS (l.foldl stepS q) ≤ numS q + numS l
 | [], q => by simp [numS]
 | x :: l, q => by
  have h1 := numS_fold l (stepS q x); have h2 := numS_step q x; rw [List.foldl_cons, numS_cons]; omega
theorem numS_norm (l : List SG) : numS (normS l) ≤ numS l := by have := numS_fold l []; simpa [numS, normS] using this
theorem normA_eq (x : AT) : normA (normA x) = normA x := by
 unfold normA; simp only [hb_nm _ 1 ⟨by decide, by decide⟩, hb_nm _ 2 ⟨by decide, by decide⟩, hb_nm _ 3 ⟨by decide, by decide⟩, hb_nm _ 4 ⟨by decide, by decide⟩, hb_nm _ 5 ⟨by decide, by decide⟩, hb_nm _ 7 ⟨by decide, by decide⟩, hb_nm _ 8 ⟨by decide, by decide⟩, own8_nmH (own8_nm x.has)]
 congr 1 <;> (split <;> simp [*, normS_idem, setOf_idem])
end Go.Proofs.YtmffmkjgdjgmeaaGreat
namespace Go.Proofs.YtmffmkjgdjgmeaaGreat
open Go.RowKit Go.WideShapes Go.ChangeShapes
attribute [local go_sem] Oper.semAt_some
structure RT where
  pa : Int
  pl : Int
  at_ : AT
  A : Option Addr
  n : Nat
  c : Nat
  B : Option Addr
  m : Nat
  d : Nat
  rp : Int
  ra : Int
  ri : Int
  inn : Bool
  loc : Bool
theorem blk_sets_far {g H : Nat} {t : TypeId} {cs : Array Value} (hne : g ≠ H) : ∀ (vs : List Value) (i : Nat) {w : World}, Blk w g t cs → Blk (w.setCells H i vs) g t cs
 | [], _, _, h => h
 | v :: vs, i, _, h => blk_sets_far hne vs (i + 1) (h.far (p := ⟨H, i, none⟩) hne v)
def sgF (Bq : Nat) (w : World) (vs : List Value) (x : SG) : Prop := FrB Bq none (fun w => sgR w vs x) w
theorem sgF_here {Bq : Nat} {w : World} {vs : List Value} {x : SG} (h : sgF Bq w vs x) : sgR w vs x := FrB.here h
theorem lst_map {α : Type} {sz : Nat} {R S : World → List Value → α → Prop} {w : World} {A : Option Addr} {n c : Nat} {l : List α} (hi : ∀ vs x, R w vs x → S w vs x) (h : LstAt sz R w A n c l) : LstAt sz S w A n c l := by
 refine ⟨h.1, h.2.1, h.2.2.1, fun hn => ?_⟩; obtain ⟨g, o, e, hg, hk⟩ := h.2.2.2 hn; refine ⟨g, o, e, hg, fun k x hx => ?_⟩; obtain ⟨vs, hl, hr, hc⟩ := hk k x hx; exact ⟨vs, hl, hi vs x hr, hc⟩
theorem lst_of_F {Bq : Nat} {w : World} {A : Option Addr} {n c : Nat} {l : List SG} (h : LstAt 2 (sgF Bq) w A n c l) : LstAt 2 sgR w A n c l := lst_map (fun _ _ hr => sgF_here hr) h
theorem low_lstF {B Bq : Nat} {w : World} {A : Option Addr} {n c : Nat} {l : List SG} {xs : List Value} (h : LOw 2 99 sgR w B Bq A n c l xs) : LstAt 2 (sgF Bq) w A n c l :=
 LstAt.of_own (by decide) h.1 ⟨h.2.1, fun k x hx => FrB.none_ (h.2.2 k x hx)⟩
theorem low_litF (Bq : Nat) (w : World) : LOw 2 99 sgR (w.alloc (.cells #[] 99)) w.heap.size Bq (some ⟨w.heap.size, 0, none⟩) 0 0 [] [] :=
 ⟨w.ownsRow_lit #[] 0 (Nat.le_refl _) (by unfold maxLen; omega) rfl, by simp, fun k x hk => by simp at hk⟩
theorem fr_new {Bq : Nat} {R : World → Prop} {w wr : World} {ob : Option Nat} (h : FrB Bq none R w) (hb : Below w.heap.size w wr) (hob : ∀ k, ob = some k → w.heap.size ≤ k) : FrB Bq ob R wr := by
 intro w' ha; refine h w' ⟨Nat.le_trans hb.size ha.1, fun k o hk ho hc _ => ?_⟩; have hl := heap_lt ho; exact ha.2 k o hk ((hb.block k hl).trans ho) hc (fun e => by have := hob k e.symm; omega)
theorem seg_srcF {Bq : Nat} {w : World} {A : Option Addr} {n c : Nat} {l : List SG} (h : LstAt 2 (sgF Bq) w A n c l) : ∃ ys : List Value, ∀ wr, Below w.heap.size w wr → ∀ v : Value, (∀ k, v.ownBlock = some k → w.heap.size ≤ k) →
  Reads wr wr.heap.size 2 A n ys ∧ Chunks 2 (fun w vs x => FrB Bq v.ownBlock (fun w => sgR w vs x) w) wr ys l ∧ ∀ u ∈ ys, u.oneCell' = true := by
 obtain ⟨ys, hr, hc⟩ := h.reads (by decide); have hc2 : Chunks 2 sgR w ys l := ⟨hc.1, fun k x hx => sgF_here (hc.2 k x hx)⟩
 refine ⟨ys, fun wr hb v hv => ⟨?_, ⟨hc.1, fun k x hx => fr_new (hc.2 k x hx) hb hv⟩, Chunks.ones sgOne hc2 (by decide)⟩⟩; refine ⟨hr.1, fun hn => ?_⟩; obtain ⟨ad, hA, hlt, hcell⟩ := hr.2 hn; exact ⟨ad, hA, Nat.lt_of_lt_of_le hlt hb.size, fun j u hu => (hb.cell (by unfold Addr.add; split <;> exact hlt)).trans (hcell j u hu)⟩
def RefPF (Bq : Nat) (l : List SG) (w : World) (e : Ending) (w' : World) : Prop := ∃ A n c xs, e = .returned (.slice A n c) ∧ LOw 2 99 sgR w' w.heap.size Bq A n c l xs ∧ Below w.heap.size w w'
set_option maxRecDepth 100000 in
set_option maxHeartbeats 4000000 in
theorem refputF_any (Bq : Nat) (A : Option Addr) (n c x : Nat) (l : List SG) (w : World) (h : LstAt 2 (sgF Bq) w A n c l) (hBq : Bq ≤ w.heap.size) (hx : x < 4294967296) (hn : n ≤ 20000) :
    Calls Tryz.prog 286 #[.slice A n c, .int .u32 (x : Int)] w (RefPF Bq (putS l x) w) := by
  obtain ⟨i0, hi, hz0, hz1, hz2⟩ := info_parts segInfo; obtain ⟨j0, hj, hy0, hy1, hy2⟩ := info_parts info32; have hnc := h.2.1; have hmx := h.2.2.1; unfold maxLen at hmx; have HLs := hide h
  -- behind: all of l, and a segment of its own
  have HL0 := hide (low_litF Bq w); have HB0 : Hid (Below w.heap.size w (w.alloc (.cells #[] 99))) := hide ((Below.refl _ w).alloc (Nat.le_refl _) _)
  have tailp : ∀ (hlast : ∀ y, l.getLast? = some y → ¬ (y.k = 2 ∧ y.r.length < 255)), putS l x = l ++ [⟨2, [x]⟩] := fun hlast => by
    unfold putS
    cases hl : l.getLast? with
    | none => rw [List.getLast?_eq_none_iff] at hl; subst hl; rfl
    | some y => simp only; rw [if_neg (hlast y hl)]
  by_cases h0 : n = 0
  · subst h0; have HP : Hid (putS l x = l ++ [⟨2, [x]⟩]) := hide (tailp (by rw [List.eq_nil_of_length_eq_zero h.1]; intro y hy; simp at hy)); obtain ⟨ys, hs⟩ := seg_srcF h; obtain ⟨hr, hch, ho⟩ := hs _ HB0.out (.slice (some ⟨w.heap.size, 0, none⟩) 0 0) (fun k hk => by cases hk; exact Nat.le_refl _); have HRd := hide hr; have HCh := hide hch; have HOn := hide ho; clear h tailp hr hch ho hs
    go_enter Tryz.func286, Tryz.ntmps286
    go_wp2_with (at_builtin; refine wpList_append_any _ rfl (.tmp 48) (.tmp 49) 25 rfl w.heap.size 99 i0 _ 2 32 Tryz.underlying25 hi hz0 hz1 hz2 rfl (by decide) (.slice (some ⟨w.heap.size, 0, none⟩) 0 0) 0 [] rfl HL0.out.1 _ A 0 c ys rfl HRd.out HOn.out (by unfold maxLen; omega) (by omega) (by simp) ?_; intro v' w7 g2 g3 g4; refine Hid.out (?_ : Hid _))
    obtain ⟨A7, c7, rfl, hlo7⟩ := LOw.push HL0.out HCh.out g2 g3 g4; simp only [Nat.zero_add, List.nil_append] at hlo7; have HL7 := hide hlo7; have HB7 := hide (HB0.out.grown g3 (by simp) (fun k hk => by cases hk; exact Nat.le_refl _)); have hs7 := HB7.out.size; have HOb : Hid (∀ z, (Value.slice A7 0 c7).ownBlock = some z → z < w7.heap.size) := hide (own_block_lt hlo7.1); simp only [Nat.zero_add]; clear g2 g3 g4 hlo7; have hbc : Below w7.heap.size w7 ((w7.alloc (.cells #[.int .u32 (x : Int)] 22)).alloc (.cells #[.int .i64 2, .slice (some ⟨w7.heap.size, 0, none⟩) 1 1] 99)) := ((Below.refl _ w7).alloc (Nat.le_refl _) _).alloc (by simp) _; have HLc := hide (HL7.out.below hbc); have HU : Hid (U32s ((w7.alloc (.cells #[.int .u32 (x : Int)] 22)).alloc (.cells #[.int .i64 2, .slice (some ⟨w7.heap.size, 0, none⟩) 1 1] 99)) (some ⟨w7.heap.size, 0, none⟩) 1 1 [x]) := hide ((u32_one hx).below ((Below.refl _ _).alloc (Nat.le_refl _) _)); have HBk : Hid (Blk ((w7.alloc (.cells #[.int .u32 (x : Int)] 22)).alloc (.cells #[.int .i64 2, .slice (some ⟨w7.heap.size, 0, none⟩) 1 1] 99)) (w7.heap.size + 1) 99 #[.int .i64 2, .slice (some ⟨w7.heap.size, 0, none⟩) 1 1]) := hide (blk_new' _ _ (by simp)); have HBc := hide (HB7.out.trans (hbc.mono hs7)); have hsc : w7.heap.size + 2 = ((w7.alloc (.cells #[.int .u32 (x : Int)] 22)).alloc (.cells #[.int .i64 2, .slice (some ⟨w7.heap.size, 0, none⟩) 1 1] 99)).heap.size := (by simp)
    clear hbc; refine hide ?_
    go_wp2_with (at_builtin; refine wpList_append_any _ rfl (.tmp 50) (.tmp 54) 25 rfl w.heap.size 99 i0 _ 2 32 Tryz.underlying25 hi hz0 hz1 hz2 rfl (by decide) (.slice A7 0 c7) 0 ys rfl HLc.out.1 _ (some ⟨w7.heap.size + 1, 0, none⟩) 1 1 [.int .i64 2, .slice (some ⟨w7.heap.size, 0, none⟩) 1 1] rfl (reads_blkN HBk.out HBk.out.lt rfl rfl) (by simp [Value.oneCell']) (by unfold maxLen; omega) (by omega) (by omega) ?_; intro v' w8 g2 g3 g4; obtain ⟨A8, c8, rfl, hlo8⟩ := LOw.push HLc.out (chunk1_fr rfl (sg_fr' HU.out (fun _ a ha => by cases ha; exact ⟨by simp only; omega, fun e => by have := HOb.out _ e.symm; simp at this⟩))) g2 g3 g4; have HL8 := hide hlo8; have HB8 := hide (HBc.out.grown g3 (by omega) (fun k hk => own_low_block HL7.out.1 k hk)); clear hlo8 g2 g3 g4)
    go_ret; exact ⟨A8, 0 + 1, c8, _, rfl, by rw [HP.out]; exact HL8.out, HB8.out⟩
  · obtain ⟨k, rfl⟩ : ∃ k, n = k + 1 := ⟨n - 1, by omega⟩
    obtain ⟨g, o, b, B, m, d, r, rfl, hg, hxl, hr0, hc0, hc1⟩ := SGat (lst_of_F h) (k := k) (by omega); have hll : l.getLast? = some ⟨b, r⟩ := (by rw [List.getLast?_eq_getElem?, h.1]; simpa using hxl)
    have hrl : r.length = m := hr0.1; have hwk : IntKind.i64.wrap (k : Int) = (k : Int) := (by rw [IntKind.wrap_i64]; omega)
    have hwk1 : IntKind.i64.wrap ((k : Int) + 1 - 1) = (k : Int) := (by rw [IntKind.wrap_i64]; omega)
    have hk0 : decide (0 ≤ (k : Int)) = true := decide_eq_true (by omega); have hkk : (k : Int) < ((k + 1 : Nat) : Int) := (by omega)
    by_cases hb : b = 2
    · subst hb; by_cases hm : m < 255
      · have dm : decide ((m : Int) < 255) = true := decide_eq_true (by omega)
        have HP : Hid (putS l x = l.take k ++ [⟨2, r ++ [x]⟩]) := hide (by
          unfold putS; rw [hll]; simp only; rw [if_pos (by first | exact ⟨trivial, by omega⟩ | exact ⟨rfl, by omega⟩)]
          congr 1
          rw [List.dropLast_eq_take, h.1]
          rfl)
        obtain ⟨ys, hs⟩ := seg_srcF (h.take_ (m := k) (by omega)); obtain ⟨hr, hch, ho⟩ := hs _ HB0.out (.slice (some ⟨w.heap.size, 0, none⟩) 0 0) (fun k hk => by cases hk; exact Nat.le_refl _); have HRd := hide hr; have HCh := hide hch; have HOn := hide ho; clear h tailp hr hch ho hs hll hxl
        go_enter Tryz.func286, Tryz.ntmps286
        go_wp2_with (at_builtin; refine wpList_append_any _ rfl (.tmp 29) (.tmp 32) 25 rfl w.heap.size 99 i0 _ 2 32 Tryz.underlying25 hi hz0 hz1 hz2 rfl (by decide) (.slice (some ⟨w.heap.size, 0, none⟩) 0 0) 0 [] rfl HL0.out.1 _ (some ⟨g, o, none⟩) k c ys rfl HRd.out HOn.out (by unfold maxLen; omega) (by omega) (by simp) ?_; intro v' w7 g2 g3 g4; refine Hid.out (?_ : Hid _))
        obtain ⟨A7, c7, rfl, hlo7⟩ := LOw.push HL0.out HCh.out g2 g3 g4; simp only [Nat.zero_add, List.nil_append] at hlo7; have HL7 := hide hlo7; have HB7 := hide (HB0.out.grown g3 (by simp) (fun k hk => by cases hk; exact Nat.le_refl _)); have hs7 := HB7.out.size; have HOb : Hid (∀ z, (Value.slice A7 k c7).ownBlock = some z → z < w7.heap.size) := hide (own_block_lt hlo7.1); simp only [Nat.zero_add]; clear g2 g3 g4 hlo7; have HU0 : Hid (U32s (w7.alloc (.cells #[] 22)) B m d r) := hide ((hr0.below HB7.out).below ((Below.refl _ _).alloc (Nat.le_refl _) _)); have HO0 : Hid ((w7.alloc (.cells #[] 22)).ownsRow w7.heap.size 22 1 (.slice (some ⟨w7.heap.size, 0, none⟩) 0 0) 0 []) := hide (w7.ownsRow_lit #[] 0 (Nat.le_refl _) (by unfold maxLen; omega) rfl); have HB1 : Hid (Below w7.heap.size w7 (w7.alloc (.cells #[] 22))) := hide ((Below.refl _ w7).alloc (Nat.le_refl _) _); have k0' : w7.cell? ⟨g, o + k * 2 + 1, none⟩ = some (.slice B m d) := (HB7.out.cell hg).trans hc1; have hg7 : g < w7.heap.size := (by omega)
        refine hide ?_
        go_wp2_with (at_builtin; refine wpList_append_any _ rfl (.tmp 35) (.tmp 40) 26 rfl w7.heap.size 22 j0 _ 1 4 Tryz.underlying26 hj hy0 hy1 hy2 rfl (by decide) (.slice (some ⟨w7.heap.size, 0, none⟩) 0 0) 0 [] rfl HO0.out _ B m d (u32c r) rfl HU0.out.reads (u32c_one _) (by unfold maxLen; omega) (by omega) (by simp) ?_; intro v' w8 g2 g3 g4; refine Hid.out (?_ : Hid _))
        simp only [Nat.zero_add, List.nil_append] at g2; obtain ⟨A9, c9, rfl⟩ := own_slice g2; have HO9 := hide g2; have HB8 := hide (HB1.out.grown g3 (by simp) (fun k hk => by cases hk; exact Nat.le_refl _)); have hs8 := HB8.out.size; have HB2 : Hid (Below w7.heap.size w7 (w8.alloc (.cells #[.int .u32 (x : Int)] 22))) := hide (HB8.out.alloc hs8 _); have HO10 : Hid ((w8.alloc (.cells #[.int .u32 (x : Int)] 22)).ownsRow w7.heap.size 22 1 (.slice A9 m c9) m (u32c r)) := hide (g2.alloc _); have HX : Hid (U32s (w8.alloc (.cells #[.int .u32 (x : Int)] 22)) (some ⟨w8.heap.size, 0, none⟩) 1 1 [x]) := hide (u32_one hx); have hsw2 : (w8.alloc (.cells #[.int .u32 (x : Int)] 22)).heap.size = w8.heap.size + 1 := (by simp)
        clear g2 g3 g4; refine hide ?_
        go_wp2_with (at_builtin; refine wpList_append_any _ rfl (.tmp 41) (.tmp 43) 26 rfl w7.heap.size 22 j0 _ 1 4 Tryz.underlying26 hj hy0 hy1 hy2 rfl (by decide) (.slice A9 m c9) m (u32c r) rfl HO10.out _ (some ⟨w8.heap.size, 0, none⟩) 1 1 (u32c [x]) rfl HX.out.reads (u32c_one _) (by unfold maxLen; omega) (by omega) (by omega) ?_; intro v' w9 g2 g3 g4; refine Hid.out (?_ : Hid _))
        rw [← u32c_app] at g2; obtain ⟨A10, c10, rfl⟩ := own_slice g2; have HB9 := hide (HB2.out.grown g3 (by omega) (fun k hk => own_low_block HO10.out k hk)); have hs9 := HB9.out.size; have HU3 : Hid (U32s (w9.alloc (.cells #[.int .i64 2, .slice A10 (m + 1) c10] 99)) A10 (m + 1) c10 (r ++ [x])) := hide ((U32s.of_own g2 (fun y hy => by rcases List.mem_append.1 hy with hy | hy; exact hr0.2.2.2.1 y hy; rw [List.mem_singleton.1 hy]; exact hx)).below ((Below.refl _ _).alloc (Nat.le_refl _) _)); have HLow : Hid (∀ a, A10 = some a → w7.heap.size ≤ a.block) := hide (fun a ha => own_low_block g2 a.block (by rw [ha]; rfl)); have HB3 := hide (HB9.out.alloc hs9 (.cells #[.int .i64 2, .slice A10 (m + 1) c10] 99)); have HLc := hide (HL7.out.below HB3.out); have HBk : Hid (Blk (w9.alloc (.cells #[.int .i64 2, .slice A10 (m + 1) c10] 99)) w9.heap.size 99 #[.int .i64 2, .slice A10 (m + 1) c10]) := hide (Blk.new w9 _ _); have HBc := hide (HB7.out.trans (HB3.out.mono hs7)); have hsw3 : (w9.alloc (.cells #[.int .i64 2, .slice A10 (m + 1) c10] 99)).heap.size = w9.heap.size + 1 := (by simp)
        clear g2 g3 g4; refine hide ?_
        go_wp2_with (at_builtin; refine wpList_append_any _ rfl (.tmp 34) (.tmp 46) 25 rfl w.heap.size 99 i0 _ 2 32 Tryz.underlying25 hi hz0 hz1 hz2 rfl (by decide) (.slice A7 k c7) k ys rfl HLc.out.1 _ (some ⟨w9.heap.size, 0, none⟩) 1 1 [.int .i64 2, .slice A10 (m + 1) c10] rfl (reads_blkN HBk.out HBk.out.lt rfl rfl) (by simp [Value.oneCell']) (by unfold maxLen; omega) (by omega) (by omega) ?_; intro v' w11 g2 g3 g4; obtain ⟨A8, c8, rfl, hlo8⟩ := LOw.push HLc.out (chunk1_fr rfl (sg_fr' HU3.out (fun _ a ha => ⟨by have := HLow.out a ha; omega, fun e => by have := HOb.out _ e.symm; have := HLow.out a ha; omega⟩))) g2 g3 g4; have HL8 := hide hlo8; have HB12 := hide (HBc.out.grown g3 (by omega) (fun k hk => own_low_block HL7.out.1 k hk)); clear hlo8 g2 g3 g4)
        go_ret; exact ⟨A8, k + 1, c8, _, rfl, by rw [HP.out]; exact HL8.out, HB12.out⟩
      · have dm : decide ((m : Int) < 255) = false := decide_eq_false (by omega); have HP : Hid (putS l x = l ++ [⟨2, [x]⟩]) := hide (tailp (by rw [hll]; intro y hy; cases hy; simp only; omega)); obtain ⟨ys, hs⟩ := seg_srcF h; obtain ⟨hr, hch, ho⟩ := hs _ HB0.out (.slice (some ⟨w.heap.size, 0, none⟩) 0 0) (fun k hk => by cases hk; exact Nat.le_refl _); have HRd := hide hr; have HCh := hide hch; have HOn := hide ho; clear h tailp hr hch ho hs hll hxl
        go_enter Tryz.func286, Tryz.ntmps286
        go_wp2_with (at_builtin; refine wpList_append_any _ rfl (.tmp 48) (.tmp 49) 25 rfl w.heap.size 99 i0 _ 2 32 Tryz.underlying25 hi hz0 hz1 hz2 rfl (by decide) (.slice (some ⟨w.heap.size, 0, none⟩) 0 0) 0 [] rfl HL0.out.1 _ (some ⟨g, o, none⟩) (k + 1) c ys rfl HRd.out HOn.out (by unfold maxLen; omega) (by omega) (by simp) ?_; intro v' w7 g2 g3 g4; refine Hid.out (?_ : Hid _))
        obtain ⟨A7, c7, rfl, hlo7⟩ := LOw.push HL0.out HCh.out g2 g3 g4; simp only [Nat.zero_add, List.nil_append] at hlo7; have HL7 := hide hlo7; have HB7 := hide (HB0.out.grown g3 (by simp) (fun k hk => by cases hk; exact Nat.le_refl _)); have hs7 := HB7.out.size; have HOb : Hid (∀ z, (Value.slice A7 (k + 1) c7).ownBlock = some z → z < w7.heap.size) := hide (own_block_lt hlo7.1); simp only [Nat.zero_add]; clear g2 g3 g4 hlo7; have hbc : Below w7.heap.size w7 ((w7.alloc (.cells #[.int .u32 (x : Int)] 22)).alloc (.cells #[.int .i64 2, .slice (some ⟨w7.heap.size, 0, none⟩) 1 1] 99)) := ((Below.refl _ w7).alloc (Nat.le_refl _) _).alloc (by simp) _; have HLc := hide (HL7.out.below hbc); have HU : Hid (U32s ((w7.alloc (.cells #[.int .u32 (x : Int)] 22)).alloc (.cells #[.int .i64 2, .slice (some ⟨w7.heap.size, 0, none⟩) 1 1] 99)) (some ⟨w7.heap.size, 0, none⟩) 1 1 [x]) := hide ((u32_one hx).below ((Below.refl _ _).alloc (Nat.le_refl _) _)); have HBk : Hid (Blk ((w7.alloc (.cells #[.int .u32 (x : Int)] 22)).alloc (.cells #[.int .i64 2, .slice (some ⟨w7.heap.size, 0, none⟩) 1 1] 99)) (w7.heap.size + 1) 99 #[.int .i64 2, .slice (some ⟨w7.heap.size, 0, none⟩) 1 1]) := hide (blk_new' _ _ (by simp)); have HBc := hide (HB7.out.trans (hbc.mono hs7)); have hsc : w7.heap.size + 2 = ((w7.alloc (.cells #[.int .u32 (x : Int)] 22)).alloc (.cells #[.int .i64 2, .slice (some ⟨w7.heap.size, 0, none⟩) 1 1] 99)).heap.size := (by simp)
        clear hbc; refine hide ?_
        go_wp2_with (at_builtin; refine wpList_append_any _ rfl (.tmp 50) (.tmp 54) 25 rfl w.heap.size 99 i0 _ 2 32 Tryz.underlying25 hi hz0 hz1 hz2 rfl (by decide) (.slice A7 (k + 1) c7) (k + 1) ys rfl HLc.out.1 _ (some ⟨w7.heap.size + 1, 0, none⟩) 1 1 [.int .i64 2, .slice (some ⟨w7.heap.size, 0, none⟩) 1 1] rfl (reads_blkN HBk.out HBk.out.lt rfl rfl) (by simp [Value.oneCell']) (by unfold maxLen; omega) (by omega) (by omega) ?_; intro v' w8 g2 g3 g4; obtain ⟨A8, c8, rfl, hlo8⟩ := LOw.push HLc.out (chunk1_fr rfl (sg_fr' HU.out (fun _ a ha => by cases ha; exact ⟨by simp only; omega, fun e => by have := HOb.out _ e.symm; simp at this⟩))) g2 g3 g4; have HL8 := hide hlo8; have HB8 := hide (HBc.out.grown g3 (by omega) (fun k hk => own_low_block HL7.out.1 k hk)); clear hlo8 g2 g3 g4)
        go_ret; exact ⟨A8, (k + 1) + 1, c8, _, rfl, by rw [HP.out]; exact HL8.out, HB8.out⟩
    · have e2 : (b == 2) = false := (by simpa using hb)
      have HP : Hid (putS l x = l ++ [⟨2, [x]⟩]) := hide (tailp (by rw [hll]; intro y hy; cases hy; simp only; exact fun h2 => hb h2.1)); obtain ⟨ys, hs⟩ := seg_srcF h; obtain ⟨hr, hch, ho⟩ := hs _ HB0.out (.slice (some ⟨w.heap.size, 0, none⟩) 0 0) (fun k hk => by cases hk; exact Nat.le_refl _); have HRd := hide hr; have HCh := hide hch; have HOn := hide ho; clear h tailp hr hch ho hs hll hxl hb
      go_enter Tryz.func286, Tryz.ntmps286
      go_wp2_with (at_builtin; refine wpList_append_any _ rfl (.tmp 48) (.tmp 49) 25 rfl w.heap.size 99 i0 _ 2 32 Tryz.underlying25 hi hz0 hz1 hz2 rfl (by decide) (.slice (some ⟨w.heap.size, 0, none⟩) 0 0) 0 [] rfl HL0.out.1 _ (some ⟨g, o, none⟩) (k + 1) c ys rfl HRd.out HOn.out (by unfold maxLen; omega) (by omega) (by simp) ?_; intro v' w7 g2 g3 g4; refine Hid.out (?_ : Hid _))
      obtain ⟨A7, c7, rfl, hlo7⟩ := LOw.push HL0.out HCh.out g2 g3 g4; simp only [Nat.zero_add, List.nil_append] at hlo7; have HL7 := hide hlo7; have HB7 := hide (HB0.out.grown g3 (by simp) (fun k hk => by cases hk; exact Nat.le_refl _)); have hs7 := HB7.out.size; have HOb : Hid (∀ z, (Value.slice A7 (k + 1) c7).ownBlock = some z → z < w7.heap.size) := hide (own_block_lt hlo7.1); simp only [Nat.zero_add]; clear g2 g3 g4 hlo7; have hbc : Below w7.heap.size w7 ((w7.alloc (.cells #[.int .u32 (x : Int)] 22)).alloc (.cells #[.int .i64 2, .slice (some ⟨w7.heap.size, 0, none⟩) 1 1] 99)) := ((Below.refl _ w7).alloc (Nat.le_refl _) _).alloc (by simp) _; have HLc := hide (HL7.out.below hbc); have HU : Hid (U32s ((w7.alloc (.cells #[.int .u32 (x : Int)] 22)).alloc (.cells #[.int .i64 2, .slice (some ⟨w7.heap.size, 0, none⟩) 1 1] 99)) (some ⟨w7.heap.size, 0, none⟩) 1 1 [x]) := hide ((u32_one hx).below ((Below.refl _ _).alloc (Nat.le_refl _) _)); have HBk : Hid (Blk ((w7.alloc (.cells #[.int .u32 (x : Int)] 22)).alloc (.cells #[.int .i64 2, .slice (some ⟨w7.heap.size, 0, none⟩) 1 1] 99)) (w7.heap.size + 1) 99 #[.int .i64 2, .slice (some ⟨w7.heap.size, 0, none⟩) 1 1]) := hide (blk_new' _ _ (by simp)); have HBc := hide (HB7.out.trans (hbc.mono hs7)); have hsc : w7.heap.size + 2 = ((w7.alloc (.cells #[.int .u32 (x : Int)] 22)).alloc (.cells #[.int .i64 2, .slice (some ⟨w7.heap.size, 0, none⟩) 1 1] 99)).heap.size := (by simp)
      clear hbc; refine hide ?_
      go_wp2_with (at_builtin; refine wpList_append_any _ rfl (.tmp 50) (.tmp 54) 25 rfl w.heap.size 99 i0 _ 2 32 Tryz.underlying25 hi hz0 hz1 hz2 rfl (by decide) (.slice A7 (k + 1) c7) (k + 1) ys rfl HLc.out.1 _ (some ⟨w7.heap.size + 1, 0, none⟩) 1 1 [.int .i64 2, .slice (some ⟨w7.heap.size, 0, none⟩) 1 1] rfl (reads_blkN HBk.out HBk.out.lt rfl rfl) (by simp [Value.oneCell']) (by unfold maxLen; omega) (by omega) (by omega) ?_; intro v' w8 g2 g3 g4; obtain ⟨A8, c8, rfl, hlo8⟩ := LOw.push HLc.out (chunk1_fr rfl (sg_fr' HU.out (fun _ a ha => by cases ha; exact ⟨by simp only; omega, fun e => by have := HOb.out _ e.symm; simp at this⟩))) g2 g3 g4; have HL8 := hide hlo8; have HB8 := hide (HBc.out.grown g3 (by omega) (fun k hk => own_low_block HL7.out.1 k hk)); clear hlo8 g2 g3 g4)
      go_ret; exact ⟨A8, (k + 1) + 1, c8, _, rfl, by rw [HP.out]; exact HL8.out, HB8.out⟩
set_option maxRecDepth 100000 in
set_option maxHeartbeats 8000000 in
theorem refnormF_any (A : Option Addr) (n c : Nat) (l : List SG) (w : World) (h : LstAt 2 sgR w A n c l) (hn : numS l ≤ 10000) (hn2 : n ≤ 100000) :
    Calls Tryz.prog 177 #[.slice A n c] w (RefPF w.heap.size (normS l) w) := by
  have hln := h.1; have hnc := h.2.1; have hmx := h.2.2.1; unfold maxLen at hmx; obtain ⟨i0, hi, hz0, hz1, hz2⟩ := info_parts segInfo; have HLs := hide h; have HL0 := hide (low_litF w.heap.size w); have HB0 : Hid (Below w.heap.size w (w.alloc (.cells #[] 99))) := hide ((Below.refl _ w).alloc (Nat.le_refl _) _); clear h
  go_enter Tryz.func177, Tryz.ntmps177
  go_wp2
  go_loopw [3, 4] (fun vo iv wr => ∃ (q : Nat) (A1 : Option Addr) (n1 c1 : Nat) (xs : List Value), q ≤ n ∧ iv = .int .i64 (q : Nat) ∧ vo = .slice A1 n1 c1 ∧ LOw 2 99 sgR wr w.heap.size w.heap.size A1 n1 c1 (normS (l.take q)) xs ∧ Below w.heap.size w wr) (fun _ iv _ => n - (intOf iv).toNat)
  case atStart => exact ⟨0, some ⟨w.heap.size, 0, none⟩, 0, 0, [], Nat.zero_le _, rfl, rfl, HL0.out, HB0.out⟩
  case round =>
    obtain ⟨q, A1, n1, c1, xs, hq, rfl, rfl, hlo, hbel⟩ := hrel; obtain ⟨w1, rfl⟩ : ∃ w1, w1 = wr := ⟨wr, rfl⟩
    have HLo := hide hlo; have HBe := hide hbel; have hs1 := hbel.size; by_cases hlt : q < n
    · obtain ⟨g, o, b, B, m, d, r, rfl, hg, hx, hr, hc0, hc1⟩ := SGat HLs.out hlt; have k0 : w1.cell? ⟨g, o + q * 2, none⟩ = some (.int .i64 b) := (hbel.cell hg).trans hc0; have k1 : w1.cell? ⟨g, o + q * 2 + 1, none⟩ = some (.slice B m d) := (hbel.cell hg).trans hc1; have HStep := hide (normS_snoc l q _ hx); have hsn := numS_snoc l q _ hx; simp only at hsn; have htk1 := numS_take_le l (q + 1); have hnl := normS_len (l.take q); have hn1 := (hlo.lst (by decide)).1; have hrl : r.length = m := hr.1; have q1 : (q : Int) < (n : Int) := (by omega)
      have q0 : (0 : Int) ≤ (q : Int) := (by omega)
      have hwq : IntKind.i64.wrap ((q : Int) + 1) = (q : Int) + 1 := (by rw [IntKind.wrap_i64]; omega)
      have HUr : Hid (∀ W : World, Below w.heap.size w W → U32s W B m d r) := hide (fun W hb => hr.below hb); have HK0 := hide hc0; have HK1 := hide hc1; clear hlo hbel hx hr hc0 hc1; by_cases h2 : b = 2
      · subst h2; have HE : Hid (normS (l.take (q + 1)) = r.foldl putS (normS (l.take q))) := hide (HStep.out.trans (by unfold stepS; rw [if_pos rfl])); go_wp2
        go_loopw [3, 5] (fun vo kv wr => ∃ (j : Nat) (A2 : Option Addr) (n2 c2 : Nat) (xs2 : List Value), j ≤ m ∧ kv = .int .i64 (j : Nat) ∧ vo = .slice A2 n2 c2 ∧ LOw 2 99 sgR wr w.heap.size w.heap.size A2 n2 c2 ((r.take j).foldl putS (normS (l.take q))) xs2 ∧ Below w.heap.size w wr) (fun _ kv _ => m - (intOf kv).toNat)
        case atStart => exact ⟨0, A1, n1, c1, xs, Nat.zero_le _, rfl, rfl, HLo.out, HBe.out⟩
        case round =>
          obtain ⟨j, A2, n2, c2, xs2, hj, rfl, rfl, hlo2, hbel2⟩ := hrel; have HLo2 := hide hlo2; have HBe2 := hide hbel2; have hs2 := hbel2.size; have k0 : wr.cell? ⟨g, o + q * 2, none⟩ = some (.int .i64 2) := (hbel2.cell hg).trans HK0.out; have k1 : wr.cell? ⟨g, o + q * 2 + 1, none⟩ = some (.slice B m d) := (hbel2.cell hg).trans HK1.out; by_cases hjm : j < m
          · obtain ⟨g2, o2, y, hB, hg2, hy, hy2, hc2⟩ := (HUr.out wr hbel2).at_ hjm; subst hB; have HF := hide (foldS_snoc (normS (l.take q)) r j y hy); have hn2' := (hlo2.lst (by decide)).1; have hfl := putS_foldlen (r.take j) (normS (l.take q)); rw [List.length_take] at hfl; have HPu := hide (refputF_any w.heap.size A2 n2 c2 y _ wr (low_lstF hlo2) hs2 hy2 (by omega)); have j1 : (j : Int) < (m : Int) := (by omega)
            have j0 : (0 : Int) ≤ (j : Int) := (by omega)
            have hwj : IntKind.i64.wrap ((j : Int) + 1) = (j : Int) + 1 := (by rw [IntKind.wrap_i64]; omega)
            clear hlo2 hbel2 hy hn2' hfl
            go_wp2_with fail
            refine HPu.out.mono ?_; intro e w5 hmv; unfold RefPF at hmv; obtain ⟨A6, n6, c6, xs6, rfl, hl6, hb6⟩ := hmv; have HL6 := hide (hl6.less hs2 (Nat.le_refl _)); have HB6 := hide (HBe2.out.trans (hb6.mono hs2)); clear hl6 hb6 k0 k1 hc2; go_wp2
            go_roundw
            case rel => exact ⟨j + 1, A6, n6, c6, xs6, by omega, by go_num, rfl, by rw [HF.out]; exact HL6.out, HB6.out⟩
            case measure => simp [intOf]; omega
          · obtain rfl : j = m := (by omega)
            have HL6 : Hid (LOw 2 99 sgR wr w.heap.size w.heap.size A2 n2 c2 (normS (l.take (q + 1))) xs2) := hide (by rw [HE.out]; rw [show r.take j = r from List.take_of_length_le (by omega)] at hlo2; exact hlo2); clear hlo2 hbel2 hjm; go_wp2
            go_roundw
            case rel => exact ⟨q + 1, A2, n2, c2, xs2, by omega, by go_num, rfl, HL6.out, HBe2.out⟩
            case measure => simp [intOf]; omega
      · have e2 : (b == 2) = false := (by simpa using h2)
        by_cases h1 : b = 1 ∧ 0 < m
        · obtain ⟨rfl, hm0⟩ := h1; have hm1 : decide (0 < (m : Int)) = true := decide_eq_true (by omega); have hm2 : decide (0 < m) = true := decide_eq_true hm0; have hrne : r ≠ [] := (by intro e; rw [e] at hrl; simp at hrl; omega)
          have HE : Hid (normS (l.take (q + 1)) = normS (l.take q) ++ [⟨1, setOf r⟩]) := hide (HStep.out.trans (stepS_set _ _ hrne)); have HSe := hide (refSetB_any B m d r w1 (HUr.out w1 HBe.out) (by omega)); have hsl : (setOf r).length ≤ m := (by rw [← hrl]; exact setOf_len _)
          have HOb : Hid (∀ z, (Value.slice A1 n1 c1).ownBlock = some z → z < w1.heap.size) := hide (own_block_lt HLo.out.1); clear hrne h2
          go_wp2_with fail
          refine HSe.out.mono ?_; rintro e w5 ⟨g5, o5, n5, c5, rfl, hu5, hb5, hg5⟩; have hbx : Below w5.heap.size w5 (w5.alloc (.cells #[.int .i64 1, .slice (some ⟨g5, o5, none⟩) n5 c5] 99)) := (Below.refl _ w5).alloc (Nat.le_refl _) _; have HLc := hide ((HLo.out.below hb5).below hbx); have HU5 := hide (hu5.below hbx); have HBk : Hid (Blk (w5.alloc (.cells #[.int .i64 1, .slice (some ⟨g5, o5, none⟩) n5 c5] 99)) w5.heap.size 99 #[.int .i64 1, .slice (some ⟨g5, o5, none⟩) n5 c5]) := hide (Blk.new w5 _ _); have HBc := hide (HBe.out.trans ((hb5.mono hs1).trans (hbx.mono (Nat.le_trans hs1 hb5.size)))); have hs5 := hb5.size; have hsx : (w5.alloc (.cells #[.int .i64 1, .slice (some ⟨g5, o5, none⟩) n5 c5] 99)).heap.size = w5.heap.size + 1 := (by simp)
          clear hu5 hb5 hbx k0 k1
          go_wp2_with (at_builtin; refine wpList_append_any _ rfl (.tmp 54) (.tmp 62) 25 rfl w.heap.size 99 i0 _ 2 32 Tryz.underlying25 hi hz0 hz1 hz2 rfl (by decide) (.slice A1 n1 c1) n1 xs rfl HLc.out.1 _ (some ⟨w5.heap.size, 0, none⟩) 1 1 [.int .i64 1, .slice (some ⟨g5, o5, none⟩) n5 c5] rfl (reads_blkN HBk.out HBk.out.lt rfl rfl) (by simp [Value.oneCell']) (by unfold maxLen; omega) (by omega) (by omega) ?_; intro v' w8 g2 g3 g4; obtain ⟨A8, c8, rfl, hlo8⟩ := LOw.push HLc.out (chunk1_fr rfl (sg_fr' HU5.out (fun _ a ha => by cases ha; exact ⟨by simp only; omega, fun e => by have h9 : g5 < w1.heap.size := HOb.out _ e.symm; omega⟩))) g2 g3 g4; have HL8 := hide hlo8; have HB8 := hide (HBc.out.grown g3 (by omega) (fun k hk => own_low_block HLo.out.1 k hk)); clear hlo8 g2 g3 g4)
          go_roundw
          case rel => exact ⟨q + 1, A8, n1 + 1, c8, _, by omega, by go_num, rfl, by rw [HE.out]; exact HL8.out, HB8.out⟩
          case measure => simp [intOf]; omega
        · have HE : Hid (normS (l.take (q + 1)) = normS (l.take q)) := hide (HStep.out.trans (stepS_none _ _ h2 (by
            by_cases hb : b = 1
            · right
              exact List.eq_nil_of_length_eq_zero (by simp only; rw [hrl]; exact Nat.eq_zero_of_not_pos (fun hh => h1 ⟨hb, hh⟩))
            · exact .inl hb)))
          by_cases h3 : b = 1
          · subst h3; have hm1 : decide (0 < (m : Int)) = false := decide_eq_false (fun hh => h1 ⟨rfl, by omega⟩); have hm2 : decide (0 < m) = false := decide_eq_false (fun hh => h1 ⟨rfl, hh⟩); clear h1 h2; go_wp2
            go_roundw
            case rel => exact ⟨q + 1, A1, n1, c1, xs, by omega, by go_num, rfl, by rw [HE.out]; exact HLo.out, HBe.out⟩
            case measure => simp [intOf]; omega
          · have e1 : (b == 1) = false := (by simpa using h3)
            clear h1 h2 h3; go_wp2
            go_roundw
            case rel => exact ⟨q + 1, A1, n1, c1, xs, by omega, by go_num, rfl, by rw [HE.out]; exact HLo.out, HBe.out⟩
            case measure => simp [intOf]; omega
    · obtain rfl : q = n := (by omega)
      have HL6 : Hid (LOw 2 99 sgR w1 w.heap.size w.heap.size A1 n1 c1 (normS l) xs) := hide (by rw [show l.take q = l from List.take_of_length_le (by omega)] at hlo; exact hlo); clear hlo hbel hlt; go_wp2; go_ret; exact ⟨A1, n1, c1, xs, rfl, HL6.out, HBe.out⟩
theorem blkBelow2 (w : World) (a b : Obj) : Below w.heap.size w ((w.alloc a).alloc b) := ((Below.refl _ w).alloc (Nat.le_refl _) _).alloc (by simp) _
theorem refb_eq (h : Int) (k : Nat) (hk : K8 k) : (bits .and .i64 (h / ((2 ^ k : Nat) : Int)) 1 == 1) = attB h k := by
 have e := hb_shr h k hk; have e2 : ((2 ^ k : Nat) : Int) = 2 ^ k := (by simp)
 rw [e2, e]
 cases attB h k <;> rfl
set_option maxRecDepth 100000 in
set_option maxHeartbeats 4000000 in
theorem refAHas_any (k : Nat) (hk : K8 k) (h o : Int) (A : Option Addr) (n c : Nat) (hp md pf aa ai : Int) (B : Option Addr) (m d : Nat) (w : World) :
    Calls Tryz.prog 52 #[atV h o A n c hp md pf aa ai B m d, .int .i64 (k : Int)] w (GoodP (attB h k) w) := by
  have hne := refb_eq h k hk; have HB := hide (((Below.refl w.heap.size w).alloc (Nat.le_refl _) (.cells (atC h o A n c hp md pf aa ai B m d) 28))); have HK := hide (Blk.new w 28 (atC h o A n c hp md pf aa ai B m d)); have c0 := HK.out.cell 0
  rcases k8_cases hk with rfl | rfl | rfl | rfl | rfl | rfl | rfl | rfl <;> (
    simp only [Nat.reducePow, Int.reducePow, Int.cast_ofNat_Int] at hne
    go_enter Tryz.func52, Tryz.ntmps52
    go_wp2; go_ret; exact ⟨by simp [hne], HB.out⟩)
theorem sumB_lt : ∀ m : Nat, m < 512 → ∀ i, i ≤ 8 → sumB m i < 512 := by
 have h : ∀ m < 512, ∀ i ∈ [0, 1, 2, 3, 4, 5, 6, 7, 8], sumB m i < 512 := (by decide +kernel)
 intro m hm i hi; refine h m hm i ?_; have : i = 0 ∨ i = 1 ∨ i = 2 ∨ i = 3 ∨ i = 4 ∨ i = 5 ∨ i = 6 ∨ i = 7 ∨ i = 8 := (by omega)
 rcases this with rfl | rfl | rfl | rfl | rfl | rfl | rfl | rfl | rfl <;> decide
theorem fr_u32nil (w : World) (b : Nat) : FrB b none (fun w => U32s w none 0 0 []) w := fun _ _ => ⟨rfl, Nat.le_refl _, Nat.zero_le _, by simp, fun h => absurd h (by omega)⟩
theorem fr_setsB {S : World → Prop} {B H : Nat} : ∀ (vs : List Value) (i : Nat) {w : World}, FrB B none S w → H < B → FrB B none S (w.setCells H i vs)
 | [], _, _, h, _ => h
 | v :: vs, i, w, h, hH => fr_setsB vs (i + 1) (h.set (p := ⟨H, i, none⟩) hH v) hH
-- REFN
set_option maxRecDepth 100000 in
set_option maxHeartbeats 16000000 in
theorem refANorm_any (h o : Int) (A : Option Addr) (n c : Nat) (hp md pf aa ai : Int) (B : Option Addr) (m d : Nat) (pl : List SG) (cl : List Nat) (w : World) (hP : LstAt 2 sgR w A n c pl) (hC : U32s w B m d cl) (hn : numS pl ≤ 10000) (hn2 : n ≤ 100000) (hm : m ≤ 10000) :
    Calls Tryz.prog 74 #[atV h o A n c hp md pf aa ai B m d] w (AtP (normA ⟨h, o, pl, hp, md, pf, aa, ai, cl⟩) w) := by
  obtain ⟨w0, hw0⟩ : ∃ w0, ((w.alloc (.cells (atC h o A n c hp md pf aa ai B m d) 28)).alloc (.cells zeroC 28)).alloc (.cells zeroC 28) = w0 := ⟨_, rfl⟩
  have HS : Hid (NS w (atC h o A n c hp md pf aa ai B m d) zeroC w0) := hide (hw0 ▸ NS.start w _ _); have HPn := hide hn; have HPm := hide hn2; have HCm := hide hm; have HP0 := hide hP; have HC0 := hide hC; have HW0 := hide hw0; clear hw0 hP hC hn hn2 hm
  go_enter Tryz.func74, Tryz.ntmps74
  go_wp2; rw [HW0.out]
  go_loopw [4] (fun iv wr => ∃ i : Nat, i ≤ 8 ∧ iv = .int .i64 ((i + 1 : Nat) : Int) ∧ NS w (atC h o A n c hp md pf aa ai B m d) (atC (sumB (low9 h) i) 0 none 0 0 0 0 0 0 0 none 0 0) wr) (fun iv _ => 9 - (intOf iv).toNat)
  case atStart => exact ⟨0, by omega, rfl, HS.out⟩
  case round =>
    obtain ⟨i, hi, rfl, hns⟩ := hrel; obtain ⟨x1, rfl⟩ : ∃ x1, x1 = wr := ⟨wr, rfl⟩
    have HS := hide hns; clear hns; by_cases hlt : i < 8
    · obtain ⟨s, hs⟩ : ∃ s, sumB (low9 h) i = s := ⟨_, rfl⟩
      have hs9 : s < 512 := (by rw [← hs]; exact sumB_lt _ (low9_lt h) i (by omega))
      have HNx : Hid (sumB (low9 h) (i + 1) = s + if attB h (i + 1) = true then 2 ^ (i + 1) else 0) := hide (by
        show sumB (low9 h) i + (if attB (low9 h : Int) (i + 1) then 2 ^ (i + 1) else 0) = _; rw [hs, hb_low h (i + 1) ⟨by omega, by omega⟩])
      rw [hs] at HS; obtain ⟨q, hq⟩ : ∃ q, attB h (i + 1) = q := ⟨_, rfl⟩
      have HA := hide (refAHas_any (i + 1) ⟨by omega, by omega⟩ h o A n c hp md pf aa ai B m d x1); rw [hq] at HA HNx; obtain ⟨a0, a1, a2, a3, a4, a5, a6, a7, a8⟩ := blk9 HS.out.k0; have hi8 : i = 0 ∨ i = 1 ∨ i = 2 ∨ i = 3 ∨ i = 4 ∨ i = 5 ∨ i = 6 ∨ i = 7 := (by omega)
      clear hs hq hi hlt
      rcases hi8 with rfl | rfl | rfl | rfl | rfl | rfl | rfl | rfl <;> (
        simp only [Nat.reduceAdd, Nat.reducePow, Nat.zero_add] at HNx HA HS
        go_wp2_with fail
        refine HA.out.mono ?_; rintro e x2 ⟨rfl, hb⟩; have HS := hide (HS.out.call hb); clear hb a0 a1 a2 a3 a4 a5 a6 a7 a8; have z0 := HS.out.k2.cell 0; have zf := fun i => HS.out.k2.frozen i
        cases q
        · go_wp2
          go_roundw
          case rel =>
            refine ⟨_, ?_, rfl, ?_⟩
            · decide
            · rw [HNx.out]; exact HS.out
          case measure => simp [intOf]
        · go_wp2
          go_roundw
          case rel =>
            refine ⟨_, ?_, rfl, ?_⟩
            · decide
            · rw [HNx.out]; exact HS.out.set_ 0 _
          case measure => simp [intOf])
    · obtain rfl : i = 8 := (by omega)
      rw [sumB_eq _ (low9_lt h)] at HS; have HPl := hide (HP0.out.below sgMono HS.out.bel); have HCl := hide (HC0.out.below HS.out.bel); obtain ⟨a0, a1, a2, a3, a4, a5, a6, a7, a8⟩ := blk9 HS.out.k0; have HA := hide (refAHas_any 1 ⟨by decide, by decide⟩ h o A n c hp md pf aa ai B m d x1)
      go_wp2_with fail
      clear a0 a1 a2 a3 a4 a5 a6 a7 a8
      refine HA.out.mono ?_; rintro e w1 ⟨rfl, hb1⟩; have HS := hide (HS.out.call hb1); have HPl := hide (HPl.out.below sgMono hb1); have HCl := hide (HCl.out.below hb1); clear hb1 HA; obtain ⟨q1, hq1⟩ : ∃ q, attB h 1 = q := ⟨_, rfl⟩
      rw [hq1]; have HQ1 := hide hq1; clear hq1; obtain ⟨O1, hx⟩ : ∃ x, (if q1 = true then o else 0) = x := ⟨_, rfl⟩
      have HX1 := hide hx; clear hx
      go_upto_if 21 with fail
      go_cut [] (fun wc => NS w (atC h o A n c hp md pf aa ai B m d) (atC (nmH h) O1 none 0 0 0 0 0 0 0 none 0 0) wc)
      case first =>
        obtain ⟨x0, x1, x2, x3, x4, x5, x6, x7, x8⟩ := blk9 HS.out.k0; obtain ⟨y0, y1, y2, y3, y4, y5, y6, y7, y8⟩ := blk9 HS.out.k2; have yf := fun i => HS.out.k2.frozen i
        cases q1
        · go_wp2
          go_meet
          have hx := HX1.out; simp only [Bool.false_eq_true, if_false] at hx; subst hx; exact HS.out
        · go_wp2
          go_meet
          have hx := HX1.out; simp only [if_true] at hx; subst hx; exact HS.out.set_ 1 _
      case rest =>
        have hns := hcut; clear hcut; have HB := hide ((HS.out.k2.lt : w.heap.size + 1 + 1 + 1 ≤ _)); clear HS; have HS := hide hns; clear hns; have HPl := hide (HP0.out.below sgMono HS.out.bel); have HCl := hide (HC0.out.below HS.out.bel); obtain ⟨w2, hwc⟩ : ∃ x, x = wc := ⟨_, rfl⟩
        subst hwc; obtain ⟨x0, x1, x2, x3, x4, x5, x6, x7, x8⟩ := blk9 HS.out.k0; have HA := hide (refAHas_any 2 ⟨by decide, by decide⟩ h o A n c hp md pf aa ai B m d w2)
        go_wp2_with fail
        clear x0 x1 x2 x3 x4 x5 x6 x7 x8; refine HA.out.mono ?_; rintro e w3 ⟨rfl, hb1⟩; have HS := hide (HS.out.call hb1); have HPl := hide (HPl.out.below sgMono hb1); have HCl := hide (HCl.out.below hb1); clear hb1 HA; obtain ⟨q2, hq2⟩ : ∃ q, attB h 2 = q := ⟨_, rfl⟩
        rw [hq2]; have HQ2 := hide hq2; clear hq2; obtain ⟨PN, hx⟩ : ∃ x, (if q2 = true then normS pl else []) = x := ⟨_, rfl⟩
        have HX2 := hide hx; clear hx
        go_upto_if 26 with fail
        go_cut [] (fun wc => ∃ A2 n2 c2 xs2, NS w (atC h o A n c hp md pf aa ai B m d) (atC (nmH h) O1 A2 n2 c2 0 0 0 0 0 none 0 0) wc ∧ LOw 2 99 sgR wc (w.heap.size + 1 + 1 + 1) (w.heap.size + 1 + 1 + 1) A2 n2 c2 PN xs2)
        case first =>
          obtain ⟨x0, x1, x2, x3, x4, x5, x6, x7, x8⟩ := blk9 HS.out.k0; obtain ⟨y0, y1, y2, y3, y4, y5, y6, y7, y8⟩ := blk9 HS.out.k2; have yf := fun i => HS.out.k2.frozen i
          cases q2
          · go_wp2
            go_meet
            have hx := HX2.out; simp only [Bool.false_eq_true, if_false] at hx; subst hx; exact ⟨none, 0, 0, [], HS.out, LOw.nil⟩
          · have HC := hide (refnormF_any A n c pl w3 HPl.out HPn.out HPm.out)
            go_wp2_with fail
            refine HC.out.mono ?_; intro e wq hmv; unfold RefPF at hmv; obtain ⟨A2, n2, c2, xs2, rfl, hl, hb⟩ := hmv; have hs : w.heap.size + 1 + 1 + 1 ≤ w3.heap.size := HS.out.k2.lt; have HS := hide (HS.out.call hb); have HLo := hide (hl.less hs hs); clear hl hb x0 x1 x2 x3 x4 x5 x6 x7 x8 y0 y1 y2 y3 y4 y5 y6 y7 y8 yf; obtain ⟨y0, y1, y2, y3, y4, y5, y6, y7, y8⟩ := blk9 HS.out.k2; have yf := fun i => HS.out.k2.frozen i; go_wp2
            go_meet
            have hx := HX2.out; simp only [if_true] at hx; subst hx; exact ⟨A2, n2, c2, xs2, HS.out.set_ 2 _, HLo.out.set (by omega) (by omega) _⟩
        case rest =>
          obtain ⟨A2, n2, c2, xs2, hns, hlo⟩ := hcut; have HB := hide ((HS.out.k2.lt : w.heap.size + 1 + 1 + 1 ≤ _)); clear HS; have HS := hide hns; clear hns; have HLo := hide hlo; clear hlo; have HPl := hide (HP0.out.below sgMono HS.out.bel); have HCl := hide (HC0.out.below HS.out.bel); obtain ⟨w4, hwc⟩ : ∃ x, x = wc := ⟨_, rfl⟩
          subst hwc; obtain ⟨x0, x1, x2, x3, x4, x5, x6, x7, x8⟩ := blk9 HS.out.k0; have HA := hide (refAHas_any 3 ⟨by decide, by decide⟩ h o A n c hp md pf aa ai B m d w4)
          go_wp2_with fail
          clear x0 x1 x2 x3 x4 x5 x6 x7 x8; refine HA.out.mono ?_; rintro e w5 ⟨rfl, hb1⟩; have HS := hide (HS.out.call hb1); have HPl := hide (HPl.out.below sgMono hb1); have HCl := hide (HCl.out.below hb1); have HLo := hide (HLo.out.below hb1); clear hb1 HA; obtain ⟨q3, hq3⟩ : ∃ q, attB h 3 = q := ⟨_, rfl⟩
          rw [hq3]; have HQ3 := hide hq3; clear hq3; obtain ⟨H3, hx⟩ : ∃ x, (if q3 = true then hp else 0) = x := ⟨_, rfl⟩
          have HX3 := hide hx; clear hx
          go_upto_if 32 with fail
          go_cut [] (fun wc => NS w (atC h o A n c hp md pf aa ai B m d) (atC (nmH h) O1 A2 n2 c2 H3 0 0 0 0 none 0 0) wc ∧ LOw 2 99 sgR wc (w.heap.size + 1 + 1 + 1) (w.heap.size + 1 + 1 + 1) A2 n2 c2 PN xs2)
          case first =>
            obtain ⟨x0, x1, x2, x3, x4, x5, x6, x7, x8⟩ := blk9 HS.out.k0; obtain ⟨y0, y1, y2, y3, y4, y5, y6, y7, y8⟩ := blk9 HS.out.k2; have yf := fun i => HS.out.k2.frozen i
            cases q3
            · go_wp2
              go_meet
              have hx := HX3.out; simp only [Bool.false_eq_true, if_false] at hx; subst hx; exact ⟨HS.out, HLo.out⟩
            · go_wp2
              go_meet
              have hx := HX3.out; simp only [if_true] at hx; subst hx; exact ⟨HS.out.set_ 3 _, HLo.out.set (by omega) (by omega) _⟩
          case rest =>
            obtain ⟨hns, hlo⟩ := hcut; have HB := hide ((HS.out.k2.lt : w.heap.size + 1 + 1 + 1 ≤ _)); clear HS HLo; have HS := hide hns; clear hns; have HLo := hide hlo; clear hlo; have HPl := hide (HP0.out.below sgMono HS.out.bel); have HCl := hide (HC0.out.below HS.out.bel); obtain ⟨w6, hwc⟩ : ∃ x, x = wc := ⟨_, rfl⟩
            subst hwc; obtain ⟨x0, x1, x2, x3, x4, x5, x6, x7, x8⟩ := blk9 HS.out.k0; have HA := hide (refAHas_any 4 ⟨by decide, by decide⟩ h o A n c hp md pf aa ai B m d w6)
            go_wp2_with fail
            clear x0 x1 x2 x3 x4 x5 x6 x7 x8; refine HA.out.mono ?_; rintro e w7 ⟨rfl, hb1⟩; have HS := hide (HS.out.call hb1); have HPl := hide (HPl.out.below sgMono hb1); have HCl := hide (HCl.out.below hb1); have HLo := hide (HLo.out.below hb1); clear hb1 HA; obtain ⟨q4, hq4⟩ : ∃ q, attB h 4 = q := ⟨_, rfl⟩
            rw [hq4]; have HQ4 := hide hq4; clear hq4; obtain ⟨M4, hx⟩ : ∃ x, (if q4 = true then md else 0) = x := ⟨_, rfl⟩
            have HX4 := hide hx; clear hx
            go_upto_if 37 with fail
            go_cut [] (fun wc => NS w (atC h o A n c hp md pf aa ai B m d) (atC (nmH h) O1 A2 n2 c2 H3 M4 0 0 0 none 0 0) wc ∧ LOw 2 99 sgR wc (w.heap.size + 1 + 1 + 1) (w.heap.size + 1 + 1 + 1) A2 n2 c2 PN xs2)
            case first =>
              obtain ⟨x0, x1, x2, x3, x4, x5, x6, x7, x8⟩ := blk9 HS.out.k0; obtain ⟨y0, y1, y2, y3, y4, y5, y6, y7, y8⟩ := blk9 HS.out.k2; have yf := fun i => HS.out.k2.frozen i
              cases q4
              · go_wp2
                go_meet
                have hx := HX4.out; simp only [Bool.false_eq_true, if_false] at hx; subst hx; exact ⟨HS.out, HLo.out⟩
              · go_wp2
                go_meet
                have hx := HX4.out; simp only [if_true] at hx; subst hx; exact ⟨HS.out.set_ 4 _, HLo.out.set (by omega) (by omega) _⟩
            case rest =>
              obtain ⟨hns, hlo⟩ := hcut; have HB := hide ((HS.out.k2.lt : w.heap.size + 1 + 1 + 1 ≤ _)); clear HS HLo; have HS := hide hns; clear hns; have HLo := hide hlo; clear hlo; have HPl := hide (HP0.out.below sgMono HS.out.bel); have HCl := hide (HC0.out.below HS.out.bel); obtain ⟨w8, hwc⟩ : ∃ x, x = wc := ⟨_, rfl⟩
              subst hwc; obtain ⟨x0, x1, x2, x3, x4, x5, x6, x7, x8⟩ := blk9 HS.out.k0; have HA := hide (refAHas_any 5 ⟨by decide, by decide⟩ h o A n c hp md pf aa ai B m d w8)
              go_wp2_with fail
              clear x0 x1 x2 x3 x4 x5 x6 x7 x8; refine HA.out.mono ?_; rintro e w9 ⟨rfl, hb1⟩; have HS := hide (HS.out.call hb1); have HPl := hide (HPl.out.below sgMono hb1); have HCl := hide (HCl.out.below hb1); have HLo := hide (HLo.out.below hb1); clear hb1 HA; obtain ⟨q5, hq5⟩ : ∃ q, attB h 5 = q := ⟨_, rfl⟩
              rw [hq5]; have HQ5 := hide hq5; clear hq5; obtain ⟨P5, hx⟩ : ∃ x, (if q5 = true then pf else 0) = x := ⟨_, rfl⟩
              have HX5 := hide hx; clear hx
              go_upto_if 42 with fail
              go_cut [] (fun wc => NS w (atC h o A n c hp md pf aa ai B m d) (atC (nmH h) O1 A2 n2 c2 H3 M4 P5 0 0 none 0 0) wc ∧ LOw 2 99 sgR wc (w.heap.size + 1 + 1 + 1) (w.heap.size + 1 + 1 + 1) A2 n2 c2 PN xs2)
              case first =>
                obtain ⟨x0, x1, x2, x3, x4, x5, x6, x7, x8⟩ := blk9 HS.out.k0; obtain ⟨y0, y1, y2, y3, y4, y5, y6, y7, y8⟩ := blk9 HS.out.k2; have yf := fun i => HS.out.k2.frozen i
                cases q5
                · go_wp2
                  go_meet
                  have hx := HX5.out; simp only [Bool.false_eq_true, if_false] at hx; subst hx; exact ⟨HS.out, HLo.out⟩
                · go_wp2
                  go_meet
                  have hx := HX5.out; simp only [if_true] at hx; subst hx; exact ⟨HS.out.set_ 5 _, HLo.out.set (by omega) (by omega) _⟩
              case rest =>
                obtain ⟨hns, hlo⟩ := hcut; have HB := hide ((HS.out.k2.lt : w.heap.size + 1 + 1 + 1 ≤ _)); clear HS HLo; have HS := hide hns; clear hns; have HLo := hide hlo; clear hlo; have HPl := hide (HP0.out.below sgMono HS.out.bel); have HCl := hide (HC0.out.below HS.out.bel); obtain ⟨w10, hwc⟩ : ∃ x, x = wc := ⟨_, rfl⟩
                subst hwc; obtain ⟨x0, x1, x2, x3, x4, x5, x6, x7, x8⟩ := blk9 HS.out.k0; have HA := hide (refAHas_any 7 ⟨by decide, by decide⟩ h o A n c hp md pf aa ai B m d w10)
                go_wp2_with fail
                clear x0 x1 x2 x3 x4 x5 x6 x7 x8; refine HA.out.mono ?_; rintro e w11 ⟨rfl, hb1⟩; have HS := hide (HS.out.call hb1); have HPl := hide (HPl.out.below sgMono hb1); have HCl := hide (HCl.out.below hb1); have HLo := hide (HLo.out.below hb1); clear hb1 HA; obtain ⟨q7, hq7⟩ : ∃ q, attB h 7 = q := ⟨_, rfl⟩
                rw [hq7]; have HQ7 := hide hq7; clear hq7; obtain ⟨A7, hx⟩ : ∃ x, (if q7 = true then aa else 0) = x := ⟨_, rfl⟩
                have HXA7 := hide hx; clear hx; obtain ⟨I7, hx⟩ : ∃ x, (if q7 = true then ai else 0) = x := ⟨_, rfl⟩
                have HXI7 := hide hx; clear hx
                go_upto_if 47 with fail
                go_cut [] (fun wc => NS w (atC h o A n c hp md pf aa ai B m d) (atC (nmH h) O1 A2 n2 c2 H3 M4 P5 A7 I7 none 0 0) wc ∧ LOw 2 99 sgR wc (w.heap.size + 1 + 1 + 1) (w.heap.size + 1 + 1 + 1) A2 n2 c2 PN xs2)
                case first =>
                  obtain ⟨x0, x1, x2, x3, x4, x5, x6, x7, x8⟩ := blk9 HS.out.k0; obtain ⟨y0, y1, y2, y3, y4, y5, y6, y7, y8⟩ := blk9 HS.out.k2; have yf := fun i => HS.out.k2.frozen i
                  cases q7
                  · go_wp2
                    go_meet
                    have hx := HXA7.out; simp only [Bool.false_eq_true, if_false] at hx; subst hx; have hx := HXI7.out; simp only [Bool.false_eq_true, if_false] at hx; subst hx; exact ⟨HS.out, HLo.out⟩
                  · have HRg := hide ((HS.out.set_ 6 (.int .u32 aa)).set_ 7 (.int .u32 ai)); have HLg := hide (((HLo.out.set (H := w.heap.size + 1 + 1) (i := 6) (by omega) (by omega) (.int .u32 aa))).set (H := w.heap.size + 1 + 1) (i := 7) (by omega) (by omega) (.int .u32 ai)); go_wp2
                    go_region
                    go_wp2
                    go_meet
                    have hx := HXA7.out; simp only [if_true] at hx; subst hx; have hx := HXI7.out; simp only [if_true] at hx; subst hx; exact ⟨HRg.out.call below_drew, HLg.out.below below_drew⟩
                case rest =>
                  obtain ⟨hns, hlo⟩ := hcut; have HB := hide ((HS.out.k2.lt : w.heap.size + 1 + 1 + 1 ≤ _)); clear HS HLo; have HS := hide hns; clear hns; have HLo := hide hlo; clear hlo; have HPl := hide (HP0.out.below sgMono HS.out.bel); have HCl := hide (HC0.out.below HS.out.bel); obtain ⟨w12, hwc⟩ : ∃ x, x = wc := ⟨_, rfl⟩
                  subst hwc; obtain ⟨x0, x1, x2, x3, x4, x5, x6, x7, x8⟩ := blk9 HS.out.k0; have HA := hide (refAHas_any 8 ⟨by decide, by decide⟩ h o A n c hp md pf aa ai B m d w12)
                  go_wp2_with fail
                  clear x0 x1 x2 x3 x4 x5 x6 x7 x8; refine HA.out.mono ?_; rintro e w13 ⟨rfl, hb1⟩; have HS := hide (HS.out.call hb1); have HPl := hide (HPl.out.below sgMono hb1); have HCl := hide (HCl.out.below hb1); have HLo := hide (HLo.out.below hb1); clear hb1 HA; obtain ⟨q8, hq8⟩ : ∃ q, attB h 8 = q := ⟨_, rfl⟩
                  rw [hq8]; have HQ8 := hide hq8; clear hq8; obtain ⟨CN, hx⟩ : ∃ x, (if q8 = true then setOf cl else []) = x := ⟨_, rfl⟩
                  have HX8 := hide hx; clear hx
                  go_upto_if 55 with fail
                  go_cut [] (fun wc => ∃ B8 m8 d8, NS w (atC h o A n c hp md pf aa ai B m d) (atC (nmH h) O1 A2 n2 c2 H3 M4 P5 A7 I7 B8 m8 d8) wc ∧ LOw 2 99 sgR wc (w.heap.size + 1 + 1 + 1) (w.heap.size + 1 + 1 + 1) A2 n2 c2 PN xs2 ∧ FrB (w.heap.size + 1 + 1 + 1) none (fun w => U32s w B8 m8 d8 CN) wc)
                  case first =>
                    obtain ⟨x0, x1, x2, x3, x4, x5, x6, x7, x8⟩ := blk9 HS.out.k0; obtain ⟨y0, y1, y2, y3, y4, y5, y6, y7, y8⟩ := blk9 HS.out.k2; have yf := fun i => HS.out.k2.frozen i
                    cases q8
                    · go_wp2
                      go_meet
                      have hx := HX8.out; simp only [Bool.false_eq_true, if_false] at hx; subst hx; exact ⟨none, 0, 0, HS.out, HLo.out, fr_u32nil _ _⟩
                    · have HC := hide (refSetB_any B m d cl w13 HCl.out HCm.out)
                      go_wp2_with fail
                      refine HC.out.mono ?_; rintro e wq ⟨g8, o8, m8, d8, rfl, hu8, hb, hg8⟩; have hs : w.heap.size + 1 + 1 + 1 ≤ w13.heap.size := HS.out.k2.lt; have HS := hide (HS.out.call hb); have HLo := hide (HLo.out.below hb); have HOw := hide (u32s_fr (B := w.heap.size + 1 + 1 + 1) (ob := none) hu8 (fun _ a ha => by cases ha; exact ⟨Nat.le_trans hs hg8, fun e => by cases e⟩)); clear hu8 hb x0 x1 x2 x3 x4 x5 x6 x7 x8 y0 y1 y2 y3 y4 y5 y6 y7 y8 yf; obtain ⟨y0, y1, y2, y3, y4, y5, y6, y7, y8⟩ := blk9 HS.out.k2; have yf := fun i => HS.out.k2.frozen i; go_wp2
                      go_meet
                      have hx := HX8.out; simp only [if_true] at hx; subst hx; exact ⟨_, _, _, HS.out.set_ 8 _, HLo.out.set (by omega) (by omega) _, HOw.out.set (p := ⟨w.heap.size + 1 + 1, 8, none⟩) (show w.heap.size + 1 + 1 < w.heap.size + 1 + 1 + 1 by omega) _⟩
                  case rest =>
                    obtain ⟨B8, m8, d8, hns, hlo, how⟩ := hcut; have HOw := hide how; clear how; have HB := hide ((HS.out.k2.lt : w.heap.size + 1 + 1 + 1 ≤ _)); clear HS HLo; have HS := hide hns; clear hns; have HLo := hide hlo; clear hlo; have HPl := hide (HP0.out.below sgMono HS.out.bel); have HCl := hide (HC0.out.below HS.out.bel); obtain ⟨w14, hwc⟩ : ∃ x, x = wc := ⟨_, rfl⟩
                    subst hwc; obtain ⟨wF, hwF⟩ : ∃ x, w14.setCells (w.heap.size + 1) 0 [.int .i64 (nmH h), .int .i64 O1, .slice A2 n2 c2, .int .u32 H3, .int .u32 M4, .int .u32 P5, .int .u32 A7, .int .u32 I7, .slice B8 m8 d8] = x := ⟨_, rfl⟩
                    have HFw := hide hwF; have HFk := hide (hwF ▸ blk9_set HS.out.k1 : Blk wF (w.heap.size + 1) 28 (atC (nmH h) O1 A2 n2 c2 H3 M4 P5 A7 I7 B8 m8 d8)); have HFl := hide (hwF ▸ low_sets [.int .i64 (nmH h), .int .i64 O1, .slice A2 n2 c2, .int .u32 H3, .int .u32 M4, .int .u32 P5, .int .u32 A7, .int .u32 I7, .slice B8 m8 d8] 0 HLo.out (by omega) (by omega) : LOw 2 99 sgR wF (w.heap.size + 1 + 1 + 1) (w.heap.size + 1 + 1 + 1) A2 n2 c2 PN xs2); have HFo := hide (hwF ▸ fr_setsB [.int .i64 (nmH h), .int .i64 O1, .slice A2 n2 c2, .int .u32 H3, .int .u32 M4, .int .u32 P5, .int .u32 A7, .int .u32 I7, .slice B8 m8 d8] 0 HOw.out (by omega) : FrB (w.heap.size + 1 + 1 + 1) none (fun w => U32s w B8 m8 d8 CN) wF); have HFb := hide (hwF ▸ below_sets [.int .i64 (nmH h), .int .i64 O1, .slice A2 n2 c2, .int .u32 H3, .int .u32 M4, .int .u32 P5, .int .u32 A7, .int .u32 I7, .slice B8 m8 d8] 0 HS.out.bel (by omega) : Below w.heap.size w wF); clear hwF; have HEq : Hid (normA ⟨h, o, pl, hp, md, pf, aa, ai, cl⟩ = ⟨nmH h, O1, PN, H3, M4, P5, A7, I7, CN⟩) := hide (by unfold normA; simp only [HQ1.out, HQ2.out, HQ3.out, HQ4.out, HQ5.out, HQ7.out, HQ8.out, HX1.out, HX2.out, HX3.out, HX4.out, HX5.out, HXA7.out, HXI7.out, HX8.out]); obtain ⟨y0, y1, y2, y3, y4, y5, y6, y7, y8⟩ := blk9 HS.out.k2; obtain ⟨z0, z1, z2, z3, z4, z5, z6, z7, z8⟩ := blk9 HS.out.k1; have zf := fun i => HS.out.k1.frozen i; go_wp2; change bodyPost _ _ _ _ _ (w14.setCells (w.heap.size + 1) 0 [.int .i64 (nmH h), .int .i64 O1, .slice A2 n2 c2, .int .u32 H3, .int .u32 M4, .int .u32 P5, .int .u32 A7, .int .u32 I7, .slice B8 m8 d8]); rw [HFw.out, HEq.out]; clear z0 z1 z2 z3 z4 z5 z6 z7 z8 zf y0 y1 y2 y3 y4 y5 y6 y7 y8; obtain ⟨z0, z1, z2, z3, z4, z5, z6, z7, z8⟩ := blk9 HFk.out; have zf := fun i => HFk.out.frozen i; exact bodyPost_ret (v := atV (nmH h) O1 A2 n2 c2 H3 M4 P5 A7 I7 B8 m8 d8) (by simp [results, Tryz.results74, go_sem, z0, z1, z2, z3, z4, z5, z6, z7, z8, zf]) rfl ⟨_, rfl, ⟨A2, n2, c2, xs2, B8, m8, d8, rfl, HFl.out.less (by omega) (by omega), HFo.out.less (by omega)⟩, HFb.out⟩
theorem blk_setsM {g : Nat} {t : TypeId} (suf : List Value) : ∀ (vs pre old : List Value) {w : World}, Blk w g t (pre ++ (old ++ suf)).toArray → old.length = vs.length → Blk (w.setCells g pre.length vs) g t (pre ++ (vs ++ suf)).toArray
 | [], pre, old, w, h, hl => by
  obtain rfl := List.length_eq_zero_iff.1 hl; exact h
 | v :: vs, pre, [], w, h, hl => by simp at hl
 | v :: vs, pre, x :: old, w, h, hl => by
  have h1 := h.set_ pre.length v; rw [List.setIfInBounds_toArray, List.set_append_right _ _ (Nat.le_refl _), Nat.sub_self, List.cons_append, List.set_cons_zero] at h1; have h2 : Blk (w.setCell ⟨g, pre.length, none⟩ v) g t ((pre ++ [v]) ++ (old ++ suf)).toArray := (by rw [List.append_assoc]; exact h1)
  have h3 := blk_setsM suf vs (pre ++ [v]) old h2 (by simpa using hl); rw [List.length_append, List.append_assoc] at h3; exact h3
theorem lenA {l : List Value} (h0 : VOk 9 l) : ∃ v0 v1 v2 v3 v4 v5 v6 v7 v8, l = [v0, v1, v2, v3, v4, v5, v6, v7, v8] := by
 have h := h0.1; clear h0; obtain _ | ⟨v0, l⟩ := l
 ·simp at h
 obtain _ | ⟨v1, l⟩ := l
 ·simp at h
 obtain _ | ⟨v2, l⟩ := l
 ·simp at h
 obtain _ | ⟨v3, l⟩ := l
 ·simp at h
 obtain _ | ⟨v4, l⟩ := l
 ·simp at h
 obtain _ | ⟨v5, l⟩ := l
 ·simp at h
 obtain _ | ⟨v6, l⟩ := l
 ·simp at h
 obtain _ | ⟨v7, l⟩ := l
 ·simp at h
 obtain _ | ⟨v8, l⟩ := l
 ·simp at h
 obtain _ | ⟨x, l⟩ := l
 ·exact ⟨_, _, _, _, _, _, _, _, _, rfl⟩
 ·simp at h
set_option maxRecDepth 100000 in
theorem countA_any {α : Type} {F : Nat → Prop} {R : World → List Value → α → Prop} (t : Tr α) (w : World) (h : TrW 9 319 F R w t) : Calls Tryz.prog 289 #[trPtr t] w fun e w' => e = .returned (.int .i64 (trCnt t : Int)) ∧ w' = w := by
 cases t with
 | nil =>
  show Calls Tryz.prog 289 #[.pointer none] w _
  go_enter Tryz.func289, Tryz.ntmps289
  go_wp2; go_ret; exact ⟨rfl, rfl⟩
 | nd b a n v l r =>
  obtain ⟨⟨vs, hv, hk, _⟩, _, _⟩ := h; obtain ⟨v0, v1, v2, v3, v4, v5, v6, v7, v8, rfl⟩ := lenA hv; show Calls Tryz.prog 289 #[.pointer (some ⟨b, 0, none⟩)] w _; have z : w.cell? ⟨b, 12, none⟩ = some (.int .i64 ((trCnt l + trCnt r + (if v.isSome then 1 else 0) : Nat) : Int)) := hk.cell 12; have HR : Hid (trCnt (.nd b a n v l r) = trCnt l + trCnt r + (if v.isSome then 1 else 0)) := hide rfl; obtain ⟨c, hc⟩ : ∃ c, trCnt l + trCnt r + (if v.isSome then 1 else 0) = c := ⟨_, rfl⟩
  rw [hc] at z HR; clear hk hc
  go_enter Tryz.func289, Tryz.ntmps289
  go_wp2; go_ret; exact ⟨by rw [HR.out]; rfl, rfl⟩
set_option maxRecDepth 100000 in
theorem side_any (a n b m : Nat) (hb : b < 4294967296) (hn : n ≤ 31) (w : World) : Calls Tryz.prog 257 #[.agg #[.int .u32 (a : Int), .int .i64 (n : Int)], .agg #[.int .u32 (b : Int), .int .i64 (m : Int)]] w fun e w' => e = .returned (.int .i64 ((bitN b n : Nat) : Int)) ∧ Below w.heap.size w w' := by
 have HB := hide (blkBelow2 w (.cells #[.int .u32 (a : Int), .int .i64 (n : Int)] 24) (.cells #[.int .u32 (b : Int), .int .i64 (m : Int)] 24)); obtain ⟨k0, k1, k2, k3⟩ := boxes w (.int .u32 (a : Int)) (.int .i64 (n : Int)) (.int .u32 (b : Int)) (.int .i64 (m : Int)) 24 24; have HBi := hide (fun W => bit_in b n hb hn W); clear k0 k1 k2 k3
 go_enter Tryz.func257, Tryz.ntmps257
 go_wp2_with fail
 refine (HBi.out _).mono ?_; rintro e w1 ⟨rfl, rfl⟩; go_wp2; go_ret; exact ⟨rfl, HB.out⟩
theorem covB_pg {a n b m : Nat} (ha : PG a n) (hb : PG b m) : covB a (n : Int) b (m : Int) = decide (CvN a n b m) := by
 have h1 := ha.2.1; have h2 := hb.2.1; have h3 := ha.2.2; have h4 := hb.2.2; unfold covB hasB goodB; simp only [Int.toNat_natCast, h3, h4, BEq.rfl, Bool.and_true]; rw [Bool.eq_iff_iff]; simp only [Bool.and_eq_true, decide_eq_true_eq, beq_iff_eq]; unfold CvN; constructor
 ·rintro ⟨⟨h5, h6⟩, h7, h8⟩; exact ⟨by omega, h8⟩
 ·rintro ⟨h5, h6⟩; exact ⟨⟨⟨by omega, by omega⟩, by omega⟩, ⟨by omega, by omega⟩, h6⟩
theorem cov_pg {a n b m : Nat} (ha : PG a n) (hb : PG b m) (w : World) : Calls Tryz.prog 256 #[.agg #[.int .u32 (a : Int), .int .i64 (n : Int)], .agg #[.int .u32 (b : Int), .int .i64 (m : Int)]] w (GoodP (decide (CvN a n b m)) w) := by
 rw [← covB_pg ha hb]; exact Covers_any a n b m ha.1 hb.1 (by omega) (by have := ha.2.1; omega) (by omega) (by have := hb.2.1; omega) w
theorem good_pg {a n : Nat} (h : PG a n) : goodB a (n : Int) = true := by
 have h1 := h.2.1; have h2 := h.2.2; unfold goodB; simp only [Int.toNat_natCast, h2, BEq.rfl, Bool.and_true, Bool.and_eq_true, decide_eq_true_eq]; omega
theorem blkBelow3q (w : World) (o1 o2 o3 : Obj) : Below w.heap.size w (((w.alloc o1).alloc o2).alloc o3) := (blkBelow2 w o1 o2).alloc (by simp; omega) _
theorem trPtr_ptr {α : Type} (t : Tr α) : ∃ q, trPtr t = .pointer q := by cases t <;> exact ⟨_, rfl⟩
theorem pg_good {a : Nat} {n : Int} (ha : a < 4294967296) (h : goodB a n = true) : PG a n.toNat ∧ n = (n.toNat : Int) := by
 unfold goodB at h; simp only [Bool.and_eq_true, decide_eq_true_eq, beq_iff_eq] at h; obtain ⟨⟨h1, h2⟩, h3⟩ := h; exact ⟨⟨ha, by omega, h3⟩, by omega⟩
set_option maxRecDepth 100000 in
set_option maxHeartbeats 4000000 in
theorem noteA_any {α : Type} {F : Nat → Prop} {R : World → List Value → α → Prop} (b a n : Nat) (vs : List Value) (hvs : VOk 9 vs) (q : Bool) (c0 : Nat) (l r : Tr α) (w : World) (hk : Blk w b 319 (ndC a n vs q c0 (trPtr l) (trPtr r)))
  (hl : TrW 9 319 F R w l) (hr : TrW 9 319 F R w r) (hc : trCnt l + trCnt r < 1000000000) :
  Calls Tryz.prog 359 #[.pointer (some ⟨b, 0, none⟩)] w fun e w' => e = .returned (.pointer (some ⟨b, 0, none⟩)) ∧ Blk w' b 319 (ndC a n vs q (trCnt l + trCnt r + (if q then 1 else 0)) (trPtr l) (trPtr r)) ∧ ChgS (fun k => k = b) w w' := by
 obtain ⟨v0, v1, v2, v3, v4, v5, v6, v7, v8, rfl⟩ := lenA hvs; have HK := hide hk; have HL := hide hl; have HRt := hide hr; obtain ⟨s, hs⟩ : ∃ s, trCnt l + trCnt r = s := ⟨_, rfl⟩
 have HWr : Hid (IntKind.i64.wrap ((trCnt l : Int) + (trCnt r : Int)) = (s : Int)) := hide (by rw [IntKind.wrap_i64]; omega); rw [hs] at hc ⊢; have HC := hide hc; clear hk hl hr hc hvs hs
 go_enter Tryz.func359, Tryz.ntmps359
 go_upto_region 1 with fail
 have Hmn := hide (show AllMono [(isV (ptv b 0)), (isV (ptv b 0)), (isV (ptv b 0)), (isV (ptv b 13)), (isV (ptv b 13)), (isV (trPtr l)), (isV (.int .i64 (trCnt l : Int))), (isV (ptv b 0)), (isV (ptv b 0)), (isV (ptv b 13)), (isV (ptv b 14)), (isV (trPtr r)), (isV (.int .i64 (trCnt r : Int))), (isV (.int .i64 (s : Int))), (isV (ptv b 0)), (isV (ptv b 12))] from by repeat (first | exact trivial | refine ⟨fun _ _ _ _ h => h, ?_⟩)); refine wp_region_relT 16 _ (by kernel_rfl) (by kernel_rfl) (by kernel_rfl) (by kernel_rfl) (by kernel_rfl) (relMono _ Hmn.out) ⟨?_, ?_, ?_, ?_, ?_, ?_, ?_, ?_, ?_, ?_, ?_, ?_, ?_, ?_, ?_, ?_, trivial⟩ ?_
 ·exact relStep_plain rfl fun Ac w5 hp => pureM (ptv b 0) 0 (hp.out 0 (by rfl))
 ·exact relStep_plain rfl fun Ac w5 hp => pureM (ptv b 0) 0 (hp.out 0 (by rfl))
 ·exact relStep_plain rfl fun Ac w5 hp => pureM (ptv b 0) 4 (hp.d 1)
 ·exact relStep_plain rfl fun Ac w5 hp => pure1 (ptv b 13) 5 (ptv b 0) (hp.d 2)
 ·exact relStep_plain rfl fun Ac w5 hp => pureM (ptv b 13) 6 (hp.d 3)
 ·refine relStep_plain rfl ?_; intro Ac w5 hp; have hb := hp.bel; have hk5 := HK.out.below hb HK.out.lt; have z0 : w5.cell? ⟨b, 13, none⟩ = some (trPtr l) := hk5.cell 13; exact pure1 (trPtr l) 7 (ptv b 13) (hp.d 4)
 ·refine relStep_plain rfl ?_; intro Ac w5 hp; have a8 : Ac.eval (.tmp 8) = trPtr l := hp.d 5; obtain ⟨ρ, hρ, hc, hf, hgl⟩ := evalX Ac; rw [hρ] at a8; refine relCall hρ 289 #[trPtr l] (by simp [go_sem, ↓IntWalk.iteOmega, *]) ?_; refine (countA_any l w5 (HL.out.chg (S := fun _ => False) (chg_below hp.bel) (by simp) (by simp))).mono ?_; rintro e w6 ⟨rfl, rfl⟩; exact ⟨_, rfl, rfl, Below.refl _ _⟩
 ·exact relStep_plain rfl fun Ac w5 hp => pureM (ptv b 0) 0 (hp.out 0 (by rfl))
 ·exact relStep_plain rfl fun Ac w5 hp => pureM (ptv b 0) 10 (hp.d 7)
 ·exact relStep_plain rfl fun Ac w5 hp => pure1 (ptv b 13) 11 (ptv b 0) (hp.d 8)
 ·exact relStep_plain rfl fun Ac w5 hp => pure1 (ptv b 14) 12 (ptv b 13) (hp.d 9)
 ·refine relStep_plain rfl ?_; intro Ac w5 hp; have hb := hp.bel; have hk5 := HK.out.below hb HK.out.lt; have z1 : w5.cell? ⟨b, 14, none⟩ = some (trPtr r) := hk5.cell 14; exact pure1 (trPtr r) 13 (ptv b 14) (hp.d 10)
 ·refine relStep_plain rfl ?_; intro Ac w5 hp; have a14 : Ac.eval (.tmp 14) = trPtr r := hp.d 11; obtain ⟨ρ, hρ, hc, hf, hgl⟩ := evalX Ac; rw [hρ] at a14; refine relCall hρ 289 #[trPtr r] (by simp [go_sem, ↓IntWalk.iteOmega, *]) ?_; refine (countA_any r w5 (HRt.out.chg (S := fun _ => False) (chg_below hp.bel) (by simp) (by simp))).mono ?_; rintro e w6 ⟨rfl, rfl⟩; exact ⟨_, rfl, rfl, Below.refl _ _⟩
 ·refine relStep_plain rfl ?_; intro Ac w5 hp; have hwr := HWr.out; exact pure2 (.int .i64 (s : Int)) 9 (.int .i64 (trCnt l : Int)) (hp.d 6) 15 (.int .i64 (trCnt r : Int)) (hp.d 12)
 ·exact relStep_plain rfl fun Ac w5 hp => pureM (ptv b 0) 3 (hp.d 0)
 ·exact relStep_plain rfl fun Ac w5 hp => pure1 (ptv b 12) 17 (ptv b 0) (hp.d 14)
 intro u w7 hb7 hall; have e16 : u 13 = .int .i64 (s : Int) := relAll_at hall (i := 13) (by decide +kernel); have e18 : u 15 = .pointer (some ⟨b, 12, none⟩) := relAll_at hall (i := 15) (by decide +kernel); clear hall; simp only [List.drop_succ_cons, List.drop_zero, List.take_succ_cons, List.take_zero, putAll, Act.put, List.setIfInBounds_toArray, List.set_cons_zero, List.set_cons_succ, Nat.zero_add, Nat.reduceAdd, e16, e18]; have HB7 := hide hb7; have HK7 := hide (HK.out.below hb7 HK.out.lt); clear hb7; have zc : w7.cell? ⟨b, 12, none⟩ = some (.int .i64 (c0 : Int)) := HK7.out.cell 12; have zp : w7.cell? ⟨b, 11, none⟩ = some (.bool q) := HK7.out.cell 11; have zf := fun i => HK7.out.frozen i; have hw1 : IntKind.i64.wrap ((s : Int) + 1) = ((s + 1 : Nat) : Int) := (by have := HC.out; rw [IntKind.wrap_i64]; omega)
 have hC1 : ChgS (fun k => k = b) w (w7.setCell ⟨b, 12, none⟩ (.int .i64 (s : Int))) := chg_trans (chg_below HB7.out) (chg_set (S := fun k => k = b) (p := ⟨b, 12, none⟩) rfl _) (fun k h => .inl h); have hC2 : ChgS (fun k => k = b) w ((w7.setCell ⟨b, 12, none⟩ (.int .i64 (s : Int))).setCell ⟨b, 12, none⟩ (.int .i64 ((s + 1 : Nat) : Int))) := chg_trans hC1 (chg_set (S := fun k => k = b) (p := ⟨b, 12, none⟩) rfl _) (fun k h => .inl h); have hK1 : Blk (w7.setCell ⟨b, 12, none⟩ (.int .i64 (s : Int))) b 319 (ndC a n [v0, v1, v2, v3, v4, v5, v6, v7, v8] q s (trPtr l) (trPtr r)) := HK7.out.set_ 12 _; have hK2 : Blk ((w7.setCell ⟨b, 12, none⟩ (.int .i64 (s : Int))).setCell ⟨b, 12, none⟩ (.int .i64 ((s + 1 : Nat) : Int))) b 319 (ndC a n [v0, v1, v2, v3, v4, v5, v6, v7, v8] q (s + 1) (trPtr l) (trPtr r)) := hK1.set_ 12 _; have HC1 := hide hC1; have HC2 := hide hC2; have HK1 := hide hK1; have HK2 := hide hK2; clear hC1 hC2 hK1 hK2
 cases q
 ·go_wp2; go_ret; exact ⟨rfl, HK1.out, HC1.out⟩
 ·go_wp2; go_ret; exact ⟨rfl, HK2.out, HC2.out⟩
def trFind {α : Type} (c k : Nat) : Tr α → Tr α
  | .nil => .nil
  | .nd b a n v l r => if CvN a n c k then (if a = c ∧ n = k then .nd b a n v l r else if bitN c n = 0 then trFind c k l else trFind c k r) else .nil
def trDown (a : Act) (w : World) : Nat := match a.tmps.getD 5 undef with
  | .pointer (some p) => 33 - cellNat w ⟨p.block, 1, none⟩
  | _ => 0
def trRank {α : Type} : Tr α → Nat
  | .nil => 0
  | .nd _ _ n _ _ _ => 33 - n
theorem trRank_in {α : Type} {a n i : Nat} {t : Tr α} (h : trIn a n i t) (hn : n ≤ 32) : trRank t < 33 - n := by
 cases t with
 | nil => show 0 < 33 - n; omega
 | nd b p m v l r => have := h.1; show 33 - m < 33 - n; omega
theorem wp_scope_mid {P : Program} {Q : Exit → Act → World → Prop} {a : Act} {w : World} {c X : Code} (l : Nat) (J : Act → World → Prop) (μ : Act → World → Nat) (hf : findLabel c l = some (.seq .skip X))
  (first : (∀ a w, J a w → X.wp P (Exit.jump l J Q) a w) → c.wp P (Exit.jump l J Q) a w) (pass : ∀ a w, J a w → X.wp P (Exit.jump l (fun a' w' => J a' w' ∧ μ a' w' < μ a w) Q) a w) : (Code.scope c).wp P Q a w :=
 wp_scope_jumps l J μ hf (first fun a w h => wp_mono (pass a w h) fun e a w h => by cases e <;> first | exact h | exact ⟨h.1, h.2.1⟩) (fun a w h => wp_seq (wp_skip (pass a w h)))
theorem blkBelow1 (w : World) (o1 : Obj) : Below w.heap.size w (w.alloc o1) := (Below.refl _ w).alloc (Nat.le_refl _) _
theorem trDownA {α : Type} {F : Nat → Prop} {R : World → List Value → α → Prop} {w : World} {s : Tr α} {a : Act} (h : TrW 9 319 F R w s) (e : a.tmps.getD 5 undef = trPtr s) : trDown a w = trRank s := by
 cases s with
 | nil => unfold trDown; rw [e]; rfl
 | nd b c n v l r =>
  obtain ⟨⟨vs, hv, hk, _⟩, _, _⟩ := h; unfold trDown; rw [e]; have hz : w.cell? ⟨b, 1, none⟩ = some (.int .i64 (n : Int)) := hk.cell 1; show 33 - cellNat w ⟨b, 1, none⟩ = 33 - n; rw [cellNat_of hz]
def FindJA {α : Type} (F : Nat → Prop) (R : World → List Value → α → Prop) (g c k : Nat) (t : Tr α) (w : World) (a' : Act) (w' : World) : Prop := ∃ (s : Tr α) (xb : Nat) (l : List Value), a' = ⟨(.pointer (some ⟨g, 0, none⟩) :: .agg #[.int .u32 (c : Int), .int .i64 (k : Int)] :: undef :: .pointer (some ⟨xb, 0, none⟩) :: .pointer none :: trPtr s :: l).toArray, []⟩ ∧ l.length = 40 ∧
  TrW 9 319 F R w' s ∧ trWf s ∧ trFind c k s = trFind c k t ∧ Blk w' xb 24 #[.int .u32 (c : Int), .int .i64 (k : Int)] ∧ Below w.heap.size w w'
set_option maxRecDepth 100000 in
set_option maxHeartbeats 8000000 in
theorem findA_any {α : Type} {F : Nat → Prop} {R : World → List Value → α → Prop} (g c k : Nat) (t : Tr α) (w : World) (hc : PG c k) (hg : Blk w g 215 #[trPtr t]) (h : TrW 9 319 F R w t) (hw : trWf t) :
  Calls Tryz.prog 278 #[.pointer (some ⟨g, 0, none⟩), .agg #[.int .u32 (c : Int), .int .i64 (k : Int)]] w fun e w' => e = .returned (trPtr (trFind c k t)) ∧ Below w.heap.size w w' := by
 have HGd := hide (Good_any c (k : Int) hc.1 (by omega) (by have := hc.2.1; omega)); rw [good_pg hc] at HGd; unfold pfx at HGd; obtain ⟨w0, hw0⟩ : ∃ w0, w.alloc (.cells #[.int .u32 (c : Int), .int .i64 (k : Int)] 24) = w0 := ⟨_, rfl⟩
 have hb0 : Below w.heap.size w w0 := hw0 ▸ blkBelow1 w _; have HX0 : Hid (Blk w0 w.heap.size 24 #[.int .u32 (c : Int), .int .i64 (k : Int)]) := hide (hw0 ▸ Blk.new w _ _); have HB0 := hide hb0; have HG := hide hg; have HT := hide h; have HWf := hide hw; have HPc := hide hc; have HW0 := hide hw0; clear hw0 hb0 hg h hw hc
 go_enter Tryz.func278, Tryz.ntmps278
 have x0 : w0.cell? ⟨w.heap.size, 0, none⟩ = some (.int .u32 (c : Int)) := HX0.out.cell 0; have x1 : w0.cell? ⟨w.heap.size, 1, none⟩ = some (.int .i64 (k : Int)) := HX0.out.cell 1; go_wp2; rw [HW0.out]; refine wp_scope_mid 0 (FindJA F R g c k t w) trDown rfl ?_ ?_
 ·intro HPass
  go_wp2_with fail
  refine (HGd.out _).mono ?_; rintro e w1 ⟨rfl, hb1⟩; have HB1 := hide (btr HB0.out hb1); have HX1 := hide (HX0.out.below hb1 HX0.out.lt); have z : w1.cell? ⟨g, 0, none⟩ = some (trPtr t) := (HG.out.below HB1.out HG.out.lt).cell 0; clear hb1 x0 x1; go_wp2
  go_step3
  rename_i hK; refine hK _ _ (HPass _ _ ?_); refine ⟨t, w.heap.size, _, rfl, rfl, ?_⟩; exact ⟨HT.out.chg (S := fun _ => False) (chg_below HB1.out) (by simp) (by simp), HWf.out, rfl, HX1.out, HB1.out⟩
 rintro a1 w2 ⟨s, xb, l0, rfl, hl0, hs, hsw, hsf, hxb, hb2⟩; obtain ⟨u, rfl⟩ := list_fn hl0; clear hl0 x0 x1; rw [show (List.range 40).map u = [u 0, u 1, u 2, u 3, u 4, u 5, u 6, u 7, u 8, u 9, u 10, u 11, u 12, u 13, u 14, u 15, u 16, u 17, u 18, u 19, u 20, u 21, u 22, u 23, u 24, u 25, u 26, u 27, u 28, u 29, u 30, u 31, u 32, u 33, u 34, u 35, u 36, u 37, u 38, u 39] from rfl]; have HX := hide hxb; have HB2 := hide hb2; have HSf := hide hsf; clear hxb hb2 hsf HX0 HG HT HWf HGd
 cases s with
 | nil =>
  have e0 : trPtr (.nil : Tr α) = .pointer none := rfl; rw [e0]; have HR : Hid (trPtr (trFind c k t) = .pointer none) := hide (by rw [← HSf.out]; rfl); clear e0 hs hsw
  go_upto_region 4 with fail
  go_quiet (fail)
  go_wp2; simp only [Exit.jump]; go_ret; exact ⟨by rw [HR.out]; rfl, below_drewN HB2.out _⟩
 | nd b a n v l r =>
  have e0 : trPtr (.nd b a n v l r) = .pointer (some ⟨b, 0, none⟩) := rfl; rw [e0]; clear e0; obtain ⟨⟨vs, hv, hk, hval⟩, hl, hr⟩ := hs; obtain ⟨v0, v1, v2, v3, v4, v5, v6, v7, v8, rfl⟩ := lenA hv; obtain ⟨hga, hil, hir, hwl, hwr⟩ := hsw; have HN := hide hk; have HN0 := hide hk; have HL := hide hl; have HRr := hide hr; have HGa := hide hga; have HIl := hide hil; have HIr := hide hir; have HWl := hide hwl; have HWr := hide hwr; have HCv := hide (fun W => cov_pg hga HPc.out W); clear hk hl hr hga hil hir hwl hwr hv hval; by_cases hcv : CvN a n c k
  ·rw [decide_eq_true hcv] at HCv; have HCvP := hide hcv; clear hcv
   go_upto_region 4 with fail
   have Hmn := hide (show AllMono [(isV (ptv b 0)), (isV (.bool false)), (isV (.bool false)), (isV (ptv b 0)), (isV (ptv b 0)), (isV (ptv b 0)), (isV (.agg #[.int .u32 (a : Int), .int .i64 (n : Int)])), (isV (.agg #[.int .u32 (c : Int), .int .i64 (k : Int)])), (isV (.bool true)), (isV (.bool false)), (isV (.bool false))] from by repeat (first | exact trivial | refine ⟨fun _ _ _ _ h => h, ?_⟩)); refine wp_region_rel _ (by kernel_rfl) (by kernel_rfl) (relMono _ Hmn.out) ⟨?_, ?_, ?_, ?_, ?_, ?_, ?_, ?_, ?_, ?_, ?_, trivial⟩ ?_
   ·exact relStep_plain rfl fun Ac w5 hp => pureM (ptv b 0) 5 (hp.out 5 (by rfl))
   ·exact relStep_plain rfl fun Ac w5 hp => pure1 (.bool false) 17 (ptv b 0) (hp.d 0)
   ·exact relStep_plain rfl fun Ac w5 hp => pureM (.bool false) 18 (hp.d 1)
   ·exact rsG 2 false fun Ac w5 hp => pureM (ptv b 0) 5 (hp.out 5 (by rfl))
   ·exact rsG 2 false fun Ac w5 hp => pureM (ptv b 0) 20 (hp.d 3)
   ·exact rsG 2 false fun Ac w5 hp => pureM (ptv b 0) 21 (hp.d 4)
   ·refine rsG 2 false ?_; intro Ac w5 hp; have hb := hp.bel; have hk5 := HN.out.below hb HN.out.lt; have y0 : w5.cell? ⟨b, 0, none⟩ = some (.int .u32 (a : Int)) := hk5.cell 0; have y1 : w5.cell? ⟨b, 1, none⟩ = some (.int .i64 (n : Int)) := hk5.cell 1; exact pure1 (.agg #[.int .u32 (a : Int), .int .i64 (n : Int)]) 22 (ptv b 0) (hp.d 5)
   ·refine rsG 2 false ?_; intro Ac w5 hp; have hb := hp.bel; have hk5 := HN.out.below hb HN.out.lt; have hx5 := HX.out.below hb HX.out.lt; have x0 : w5.cell? ⟨xb, 0, none⟩ = some (.int .u32 (c : Int)) := hx5.cell 0; have x1 : w5.cell? ⟨xb, 1, none⟩ = some (.int .i64 (k : Int)) := hx5.cell 1; exact pure1 (.agg #[.int .u32 (c : Int), .int .i64 (k : Int)]) 3 (ptv xb 0) (hp.out 3 (by rfl))
   ·refine rsG 2 false ?_; intro Ac w5 hp; have a23 : Ac.eval (.tmp 23) = .agg #[.int .u32 (a : Int), .int .i64 (n : Int)] := hp.d 6; have a24 : Ac.eval (.tmp 24) = .agg #[.int .u32 (c : Int), .int .i64 (k : Int)] := hp.d 7; obtain ⟨ρ, hρ, hc, hf, hgl⟩ := evalX Ac; rw [hρ] at a23 a24; refine relCall hρ 256 #[.agg #[.int .u32 (a : Int), .int .i64 (n : Int)], .agg #[.int .u32 (c : Int), .int .i64 (k : Int)]] (by simp [go_sem, ↓IntWalk.iteOmega, *]) ?_; refine (HCv.out w5).mono ?_; rintro e w6 ⟨rfl, hb6⟩; exact ⟨_, rfl, rfl, hb6⟩
   ·exact rsG 2 false fun Ac w5 hp => pure1 (.bool false) 25 (.bool true) (hp.d 8)
   ·exact relStep_plain rfl fun Ac w5 hp => pure2 (.bool false) 19 (.bool false) (hp.d 2) 26 (.bool false) (hp.d 9)
   intro u w7 hb7 hall; have e27 : u 10 = .bool false := relAll_at hall (i := 10) (by decide +kernel); clear hall; simp only [List.drop_succ_cons, List.drop_zero, List.take_succ_cons, List.take_zero, putAll, Act.put, List.setIfInBounds_toArray, List.set_cons_zero, List.set_cons_succ, Nat.zero_add, Nat.reduceAdd, e27]; have HB7 := hide (btr HB2.out hb7); have HB27 := hide hb7; have HX7 := hide (HX.out.below hb7 HX.out.lt); have HN7 := hide (HN.out.below hb7 HN.out.lt); clear hb7 HX HN; have HN := hide HN7.out; have HX := hide HX7.out; clear HX7 HN7; by_cases he : a = c ∧ n = k
   ·obtain ⟨rfl, rfl⟩ := he; have HR : Hid (trPtr (trFind a n t) = .pointer (some ⟨b, 0, none⟩)) := hide (by rw [← HSf.out, trFind, if_pos HCvP.out, if_pos ⟨rfl, rfl⟩]; rfl)
    go_upto_region 6 with fail
    have Hmn := hide (show AllMono [(isV (ptv b 0)), (isV (ptv b 0)), (isV (ptv b 0)), (isV (.agg #[.int .u32 (a : Int), .int .i64 (n : Int)])), (isV (.agg #[.int .u32 (a : Int), .int .i64 (n : Int)])), (isV (.bool false))] from by repeat (first | exact trivial | refine ⟨fun _ _ _ _ h => h, ?_⟩)); refine wp_region_rel _ (by kernel_rfl) (by kernel_rfl) (relMono _ Hmn.out) ⟨?_, ?_, ?_, ?_, ?_, ?_, trivial⟩ ?_
    ·exact relStep_plain rfl fun Ac w5 hp => pureM (ptv b 0) 5 (hp.out 5 (by rfl))
    ·exact relStep_plain rfl fun Ac w5 hp => pureM (ptv b 0) 28 (hp.d 0)
    ·exact relStep_plain rfl fun Ac w5 hp => pureM (ptv b 0) 29 (hp.d 1)
    ·refine relStep_plain rfl ?_; intro Ac w5 hp; have hb := hp.bel; have hk5 := HN.out.below hb HN.out.lt; have y0 : w5.cell? ⟨b, 0, none⟩ = some (.int .u32 (a : Int)) := hk5.cell 0; have y1 : w5.cell? ⟨b, 1, none⟩ = some (.int .i64 (n : Int)) := hk5.cell 1; exact pure1 (.agg #[.int .u32 (a : Int), .int .i64 (n : Int)]) 30 (ptv b 0) (hp.d 2)
    ·refine relStep_plain rfl ?_; intro Ac w5 hp; have hb := hp.bel; have hk5 := HN.out.below hb HN.out.lt; have hx5 := HX.out.below hb HX.out.lt; have x0 : w5.cell? ⟨xb, 0, none⟩ = some (.int .u32 (a : Int)) := hx5.cell 0; have x1 : w5.cell? ⟨xb, 1, none⟩ = some (.int .i64 (n : Int)) := hx5.cell 1; exact pure1 (.agg #[.int .u32 (a : Int), .int .i64 (n : Int)]) 3 (ptv xb 0) (hp.out 3 (by rfl))
    ·exact relStep_plain rfl fun Ac w5 hp => pure2 (.bool false) 31 (.agg #[.int .u32 (a : Int), .int .i64 (n : Int)]) (hp.d 3) 32 (.agg #[.int .u32 (a : Int), .int .i64 (n : Int)]) (hp.d 4)
    intro u w8 hb7 hall; have e33 : u 5 = .bool false := relAll_at hall (i := 5) (by decide +kernel); clear hall; simp only [List.drop_succ_cons, List.drop_zero, List.take_succ_cons, List.take_zero, putAll, Act.put, List.setIfInBounds_toArray, List.set_cons_zero, List.set_cons_succ, Nat.zero_add, Nat.reduceAdd, e33]; have HB8 := hide (btr HB7.out hb7); clear hb7; go_wp2; simp only [Exit.jump]; go_ret; exact ⟨by rw [HR.out]; rfl, HB8.out⟩
   ·have HNe := hide (show (a : Int) = (c : Int) → ¬ (n : Int) = (k : Int) from fun h1 h2 => he ⟨by omega, by omega⟩); have HE := hide he; clear he; have hlt : n < k := Nat.lt_of_le_of_ne HCvP.out.1 fun e => HE.out ⟨cvN_same HCvP.out HPc.out e, e⟩; have hk32 := HPc.out.2.1; have HSd := hide (fun W => side_any a n c k HPc.out.1 (by omega) W); have HRk := hide (show trDown ⟨(.pointer (some ⟨g, 0, none⟩) :: .agg #[.int .u32 (c : Int), .int .i64 (k : Int)] :: undef :: .pointer (some ⟨xb, 0, none⟩) :: .pointer none :: .pointer (some ⟨b, 0, none⟩) :: [u 0, u 1, u 2, u 3, u 4, u 5, u 6, u 7, u 8, u 9, u 10, u 11, u 12, u 13, u 14, u 15, u 16, u 17, u 18, u 19, u 20, u 21, u 22, u 23, u 24, u 25, u 26, u 27, u 28, u 29, u 30, u 31, u 32, u 33, u 34, u 35, u 36, u 37, u 38, u 39]).toArray, []⟩ w2 = 33 - n from congrArg (33 - ·) (cellNat_of (HN0.out.cell 1))); have HLt := hide hlt; clear hlt hk32 HN0
    go_upto_region 6 with fail
    have Hmn := hide (show AllMono [(isV (ptv b 0)), (isV (ptv b 0)), (isV (ptv b 0)), (isV (.agg #[.int .u32 (a : Int), .int .i64 (n : Int)])), (isV (.agg #[.int .u32 (c : Int), .int .i64 (k : Int)])), (isV (.bool true))] from by repeat (first | exact trivial | refine ⟨fun _ _ _ _ h => h, ?_⟩)); refine wp_region_rel _ (by kernel_rfl) (by kernel_rfl) (relMono _ Hmn.out) ⟨?_, ?_, ?_, ?_, ?_, ?_, trivial⟩ ?_
    ·exact relStep_plain rfl fun Ac w5 hp => pureM (ptv b 0) 5 (hp.out 5 (by rfl))
    ·exact relStep_plain rfl fun Ac w5 hp => pureM (ptv b 0) 28 (hp.d 0)
    ·exact relStep_plain rfl fun Ac w5 hp => pureM (ptv b 0) 29 (hp.d 1)
    ·refine relStep_plain rfl ?_; intro Ac w5 hp; have hb := hp.bel; have hk5 := HN.out.below hb HN.out.lt; have y0 : w5.cell? ⟨b, 0, none⟩ = some (.int .u32 (a : Int)) := hk5.cell 0; have y1 : w5.cell? ⟨b, 1, none⟩ = some (.int .i64 (n : Int)) := hk5.cell 1; exact pure1 (.agg #[.int .u32 (a : Int), .int .i64 (n : Int)]) 30 (ptv b 0) (hp.d 2)
    ·refine relStep_plain rfl ?_; intro Ac w5 hp; have hb := hp.bel; have hk5 := HN.out.below hb HN.out.lt; have hx5 := HX.out.below hb HX.out.lt; have x0 : w5.cell? ⟨xb, 0, none⟩ = some (.int .u32 (c : Int)) := hx5.cell 0; have x1 : w5.cell? ⟨xb, 1, none⟩ = some (.int .i64 (k : Int)) := hx5.cell 1; exact pure1 (.agg #[.int .u32 (c : Int), .int .i64 (k : Int)]) 3 (ptv xb 0) (hp.out 3 (by rfl))
    ·refine relStep_plain rfl ?_; intro Ac w5 hp; have a31 : Ac.eval (.tmp 31) = .agg #[.int .u32 (a : Int), .int .i64 (n : Int)] := hp.d 3; have a32 : Ac.eval (.tmp 32) = .agg #[.int .u32 (c : Int), .int .i64 (k : Int)] := hp.d 4; exact relPureX (.bool true) (fun ρ hρ h1 h2 h3 => by rw [hρ] at a31 a32; simp [go_sem, ↓IntWalk.iteOmega, *]; exact HNe.out) rfl
    intro u w8 hb7 hall; have e33 : u 5 = .bool true := relAll_at hall (i := 5) (by decide +kernel); clear hall; simp only [List.drop_succ_cons, List.drop_zero, List.take_succ_cons, List.take_zero, putAll, Act.put, List.setIfInBounds_toArray, List.set_cons_zero, List.set_cons_succ, Nat.zero_add, Nat.reduceAdd, e33]; have HN8 := hide (HN.out.below hb7 HN.out.lt); have HX8 := hide (HX.out.below hb7 HX.out.lt); have HB28 := hide (btr HB27.out hb7); clear hb7 HN HX HB7 HB27; have HN := hide HN8.out; have HX := hide HX8.out; clear HN8 HX8; rcases bitN_01 c n with hbit | hbit
    all_goals
     have HBit := hide hbit; clear hbit
     go_upto_region 7 with fail
    ·skip
     have Hmn := hide (show AllMono [(isV (ptv b 0)), (isV (ptv b 0)), (isV (ptv b 0)), (isV (ptv b 0)), (isV (.agg #[.int .u32 (a : Int), .int .i64 (n : Int)])), (isV (.agg #[.int .u32 (c : Int), .int .i64 (k : Int)])), (isV (.int .i64 0)), (isV (ptv b 0)), (isV (ptv b 13)), (isV (ptv b 13)), (isV (trPtr l))] from by repeat (first | exact trivial | refine ⟨fun _ _ _ _ h => h, ?_⟩)); refine wp_region_relT 11 _ (by kernel_rfl) (by kernel_rfl) (by kernel_rfl) (by kernel_rfl) (by kernel_rfl) (relMono _ Hmn.out) ⟨?_, ?_, ?_, ?_, ?_, ?_, ?_, ?_, ?_, ?_, ?_, trivial⟩ ?_
     ·exact relStep_plain rfl fun Ac w5 hp => pureM (ptv b 0) 5 (hp.out 5 (by rfl))
     ·exact relStep_plain rfl fun Ac w5 hp => pureM (ptv b 0) 5 (hp.out 5 (by rfl))
     ·exact relStep_plain rfl fun Ac w5 hp => pureM (ptv b 0) 35 (hp.d 1)
     ·exact relStep_plain rfl fun Ac w5 hp => pureM (ptv b 0) 36 (hp.d 2)
     ·refine relStep_plain rfl ?_; intro Ac w5 hp; have hb := hp.bel; have hk5 := HN.out.below hb HN.out.lt; have y0 : w5.cell? ⟨b, 0, none⟩ = some (.int .u32 (a : Int)) := hk5.cell 0; have y1 : w5.cell? ⟨b, 1, none⟩ = some (.int .i64 (n : Int)) := hk5.cell 1; have y13 : w5.cell? ⟨b, 13, none⟩ = some (trPtr l) := hk5.cell 13; have y14 : w5.cell? ⟨b, 14, none⟩ = some (trPtr r) := hk5.cell 14; exact pure1 (.agg #[.int .u32 (a : Int), .int .i64 (n : Int)]) 37 (ptv b 0) (hp.d 3)
     ·refine relStep_plain rfl ?_; intro Ac w5 hp; have hb := hp.bel; have hk5 := HN.out.below hb HN.out.lt; have hx5 := HX.out.below hb HX.out.lt; have x0 : w5.cell? ⟨xb, 0, none⟩ = some (.int .u32 (c : Int)) := hx5.cell 0; have x1 : w5.cell? ⟨xb, 1, none⟩ = some (.int .i64 (k : Int)) := hx5.cell 1; exact pure1 (.agg #[.int .u32 (c : Int), .int .i64 (k : Int)]) 3 (ptv xb 0) (hp.out 3 (by rfl))
     ·refine relStep_plain rfl ?_; intro Ac w5 hp; have a38 : Ac.eval (.tmp 38) = .agg #[.int .u32 (a : Int), .int .i64 (n : Int)] := hp.d 4; have a39 : Ac.eval (.tmp 39) = .agg #[.int .u32 (c : Int), .int .i64 (k : Int)] := hp.d 5; obtain ⟨ρ, hρ, hc, hf, hgl⟩ := evalX Ac; rw [hρ] at a38 a39; refine relCall hρ 257 #[.agg #[.int .u32 (a : Int), .int .i64 (n : Int)], .agg #[.int .u32 (c : Int), .int .i64 (k : Int)]] (by simp [go_sem, ↓IntWalk.iteOmega, *]) ?_; refine (HSd.out w5).mono ?_; rintro e w6 ⟨rfl, hb6⟩; exact ⟨_, rfl, by rw [HBit.out]; rfl, hb6⟩
     ·exact relStep_plain rfl fun Ac w5 hp => pureM (ptv b 0) 34 (hp.d 0)
     ·exact relStep_plain rfl fun Ac w5 hp => pure1 (ptv b 13) 41 (ptv b 0) (hp.d 7)
     ·exact relStep_plain rfl fun Ac w5 hp => pure2 (ptv b 13) 42 (ptv b 13) (hp.d 8) 40 (.int .i64 0) (hp.d 6)
     ·refine relStep_plain rfl ?_; intro Ac w5 hp; have hb := hp.bel; have hk5 := HN.out.below hb HN.out.lt; have y13 : w5.cell? ⟨b, 13, none⟩ = some (trPtr l) := hk5.cell 13; exact pure1 (trPtr l) 43 (ptv b 13) (hp.d 9)
     intro u w9 hb7 hall; have e44 : u 10 = trPtr l := relAll_at hall (i := 10) (by decide +kernel); clear hall; simp only [List.drop_succ_cons, List.drop_zero, List.take_succ_cons, List.take_zero, putAll, Act.put, List.setIfInBounds_toArray, List.set_cons_zero, List.set_cons_succ, Nat.zero_add, Nat.reduceAdd, e44]; have HB9 := hide (btr HB28.out hb7); have HX9 := hide (HX.out.below hb7 HX.out.lt); clear hb7 HN HX; go_wp2
     go_step3
     refine ⟨rfl, ⟨l, xb, _, rfl, rfl, HL.out.chg (S := fun _ => False) (chg_below HB9.out) (by simp) (by simp), HWl.out, ?_, HX9.out, btr HB2.out HB9.out⟩, ?_⟩
     ·rw [← HSf.out, trFind, if_pos HCvP.out, if_neg HE.out, if_pos HBit.out]
     ·have h1 := trRank_in HIl.out HGa.out.2.1; refine Nat.lt_of_le_of_lt (Nat.le_of_eq (trDownA (HL.out.chg (S := fun _ => False) (chg_below HB9.out) (by simp) (by simp)) ?_)) (Nat.lt_of_lt_of_eq h1 HRk.out.symm)
      rfl
    ·skip
     have Hmn := hide (show AllMono [(isV (ptv b 0)), (isV (ptv b 0)), (isV (ptv b 0)), (isV (ptv b 0)), (isV (.agg #[.int .u32 (a : Int), .int .i64 (n : Int)])), (isV (.agg #[.int .u32 (c : Int), .int .i64 (k : Int)])), (isV (.int .i64 1)), (isV (ptv b 0)), (isV (ptv b 13)), (isV (ptv b 14)), (isV (trPtr r))] from by repeat (first | exact trivial | refine ⟨fun _ _ _ _ h => h, ?_⟩)); refine wp_region_relT 11 _ (by kernel_rfl) (by kernel_rfl) (by kernel_rfl) (by kernel_rfl) (by kernel_rfl) (relMono _ Hmn.out) ⟨?_, ?_, ?_, ?_, ?_, ?_, ?_, ?_, ?_, ?_, ?_, trivial⟩ ?_
     ·exact relStep_plain rfl fun Ac w5 hp => pureM (ptv b 0) 5 (hp.out 5 (by rfl))
     ·exact relStep_plain rfl fun Ac w5 hp => pureM (ptv b 0) 5 (hp.out 5 (by rfl))
     ·exact relStep_plain rfl fun Ac w5 hp => pureM (ptv b 0) 35 (hp.d 1)
     ·exact relStep_plain rfl fun Ac w5 hp => pureM (ptv b 0) 36 (hp.d 2)
     ·refine relStep_plain rfl ?_; intro Ac w5 hp; have hb := hp.bel; have hk5 := HN.out.below hb HN.out.lt; have y0 : w5.cell? ⟨b, 0, none⟩ = some (.int .u32 (a : Int)) := hk5.cell 0; have y1 : w5.cell? ⟨b, 1, none⟩ = some (.int .i64 (n : Int)) := hk5.cell 1; have y13 : w5.cell? ⟨b, 13, none⟩ = some (trPtr l) := hk5.cell 13; have y14 : w5.cell? ⟨b, 14, none⟩ = some (trPtr r) := hk5.cell 14; exact pure1 (.agg #[.int .u32 (a : Int), .int .i64 (n : Int)]) 37 (ptv b 0) (hp.d 3)
     ·refine relStep_plain rfl ?_; intro Ac w5 hp; have hb := hp.bel; have hk5 := HN.out.below hb HN.out.lt; have hx5 := HX.out.below hb HX.out.lt; have x0 : w5.cell? ⟨xb, 0, none⟩ = some (.int .u32 (c : Int)) := hx5.cell 0; have x1 : w5.cell? ⟨xb, 1, none⟩ = some (.int .i64 (k : Int)) := hx5.cell 1; exact pure1 (.agg #[.int .u32 (c : Int), .int .i64 (k : Int)]) 3 (ptv xb 0) (hp.out 3 (by rfl))
     ·refine relStep_plain rfl ?_; intro Ac w5 hp; have a38 : Ac.eval (.tmp 38) = .agg #[.int .u32 (a : Int), .int .i64 (n : Int)] := hp.d 4; have a39 : Ac.eval (.tmp 39) = .agg #[.int .u32 (c : Int), .int .i64 (k : Int)] := hp.d 5; obtain ⟨ρ, hρ, hc, hf, hgl⟩ := evalX Ac; rw [hρ] at a38 a39; refine relCall hρ 257 #[.agg #[.int .u32 (a : Int), .int .i64 (n : Int)], .agg #[.int .u32 (c : Int), .int .i64 (k : Int)]] (by simp [go_sem, ↓IntWalk.iteOmega, *]) ?_; refine (HSd.out w5).mono ?_; rintro e w6 ⟨rfl, hb6⟩; exact ⟨_, rfl, by rw [HBit.out]; rfl, hb6⟩
     ·exact relStep_plain rfl fun Ac w5 hp => pureM (ptv b 0) 34 (hp.d 0)
     ·exact relStep_plain rfl fun Ac w5 hp => pure1 (ptv b 13) 41 (ptv b 0) (hp.d 7)
     ·exact relStep_plain rfl fun Ac w5 hp => pure2 (ptv b 14) 42 (ptv b 13) (hp.d 8) 40 (.int .i64 1) (hp.d 6)
     ·refine relStep_plain rfl ?_; intro Ac w5 hp; have hb := hp.bel; have hk5 := HN.out.below hb HN.out.lt; have y14 : w5.cell? ⟨b, 14, none⟩ = some (trPtr r) := hk5.cell 14; exact pure1 (trPtr r) 43 (ptv b 14) (hp.d 9)
     intro u w9 hb7 hall; have e44 : u 10 = trPtr r := relAll_at hall (i := 10) (by decide +kernel); clear hall; simp only [List.drop_succ_cons, List.drop_zero, List.take_succ_cons, List.take_zero, putAll, Act.put, List.setIfInBounds_toArray, List.set_cons_zero, List.set_cons_succ, Nat.zero_add, Nat.reduceAdd, e44]; have HB9 := hide (btr HB28.out hb7); have HX9 := hide (HX.out.below hb7 HX.out.lt); clear hb7 HN HX; go_wp2
     go_step3
     refine ⟨rfl, ⟨r, xb, _, rfl, rfl, HRr.out.chg (S := fun _ => False) (chg_below HB9.out) (by simp) (by simp), HWr.out, ?_, HX9.out, btr HB2.out HB9.out⟩, ?_⟩
     ·rw [← HSf.out, trFind, if_pos HCvP.out, if_neg HE.out, if_neg (by have := HBit.out; omega)]
     ·have h1 := trRank_in HIr.out HGa.out.2.1; refine Nat.lt_of_le_of_lt (Nat.le_of_eq (trDownA (HRr.out.chg (S := fun _ => False) (chg_below HB9.out) (by simp) (by simp)) ?_)) (Nat.lt_of_lt_of_eq h1 HRk.out.symm)
      rfl
  ·rw [decide_eq_false hcv] at HCv; have HR : Hid (trPtr (trFind c k t) = .pointer none) := hide (by rw [← HSf.out, trFind, if_neg hcv]; rfl); clear hcv
   go_upto_region 4 with fail
   have Hmn := hide (show AllMono [(isV (ptv b 0)), (isV (.bool false)), (isV (.bool false)), (isV (ptv b 0)), (isV (ptv b 0)), (isV (ptv b 0)), (isV (.agg #[.int .u32 (a : Int), .int .i64 (n : Int)])), (isV (.agg #[.int .u32 (c : Int), .int .i64 (k : Int)])), (isV (.bool false)), (isV (.bool true)), (isV (.bool true))] from by repeat (first | exact trivial | refine ⟨fun _ _ _ _ h => h, ?_⟩)); refine wp_region_rel _ (by kernel_rfl) (by kernel_rfl) (relMono _ Hmn.out) ⟨?_, ?_, ?_, ?_, ?_, ?_, ?_, ?_, ?_, ?_, ?_, trivial⟩ ?_
   ·exact relStep_plain rfl fun Ac w5 hp => pureM (ptv b 0) 5 (hp.out 5 (by rfl))
   ·exact relStep_plain rfl fun Ac w5 hp => pure1 (.bool false) 17 (ptv b 0) (hp.d 0)
   ·exact relStep_plain rfl fun Ac w5 hp => pureM (.bool false) 18 (hp.d 1)
   ·exact rsG 2 false fun Ac w5 hp => pureM (ptv b 0) 5 (hp.out 5 (by rfl))
   ·exact rsG 2 false fun Ac w5 hp => pureM (ptv b 0) 20 (hp.d 3)
   ·exact rsG 2 false fun Ac w5 hp => pureM (ptv b 0) 21 (hp.d 4)
   ·refine rsG 2 false ?_; intro Ac w5 hp; have hb := hp.bel; have hk5 := HN.out.below hb HN.out.lt; have y0 : w5.cell? ⟨b, 0, none⟩ = some (.int .u32 (a : Int)) := hk5.cell 0; have y1 : w5.cell? ⟨b, 1, none⟩ = some (.int .i64 (n : Int)) := hk5.cell 1; exact pure1 (.agg #[.int .u32 (a : Int), .int .i64 (n : Int)]) 22 (ptv b 0) (hp.d 5)
   ·refine rsG 2 false ?_; intro Ac w5 hp; have hb := hp.bel; have hk5 := HN.out.below hb HN.out.lt; have hx5 := HX.out.below hb HX.out.lt; have x0 : w5.cell? ⟨xb, 0, none⟩ = some (.int .u32 (c : Int)) := hx5.cell 0; have x1 : w5.cell? ⟨xb, 1, none⟩ = some (.int .i64 (k : Int)) := hx5.cell 1; exact pure1 (.agg #[.int .u32 (c : Int), .int .i64 (k : Int)]) 3 (ptv xb 0) (hp.out 3 (by rfl))
   ·refine rsG 2 false ?_; intro Ac w5 hp; have a23 : Ac.eval (.tmp 23) = .agg #[.int .u32 (a : Int), .int .i64 (n : Int)] := hp.d 6; have a24 : Ac.eval (.tmp 24) = .agg #[.int .u32 (c : Int), .int .i64 (k : Int)] := hp.d 7; obtain ⟨ρ, hρ, hc, hf, hgl⟩ := evalX Ac; rw [hρ] at a23 a24; refine relCall hρ 256 #[.agg #[.int .u32 (a : Int), .int .i64 (n : Int)], .agg #[.int .u32 (c : Int), .int .i64 (k : Int)]] (by simp [go_sem, ↓IntWalk.iteOmega, *]) ?_; refine (HCv.out w5).mono ?_; rintro e w6 ⟨rfl, hb6⟩; exact ⟨_, rfl, rfl, hb6⟩
   ·exact rsG 2 false fun Ac w5 hp => pure1 (.bool true) 25 (.bool false) (hp.d 8)
   ·exact relStep_plain rfl fun Ac w5 hp => pure2 (.bool true) 19 (.bool false) (hp.d 2) 26 (.bool true) (hp.d 9)
   intro u w7 hb7 hall; have e27 : u 10 = .bool true := relAll_at hall (i := 10) (by decide +kernel); clear hall; simp only [List.drop_succ_cons, List.drop_zero, List.take_succ_cons, List.take_zero, putAll, Act.put, List.setIfInBounds_toArray, List.set_cons_zero, List.set_cons_succ, Nat.zero_add, Nat.reduceAdd, e27]; have HB7 := hide (btr HB2.out hb7); clear hb7; go_wp2; simp only [Exit.jump]; go_ret; exact ⟨by rw [HR.out]; rfl, HB7.out⟩
def pxC (l : List (Nat × Nat)) : List Value := l.flatMap fun x => [.int .u32 (x.1 : Int), .int .i64 (x.2 : Int)]
theorem pxInfo : (Tryz.prog.info? 24).map (fun i => (i.zero, i.size, i.bytes)) = some (some (.agg #[.int .u32 0, .int .i64 0]), 2, 16) := by kernel_rfl
theorem trGet_find {α : Type} (c k : Nat) : ∀ t : Tr α, trGet c k t = (match trFind c k t with | .nil => none | .nd _ _ _ v _ _ => v)
 | .nil => rfl
 | .nd b a n v l r => by
   have h1 := trGet_find c k l; have h2 := trGet_find c k r; unfold trGet trFind; split
   ·split
    ·rfl
    ·split
     ·exact h1
     ·exact h2
   ·rfl
theorem trFind_w {α : Type} {sz : Nat} {T : TypeId} {F : Nat → Prop} {R : World → List Value → α → Prop} {w : World} (c k : Nat) : ∀ t : Tr α, TrW sz T F R w t → TrW sz T F R w (trFind c k t)
 | .nil, _ => trivial
 | .nd b a n v l r, h => by
   unfold trFind; split
   ·split
    ·exact h
    ·split
     ·exact trFind_w c k l h.2.1
     ·exact trFind_w c k r h.2.2
   ·trivial
set_option maxRecDepth 100000 in
theorem topA_any {α : Type} (g : Nat) (t : Tr α) (w : World) (hg : Blk w g 215 #[trPtr t]) : Calls Tryz.prog 288 #[.pointer (some ⟨g, 0, none⟩)] w fun e w' => e = .returned (trPtr t) ∧ w' = w := by
 have z : w.cell? ⟨g, 0, none⟩ = some (trPtr t) := hg.cell 0; clear hg
 go_enter Tryz.func288, Tryz.ntmps288
 go_wp2; go_ret; exact ⟨rfl, rfl⟩
set_option maxRecDepth 100000 in
theorem newA_any (w : World) : Calls Tryz.prog 69 #[] w fun e w' => e = .returned (.pointer (some ⟨w.heap.size, 0, none⟩)) ∧ Blk w' w.heap.size 215 #[.pointer none] ∧ Below w.heap.size w w' := by
 have HB := hide (blkBelow1 w (.cells #[.pointer none] 215)); have HK := hide (Blk.new w 215 #[.pointer none])
 go_enter Tryz.func69, Tryz.ntmps69
 go_wp2; go_ret; exact ⟨rfl, HK.out, HB.out⟩
set_option maxRecDepth 100000 in
theorem tlenA_any {α : Type} {F : Nat → Prop} {R : World → List Value → α → Prop} (g : Nat) (t : Tr α) (w : World) (hg : Blk w g 215 #[trPtr t]) (h : TrW 9 319 F R w t) : Calls Tryz.prog 180 #[.pointer (some ⟨g, 0, none⟩)] w fun e w' => e = .returned (.int .i64 (trCnt t : Int)) ∧ w' = w := by
 have HT := hide (topA_any g t w hg); have HC := hide (countA_any t w h); clear hg h
 go_enter Tryz.func180, Tryz.ntmps180
 go_wp2_with fail
 refine HT.out.mono ?_; rintro e w1 ⟨rfl, rfl⟩
 go_wp2_with fail
 refine HC.out.mono ?_; rintro e w2 ⟨rfl, rfl⟩; go_wp2; go_ret; exact ⟨rfl, rfl⟩
set_option maxRecDepth 100000 in
set_option maxHeartbeats 4000000 in
theorem getA_any {α : Type} {F : Nat → Prop} {R : World → List Value → α → Prop} (g c k : Nat) (t : Tr α) (w : World) (hc : PG c k) (hg : Blk w g 215 #[trPtr t]) (h : TrW 9 319 F R w t) (hw : trWf t) (hF : ∀ k, F k → k < w.heap.size) :
  Calls Tryz.prog 179 #[.pointer (some ⟨g, 0, none⟩), .agg #[.int .u32 (c : Int), .int .i64 (k : Int)]] w fun e w' => Below w.heap.size w w' ∧ match trGet c k t with
   | some x => ∃ v0 v1 v2 v3 v4 v5 v6 v7 v8, e = .returned (.tuple #[.agg #[v0, v1, v2, v3, v4, v5, v6, v7, v8], .bool true]) ∧ FrS F none (fun w => R w [v0, v1, v2, v3, v4, v5, v6, v7, v8] x) w'
   | none => e = .returned (.tuple #[.agg #[.int .i64 0, .int .i64 0, .slice none 0 0, .int .u32 0, .int .u32 0, .int .u32 0, .int .u32 0, .int .u32 0, .slice none 0 0], .bool false]) := by
 obtain ⟨w0, hw0⟩ : ∃ w0, (w.alloc (.cells #[.int .u32 (c : Int), .int .i64 (k : Int)] 24)).alloc (.cells zeroA 28) = w0 := ⟨_, rfl⟩
 have hb0 : Below w.heap.size w w0 := hw0 ▸ blkBelow2 w _ _; have HZ0 : Hid (Blk w0 (w.heap.size + 1) 28 zeroA) := hide (hw0 ▸ blk_new' _ _ (by simp)); have HFd := hide (findA_any (R := R) g c k t w0 hc (hg.below hb0 hg.lt) (h.chg (chg_below (S := fun _ => False) hb0) (by simp) (by simp)) hw); have hgf := trGet_find c k t; have hfw := trFind_w c k t h; have HF := hide hF; obtain ⟨s, hs⟩ : ∃ s, trFind c k t = s := ⟨_, rfl⟩
 rw [hs] at hgf hfw HFd; have HW0 := hide hw0; have HB0 := hide hb0; clear hw0 hb0 hs hw hg h hF
 cases s with
 | nil =>
  simp only at hgf; rw [hgf]; have e0 : trPtr (.nil : Tr α) = .pointer none := rfl; rw [e0] at HFd; clear hgf e0 hfw
  go_enter Tryz.func179, Tryz.ntmps179
  go_wp2_with fail
  rw [HW0.out]; refine HFd.out.mono ?_; rintro e w1 ⟨rfl, hb1⟩; have HB1 := hide (btr HB0.out hb1); have hz := HZ0.out.below hb1 HZ0.out.lt; have z0 : w1.cell? ⟨w.heap.size + 1, 0, none⟩ = some (.int .i64 0) := hz.cell 0; have z1 : w1.cell? ⟨w.heap.size + 1, 1, none⟩ = some (.int .i64 0) := hz.cell 1; have z2 : w1.cell? ⟨w.heap.size + 1, 2, none⟩ = some (.slice none 0 0) := hz.cell 2; have z3 : w1.cell? ⟨w.heap.size + 1, 3, none⟩ = some (.int .u32 0) := hz.cell 3; have z4 : w1.cell? ⟨w.heap.size + 1, 4, none⟩ = some (.int .u32 0) := hz.cell 4; have z5 : w1.cell? ⟨w.heap.size + 1, 5, none⟩ = some (.int .u32 0) := hz.cell 5; have z6 : w1.cell? ⟨w.heap.size + 1, 6, none⟩ = some (.int .u32 0) := hz.cell 6; have z7 : w1.cell? ⟨w.heap.size + 1, 7, none⟩ = some (.int .u32 0) := hz.cell 7; have z8 : w1.cell? ⟨w.heap.size + 1, 8, none⟩ = some (.slice none 0 0) := hz.cell 8; have zf := fun i => hz.frozen i; have HZ1 := hide hz; clear hb1 hz; go_wp2; change bodyPost _ _ _ _ _ (w1.setCells (w.heap.size + 1) 0 zeroL); obtain ⟨wF, hwF⟩ : ∃ x, w1.setCells (w.heap.size + 1) 0 zeroL = x := ⟨_, rfl⟩
  have HFk := hide (hwF ▸ blk_sets zeroL [] zeroL HZ1.out rfl : Blk wF (w.heap.size + 1) 28 zeroA); have HFb := hide (hwF ▸ below_sets zeroL 0 HB1.out (by omega) : Below w.heap.size w wF); rw [hwF]; clear hwF z0 z1 z2 z3 z4 z5 z6 z7 z8 zf; obtain ⟨z0, z1, z2, z3, z4, z5, z6, z7, z8⟩ := blk9 HFk.out; exact bodyPost_ret (v := .tuple #[.agg #[.int .i64 0, .int .i64 0, .slice none 0 0, .int .u32 0, .int .u32 0, .int .u32 0, .int .u32 0, .int .u32 0, .slice none 0 0], .bool false]) (by simp [results, Tryz.results179, go_sem, z0, z1, z2, z3, z4, z5, z6, z7, z8]) rfl ⟨HFb.out, rfl⟩
 | nd b a n v l r =>
  have e0 : trPtr (.nd b a n v l r) = .pointer (some ⟨b, 0, none⟩) := rfl; rw [e0] at HFd; clear e0; simp only at hgf; rw [hgf]; obtain ⟨⟨vs, hv, hk, hval⟩, _, _⟩ := hfw; obtain ⟨v0, v1, v2, v3, v4, v5, v6, v7, v8, rfl⟩ := lenA hv; have HN := hide hk; have HVl := hide hval; have HOne := hide hv.2; clear hgf hv hk hval; obtain ⟨cn, hcn⟩ : ∃ c, trCnt l + trCnt r + (if v.isSome then 1 else 0) = c := ⟨_, rfl⟩
  rw [hcn] at HN; clear hcn
  cases v with
  | none =>
   go_enter Tryz.func179, Tryz.ntmps179
   go_wp2_with fail
   rw [HW0.out]; refine HFd.out.mono ?_; rintro e w1 ⟨rfl, hb1⟩; have HB1 := hide (btr HB0.out hb1); have HZ1 := hide (HZ0.out.below hb1 HZ0.out.lt); have yp : w1.cell? ⟨b, 11, none⟩ = some (.bool false) := (HN.out.below HB1.out HN.out.lt).cell 11; obtain ⟨z0, z1, z2, z3, z4, z5, z6, z7, z8⟩ := blk9 HZ1.out; have zf := fun i => HZ1.out.frozen i; clear hb1; go_wp2; change bodyPost _ _ _ _ _ (w1.setCells (w.heap.size + 1) 0 zeroL); obtain ⟨wF, hwF⟩ : ∃ x, w1.setCells (w.heap.size + 1) 0 zeroL = x := ⟨_, rfl⟩
   have HFk := hide (hwF ▸ blk_sets zeroL [] zeroL HZ1.out rfl : Blk wF (w.heap.size + 1) 28 zeroA); have HFb := hide (hwF ▸ below_sets zeroL 0 HB1.out (by omega) : Below w.heap.size w wF); rw [hwF]; clear hwF z0 z1 z2 z3 z4 z5 z6 z7 z8 zf yp; obtain ⟨z0, z1, z2, z3, z4, z5, z6, z7, z8⟩ := blk9 HFk.out; exact bodyPost_ret (v := .tuple #[.agg #[.int .i64 0, .int .i64 0, .slice none 0 0, .int .u32 0, .int .u32 0, .int .u32 0, .int .u32 0, .int .u32 0, .slice none 0 0], .bool false]) (by simp [results, Tryz.results179, go_sem, z0, z1, z2, z3, z4, z5, z6, z7, z8]) rfl ⟨HFb.out, rfl⟩
  | some x =>
   go_enter Tryz.func179, Tryz.ntmps179
   go_wp2_with fail
   rw [HW0.out]; refine HFd.out.mono ?_; rintro e w1 ⟨rfl, hb1⟩; have HB1 := hide (btr HB0.out hb1); have HZ1 := hide (HZ0.out.below hb1 HZ0.out.lt); have hN1 := HN.out.below HB1.out HN.out.lt; have yp : w1.cell? ⟨b, 11, none⟩ = some (.bool true) := hN1.cell 11; have y0 : w1.cell? ⟨b, 2, none⟩ = some v0 := hN1.cell 2; have y1 : w1.cell? ⟨b, 3, none⟩ = some v1 := hN1.cell 3; have y2 : w1.cell? ⟨b, 4, none⟩ = some v2 := hN1.cell 4; have y3 : w1.cell? ⟨b, 5, none⟩ = some v3 := hN1.cell 5; have y4 : w1.cell? ⟨b, 6, none⟩ = some v4 := hN1.cell 6; have y5 : w1.cell? ⟨b, 7, none⟩ = some v5 := hN1.cell 7; have y6 : w1.cell? ⟨b, 8, none⟩ = some v6 := hN1.cell 8; have y7 : w1.cell? ⟨b, 9, none⟩ = some v7 := hN1.cell 9; have y8 : w1.cell? ⟨b, 10, none⟩ = some v8 := hN1.cell 10; obtain ⟨z0, z1, z2, z3, z4, z5, z6, z7, z8⟩ := blk9 HZ1.out; have zf := fun i => HZ1.out.frozen i; clear hb1 hN1; have o0 := runS Tryz.prog v0 (HOne.out v0 (by simp)); have o1 := runS Tryz.prog v1 (HOne.out v1 (by simp)); have o2 := runS Tryz.prog v2 (HOne.out v2 (by simp)); have o3 := runS Tryz.prog v3 (HOne.out v3 (by simp)); have o4 := runS Tryz.prog v4 (HOne.out v4 (by simp)); have o5 := runS Tryz.prog v5 (HOne.out v5 (by simp)); have o6 := runS Tryz.prog v6 (HOne.out v6 (by simp)); have o7 := runS Tryz.prog v7 (HOne.out v7 (by simp)); have o8 := runS Tryz.prog v8 (HOne.out v8 (by simp)); go_wp2; change bodyPost _ _ _ _ _ (w1.setCells (w.heap.size + 1) 0 [v0, v1, v2, v3, v4, v5, v6, v7, v8]); obtain ⟨wF, hwF⟩ : ∃ x, w1.setCells (w.heap.size + 1) 0 [v0, v1, v2, v3, v4, v5, v6, v7, v8] = x := ⟨_, rfl⟩
   have HFk := hide (hwF ▸ blk_sets [v0, v1, v2, v3, v4, v5, v6, v7, v8] [] zeroL HZ1.out rfl : Blk wF (w.heap.size + 1) 28 #[v0, v1, v2, v3, v4, v5, v6, v7, v8]); have HFb := hide (hwF ▸ below_sets [v0, v1, v2, v3, v4, v5, v6, v7, v8] 0 HB1.out (by omega) : Below w.heap.size w wF); rw [hwF]; clear hwF y0 y1 y2 y3 y4 y5 y6 y7 y8 z0 z1 z2 z3 z4 z5 z6 z7 z8 zf yp o0 o1 o2 o3 o4 o5 o6 o7 o8; have z0 : wF.cell? ⟨w.heap.size + 1, 0, none⟩ = some v0 := HFk.out.cell 0; have z1 : wF.cell? ⟨w.heap.size + 1, 1, none⟩ = some v1 := HFk.out.cell 1; have z2 : wF.cell? ⟨w.heap.size + 1, 2, none⟩ = some v2 := HFk.out.cell 2; have z3 : wF.cell? ⟨w.heap.size + 1, 3, none⟩ = some v3 := HFk.out.cell 3; have z4 : wF.cell? ⟨w.heap.size + 1, 4, none⟩ = some v4 := HFk.out.cell 4; have z5 : wF.cell? ⟨w.heap.size + 1, 5, none⟩ = some v5 := HFk.out.cell 5; have z6 : wF.cell? ⟨w.heap.size + 1, 6, none⟩ = some v6 := HFk.out.cell 6; have z7 : wF.cell? ⟨w.heap.size + 1, 7, none⟩ = some v7 := HFk.out.cell 7; have z8 : wF.cell? ⟨w.heap.size + 1, 8, none⟩ = some v8 := HFk.out.cell 8; exact bodyPost_ret (v := .tuple #[.agg #[v0, v1, v2, v3, v4, v5, v6, v7, v8], .bool true]) (by simp [results, Tryz.results179, go_sem, z0, z1, z2, z3, z4, z5, z6, z7, z8]) rfl ⟨HFb.out, v0, v1, v2, v3, v4, v5, v6, v7, v8, rfl, frs_chg (HVl.out x rfl) (chg_below (S := fun _ => False) HFb.out) (by simp)⟩
def pxR (w : World) (vs : List Value) (x : Nat × Nat) : Prop := vs = [.int .u32 (x.1 : Int), .int .i64 (x.2 : Int)]
theorem pxMono : SMono pxR := fun _ _ _ _ _ h => h
theorem pxC_chunks (w : World) : ∀ l : List (Nat × Nat), Chunks 2 pxR w (pxC l) l
 | [] => Chunks.nil_
 | x :: l => by
   have h : pxC (x :: l) = [.int .u32 (x.1 : Int), .int .i64 (x.2 : Int)] ++ pxC l := (by simp [pxC])
   rw [h]; exact Chunks.app_ (l := [x]) (Chunks.one_ rfl rfl) (pxC_chunks w l)
theorem own_pxs {w : World} {b n c : Nat} {A : Option Addr} {l : List (Nat × Nat)} (h : w.ownsRow b 24 2 (.slice A n c) n (pxC l)) : LstAt 2 pxR w A n c l := LstAt.of_own (by decide) h (pxC_chunks w l)
theorem PXat {w : World} {A : Option Addr} {n c q : Nat} {l : List (Nat × Nat)} (h : LstAt 2 pxR w A n c l) (hq : q < n) : ∃ g o a m, A = some ⟨g, o, none⟩ ∧ g < w.heap.size ∧ l[q]? = some (a, m) ∧ w.cell? ⟨g, o + q * 2, none⟩ = some (.int .u32 (a : Int)) ∧ w.cell? ⟨g, o + q * 2 + 1, none⟩ = some (.int .i64 (m : Int)) := by
 obtain ⟨h1, h2, h3, h4⟩ := h; obtain ⟨g, o, rfl, hg, hc⟩ := h4 (by omega); have hx : l[q]? = some l[q] := List.getElem?_eq_getElem (by omega); obtain ⟨vs, hl, rfl, hcs⟩ := hc q _ hx; exact ⟨g, o, _, _, rfl, hg, hx, hcs 0 _ rfl, hcs 1 _ rfl⟩
def atR (w : World) (vs : List Value) (x : AT) : Prop := AtR w x (.agg vs.toArray)
def AtOk (x : AT) : Prop := numS x.path ≤ 10000 ∧ x.comms.length ≤ 10000
structure TrT (F : Nat → Prop) (w : World) (g : Nat) (t : Tr AT) : Prop where
  root : Blk w g 215 #[trPtr t]
  tree : TrA 9 319 F atR w t
  gF : ¬ F g
  gB : g ∉ trB t
  low : ∀ k, F k → k < w.heap.size
  ok : ∀ z ∈ trL t, AtOk z.2.2
  cnt : trCnt t ≤ 100000
theorem TrT.chg {F S : Nat → Prop} {w w' : World} {g : Nat} {t : Tr AT} (h : TrT F w g t) (hc : ChgS S w w') (hs : ∀ k ∈ trB t, ¬ S k) (hF : ∀ k, F k → ¬ S k) (hg : ¬ S g) : TrT F w' g t :=
 ⟨chg_blk hc h.root hg, h.tree.chg hc hs hF, h.gF, h.gB, fun k hk => Nat.lt_of_lt_of_le (h.low k hk) hc.size, h.ok, h.cnt⟩
theorem TrT.below {F : Nat → Prop} {w w' : World} {g : Nat} {t : Tr AT} (h : TrT F w g t) (hb : Below w.heap.size w w') : TrT F w' g t := h.chg (S := fun _ => False) (chg_below hb) (by simp) (by simp) (by simp)
set_option maxRecDepth 100000 in
set_option maxHeartbeats 4000000 in
theorem putnilA_any (a n : Nat) (vh vo : Int) (vA : Option Addr) (vn vc : Nat) (vp vm vf vs vi : Int) (vB : Option Addr) (vk vd : Nat) (w : World) :
  Calls Tryz.prog 279 #[.pointer none, .agg #[.int .u32 (a : Int), .int .i64 (n : Int)], .agg #[.int .i64 vh, .int .i64 vo, .slice vA vn vc, .int .u32 vp, .int .u32 vm, .int .u32 vf, .int .u32 vs, .int .u32 vi, .slice vB vk vd]] w fun e w' => ∃ b, e = .returned (.pointer (some ⟨b, 0, none⟩)) ∧ w.heap.size ≤ b ∧ Blk w' b 319 (ndC a n [.int .i64 vh, .int .i64 vo, .slice vA vn vc, .int .u32 vp, .int .u32 vm, .int .u32 vf, .int .u32 vs, .int .u32 vi, .slice vB vk vd] true 1 (.pointer none) (.pointer none)) ∧ Below w.heap.size w w' := by
 have HB := hide (blkBelow3q w (.cells #[.int .u32 (a : Int), .int .i64 (n : Int)] 24) (.cells #[.int .i64 vh, .int .i64 vo, .slice vA vn vc, .int .u32 vp, .int .u32 vm, .int .u32 vf, .int .u32 vs, .int .u32 vi, .slice vB vk vd] 28) (.cells (ndC a n [.int .i64 vh, .int .i64 vo, .slice vA vn vc, .int .u32 vp, .int .u32 vm, .int .u32 vf, .int .u32 vs, .int .u32 vi, .slice vB vk vd] true 1 (.pointer none) (.pointer none)) 319)); have HK : Hid (Blk (((w.alloc (.cells #[.int .u32 (a : Int), .int .i64 (n : Int)] 24)).alloc (.cells #[.int .i64 vh, .int .i64 vo, .slice vA vn vc, .int .u32 vp, .int .u32 vm, .int .u32 vf, .int .u32 vs, .int .u32 vi, .slice vB vk vd] 28)).alloc (.cells (ndC a n [.int .i64 vh, .int .i64 vo, .slice vA vn vc, .int .u32 vp, .int .u32 vm, .int .u32 vf, .int .u32 vs, .int .u32 vi, .slice vB vk vd] true 1 (.pointer none) (.pointer none)) 319)) (w.heap.size + 1 + 1) 319 (ndC a n [.int .i64 vh, .int .i64 vo, .slice vA vn vc, .int .u32 vp, .int .u32 vm, .int .u32 vf, .int .u32 vs, .int .u32 vi, .slice vB vk vd] true 1 (.pointer none) (.pointer none))) := hide (blk_new' _ _ (by simp))
 go_enter Tryz.func279, Tryz.ntmps279
 go_wp2; go_ret; exact ⟨w.heap.size + 1 + 1, rfl, by omega, HK.out, HB.out⟩
theorem atok_norm {X : AT} (h : AtOk X) : AtOk (normA X) := by
 refine ⟨?_, ?_⟩
 ·show numS (if attB X.has 2 then normS X.path else []) ≤ 10000; split
  ·have := numS_norm X.path; have := h.1; omega
  ·simp [numS]
 ·show (if attB X.has 8 then setOf X.comms else []).length ≤ 10000; split
  ·have := setOf_len X.comms; have := h.2; omega
  ·simp
set_option maxRecDepth 100000 in
set_option maxHeartbeats 4000000 in
theorem pfirst_seq (A : Option Addr) (n c x : Nat) (r : List Nat) (l : List SG) (w : World) (h : LstAt 2 sgR w A n c (⟨2, x :: r⟩ :: l)) :
    Calls Tryz.prog 276 #[.slice A n c] w fun e w' => e = .returned (.tuple #[.int .u32 (x : Int), .bool true]) ∧ w' = w := by
  have hln := h.1; have hn0 : 0 < n := (by rw [← hln]; simp)
  obtain ⟨g, o, b, B, m, d, r2, rfl, hg, hx, hr, hc0, hc1⟩ := SGat h hn0; simp only [List.getElem?_cons_zero, Option.some.injEq, SG.mk.injEq] at hx; obtain ⟨rfl, rfl⟩ := hx; have hm0 : 0 < m := (by rw [← hr.1]; simp)
  obtain ⟨g2, o2, y, hB, hg2, hy, hy2, hc2⟩ := hr.at_ hm0; subst hB; simp only [List.getElem?_cons_zero, Option.some.injEq] at hy; subst hy; have k0 : w.cell? ⟨g, o, none⟩ = some (.int .i64 2) := (by simpa using hc0)
  have k1 : w.cell? ⟨g, o + 1, none⟩ = some (.slice (some ⟨g2, o2, none⟩) m d) := (by simpa using hc1)
  have k2 : w.cell? ⟨g2, o2, none⟩ = some (.int .u32 (x : Int)) := (by simpa using hc2)
  have e1 : ((n : Int) == 0) = false := (by simp; omega)
  have e2 : ((m : Int) == 0) = false := (by simp; omega)
  have n0 : (0 : Int) < (n : Int) := (by omega)
  have m0 : (0 : Int) < (m : Int) := (by omega)
  have HEnd : Hid (Calls Tryz.prog 355 #[.slice (some ⟨g, o, none⟩) n c, .bool false] w fun e w' => e = .returned (.tuple #[.int .u32 (x : Int), .bool true]) ∧ w' = w) := hide (by
    clear h hc0 hc1 hc2 hr hln
    go_enter Tryz.func355, Tryz.ntmps355
    go_wp2
    go_ret2
    exact ⟨rfl, rfl⟩)
  clear h hc0 hc1 hc2 hr hln k0 k1 k2
  go_enter Tryz.func276, Tryz.ntmps276
  go_wp2_with fail
  refine HEnd.out.mono ?_; rintro e w2 ⟨rfl, rfl⟩; go_wp2
  go_ret2
  exact ⟨rfl, rfl⟩
set_option maxRecDepth 100000 in
set_option maxHeartbeats 4000000 in
theorem same1_eq (b : Int) (B1 B2 : Option Addr) (m1 d1 m2 d2 : Nat) (r : List Nat) (w : World) (h1 : U32s w B1 m1 d1 r) (h2 : U32s w B2 m2 d2 r) :
  Calls Tryz.prog 444 #[.agg #[.int .i64 b, .slice B1 m1 d1], .agg #[.int .i64 b, .slice B2 m2 d2]] w fun e w' => e = .returned (.bool true) ∧ Below w.heap.size w w' := by
 have hb : Below w.heap.size w ((w.alloc (.cells #[.int .i64 b, .slice B1 m1 d1] 99)).alloc (.cells #[.int .i64 b, .slice B2 m2 d2] 99)) := ((Below.refl _ w).alloc (Nat.le_refl _) _).alloc (by simp) _; have HEq := hide (slEqual_any B1 m1 d1 r B2 m2 d2 r _ (h1.below hb) (h2.below hb)); have HB := hide hb; clear h1 h2 hb
 go_enter Tryz.func444, Tryz.ntmps444
 go_wp2_with fail
 refine HEq.out.mono ?_; rintro e w3 ⟨rfl, hb3⟩; have HB3 := hide (btr HB.out hb3); clear hb3; simp only [decide_true]; go_wp2; go_ret; exact ⟨rfl, HB3.out⟩
set_option maxRecDepth 100000 in
set_option maxHeartbeats 8000000 in
theorem eqf_eq (A B : Option Addr) (n c m d : Nat) (l : List SG) (w : World) (h : LstAt 2 sgR w A n c l) (h' : LstAt 2 sgR w B m d l) (hn2 : n ≤ 100000) :
  Calls Tryz.prog 443 #[.slice A n c, .slice B m d, .func (.func 444) #[] #[]] w fun e w' => e = .returned (.bool true) ∧ Below w.heap.size w w' := by
 obtain rfl : n = m := h.1.symm.trans h'.1; have hnc := h.2.1; have hmx := h.2.2.1; have hnd := h'.2.1; have hmx2 := h'.2.2.1; unfold maxLen at hmx hmx2; have HL1 := hide h; have HL2 := hide h'; clear h h'
 go_enter Tryz.func443, Tryz.ntmps443
 go_wp2
 go_loopw [17] (fun iv wr => ∃ i : Nat, i ≤ n ∧ iv = .int .i64 (i : Nat) ∧ Below w.heap.size w wr) (fun iv _ => n - (intOf iv).toNat)
 case atStart => exact ⟨0, Nat.zero_le _, rfl, Below.refl _ _⟩
 case round =>
  obtain ⟨i, hi, rfl, hbel⟩ := hrel; have HBe := hide hbel; have hs1 := hbel.size; by_cases hlt : i < n
  ·obtain ⟨g, o, b, B1, m1, d1, r, rfl, hg, hx, hr1, hz0, hz1⟩ := SGat (HL1.out.below sgMono hbel) hlt; obtain ⟨g2, o2, b2, B2, m2, d2, r2, rfl, hg2, hx2, hr2, hy0, hy1⟩ := SGat (HL2.out.below sgMono hbel) hlt; rw [hx] at hx2; simp only [Option.some.injEq, SG.mk.injEq] at hx2; obtain ⟨rfl, rfl⟩ := hx2; have hb2 : Below wr.heap.size wr ((wr.alloc (.cells #[.int .i64 b, .slice B1 m1 d1] 99)).alloc (.cells #[.int .i64 b, .slice B2 m2 d2] 99)) := ((Below.refl _ wr).alloc (Nat.le_refl _) _).alloc (by simp) _; have HB2 := hide (HBe.out.trans (hb2.mono hs1)); have HSa := hide (same1_eq b B1 B2 m1 d1 m2 d2 r _ (hr1.below hb2) (hr2.below hb2)); have i1 : (i : Int) < (n : Int) := (by omega)
   have i0 : (0 : Int) ≤ (i : Int) := (by omega)
   have hwi : IntKind.i64.wrap ((i : Int) + 1) = (i : Int) + 1 := (by rw [IntKind.wrap_i64]; omega)
   clear hbel hx hr1 hr2 hb2
   go_wp2_with fail
   refine HSa.out.mono ?_; rintro e w3 ⟨rfl, hb3⟩; have HB3 := hide (btr HB2.out hb3); clear hb3 hz0 hz1 hy0 hy1; go_wp2
   go_roundw
   case rel => exact ⟨i + 1, by omega, by go_num, HB3.out⟩
   case measure => simp [intOf]; omega
  ·obtain rfl : i = n := (by omega)
   have e1 : decide ((i : Int) < (i : Int)) = false := (by simp)
   clear hbel hlt; go_wp2; go_ret; exact ⟨rfl, HBe.out⟩
set_option maxRecDepth 100000 in
theorem psameC_eq (A B : Option Addr) (n c m d : Nat) (l : List SG) (w : World) (h : LstAt 2 sgR w A n c l) (h' : LstAt 2 sgR w B m d l) (hn2 : n ≤ 100000) :
  Calls Tryz.prog 423 #[.slice A n c, .slice B m d] w fun e w' => e = .returned (.bool true) ∧ Below w.heap.size w w' := by
 have H := hide (eqf_eq A B n c m d l w h h' hn2); clear h h'
 go_enter Tryz.func423, Tryz.ntmps423
 go_wp2_with fail
 refine H.out.mono ?_; rintro e w3 ⟨rfl, hb3⟩; have HB3 := hide hb3; clear hb3; go_wp2; go_ret; exact ⟨rfl, HB3.out⟩
set_option maxRecDepth 100000 in
set_option maxHeartbeats 4000000 in
theorem pgood_eq (A : Option Addr) (n c : Nat) (l : List SG) (w : World) (h : LstAt 2 sgR w A n c l) (hno : normS l = l) (hl : ∀ x ∈ l, 1 ≤ x.r.length ∧ x.r.length ≤ 255) (hn : n ≤ 100) (hnum : numS l ≤ 10000) :
  Calls Tryz.prog 445 #[.slice A n c] w fun e w' => e = .returned (.bool true) ∧ Below w.heap.size w w' := by
 have hnc := h.2.1; have hmx := h.2.2.1; unfold maxLen at hmx; have HLs := hide h; have HNo := hide hno; have HL := hide hl; clear h hno hl
 go_enter Tryz.func445, Tryz.ntmps445
 go_wp2
 go_loopw [7] (fun iv wr => ∃ i : Nat, i ≤ n ∧ iv = .int .i64 (i : Nat) ∧ Below w.heap.size w wr) (fun iv _ => n - (intOf iv).toNat)
 case atStart => exact ⟨0, Nat.zero_le _, rfl, Below.refl _ _⟩
 case round =>
  obtain ⟨i, hi, rfl, hbel⟩ := hrel; have HBe := hide hbel; have hs1 := hbel.size; by_cases hlt : i < n
  ·obtain ⟨g, o, b, B1, m1, d1, r, rfl, hg, hx, hr1, hz0, hz1⟩ := SGat (HLs.out.below sgMono hbel) hlt; obtain ⟨hr3, hr4⟩ := HL.out _ (List.mem_of_getElem? hx); have hrl := hr1.1; have hr5 : r.length = m1 := hrl; have e1 : decide ((m1 : Int) < 1) = false := decide_eq_false (by simp only at hr3; omega); have e2 : decide (255 < (m1 : Int)) = false := decide_eq_false (by simp only at hr4; omega); have i1 : (i : Int) < (n : Int) := (by omega)
   have i0 : (0 : Int) ≤ (i : Int) := (by omega)
   have hwi : IntKind.i64.wrap ((i : Int) + 1) = (i : Int) + 1 := (by rw [IntKind.wrap_i64]; omega)
   have HBx : Hid (∀ o1 : Obj, Below w.heap.size w (wr.alloc o1)) := hide (fun o1 => HBe.out.alloc hs1 o1); clear hbel hx hr1; go_wp2
   go_roundw
   case rel => exact ⟨i + 1, by omega, by go_num, HBx.out _⟩
   case measure => simp [intOf]; omega
  ·obtain rfl : i = n := (by omega)
   have e1 : decide ((i : Int) < (i : Int)) = false := (by simp)
   have e2 : decide ((i : Int) ≤ 100) = true := decide_eq_true (by omega); have HNm := hide (norm_any A i c l wr (HLs.out.below sgMono hbel) hnum); clear hbel hlt
   go_wp2_with fail
   refine HNm.out.mono ?_; intro e w3 hmv; unfold SegP at hmv; obtain ⟨A6, n6, c6, xs6, rfl, hl6, hb3⟩ := hmv; rw [HNo.out] at hl6; have HB3 := hide (HBe.out.trans (hb3.mono hs1)); have hn6 := (hl6.lst (by decide)).1; have hli := HLs.out.1; have HSa := hide (psameC_eq A6 A n6 c6 i c l w3 (hl6.lst (by decide)) (HLs.out.below sgMono HB3.out) (by omega)); clear hl6 hb3
   go_wp2_with fail
   refine HSa.out.mono ?_; rintro e w4 ⟨rfl, hb4⟩; have HB4 := hide (btr HB3.out hb4); clear hb4; go_wp2; go_ret; exact ⟨rfl, HB4.out⟩
end Go.Proofs.YtmffmkjgdjgmeaaGreat
