import Derived.Test.YtmffmkjgdjgmeaaGreatRl10
set_option linter.unusedSimpArgs false
set_option linter.unusedVariables false
namespace Go.Proofs.YtmffmkjgdjgmeaaGreat
open Go.RowKit Go.WideShapes Go.ChangeShapes
attribute [local go_sem] Oper.semAt_some
theorem cutA_idem (x : AT) : cutA (cutA x) = cutA x := by
 unfold cutA; simp only [cutP_cut, List.take_take, Nat.min_self]
theorem atok_cutA (X : AT) : AtOk (cutA X) := ⟨by have := cutP_num X.path; show numS (cutP X.path) ≤ 10000; omega, by show (X.comms.take 260).length ≤ 10000; rw [List.length_take]; omega⟩
def WantS (wb g : Nat) (t : Tr AT) (W : AT) (w : World) : Prop := ∃ A n c B m d, ∃ SW : Nat → Prop, Blk w wb 28 (aC W A n c B m d) ∧ FrS SW none (fun w => atR w [.int .i64 W.has, .int .i64 W.org, .slice A n c, .int .u32 W.hop, .int .u32 W.med, .int .u32 W.pref, .int .u32 W.aas, .int .u32 W.aid, .slice B m d] W) w ∧ ∀ j, SW j → j < w.heap.size ∧ j ≠ g ∧ j ∉ trB t ∧ j ≠ wb
theorem WantS.keep {wb g : Nat} {t : Tr AT} {W : AT} {w w' : World} (h : WantS wb g t W w) (hb : Below w.heap.size w w') : WantS wb g t W w' := by
 obtain ⟨A, n, c, B, m, d, SW, h1, h2, h3⟩ := h; exact ⟨A, n, c, B, m, d, SW, h1.below hb h1.lt, frs_chg h2 (chg_below (S := fun _ => False) hb) (fun _ _ h => h), fun j hj => ⟨Nat.lt_of_lt_of_le (h3 j hj).1 hb.size, (h3 j hj).2⟩⟩
theorem WantS.fed {F : Nat → Prop} {wb g : Nat} {t t2 : Tr AT} {W : AT} {w w' : World} (h : WantS wb g t W w) (hT : TrT F w g t) (hc : ChgS (fun j => j = g ∨ j ∈ trB t) w w') (hj : ∀ j ∈ trB t2, j ∈ trB t ∨ w.heap.size ≤ j) : WantS wb g t2 W w' := by
 obtain ⟨A, n, c, B, m, d, SW, h1, h2, h3⟩ := h; refine ⟨A, n, c, B, m, d, SW, trt_keepB hT hc h1 (by decide) (by decide), frs_chg h2 hc (fun k hk hw => hw.elim (h3 k hk).2.1 (h3 k hk).2.2.1), fun j hj2 => ⟨Nat.lt_of_lt_of_le (h3 j hj2).1 hc.size, (h3 j hj2).2.1, fun hm => (hj j hm).elim (h3 j hj2).2.2.1 (fun h => by have := (h3 j hj2).1; omega), (h3 j hj2).2.2.2⟩⟩
theorem WantS.put {wb g b : Nat} {t : Tr AT} {W : AT} {w : World} {A : Option Addr} {n c : Nat} {B : Option Addr} {m d : Nat} {v0 v1 v2 v3 v4 v5 v6 v7 v8 : Value} (h : FrB b none (fun w => AtR w W (.agg #[.int .i64 W.has, .int .i64 W.org, .slice A n c, .int .u32 W.hop, .int .u32 W.med, .int .u32 W.pref, .int .u32 W.aas, .int .u32 W.aid, .slice B m d])) w) (hk : Blk w wb 28 #[v0, v1, v2, v3, v4, v5, v6, v7, v8]) (hw : wb < b) (hg : g < b) (ht : ∀ j ∈ trB t, j < b) : WantS wb g t W (w.setCells wb 0 (aL W A n c B m d)) := by
 refine ⟨A, n, c, B, m, d, fun k => b ≤ k ∧ k < w.heap.size, blk_sets (aL W A n c B m d) [] [v0, v1, v2, v3, v4, v5, v6, v7, v8] hk rfl, frs_chg (frs_of_frb h) (chg_sets (S := fun j => j = wb) rfl _ 0) (fun k hk e => by have := hk.1; omega), fun j hj => ⟨?_, ?_, ?_, ?_⟩⟩
 ·exact Nat.lt_of_lt_of_le hj.2 (chg_sets (S := fun j => j = wb) rfl _ 0).size
 ·intro e; have := hj.1; omega
 ·intro e; have := ht j e; have := hj.1; omega
 ·intro e; have := hj.1; omega
theorem lkp_fed {Y W : AT} {OK b : Bool} {L L2 : List (Nat × Nat × AT)} {P1 P2 : List (Nat × Int)} {pa : Nat} {pn : Int} (hs : L.Pairwise PLt) (ha : pa < 4294967296) (hL2 : L2 = (fedF Y OK L (P1.map natP) (P2.map natP)).1) (h1 : ∀ x ∈ P1, goodB x.1 x.2 = true ∧ x.1 < 4294967296) (h2 : ∀ x ∈ P2, goodB x.1 x.2 = true ∧ x.1 < 4294967296) (inv : LKp pa pn L = if b = true then some W else none) :
  LKp pa pn L2 = if (if (pa, pn) ∈ P2 then OK else (b && decide ((pa, pn) ∉ P1))) = true then some (if (pa, pn) ∈ P2 then Y else W) else none := by
 subst hL2; unfold LKp at inv ⊢
 cases hg : goodB pa pn with
 | true =>
  rw [hg, if_pos rfl] at inv; rw [if_pos rfl, fedF_lk hs, inv]; by_cases m2 : (pa, pn) ∈ P2
  ·rw [if_pos ((natP_mem hg ha h2).2 m2), if_pos m2, if_pos m2]
  ·rw [if_neg (fun h => m2 ((natP_mem hg ha h2).1 h)), if_neg m2, if_neg m2]; by_cases m1 : (pa, pn) ∈ P1
   ·rw [if_pos ((natP_mem hg ha h1).2 m1)]; simp [m1]
   ·rw [if_neg (fun h => m1 ((natP_mem hg ha h1).1 h))]; simp [m1]
 | false =>
  rw [hg, if_neg (by decide)] at inv; rw [if_neg (by decide)]; have m2 : (pa, pn) ∉ P2 := fun h => by have := (h2 _ h).1; rw [hg] at this; cases this
  have hb : b = false := by
   cases b with
   | false => rfl
   | true => rw [if_pos rfl] at inv; cases inv
  subst hb; rw [if_neg m2]
  rfl
theorem pz_lt {w : World} {A : Option Addr} {n c : Nat} {l : List (Nat × Int)} (h : LstAt 2 pzR w A n c l) : ∀ x ∈ l, x.1 < 4294967296 := by
 intro x hx; obtain ⟨i, hi⟩ := List.getElem?_of_mem hx; have hil := (List.getElem?_eq_some_iff.1 hi).1; have h1 := h.1; obtain ⟨b, o, e, hb, hc⟩ := h.2.2.2 (by omega); obtain ⟨vs, hl, ⟨rfl, hz⟩, hcs⟩ := hc i x hi; exact hz.1
theorem UPD.at_ {w : World} {A : Option Addr} {n c i : Nat} {L : List UPD} (h : LstAt 11 updQ w A n c L) (hi : i < n) : ∃ g o u, A = some ⟨g, o, none⟩ ∧ updQ w u.cs u ∧ L[i]? = some u ∧ ∀ (j : Nat) (v : Value), u.cs[j]? = some v → w.cell? ⟨g, o + i * 11 + j, none⟩ = some v := by
 obtain ⟨h1, h2, h3, h4⟩ := h; obtain ⟨g, o, e, hg, hc⟩ := h4 (by omega); have hx : L[i]? = some L[i] := List.getElem?_eq_getElem (by omega); obtain ⟨vs, hl, hq, hcs⟩ := hc i _ hx; have e2 := hq.1; subst e2; exact ⟨g, o, _, e, hq, hx, hcs⟩
theorem dec_push (p x : Nat × Int) (l : List (Nat × Int)) : decide (p ∉ l ++ [x]) = (decide (p ∉ l) && !decide (p = x)) := by
 by_cases h : p ∈ l <;> by_cases e : p = x <;> simp [h, e]
theorem ite_iff {α : Type} {p q : Prop} [Decidable p] [Decidable q] {a b c : α} (h : p ↔ q) (e : c = if q then a else b) : c = if p then a else b := by
 rw [e]; by_cases hq : q
 ·rw [if_pos hq, if_pos (h.2 hq)]
 ·rw [if_neg hq, if_neg (fun x => hq (h.1 x))]
theorem refAcc_eq {own ax : Nat} {X Y : AT} {q : Bool} {v : Value} {w : World} (hY : accF own ax X = (Y, q)) (hv : AtR w X v) (hn : numS X.path ≤ 10000) (hn2 : X.path.length ≤ 100000) (hm : X.comms.length ≤ 10000) :
  Calls Tryz.prog 28 #[.int .u32 (own : Int), .int .u32 (ax : Int), v] w fun e w' => ∃ v', e = .returned (.tuple #[v', .bool q]) ∧ AtO w.heap.size w' Y v' ∧ Below w.heap.size w w' := by
 have h := refAcc27_any own ax X v w hv hn hn2 hm; rw [hY] at h; exact h
theorem asame_any (X Y : AT) (v v' : Value) (w : World) (hv : AtR w X v) (hv' : AtR w Y v') (hn : X.path.length ≤ 100000) (e : X = Y) : Calls Tryz.prog 30 #[v, v'] w (GoodP true w) := by
 refine (refASany_any X Y v v' w hv hv' hn).mono ?_; rintro e2 w' ⟨q, rfl, hq, hb⟩; exact ⟨by rw [hq.2 e], hb⟩
set_option maxRecDepth 100000 in
set_option maxHeartbeats 16000000 in
theorem ribinLast_any (ax : Nat) (Al : Option Addr) (nl cl : Nat) (L : List UPD) (pa : Nat) (pn : Int) (w : World) (hl : LstAt 11 updQ w Al nl cl L) (hpa : pa < 4294967296) (hp1 : -9223372036854775808 ≤ pn) (hp2 : pn ≤ 9223372036854775807) :
    Calls Tryz.prog 5 #[.int .u32 (ax : Int), .slice Al nl cl, .agg #[.int .u32 (pa : Int), .int .i64 pn]] w (GoodP true w) := by
  obtain ⟨w0, hw0⟩ : ∃ w0, w.alloc (.cells #[.int .u32 (pa : Int), .int .i64 pn] 24) = w0 := ⟨_, rfl⟩
  have hb0 : Below w.heap.size w w0 := hw0 ▸ blkBelow1 w _; have HP0 : Hid (Blk w0 w.heap.size 24 #[.int .u32 (pa : Int), .int .i64 pn]) := hide (hw0 ▸ Blk.new w _ _); have HL := hide (fun W (hb : Below w.heap.size w W) => hl.below updQ_mono hb); have HNw := hide (ribinNew_any 65000 ax w0); have HPa := hide hpa; have HPn := hide (And.intro hp1 hp2); have hln := hl.1; have hmx := hl.2.2.1; have hlc := hl.2.1; unfold maxLen at hmx; have HB0 := hide hb0; have HW0 := hide hw0; have hs0 := hb0.size; clear hw0 hb0 hl hpa hp1 hp2 hln
  go_enter Tryz.func5, Tryz.ntmps5
  go_wp2_with fail
  rw [HW0.out]; refine HNw.out.mono ?_; rintro e w1 ⟨r, g, rfl, hR1, hg1, hgs, hgR, hb1⟩; obtain ⟨w2, hw2⟩ : ∃ W, w1.alloc (.cells zeroA 28) = W := ⟨_, rfl⟩
  have hb2 : Below w1.heap.size w1 w2 := hw2 ▸ blkBelow1 w1 _; have HWb : Hid (Blk w2 w1.heap.size 28 zeroA) := hide (hw2 ▸ Blk.new w1 _ _); have HR2 := hide (hR1.below hb2 hR1.lt); have HG2 := hide (hg1.below hb2 hg1.lt); have HB2 := hide (HB0.out.trans ((hb1.trans (hb2.mono hb1.size)).mono HB0.out.size)); have HP2 := hide ((HP0.out.below hb1 HP0.out.lt).below hb2 (HP0.out.below hb1 HP0.out.lt).lt); have HW2 := hide hw2; have hs1 := hb1.size; have hs2 := hb2.size; have hrl := hR1.lt; have HT2 : Hid (TrT (fun _ => False) w2 g (.nil : Tr AT)) := hide ⟨HG2.out, TrA.nil_, fun h => h, by simp [trB], fun k h => h.elim, by simp [trL], by simp [trCnt]⟩; obtain ⟨wb, hwb⟩ : ∃ b, w1.heap.size = b := ⟨_, rfl⟩
  have HWt : Hid (WantS wb g (.nil : Tr AT) AT0 w2) := hide ⟨none, 0, 0, none, 0, 0, fun _ => False, hwb ▸ HWb.out, (fun w2 _ => ⟨none, 0, 0, none, 0, 0, rfl, LstAt.none_, ⟨rfl, Nat.le_refl _, Nat.zero_le _, by simp [AT0], fun h => absurd h (by omega)⟩⟩), fun j h => h.elim⟩; have hwbs : w.heap.size ≤ wb := (by omega)
  have hwg : w.heap.size ≤ g := (by omega)
  have hwr : w.heap.size ≤ r := (by omega)
  have hgb : g < wb := (by omega)
  clear hw2 hR1 hg1 hb1 hb2 hgs hgR; go_wp2; rw [HW2.out]
  go_loopw [9, 10] (fun vb iv wr => ∃ (i : Nat) (b : Bool) (t : Tr AT) (F : Nat → Prop) (W : AT), i ≤ nl ∧ i ≤ 20 ∧ iv = .int .i64 (i : Nat) ∧ vb = .bool b ∧ trCnt t ≤ 30 * i ∧ Blk wr r 120 #[.int .u32 ((65000 : Nat) : Int), .int .u32 0, .int .u32 (ax : Int), .int .i64 0, .bool false, .string ⟨#[]⟩, .string ⟨#[]⟩, .string ⟨#[]⟩, .bool false, .string ⟨#[]⟩, .string ⟨#[]⟩, .string ⟨#[]⟩, .bool false, .pointer (some ⟨g, 0, none⟩)] ∧ TrT F wr g t ∧ (∀ j ∈ trB t, w.heap.size ≤ j) ∧ (∀ j, F j → j ≠ wb) ∧ WantS wb g t W wr ∧ LKp pa pn (trL t) = (if b = true then some W else none) ∧ (b = true → normA W = W) ∧ Below w.heap.size w wr ∧ Blk wr w.heap.size 24 #[.int .u32 (pa : Int), .int .i64 pn]) (fun _ iv _ => 20 - (intOf iv).toNat)
  case atStart => exact ⟨0, false, .nil, fun _ => False, AT0, Nat.zero_le _, Nat.zero_le _, rfl, rfl, Nat.zero_le _, HR2.out, HT2.out, fun j hj => by simp [trB] at hj, fun j h => h.elim, HWt.out, (by unfold LKp; simp [trL, lkL]), (fun h => nomatch h), HB2.out, HP2.out⟩
  case round =>
    obtain ⟨i, b, t, F, W, hi1, hi2, rfl, rfl, hcn, hrr, htt, htb, hFw, hwt, hinv, hnrm, hbl, hpx⟩ := hrel; obtain ⟨wO, hwO⟩ : ∃ x, x = wr := ⟨_, rfl⟩
    subst hwO; have HCn := hide hcn; have HR := hide hrr; have HT := hide htt; have HTb := hide htb; have HFw := hide hFw; have HWt := hide hwt; have HInv := hide hinv; have HNr := hide hnrm; have HBl := hide hbl; have HP := hide hpx; have hsO := hbl.size; clear hcn hrr htt htb hFw hwt hinv hnrm hbl hpx HWb HR2 HG2 HT2 HB2 HP2; by_cases hlt : i < nl ∧ i < 20
    · obtain ⟨hlt1, hlt2⟩ := hlt; obtain ⟨gl, ol, u, hAl, hq, hu, hcs⟩ := UPD.at_ (HL.out wO HBl.out) hlt1; have q1 : (i : Int) < (nl : Int) := (by omega)
      have q2 : (i : Int) < 20 := (by omega)
      have q0 : (0 : Int) ≤ (i : Int) := (by omega)
      have hwq : IntKind.i64.wrap ((i : Int) + 1) = (i : Int) + 1 := (by rw [IntKind.wrap_i64]; omega)
      obtain ⟨A1, n1, c1, l1, X, A, k, c, B, m, d, A2, n2, c2, l2⟩ := u; obtain ⟨_, hur, hop⟩ := hq; have hU : UpM l1 l2 X A1 n1 c1 A k c B m d A2 n2 c2 wO := ⟨hur.gone, hur.here, A, k, c, B, m, d, rfl, hur.path, hur.comms⟩
      have f0 : wO.cell? ⟨gl, ol + i * 11, none⟩ = some (.slice A1 n1 c1) := hcs 0 _ rfl; have f1 : wO.cell? ⟨gl, ol + i * 11 + 1, none⟩ = some (.int .i64 X.has) := hcs 1 _ rfl; have f2 : wO.cell? ⟨gl, ol + i * 11 + 2, none⟩ = some (.int .i64 X.org) := hcs 2 _ rfl; have f3 : wO.cell? ⟨gl, ol + i * 11 + 3, none⟩ = some (.slice A k c) := hcs 3 _ rfl; have f4 : wO.cell? ⟨gl, ol + i * 11 + 4, none⟩ = some (.int .u32 X.hop) := hcs 4 _ rfl; have f5 : wO.cell? ⟨gl, ol + i * 11 + 5, none⟩ = some (.int .u32 X.med) := hcs 5 _ rfl; have f6 : wO.cell? ⟨gl, ol + i * 11 + 6, none⟩ = some (.int .u32 X.pref) := hcs 6 _ rfl; have f7 : wO.cell? ⟨gl, ol + i * 11 + 7, none⟩ = some (.int .u32 X.aas) := hcs 7 _ rfl; have f8 : wO.cell? ⟨gl, ol + i * 11 + 8, none⟩ = some (.int .u32 X.aid) := hcs 8 _ rfl; have f9 : wO.cell? ⟨gl, ol + i * 11 + 9, none⟩ = some (.slice B m d) := hcs 9 _ rfl; have f10 : wO.cell? ⟨gl, ol + i * 11 + 10, none⟩ = some (.slice A2 n2 c2) := hcs 10 _ rfl; obtain ⟨Y0, hY0⟩ : ∃ Y, cutA X = Y := ⟨_, rfl⟩
      obtain ⟨P1, hP1⟩ : ∃ P, l1.take 30 = P := ⟨_, rfl⟩
      obtain ⟨P2, hP2⟩ : ∃ P, l2.take 30 = P := ⟨_, rfl⟩
      have HF1 := hide (few10G_any A1 A2 n1 c1 n2 c2 l1 l2 X A k c B m d wO hU); rw [hY0, hP1, hP2] at HF1; have HOk : Hid (AtOk Y0) := hide (hY0 ▸ atok_cutA X); have HPl : Hid (Y0.path.length ≤ 100000) := hide (by rw [← hY0]; exact Nat.le_trans (cutP_len X.path) (by decide)); have HCc : Hid (cutA Y0 = Y0) := hide (by rw [← hY0]; exact cutA_idem X); have HHp : Hid (∃ h : Nat, Y0.hop = h) := hide (by rw [← hY0]; exact hop); have HT1 : Hid (P1.take 30 = P1) := hide (by rw [← hP1]; simp [List.take_take]); have HT2 : Hid (P2.take 30 = P2) := hide (by rw [← hP2]; simp [List.take_take]); have HN1 : Hid (P1.length ≤ 30) := hide (by rw [← hP1, List.length_take]; omega); have HN2 : Hid (P2.length ≤ 30) := hide (by rw [← hP2, List.length_take]; omega); have hwbl : wb < wO.heap.size := (by obtain ⟨_, _, _, _, _, _, _, h, _⟩ := HWt.out; exact h.lt)
      have hgl := HT.out.root.lt; have HLo : Hid (∀ j ∈ trB t, j < wO.heap.size) := hide HT.out.tree.mem.lt; clear hU hur hop hY0 hP1 hP2 hu hcs; subst hAl
      go_wp2_with fail
      refine HF1.out.mono ?_; rintro e w3 ⟨A3, n3, c3, A4, n4, c4, B4, m4, d4, A5, n5, c5, rfl, hfr3, hb3⟩; have HFr3 := hide hfr3; have hs3 := hb3.size; obtain ⟨w4, hw4⟩ : ∃ W', w3.alloc (.cells #[.slice A3 n3 c3, .int .i64 Y0.has, .int .i64 Y0.org, .slice A4 n4 c4, .int .u32 Y0.hop, .int .u32 Y0.med, .int .u32 Y0.pref, .int .u32 Y0.aas, .int .u32 Y0.aid, .slice B4 m4 d4, .slice A5 n5 c5] 60) = W' := ⟨_, rfl⟩
      have hb4 : Below w3.heap.size w3 w4 := hw4 ▸ blkBelow1 w3 _; have HU4 : Hid (Blk w4 w3.heap.size 60 #[.slice A3 n3 c3, .int .i64 Y0.has, .int .i64 Y0.org, .slice A4 n4 c4, .int .u32 Y0.hop, .int .u32 Y0.med, .int .u32 Y0.pref, .int .u32 Y0.aas, .int .u32 Y0.aid, .slice B4 m4 d4, .slice A5 n5 c5]) := hide (hw4 ▸ Blk.new w3 _ _); have HB4 : Hid (Below wO.heap.size wO w4) := hide (hb3.trans (hb4.mono hb3.size)); have HB34 := hide hb4; have hs4 := hb4.size; have HUm4 := hide ((hfr3.below hb4).here); have HF2 := hide (few10G_any A3 A5 n3 c3 n5 c5 P1 P2 Y0 A4 n4 c4 B4 m4 d4 w4 HUm4.out); rw [HT1.out, HT2.out, HCc.out] at HF2; have hn3 : n3 ≤ 30 := (by have := HUm4.out.1.1; have := HN1.out; omega)
      have hn5 : n5 ≤ 30 := (by have := HUm4.out.2.1.1; have := HN2.out; omega)
      have HL1 : Hid (P1.length = n3) := hide HUm4.out.1.1; have HL2 : Hid (P2.length = n5) := hide HUm4.out.2.1.1; have HW4 := hide hw4; clear hfr3 hb3 hw4 hb4 f0 f1 f2 f3 f4 f5 f6 f7 f8 f9 f10
      go_upto_region 6 with fail
      rw [HW4.out]; obtain ⟨x0, x1, x2, x3, x4, x5, x6, x7, x8, x9, x10⟩ := blk11 HU4.out
      go_wp2_with fail
      refine HF2.out.mono ?_; rintro e w5 ⟨A6, n6, c6, A7, n7, c7, B7, m7, d7, A8, n8, c8, rfl, hfr5, hb5⟩; have hn6 : n6 ≤ 1000 := (by have := hfr5.here.1.1; have := HN1.out; omega)
      have hn8 : n8 ≤ 30 := (by have := hfr5.here.2.1.1; have := HN2.out; omega)
      have hs5 := hb5.size; have HB5 : Hid (Below wO.heap.size wO w5) := hide (btr HB4.out hb5); have HB35 := hide (btr HB34.out hb5); have HT5 := hide (HT.out.below HB5.out); have HR5 := hide (HR.out.below HB5.out HR.out.lt); have HWt5 := hide (HWt.out.keep HB5.out); have HP5 := hide (HP.out.below HB5.out HP.out.lt); have HU5 := hide (HU4.out.below hb5 HU4.out.lt); obtain ⟨Y, OK, hY⟩ : ∃ Y q, accF 65000 ax Y0 = (Y, q) := ⟨_, _, rfl⟩
      have HFe := hide (FeedG_any 65000 ax r g n6 n8 c6 c8 F (fun j => w4.heap.size ≤ j ∧ j < w5.heap.size) t P1 P2 A6 A8 Y0 A7 n7 c7 B7 m7 d7 Y OK w5 hY HR5.out HT5.out (fun j hj => ⟨hj.2, by intro e; have := hj.1; omega, fun hm => by have := HLo.out j hm; have := hj.1; omega⟩) (frs_of_frb hfr5) HOk.out HPl.out HHp.out hn6 (by omega) (by have := HCn.out; omega)); have HY := hide hY; clear hfr5 hb5 hY x0 x1 x2 x3 x4 x5 x6 x7 x8 x9 x10
      go_wp2_with fail
      refine HFe.out.mono ?_; rintro e w6 ⟨A9, n9, c9, F2, t2, rfl, hT2, hj2, hcn2, hr2, hch, hF2, hcase⟩; have hs6 := hch.size; have HR6 := hide hr2; have HT6 := hide hT2; have HU6 := hide (trt_keepB HT5.out hch HU5.out (by decide) (by decide)); have HP6 := hide (trt_keepB HT5.out hch HP5.out (by decide) (by decide)); have HWt6 := hide (HWt5.out.fed HT5.out hch hj2); have HFr6 : Hid (FrS (fun k => wO.heap.size ≤ k ∧ k < w3.heap.size) none (UpM P1 P2 Y0 A3 n3 c3 A4 n4 c4 B4 m4 d4 A5 n5 c5) w6) := hide (frs_chg (frs_chg (frs_of_frb HFr3.out) (chg_below (S := fun _ => False) HB35.out) (fun _ _ h => h)) hch (fun k hk hw => hw.elim (fun e => by have := hk.1; omega) (fun hm => by have := HLo.out k hm; have := hk.1; omega))); have HBl6 : Hid (Below w.heap.size w w6) := hide (chg_to_below (chg_trans (chg_below (btr HBl.out HB5.out)) hch (fun k h => .inl h)) (Nat.le_refl _) (fun k hk => hk.elim (fun e => by omega) (fun hm => HTb.out k hm))); have HTb6 : Hid (∀ j ∈ trB t2, w.heap.size ≤ j) := hide (fun j hj => (hj2 j hj).elim (HTb.out j) (fun h => by omega)); have HFw6 : Hid (∀ j, F2 j → j ≠ wb) := hide (fun j hj => (hF2 j hj).elim (HFw.out j) (fun h => by omega)); have HCn6 : Hid (trCnt t2 ≤ 30 * (i + 1)) := hide (by have := HCn.out; omega); have HSo : Hid ((trL t).Pairwise PLt) := hide (trL_sorted t HT.out.tree.wf); have HLt6 : Hid (∀ j ∈ trB t2, j < w6.heap.size) := hide hT2.tree.mem.lt; clear hT2 hj2 hcn2 hr2 hch hF2 hn6 hn8; rcases hcase with ⟨hn9, htl⟩ | ⟨hn9, hg1, hg2, htl⟩
      · subst hn9; have HInv6 : Hid (LKp pa pn (trL t2) = if b = true then some W else none) := hide (by rw [htl]; exact HInv.out); clear htl; go_wp2
        go_roundw
        case rel => exact ⟨i + 1, b, t2, F2, W, by omega, by omega, by go_num, rfl, HCn6.out, HR6.out, HT6.out, HTb6.out, HFw6.out, HWt6.out, HInv6.out, HNr.out, HBl6.out, HP6.out⟩
        case measure => simp [intOf]; omega
      · have HZ1 : Hid (∀ x ∈ P1, goodB x.1 x.2 = true ∧ x.1 < 4294967296) := hide (fun x hx => ⟨hg1 x hx, pz_lt HUm4.out.1 x hx⟩); have HZ2 : Hid (∀ x ∈ P2, goodB x.1 x.2 = true ∧ x.1 < 4294967296) := hide (fun x hx => ⟨hg2 x hx, pz_lt HUm4.out.2.1 x hx⟩); have HTl := hide htl; have hz9 : ((n9 : Int) == 0) = false := (by rw [beq_eq_false_iff_ne]; omega)
        clear hg1 hg2 htl; go_wp2; clear hz9 hn9
        go_loopw [9, 14] (fun vb iv wr => ∃ (q : Nat) (b2 : Bool), q ≤ n3 ∧ iv = .int .i64 (q : Nat) ∧ vb = .bool b2 ∧ b2 = (b && decide ((pa, pn) ∉ P1.take q)) ∧ Below w6.heap.size w6 wr) (fun _ iv _ => n3 - (intOf iv).toNat)
        case atStart => exact ⟨0, b, Nat.zero_le _, rfl, rfl, by simp, Below.refl _ _⟩
        case round =>
          obtain ⟨q, b2, hq, rfl, rfl, hb2, hbel⟩ := hrel; have HQ2 := hide hb2; have HBe := hide hbel; have HU9 := hide (HU6.out.below hbel HU6.out.lt); have HP9 := hide (HP6.out.below hbel HP6.out.lt); have hz1 := (frs_here (frs_chg HFr6.out (chg_below (S := fun _ => False) hbel) (fun _ _ h => h))).1; have u0 : wr.cell? ⟨w3.heap.size, 0, none⟩ = some (.slice A3 n3 c3) := HU9.out.cell 0; clear hb2; by_cases hlq : q < n3
          · obtain ⟨g3, o3, a2, m2, e3, hg3, hx, hzz, c0, c1⟩ := PZat hz1 hlq; have F0 : Hid (wr.cell? ⟨g3, o3 + q * 2, none⟩ = some (.int .u32 (a2 : Int))) := hide c0; have F1 : Hid (wr.cell? ⟨g3, o3 + q * 2 + 1, none⟩ = some (.int .i64 m2)) := hide c1; have HTk : Hid (P1.take (q + 1) = P1.take q ++ [(a2, m2)]) := hide (by rw [List.take_add_one, hx]; rfl); have p1 : (q : Int) < (n3 : Int) := (by omega)
            have p0 : (0 : Int) ≤ (q : Int) := (by omega)
            have hwp : IntKind.i64.wrap ((q : Int) + 1) = (q : Int) + 1 := (by rw [IntKind.wrap_i64]; omega)
            obtain ⟨E, hE⟩ : ∃ x, (!((a2 : Int) == (pa : Int) && m2 == pn)) = x := ⟨_, rfl⟩
            have HE := hide hE
            have HEi : Hid (E = !decide ((pa, pn) = (a2, m2))) := hide (by
              rw [← hE]
              congr 1
              rw [Bool.eq_iff_iff, Bool.and_eq_true, beq_iff_eq, beq_iff_eq, decide_eq_true_eq, Prod.mk.injEq]; constructor
              · rintro ⟨h1, h2⟩; exact ⟨by omega, h2.symm⟩
              · rintro ⟨h1, h2⟩; exact ⟨by omega, h2.symm⟩)
            clear hbel hz1 hx hzz c0 c1 hE; subst e3
            cases b2 with
            | true =>
              go_upto_region 11 with fail
              clear u0; have Hmn := hide (show AllMono [(isV (.bool true)), (isV (.bool true)), (isV (ptv w3.heap.size 0)), (isV (.slice (some ⟨g3, o3, none⟩) n3 c3)), (isV (.int .i64 (q : Int))), (isV (ptv g3 (o3 + q * 2))), (isV (.agg #[.int .u32 (a2 : Int), .int .i64 m2])), (isV (.agg #[.int .u32 (pa : Int), .int .i64 pn])), (isV (.bool E)), (isV (.bool E))] from by repeat (first | exact trivial | refine ⟨fun _ _ _ _ h => h, ?_⟩)); refine wp_region_relT 10 _ (by kernel_rfl) (by kernel_rfl) (by kernel_rfl) (by kernel_rfl) (by kernel_rfl) (relMono _ Hmn.out) ⟨?_, ?_, ?_, ?_, ?_, ?_, ?_, ?_, ?_, ?_, trivial⟩ ?_
              · exact relStep_plain rfl fun Ac w5 hp => pureM (.bool true) 9 (hp.out 9 (by rfl))
              · exact relStep_plain rfl fun Ac w5 hp => pureM (.bool true) 54 (hp.d 0)
              · exact rsG 1 true fun Ac w5 hp => pureM (ptv w3.heap.size 0) 11 (hp.out 11 (by rfl))
              · refine rsG 1 true ?_; intro Ac w5 hp; have hb := hp.bel; have hu5 := HU9.out.below hb HU9.out.lt; have x0 : w5.cell? ⟨w3.heap.size, 0, none⟩ = some (.slice (some ⟨g3, o3, none⟩) n3 c3) := hu5.cell 0; exact pure1 (.slice (some ⟨g3, o3, none⟩) n3 c3) 56 (ptv w3.heap.size 0) (hp.d 2)
              · exact rsG 1 true fun Ac w5 hp => pureM (.int .i64 (q : Int)) 14 (hp.out 14 (by rfl))
              · exact rsG 1 true fun Ac w5 hp => pure2 (ptv g3 (o3 + q * 2)) 57 (.slice (some ⟨g3, o3, none⟩) n3 c3) (hp.d 3) 58 (.int .i64 (q : Int)) (hp.d 4)
              · refine rsG 1 true ?_; intro Ac w5 hp; have hb := hp.bel; have f0 : w5.cell? ⟨g3, o3 + q * 2, none⟩ = some (.int .u32 (a2 : Int)) := (hb.cell hg3).trans F0.out; have f1 : w5.cell? ⟨g3, o3 + q * 2 + 1, none⟩ = some (.int .i64 m2) := (hb.cell hg3).trans F1.out; exact pure1 (.agg #[.int .u32 (a2 : Int), .int .i64 m2]) 59 (ptv g3 (o3 + q * 2)) (hp.d 5)
              · refine rsG 1 true ?_; intro Ac w5 hp; have hb := hp.bel; have hx5 := HP9.out.below hb HP9.out.lt; have p0 : w5.cell? ⟨w.heap.size, 0, none⟩ = some (.int .u32 (pa : Int)) := hx5.cell 0; have p1 : w5.cell? ⟨w.heap.size, 1, none⟩ = some (.int .i64 pn) := hx5.cell 1; exact pure1 (.agg #[.int .u32 (pa : Int), .int .i64 pn]) 5 (ptv w.heap.size 0) (hp.out 5 (by rfl))
              · refine rsG 1 true ?_; intro Ac w5 hp; have a60 : Ac.eval (.tmp 60) = .agg #[.int .u32 (a2 : Int), .int .i64 m2] := hp.d 6; have a61 : Ac.eval (.tmp 61) = .agg #[.int .u32 (pa : Int), .int .i64 pn] := hp.d 7; have heq := HE.out; exact relPureX (.bool E) (fun ρ hρ h1 h2 h3 => by rw [hρ] at a60 a61; simp [go_sem, ↓IntWalk.iteOmega, *]; rw [← heq]; by_cases h1 : (a2 : Int) = (pa : Int) <;> by_cases h2 : m2 = pn <;> simp [h1, h2]) rfl
              · exact relStep_plain rfl fun Ac w5 hp => pure2 (.bool E) 55 (.bool true) (hp.d 1) 62 (.bool E) (hp.d 8)
              intro u w8 hb7 hall; have e63 : u 9 = .bool E := relAll_at hall (i := 9) (by decide +kernel); clear hall; simp only [List.drop_succ_cons, List.drop_zero, List.take_succ_cons, List.take_zero, putAll, Act.put, List.setIfInBounds_toArray, List.set_cons_zero, List.set_cons_succ, Nat.zero_add, Nat.reduceAdd, e63]; have HB8 := hide (btr HBe.out hb7); clear hb7
              have HQ8 : Hid (E = (b && decide ((pa, pn) ∉ P1.take (q + 1)))) := hide (by
                have h1 := HQ2.out; have h2 := HEi.out; rw [h2, HTk.out, dec_push, ← Bool.and_assoc, ← h1, Bool.true_and])
              go_wp2
              go_roundw
              case rel => exact ⟨q + 1, E, by omega, by go_num, rfl, HQ8.out, HB8.out⟩
              case measure => simp [intOf]; omega
            | false =>
              go_upto_region 11 with fail
              clear u0; have Hmn := hide (show AllMono [(isV (.bool false)), (isV (.bool false)), (isV undef), (isV undef), (isV undef), (isV undef), (isV undef), (isV undef), (isV undef), (isV (.bool false))] from by repeat (first | exact trivial | refine ⟨fun _ _ _ _ h => h, ?_⟩)); refine wp_region_relT 10 _ (by kernel_rfl) (by kernel_rfl) (by kernel_rfl) (by kernel_rfl) (by kernel_rfl) (relMono _ Hmn.out) ⟨?_, ?_, ?_, ?_, ?_, ?_, ?_, ?_, ?_, ?_, trivial⟩ ?_
              · exact relStep_plain rfl fun Ac w5 hp => pureM (.bool false) 9 (hp.out 9 (by rfl))
              · exact relStep_plain rfl fun Ac w5 hp => pureM (.bool false) 54 (hp.d 0)
              · exact rsN 1 true
              · exact rsN 1 true
              · exact rsN 1 true
              · exact rsN 1 true
              · exact rsN 1 true
              · exact rsN 1 true
              · exact rsN 1 true
              · exact relStep_plain rfl fun Ac w5 hp => pureM (.bool false) 55 (hp.d 1)
              intro u w8 hb7 hall; have e63 : u 9 = .bool false := relAll_at hall (i := 9) (by decide +kernel); clear hall; simp only [List.drop_succ_cons, List.drop_zero, List.take_succ_cons, List.take_zero, putAll, Act.put, List.setIfInBounds_toArray, List.set_cons_zero, List.set_cons_succ, Nat.zero_add, Nat.reduceAdd, e63]; have HB8 := hide (btr HBe.out hb7); clear hb7
              have HQ8 : Hid (false = (b && decide ((pa, pn) ∉ P1.take (q + 1)))) := hide (by
                have h1 := HQ2.out; rw [HTk.out, dec_push, ← Bool.and_assoc, ← h1, Bool.false_and])
              go_wp2
              go_roundw
              case rel => exact ⟨q + 1, false, by omega, by go_num, rfl, HQ8.out, HB8.out⟩
              case measure => simp [intOf]; omega
          · have hqn : n3 = q := (by omega)
            subst hqn; have HQ3 : Hid (b2 = (b && decide ((pa, pn) ∉ P1))) := hide (by have h := HQ2.out; rwa [List.take_of_length_le (by rw [HL1.out]; exact Nat.le_refl _)] at h); have HC9 : Hid (ChgS (fun j => j = wb) w6 wr) := hide (chg_below hbel); have HWt9 := hide (HWt6.out.keep hbel); have e1 : decide ((n3 : Int) < (n3 : Int)) = false := (by simp)
            obtain ⟨wB, hwB⟩ : ∃ x, x = wr := ⟨_, rfl⟩
            subst hwB; clear hbel hz1 hlq HU9 HP9 HBe; have hwb0 : w.heap.size < wb := (by omega)
            go_wp2; clear u0 e1
            go_loopw [9, 15] (fun vb iv wr => ∃ (q : Nat) (b3 : Bool) (Wk : AT), q ≤ n5 ∧ iv = .int .i64 (q : Nat) ∧ vb = .bool b3 ∧ (b3 = if (pa, pn) ∈ P2.take q then OK else b2) ∧ (Wk = if (pa, pn) ∈ P2.take q then Y else W) ∧ WantS wb g t2 Wk wr ∧ ChgS (fun j => j = wb) w6 wr) (fun _ iv _ => n5 - (intOf iv).toNat)
            case atStart => exact ⟨0, b2, W, Nat.zero_le _, rfl, rfl, by simp, by simp, HWt9.out, HC9.out⟩
            case round =>
              obtain ⟨q, b3, Wk, hq, rfl, rfl, hb3, hW3, hwt, hch⟩ := hrel; have HQ4 := hide hb3; have HQ5 := hide hW3; have HWt4 := hide hwt; have HCh := hide hch; have HU9 := hide (chg_blk hch HU6.out (show ¬ (w3.heap.size = wb) by omega)); have HP9 := hide (chg_blk hch HP6.out (show ¬ (w.heap.size = wb) by omega)); have hz2 := (frs_here (frs_chg HFr6.out hch (fun k hk e => by have := hk.1; omega))).2.1; have u10 : wr.cell? ⟨w3.heap.size, 10, none⟩ = some (.slice A5 n5 c5) := HU9.out.cell 10; have hsr := hch.size; clear hb3 hW3 hwt hch; by_cases hlq : q < n5
              · obtain ⟨g3, o3, a2, m2, e3, hg3, hx, hzz, c0, c1⟩ := PZat hz2 hlq; have F0 : Hid (wr.cell? ⟨g3, o3 + q * 2, none⟩ = some (.int .u32 (a2 : Int))) := hide c0; have F1 : Hid (wr.cell? ⟨g3, o3 + q * 2 + 1, none⟩ = some (.int .i64 m2)) := hide c1; have HTk : Hid (P2.take (q + 1) = P2.take q ++ [(a2, m2)]) := hide (by rw [List.take_add_one, hx]; rfl); have p1 : (q : Int) < (n5 : Int) := (by omega)
                have p0 : (0 : Int) ≤ (q : Int) := (by omega)
                have hwp : IntKind.i64.wrap ((q : Int) + 1) = (q : Int) + 1 := (by rw [IntKind.wrap_i64]; omega)
                obtain ⟨E, hE⟩ : ∃ x, ((a2 : Int) == (pa : Int) && m2 == pn) = x := ⟨_, rfl⟩
                have HE := hide hE
                have HEi : Hid (E = true ↔ (pa, pn) = (a2, m2)) := hide (by
                  rw [← hE, Bool.and_eq_true, beq_iff_eq, beq_iff_eq, Prod.mk.injEq]; constructor
                  · rintro ⟨h1, h2⟩; exact ⟨by omega, h2.symm⟩
                  · rintro ⟨h1, h2⟩; exact ⟨by omega, h2.symm⟩)
                clear hz2 hx hzz c0 c1 hE; subst e3
                go_upto_region 15 with fail
                clear u10; have Hmn := hide (show AllMono [(isV (ptv w3.heap.size 10)), (isV (.slice (some ⟨g3, o3, none⟩) n5 c5)), (isV (.int .i64 (q : Int))), (isV (ptv g3 (o3 + q * 2))), (isV (.agg #[.int .u32 (a2 : Int), .int .i64 m2])), (isV (.agg #[.int .u32 (pa : Int), .int .i64 pn])), (isV (.bool E))] from by repeat (first | exact trivial | refine ⟨fun _ _ _ _ h => h, ?_⟩)); refine wp_region_rel _ (by kernel_rfl) (by kernel_rfl) (relMono _ Hmn.out) ⟨?_, ?_, ?_, ?_, ?_, ?_, ?_, trivial⟩ ?_
                · exact relStep_plain rfl fun Ac w5 hp => pure1 (ptv w3.heap.size 10) 11 (ptv w3.heap.size 0) (hp.out 11 (by rfl))
                · refine relStep_plain rfl ?_; intro Ac w5 hp; have hb := hp.bel; have hu5 := HU9.out.below hb HU9.out.lt; have x10 : w5.cell? ⟨w3.heap.size, 10, none⟩ = some (.slice (some ⟨g3, o3, none⟩) n5 c5) := hu5.cell 10; exact pure1 (.slice (some ⟨g3, o3, none⟩) n5 c5) 71 (ptv w3.heap.size 10) (hp.d 0)
                · exact relStep_plain rfl fun Ac w5 hp => pureM (.int .i64 (q : Int)) 15 (hp.out 15 (by rfl))
                · exact relStep_plain rfl fun Ac w5 hp => pure2 (ptv g3 (o3 + q * 2)) 72 (.slice (some ⟨g3, o3, none⟩) n5 c5) (hp.d 1) 73 (.int .i64 (q : Int)) (hp.d 2)
                · refine relStep_plain rfl ?_; intro Ac w5 hp; have hb := hp.bel; have f0 : w5.cell? ⟨g3, o3 + q * 2, none⟩ = some (.int .u32 (a2 : Int)) := (hb.cell hg3).trans F0.out; have f1 : w5.cell? ⟨g3, o3 + q * 2 + 1, none⟩ = some (.int .i64 m2) := (hb.cell hg3).trans F1.out; exact pure1 (.agg #[.int .u32 (a2 : Int), .int .i64 m2]) 74 (ptv g3 (o3 + q * 2)) (hp.d 3)
                · refine relStep_plain rfl ?_; intro Ac w5 hp; have hb := hp.bel; have hx5 := HP9.out.below hb HP9.out.lt; have p0 : w5.cell? ⟨w.heap.size, 0, none⟩ = some (.int .u32 (pa : Int)) := hx5.cell 0; have p1 : w5.cell? ⟨w.heap.size, 1, none⟩ = some (.int .i64 pn) := hx5.cell 1; exact pure1 (.agg #[.int .u32 (pa : Int), .int .i64 pn]) 5 (ptv w.heap.size 0) (hp.out 5 (by rfl))
                · refine relStep_plain rfl ?_; intro Ac w5 hp; have a75 : Ac.eval (.tmp 75) = .agg #[.int .u32 (a2 : Int), .int .i64 m2] := hp.d 4; have a76 : Ac.eval (.tmp 76) = .agg #[.int .u32 (pa : Int), .int .i64 pn] := hp.d 5; have heq := HE.out; exact relPureX (.bool E) (fun ρ hρ h1 h2 h3 => by rw [hρ] at a75 a76; simp [go_sem, ↓IntWalk.iteOmega, *]; rw [← heq]; by_cases h1 : (a2 : Int) = (pa : Int) <;> by_cases h2 : m2 = pn <;> simp [h1, h2]) rfl
                intro u w8 hb7 hall; have e77 : u 6 = .bool E := relAll_at hall (i := 6) (by decide +kernel); clear hall; simp only [List.drop_succ_cons, List.drop_zero, List.take_succ_cons, List.take_zero, putAll, Act.put, List.setIfInBounds_toArray, List.set_cons_zero, List.set_cons_succ, Nat.zero_add, Nat.reduceAdd, e77]; have HB8 := hide hb7; have HC8 := hide (chg_trans HCh.out (chg_below (S := fun j => j = wb) hb7) (fun k h => .inl h)); have HUa := hide (HU9.out.below hb7 HU9.out.lt); have HWt8 := hide (HWt4.out.keep hb7); have hs8 := hb7.size; clear hb7
                cases E with
                | false =>
                  have hno : ¬ (pa, pn) = (a2, m2) := fun e => by have := HEi.out.2 e; cases this
                  have HM : Hid ((pa, pn) ∈ P2.take (q + 1) ↔ (pa, pn) ∈ P2.take q) := hide (by rw [HTk.out, List.mem_append, List.mem_singleton]; exact ⟨fun h => h.elim id (fun h => absurd h hno), .inl⟩); clear hno; go_wp2
                  go_roundw
                  case rel => exact ⟨q + 1, b3, Wk, by omega, by go_num, rfl, ite_iff HM.out HQ4.out, ite_iff HM.out HQ5.out, HWt8.out, HC8.out⟩
                  case measure => simp [intOf]; omega
                | true =>
                  have HM : Hid ((pa, pn) ∈ P2.take (q + 1)) := hide (by rw [HTk.out, List.mem_append, List.mem_singleton]; exact .inr (HEi.out.1 rfl)); have hU8 := frs_here (frs_chg HFr6.out HC8.out (fun k hk e => by have := hk.1; omega)); have HAc := hide (refAcc_eq HY.out hU8.2.2 HOk.out.1 HPl.out HOk.out.2); clear hU8; obtain ⟨y0, y1, y2, y3, y4, y5, y6, y7, y8, y9, y10⟩ := blk11 HUa.out
                  go_wp2_with fail
                  refine HAc.out.mono ?_; rintro e w10 ⟨v10, rfl, ho10, hb10⟩; obtain ⟨Ay, ny, cy, By, my, dy, rfl, hf10⟩ := ato_frb ho10; obtain ⟨Aw, nw, cw, Bw, mw, dw, SW, hkw, hfw, hsw⟩ := HWt8.out.keep hb10; have HK10 : Hid (Blk w10 wb 28 (aC Wk Aw nw cw Bw mw dw)) := hide hkw; have HF10 := hide hf10; have HC10 := hide (chg_trans HC8.out (chg_below (S := fun j => j = wb) hb10) (fun k h => .inl h)); have hs10 := hb10.size; clear ho10 hf10 hkw hfw hsw hb10 y0 y1 y2 y3 y4 y5 y6 y7 y8 y9 y10; obtain ⟨z0, z1, z2, z3, z4, z5, z6, z7, z8⟩ := blk9 HK10.out; have zf := fun i => HK10.out.frozen i
                  go_upto_region 14 with fail
                  change Code.wp _ _ _ _ (w10.setCells wb 0 (aL Y Ay ny cy By my dy)); obtain ⟨w11, hw11⟩ : ∃ x, w10.setCells wb 0 (aL Y Ay ny cy By my dy) = x := ⟨_, rfl⟩
                  have HWt11 : Hid (WantS wb g t2 Y w11) := hide (hw11 ▸ WantS.put HF10.out HK10.out (by omega) (by omega) (fun j hj => by have := HLt6.out j hj; omega)); have HC11 : Hid (ChgS (fun j => j = wb) w6 w11) := hide (hw11 ▸ chg_trans HC10.out (chg_sets (S := fun j => j = wb) rfl [.int .i64 Y.has, .int .i64 Y.org, .slice Ay ny cy, .int .u32 Y.hop, .int .u32 Y.med, .int .u32 Y.pref, .int .u32 Y.aas, .int .u32 Y.aid, .slice By my dy] 0) (fun k h => .inl h)); rw [hw11]; clear hw11 zf z0 z1 z2 z3 z4 z5 z6 z7 z8; go_wp2
                  go_roundw
                  case rel => exact ⟨q + 1, OK, Y, by omega, by go_num, rfl, (if_pos HM.out).symm, (if_pos HM.out).symm, HWt11.out, HC11.out⟩
                  case measure => simp [intOf]; omega
              · have hqn : n5 = q := (by omega)
                subst hqn; have htk : P2.take n5 = P2 := List.take_of_length_le (by rw [HL2.out]; exact Nat.le_refl _)
                have HInv9 : Hid (LKp pa pn (trL t2) = if b3 = true then some Wk else none) := hide (by
                  have h := lkp_fed (Y := Y) (W := W) (OK := OK) (b := b) HSo.out HPa.out HTl.out HZ1.out HZ2.out HInv.out; have h4 := HQ4.out; have h5 := HQ5.out; rw [htk] at h4 h5; rw [h, h4, h5, HQ3.out])
                have HNr9 : Hid (b3 = true → normA Wk = Wk) := hide (by
                  have h4 := HQ4.out; have h5 := HQ5.out; rw [htk] at h4 h5; intro hb; by_cases hm : (pa, pn) ∈ P2
                  · rw [if_pos hm] at h5; rw [h5]; exact accF_nrm HY.out
                  · rw [if_neg hm] at h4 h5; rw [h5]; refine HNr.out ?_; have h3 := HQ3.out; rw [← h4, hb] at h3
                    cases b with
                    | true => rfl
                    | false => cases h3)
                have HnB : Hid (wb ∉ trB t2) := hide (fun hm => by
                  obtain ⟨_, _, _, _, _, _, _, h, _⟩ := HWt6.out; obtain ⟨cs2, hb2⟩ := trw_blkA HT6.out.tree.mem wb hm; exact h.ne_ hb2 (by decide) rfl)
                have HnR : Hid (¬ (r = wb)) := hide (fun e => by
                  obtain ⟨_, _, _, _, _, _, _, h, _⟩ := HWt6.out; exact HR6.out.ne_ h (by decide) e)
                have HTz := hide (HT6.out.chg HCh.out (fun k hk e => HnB.out (e ▸ hk)) (fun k hk e => HFw6.out k hk e) (by omega)); have HRz := hide (chg_blk HCh.out HR6.out HnR.out); have HBz : Hid (Below w.heap.size w wr) := hide (chg_to_below (chg_trans (chg_below HBl6.out) HCh.out (fun k h => .inl h)) (Nat.le_refl _) (fun k hk => by omega)); have e1 : decide ((n5 : Int) < (n5 : Int)) = false := (by simp)
                clear hz2 hlq htk; go_wp2
                go_roundw
                case rel => exact ⟨i + 1, b3, t2, F2, Wk, by omega, by omega, by go_num, rfl, HCn6.out, HRz.out, HTz.out, HTb6.out, HFw6.out, HWt4.out, HInv9.out, HNr9.out, HBz.out, HP9.out⟩
                case measure => simp [intOf]; omega
    · by_cases hi3 : i < nl
      · have hi4 : i = 20 := (by omega)
        subst hi4; have q1 : ((20 : Nat) : Int) < (nl : Int) := (by omega)
        clear hlt; have HGt := hide (ribGetG_any 65000 ax r g pa pn F t wO HPa.out HPn.out.1 HPn.out.2 HR.out HT.out); have p0 : wO.cell? ⟨w.heap.size, 0, none⟩ = some (.int .u32 (pa : Int)) := HP.out.cell 0; have p1 : wO.cell? ⟨w.heap.size, 1, none⟩ = some (.int .i64 pn) := HP.out.cell 1
        go_wp2_with fail
        refine HGt.out.mono ?_; rintro e w3 ⟨v3, IS, Z, rfl, ho3, hzo, hlk, hb3⟩; obtain ⟨V, hV⟩ : ∃ V, normA Z = V := ⟨_, rfl⟩
        rw [hV] at ho3; obtain ⟨Av, nv, cv, Bv, mv, dv, rfl, hfv⟩ := ato_frb ho3; have HLk := hide (hlk.symm.trans HInv.out); have HV := hide hV; have HZo := hide hzo; obtain ⟨w4, hw4⟩ : ∃ W', w3.alloc (.cells (aC V Av nv cv Bv mv dv) 28) = W' := ⟨_, rfl⟩
        have hb4 : Below w3.heap.size w3 w4 := hw4 ▸ blkBelow1 w3 _; have HV4 : Hid (Blk w4 w3.heap.size 28 (aC V Av nv cv Bv mv dv)) := hide (hw4 ▸ Blk.new w3 _ _); have HB4 := hide (HBl.out.trans ((hb3.trans (hb4.mono hb3.size)).mono HBl.out.size)); have HAv : Hid (AtR w4 V (.agg #[.int .i64 V.has, .int .i64 V.org, .slice Av nv cv, .int .u32 V.hop, .int .u32 V.med, .int .u32 V.pref, .int .u32 V.aas, .int .u32 V.aid, .slice Bv mv dv])) := hide (hfv.here.below hb4); have HWt4 := hide ((HWt.out.keep hb3).keep hb4); have HLv := hide (fun W => lives27G_any W); have HW4 := hide hw4; clear ho3 hzo hlk hb3 hV hfv hw4 hb4 p0 p1
        go_upto_region 18 with fail
        rw [HW4.out]
        cases b with
        | false =>
          obtain rfl : IS = false := by
            have h := HLk.out
            cases IS with
            | false => rfl
            | true => cases h
          go_wp2_with fail
          refine (HLv.out _).mono ?_; rintro e w5 ⟨rfl, hb5⟩; have HB6 := hide (btr HB4.out hb5); clear hb5; go_wp2; go_ret; exact ⟨rfl, HB6.out⟩
        | true =>
          obtain ⟨rfl, rfl⟩ : IS = true ∧ Z = W := by
            have h := HLk.out
            cases IS with
            | false => cases h
            | true =>
              rw [if_pos rfl, if_pos rfl] at h; exact ⟨rfl, Option.some.inj h⟩
          have hVW : V = Z := HV.out.symm.trans (HNr.out rfl); have hpl : V.path.length ≤ 100000 := (by rw [hVW]; exact own_len (HNr.out rfl) HZo.out)
          obtain ⟨Aw, nw, cw, Bw, mw, dw, SW, hkw, hfw, hsw⟩ := HWt4.out; have HKw : Hid (Blk w4 wb 28 (aC Z Aw nw cw Bw mw dw)) := hide hkw; have HSm := hide (asame_any V Z (.agg #[.int .i64 V.has, .int .i64 V.org, .slice Av nv cv, .int .u32 V.hop, .int .u32 V.med, .int .u32 V.pref, .int .u32 V.aas, .int .u32 V.aid, .slice Bv mv dv]) (.agg #[.int .i64 Z.has, .int .i64 Z.org, .slice Aw nw cw, .int .u32 Z.hop, .int .u32 Z.med, .int .u32 Z.pref, .int .u32 Z.aas, .int .u32 Z.aid, .slice Bw mw dw]) w4 HAv.out (frs_here hfw) hpl hVW); clear hVW hpl hkw hfw hsw; obtain ⟨v0, v1, v2, v3, v4, v5, v6, v7, v8⟩ := blk9 HV4.out; obtain ⟨u0, u1, u2, u3, u4, u5, u6, u7, u8⟩ := blk9 HKw.out
          go_wp2_with fail
          refine HSm.out.mono ?_; rintro e w5 ⟨rfl, hb5⟩; have HB6 := hide (btr HB4.out hb5); clear hb5
          go_wp2_with fail
          refine (HLv.out _).mono ?_; rintro e w6 ⟨rfl, hb6⟩; have HB7 := hide (btr HB6.out hb6); clear hb6; go_wp2; go_ret; exact ⟨rfl, HB7.out⟩
      · have e1 : decide ((i : Int) < (nl : Int)) = false := (by rw [decide_eq_false_iff_not]; omega)
        clear hlt; have HGt := hide (ribGetG_any 65000 ax r g pa pn F t wO HPa.out HPn.out.1 HPn.out.2 HR.out HT.out); have p0 : wO.cell? ⟨w.heap.size, 0, none⟩ = some (.int .u32 (pa : Int)) := HP.out.cell 0; have p1 : wO.cell? ⟨w.heap.size, 1, none⟩ = some (.int .i64 pn) := HP.out.cell 1
        go_wp2_with fail
        refine HGt.out.mono ?_; rintro e w3 ⟨v3, IS, Z, rfl, ho3, hzo, hlk, hb3⟩; obtain ⟨V, hV⟩ : ∃ V, normA Z = V := ⟨_, rfl⟩
        rw [hV] at ho3; obtain ⟨Av, nv, cv, Bv, mv, dv, rfl, hfv⟩ := ato_frb ho3; have HLk := hide (hlk.symm.trans HInv.out); have HV := hide hV; have HZo := hide hzo; obtain ⟨w4, hw4⟩ : ∃ W', w3.alloc (.cells (aC V Av nv cv Bv mv dv) 28) = W' := ⟨_, rfl⟩
        have hb4 : Below w3.heap.size w3 w4 := hw4 ▸ blkBelow1 w3 _; have HV4 : Hid (Blk w4 w3.heap.size 28 (aC V Av nv cv Bv mv dv)) := hide (hw4 ▸ Blk.new w3 _ _); have HB4 := hide (HBl.out.trans ((hb3.trans (hb4.mono hb3.size)).mono HBl.out.size)); have HAv : Hid (AtR w4 V (.agg #[.int .i64 V.has, .int .i64 V.org, .slice Av nv cv, .int .u32 V.hop, .int .u32 V.med, .int .u32 V.pref, .int .u32 V.aas, .int .u32 V.aid, .slice Bv mv dv])) := hide (hfv.here.below hb4); have HWt4 := hide ((HWt.out.keep hb3).keep hb4); have HLv := hide (fun W => lives27G_any W); have HW4 := hide hw4; clear ho3 hzo hlk hb3 hV hfv hw4 hb4 p0 p1
        go_upto_region 18 with fail
        rw [HW4.out]
        cases b with
        | false =>
          obtain rfl : IS = false := by
            have h := HLk.out
            cases IS with
            | false => rfl
            | true => cases h
          go_wp2_with fail
          refine (HLv.out _).mono ?_; rintro e w5 ⟨rfl, hb5⟩; have HB6 := hide (btr HB4.out hb5); clear hb5; go_wp2; go_ret; exact ⟨rfl, HB6.out⟩
        | true =>
          obtain ⟨rfl, rfl⟩ : IS = true ∧ Z = W := by
            have h := HLk.out
            cases IS with
            | false => cases h
            | true =>
              rw [if_pos rfl, if_pos rfl] at h; exact ⟨rfl, Option.some.inj h⟩
          have hVW : V = Z := HV.out.symm.trans (HNr.out rfl); have hpl : V.path.length ≤ 100000 := (by rw [hVW]; exact own_len (HNr.out rfl) HZo.out)
          obtain ⟨Aw, nw, cw, Bw, mw, dw, SW, hkw, hfw, hsw⟩ := HWt4.out; have HKw : Hid (Blk w4 wb 28 (aC Z Aw nw cw Bw mw dw)) := hide hkw; have HSm := hide (asame_any V Z (.agg #[.int .i64 V.has, .int .i64 V.org, .slice Av nv cv, .int .u32 V.hop, .int .u32 V.med, .int .u32 V.pref, .int .u32 V.aas, .int .u32 V.aid, .slice Bv mv dv]) (.agg #[.int .i64 Z.has, .int .i64 Z.org, .slice Aw nw cw, .int .u32 Z.hop, .int .u32 Z.med, .int .u32 Z.pref, .int .u32 Z.aas, .int .u32 Z.aid, .slice Bw mw dw]) w4 HAv.out (frs_here hfw) hpl hVW); clear hVW hpl hkw hfw hsw; obtain ⟨v0, v1, v2, v3, v4, v5, v6, v7, v8⟩ := blk9 HV4.out; obtain ⟨u0, u1, u2, u3, u4, u5, u6, u7, u8⟩ := blk9 HKw.out
          go_wp2_with fail
          refine HSm.out.mono ?_; rintro e w5 ⟨rfl, hb5⟩; have HB6 := hide (btr HB4.out hb5); clear hb5
          go_wp2_with fail
          refine (HLv.out _).mono ?_; rintro e w6 ⟨rfl, hb6⟩; have HB7 := hide (btr HB6.out hb6); clear hb6; go_wp2; go_ret; exact ⟨rfl, HB7.out⟩
end Go.Proofs.YtmffmkjgdjgmeaaGreat
