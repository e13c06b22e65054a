import Derived.Test.YtiibglkiakhfgaaDoorCommAllP
set_option linter.unusedSimpArgs false
set_option linter.unusedVariables false
namespace Go.Proofs.YtiibglkiakhfgaaDoor
open Go.RowKit
/-! ### Whether numbers rise -/
def riseB : List Nat → Bool
  | x :: y :: l => decide (x < y) && riseB (y :: l)
  | _ => true
theorem riseB_iff : ∀ (l : List Nat), riseB l = true ↔ ∀ (i x y : Nat), l[i]? = some x → l[i + 1]? = some y → x < y
  | [] => by simp [riseB]
  | [a] => by simp [riseB]
  | a :: b :: l => by
    rw [riseB, Bool.and_eq_true, riseB_iff (b :: l), decide_eq_true_eq]
    constructor
    · rintro ⟨h, hr⟩ i x y hx hy
      cases i with
      | zero => simp at hx hy; omega
      | succ i => exact hr i x y (by simpa using hx) (by simpa using hy)
    · intro h
      exact ⟨h 0 a b (by simp) (by simp), fun i x y hx hy => h (i + 1) x y (by simpa using hx) (by simpa using hy)⟩

set_option maxHeartbeats 1000000 in
theorem rising_any (A : Option Addr) (n c : Nat) (l : List Nat) (w : World) (h : U32s w A n c l) (hn : n ≤ 10000) :
    Calls Tryd.prog 71 #[.slice A n c] w fun e w' => e = .returned (.bool (riseB l)) ∧ Below w.heap.size w w' := by
  have hm1 := h.2.2.1
  have hn1 := h.2.1
  unfold maxLen at hm1
  have HU := hide h
  clear h
  go_enter Tryd.func71, Tryd.ntmps71
  go_wp2
  go_loopw [3] (fun i wr => ∃ k : Nat, k ≤ n ∧ i = .int .i64 k ∧ (∀ j x y : Nat, j < k → l[j]? = some x → l[j + 1]? = some y → x < y) ∧ ∃ q, wr = w.drewN q) (fun i _ => n - (intOf i).toNat)
  case atStart => exact ⟨0, Nat.zero_le _, rfl, by omega, 0, rfl⟩
  case round =>
    obtain ⟨k, hk, rfl, heq, q, rfl⟩ := hrel
    have HN := hide heq
    clear heq
    by_cases hlt : k + 1 < n
    · obtain ⟨g, o, x, rfl, hg, hx, hx2, hc⟩ := HU.out.at_ (k := k) (by omega)
      obtain ⟨g', o', y, hgg, hg', hy, hy2, hc'⟩ := HU.out.at_ hlt
      cases hgg
      have hi0 : (0 : Int) ≤ (k : Int) := by omega
      have hi1 : (k : Int) < (n : Int) := by omega
      have hi2 : (0 : Int) ≤ (k : Int) + 1 := by omega
      have hi3 : (k : Int) + 1 < (n : Int) := by omega
      by_cases hxy : x < y
      · have hge : decide (y ≤ x) = false := by simp; omega
        have hn3 := hide (show ∀ j x y : Nat, j < k + 1 → l[j]? = some x → l[j + 1]? = some y → x < y by
          intro j a b hj ha hb
          by_cases hjk : j < k
          · exact HN.out j a b hjk ha hb
          · obtain rfl : j = k := by omega
            rw [hx] at ha; rw [hy] at hb; cases ha; cases hb; exact hxy)
        clear hx hy hxy
        go_wp2
        go_quiet (fail)
        go_wp2
        go_roundw
        case rel => exact ⟨k + 1, by omega, by go_num, hn3.out, _, rfl⟩
        case measure => simp [intOf]; omega
      · have hge : decide (y ≤ x) = true := by simp; omega
        have hf := hide (show riseB l = false by
          rw [← Bool.not_eq_true, riseB_iff]
          intro hh
          exact hxy (hh k x y hx hy))
        clear hx hy hxy
        go_wp2
        go_quiet (fail)
        go_wp2
        go_ret
        exact ⟨ret_bool hf.out.symm, below_drewN (below_drewN (Below.refl _ _) _) _⟩
    · have hf := hide (show riseB l = true by
        rw [riseB_iff]
        intro i x y hx hy
        have hi : i + 1 < l.length := (List.getElem?_eq_some_iff.1 hy).1
        rw [HU.out.1] at hi
        exact HN.out i x y (by omega) hx hy)
      have hi4 : decide ((k : Int) + 1 < (n : Int)) = false := by simp; omega
      go_wp2
      go_ret
      exact ⟨ret_bool hf.out.symm, below_drewN (Below.refl _ _) _⟩
set_option maxHeartbeats 1000000 in
theorem asnIs_any (A : Option Addr) (n c : Nat) (l : List Nat) (w : World) (h : U32s w A n c l) (hn : n ≤ 10000) :
    Calls Tryd.prog 79 #[.slice A n c] w fun e w' => e = .returned (.bool (riseB l)) ∧ Below w.heap.size w w' := by
  have hm1 := h.2.2.1
  have hn1 := h.2.1
  unfold maxLen at hm1
  have HU := hide h
  clear h
  go_enter Tryd.func79, Tryd.ntmps79
  go_wp2
  go_loopw [3] (fun i wr => ∃ k : Nat, (k < n ∨ k = 0) ∧ i = .int .i64 ((k : Int) + 1) ∧ (∀ j x y : Nat, j < k → l[j]? = some x → l[j + 1]? = some y → x < y) ∧ ∃ q, wr = w.drewN q) (fun i _ => n - (intOf i).toNat)
  case atStart => exact ⟨0, .inr rfl, rfl, by omega, 0, rfl⟩
  case round =>
    obtain ⟨k, hk, rfl, heq, q, rfl⟩ := hrel
    have HN := hide heq
    clear heq
    by_cases hlt : k + 1 < n
    · obtain ⟨g, o, x, rfl, hg, hx, hx2, hc⟩ := HU.out.at_ (k := k) (by omega)
      obtain ⟨g', o', y, hgg, hg', hy, hy2, hc'⟩ := HU.out.at_ hlt
      cases hgg
      have hi0 : (0 : Int) ≤ (k : Int) := by omega
      have hi1 : (k : Int) < (n : Int) := by omega
      have hi2 : (0 : Int) ≤ (k : Int) + 1 := by omega
      have hi3 : (k : Int) + 1 < (n : Int) := by omega
      by_cases hxy : x < y
      · have hge : decide (y ≤ x) = false := by simp; omega
        have hn3 := hide (show ∀ j x y : Nat, j < k + 1 → l[j]? = some x → l[j + 1]? = some y → x < y by
          intro j a b hj ha hb
          by_cases hjk : j < k
          · exact HN.out j a b hjk ha hb
          · obtain rfl : j = k := by omega
            rw [hx] at ha; rw [hy] at hb; cases ha; cases hb; exact hxy)
        clear hx hy hxy
        go_wp2
        go_quiet (fail)
        go_wp2
        go_roundw
        case rel => exact ⟨k + 1, by omega, by go_num, hn3.out, _, rfl⟩
        case measure => simp [intOf]; omega
      · have hge : decide (y ≤ x) = true := by simp; omega
        have hf := hide (show riseB l = false by
          rw [← Bool.not_eq_true, riseB_iff]
          intro hh
          exact hxy (hh k x y hx hy))
        clear hx hy hxy
        go_wp2
        go_quiet (fail)
        go_wp2
        go_ret
        exact ⟨ret_bool hf.out.symm, below_drewN (below_drewN (Below.refl _ _) _) _⟩
    · have hf := hide (show riseB l = true by
        rw [riseB_iff]
        intro i x y hx hy
        have hi : i + 1 < l.length := (List.getElem?_eq_some_iff.1 hy).1
        rw [HU.out.1] at hi
        exact HN.out i x y (by omega) hx hy)
      have hi4 : decide ((k : Int) + 1 < (n : Int)) = false := by simp; omega
      go_wp2
      go_ret
      exact ⟨ret_bool hf.out.symm, below_drewN (Below.refl _ _) _⟩
set_option maxHeartbeats 1000000 in
theorem join_own (A : Option Addr) (k c base : Nat) (l : List (List UInt8)) (w : World) (h : w.ownsRow base 9 1 (.slice A k c) k (strv l)) (hk : k ≤ 1000) (hl : ∀ x ∈ l, x.length ≤ 40) :
    Calls Tryd.prog 140 #[.slice A k c, .string ⟨#[32]⟩] w fun e w' => e = .returned (.string (str (jw l))) ∧ Below w.heap.size w w' := by
  have hlk : l.length = k := by have := h.1; simp [strv] at this; omega
  by_cases hk0 : k = 0
  · subst hk0
    obtain rfl : l = [] := List.eq_nil_of_length_eq_zero hlk
    refine (Tryd.strings_Join_none A c ⟨#[32]⟩ w).mono ?_
    rintro e w' ⟨rfl, rfl⟩
    exact ⟨rfl, Below.refl _ _⟩
  · obtain ⟨g, cap, hv, _, hlt⟩ := h.form (by omega)
    cases hv
    have hcap : k ≤ c := by
      rcases h.2 with ⟨hv, h0⟩ | ⟨g', cap', cur, hv, _, _, hnc, _⟩
      · cases hv
      · cases hv; exact hnc
    have hm : (l.map str).map (·.data.toList) = l := by rw [List.map_map]; exact (List.map_congr_left (fun x _ => str_data x)).trans (List.map_id l)
    have hj := Tryd.strings_Join g 0 c (l.map str) ⟨#[32]⟩ w (fun j x hx => by
      have := h.cells (g := g) rfl j (.string x) (by simp only [strv, List.getElem?_map] at hx ⊢; rw [Option.map_eq_some_iff] at hx ⊢; obtain ⟨y, hy, rfl⟩ := hx; exact ⟨y, hy, rfl⟩)
      rw [show (⟨g, 0, none⟩ : Addr).add j = ⟨g, 0 + j, none⟩ by unfold Addr.add; split <;> simp_all] at this
      exact this) hlt (by simp; omega) (by simp; omega) (by
      rw [hm]
      have := jw_len40 l hl
      unfold jw at this
      show (Lib.join l [32]).length ≤ _
      omega)
    rw [hm, List.length_map, hlk] at hj
    refine hj.mono ?_
    rintro e w' ⟨rfl, hb⟩
    exact ⟨rfl, hb⟩

theorem strv_snoc (l : List (List UInt8)) (x : List UInt8) : strv (l ++ [x]) = strv l ++ [.string (str x)] := by simp [strv]
theorem strv_len (l : List (List UInt8)) : (strv l).length = l.length := by simp [strv]

theorem own_below {w w' : World} {base e size n : Nat} {v : Value} {xs : List Value} (h : w.ownsRow base e size v n xs) (hb : Below w.heap.size w w') : w'.ownsRow base e size v n xs :=
  ⟨h.1, h.2.imp id (fun ⟨g, cap, cur, e1, e2, e3, rest⟩ => ⟨g, cap, cur, e1, e2, (hb.block g (Array.getElem?_eq_some_iff.1 e3).1).trans e3, rest⟩)⟩

set_option maxHeartbeats 2000000 in
theorem ctexts_any (A : Option Addr) (n c : Nat) (l : List Nat) (w : World) (h : U32s w A n c l) (hn : n ≤ 100) (ht : Tab w) :
    Calls Tryd.prog 117 #[.slice A n c] w fun e w' => e = .returned (.string (str (texP l))) ∧ Below w.heap.size w w' := by
  have hm := h.2.2.1
  have hnc := h.2.1
  unfold maxLen at hm
  have HT := hide ht
  have HA := hide h
  obtain ⟨i0, hi, hz0, hz1, hz2⟩ := info_parts infoStr
  clear h ht
  by_cases hn0 : n = 0
  · subst hn0
    have hf : Hid (texP l = [45]) := hide (by rw [List.eq_nil_of_length_eq_zero HA.out.1]; rfl)
    go_enter Tryd.func117, Tryd.ntmps117
    go_wp2
    go_ret
    exact ⟨ret_str (by rw [hf.out]; rfl), Below.refl _ _⟩
  · have hln : Hid (l ≠ []) := hide (fun e => hn0 (by rw [← HA.out.1, e]; rfl))
    have hne : ((n : Int) == 0) = false := by simp; omega
    clear hn0
    go_enter Tryd.func117, Tryd.ntmps117
    go_wp2_with (at_make; refine wpList_make_own _ rfl _ _ 70 rfl w.heap.size 9 i0 _ 1 Tryd.underlying70 hi hz0 hz1 .i64 .i64 _ n rfl rfl rfl (by rw [hz2]; omega) (by unfold maxLen; omega) (Nat.le_refl _) ?_; intro w1 hown1 hg1; have HO1 := hide hown1; have HG1 := hide hg1; clear hown1 hg1)
    have HB1 : Hid (Below w.heap.size w w1) := hide (Below.grown (Below.refl _ w) HG1.out (Nat.le_refl _) (fun k hk => by cases hk))
    go_loopw [3, 14] (fun v i wr => ∃ (k : Nat) (ps : List (List UInt8)), k ≤ n ∧ i = .int .i64 (k : Nat) ∧ ps = (l.take k).map commT ∧ ps.length = k ∧ wr.ownsRow w.heap.size 9 1 v k (strv ps) ∧ (∃ A c, v = .slice A k c) ∧ Below w.heap.size w wr) (fun _ i _ => n - (intOf i).toNat)
    case atStart => exact ⟨0, [], by omega, rfl, by simp, rfl, HO1.out, ⟨_, _, rfl⟩, HB1.out⟩
    case round =>
      obtain ⟨k, ps, hk, rfl, hps, hpl, hown, ⟨A', c', rfl⟩, hb⟩ := hrel
      have HP := hide hps
      have HPL := hide hpl
      have HO := hide hown
      have HBl := hide hb
      have HA2 := hide (HA.out.below hb)
      have HT2 := hide (HT.out.below hb)
      clear hps hpl hown hb
      by_cases hlt : k < n
      · obtain ⟨g, o, x, rfl, hg, hx, hx2, hc⟩ := HA2.out.at_ hlt
        have HX := hide hx
        have hsn := hide (show (l.take (k + 1)).map commT = ps ++ [commT x] by rw [take_snoc_eq hx, List.map_append, HP.out]; rfl)
        clear hx
        have HH := hide (text_any x hx2 wr HT2.out)
        go_wp2_with fail
        refine HH.out.mono ?_
        rintro e w2 ⟨rfl, hb2⟩
        have HB2 := hide (HBl.out.trans (hb2.mono HBl.out.size))
        have HO2 := hide (own_below HO.out hb2)
        have hsz2 := (HBl.out.trans (hb2.mono HBl.out.size)).size
        clear hb2
        go_wp2_with (at_builtin; refine wpList_append_any _ rfl (.tmp 18) (.tmp 21) 70 rfl w.heap.size 9 i0 _ 1 16 Tryd.underlying70 hi hz0 hz1 hz2 rfl (by decide) (.slice A' k c') k (strv ps) rfl (HO2.out.alloc _) (w2.heap.size + 1) (some ⟨w2.heap.size, 0, none⟩) 1 1 [.string (str (commT x))] rfl ((reads_oneS (by simp)).more (by simp)) (by simp [Value.oneCell']) (by unfold maxLen; omega) (by omega) (by simp; omega) ?_; intro v' w3 hown' hgrow hat; have HO3 := hide hown'; have HG3 := hide hgrow; clear hown' hgrow hat)
        have HB3 : Hid (Below w.heap.size w w3) := hide (Below.grown (HB2.out.alloc (by omega) (.cells #[.string (str (commT x))] 9)) HG3.out (by simp; omega) (fun k hk => (HO2.out.lt k hk).1))
        have HV : Hid (∃ A c, v' = .slice A (k + 1) c) := hide (own_slice HO3.out)
        have HF : Hid (w3.ownsRow w.heap.size 9 1 v' (k + 1) (strv (ps ++ [commT x]))) := hide (by rw [strv_snoc]; exact HO3.out)
        go_roundw
        case rel => exact ⟨k + 1, _, by omega, by go_num, hsn.out.symm, by rw [List.length_append, HPL.out]; rfl, HF.out, HV.out, HB3.out⟩
        case measure => simp [intOf]; omega
      · obtain rfl : k = n := by omega
        have hte : Hid (texP l = jw ps) := hide (by
          have := HP.out
          rw [List.take_of_length_le (by rw [HA2.out.1]; exact Nat.le_refl _)] at this
          unfold texP
          rw [if_neg hln.out, this]; rfl)
        have HJ := hide (join_own A' k c' _ ps wr HO.out (by omega) (fun p hp => by
          rw [HP.out] at hp
          obtain ⟨y, hy, rfl⟩ := List.mem_map.1 hp
          exact commT_len y (HA2.out.2.2.2.1 y (List.mem_of_mem_take hy))))
        go_wp2_with fail
        refine HJ.out.mono ?_
        rintro e w2 ⟨rfl, hb2⟩
        have HB2 := hide (HBl.out.trans (hb2.mono HBl.out.size))
        clear hb2
        go_wp2
        go_ret
        exact ⟨ret_str (by rw [hte.out]), HB2.out⟩

theorem cTexts_any (A : Option Addr) (n c : Nat) (l : List Nat) (w : World) (h : U32s w A n c l) (hn : n ≤ 100) (ht : Tab w) :
    Calls Tryd.prog 68 #[.slice A n c] w fun e w' => e = .returned (.string (str (texP l))) ∧ Below w.heap.size w w' := by
  have HT := hide (ctexts_any A n c l w h hn ht)
  clear h ht
  go_enter Tryd.func68, Tryd.ntmps68
  go_wp2_with fail
  refine HT.out.mono ?_
  rintro e w1 ⟨rfl, hb⟩
  have HB := hide hb
  clear hb
  go_wp2
  go_ret
  exact ⟨rfl, HB.out⟩
set_option maxHeartbeats 2000000 in
theorem refTexts_any (A : Option Addr) (n c : Nat) (l : List Nat) (w : World) (h : U32s w A n c l) (hn : n ≤ 1000) :
    Calls Tryd.prog 69 #[.slice A n c] w fun e w' => e = .returned (.string (str (texP l))) ∧ Below w.heap.size w w' := by
  have hm := h.2.2.1
  have hnc := h.2.1
  unfold maxLen at hm
  have HA := hide h
  clear h
  go_enter Tryd.func69, Tryd.ntmps69
  go_wp2
  go_loopw [3, 4] (fun v i wr => ∃ (k : Nat) (q : List UInt8), k ≤ n ∧ i = .int .i64 (k : Nat) ∧ q = ct (l.take k) ∧ q.length ≤ 41 * k ∧ v = .string (str q) ∧ Below w.heap.size w wr) (fun _ i _ => n - (intOf i).toNat)
  case atStart => exact ⟨0, [], by omega, rfl, by simp [ct_nil], by simp, rfl, Below.refl _ _⟩
  case round =>
    obtain ⟨k, q, hk, rfl, hq, hql, rfl, hb⟩ := hrel
    have HQ := hide hq
    have HBl := hide hb
    have HA2 := hide (HA.out.below hb)
    have hqs := str_size q
    clear hq hb
    by_cases hlt : k < n
    · obtain ⟨g, o, x, rfl, hg, hx, hx2, hc⟩ := HA2.out.at_ hlt
      have hsn := hide (show ct (l.take (k + 1)) = (if k = 0 then [] else q ++ [32]) ++ commT x by
        rw [take_snoc_eq hx, ct_snoc, ← HQ.out]
        have he : (l.take k = []) ↔ k = 0 := by
          rw [List.take_eq_nil_iff]
          constructor
          · rintro (h | h)
            · exact h
            · rw [h] at hx; cases hx
          · exact .inl
        simp only [he])
      have hts := commT_len x hx2
      have hts2 := str_size (commT x)
      clear hx
      have HH := hide (refText_any x hx2)
      by_cases hk0 : k = 0
      · subst hk0
        have hc0 : wr.cell? ⟨g, o, none⟩ = some (.int .u32 (x : Int)) := hc
        have hq0 : Hid (q = []) := hide (List.eq_nil_of_length_eq_zero (by omega))
        have hf : Hid (str (ct (l.take (0 + 1))) = str q ++ str (commT x)) := hide (by rw [hsn.out, if_pos rfl, hq0.out, cat_str])
        go_wp2_with fail
        refine (HH.out _).mono ?_
        rintro e w2 ⟨rfl, rfl⟩
        go_wp2
        go_roundw
        case rel => exact ⟨1, _, by omega, by go_num, rfl, by rw [hsn.out]; simp; omega, congrArg _ hf.out.symm, HBl.out⟩
        case measure => simp [intOf]; omega
      · have hk1 : decide (0 < k) = true := by simp; omega
        have hf : Hid (str (ct (l.take (k + 1))) = str q ++ ⟨#[32]⟩ ++ str (commT x)) := hide (by rw [hsn.out, if_neg hk0, show (⟨#[32]⟩ : ByteArray) = str [32] from rfl, cat_str, cat_str])
        go_wp2_with fail
        refine (HH.out _).mono ?_
        rintro e w2 ⟨rfl, rfl⟩
        go_wp2
        go_roundw
        case rel => exact ⟨k + 1, _, by omega, by go_num, rfl, by rw [hsn.out, if_neg hk0]; simp; omega, congrArg _ hf.out.symm, HBl.out⟩
        case measure => simp [intOf]; omega
    · obtain rfl : k = n := by omega
      have hql2 : q = ct l := by
        have := HQ.out
        rwa [List.take_of_length_le (by rw [HA2.out.1]; exact Nat.le_refl _)] at this
      by_cases hl : l = []
      · have ht : Hid (texP l = [45]) := hide (by unfold texP; rw [if_pos hl])
        have he : (str q).toList.isEmpty = true := by rw [hql2, hl, ct_nil]; unfold str; rw [ByteArray.toList_mk]; rfl
        clear hl hql2
        go_wp2
        go_ret
        exact ⟨ret_str (by rw [ht.out]; rfl), HBl.out⟩
      · have ht : Hid (texP l = q) := hide (by unfold texP; rw [if_neg hl, hql2])
        have he : (str q).toList.isEmpty = false := by rw [hql2]; exact str_ne (ct_ne hl)
        clear hl hql2
        go_wp2
        go_ret
        exact ⟨ret_str (by rw [ht.out]), HBl.out⟩

/-- slices.Clip: the slice, of no more room than it is long. -/
theorem clip_any (g n c : Nat) (w : World) (hn : n ≤ c) (hc : c ≤ maxLen) : Calls Tryd.prog 118 #[.slice (some ⟨g, 0, none⟩) n c] w fun e w' => e = .returned (.slice (some ⟨g, 0, none⟩) n n) ∧ w' = w := by
  unfold maxLen at hc
  go_enter Tryd.func118, Tryd.ntmps118
  go_wp2
  go_ret
  exact ⟨rfl, rfl⟩
end Go.Proofs.YtiibglkiakhfgaaDoor
