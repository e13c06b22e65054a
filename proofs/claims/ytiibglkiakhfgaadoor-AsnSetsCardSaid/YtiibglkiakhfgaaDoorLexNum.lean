import Derived.Test.YtiibglkiakhfgaaDoorCommEnv
import Derived.Test.YtiibglkiakhfgaaDoorLexLives
import Derived.Test.YtiibglkiakhfgaaDoorLexName
import Derived.Test.YtiibglkiakhfgaaDoorShAtoi
import Derived.Lib.AtoiAllCases
set_option linter.unusedSimpArgs false
set_option linter.unusedVariables false
namespace Go.Proofs.YtiibglkiakhfgaaDoor
open Go.RowKit
theorem parse10_fold (l : List UInt8) : ∀ acc : Nat, (∀ c ∈ l, 48 ≤ c.toNat ∧ c.toNat ≤ 57) → l.foldl (fun a c => 10 * a + (c.toNat - 48)) acc < 9223372036854775808 →
    Lib.parseUint10 acc l = .ok (l.foldl (fun a c => 10 * a + (c.toNat - 48)) acc) := by
  induction l with
  | nil => intro acc _ _; rfl
  | cons c r ih =>
    intro acc hd hv
    have hc := hd c (by simp)
    simp only [List.foldl_cons] at hv ⊢
    have h2 := fold_ge r (10 * acc + (c.toNat - 48))
    unfold Lib.parseUint10
    rw [if_pos hc, if_neg (by omega), if_neg (by omega), show acc * 10 + (c.toNat - 48) = 10 * acc + (c.toNat - 48) by omega]
    exact ih _ (fun x hx => hd x (by simp [hx])) hv
theorem atoi_dec (n : Nat) (hn : n < 9223372036854775808) : Lib.atoiAll (Lib.decDigits n) = .ok (n : Int) := by
  obtain ⟨c, r, hcr⟩ := List.exists_cons_of_ne_nil (dec_ne n)
  have hc := dec_dig n c (by rw [hcr]; simp)
  have h1 := numOf_dec n
  unfold numOf at h1
  have hp := parse10_fold (Lib.decDigits n) 0 (dec_dig n) (by rw [h1]; exact hn)
  rw [h1] at hp
  rw [hcr] at hp ⊢
  rw [Lib.atoiAll_plain c r (by omega) (by omega)]
  unfold Lib.parseMag
  rw [if_neg (by simp), hp]
  simp [Lib.signless]
  omega
/-- A text is a number's digits, and the number is not too great. -/
def numOk (l : List UInt8) (most : Int) : Bool := (l == Lib.decDigits (numOf l)) && decide (numOf l < 9223372036854775808) && decide ((numOf l : Int) ≤ most)
def numRes (l : List UInt8) (most : Int) : Value := if numOk l most then .tuple #[.int .i64 (numOf l : Nat), .bool true] else .tuple #[.int .i64 0, .bool false]
theorem numOk_iff (l : List UInt8) (most : Int) : numOk l most = true ↔ ∃ n : Nat, l = Lib.decDigits n ∧ n < 9223372036854775808 ∧ (n : Int) ≤ most ∧ numOf l = n := by
  unfold numOk
  simp only [Bool.and_eq_true, beq_iff_eq, decide_eq_true_eq]
  constructor
  · rintro ⟨⟨h1, h2⟩, h3⟩; exact ⟨_, h1, h2, h3, rfl⟩
  · rintro ⟨n, h1, h2, h3, h4⟩; rw [h4]; exact ⟨⟨h1, h2⟩, h3⟩
theorem numRes_no {l : List UInt8} {most : Int} (h : ∀ n : Nat, l = Lib.decDigits n → n < 9223372036854775808 → (n : Int) ≤ most → False) : numRes l most = .tuple #[.int .i64 0, .bool false] := by
  unfold numRes
  rw [if_neg]
  intro hk
  obtain ⟨n, h1, h2, h3, _⟩ := (numOk_iff l most).1 hk
  exact h n h1 h2 h3
theorem numRes_yes {n : Nat} {most : Int} (h1 : n < 9223372036854775808) (h2 : (n : Int) ≤ most) : numRes (Lib.decDigits n) most = .tuple #[.int .i64 (n : Nat), .bool true] := by
  unfold numRes
  rw [if_pos ((numOk_iff _ _).2 ⟨n, rfl, h1, h2, numOf_dec n⟩), numOf_dec]
theorem atoi_any (s : ByteArray) (hs : s.size ≤ 1000) (w : World) (he : Env w) : Calls Tryd.prog 105 #[.string s] w fun e w' => Below w.heap.size w w' ∧
    ((∃ v : Int, -9223372036854775808 ≤ v ∧ v ≤ 9223372036854775807 ∧ Lib.atoiAll s.data.toList = .ok v ∧ e = .returned (.tuple #[.int .i64 v, .nilIface])) ∨
     (∃ (v : Int) (te : TypeId) (pe : Value), (∀ x, Lib.atoiAll s.data.toList ≠ .ok x) ∧ e = .returned (.tuple #[.int .i64 v, .iface te pe]))) := by
  rcases h : Lib.atoiAll s.data.toList with v | _ | _
  · 
    have hb := Lib.atoiAll_bounds h
    refine (Tryd.strconv_Atoi_ok s (by omega) v h w).mono ?_
    rintro e w' ⟨rfl, hw⟩
    refine ⟨?_, Or.inl ⟨v, hb.1, hb.2, rfl, rfl⟩⟩
    rcases hw with rfl | ⟨t, rfl⟩
    · exact Below.refl _ _
    · exact Go.Joins.below_bytesWorld _ _ _ _ (Nat.le_refl _)
  · 
    obtain ⟨ev, hv, hev⟩ := he.syn
    refine (Tryd.strconv_Atoi_syntax s (by omega) h ev w hv hev).mono ?_
    rintro e w' ⟨N, rfl, _, _, hb⟩
    exact ⟨hb, Or.inr ⟨0, _, _, by simp, rfl⟩⟩
  · 
    obtain ⟨ev, hv, hev⟩ := he.rng
    refine (Tryd.strconv_Atoi_range s (by omega) h ev w hv hev).mono ?_
    rintro e w' ⟨N, rfl, _, _, hb⟩
    exact ⟨hb, Or.inr ⟨_, _, _, by simp, rfl⟩⟩
set_option maxHeartbeats 1000000 in
theorem lexNumber_any (l : List UInt8) (hl : l.length ≤ 1000) (most : Int) (w : World) (he : Env w) :
    Calls Tryd.prog 49 #[.string (str l), .int .i64 most] w fun e w' => e = .returned (numRes l most) ∧ Below w.heap.size w w' := by
  have HA := hide (atoi_any (str l) (by rw [str_size]; exact hl) w he)
  have HE := hide he
  clear he hl
  go_enter Tryd.func49, Tryd.ntmps49
  go_wp2_with fail
  refine HA.out.mono ?_
  rintro e w1 ⟨hb1, ⟨v, hv1, hv2, hp, rfl⟩ | ⟨v, te, pe, hp, rfl⟩⟩
  · rw [str_data] at hp
    have HP := hide hp
    have HB1 := hide hb1
    have he1 := hide (HE.out.below hb1)
    clear hp hb1
    have HNo : Hid (∀ n : Nat, l = Lib.decDigits n → n < 9223372036854775808 → v = n) := hide (fun n h1 h2 => by
      have := atoi_dec n h2
      rw [← h1, HP.out] at this
      exact Lib.NumEnd.ok.inj this)
    by_cases hv0 : v < 0
    · have hr := hide (numRes_no (l := l) (most := most) (fun n h1 h2 h3 => by have := HNo.out n h1 h2; omega))
      go_wp2
      go_ret2
      exact ⟨by rw [hr.out]; rfl, HB1.out⟩
    · obtain ⟨n, rfl⟩ := Int.eq_ofNat_of_zero_le (show 0 ≤ v by omega)
      by_cases hvm : (n : Int) > most
      · have hr := hide (numRes_no (l := l) (most := most) (fun k h1 h2 h3 => by have := HNo.out k h1 h2; omega))
        go_wp2
        go_ret2
        exact ⟨by rw [hr.out]; rfl, HB1.out⟩
      · have HI := hide (itoa_any n (by omega) w1 he1.out.tab)
        by_cases hq : l = Lib.decDigits n
        · have e1 : ((str (Lib.decDigits n)).toList == (str l).toList) = true := by rw [str_beq, hq]; simp
          have e2 : ((str (Lib.decDigits n)).toList != (str l).toList) = false := by unfold bne; rw [e1]; rfl
          have hr : Hid (numRes l most = .tuple #[.int .i64 (n : Nat), .bool true]) := hide (by rw [hq]; exact numRes_yes (by omega) (by omega))
          clear hq
          go_wp2_with fail
          refine HI.out.mono ?_
          rintro e w2 ⟨rfl, hb2⟩
          have HB2 := hide (HB1.out.trans (hb2.mono HB1.out.size))
          clear hb2
          go_wp2
          go_ret2
          exact ⟨by rw [hr.out]; rfl, HB2.out⟩
        · have e1 : ((str (Lib.decDigits n)).toList == (str l).toList) = false := by rw [str_beq]; simpa using fun h => hq h.symm
          have e2 : ((str (Lib.decDigits n)).toList != (str l).toList) = true := by unfold bne; rw [e1]; rfl
          have hr := hide (numRes_no (l := l) (most := most) (fun k h1 h2 h3 => by
            have := HNo.out k h1 h2
            have e : k = n := by omega
            exact hq (e ▸ h1)))
          clear hq
          go_wp2_with fail
          refine HI.out.mono ?_
          rintro e w2 ⟨rfl, hb2⟩
          have HB2 := hide (HB1.out.trans (hb2.mono HB1.out.size))
          clear hb2
          go_wp2
          go_ret2
          exact ⟨by rw [hr.out]; rfl, HB2.out⟩
  · rw [str_data] at hp
    have hr := hide (numRes_no (l := l) (most := most) (fun n h1 h2 h3 => by
      have := atoi_dec n h2
      rw [← h1] at this
      exact hp _ this))
    have HB1 := hide hb1
    clear hp hb1
    go_wp2
    go_ret2
    exact ⟨by rw [hr.out]; rfl, HB1.out⟩
set_option maxHeartbeats 400000 in
theorem numBig_any (n : Nat) (h : n < 9223372036854775808) (w : World) : Calls Tryd.prog 104 #[.int .u64 n] w fun e w' => e = .returned (.string (str (Lib.decDigits n))) ∧ w = w' := by
  induction n using Nat.strongRecOn generalizing w with
  | _ n ih =>
    by_cases hn : n < 10
    · exact num_any n (by omega) w
    · have hs := hide (show str (Lib.decDigits n) = str (Lib.decDigits (n / 10)) ++ str (Lib.decDigits (n % 10)) by
        rw [cat_str]; congr 1
        conv => lhs; rw [Lib.decDigits, dif_neg hn]
        congr 1
        rw [Lib.decDigits, dif_pos (by omega)])
      have l1 : (str (Lib.decDigits (n / 10))).size ≤ 19 := by rw [str_size]; exact dec_len _ 18 (by omega)
      have l2 : (str (Lib.decDigits (n % 10))).size ≤ 10 := by rw [str_size]; exact dec_len _ 9 (by omega)
      have h1 : Hid (∀ w, Calls Tryd.prog 104 #[.int .u64 ((n : Int) / 10)] w fun e w' => e = .returned (.string (str (Lib.decDigits (n / 10)))) ∧ w = w') := hide (fun w => ih (n / 10) (by omega) (by omega) w)
      have h2 : Hid (∀ w, Calls Tryd.prog 104 #[.int .u64 ((n : Int) % 10)] w fun e w' => e = .returned (.string (str (Lib.decDigits (n % 10)))) ∧ w = w') := hide (fun w => ih (n % 10) (by omega) (by omega) w)
      have hn' : 10 ≤ n := by omega
      have hb : (n : Int) ≤ 9223372036854775807 := by omega
      clear ih h
      go_enter Tryd.func104, Tryd.ntmps104
      go_wp2_with fail
      refine (h1.out _).mono ?_
      rintro e w1 ⟨rfl, rfl⟩
      go_wp2_with fail
      refine (h2.out _).mono ?_
      rintro e w1 ⟨rfl, rfl⟩
      go_wp2
      go_ret
      refine ⟨?_, rfl⟩
      rw [hs.out]
      rfl
theorem take_snocB (s : ByteArray) (k : Nat) (h : k < s.size) : s.data.toList.take (k + 1) = s.data.toList.take k ++ [s[k]] := by
  rw [List.take_succ_eq_append_getElem (by simpa using h)]; rfl
theorem numOf_lt (l : List UInt8) (h : ∀ c ∈ l, 48 ≤ c.toNat ∧ c.toNat ≤ 57) : numOf l < 10 ^ l.length := by
  have aux : ∀ (l : List UInt8) (acc k : Nat), acc < 10 ^ k → (∀ c ∈ l, 48 ≤ c.toNat ∧ c.toNat ≤ 57) → l.foldl (fun a c => 10 * a + (c.toNat - 48)) acc < 10 ^ (k + l.length) := by
    intro l
    induction l with
    | nil => intro acc k h _; simpa using h
    | cons c r ih =>
      intro acc k h hd
      have hc := hd c (by simp)
      rw [List.foldl_cons, List.length_cons, show k + (r.length + 1) = (k + 1) + r.length by omega]
      refine ih _ _ ?_ (fun x hx => hd x (by simp [hx]))
      rw [Nat.pow_succ]; omega
  have := aux l 0 0 (by simp) h
  simpa [numOf] using this
theorem str_beq_left (s : ByteArray) (l : List UInt8) : (s.toList == (str l).toList) = (s.data.toList == l) := by
  conv => lhs; rw [← str_of s]
  exact str_beq _ _
/-- What the reference's Number answers: of texts of at most 18 bytes what the program answers; of longer ones nothing. -/
def refNumRes (l : List UInt8) (most : Int) : Value := if l.length ≤ 18 then numRes l most else .tuple #[.int .i64 0, .bool false]
theorem ten18 : (10 : Nat) ^ 18 = 1000000000000000000 := by decide
set_option maxRecDepth 100000 in
set_option maxHeartbeats 4000000 in
theorem refNumber_any (s : ByteArray) (hs : s.size ≤ 1000) (most : Int) (w : World) :
    Calls Tryd.prog 50 #[.string s, .int .i64 most] w fun e w' => e = .returned (refNumRes s.data.toList most) ∧ w = w' := by
  have hlen : s.data.toList.length = s.size := by rw [Array.length_toList]; rfl
  have HLen := hide hlen
  have HBad : Hid (∀ k, k < s.size → (∀ h : k < s.size, (s[k].toNat < 48 ∨ 57 < s[k].toNat)) ∨ 18 ≤ k → refNumRes s.data.toList most = .tuple #[.int .i64 0, .bool false]) := hide (fun k hk hc => by
    unfold refNumRes
    split
    · rename_i h18
      rcases hc with hc | hc
      · refine numRes_no (fun n h1 h2 h3 => ?_)
        have hm : s[k] ∈ s.data.toList := by
          have : s.data.toList[k]? = some s[k] := by simp [hk]; rfl
          exact List.mem_of_getElem? this
        rw [h1] at hm
        have := dec_dig n _ hm
        have := hc hk
        omega
      · omega
    · rfl)
  clear hlen
  go_enter Tryd.func50, Tryd.ntmps50
  go_wp2
  go_loop [6, 7] (fun a i => ∃ k : Nat, k ≤ s.size ∧ k ≤ 18 ∧ i = .int .i64 k ∧ a = .int .i64 ((numOf (s.data.toList.take k) : Nat) : Int) ∧ ∀ c ∈ s.data.toList.take k, 48 ≤ c.toNat ∧ c.toNat ≤ 57) (fun _ i => s.size - (intOf i).toNat)
  case atStart => exact ⟨0, by omega, by omega, rfl, by simp [numOf], by simp⟩
  case round =>
    obtain ⟨k, hk, hk18, rfl, rfl, hd⟩ := hrel
    have HD := hide hd
    have hlt10 := numOf_lt _ hd
    have hl2 : (s.data.toList.take k).length ≤ k := List.length_take_le _ _
    have hb18 : numOf (s.data.toList.take k) < 1000000000000000000 := by
      refine Nat.lt_of_lt_of_le hlt10 ?_
      rw [← ten18]
      exact Nat.pow_le_pow_right (by decide) (by omega)
    obtain ⟨n, hn⟩ : ∃ n, numOf (s.data.toList.take k) = n := ⟨_, rfl⟩
    rw [hn] at hb18 ⊢
    have HN := hide hn
    have H10 : Hid (n < 10 ^ k) := hide (by
      rw [← hn]
      exact Nat.lt_of_lt_of_le hlt10 (Nat.pow_le_pow_right (by decide) hl2))
    clear hd hlt10 hn hl2
    by_cases hlt : k < s.size
    · by_cases hdig : 48 ≤ s[k].toNat ∧ s[k].toNat ≤ 57
      · obtain ⟨hd1, hd2⟩ := hdig
        have i1 : (48 : Int) ≤ (s[k].toNat : Int) := by omega
        have i2 : (s[k].toNat : Int) ≤ 57 := by omega
        by_cases h18 : k < 18
        · have HSn : Hid (numOf (s.data.toList.take (k + 1)) = 10 * n + (s[k].toNat - 48)) := hide (by rw [take_snocB s k hlt, numOf_snoc, HN.out])
          have HD2 : Hid (∀ c ∈ s.data.toList.take (k + 1), 48 ≤ c.toNat ∧ c.toNat ≤ 57) := hide (by
            rw [take_snocB s k hlt]
            intro c hc
            rcases List.mem_append.1 hc with h | h
            · exact HD.out c h
            · rw [List.mem_singleton] at h; subst h; exact ⟨hd1, hd2⟩)
          have hb17 : n < 100000000000000000 := by
            have h := H10.out
            have h2 : 10 ^ k ≤ 10 ^ 17 := Nat.pow_le_pow_right (by decide) (by omega)
            have h3 : (10 : Nat) ^ 17 = 100000000000000000 := by decide
            omega
          go_wp2
          go_round
          case rel => exact ⟨k + 1, by omega, by omega, by go_num, by rw [HSn.out]; go_num, HD2.out⟩
          case measure => simp [intOf]; omega
        · have hr := hide (HBad.out k hlt (.inr (by omega)))
          have hk17 : (k : Int) > 17 := by omega
          go_wp2
          go_ret2
          exact ⟨by rw [hr.out]; rfl, rfl⟩
      · have hr := hide (HBad.out k hlt (.inl (fun _ => by omega)))
        by_cases hlow : s[k].toNat < 48
        · have i1 : (s[k].toNat : Int) < 48 := by omega
          go_wp2
          go_ret2
          exact ⟨by rw [hr.out]; rfl, rfl⟩
        · have i1 : (57 : Int) < (s[k].toNat : Int) := by omega
          have i2 : (48 : Int) ≤ (s[k].toNat : Int) := by omega
          go_wp2
          go_ret2
          exact ⟨by rw [hr.out]; rfl, rfl⟩
    · obtain rfl : k = s.size := by omega
      have hfull : s.data.toList.take s.size = s.data.toList := List.take_of_length_le (by rw [HLen.out]; exact Nat.le_refl _)
      have HNf : Hid (numOf s.data.toList = n) := hide (by have := HN.out; rwa [hfull] at this)
      have HQ := hide (numBig_any n (by omega))
      have HRes : Hid (refNumRes s.data.toList most = numRes s.data.toList most) := hide (by unfold refNumRes; rw [if_pos (by rw [HLen.out]; exact hk18)])
      clear hfull
      by_cases hq : s.data.toList = Lib.decDigits n
      · have e1 : (s.toList == (str (Lib.decDigits n)).toList) = true := by rw [str_beq_left, hq]; simp
        have e2 : (s.toList != (str (Lib.decDigits n)).toList) = false := by unfold bne; rw [e1]; rfl
        by_cases hm : (n : Int) > most
        · have hr : Hid (numRes s.data.toList most = .tuple #[.int .i64 0, .bool false]) := hide (numRes_no (fun q h1 h2 h3 => by
            have := dec_inj (hq.symm.trans h1); omega))
          clear hq
          go_wp2_with fail
          refine (HQ.out _).mono ?_
          rintro e w1 ⟨rfl, rfl⟩
          go_wp2
          go_ret2
          exact ⟨by rw [HRes.out, hr.out]; rfl, rfl⟩
        · have hr : Hid (numRes s.data.toList most = .tuple #[.int .i64 (n : Nat), .bool true]) := hide (by rw [hq]; exact numRes_yes (by omega) (by omega))
          clear hq
          go_wp2_with fail
          refine (HQ.out _).mono ?_
          rintro e w1 ⟨rfl, rfl⟩
          go_wp2
          go_ret2
          exact ⟨by rw [HRes.out, hr.out]; rfl, rfl⟩
      · have e1 : (s.toList == (str (Lib.decDigits n)).toList) = false := by rw [str_beq_left]; simpa using hq
        have e2 : (s.toList != (str (Lib.decDigits n)).toList) = true := by unfold bne; rw [e1]; rfl
        have hr : Hid (numRes s.data.toList most = .tuple #[.int .i64 0, .bool false]) := hide (numRes_no (fun q h1 h2 h3 => by
          have h4 := numOf_dec q
          rw [← h1, HNf.out] at h4
          exact hq (by rw [h1, h4])))
        clear hq
        go_wp2_with fail
        refine (HQ.out _).mono ?_
        rintro e w1 ⟨rfl, rfl⟩
        go_wp2
        go_ret2
        exact ⟨by rw [HRes.out, hr.out]; rfl, rfl⟩
end Go.Proofs.YtiibglkiakhfgaaDoor
