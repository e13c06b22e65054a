import Derived.Test.YtiibglkiakhfgaaDoorPrefixText
import Derived.Test.YtiibglkiakhfgaaDoorShParse
import Derived.Lib.SmallJoins
import Derived.Lib.ParseIntBCases
import Derived.Lib.IndexMore
set_option linter.unusedSimpArgs false
set_option linter.unusedVariables false
namespace Go.Proofs.YtiibglkiakhfgaaDoor
open Go.RowKit
theorem digit_slice (n : Nat) (h : n < 10) : (⟨#[48, 49, 50, 51, 52, 53, 54, 55, 56, 57]⟩ : ByteArray).extract n (n + 1) = str (Lib.decDigits n) := by
  have hh : ∀ n : Fin 10, (⟨#[48, 49, 50, 51, 52, 53, 54, 55, 56, 57]⟩ : ByteArray).extract n.val (n.val + 1) = str (Lib.decDigits n.val) := by decide +kernel
  exact hh ⟨n, h⟩
set_option maxHeartbeats 400000 in
theorem num_any (n : Nat) (h : n < 4294967296) (w : World) : Calls Tryd.prog 104 #[.int .u64 n] w fun e w' => e = .returned (.string (str (Lib.decDigits n))) ∧ w = w' := by
  induction n using Nat.strongRecOn generalizing w with
  | _ n ih =>
    by_cases hn : n < 10
    · have hd := hide (digit_slice n hn)
      go_enter Tryd.func104, Tryd.ntmps104
      go_wp2
      go_ret
      refine ⟨?_, rfl⟩
      rw [← hd.out]
      rfl
    · have hs := hide (show str (Lib.decDigits n) = str (Lib.decDigits (n / 10)) ++ str (Lib.decDigits (n % 10)) by
        rw [cat_str]; congr 1
        conv => lhs; rw [Lib.decDigits, dif_neg hn]
        congr 1
        rw [Lib.decDigits, dif_pos (by omega)])
      have l1 : (str (Lib.decDigits (n / 10))).size ≤ 10 := by rw [str_size]; exact dec_len _ 9 (by omega)
      have l2 : (str (Lib.decDigits (n % 10))).size ≤ 10 := by rw [str_size]; exact dec_len _ 9 (by omega)
      have h1 : Hid (∀ w, Calls Tryd.prog 104 #[.int .u64 ((n : Int) / 10)] w fun e w' => e = .returned (.string (str (Lib.decDigits (n / 10)))) ∧ w = w') := hide (fun w => ih (n / 10) (by omega) (by omega) w)
      have h2 : Hid (∀ w, Calls Tryd.prog 104 #[.int .u64 ((n : Int) % 10)] w fun e w' => e = .returned (.string (str (Lib.decDigits (n % 10)))) ∧ w = w') := hide (fun w => ih (n % 10) (by omega) (by omega) w)
      clear ih
      go_enter Tryd.func104, Tryd.ntmps104
      go_wp2_with fail
      refine (h1.out _).mono ?_
      rintro e w1 ⟨rfl, rfl⟩
      go_wp2_with fail
      refine (h2.out _).mono ?_
      rintro e w1 ⟨rfl, rfl⟩
      go_wp2
      go_ret
      refine ⟨?_, rfl⟩
      rw [hs.out]
      rfl

set_option maxHeartbeats 1000000 in
theorem refText_any (c : Nat) (hc : c < 4294967296) (w : World) : Calls Tryd.prog 48 #[.int .u32 c] w fun e w' => e = .returned (.string (str (commT c))) ∧ w = w' := by
  by_cases h1 : c = 4294967041
  · subst h1
    go_enter Tryd.func48, Tryd.ntmps48
    go_wp2
    go_ret
    exact ⟨ret_str (by decide +kernel), rfl⟩
  · by_cases h2 : c = 4294967042
    · subst h2
      go_enter Tryd.func48, Tryd.ntmps48
      go_wp2
      go_ret
      exact ⟨ret_str (by decide +kernel), rfl⟩
    · by_cases h3 : c = 4294967043
      · subst h3
        go_enter Tryd.func48, Tryd.ntmps48
        go_wp2
        go_ret
        exact ⟨ret_str (by decide +kernel), rfl⟩
      · have hn : commName c = [] := (commName_nil c).2 ⟨h1, h2, h3⟩
        have hs := hide (show str (commT c) = str (Lib.decDigits (c / 65536)) ++ str [58] ++ str (Lib.decDigits (c % 65536)) by
          unfold commT; rw [if_pos hn, cat_str, cat_str]; simp)
        have q1 : Hid (∀ w, Calls Tryd.prog 104 #[.int .u64 ((c : Int) / 65536)] w fun e w' => e = .returned (.string (str (Lib.decDigits (c / 65536)))) ∧ w = w') := hide (fun w => num_any (c / 65536) (by omega) w)
        have q2 : Hid (∀ w, Calls Tryd.prog 104 #[.int .u64 ((c : Int) % 65536)] w fun e w' => e = .returned (.string (str (Lib.decDigits (c % 65536)))) ∧ w = w') := hide (fun w => num_any (c % 65536) (by omega) w)
        have l1 : (str (Lib.decDigits (c / 65536))).size ≤ 10 := by rw [str_size]; exact dec_len _ 9 (by omega)
        have l2 : (str (Lib.decDigits (c % 65536))).size ≤ 10 := by rw [str_size]; exact dec_len _ 9 (by omega)
        have n1 : ((c : Int) == 4294967041) = false := by simp; omega
        have n2 : ((c : Int) == 4294967042) = false := by simp; omega
        have n3 : ((c : Int) == 4294967043) = false := by simp; omega
        clear hn
        go_enter Tryd.func48, Tryd.ntmps48
        go_wp2_with fail
        refine (q1.out _).mono ?_
        rintro e w1 ⟨rfl, rfl⟩
        go_wp2_with fail
        refine (q2.out _).mono ?_
        rintro e w1 ⟨rfl, rfl⟩
        go_wp2
        go_ret
        refine ⟨?_, rfl⟩
        rw [hs.out]
        rfl

theorem cell_block {w : World} {p : Addr} {v : Value} (h : w.cell? p = some v) : p.block < w.heap.size := World.block_lt_of_cell? w _ h
/-- What the library's own variables hold, as far as the calls here read them. -/
structure Env (w : World) : Prop where
  tab : Tab w
  most : ∃ m, w.cell? ⟨0, 0, none⟩ = some (.int .i64 m)
  syn : ∃ ev, w.cell? ⟨1, 0, none⟩ = some ev ∧ (ev = .nilIface ∨ ∃ te pe, ev = .iface te pe)
  rng : ∃ ev, w.cell? ⟨2, 0, none⟩ = some ev ∧ (ev = .nilIface ∨ ∃ te pe, ev = .iface te pe)
theorem Env.below {w w' : World} (h : Env w) (hb : Below w.heap.size w w') : Env w' :=
  ⟨h.tab.below hb, h.most.imp fun _ hm => (hb.cell (World.block_lt_of_cell? w _ hm)).trans hm, h.syn.imp fun _ hm => ⟨(hb.cell (World.block_lt_of_cell? w _ hm.1)).trans hm.1, hm.2⟩,
    h.rng.imp fun _ hm => ⟨(hb.cell (World.block_lt_of_cell? w _ hm.1)).trans hm.1, hm.2⟩⟩
theorem below_drewN0 (w : World) (n : Nat) : Below w.heap.size w (w.drewN n) := below_drewN (Below.refl _ w) n

/-- strconv.ParseUint at 16 bits: the number and nil, or a number and an error. -/
theorem pu16_any (s : ByteArray) (hs : s.size ≤ 1000) (w : World) (he : Env w) : Calls Tryd.prog 121 #[.string s, .int .i64 10, .int .i64 16] w fun e w' => Below w.heap.size w w' ∧
    ((∃ u, u < 65536 ∧ Lib.parseUintB 16 s.data.toList = .ok u ∧ e = .returned (.tuple #[.int .u64 (u : Int), .nilIface])) ∨
     (∃ (u : Nat) (te : TypeId) (pe : Value), u < 65536 ∧ (∀ x, Lib.parseUintB 16 s.data.toList ≠ .ok x) ∧ e = .returned (.tuple #[.int .u64 (u : Int), .iface te pe]))) := by
  rcases h : Lib.parseUintB 16 s.data.toList with u | _ | _
  · 
    have hu := Lib.parseUintB_le h
    refine (Tryd.strconv_ParseUint_10_at16_ok s (by omega) u h w).mono ?_
    rintro e w' ⟨rfl, hw⟩
    refine ⟨?_, Or.inl ⟨u, by omega, rfl, rfl⟩⟩
    rcases hw with rfl | rfl
    · exact Below.refl _ _
    · exact Go.Joins.below_bytesWorld _ _ _ _ (Nat.le_refl _)
  · 
    obtain ⟨ev, hv, hev⟩ := he.syn
    refine (Tryd.strconv_ParseUint_10_at16_syntax s (by omega) h ev w hv hev).mono ?_
    rintro e w' ⟨N, rfl, _, _, hb⟩
    exact ⟨hb, Or.inr ⟨0, _, _, by omega, by simp, rfl⟩⟩
  · 
    obtain ⟨ev, hv, hev⟩ := he.rng
    refine (Tryd.strconv_ParseUint_10_at16_range s (by omega) h ev w hv hev).mono ?_
    rintro e w' ⟨N, rfl, _, _, hb⟩
    exact ⟨hb, Or.inr ⟨65535, _, _, by omega, by simp, rfl⟩⟩

set_option maxHeartbeats 400000 in
theorem number_any (s : ByteArray) (hs : s.size ≤ 1000) (w : World) (he : Env w) : Calls Tryd.prog 142 #[.string s] w fun e w' => Below w.heap.size w w' ∧
    ∃ (u : Nat) (b : Bool), u < 65536 ∧ e = .returned (.tuple #[.int .u16 (u : Int), .bool b]) ∧ (∀ x, Lib.parseUintB 16 s.data.toList = .ok x → u = x ∧ b = true) := by
  have HP := hide (pu16_any s hs w he)
  go_enter Tryd.func142, Tryd.ntmps142
  go_wp2_with fail
  refine HP.out.mono ?_
  rintro e w1 ⟨hb1, ⟨u, hu, hp, rfl⟩ | ⟨u, te, pe, hu, hp, rfl⟩⟩
  · have HX := hide hp
    clear hp
    go_wp2_with fail
    go_region
    go_wp2
    go_ret2
    refine ⟨below_drewN hb1 1, u, true, hu, rfl, fun x hx => ?_⟩
    rw [HX.out] at hx
    cases hx
    exact ⟨rfl, rfl⟩
  · have HX := hide hp
    clear hp
    go_wp2_with fail
    go_region
    go_wp2
    go_ret2
    refine ⟨below_drewN hb1 1, u, false, hu, rfl, fun x hx => ?_⟩
    exact absurd hx (HX.out x)
theorem fold_ge (l : List UInt8) : ∀ acc : Nat, acc ≤ l.foldl (fun a c => 10 * a + (c.toNat - 48)) acc := by
  induction l with
  | nil => intro acc; exact Nat.le_refl _
  | cons c r ih => intro acc; exact Nat.le_trans (show acc ≤ 10 * acc + (c.toNat - 48) by omega) (ih _)
theorem parseM_fold (M : Nat) (hM : M < 1844674407370955162) (l : List UInt8) : ∀ acc : Nat, (∀ c ∈ l, 48 ≤ c.toNat ∧ c.toNat ≤ 57) → l.foldl (fun a c => 10 * a + (c.toNat - 48)) acc ≤ M →
    Lib.parseUintM M acc l = .ok (l.foldl (fun a c => 10 * a + (c.toNat - 48)) acc) := by
  induction l with
  | nil => intro acc _ _; rfl
  | cons c r ih =>
    intro acc hd hv
    have hc := hd c (by simp)
    simp only [List.foldl_cons] at hv ⊢
    have h2 := fold_ge r (10 * acc + (c.toNat - 48))
    unfold Lib.parseUintM
    rw [if_pos hc, if_neg (by omega), if_neg (by omega), show acc * 10 + (c.toNat - 48) = 10 * acc + (c.toNat - 48) by omega]
    exact ih _ (fun x hx => hd x (by simp [hx])) hv
theorem parse_dec (B u : Nat) (hB : 2 ^ B - 1 < 1844674407370955162) (hu : u ≤ 2 ^ B - 1) : Lib.parseUintB B (Lib.decDigits u) = .ok u := by
  unfold Lib.parseUintB
  rw [if_neg (dec_ne u)]
  have h1 := numOf_dec u
  unfold numOf at h1
  have := parseM_fold (2 ^ B - 1) hB (Lib.decDigits u) 0 (dec_dig u) (by rw [h1]; exact hu)
  rwa [h1] at this
theorem index_at (p : UInt8) (x y : List UInt8) (hx : ∀ c ∈ x, c ≠ p) : Lib.index (x ++ p :: y) [p] = (x.length : Int) := by
  induction x with
  | nil => simp [Lib.index]
  | cons c r ih =>
    have hc : c ≠ p := hx c (by simp)
    have := ih (fun d hd => hx d (by simp [hd]))
    rw [List.cons_append, Lib.index, this]
    have e : ([p] : List UInt8).isPrefixOf (c :: (r ++ p :: y)) = false := by first | (simp [List.isPrefixOf]; done) | simp [List.isPrefixOf, Ne.symm hc]
    rw [e]
    have e2 : ((r.length : Int) == -1) = false := by first | (simp; done) | (simp; omega)
    rw [e2]
    simp
theorem cut_at (p : UInt8) (x y : List UInt8) (hx : ∀ c ∈ x, c ≠ p) : Lib.cut (x ++ p :: y) [p] = (x, y, true) := by
  unfold Lib.cut
  rw [index_at p x y hx, if_pos (by omega)]
  simp
theorem commName_txt (c : Nat) (h : commName c ≠ []) : commT c = commName c := by unfold commT; rw [if_neg h]
theorem cut_len1 (l sep : List UInt8) : (Lib.cut l sep).1.length ≤ l.length := by
  unfold Lib.cut; split
  · simp only [List.length_take]; omega
  · exact Nat.le_refl _
theorem cut_len2 (l sep : List UInt8) : (Lib.cut l sep).2.1.length ≤ l.length := by
  unfold Lib.cut; split
  · simp only [List.length_drop]; omega
  · simp
theorem cut_any (p : UInt8) (l : List UInt8) (hl : l.length ≤ 1000) (w : World) (he : Env w) : Calls Tryd.prog 119 #[.string (str l), .string ⟨#[p]⟩] w fun e w' =>
    e = .returned (.tuple #[.string (str (Lib.cut l [p]).1), .string (str (Lib.cut l [p]).2.1), .bool (Lib.cut l [p]).2.2]) ∧ Below w.heap.size w w' := by
  obtain ⟨m, hm⟩ := he.most
  have h := Tryd.strings_Cut (str l) ⟨#[p]⟩ m w (by rw [str_size]; omega) hm
  rw [str_data] at h
  refine h.mono ?_
  rintro e w' ⟨rfl, n, rfl⟩
  exact ⟨rfl, below_drewN0 _ _⟩
theorem env_cells {w : World} (he : Env w) (o : Obj) : Env (w.alloc o) := he.below ((Below.refl _ w).alloc (Nat.le_refl _) _)


set_option maxRecDepth 100000 in
set_option maxHeartbeats 2000000 in
theorem cparse_any (l : List UInt8) (hl : l.length ≤ 100) (w : World) (he : Env w) : Calls Tryd.prog 103 #[.string (str l)] w fun e w' => Below w.heap.size w w' ∧
    ∃ (c : Nat) (b : Bool), c < 4294967296 ∧ e = .returned (.tuple #[.int .u32 (c : Int), .bool b]) ∧ (b = true → l = commT c) ∧ (∀ x, x < 4294967296 → l = commT x → b = true ∧ c = x) := by
  have HE := hide (env_cells he (.cells #[.int .u32 4294967041, .int .u32 4294967042, .int .u32 4294967043] 22))
  have HL := hide hl
  have hbw := hide ((Below.refl w.heap.size w).alloc (Nat.le_refl _) (.cells #[.int .u32 4294967041, .int .u32 4294967042, .int .u32 4294967043] 22))
  clear he hl
  have hn0 := hide (name_c 4294967041)
  have hn1 := hide (name_c 4294967042)
  have hn2 := hide (name_c 4294967043)
  go_enter Tryd.func103, Tryd.ntmps103
  go_wp2
  go_loop [16] (fun i => ∃ k : Nat, k ≤ 3 ∧ i = .int .i64 k ∧ ∀ j, j < k → l ≠ commName (4294967041 + j)) (fun i => 3 - (intOf i).toNat)
  case atStart => exact ⟨0, by omega, rfl, by omega⟩
  case round =>
    obtain ⟨k, hk, rfl, hne⟩ := hrel
    have HN := hide hne
    clear hne
    rcases (show k = 0 ∨ k = 1 ∨ k = 2 ∨ k = 3 by omega) with h | h | h | h
    · subst h
      by_cases hN : l = commName 4294967041
      · have HQ := hide hN
        have ht : ((str (commName 4294967041)).toList == (str l).toList) = true := by rw [str_beq, hN]; simp
        clear hN
        go_wp2_with fail
        refine (hn0.out _).mono ?_
        rintro e w1 ⟨rfl, rfl⟩
        go_wp2
        go_ret2
        have hCT : l = commT 4294967041 := by rw [HQ.out]; decide +kernel
        exact ⟨hbw.out, 4294967041, true, by omega, rfl, fun _ => hCT, fun x hx hlx => ⟨rfl, commT_inj (hCT.symm.trans hlx)⟩⟩
      · have HQ := hide hN
        have ht : ((str (commName 4294967041)).toList == (str l).toList) = false := by rw [str_beq]; simpa using fun h => hN h.symm
        clear hN
        go_wp2_with fail
        refine (hn0.out _).mono ?_
        rintro e w1 ⟨rfl, rfl⟩
        go_wp2
        go_round
        case rel => exact ⟨1, by omega, by go_num, fun j hj => by
          by_cases hjk : j < 0
          · exact HN.out j hjk
          · obtain rfl : j = 0 := by omega
            exact HQ.out⟩
        case measure => simp [intOf]
    · subst h
      by_cases hN : l = commName 4294967042
      · have HQ := hide hN
        have ht : ((str (commName 4294967042)).toList == (str l).toList) = true := by rw [str_beq, hN]; simp
        clear hN
        go_wp2_with fail
        refine (hn1.out _).mono ?_
        rintro e w1 ⟨rfl, rfl⟩
        go_wp2
        go_ret2
        have hCT : l = commT 4294967042 := by rw [HQ.out]; decide +kernel
        exact ⟨hbw.out, 4294967042, true, by omega, rfl, fun _ => hCT, fun x hx hlx => ⟨rfl, commT_inj (hCT.symm.trans hlx)⟩⟩
      · have HQ := hide hN
        have ht : ((str (commName 4294967042)).toList == (str l).toList) = false := by rw [str_beq]; simpa using fun h => hN h.symm
        clear hN
        go_wp2_with fail
        refine (hn1.out _).mono ?_
        rintro e w1 ⟨rfl, rfl⟩
        go_wp2
        go_round
        case rel => exact ⟨2, by omega, by go_num, fun j hj => by
          by_cases hjk : j < 1
          · exact HN.out j hjk
          · obtain rfl : j = 1 := by omega
            exact HQ.out⟩
        case measure => simp [intOf]
    · subst h
      by_cases hN : l = commName 4294967043
      · have HQ := hide hN
        have ht : ((str (commName 4294967043)).toList == (str l).toList) = true := by rw [str_beq, hN]; simp
        clear hN
        go_wp2_with fail
        refine (hn2.out _).mono ?_
        rintro e w1 ⟨rfl, rfl⟩
        go_wp2
        go_ret2
        have hCT : l = commT 4294967043 := by rw [HQ.out]; decide +kernel
        exact ⟨hbw.out, 4294967043, true, by omega, rfl, fun _ => hCT, fun x hx hlx => ⟨rfl, commT_inj (hCT.symm.trans hlx)⟩⟩
      · have HQ := hide hN
        have ht : ((str (commName 4294967043)).toList == (str l).toList) = false := by rw [str_beq]; simpa using fun h => hN h.symm
        clear hN
        go_wp2_with fail
        refine (hn2.out _).mono ?_
        rintro e w1 ⟨rfl, rfl⟩
        go_wp2
        go_round
        case rel => exact ⟨3, by omega, by go_num, fun j hj => by
          by_cases hjk : j < 2
          · exact HN.out j hjk
          · obtain rfl : j = 2 := by omega
            exact HQ.out⟩
        case measure => simp [intOf]
    · subst h
      have HC := hide (cut_any 58 l (by have := HL.out; omega) _ HE.out)
      have hx1 := cut_len1 l [58]
      have hx2 := cut_len2 l [58]
      have HCA := hide (cut_at 58)
      obtain ⟨x, hx⟩ : ∃ x, (Lib.cut l [58]).1 = x := ⟨_, rfl⟩
      obtain ⟨y, hy⟩ : ∃ y, (Lib.cut l [58]).2.1 = y := ⟨_, rfl⟩
      obtain ⟨z, hz⟩ : ∃ z, (Lib.cut l [58]).2.2 = z := ⟨_, rfl⟩
      rw [hx, hy, hz] at HC
      rw [hx] at hx1
      rw [hy] at hx2
      have HX := hide hx
      have HY := hide hy
      clear hx hy hz
      go_wp2_with fail
      refine HC.out.mono ?_
      rintro e w1 ⟨rfl, hb1⟩
      have he1 := hide (HE.out.below hb1)
      have hbw1 := hide (hbw.out.trans (hb1.mono hbw.out.size))
      clear hb1
      have HM1 := hide (number_any (str x) (by rw [str_size]; have := HL.out; omega) w1 he1.out)
      go_wp2_with fail
      refine HM1.out.mono ?_
      rintro e w2 ⟨hb2, u1, b1, hu1, rfl, hp1⟩
      have he2 := hide (he1.out.below hb2)
      have hbw2 := hide (hbw1.out.trans (hb2.mono hbw1.out.size))
      have HP1 := hide hp1
      clear hb2 hp1
      have HM2 := hide (number_any (str y) (by rw [str_size]; have := HL.out; omega) w2 he2.out)
      go_wp2_with fail
      refine HM2.out.mono ?_
      rintro e w3 ⟨hb3, u2, b2, hu2, rfl, hp2⟩
      have he3 := hide (he2.out.below hb3)
      have hbw3 := hide (hbw2.out.trans (hb3.mono hbw2.out.size))
      have HP2 := hide hp2
      clear hb3 hp2
      have HK := hide (make_any u1 u2 hu1 hu2 w3)
      go_wp2_with fail
      refine HK.out.mono ?_
      rintro e w4 ⟨rfl, rfl⟩
      obtain ⟨c, hc⟩ : ∃ c, u1 * 65536 + u2 = c := ⟨_, rfl⟩
      rw [hc]
      have hc32 : c < 4294967296 := by omega
      have key : ∀ t, t < 4294967296 → l = commT t → b1 = true ∧ b2 = true ∧ c = t := by
        intro t ht hlt
        by_cases hnt : commName t = []
        · have e1 : l = Lib.decDigits (t / 65536) ++ 58 :: Lib.decDigits (t % 65536) := by rw [hlt]; unfold commT; rw [if_pos hnt]
          have e2 := HCA.out (Lib.decDigits (t / 65536)) (Lib.decDigits (t % 65536)) (dec_no (by decide) _)
          rw [← e1] at e2
          have ex : x = Lib.decDigits (t / 65536) := by rw [← HX.out, e2]
          have ey : y = Lib.decDigits (t % 65536) := by rw [← HY.out, e2]
          have q1 := HP1.out (t / 65536) (by rw [str_data, ex]; exact parse_dec 16 _ (by decide) (by omega))
          have q2 := HP2.out (t % 65536) (by rw [str_data, ey]; exact parse_dec 16 _ (by decide) (by omega))
          exact ⟨q1.2, q2.2, by have h1 := q1.1; have h2 := q2.1; omega⟩
        · have e1 : l = commName t := by rw [hlt]; exact commName_txt t hnt
          have := (not_congr (commName_nil t)).1 hnt
          rcases (show t = 4294967041 ∨ t = 4294967042 ∨ t = 4294967043 by omega) with h | h | h
          · exact absurd (by rw [e1, h]) (HN.out 0 (by omega))
          · exact absurd (by rw [e1, h]) (HN.out 1 (by omega))
          · exact absurd (by rw [e1, h]) (HN.out 2 (by omega))
      have HKey := hide key
      clear key hc hu1 hu2
      cases b1
      · go_wp2
        go_ret2
        exact ⟨hbw3.out, c, false, hc32, rfl, fun h => by simp at h, fun t ht hlt => absurd (HKey.out t ht hlt).1 (by simp)⟩
      · cases b2
        · go_wp2
          go_ret2
          exact ⟨hbw3.out, c, false, hc32, rfl, fun h => by simp at h, fun t ht hlt => absurd (HKey.out t ht hlt).2.1 (by simp)⟩
        · have HTx := hide (text_any c hc32 w3 he3.out.tab)
          have hq := hide (str_beq (commT c) l)
          go_wp2_with fail
          refine HTx.out.mono ?_
          rintro e w5 ⟨rfl, hb5⟩
          go_wp2
          go_ret2
          refine ⟨hbw3.out.trans (hb5.mono hbw3.out.size), c, (commT c == l), hc32, by rw [← hq.out]; rfl, fun h => by simpa using (beq_iff_eq.1 h).symm, fun t ht hlt => ?_⟩
          have := (HKey.out t ht hlt).2.2
          subst this
          exact ⟨by simp [hlt], rfl⟩
end Go.Proofs.YtiibglkiakhfgaaDoor
