import Derived.Test.YtiibglkiakhfgaaDoorCommEnv
import Derived.Test.YtiibglkiakhfgaaDoorPrefixOpen
set_option linter.unusedSimpArgs false
set_option linter.unusedVariables false
namespace Go.Proofs.YtiibglkiakhfgaaDoor
open Go.RowKit
/-- A text parted at a sign. -/
def parts (p : UInt8) : List UInt8 → List (List UInt8)
  | [] => [[]]
  | c :: r => if c = p then [] :: parts p r else match parts p r with
    | [] => [[c]]
    | h :: t => (c :: h) :: t
theorem parts_ne (p : UInt8) (l : List UInt8) : parts p l ≠ [] := by
  cases l with
  | nil => simp [parts]
  | cons c r =>
    unfold parts
    split
    · simp
    · split <;> simp
theorem parts_none (p : UInt8) : ∀ l : List UInt8, (∀ c ∈ l, c ≠ p) → parts p l = [l]
  | [], _ => rfl
  | c :: r, h => by
    have hc : c ≠ p := h c (by simp)
    have := parts_none p r (fun d hd => h d (by simp [hd]))
    rw [parts, if_neg hc, this]
theorem parts_at (p : UInt8) : ∀ x y : List UInt8, (∀ c ∈ x, c ≠ p) → parts p (x ++ p :: y) = x :: parts p y
  | [], y, _ => by simp [parts]
  | c :: r, y, h => by
    have hc : c ≠ p := h c (by simp)
    have := parts_at p r y (fun d hd => h d (by simp [hd]))
    rw [List.cons_append, parts, if_neg hc, this]
theorem split_or (p : UInt8) : ∀ l : List UInt8, (∀ c ∈ l, c ≠ p) ∨ ∃ x y, l = x ++ p :: y ∧ ∀ c ∈ x, c ≠ p
  | [] => .inl (by simp)
  | c :: r => by
    by_cases hc : c = p
    · subst hc; exact .inr ⟨[], r, rfl, by simp⟩
    · rcases split_or p r with h | ⟨x, y, rfl, hx⟩
      · refine .inl fun d hd => ?_
        rcases List.mem_cons.1 hd with rfl | hd
        · exact hc
        · exact h d hd
      · refine .inr ⟨c :: x, y, rfl, fun d hd => ?_⟩
        rcases List.mem_cons.1 hd with rfl | hd
        · exact hc
        · exact hx d hd
theorem index_no (p : UInt8) : ∀ l : List UInt8, (∀ c ∈ l, c ≠ p) → Lib.index l [p] = -1
  | [], _ => by simp [Lib.index]
  | c :: r, h => by
    have hc : c ≠ p := h c (by simp)
    have ih := index_no p r (fun d hd => h d (by simp [hd]))
    rw [Lib.index, ih]
    have e : ([p] : List UInt8).isPrefixOf (c :: r) = false := by simp [List.isPrefixOf, Ne.symm hc]
    rw [e]
    simp
theorem splitK_parts (p : UInt8) : ∀ (n : Nat) (l : List UInt8), l.length ≤ n → Lib.splitK [p] 0 (Lib.count l [p]) l = parts p l
  | 0, l, h => by
    have : l = [] := List.eq_nil_of_length_eq_zero (by omega)
    subst this
    simp [Lib.count_one, Lib.splitK, parts]
  | n + 1, l, h => by
    rcases split_or p l with hl | ⟨x, y, rfl, hx⟩
    · rw [parts_none p l hl, Lib.count_one, List.count_eq_zero.2 (fun hm => hl p hm rfl)]
      rfl
    · have hc : Lib.count (x ++ p :: y) [p] = Lib.count y [p] + 1 := by
        rw [Lib.count_one, Lib.count_one, List.count_append, List.count_cons_self, List.count_eq_zero.2 (fun hm => hx p hm rfl)]; omega
      rw [hc, Lib.splitK, index_at p x y hx, if_neg (by simp), parts_at p x y hx]
      have e1 : ((x.length : Int).toNat + 0) = x.length := by omega
      have e2 : ((x.length : Int).toNat + [p].length) = x.length + 1 := by simp
      rw [e1, e2, List.take_left']
      · have e3 : (x ++ p :: y).drop (x.length + 1) = y := by simp
        rw [e3, splitK_parts p n y (by simp at h; omega)]
      · rfl
theorem splitB_parts (p : UInt8) (l : List UInt8) : Lib.splitB ⟨#[p]⟩ 0 (Lib.countB (str l) ⟨#[p]⟩) (str l) = (parts p l).map str := by
  have h := Lib.splitB_data ⟨#[p]⟩ 0 (Lib.countB (str l) ⟨#[p]⟩) (str l)
  have e : Lib.countB (str l) ⟨#[p]⟩ = Lib.count l [p] := by unfold Lib.countB; rw [str_data]
  rw [e] at h ⊢
  rw [str_data, splitK_parts p _ l (Nat.le_refl _)] at h
  rw [← h, List.map_map]
  have : (str ∘ fun x : ByteArray => x.data.toList) = id := by funext x; exact str_of x
  rw [this, List.map_id]
theorem countB_parts (p : UInt8) (l : List UInt8) : Lib.countB (str l) ⟨#[p]⟩ + 1 = (parts p l).length := by
  have := Lib.splitB_all ⟨#[p]⟩ (Nat.le_refl 1) 0 _ (str l) rfl
  rw [splitB_parts, List.length_map] at this
  exact this.symm
theorem parts_len (p : UInt8) : ∀ (n : Nat) (l : List UInt8), l.length ≤ n → (parts p l).length ≤ l.length + 1 ∧ ∀ x ∈ parts p l, x.length ≤ l.length
  | 0, l, h => by
    have : l = [] := List.eq_nil_of_length_eq_zero (by omega)
    subst this
    simp [parts]
  | n + 1, l, h => by
    rcases split_or p l with hl | ⟨x, y, rfl, hx⟩
    · rw [parts_none p l hl]; simp
    · obtain ⟨h1, h2⟩ := parts_len p n y (by simp at h; omega)
      rw [parts_at p x y hx]
      refine ⟨by simp; omega, fun z hz => ?_⟩
      rcases List.mem_cons.1 hz with rfl | hz
      · simp
      · have := h2 z hz; simp; omega
/-- strconv.ParseUint at 8 bits: the number and nil, or a number and an error. -/
theorem pu8_any (s : ByteArray) (hs : s.size ≤ 1000) (w : World) (he : Env w) : Calls Tryd.prog 121 #[.string s, .int .i64 10, .int .i64 8] w fun e w' => Below w.heap.size w w' ∧
    ((∃ u, u < 256 ∧ Lib.parseUintB 8 s.data.toList = .ok u ∧ e = .returned (.tuple #[.int .u64 (u : Int), .nilIface])) ∨
     (∃ (u : Nat) (te : TypeId) (pe : Value), u < 256 ∧ (∀ x, Lib.parseUintB 8 s.data.toList ≠ .ok x) ∧ e = .returned (.tuple #[.int .u64 (u : Int), .iface te pe]))) := by
  rcases h : Lib.parseUintB 8 s.data.toList with u | _ | _
  · 
    have hu := Lib.parseUintB_le h
    refine (Tryd.strconv_ParseUint_10_at8_ok s (by omega) u h w).mono ?_
    rintro e w' ⟨rfl, hw⟩
    refine ⟨?_, Or.inl ⟨u, by omega, rfl, rfl⟩⟩
    rcases hw with rfl | rfl
    · exact Below.refl _ _
    · exact Go.Joins.below_bytesWorld _ _ _ _ (Nat.le_refl _)
  · 
    obtain ⟨ev, hv, hev⟩ := he.syn
    refine (Tryd.strconv_ParseUint_10_at8_syntax s (by omega) h ev w hv hev).mono ?_
    rintro e w' ⟨N, rfl, _, _, hb⟩
    exact ⟨hb, Or.inr ⟨0, _, _, by omega, by simp, rfl⟩⟩
  · 
    obtain ⟨ev, hv, hev⟩ := he.rng
    refine (Tryd.strconv_ParseUint_10_at8_range s (by omega) h ev w hv hev).mono ?_
    rintro e w' ⟨N, rfl, _, _, hb⟩
    exact ⟨hb, Or.inr ⟨255, _, _, by omega, by simp, rfl⟩⟩

theorem parts_addr (a : Nat) : parts 46 (addrL a) = [Lib.decDigits (octN a 0), Lib.decDigits (octN a 1), Lib.decDigits (octN a 2), Lib.decDigits (octN a 3)] := by
  have e : addrL a = Lib.decDigits (octN a 0) ++ 46 :: (Lib.decDigits (octN a 1) ++ 46 :: (Lib.decDigits (octN a 2) ++ 46 :: Lib.decDigits (octN a 3))) := by simp [addrL]
  rw [e, parts_at _ _ _ (dec_no (by decide) _), parts_at _ _ _ (dec_no (by decide) _), parts_at _ _ _ (dec_no (by decide) _), parts_none _ _ (dec_no (by decide) _)]
/-- An address's first k bytes. -/
def accN (x k : Nat) : Nat := x / 256 ^ (4 - k)
theorem accN_zero (x : Nat) (h : x < 4294967296) : accN x 0 = 0 := by unfold accN; exact Nat.div_eq_of_lt h
theorem accN_four (x : Nat) : accN x 4 = x := by unfold accN; simp
theorem accN_succ (x k : Nat) (h : k < 4) : accN x (k + 1) = accN x k * 256 + octN x k := by
  unfold accN octN
  rcases (show k = 0 ∨ k = 1 ∨ k = 2 ∨ k = 3 by omega) with rfl | rfl | rfl | rfl
  all_goals (simp only [Nat.reduceAdd, Nat.reduceSub, Nat.reducePow]; omega)
theorem accN_lt (x k : Nat) (h : x < 4294967296) (hk : k < 4) : accN x k < 16777216 := by
  unfold accN
  rcases (show k = 0 ∨ k = 1 ∨ k = 2 ∨ k = 3 by omega) with rfl | rfl | rfl | rfl
  all_goals (simp only [Nat.reduceAdd, Nat.reduceSub, Nat.reducePow]; omega)
/-- What the parts of a text at hand say of an address whose text it is. -/
def AccOf (l : List UInt8) (k A : Nat) : Prop := ∀ x, x < 4294967296 → l = addrL x → A = accN x k
def SplitP (l : List UInt8) (w : World) (e : Ending) (w' : World) : Prop :=
  e = .returned (.slice (some ⟨w.heap.size, 0, none⟩) (parts 46 l).length (parts 46 l).length) ∧ Below w.heap.size w w' ∧ ∀ j x, (parts 46 l)[j]? = some x → w'.cell? ⟨w.heap.size, j, none⟩ = some (.string (str x))
theorem split46 (l : List UInt8) (hl : l.length ≤ 1000) (w : World) (he : Env w) : Calls Tryd.prog 156 #[.string (str l), .string ⟨#[46]⟩] w (SplitP l w) := by
  obtain ⟨m, hm⟩ := he.most
  have h := Tryd.strings_Split (str l) ⟨#[46]⟩ m w (by rw [str_size]; omega) hm (by decide)
  rw [splitB_parts, countB_parts] at h
  refine h.mono ?_
  rintro e w' ⟨rfl, rfl⟩
  refine ⟨rfl, (Below.refl _ _).alloc (Nat.le_refl _) _, fun j x hj => ?_⟩
  have hb := (Blk.new w 9 (((parts 46 l).map str).map Value.string).toArray).cell j
  rw [hb]
  simp [hj]
def PAddrP (l : List UInt8) (w : World) (e : Ending) (w' : World) : Prop :=
  Below w.heap.size w w' ∧ ∃ (a : Nat) (b : Bool), a < 4294967296 ∧ e = .returned (.tuple #[.int .u32 (a : Int), .bool b]) ∧ (b = true → l = addrL a) ∧ (∀ x, x < 4294967296 → l = addrL x → b = true ∧ a = x)
theorem oct_or (A u : Nat) (hu : u < 256) : A * 256 % 4294967296 ||| u = A * 256 % 4294967296 + u := by
  have h : A * 256 % 4294967296 = 2 ^ 8 * (A % 16777216) := by omega
  rw [h, Nat.two_pow_add_eq_or_of_lt (by omega)]
set_option maxRecDepth 100000 in
set_option maxHeartbeats 1000000 in
theorem paddr_any (l : List UInt8) (hl : l.length ≤ 100) (w : World) (he : Env w) : Calls Tryd.prog 120 #[.string (str l)] w (PAddrP l w) := by
  have HS := hide (split46 l (by omega) w he)
  have HE := hide he
  have HL := hide hl
  obtain ⟨ps, hps⟩ : ∃ ps, parts 46 l = ps := ⟨_, rfl⟩
  obtain ⟨n, hn⟩ : ∃ n, ps.length = n := ⟨_, rfl⟩
  have hlen := parts_len 46 _ l (Nat.le_refl _)
  rw [hps] at hlen
  have hn1 : n ≤ 1000 := by omega
  have HX := hide hlen.2
  have HPS := hide hps
  have HN := hide hn
  have HAd : Hid (∀ x, l = addrL x → n = 4 ∧ ∀ k, k < 4 → ps[k]? = some (Lib.decDigits (octN x k))) := hide (fun x hx => by
    have e := parts_addr x
    rw [← hx, HPS.out] at e
    subst e
    refine ⟨HN.out.symm, fun k hk => ?_⟩
    rcases (show k = 0 ∨ k = 1 ∨ k = 2 ∨ k = 3 by omega) with rfl | rfl | rfl | rfl <;> rfl)
  clear he hl hps hn hlen
  go_enter Tryd.func120, Tryd.ntmps120
  go_wp2_with fail
  refine HS.out.mono ?_
  rintro e w1 ⟨rfl, hb1, hcells⟩
  rw [HPS.out, HN.out]
  rw [HPS.out] at hcells
  have HC := hide hcells
  have HB1 := hide hb1
  clear hcells hb1
  go_wp2
  go_loopw [4, 14] (fun a i wr => ∃ k A : Nat, k ≤ n ∧ A < 4294967296 ∧ i = .int .i64 k ∧ a = .int .u32 A ∧ Below w1.heap.size w1 wr ∧ AccOf l k A) (fun _ i _ => n - (intOf i).toNat)
  case atStart => exact ⟨0, 0, by omega, by omega, rfl, rfl, Below.refl _ _, fun x hx _ => (accN_zero x hx).symm⟩
  case round =>
    obtain ⟨k, A, hk, hA, rfl, rfl, hbel, hacc⟩ := hrel
    have HA := hide hacc
    have HBel := hide hbel
    clear hacc hbel
    have her := hide (HE.out.below (HB1.out.trans (HBel.out.mono HB1.out.size)))
    by_cases hlt : k < n
    · obtain ⟨x, hx⟩ : ∃ x, ps[k]? = some x := ⟨ps[k]'(by rw [HN.out]; exact hlt), List.getElem?_eq_getElem _⟩
      have HXK := hide hx
      have hc0 := HC.out k x hx
      have hc : wr.cell? ⟨w.heap.size, k, none⟩ = some (.string (str x)) := (HBel.out.cell (World.block_lt_of_cell? _ _ hc0)).trans hc0
      have HP := hide (pu8_any (str x) (by rw [str_size]; have := HX.out x (List.mem_of_getElem? hx); have := HL.out; omega) wr her.out)
      have HOk : Hid (∀ t, t < 4294967296 → l = addrL t → k < 4 ∧ Lib.parseUintB 8 (str x).data.toList = .ok (octN t k)) := hide (fun t ht hlt2 => by
        obtain ⟨h4, hp⟩ := HAd.out t hlt2
        have e := Option.some.inj ((hp k (by omega)).symm.trans HXK.out)
        refine ⟨by omega, ?_⟩
        rw [str_data, ← e]
        exact parse_dec 8 _ (by decide) (by have := octN_lt t k; omega))
      clear hx hc0
      go_wp2_with fail
      refine HP.out.mono ?_
      rintro e w3 ⟨hb3, ⟨u, hu, hp, rfl⟩ | ⟨u, te, pe, hu, hp, rfl⟩⟩
      · have HPU := hide hp
        have HB3 := hide hb3
        clear hp hb3
        go_wp2
        go_roundw
        case rel =>
          refine ⟨k + 1, A * 256 % 4294967296 + u, by omega, by omega, by go_num, ?_, HBel.out.trans (HB3.out.mono HBel.out.size), fun t ht hlt2 => ?_⟩
          · rw [show ((A : Int) * 256 % 4294967296) = ((A * 256 % 4294967296 : Nat) : Int) by omega, u32_or_nat _ _ (by omega) (by omega), oct_or A u hu]
          · obtain ⟨h4, hp⟩ := HOk.out t ht hlt2
            have e := Lib.NumEnd.ok.inj (HPU.out.symm.trans hp)
            have hacc := HA.out t ht hlt2
            have := accN_lt t k ht h4
            rw [accN_succ t k h4, ← hacc, ← e, Nat.mod_eq_of_lt (by omega)]
        case measure => simp [intOf]; omega
      · have HPU := hide hp
        have HB3 := hide hb3
        clear hp hb3
        go_wp2
        go_ret2
        refine ⟨HB1.out.trans ((HBel.out.trans (HB3.out.mono HBel.out.size)).mono HB1.out.size), 0, false, by omega, rfl, fun h => by simp at h, fun t ht hlt2 => ?_⟩
        exact absurd (HOk.out t ht hlt2).2 (HPU.out _)
    · obtain rfl : k = n := by omega
      have hbw := hide (HB1.out.trans (HBel.out.mono HB1.out.size))
      by_cases h4 : k = 4
      · subst h4
        have HT := hide (addr_any A hA wr her.out.tab)
        have hq := hide (str_beq (addrL A) l)
        go_wp2_with fail
        refine HT.out.mono ?_
        rintro e w5 ⟨rfl, hb5⟩
        go_wp2
        go_ret2
        refine ⟨hbw.out.trans (hb5.mono hbw.out.size), A, (addrL A == l), hA, by rw [← hq.out]; rfl, fun h => by simpa using (beq_iff_eq.1 h).symm, fun t ht hlt2 => ?_⟩
        have e := HA.out t ht hlt2
        rw [accN_four] at e
        exact ⟨by rw [hlt2, e]; simp, e⟩
      · have he4 : ((k : Int) == 4) = false := by simp; omega
        go_wp2
        go_ret2
        exact ⟨hbw.out, A, false, hA, rfl, fun h => by simp at h, fun t ht hlt2 => absurd (HAd.out t hlt2).1 h4⟩
set_option maxHeartbeats 400000 in
theorem PAddr_any (l : List UInt8) (hl : l.length ≤ 100) (w : World) (he : Env w) : Calls Tryd.prog 74 #[.string (str l)] w fun e w' => Below w.heap.size w w' ∧
    ((∃ a : Nat, a < 4294967296 ∧ l = addrL a ∧ e = .returned (.tuple #[.int .u32 (a : Int), .int .i64 0])) ∨
     ((∀ x, x < 4294967296 → l ≠ addrL x) ∧ e = .returned (.tuple #[.int .u32 0, .int .i64 2]))) := by
  have HP := hide (paddr_any l hl w he)
  clear hl he
  go_enter Tryd.func74, Tryd.ntmps74
  go_wp2_with fail
  refine HP.out.mono ?_
  rintro e w1 ⟨hb1, a, b, ha, rfl, h1, h2⟩
  have H1 := hide h1
  have H2 := hide h2
  have HB := hide hb1
  clear h1 h2 hb1
  cases b
  · go_wp2
    go_ret2
    exact ⟨HB.out, Or.inr ⟨fun x hx hl => absurd (H2.out x hx hl).1 (by simp), rfl⟩⟩
  · go_wp2
    go_ret2
    exact ⟨HB.out, Or.inl ⟨a, ha, H1.out (by simp), rfl⟩⟩
set_option maxHeartbeats 400000 in
theorem Addr_any (a : Nat) (ha : a < 4294967296) (w : World) (ht : Tab w) :
    Calls Tryd.prog 75 #[.int .u32 a] w fun e w' => e = .returned (.string (str (addrL a))) ∧ Below w.heap.size w w' := by
  have HX := hide (addr_any a ha w ht)
  go_enter Tryd.func75, Tryd.ntmps75
  go_wp2_with fail
  refine HX.out.mono ?_
  rintro e w1 ⟨rfl, hb1⟩
  go_wp2
  go_ret
  exact ⟨rfl, hb1⟩
set_option maxHeartbeats 1000000 in
theorem refAddr_any (a : Nat) (ha : a < 4294967296) (w : World) :
    Calls Tryd.prog 77 #[.int .u32 a] w fun e w' => e = .returned (.string (str (addrL a))) ∧ w = w' := by
  have q0 : Hid (∀ w, Calls Tryd.prog 104 #[.int .u64 ((a : Int) / 16777216)] w fun e w' => e = .returned (.string (str (Lib.decDigits (octN a 0)))) ∧ w = w') := hide (fun w => by
    have := num_any (octN a 0) (by have := octN_lt a 0; omega) w
    rwa [show ((octN a 0 : Nat) : Int) = (a : Int) / 16777216 by unfold octN; omega] at this)
  have q1 : Hid (∀ w, Calls Tryd.prog 104 #[.int .u64 ((a : Int) / 65536 % 256)] w fun e w' => e = .returned (.string (str (Lib.decDigits (octN a 1)))) ∧ w = w') := hide (fun w => by
    have := num_any (octN a 1) (by have := octN_lt a 1; omega) w
    rwa [show ((octN a 1 : Nat) : Int) = (a : Int) / 65536 % 256 by unfold octN; omega] at this)
  have q2 : Hid (∀ w, Calls Tryd.prog 104 #[.int .u64 ((a : Int) / 256 % 256)] w fun e w' => e = .returned (.string (str (Lib.decDigits (octN a 2)))) ∧ w = w') := hide (fun w => by
    have := num_any (octN a 2) (by have := octN_lt a 2; omega) w
    rwa [show ((octN a 2 : Nat) : Int) = (a : Int) / 256 % 256 by unfold octN; omega] at this)
  have q3 : Hid (∀ w, Calls Tryd.prog 104 #[.int .u64 ((a : Int) % 256)] w fun e w' => e = .returned (.string (str (Lib.decDigits (octN a 3)))) ∧ w = w') := hide (fun w => by
    have := num_any (octN a 3) (by have := octN_lt a 3; omega) w
    rwa [show ((octN a 3 : Nat) : Int) = (a : Int) % 256 by unfold octN; omega] at this)
  have l0 : (str (Lib.decDigits (octN a 0))).size ≤ 3 := by rw [str_size]; exact oct_len a 0
  have l1 : (str (Lib.decDigits (octN a 1))).size ≤ 3 := by rw [str_size]; exact oct_len a 1
  have l2 : (str (Lib.decDigits (octN a 2))).size ≤ 3 := by rw [str_size]; exact oct_len a 2
  have l3 : (str (Lib.decDigits (octN a 3))).size ≤ 3 := by rw [str_size]; exact oct_len a 3
  go_enter Tryd.func77, Tryd.ntmps77
  go_wp2_with fail
  refine (q0.out _).mono ?_
  rintro e w1 ⟨rfl, rfl⟩
  go_wp2_with fail
  refine (q1.out _).mono ?_
  rintro e w1 ⟨rfl, rfl⟩
  go_wp2_with fail
  refine (q2.out _).mono ?_
  rintro e w1 ⟨rfl, rfl⟩
  go_wp2_with fail
  refine (q3.out _).mono ?_
  rintro e w1 ⟨rfl, rfl⟩
  go_wp2
  go_ret
  refine ⟨ret_str ?_, rfl⟩
  show str _ ++ str [46] ++ str _ ++ str [46] ++ str _ ++ str [46] ++ str _ = _
  rw [cat_str, cat_str, cat_str, cat_str, cat_str, cat_str]
  rfl
set_option maxHeartbeats 1000000 in
theorem refPText_any (a : Nat) (n : Int) (ha : a < 4294967296) (h1 : -9223372036854775808 ≤ n) (h2 : n ≤ 9223372036854775807) (w : World) :
    Calls Tryd.prog 76 #[pfx a n] w fun e w' => e = .returned (.string (str (textL a n))) ∧ Below w.heap.size w w' := by
  have hgd := refGood_any a n ha
  unfold pfx at hgd ⊢
  have HG := hide hgd
  clear hgd
  have k0 := fun x => cell?_far (W := w.alloc (.cells #[.int .u32 (a : Int), .int .i64 n] 46)) x (p := ⟨w.heap.size, 0, none⟩) (v := .int .u32 (a : Int)) (by simp)
  have k1 := fun x => cell?_far (W := w.alloc (.cells #[.int .u32 (a : Int), .int .i64 n] 46)) x (p := ⟨w.heap.size, 1, none⟩) (v := .int .i64 n) (by simp)
  cases hg : goodB a n
  · have hf := hide (show textL a n = [] by simp [textL, hg])
    rw [hg] at HG
    clear hg
    go_enter Tryd.func76, Tryd.ntmps76
    go_wp2_with fail
    refine (HG.out _).mono ?_
    rintro e w1 ⟨rfl, hb1⟩
    obtain ⟨x1, rfl⟩ := far_of_below hb1
    go_wp2
    go_ret
    rw [hf.out]
    exact ⟨rfl, below_box _ _ _⟩
  · have hf := hide (show textL a n = addrL a ++ [47] ++ Lib.decDigits n.toNat by simp [textL, hg])
    rw [hg] at HG
    have hn : 0 ≤ n ∧ n ≤ 32 := by simp [goodB] at hg; omega
    obtain ⟨k, rfl⟩ := Int.eq_ofNat_of_zero_le hn.1
    have hk : k ≤ 32 := by omega
    have l1 := addrL_len a
    have l2 : (Lib.decDigits k).length ≤ 2 := dec_len _ 1 (by omega)
    clear hg hn
    have s1 : (str (addrL a)).size ≤ 15 := by rw [str_size]; exact l1
    have s2 : (str (Lib.decDigits k)).size ≤ 2 := by rw [str_size]; exact l2
    go_enter Tryd.func76, Tryd.ntmps76
    go_wp2_with fail
    refine (HG.out _).mono ?_
    rintro e w1 ⟨rfl, hb1⟩
    have hbw : Below w.heap.size w w1 := ((Below.refl _ w).alloc (Nat.le_refl _) _).trans (hb1.mono (by simp))
    obtain ⟨x1, rfl⟩ := far_of_below hb1
    have m0 := fun y => cell?_far y (k0 x1)
    have m1 := fun y => cell?_far y (k1 x1)
    go_wp2
    refine wp_region_far (by kernel_rfl) (by kernel_rfl) ?_
    iterate 10 (go_big_quiet_step ((first | (go_at_call 77; exact far_same (refAddr_any a ha _)) | (go_at_call 104; exact far_same (num_any k (by omega) _)))))
    refine wpQuiet_nil ?_
    rintro _ ⟨nq, rfl⟩
    go_wp2
    go_ret
    refine ⟨?_, hbw.trans ((below_far _ _).mono hbw.size)⟩
    rw [hf.out]
    refine ret_str ?_
    show str (addrL a) ++ str [47] ++ str (Lib.decDigits k) = _
    rw [cat_str, cat_str]
    simp
theorem addr_no47 (a : Nat) : ∀ c ∈ addrL a, c ≠ 47 := by
  intro c hc
  simp only [addrL, List.mem_append, List.mem_singleton] at hc
  rcases hc with (((((h | h) | h) | h) | h) | h) | h
  all_goals first | exact dec_no (by decide) _ _ h | (subst h; decide)
theorem goodB_32 {a : Nat} {m : Int} (h : goodB a m = true) : 0 ≤ m ∧ m ≤ 32 := by simp [goodB] at h; omega
def PParseP (l : List UInt8) (w : World) (e : Ending) (w' : World) : Prop :=
  Below w.heap.size w w' ∧ ((∃ (a : Nat) (m : Nat), a < 4294967296 ∧ m ≤ 32 ∧ goodB a (m : Int) = true ∧ l = textL a (m : Int) ∧ e = .returned (.tuple #[pfx a (m : Int), .int .i64 0])) ∨
    ((∀ (x : Nat) (m : Int), x < 4294967296 → goodB x m = true → l ≠ textL x m) ∧ e = .returned (.tuple #[pfx 0 0, .int .i64 2])))
theorem cut_empty (p : UInt8) : (Lib.cut [] [p]).2.2 = false := by simp [Lib.cut, Lib.index]
set_option maxRecDepth 100000 in
set_option maxHeartbeats 2000000 in
theorem pparse_any (l : List UInt8) (hl : l.length ≤ 100) (w : World) (he : Env w) : Calls Tryd.prog 72 #[.string (str l)] w (PParseP l w) := by
  have HE := hide (env_cells he (.cells #[.int .u32 0, .int .i64 0] 46))
  have HL := hide hl
  have hbw := hide ((Below.refl w.heap.size w).alloc (Nat.le_refl _) (.cells #[.int .u32 0, .int .i64 0] 46))
  have hk0 := hide (Blk.new w 46 #[.int .u32 0, .int .i64 0])
  clear he hl
  have HC := hide (cut_any 47 l (by have := HL.out; omega) _ HE.out)
  have hx1 := cut_len1 l [47]
  have hx2 := cut_len2 l [47]
  have HCA := hide (cut_at 47)
  obtain ⟨x, hx⟩ : ∃ x, (Lib.cut l [47]).1 = x := ⟨_, rfl⟩
  obtain ⟨y, hy⟩ : ∃ y, (Lib.cut l [47]).2.1 = y := ⟨_, rfl⟩
  obtain ⟨z, hz⟩ : ∃ z, (Lib.cut l [47]).2.2 = z := ⟨_, rfl⟩
  rw [hx, hy, hz] at HC
  rw [hx] at hx1
  rw [hy] at hx2
  have HX := hide hx
  have HY := hide hy
  have HZ := hide hz
  have HCut : Hid (∀ (t : Nat) (m : Int), goodB t m = true → l = textL t m → x = addrL t ∧ y = Lib.decDigits m.toNat ∧ z = true) := hide (fun t m hg hlt => by
    have e1 : l = addrL t ++ 47 :: Lib.decDigits m.toNat := by rw [hlt]; simp [textL, hg]
    have e2 := HCA.out (addrL t) (Lib.decDigits m.toNat) (addr_no47 t)
    rw [← e1] at e2
    exact ⟨by rw [← HX.out, e2], by rw [← HY.out, e2], by rw [← HZ.out, e2]⟩)
  clear hx hy hz
  go_enter Tryd.func72, Tryd.ntmps72
  go_wp2_with fail
  refine HC.out.mono ?_
  rintro e w1 ⟨rfl, hb1⟩
  have he1 := hide (HE.out.below hb1)
  have hbw1 := hide (hbw.out.trans (hb1.mono hbw.out.size))
  have hk1 := hide (hk0.out.below hb1 (by simp))
  clear hb1
  have HM1 := hide (paddr_any x (by have := HL.out; omega) w1 he1.out)
  go_wp2_with fail
  refine HM1.out.mono ?_
  rintro e w2 ⟨hb2, a, b1, ha, rfl, hp1, hp2⟩
  have he2 := hide (he1.out.below hb2)
  have hbw2 := hide (hbw1.out.trans (hb2.mono hbw1.out.size))
  have hk2 := hide (hk1.out.below hb2 hk1.out.lt)
  have HP1 := hide hp1
  have HP2 := hide hp2
  clear hb2 hp1 hp2
  have HM2 := hide (pu8_any (str y) (by rw [str_size]; have := HL.out; omega) w2 he2.out)
  go_wp2_with fail
  refine HM2.out.mono ?_
  rintro e w3 ⟨hb3, ⟨u, hu, hp, rfl⟩ | ⟨u, te, pe, hu, hp, rfl⟩⟩
  · have he3 := hide (he2.out.below hb3)
    have hbw3 := hide (hbw2.out.trans (hb3.mono hbw2.out.size))
    have hk3 := hide (hk2.out.below hb3 hk2.out.lt)
    have HPU := hide hp
    clear hb3 hp
    have hlt3 := hk3.out.lt
    have c0 := blk_read hk3.out (i := 0) rfl
    have c1 := blk_read hk3.out (i := 1) rfl
    have f0 := hk3.out.frozen 0
    have f1 := hk3.out.frozen 1
    cases z
    · go_wp2
      have hR := ((hk3.out.set_ 0 (.int .u32 0)).set_ 1 (.int .i64 0)).alloc (.cells #[.int .u32 (a : Int), .int .i64 (u : Int)] 46)
      have r0 := blk_read hR (i := 0) (v := .int .u32 0) rfl
      have r1 := blk_read hR (i := 1) (v := .int .i64 0) rfl
      refine bodyPost_ret (v := .tuple #[.agg #[.int .u32 0, .int .i64 0], .int .i64 2]) (by simp [results, Tryd.results72, go_sem, r0, r1]) rfl ⟨?_, Or.inr ⟨fun t m ht hg hl => absurd (HCut.out t m hg hl).2.2 (by simp), rfl⟩⟩
      repeat (first | exact hbw3.out | refine Below.setCell ?_ (by simp) _ | refine Below.alloc ?_ (by simp; omega) _)
    · cases b1
      · go_wp2
        have hR := ((hk3.out.set_ 0 (.int .u32 0)).set_ 1 (.int .i64 0)).alloc (.cells #[.int .u32 (a : Int), .int .i64 (u : Int)] 46)
        have r0 := blk_read hR (i := 0) (v := .int .u32 0) rfl
        have r1 := blk_read hR (i := 1) (v := .int .i64 0) rfl
        refine bodyPost_ret (v := .tuple #[.agg #[.int .u32 0, .int .i64 0], .int .i64 2]) (by simp [results, Tryd.results72, go_sem, r0, r1]) rfl ⟨?_, Or.inr ⟨fun t m ht hg hl => absurd (HP2.out t ht (HCut.out t m hg hl).1).1 (by simp), rfl⟩⟩
        repeat (first | exact hbw3.out | refine Below.setCell ?_ (by simp) _ | refine Below.alloc ?_ (by simp; omega) _)
      · have HT := hide (fun w ht => ptext_any a (u : Int) ha (by omega) (by omega) w ht)
        unfold pfx at HT
        have hq := hide (str_beq (textL a (u : Int)) l)
        by_cases hlu : textL a (u : Int) = l
        · have hqt := hide (show ((str (textL a (u : Int))).toList == (str l).toList) = true by rw [hq.out]; simpa using hlu)
          have hqn := hide (show ((str (textL a (u : Int))).toList != (str l).toList) = false by unfold bne; rw [hqt.out]; rfl)
          have HLU := hide hlu
          have e1 := hqt.out
          have e2 := hqn.out
          clear hlu
          go_wp2_with fail
          refine (HT.out _ (he3.out.below ((Below.refl _ _).alloc (Nat.le_refl _) _)).tab).mono ?_
          rintro e w5 ⟨rfl, hb5⟩
          rw [World.size_alloc] at hb5
          have hkk := hide ((hk3.out.alloc (.cells #[.int .u32 (a : Int), .int .i64 (u : Int)] 46)).below hb5 (by omega))
          have hpp := hide ((Blk.new w3 46 #[.int .u32 (a : Int), .int .i64 (u : Int)]).below hb5 (by omega))
          have hbw5 := hide (hbw3.out.trans ((((Below.refl _ w3).alloc (Nat.le_refl _) (.cells #[.int .u32 (a : Int), .int .i64 (u : Int)] 46)).trans (hb5.mono (by omega))).mono hbw3.out.size))
          clear hb5 c0 c1 f0 f1
          have c0 := blk_read hkk.out (i := 0) rfl
          have c1 := blk_read hkk.out (i := 1) rfl
          have f0 := hkk.out.frozen 0
          have f1 := hkk.out.frozen 1
          have p0 := blk_read hpp.out (i := 0) rfl
          have p1 := blk_read hpp.out (i := 1) rfl
          have hlt5 := hkk.out.lt
          go_wp2
          have hgd : goodB a (u : Int) = true := by
            cases hg : goodB a (u : Int)
            · exfalso
              have : l = [] := by rw [← HLU.out]; simp [textL, hg]
              have hz := HZ.out
              rw [this, cut_empty] at hz
              simp at hz
            · rfl
          have hR := ((hkk.out.set_ 0 (.int .u32 (a : Int))).set_ 1 (.int .i64 (u : Int)))
          have r0 := blk_read hR (i := 0) (v := .int .u32 (a : Int)) rfl
          have r1 := blk_read hR (i := 1) (v := .int .i64 (u : Int)) rfl
          refine bodyPost_ret (v := .tuple #[.agg #[.int .u32 (a : Int), .int .i64 (u : Int)], .int .i64 0]) (by simp [results, Tryd.results72, go_sem, r0, r1]) rfl ⟨?_, Or.inl ⟨a, u, ha, by have := goodB_32 hgd; omega, hgd, HLU.out.symm, rfl⟩⟩
          repeat (first | exact hbw5.out | refine Below.setCell ?_ (by simp) _ | refine Below.alloc ?_ (by simp; omega) _)
        · have hqt := hide (show ((str (textL a (u : Int))).toList == (str l).toList) = false by rw [hq.out]; simpa using hlu)
          have hqn := hide (show ((str (textL a (u : Int))).toList != (str l).toList) = true by unfold bne; rw [hqt.out]; rfl)
          have HLU := hide hlu
          have e1 := hqt.out
          have e2 := hqn.out
          clear hlu
          go_wp2_with fail
          refine (HT.out _ (he3.out.below ((Below.refl _ _).alloc (Nat.le_refl _) _)).tab).mono ?_
          rintro e w5 ⟨rfl, hb5⟩
          rw [World.size_alloc] at hb5
          have hkk := hide ((hk3.out.alloc (.cells #[.int .u32 (a : Int), .int .i64 (u : Int)] 46)).below hb5 (by omega))
          have hbw5 := hide (hbw3.out.trans ((((Below.refl _ w3).alloc (Nat.le_refl _) (.cells #[.int .u32 (a : Int), .int .i64 (u : Int)] 46)).trans (hb5.mono (by omega))).mono hbw3.out.size))
          clear hb5 c0 c1 f0 f1
          have c0 := blk_read hkk.out (i := 0) rfl
          have c1 := blk_read hkk.out (i := 1) rfl
          have f0 := hkk.out.frozen 0
          have f1 := hkk.out.frozen 1
          have hlt5 := hkk.out.lt
          go_wp2
          have hR := ((hkk.out.set_ 0 (.int .u32 0)).set_ 1 (.int .i64 0))
          have r0 := blk_read hR (i := 0) (v := .int .u32 0) rfl
          have r1 := blk_read hR (i := 1) (v := .int .i64 0) rfl
          refine bodyPost_ret (v := .tuple #[.agg #[.int .u32 0, .int .i64 0], .int .i64 2]) (by simp [results, Tryd.results72, go_sem, r0, r1]) rfl ⟨?_, Or.inr ⟨fun t m ht hg hl => ?_, rfl⟩⟩
          · repeat (first | exact hbw5.out | refine Below.setCell ?_ (by simp) _ | refine Below.alloc ?_ (by simp; omega) _)
          · obtain ⟨q1, q2, q3⟩ := HCut.out t m hg hl
            have e3 := (HP2.out t ht q1).2
            have hm := goodB_32 hg
            have e4 : Lib.parseUintB 8 (str y).data.toList = .ok m.toNat := by
              rw [str_data, q2]; exact parse_dec 8 _ (by decide) (by omega)
            have e5 := Lib.NumEnd.ok.inj (HPU.out.symm.trans e4)
            refine HLU.out ?_
            rw [hl, e3, show ((u : Nat) : Int) = m by omega]
  · have he3 := hide (he2.out.below hb3)
    have hbw3 := hide (hbw2.out.trans (hb3.mono hbw2.out.size))
    have hk3 := hide (hk2.out.below hb3 hk2.out.lt)
    have HPU := hide hp
    clear hb3 hp
    have hlt3 := hk3.out.lt
    have c0 := blk_read hk3.out (i := 0) rfl
    have c1 := blk_read hk3.out (i := 1) rfl
    have f0 := hk3.out.frozen 0
    have f1 := hk3.out.frozen 1
    have key : Hid (∀ (t : Nat) (m : Int), t < 4294967296 → goodB t m = true → l ≠ textL t m) := hide (fun t m ht hg hl => by
      obtain ⟨q1, q2, q3⟩ := HCut.out t m hg hl
      have hm := goodB_32 hg
      refine HPU.out m.toNat ?_
      rw [str_data, q2]; exact parse_dec 8 _ (by decide) (by omega))
    cases z
    · go_wp2
      have hR := ((hk3.out.set_ 0 (.int .u32 0)).set_ 1 (.int .i64 0)).alloc (.cells #[.int .u32 (a : Int), .int .i64 (u : Int)] 46)
      have r0 := blk_read hR (i := 0) (v := .int .u32 0) rfl
      have r1 := blk_read hR (i := 1) (v := .int .i64 0) rfl
      refine bodyPost_ret (v := .tuple #[.agg #[.int .u32 0, .int .i64 0], .int .i64 2]) (by simp [results, Tryd.results72, go_sem, r0, r1]) rfl ⟨?_, Or.inr ⟨key.out, rfl⟩⟩
      repeat (first | exact hbw3.out | refine Below.setCell ?_ (by simp) _ | refine Below.alloc ?_ (by simp; omega) _)
    · cases b1
      · go_wp2
        have hR := ((hk3.out.set_ 0 (.int .u32 0)).set_ 1 (.int .i64 0)).alloc (.cells #[.int .u32 (a : Int), .int .i64 (u : Int)] 46)
        have r0 := blk_read hR (i := 0) (v := .int .u32 0) rfl
        have r1 := blk_read hR (i := 1) (v := .int .i64 0) rfl
        refine bodyPost_ret (v := .tuple #[.agg #[.int .u32 0, .int .i64 0], .int .i64 2]) (by simp [results, Tryd.results72, go_sem, r0, r1]) rfl ⟨?_, Or.inr ⟨key.out, rfl⟩⟩
        repeat (first | exact hbw3.out | refine Below.setCell ?_ (by simp) _ | refine Below.alloc ?_ (by simp; omega) _)
      · go_wp2
        have hR := ((hk3.out.set_ 0 (.int .u32 0)).set_ 1 (.int .i64 0)).alloc (.cells #[.int .u32 (a : Int), .int .i64 (u : Int)] 46)
        have r0 := blk_read hR (i := 0) (v := .int .u32 0) rfl
        have r1 := blk_read hR (i := 1) (v := .int .i64 0) rfl
        refine bodyPost_ret (v := .tuple #[.agg #[.int .u32 0, .int .i64 0], .int .i64 2]) (by simp [results, Tryd.results72, go_sem, r0, r1]) rfl ⟨?_, Or.inr ⟨key.out, rfl⟩⟩
        repeat (first | exact hbw3.out | refine Below.setCell ?_ (by simp) _ | refine Below.alloc ?_ (by simp; omega) _)
end Go.Proofs.YtiibglkiakhfgaaDoor
