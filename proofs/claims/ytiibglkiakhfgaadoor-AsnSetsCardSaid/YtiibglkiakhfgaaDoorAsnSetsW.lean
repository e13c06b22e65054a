import Derived.Test.YtiibglkiakhfgaaDoorAsnIns
import Derived.Test.YtiibglkiakhfgaaDoorCommAllA
set_option linter.unusedSimpArgs false
set_option linter.unusedVariables false
namespace Go.Proofs.YtiibglkiakhfgaaDoor
open Go.RowKit
attribute [local go_sem] Oper.semAt_some
/-! ### slices.DeleteFunc of one number -/
def dropP (x : Nat) (l : List Nat) : List Nat := l.filter fun y => !(y == x)
theorem pred_any (H x y : Nat) (w : World) (h : w.cell? ⟨H, 0, none⟩ = some (.int .u32 (x : Int))) :
    Calls Tryd.prog 130 #[.int .u32 y, .pointer (some ⟨H, 0, none⟩)] w fun e w' => e = .returned (.bool (y == x)) ∧ w = w' := by
  have he : Hid (((y : Int) == (x : Int)) = (y == x)) := hide (by rw [Bool.eq_iff_iff]; simp; omega)
  go_enter Tryd.func130, Tryd.ntmps130
  go_wp2
  go_ret
  exact ⟨ret_bool he.out, rfl⟩
/-- Where a number stands first; below 0: it does not. -/
def firstP (x : Nat) (l : List Nat) (i : Int) : Prop := (i = -1 ∧ x ∉ l) ∨ ∃ k : Nat, i = (k : Int) ∧ l[k]? = some x ∧ x ∉ l.take k
set_option maxHeartbeats 1000000 in
theorem indexEq_any (H x : Nat) (A : Option Addr) (n c : Nat) (l : List Nat) (w : World) (h : U32s w A n c l) (hc : w.cell? ⟨H, 0, none⟩ = some (.int .u32 (x : Int))) :
    Calls Tryd.prog 164 #[.slice A n c, .func (.func 130) #[] #[.pointer (some ⟨H, 0, none⟩)]] w fun e w' => ∃ i : Int, e = .returned (.int .i64 i) ∧ firstP x l i ∧ w = w' := by
  have hm := h.2.2.1
  have hnc := h.2.1
  unfold maxLen at hm
  have HU := hide h
  have HP := hide (fun y => pred_any H x y w hc)
  clear h hc
  go_enter Tryd.func164, Tryd.ntmps164
  go_wp2
  go_loop [8] (fun i => ∃ k : Nat, k ≤ n ∧ i = .int .i64 k ∧ x ∉ l.take k) (fun i => n - (intOf i).toNat)
  case atStart => exact ⟨0, Nat.zero_le _, rfl, by simp⟩
  case round =>
    obtain ⟨k, hk, rfl, hno⟩ := hrel
    have HN := hide hno
    clear hno
    by_cases hlt : k < n
    · obtain ⟨g, o, y, rfl, hg, hy, hy2, hc⟩ := HU.out.at_ hlt
      have HY := hide hy
      clear hy
      obtain ⟨q, hq⟩ : ∃ q, (y == x) = q := ⟨_, rfl⟩
      have HPy := hide (HP.out y)
      rw [hq] at HPy
      have HQ := hide hq
      clear hq
      go_wp2_with fail
      refine HPy.out.mono ?_
      rintro e w1 ⟨rfl, rfl⟩
      cases q
      · have hn2 := hide (show x ∉ l.take (k + 1) by
          rw [List.take_add_one, HY.out]
          have := HN.out
          have h2 := HQ.out
          simp only [List.mem_append, Option.toList_some, List.mem_singleton, not_or]
          exact ⟨this, fun e => by subst e; simp at h2⟩)
        go_wp2
        go_round
        case rel => exact ⟨k + 1, by omega, by go_num, hn2.out⟩
        case measure => simp [intOf]; omega
      · have hyx : Hid (y = x) := hide (by have := HQ.out; simpa using this)
        go_wp2
        go_ret
        exact ⟨_, rfl, .inr ⟨k, rfl, by rw [HY.out, hyx.out], HN.out⟩, rfl⟩
    · obtain rfl : k = n := by omega
      have hf : Hid (x ∉ l) := hide (by
        have := HN.out
        rwa [List.take_of_length_le (by rw [HU.out.1]; exact Nat.le_refl _)] at this)
      go_wp2
      go_ret
      exact ⟨_, rfl, .inl ⟨rfl, hf.out⟩, rfl⟩
structure DelInv (d d' : Array Nat) (x k q : Nat) : Prop where
  size : d'.size = d.size
  le : k < q ∧ q ≤ d.size
  rest : ∀ i, q ≤ i → d'[i]! = d[i]!
  pre : d'.toList.take k = dropP x (d.toList.take q)
theorem arr_at {d : Array Nat} {i : Nat} (h : i < d.size) : d.toList[i]? = some d[i]! := by simp [h]
theorem dropP_snoc (x y : Nat) (l : List Nat) : dropP x (l ++ [y]) = dropP x l ++ (if y = x then [] else [y]) := by
  unfold dropP
  rw [List.filter_append]
  by_cases h : y = x <;> simp [h]
theorem dropP_none {x : Nat} {l : List Nat} (h : x ∉ l) : dropP x l = l := by
  unfold dropP
  rw [List.filter_eq_self]
  intro y hy
  have : y ≠ x := fun e => h (e ▸ hy)
  simpa using this
theorem DelInv.start {d : Array Nat} {x k : Nat} (hk : d.toList[k]? = some x) (hno : x ∉ d.toList.take k) : DelInv d d x k (k + 1) := by
  have hlt : k < d.size := by have := (List.getElem?_eq_some_iff.1 hk).1; simpa using this
  refine ⟨rfl, ⟨by omega, by omega⟩, fun _ _ => rfl, ?_⟩
  rw [List.take_add_one, hk, Option.toList_some, dropP_snoc, if_pos rfl, List.append_nil, dropP_none hno]
theorem DelInv.skip {d d' : Array Nat} {x k q : Nat} (h : DelInv d d' x k q) (hq : q < d.size) (he : d[q]! = x) : DelInv d d' x k (q + 1) := by
  obtain ⟨h1, h2, h3, h4⟩ := h
  refine ⟨h1, by omega, fun i hi => h3 i (by omega), ?_⟩
  rw [List.take_add_one, arr_at hq, Option.toList_some, dropP_snoc, he, if_pos rfl, List.append_nil, h4]
theorem DelInv.put {d d' : Array Nat} {x k q : Nat} (h : DelInv d d' x k q) (hq : q < d.size) (he : d[q]! ≠ x) : DelInv d (d'.setIfInBounds k d[q]!) x (k + 1) (q + 1) := by
  obtain ⟨h1, h2, h3, h4⟩ := h
  have hk : k < d'.size := by omega
  refine ⟨by simpa using h1, by omega, fun i hi => ?_, ?_⟩
  · rw [get_set _ _ _ _ hk, if_neg (by omega)]
    exact h3 i (by omega)
  · have e1 : (d'.setIfInBounds k d[q]!).toList.take (k + 1) = d'.toList.take k ++ [d[q]!] := by
      rw [List.take_add_one]
      simp only [Array.toList_setIfInBounds]
      rw [List.take_set_of_le (by omega), List.getElem?_set_self (by simpa using hk)]
      rfl
    have e2 : d.toList.take (q + 1) = d.toList.take q ++ [d[q]!] := by rw [List.take_add_one, arr_at hq]; rfl
    rw [e1, e2, dropP_snoc, if_neg he, h4]
theorem dropP_len (x : Nat) (l : List Nat) : (dropP x l).length ≤ l.length := List.length_filter_le _ _
set_option maxRecDepth 100000 in
set_option maxHeartbeats 4000000 in
theorem delete_any (base g cap H x : Nat) (d : Array Nat) (w : World) (h : RowN base g cap w d) (hc : w.cell? ⟨H, 0, none⟩ = some (.int .u32 (x : Int))) (hH : H < base) (hsz : d.size ≤ 100000) :
    Calls Tryd.prog 129 #[.slice (some ⟨g, 0, none⟩) d.size cap, .func (.func 130) #[] #[.pointer (some ⟨H, 0, none⟩)]] w fun e w' => ∃ m, e = .returned (.slice (some ⟨g, 0, none⟩) m cap) ∧ m = (dropP x d.toList).length ∧
      w'.ownsRow base 22 1 (.slice (some ⟨g, 0, none⟩) m cap) m (u32c (dropP x d.toList)) ∧ Below base w w' := by
  have HR := hide h
  have hcap := h.2.2.2.2.2
  have hdc := h.2.2.2.2.1
  have hbg := h.2.2.1
  unfold maxLen at hcap
  obtain ⟨n, hn⟩ : ∃ n, d.size = n := ⟨_, rfl⟩
  have hu : U32s w (some ⟨g, 0, none⟩) d.size cap d.toList := U32s.of_own h.1 h.2.1
  have HI := hide (indexEq_any H x (some ⟨g, 0, none⟩) d.size cap d.toList w hu hc)
  have HFin : Hid (∀ (w' : World) (d' : Array Nat) (k : Nat), RowN base g cap w' d' → DelInv d d' x k d.size → w'.ownsRow base 22 1 (.slice (some ⟨g, 0, none⟩) k cap) k (u32c (dropP x d.toList)) ∧ k = (dropP x d.toList).length) := hide (fun w' d' k hr hi => by
    have h0 := hi.le
    have h1 := hr.cut (k := k) (by have := hi.size; omega)
    have h2 := hi.pre
    rw [List.take_of_length_le (i := d.size) (by simp)] at h2
    rw [h2] at h1
    refine ⟨h1, ?_⟩
    have := h1.1
    simp [u32c] at this
    omega)
  have HC := hide (fun (w' : World) (hb : Below base w w') => (hb.cell (p := ⟨H, 0, none⟩) hH).trans hc)
  rw [hn] at hsz hdc HFin HI ⊢
  have HN := hide hn
  clear h hu hn hc
  go_enter Tryd.func129, Tryd.ntmps129
  go_wp2_with fail
  refine HI.out.mono ?_
  rintro e w1 ⟨i, rfl, hf, rfl⟩
  rcases hf with ⟨rfl, hno⟩ | ⟨k0, rfl, hk0, hno⟩
  · have HNo := hide hno
    clear hno
    go_wp2
    go_ret
    refine ⟨n, rfl, ?_, ?_, Below.refl _ _⟩
    · rw [dropP_none HNo.out, ← HN.out]; simp
    · rw [dropP_none HNo.out]
      have := HR.out.1
      rwa [HN.out] at this
  · have hk0n : k0 < n := by have := (List.getElem?_eq_some_iff.1 hk0).1; rw [← HN.out]; simpa using this
    have HSt := hide (DelInv.start hk0 hno)
    have hne : ((k0 : Int) == -1) = false := by first | (simp; done) | (simp; omega)
    clear hk0 hno
    go_wp2
    go_loopw [5, 6] (fun a b wr => ∃ (k q : Nat) (d' : Array Nat), a = .int .i64 (k : Nat) ∧ b = .int .i64 (q : Nat) ∧ DelInv d d' x k q ∧ RowN base g cap wr d' ∧ Below base w wr) (fun _ b _ => n - (intOf b).toNat)
    case atStart => exact ⟨k0, k0 + 1, d, rfl, by go_num, HSt.out, HR.out, Below.refl _ _⟩
    case round =>
      obtain ⟨k, q, d', rfl, rfl, hinv, hrow, hbel⟩ := hrel
      have HI3 := hide hinv
      have HR3 := hide hrow
      have HB3 := hide hbel
      have hds := hinv.size
      have hle := hinv.le
      have hcell := HC.out _ hbel
      rw [HN.out] at hds hle
      clear hinv hbel
      by_cases hlt : q < n
      · have hc3 := hrow.cell (j := q) (by omega)
        have hfz := hrow.1.frozenAt k
        have hck := hrow.cell (j := k) (by omega)
        clear hrow
        obtain ⟨y, hy⟩ : ∃ y, d[q]! = y := ⟨_, rfl⟩
        have hdy : d'[q]! = y := by rw [HI3.out.rest q (Nat.le_refl _), hy]
        rw [hdy] at hc3
        have hy3 : y < 4294967296 := by rw [← hdy]; exact HR3.out.val _
        have HY := hide hy
        have hjn : (q : Int) < (n : Int) := by omega
        have hj0 : (0 : Int) ≤ (q : Int) := by omega
        have hjk : (k : Int) < (n : Int) := by omega
        have hjk0 : (0 : Int) ≤ (k : Int) := by omega
        obtain ⟨r, hr⟩ : ∃ r, (y == x) = r := ⟨_, rfl⟩
        have HPy := hide (pred_any H x y wr hcell)
        rw [hr] at HPy
        have HQ := hide hr
        clear hy hdy hr hcell
        go_wp2_with fail
        refine HPy.out.mono ?_
        rintro e w1 ⟨rfl, rfl⟩
        cases r
        · have HI4 := hide (HI3.out.put (by rw [HN.out]; exact hlt) (by rw [HY.out]; have := HQ.out; simpa using this))
          rw [HY.out] at HI4
          go_wp2
          go_roundw
          case rel => exact ⟨k + 1, q + 1, _, by go_num, by go_num, HI4.out, HR3.out.set_ hy3, HB3.out.setCell (by exact HR3.out.2.2.1) _⟩
          case measure => simp [intOf]; omega
        · have HI4 := hide (HI3.out.skip (by rw [HN.out]; exact hlt) (by rw [HY.out]; have := HQ.out; simpa using this))
          go_wp2
          go_roundw
          case rel => exact ⟨k, q + 1, d', rfl, by go_num, HI4.out, HR3.out, HB3.out⟩
          case measure => simp [intOf]; omega
      · obtain rfl : q = n := by omega
        have hkn : k < q := hle.1
        have hcl := clearRun wr g k (q - k) (cap - k) (by omega) (fun j hj => by rw [HR3.out.cell (by omega)]; rfl) (fun j hj => HR3.out.1.frozenAt (k + j))
        have HF : Hid (wr.ownsRow base 22 1 (.slice (some ⟨g, 0, none⟩) k cap) k (u32c (dropP x d.toList)) ∧ k = (dropP x d.toList).length) := hide (HFin.out wr d' k HR3.out HI3.out)
        have hck : ¬ cap = k := by omega
        have hj4 : (k : Int) ≤ (q : Int) := by omega
        have hj5 : (0 : Int) ≤ (k : Int) := by omega
        have hj6 : (k : Int) ≤ (cap : Int) := by omega
        clear hrow hcell
        go_wp2
        go_ret
        exact ⟨_, rfl, HF.out.2, own_clear _ _ HF.out.1 (Nat.le_refl _), below_clear (by exact HR3.out.2.2.1) _ _ HB3.out⟩
theorem insOne_any (B i x vb : Nat) (v : Value) (l : List Nat) (w : World) (hown : w.ownsRow B 22 1 v l.length (u32c l)) (hb : ∀ y ∈ l, y < 4294967296) (hx : x < 4294967296) (hi : i ≤ l.length) (hl : l.length ≤ 1000)
    (hv : Blk w vb 22 #[.int .u32 (x : Int)]) (hvb : v.ownBlock ≠ some vb) (hB : B ≤ w.heap.size) :
    Calls Tryd.prog 128 #[v, .int .i64 i, .slice (some ⟨vb, 0, none⟩) 1 1] w (InsP B w l i x) := by
  by_cases he : i = l.length
  · subst he; exact insOne_end B x vb v l w hown hb hx hl hv hB
  · obtain ⟨g, cap, rfl, hg, _⟩ := hown.form (by omega)
    exact insOne_mid B g cap i x vb l w hown hb hx (by omega) hl hv (fun e => hvb (by rw [e]; rfl)) hB
theorem lowN_le (l : List Nat) (x : Nat) : lowN l x ≤ l.length := by
  unfold lowN
  exact (List.takeWhile_prefix _).length_le
def ReadsAs (w : World) (l : List Nat) (e : Ending) (w' : World) : Prop := ∃ A m c, e = .returned (.slice A m c) ∧ U32s w' A m c l ∧ Below w.heap.size w w'
set_option maxHeartbeats 1000000 in
theorem asnWith_any (A : Option Addr) (n c : Nat) (l : List Nat) (x : Nat) (w : World) (h : U32s w A n c l) (hr : Rise l) (hx : x < 4294967296) (hn : n ≤ 1000) :
    Calls Tryd.prog 81 #[.slice A n c, .int .u32 x] w (ReadsAs w (putN l x)) := by
  have HS := hide (binSearch_any A n c l x w h hr (by omega))
  have HC := hide (cloneAll_any A n c l w h (by omega))
  have HBd := hide h.2.2.2.1
  have HL := hide h.1
  clear h hr
  by_cases hin : x ∈ l
  · have HP : Hid (putN l x = l) := hide (by unfold putN; rw [if_pos (by simpa using hin)])
    rw [decide_eq_true hin] at HS
    clear hin
    obtain ⟨k, hk⟩ : ∃ k, lowN l x = k := ⟨_, rfl⟩
    rw [hk] at HS
    clear hk
    go_enter Tryd.func81, Tryd.ntmps81
    go_wp2_with fail
    refine HS.out.mono ?_
    rintro e w1 ⟨rfl, rfl⟩
    go_wp2_with fail
    refine HC.out.mono ?_
    rintro e w2 ⟨v, rfl, ho, hb⟩
    obtain ⟨A', c', rfl⟩ := own_slice ho
    have HU := hide (U32s.of_own ho HBd.out)
    have HB := hide hb
    clear ho hb
    go_wp2
    go_ret
    exact ⟨_, _, _, rfl, by rw [HP.out]; exact HU.out, HB.out⟩
  · have HP := hide (putN_eq hin)
    rw [decide_eq_false hin] at HS
    have hkl := lowN_le l x
    obtain ⟨k, hk⟩ : ∃ k, lowN l x = k := ⟨_, rfl⟩
    rw [hk] at HS HP hkl
    clear hk hin
    go_enter Tryd.func81, Tryd.ntmps81
    go_wp2_with fail
    refine HS.out.mono ?_
    rintro e w1 ⟨rfl, rfl⟩
    go_wp2_with fail
    refine HC.out.mono ?_
    rintro e w2 ⟨v, rfl, ho, hb⟩
    have hne : v.ownBlock ≠ some w2.heap.size := fun e => by have := (ho.lt _ e).2; omega
    have HI := hide (insOne_any w.heap.size k x w2.heap.size v l (w2.alloc (.cells #[.int .u32 (x : Int)] 22)) (ho.alloc _) HBd.out hx hkl (by rw [HL.out]; exact hn) (Blk.new w2 22 _) hne (by have := hb.size; simp; omega))
    have HB := hide (Below.alloc hb hb.size (.cells #[.int .u32 (x : Int)] 22))
    obtain ⟨A', c', rfl⟩ := own_slice ho
    clear ho hb hne
    go_wp2_with fail
    refine HI.out.mono ?_
    rintro e w3 ⟨A3, c3, rfl, hu, hb3⟩
    have HU := hide hu
    have HB3 := hide (HB.out.trans hb3)
    clear hu hb3
    go_wp2
    go_ret
    exact ⟨_, _, _, rfl, by rw [HP.out]; exact HU.out, HB3.out⟩
theorem indexEq0 (H x : Nat) (A : Option Addr) (c : Nat) (w : World) : Calls Tryd.prog 129 #[.slice A 0 c, .func (.func 130) #[] #[.pointer (some ⟨H, 0, none⟩)]] w fun e w' => e = .returned (.slice A 0 c) ∧ w = w' := by
  have HI : Hid (Calls Tryd.prog 164 #[.slice A 0 c, .func (.func 130) #[] #[.pointer (some ⟨H, 0, none⟩)]] w fun e w' => e = .returned (.int .i64 (-1)) ∧ w = w') := hide (by
    go_enter Tryd.func164, Tryd.ntmps164
    go_wp2
    go_loop [8] (fun i => i = .int .i64 0) (fun _ => 0)
    case atStart => rfl
    case round =>
      subst hrel
      go_wp2
      go_ret
      exact ⟨rfl, rfl⟩)
  go_enter Tryd.func129, Tryd.ntmps129
  go_wp2_with fail
  refine HI.out.mono ?_
  rintro e w1 ⟨rfl, rfl⟩
  go_wp2
  go_ret
  exact ⟨rfl, rfl⟩
set_option maxHeartbeats 1000000 in
theorem asnWithout_any (A : Option Addr) (n c : Nat) (l : List Nat) (x : Nat) (w : World) (h : U32s w A n c l) (hn : n ≤ 1000) :
    Calls Tryd.prog 83 #[.slice A n c, .int .u32 x] w (ReadsAs w (dropP x l)) := by
  have hal : Below w.heap.size w (w.alloc (.cells #[.int .u32 (x : Int)] 22)) := (Below.refl _ w).alloc (Nat.le_refl _) _
  have HC := hide (cloneAll_any A n c l (w.alloc (.cells #[.int .u32 (x : Int)] 22)) (h.below hal) (by omega))
  have HBd := hide h.2.2.2.1
  have HL := hide h.1
  have HAl := hide hal
  have HK := hide (Blk.new w 22 #[.int .u32 (x : Int)])
  clear h hal
  go_enter Tryd.func83, Tryd.ntmps83
  go_wp2_with fail
  refine HC.out.mono ?_
  rintro e w1 ⟨v, rfl, ho, hb⟩
  have hc := (HK.out.below hb (by simp)).cell 0
  simp at hc
  have HB := hide (below2 HAl.out hb)
  by_cases h0 : n = 0
  · subst h0
    obtain rfl : l = [] := List.eq_nil_of_length_eq_zero HL.out
    obtain ⟨A', c', rfl⟩ := own_slice ho
    have HU := hide (U32s.of_own ho HBd.out)
    have HD := hide (indexEq0 w.heap.size x A' c' w1)
    clear ho hb hc
    go_wp2_with fail
    refine HD.out.mono ?_
    rintro e w2 ⟨rfl, rfl⟩
    go_wp2
    go_ret
    exact ⟨_, _, _, rfl, HU.out, HB.out⟩
  · obtain ⟨g, cap, rfl, hrow⟩ := row_of_own ho (by rw [HL.out]; omega) HBd.out
    have HD := hide (delete_any (w.alloc (.cells #[.int .u32 (x : Int)] 22)).heap.size g cap w.heap.size x l.toArray w1 hrow hc (by simp) (by simp [HL.out]; omega))
    have hsz : l.toArray.size = l.length := by simp
    rw [hsz] at HD
    clear hrow ho hb hc hsz
    go_wp2_with fail
    refine HD.out.mono ?_
    rintro e w2 ⟨m, rfl, hm, ho2, hb2⟩
    have HU := hide (U32s.of_own ho2 (fun y hy => HBd.out y (by have := (List.mem_filter.1 hy).1; simpa using this)))
    have HB2 := hide (HB.out.trans (hb2.mono (by simp)))
    clear ho2 hb2 hm
    go_wp2
    go_ret
    exact ⟨_, _, _, rfl, HU.out, HB2.out⟩
theorem drop_pick (l : List Nat) (x : Nat) : pickN l [x] false = dropP x l := by
  unfold pickN dropP
  apply List.filter_congr
  intro y _
  by_cases h : y = x <;> simp [h]
theorem riseB_pair : ∀ l : List Nat, riseB l = true → Rise l
  | [], _ => List.Pairwise.nil
  | [x], _ => List.pairwise_singleton _ _
  | x :: y :: r, h => by
    have hi := (riseB_iff (x :: y :: r)).1 h
    have hr : riseB (y :: r) = true := (riseB_iff (y :: r)).2 fun i a b ha hb => hi (i + 1) a b (by simpa using ha) (by simpa using hb)
    have ih := riseB_pair (y :: r) hr
    have hxy : x < y := hi 0 x y rfl rfl
    refine List.pairwise_cons.2 ⟨fun z hz => ?_, ih⟩
    rcases List.mem_cons.1 hz with rfl | hz
    · exact hxy
    · exact Nat.lt_trans hxy ((List.pairwise_cons.1 ih).1 z hz)
theorem riseB_of {l : List Nat} (h : Rise l) : riseB l = true := (riseB_iff l).2 fun i x y hx hy => rise_lt h (Nat.lt_succ_self i) hx hy
theorem riseB_set (l : List Nat) : riseB l = decide (l = setOf l) := by
  rw [Bool.eq_iff_iff, decide_eq_true_eq]
  constructor
  · intro h
    exact rise_ext (riseB_pair l h) (setOf_rise l) fun x => (setOf_mem l x).symm
  · intro h
    exact riseB_of (h ▸ setOf_rise l)
structure AsSt (w0 w : World) (A : Option Addr) (n c : Nat) (L : List Nat) (g o m d : Nat) (s : List Nat) : Prop where
  one : U32s w A n c L
  set : U32s w (some ⟨g, o, none⟩) m d s
  bel : Below w0.heap.size w0 w
theorem AsSt.below {w0 w w' : World} {A : Option Addr} {n c g o m d : Nat} {L s : List Nat} (h : AsSt w0 w A n c L g o m d s) (hb : Below w.heap.size w w') : AsSt w0 w' A n c L g o m d s :=
  ⟨h.one.below hb, h.set.below hb, below2 h.bel hb⟩
set_option maxRecDepth 100000 in
set_option maxHeartbeats 8000000 in
theorem asnSets_any (A : Option Addr) (n c : Nat) (l : List Nat) (x : Nat) (hx : x < 4294967296) (w : World) (h : U32s w A n c l) :
    Calls Tryd.prog 17 #[.slice A n c, .int .u32 x] w fun e w' => e = .returned (.bool true) ∧ Below w.heap.size w w' := by
  obtain ⟨L, hL⟩ : ∃ L, l.take 40 = L := ⟨_, rfl⟩
  obtain ⟨s, hs⟩ : ∃ s, setOf L = s := ⟨_, rfl⟩
  have HLl : Hid (L.length ≤ 40) := hide (by rw [← hL]; exact List.length_take_le _ _)
  have HSl : Hid (s.length ≤ 40) := hide (by rw [← hs]; exact Nat.le_trans (setOf_len _) HLl.out)
  have HRs : Hid (Rise s) := hide (by rw [← hs]; exact setOf_rise _)
  have HBL : Hid (∀ y ∈ L, y < 4294967296) := hide (fun y hy => by rw [← hL] at hy; exact h.2.2.2.1 y (List.mem_of_mem_take hy))
  have HBs : Hid (∀ y ∈ s, y < 4294967296) := hide (fun y hy => by rw [← hs, setOf_mem] at hy; exact HBL.out y hy)
  have HRB : Hid (riseB L = decide (L = s)) := hide (by rw [← hs]; exact riseB_set L)
  have HF := hide (few40 A n c l w h)
  rw [hL] at HF
  have HSe := hide hs
  clear h hL hs
  go_enter Tryd.func17, Tryd.ntmps17
  go_wp2_with fail
  refine HF.out.mono ?_
  rintro e w1 ⟨A1, n1, c1, rfl, hu1, hn1, hb1⟩
  have HU1 := hide hu1
  have HB1 := hide hb1
  have HR1 := hide (refSet_any A1 n1 c1 L w1 hu1 (by omega))
  rw [HSe.out] at HR1
  clear hu1 hb1
  go_wp2_with fail
  refine HR1.out.mono ?_
  rintro e w2 ⟨g, o, m, d, rfl, hu2, hb2⟩
  have hst : AsSt w w2 A1 n1 c1 L g o m d s := ⟨HU1.out.below hb2, hu2, below2 HB1.out hb2⟩
  have hms : m = s.length := hu2.1.symm
  have hm40 : m ≤ 40 := by rw [hms]; exact HSl.out
  have HS := hide hst
  have HF2 := hide (few40' _ _ _ _ w2 hst.one HLl.out)
  clear hu2 hb2 hst hms
  clear HU1 HB1
  obtain ⟨LL, hLL⟩ : ∃ LL, L.length = LL := ⟨_, rfl⟩
  have hLL40 : LL ≤ 40 := by rw [← hLL]; exact HLl.out
  rw [hLL] at HF2
  have HLe := hide hLL
  clear hLL
  go_wp2_with fail
  refine HF2.out.mono ?_
  rintro e w3 ⟨A3, c3, rfl, hu3, -, hb3⟩
  have HS3 := hide (HS.out.below hb3)
  have HT3 := hide (asnSet_any A3 LL c3 L w3 hu3 (by omega))
  rw [HSe.out] at HT3
  clear hu3 hb3
  go_wp2_with fail
  refine HT3.out.mono ?_
  rintro e w4 ⟨v, rfl, ho4⟩
  obtain ⟨A4, c4, rfl, hu4⟩ := ho4.u32s' HBs.out
  have HS4 := hide (HS3.out.below ho4.2)
  obtain ⟨SL, hSL⟩ : ∃ SL, s.length = SL := ⟨_, rfl⟩
  rw [hSL] at hu4 ⊢
  have hSL40 : SL ≤ 40 := by rw [← hSL]; exact HSl.out
  have HSL := hide hSL
  have HE4 := hide (refSame_self A4 SL c4 s (some ⟨g, o, none⟩) m d w4 hu4 HS4.out.set)
  clear hu4 ho4 hSL
  go_wp2_with fail
  refine HE4.out.mono ?_
  rintro e w5 ⟨rfl, hb5⟩
  have HS5 := hide (HS4.out.below hb5)
  have HF5 := hide (few40' _ _ _ _ w5 HS5.out.one HLl.out)
  rw [HLe.out] at HF5
  clear hb5
  go_wp2_with fail
  refine HF5.out.mono ?_
  rintro e w6 ⟨A6, c6, rfl, hu6, -, hb6⟩
  have HS6 := hide (HS5.out.below hb6)
  obtain ⟨b, hb⟩ : ∃ b, riseB L = b := ⟨_, rfl⟩
  have HI6 := hide (asnIs_any A6 LL c6 L w6 hu6 (by omega))
  rw [hb] at HI6
  have HDb : Hid (decide (L = s) = b) := hide (by rw [← HRB.out, hb])
  clear hu6 hb6 hb
  go_wp2_with fail
  refine HI6.out.mono ?_
  rintro e w7 ⟨rfl, hb7⟩
  have HS7 := hide (HS6.out.below hb7)
  have HE7 := hide (refSame_is A1 n1 c1 L (some ⟨g, o, none⟩) m d s b w7 HDb.out HS7.out.one HS7.out.set)
  have hbb : (b == b) = true := by simp
  clear hb7
  go_wp2_with fail
  refine HE7.out.mono ?_
  rintro e w8 ⟨rfl, hb8⟩
  have HS8 := hide (HS7.out.below hb8)
  have HF8 := hide (few40' _ _ _ _ w8 HS8.out.set HSl.out)
  rw [HSL.out] at HF8
  clear hb8
  go_wp2_with fail
  refine HF8.out.mono ?_
  rintro e w9 ⟨A9, c9, rfl, hu9, -, hb9⟩
  have HS9 := hide (HS8.out.below hb9)
  obtain ⟨q, hq⟩ : ∃ q, decide (x ∈ s) = q := ⟨_, rfl⟩
  have HH9 := hide (aHas_any A9 SL c9 s x w9 hu9 HRs.out (by omega))
  have HH10 := hide (refHas_any (some ⟨g, o, none⟩) m d s x w9 HS9.out.set)
  rw [hq] at HH9 HH10
  have hqq : (q == q) = true := by simp
  clear hu9 hb9 hq
  go_wp2_with fail
  refine HH9.out.mono ?_
  rintro e w10 ⟨rfl, rfl⟩
  go_wp2_with fail
  refine HH10.out.mono ?_
  rintro e w10 ⟨rfl, rfl⟩
  have HF10 := hide (few40' _ _ _ _ w9 HS9.out.set HSl.out)
  rw [HSL.out] at HF10
  go_wp2_with fail
  refine HF10.out.mono ?_
  rintro e w11 ⟨A11, c11, rfl, hu11, -, hb11⟩
  have HS11 := hide (HS9.out.below hb11)
  have HW11 := hide (asnWith_any A11 SL c11 s x w11 hu11 HRs.out hx (by omega))
  clear hu11 hb11
  go_wp2_with fail
  refine HW11.out.mono ?_
  rintro e w12 ⟨A12, m12, c12, rfl, hu12, hb12⟩
  have HS12 := hide (HS11.out.below hb12)
  have HU12 := hide hu12
  have HP12 := hide (refPut_any g o m d s x hx w12 HS12.out.set (by omega))
  clear hu12 hb12
  go_wp2_with fail
  refine HP12.out.mono ?_
  rintro e w13 ⟨g13, o13, m13, c13, rfl, hu13, hb13⟩
  have HS13 := hide (HS12.out.below hb13)
  have HE13 := hide (refSame_self A12 m12 c12 (putN s x) (some ⟨g13, o13, none⟩) m13 c13 w13 (HU12.out.below hb13) hu13)
  clear hu13 hb13
  go_wp2_with fail
  refine HE13.out.mono ?_
  rintro e w14 ⟨rfl, hb14⟩
  have HS14 := hide (HS13.out.below hb14)
  have HF14 := hide (few40' _ _ _ _ w14 HS14.out.set HSl.out)
  rw [HSL.out] at HF14
  clear hb14
  go_wp2_with fail
  refine HF14.out.mono ?_
  rintro e w15 ⟨A15, c15, rfl, hu15, -, hb15⟩
  have HS15 := hide (HS14.out.below hb15)
  have HW15 := hide (asnWithout_any A15 SL c15 s x w15 hu15 (by omega))
  clear hu15 hb15
  go_wp2_with fail
  refine HW15.out.mono ?_
  rintro e w16 ⟨A16, m16, c16, rfl, hu16, hb16⟩
  have HS16 := hide (HS15.out.below hb16)
  have hal : Below w16.heap.size w16 (w16.alloc (.cells #[.int .u32 (x : Int)] 22)) := (Below.refl _ _).alloc (Nat.le_refl _) _
  have HU16 := hide (hu16.below hal)
  have hux : U32s (w16.alloc (.cells #[.int .u32 (x : Int)] 22)) (some ⟨w16.heap.size, 0, none⟩) 1 1 [x] :=
    ⟨rfl, Nat.le_refl _, by simp [maxLen], fun y hy => by rw [List.mem_singleton.1 hy]; exact hx, fun _ => ⟨_, 0, rfl, by simp, fun k y hk => by
      match k with
      | 0 => cases hk; exact (Blk.new w16 22 #[.int .u32 (x : Int)]).cell 0
      | k + 1 => simp at hk⟩⟩
  have HS17 := hide (HS16.out.below hal)
  have HP17 := hide (refPick_any (some ⟨g, o, none⟩) m d s (some ⟨w16.heap.size, 0, none⟩) 1 1 [x] false _ HS17.out.set hux (by omega))
  rw [drop_pick] at HP17
  clear hu16 hb16 hal hux
  go_wp2_with fail
  refine HP17.out.mono ?_
  rintro e w18 ⟨v18, rfl, ho18⟩
  obtain ⟨A18, c18, rfl, hu18⟩ := ho18.u32s' (fun y hy => HBs.out y (List.mem_filter.1 hy).1)
  have HS18 := hide (HS17.out.below ho18.2)
  have HE18 := hide (refSame_self A16 m16 c16 (dropP x s) A18 (dropP x s).length c18 w18 (HU16.out.below ho18.2) hu18)
  clear hu18 ho18
  go_wp2_with fail
  refine HE18.out.mono ?_
  rintro e w19 ⟨rfl, hb19⟩
  have HS19 := hide (HS18.out.below hb19)
  have HLv := hide (asnLives_any w19)
  clear hb19
  go_wp2_with fail
  refine HLv.out.mono ?_
  rintro e w20 ⟨rfl, hb20⟩
  have HB20 := hide (below2 HS19.out.bel hb20)
  clear hb20
  go_wp2
  go_ret
  exact ⟨rfl, HB20.out⟩
end Go.Proofs.YtiibglkiakhfgaaDoor
