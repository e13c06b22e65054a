import Derived.Test.YtpgffbomlmmncaaGreatDoorCp2
import Derived.WalkKit
import Derived.ProofKit
import Derived.OpenShut
import Derived.Below
import Derived.Laws.OwnMore
import Derived.Laws.Rows
import Derived.Laws.MakeOwn
import Derived.Deep.AppendLies
import Derived.Deep.Draws
import Derived.Deep.OwnRows
import Derived.Deep.QuietTactic
import Derived.Maps.AppendAt
import Derived.RegionTactic
import Derived.OwnWalk
import Derived.ChangeSame
import Derived.Outline
import Derived.BigQuiet
import Derived.WalkMore
import Derived.ScopeJumps
import Derived.WalkLawsBesides
import Derived.WalkSpells
import Derived.WideKeyArgs
import Derived.Deep.DeepHandedRow
import Derived.Deep.DeepWitnessRowRef
import Derived.Lib.LaidTab
import Derived.Lib.AppendIntMem
import Derived.LaidMore
import Derived.MakeChecks
import Derived.Lib.Itoa
import Derived.Lib.ItoaMem
import Derived.Laws.BitsLemmas
import Derived.Laws.BitsAllLaws
import Derived.Deep.Quiet
import Derived.BigRegion
import Derived.Orders
import Derived.Deep.Slices
import Derived.Deep.RegionLaw
import Derived.Lib.PathFns
import Derived.Lib.IndexBytes
import Derived.RangeFuncWrites
import Derived.RangeFuncNested
import Derived.RangeFuncBound
import Derived.RangeFuncCalls
import Derived.RangeFuncLeaves
import Derived.RangeFuncBox
import Derived.Shelf.Abstract
import Derived.Shelf.RegionOpen
import Derived.OwnWalkIn
import Derived.TacticsInMore
import Derived.LoopNIn
import Derived.LoopIn
import Derived.Lib.SmallJoins
import Derived.Lib.ParseIntBCases
import Derived.Lib.IndexMore
import Derived.Shelf.Vars
import Derived.Lib.AtoiAllCases
import Derived.SliceStrings
import Derived.Sort.LotA
import Derived.BigRegionIn
import Derived.Deep.RegionHeld3
import Derived.StillTailTactics
set_option linter.unusedSimpArgs false
set_option linter.unusedVariables false
namespace Go.Proofs.YtpgffbomlmmncaaGreatDoor
open Go.RowKit Go.WideShapes Go.ChangeShapes
attribute [local go_sem] Oper.semAt_some
def cutCR (x : CR) : CR := ⟨x.b, x.r.take 34⟩
theorem crInfo : (Tryz.prog.info? 34).map (fun i => (i.zero, i.size, i.bytes)) = some (some (.agg #[.bool false, .slice none 0 0]), 2, 32) := by kernel_rfl
/-- An element of a copy: its numbers in memory of the copy's own. -/
def crO (B : Nat) (w : World) (vs : List Value) (x : CR) : Prop := ∃ v, vs = [.bool x.b, v] ∧ w.ownsRow B 46 1 v x.r.length (u32c x.r) ∧ ∀ y ∈ x.r, y < 4294967296
theorem crOMono (B : Nat) : SMono (crO B) := fun _ _ _ _ hb ⟨v, e, h, hy⟩ => ⟨v, e, own_below h hb, hy⟩
theorem crO_R {B : Nat} {w : World} {vs : List Value} {x : CR} (h : crO B w vs x) : crR w vs x := by
  obtain ⟨v, rfl, ho, hy⟩ := h
  obtain ⟨A, c, rfl⟩ := own_slice ho
  exact ⟨A, _, c, rfl, U32s.of_own ho hy⟩
/-- The loop's state: the copy so far, its box at the third new block. -/
structure CfSt (w W : World) (s : ByteArray) (A : Option Addr) (n c : Nat) (ts : List CR) (V : Value) (i : Nat) : Prop where
  bl : Blk W w.heap.size 24 #[.string s, .slice A n c]
  rs : Blk W (w.heap.size + 1) 24 #[.string ⟨#[]⟩, .slice none 0 0]
  bo : Blk W (w.heap.size + 2) 24 #[.string s, V]
  own : ∃ xs, W.ownsRow (w.heap.size + 3) 34 2 V i xs ∧ Chunks 2 (crO (w.heap.size + 3)) W xs ((ts.take i).map cutCR)
  bel : Below w.heap.size w W
theorem CfSt.below {w W W' : World} {s : ByteArray} {A : Option Addr} {n c : Nat} {ts : List CR} {V : Value} {i : Nat} (h : CfSt w W s A n c ts V i) (hb : Below W.heap.size W W') : CfSt w W' s A n c ts V i := by
  obtain ⟨xs, h1, h2⟩ := h.own
  exact ⟨h.bl.below hb h.bl.lt, h.rs.below hb h.rs.lt, h.bo.below hb h.bo.lt, ⟨xs, own_below h1 hb, h2.mono_ (crOMono _) hb⟩, h.bel.trans (hb.mono h.bel.size)⟩
set_option maxRecDepth 100000 in
theorem clist_open {H : Type} {enc : TypeId × Value → H} {W : World} {r : Reach} {b0 : Nat} {v : Value} {d : DataW H} {p : List MemPlace} (hv : Value.okWide Tryz.prog W r b0 24 v)
    (h : DataW.Trod enc Tryz.prog W 0 (fun _ => true) true 24 v d p) :
    ∃ (s : ByteArray) (A : Option Addr) (n c : Nat) (l : List CR), v = .agg #[.string s, .slice A n c] ∧ s.size ≤ maxLen ∧ LstAt 2 crR W A n c l := by
  obtain ⟨v0, v1, y0, y1, k, rfl, _, _, h0, h1⟩ := Go.Joins.open_agg2 Tryz.underlying24 (by kernel_rfl) (by kernel_rfl) hv h
  obtain ⟨s, e0, _, hs⟩ := DataW.trod_string Tryz.underlying9 h0
  obtain rfl : v0 = _ := by simpa using e0
  obtain ⟨A, n, c, l, e1, hl⟩ := lst_open (R := crR) Tryz.underlying22 (sz := 2) (by kernel_rfl) (by decide) (fun f cs x hx => by
    obtain ⟨z0, z1, n, _, hl, g0, g1⟩ := trod_struct2 Tryz.underlying34 hx
    have c2 : Tryz.prog.cellsOf 34 = 2 := by kernel_rfl
    have cb : Tryz.prog.cellsOf 4 = 1 := by kernel_rfl
    have cs1 : Tryz.prog.cellsOf 25 = 1 := by kernel_rfl
    rw [c2] at hl
    match cs, hl with
    | [v0, v1], _ =>
      simp only [cb, cs1, List.drop_zero, List.drop_succ_cons, List.take_succ_cons, List.take_zero] at g0 g1
      obtain ⟨b, e0, _⟩ := DataW.trod_bool Tryz.underlying4 g0
      have h1' : ∃ A n c, v1 = .slice A n c := by
        rcases DataW.trod_slice Tryz.underlying25 g1 with ⟨e, _⟩ | ⟨a, len, cap, elems, rest, n, _, e, _⟩
        · exact ⟨none, 0, 0, by simpa using e⟩
        · exact ⟨some a, len, cap, by simpa using e⟩
      obtain ⟨A, m, c, rfl⟩ := h1'
      obtain ⟨l, hl⟩ := u32s_open (A := A) (n := m) (c := c) ⟨n, by simpa [Value.cells] using g1⟩
      simp only [List.cons.injEq, and_true] at e0
      subst e0
      exact ⟨⟨b, l⟩, A, m, c, rfl, hl⟩) h1
  obtain rfl : v1 = _ := by simpa using e1
  exact ⟨s, A, n, c, l, rfl, hs, hl⟩
set_option maxRecDepth 100000 in
set_option maxHeartbeats 2000000 in
theorem cruleO_any (b : Bool) (A : Option Addr) (n c : Nat) (l : List Nat) (w : World) (h : U32s w A n c l) :
    Calls Tryz.prog 11 #[.agg #[.bool b, .slice A n c]] w fun e w' => ∃ v, e = .returned (.agg #[.bool b, v]) ∧ w'.ownsRow w.heap.size 46 1 v (l.take 34).length (u32c (l.take 34)) ∧ (∀ y ∈ l.take 34, y < 4294967296) ∧ Below w.heap.size w w' := by
  have hal : Below w.heap.size w ((w.alloc (.cells #[.bool b, .slice A n c] 34)).alloc (.cells #[.bool false, .slice none 0 0] 34)) := ((Below.refl _ w).alloc (Nat.le_refl _) _).alloc (by simp) _
  have HF := hide (fun w' (hb : Below w.heap.size w w') => fewO_any A n c l 34 (by decide) w' (h.below hb))
  have HBd := hide h.2.2.2.1
  have HK0 : Hid (Blk ((w.alloc (.cells #[.bool b, .slice A n c] 34)).alloc (.cells #[.bool false, .slice none 0 0] 34)) w.heap.size 34 #[.bool b, .slice A n c]) := hide ((Blk.new w _ _).alloc _)
  have HK1 : Hid (Blk ((w.alloc (.cells #[.bool b, .slice A n c] 34)).alloc (.cells #[.bool false, .slice none 0 0] 34)) (w.heap.size + 1) 34 #[.bool false, .slice none 0 0]) := hide (blk_new' _ _ (by simp))
  have HB := hide hal
  clear h hal
  go_enter Tryz.func11, Tryz.ntmps11
  go_wp2
  go_region_held3 (fun W => W.cell? ⟨w.heap.size, 0, none⟩ = some (.bool b) ∧ W.cell? ⟨w.heap.size, 1, none⟩ = some (.slice A n c))
    (first | go_keep | exact HCk.out | (simp; done))
    (first
      | (go_simp; go_at_call 7; refine (HF.out _ (by first | exact HB.out | exact HB.out.drew)).mono ?_; rintro e w5 ⟨A5, n5, c5, rfl, hv5, hb5⟩; have hk0 : Blk w5 w.heap.size 34 #[.bool b, .slice A n c] := (by refine Blk.below ?_ hb5 ?_; (first | exact HK0.out | exact HK0.out.drew); simp; omega); have hk1 : Blk w5 (w.heap.size + 1) 34 #[.bool false, .slice none 0 0] := (by refine Blk.below ?_ hb5 ?_; (first | exact HK1.out | exact HK1.out.drew); simp); have x0 := hk0.cell 0; have x1 := hk0.cell 1; have y0 := hk1.cell 0; have y1 := hk1.cell 1; have z0 := hk1.frozen 0; have z1 := hk1.frozen 1; have HCk : Hid (w5.cell? ⟨w.heap.size, 0, none⟩ = some (.bool b) ∧ w5.cell? ⟨w.heap.size, 1, none⟩ = some (.slice A n c)) := hide ⟨x0, x1⟩; have HV5 := hide hv5; have HKK := hide hk1; have HB5 : Hid (Below w.heap.size w w5) := hide (by refine Below.trans ?_ (hb5.mono ?_); (first | exact HB.out | exact HB.out.drew); simp; omega); clear hv5 hb5 hk0 hk1)
      | fail)
  all_goals
    go_wp2
    have HK2 := (HKK.out.set_ 0 (.bool b)).set_ 1 (.slice A5 n5 c5)
    have u0 := HK2.cell 0
    have u1 := HK2.cell 1
    have hn5 : n5 = (l.take 34).length := by have := HV5.out.1; simp only [u32c, List.length_map] at this; omega
    refine bodyPost_ret (v := .agg #[.bool b, .slice A5 n5 c5]) (by simp [results, Tryz.results11, go_sem, u0, u1]) rfl ⟨_, rfl, ?_, fun y hy => HBd.out y (List.mem_of_mem_take hy), ?_⟩
    · have hne : (Value.slice A5 n5 c5).ownBlock ≠ some (w.heap.size + 1) := fun e => by have := (HV5.out.lt _ e).1; simp at this; omega
      have ho := own_set (i := 1) (own_set (i := 0) HV5.out hne (.bool b)) hne (.slice A5 n5 c5)
      rw [← hn5]
      exact own_baseLe ho (by simp; omega)
    · exact (HB5.out.setCell (p := ⟨w.heap.size + 1, 0, none⟩) (by show w.heap.size ≤ w.heap.size + 1; omega) _).setCell (p := ⟨w.heap.size + 1, 1, none⟩) (by show w.heap.size ≤ w.heap.size + 1; omega) _
def CFewP (s : ByteArray) (l : List CR) (w : World) (e : Ending) (w' : World) : Prop := ∃ A n c xs, e = .returned (.agg #[.string s, .slice A n c]) ∧ w'.ownsRow w.heap.size 34 2 (.slice A n c) n xs ∧ Chunks 2 (crO w.heap.size) w' xs l ∧ Below w.heap.size w w'
theorem cl_lst {B : Nat} {w : World} {A : Option Addr} {n c : Nat} {xs : List Value} {l : List CR} (h : w.ownsRow B 34 2 (.slice A n c) n xs) (hc : Chunks 2 (crO B) w xs l) : LstAt 2 crR w A n c l :=
  LstAt.of_own (by decide) h ⟨hc.1, fun k x hk => crO_R (hc.2 k x hk)⟩
set_option maxRecDepth 100000 in
set_option maxHeartbeats 4000000 in
theorem cFew_any (s : ByteArray) (A : Option Addr) (n c : Nat) (ts : List CR) (w : World) (h : LstAt 2 crR w A n c ts) :
    Calls Tryz.prog 5 #[.agg #[.string s, .slice A n c]] w (CFewP s ((ts.take 102).map cutCR) w) := by
  obtain ⟨i0, hi, hz0, hz1, hz2⟩ := info_parts crInfo
  have hm := h.2.2.1
  have hnc := h.2.1
  unfold maxLen at hm
  have hal : Below w.heap.size w (((w.alloc (.cells #[.string s, .slice A n c] 24)).alloc (.cells #[.string ⟨#[]⟩, .slice none 0 0] 24)).alloc (.cells #[.string s, .slice none 0 0] 24)) := (((Below.refl w.heap.size w).alloc (Nat.le_refl _) _).alloc (by simp) _).alloc (by simp; omega) _
  have HS0 : Hid (CfSt w (((w.alloc (.cells #[.string s, .slice A n c] 24)).alloc (.cells #[.string ⟨#[]⟩, .slice none 0 0] 24)).alloc (.cells #[.string s, .slice none 0 0] 24)) s A n c ts (.slice none 0 0) 0) := hide
    ⟨((Blk.new w _ _).alloc _).alloc _, (blk_new' _ _ (by simp)).alloc _, blk_new' _ _ (by simp), ⟨[], ⟨rfl, .inl ⟨rfl, rfl⟩⟩, Chunks.nil_⟩, hal⟩
  have HU := hide h
  clear h hal
  go_enter Tryz.func5, Tryz.ntmps5
  go_wp2
  go_loopw [4] (fun iv wr => ∃ i : Nat, i ≤ n ∧ i ≤ 102 ∧ iv = .int .i64 (i : Nat) ∧ ∃ V, CfSt w wr s A n c ts V i) (fun iv _ => n - (intOf iv).toNat)
  case atStart => exact ⟨0, Nat.zero_le _, by omega, rfl, _, HS0.out⟩
  case round =>
    obtain ⟨i, hin, hi102, rfl, V, hst⟩ := hrel
    have HST := hide hst
    have x0 := hst.bl.cell 0
    have x1 := hst.bl.cell 1
    have l0 := hst.bo.cell 0
    have l1 := hst.bo.cell 1
    have lf1 := hst.bo.frozen 1
    have hlw := hst.bo.lt
    clear hst
    obtain ⟨xs, hown, hch⟩ := HST.out.own
    obtain ⟨AL, cl, hVe⟩ := own_slice hown
    subst hVe
    have HO := hide hown
    have HCh := hide hch
    clear hown hch
    by_cases hgo : i < n ∧ i < 102
    · obtain ⟨hlt, h102⟩ := hgo
      have hbel := HST.out.bel
      obtain ⟨g, o, b, B, m, d, r, rfl, hg, hy, hok, c0, c1⟩ := CRat (HU.out.below crMono hbel) hlt
      have HY := hide hy
      have C0 := hide c0
      have C1 := hide c1
      obtain ⟨m5, hm5⟩ : ∃ m5, m5 = (r.take 34).length := ⟨_, rfl⟩
      have hm34 : m5 ≤ 34 := by rw [hm5, List.length_take]; omega
      have HM5 := hide hm5
      clear hm5
      have HRu := hide (fun (W : World) (hb : Below wr.heap.size wr W) => cruleO_any b B m d r W (hok.below hb))
      have hd1 : decide ((i : Int) < 102) = true := by simp; omega
      have hi0 : (0 : Int) ≤ (i : Int) := by omega
      have hi1 : (i : Int) < (n : Int) := by omega
      have HBe := hide hbel
      clear hy hok hbel
      obtain ⟨wo, hwo⟩ : ∃ wo, wo = wr := ⟨_, rfl⟩
      subst hwo
      have HBr : Hid (∀ W, Below wo.heap.size wo W → (W.cell? ⟨w.heap.size, 1, none⟩ = some (.slice (some ⟨g, o, none⟩) n c) ∧ W.cell? ⟨w.heap.size + 2, 1, none⟩ = some (.slice AL i cl) ∧ W.cell? ⟨g, o + i * 2, none⟩ = some (.bool b) ∧ W.cell? ⟨g, o + i * 2 + 1, none⟩ = some (.slice B m d))) := hide (fun W hb => ⟨(HST.out.below hb).bl.cell 1, (HST.out.below hb).bo.cell 1, (hb.cell (p := ⟨g, o + i * 2, none⟩) hg).trans C0.out, (hb.cell (p := ⟨g, o + i * 2 + 1, none⟩) hg).trans C1.out⟩)
      have HRf := hide (Below.refl wo.heap.size wo)
      have HOn : Hid (wo.ownsRow (w.heap.size + 3) 34 2 (.slice AL i cl) i xs) := HO
      go_wp2
      go_region_law (first
        | (go_simp; go_at_call 11; refine (HRu.out _ (by first | exact HRf.out | exact HRf.out.drew)).mono ?_; rintro e w5 ⟨v5, rfl, hv5, hy5, hb5⟩; have HB5 : Hid (Below wo.heap.size wo w5) := hide (by refine Below.trans ?_ hb5; first | exact HRf.out | exact HRf.out.drew); obtain ⟨e1, e2, e3, e4⟩ := HBr.out w5 HB5.out; have HV5 := hide hv5; have HY5 := hide hy5; rw [← HM5.out] at hv5; obtain ⟨A5, c5, rfl⟩ := own_slice hv5; have HO5 := hide (own_below HO.out HB5.out); have hs5 := HB5.out.size; obtain ⟨q1, q2, q3, q4⟩ := HBr.out (w5.alloc (.cells #[.bool b, .slice A5 m5 c5] 34)) (HB5.out.alloc hs5 _); clear hv5 hy5 hb5)
        | (refine step_append_any _ (by rfl) (.tmp 20) (.tmp 27) 22 (by rfl) (w.heap.size + 3) 34 i0 _ 2 32 Tryz.underlying22 hi hz0 hz1 hz2 rfl (by decide) (.slice AL i cl) i xs (by rfl) (HO5.out.alloc _) (w5.heap.size + 1) (some ⟨w5.heap.size, 0, none⟩) 1 1 [.bool b, .slice A5 m5 c5] (by rfl) (reads_blkN (Blk.new w5 _ _) (Nat.lt_succ_self _) rfl rfl) (by simp [Value.oneCell']) (by unfold maxLen; omega) (by omega) (by simp; omega) ?_; intro v6 w6 hown6 hg6 hor6; have HO6 := hide hown6; have HG6 := hide hg6; clear hown6 hg6 hor6; have HB6 : Hid (Below (w.heap.size + 3) wo w6) := hide (Below.grown (((HB5.out).mono (by omega)).alloc (by omega) _) HG6.out (by simp; omega) (fun k hk => own_low_block HO5.out k hk)); obtain ⟨m1, mf1⟩ : w6.cell? ⟨w.heap.size + 2, 1, none⟩ = some (.slice AL i cl) ∧ w6.frozen? ⟨w.heap.size + 2, 1, none⟩ = false := ⟨(HST.out.bo.below HB6.out (by omega)).cell 1, (HST.out.bo.below HB6.out (by omega)).frozen 1⟩; obtain ⟨A6, c6, rfl⟩ := own_slice HO6.out)
        | fail)
      all_goals
        have HV6 : Hid (w6.ownsRow (w.heap.size + 3) 46 1 (.slice A5 m5 c5) m5 (u32c (r.take 34))) := hide (own_other (by have := HV5.out; rw [← HM5.out] at this; exact own_baseLe this (by show w.heap.size + 3 ≤ wo.heap.size; omega)) HO5.out (by decide) HG6.out)
        have HNe : Hid ((Value.slice A6 (i + 1) c6).ownBlock ≠ some (w.heap.size + 2)) := hide (fun e => by have := own_low_block HO6.out _ e; omega)
        have HC6 : Hid (CfSt w (w6.setCell ⟨w.heap.size + 2, 1, none⟩ (.slice A6 (i + 1) c6)) s (some ⟨g, o, none⟩) n c ts (.slice A6 (i + 1) c6) (i + 1)) := hide
          ⟨(HST.out.bl.below HB6.out (by omega)).far (by show w.heap.size ≠ w.heap.size + 2; omega) _, (HST.out.rs.below HB6.out (by omega)).far (by show w.heap.size + 1 ≠ w.heap.size + 2; omega) _, (HST.out.bo.below HB6.out (by omega)).set_ 1 _,
            ⟨_, own_set HO6.out HNe.out _, by
              have h1 : Chunks 2 (crO (w.heap.size + 3)) (w6.setCell ⟨w.heap.size + 2, 1, none⟩ (.slice A6 (i + 1) c6)) xs ((ts.take i).map cutCR) := ⟨HCh.out.1, fun k x hk => by
                obtain ⟨v, e, hv, hyb⟩ := HCh.out.2 k x hk
                have hne2 : v.ownBlock ≠ some (w.heap.size + 2) := fun e => by have := own_low_block hv _ e; omega
                exact ⟨v, e, own_set (own_other (own_below hv HB5.out) HO5.out (by decide) HG6.out) hne2 _, hyb⟩⟩
              have hne3 : (Value.slice A5 m5 c5).ownBlock ≠ some (w.heap.size + 2) := fun e => by have := own_low_block HV6.out _ e; omega
              have h2 : Chunks 2 (crO (w.heap.size + 3)) (w6.setCell ⟨w.heap.size + 2, 1, none⟩ (.slice A6 (i + 1) c6)) [.bool b, .slice A5 m5 c5] [cutCR ⟨b, r⟩] := Chunks.one_ rfl ⟨.slice A5 m5 c5, rfl, by
                have := own_set HV6.out hne3 (.slice A6 (i + 1) c6) (i := 1)
                rw [HM5.out] at this ⊢
                exact this, HY5.out⟩
              have h3 := h1.app_ h2
              rw [show (ts.take (i + 1)).map cutCR = (ts.take i).map cutCR ++ [cutCR ⟨b, r⟩] by rw [List.take_add_one, HY.out]; simp]
              exact h3⟩,
            (HST.out.bel.trans (HB6.out.mono (by omega))).setCell (p := ⟨w.heap.size + 2, 1, none⟩) (by show w.heap.size ≤ w.heap.size + 2; omega) _⟩
        go_wp2
        go_roundw
        case rel => exact ⟨i + 1, by omega, by omega, by go_num, _, HC6.out⟩
        case measure => simp [intOf]; omega
    · have hend : (decide (i < n) = false ∨ (i < n ∧ decide ((i : Int) < 102) = false)) := by
        by_cases hlt : i < n
        · exact .inr ⟨hlt, by simp; omega⟩
        · exact .inl (by simp; omega)
      have hts : (ts.take i).map cutCR = (ts.take 102).map cutCR := by
        have := HU.out.1
        by_cases hlt : i < n
        · rw [show i = 102 by omega]
        · rw [List.take_of_length_le (by omega), List.take_of_length_le (by omega)]
      have r0 := HST.out.rs.cell 0
      have r1 := HST.out.rs.cell 1
      have rf0 := HST.out.rs.frozen 0
      have rf1 := HST.out.rs.frozen 1
      have HEnd : Hid ((World.ownsRow ((wr.setCell ⟨w.heap.size + 1, 0, none⟩ (.string s)).setCell ⟨w.heap.size + 1, 1, none⟩ (.slice AL i cl)) w.heap.size 34 2 (.slice AL i cl) i xs ∧ Chunks 2 (crO w.heap.size) ((wr.setCell ⟨w.heap.size + 1, 0, none⟩ (.string s)).setCell ⟨w.heap.size + 1, 1, none⟩ (.slice AL i cl)) xs ((ts.take 102).map cutCR)) ∧ Below w.heap.size w ((wr.setCell ⟨w.heap.size + 1, 0, none⟩ (.string s)).setCell ⟨w.heap.size + 1, 1, none⟩ (.slice AL i cl))) := hide (by
        rw [← hts]
        have hne : (Value.slice AL i cl).ownBlock ≠ some (w.heap.size + 1) := fun e => by have := own_low_block HO.out _ e; omega
        have ho := own_set (i := 1) (own_set (i := 0) HO.out hne (.string s)) hne (.slice AL i cl)
        refine ⟨⟨own_baseLe ho (by omega), HCh.out.1, fun k x hk => ?_⟩, (HST.out.bel.setCell (p := ⟨w.heap.size + 1, 0, none⟩) (by show w.heap.size ≤ w.heap.size + 1; omega) _).setCell (p := ⟨w.heap.size + 1, 1, none⟩) (by show w.heap.size ≤ w.heap.size + 1; omega) _⟩
        obtain ⟨v, e, hv, hyb⟩ := HCh.out.2 k x hk
        have hne2 : v.ownBlock ≠ some (w.heap.size + 1) := fun e => by have := own_low_block hv _ e; omega
        exact ⟨v, e, own_baseLe (own_set (i := 1) (own_set (i := 0) hv hne2 (.string s)) hne2 (.slice AL i cl)) (by omega), hyb⟩)
      clear hts
      rcases hend with hd | ⟨hlt, hd⟩
      · go_wp2
        refine bodyPost_ret (v := .agg #[.string s, .slice AL i cl]) (by simp [results, Tryz.results5, go_sem, r0, r1]) rfl ⟨AL, i, cl, xs, rfl, HEnd.out.1.1, HEnd.out.1.2, HEnd.out.2⟩
      · have hlt1 : decide (i < n) = true := by simp; omega
        go_wp2
        refine bodyPost_ret (v := .agg #[.string s, .slice AL i cl]) (by simp [results, Tryz.results5, go_sem, r0, r1]) rfl ⟨AL, i, cl, xs, rfl, HEnd.out.1.1, HEnd.out.1.2, HEnd.out.2⟩
end Go.Proofs.YtpgffbomlmmncaaGreatDoor
set_option linter.unusedSimpArgs false
set_option linter.unusedVariables false
namespace Go.Proofs.YtpgffbomlmmncaaGreatDoor
open Go.RowKit Go.WideShapes Go.ChangeShapes
attribute [local go_sem] Oper.semAt_some
/-- The law's state: its box with its own list of rules, the list of numbers that it asks after. -/
structure ClSt (w W : World) (s : ByteArray) (A : Option Addr) (n c : Nat) (L : List CR) (B : Option Addr) (m d : Nat) (y : List Nat) : Prop where
  bl : Blk W w.heap.size 24 #[.string s, .slice A n c]
  ls : LstAt 2 crR W A n c L
  ps : U32s W B m d y
  env : Env W
  bel : Below w.heap.size w W
theorem ClSt.below {w W W' : World} {s : ByteArray} {A B : Option Addr} {n c m d : Nat} {L : List CR} {y : List Nat} (h : ClSt w W s A n c L B m d y) (hb : Below W.heap.size W W') : ClSt w W' s A n c L B m d y :=
  ⟨h.bl.below hb h.bl.lt, h.ls.below crMono hb, h.ps.below hb, h.env.below hb, h.bel.trans (hb.mono h.bel.size)⟩
theorem ClSt.start {w w1 : World} {s : ByteArray} {A A' B : Option Addr} {n c n' c' m d : Nat} {L : List CR} {y : List Nat} {xs : List Value} (he : Env w) (hb : Below (w.alloc (.cells #[.string s, .slice A n c] 24)).heap.size (w.alloc (.cells #[.string s, .slice A n c] 24)) w1)
    (ho : w1.ownsRow (w.alloc (.cells #[.string s, .slice A n c] 24)).heap.size 34 2 (.slice A' n' c') n' xs) (hch : Chunks 2 (crO (w.alloc (.cells #[.string s, .slice A n c] 24)).heap.size) w1 xs L) (hp : U32s ((w1.setCell ⟨w.heap.size, 0, none⟩ (.string s)).setCell ⟨w.heap.size, 1, none⟩ (.slice A' n' c')) B m d y) :
    ClSt w ((w1.setCell ⟨w.heap.size, 0, none⟩ (.string s)).setCell ⟨w.heap.size, 1, none⟩ (.slice A' n' c')) s A' n' c' L B m d y := by
  have hal : Below w.heap.size w (w.alloc (.cells #[.string s, .slice A n c] 24)) := (Below.refl w.heap.size w).alloc (Nat.le_refl _) _
  have hsz : (w.alloc (.cells #[.string s, .slice A n c] 24)).heap.size = w.heap.size + 1 := by simp
  have k0 := (Blk.new w 24 #[.string s, .slice A n c]).below hb (by rw [hsz]; omega)
  have hb1 : Below w.heap.size w w1 := hal.trans (hb.mono hal.size)
  have hset : Below w.heap.size w ((w1.setCell ⟨w.heap.size, 0, none⟩ (.string s)).setCell ⟨w.heap.size, 1, none⟩ (.slice A' n' c')) := (hb1.setCell (p := ⟨w.heap.size, 0, none⟩) (Nat.le_refl _) _).setCell (p := ⟨w.heap.size, 1, none⟩) (Nat.le_refl _) _
  rw [hsz] at ho hch
  have hne : (Value.slice A' n' c').ownBlock ≠ some w.heap.size := fun e => by have := own_low_block ho _ e; omega
  refine ⟨(k0.set_ 0 (.string s)).set_ 1 (.slice A' n' c'), cl_lst (own_set (i := 1) (own_set (i := 0) ho hne (.string s)) hne (.slice A' n' c')) ⟨hch.1, fun k x hk => ?_⟩, hp, he.below hset, hset⟩
  obtain ⟨v, e, hv, hyb⟩ := hch.2 k x hk
  have hne2 : v.ownBlock ≠ some w.heap.size := fun e => by have := own_low_block hv _ e; omega
  exact ⟨v, e, own_set (i := 1) (own_set (i := 0) hv hne2 (.string s)) hne2 (.slice A' n' c'), hyb⟩
theorem idx_casesC (p : CR → Bool) (L : List CR) : (idxP p L = -1) ∨ (∃ k : Nat, idxP p L = (k : Int)) := by
  rcases idxP_find p L with ⟨h, _⟩ | ⟨k, _, h, _⟩
  · exact .inl h
  · exact .inr ⟨k, h⟩
theorem no_u32_s {b : ByteArray} {A : Option Addr} {n c : Nat} : ∀ (i : Nat) (x : Int), (#[.string b, .slice A n c] : Array Value)[i]? ≠ some (.int .u32 x)
  | 0, x => by simp
  | 1, x => by simp
  | i + 2, x => by simp
theorem cut_twice (ts : List CR) : ((((ts.take 102).map cutCR).take 102).map cutCR) = (ts.take 102).map cutCR := by
  rw [← List.map_take, List.take_take, List.map_map]
  congr 1
  funext x
  simp [cutCR, List.take_take]
theorem cut_len (ts : List CR) : ∀ x ∈ (ts.take 102).map cutCR, x.r.length ≤ 34 := by
  intro x hx
  obtain ⟨z, _, rfl⟩ := List.mem_map.1 hx
  exact List.length_take_le 34 z.r
theorem cFewL_any (s : ByteArray) (A : Option Addr) (n c : Nat) (ts : List CR) (w : World) (h : LstAt 2 crR w A n c ts) :
    Calls Tryz.prog 5 #[.agg #[.string s, .slice A n c]] w fun e w' => ∃ A' n' c', e = .returned (.agg #[.string s, .slice A' n' c']) ∧ LstAt 2 crR w' A' n' c' ((ts.take 102).map cutCR) ∧ Below w.heap.size w w' := by
  refine (cFew_any s A n c ts w h).mono ?_
  rintro e w' ⟨A', n', c', xs, rfl, ho, hc, hb⟩
  exact ⟨A', n', c', rfl, cl_lst ho hc, hb⟩
set_option maxRecDepth 100000 in
set_option maxHeartbeats 8000000 in
theorem clistPermits_any (s : ByteArray) (A : Option Addr) (n c : Nat) (ts : List CR) (B : Option Addr) (m d : Nat) (y : List Nat) (w : World) (h : LstAt 2 crR w A n c ts) (hu : U32s w B m d y) (hs : s.size ≤ maxLen) (he : Env w) :
    Calls Tryz.prog 3 #[.agg #[.string s, .slice A n c], .slice B m d] w (GoodP true w) := by
  obtain ⟨L, hL⟩ : ∃ L, (ts.take 102).map cutCR = L := ⟨_, rfl⟩
  have HLl : Hid ((L.take 102).map cutCR = L) := hide (by rw [← hL]; exact cut_twice ts)
  have HL34 : Hid (∀ x ∈ L, x.r.length ≤ 34) := hide (by rw [← hL]; exact cut_len ts)
  obtain ⟨C, hC⟩ : ∃ C, setOf (y.take 30) = C := ⟨_, rfl⟩
  have HCr : Hid (Rise C) := hide (by rw [← hC]; exact setOf_rise _)
  have HC30 : Hid (C.take 30 = C) := hide (List.take_of_length_le (by rw [← hC]; have := setOf_len (y.take 30); have := List.length_take_le 30 y; omega))
  have HCl : Hid (C.length ≤ 30) := hide (by rw [← hC]; have := setOf_len (y.take 30); have := List.length_take_le 30 y; omega)
  have hal : Below w.heap.size w (w.alloc (.cells #[.string s, .slice A n c] 24)) := (Below.refl w.heap.size w).alloc (Nat.le_refl _) _
  have HF0 := hide (cFew_any s A n c ts _ (h.below crMono hal))
  rw [hL] at HF0
  have HE := hide he
  have HU := hide (hu.below hal)
  have HS := hide hs
  have HKl := hide (Blk.new w 24 #[.string s, .slice A n c])
  clear h hL hal he hs hu
  have hic := idx_casesC (chitP C) L
  obtain ⟨i, hi⟩ : ∃ i, idxP (chitP C) L = i := ⟨_, rfl⟩
  rw [hi] at hic
  have HI := hide hi
  clear hi
  rcases hic with rfl | ⟨k, rfl⟩
  all_goals
    go_enter Tryz.func3, Tryz.ntmps3
    go_wp2_with fail
    refine HF0.out.mono ?_
    rintro e w1 ⟨A1, n1, c1, xs, rfl, ho1, hch1, hb1⟩
    have hk1 := HKl.out.below hb1 (by simp)
    have HFw := hide (fewM_any B m d y 30 (by decide) w1 (HU.out.below hb1))
    have HO1 := hide ho1
    have HC1 := hide hch1
    have HB1 := hide hb1
    have HK1 := hide hk1
    clear ho1 hch1 hb1 hk1
    go_wp2_with fail
    refine HFw.out.mono ?_
    rintro e w2 ⟨Af, nf, cf, rfl, huf, hnf, hb2⟩
    have HSt := hide (refSet_any Af nf cf (y.take 30) w2 huf (by omega))
    rw [hC] at HSt
    have HB2 := hide hb2
    clear huf hb2
    go_wp2_with fail
    refine HSt.out.mono ?_
    rintro e w3 ⟨gB, oB, mB, dB, rfl, huC, hb3⟩
    have hb23 := HB2.out.trans (hb3.mono HB2.out.size)
    have hk3 := HK1.out.below hb23 HK1.out.lt
    have HS1 := hide (ClSt.start HE.out (HB1.out.trans (hb23.mono HB1.out.size)) (own_below HO1.out hb23) (HC1.out.mono_ (crOMono _) hb23) (u32s_other (u32s_other huC hk3 no_u32_s 0 (.string s)) (hk3.set_ 0 (.string s)) no_u32_s 1 (.slice A1 n1 c1)))
    have x0 := hk3.cell 0
    have x1 := hk3.cell 1
    have y0 := hk3.frozen 0
    have y1 := hk3.frozen 1
    have HR1 := hide (refCFirst_any s A1 n1 c1 L (some ⟨gB, oB, none⟩) mB dB C _ HS1.out.ls HS1.out.ps)
    rw [HI.out] at HR1
    clear huC hb3 hb23 hk3 HO1 HC1 HB1 HB2 HK1 HSt HFw
    go_wp2_with fail
    refine HR1.out.mono ?_
    rintro e w4 ⟨rfl, hb4⟩
    have HS2 := hide (HS1.out.below hb4)
    clear hb4 x0 x1 y0 y1
    have x0 := HS2.out.bl.cell 0
    have x1 := HS2.out.bl.cell 1
  · have HF := hide (fun (W : World) (hb : Below w4.heap.size w4 W) => by have := cFewL_any s A1 n1 c1 L W (HS2.out.below hb).ls; rw [HLl.out] at this; exact this)
    have HFw := hide (fun (W : World) (hb : Below w4.heap.size w4 W) => by have := fewM_any (some ⟨gB, oB, none⟩) mB dB C 30 (by decide) W (HS2.out.below hb).ps; rw [HC30.out] at this; exact this)
    have HFi := hide (fun (A : Option Addr) (n c : Nat) (B : Option Addr) (m d : Nat) (W : World) (h : LstAt 2 crR W A n c L) (hu : U32s W B m d C) (hm : m ≤ 30) => by have := cFirst_any s A n c L B m d C W h hu HCr.out (by omega); rw [HI.out, show max (-1 : Int) 0 = 0 by decide, show decide ((0 : Int) ≤ -1) = false by decide] at this; exact this)
    have HF2 := hide (HF.out _ (Below.refl _ _))
    go_wp2_with fail
    refine HF2.out.mono ?_
    rintro e w5 ⟨A6, n6, c6, rfl, hl6, hb5⟩
    have HF3 := hide (HFw.out w5 hb5)
    have HL6 := hide hl6
    have HB5 := hide hb5
    clear hl6 hb5 HF2 x0 x1
    go_wp2_with fail
    refine HF3.out.mono ?_
    rintro e w6 ⟨A7, n7, c7, rfl, hu7, hn7, hb6⟩
    have HF4 := hide (HFi.out A6 n6 c6 A7 n7 c7 w6 (HL6.out.below crMono hb6) hu7 hn7)
    have HB6 := hide (HB5.out.trans (hb6.mono HB5.out.size))
    clear hu7 hb6 HF3 HL6 HB5
    go_wp2_with fail
    refine HF4.out.mono ?_
    rintro e w7 ⟨rfl, hb7⟩
    have HS3 := hide (HS2.out.below (HB6.out.trans (hb7.mono HB6.out.size)))
    clear hb7 HF HFw HFi HF4 HB6
    go_wp2_with fail
    --LA
    go_loopw [8] (fun v wr => ∃ j : Nat, j ≤ n1 ∧ v = .int .i64 j ∧ Below w7.heap.size w7 wr) (fun v _ => n1 - (intOf v).toNat)
    case atStart => exact ⟨0, Nat.zero_le _, rfl, Below.refl _ _⟩
    case round =>
      obtain ⟨j, hj, rfl, hb⟩ := hrel
      have HS5 := hide (HS3.out.below hb)
      have HB5 := hide hb
      have hsz := hb.size
      have hnc := HS5.out.ls.2.1
      have hcm := HS5.out.ls.2.2.1
      unfold maxLen at hcm
      clear hb
      by_cases hlt : j < n1
      · obtain ⟨g, o, b, B6, m6, d6, r6, rfl, hg, hy, hok, c0, c1'⟩ := CRat HS5.out.ls hlt
        have x0 := HS5.out.bl.cell 0
        have x1 := HS5.out.bl.cell 1
        have HYx := hide hy
        have HC0 := hide (fun (W : World) (hb : Below wr.heap.size wr W) => (show W.cell? ⟨g, o + j * 2, none⟩ = some (.bool b) from (hb.cell (p := ⟨g, o + j * 2, none⟩) hg).trans c0))
        have HC1 := hide (fun (W : World) (hb : Below wr.heap.size wr W) => (show W.cell? ⟨g, o + j * 2 + 1, none⟩ = some (.slice B6 m6 d6) from (hb.cell (p := ⟨g, o + j * 2 + 1, none⟩) hg).trans c1'))
        have hr34 : r6.length ≤ 34 := HL34.out ⟨b, r6⟩ (List.mem_of_getElem? hy)
        have HRu := hide (fun (W : World) (hb : Below wr.heap.size wr W) => by have := crule_any b B6 m6 d6 r6 W (hok.below hb); rw [List.take_of_length_le hr34] at this; exact this)
        have HFw := hide (fun (W : World) (hb : Below wr.heap.size wr W) => by have := fewM_any (some ⟨gB, oB, none⟩) mB dB C 30 (by decide) W (HS5.out.below hb).ps; rw [HC30.out] at this; exact this)
        have HHi := hide (fun (A : Option Addr) (n c : Nat) (B : Option Addr) (m d : Nat) (W : World) (h : U32s W A n c r6) (hu : U32s W B m d C) (hm : m ≤ 30) => cHits_any b A n c r6 B m d C W h hu HCr.out (by omega))
        have HRH := hide (fun (W : World) (hb : Below wr.heap.size wr W) => refCHits_any b B6 m6 d6 r6 (some ⟨gB, oB, none⟩) mB dB C W (hok.below hb) (HS5.out.below hb).ps)
        obtain ⟨q, hq⟩ : ∃ q, allIn r6 C = q := ⟨_, rfl⟩
        rw [hq] at HHi HRH
        have hi0 : (0 : Int) ≤ (j : Int) := by omega
        have hi1 : (j : Int) < (n1 : Int) := by omega
        clear hq hok hy c0 c1' hr34 HYx
        go_wp2
        --R4A
        refine wp_region_rel [(fun v _ => v = .pointer (some ⟨w.heap.size, 1, none⟩)), (fun v _ => v = .slice (some ⟨g, o, none⟩) n1 c1), (fun v _ => v = .int .i64 (j : Int)), (fun v _ => v = .pointer (some ⟨g, o + j * 2, none⟩)), (fun v _ => v = .agg #[.bool b, .slice B6 m6 d6]), (fun v w => ∃ A n c, v = .agg #[.bool b, .slice A n c] ∧ U32s w A n c r6), (fun v _ => v = .slice (some ⟨gB, oB, none⟩) mB dB), (fun v w => ∃ A n c, v = .slice A n c ∧ U32s w A n c C ∧ n ≤ 30), (fun v _ => v = .bool q), (fun v _ => v = .pointer (some ⟨w.heap.size, 1, none⟩)), (fun v _ => v = .slice (some ⟨g, o, none⟩) n1 c1), (fun v _ => v = .int .i64 (j : Int)), (fun v _ => v = .pointer (some ⟨g, o + j * 2, none⟩)), (fun v _ => v = .agg #[.bool b, .slice B6 m6 d6]), (fun v _ => v = .slice (some ⟨gB, oB, none⟩) mB dB), (fun v _ => v = .bool q), (fun v _ => v = .bool false)] (by kernel_rfl) (by kernel_rfl) (relMono _ ⟨fun _ _ _ _ h => h, fun _ _ _ _ h => h, fun _ _ _ _ h => h, fun _ _ _ _ h => h, fun _ _ _ _ h => h, fun v w w2 hb ⟨A, n, c, e, h⟩ => ⟨A, n, c, e, h.below hb⟩, fun _ _ _ _ h => h, fun v w w2 hb ⟨A, n, c, e, h, hn⟩ => ⟨A, n, c, e, h.below hb, hn⟩, fun _ _ _ _ h => h, fun _ _ _ _ h => h, fun _ _ _ _ h => h, fun _ _ _ _ h => h, fun _ _ _ _ h => h, fun _ _ _ _ h => h, fun _ _ _ _ h => h, fun _ _ _ _ h => h, fun _ _ _ _ h => h, trivial⟩) ⟨?_, ?_, ?_, ?_, ?_, ?_, ?_, ?_, ?_, ?_, ?_, ?_, ?_, ?_, ?_, ?_, ?_, trivial⟩ ?_
        · refine relStep_plain rfl ?_
          intro Ac w5 hp
          have hb := hp.bel
          have a2 : Ac.eval (.tmp 2) = .pointer (some ⟨w.heap.size, 0, none⟩) := hp.out 2 (by rfl)
          have hc := evalC Ac; have hf := evalF Ac; have hgl := evalG Ac
          obtain ⟨ρ, hρ⟩ : ∃ ρ, Ac.eval = ρ := ⟨_, rfl⟩
          rw [hρ] at a2 hc hf hgl
          exact relPure hρ (.pointer (some ⟨w.heap.size, 1, none⟩)) (by simp [go_sem, hc, hf, hgl, ↓IntWalk.iteOmega, a2, *]) rfl
        · refine relStep_plain rfl ?_
          intro Ac w5 hp
          have hb := hp.bel
          have a32 : Ac.eval (.tmp 32) = .pointer (some ⟨w.heap.size, 1, none⟩) := hp.dep 0 (by kernel_rfl)
          have hS := HS5.out.below hb
          have x0 := hS.bl.cell 0
          have x1 := hS.bl.cell 1
          have z0 := HC0.out w5 hb
          have z1 := HC1.out w5 hb
          clear hS
          have hc := evalC Ac; have hf := evalF Ac; have hgl := evalG Ac
          obtain ⟨ρ, hρ⟩ : ∃ ρ, Ac.eval = ρ := ⟨_, rfl⟩
          rw [hρ] at a32 hc hf hgl
          exact relPure hρ (.slice (some ⟨g, o, none⟩) n1 c1) (by simp [go_sem, hc, hf, hgl, ↓IntWalk.iteOmega, a32, *]) rfl
        · refine relStep_plain rfl ?_
          intro Ac w5 hp
          have hb := hp.bel
          have a8 : Ac.eval (.tmp 8) = .int .i64 (j : Int) := hp.out 8 (by rfl)
          have hc := evalC Ac; have hf := evalF Ac; have hgl := evalG Ac
          obtain ⟨ρ, hρ⟩ : ∃ ρ, Ac.eval = ρ := ⟨_, rfl⟩
          rw [hρ] at a8 hc hf hgl
          exact relPure hρ (.int .i64 (j : Int)) (by simp [go_sem, hc, hf, hgl, ↓IntWalk.iteOmega, a8, *]) rfl
        · refine relStep_plain rfl ?_
          intro Ac w5 hp
          have hb := hp.bel
          have a33 : Ac.eval (.tmp 33) = .slice (some ⟨g, o, none⟩) n1 c1 := hp.dep 1 (by kernel_rfl)
          have a34 : Ac.eval (.tmp 34) = .int .i64 (j : Int) := hp.dep 2 (by kernel_rfl)
          have hc := evalC Ac; have hf := evalF Ac; have hgl := evalG Ac
          obtain ⟨ρ, hρ⟩ : ∃ ρ, Ac.eval = ρ := ⟨_, rfl⟩
          rw [hρ] at a33 a34 hc hf hgl
          exact relPure hρ (.pointer (some ⟨g, o + j * 2, none⟩)) (by simp [go_sem, hc, hf, hgl, ↓IntWalk.iteOmega, a33, a34, *]) rfl
        · refine relStep_plain rfl ?_
          intro Ac w5 hp
          have hb := hp.bel
          have a35 : Ac.eval (.tmp 35) = .pointer (some ⟨g, o + j * 2, none⟩) := hp.dep 3 (by kernel_rfl)
          have hS := HS5.out.below hb
          have x0 := hS.bl.cell 0
          have x1 := hS.bl.cell 1
          have z0 := HC0.out w5 hb
          have z1 := HC1.out w5 hb
          clear hS
          have hc := evalC Ac; have hf := evalF Ac; have hgl := evalG Ac
          obtain ⟨ρ, hρ⟩ : ∃ ρ, Ac.eval = ρ := ⟨_, rfl⟩
          rw [hρ] at a35 hc hf hgl
          exact relPure hρ (.agg #[.bool b, .slice B6 m6 d6]) (by simp [go_sem, hc, hf, hgl, ↓IntWalk.iteOmega, a35, *]) rfl
        · refine relStep_plain rfl ?_
          intro Ac w5 hp
          have hb := hp.bel
          have a36 : Ac.eval (.tmp 36) = .agg #[.bool b, .slice B6 m6 d6] := hp.dep 4 (by kernel_rfl)
          have hc := evalC Ac; have hf := evalF Ac; have hgl := evalG Ac
          obtain ⟨ρ, hρ⟩ : ∃ ρ, Ac.eval = ρ := ⟨_, rfl⟩
          rw [hρ] at a36 hc hf hgl
          refine relCall hρ 11 #[.agg #[.bool b, .slice B6 m6 d6]] (by simp [go_sem, hc, hf, hgl, ↓IntWalk.iteOmega, a36, *]) ?_
          refine (HRu.out w5 hb).mono ?_
          rintro e w6 ⟨A6, n6, c6, rfl, hu6, hb6⟩
          exact ⟨_, rfl, ⟨A6, n6, c6, rfl, hu6⟩, hb6⟩
        · refine relStep_plain rfl ?_
          intro Ac w5 hp
          have hb := hp.bel
          have a1 : Ac.eval (.tmp 1) = .slice (some ⟨gB, oB, none⟩) mB dB := hp.out 1 (by rfl)
          have hc := evalC Ac; have hf := evalF Ac; have hgl := evalG Ac
          obtain ⟨ρ, hρ⟩ : ∃ ρ, Ac.eval = ρ := ⟨_, rfl⟩
          rw [hρ] at a1 hc hf hgl
          exact relPure hρ (.slice (some ⟨gB, oB, none⟩) mB dB) (by simp [go_sem, hc, hf, hgl, ↓IntWalk.iteOmega, a1, *]) rfl
        · refine relStep_plain rfl ?_
          intro Ac w5 hp
          have hb := hp.bel
          have a38 : Ac.eval (.tmp 38) = .slice (some ⟨gB, oB, none⟩) mB dB := hp.dep 6 (by kernel_rfl)
          have hc := evalC Ac; have hf := evalF Ac; have hgl := evalG Ac
          obtain ⟨ρ, hρ⟩ : ∃ ρ, Ac.eval = ρ := ⟨_, rfl⟩
          rw [hρ] at a38 hc hf hgl
          refine relCall hρ 7 #[.slice (some ⟨gB, oB, none⟩) mB dB, .int .i64 30] (by simp [go_sem, hc, hf, hgl, ↓IntWalk.iteOmega, a38, *]) ?_
          refine (HFw.out w5 hb).mono ?_
          rintro e w6 ⟨A6, n6, c6, rfl, hu6, hn6, hb6⟩
          exact ⟨_, rfl, ⟨A6, n6, c6, rfl, hu6, hn6⟩, hb6⟩
        · refine relStep_plain rfl ?_
          intro Ac w5 hp
          have hb := hp.bel
          obtain ⟨A3, n3, c3, a37, hu3⟩ := hp.dep 5 (by kernel_rfl)
          change Ac.eval (.tmp 37) = _ at a37
          obtain ⟨A4, n4, c4, a39, hu4, hn4⟩ := hp.dep 7 (by kernel_rfl)
          change Ac.eval (.tmp 39) = _ at a39
          have hc := evalC Ac; have hf := evalF Ac; have hgl := evalG Ac
          obtain ⟨ρ, hρ⟩ : ∃ ρ, Ac.eval = ρ := ⟨_, rfl⟩
          rw [hρ] at a37 a39 hc hf hgl
          refine relCall hρ 10 #[.agg #[.bool b, .slice A3 n3 c3], .slice A4 n4 c4] (by simp [go_sem, hc, hf, hgl, ↓IntWalk.iteOmega, a37, a39, *]) ?_
          refine (HHi.out A3 n3 c3 A4 n4 c4 w5 hu3 hu4 hn4).mono ?_
          rintro e w6 ⟨rfl, hb6⟩
          exact ⟨_, rfl, rfl, hb6⟩
        · refine relStep_plain rfl ?_
          intro Ac w5 hp
          have hb := hp.bel
          have a2 : Ac.eval (.tmp 2) = .pointer (some ⟨w.heap.size, 0, none⟩) := hp.out 2 (by rfl)
          have hc := evalC Ac; have hf := evalF Ac; have hgl := evalG Ac
          obtain ⟨ρ, hρ⟩ : ∃ ρ, Ac.eval = ρ := ⟨_, rfl⟩
          rw [hρ] at a2 hc hf hgl
          exact relPure hρ (.pointer (some ⟨w.heap.size, 1, none⟩)) (by simp [go_sem, hc, hf, hgl, ↓IntWalk.iteOmega, a2, *]) rfl
        · refine relStep_plain rfl ?_
          intro Ac w5 hp
          have hb := hp.bel
          have a41 : Ac.eval (.tmp 41) = .pointer (some ⟨w.heap.size, 1, none⟩) := hp.dep 9 (by kernel_rfl)
          have hS := HS5.out.below hb
          have x0 := hS.bl.cell 0
          have x1 := hS.bl.cell 1
          have z0 := HC0.out w5 hb
          have z1 := HC1.out w5 hb
          clear hS
          have hc := evalC Ac; have hf := evalF Ac; have hgl := evalG Ac
          obtain ⟨ρ, hρ⟩ : ∃ ρ, Ac.eval = ρ := ⟨_, rfl⟩
          rw [hρ] at a41 hc hf hgl
          exact relPure hρ (.slice (some ⟨g, o, none⟩) n1 c1) (by simp [go_sem, hc, hf, hgl, ↓IntWalk.iteOmega, a41, *]) rfl
        · refine relStep_plain rfl ?_
          intro Ac w5 hp
          have hb := hp.bel
          have a8 : Ac.eval (.tmp 8) = .int .i64 (j : Int) := hp.out 8 (by rfl)
          have hc := evalC Ac; have hf := evalF Ac; have hgl := evalG Ac
          obtain ⟨ρ, hρ⟩ : ∃ ρ, Ac.eval = ρ := ⟨_, rfl⟩
          rw [hρ] at a8 hc hf hgl
          exact relPure hρ (.int .i64 (j : Int)) (by simp [go_sem, hc, hf, hgl, ↓IntWalk.iteOmega, a8, *]) rfl
        · refine relStep_plain rfl ?_
          intro Ac w5 hp
          have hb := hp.bel
          have a42 : Ac.eval (.tmp 42) = .slice (some ⟨g, o, none⟩) n1 c1 := hp.dep 10 (by kernel_rfl)
          have a43 : Ac.eval (.tmp 43) = .int .i64 (j : Int) := hp.dep 11 (by kernel_rfl)
          have hc := evalC Ac; have hf := evalF Ac; have hgl := evalG Ac
          obtain ⟨ρ, hρ⟩ : ∃ ρ, Ac.eval = ρ := ⟨_, rfl⟩
          rw [hρ] at a42 a43 hc hf hgl
          exact relPure hρ (.pointer (some ⟨g, o + j * 2, none⟩)) (by simp [go_sem, hc, hf, hgl, ↓IntWalk.iteOmega, a42, a43, *]) rfl
        · refine relStep_plain rfl ?_
          intro Ac w5 hp
          have hb := hp.bel
          have a44 : Ac.eval (.tmp 44) = .pointer (some ⟨g, o + j * 2, none⟩) := hp.dep 12 (by kernel_rfl)
          have hS := HS5.out.below hb
          have x0 := hS.bl.cell 0
          have x1 := hS.bl.cell 1
          have z0 := HC0.out w5 hb
          have z1 := HC1.out w5 hb
          clear hS
          have hc := evalC Ac; have hf := evalF Ac; have hgl := evalG Ac
          obtain ⟨ρ, hρ⟩ : ∃ ρ, Ac.eval = ρ := ⟨_, rfl⟩
          rw [hρ] at a44 hc hf hgl
          exact relPure hρ (.agg #[.bool b, .slice B6 m6 d6]) (by simp [go_sem, hc, hf, hgl, ↓IntWalk.iteOmega, a44, *]) rfl
        · refine relStep_plain rfl ?_
          intro Ac w5 hp
          have hb := hp.bel
          have a1 : Ac.eval (.tmp 1) = .slice (some ⟨gB, oB, none⟩) mB dB := hp.out 1 (by rfl)
          have hc := evalC Ac; have hf := evalF Ac; have hgl := evalG Ac
          obtain ⟨ρ, hρ⟩ : ∃ ρ, Ac.eval = ρ := ⟨_, rfl⟩
          rw [hρ] at a1 hc hf hgl
          exact relPure hρ (.slice (some ⟨gB, oB, none⟩) mB dB) (by simp [go_sem, hc, hf, hgl, ↓IntWalk.iteOmega, a1, *]) rfl
        · refine relStep_plain rfl ?_
          intro Ac w5 hp
          have hb := hp.bel
          have a45 : Ac.eval (.tmp 45) = .agg #[.bool b, .slice B6 m6 d6] := hp.dep 13 (by kernel_rfl)
          have a46 : Ac.eval (.tmp 46) = .slice (some ⟨gB, oB, none⟩) mB dB := hp.dep 14 (by kernel_rfl)
          have hc := evalC Ac; have hf := evalF Ac; have hgl := evalG Ac
          obtain ⟨ρ, hρ⟩ : ∃ ρ, Ac.eval = ρ := ⟨_, rfl⟩
          rw [hρ] at a45 a46 hc hf hgl
          refine relCall hρ 12 #[.agg #[.bool b, .slice B6 m6 d6], .slice (some ⟨gB, oB, none⟩) mB dB] (by simp [go_sem, hc, hf, hgl, ↓IntWalk.iteOmega, a45, a46, *]) ?_
          refine (HRH.out w5 hb).mono ?_
          rintro e w6 ⟨rfl, hb6⟩
          exact ⟨_, rfl, rfl, hb6⟩
        · refine relStep_plain rfl ?_
          intro Ac w5 hp
          have hb := hp.bel
          have a40 : Ac.eval (.tmp 40) = .bool q := hp.dep 8 (by kernel_rfl)
          have a47 : Ac.eval (.tmp 47) = .bool q := hp.dep 15 (by kernel_rfl)
          have hc := evalC Ac; have hf := evalF Ac; have hgl := evalG Ac
          obtain ⟨ρ, hρ⟩ : ∃ ρ, Ac.eval = ρ := ⟨_, rfl⟩
          rw [hρ] at a40 a47 hc hf hgl
          exact relPure hρ (.bool false) (by simp [go_sem, hc, hf, hgl, ↓IntWalk.iteOmega, a40, a47, *]) rfl
        intro u w8 hb7 hall
        have e48 : u 16 = .bool false := relAll_at hall (i := 16) (by decide +kernel)
        clear hall
        simp only [List.drop_succ_cons, List.drop_zero, List.take_succ_cons, List.take_zero, putAll, Act.put, List.setIfInBounds_toArray, List.set_cons_zero, List.set_cons_succ, Nat.zero_add, Nat.reduceAdd, e48]
        --E4A
        have HE := hide (HB5.out.trans (hb7.mono hsz))
        clear hb7
        go_wp2
        go_roundw
        case rel => exact ⟨j + 1, by omega, by go_num, HE.out⟩
        case measure => simp [intOf]; omega
      · obtain rfl : j = n1 := by omega
        have x0 := HS5.out.bl.cell 0
        have x1 := HS5.out.bl.cell 1
        go_wp2
        have HF := hide (fun (W : World) (hb : Below wr.heap.size wr W) => by have := cFewL_any s A1 j c1 L W (HS5.out.below hb).ls; rw [HLl.out] at this; exact this)
        have HFw := hide (fun (W : World) (hb : Below wr.heap.size wr W) => by have := fewM_any (some ⟨gB, oB, none⟩) mB dB C 30 (by decide) W (HS5.out.below hb).ps; rw [HC30.out] at this; exact this)
        have HG := hide (fun (A : Option Addr) (n c : Nat) (W : World) (h : LstAt 2 crR W A n c L) => cGood_any s A n c L W h HS.out)
        have HRG := hide (fun (W : World) (hb : Below wr.heap.size wr W) => refCGood_any s A1 j c1 L W (HS5.out.below hb).ls HS.out (fun x hx => by have := HL34.out x hx; omega))
        have HPm := hide (fun (A : Option Addr) (n c : Nat) (B : Option Addr) (m d : Nat) (W : World) (h : LstAt 2 crR W A n c L) (hu : U32s W B m d C) (hm : m ≤ 30) => cPermits_any s A n c L B m d C W h hu HCr.out (by omega))
        have HRP := hide (fun (W : World) (hb : Below wr.heap.size wr W) => refCPermits_any s A1 j c1 L (some ⟨gB, oB, none⟩) mB dB C W (HS5.out.below hb).ls (HS5.out.below hb).ps)
        have HLv := hide (fun (W : World) (hb : Below wr.heap.size wr W) => clives19_any W (HS5.out.below hb).env)
        obtain ⟨G, hG⟩ : ∃ G, cgoodL s L = G := ⟨_, rfl⟩
        obtain ⟨Pm, hPm⟩ : ∃ Pm, crPerm (chitP C) L = Pm := ⟨_, rfl⟩
        rw [hG] at HG HRG
        rw [hPm] at HPm HRP
        clear hG hPm
        --R5A
        refine wp_region_rel [(fun v _ => v = .agg #[.string s, .slice A1 j c1]), (fun v w => ∃ A n c, v = .agg #[.string s, .slice A n c] ∧ LstAt 2 crR w A n c L), (fun v _ => v = .bool G), (fun v _ => v = .agg #[.string s, .slice A1 j c1]), (fun v _ => v = .bool G), (fun v _ => v = .bool true), (fun v _ => v = .bool true), (fun v _ => v = .agg #[.string s, .slice A1 j c1]), (fun v w => ∃ A n c, v = .agg #[.string s, .slice A n c] ∧ LstAt 2 crR w A n c L), (fun v _ => v = .slice (some ⟨gB, oB, none⟩) mB dB), (fun v w => ∃ A n c, v = .slice A n c ∧ U32s w A n c C ∧ n ≤ 30), (fun v _ => v = .bool Pm), (fun v _ => v = .agg #[.string s, .slice A1 j c1]), (fun v _ => v = .slice (some ⟨gB, oB, none⟩) mB dB), (fun v _ => v = .bool Pm), (fun v _ => v = .bool true), (fun v _ => v = .bool true), (fun v _ => v = .bool true), (fun v _ => v = .bool false), (fun v _ => v = .int .i64 (-1)), (fun v _ => v = .bool false), (fun v _ => v = .bool true), (fun v _ => v = .bool true), (fun v _ => v = .bool true), (fun v _ => v = .bool false), (fun v _ => v = .bool false), (fun v _ => v = undef), (fun v _ => v = undef), (fun v _ => v = undef), (fun v _ => v = .bool false), (fun v _ => v = .bool false), (fun v _ => v = .bool false), (fun v _ => v = .bool true), (fun v _ => v = .bool true), (fun v _ => v = .int .i64 0), (fun v _ => v = .bool true), (fun v _ => v = .bool true), (fun v _ => v = .bool true), (fun v _ => v = .bool true), (fun v _ => v = .bool true), (fun v _ => v = .bool true), (fun v _ => v = .bool true), (fun v _ => v = .bool true)] (by kernel_rfl) (by kernel_rfl) (relMono _ ⟨fun _ _ _ _ h => h, fun v w w2 hb ⟨A, n, c, e, h⟩ => ⟨A, n, c, e, h.below crMono hb⟩, fun _ _ _ _ h => h, fun _ _ _ _ h => h, fun _ _ _ _ h => h, fun _ _ _ _ h => h, fun _ _ _ _ h => h, fun _ _ _ _ h => h, fun v w w2 hb ⟨A, n, c, e, h⟩ => ⟨A, n, c, e, h.below crMono hb⟩, fun _ _ _ _ h => h, fun v w w2 hb ⟨A, n, c, e, h, hn⟩ => ⟨A, n, c, e, h.below hb, hn⟩, fun _ _ _ _ h => h, fun _ _ _ _ h => h, fun _ _ _ _ h => h, fun _ _ _ _ h => h, fun _ _ _ _ h => h, fun _ _ _ _ h => h, fun _ _ _ _ h => h, fun _ _ _ _ h => h, fun _ _ _ _ h => h, fun _ _ _ _ h => h, fun _ _ _ _ h => h, fun _ _ _ _ h => h, fun _ _ _ _ h => h, fun _ _ _ _ h => h, fun _ _ _ _ h => h, fun _ _ _ _ h => h, fun _ _ _ _ h => h, fun _ _ _ _ h => h, fun _ _ _ _ h => h, fun _ _ _ _ h => h, fun _ _ _ _ h => h, fun _ _ _ _ h => h, fun _ _ _ _ h => h, fun _ _ _ _ h => h, fun _ _ _ _ h => h, fun _ _ _ _ h => h, fun _ _ _ _ h => h, fun _ _ _ _ h => h, fun _ _ _ _ h => h, fun _ _ _ _ h => h, fun _ _ _ _ h => h, fun _ _ _ _ h => h, trivial⟩) ⟨?_, ?_, ?_, ?_, ?_, ?_, ?_, ?_, ?_, ?_, ?_, ?_, ?_, ?_, ?_, ?_, ?_, ?_, ?_, ?_, ?_, ?_, ?_, ?_, ?_, ?_, ?_, ?_, ?_, ?_, ?_, ?_, ?_, ?_, ?_, ?_, ?_, ?_, ?_, ?_, ?_, ?_, ?_, trivial⟩ ?_
        · refine relStep_plain rfl ?_
          intro Ac w5 hp
          have hb := hp.bel
          have a2 : Ac.eval (.tmp 2) = .pointer (some ⟨w.heap.size, 0, none⟩) := hp.out 2 (by rfl)
          have hS := HS5.out.below hb
          have x0 := hS.bl.cell 0
          have x1 := hS.bl.cell 1
          clear hS
          have hc := evalC Ac; have hf := evalF Ac; have hgl := evalG Ac
          obtain ⟨ρ, hρ⟩ : ∃ ρ, Ac.eval = ρ := ⟨_, rfl⟩
          rw [hρ] at a2 hc hf hgl
          exact relPure hρ (.agg #[.string s, .slice A1 j c1]) (by simp [go_sem, hc, hf, hgl, ↓IntWalk.iteOmega, a2, *]) rfl
        · refine relStep_plain rfl ?_
          intro Ac w5 hp
          have hb := hp.bel
          have a49 : Ac.eval (.tmp 49) = .agg #[.string s, .slice A1 j c1] := hp.dep 0 (by kernel_rfl)
          have hc := evalC Ac; have hf := evalF Ac; have hgl := evalG Ac
          obtain ⟨ρ, hρ⟩ : ∃ ρ, Ac.eval = ρ := ⟨_, rfl⟩
          rw [hρ] at a49 hc hf hgl
          refine relCall hρ 5 #[.agg #[.string s, .slice A1 j c1]] (by simp [go_sem, hc, hf, hgl, ↓IntWalk.iteOmega, a49, *]) ?_
          refine (HF.out w5 hb).mono ?_
          rintro e w6 ⟨A6, n6, c6, rfl, hl6, hb6⟩
          exact ⟨_, rfl, ⟨A6, n6, c6, rfl, hl6⟩, hb6⟩
        · refine relStep_plain rfl ?_
          intro Ac w5 hp
          have hb := hp.bel
          obtain ⟨A3, n3, c3, a50, hl3⟩ := hp.dep 1 (by kernel_rfl)
          change Ac.eval (.tmp 50) = _ at a50
          have hc := evalC Ac; have hf := evalF Ac; have hgl := evalG Ac
          obtain ⟨ρ, hρ⟩ : ∃ ρ, Ac.eval = ρ := ⟨_, rfl⟩
          rw [hρ] at a50 hc hf hgl
          refine relCall hρ 13 #[.agg #[.string s, .slice A3 n3 c3]] (by simp [go_sem, hc, hf, hgl, ↓IntWalk.iteOmega, a50, *]) ?_
          refine (HG.out A3 n3 c3 w5 hl3).mono ?_
          rintro e w6 ⟨rfl, hb6⟩
          exact ⟨_, rfl, rfl, hb6⟩
        · refine relStep_plain rfl ?_
          intro Ac w5 hp
          have hb := hp.bel
          have a2 : Ac.eval (.tmp 2) = .pointer (some ⟨w.heap.size, 0, none⟩) := hp.out 2 (by rfl)
          have hS := HS5.out.below hb
          have x0 := hS.bl.cell 0
          have x1 := hS.bl.cell 1
          clear hS
          have hc := evalC Ac; have hf := evalF Ac; have hgl := evalG Ac
          obtain ⟨ρ, hρ⟩ : ∃ ρ, Ac.eval = ρ := ⟨_, rfl⟩
          rw [hρ] at a2 hc hf hgl
          exact relPure hρ (.agg #[.string s, .slice A1 j c1]) (by simp [go_sem, hc, hf, hgl, ↓IntWalk.iteOmega, a2, *]) rfl
        · refine relStep_plain rfl ?_
          intro Ac w5 hp
          have hb := hp.bel
          have a52 : Ac.eval (.tmp 52) = .agg #[.string s, .slice A1 j c1] := hp.dep 3 (by kernel_rfl)
          have hc := evalC Ac; have hf := evalF Ac; have hgl := evalG Ac
          obtain ⟨ρ, hρ⟩ : ∃ ρ, Ac.eval = ρ := ⟨_, rfl⟩
          rw [hρ] at a52 hc hf hgl
          refine relCall hρ 14 #[.agg #[.string s, .slice A1 j c1]] (by simp [go_sem, hc, hf, hgl, ↓IntWalk.iteOmega, a52, *]) ?_
          refine (HRG.out w5 hb).mono ?_
          rintro e w6 ⟨rfl, hb6⟩
          exact ⟨_, rfl, rfl, hb6⟩
        · refine relStep_plain rfl ?_
          intro Ac w5 hp
          have hb := hp.bel
          have a51 : Ac.eval (.tmp 51) = .bool G := hp.dep 2 (by kernel_rfl)
          have a53 : Ac.eval (.tmp 53) = .bool G := hp.dep 4 (by kernel_rfl)
          have hc := evalC Ac; have hf := evalF Ac; have hgl := evalG Ac
          obtain ⟨ρ, hρ⟩ : ∃ ρ, Ac.eval = ρ := ⟨_, rfl⟩
          rw [hρ] at a51 a53 hc hf hgl
          exact relPure hρ (.bool true) (by simp [go_sem, hc, hf, hgl, ↓IntWalk.iteOmega, a51, a53, *]) rfl
        · refine relStep_plain rfl ?_
          intro Ac w5 hp
          have hb := hp.bel
          have a54 : Ac.eval (.tmp 54) = .bool true := hp.dep 5 (by kernel_rfl)
          have hc := evalC Ac; have hf := evalF Ac; have hgl := evalG Ac
          obtain ⟨ρ, hρ⟩ : ∃ ρ, Ac.eval = ρ := ⟨_, rfl⟩
          rw [hρ] at a54 hc hf hgl
          exact relPure hρ (.bool true) (by simp [go_sem, hc, hf, hgl, ↓IntWalk.iteOmega, a54, *]) rfl
        · refine relStep_guard (g := 6) (b := true) (x := true) rfl (by kernel_rfl) rfl (by kernel_rfl) rfl (fun _ _ h => h) ?_
          intro Ac w5 hp
          have hb := hp.bel
          have a2 : Ac.eval (.tmp 2) = .pointer (some ⟨w.heap.size, 0, none⟩) := hp.out 2 (by rfl)
          have hS := HS5.out.below hb
          have x0 := hS.bl.cell 0
          have x1 := hS.bl.cell 1
          clear hS
          have hc := evalC Ac; have hf := evalF Ac; have hgl := evalG Ac
          obtain ⟨ρ, hρ⟩ : ∃ ρ, Ac.eval = ρ := ⟨_, rfl⟩
          rw [hρ] at a2 hc hf hgl
          exact relPure hρ (.agg #[.string s, .slice A1 j c1]) (by simp [go_sem, hc, hf, hgl, ↓IntWalk.iteOmega, a2, *]) rfl
        · refine relStep_guard (g := 6) (b := true) (x := true) rfl (by kernel_rfl) rfl (by kernel_rfl) rfl (fun _ _ h => h) ?_
          intro Ac w5 hp
          have hb := hp.bel
          have a56 : Ac.eval (.tmp 56) = .agg #[.string s, .slice A1 j c1] := hp.dep 7 (by kernel_rfl)
          have hc := evalC Ac; have hf := evalF Ac; have hgl := evalG Ac
          obtain ⟨ρ, hρ⟩ : ∃ ρ, Ac.eval = ρ := ⟨_, rfl⟩
          rw [hρ] at a56 hc hf hgl
          refine relCall hρ 5 #[.agg #[.string s, .slice A1 j c1]] (by simp [go_sem, hc, hf, hgl, ↓IntWalk.iteOmega, a56, *]) ?_
          refine (HF.out w5 hb).mono ?_
          rintro e w6 ⟨A6, n6, c6, rfl, hl6, hb6⟩
          exact ⟨_, rfl, ⟨A6, n6, c6, rfl, hl6⟩, hb6⟩
        · refine relStep_guard (g := 6) (b := true) (x := true) rfl (by kernel_rfl) rfl (by kernel_rfl) rfl (fun _ _ h => h) ?_
          intro Ac w5 hp
          have hb := hp.bel
          have a1 : Ac.eval (.tmp 1) = .slice (some ⟨gB, oB, none⟩) mB dB := hp.out 1 (by rfl)
          have hc := evalC Ac; have hf := evalF Ac; have hgl := evalG Ac
          obtain ⟨ρ, hρ⟩ : ∃ ρ, Ac.eval = ρ := ⟨_, rfl⟩
          rw [hρ] at a1 hc hf hgl
          exact relPure hρ (.slice (some ⟨gB, oB, none⟩) mB dB) (by simp [go_sem, hc, hf, hgl, ↓IntWalk.iteOmega, a1, *]) rfl
        · refine relStep_guard (g := 6) (b := true) (x := true) rfl (by kernel_rfl) rfl (by kernel_rfl) rfl (fun _ _ h => h) ?_
          intro Ac w5 hp
          have hb := hp.bel
          have a58 : Ac.eval (.tmp 58) = .slice (some ⟨gB, oB, none⟩) mB dB := hp.dep 9 (by kernel_rfl)
          have hc := evalC Ac; have hf := evalF Ac; have hgl := evalG Ac
          obtain ⟨ρ, hρ⟩ : ∃ ρ, Ac.eval = ρ := ⟨_, rfl⟩
          rw [hρ] at a58 hc hf hgl
          refine relCall hρ 7 #[.slice (some ⟨gB, oB, none⟩) mB dB, .int .i64 30] (by simp [go_sem, hc, hf, hgl, ↓IntWalk.iteOmega, a58, *]) ?_
          refine (HFw.out w5 hb).mono ?_
          rintro e w6 ⟨A6, n6, c6, rfl, hu6, hn6, hb6⟩
          exact ⟨_, rfl, ⟨A6, n6, c6, rfl, hu6, hn6⟩, hb6⟩
        · refine relStep_guard (g := 6) (b := true) (x := true) rfl (by kernel_rfl) rfl (by kernel_rfl) rfl (fun _ _ h => h) ?_
          intro Ac w5 hp
          have hb := hp.bel
          obtain ⟨A4, n4, c4, a57, hl4⟩ := hp.dep 8 (by kernel_rfl)
          change Ac.eval (.tmp 57) = _ at a57
          obtain ⟨A5, n5, c5, a59, hu5, hn5⟩ := hp.dep 10 (by kernel_rfl)
          change Ac.eval (.tmp 59) = _ at a59
          have hc := evalC Ac; have hf := evalF Ac; have hgl := evalG Ac
          obtain ⟨ρ, hρ⟩ : ∃ ρ, Ac.eval = ρ := ⟨_, rfl⟩
          rw [hρ] at a57 a59 hc hf hgl
          refine relCall hρ 15 #[.agg #[.string s, .slice A4 n4 c4], .slice A5 n5 c5] (by simp [go_sem, hc, hf, hgl, ↓IntWalk.iteOmega, a57, a59, *]) ?_
          refine (HPm.out A4 n4 c4 A5 n5 c5 w5 hl4 hu5 hn5).mono ?_
          rintro e w6 ⟨rfl, hb6⟩
          exact ⟨_, rfl, rfl, hb6⟩
        · refine relStep_guard (g := 6) (b := true) (x := true) rfl (by kernel_rfl) rfl (by kernel_rfl) rfl (fun _ _ h => h) ?_
          intro Ac w5 hp
          have hb := hp.bel
          have a2 : Ac.eval (.tmp 2) = .pointer (some ⟨w.heap.size, 0, none⟩) := hp.out 2 (by rfl)
          have hS := HS5.out.below hb
          have x0 := hS.bl.cell 0
          have x1 := hS.bl.cell 1
          clear hS
          have hc := evalC Ac; have hf := evalF Ac; have hgl := evalG Ac
          obtain ⟨ρ, hρ⟩ : ∃ ρ, Ac.eval = ρ := ⟨_, rfl⟩
          rw [hρ] at a2 hc hf hgl
          exact relPure hρ (.agg #[.string s, .slice A1 j c1]) (by simp [go_sem, hc, hf, hgl, ↓IntWalk.iteOmega, a2, *]) rfl
        · refine relStep_guard (g := 6) (b := true) (x := true) rfl (by kernel_rfl) rfl (by kernel_rfl) rfl (fun _ _ h => h) ?_
          intro Ac w5 hp
          have hb := hp.bel
          have a1 : Ac.eval (.tmp 1) = .slice (some ⟨gB, oB, none⟩) mB dB := hp.out 1 (by rfl)
          have hc := evalC Ac; have hf := evalF Ac; have hgl := evalG Ac
          obtain ⟨ρ, hρ⟩ : ∃ ρ, Ac.eval = ρ := ⟨_, rfl⟩
          rw [hρ] at a1 hc hf hgl
          exact relPure hρ (.slice (some ⟨gB, oB, none⟩) mB dB) (by simp [go_sem, hc, hf, hgl, ↓IntWalk.iteOmega, a1, *]) rfl
        · refine relStep_guard (g := 6) (b := true) (x := true) rfl (by kernel_rfl) rfl (by kernel_rfl) rfl (fun _ _ h => h) ?_
          intro Ac w5 hp
          have hb := hp.bel
          have a61 : Ac.eval (.tmp 61) = .agg #[.string s, .slice A1 j c1] := hp.dep 12 (by kernel_rfl)
          have a62 : Ac.eval (.tmp 62) = .slice (some ⟨gB, oB, none⟩) mB dB := hp.dep 13 (by kernel_rfl)
          have hc := evalC Ac; have hf := evalF Ac; have hgl := evalG Ac
          obtain ⟨ρ, hρ⟩ : ∃ ρ, Ac.eval = ρ := ⟨_, rfl⟩
          rw [hρ] at a61 a62 hc hf hgl
          refine relCall hρ 16 #[.agg #[.string s, .slice A1 j c1], .slice (some ⟨gB, oB, none⟩) mB dB] (by simp [go_sem, hc, hf, hgl, ↓IntWalk.iteOmega, a61, a62, *]) ?_
          refine (HRP.out w5 hb).mono ?_
          rintro e w6 ⟨rfl, hb6⟩
          exact ⟨_, rfl, rfl, hb6⟩
        · refine relStep_guard (g := 6) (b := true) (x := true) rfl (by kernel_rfl) rfl (by kernel_rfl) rfl (fun _ _ h => h) ?_
          intro Ac w5 hp
          have hb := hp.bel
          have a60 : Ac.eval (.tmp 60) = .bool Pm := hp.dep 11 (by kernel_rfl)
          have a63 : Ac.eval (.tmp 63) = .bool Pm := hp.dep 14 (by kernel_rfl)
          have hc := evalC Ac; have hf := evalF Ac; have hgl := evalG Ac
          obtain ⟨ρ, hρ⟩ : ∃ ρ, Ac.eval = ρ := ⟨_, rfl⟩
          rw [hρ] at a60 a63 hc hf hgl
          exact relPure hρ (.bool true) (by simp [go_sem, hc, hf, hgl, ↓IntWalk.iteOmega, a60, a63, *]) rfl
        · refine relStep_plain rfl ?_
          intro Ac w5 hp
          have hb := hp.bel
          have a55 : Ac.eval (.tmp 55) = .bool true := hp.dep 6 (by kernel_rfl)
          have a64 : Ac.eval (.tmp 64) = .bool true := hp.dep 15 (by kernel_rfl)
          have hc := evalC Ac; have hf := evalF Ac; have hgl := evalG Ac
          obtain ⟨ρ, hρ⟩ : ∃ ρ, Ac.eval = ρ := ⟨_, rfl⟩
          rw [hρ] at a55 a64 hc hf hgl
          exact relPure hρ (.bool true) (by simp [go_sem, hc, hf, hgl, ↓IntWalk.iteOmega, a55, a64, *]) rfl
        · refine relStep_plain rfl ?_
          intro Ac w5 hp
          have hb := hp.bel
          have a65 : Ac.eval (.tmp 65) = .bool true := hp.dep 16 (by kernel_rfl)
          have hc := evalC Ac; have hf := evalF Ac; have hgl := evalG Ac
          obtain ⟨ρ, hρ⟩ : ∃ ρ, Ac.eval = ρ := ⟨_, rfl⟩
          rw [hρ] at a65 hc hf hgl
          exact relPure hρ (.bool true) (by simp [go_sem, hc, hf, hgl, ↓IntWalk.iteOmega, a65, *]) rfl
        · refine relStep_guard (g := 17) (b := true) (x := true) rfl (by kernel_rfl) rfl (by kernel_rfl) rfl (fun _ _ h => h) ?_
          intro Ac w5 hp
          have hb := hp.bel
          have a7 : Ac.eval (.tmp 7) = .bool false := hp.out 7 (by rfl)
          have hc := evalC Ac; have hf := evalF Ac; have hgl := evalG Ac
          obtain ⟨ρ, hρ⟩ : ∃ ρ, Ac.eval = ρ := ⟨_, rfl⟩
          rw [hρ] at a7 hc hf hgl
          exact relPure hρ (.bool false) (by simp [go_sem, hc, hf, hgl, ↓IntWalk.iteOmega, a7, *]) rfl
        · refine relStep_guard (g := 17) (b := true) (x := true) rfl (by kernel_rfl) rfl (by kernel_rfl) rfl (fun _ _ h => h) ?_
          intro Ac w5 hp
          have hb := hp.bel
          have a5 : Ac.eval (.tmp 5) = .int .i64 (-1) := hp.out 5 (by rfl)
          have hc := evalC Ac; have hf := evalF Ac; have hgl := evalG Ac
          obtain ⟨ρ, hρ⟩ : ∃ ρ, Ac.eval = ρ := ⟨_, rfl⟩
          rw [hρ] at a5 hc hf hgl
          exact relPure hρ (.int .i64 (-1)) (by simp [go_sem, hc, hf, hgl, ↓IntWalk.iteOmega, a5, *]) rfl
        · refine relStep_guard (g := 17) (b := true) (x := true) rfl (by kernel_rfl) rfl (by kernel_rfl) rfl (fun _ _ h => h) ?_
          intro Ac w5 hp
          have hb := hp.bel
          have a68 : Ac.eval (.tmp 68) = .int .i64 (-1) := hp.dep 19 (by kernel_rfl)
          have hc := evalC Ac; have hf := evalF Ac; have hgl := evalG Ac
          obtain ⟨ρ, hρ⟩ : ∃ ρ, Ac.eval = ρ := ⟨_, rfl⟩
          rw [hρ] at a68 hc hf hgl
          exact relPure hρ (.bool false) (by simp [go_sem, hc, hf, hgl, ↓IntWalk.iteOmega, a68, *]) rfl
        · refine relStep_guard (g := 17) (b := true) (x := true) rfl (by kernel_rfl) rfl (by kernel_rfl) rfl (fun _ _ h => h) ?_
          intro Ac w5 hp
          have hb := hp.bel
          have a67 : Ac.eval (.tmp 67) = .bool false := hp.dep 18 (by kernel_rfl)
          have a69 : Ac.eval (.tmp 69) = .bool false := hp.dep 20 (by kernel_rfl)
          have hc := evalC Ac; have hf := evalF Ac; have hgl := evalG Ac
          obtain ⟨ρ, hρ⟩ : ∃ ρ, Ac.eval = ρ := ⟨_, rfl⟩
          rw [hρ] at a67 a69 hc hf hgl
          exact relPure hρ (.bool true) (by simp [go_sem, hc, hf, hgl, ↓IntWalk.iteOmega, a67, a69, *]) rfl
        · refine relStep_plain rfl ?_
          intro Ac w5 hp
          have hb := hp.bel
          have a66 : Ac.eval (.tmp 66) = .bool true := hp.dep 17 (by kernel_rfl)
          have a70 : Ac.eval (.tmp 70) = .bool true := hp.dep 21 (by kernel_rfl)
          have hc := evalC Ac; have hf := evalF Ac; have hgl := evalG Ac
          obtain ⟨ρ, hρ⟩ : ∃ ρ, Ac.eval = ρ := ⟨_, rfl⟩
          rw [hρ] at a66 a70 hc hf hgl
          exact relPure hρ (.bool true) (by simp [go_sem, hc, hf, hgl, ↓IntWalk.iteOmega, a66, a70, *]) rfl
        · refine relStep_plain rfl ?_
          intro Ac w5 hp
          have hb := hp.bel
          have a71 : Ac.eval (.tmp 71) = .bool true := hp.dep 22 (by kernel_rfl)
          have hc := evalC Ac; have hf := evalF Ac; have hgl := evalG Ac
          obtain ⟨ρ, hρ⟩ : ∃ ρ, Ac.eval = ρ := ⟨_, rfl⟩
          rw [hρ] at a71 hc hf hgl
          exact relPure hρ (.bool true) (by simp [go_sem, hc, hf, hgl, ↓IntWalk.iteOmega, a71, *]) rfl
        · refine relStep_guard (g := 23) (b := true) (x := true) rfl (by kernel_rfl) rfl (by kernel_rfl) rfl (fun _ _ h => h) ?_
          intro Ac w5 hp
          have hb := hp.bel
          have a7 : Ac.eval (.tmp 7) = .bool false := hp.out 7 (by rfl)
          have hc := evalC Ac; have hf := evalF Ac; have hgl := evalG Ac
          obtain ⟨ρ, hρ⟩ : ∃ ρ, Ac.eval = ρ := ⟨_, rfl⟩
          rw [hρ] at a7 hc hf hgl
          exact relPure hρ (.bool false) (by simp [go_sem, hc, hf, hgl, ↓IntWalk.iteOmega, a7, *]) rfl
        · refine relStep_guard (g := 23) (b := true) (x := true) rfl (by kernel_rfl) rfl (by kernel_rfl) rfl (fun _ _ h => h) ?_
          intro Ac w5 hp
          have hb := hp.bel
          have a73 : Ac.eval (.tmp 73) = .bool false := hp.dep 24 (by kernel_rfl)
          have hc := evalC Ac; have hf := evalF Ac; have hgl := evalG Ac
          obtain ⟨ρ, hρ⟩ : ∃ ρ, Ac.eval = ρ := ⟨_, rfl⟩
          rw [hρ] at a73 hc hf hgl
          exact relPure hρ (.bool false) (by simp [go_sem, hc, hf, hgl, ↓IntWalk.iteOmega, a73, *]) rfl
        · refine relStep_guard (g := 25) (b := true) (x := false) rfl (by kernel_rfl) rfl (by kernel_rfl) rfl (fun _ _ h => h) ?_
          exact fun _ => rfl
        · refine relStep_guard (g := 25) (b := true) (x := false) rfl (by kernel_rfl) rfl (by kernel_rfl) rfl (fun _ _ h => h) ?_
          exact fun _ => rfl
        · refine relStep_guard (g := 25) (b := true) (x := false) rfl (by kernel_rfl) rfl (by kernel_rfl) rfl (fun _ _ h => h) ?_
          exact fun _ => rfl
        · refine relStep_guard (g := 23) (b := true) (x := true) rfl (by kernel_rfl) rfl (by kernel_rfl) rfl (fun _ _ h => h) ?_
          intro Ac w5 hp
          have hb := hp.bel
          have a74 : Ac.eval (.tmp 74) = .bool false := hp.dep 25 (by kernel_rfl)
          have hc := evalC Ac; have hf := evalF Ac; have hgl := evalG Ac
          obtain ⟨ρ, hρ⟩ : ∃ ρ, Ac.eval = ρ := ⟨_, rfl⟩
          rw [hρ] at a74 hc hf hgl
          exact relPure hρ (.bool false) (by simp [go_sem, hc, hf, hgl, ↓IntWalk.iteOmega, a74, *]) rfl
        · refine relStep_guard (g := 23) (b := true) (x := true) rfl (by kernel_rfl) rfl (by kernel_rfl) rfl (fun _ _ h => h) ?_
          intro Ac w5 hp
          have hb := hp.bel
          have a78 : Ac.eval (.tmp 78) = .bool false := hp.dep 29 (by kernel_rfl)
          have hc := evalC Ac; have hf := evalF Ac; have hgl := evalG Ac
          obtain ⟨ρ, hρ⟩ : ∃ ρ, Ac.eval = ρ := ⟨_, rfl⟩
          rw [hρ] at a78 hc hf hgl
          exact relPure hρ (.bool false) (by simp [go_sem, hc, hf, hgl, ↓IntWalk.iteOmega, a78, *]) rfl
        · refine relStep_guard (g := 30) (b := false) (x := false) rfl (by kernel_rfl) rfl (by kernel_rfl) rfl (fun _ _ h => h) ?_
          intro Ac w5 hp
          have hb := hp.bel
          have a7 : Ac.eval (.tmp 7) = .bool false := hp.out 7 (by rfl)
          have hc := evalC Ac; have hf := evalF Ac; have hgl := evalG Ac
          obtain ⟨ρ, hρ⟩ : ∃ ρ, Ac.eval = ρ := ⟨_, rfl⟩
          rw [hρ] at a7 hc hf hgl
          exact relPure hρ (.bool false) (by simp [go_sem, hc, hf, hgl, ↓IntWalk.iteOmega, a7, *]) rfl
        · refine relStep_guard (g := 30) (b := false) (x := false) rfl (by kernel_rfl) rfl (by kernel_rfl) rfl (fun _ _ h => h) ?_
          intro Ac w5 hp
          have hb := hp.bel
          have a80 : Ac.eval (.tmp 80) = .bool false := hp.dep 31 (by kernel_rfl)
          have hc := evalC Ac; have hf := evalF Ac; have hgl := evalG Ac
          obtain ⟨ρ, hρ⟩ : ∃ ρ, Ac.eval = ρ := ⟨_, rfl⟩
          rw [hρ] at a80 hc hf hgl
          exact relPure hρ (.bool true) (by simp [go_sem, hc, hf, hgl, ↓IntWalk.iteOmega, a80, *]) rfl
        · refine relStep_guard (g := 30) (b := false) (x := false) rfl (by kernel_rfl) rfl (by kernel_rfl) rfl (fun _ _ h => h) ?_
          intro Ac w5 hp
          have hb := hp.bel
          have a81 : Ac.eval (.tmp 81) = .bool true := hp.dep 32 (by kernel_rfl)
          have hc := evalC Ac; have hf := evalF Ac; have hgl := evalG Ac
          obtain ⟨ρ, hρ⟩ : ∃ ρ, Ac.eval = ρ := ⟨_, rfl⟩
          rw [hρ] at a81 hc hf hgl
          exact relPure hρ (.bool true) (by simp [go_sem, hc, hf, hgl, ↓IntWalk.iteOmega, a81, *]) rfl
        · refine relStep_guard (g := 33) (b := true) (x := true) rfl (by kernel_rfl) rfl (by kernel_rfl) rfl (fun _ _ h => h) ?_
          intro Ac w5 hp
          have hb := hp.bel
          have a6 : Ac.eval (.tmp 6) = .int .i64 0 := hp.out 6 (by rfl)
          have hc := evalC Ac; have hf := evalF Ac; have hgl := evalG Ac
          obtain ⟨ρ, hρ⟩ : ∃ ρ, Ac.eval = ρ := ⟨_, rfl⟩
          rw [hρ] at a6 hc hf hgl
          exact relPure hρ (.int .i64 0) (by simp [go_sem, hc, hf, hgl, ↓IntWalk.iteOmega, a6, *]) rfl
        · refine relStep_guard (g := 33) (b := true) (x := true) rfl (by kernel_rfl) rfl (by kernel_rfl) rfl (fun _ _ h => h) ?_
          intro Ac w5 hp
          have hb := hp.bel
          have a83 : Ac.eval (.tmp 83) = .int .i64 0 := hp.dep 34 (by kernel_rfl)
          have hc := evalC Ac; have hf := evalF Ac; have hgl := evalG Ac
          obtain ⟨ρ, hρ⟩ : ∃ ρ, Ac.eval = ρ := ⟨_, rfl⟩
          rw [hρ] at a83 hc hf hgl
          exact relPure hρ (.bool true) (by simp [go_sem, hc, hf, hgl, ↓IntWalk.iteOmega, a83, *]) rfl
        · refine relStep_guard (g := 30) (b := false) (x := false) rfl (by kernel_rfl) rfl (by kernel_rfl) rfl (fun _ _ h => h) ?_
          intro Ac w5 hp
          have hb := hp.bel
          have a82 : Ac.eval (.tmp 82) = .bool true := hp.dep 33 (by kernel_rfl)
          have a84 : Ac.eval (.tmp 84) = .bool true := hp.dep 35 (by kernel_rfl)
          have hc := evalC Ac; have hf := evalF Ac; have hgl := evalG Ac
          obtain ⟨ρ, hρ⟩ : ∃ ρ, Ac.eval = ρ := ⟨_, rfl⟩
          rw [hρ] at a82 a84 hc hf hgl
          exact relPure hρ (.bool true) (by simp [go_sem, hc, hf, hgl, ↓IntWalk.iteOmega, a82, a84, *]) rfl
        · refine relStep_guard (g := 23) (b := true) (x := true) rfl (by kernel_rfl) rfl (by kernel_rfl) rfl (fun _ _ h => h) ?_
          intro Ac w5 hp
          have hb := hp.bel
          have a79 : Ac.eval (.tmp 79) = .bool false := hp.dep 30 (by kernel_rfl)
          have a85 : Ac.eval (.tmp 85) = .bool true := hp.dep 36 (by kernel_rfl)
          have hc := evalC Ac; have hf := evalF Ac; have hgl := evalG Ac
          obtain ⟨ρ, hρ⟩ : ∃ ρ, Ac.eval = ρ := ⟨_, rfl⟩
          rw [hρ] at a79 a85 hc hf hgl
          exact relPure hρ (.bool true) (by simp [go_sem, hc, hf, hgl, ↓IntWalk.iteOmega, a79, a85, *]) rfl
        · refine relStep_plain rfl ?_
          intro Ac w5 hp
          have hb := hp.bel
          have a72 : Ac.eval (.tmp 72) = .bool true := hp.dep 23 (by kernel_rfl)
          have a86 : Ac.eval (.tmp 86) = .bool true := hp.dep 37 (by kernel_rfl)
          have hc := evalC Ac; have hf := evalF Ac; have hgl := evalG Ac
          obtain ⟨ρ, hρ⟩ : ∃ ρ, Ac.eval = ρ := ⟨_, rfl⟩
          rw [hρ] at a72 a86 hc hf hgl
          exact relPure hρ (.bool true) (by simp [go_sem, hc, hf, hgl, ↓IntWalk.iteOmega, a72, a86, *]) rfl
        · refine relStep_plain rfl ?_
          intro Ac w5 hp
          have hb := hp.bel
          have a87 : Ac.eval (.tmp 87) = .bool true := hp.dep 38 (by kernel_rfl)
          have hc := evalC Ac; have hf := evalF Ac; have hgl := evalG Ac
          obtain ⟨ρ, hρ⟩ : ∃ ρ, Ac.eval = ρ := ⟨_, rfl⟩
          rw [hρ] at a87 hc hf hgl
          exact relPure hρ (.bool true) (by simp [go_sem, hc, hf, hgl, ↓IntWalk.iteOmega, a87, *]) rfl
        · refine relStep_guard (g := 39) (b := true) (x := true) rfl (by kernel_rfl) rfl (by kernel_rfl) rfl (fun _ _ h => h) ?_
          intro Ac w5 hp
          have hb := hp.bel
          have hc := evalC Ac; have hf := evalF Ac; have hgl := evalG Ac
          obtain ⟨ρ, hρ⟩ : ∃ ρ, Ac.eval = ρ := ⟨_, rfl⟩
          rw [hρ] at hc hf hgl
          refine relCall hρ 17 #[] (by simp [go_sem, hc, hf, hgl, ↓IntWalk.iteOmega, *]) ?_
          refine (HLv.out w5 hb).mono ?_
          rintro e w6 ⟨rfl, hb6⟩
          exact ⟨_, rfl, rfl, hb6⟩
        · refine relStep_plain rfl ?_
          intro Ac w5 hp
          have hb := hp.bel
          have a88 : Ac.eval (.tmp 88) = .bool true := hp.dep 39 (by kernel_rfl)
          have a89 : Ac.eval (.tmp 89) = .bool true := hp.dep 40 (by kernel_rfl)
          have hc := evalC Ac; have hf := evalF Ac; have hgl := evalG Ac
          obtain ⟨ρ, hρ⟩ : ∃ ρ, Ac.eval = ρ := ⟨_, rfl⟩
          rw [hρ] at a88 a89 hc hf hgl
          exact relPure hρ (.bool true) (by simp [go_sem, hc, hf, hgl, ↓IntWalk.iteOmega, a88, a89, *]) rfl
        · refine relStep_plain rfl ?_
          intro Ac w5 hp
          have hb := hp.bel
          have a90 : Ac.eval (.tmp 90) = .bool true := hp.dep 41 (by kernel_rfl)
          have hc := evalC Ac; have hf := evalF Ac; have hgl := evalG Ac
          obtain ⟨ρ, hρ⟩ : ∃ ρ, Ac.eval = ρ := ⟨_, rfl⟩
          rw [hρ] at a90 hc hf hgl
          exact relPure hρ (.bool true) (by simp [go_sem, hc, hf, hgl, ↓IntWalk.iteOmega, a90, *]) rfl
        intro u w8 hb7 hall
        have e4 : u 42 = .bool true := relAll_at hall (i := 42) (by decide +kernel)
        clear hall
        simp only [List.drop_succ_cons, List.drop_zero, List.take_succ_cons, List.take_zero, putAll, Act.put, List.setIfInBounds_toArray, List.set_cons_zero, List.set_cons_succ, Nat.zero_add, Nat.reduceAdd, e4]
        --E5A
        have HE := hide (HS5.out.bel.trans (hb7.mono HS5.out.bel.size))
        clear hb7
        go_wp2
        go_ret
        exact ⟨rfl, HE.out⟩
  · have HF := hide (fun (W : World) (hb : Below w4.heap.size w4 W) => by have := cFewL_any s A1 n1 c1 L W (HS2.out.below hb).ls; rw [HLl.out] at this; exact this)
    have HFw := hide (fun (W : World) (hb : Below w4.heap.size w4 W) => by have := fewM_any (some ⟨gB, oB, none⟩) mB dB C 30 (by decide) W (HS2.out.below hb).ps; rw [HC30.out] at this; exact this)
    have HFi := hide (fun (A : Option Addr) (n c : Nat) (B : Option Addr) (m d : Nat) (W : World) (h : LstAt 2 crR W A n c L) (hu : U32s W B m d C) (hm : m ≤ 30) => by have := cFirst_any s A n c L B m d C W h hu HCr.out (by omega); rw [HI.out, show max (k : Int) 0 = (k : Int) by omega, show decide ((0 : Int) ≤ (k : Int)) = true by simp] at this; exact this)
    have HF2 := hide (HF.out _ (Below.refl _ _))
    go_wp2_with fail
    refine HF2.out.mono ?_
    rintro e w5 ⟨A6, n6, c6, rfl, hl6, hb5⟩
    have HF3 := hide (HFw.out w5 hb5)
    have HL6 := hide hl6
    have HB5 := hide hb5
    clear hl6 hb5 HF2 x0 x1
    go_wp2_with fail
    refine HF3.out.mono ?_
    rintro e w6 ⟨A7, n7, c7, rfl, hu7, hn7, hb6⟩
    have HF4 := hide (HFi.out A6 n6 c6 A7 n7 c7 w6 (HL6.out.below crMono hb6) hu7 hn7)
    have HB6 := hide (HB5.out.trans (hb6.mono HB5.out.size))
    clear hu7 hb6 HF3 HL6 HB5
    go_wp2_with fail
    refine HF4.out.mono ?_
    rintro e w7 ⟨rfl, hb7⟩
    have HS3 := hide (HS2.out.below (HB6.out.trans (hb7.mono HB6.out.size)))
    clear hb7 HF HFw HFi HF4 HB6
    go_wp2_with fail
    --LB
    go_loopw [8] (fun v wr => ∃ j : Nat, j ≤ n1 ∧ v = .int .i64 j ∧ Below w7.heap.size w7 wr) (fun v _ => n1 - (intOf v).toNat)
    case atStart => exact ⟨0, Nat.zero_le _, rfl, Below.refl _ _⟩
    case round =>
      obtain ⟨j, hj, rfl, hb⟩ := hrel
      have HS5 := hide (HS3.out.below hb)
      have HB5 := hide hb
      have hsz := hb.size
      have hnc := HS5.out.ls.2.1
      have hcm := HS5.out.ls.2.2.1
      unfold maxLen at hcm
      clear hb
      by_cases hlt : j < n1
      · obtain ⟨g, o, b, B6, m6, d6, r6, rfl, hg, hy, hok, c0, c1'⟩ := CRat HS5.out.ls hlt
        have x0 := HS5.out.bl.cell 0
        have x1 := HS5.out.bl.cell 1
        have HYx := hide hy
        have HC0 := hide (fun (W : World) (hb : Below wr.heap.size wr W) => (show W.cell? ⟨g, o + j * 2, none⟩ = some (.bool b) from (hb.cell (p := ⟨g, o + j * 2, none⟩) hg).trans c0))
        have HC1 := hide (fun (W : World) (hb : Below wr.heap.size wr W) => (show W.cell? ⟨g, o + j * 2 + 1, none⟩ = some (.slice B6 m6 d6) from (hb.cell (p := ⟨g, o + j * 2 + 1, none⟩) hg).trans c1'))
        have hr34 : r6.length ≤ 34 := HL34.out ⟨b, r6⟩ (List.mem_of_getElem? hy)
        have HRu := hide (fun (W : World) (hb : Below wr.heap.size wr W) => by have := crule_any b B6 m6 d6 r6 W (hok.below hb); rw [List.take_of_length_le hr34] at this; exact this)
        have HFw := hide (fun (W : World) (hb : Below wr.heap.size wr W) => by have := fewM_any (some ⟨gB, oB, none⟩) mB dB C 30 (by decide) W (HS5.out.below hb).ps; rw [HC30.out] at this; exact this)
        have HHi := hide (fun (A : Option Addr) (n c : Nat) (B : Option Addr) (m d : Nat) (W : World) (h : U32s W A n c r6) (hu : U32s W B m d C) (hm : m ≤ 30) => cHits_any b A n c r6 B m d C W h hu HCr.out (by omega))
        have HRH := hide (fun (W : World) (hb : Below wr.heap.size wr W) => refCHits_any b B6 m6 d6 r6 (some ⟨gB, oB, none⟩) mB dB C W (hok.below hb) (HS5.out.below hb).ps)
        obtain ⟨q, hq⟩ : ∃ q, allIn r6 C = q := ⟨_, rfl⟩
        rw [hq] at HHi HRH
        have hi0 : (0 : Int) ≤ (j : Int) := by omega
        have hi1 : (j : Int) < (n1 : Int) := by omega
        clear hq hok hy c0 c1' hr34 HYx
        go_wp2
        --R4B
        refine wp_region_rel [(fun v _ => v = .pointer (some ⟨w.heap.size, 1, none⟩)), (fun v _ => v = .slice (some ⟨g, o, none⟩) n1 c1), (fun v _ => v = .int .i64 (j : Int)), (fun v _ => v = .pointer (some ⟨g, o + j * 2, none⟩)), (fun v _ => v = .agg #[.bool b, .slice B6 m6 d6]), (fun v w => ∃ A n c, v = .agg #[.bool b, .slice A n c] ∧ U32s w A n c r6), (fun v _ => v = .slice (some ⟨gB, oB, none⟩) mB dB), (fun v w => ∃ A n c, v = .slice A n c ∧ U32s w A n c C ∧ n ≤ 30), (fun v _ => v = .bool q), (fun v _ => v = .pointer (some ⟨w.heap.size, 1, none⟩)), (fun v _ => v = .slice (some ⟨g, o, none⟩) n1 c1), (fun v _ => v = .int .i64 (j : Int)), (fun v _ => v = .pointer (some ⟨g, o + j * 2, none⟩)), (fun v _ => v = .agg #[.bool b, .slice B6 m6 d6]), (fun v _ => v = .slice (some ⟨gB, oB, none⟩) mB dB), (fun v _ => v = .bool q), (fun v _ => v = .bool false)] (by kernel_rfl) (by kernel_rfl) (relMono _ ⟨fun _ _ _ _ h => h, fun _ _ _ _ h => h, fun _ _ _ _ h => h, fun _ _ _ _ h => h, fun _ _ _ _ h => h, fun v w w2 hb ⟨A, n, c, e, h⟩ => ⟨A, n, c, e, h.below hb⟩, fun _ _ _ _ h => h, fun v w w2 hb ⟨A, n, c, e, h, hn⟩ => ⟨A, n, c, e, h.below hb, hn⟩, fun _ _ _ _ h => h, fun _ _ _ _ h => h, fun _ _ _ _ h => h, fun _ _ _ _ h => h, fun _ _ _ _ h => h, fun _ _ _ _ h => h, fun _ _ _ _ h => h, fun _ _ _ _ h => h, fun _ _ _ _ h => h, trivial⟩) ⟨?_, ?_, ?_, ?_, ?_, ?_, ?_, ?_, ?_, ?_, ?_, ?_, ?_, ?_, ?_, ?_, ?_, trivial⟩ ?_
        · refine relStep_plain rfl ?_
          intro Ac w5 hp
          have hb := hp.bel
          have a2 : Ac.eval (.tmp 2) = .pointer (some ⟨w.heap.size, 0, none⟩) := hp.out 2 (by rfl)
          have hc := evalC Ac; have hf := evalF Ac; have hgl := evalG Ac
          obtain ⟨ρ, hρ⟩ : ∃ ρ, Ac.eval = ρ := ⟨_, rfl⟩
          rw [hρ] at a2 hc hf hgl
          exact relPure hρ (.pointer (some ⟨w.heap.size, 1, none⟩)) (by simp [go_sem, hc, hf, hgl, ↓IntWalk.iteOmega, a2, *]) rfl
        · refine relStep_plain rfl ?_
          intro Ac w5 hp
          have hb := hp.bel
          have a32 : Ac.eval (.tmp 32) = .pointer (some ⟨w.heap.size, 1, none⟩) := hp.dep 0 (by kernel_rfl)
          have hS := HS5.out.below hb
          have x0 := hS.bl.cell 0
          have x1 := hS.bl.cell 1
          have z0 := HC0.out w5 hb
          have z1 := HC1.out w5 hb
          clear hS
          have hc := evalC Ac; have hf := evalF Ac; have hgl := evalG Ac
          obtain ⟨ρ, hρ⟩ : ∃ ρ, Ac.eval = ρ := ⟨_, rfl⟩
          rw [hρ] at a32 hc hf hgl
          exact relPure hρ (.slice (some ⟨g, o, none⟩) n1 c1) (by simp [go_sem, hc, hf, hgl, ↓IntWalk.iteOmega, a32, *]) rfl
        · refine relStep_plain rfl ?_
          intro Ac w5 hp
          have hb := hp.bel
          have a8 : Ac.eval (.tmp 8) = .int .i64 (j : Int) := hp.out 8 (by rfl)
          have hc := evalC Ac; have hf := evalF Ac; have hgl := evalG Ac
          obtain ⟨ρ, hρ⟩ : ∃ ρ, Ac.eval = ρ := ⟨_, rfl⟩
          rw [hρ] at a8 hc hf hgl
          exact relPure hρ (.int .i64 (j : Int)) (by simp [go_sem, hc, hf, hgl, ↓IntWalk.iteOmega, a8, *]) rfl
        · refine relStep_plain rfl ?_
          intro Ac w5 hp
          have hb := hp.bel
          have a33 : Ac.eval (.tmp 33) = .slice (some ⟨g, o, none⟩) n1 c1 := hp.dep 1 (by kernel_rfl)
          have a34 : Ac.eval (.tmp 34) = .int .i64 (j : Int) := hp.dep 2 (by kernel_rfl)
          have hc := evalC Ac; have hf := evalF Ac; have hgl := evalG Ac
          obtain ⟨ρ, hρ⟩ : ∃ ρ, Ac.eval = ρ := ⟨_, rfl⟩
          rw [hρ] at a33 a34 hc hf hgl
          exact relPure hρ (.pointer (some ⟨g, o + j * 2, none⟩)) (by simp [go_sem, hc, hf, hgl, ↓IntWalk.iteOmega, a33, a34, *]) rfl
        · refine relStep_plain rfl ?_
          intro Ac w5 hp
          have hb := hp.bel
          have a35 : Ac.eval (.tmp 35) = .pointer (some ⟨g, o + j * 2, none⟩) := hp.dep 3 (by kernel_rfl)
          have hS := HS5.out.below hb
          have x0 := hS.bl.cell 0
          have x1 := hS.bl.cell 1
          have z0 := HC0.out w5 hb
          have z1 := HC1.out w5 hb
          clear hS
          have hc := evalC Ac; have hf := evalF Ac; have hgl := evalG Ac
          obtain ⟨ρ, hρ⟩ : ∃ ρ, Ac.eval = ρ := ⟨_, rfl⟩
          rw [hρ] at a35 hc hf hgl
          exact relPure hρ (.agg #[.bool b, .slice B6 m6 d6]) (by simp [go_sem, hc, hf, hgl, ↓IntWalk.iteOmega, a35, *]) rfl
        · refine relStep_plain rfl ?_
          intro Ac w5 hp
          have hb := hp.bel
          have a36 : Ac.eval (.tmp 36) = .agg #[.bool b, .slice B6 m6 d6] := hp.dep 4 (by kernel_rfl)
          have hc := evalC Ac; have hf := evalF Ac; have hgl := evalG Ac
          obtain ⟨ρ, hρ⟩ : ∃ ρ, Ac.eval = ρ := ⟨_, rfl⟩
          rw [hρ] at a36 hc hf hgl
          refine relCall hρ 11 #[.agg #[.bool b, .slice B6 m6 d6]] (by simp [go_sem, hc, hf, hgl, ↓IntWalk.iteOmega, a36, *]) ?_
          refine (HRu.out w5 hb).mono ?_
          rintro e w6 ⟨A6, n6, c6, rfl, hu6, hb6⟩
          exact ⟨_, rfl, ⟨A6, n6, c6, rfl, hu6⟩, hb6⟩
        · refine relStep_plain rfl ?_
          intro Ac w5 hp
          have hb := hp.bel
          have a1 : Ac.eval (.tmp 1) = .slice (some ⟨gB, oB, none⟩) mB dB := hp.out 1 (by rfl)
          have hc := evalC Ac; have hf := evalF Ac; have hgl := evalG Ac
          obtain ⟨ρ, hρ⟩ : ∃ ρ, Ac.eval = ρ := ⟨_, rfl⟩
          rw [hρ] at a1 hc hf hgl
          exact relPure hρ (.slice (some ⟨gB, oB, none⟩) mB dB) (by simp [go_sem, hc, hf, hgl, ↓IntWalk.iteOmega, a1, *]) rfl
        · refine relStep_plain rfl ?_
          intro Ac w5 hp
          have hb := hp.bel
          have a38 : Ac.eval (.tmp 38) = .slice (some ⟨gB, oB, none⟩) mB dB := hp.dep 6 (by kernel_rfl)
          have hc := evalC Ac; have hf := evalF Ac; have hgl := evalG Ac
          obtain ⟨ρ, hρ⟩ : ∃ ρ, Ac.eval = ρ := ⟨_, rfl⟩
          rw [hρ] at a38 hc hf hgl
          refine relCall hρ 7 #[.slice (some ⟨gB, oB, none⟩) mB dB, .int .i64 30] (by simp [go_sem, hc, hf, hgl, ↓IntWalk.iteOmega, a38, *]) ?_
          refine (HFw.out w5 hb).mono ?_
          rintro e w6 ⟨A6, n6, c6, rfl, hu6, hn6, hb6⟩
          exact ⟨_, rfl, ⟨A6, n6, c6, rfl, hu6, hn6⟩, hb6⟩
        · refine relStep_plain rfl ?_
          intro Ac w5 hp
          have hb := hp.bel
          obtain ⟨A3, n3, c3, a37, hu3⟩ := hp.dep 5 (by kernel_rfl)
          change Ac.eval (.tmp 37) = _ at a37
          obtain ⟨A4, n4, c4, a39, hu4, hn4⟩ := hp.dep 7 (by kernel_rfl)
          change Ac.eval (.tmp 39) = _ at a39
          have hc := evalC Ac; have hf := evalF Ac; have hgl := evalG Ac
          obtain ⟨ρ, hρ⟩ : ∃ ρ, Ac.eval = ρ := ⟨_, rfl⟩
          rw [hρ] at a37 a39 hc hf hgl
          refine relCall hρ 10 #[.agg #[.bool b, .slice A3 n3 c3], .slice A4 n4 c4] (by simp [go_sem, hc, hf, hgl, ↓IntWalk.iteOmega, a37, a39, *]) ?_
          refine (HHi.out A3 n3 c3 A4 n4 c4 w5 hu3 hu4 hn4).mono ?_
          rintro e w6 ⟨rfl, hb6⟩
          exact ⟨_, rfl, rfl, hb6⟩
        · refine relStep_plain rfl ?_
          intro Ac w5 hp
          have hb := hp.bel
          have a2 : Ac.eval (.tmp 2) = .pointer (some ⟨w.heap.size, 0, none⟩) := hp.out 2 (by rfl)
          have hc := evalC Ac; have hf := evalF Ac; have hgl := evalG Ac
          obtain ⟨ρ, hρ⟩ : ∃ ρ, Ac.eval = ρ := ⟨_, rfl⟩
          rw [hρ] at a2 hc hf hgl
          exact relPure hρ (.pointer (some ⟨w.heap.size, 1, none⟩)) (by simp [go_sem, hc, hf, hgl, ↓IntWalk.iteOmega, a2, *]) rfl
        · refine relStep_plain rfl ?_
          intro Ac w5 hp
          have hb := hp.bel
          have a41 : Ac.eval (.tmp 41) = .pointer (some ⟨w.heap.size, 1, none⟩) := hp.dep 9 (by kernel_rfl)
          have hS := HS5.out.below hb
          have x0 := hS.bl.cell 0
          have x1 := hS.bl.cell 1
          have z0 := HC0.out w5 hb
          have z1 := HC1.out w5 hb
          clear hS
          have hc := evalC Ac; have hf := evalF Ac; have hgl := evalG Ac
          obtain ⟨ρ, hρ⟩ : ∃ ρ, Ac.eval = ρ := ⟨_, rfl⟩
          rw [hρ] at a41 hc hf hgl
          exact relPure hρ (.slice (some ⟨g, o, none⟩) n1 c1) (by simp [go_sem, hc, hf, hgl, ↓IntWalk.iteOmega, a41, *]) rfl
        · refine relStep_plain rfl ?_
          intro Ac w5 hp
          have hb := hp.bel
          have a8 : Ac.eval (.tmp 8) = .int .i64 (j : Int) := hp.out 8 (by rfl)
          have hc := evalC Ac; have hf := evalF Ac; have hgl := evalG Ac
          obtain ⟨ρ, hρ⟩ : ∃ ρ, Ac.eval = ρ := ⟨_, rfl⟩
          rw [hρ] at a8 hc hf hgl
          exact relPure hρ (.int .i64 (j : Int)) (by simp [go_sem, hc, hf, hgl, ↓IntWalk.iteOmega, a8, *]) rfl
        · refine relStep_plain rfl ?_
          intro Ac w5 hp
          have hb := hp.bel
          have a42 : Ac.eval (.tmp 42) = .slice (some ⟨g, o, none⟩) n1 c1 := hp.dep 10 (by kernel_rfl)
          have a43 : Ac.eval (.tmp 43) = .int .i64 (j : Int) := hp.dep 11 (by kernel_rfl)
          have hc := evalC Ac; have hf := evalF Ac; have hgl := evalG Ac
          obtain ⟨ρ, hρ⟩ : ∃ ρ, Ac.eval = ρ := ⟨_, rfl⟩
          rw [hρ] at a42 a43 hc hf hgl
          exact relPure hρ (.pointer (some ⟨g, o + j * 2, none⟩)) (by simp [go_sem, hc, hf, hgl, ↓IntWalk.iteOmega, a42, a43, *]) rfl
        · refine relStep_plain rfl ?_
          intro Ac w5 hp
          have hb := hp.bel
          have a44 : Ac.eval (.tmp 44) = .pointer (some ⟨g, o + j * 2, none⟩) := hp.dep 12 (by kernel_rfl)
          have hS := HS5.out.below hb
          have x0 := hS.bl.cell 0
          have x1 := hS.bl.cell 1
          have z0 := HC0.out w5 hb
          have z1 := HC1.out w5 hb
          clear hS
          have hc := evalC Ac; have hf := evalF Ac; have hgl := evalG Ac
          obtain ⟨ρ, hρ⟩ : ∃ ρ, Ac.eval = ρ := ⟨_, rfl⟩
          rw [hρ] at a44 hc hf hgl
          exact relPure hρ (.agg #[.bool b, .slice B6 m6 d6]) (by simp [go_sem, hc, hf, hgl, ↓IntWalk.iteOmega, a44, *]) rfl
        · refine relStep_plain rfl ?_
          intro Ac w5 hp
          have hb := hp.bel
          have a1 : Ac.eval (.tmp 1) = .slice (some ⟨gB, oB, none⟩) mB dB := hp.out 1 (by rfl)
          have hc := evalC Ac; have hf := evalF Ac; have hgl := evalG Ac
          obtain ⟨ρ, hρ⟩ : ∃ ρ, Ac.eval = ρ := ⟨_, rfl⟩
          rw [hρ] at a1 hc hf hgl
          exact relPure hρ (.slice (some ⟨gB, oB, none⟩) mB dB) (by simp [go_sem, hc, hf, hgl, ↓IntWalk.iteOmega, a1, *]) rfl
        · refine relStep_plain rfl ?_
          intro Ac w5 hp
          have hb := hp.bel
          have a45 : Ac.eval (.tmp 45) = .agg #[.bool b, .slice B6 m6 d6] := hp.dep 13 (by kernel_rfl)
          have a46 : Ac.eval (.tmp 46) = .slice (some ⟨gB, oB, none⟩) mB dB := hp.dep 14 (by kernel_rfl)
          have hc := evalC Ac; have hf := evalF Ac; have hgl := evalG Ac
          obtain ⟨ρ, hρ⟩ : ∃ ρ, Ac.eval = ρ := ⟨_, rfl⟩
          rw [hρ] at a45 a46 hc hf hgl
          refine relCall hρ 12 #[.agg #[.bool b, .slice B6 m6 d6], .slice (some ⟨gB, oB, none⟩) mB dB] (by simp [go_sem, hc, hf, hgl, ↓IntWalk.iteOmega, a45, a46, *]) ?_
          refine (HRH.out w5 hb).mono ?_
          rintro e w6 ⟨rfl, hb6⟩
          exact ⟨_, rfl, rfl, hb6⟩
        · refine relStep_plain rfl ?_
          intro Ac w5 hp
          have hb := hp.bel
          have a40 : Ac.eval (.tmp 40) = .bool q := hp.dep 8 (by kernel_rfl)
          have a47 : Ac.eval (.tmp 47) = .bool q := hp.dep 15 (by kernel_rfl)
          have hc := evalC Ac; have hf := evalF Ac; have hgl := evalG Ac
          obtain ⟨ρ, hρ⟩ : ∃ ρ, Ac.eval = ρ := ⟨_, rfl⟩
          rw [hρ] at a40 a47 hc hf hgl
          exact relPure hρ (.bool false) (by simp [go_sem, hc, hf, hgl, ↓IntWalk.iteOmega, a40, a47, *]) rfl
        intro u w8 hb7 hall
        have e48 : u 16 = .bool false := relAll_at hall (i := 16) (by decide +kernel)
        clear hall
        simp only [List.drop_succ_cons, List.drop_zero, List.take_succ_cons, List.take_zero, putAll, Act.put, List.setIfInBounds_toArray, List.set_cons_zero, List.set_cons_succ, Nat.zero_add, Nat.reduceAdd, e48]
        --E4B
        have HE := hide (HB5.out.trans (hb7.mono hsz))
        clear hb7
        go_wp2
        go_roundw
        case rel => exact ⟨j + 1, by omega, by go_num, HE.out⟩
        case measure => simp [intOf]; omega
      · obtain rfl : j = n1 := by omega
        have x0 := HS5.out.bl.cell 0
        have x1 := HS5.out.bl.cell 1
        go_wp2
        have HF := hide (fun (W : World) (hb : Below wr.heap.size wr W) => by have := cFewL_any s A1 j c1 L W (HS5.out.below hb).ls; rw [HLl.out] at this; exact this)
        have HFw := hide (fun (W : World) (hb : Below wr.heap.size wr W) => by have := fewM_any (some ⟨gB, oB, none⟩) mB dB C 30 (by decide) W (HS5.out.below hb).ps; rw [HC30.out] at this; exact this)
        have HG := hide (fun (A : Option Addr) (n c : Nat) (W : World) (h : LstAt 2 crR W A n c L) => cGood_any s A n c L W h HS.out)
        have HRG := hide (fun (W : World) (hb : Below wr.heap.size wr W) => refCGood_any s A1 j c1 L W (HS5.out.below hb).ls HS.out (fun x hx => by have := HL34.out x hx; omega))
        have HPm := hide (fun (A : Option Addr) (n c : Nat) (B : Option Addr) (m d : Nat) (W : World) (h : LstAt 2 crR W A n c L) (hu : U32s W B m d C) (hm : m ≤ 30) => cPermits_any s A n c L B m d C W h hu HCr.out (by omega))
        have HRP := hide (fun (W : World) (hb : Below wr.heap.size wr W) => refCPermits_any s A1 j c1 L (some ⟨gB, oB, none⟩) mB dB C W (HS5.out.below hb).ls (HS5.out.below hb).ps)
        have HLv := hide (fun (W : World) (hb : Below wr.heap.size wr W) => clives19_any W (HS5.out.below hb).env)
        obtain ⟨G, hG⟩ : ∃ G, cgoodL s L = G := ⟨_, rfl⟩
        obtain ⟨Pm, hPm⟩ : ∃ Pm, crPerm (chitP C) L = Pm := ⟨_, rfl⟩
        rw [hG] at HG HRG
        rw [hPm] at HPm HRP
        clear hG hPm
        --R5B
        refine wp_region_rel [(fun v _ => v = .agg #[.string s, .slice A1 j c1]), (fun v w => ∃ A n c, v = .agg #[.string s, .slice A n c] ∧ LstAt 2 crR w A n c L), (fun v _ => v = .bool G), (fun v _ => v = .agg #[.string s, .slice A1 j c1]), (fun v _ => v = .bool G), (fun v _ => v = .bool true), (fun v _ => v = .bool true), (fun v _ => v = .agg #[.string s, .slice A1 j c1]), (fun v w => ∃ A n c, v = .agg #[.string s, .slice A n c] ∧ LstAt 2 crR w A n c L), (fun v _ => v = .slice (some ⟨gB, oB, none⟩) mB dB), (fun v w => ∃ A n c, v = .slice A n c ∧ U32s w A n c C ∧ n ≤ 30), (fun v _ => v = .bool Pm), (fun v _ => v = .agg #[.string s, .slice A1 j c1]), (fun v _ => v = .slice (some ⟨gB, oB, none⟩) mB dB), (fun v _ => v = .bool Pm), (fun v _ => v = .bool true), (fun v _ => v = .bool true), (fun v _ => v = .bool true), (fun v _ => v = .bool true), (fun v _ => v = .int .i64 (k : Int)), (fun v _ => v = .bool true), (fun v _ => v = .bool true), (fun v _ => v = .bool true), (fun v _ => v = .bool true), (fun v _ => v = .bool true), (fun v _ => v = .bool true), (fun v _ => v = .int .i64 (k : Int)), (fun v _ => v = .int .i64 (k : Int)), (fun v _ => v = .bool true), (fun v _ => v = .bool true), (fun v _ => v = .bool true), (fun v _ => v = undef), (fun v _ => v = undef), (fun v _ => v = undef), (fun v _ => v = undef), (fun v _ => v = undef), (fun v _ => v = undef), (fun v _ => v = .bool true), (fun v _ => v = .bool true), (fun v _ => v = .bool true), (fun v _ => v = .bool true), (fun v _ => v = .bool true), (fun v _ => v = .bool true)] (by kernel_rfl) (by kernel_rfl) (relMono _ ⟨fun _ _ _ _ h => h, fun v w w2 hb ⟨A, n, c, e, h⟩ => ⟨A, n, c, e, h.below crMono hb⟩, fun _ _ _ _ h => h, fun _ _ _ _ h => h, fun _ _ _ _ h => h, fun _ _ _ _ h => h, fun _ _ _ _ h => h, fun _ _ _ _ h => h, fun v w w2 hb ⟨A, n, c, e, h⟩ => ⟨A, n, c, e, h.below crMono hb⟩, fun _ _ _ _ h => h, fun v w w2 hb ⟨A, n, c, e, h, hn⟩ => ⟨A, n, c, e, h.below hb, hn⟩, fun _ _ _ _ h => h, fun _ _ _ _ h => h, fun _ _ _ _ h => h, fun _ _ _ _ h => h, fun _ _ _ _ h => h, fun _ _ _ _ h => h, fun _ _ _ _ h => h, fun _ _ _ _ h => h, fun _ _ _ _ h => h, fun _ _ _ _ h => h, fun _ _ _ _ h => h, fun _ _ _ _ h => h, fun _ _ _ _ h => h, fun _ _ _ _ h => h, fun _ _ _ _ h => h, fun _ _ _ _ h => h, fun _ _ _ _ h => h, fun _ _ _ _ h => h, fun _ _ _ _ h => h, fun _ _ _ _ h => h, fun _ _ _ _ h => h, fun _ _ _ _ h => h, fun _ _ _ _ h => h, fun _ _ _ _ h => h, fun _ _ _ _ h => h, fun _ _ _ _ h => h, fun _ _ _ _ h => h, fun _ _ _ _ h => h, fun _ _ _ _ h => h, fun _ _ _ _ h => h, fun _ _ _ _ h => h, fun _ _ _ _ h => h, trivial⟩) ⟨?_, ?_, ?_, ?_, ?_, ?_, ?_, ?_, ?_, ?_, ?_, ?_, ?_, ?_, ?_, ?_, ?_, ?_, ?_, ?_, ?_, ?_, ?_, ?_, ?_, ?_, ?_, ?_, ?_, ?_, ?_, ?_, ?_, ?_, ?_, ?_, ?_, ?_, ?_, ?_, ?_, ?_, ?_, trivial⟩ ?_
        · refine relStep_plain rfl ?_
          intro Ac w5 hp
          have hb := hp.bel
          have a2 : Ac.eval (.tmp 2) = .pointer (some ⟨w.heap.size, 0, none⟩) := hp.out 2 (by rfl)
          have hS := HS5.out.below hb
          have x0 := hS.bl.cell 0
          have x1 := hS.bl.cell 1
          clear hS
          have hc := evalC Ac; have hf := evalF Ac; have hgl := evalG Ac
          obtain ⟨ρ, hρ⟩ : ∃ ρ, Ac.eval = ρ := ⟨_, rfl⟩
          rw [hρ] at a2 hc hf hgl
          exact relPure hρ (.agg #[.string s, .slice A1 j c1]) (by simp [go_sem, hc, hf, hgl, ↓IntWalk.iteOmega, a2, *]) rfl
        · refine relStep_plain rfl ?_
          intro Ac w5 hp
          have hb := hp.bel
          have a49 : Ac.eval (.tmp 49) = .agg #[.string s, .slice A1 j c1] := hp.dep 0 (by kernel_rfl)
          have hc := evalC Ac; have hf := evalF Ac; have hgl := evalG Ac
          obtain ⟨ρ, hρ⟩ : ∃ ρ, Ac.eval = ρ := ⟨_, rfl⟩
          rw [hρ] at a49 hc hf hgl
          refine relCall hρ 5 #[.agg #[.string s, .slice A1 j c1]] (by simp [go_sem, hc, hf, hgl, ↓IntWalk.iteOmega, a49, *]) ?_
          refine (HF.out w5 hb).mono ?_
          rintro e w6 ⟨A6, n6, c6, rfl, hl6, hb6⟩
          exact ⟨_, rfl, ⟨A6, n6, c6, rfl, hl6⟩, hb6⟩
        · refine relStep_plain rfl ?_
          intro Ac w5 hp
          have hb := hp.bel
          obtain ⟨A3, n3, c3, a50, hl3⟩ := hp.dep 1 (by kernel_rfl)
          change Ac.eval (.tmp 50) = _ at a50
          have hc := evalC Ac; have hf := evalF Ac; have hgl := evalG Ac
          obtain ⟨ρ, hρ⟩ : ∃ ρ, Ac.eval = ρ := ⟨_, rfl⟩
          rw [hρ] at a50 hc hf hgl
          refine relCall hρ 13 #[.agg #[.string s, .slice A3 n3 c3]] (by simp [go_sem, hc, hf, hgl, ↓IntWalk.iteOmega, a50, *]) ?_
          refine (HG.out A3 n3 c3 w5 hl3).mono ?_
          rintro e w6 ⟨rfl, hb6⟩
          exact ⟨_, rfl, rfl, hb6⟩
        · refine relStep_plain rfl ?_
          intro Ac w5 hp
          have hb := hp.bel
          have a2 : Ac.eval (.tmp 2) = .pointer (some ⟨w.heap.size, 0, none⟩) := hp.out 2 (by rfl)
          have hS := HS5.out.below hb
          have x0 := hS.bl.cell 0
          have x1 := hS.bl.cell 1
          clear hS
          have hc := evalC Ac; have hf := evalF Ac; have hgl := evalG Ac
          obtain ⟨ρ, hρ⟩ : ∃ ρ, Ac.eval = ρ := ⟨_, rfl⟩
          rw [hρ] at a2 hc hf hgl
          exact relPure hρ (.agg #[.string s, .slice A1 j c1]) (by simp [go_sem, hc, hf, hgl, ↓IntWalk.iteOmega, a2, *]) rfl
        · refine relStep_plain rfl ?_
          intro Ac w5 hp
          have hb := hp.bel
          have a52 : Ac.eval (.tmp 52) = .agg #[.string s, .slice A1 j c1] := hp.dep 3 (by kernel_rfl)
          have hc := evalC Ac; have hf := evalF Ac; have hgl := evalG Ac
          obtain ⟨ρ, hρ⟩ : ∃ ρ, Ac.eval = ρ := ⟨_, rfl⟩
          rw [hρ] at a52 hc hf hgl
          refine relCall hρ 14 #[.agg #[.string s, .slice A1 j c1]] (by simp [go_sem, hc, hf, hgl, ↓IntWalk.iteOmega, a52, *]) ?_
          refine (HRG.out w5 hb).mono ?_
          rintro e w6 ⟨rfl, hb6⟩
          exact ⟨_, rfl, rfl, hb6⟩
        · refine relStep_plain rfl ?_
          intro Ac w5 hp
          have hb := hp.bel
          have a51 : Ac.eval (.tmp 51) = .bool G := hp.dep 2 (by kernel_rfl)
          have a53 : Ac.eval (.tmp 53) = .bool G := hp.dep 4 (by kernel_rfl)
          have hc := evalC Ac; have hf := evalF Ac; have hgl := evalG Ac
          obtain ⟨ρ, hρ⟩ : ∃ ρ, Ac.eval = ρ := ⟨_, rfl⟩
          rw [hρ] at a51 a53 hc hf hgl
          exact relPure hρ (.bool true) (by simp [go_sem, hc, hf, hgl, ↓IntWalk.iteOmega, a51, a53, *]) rfl
        · refine relStep_plain rfl ?_
          intro Ac w5 hp
          have hb := hp.bel
          have a54 : Ac.eval (.tmp 54) = .bool true := hp.dep 5 (by kernel_rfl)
          have hc := evalC Ac; have hf := evalF Ac; have hgl := evalG Ac
          obtain ⟨ρ, hρ⟩ : ∃ ρ, Ac.eval = ρ := ⟨_, rfl⟩
          rw [hρ] at a54 hc hf hgl
          exact relPure hρ (.bool true) (by simp [go_sem, hc, hf, hgl, ↓IntWalk.iteOmega, a54, *]) rfl
        · refine relStep_guard (g := 6) (b := true) (x := true) rfl (by kernel_rfl) rfl (by kernel_rfl) rfl (fun _ _ h => h) ?_
          intro Ac w5 hp
          have hb := hp.bel
          have a2 : Ac.eval (.tmp 2) = .pointer (some ⟨w.heap.size, 0, none⟩) := hp.out 2 (by rfl)
          have hS := HS5.out.below hb
          have x0 := hS.bl.cell 0
          have x1 := hS.bl.cell 1
          clear hS
          have hc := evalC Ac; have hf := evalF Ac; have hgl := evalG Ac
          obtain ⟨ρ, hρ⟩ : ∃ ρ, Ac.eval = ρ := ⟨_, rfl⟩
          rw [hρ] at a2 hc hf hgl
          exact relPure hρ (.agg #[.string s, .slice A1 j c1]) (by simp [go_sem, hc, hf, hgl, ↓IntWalk.iteOmega, a2, *]) rfl
        · refine relStep_guard (g := 6) (b := true) (x := true) rfl (by kernel_rfl) rfl (by kernel_rfl) rfl (fun _ _ h => h) ?_
          intro Ac w5 hp
          have hb := hp.bel
          have a56 : Ac.eval (.tmp 56) = .agg #[.string s, .slice A1 j c1] := hp.dep 7 (by kernel_rfl)
          have hc := evalC Ac; have hf := evalF Ac; have hgl := evalG Ac
          obtain ⟨ρ, hρ⟩ : ∃ ρ, Ac.eval = ρ := ⟨_, rfl⟩
          rw [hρ] at a56 hc hf hgl
          refine relCall hρ 5 #[.agg #[.string s, .slice A1 j c1]] (by simp [go_sem, hc, hf, hgl, ↓IntWalk.iteOmega, a56, *]) ?_
          refine (HF.out w5 hb).mono ?_
          rintro e w6 ⟨A6, n6, c6, rfl, hl6, hb6⟩
          exact ⟨_, rfl, ⟨A6, n6, c6, rfl, hl6⟩, hb6⟩
        · refine relStep_guard (g := 6) (b := true) (x := true) rfl (by kernel_rfl) rfl (by kernel_rfl) rfl (fun _ _ h => h) ?_
          intro Ac w5 hp
          have hb := hp.bel
          have a1 : Ac.eval (.tmp 1) = .slice (some ⟨gB, oB, none⟩) mB dB := hp.out 1 (by rfl)
          have hc := evalC Ac; have hf := evalF Ac; have hgl := evalG Ac
          obtain ⟨ρ, hρ⟩ : ∃ ρ, Ac.eval = ρ := ⟨_, rfl⟩
          rw [hρ] at a1 hc hf hgl
          exact relPure hρ (.slice (some ⟨gB, oB, none⟩) mB dB) (by simp [go_sem, hc, hf, hgl, ↓IntWalk.iteOmega, a1, *]) rfl
        · refine relStep_guard (g := 6) (b := true) (x := true) rfl (by kernel_rfl) rfl (by kernel_rfl) rfl (fun _ _ h => h) ?_
          intro Ac w5 hp
          have hb := hp.bel
          have a58 : Ac.eval (.tmp 58) = .slice (some ⟨gB, oB, none⟩) mB dB := hp.dep 9 (by kernel_rfl)
          have hc := evalC Ac; have hf := evalF Ac; have hgl := evalG Ac
          obtain ⟨ρ, hρ⟩ : ∃ ρ, Ac.eval = ρ := ⟨_, rfl⟩
          rw [hρ] at a58 hc hf hgl
          refine relCall hρ 7 #[.slice (some ⟨gB, oB, none⟩) mB dB, .int .i64 30] (by simp [go_sem, hc, hf, hgl, ↓IntWalk.iteOmega, a58, *]) ?_
          refine (HFw.out w5 hb).mono ?_
          rintro e w6 ⟨A6, n6, c6, rfl, hu6, hn6, hb6⟩
          exact ⟨_, rfl, ⟨A6, n6, c6, rfl, hu6, hn6⟩, hb6⟩
        · refine relStep_guard (g := 6) (b := true) (x := true) rfl (by kernel_rfl) rfl (by kernel_rfl) rfl (fun _ _ h => h) ?_
          intro Ac w5 hp
          have hb := hp.bel
          obtain ⟨A4, n4, c4, a57, hl4⟩ := hp.dep 8 (by kernel_rfl)
          change Ac.eval (.tmp 57) = _ at a57
          obtain ⟨A5, n5, c5, a59, hu5, hn5⟩ := hp.dep 10 (by kernel_rfl)
          change Ac.eval (.tmp 59) = _ at a59
          have hc := evalC Ac; have hf := evalF Ac; have hgl := evalG Ac
          obtain ⟨ρ, hρ⟩ : ∃ ρ, Ac.eval = ρ := ⟨_, rfl⟩
          rw [hρ] at a57 a59 hc hf hgl
          refine relCall hρ 15 #[.agg #[.string s, .slice A4 n4 c4], .slice A5 n5 c5] (by simp [go_sem, hc, hf, hgl, ↓IntWalk.iteOmega, a57, a59, *]) ?_
          refine (HPm.out A4 n4 c4 A5 n5 c5 w5 hl4 hu5 hn5).mono ?_
          rintro e w6 ⟨rfl, hb6⟩
          exact ⟨_, rfl, rfl, hb6⟩
        · refine relStep_guard (g := 6) (b := true) (x := true) rfl (by kernel_rfl) rfl (by kernel_rfl) rfl (fun _ _ h => h) ?_
          intro Ac w5 hp
          have hb := hp.bel
          have a2 : Ac.eval (.tmp 2) = .pointer (some ⟨w.heap.size, 0, none⟩) := hp.out 2 (by rfl)
          have hS := HS5.out.below hb
          have x0 := hS.bl.cell 0
          have x1 := hS.bl.cell 1
          clear hS
          have hc := evalC Ac; have hf := evalF Ac; have hgl := evalG Ac
          obtain ⟨ρ, hρ⟩ : ∃ ρ, Ac.eval = ρ := ⟨_, rfl⟩
          rw [hρ] at a2 hc hf hgl
          exact relPure hρ (.agg #[.string s, .slice A1 j c1]) (by simp [go_sem, hc, hf, hgl, ↓IntWalk.iteOmega, a2, *]) rfl
        · refine relStep_guard (g := 6) (b := true) (x := true) rfl (by kernel_rfl) rfl (by kernel_rfl) rfl (fun _ _ h => h) ?_
          intro Ac w5 hp
          have hb := hp.bel
          have a1 : Ac.eval (.tmp 1) = .slice (some ⟨gB, oB, none⟩) mB dB := hp.out 1 (by rfl)
          have hc := evalC Ac; have hf := evalF Ac; have hgl := evalG Ac
          obtain ⟨ρ, hρ⟩ : ∃ ρ, Ac.eval = ρ := ⟨_, rfl⟩
          rw [hρ] at a1 hc hf hgl
          exact relPure hρ (.slice (some ⟨gB, oB, none⟩) mB dB) (by simp [go_sem, hc, hf, hgl, ↓IntWalk.iteOmega, a1, *]) rfl
        · refine relStep_guard (g := 6) (b := true) (x := true) rfl (by kernel_rfl) rfl (by kernel_rfl) rfl (fun _ _ h => h) ?_
          intro Ac w5 hp
          have hb := hp.bel
          have a61 : Ac.eval (.tmp 61) = .agg #[.string s, .slice A1 j c1] := hp.dep 12 (by kernel_rfl)
          have a62 : Ac.eval (.tmp 62) = .slice (some ⟨gB, oB, none⟩) mB dB := hp.dep 13 (by kernel_rfl)
          have hc := evalC Ac; have hf := evalF Ac; have hgl := evalG Ac
          obtain ⟨ρ, hρ⟩ : ∃ ρ, Ac.eval = ρ := ⟨_, rfl⟩
          rw [hρ] at a61 a62 hc hf hgl
          refine relCall hρ 16 #[.agg #[.string s, .slice A1 j c1], .slice (some ⟨gB, oB, none⟩) mB dB] (by simp [go_sem, hc, hf, hgl, ↓IntWalk.iteOmega, a61, a62, *]) ?_
          refine (HRP.out w5 hb).mono ?_
          rintro e w6 ⟨rfl, hb6⟩
          exact ⟨_, rfl, rfl, hb6⟩
        · refine relStep_guard (g := 6) (b := true) (x := true) rfl (by kernel_rfl) rfl (by kernel_rfl) rfl (fun _ _ h => h) ?_
          intro Ac w5 hp
          have hb := hp.bel
          have a60 : Ac.eval (.tmp 60) = .bool Pm := hp.dep 11 (by kernel_rfl)
          have a63 : Ac.eval (.tmp 63) = .bool Pm := hp.dep 14 (by kernel_rfl)
          have hc := evalC Ac; have hf := evalF Ac; have hgl := evalG Ac
          obtain ⟨ρ, hρ⟩ : ∃ ρ, Ac.eval = ρ := ⟨_, rfl⟩
          rw [hρ] at a60 a63 hc hf hgl
          exact relPure hρ (.bool true) (by simp [go_sem, hc, hf, hgl, ↓IntWalk.iteOmega, a60, a63, *]) rfl
        · refine relStep_plain rfl ?_
          intro Ac w5 hp
          have hb := hp.bel
          have a55 : Ac.eval (.tmp 55) = .bool true := hp.dep 6 (by kernel_rfl)
          have a64 : Ac.eval (.tmp 64) = .bool true := hp.dep 15 (by kernel_rfl)
          have hc := evalC Ac; have hf := evalF Ac; have hgl := evalG Ac
          obtain ⟨ρ, hρ⟩ : ∃ ρ, Ac.eval = ρ := ⟨_, rfl⟩
          rw [hρ] at a55 a64 hc hf hgl
          exact relPure hρ (.bool true) (by simp [go_sem, hc, hf, hgl, ↓IntWalk.iteOmega, a55, a64, *]) rfl
        · refine relStep_plain rfl ?_
          intro Ac w5 hp
          have hb := hp.bel
          have a65 : Ac.eval (.tmp 65) = .bool true := hp.dep 16 (by kernel_rfl)
          have hc := evalC Ac; have hf := evalF Ac; have hgl := evalG Ac
          obtain ⟨ρ, hρ⟩ : ∃ ρ, Ac.eval = ρ := ⟨_, rfl⟩
          rw [hρ] at a65 hc hf hgl
          exact relPure hρ (.bool true) (by simp [go_sem, hc, hf, hgl, ↓IntWalk.iteOmega, a65, *]) rfl
        · refine relStep_guard (g := 17) (b := true) (x := true) rfl (by kernel_rfl) rfl (by kernel_rfl) rfl (fun _ _ h => h) ?_
          intro Ac w5 hp
          have hb := hp.bel
          have a7 : Ac.eval (.tmp 7) = .bool true := hp.out 7 (by rfl)
          have hc := evalC Ac; have hf := evalF Ac; have hgl := evalG Ac
          obtain ⟨ρ, hρ⟩ : ∃ ρ, Ac.eval = ρ := ⟨_, rfl⟩
          rw [hρ] at a7 hc hf hgl
          exact relPure hρ (.bool true) (by simp [go_sem, hc, hf, hgl, ↓IntWalk.iteOmega, a7, *]) rfl
        · refine relStep_guard (g := 17) (b := true) (x := true) rfl (by kernel_rfl) rfl (by kernel_rfl) rfl (fun _ _ h => h) ?_
          intro Ac w5 hp
          have hb := hp.bel
          have a5 : Ac.eval (.tmp 5) = .int .i64 (k : Int) := hp.out 5 (by rfl)
          have hc := evalC Ac; have hf := evalF Ac; have hgl := evalG Ac
          obtain ⟨ρ, hρ⟩ : ∃ ρ, Ac.eval = ρ := ⟨_, rfl⟩
          rw [hρ] at a5 hc hf hgl
          exact relPure hρ (.int .i64 (k : Int)) (by simp [go_sem, hc, hf, hgl, ↓IntWalk.iteOmega, a5, *]) rfl
        · refine relStep_guard (g := 17) (b := true) (x := true) rfl (by kernel_rfl) rfl (by kernel_rfl) rfl (fun _ _ h => h) ?_
          intro Ac w5 hp
          have hb := hp.bel
          have a68 : Ac.eval (.tmp 68) = .int .i64 (k : Int) := hp.dep 19 (by kernel_rfl)
          have hc := evalC Ac; have hf := evalF Ac; have hgl := evalG Ac
          obtain ⟨ρ, hρ⟩ : ∃ ρ, Ac.eval = ρ := ⟨_, rfl⟩
          rw [hρ] at a68 hc hf hgl
          exact relPure hρ (.bool true) (by simp [go_sem, hc, hf, hgl, ↓IntWalk.iteOmega, a68, *]) rfl
        · refine relStep_guard (g := 17) (b := true) (x := true) rfl (by kernel_rfl) rfl (by kernel_rfl) rfl (fun _ _ h => h) ?_
          intro Ac w5 hp
          have hb := hp.bel
          have a67 : Ac.eval (.tmp 67) = .bool true := hp.dep 18 (by kernel_rfl)
          have a69 : Ac.eval (.tmp 69) = .bool true := hp.dep 20 (by kernel_rfl)
          have hc := evalC Ac; have hf := evalF Ac; have hgl := evalG Ac
          obtain ⟨ρ, hρ⟩ : ∃ ρ, Ac.eval = ρ := ⟨_, rfl⟩
          rw [hρ] at a67 a69 hc hf hgl
          exact relPure hρ (.bool true) (by simp [go_sem, hc, hf, hgl, ↓IntWalk.iteOmega, a67, a69, *]) rfl
        · refine relStep_plain rfl ?_
          intro Ac w5 hp
          have hb := hp.bel
          have a66 : Ac.eval (.tmp 66) = .bool true := hp.dep 17 (by kernel_rfl)
          have a70 : Ac.eval (.tmp 70) = .bool true := hp.dep 21 (by kernel_rfl)
          have hc := evalC Ac; have hf := evalF Ac; have hgl := evalG Ac
          obtain ⟨ρ, hρ⟩ : ∃ ρ, Ac.eval = ρ := ⟨_, rfl⟩
          rw [hρ] at a66 a70 hc hf hgl
          exact relPure hρ (.bool true) (by simp [go_sem, hc, hf, hgl, ↓IntWalk.iteOmega, a66, a70, *]) rfl
        · refine relStep_plain rfl ?_
          intro Ac w5 hp
          have hb := hp.bel
          have a71 : Ac.eval (.tmp 71) = .bool true := hp.dep 22 (by kernel_rfl)
          have hc := evalC Ac; have hf := evalF Ac; have hgl := evalG Ac
          obtain ⟨ρ, hρ⟩ : ∃ ρ, Ac.eval = ρ := ⟨_, rfl⟩
          rw [hρ] at a71 hc hf hgl
          exact relPure hρ (.bool true) (by simp [go_sem, hc, hf, hgl, ↓IntWalk.iteOmega, a71, *]) rfl
        · refine relStep_guard (g := 23) (b := true) (x := true) rfl (by kernel_rfl) rfl (by kernel_rfl) rfl (fun _ _ h => h) ?_
          intro Ac w5 hp
          have hb := hp.bel
          have a7 : Ac.eval (.tmp 7) = .bool true := hp.out 7 (by rfl)
          have hc := evalC Ac; have hf := evalF Ac; have hgl := evalG Ac
          obtain ⟨ρ, hρ⟩ : ∃ ρ, Ac.eval = ρ := ⟨_, rfl⟩
          rw [hρ] at a7 hc hf hgl
          exact relPure hρ (.bool true) (by simp [go_sem, hc, hf, hgl, ↓IntWalk.iteOmega, a7, *]) rfl
        · refine relStep_guard (g := 23) (b := true) (x := true) rfl (by kernel_rfl) rfl (by kernel_rfl) rfl (fun _ _ h => h) ?_
          intro Ac w5 hp
          have hb := hp.bel
          have a73 : Ac.eval (.tmp 73) = .bool true := hp.dep 24 (by kernel_rfl)
          have hc := evalC Ac; have hf := evalF Ac; have hgl := evalG Ac
          obtain ⟨ρ, hρ⟩ : ∃ ρ, Ac.eval = ρ := ⟨_, rfl⟩
          rw [hρ] at a73 hc hf hgl
          exact relPure hρ (.bool true) (by simp [go_sem, hc, hf, hgl, ↓IntWalk.iteOmega, a73, *]) rfl
        · refine relStep_guard (g := 25) (b := true) (x := true) rfl (by kernel_rfl) rfl (by kernel_rfl) rfl (fun _ _ h => h) ?_
          intro Ac w5 hp
          have hb := hp.bel
          have a6 : Ac.eval (.tmp 6) = .int .i64 (k : Int) := hp.out 6 (by rfl)
          have hc := evalC Ac; have hf := evalF Ac; have hgl := evalG Ac
          obtain ⟨ρ, hρ⟩ : ∃ ρ, Ac.eval = ρ := ⟨_, rfl⟩
          rw [hρ] at a6 hc hf hgl
          exact relPure hρ (.int .i64 (k : Int)) (by simp [go_sem, hc, hf, hgl, ↓IntWalk.iteOmega, a6, *]) rfl
        · refine relStep_guard (g := 25) (b := true) (x := true) rfl (by kernel_rfl) rfl (by kernel_rfl) rfl (fun _ _ h => h) ?_
          intro Ac w5 hp
          have hb := hp.bel
          have a5 : Ac.eval (.tmp 5) = .int .i64 (k : Int) := hp.out 5 (by rfl)
          have hc := evalC Ac; have hf := evalF Ac; have hgl := evalG Ac
          obtain ⟨ρ, hρ⟩ : ∃ ρ, Ac.eval = ρ := ⟨_, rfl⟩
          rw [hρ] at a5 hc hf hgl
          exact relPure hρ (.int .i64 (k : Int)) (by simp [go_sem, hc, hf, hgl, ↓IntWalk.iteOmega, a5, *]) rfl
        · refine relStep_guard (g := 25) (b := true) (x := true) rfl (by kernel_rfl) rfl (by kernel_rfl) rfl (fun _ _ h => h) ?_
          intro Ac w5 hp
          have hb := hp.bel
          have a75 : Ac.eval (.tmp 75) = .int .i64 (k : Int) := hp.dep 26 (by kernel_rfl)
          have a76 : Ac.eval (.tmp 76) = .int .i64 (k : Int) := hp.dep 27 (by kernel_rfl)
          have hc := evalC Ac; have hf := evalF Ac; have hgl := evalG Ac
          obtain ⟨ρ, hρ⟩ : ∃ ρ, Ac.eval = ρ := ⟨_, rfl⟩
          rw [hρ] at a75 a76 hc hf hgl
          exact relPure hρ (.bool true) (by simp [go_sem, hc, hf, hgl, ↓IntWalk.iteOmega, a75, a76, *]) rfl
        · refine relStep_guard (g := 23) (b := true) (x := true) rfl (by kernel_rfl) rfl (by kernel_rfl) rfl (fun _ _ h => h) ?_
          intro Ac w5 hp
          have hb := hp.bel
          have a74 : Ac.eval (.tmp 74) = .bool true := hp.dep 25 (by kernel_rfl)
          have a77 : Ac.eval (.tmp 77) = .bool true := hp.dep 28 (by kernel_rfl)
          have hc := evalC Ac; have hf := evalF Ac; have hgl := evalG Ac
          obtain ⟨ρ, hρ⟩ : ∃ ρ, Ac.eval = ρ := ⟨_, rfl⟩
          rw [hρ] at a74 a77 hc hf hgl
          exact relPure hρ (.bool true) (by simp [go_sem, hc, hf, hgl, ↓IntWalk.iteOmega, a74, a77, *]) rfl
        · refine relStep_guard (g := 23) (b := true) (x := true) rfl (by kernel_rfl) rfl (by kernel_rfl) rfl (fun _ _ h => h) ?_
          intro Ac w5 hp
          have hb := hp.bel
          have a78 : Ac.eval (.tmp 78) = .bool true := hp.dep 29 (by kernel_rfl)
          have hc := evalC Ac; have hf := evalF Ac; have hgl := evalG Ac
          obtain ⟨ρ, hρ⟩ : ∃ ρ, Ac.eval = ρ := ⟨_, rfl⟩
          rw [hρ] at a78 hc hf hgl
          exact relPure hρ (.bool true) (by simp [go_sem, hc, hf, hgl, ↓IntWalk.iteOmega, a78, *]) rfl
        · refine relStep_guard (g := 30) (b := false) (x := true) rfl (by kernel_rfl) rfl (by kernel_rfl) rfl (fun _ _ h => h) ?_
          exact fun _ => rfl
        · refine relStep_guard (g := 30) (b := false) (x := true) rfl (by kernel_rfl) rfl (by kernel_rfl) rfl (fun _ _ h => h) ?_
          exact fun _ => rfl
        · refine relStep_guard (g := 30) (b := false) (x := true) rfl (by kernel_rfl) rfl (by kernel_rfl) rfl (fun _ _ h => h) ?_
          exact fun _ => rfl
        · exact relStep_guardU (g := 33) (b := true) rfl (by kernel_rfl) rfl (by kernel_rfl) rfl (fun _ _ h => h) (fun _ => rfl)
        · exact relStep_guardU (g := 33) (b := true) rfl (by kernel_rfl) rfl (by kernel_rfl) rfl (fun _ _ h => h) (fun _ => rfl)
        · refine relStep_guard (g := 30) (b := false) (x := true) rfl (by kernel_rfl) rfl (by kernel_rfl) rfl (fun _ _ h => h) ?_
          exact fun _ => rfl
        · refine relStep_guard (g := 23) (b := true) (x := true) rfl (by kernel_rfl) rfl (by kernel_rfl) rfl (fun _ _ h => h) ?_
          intro Ac w5 hp
          have hb := hp.bel
          have a79 : Ac.eval (.tmp 79) = .bool true := hp.dep 30 (by kernel_rfl)
          have hc := evalC Ac; have hf := evalF Ac; have hgl := evalG Ac
          obtain ⟨ρ, hρ⟩ : ∃ ρ, Ac.eval = ρ := ⟨_, rfl⟩
          rw [hρ] at a79 hc hf hgl
          exact relPure hρ (.bool true) (by simp [go_sem, hc, hf, hgl, ↓IntWalk.iteOmega, a79, *]) rfl
        · refine relStep_plain rfl ?_
          intro Ac w5 hp
          have hb := hp.bel
          have a72 : Ac.eval (.tmp 72) = .bool true := hp.dep 23 (by kernel_rfl)
          have a86 : Ac.eval (.tmp 86) = .bool true := hp.dep 37 (by kernel_rfl)
          have hc := evalC Ac; have hf := evalF Ac; have hgl := evalG Ac
          obtain ⟨ρ, hρ⟩ : ∃ ρ, Ac.eval = ρ := ⟨_, rfl⟩
          rw [hρ] at a72 a86 hc hf hgl
          exact relPure hρ (.bool true) (by simp [go_sem, hc, hf, hgl, ↓IntWalk.iteOmega, a72, a86, *]) rfl
        · refine relStep_plain rfl ?_
          intro Ac w5 hp
          have hb := hp.bel
          have a87 : Ac.eval (.tmp 87) = .bool true := hp.dep 38 (by kernel_rfl)
          have hc := evalC Ac; have hf := evalF Ac; have hgl := evalG Ac
          obtain ⟨ρ, hρ⟩ : ∃ ρ, Ac.eval = ρ := ⟨_, rfl⟩
          rw [hρ] at a87 hc hf hgl
          exact relPure hρ (.bool true) (by simp [go_sem, hc, hf, hgl, ↓IntWalk.iteOmega, a87, *]) rfl
        · refine relStep_guard (g := 39) (b := true) (x := true) rfl (by kernel_rfl) rfl (by kernel_rfl) rfl (fun _ _ h => h) ?_
          intro Ac w5 hp
          have hb := hp.bel
          have hc := evalC Ac; have hf := evalF Ac; have hgl := evalG Ac
          obtain ⟨ρ, hρ⟩ : ∃ ρ, Ac.eval = ρ := ⟨_, rfl⟩
          rw [hρ] at hc hf hgl
          refine relCall hρ 17 #[] (by simp [go_sem, hc, hf, hgl, ↓IntWalk.iteOmega, *]) ?_
          refine (HLv.out w5 hb).mono ?_
          rintro e w6 ⟨rfl, hb6⟩
          exact ⟨_, rfl, rfl, hb6⟩
        · refine relStep_plain rfl ?_
          intro Ac w5 hp
          have hb := hp.bel
          have a88 : Ac.eval (.tmp 88) = .bool true := hp.dep 39 (by kernel_rfl)
          have a89 : Ac.eval (.tmp 89) = .bool true := hp.dep 40 (by kernel_rfl)
          have hc := evalC Ac; have hf := evalF Ac; have hgl := evalG Ac
          obtain ⟨ρ, hρ⟩ : ∃ ρ, Ac.eval = ρ := ⟨_, rfl⟩
          rw [hρ] at a88 a89 hc hf hgl
          exact relPure hρ (.bool true) (by simp [go_sem, hc, hf, hgl, ↓IntWalk.iteOmega, a88, a89, *]) rfl
        · refine relStep_plain rfl ?_
          intro Ac w5 hp
          have hb := hp.bel
          have a90 : Ac.eval (.tmp 90) = .bool true := hp.dep 41 (by kernel_rfl)
          have hc := evalC Ac; have hf := evalF Ac; have hgl := evalG Ac
          obtain ⟨ρ, hρ⟩ : ∃ ρ, Ac.eval = ρ := ⟨_, rfl⟩
          rw [hρ] at a90 hc hf hgl
          exact relPure hρ (.bool true) (by simp [go_sem, hc, hf, hgl, ↓IntWalk.iteOmega, a90, *]) rfl
        intro u w8 hb7 hall
        have e4 : u 42 = .bool true := relAll_at hall (i := 42) (by decide +kernel)
        clear hall
        simp only [List.drop_succ_cons, List.drop_zero, List.take_succ_cons, List.take_zero, putAll, Act.put, List.setIfInBounds_toArray, List.set_cons_zero, List.set_cons_succ, Nat.zero_add, Nat.reduceAdd, e4]
        --E5B
        have HE := hide (HS5.out.bel.trans (hb7.mono HS5.out.bel.size))
        clear hb7
        go_wp2
        go_ret
        exact ⟨rfl, HE.out⟩
end Go.Proofs.YtpgffbomlmmncaaGreatDoor
