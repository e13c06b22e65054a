import Derived.Test.YtcinjckajnnhmaaGreatRp10
import Derived.Shelf.Strings.BuilderK
import Derived.Laws.BytesString
import Derived.Laws.IdiomStrings
set_option linter.unusedSimpArgs false
set_option linter.unusedVariables false
namespace Go.Proofs.YtcinjckajnnhmaaGreat
open Go.RowKit Go.WideShapes Go.ChangeShapes Go.ChangeAt
theorem segs_opens {H : Type} {enc : TypeId × Value → H} {W : World} {f : Nat} {v : Value} {x : DataW H × List MemPlace} (h : DataW.trod enc Tryz.prog W 0 (fun _ => true) true f 25 [v] = some x) :
  ∃ A n c l, v = .slice A n c ∧ LstAt 2 sgR W A n c l := by
 have h1' : ∃ A n c, v = .slice A n c := by
  rcases DataW.trod_slice Tryz.underlying25 h with ⟨e, _⟩ | ⟨a, len, cap, elems, rest, n, _, e, _⟩
  ·exact ⟨none, 0, 0, by simpa using e⟩
  ·exact ⟨some a, len, cap, by simpa using e⟩
 obtain ⟨A, m, c, rfl⟩ := h1'; obtain ⟨l, hl⟩ := segs_open (A := A) (n := m) (c := c) ⟨f, by simpa [Value.cells] using h⟩; exact ⟨A, m, c, l, rfl, hl⟩
set_option maxRecDepth 100000 in
set_option maxHeartbeats 4000000 in
theorem at_opens {H : Type} {enc : TypeId × Value → H} {W : World} {f : Nat} {cs : List Value} {x : DataW H × List MemPlace} (h : DataW.trod enc Tryz.prog W 0 (fun _ => true) true f 28 cs = some x) : ∃ (X : AT) (A : Option Addr) (n c : Nat) (B : Option Addr) (m d : Nat), cs = atL X.has X.org A n c X.hop X.med X.pref X.aas X.aid B m d ∧ LstAt 2 sgR W A n c X.path ∧ U32s W B m d X.comms := by
 obtain ⟨xs, f2, _, rfl, hl, hlen, hf⟩ := DataW.trod_struct Tryz.underlying28 h; have c9 : Tryz.prog.cellsOf 28 = 9 := (by kernel_rfl)
 rw [c9] at hl
 match xs, hlen with
 | [y0, y1, y2, y3, y4, y5, y6, y7, y8], _ =>
 match cs, hl with
 | [v0, v1, v2, v3, v4, v5, v6, v7, v8], _ =>
  have h0 : DataW.trod enc Tryz.prog W 0 (fun _ => true) true f2 3 [v0] = some y0 := hf 0 _ rfl; have h1 : DataW.trod enc Tryz.prog W 0 (fun _ => true) true f2 3 [v1] = some y1 := hf 1 _ rfl; have h2 : DataW.trod enc Tryz.prog W 0 (fun _ => true) true f2 25 [v2] = some y2 := hf 2 _ rfl; have h3 : DataW.trod enc Tryz.prog W 0 (fun _ => true) true f2 22 [v3] = some y3 := hf 3 _ rfl; have h4 : DataW.trod enc Tryz.prog W 0 (fun _ => true) true f2 22 [v4] = some y4 := hf 4 _ rfl; have h5 : DataW.trod enc Tryz.prog W 0 (fun _ => true) true f2 22 [v5] = some y5 := hf 5 _ rfl; have h6 : DataW.trod enc Tryz.prog W 0 (fun _ => true) true f2 22 [v6] = some y6 := hf 6 _ rfl; have h7 : DataW.trod enc Tryz.prog W 0 (fun _ => true) true f2 22 [v7] = some y7 := hf 7 _ rfl; have h8 : DataW.trod enc Tryz.prog W 0 (fun _ => true) true f2 26 [v8] = some y8 := hf 8 _ rfl; clear hf; obtain ⟨q0, e0, _, j0⟩ := DataW.trod_int Tryz.underlying3 h0; obtain ⟨q1, e1, _, j1⟩ := DataW.trod_int Tryz.underlying3 h1; obtain ⟨A, n, c, pl, rfl, hP⟩ := segs_opens h2; obtain ⟨q3, e3, _, j3⟩ := DataW.trod_int Tryz.underlying22 h3; obtain ⟨q4, e4, _, j4⟩ := DataW.trod_int Tryz.underlying22 h4; obtain ⟨q5, e5, _, j5⟩ := DataW.trod_int Tryz.underlying22 h5; obtain ⟨q6, e6, _, j6⟩ := DataW.trod_int Tryz.underlying22 h6; obtain ⟨q7, e7, _, j7⟩ := DataW.trod_int Tryz.underlying22 h7; obtain ⟨B, m, d, cl, rfl, hC⟩ := u32s_opens h8; simp only [List.cons.injEq, and_true] at e0 e1 e3 e4 e5 e6 e7; subst e0 e1 e3 e4 e5 e6 e7; exact ⟨⟨q0, q1, pl, q3, q4, q5, q6, q7, cl⟩, A, n, c, B, m, d, rfl, hP, hC⟩
set_option maxRecDepth 100000 in
set_option maxHeartbeats 4000000 in
theorem pf_opensR {H : Type} {enc : TypeId × Value → H} {W : World} {f : Nat} {cs : List Value} {x : DataW H × List MemPlace} (h : DataW.trod enc Tryz.prog W 0 (fun _ => true) true f 24 cs = some x) : ∃ (a : Nat) (b : Int), cs = [.int .u32 (a : Int), .int .i64 b] ∧ a < 4294967296 ∧ -9223372036854775808 ≤ b ∧ b ≤ 9223372036854775807 := by
 obtain ⟨xs, f2, _, rfl, hl, hlen, hf⟩ := DataW.trod_struct Tryz.underlying24 h; have c9 : Tryz.prog.cellsOf 24 = 2 := (by kernel_rfl)
 rw [c9] at hl
 match xs, hlen with
 | [y0, y1], _ =>
 match cs, hl with
 | [v0, v1], _ =>
  have h0 : DataW.trod enc Tryz.prog W 0 (fun _ => true) true f2 22 [v0] = some y0 := hf 0 _ rfl; have h1 : DataW.trod enc Tryz.prog W 0 (fun _ => true) true f2 3 [v1] = some y1 := hf 1 _ rfl; clear hf; obtain ⟨q0, e0, _, j0⟩ := DataW.trod_int Tryz.underlying22 h0; obtain ⟨q1, e1, _, j1⟩ := DataW.trod_int Tryz.underlying3 h1; simp only [List.cons.injEq, and_true] at e0 e1; subst e0 e1; have b0 : 0 ≤ q0 ∧ q0 ≤ 4294967295 := (by simpa [Lit.wf, IntKind.min, IntKind.max, IntKind.signed, IntKind.bits] using j0)
  have b1 : -9223372036854775808 ≤ q1 ∧ q1 ≤ 9223372036854775807 := (by simpa [Lit.wf, IntKind.min, IntKind.max, IntKind.signed, IntKind.bits] using j1)
  obtain ⟨a, rfl⟩ := Int.eq_ofNat_of_zero_le b0.1; exact ⟨a, q1, rfl, by omega, b1.1, b1.2⟩
set_option maxRecDepth 100000 in
set_option maxHeartbeats 4000000 in
theorem td_opensQ {H : Type} {enc : TypeId × Value → H} {W : World} {f : Nat} {cs : List Value} {x : DataW H × List MemPlace} (h : DataW.trod enc Tryz.prog W 0 (fun _ => true) true f 71 cs = some x) : ∃ y, tdQ W cs y := by
 obtain ⟨xs, f2, _, rfl, hl, hlen, hf⟩ := DataW.trod_struct Tryz.underlying71 h; have c11 : Tryz.prog.cellsOf 71 = 11 := (by kernel_rfl)
 have cP : Tryz.prog.cellsOf 24 = 2 := (by kernel_rfl)
 have cA : Tryz.prog.cellsOf 28 = 9 := (by kernel_rfl)
 rw [c11] at hl
 match xs, hlen with
 | [y0, y1], _ =>
 match cs, hl with
 | [v0, v1, v2, v3, v4, v5, v6, v7, v8, v9, v10], _ =>
  have h0 : DataW.trod enc Tryz.prog W 0 (fun _ => true) true f2 24 [v0, v1] = some y0 := hf 0 _ rfl; have h1 : DataW.trod enc Tryz.prog W 0 (fun _ => true) true f2 28 [v2, v3, v4, v5, v6, v7, v8, v9, v10] = some y1 := hf 1 _ rfl; clear hf; obtain ⟨a, b, e0, hab, hb1, hb2⟩ := pf_opensR h0; obtain ⟨X, A, n, c, B, m, d, e1, hP, hC⟩ := at_opens h1; have e1 : [v2, v3, v4, v5, v6, v7, v8, v9, v10] = [.int .i64 X.has, .int .i64 X.org, .slice A n c, .int .u32 X.hop, .int .u32 X.med, .int .u32 X.pref, .int .u32 X.aas, .int .u32 X.aid, .slice B m d] := e1; simp only [List.cons.injEq, and_true] at e0 e1; obtain ⟨rfl, rfl⟩ := e0; obtain ⟨rfl, rfl, rfl, rfl, rfl, rfl, rfl, rfl, rfl⟩ := e1; exact ⟨⟨(a : Int), b, X⟩, ⟨A, n, c, B, m, d, rfl, hP, hC⟩, ⟨a, rfl, hab⟩, hb1, hb2⟩
theorem toldqs_open {H : Type} {enc : TypeId × Value → H} {W : World} {A : Option Addr} {n c : Nat} {d : DataW H} {p : List MemPlace}
  (h : DataW.Trod enc Tryz.prog W 0 (fun _ => true) true 51 (.slice A n c) d p) : ∃ l, LstAt 11 tdQ W A n c l := by
 obtain ⟨fuel, hf⟩ := h; obtain ⟨A', n', c', l, e, hl⟩ := lst_open (R := tdQ) (sz := 11) Tryz.underlying51 (by kernel_rfl) (by decide) (fun f cs x hx => td_opensQ hx) hf; have e2 : Value.slice A n c = .slice A' n' c' := (by simpa [Value.cells] using e)
 injection e2 with e1 e2 e3
 subst e1 e2 e3; exact ⟨l, hl⟩
theorem toldqs_opens {H : Type} {enc : TypeId × Value → H} {W : World} {f : Nat} {v : Value} {x : DataW H × List MemPlace} (h : DataW.trod enc Tryz.prog W 0 (fun _ => true) true f 51 [v] = some x) :
  ∃ A n c l, v = .slice A n c ∧ LstAt 11 tdQ W A n c l := by
 have h1' : ∃ A n c, v = .slice A n c := by
  rcases DataW.trod_slice Tryz.underlying51 h with ⟨e, _⟩ | ⟨a, len, cap, elems, rest, n, _, e, _⟩
  ·exact ⟨none, 0, 0, by simpa using e⟩
  ·exact ⟨some a, len, cap, by simpa using e⟩
 obtain ⟨A, m, c, rfl⟩ := h1'; obtain ⟨l, hl⟩ := toldqs_open (A := A) (n := m) (c := c) ⟨f, by simpa [Value.cells] using h⟩; exact ⟨A, m, c, l, rfl, hl⟩
set_option maxRecDepth 100000 in
set_option maxHeartbeats 4000000 in
theorem ac_opens {H : Type} {enc : TypeId × Value → H} {W : World} {f : Nat} {cs : List Value} {x : DataW H × List MemPlace} (h : DataW.trod enc Tryz.prog W 0 (fun _ => true) true f 57 cs = some x) : ∃ y, acR W cs y := by
 obtain ⟨xs, f2, _, rfl, hl, hlen, hf⟩ := DataW.trod_struct Tryz.underlying57 h; have c3 : Tryz.prog.cellsOf 57 = 3 := (by kernel_rfl)
 rw [c3] at hl
 match xs, hlen with
 | [y0, y1, y2], _ =>
 match cs, hl with
 | [v0, v1, v2], _ =>
  have h0 : DataW.trod enc Tryz.prog W 0 (fun _ => true) true f2 3 [v0] = some y0 := hf 0 _ rfl; have h1 : DataW.trod enc Tryz.prog W 0 (fun _ => true) true f2 3 [v1] = some y1 := hf 1 _ rfl; have h2 : DataW.trod enc Tryz.prog W 0 (fun _ => true) true f2 51 [v2] = some y2 := hf 2 _ rfl; clear hf; obtain ⟨q0, e0, _, j0⟩ := DataW.trod_int Tryz.underlying3 h0; obtain ⟨q1, e1, _, j1⟩ := DataW.trod_int Tryz.underlying3 h1; obtain ⟨A, n, c, l, rfl, hl2⟩ := toldqs_opens h2; simp only [List.cons.injEq, and_true] at e0 e1; subst e0 e1; exact ⟨⟨q0, q1, l⟩, A, n, c, rfl, hl2⟩
theorem acts_open {H : Type} {enc : TypeId × Value → H} {W : World} {A : Option Addr} {n c : Nat} {d : DataW H} {p : List MemPlace}
  (h : DataW.Trod enc Tryz.prog W 0 (fun _ => true) true 50 (.slice A n c) d p) : ∃ l, LstAt 3 acR W A n c l := by
 obtain ⟨fuel, hf⟩ := h; obtain ⟨A', n', c', l, e, hl⟩ := lst_open (R := acR) (sz := 3) Tryz.underlying50 (by kernel_rfl) (by decide) (fun f cs x hx => ac_opens hx) hf; have e2 : Value.slice A n c = .slice A' n' c' := (by simpa [Value.cells] using e)
 injection e2 with e1 e2 e3
 subst e1 e2 e3; exact ⟨l, hl⟩
end Go.Proofs.YtcinjckajnnhmaaGreat
namespace Go.Proofs.YtcinjckajnnhmaaGreat
open Go.RowKit Go.WideShapes Go.ChangeShapes
attribute [local go_sem] Oper.semAt_some
def X0 : AT := ⟨0, 0, [], 0, 0, 0, 0, 0, []⟩
end Go.Proofs.YtcinjckajnnhmaaGreat
namespace Go.Proofs.YtcinjckajnnhmaaGreat
open Go.RowKit
structure GB (z : Nat) (j : Int) : Prop where
  lt : z < 4294967296
  good : goodB z j = true
end Go.Proofs.YtcinjckajnnhmaaGreat
