/-
  CONTRACTS OF GO's LIBRARY AT THIS SEAT's NUMBERS, laid by the kit's own tools (lay-shelf, lay-plain): those that this seat's claims use.
-/
import Derived.Shelf.LaysM
import Derived.Shelf.Strings.Cut
import Derived.Shelf.Strings.Split
import Derived.Shelf.Pu.ParseUintPublic10
import Derived.Shelf.Pu.ErrVarParseUint
import Derived.Shelf.Strconv.ParseUint10At
import Derived.Test.YtiibglkiakhfgaaDoorProg
namespace Go.Proofs
open Go.Shelf
def Tryd.laysPu14_ren : Go.Shelf.Ren := ⟨fun | 14 => 121 | 16 => 157 | 17 => 144 | 19 => 183 | 20 => 184 | 21 => 171 | 22 => 172 | 23 => 173 | 24 => 174 | 25 => 201 | 27 => 106 | 26 => 202 | 28 => 145 | 29 => 175 | 30 => 203 | 31 => 204 | 32 => 205 | 33 => 206 | 35 => 193 | 34 => 220 | 36 => 221 | 37 => 222 | 38 => 223 | 39 => 225 | 40 => 226 | n => n, fun | 9 => 9 | 3 => 3 | 22 => 123 | 24 => 114 | 25 => 136 | 4 => 4 | 34 => 172 | 5 => 5 | 36 => 98 | 37 => 37 | 0 => 0 | 39 => 175 | 21 => 21 | 44 => 196 | 47 => 153 | 50 => 220 | 48 => 218 | 2 => 2 | 52 => 198 | 55 => 200 | 59 => 222 | 60 => 22 | 20 => 20 | 61 => 223 | 65 => 227 | 66 => 228 | 67 => 118 | n => n, fun | 0 => 1 | 1 => 2 | 2 => 5 | 3 => 6 | 4 => 7 | n => n⟩
theorem Tryd.laysPu14 : Go.Proofs.LaysPu.n14 Tryd.prog Tryd.laysPu14_ren := {
  mixed := by kernel_rfl
  f14 := Tryd.func121.trans (congrArg some (by kernel_rfl))
  f16 := Tryd.func157.trans (congrArg some (by kernel_rfl))
  f17 := Tryd.func144.trans (congrArg some (by kernel_rfl))
  f19 := Tryd.func183.trans (congrArg some (by kernel_rfl))
  f20 := Tryd.func184.trans (congrArg some (by kernel_rfl))
  f21 := Tryd.func171.trans (congrArg some (by kernel_rfl))
  f22 := Tryd.func172.trans (congrArg some (by kernel_rfl))
  f23 := Tryd.func173.trans (congrArg some (by kernel_rfl))
  f24 := Tryd.func174.trans (congrArg some (by kernel_rfl))
  f25 := Tryd.func201.trans (congrArg some (by kernel_rfl))
  f26 := Tryd.func202.trans (congrArg some (by kernel_rfl))
  f27 := Tryd.func106.trans (congrArg some (by kernel_rfl))
  f28 := Tryd.func145.trans (congrArg some (by kernel_rfl))
  f29 := Tryd.func175.trans (congrArg some (by kernel_rfl))
  f30 := Tryd.func203.trans (congrArg some (by kernel_rfl))
  f31 := Tryd.func204.trans (congrArg some (by kernel_rfl))
  f32 := Tryd.func205.trans (congrArg some (by kernel_rfl))
  f33 := Tryd.func206.trans (congrArg some (by kernel_rfl))
  f34 := Tryd.func220.trans (congrArg some (by kernel_rfl))
  f35 := Tryd.func193.trans (congrArg some (by kernel_rfl))
  f36 := Tryd.func221.trans (congrArg some (by kernel_rfl))
  f37 := Tryd.func222.trans (congrArg some (by kernel_rfl))
  f38 := Tryd.func223.trans (congrArg some (by kernel_rfl))
  f39 := Tryd.func225.trans (congrArg some (by kernel_rfl))
  f40 := Tryd.func226.trans (congrArg some (by kernel_rfl))
  t0 := Tryd.underlying0
  a0 := Tryd.isAgg0
  z0 := Tryd.sizeOf0
  v0 := Tryd.zeroValue0
  i0 := by kernel_rfl
  t2 := Tryd.underlying2
  a2 := Tryd.isAgg2
  z2 := Tryd.sizeOf2
  v2 := Tryd.zeroValue2
  i2 := by kernel_rfl
  t3 := Tryd.underlying3
  a3 := Tryd.isAgg3
  z3 := Tryd.sizeOf3
  v3 := Tryd.zeroValue3
  i3 := by kernel_rfl
  t4 := Tryd.underlying4
  a4 := Tryd.isAgg4
  z4 := Tryd.sizeOf4
  v4 := Tryd.zeroValue4
  i4 := by kernel_rfl
  t5 := Tryd.underlying5
  a5 := Tryd.isAgg5
  z5 := Tryd.sizeOf5
  v5 := Tryd.zeroValue5
  i5 := by kernel_rfl
  t9 := Tryd.underlying9
  a9 := Tryd.isAgg9
  z9 := Tryd.sizeOf9
  v9 := Tryd.zeroValue9
  i9 := by kernel_rfl
  t20 := Tryd.underlying20
  a20 := Tryd.isAgg20
  z20 := Tryd.sizeOf20
  v20 := Tryd.zeroValue20
  i20 := by kernel_rfl
  t21 := Tryd.underlying21
  a21 := Tryd.isAgg21
  z21 := Tryd.sizeOf21
  v21 := Tryd.zeroValue21
  i21 := by kernel_rfl
  t22 := Tryd.underlying123
  a22 := Tryd.isAgg123
  z22 := Tryd.sizeOf123
  v22 := Tryd.zeroValue123
  i22 := by kernel_rfl
  t24 := Tryd.underlying114
  a24 := Tryd.isAgg114
  z24 := Tryd.sizeOf114
  v24 := Tryd.zeroValue114
  i24 := by kernel_rfl
  t25 := Tryd.underlying136
  a25 := Tryd.isAgg136
  z25 := Tryd.sizeOf136
  v25 := Tryd.zeroValue136
  i25 := by kernel_rfl
  t34 := Tryd.underlying172
  a34 := Tryd.isAgg172
  z34 := Tryd.sizeOf172
  v34 := Tryd.zeroValue172
  i34 := by kernel_rfl
  c34 := by kernel_rfl
  t36 := Tryd.underlying98
  a36 := Tryd.isAgg98
  z36 := Tryd.sizeOf98
  v36 := Tryd.zeroValue98
  i36 := by kernel_rfl
  t37 := Tryd.underlying37
  a37 := Tryd.isAgg37
  z37 := Tryd.sizeOf37
  v37 := Tryd.zeroValue37
  i37 := by kernel_rfl
  t39 := Tryd.underlying175
  a39 := Tryd.isAgg175
  z39 := Tryd.sizeOf175
  v39 := Tryd.zeroValue175
  i39 := by kernel_rfl
  t44 := Tryd.underlying196
  a44 := Tryd.isAgg196
  z44 := Tryd.sizeOf196
  v44 := Tryd.zeroValue196
  i44 := by kernel_rfl
  t47 := Tryd.underlying153
  a47 := Tryd.isAgg153
  z47 := Tryd.sizeOf153
  v47 := Tryd.zeroValue153
  i47 := by kernel_rfl
  t48 := Tryd.underlying218
  a48 := Tryd.isAgg218
  z48 := Tryd.sizeOf218
  v48 := Tryd.zeroValue218
  i48 := by kernel_rfl
  t50 := Tryd.underlying220
  a50 := Tryd.isAgg220
  z50 := Tryd.sizeOf220
  v50 := Tryd.zeroValue220
  i50 := by kernel_rfl
  t52 := Tryd.underlying198
  a52 := Tryd.isAgg198
  z52 := Tryd.sizeOf198
  v52 := Tryd.zeroValue198
  i52 := by kernel_rfl
  t55 := Tryd.underlying200
  a55 := Tryd.isAgg200
  z55 := Tryd.sizeOf200
  v55 := Tryd.zeroValue200
  i55 := by kernel_rfl
  t59 := Tryd.underlying222
  a59 := Tryd.isAgg222
  z59 := Tryd.sizeOf222
  v59 := Tryd.zeroValue222
  i59 := by kernel_rfl
  t60 := Tryd.underlying22
  a60 := Tryd.isAgg22
  z60 := Tryd.sizeOf22
  v60 := Tryd.zeroValue22
  i60 := by kernel_rfl
  t61 := Tryd.underlying223
  a61 := Tryd.isAgg223
  z61 := Tryd.sizeOf223
  t65 := Tryd.underlying227
  a65 := Tryd.isAgg227
  z65 := Tryd.sizeOf227
  v65 := Tryd.zeroValue227
  i65 := by kernel_rfl
  t66 := Tryd.underlying228
  a66 := Tryd.isAgg228
  z66 := Tryd.sizeOf228
  v66 := Tryd.zeroValue228
  i66 := by kernel_rfl
  t67 := Tryd.underlying118
  a67 := Tryd.isAgg118
  z67 := Tryd.sizeOf118
  v67 := Tryd.zeroValue118
  i67 := by kernel_rfl
  g0 := by kernel_rfl
  m0 := by kernel_rfl
  g1 := by kernel_rfl
  m1 := by kernel_rfl
  g2 := by kernel_rfl
  m2 := by kernel_rfl
  g3 := by kernel_rfl
  m3 := by kernel_rfl
  g4 := by kernel_rfl
  m4 := by kernel_rfl }
open Go.RowKit in
/-- strconv.ParseUint(s, 10, 16), AT EVERY STRING THAT SPELLS A uint16 ('Lib.parseUintB 16 s.data.toList = .ok u'): u, AND NO ERROR. (LAID: no walk: one application.) -/
theorem Tryd.strconv_ParseUint_10_at16_ok (s : ByteArray) (hmax : s.size ≤ 9223372036854775806) (u : Nat) (h : Lib.parseUintB 16 s.data.toList = .ok u) (w : World) :
    Calls Tryd.prog 121 #[.string s, .int .i64 10, .int .i64 16] w fun e w' => e = .returned (.tuple #[.int .u64 u, .nilIface]) ∧ (w' = w ∨ w' = Lib.bytesWorld w 5 s) := Any.strconv_ParseUint_10_at16_ok Tryd.laysPu14 s hmax u h w
open Go.RowKit in
/-- strconv.ParseUint(s, 10, 16), AT EVERY STRING THAT IS NO ROW OF DECIMAL DIGITS (a sign is a fault): 0, AND AN ERROR THAT IS NOT nil: a *NumError in a new block N: {Func: "ParseUint", Num: s's bytes, Err: what the variable ErrSyntax holds}. Of what was there nothing has turned. (LAID: no walk: one application.) -/
theorem Tryd.strconv_ParseUint_10_at16_syntax (s : ByteArray) (hlim : s.size ≤ 281474976710656) (h : Lib.parseUintB 16 s.data.toList = Lib.NumEnd.syntax) (ev : Value) (w : World) (hv : w.cell? ⟨1, 0, none⟩ = some ev) (hev : ev = .nilIface ∨ ∃ te pe, ev = .iface te pe) :
    Calls Tryd.prog 121 #[.string s, .int .i64 10, .int .i64 16] w fun e w' => ∃ N, e = .returned (.tuple #[.int .u64 0, .iface 175 (.pointer (some ⟨N, 0, none⟩))]) ∧ w.heap.size ≤ N ∧ w'.heap[N]? = some (.cells #[.string ⟨#[80, 97, 114, 115, 101, 85, 105, 110, 116]⟩, .string s, ev] 196 (0, 0)) ∧ Below w.heap.size w w' := Any.strconv_ParseUint_10_at16_syntax Tryd.laysPu14 s hlim h ev w hv hev
open Go.RowKit in
/-- strconv.ParseUint(s, 10, 16), AT EVERY NUMERAL THAT NO uint16 HOLDS: THE GREATEST uint16, AND AN ERROR THAT IS NOT nil: a *NumError in a new block N: {Func: "ParseUint", Num: s's bytes, Err: what the variable ErrRange holds}. Of what was there nothing has turned. (LAID: no walk: one application.) -/
theorem Tryd.strconv_ParseUint_10_at16_range (s : ByteArray) (hlim : s.size ≤ 281474976710656) (h : Lib.parseUintB 16 s.data.toList = .range) (ev : Value) (w : World) (hv : w.cell? ⟨2, 0, none⟩ = some ev) (hev : ev = .nilIface ∨ ∃ te pe, ev = .iface te pe) :
    Calls Tryd.prog 121 #[.string s, .int .i64 10, .int .i64 16] w fun e w' => ∃ N, e = .returned (.tuple #[.int .u64 65535, .iface 175 (.pointer (some ⟨N, 0, none⟩))]) ∧ w.heap.size ≤ N ∧ w'.heap[N]? = some (.cells #[.string ⟨#[80, 97, 114, 115, 101, 85, 105, 110, 116]⟩, .string s, ev] 196 (0, 0)) ∧ Below w.heap.size w w' := Any.strconv_ParseUint_10_at16_range Tryd.laysPu14 s hlim h ev w hv hev
open Go.RowKit in
/-- strconv.ParseUint(s, 10, 8), AT EVERY STRING THAT SPELLS A uint8 ('Lib.parseUintB 8 s.data.toList = .ok u'): u, AND NO ERROR. (LAID: no walk: one application.) -/
theorem Tryd.strconv_ParseUint_10_at8_ok (s : ByteArray) (hmax : s.size ≤ 9223372036854775806) (u : Nat) (h : Lib.parseUintB 8 s.data.toList = .ok u) (w : World) :
    Calls Tryd.prog 121 #[.string s, .int .i64 10, .int .i64 8] w fun e w' => e = .returned (.tuple #[.int .u64 u, .nilIface]) ∧ (w' = w ∨ w' = Lib.bytesWorld w 5 s) := Any.strconv_ParseUint_10_at8_ok Tryd.laysPu14 s hmax u h w
open Go.RowKit in
/-- strconv.ParseUint(s, 10, 8), AT EVERY STRING THAT IS NO ROW OF DECIMAL DIGITS (a sign is a fault): 0, AND AN ERROR THAT IS NOT nil: a *NumError in a new block N: {Func: "ParseUint", Num: s's bytes, Err: what the variable ErrSyntax holds}. Of what was there nothing has turned. (LAID: no walk: one application.) -/
theorem Tryd.strconv_ParseUint_10_at8_syntax (s : ByteArray) (hlim : s.size ≤ 281474976710656) (h : Lib.parseUintB 8 s.data.toList = Lib.NumEnd.syntax) (ev : Value) (w : World) (hv : w.cell? ⟨1, 0, none⟩ = some ev) (hev : ev = .nilIface ∨ ∃ te pe, ev = .iface te pe) :
    Calls Tryd.prog 121 #[.string s, .int .i64 10, .int .i64 8] w fun e w' => ∃ N, e = .returned (.tuple #[.int .u64 0, .iface 175 (.pointer (some ⟨N, 0, none⟩))]) ∧ w.heap.size ≤ N ∧ w'.heap[N]? = some (.cells #[.string ⟨#[80, 97, 114, 115, 101, 85, 105, 110, 116]⟩, .string s, ev] 196 (0, 0)) ∧ Below w.heap.size w w' := Any.strconv_ParseUint_10_at8_syntax Tryd.laysPu14 s hlim h ev w hv hev
open Go.RowKit in
/-- strconv.ParseUint(s, 10, 8), AT EVERY NUMERAL THAT NO uint8 HOLDS: THE GREATEST uint8, AND AN ERROR THAT IS NOT nil: a *NumError in a new block N: {Func: "ParseUint", Num: s's bytes, Err: what the variable ErrRange holds}. Of what was there nothing has turned. (LAID: no walk: one application.) -/
theorem Tryd.strconv_ParseUint_10_at8_range (s : ByteArray) (hlim : s.size ≤ 281474976710656) (h : Lib.parseUintB 8 s.data.toList = .range) (ev : Value) (w : World) (hv : w.cell? ⟨2, 0, none⟩ = some ev) (hev : ev = .nilIface ∨ ∃ te pe, ev = .iface te pe) :
    Calls Tryd.prog 121 #[.string s, .int .i64 10, .int .i64 8] w fun e w' => ∃ N, e = .returned (.tuple #[.int .u64 255, .iface 175 (.pointer (some ⟨N, 0, none⟩))]) ∧ w.heap.size ≤ N ∧ w'.heap[N]? = some (.cells #[.string ⟨#[80, 97, 114, 115, 101, 85, 105, 110, 116]⟩, .string s, ev] 196 (0, 0)) ∧ Below w.heap.size w w' := Any.strconv_ParseUint_10_at8_range Tryd.laysPu14 s hlim h ev w hv hev
def Tryd.lays145_ren : Go.Shelf.Ren := ⟨fun | 145 => 119 | 220 => 155 | 219 => 165 | 217 => 195 | 225 => 196 | 224 => 197 | 267 => 198 | 266 => 217 | 314 => 218 | n => n, fun | 9 => 9 | 4 => 4 | 59 => 134 | 3 => 3 | 5 => 5 | 46 => 98 | 146 => 211 | 51 => 22 | n => n, fun | 1 => 0 | n => n⟩
theorem Tryd.lays145 : Go.Proofs.Lays.n145 Tryd.prog Tryd.lays145_ren := {
  mixed := by kernel_rfl
  f145 := Tryd.func119.trans (congrArg some (by kernel_rfl))
  f217 := Tryd.func195.trans (congrArg some (by kernel_rfl))
  f219 := Tryd.func165.trans (congrArg some (by kernel_rfl))
  f220 := Tryd.func155.trans (congrArg some (by kernel_rfl))
  f224 := Tryd.func197.trans (congrArg some (by kernel_rfl))
  f225 := Tryd.func196.trans (congrArg some (by kernel_rfl))
  f266 := Tryd.func217.trans (congrArg some (by kernel_rfl))
  f267 := Tryd.func198.trans (congrArg some (by kernel_rfl))
  f314 := Tryd.func218.trans (congrArg some (by kernel_rfl))
  t3 := Tryd.underlying3
  a3 := Tryd.isAgg3
  z3 := Tryd.sizeOf3
  v3 := Tryd.zeroValue3
  t4 := Tryd.underlying4
  a4 := Tryd.isAgg4
  z4 := Tryd.sizeOf4
  v4 := Tryd.zeroValue4
  t5 := Tryd.underlying5
  a5 := Tryd.isAgg5
  z5 := Tryd.sizeOf5
  v5 := Tryd.zeroValue5
  t9 := Tryd.underlying9
  a9 := Tryd.isAgg9
  z9 := Tryd.sizeOf9
  v9 := Tryd.zeroValue9
  t46 := Tryd.underlying98
  a46 := Tryd.isAgg98
  z46 := Tryd.sizeOf98
  v46 := Tryd.zeroValue98
  t51 := Tryd.underlying22
  a51 := Tryd.isAgg22
  z51 := Tryd.sizeOf22
  v51 := Tryd.zeroValue22
  t59 := Tryd.underlying134
  a59 := Tryd.isAgg134
  z59 := Tryd.sizeOf134
  v59 := Tryd.zeroValue134
  t146 := Tryd.underlying211
  a146 := Tryd.isAgg211
  z146 := Tryd.sizeOf211
  v146 := Tryd.zeroValue211
  g1 := by kernel_rfl }
open Go.RowKit Go.Lib in
/-- strings.Cut: "Cut slices s around the first instance of sep, returning the text before and after sep. The found result reports whether sep appears in s. If sep does not appear in s, cut returns s, "", false.": IT RETURNS 'Lib.cut s sep'; the world is as it was but for the count of draws. (LAID: no walk: one application.) -/
theorem Tryd.strings_Cut (s sep : ByteArray) (m : Int) (w : World) (hs : s.size < 4294967281) (hm : w.cell? ⟨0, 0, none⟩ = some (.int .i64 m)) :
    Calls Tryd.prog 119 #[.string s, .string sep] w fun e w' => e = .returned (.tuple #[.string ⟨(Lib.cut s.data.toList sep.data.toList).1.toArray⟩, .string ⟨(Lib.cut s.data.toList sep.data.toList).2.1.toArray⟩, .bool (Lib.cut s.data.toList sep.data.toList).2.2]) ∧ ∃ n, w' = w.drewN n := Any.strings_Cut Tryd.lays145 s sep m w hs hm
def Tryd.lays146_ren : Go.Shelf.Ren := ⟨fun | 146 => 156 | 221 => 182 | 268 => 210 | 138 => 87 | 143 => 133 | 195 => 131 | 197 => 167 | 218 => 132 | 219 => 165 | 260 => 199 | 217 => 195 | 225 => 196 | 224 => 197 | 267 => 198 | 266 => 217 | 314 => 218 | n => n, fun | 9 => 9 | 31 => 70 | 3 => 3 | 4 => 4 | 0 => 0 | 105 => 167 | 21 => 21 | 5 => 5 | 46 => 98 | 119 => 213 | 139 => 216 | 138 => 215 | 146 => 211 | 51 => 22 | n => n, fun | 1 => 0 | 3 => 3 | 4 => 4 | n => n⟩
theorem Tryd.lays146 : Go.Proofs.Lays.n146 Tryd.prog Tryd.lays146_ren := {
  mixed := by kernel_rfl
  f138 := Tryd.func87.trans (congrArg some (by kernel_rfl))
  f143 := Tryd.func133.trans (congrArg some (by kernel_rfl))
  f146 := Tryd.func156.trans (congrArg some (by kernel_rfl))
  f195 := Tryd.func131.trans (congrArg some (by kernel_rfl))
  f197 := Tryd.func167.trans (congrArg some (by kernel_rfl))
  f217 := Tryd.func195.trans (congrArg some (by kernel_rfl))
  f218 := Tryd.func132.trans (congrArg some (by kernel_rfl))
  f219 := Tryd.func165.trans (congrArg some (by kernel_rfl))
  f221 := Tryd.func182.trans (congrArg some (by kernel_rfl))
  f224 := Tryd.func197.trans (congrArg some (by kernel_rfl))
  f225 := Tryd.func196.trans (congrArg some (by kernel_rfl))
  f260 := Tryd.func199.trans (congrArg some (by kernel_rfl))
  f266 := Tryd.func217.trans (congrArg some (by kernel_rfl))
  f267 := Tryd.func198.trans (congrArg some (by kernel_rfl))
  f268 := Tryd.func210.trans (congrArg some (by kernel_rfl))
  f314 := Tryd.func218.trans (congrArg some (by kernel_rfl))
  t0 := Tryd.underlying0
  a0 := Tryd.isAgg0
  z0 := Tryd.sizeOf0
  v0 := Tryd.zeroValue0
  t3 := Tryd.underlying3
  a3 := Tryd.isAgg3
  z3 := Tryd.sizeOf3
  v3 := Tryd.zeroValue3
  t4 := Tryd.underlying4
  a4 := Tryd.isAgg4
  z4 := Tryd.sizeOf4
  v4 := Tryd.zeroValue4
  t5 := Tryd.underlying5
  a5 := Tryd.isAgg5
  z5 := Tryd.sizeOf5
  v5 := Tryd.zeroValue5
  t9 := Tryd.underlying9
  a9 := Tryd.isAgg9
  z9 := Tryd.sizeOf9
  v9 := Tryd.zeroValue9
  t21 := Tryd.underlying21
  a21 := Tryd.isAgg21
  z21 := Tryd.sizeOf21
  v21 := Tryd.zeroValue21
  t31 := Tryd.underlying70
  a31 := Tryd.isAgg70
  z31 := Tryd.sizeOf70
  v31 := Tryd.zeroValue70
  t46 := Tryd.underlying98
  a46 := Tryd.isAgg98
  z46 := Tryd.sizeOf98
  v46 := Tryd.zeroValue98
  t51 := Tryd.underlying22
  a51 := Tryd.isAgg22
  z51 := Tryd.sizeOf22
  v51 := Tryd.zeroValue22
  t105 := Tryd.underlying167
  a105 := Tryd.isAgg167
  z105 := Tryd.sizeOf167
  v105 := Tryd.zeroValue167
  t119 := Tryd.underlying213
  a119 := Tryd.isAgg213
  z119 := Tryd.sizeOf213
  t138 := Tryd.underlying215
  a138 := Tryd.isAgg215
  z138 := Tryd.sizeOf215
  v138 := Tryd.zeroValue215
  t139 := Tryd.underlying216
  a139 := Tryd.isAgg216
  z139 := Tryd.sizeOf216
  v139 := Tryd.zeroValue216
  t146 := Tryd.underlying211
  a146 := Tryd.isAgg211
  z146 := Tryd.sizeOf211
  v146 := Tryd.zeroValue211
  g1 := by kernel_rfl
  g3 := by kernel_rfl
  g4 := by kernel_rfl }
open Go.RowKit Go.Lib in
/-- strings.Split. (LAID: no walk: one application.) -/
theorem Tryd.strings_Split (s sep : ByteArray) (m : Int) (w : World) (hs : s.size < 4294967281) (hm : w.cell? ⟨0, 0, none⟩ = some (.int .i64 m)) (h1 : 1 ≤ sep.size) :
    Calls Tryd.prog 156 #[.string s, .string sep] w fun e w' =>
      e = .returned (.slice (some ⟨w.heap.size, 0, none⟩) (Lib.countB s sep + 1) (Lib.countB s sep + 1)) ∧ w' = w.alloc (.cells ((Lib.splitB sep 0 (Lib.countB s sep) s).map Value.string).toArray 9) := Any.strings_Split Tryd.lays146 (by kernel_rfl) s sep m w hs hm h1
end Go.Proofs
