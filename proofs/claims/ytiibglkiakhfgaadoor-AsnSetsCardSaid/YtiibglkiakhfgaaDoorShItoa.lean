/-
  CONTRACTS OF GO's LIBRARY AT THIS SEAT's NUMBERS, laid by the kit's own tools (lay-shelf, lay-plain): those that this seat's claims use.
-/
import Derived.Shelf.LaysM
import Derived.Shelf.Strconv.Itoa3
import Derived.Test.YtiibglkiakhfgaaDoorProg
namespace Go.Proofs
open Go.Shelf
def Tryd.laysM171_ren : Go.Shelf.Ren := ⟨fun | 171 => 106 | 243 => 145 | 246 => 175 | 283 => 203 | 284 => 204 | 285 => 205 | 286 => 206 | 129 => 193 | 317 => 220 | 318 => 221 | 319 => 222 | 320 => 223 | 337 => 225 | 338 => 226 | n => n, fun | 3 => 3 | 9 => 9 | 2 => 2 | 4 => 4 | 171 => 198 | 0 => 0 | 53 => 123 | 37 => 37 | 5 => 5 | 173 => 200 | 212 => 222 | 51 => 22 | 20 => 20 | 213 => 223 | 46 => 98 | 232 => 227 | 233 => 228 | n => n, fun | 17 => 5 | 18 => 6 | 19 => 7 | n => n⟩
theorem Tryd.laysM171 : Go.Proofs.LaysM.n171 Tryd.prog Tryd.laysM171_ren := {
  mixed := by kernel_rfl
  f129 := Tryd.func193.trans (congrArg some (by kernel_rfl))
  f171 := Tryd.func106.trans (congrArg some (by kernel_rfl))
  f243 := Tryd.func145.trans (congrArg some (by kernel_rfl))
  f246 := Tryd.func175.trans (congrArg some (by kernel_rfl))
  f283 := Tryd.func203.trans (congrArg some (by kernel_rfl))
  f284 := Tryd.func204.trans (congrArg some (by kernel_rfl))
  f285 := Tryd.func205.trans (congrArg some (by kernel_rfl))
  f286 := Tryd.func206.trans (congrArg some (by kernel_rfl))
  f317 := Tryd.func220.trans (congrArg some (by kernel_rfl))
  f318 := Tryd.func221.trans (congrArg some (by kernel_rfl))
  f319 := Tryd.func222.trans (congrArg some (by kernel_rfl))
  f320 := Tryd.func223.trans (congrArg some (by kernel_rfl))
  f337 := Tryd.func225.trans (congrArg some (by kernel_rfl))
  f338 := Tryd.func226.trans (congrArg some (by kernel_rfl))
  t0 := Tryd.underlying0
  a0 := Tryd.isAgg0
  z0 := Tryd.sizeOf0
  v0 := Tryd.zeroValue0
  t2 := Tryd.underlying2
  a2 := Tryd.isAgg2
  z2 := Tryd.sizeOf2
  v2 := Tryd.zeroValue2
  t3 := Tryd.underlying3
  a3 := Tryd.isAgg3
  z3 := Tryd.sizeOf3
  v3 := Tryd.zeroValue3
  t4 := Tryd.underlying4
  a4 := Tryd.isAgg4
  z4 := Tryd.sizeOf4
  v4 := Tryd.zeroValue4
  t5 := Tryd.underlying5
  a5 := Tryd.isAgg5
  z5 := Tryd.sizeOf5
  v5 := Tryd.zeroValue5
  t9 := Tryd.underlying9
  a9 := Tryd.isAgg9
  z9 := Tryd.sizeOf9
  v9 := Tryd.zeroValue9
  t20 := Tryd.underlying20
  a20 := Tryd.isAgg20
  z20 := Tryd.sizeOf20
  v20 := Tryd.zeroValue20
  t37 := Tryd.underlying37
  a37 := Tryd.isAgg37
  z37 := Tryd.sizeOf37
  v37 := Tryd.zeroValue37
  t46 := Tryd.underlying98
  a46 := Tryd.isAgg98
  z46 := Tryd.sizeOf98
  v46 := Tryd.zeroValue98
  t51 := Tryd.underlying22
  a51 := Tryd.isAgg22
  z51 := Tryd.sizeOf22
  v51 := Tryd.zeroValue22
  t53 := Tryd.underlying123
  a53 := Tryd.isAgg123
  z53 := Tryd.sizeOf123
  v53 := Tryd.zeroValue123
  t171 := Tryd.underlying198
  a171 := Tryd.isAgg198
  z171 := Tryd.sizeOf198
  v171 := Tryd.zeroValue198
  t173 := Tryd.underlying200
  a173 := Tryd.isAgg200
  z173 := Tryd.sizeOf200
  v173 := Tryd.zeroValue200
  t212 := Tryd.underlying222
  a212 := Tryd.isAgg222
  z212 := Tryd.sizeOf222
  v212 := Tryd.zeroValue222
  t213 := Tryd.underlying223
  a213 := Tryd.isAgg223
  z213 := Tryd.sizeOf223
  t232 := Tryd.underlying227
  a232 := Tryd.isAgg227
  z232 := Tryd.sizeOf227
  v232 := Tryd.zeroValue227
  t233 := Tryd.underlying228
  a233 := Tryd.isAgg228
  z233 := Tryd.sizeOf228
  v233 := Tryd.zeroValue228
  g17 := by kernel_rfl
  g18 := by kernel_rfl
  g19 := by kernel_rfl
  i0 := by kernel_rfl
  i2 := by kernel_rfl
  i3 := by kernel_rfl
  i4 := by kernel_rfl
  i5 := by kernel_rfl
  i9 := by kernel_rfl
  i20 := by kernel_rfl
  i37 := by kernel_rfl
  i46 := by kernel_rfl
  i51 := by kernel_rfl
  i53 := by kernel_rfl
  i171 := by kernel_rfl
  i173 := by kernel_rfl
  i212 := by kernel_rfl
  i232 := by kernel_rfl
  i233 := by kernel_rfl
  m17 := by kernel_rfl
  m18 := by kernel_rfl
  m19 := by kernel_rfl }
open Go.RowKit Go.Sort Go.Lib in
/-- strconv.Itoa: "Itoa is equivalent to FormatInt(int64(i), 10).": i's DECIMAL NUMERAL ('Lib.itoa': a '-' where i is negative, then the digits), FOR EVERY int. The world behind the call: the world before it, new blocks behind the heap (the library's 'var a [24]byte'), draws. (LAID: no walk: one application.) -/
theorem Tryd.strconv_Itoa (n : Int) (h0 : -9223372036854775808 ≤ n) (h1 : n ≤ 9223372036854775807) (w : World) (htab : Lib.TabIs Tryd.prog w "internal/strconv.uint64pow10" .u64 Lib.pow10Tab) :
    Calls Tryd.prog 106 #[.int .i64 n] w fun e w' => e = .returned (.string ⟨(Lib.itoa n).toArray⟩) ∧ ∃ k os, w' = grow (w.drewN k) os := Any.strconv_Itoa Tryd.laysM171 n h0 h1 w htab
end Go.Proofs
