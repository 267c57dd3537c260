-- Cut by prune.py, a program of this session, out of the texts of this claim: Lean checks it.
import Derived.Shelf.Strings.Builder1
import Derived.Shelf.Strings.Builder2
import Derived.Shelf.Strings.OnBuilder
import Derived.Shelf.Small.Strs
import Derived.Shelf.Small.Wraps
import Derived.Shelf.Strings.BuilderF
import Derived.Shelf.Strings.BuilderK
import Derived.Shelf.Strings.Builder2Cap
import Derived.Shelf.Strconv.Atoi
import Derived.Shelf.Strconv.Itoa0
import Derived.Shelf.Strconv.Itoa1
import Derived.Shelf.LaysM
import Derived.Shelf.Strconv.Itoa2
import Derived.Shelf.Strconv.Itoa3
import Derived.Shelf.Strconv.AtoiErrFast
import Derived.Shelf.Strconv.ParseIntEmpty
import Derived.Shelf.Strconv.AtoiFail
import Derived.Shelf.Strconv.Clone
import Derived.Shelf.Strconv.SyntaxError
import Derived.Shelf.LaysC
import Derived.Shelf.Strconv.ToError
import Derived.Shelf.Strconv.AtoiErr
import Derived.Shelf.Strconv.Lower
import Derived.Shelf.Strconv.ParseUint10
import Derived.Shelf.Strconv.ParseUint10Empty
import Derived.Shelf.Strconv.ParseUint10Any
import Derived.Shelf.Strconv.ParseInt10
import Derived.Shelf.Strconv.AtoiLong
import Derived.Shelf.Strconv.AtoiInnerAll
import Derived.Shelf.Strconv.RangeError
import Derived.Shelf.Strconv.ToErrorRange
import Derived.Shelf.Strconv.AtoiAll
import Derived.Shelf.Strconv.ErrVarAll
import Derived.Shelf.Strconv.ParseUintEmpty
import Derived.Shelf.Strconv.ParseUint10b64
import Derived.Shelf.Strconv.ParseUint10b32
import Derived.Shelf.Strconv.ParseUint10b16
import Derived.Shelf.Strconv.ParseUint10b8
import Derived.Shelf.Strconv.ParseUint10At
import Derived.Shelf.Strconv.ParseInt10At64
import Derived.Shelf.Strconv.ParseInt10At32
import Derived.Shelf.Strconv.ParseInt10At16
import Derived.Shelf.Strconv.ParseInt10At8
import Derived.Shelf.Strings.Search1
import Derived.Shelf.Strings.Search2
import Derived.Shelf.Strings.Cut
import Derived.Shelf.Strings.Shaped
import Derived.Shelf.Strings.Prefix
import Derived.Shelf.Strings.BuilderCap
import Derived.Ground.Names2Prog
import Derived.Shelf.Slices.SearchI
import Derived.Test.YtebadckdihgklaaDoorProg
namespace Go.Proofs
open Go.Shelf
def Tryd.lays215_ren : Go.Shelf.Ren := ⟨fun | 215 => 135 | n => n,fun | 3 => 3 | 4 => 4 | n => n,fun | n => n⟩
theorem Tryd.lays215 : Go.Proofs.Lays.n215 Tryd.prog Tryd.lays215_ren := {
 mixed := by kernel_rfl
 f215 := Tryd.func135.trans (congrArg some (by kernel_rfl))
 t3 := Tryd.underlying3
 a3 := Tryd.isAgg3
 z3 := Tryd.sizeOf3
 v3 := Tryd.zeroValue3
 t4 := Tryd.underlying4
 a4 := Tryd.isAgg4
 z4 := Tryd.sizeOf4
 v4 := Tryd.zeroValue4 }
open Go.RowKit in
/-- cmp.isNaN at int: 'x != x': false. (LAID: no walk: one application.) -/
theorem Tryd.cmp_isNaN_int (x : Int) (w : World) :
  Calls Tryd.prog 135 #[.int .i64 x] w fun e w' => e = .returned (.bool false) ∧ w' = w := Any.cmp_isNaN_int Tryd.lays215 x w
def Tryd.lays122_ren : Go.Shelf.Ren := ⟨fun | 122 => 114 | 215 => 135 | n => n,fun | 3 => 3 | 4 => 4 | n => n,fun | n => n⟩
theorem Tryd.lays122 : Go.Proofs.Lays.n122 Tryd.prog Tryd.lays122_ren := {
 mixed := by kernel_rfl
 f122 := Tryd.func114.trans (congrArg some (by kernel_rfl))
 f215 := Tryd.func135.trans (congrArg some (by kernel_rfl))
 t3 := Tryd.underlying3
 a3 := Tryd.isAgg3
 z3 := Tryd.sizeOf3
 v3 := Tryd.zeroValue3
 t4 := Tryd.underlying4
 a4 := Tryd.isAgg4
 z4 := Tryd.sizeOf4
 v4 := Tryd.zeroValue4 }
open Go.RowKit in
/-- cmp.Compare at int: "Compare returns -1 if x is less than y, 0 if x equals y, +1 if x is greater than y.": IT RETURNS 'Lib.compareInt x y'; the world is as it was. (LAID: no walk: one application.) -/
theorem Tryd.cmp_Compare_int (x y : Int) (w : World) :
  Calls Tryd.prog 114 #[.int .i64 x,.int .i64 y] w fun e w' => e = .returned (.int .i64 (Lib.compareInt x y)) ∧ w' = w := Any.cmp_Compare_int Tryd.lays122 x y w
def Tryd.lays172_ren : Go.Shelf.Ren := ⟨fun | 172 => 102 | 244 => 123 | 245 => 124 | 247 => 142 | 279 => 143 | 280 => 144 | 281 => 145 | 282 => 146 | 287 => 156 | 316 => 157 | 171 => 65 | 205 => 158 | 321 => 166 | 322 => 167 | 243 => 100 | 246 => 120 | 283 => 138 | 284 => 139 | 285 => 140 | 286 => 141 | 129 => 152 | 317 => 151 | 318 => 153 | 319 => 154 | 320 => 155 | 337 => 164 | 338 => 165 | n => n,fun | 9 => 9 | 3 => 3 | 75 => 96 | 76 => 97 | 4 => 4 | 5 => 5 | 167 => 122 | 37 => 24 | 0 => 0 | 85 => 123 | 2 => 2 | 168 => 125 | 53 => 117 | 175 => 135 | 46 => 133 | 210 => 138 | 127 => 128 | 145 => 147 | 143 => 145 | 21 => 21 | 171 => 116 | 173 => 120 | 212 => 130 | 51 => 131 | 20 => 20 | 213 => 132 | 232 => 150 | 233 => 151 | 80 => 84 | n => n,fun | 15 => 1 | 16 => 2 | 17 => 0 | 18 => 4 | 19 => 5 | n => n⟩
theorem Tryd.lays172 : Go.Proofs.Lays.n172 Tryd.prog Tryd.lays172_ren := {
 mixed := by kernel_rfl
 f129 := Tryd.func152.trans (congrArg some (by kernel_rfl))
 f171 := Tryd.func65.trans (congrArg some (by kernel_rfl))
 f172 := Tryd.func102.trans (congrArg some (by kernel_rfl))
 f205 := Tryd.func158.trans (congrArg some (by kernel_rfl))
 f243 := Tryd.func100.trans (congrArg some (by kernel_rfl))
 f244 := Tryd.func123.trans (congrArg some (by kernel_rfl))
 f245 := Tryd.func124.trans (congrArg some (by kernel_rfl))
 f246 := Tryd.func120.trans (congrArg some (by kernel_rfl))
 f247 := Tryd.func142.trans (congrArg some (by kernel_rfl))
 f279 := Tryd.func143.trans (congrArg some (by kernel_rfl))
 f280 := Tryd.func144.trans (congrArg some (by kernel_rfl))
 f281 := Tryd.func145.trans (congrArg some (by kernel_rfl))
 f282 := Tryd.func146.trans (congrArg some (by kernel_rfl))
 f283 := Tryd.func138.trans (congrArg some (by kernel_rfl))
 f284 := Tryd.func139.trans (congrArg some (by kernel_rfl))
 f285 := Tryd.func140.trans (congrArg some (by kernel_rfl))
 f286 := Tryd.func141.trans (congrArg some (by kernel_rfl))
 f287 := Tryd.func156.trans (congrArg some (by kernel_rfl))
 f316 := Tryd.func157.trans (congrArg some (by kernel_rfl))
 f317 := Tryd.func151.trans (congrArg some (by kernel_rfl))
 f318 := Tryd.func153.trans (congrArg some (by kernel_rfl))
 f319 := Tryd.func154.trans (congrArg some (by kernel_rfl))
 f320 := Tryd.func155.trans (congrArg some (by kernel_rfl))
 f321 := Tryd.func166.trans (congrArg some (by kernel_rfl))
 f322 := Tryd.func167.trans (congrArg some (by kernel_rfl))
 f337 := Tryd.func164.trans (congrArg some (by kernel_rfl))
 f338 := Tryd.func165.trans (congrArg some (by kernel_rfl))
 t0 := Tryd.underlying0
 a0 := Tryd.isAgg0
 z0 := Tryd.sizeOf0
 v0 := Tryd.zeroValue0
 t2 := Tryd.underlying2
 a2 := Tryd.isAgg2
 z2 := Tryd.sizeOf2
 v2 := Tryd.zeroValue2
 t3 := Tryd.underlying3
 a3 := Tryd.isAgg3
 z3 := Tryd.sizeOf3
 v3 := Tryd.zeroValue3
 t4 := Tryd.underlying4
 a4 := Tryd.isAgg4
 z4 := Tryd.sizeOf4
 v4 := Tryd.zeroValue4
 t5 := Tryd.underlying5
 a5 := Tryd.isAgg5
 z5 := Tryd.sizeOf5
 v5 := Tryd.zeroValue5
 t9 := Tryd.underlying9
 a9 := Tryd.isAgg9
 z9 := Tryd.sizeOf9
 v9 := Tryd.zeroValue9
 t20 := Tryd.underlying20
 a20 := Tryd.isAgg20
 z20 := Tryd.sizeOf20
 v20 := Tryd.zeroValue20
 t21 := Tryd.underlying21
 a21 := Tryd.isAgg21
 z21 := Tryd.sizeOf21
 v21 := Tryd.zeroValue21
 t37 := Tryd.underlying24
 a37 := Tryd.isAgg24
 z37 := Tryd.sizeOf24
 v37 := Tryd.zeroValue24
 t46 := Tryd.underlying133
 a46 := Tryd.isAgg133
 z46 := Tryd.sizeOf133
 v46 := Tryd.zeroValue133
 t51 := Tryd.underlying131
 a51 := Tryd.isAgg131
 z51 := Tryd.sizeOf131
 v51 := Tryd.zeroValue131
 t53 := Tryd.underlying117
 a53 := Tryd.isAgg117
 z53 := Tryd.sizeOf117
 v53 := Tryd.zeroValue117
 t75 := Tryd.underlying96
 a75 := Tryd.isAgg96
 z75 := Tryd.sizeOf96
 v75 := Tryd.zeroValue96
 t76 := Tryd.underlying97
 a76 := Tryd.isAgg97
 z76 := Tryd.sizeOf97
 v76 := Tryd.zeroValue97
 t85 := Tryd.underlying123
 a85 := Tryd.isAgg123
 z85 := Tryd.sizeOf123
 v85 := Tryd.zeroValue123
 t127 := Tryd.underlying128
 a127 := Tryd.isAgg128
 z127 := Tryd.sizeOf128
 v127 := Tryd.zeroValue128
 t143 := Tryd.underlying145
 a143 := Tryd.isAgg145
 z143 := Tryd.sizeOf145
 v143 := Tryd.zeroValue145
 t145 := Tryd.underlying147
 a145 := Tryd.isAgg147
 z145 := Tryd.sizeOf147
 v145 := Tryd.zeroValue147
 t167 := Tryd.underlying122
 a167 := Tryd.isAgg122
 z167 := Tryd.sizeOf122
 v167 := Tryd.zeroValue122
 t168 := Tryd.underlying125
 a168 := Tryd.isAgg125
 z168 := Tryd.sizeOf125
 v168 := Tryd.zeroValue125
 t171 := Tryd.underlying116
 a171 := Tryd.isAgg116
 z171 := Tryd.sizeOf116
 v171 := Tryd.zeroValue116
 t173 := Tryd.underlying120
 a173 := Tryd.isAgg120
 z173 := Tryd.sizeOf120
 v173 := Tryd.zeroValue120
 t175 := Tryd.underlying135
 a175 := Tryd.isAgg135
 z175 := Tryd.sizeOf135
 v175 := Tryd.zeroValue135
 t210 := Tryd.underlying138
 a210 := Tryd.isAgg138
 z210 := Tryd.sizeOf138
 v210 := Tryd.zeroValue138
 t212 := Tryd.underlying130
 a212 := Tryd.isAgg130
 z212 := Tryd.sizeOf130
 v212 := Tryd.zeroValue130
 t213 := Tryd.underlying132
 a213 := Tryd.isAgg132
 z213 := Tryd.sizeOf132
 t232 := Tryd.underlying150
 a232 := Tryd.isAgg150
 z232 := Tryd.sizeOf150
 v232 := Tryd.zeroValue150
 t233 := Tryd.underlying151
 a233 := Tryd.isAgg151
 z233 := Tryd.sizeOf151
 v233 := Tryd.zeroValue151
 g15 := by kernel_rfl
 g16 := by kernel_rfl
 g17 := by kernel_rfl
 g18 := by kernel_rfl
 g19 := by kernel_rfl }
open Go.RowKit in
/-- strconv.Atoi: "Atoi is equivalent to ParseInt(s, 10, 0), converted to type int.": AT A DECIMAL NUMERAL OF AT MOST 18 BYTES: its value, and a nil error. The world behind the call: the one new row that the library's '[]byte(s)' lays. (LAID: no walk: one application.) -/
theorem Tryd.strconv_Atoi (s : ByteArray) (n : Int) (hl : s.size ≤ 18) (h : Lib.atoi s.data.toList = some n) (w : World) :
  Calls Tryd.prog 102 #[.string s] w fun e w' => e = .returned (.tuple #[.int .i64 n,.nilIface]) ∧ ∃ t,w' = Lib.bytesWorld w 5 t := Any.strconv_Atoi Tryd.lays172 s n hl h w
def Tryd.laysM171_ren : Go.Shelf.Ren := ⟨fun | 171 => 65 | 243 => 100 | 246 => 120 | 283 => 138 | 284 => 139 | 285 => 140 | 286 => 141 | 129 => 152 | 317 => 151 | 318 => 153 | 319 => 154 | 320 => 155 | 337 => 164 | 338 => 165 | n => n,fun | 3 => 3 | 9 => 9 | 2 => 2 | 4 => 4 | 171 => 116 | 0 => 0 | 53 => 117 | 37 => 24 | 5 => 5 | 173 => 120 | 212 => 130 | 51 => 131 | 20 => 20 | 213 => 132 | 46 => 133 | 232 => 150 | 233 => 151 | n => n,fun | 17 => 0 | 18 => 4 | 19 => 5 | n => n⟩
theorem Tryd.laysM171 : Go.Proofs.LaysM.n171 Tryd.prog Tryd.laysM171_ren := {
 mixed := by kernel_rfl
 f129 := Tryd.func152.trans (congrArg some (by kernel_rfl))
 f171 := Tryd.func65.trans (congrArg some (by kernel_rfl))
 f243 := Tryd.func100.trans (congrArg some (by kernel_rfl))
 f246 := Tryd.func120.trans (congrArg some (by kernel_rfl))
 f283 := Tryd.func138.trans (congrArg some (by kernel_rfl))
 f284 := Tryd.func139.trans (congrArg some (by kernel_rfl))
 f285 := Tryd.func140.trans (congrArg some (by kernel_rfl))
 f286 := Tryd.func141.trans (congrArg some (by kernel_rfl))
 f317 := Tryd.func151.trans (congrArg some (by kernel_rfl))
 f318 := Tryd.func153.trans (congrArg some (by kernel_rfl))
 f319 := Tryd.func154.trans (congrArg some (by kernel_rfl))
 f320 := Tryd.func155.trans (congrArg some (by kernel_rfl))
 f337 := Tryd.func164.trans (congrArg some (by kernel_rfl))
 f338 := Tryd.func165.trans (congrArg some (by kernel_rfl))
 t0 := Tryd.underlying0
 a0 := Tryd.isAgg0
 z0 := Tryd.sizeOf0
 v0 := Tryd.zeroValue0
 t2 := Tryd.underlying2
 a2 := Tryd.isAgg2
 z2 := Tryd.sizeOf2
 v2 := Tryd.zeroValue2
 t3 := Tryd.underlying3
 a3 := Tryd.isAgg3
 z3 := Tryd.sizeOf3
 v3 := Tryd.zeroValue3
 t4 := Tryd.underlying4
 a4 := Tryd.isAgg4
 z4 := Tryd.sizeOf4
 v4 := Tryd.zeroValue4
 t5 := Tryd.underlying5
 a5 := Tryd.isAgg5
 z5 := Tryd.sizeOf5
 v5 := Tryd.zeroValue5
 t9 := Tryd.underlying9
 a9 := Tryd.isAgg9
 z9 := Tryd.sizeOf9
 v9 := Tryd.zeroValue9
 t20 := Tryd.underlying20
 a20 := Tryd.isAgg20
 z20 := Tryd.sizeOf20
 v20 := Tryd.zeroValue20
 t37 := Tryd.underlying24
 a37 := Tryd.isAgg24
 z37 := Tryd.sizeOf24
 v37 := Tryd.zeroValue24
 t46 := Tryd.underlying133
 a46 := Tryd.isAgg133
 z46 := Tryd.sizeOf133
 v46 := Tryd.zeroValue133
 t51 := Tryd.underlying131
 a51 := Tryd.isAgg131
 z51 := Tryd.sizeOf131
 v51 := Tryd.zeroValue131
 t53 := Tryd.underlying117
 a53 := Tryd.isAgg117
 z53 := Tryd.sizeOf117
 v53 := Tryd.zeroValue117
 t171 := Tryd.underlying116
 a171 := Tryd.isAgg116
 z171 := Tryd.sizeOf116
 v171 := Tryd.zeroValue116
 t173 := Tryd.underlying120
 a173 := Tryd.isAgg120
 z173 := Tryd.sizeOf120
 v173 := Tryd.zeroValue120
 t212 := Tryd.underlying130
 a212 := Tryd.isAgg130
 z212 := Tryd.sizeOf130
 v212 := Tryd.zeroValue130
 t213 := Tryd.underlying132
 a213 := Tryd.isAgg132
 z213 := Tryd.sizeOf132
 t232 := Tryd.underlying150
 a232 := Tryd.isAgg150
 z232 := Tryd.sizeOf150
 v232 := Tryd.zeroValue150
 t233 := Tryd.underlying151
 a233 := Tryd.isAgg151
 z233 := Tryd.sizeOf151
 v233 := Tryd.zeroValue151
 g17 := by kernel_rfl
 g18 := by kernel_rfl
 g19 := by kernel_rfl
 i0 := by kernel_rfl
 i2 := by kernel_rfl
 i3 := by kernel_rfl
 i4 := by kernel_rfl
 i5 := by kernel_rfl
 i9 := by kernel_rfl
 i20 := by kernel_rfl
 i37 := by kernel_rfl
 i46 := by kernel_rfl
 i51 := by kernel_rfl
 i53 := by kernel_rfl
 i171 := by kernel_rfl
 i173 := by kernel_rfl
 i212 := by kernel_rfl
 i232 := by kernel_rfl
 i233 := by kernel_rfl
 m17 := by kernel_rfl
 m18 := by kernel_rfl
 m19 := by kernel_rfl }
open Go.RowKit Go.Sort Go.Lib in
/-- strconv.Itoa: "Itoa is equivalent to FormatInt(int64(i), 10).": i's DECIMAL NUMERAL ('Lib.itoa': a '-' where i is negative, then the digits), FOR EVERY int. The world behind the call: the world before it, new blocks behind the heap (the library's 'var a [24]byte'), draws. (LAID: no walk: one application.) -/
theorem Tryd.strconv_Itoa (n : Int) (h0 : -9223372036854775808 ≤ n) (h1 : n ≤ 9223372036854775807) (w : World) (htab : Lib.TabIs Tryd.prog w "internal/strconv.uint64pow10" .u64 Lib.pow10Tab) :
  Calls Tryd.prog 65 #[.int .i64 n] w fun e w' => e = .returned (.string ⟨(Lib.itoa n).toArray⟩) ∧ ∃ k os,w' = grow (w.drewN k) os := Any.strconv_Itoa Tryd.laysM171 n h0 h1 w htab
def Tryd.laysC172_ren : Go.Shelf.Ren := ⟨fun | 172 => 102 | 244 => 123 | 245 => 124 | 247 => 142 | 279 => 143 | 280 => 144 | 281 => 145 | 282 => 146 | 287 => 156 | 316 => 157 | 171 => 65 | 205 => 158 | 321 => 166 | 322 => 167 | 243 => 100 | 246 => 120 | 283 => 138 | 284 => 139 | 285 => 140 | 286 => 141 | 129 => 152 | 317 => 151 | 318 => 153 | 319 => 154 | 320 => 155 | 337 => 164 | 338 => 165 | n => n,fun | 9 => 9 | 3 => 3 | 75 => 96 | 76 => 97 | 4 => 4 | 5 => 5 | 167 => 122 | 37 => 24 | 0 => 0 | 85 => 123 | 2 => 2 | 168 => 125 | 53 => 117 | 175 => 135 | 46 => 133 | 210 => 138 | 127 => 128 | 145 => 147 | 143 => 145 | 21 => 21 | 171 => 116 | 173 => 120 | 212 => 130 | 51 => 131 | 20 => 20 | 213 => 132 | 232 => 150 | 233 => 151 | 80 => 84 | n => n,fun | 15 => 1 | 16 => 2 | 17 => 0 | 18 => 4 | 19 => 5 | n => n⟩
theorem Tryd.laysC172 : Go.Proofs.LaysC.n172 Tryd.prog Tryd.laysC172_ren := {
 mixed := by kernel_rfl
 f129 := Tryd.func152.trans (congrArg some (by kernel_rfl))
 f171 := Tryd.func65.trans (congrArg some (by kernel_rfl))
 f172 := Tryd.func102.trans (congrArg some (by kernel_rfl))
 f205 := Tryd.func158.trans (congrArg some (by kernel_rfl))
 f243 := Tryd.func100.trans (congrArg some (by kernel_rfl))
 f244 := Tryd.func123.trans (congrArg some (by kernel_rfl))
 f245 := Tryd.func124.trans (congrArg some (by kernel_rfl))
 f246 := Tryd.func120.trans (congrArg some (by kernel_rfl))
 f247 := Tryd.func142.trans (congrArg some (by kernel_rfl))
 f279 := Tryd.func143.trans (congrArg some (by kernel_rfl))
 f280 := Tryd.func144.trans (congrArg some (by kernel_rfl))
 f281 := Tryd.func145.trans (congrArg some (by kernel_rfl))
 f282 := Tryd.func146.trans (congrArg some (by kernel_rfl))
 f283 := Tryd.func138.trans (congrArg some (by kernel_rfl))
 f284 := Tryd.func139.trans (congrArg some (by kernel_rfl))
 f285 := Tryd.func140.trans (congrArg some (by kernel_rfl))
 f286 := Tryd.func141.trans (congrArg some (by kernel_rfl))
 f287 := Tryd.func156.trans (congrArg some (by kernel_rfl))
 f316 := Tryd.func157.trans (congrArg some (by kernel_rfl))
 f317 := Tryd.func151.trans (congrArg some (by kernel_rfl))
 f318 := Tryd.func153.trans (congrArg some (by kernel_rfl))
 f319 := Tryd.func154.trans (congrArg some (by kernel_rfl))
 f320 := Tryd.func155.trans (congrArg some (by kernel_rfl))
 f321 := Tryd.func166.trans (congrArg some (by kernel_rfl))
 f322 := Tryd.func167.trans (congrArg some (by kernel_rfl))
 f337 := Tryd.func164.trans (congrArg some (by kernel_rfl))
 f338 := Tryd.func165.trans (congrArg some (by kernel_rfl))
 t0 := Tryd.underlying0
 a0 := Tryd.isAgg0
 z0 := Tryd.sizeOf0
 v0 := Tryd.zeroValue0
 t2 := Tryd.underlying2
 a2 := Tryd.isAgg2
 z2 := Tryd.sizeOf2
 v2 := Tryd.zeroValue2
 t3 := Tryd.underlying3
 a3 := Tryd.isAgg3
 z3 := Tryd.sizeOf3
 v3 := Tryd.zeroValue3
 t4 := Tryd.underlying4
 a4 := Tryd.isAgg4
 z4 := Tryd.sizeOf4
 v4 := Tryd.zeroValue4
 t5 := Tryd.underlying5
 a5 := Tryd.isAgg5
 z5 := Tryd.sizeOf5
 v5 := Tryd.zeroValue5
 t9 := Tryd.underlying9
 a9 := Tryd.isAgg9
 z9 := Tryd.sizeOf9
 v9 := Tryd.zeroValue9
 t20 := Tryd.underlying20
 a20 := Tryd.isAgg20
 z20 := Tryd.sizeOf20
 v20 := Tryd.zeroValue20
 t21 := Tryd.underlying21
 a21 := Tryd.isAgg21
 z21 := Tryd.sizeOf21
 v21 := Tryd.zeroValue21
 t37 := Tryd.underlying24
 a37 := Tryd.isAgg24
 z37 := Tryd.sizeOf24
 v37 := Tryd.zeroValue24
 t46 := Tryd.underlying133
 a46 := Tryd.isAgg133
 z46 := Tryd.sizeOf133
 v46 := Tryd.zeroValue133
 t51 := Tryd.underlying131
 a51 := Tryd.isAgg131
 z51 := Tryd.sizeOf131
 v51 := Tryd.zeroValue131
 t53 := Tryd.underlying117
 a53 := Tryd.isAgg117
 z53 := Tryd.sizeOf117
 v53 := Tryd.zeroValue117
 t75 := Tryd.underlying96
 a75 := Tryd.isAgg96
 z75 := Tryd.sizeOf96
 v75 := Tryd.zeroValue96
 t76 := Tryd.underlying97
 a76 := Tryd.isAgg97
 z76 := Tryd.sizeOf97
 v76 := Tryd.zeroValue97
 t85 := Tryd.underlying123
 a85 := Tryd.isAgg123
 z85 := Tryd.sizeOf123
 v85 := Tryd.zeroValue123
 t127 := Tryd.underlying128
 a127 := Tryd.isAgg128
 z127 := Tryd.sizeOf128
 v127 := Tryd.zeroValue128
 t143 := Tryd.underlying145
 a143 := Tryd.isAgg145
 z143 := Tryd.sizeOf145
 v143 := Tryd.zeroValue145
 t145 := Tryd.underlying147
 a145 := Tryd.isAgg147
 z145 := Tryd.sizeOf147
 v145 := Tryd.zeroValue147
 t167 := Tryd.underlying122
 a167 := Tryd.isAgg122
 z167 := Tryd.sizeOf122
 v167 := Tryd.zeroValue122
 t168 := Tryd.underlying125
 a168 := Tryd.isAgg125
 z168 := Tryd.sizeOf125
 v168 := Tryd.zeroValue125
 t171 := Tryd.underlying116
 a171 := Tryd.isAgg116
 z171 := Tryd.sizeOf116
 v171 := Tryd.zeroValue116
 t173 := Tryd.underlying120
 a173 := Tryd.isAgg120
 z173 := Tryd.sizeOf120
 v173 := Tryd.zeroValue120
 t175 := Tryd.underlying135
 a175 := Tryd.isAgg135
 z175 := Tryd.sizeOf135
 v175 := Tryd.zeroValue135
 t210 := Tryd.underlying138
 a210 := Tryd.isAgg138
 z210 := Tryd.sizeOf138
 v210 := Tryd.zeroValue138
 t212 := Tryd.underlying130
 a212 := Tryd.isAgg130
 z212 := Tryd.sizeOf130
 v212 := Tryd.zeroValue130
 t213 := Tryd.underlying132
 a213 := Tryd.isAgg132
 z213 := Tryd.sizeOf132
 t232 := Tryd.underlying150
 a232 := Tryd.isAgg150
 z232 := Tryd.sizeOf150
 v232 := Tryd.zeroValue150
 t233 := Tryd.underlying151
 a233 := Tryd.isAgg151
 z233 := Tryd.sizeOf151
 v233 := Tryd.zeroValue151
 g15 := by kernel_rfl
 g16 := by kernel_rfl
 g17 := by kernel_rfl
 g18 := by kernel_rfl
 g19 := by kernel_rfl
 t80 := Tryd.underlying84
 a80 := Tryd.isAgg84
 z80 := Tryd.sizeOf84
 v80 := Tryd.zeroValue84
 i0 := by kernel_rfl
 i2 := by kernel_rfl
 i3 := by kernel_rfl
 i4 := by kernel_rfl
 i5 := by kernel_rfl
 i9 := by kernel_rfl
 i20 := by kernel_rfl
 i21 := by kernel_rfl
 i37 := by kernel_rfl
 i46 := by kernel_rfl
 i51 := by kernel_rfl
 i53 := by kernel_rfl
 i75 := by kernel_rfl
 i76 := by kernel_rfl
 i80 := by kernel_rfl
 i85 := by kernel_rfl
 i127 := by kernel_rfl
 i143 := by kernel_rfl
 i145 := by kernel_rfl
 i167 := by kernel_rfl
 i168 := by kernel_rfl
 i171 := by kernel_rfl
 i173 := by kernel_rfl
 i175 := by kernel_rfl
 i210 := by kernel_rfl
 i212 := by kernel_rfl
 i232 := by kernel_rfl
 i233 := by kernel_rfl
 m15 := by kernel_rfl
 m16 := by kernel_rfl
 m17 := by kernel_rfl
 m18 := by kernel_rfl
 m19 := by kernel_rfl
 c0 := by kernel_rfl
 c2 := by kernel_rfl
 c3 := by kernel_rfl
 c4 := by kernel_rfl
 c5 := by kernel_rfl
 c9 := by kernel_rfl
 c20 := by kernel_rfl
 c21 := by kernel_rfl
 c37 := by kernel_rfl
 c46 := by kernel_rfl
 c51 := by kernel_rfl
 c53 := by kernel_rfl
 c75 := by kernel_rfl
 c76 := by kernel_rfl
 c80 := by kernel_rfl
 c85 := by kernel_rfl
 c127 := by kernel_rfl
 c143 := by kernel_rfl
 c145 := by kernel_rfl
 c167 := by kernel_rfl
 c168 := by kernel_rfl
 c171 := by kernel_rfl
 c173 := by kernel_rfl
 c175 := by kernel_rfl
 c210 := by kernel_rfl
 c212 := by kernel_rfl
 c213 := by kernel_rfl
 c232 := by kernel_rfl
 c233 := by kernel_rfl }
open Go.RowKit in
/-- strconv.Atoi, AT EVERY STRING THAT SPELLS AN int ('Lib.atoiAll .. = .ok v'; of whatever length: leading zeros count): v, AND NO ERROR. The world: as it was, or with the one new row that '[]byte(..)' lays. (LAID: no walk: one application.) -/
theorem Tryd.strconv_Atoi_ok (s : ByteArray) (hmax : s.size ≤ 9223372036854775806) (v : Int) (h : Lib.atoiAll s.data.toList = .ok v) (w : World) :
  Calls Tryd.prog 102 #[.string s] w fun e w' => e = .returned (.tuple #[.int .i64 v,.nilIface]) ∧ (w' = w ∨ ∃ t,w' = Lib.bytesWorld w 5 t) := Any.strconv_Atoi_ok Tryd.laysC172 s hmax v h w
open Go.RowKit in
/-- strconv.Atoi, AT EVERY STRING THAT IS NO DECIMAL NUMERAL ('.syntax'): 0, AND AN ERROR THAT IS NOT nil: a *NumError in a new block N: {Func: "Atoi", Num: s's bytes, Err: what the variable ErrSyntax holds}. Of what was there nothing has turned. (LAID: no walk: one application.) -/
theorem Tryd.strconv_Atoi_syntax (s : ByteArray) (hlim : s.size ≤ 281474976710656) (h : Lib.atoiAll s.data.toList = Lib.atoiAll []) (ev : Value) (w : World) (hv : w.cell? ⟨1,0,none⟩ = some ev) (hev : ev = .nilIface ∨ ∃ te pe,ev = .iface te pe) :
  Calls Tryd.prog 102 #[.string s] w fun e w' => ∃ N,e = .returned (.tuple #[.int .i64 (0),.iface 125 (.pointer (some ⟨N,0,none⟩))]) ∧ w.heap.size ≤ N ∧ w'.heap[N]? = some (.cells #[.string ⟨#[65,116,111,105]⟩,.string s,ev] 138 (0,0)) ∧ Below w.heap.size w w' := Any.strconv_Atoi_syntax Tryd.laysC172 s hlim h ev w hv hev
open Go.RowKit in
/-- strconv.Atoi, AT EVERY NUMERAL THAT NO int HOLDS ('.range'): THE GREATEST OR THE LEAST int, BY THE SIGN ('Lib.atoiSat'), AND AN ERROR THAT IS NOT nil: a *NumError in a new block N: {Func: "Atoi", Num: s's bytes, Err: what the variable ErrRange holds}. Of what was there nothing has turned. (LAID: no walk: one application.) -/
theorem Tryd.strconv_Atoi_range (s : ByteArray) (hlim : s.size ≤ 281474976710656) (h : Lib.atoiAll s.data.toList = .range) (ev : Value) (w : World) (hv : w.cell? ⟨2,0,none⟩ = some ev) (hev : ev = .nilIface ∨ ∃ te pe,ev = .iface te pe) :
  Calls Tryd.prog 102 #[.string s] w fun e w' => ∃ N,e = .returned (.tuple #[.int .i64 (Lib.atoiSat s.data.toList),.iface 125 (.pointer (some ⟨N,0,none⟩))]) ∧ w.heap.size ≤ N ∧ w'.heap[N]? = some (.cells #[.string ⟨#[65,116,111,105]⟩,.string s,ev] 138 (0,0)) ∧ Below w.heap.size w w' := Any.strconv_Atoi_range Tryd.laysC172 s hlim h ev w hv hev
def Tryd.lays145_ren : Go.Shelf.Ren := ⟨fun | 145 => 107 | 220 => 131 | 219 => 149 | 217 => 134 | 225 => 161 | 224 => 162 | 267 => 163 | 266 => 150 | 314 => 168 | n => n,fun | 9 => 9 | 4 => 4 | 59 => 101 | 3 => 3 | 5 => 5 | 46 => 133 | 146 => 148 | 51 => 131 | n => n,fun | 1 => 3 | n => n⟩
theorem Tryd.lays145 : Go.Proofs.Lays.n145 Tryd.prog Tryd.lays145_ren := {
 mixed := by kernel_rfl
 f145 := Tryd.func107.trans (congrArg some (by kernel_rfl))
 f217 := Tryd.func134.trans (congrArg some (by kernel_rfl))
 f219 := Tryd.func149.trans (congrArg some (by kernel_rfl))
 f220 := Tryd.func131.trans (congrArg some (by kernel_rfl))
 f224 := Tryd.func162.trans (congrArg some (by kernel_rfl))
 f225 := Tryd.func161.trans (congrArg some (by kernel_rfl))
 f266 := Tryd.func150.trans (congrArg some (by kernel_rfl))
 f267 := Tryd.func163.trans (congrArg some (by kernel_rfl))
 f314 := Tryd.func168.trans (congrArg some (by kernel_rfl))
 t3 := Tryd.underlying3
 a3 := Tryd.isAgg3
 z3 := Tryd.sizeOf3
 v3 := Tryd.zeroValue3
 t4 := Tryd.underlying4
 a4 := Tryd.isAgg4
 z4 := Tryd.sizeOf4
 v4 := Tryd.zeroValue4
 t5 := Tryd.underlying5
 a5 := Tryd.isAgg5
 z5 := Tryd.sizeOf5
 v5 := Tryd.zeroValue5
 t9 := Tryd.underlying9
 a9 := Tryd.isAgg9
 z9 := Tryd.sizeOf9
 v9 := Tryd.zeroValue9
 t46 := Tryd.underlying133
 a46 := Tryd.isAgg133
 z46 := Tryd.sizeOf133
 v46 := Tryd.zeroValue133
 t51 := Tryd.underlying131
 a51 := Tryd.isAgg131
 z51 := Tryd.sizeOf131
 v51 := Tryd.zeroValue131
 t59 := Tryd.underlying101
 a59 := Tryd.isAgg101
 z59 := Tryd.sizeOf101
 v59 := Tryd.zeroValue101
 t146 := Tryd.underlying148
 a146 := Tryd.isAgg148
 z146 := Tryd.sizeOf148
 v146 := Tryd.zeroValue148
 g1 := by kernel_rfl }
open Go.RowKit Go.Lib in
/-- strings.Cut: "Cut slices s around the first instance of sep, returning the text before and after sep. The found result reports whether sep appears in s. If sep does not appear in s, cut returns s, "", false.": IT RETURNS 'Lib.cut s sep'; the world is as it was but for the count of draws. (LAID: no walk: one application.) -/
theorem Tryd.strings_Cut (s sep : ByteArray) (m : Int) (w : World) (hs : s.size < 4294967281) (hm : w.cell? ⟨3,0,none⟩ = some (.int .i64 m)) :
  Calls Tryd.prog 107 #[.string s,.string sep] w fun e w' => e = .returned (.tuple #[.string ⟨(Lib.cut s.data.toList sep.data.toList).1.toArray⟩,.string ⟨(Lib.cut s.data.toList sep.data.toList).2.1.toArray⟩,.bool (Lib.cut s.data.toList sep.data.toList).2.2]) ∧ ∃ n,w' = w.drewN n := Any.strings_Cut Tryd.lays145 s sep m w hs hm
def Tryd.lays99_ren : Go.Shelf.Ren := ⟨fun | 99 => 108 | 206 => 132 | n => n,fun | 9 => 9 | 4 => 4 | 3 => 3 | n => n,fun | n => n⟩
theorem Tryd.lays99 : Go.Proofs.Lays.n99 Tryd.prog Tryd.lays99_ren := {
 mixed := by kernel_rfl
 f99 := Tryd.func108.trans (congrArg some (by kernel_rfl))
 f206 := Tryd.func132.trans (congrArg some (by kernel_rfl))
 t3 := Tryd.underlying3
 a3 := Tryd.isAgg3
 z3 := Tryd.sizeOf3
 v3 := Tryd.zeroValue3
 t4 := Tryd.underlying4
 a4 := Tryd.isAgg4
 z4 := Tryd.sizeOf4
 v4 := Tryd.zeroValue4
 t9 := Tryd.underlying9
 a9 := Tryd.isAgg9
 z9 := Tryd.sizeOf9
 v9 := Tryd.zeroValue9 }
open Go.RowKit Go.Lib in
/-- strings.HasPrefix: "HasPrefix reports whether the string s begins with prefix.": IT RETURNS 'Lib.hasPrefix s prefix'; the world is as it was. (LAID: no walk: one application.) -/
theorem Tryd.strings_HasPrefix (s p : ByteArray) (w : World) :
  Calls Tryd.prog 108 #[.string s,.string p] w fun e w' => e = .returned (.bool (Lib.hasPrefix s.data.toList p.data.toList)) ∧ w' = w := Any.strings_HasPrefix Tryd.lays99 s p w
end Go.Proofs
