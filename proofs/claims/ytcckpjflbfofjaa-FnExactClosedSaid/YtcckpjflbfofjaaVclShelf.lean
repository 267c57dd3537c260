-- Cut by prune.py, a program of this session, out of the texts of this claim: Lean checks it.
import Derived.Shelf.Small.Bits
import Derived.Shelf.Small.Wraps
import Derived.Shelf.Strconv.Itoa0
import Derived.Test.YtcckpjflbfofjaaProg
import Derived.Shelf.SlSortCmp.NoneTotal
import Derived.Ground.SlsfProg
namespace Go.Proofs
open Go.Shelf
def Try.sort44_ren:Go.Shelf.Ren:=⟨fun|6=>44|15=>58|14=>57|28=>71|29=>72|20=>63|21=>64|22=>65|23=>66|24=>67|25=>68|26=>69|27=>70|46=>73|47=>74|48=>75|49=>76|50=>77|57=>78|n=>n,fun|22=>26|24=>53|25=>65|3=>3|39=>82|0=>0|53=>95|55=>97|4=>4|46=>88|45=>87|50=>92|5=>5|9=>9|66=>98|70=>102|76=>104|77=>105|n=>n,fun|n=>n⟩
theorem Try.sort44:Go.Proofs.SlLaysF0.n6 Try.prog Try.sort44_ren:={
 mixed:=by kernel_rfl
 f6:=⟨Try.f44.name,by decide,Try.func44.trans (congrArg some (by kernel_rfl))⟩
 f14:=⟨Try.f57.name,by decide,Try.func57.trans (congrArg some (by kernel_rfl))⟩
 f15:=Try.func58.trans (congrArg some (by kernel_rfl))
 f20:=⟨Try.f63.name,by decide,Try.func63.trans (congrArg some (by kernel_rfl))⟩
 f21:=⟨Try.f64.name,by decide,Try.func64.trans (congrArg some (by kernel_rfl))⟩
 f22:=⟨Try.f65.name,by decide,Try.func65.trans (congrArg some (by kernel_rfl))⟩
 f23:=⟨Try.f66.name,by decide,Try.func66.trans (congrArg some (by kernel_rfl))⟩
 f24:=⟨Try.f67.name,by decide,Try.func67.trans (congrArg some (by kernel_rfl))⟩
 f25:=⟨Try.f68.name,by decide,Try.func68.trans (congrArg some (by kernel_rfl))⟩
 f26:=⟨Try.f69.name,by decide,Try.func69.trans (congrArg some (by kernel_rfl))⟩
 f27:=⟨Try.f70.name,by decide,Try.func70.trans (congrArg some (by kernel_rfl))⟩
 f28:=Try.func71.trans (congrArg some (by kernel_rfl))
 f29:=Try.func72.trans (congrArg some (by kernel_rfl))
 f46:=⟨Try.f73.name,by decide,Try.func73.trans (congrArg some (by kernel_rfl))⟩
 f47:=Try.func74.trans (congrArg some (by kernel_rfl))
 f48:=Try.func75.trans (congrArg some (by kernel_rfl))
 f49:=⟨Try.f76.name,by decide,Try.func76.trans (congrArg some (by kernel_rfl))⟩
 f50:=⟨Try.f77.name,by decide,Try.func77.trans (congrArg some (by kernel_rfl))⟩
 f57:=⟨Try.f78.name,by decide,Try.func78.trans (congrArg some (by kernel_rfl))⟩
 t0:=Try.underlying0
 a0:=Try.isAgg0
 z0:=Try.sizeOf0
 v0:=Try.zeroValue0
 t3:=Try.underlying3
 a3:=Try.isAgg3
 z3:=Try.sizeOf3
 v3:=Try.zeroValue3
 t4:=Try.underlying4
 a4:=Try.isAgg4
 z4:=Try.sizeOf4
 v4:=Try.zeroValue4
 t5:=Try.underlying5
 a5:=Try.isAgg5
 z5:=Try.sizeOf5
 v5:=Try.zeroValue5
 t9:=Try.underlying9
 a9:=Try.isAgg9
 z9:=Try.sizeOf9
 v9:=Try.zeroValue9
 t22:=Try.underlying26
 a22:=Try.isAgg26
 z22:=Try.sizeOf26
 v22:=Try.zeroValue26
 t25:=Try.underlying65
 a25:=Try.isAgg65
 z25:=Try.sizeOf65
 v25:=Try.zeroValue65
 t39:=Try.underlying82
 a39:=Try.isAgg82
 z39:=Try.sizeOf82
 v39:=Try.zeroValue82
 t45:=Try.underlying87
 a45:=Try.isAgg87
 z45:=Try.sizeOf87
 v45:=Try.zeroValue87
 t46:=Try.underlying88
 a46:=Try.isAgg88
 z46:=Try.sizeOf88
 v46:=Try.zeroValue88
 t50:=Try.underlying92
 a50:=Try.isAgg92
 z50:=Try.sizeOf92
 v50:=Try.zeroValue92
 t53:=Try.underlying95
 a53:=Try.isAgg95
 z53:=Try.sizeOf95
 v53:=Try.zeroValue95
 t55:=Try.underlying97
 a55:=Try.isAgg97
 z55:=Try.sizeOf97
 v55:=Try.zeroValue97
 t66:=Try.underlying98
 a66:=Try.isAgg98
 z66:=Try.sizeOf98
 v66:=Try.zeroValue98
 t70:=Try.underlying102
 a70:=Try.isAgg102
 z70:=Try.sizeOf102
 v70:=Try.zeroValue102
 t76:=Try.underlying104
 a76:=Try.isAgg104
 z76:=Try.sizeOf104
 v76:=Try.zeroValue104
 t77:=Try.underlying105
 a77:=Try.isAgg105
 z77:=Try.sizeOf105
 v77:=Try.zeroValue105 }
def Try.lays215_ren:Go.Shelf.Ren:=⟨fun|215=>62|n=>n,fun|3=>3|4=>4|n=>n,fun|n=>n⟩
theorem Try.lays215:Go.Proofs.Lays.n215 Try.prog Try.lays215_ren:={
 mixed:=by kernel_rfl
 f215:=Try.func62.trans (congrArg some (by kernel_rfl))
 t3:=Try.underlying3
 a3:=Try.isAgg3
 z3:=Try.sizeOf3
 v3:=Try.zeroValue3
 t4:=Try.underlying4
 a4:=Try.isAgg4
 z4:=Try.sizeOf4
 v4:=Try.zeroValue4 }
open Go.RowKit in
/-- cmp.isNaN at int: 'x != x': false. (LAID: no walk: one application.) -/
theorem Try.cmp_isNaN_int (x:Int) (w:World) :
  Calls Try.prog 62 #[.int .i64 x] w fun e w'=>e=.returned (.bool false)∧w'=w:=Any.cmp_isNaN_int Try.lays215 x w
def Try.lays122_ren:Go.Shelf.Ren:=⟨fun|122=>56|215=>62|n=>n,fun|3=>3|4=>4|n=>n,fun|n=>n⟩
theorem Try.lays122:Go.Proofs.Lays.n122 Try.prog Try.lays122_ren:={
 mixed:=by kernel_rfl
 f122:=Try.func56.trans (congrArg some (by kernel_rfl))
 f215:=Try.func62.trans (congrArg some (by kernel_rfl))
 t3:=Try.underlying3
 a3:=Try.isAgg3
 z3:=Try.sizeOf3
 v3:=Try.zeroValue3
 t4:=Try.underlying4
 a4:=Try.isAgg4
 z4:=Try.sizeOf4
 v4:=Try.zeroValue4 }
open Go.RowKit in
/-- cmp.Compare at int: "Compare returns -1 if x is less than y, 0 if x equals y, +1 if x is greater than y.": IT RETURNS 'Lib.compareInt x y'; the world is as it was. (LAID: no walk: one application.) -/
theorem Try.cmp_Compare_int (x y:Int) (w:World) :
  Calls Try.prog 56 #[.int .i64 x,.int .i64 y] w fun e w'=>e=.returned (.int .i64 (Lib.compareInt x y))∧w'=w:=Any.cmp_Compare_int Try.lays122 x y w
end Go.Proofs
