-- Cut by prune.py.
import Derived.Shelf.Strings.OnBuilder
import Derived.Shelf.Small.Bits
import Derived.Shelf.Sort.Plain
import Derived.Shelf.Slices.In.SortNone
import Derived.Test.YtkdabljlfbmpdaaProg
namespace Go.Proofs
open Go.Shelf
def Try.lays156_ren:Go.Shelf.Ren:=⟨fun|156=>69|165=>85|166=>86|169=>87|240=>94|241=>95|276=>107|277=>108|n=>n,fun|31=>30|9=>9|3=>3|4=>4|0=>0|20=>20|72=>102|76=>106|70=>100|37=>82|75=>105|127=>113|164=>127|5=>5|80=>108|n=>n,fun|n=>n⟩
theorem Try.lays156:Go.Proofs.Lays.n156 Try.prog Try.lays156_ren:={
 mixed:=by kernel_rfl
 f156:=Try.func69.trans (congrArg some (by kernel_rfl))
 f165:=Try.func85.trans (congrArg some (by kernel_rfl))
 f166:=Try.func86.trans (congrArg some (by kernel_rfl))
 f169:=Try.func87.trans (congrArg some (by kernel_rfl))
 f240:=Try.func94.trans (congrArg some (by kernel_rfl))
 f241:=Try.func95.trans (congrArg some (by kernel_rfl))
 f276:=Try.func107.trans (congrArg some (by kernel_rfl))
 f277:=Try.func108.trans (congrArg some (by kernel_rfl))
 t0:=Try.underlying0
 a0:=Try.isAgg0
 z0:=Try.sizeOf0
 v0:=Try.zeroValue0
 t3:=Try.underlying3
 a3:=Try.isAgg3
 z3:=Try.sizeOf3
 v3:=Try.zeroValue3
 t4:=Try.underlying4
 a4:=Try.isAgg4
 z4:=Try.sizeOf4
 v4:=Try.zeroValue4
 t9:=Try.underlying9
 a9:=Try.isAgg9
 z9:=Try.sizeOf9
 v9:=Try.zeroValue9
 t20:=Try.underlying20
 a20:=Try.isAgg20
 z20:=Try.sizeOf20
 v20:=Try.zeroValue20
 t31:=Try.underlying30
 a31:=Try.isAgg30
 z31:=Try.sizeOf30
 v31:=Try.zeroValue30
 t37:=Try.underlying82
 a37:=Try.isAgg82
 z37:=Try.sizeOf82
 v37:=Try.zeroValue82
 t70:=Try.underlying100
 a70:=Try.isAgg100
 z70:=Try.sizeOf100
 v70:=Try.zeroValue100
 t72:=Try.underlying102
 a72:=Try.isAgg102
 z72:=Try.sizeOf102
 v72:=Try.zeroValue102
 t75:=Try.underlying105
 a75:=Try.isAgg105
 z75:=Try.sizeOf105
 v75:=Try.zeroValue105
 t76:=Try.underlying106
 a76:=Try.isAgg106
 z76:=Try.sizeOf106
 v76:=Try.zeroValue106
 t127:=Try.underlying113
 a127:=Try.isAgg113
 z127:=Try.sizeOf113
 v127:=Try.zeroValue113
 t164:=Try.underlying127
 a164:=Try.isAgg127
 z164:=Try.sizeOf127
 v164:=Try.zeroValue127 }
theorem Try.Builder_Extra_156:Builder.Extra Try.prog Try.lays156_ren:={
 sizeBuilder:=by kernel_rfl
 liesBuilder:=by kernel_rfl
 t5:=Try.underlying5
 a5:=Try.isAgg5
 z5:=Try.sizeOf5
 v5:=Try.zeroValue5
 infoByte:=by kernel_rfl
 cellsByte:=by kernel_rfl
 sizeByte:=by kernel_rfl
 neB5:=by decide }
open Go.RowKit in
theorem Try.strings_Join_none (a:Option Addr) (c:Nat) (sep:ByteArray) (w:World) :
  Calls Try.prog 69 #[.slice a 0 c,.string sep] w fun e w'=>e=.returned (.string ⟨#[]⟩)∧w'=w:=Any.strings_Join_none Try.lays156 Try.Builder_Extra_156 a c sep w
open Go.RowKit in
theorem Try.strings_Join (bk o c:Nat) (xs:List ByteArray) (sep:ByteArray) (w:World) (hcells:∀(j:Nat) x,xs[j]?=some x→w.cell? ⟨bk,o + j,none⟩=some (.string x)) (hbk:bk < w.heap.size) (hN:xs.length≤140737488355328) (hcap:xs.length≤c) (hlen:(Lib.join (xs.map (·.data.toList)) sep.data.toList).length≤140737488355328) :
  Calls Try.prog 69 #[.slice (some ⟨bk,o,none⟩) xs.length c,.string sep] w fun e w'=>e=.returned (.string ⟨(Lib.join (xs.map (·.data.toList)) sep.data.toList).toArray⟩)∧Below w.heap.size w w':=Any.strings_Join Try.lays156 Try.Builder_Extra_156 bk o c xs sep w hcells hbk hN hcap hlen
def Try.lays189_ren:Go.Shelf.Ren:=⟨fun|189=>70|125=>89|257=>88|128=>105|129=>106|294=>96|295=>97|296=>98|297=>99|298=>100|299=>101|216=>102|300=>103|301=>104|328=>109|329=>110|330=>111|331=>112|332=>113|215=>114|343=>115|n=>n,fun|28=>23|3=>3|46=>111|0=>0|51=>124|53=>126|4=>4|183=>116|182=>115|131=>121|5=>5|9=>9|218=>130|222=>134|228=>136|229=>137|n=>n,fun|n=>n⟩
theorem Try.lays189:Go.Proofs.Lays.n189 Try.prog Try.lays189_ren:={
 mixed:=by kernel_rfl
 f125:=Try.func89.trans (congrArg some (by kernel_rfl))
 f128:=Try.func105.trans (congrArg some (by kernel_rfl))
 f129:=Try.func106.trans (congrArg some (by kernel_rfl))
 f189:=Try.func70.trans (congrArg some (by kernel_rfl))
 f215:=Try.func114.trans (congrArg some (by kernel_rfl))
 f216:=Try.func102.trans (congrArg some (by kernel_rfl))
 f257:=Try.func88.trans (congrArg some (by kernel_rfl))
 f294:=Try.func96.trans (congrArg some (by kernel_rfl))
 f295:=Try.func97.trans (congrArg some (by kernel_rfl))
 f296:=Try.func98.trans (congrArg some (by kernel_rfl))
 f297:=Try.func99.trans (congrArg some (by kernel_rfl))
 f298:=Try.func100.trans (congrArg some (by kernel_rfl))
 f299:=Try.func101.trans (congrArg some (by kernel_rfl))
 f300:=Try.func103.trans (congrArg some (by kernel_rfl))
 f301:=Try.func104.trans (congrArg some (by kernel_rfl))
 f328:=Try.func109.trans (congrArg some (by kernel_rfl))
 f329:=Try.func110.trans (congrArg some (by kernel_rfl))
 f330:=Try.func111.trans (congrArg some (by kernel_rfl))
 f331:=Try.func112.trans (congrArg some (by kernel_rfl))
 f332:=Try.func113.trans (congrArg some (by kernel_rfl))
 f343:=Try.func115.trans (congrArg some (by kernel_rfl))
 t0:=Try.underlying0
 a0:=Try.isAgg0
 z0:=Try.sizeOf0
 v0:=Try.zeroValue0
 t3:=Try.underlying3
 a3:=Try.isAgg3
 z3:=Try.sizeOf3
 v3:=Try.zeroValue3
 t4:=Try.underlying4
 a4:=Try.isAgg4
 z4:=Try.sizeOf4
 v4:=Try.zeroValue4
 t5:=Try.underlying5
 a5:=Try.isAgg5
 z5:=Try.sizeOf5
 v5:=Try.zeroValue5
 t9:=Try.underlying9
 a9:=Try.isAgg9
 z9:=Try.sizeOf9
 v9:=Try.zeroValue9
 t28:=Try.underlying23
 a28:=Try.isAgg23
 z28:=Try.sizeOf23
 v28:=Try.zeroValue23
 t46:=Try.underlying111
 a46:=Try.isAgg111
 z46:=Try.sizeOf111
 v46:=Try.zeroValue111
 t51:=Try.underlying124
 a51:=Try.isAgg124
 z51:=Try.sizeOf124
 v51:=Try.zeroValue124
 t53:=Try.underlying126
 a53:=Try.isAgg126
 z53:=Try.sizeOf126
 v53:=Try.zeroValue126
 t131:=Try.underlying121
 a131:=Try.isAgg121
 z131:=Try.sizeOf121
 v131:=Try.zeroValue121
 t182:=Try.underlying115
 a182:=Try.isAgg115
 z182:=Try.sizeOf115
 v182:=Try.zeroValue115
 t183:=Try.underlying116
 a183:=Try.isAgg116
 z183:=Try.sizeOf116
 v183:=Try.zeroValue116
 t218:=Try.underlying130
 a218:=Try.isAgg130
 z218:=Try.sizeOf130
 v218:=Try.zeroValue130
 t222:=Try.underlying134
 a222:=Try.isAgg134
 z222:=Try.sizeOf134
 v222:=Try.zeroValue134
 t228:=Try.underlying136
 a228:=Try.isAgg136
 z228:=Try.sizeOf136
 v228:=Try.zeroValue136
 t229:=Try.underlying137
 a229:=Try.isAgg137
 z229:=Try.sizeOf137
 v229:=Try.zeroValue137 }
open Go.Sort Go.RowKit in
theorem Try.slices_Sort_int (blk off cap:Nat) (zs:List Int) (w:World) (hH:Holds (Value.int .i64) w blk off zs.toArray) (hblk:blk < w.heap.size) (hsz:zs.length < 4611686018427387904) :
  Calls Try.prog 70 #[.slice (some ⟨blk,off,none⟩) zs.length cap] w fun e w' =>
   e=.returned (.tuple #[])∧∃ n os,w'=grow (putRow (Value.int .i64) (Sort.ahead w n) blk off (zs.mergeSort fun x y=>decide (x≤y)).toArray) os:=Any.slices_Sort_int Try.lays189 blk off cap zs w hH hblk hsz
open Go.RowKit Go.Sort in
theorem Try.slices_Sort_int_none (p:Option Addr) (cap:Nat) (w:World) :
  Calls Try.prog 70 #[.slice p 0 cap] w fun e w'=>e=.returned (.tuple #[])∧w'=w:=Any.slices_Sort_int_none Try.lays189 p cap w
end Go.Proofs
