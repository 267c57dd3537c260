-- Cut by prune.py, a program of this session, out of the texts of this claim: Lean checks it.
import Derived.Shelf.Strings.Builder1
import Derived.Shelf.Strings.Builder2
import Derived.Shelf.Strings.OnBuilder
import Derived.Shelf.Strconv.Itoa0
import Derived.Test.YtamjmldfifofbaaProg
namespace Go.Proofs
open Go.Shelf
def Try.lays156_ren : Go.Shelf.Ren := ⟨fun | 156 => 61 | 165 => 82 | 166 => 83 | 169 => 84 | 240 => 94 | 241 => 95 | 276 => 101 | 277 => 102 | n => n,fun | 31 => 54 | 9 => 9 | 3 => 3 | 4 => 4 | 0 => 0 | 20 => 20 | 72 => 131 | 76 => 135 | 70 => 129 | 37 => 124 | 75 => 134 | 127 => 145 | 164 => 153 | 5 => 5 | 80 => 137 | n => n,fun | n => n⟩
theorem Try.lays156 : Go.Proofs.Lays.n156 Try.prog Try.lays156_ren := {
 mixed := by kernel_rfl
 f156 := Try.func61.trans (congrArg some (by kernel_rfl))
 f165 := Try.func82.trans (congrArg some (by kernel_rfl))
 f166 := Try.func83.trans (congrArg some (by kernel_rfl))
 f169 := Try.func84.trans (congrArg some (by kernel_rfl))
 f240 := Try.func94.trans (congrArg some (by kernel_rfl))
 f241 := Try.func95.trans (congrArg some (by kernel_rfl))
 f276 := Try.func101.trans (congrArg some (by kernel_rfl))
 f277 := Try.func102.trans (congrArg some (by kernel_rfl))
 t0 := Try.underlying0
 a0 := Try.isAgg0
 z0 := Try.sizeOf0
 v0 := Try.zeroValue0
 t3 := Try.underlying3
 a3 := Try.isAgg3
 z3 := Try.sizeOf3
 v3 := Try.zeroValue3
 t4 := Try.underlying4
 a4 := Try.isAgg4
 z4 := Try.sizeOf4
 v4 := Try.zeroValue4
 t9 := Try.underlying9
 a9 := Try.isAgg9
 z9 := Try.sizeOf9
 v9 := Try.zeroValue9
 t20 := Try.underlying20
 a20 := Try.isAgg20
 z20 := Try.sizeOf20
 v20 := Try.zeroValue20
 t31 := Try.underlying54
 a31 := Try.isAgg54
 z31 := Try.sizeOf54
 v31 := Try.zeroValue54
 t37 := Try.underlying124
 a37 := Try.isAgg124
 z37 := Try.sizeOf124
 v37 := Try.zeroValue124
 t70 := Try.underlying129
 a70 := Try.isAgg129
 z70 := Try.sizeOf129
 v70 := Try.zeroValue129
 t72 := Try.underlying131
 a72 := Try.isAgg131
 z72 := Try.sizeOf131
 v72 := Try.zeroValue131
 t75 := Try.underlying134
 a75 := Try.isAgg134
 z75 := Try.sizeOf134
 v75 := Try.zeroValue134
 t76 := Try.underlying135
 a76 := Try.isAgg135
 z76 := Try.sizeOf135
 v76 := Try.zeroValue135
 t127 := Try.underlying145
 a127 := Try.isAgg145
 z127 := Try.sizeOf145
 v127 := Try.zeroValue145
 t164 := Try.underlying153
 a164 := Try.isAgg153
 z164 := Try.sizeOf153
 v164 := Try.zeroValue153 }
theorem Try.Builder_Extra_156 : Builder.Extra Try.prog Try.lays156_ren := {
 sizeBuilder := by kernel_rfl
 liesBuilder := by kernel_rfl
 t5 := Try.underlying5
 a5 := Try.isAgg5
 z5 := Try.sizeOf5
 v5 := Try.zeroValue5
 infoByte := by kernel_rfl
 cellsByte := by kernel_rfl
 sizeByte := by kernel_rfl
 neB5 := by decide }
open Go.RowKit in
/-- No element: the empty string; the world is as it was. (Whatever the slice's address and capacity: a nil slice too.) (LAID: no walk: one application.) -/
theorem Try.strings_Join_none (a : Option Addr) (c : Nat) (sep : ByteArray) (w : World) :
  Calls Try.prog 61 #[.slice a 0 c,.string sep] w fun e w' => e = .returned (.string ⟨#[]⟩) ∧ w' = w := Any.strings_Join_none Try.lays156 Try.Builder_Extra_156 a c sep w
open Go.RowKit in
/-- strings.Join: "Join concatenates the elements of its first argument to create a single string. The separator string sep is placed between elements in the resulting string.": HOWEVER MANY ELEMENTS. Below the heap's end the world is as it was. (LAID: no walk: one application.) -/
theorem Try.strings_Join (bk o c : Nat) (xs : List ByteArray) (sep : ByteArray) (w : World) (hcells : ∀ (j : Nat) x,xs[j]? = some x → w.cell? ⟨bk,o + j,none⟩ = some (.string x)) (hbk : bk < w.heap.size) (hN : xs.length ≤ 140737488355328) (hcap : xs.length ≤ c) (hlen : (Lib.join (xs.map (·.data.toList)) sep.data.toList).length ≤ 140737488355328) :
  Calls Try.prog 61 #[.slice (some ⟨bk,o,none⟩) xs.length c,.string sep] w fun e w' => e = .returned (.string ⟨(Lib.join (xs.map (·.data.toList)) sep.data.toList).toArray⟩) ∧ Below w.heap.size w w' := Any.strings_Join Try.lays156 Try.Builder_Extra_156 bk o c xs sep w hcells hbk hN hcap hlen
end Go.Proofs
