-- Written for this claim by qprint.py, a program of this session (over the kit's print): Lean checks it.
import Derived.Test.YtbaghlplpkpknaaDoorProg
import Derived.Below
import Derived.Deep.Draws
import Derived.Deep.AppendLies
import Derived.Maps.AppendAt
import Derived.OwnWalk
import Derived.Laws.BytesArg
import Derived.Laws.MakeOwn
import Derived.Laws.OwnMore
import Derived.Deep.OwnRows
import Derived.Tactics
import Derived.Lib.ConvBytes
import Derived.Laws.Slices
import Derived.WalkKit
import Derived.KernelRfl
import Derived.RowKit3
import Derived.Deep.LoopGhost
import Derived.Deep.QuietTactic
import Derived.BigQuiet
import Derived.WideLaws
import Derived.Deep.DeepCutAuto
import Derived.Deep.CutBlock
import Derived.Deep.RegionHeld3
import Derived.Laws.Rows
import Derived.Lib.AppendStr
import Derived.ArgAppend
import Derived.Laws.IdiomCopy
import Derived.OrdersHeld
import Derived.Laws.BitsLemmas
import Derived.RowKit
import Derived.Test.YtbaghlplpkpknaaDoorWWords
import Derived.Test.YtbaghlplpkpknaaDoorWLast
import Derived.Test.YtbaghlplpkpknaaDoorWTab
import Derived.Test.YtbaghlplpkpknaaDoorWFour
import Derived.Test.YtbaghlplpkpknaaDoorWQPut
import Derived.Test.YtbaghlplpkpknaaDoorWApart
import Derived.Test.YtbaghlplpkpknaaDoorWArr
import Derived.Test.YtbaghlplpkpknaaDoorWZeros
import Derived.Test.YtbaghlplpkpknaaDoorWFoot
import Derived.Test.YtbaghlplpkpknaaDoorWKept
import Derived.Test.YtbaghlplpkpknaaDoorWShare
import Derived.Test.YtbaghlplpkpknaaDoorWN
import Derived.Test.YtbaghlplpkpknaaDoorWFootNe
import Derived.Test.YtbaghlplpkpknaaDoorWAt
import Derived.Test.YtbaghlplpkpknaaDoorWEqStruct
import Derived.Test.YtbaghlplpkpknaaDoorWRepsOne
import Derived.Test.YtbaghlplpkpknaaDoorWInv
import Derived.Test.YtbaghlplpkpknaaDoorWInvWords
import Derived.Test.YtbaghlplpkpknaaDoorWGuard
import Derived.Test.YtbaghlplpkpknaaDoorWNEv
import Derived.Test.YtbaghlplpkpknaaDoorWMore
import Derived.Test.YtbaghlplpkpknaaDoorShelf
import Derived.Lib.LaidTab
import Derived.WalkSmall
import Derived.Test.YtbaghlplpkpknaaDoorQRead
namespace Go.Proofs.YtbaghlplpkpknaaDoor.Pn
open Go.RowKit Go.Proofs.YtbaghlplpkpknaaDoorW.PrintWords Go.Proofs.YtbaghlplpkpknaaDoorW.PrintLast Go.Proofs.YtbaghlplpkpknaaDoorW.PrintMore
attribute [local go_sem] max2_int min2_int max_two min_two max_three min_three max_four min_four   -- for this text's walks alone
set_option linter.unusedVariables false
set_option linter.unusedSimpArgs false



def errW : Option Int → Value
  | none => .nilIface
  | some c => .iface 0 (.int .i64 c)
theorem errW_none : errW none = .nilIface := rfl
theorem errW_some (c : Int) : errW (some c) = .iface 0 (.int .i64 c) := rfl

theorem info5 : (Tryd.prog.info? 5).map (fun i => (i.zero, i.size, i.bytes)) = some (some (.int .u8 0), 1, 1) := by kernel_rfl
-- the values' own types

-- import=Derived.Lib.LaidTab,Derived.WalkSmall,Derived.Test.YtbaghlplpkpknaaDoorShelf,Derived.Test.YtbaghlplpkpknaaDoorQRead
/-- What the library's package-level variables hold: carried by every walk that comes to them. -/
structure Tb (w : World) : Prop where
  pow : Lib.TabIs Tryd.prog w "internal/strconv.uint64pow10" .u64 Lib.pow10Tab
theorem gPow : Tryd.prog.globalNamed "internal/strconv.uint64pow10" = some 0 := by kernel_rfl
theorem var_block {P : Program} {w : World} {n : String} {cs : Array Value} {g : Nat} (hg : P.globalNamed n = some g) (h : w.var? P n = some cs) : g < w.heap.size := by
  unfold World.var? at h
  rw [hg] at h
  simp only [Option.bind_some] at h
  split at h
  · rename_i hh
    exact (Array.getElem?_eq_some_iff.1 hh).1
  · cases h
theorem Tb.below {w w' : World} (h : Tb w) (hb : Below w.heap.size w w') : Tb w' := by
  constructor
  · exact var?_below hb gPow (var_block gPow h.pow) h.pow
theorem Tb.drawn {w w' : World} (h : Tb w) (hd : Drawn0 w w') : Tb w' := h.below hd.below

end Go.Proofs.YtbaghlplpkpknaaDoor.Pn
