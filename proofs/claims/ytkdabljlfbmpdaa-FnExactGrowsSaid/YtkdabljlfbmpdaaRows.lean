/-
  No cell of these rows narrows 'for every input' (looked for: loops, veiled, ifaces, maps, wideKeys, modest, calm, conditions, laid).
  DERIVED. THE GIVEN ROWS OF THIS SEAT. 3 by the template 'for every input the law returns true; each argument reads behind the call as it read before'; 0 by the template 'total and deterministic' (their statements: YtkdabljlfbmpdaaTotals.lean).
  GIVEN WITH THE SEED: the statements are not yours to turn. If you find one false, say at which input.
  Laid BY PROGRAM, IN A SANDBOX (cutbox-rows.mjs): the forced cells as the released guide's own fill.sh prints them over the translation ff7d7a6687e7f843… (all of the seat's roots in one cut). By AI agents, Wed Nov 11 2026. No macro, syntax, notation, axiom, sorry.
-/
import Derived.Test.YtkdabljlfbmpdaaChecked
import GoSem.Claim
import GoSem.ClaimJoined
import GoSem.ClaimMapViews
import Derived.JoinedTies
import Derived.KernelRfl
namespace Go.Proofs.Ytkdabljlfbmpdaa
/- THE CELL 'sum', in the pinned program and in every row, IS THE sha256 OF THE DUMP (.gsa) THAT YtkdabljlfbmpdaaProg.lean LOADS. Nothing in Lean hashes anything: it is a label: what it is worth is what the hold of that sum in a sandbox is worth. -/
noncomputable def Try.pinned : Pinned := { name := "ytkdabljlfbmpdaa", sum := "ff7d7a6687e7f843efbd10f19dd6d0e7cf45f89ceee111a8275c7236917fe7f9", checked := Try.checked }
namespace Rows
def none {H : Type} : Left H := { results := [], args := [] }

/-- 'laws.FnExactExpVars': WHATEVER THE INPUT: true; the input reads as it did. -/
def fnExactExpVarsSpec : ChangeSpec := { name := "fnExactExpVars", fn := fun _ => fun
  | [d1, d2] => { results := [.lit (.bool true)], args := [d1, d2] }
  | _ => none }
def fnExactExpVarsRow : OpenClaim := { program := "ytkdabljlfbmpdaa", sum := "ff7d7a6687e7f843efbd10f19dd6d0e7cf45f89ceee111a8275c7236917fe7f9", func := "loop.example/g00531/laws.FnExactExpVars", spec := "fnExactExpVars", inPlace := ["internal/abi.NoEscape", "internal/bytealg.MakeNoZero"], unfollowed := true, recurses := true, apart := false }
def FnExactExpVarsSaid : Prop := fnExactExpVarsRow.holds Try.pinned (OpenSpec.ofChange fnExactExpVarsSpec)

/-- ITS FALSE NEIGHBOUR: 'it returns false'. Refute it at one input. -/
def fnExactExpVarsWrong : ChangeSpec := { name := "fnExactExpVars", fn := fun _ => fun
  | [d1, d2] => { results := [.lit (.bool false)], args := [d1, d2] }
  | _ => none }
def FnExactExpVarsWrongFalsely : Prop := fnExactExpVarsRow.holds Try.pinned (OpenSpec.ofChange fnExactExpVarsWrong)

/-- 'laws.FnExactOld': WHATEVER THE INPUT: true; the input reads as it did. -/
def fnExactOldSpec : ChangeSpec := { name := "fnExactOld", fn := fun _ => fun
  | [d] => { results := [.lit (.bool true)], args := [d] }
  | _ => none }
def fnExactOldRow : OpenClaim := { program := "ytkdabljlfbmpdaa", sum := "ff7d7a6687e7f843efbd10f19dd6d0e7cf45f89ceee111a8275c7236917fe7f9", func := "loop.example/g00531/laws.FnExactOld", spec := "fnExactOld", inPlace := ["internal/abi.NoEscape", "internal/bytealg.MakeNoZero"], unfollowed := true, recurses := true, apart := false }
def FnExactOldSaid : Prop := fnExactOldRow.holds Try.pinned (OpenSpec.ofChange fnExactOldSpec)

/-- ITS FALSE NEIGHBOUR: 'it returns false'. Refute it at one input. -/
def fnExactOldWrong : ChangeSpec := { name := "fnExactOld", fn := fun _ => fun
  | [d] => { results := [.lit (.bool false)], args := [d] }
  | _ => none }
def FnExactOldWrongFalsely : Prop := fnExactOldRow.holds Try.pinned (OpenSpec.ofChange fnExactOldWrong)

/-- 'laws.FnExactGrows': WHATEVER THE INPUT: true; the input reads as it did. -/
def fnExactGrowsSpec : ChangeSpec := { name := "fnExactGrows", fn := fun _ => fun
  | [d] => { results := [.lit (.bool true)], args := [d] }
  | _ => none }
def fnExactGrowsRow : OpenClaim := { program := "ytkdabljlfbmpdaa", sum := "ff7d7a6687e7f843efbd10f19dd6d0e7cf45f89ceee111a8275c7236917fe7f9", func := "loop.example/g00531/laws.FnExactGrows", spec := "fnExactGrows", inPlace := ["internal/abi.NoEscape", "internal/bytealg.MakeNoZero"], unfollowed := true, recurses := true, apart := false }
def FnExactGrowsSaid : Prop := fnExactGrowsRow.holds Try.pinned (OpenSpec.ofChange fnExactGrowsSpec)

/-- ITS FALSE NEIGHBOUR: 'it returns false'. Refute it at one input. -/
def fnExactGrowsWrong : ChangeSpec := { name := "fnExactGrows", fn := fun _ => fun
  | [d] => { results := [.lit (.bool false)], args := [d] }
  | _ => none }
def FnExactGrowsWrongFalsely : Prop := fnExactGrowsRow.holds Try.pinned (OpenSpec.ofChange fnExactGrowsWrong)

/- THE SECOND FORM. 'bulk': how many values and letters a reading holds, each counted each time it is reached (what is shared counts as often as it is met; a slice's spare places count too). A statement '..UptoSaid' is the law's where the arguments, and the package variables that the reading takes, are together of bulk at most 1048576: NARROWER than '..Said'. Prove '..Said' where nothing that the law and all that it calls make is longer than what came in: it says more and counts as full. Else prove '..UptoSaid'. A law counts once. -/
mutual
def uptoBulk {H : Type} : DataW H → Nat
  | .lit (.string bytes) => bytes.length + 1
  | .lit _ => 1
  | .nil => 1
  | .ptr d => uptoBulk d + 1
  | .slice elems spare => uptoBulkAll elems + uptoBulkAll spare + 1
  | .agg parts => uptoBulkAll parts + 1
  | .iface _ d => uptoBulk d + 1
  | .map entries => uptoBulkEntries entries + 1
  | .held _ => 1
def uptoBulkAll {H : Type} : List (DataW H) → Nat
  | [] => 0
  | d :: r => uptoBulk d + uptoBulkAll r
def uptoBulkEntries {H : Type} : List (Lit × DataW H) → Nat
  | [] => 0
  | x :: r => uptoBulkEntry x + uptoBulkEntries r
def uptoBulkEntry {H : Type} : Lit × DataW H → Nat
  | (.string bytes, d) => bytes.length + uptoBulk d + 1
  | (_, d) => uptoBulk d + 1
 end
def uptoSmall : (H : Type) → List (DataW H) → Bool := fun _ ds => decide (uptoBulkAll ds ≤ 1048576)
def OpenSpec.upto (s : _root_.Go.ChangeSpec) : _root_.Go.OpenSpec := { _root_.Go.OpenSpec.ofChange s with cond := some uptoSmall }

/-- 'laws.FnExactExpVars', WHERE WHAT IT READS IS OF BULK AT MOST 1048576: true; the input reads as it did. -/
def fnExactExpVarsUptoRow : OpenClaim := { program := "ytkdabljlfbmpdaa", sum := "ff7d7a6687e7f843efbd10f19dd6d0e7cf45f89ceee111a8275c7236917fe7f9", func := "loop.example/g00531/laws.FnExactExpVars", spec := "fnExactExpVars", inPlace := ["internal/abi.NoEscape", "internal/bytealg.MakeNoZero"], unfollowed := true, recurses := true, apart := false, narrowed := true }
def FnExactExpVarsUptoSaid : Prop := fnExactExpVarsUptoRow.holds Try.pinned (OpenSpec.upto fnExactExpVarsSpec)

/-- 'laws.FnExactOld', WHERE WHAT IT READS IS OF BULK AT MOST 1048576: true; the input reads as it did. -/
def fnExactOldUptoRow : OpenClaim := { program := "ytkdabljlfbmpdaa", sum := "ff7d7a6687e7f843efbd10f19dd6d0e7cf45f89ceee111a8275c7236917fe7f9", func := "loop.example/g00531/laws.FnExactOld", spec := "fnExactOld", inPlace := ["internal/abi.NoEscape", "internal/bytealg.MakeNoZero"], unfollowed := true, recurses := true, apart := false, narrowed := true }
def FnExactOldUptoSaid : Prop := fnExactOldUptoRow.holds Try.pinned (OpenSpec.upto fnExactOldSpec)

/-- 'laws.FnExactGrows', WHERE WHAT IT READS IS OF BULK AT MOST 1048576: true; the input reads as it did. -/
def fnExactGrowsUptoRow : OpenClaim := { program := "ytkdabljlfbmpdaa", sum := "ff7d7a6687e7f843efbd10f19dd6d0e7cf45f89ceee111a8275c7236917fe7f9", func := "loop.example/g00531/laws.FnExactGrows", spec := "fnExactGrows", inPlace := ["internal/abi.NoEscape", "internal/bytealg.MakeNoZero"], unfollowed := true, recurses := true, apart := false, narrowed := true }
def FnExactGrowsUptoSaid : Prop := fnExactGrowsUptoRow.holds Try.pinned (OpenSpec.upto fnExactGrowsSpec)

end Rows
end Go.Proofs.Ytkdabljlfbmpdaa
