-- Cut by prune.py, a program of this session, out of the texts of this claim: Lean checks it.
import Derived.Test.YtcckpjflbfofjaaRows
import Derived.Test.YtcckpjflbfofjaaQHead
import Derived.Test.YtcckpjflbfofjaaVcdPdx17
import Derived.Test.YtcckpjflbfofjaaVcdPureFnComposed
import Derived.Test.YtcckpjflbfofjaaVcdQRead
import Derived.WalkKit
import Derived.ProofKit
import Derived.OpenShut
import Derived.ShutString
import Derived.ChangeOld
import Derived.Below
import Derived.SizedLaws
import Derived.Deep.DeepHandedRow
namespace Go.Proofs.Ytcckpjflbfofjaa.fnComposed
open Go.ChangeShapes Go.WideShapes Go.ChangeAt Go.RowKit
open Go.ChangeMaps (open_string shut_string)
open Go.Proofs.Ytcckpjflbfofjaa.Pd
open Go.Proofs.YtcckpjflbfofjaaW.PrintWords
set_option linter.unusedVariables false
theorem own : ownKnob Try.prog.godebug = none := by kernel_rfl
theorem laidOut : laidOutB Try.prog = true := by kernel_rfl
set_option maxRecDepth 100000 in
theorem lifted (os : Os) (started : os.Started) (H : Type) (enc : TypeId × Value → H) (F : Stop.Interp) :
  ReturnsInHanded {} Try.checked os 5 .any ((OpenSpec.ofChange Rows.fnComposedSpec).preRow enc Try.prog Try.f5 Rows.fnComposedRow.domain false Rows.fnComposedRow.laid) (((OpenSpec.ofChange Rows.fnComposedSpec).at F).post enc Try.prog Try.f5 false true false false) := by
 refine returnsInHanded_of_row (C := Try.checked) (s := OpenSpec.ofChange Rows.fnComposedSpec) own started (by kernel_rfl) Try.func5
  (witness_row_at (enc := enc) (C := Try.checked) false (World.holding Try.prog os ⟨#[],#[],[]⟩) #[.slice none 0 0,.slice none 0 0] rfl (by kernel_rfl) (by kernel_rfl) (by kernel_rfl)
   (OpenSpec.preRow_of_cond 8 (x := ([DataW.nil,DataW.nil],[],[])) (by kernel_rfl) (by kernel_rfl) (fun k hk => by cases hk) (by kernel_rfl) (laidMet_of_run' 8 (by kernel_rfl) (by kernel_rfl)))) ?_
 intro W base args ds gs before hval0 hW hcnd _ hsz0 hL hSh _
 have hsz : (DataW.weightsEach Try.prog (Try.f5.params.toList ++ Rows.fnComposedSpec.plain.varTypes Try.prog) (ds ++ gs)).all (· ≤ reachBytes) = true := hsz0
 have hval : ∀ (j : Nat) t v,Try.f5.params[j]? = some t → args[j]? = some v → Value.okWide Try.prog W .any base t v := hval0
 have hW' := hW
 obtain ⟨p,q,hA0,hV,rfl,hfz,hnd⟩ := hW
 have hA : DataW.TrodAll enc Try.prog W 0 (fun _ => true) true Try.f5.params.toList args.toList ds p := hA0
 rw [Try.params5] at hA hval hsz
 obtain ⟨v0,vs0,d0,ds0,p0,q0,hargs,rfl,rfl,h0,r0⟩ := trodAll_cons hA
 obtain ⟨v1,vs1,d1,ds1,p1,q1,rfl,rfl,rfl,h1,r1⟩ := trodAll_cons r0
 obtain ⟨rfl,rfl,rfl⟩ := trodAll_nil r1
 obtain rfl : args = #[v0,v1] := by cases args; simp_all
 obtain ⟨rfl,rfl⟩ := trodVars_none hV
 have k0 := h0
 have lt0 : ∀ x ∈ p0,x.block < W.heap.size := by obtain ⟨m,hm⟩ := k0; exact DataW.trod_lt m _ _ _ hm
 obtain ⟨x0,hx0,ok0⟩ := QRead.arg (QRead.Rd.slice (B := 1) Try.underlying37 (by kernel_rfl) (by kernel_rfl) (QRead.Rd.int Try.underlying5)) h0 hsz (j := 0) rfl rfl
 obtain ⟨ad0,len0,cap0,rfl⟩ := okWide_slice Try.underlying37 (hval 0 37 v0 rfl rfl)
 obtain ⟨A0,c0,hq0,hc0,hr0⟩ := hx0
 simp only [Value.cells,List.cons.injEq,Value.slice.injEq,and_true] at hq0
 obtain ⟨rfl,rfl,rfl⟩ := hq0
 have k1 := h1
 have lt1 : ∀ x ∈ p1,x.block < W.heap.size := by obtain ⟨m,hm⟩ := k1; exact DataW.trod_lt m _ _ _ hm
 obtain ⟨x1,hx1,ok1⟩ := QRead.arg (QRead.Rd.slice (B := 1) Try.underlying37 (by kernel_rfl) (by kernel_rfl) (QRead.Rd.int Try.underlying5)) h1 hsz (j := 1) rfl rfl
 obtain ⟨ad1,len1,cap1,rfl⟩ := okWide_slice Try.underlying37 (hval 1 37 v1 rfl rfl)
 obtain ⟨A1,c1,hq1,hc1,hr1⟩ := hx1
 simp only [Value.cells,List.cons.injEq,Value.slice.injEq,and_true] at hq1
 obtain ⟨rfl,rfl,rfl⟩ := hq1
 clear hA0 hval0 hsz0 hsz
 refine (Pd.laws_FnComposed.walk Pure.FnComposed x0 x1 _ _ _ _ W hr0 hc0 hr1 hc1 ok0 ok1).mono fun e W' ⟨he,bel⟩ => ?_
 subst he
 exact ⟨_,rfl,_,_,_,[],_,[],hW',trodAll_mk1 (shut_bool Try.underlying4 _),(trodAll_cons_mk (Below.trod laidOut (by kernel_rfl) (of_decide_eq_true (by kernel_rfl)) k0 bel lt0) (trodAll_cons_mk (Below.trod laidOut (by kernel_rfl) (of_decide_eq_true (by kernel_rfl)) k1 bel lt1) trodAll_mk0)),rfl,bel.frame _,fun h => by cases h⟩
theorem closed : joinedFacts Try.pinned.checked.prog 5 Try.f5 (OpenSpec.ofChange Rows.fnComposedSpec).bare Rows.fnComposedRow = true := by
 unfold joinedFacts
 rw [QHead.may_,QHead.final_,QHead.make_]
 kernel_rfl
theorem over : Rows.fnComposedRow.holds Try.pinned (OpenSpec.ofChange Rows.fnComposedSpec) :=
 OpenClaim.holds_of_cond 5 Try.f5 rfl rfl rfl rfl rfl rfl rfl ⟨rfl,rfl,rfl,rfl,rfl⟩ rfl rfl rfl rfl rfl (by kernel_rfl) Try.func5 closed
  (of_decide_eq_true (by kernel_rfl)) (by unfold Func.isWrapper; first | (rw [if_pos (by decide +kernel)]; kernel_rfl) | (rw [if_neg (by decide +kernel)]; exact ⟨rfl,rfl⟩))
  (fun os started H enc _ F => by rw [OpenClaim.pre_eq_preRow]; exact lifted os started H enc F)
theorem proved : Rows.FnComposedSaid := over
#print axioms proved
end Go.Proofs.Ytcckpjflbfofjaa.fnComposed
namespace Go.Proofs.Ytcckpjflbfofjaa
/-- The row, under a short name, for the claim. -/
theorem fnComposed_holds : Rows.FnComposedSaid := fnComposed.proved
end Go.Proofs.Ytcckpjflbfofjaa
