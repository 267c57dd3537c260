-- Cut by prune.py, a program of this session, out of the texts of this claim: Lean checks it.
import Derived.Test.YtcckpjflbfofjaaRows
import Derived.Test.YtcckpjflbfofjaaQHead
import Derived.Test.YtcckpjflbfofjaaVclPdx20
import Derived.Test.YtcckpjflbfofjaaVclPureFnExactClosed
import Derived.Test.YtcckpjflbfofjaaVclQRead
import Derived.WalkKit
import Derived.ProofKit
import Derived.OpenShut
import Derived.ShutString
import Derived.ChangeOld
import Derived.Below
import Derived.SizedLaws
import Derived.Deep.DeepHandedRow
namespace Go.Proofs.Ytcckpjflbfofjaa.fnExactClosed
open Go.ChangeShapes Go.WideShapes Go.ChangeAt Go.RowKit
open Go.ChangeMaps (open_string shut_string)
open Go.Proofs.Ytcckpjflbfofjaa.Pd
open Go.Proofs.YtcckpjflbfofjaaW.PrintWords
set_option linter.unusedVariables false
theorem own:ownKnob Try.prog.godebug=none:=by kernel_rfl
theorem laidOut:laidOutB Try.prog=true:=by kernel_rfl
theorem rdT64 (w:World):QRead.Rd Try.prog w 64 k64 okT64:=QRead.Rd.iso (fun x:S64=>(x.f0,x.f1,x.f2)) (fun p=>⟨p.1,p.2.1,p.2.2⟩) (fun _=>rfl) (QRead.Rd.struct (e:=3) Try.underlying64 (by kernel_rfl) (QRead.RdL.cons (o:=0) (z:=1) (QRead.Rd.int Try.underlying3) (by kernel_rfl) (QRead.RdL.cons (o:=1) (z:=1) (QRead.Rd.int Try.underlying3) (by kernel_rfl) (QRead.RdL.one (o:=2) (z:=1) (QRead.Rd.bool Try.underlying4) (by kernel_rfl)))))
theorem rdT24 (w:World):QRead.Rd Try.prog w 24 k24 okT24:=QRead.Rd.iso (fun x:S24=>(x.f0,x.f1,x.f2)) (fun p=>⟨p.1,p.2.1,p.2.2⟩) (fun _=>rfl) (QRead.Rd.struct (e:=3) Try.underlying24 (by kernel_rfl) (QRead.RdL.cons (o:=0) (z:=1) (QRead.Rd.int Try.underlying3) (by kernel_rfl) (QRead.RdL.cons (o:=1) (z:=1) (QRead.Rd.int Try.underlying3) (by kernel_rfl) (QRead.RdL.one (o:=2) (z:=1) (QRead.Rd.slice (B:=24) Try.underlying22 (by kernel_rfl) (by kernel_rfl) (rdT64 _)) (by kernel_rfl)))))
set_option maxRecDepth 100000 in
theorem lifted (os:Os) (started:os.Started) (H:Type) (enc:TypeId×Value→H) (F:Stop.Interp) :
  ReturnsInHanded {} Try.checked os 6 .any ((OpenSpec.ofChange Rows.fnExactClosedSpec).preRow enc Try.prog Try.f6 Rows.fnExactClosedRow.domain false Rows.fnExactClosedRow.laid) (((OpenSpec.ofChange Rows.fnExactClosedSpec).at F).post enc Try.prog Try.f6 false true false false):=by
 refine returnsInHanded_of_row (C:=Try.checked) (s:=OpenSpec.ofChange Rows.fnExactClosedSpec) own started (by kernel_rfl) Try.func6
  (witness_row_at (enc:=enc) (C:=Try.checked) false (World.holding Try.prog os ⟨#[],#[],[]⟩) #[.slice none 0 0] rfl (by kernel_rfl) (by kernel_rfl) (by kernel_rfl)
   (OpenSpec.preRow_of_cond 8 (x:=([DataW.nil],[],[])) (by kernel_rfl) (by kernel_rfl) (fun k hk=>by cases hk) (by kernel_rfl) (laidMet_of_run' 8 (by kernel_rfl) (by kernel_rfl)))) ?_
 intro W base args ds gs before hval0 hW hcnd _ hsz0 hL hSh _
 have hsz:(DataW.weightsEach Try.prog (Try.f6.params.toList ++ Rows.fnExactClosedSpec.plain.varTypes Try.prog) (ds ++ gs)).all (·≤reachBytes)=true:=hsz0
 have hval:∀(j:Nat) t v,Try.f6.params[j]?=some t→args[j]?=some v→Value.okWide Try.prog W .any base t v:=hval0
 have hW':=hW
 obtain⟨p,q,hA0,hV,rfl,hfz,hnd⟩:=hW
 have hA:DataW.TrodAll enc Try.prog W 0 (fun _=>true) true Try.f6.params.toList args.toList ds p:=hA0
 rw [Try.params6]at hA hval hsz
 obtain⟨v0,vs0,d0,ds0,p0,q0,hargs,rfl,rfl,h0,r0⟩:=trodAll_cons hA
 obtain⟨rfl,rfl,rfl⟩:=trodAll_nil r0
 obtain rfl:args=#[v0]:=by cases args;simp_all
 obtain⟨rfl,rfl⟩:=trodVars_none hV
 have k0:=h0
 have lt0:∀ x∈p0,x.block < W.heap.size:=by obtain⟨m,hm⟩:=k0;exact DataW.trod_lt m _ _ _ hm
 obtain⟨x0,hx0,ok0⟩:=QRead.arg (QRead.Rd.slice (B:=40) Try.underlying42 (by kernel_rfl) (by kernel_rfl) (rdT24 _)) h0 hsz (j:=0) rfl rfl
 obtain⟨ad0,len0,cap0,rfl⟩:=okWide_slice Try.underlying42 (hval 0 42 v0 rfl rfl)
 obtain⟨A0,c0,hq0,hc0,hr0⟩:=hx0
 simp only [Value.cells,List.cons.injEq,Value.slice.injEq,and_true]at hq0
 obtain⟨rfl,rfl,rfl⟩:=hq0
 clear hA0 hval0 hsz0 hsz
 refine(Pd.laws_FnExactClosed.walk Pure.FnExactClosed x0 _ _ W hr0 hc0 ok0).mono fun e W' ⟨he,bel⟩=>?_
 subst he
 exact⟨_,rfl,_,_,_,[],_,[],hW',trodAll_mk1 (shut_bool Try.underlying4 _),(trodAll_cons_mk (Below.trod laidOut (by kernel_rfl) (of_decide_eq_true (by kernel_rfl)) k0 bel lt0) trodAll_mk0),rfl,bel.frame _,fun h=>by cases h⟩
theorem closed:joinedFacts Try.pinned.checked.prog 6 Try.f6 (OpenSpec.ofChange Rows.fnExactClosedSpec).bare Rows.fnExactClosedRow=true:=by
 unfold joinedFacts
 rw [QHead.may_,QHead.final_,QHead.make_]
 kernel_rfl
theorem over:Rows.fnExactClosedRow.holds Try.pinned (OpenSpec.ofChange Rows.fnExactClosedSpec) :=
 OpenClaim.holds_of_cond 6 Try.f6 rfl rfl rfl rfl rfl rfl rfl ⟨rfl,rfl,rfl,rfl,rfl⟩ rfl rfl rfl rfl rfl (by kernel_rfl) Try.func6 closed
  (of_decide_eq_true (by kernel_rfl)) (by unfold Func.isWrapper;first|(rw [if_pos (by decide +kernel)];kernel_rfl)|(rw [if_neg (by decide +kernel)];exact⟨rfl,rfl⟩))
  (fun os started H enc _ F=>by rw [OpenClaim.pre_eq_preRow];exact lifted os started H enc F)
theorem proved:Rows.FnExactClosedSaid:=over
#print axioms proved
end Go.Proofs.Ytcckpjflbfofjaa.fnExactClosed
namespace Go.Proofs.Ytcckpjflbfofjaa
/-- The row, under a short name, for the claim. -/
theorem fnExactClosed_holds:Rows.FnExactClosedSaid:=fnExactClosed.proved
end Go.Proofs.Ytcckpjflbfofjaa
