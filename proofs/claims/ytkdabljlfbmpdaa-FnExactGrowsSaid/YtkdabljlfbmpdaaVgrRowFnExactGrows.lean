-- Cut by prune.py.
import Derived.Test.YtkdabljlfbmpdaaQHead
import Derived.Test.YtkdabljlfbmpdaaVgrPureFnExactGrows
import Derived.OpenShut
import Derived.ShutString
import Derived.Deep.DeepHandedRow
namespace Go.Proofs.Ytkdabljlfbmpdaa.fnExactGrows
open Go.ChangeShapes Go.WideShapes Go.ChangeAt RowKit
open Go.ChangeMaps (open_string shut_string)
open Pw
open YtkdabljlfbmpdaaW.PrintWords
set_option linter.unusedVariables false
theorem own:ownKnob Try.prog.godebug=none:=by kernel_rfl
theorem laidOut:laidOutB Try.prog=true:=by kernel_rfl
theorem rdT69 (w:World):QRead.Rd Try.prog w 69 k69 okT69:=QRead.Rd.iso (fun x:S69=>(x.f0,x.f1,x.f2)) (fun p=>⟨p.1,p.2.1,p.2.2⟩) (fun _=>rfl) (QRead.Rd.struct (e:=3) Try.underlying69 (by kernel_rfl) (QRead.RdL.cons (o:=0) (z:=1) (QRead.Rd.int Try.underlying3) (by kernel_rfl) (QRead.RdL.cons (o:=1) (z:=1) (QRead.Rd.string Try.underlying9) (by kernel_rfl) (QRead.RdL.one (o:=2) (z:=1) (QRead.Rd.slice (B:=8) Try.underlying23 (by kernel_rfl) (by kernel_rfl) (QRead.Rd.int Try.underlying3)) (by kernel_rfl)))))
theorem rdT25 (w:World):QRead.Rd Try.prog w 25 k25 okT25:=QRead.Rd.iso (fun x:S25=>(x.f0,x.f1,x.f2)) (fun p=>⟨p.1,p.2.1,p.2.2⟩) (fun _=>rfl) (QRead.Rd.struct (e:=3) Try.underlying25 (by kernel_rfl) (QRead.RdL.cons (o:=0) (z:=1) (QRead.Rd.int Try.underlying3) (by kernel_rfl) (QRead.RdL.cons (o:=1) (z:=1) (QRead.Rd.string Try.underlying9) (by kernel_rfl) (QRead.RdL.one (o:=2) (z:=1) (QRead.Rd.slice (B:=8) Try.underlying23 (by kernel_rfl) (by kernel_rfl) (QRead.Rd.int Try.underlying3)) (by kernel_rfl)))))
theorem rdT28 (w:World):QRead.Rd Try.prog w 28 k28 okT28:=QRead.Rd.iso (fun x:S28=>(x.f0,x.f1,x.f2)) (fun p=>⟨p.1,p.2.1,p.2.2⟩) (fun _=>rfl) (QRead.Rd.struct (e:=5) Try.underlying28 (by kernel_rfl) (QRead.RdL.cons (o:=0) (z:=1) (QRead.Rd.slice (B:=48) Try.underlying22 (by kernel_rfl) (by kernel_rfl) (rdT69 _)) (by kernel_rfl) (QRead.RdL.cons (o:=1) (z:=3) (rdT25 _) (by kernel_rfl) (QRead.RdL.one (o:=4) (z:=1) (QRead.Rd.slice (B:=48) Try.underlying26 (by kernel_rfl) (by kernel_rfl) (rdT25 _)) (by kernel_rfl)))))
set_option maxRecDepth 100000 in
theorem lifted (os:Os) (started:os.Started) (H:Type) (enc:TypeId×Value→H) (F:Stop.Interp) :
  ReturnsInHanded {} Try.checked os 5 .any ((OpenSpec.ofChange Rows.fnExactGrowsSpec).preRow enc Try.prog Try.f5 Rows.fnExactGrowsRow.domain false Rows.fnExactGrowsRow.laid) (((OpenSpec.ofChange Rows.fnExactGrowsSpec).at F).post enc Try.prog Try.f5 false true false false):=by
 refine returnsInHanded_of_row (C:=Try.checked) (s:=OpenSpec.ofChange Rows.fnExactGrowsSpec) own started (by kernel_rfl) Try.func5
  (witness_row_at (enc:=enc) (C:=Try.checked) false (World.holding Try.prog os ⟨#[],#[],[]⟩) #[.agg #[(.slice none 0 0),(.int .i64 0),(.string ⟨#[]⟩),(.slice none 0 0),(.slice none 0 0)]] rfl (by kernel_rfl) (by kernel_rfl) (by kernel_rfl)
   (OpenSpec.preRow_of_cond 8 (x:=([DataW.agg [DataW.nil,DataW.agg [DataW.lit (.int .i64 0),DataW.lit (.string []),DataW.nil],DataW.nil]],[],[])) (by kernel_rfl) (by kernel_rfl) (fun k hk=>by cases hk) (by kernel_rfl) (laidMet_of_run' 8 (by kernel_rfl) (by kernel_rfl)))) ?_
 intro W base args ds gs before hval0 hW hcnd _ hsz0 hL hSh _
 have hsz:(DataW.weightsEach Try.prog (Try.f5.params.toList ++ Rows.fnExactGrowsSpec.plain.varTypes Try.prog) (ds ++ gs)).all (·≤reachBytes)=true:=hsz0
 have hval:∀(j:Nat) t v,Try.f5.params[j]?=some t→args[j]?=some v→Value.okWide Try.prog W .any base t v:=hval0
 have hW':=hW
 obtain⟨p,q,hA0,hV,rfl,hfz,hnd⟩:=hW
 have hA:DataW.TrodAll enc Try.prog W 0 (fun _=>true) true Try.f5.params.toList args.toList ds p:=hA0
 rw [Try.params5]at hA hval hsz
 obtain⟨v0,vs0,d0,ds0,p0,q0,hargs,rfl,rfl,h0,r0⟩:=trodAll_cons hA
 obtain⟨rfl,rfl,rfl⟩:=trodAll_nil r0
 obtain rfl:args=#[v0]:=by cases args;simp_all
 obtain⟨rfl,rfl⟩:=trodVars_none hV
 have k0:=h0
 have lt0:∀ x∈p0,x.block < W.heap.size:=by obtain⟨m,hm⟩:=k0;exact DataW.trod_lt m _ _ _ hm
 obtain⟨x0,hx0,ok0⟩:=QRead.arg (rdT28 _) h0 hsz (j:=0) rfl rfl
 obtain⟨cs0,rfl,_⟩:=okWide_struct Try.underlying28 (hval 0 28 v0 rfl rfl)
 obtain⟨A0_0,c0_0,A0_3,c0_3,A0_4,c0_4,hq0,l0_0,g0_0,l0_3,g0_3,l0_4,g0_4⟩:=k28_open hx0
 obtain rfl:cs0=#[.slice A0_0 x0.f0.length c0_0,.int .i64 x0.f1.f0,.string x0.f1.f1,.slice A0_3 x0.f1.f2.length c0_3,.slice A0_4 x0.f2.length c0_4]:=Array.toList_inj.1 (by simpa [Value.cells] using hq0)
 clear hA0 hval0 hsz0 hsz
 refine(Pw.laws_FnExactGrows.walk Pure.FnExactGrows x0 _ _ _ _ _ _ W g0_0 l0_0 g0_3 l0_3 g0_4 l0_4 ok0).mono fun e W' ⟨he,bel⟩=>?_
 subst he
 exact⟨_,rfl,_,_,_,[],_,[],hW',trodAll_mk1 (shut_bool Try.underlying4 _),(trodAll_cons_mk (Below.trod laidOut (by kernel_rfl) (of_decide_eq_true (by kernel_rfl)) k0 bel lt0) trodAll_mk0),rfl,bel.frame _,fun h=>by cases h⟩
theorem closed:joinedFacts Try.pinned.checked.prog 5 Try.f5 (OpenSpec.ofChange Rows.fnExactGrowsSpec).bare Rows.fnExactGrowsRow=true:=by
 unfold joinedFacts
 rw [QHead.may_,QHead.final_,QHead.make_]
 kernel_rfl
theorem over:Rows.fnExactGrowsRow.holds Try.pinned (OpenSpec.ofChange Rows.fnExactGrowsSpec) :=
 OpenClaim.holds_of_cond 5 Try.f5 rfl rfl rfl rfl rfl rfl rfl ⟨rfl,rfl,rfl,rfl,rfl⟩ rfl rfl rfl rfl rfl (by kernel_rfl) Try.func5 closed
  (of_decide_eq_true (by kernel_rfl)) (by unfold Func.isWrapper;first|(rw [if_pos (by decide +kernel)];kernel_rfl)|(rw [if_neg (by decide +kernel)];exact⟨rfl,rfl⟩))
  (fun os started H enc _ F=>by rw [OpenClaim.pre_eq_preRow];exact lifted os started H enc F)
theorem proved:Rows.FnExactGrowsSaid:=over
#print axioms proved
end Go.Proofs.Ytkdabljlfbmpdaa.fnExactGrows
namespace Go.Proofs.Ytkdabljlfbmpdaa
theorem fnExactGrows_holds:Rows.FnExactGrowsSaid:=fnExactGrows.proved
end Go.Proofs.Ytkdabljlfbmpdaa
