-- Cut by prune.py, a program of this session, out of the texts of this claim: Lean checks it.
import Derived.Test.YtkajecadkkgfmaaGreatDoorRows
import Derived.Test.YtkajecadkkgfmaaGreatDoorQHead
import Derived.Test.YtkajecadkkgfmaaGreatDoorVkqPnx36
import Derived.Test.YtkajecadkkgfmaaGreatDoorVkqPureFnRelKept
import Derived.Test.YtkajecadkkgfmaaGreatDoorVkqQRead
import Derived.Test.YtkajecadkkgfmaaGreatDoorCards
import Derived.Test.YtkajecadkkgfmaaGreatDoorTie
import Derived.WalkKit
import Derived.ProofKit
import Derived.OpenShut
import Derived.ShutString
import Derived.ChangeOld
import Derived.Below
import Derived.SizedLaws
import Derived.Deep.DeepHandedRow
import Derived.LaidMore
import Derived.Lib.LaidTab
import Derived.SevenTiedAt
import Derived.Stop.LaidErr
namespace Go.Proofs.YtkajecadkkgfmaaGreatDoor.fnRelKept
open Go.ChangeShapes Go.WideShapes Go.ChangeAt Go.RowKit
open Go.ChangeMaps (open_string shut_string)
open Go.Proofs.YtkajecadkkgfmaaGreatDoor.Pn
open Go.Proofs.YtkajecadkkgfmaaGreatDoorW.PrintWords
set_option linter.unusedVariables false
theorem own:ownKnob Tryz.prog.godebug=none:=by kernel_rfl
theorem laidOut:laidOutB Tryz.prog=true:=by kernel_rfl
theorem tPow:(Tryz.prog.globals[2]?).map (·.type)=some 164:=by kernel_rfl
theorem gES : Tryz.prog.globalNamed "strconv.ErrSyntax" = some 0 := by kernel_rfl
theorem tES:(Tryz.prog.globals[0]?).map (·.type)=some 124:=by kernel_rfl
theorem gER : Tryz.prog.globalNamed "strconv.ErrRange" = some 1 := by kernel_rfl
theorem tER:(Tryz.prog.globals[1]?).map (·.type)=some 124:=by kernel_rfl
theorem tb_of (W:World) (hL:laidMetH Tryz.prog Rows.fnRelKeptRow.laid W) (hSh:W.ShapedOpen Tryz.prog):Tb W:=by
 have hL':laidMet Tryz.prog Rows.fnRelKeptRow.laid W:=hL
 constructor
 ·exact QRead.tab_in gPow tPow Tryz.underlying164 Tryz.underlying121 (by kernel_rfl) (by kernel_rfl) ⟨2,rfl⟩ hL'
 ·exact QRead.iface_in gES tES Tryz.underlying124 ⟨4,_,rfl⟩ hL'
 ·exact QRead.iface_in gER tER Tryz.underlying124 ⟨3,_,rfl⟩ hL'
 ·exact cell_of_shapedOpen_int (zero:=#[.int .i64 0]) (t:=3) hSh (of_decide_eq_true (by kernel_rfl)) (by kernel_rfl) rfl (by kernel_rfl) (by kernel_rfl) Tryz.underlying3
theorem door_met (os:Os) (args:Array Value):laidMetH Tryz.prog Rows.fnRelKeptRow.laid ((World.doorLaid Tryz.prog 2000 os).forCall (fun _ _=>0) ⟨#[],args,[]⟩).memory :=
 laidMetH_of_parts3 (fuel:=8) (laidMet_of_run' 8 (by kernel_rfl) (by kernel_rfl)) (by kernel_rfl) (by kernel_rfl)
set_option maxRecDepth 100000 in
theorem wit (os:Os) {H:Type} (enc:TypeId×Value→H):∃(w:World) (tape:Tape) (i:Input),w.os=os∧(w.forCall tape i).Shaped Tryz.checked.prog∧i.vars=[]∧Input.okWide Tryz.checked.prog (w.forCall tape i) .any w.heap.size 5 i ∧
   (OpenSpec.ofChange Rows.fnRelKeptSpec).preRow enc Tryz.checked.prog Tryz.f5 Rows.fnRelKeptRow.domain false Rows.fnRelKeptRow.laid (w.forCall tape i).memory i.args∧({}:Assume).holds Tryz.checked.prog (lone (Frame.enter Tryz.checked.prog 5 i.args .normal) [] (w.forCall tape i)):=by
 obtain⟨w,tape,i,h1,h2,h3,h4,⟨⟨h5,h6⟩,h7⟩,h8⟩:=ChangeSpec.witness_shaped (enc:=enc) (C:=Tryz.checked) (f:=5) (fn:=Tryz.f5) (s:=Rows.fnRelKeptSpec) (conds:=Rows.fnRelKeptRow.domain) (apart:=false) (os:=os) (X:=fun w _=>laidMetH Tryz.prog Rows.fnRelKeptRow.laid w) false (World.doorLaid Tryz.prog 2000 os) #[.slice none 0 0] 8 rfl (World.shaped_of_RefB (by kernel_rfl) (by kernel_rfl)) (by kernel_rfl) (by kernel_rfl) (by kernel_rfl) (door_met os _)
 exact⟨w,tape,i,h1,h2,h3,h4,⟨⟨h5,h6⟩,h7⟩,h8⟩
set_option maxRecDepth 100000 in
theorem lifted (os:Os) (started:os.Started) (H:Type) (enc:TypeId×Value→H) (F:Stop.Interp) :
  ReturnsInHanded {} Tryz.checked os 5 .any ((OpenSpec.ofChange Rows.fnRelKeptSpec).preRow enc Tryz.prog Tryz.f5 Rows.fnRelKeptRow.domain false Rows.fnRelKeptRow.laid) (((OpenSpec.ofChange Rows.fnRelKeptSpec).at F).post enc Tryz.prog Tryz.f5 false true false false):=by
 refine returnsInHanded_of_row (C:=Tryz.checked) (s:=OpenSpec.ofChange Rows.fnRelKeptSpec) own started (by kernel_rfl) Tryz.func5 (wit os enc) ?_
 intro W base args ds gs before hval0 hW hcnd _ hsz0 hL hSh _
 have hsz:(DataW.weightsEach Tryz.prog (Tryz.f5.params.toList ++ Rows.fnRelKeptSpec.plain.varTypes Tryz.prog) (ds ++ gs)).all (·≤reachBytes)=true:=hsz0
 have hval:∀(j:Nat) t v,Tryz.f5.params[j]?=some t→args[j]?=some v→Value.okWide Tryz.prog W .any base t v:=hval0
 have hW':=hW
 obtain⟨p,q,hA0,hV,rfl,hfz,hnd⟩:=hW
 have hA:DataW.TrodAll enc Tryz.prog W 0 (fun _=>true) true Tryz.f5.params.toList args.toList ds p:=hA0
 rw [Tryz.params5]at hA hval hsz
 have hT:Tb W:=tb_of W hL hSh
 obtain⟨v0,vs0,d0,ds0,p0,q0,hargs,rfl,rfl,h0,r0⟩:=trodAll_cons hA
 obtain⟨rfl,rfl,rfl⟩:=trodAll_nil r0
 obtain rfl:args=#[v0]:=by cases args;simp_all
 obtain⟨rfl,rfl⟩:=trodVars_none hV
 have k0:=h0
 have lt0:∀ x∈p0,x.block < W.heap.size:=by obtain⟨m,hm⟩:=k0;exact DataW.trod_lt m _ _ _ hm
 obtain⟨x0,hx0,ok0⟩:=QRead.arg (QRead.Rd.slice (B:=1) Tryz.underlying43 (by kernel_rfl) (by kernel_rfl) (QRead.Rd.int Tryz.underlying5)) h0 hsz (j:=0) rfl rfl
 obtain⟨ad0,len0,cap0,rfl⟩:=okWide_slice Tryz.underlying43 (hval 0 43 v0 rfl rfl)
 obtain⟨A0,c0,hq0,hc0,hr0⟩:=hx0
 simp only [Value.cells,List.cons.injEq,Value.slice.injEq,and_true]at hq0
 obtain⟨rfl,rfl,rfl⟩:=hq0
 clear hA0 hval0 hsz0 hsz
 refine(Pn.laws_FnRelKept.walk Pure.FnRelKept x0 _ _ W hr0 hc0 ok0 hT).mono fun e W' ⟨he,bel⟩=>?_
 subst he
 exact⟨_,rfl,_,_,_,[],_,[],hW',trodAll_mk1 (shut_bool Tryz.underlying4 _),(trodAll_cons_mk (Below.trod laidOut (by kernel_rfl) (of_decide_eq_true (by kernel_rfl)) k0 bel lt0) trodAll_mk0),rfl,bel.frame _,fun h=>by cases h⟩
theorem closed:joinedFacts Tryz.pinned.checked.prog 5 Tryz.f5 (OpenSpec.ofChange Rows.fnRelKeptSpec).bare Rows.fnRelKeptRow=true:=by
 unfold joinedFacts
 rw [QHead.may_,QHead.final_,QHead.make_]
 kernel_rfl
theorem over:Rows.fnRelKeptRow.holds Tryz.pinned (OpenSpec.ofChange Rows.fnRelKeptSpec) :=
 OpenClaim.holds_of_cond 5 Tryz.f5 rfl rfl rfl rfl rfl rfl rfl ⟨rfl,rfl,rfl,rfl,rfl⟩ rfl rfl rfl rfl rfl (by kernel_rfl) Tryz.func5 closed
  (of_decide_eq_true (by kernel_rfl)) (by unfold Func.isWrapper;first|(rw [if_pos (by decide +kernel)];kernel_rfl)|(rw [if_neg (by decide +kernel)];exact⟨rfl,rfl⟩))
  (fun os started H enc _ F=>by rw [OpenClaim.pre_eq_preRow];exact lifted os started H enc F)
theorem plain (f : FuncId) (fn : Func) (hf : Tryz.pinned.checked.prog.funcNamed "loop.example/g00531/laws.FnRelKept" = some f) (hfn : Tryz.pinned.checked.prog.funcs[f]? = some fn) :
  true=Tryz.pinned.checked.prog.looks []∧∀(j:Nat) t,fn.params[j]?=some t→Tryz.pinned.checked.prog.wantsStandIn t=false:=by
 obtain rfl : f = 5 := Option.some.inj ((show Tryz.prog.funcNamed "loop.example/g00531/laws.FnRelKept" = some 5 by kernel_rfl).symm.trans hf) |>.symm
 obtain rfl:fn=Tryz.f5:=(Option.some.inj (Tryz.func5.symm.trans hfn)).symm
 refine⟨QHead.looks_,fun j t ht=>?_⟩
 rw [Tryz.params5]at ht
 have hm:=Array.mem_of_getElem? ht
 simp only [List.mem_toArray,List.mem_cons,List.not_mem_nil,or_false]at hm
 rcases hm with rfl
 ·exact(show Tryz.prog.wantsStandIn 43=false by kernel_rfl)
theorem proved:Rows.FnRelKeptCardSaid :=
 Claim7.holds_tied_plain_at .later [] _ _ _ _ over (fun _ h=>by cases h) (by kernel_rfl) (fun _ h=>by cases h) fnRelKept_row_tie rfl ⟨rfl,rfl⟩ QHead.main_ rfl plain (by kernel_rfl)
#print axioms proved
end Go.Proofs.YtkajecadkkgfmaaGreatDoor.fnRelKept
namespace Go.Proofs.YtkajecadkkgfmaaGreatDoor
/-- The row, under a short name, for the claim. -/
theorem fnRelKept_holds:Rows.FnRelKeptCardSaid:=fnRelKept.proved
end Go.Proofs.YtkajecadkkgfmaaGreatDoor
