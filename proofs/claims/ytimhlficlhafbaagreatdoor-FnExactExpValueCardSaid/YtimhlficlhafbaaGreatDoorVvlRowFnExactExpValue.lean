-- Cut by prune.py.
import Derived.Test.YtimhlficlhafbaaGreatDoorQHead
import Derived.Test.YtimhlficlhafbaaGreatDoorVvlPureFnExactExpValue
import Derived.Test.YtimhlficlhafbaaGreatDoorCards
import Derived.Test.YtimhlficlhafbaaGreatDoorTie
import Derived.ShutString
import Derived.Deep.DeepHandedRow
import Derived.LaidMore
namespace Go.Proofs.YtimhlficlhafbaaGreatDoor.QRead
open RowKit YtimhlficlhafbaaGreatDoorW.PrintWords Go.ChangeShapes Go.WideShapes Go.ChangeAt
theorem tab_in {P:Program} {W:World} {name:String} {k:IntKind} {zs:List Int} {g:Nat} {t e:TypeId} {n:Nat}
  (hg:P.globalNamed name=some g) (hty:(P.globals[g]?).map (·.type)=some t) (ht:P.underlying t=some (.array n e)) (he:P.underlying e=some (.int k)) (hce:P.cellsOf e=1) (hct:P.cellsOf t=n) :
  ∀ {l:List (String×DataW Unit)},(∃ i:Nat,l[i]?=some (name,Lib.tabData k zs))→laidMet P l W→Lib.TabIs P W name k zs
 | [],⟨i,hi⟩,_=>by simp at hi
 | x :: l,⟨0,hi⟩,h=>by
  simp only [List.getElem?_cons_zero,Option.some.injEq]at hi
  subst hi
  exact Lib.tabIs_of_head hg hty ht he hce hct h
 | x :: l,⟨i + 1,hi⟩,h=>tab_in hg hty ht he hce hct ⟨i,by simpa using hi⟩ h.tail
theorem trod_iface {H:Type} {enc:TypeId×Value→H} {P:Program} {w:World} {base:Nat} {sp:Nat→Bool} {held:Bool} {fuel:Nat} {t:TypeId} {ms:Array (String×TypeId)} {cs:List Value} {x:DataW H×List MemPlace}
  (ht:P.underlying t=some (.interface ms)) (h:DataW.trod enc P w base sp held fuel t cs=some x):∃ ev,cs=[ev]∧(ev=.nilIface∨∃ te pe,ev=.iface te pe):=by
 cases fuel with
 | zero=>simp [DataW.trod]at h
 | succ n =>
  unfold DataW.trod at h
  rw [ht]at h
  split at h <;> simp_all
theorem iface_in {P:Program} {W:World} {name:String} {g:Nat} {t:TypeId} {ms:Array (String×TypeId)} (hg:P.globalNamed name=some g) (hty:(P.globals[g]?).map (·.type)=some t) (ht:P.underlying t=some (.interface ms)) :
  ∀ {l:List (String×DataW Unit)},(∃(i:Nat) (d:DataW Unit),l[i]?=some (name,d))→laidMet P l W→∃ ev,W.cell? ⟨g,0,none⟩=some ev∧(ev=.nilIface∨∃ te pe,ev=.iface te pe)
 | [],⟨i,d,hi⟩,_=>by simp at hi
 | x :: l,⟨0,d,hi⟩,h=>by
  simp only [List.getElem?_cons_zero,Option.some.injEq]at hi
  subst hi
  obtain⟨ps,⟨g0,t0,cs0,f0,p0,q0,hg0,ht0,hv0,hd0,_,e0⟩,_,_⟩:=h
  obtain rfl:=Option.some.inj (hg.symm.trans hg0)
  obtain rfl:=Option.some.inj (hty.symm.trans ht0)
  obtain⟨ev,hc,hev⟩:=trod_iface ht hd0
  refine⟨ev, ?_,hev⟩
  have h1:=World.var?_cell hg0 hv0 0
  rw [h1]
  obtain⟨l0⟩:=cs0
  simp only at hc
  subst hc
  rfl
 | x :: l,⟨i + 1,d,hi⟩,h=>iface_in hg hty ht ⟨i,d,by simpa using hi⟩ h.tail
end Go.Proofs.YtimhlficlhafbaaGreatDoor.QRead
namespace Go.Proofs.YtimhlficlhafbaaGreatDoor.fnExactExpValue
open Go.ChangeShapes Go.WideShapes Go.ChangeAt RowKit
open Go.ChangeMaps (open_string shut_string)
open Pv
open YtimhlficlhafbaaGreatDoorW.PrintWords
set_option linter.unusedVariables false
theorem own:ownKnob Tryz.prog.godebug=none:=by kernel_rfl
theorem laidOut:laidOutB Tryz.prog=true:=by kernel_rfl
theorem rdT59 (w:World):QRead.Rd Tryz.prog w 59 k59 okT59:=QRead.Rd.iso (fun x:S59=>(x.f0,x.f1,x.f2)) (fun p=>⟨p.1,p.2.1,p.2.2⟩) (fun _=>rfl) (QRead.Rd.struct (e:=3) Tryz.underlying59 (by kernel_rfl) (QRead.RdL.cons (o:=0) (z:=1) (QRead.Rd.int Tryz.underlying3) (by kernel_rfl) (QRead.RdL.cons (o:=1) (z:=1) (QRead.Rd.string Tryz.underlying9) (by kernel_rfl) (QRead.RdL.one (o:=2) (z:=1) (QRead.Rd.slice (B:=8) Tryz.underlying23 (by kernel_rfl) (by kernel_rfl) (QRead.Rd.int Tryz.underlying3)) (by kernel_rfl)))))
theorem rdT25 (w:World):QRead.Rd Tryz.prog w 25 k25 okT25:=QRead.Rd.iso (fun x:S25=>(x.f0,x.f1,x.f2)) (fun p=>⟨p.1,p.2.1,p.2.2⟩) (fun _=>rfl) (QRead.Rd.struct (e:=3) Tryz.underlying25 (by kernel_rfl) (QRead.RdL.cons (o:=0) (z:=1) (QRead.Rd.int Tryz.underlying3) (by kernel_rfl) (QRead.RdL.cons (o:=1) (z:=1) (QRead.Rd.string Tryz.underlying9) (by kernel_rfl) (QRead.RdL.one (o:=2) (z:=1) (QRead.Rd.slice (B:=8) Tryz.underlying23 (by kernel_rfl) (by kernel_rfl) (QRead.Rd.int Tryz.underlying3)) (by kernel_rfl)))))
theorem rdT28 (w:World):QRead.Rd Tryz.prog w 28 k28 okT28:=QRead.Rd.iso (fun x:S28=>(x.f0,x.f1,x.f2)) (fun p=>⟨p.1,p.2.1,p.2.2⟩) (fun _=>rfl) (QRead.Rd.struct (e:=5) Tryz.underlying28 (by kernel_rfl) (QRead.RdL.cons (o:=0) (z:=1) (QRead.Rd.slice (B:=48) Tryz.underlying22 (by kernel_rfl) (by kernel_rfl) (rdT59 _)) (by kernel_rfl) (QRead.RdL.cons (o:=1) (z:=3) (rdT25 _) (by kernel_rfl) (QRead.RdL.one (o:=4) (z:=1) (QRead.Rd.slice (B:=48) Tryz.underlying26 (by kernel_rfl) (by kernel_rfl) (rdT25 _)) (by kernel_rfl)))))
theorem tPow:(Tryz.prog.globals[3]?).map (·.type)=some 155:=by kernel_rfl
theorem gES : Tryz.prog.globalNamed "strconv.ErrSyntax" = some 0 := by kernel_rfl
theorem tES:(Tryz.prog.globals[0]?).map (·.type)=some 94:=by kernel_rfl
theorem gER : Tryz.prog.globalNamed "strconv.ErrRange" = some 1 := by kernel_rfl
theorem tER:(Tryz.prog.globals[1]?).map (·.type)=some 94:=by kernel_rfl
theorem tb_of (W:World) (hL:laidMetH Tryz.prog Rows.fnExactExpValueRow.laid W) (hSh:W.ShapedOpen Tryz.prog):Tb W:=by
 have hL':laidMet Tryz.prog Rows.fnExactExpValueRow.laid W:=hL
 constructor
 ·exact QRead.tab_in gPow tPow Tryz.underlying155 Tryz.underlying124 (by kernel_rfl) (by kernel_rfl) ⟨2,rfl⟩ hL'
 ·exact QRead.iface_in gES tES Tryz.underlying94 ⟨4,_,rfl⟩ hL'
 ·exact QRead.iface_in gER tER Tryz.underlying94 ⟨3,_,rfl⟩ hL'
 ·exact cell_of_shapedOpen_int (zero:=#[.int .i64 0]) (t:=3) hSh (of_decide_eq_true (by kernel_rfl)) (by kernel_rfl) rfl (by kernel_rfl) (by kernel_rfl) Tryz.underlying3
theorem door_met (os:Os) (args:Array Value):laidMetH Tryz.prog Rows.fnExactExpValueRow.laid ((World.doorLaid Tryz.prog 2000 os).forCall (fun _ _=>0) ⟨#[],args,[]⟩).memory :=
 laidMetH_of_parts3 (fuel:=8) (laidMet_of_run' 8 (by kernel_rfl) (by kernel_rfl)) (by kernel_rfl) (by kernel_rfl)
set_option maxRecDepth 100000 in
theorem wit (os:Os) {H:Type} (enc:TypeId×Value→H):∃(w:World) (tape:Tape) (i:Input),w.os=os∧(w.forCall tape i).Shaped Tryz.checked.prog∧i.vars=[]∧Input.okWide Tryz.checked.prog (w.forCall tape i) .any w.heap.size 3 i ∧
   (OpenSpec.ofChange Rows.fnExactExpValueSpec).preRow enc Tryz.checked.prog Tryz.f3 Rows.fnExactExpValueRow.domain false Rows.fnExactExpValueRow.laid (w.forCall tape i).memory i.args∧({}:Assume).holds Tryz.checked.prog (lone (Frame.enter Tryz.checked.prog 3 i.args .normal) [] (w.forCall tape i)):=by
 obtain⟨w,tape,i,h1,h2,h3,h4,⟨⟨h5,h6⟩,h7⟩,h8⟩:=ChangeSpec.witness_shaped (enc:=enc) (C:=Tryz.checked) (f:=3) (fn:=Tryz.f3) (s:=Rows.fnExactExpValueSpec) (conds:=Rows.fnExactExpValueRow.domain) (apart:=false) (os:=os) (X:=fun w _=>laidMetH Tryz.prog Rows.fnExactExpValueRow.laid w) false (World.doorLaid Tryz.prog 2000 os) #[.agg #[(.slice none 0 0),(.int .i64 0),(.string ⟨#[]⟩),(.slice none 0 0),(.slice none 0 0)],.int .i64 0,.slice none 0 0,.slice none 0 0] 8 rfl (World.shaped_of_RefB (by kernel_rfl) (by kernel_rfl)) (by kernel_rfl) (by kernel_rfl) (by kernel_rfl) (door_met os _)
 exact⟨w,tape,i,h1,h2,h3,h4,⟨⟨h5,h6⟩,h7⟩,h8⟩
set_option maxRecDepth 100000 in
theorem lifted (os:Os) (started:os.Started) (H:Type) (enc:TypeId×Value→H) (F:Stop.Interp) :
  ReturnsInHanded {} Tryz.checked os 3 .any ((OpenSpec.ofChange Rows.fnExactExpValueSpec).preRow enc Tryz.prog Tryz.f3 Rows.fnExactExpValueRow.domain false Rows.fnExactExpValueRow.laid) (((OpenSpec.ofChange Rows.fnExactExpValueSpec).at F).post enc Tryz.prog Tryz.f3 false true false false):=by
 refine returnsInHanded_of_row (C:=Tryz.checked) (s:=OpenSpec.ofChange Rows.fnExactExpValueSpec) own started (by kernel_rfl) Tryz.func3 (wit os enc) ?_
 intro W base args ds gs before hval0 hW hcnd _ hsz0 hL hSh _
 have hsz:(DataW.weightsEach Tryz.prog (Tryz.f3.params.toList ++ Rows.fnExactExpValueSpec.plain.varTypes Tryz.prog) (ds ++ gs)).all (·≤reachBytes)=true:=hsz0
 have hval:∀(j:Nat) t v,Tryz.f3.params[j]?=some t→args[j]?=some v→Value.okWide Tryz.prog W .any base t v:=hval0
 have hW':=hW
 obtain⟨p,q,hA0,hV,rfl,hfz,hnd⟩:=hW
 have hA:DataW.TrodAll enc Tryz.prog W 0 (fun _=>true) true Tryz.f3.params.toList args.toList ds p:=hA0
 rw [Tryz.params3]at hA hval hsz
 have hT:Tb W:=tb_of W hL hSh
 obtain⟨v0,vs0,d0,ds0,p0,q0,hargs,rfl,rfl,h0,r0⟩:=trodAll_cons hA
 obtain⟨v1,vs1,d1,ds1,p1,q1,rfl,rfl,rfl,h1,r1⟩:=trodAll_cons r0
 obtain⟨v2,vs2,d2,ds2,p2,q2,rfl,rfl,rfl,h2,r2⟩:=trodAll_cons r1
 obtain⟨v3,vs3,d3,ds3,p3,q3,rfl,rfl,rfl,h3,r3⟩:=trodAll_cons r2
 obtain⟨rfl,rfl,rfl⟩:=trodAll_nil r3
 obtain rfl:args=#[v0,v1,v2,v3]:=by cases args;simp_all
 obtain⟨rfl,rfl⟩:=trodVars_none hV
 have k0:=h0
 have lt0:∀ x∈p0,x.block < W.heap.size:=by obtain⟨m,hm⟩:=k0;exact DataW.trod_lt m _ _ _ hm
 obtain⟨x0,hx0,ok0⟩:=QRead.arg (rdT28 _) h0 hsz (j:=0) rfl rfl
 obtain⟨cs0,rfl,_⟩:=okWide_struct Tryz.underlying28 (hval 0 28 v0 rfl rfl)
 obtain⟨A0_0,c0_0,A0_3,c0_3,A0_4,c0_4,hq0,l0_0,g0_0,l0_3,g0_3,l0_4,g0_4⟩:=k28_open hx0
 obtain rfl:cs0=#[.slice A0_0 x0.f0.length c0_0,.int .i64 x0.f1.f0,.string x0.f1.f1,.slice A0_3 x0.f1.f2.length c0_3,.slice A0_4 x0.f2.length c0_4]:=Array.toList_inj.1 (by simpa [Value.cells] using hq0)
 obtain⟨a1,rfl,rfl,rfl,w1⟩:=open_int Tryz.underlying3 (hval 1 3 v1 rfl rfl) h1
 have k2:=h2
 have lt2:∀ x∈p2,x.block < W.heap.size:=by obtain⟨m,hm⟩:=k2;exact DataW.trod_lt m _ _ _ hm
 obtain⟨x2,hx2,ok2⟩:=QRead.arg (QRead.Rd.slice (B:=16) Tryz.underlying29 (by kernel_rfl) (by kernel_rfl) (QRead.Rd.string Tryz.underlying9)) h2 hsz (j:=2) rfl rfl
 obtain⟨ad2,len2,cap2,rfl⟩:=okWide_slice Tryz.underlying29 (hval 2 29 v2 rfl rfl)
 obtain⟨A2,c2,hq2,hc2,hr2⟩:=hx2
 simp only [Value.cells,List.cons.injEq,Value.slice.injEq,and_true]at hq2
 obtain⟨rfl,rfl,rfl⟩:=hq2
 have k3:=h3
 have lt3:∀ x∈p3,x.block < W.heap.size:=by obtain⟨m,hm⟩:=k3;exact DataW.trod_lt m _ _ _ hm
 obtain⟨x3,hx3,ok3⟩:=QRead.arg (QRead.Rd.slice (B:=16) Tryz.underlying29 (by kernel_rfl) (by kernel_rfl) (QRead.Rd.string Tryz.underlying9)) h3 hsz (j:=3) rfl rfl
 obtain⟨ad3,len3,cap3,rfl⟩:=okWide_slice Tryz.underlying29 (hval 3 29 v3 rfl rfl)
 obtain⟨A3,c3,hq3,hc3,hr3⟩:=hx3
 simp only [Value.cells,List.cons.injEq,Value.slice.injEq,and_true]at hq3
 obtain⟨rfl,rfl,rfl⟩:=hq3
 clear hA0 hval0 hsz0 hsz
 refine(Pv.laws_FnExactExpValue.walk Pure.FnExactExpValue x0 a1 x2 x3 _ _ _ _ _ _ _ _ _ _ W g0_0 l0_0 g0_3 l0_3 g0_4 l0_4 hr2 hc2 hr3 hc3 ok0 w1 ok2 ok3 hT).mono fun e W' ⟨he,bel⟩=>?_
 subst he
 exact⟨_,rfl,_,_,_,[],_,[],hW',trodAll_mk1 (shut_bool Tryz.underlying4 _),(trodAll_cons_mk (Below.trod laidOut (by kernel_rfl) (of_decide_eq_true (by kernel_rfl)) k0 bel lt0) (trodAll_cons_mk (shut_int Tryz.underlying3 w1) (trodAll_cons_mk (Below.trod laidOut (by kernel_rfl) (of_decide_eq_true (by kernel_rfl)) k2 bel lt2) (trodAll_cons_mk (Below.trod laidOut (by kernel_rfl) (of_decide_eq_true (by kernel_rfl)) k3 bel lt3) trodAll_mk0)))),rfl,bel.frame _,fun h=>by cases h⟩
theorem closed:joinedFacts Tryz.pinned.checked.prog 3 Tryz.f3 (OpenSpec.ofChange Rows.fnExactExpValueSpec).bare Rows.fnExactExpValueRow=true:=by
 unfold joinedFacts
 rw [QHead.may_,QHead.final_,QHead.make_]
 kernel_rfl
theorem over:Rows.fnExactExpValueRow.holds Tryz.pinned (OpenSpec.ofChange Rows.fnExactExpValueSpec) :=
 OpenClaim.holds_of_cond 3 Tryz.f3 rfl rfl rfl rfl rfl rfl rfl ⟨rfl,rfl,rfl,rfl,rfl⟩ rfl rfl rfl rfl rfl (by kernel_rfl) Tryz.func3 closed
  (of_decide_eq_true (by kernel_rfl)) (by unfold Func.isWrapper;first|(rw [if_pos (by decide +kernel)];kernel_rfl)|(rw [if_neg (by decide +kernel)];exact⟨rfl,rfl⟩))
  (fun os started H enc _ F=>by rw [OpenClaim.pre_eq_preRow];exact lifted os started H enc F)
theorem plain (f : FuncId) (fn : Func) (hf : Tryz.pinned.checked.prog.funcNamed "loop.example/g00531/laws.FnExactExpValue" = some f) (hfn : Tryz.pinned.checked.prog.funcs[f]? = some fn) :
  true=Tryz.pinned.checked.prog.looks []∧∀(j:Nat) t,fn.params[j]?=some t→Tryz.pinned.checked.prog.wantsStandIn t=false:=by
 obtain rfl : f = 3 := Option.some.inj ((show Tryz.prog.funcNamed "loop.example/g00531/laws.FnExactExpValue" = some 3 by kernel_rfl).symm.trans hf) |>.symm
 obtain rfl:fn=Tryz.f3:=(Option.some.inj (Tryz.func3.symm.trans hfn)).symm
 refine⟨QHead.looks_,fun j t ht=>?_⟩
 rw [Tryz.params3]at ht
 have hm:=Array.mem_of_getElem? ht
 simp only [List.mem_toArray,List.mem_cons,List.not_mem_nil,or_false]at hm
 rcases hm with rfl|rfl|rfl|rfl
 ·exact(show Tryz.prog.wantsStandIn 28=false by kernel_rfl)
 ·exact(show Tryz.prog.wantsStandIn 3=false by kernel_rfl)
 ·exact(show Tryz.prog.wantsStandIn 29=false by kernel_rfl)
 ·exact(show Tryz.prog.wantsStandIn 29=false by kernel_rfl)
theorem proved:Rows.FnExactExpValueCardSaid :=
 Claim7.holds_tied_plain_at .later [] _ _ _ _ over (fun _ h=>by cases h) (by kernel_rfl) (fun _ h=>by cases h) fnExactExpValue_row_tie rfl ⟨rfl,rfl⟩ QHead.main_ rfl plain (by kernel_rfl)
#print axioms proved
end Go.Proofs.YtimhlficlhafbaaGreatDoor.fnExactExpValue
namespace Go.Proofs.YtimhlficlhafbaaGreatDoor
theorem fnExactExpValue_holds:Rows.FnExactExpValueCardSaid:=fnExactExpValue.proved
end Go.Proofs.YtimhlficlhafbaaGreatDoor
