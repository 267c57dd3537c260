-- Cut by prune.py, a program of this session, out of the texts of this claim: Lean checks it.
import Derived.Test.YtebadckdihgklaaDoorRows
import Derived.Test.YtebadckdihgklaaDoorQHead
import Derived.Test.YtebadckdihgklaaDoorVoaPbx30
import Derived.Test.YtebadckdihgklaaDoorVoaPureFnTermOrder
import Derived.Test.YtebadckdihgklaaDoorVoaQRead
import Derived.Test.YtebadckdihgklaaDoorCards
import Derived.Test.YtebadckdihgklaaDoorTie
import Derived.WalkKit
import Derived.ProofKit
import Derived.OpenShut
import Derived.ShutString
import Derived.ChangeOld
import Derived.Below
import Derived.SizedLaws
import Derived.Deep.DeepHandedRow
import Derived.LaidMore
import Derived.Lib.LaidTab
import Derived.SevenTiedAt
import Derived.Stop.LaidErr
namespace Go.Proofs.YtebadckdihgklaaDoor.fnTermOrder
open Go.ChangeShapes Go.WideShapes Go.ChangeAt Go.RowKit
open Go.ChangeMaps (open_string shut_string)
open Go.Proofs.YtebadckdihgklaaDoor.Pb
open Go.Proofs.YtebadckdihgklaaDoorW.PrintWords
set_option linter.unusedVariables false
theorem own : ownKnob Tryd.prog.godebug = none := by kernel_rfl
theorem laidOut : laidOutB Tryd.prog = true := by kernel_rfl
theorem tPow : (Tryd.prog.globals[0]?).map (·.type) = some 130 := by kernel_rfl
theorem gES : Tryd.prog.globalNamed "strconv.ErrSyntax" = some 1 := by kernel_rfl
theorem tES : (Tryd.prog.globals[1]?).map (·.type) = some 96 := by kernel_rfl
theorem gER : Tryd.prog.globalNamed "strconv.ErrRange" = some 2 := by kernel_rfl
theorem tER : (Tryd.prog.globals[2]?).map (·.type) = some 96 := by kernel_rfl
theorem tb_of (W : World) (hL : laidMetH Tryd.prog Rows.fnTermOrderRow.laid W) (hSh : W.ShapedOpen Tryd.prog) : Tb W := by
 have hL' : laidMet Tryd.prog Rows.fnTermOrderRow.laid W := hL
 constructor
 ·exact QRead.tab_in gPow tPow Tryd.underlying130 Tryd.underlying117 (by kernel_rfl) (by kernel_rfl) ⟨2,rfl⟩ hL'
 ·exact QRead.iface_in gES tES Tryd.underlying96 ⟨4,_,rfl⟩ hL'
 ·exact QRead.iface_in gER tER Tryd.underlying96 ⟨3,_,rfl⟩ hL'
 ·exact cell_of_shapedOpen_int (zero := #[.int .i64 0]) (t := 3) hSh (of_decide_eq_true (by kernel_rfl)) (by kernel_rfl) rfl (by kernel_rfl) (by kernel_rfl) Tryd.underlying3
theorem door_met (os : Os) (args : Array Value) : laidMetH Tryd.prog Rows.fnTermOrderRow.laid ((World.doorLaid Tryd.prog 2000 os).forCall (fun _ _ => 0) ⟨#[],args,[]⟩).memory :=
 laidMetH_of_parts3 (fuel := 8) (laidMet_of_run' 8 (by kernel_rfl) (by kernel_rfl)) (by kernel_rfl) (by kernel_rfl)
set_option maxRecDepth 100000 in
theorem wit (os : Os) {H : Type} (enc : TypeId × Value → H) : ∃ (w : World) (tape : Tape) (i : Input),w.os = os ∧ (w.forCall tape i).Shaped Tryd.checked.prog ∧ i.vars = [] ∧ Input.okWide Tryd.checked.prog (w.forCall tape i) .any w.heap.size 17 i ∧
   (OpenSpec.ofChange Rows.fnTermOrderSpec).preRow enc Tryd.checked.prog Tryd.f17 Rows.fnTermOrderRow.domain false Rows.fnTermOrderRow.laid (w.forCall tape i).memory i.args ∧ ({} : Assume).holds Tryd.checked.prog (lone (Frame.enter Tryd.checked.prog 17 i.args .normal) [] (w.forCall tape i)) := by
 obtain ⟨w,tape,i,h1,h2,h3,h4,⟨⟨h5,h6⟩,h7⟩,h8⟩ := ChangeSpec.witness_shaped (enc := enc) (C := Tryd.checked) (f := 17) (fn := Tryd.f17) (s := Rows.fnTermOrderSpec) (conds := Rows.fnTermOrderRow.domain) (apart := false) (os := os) (X := fun w _ => laidMetH Tryd.prog Rows.fnTermOrderRow.laid w) false (World.doorLaid Tryd.prog 2000 os) #[.slice none 0 0,.slice none 0 0] 8 rfl (World.shaped_of_RefB (by kernel_rfl) (by kernel_rfl)) (by kernel_rfl) (by kernel_rfl) (by kernel_rfl) (door_met os _)
 exact ⟨w,tape,i,h1,h2,h3,h4,⟨⟨h5,h6⟩,h7⟩,h8⟩
set_option maxRecDepth 100000 in
theorem lifted (os : Os) (started : os.Started) (H : Type) (enc : TypeId × Value → H) (F : Stop.Interp) :
  ReturnsInHanded {} Tryd.checked os 17 .any ((OpenSpec.ofChange Rows.fnTermOrderSpec).preRow enc Tryd.prog Tryd.f17 Rows.fnTermOrderRow.domain false Rows.fnTermOrderRow.laid) (((OpenSpec.ofChange Rows.fnTermOrderSpec).at F).post enc Tryd.prog Tryd.f17 false true false false) := by
 refine returnsInHanded_of_row (C := Tryd.checked) (s := OpenSpec.ofChange Rows.fnTermOrderSpec) own started (by kernel_rfl) Tryd.func17 (wit os enc) ?_
 intro W base args ds gs before hval0 hW hcnd _ hsz0 hL hSh _
 have hsz : (DataW.weightsEach Tryd.prog (Tryd.f17.params.toList ++ Rows.fnTermOrderSpec.plain.varTypes Tryd.prog) (ds ++ gs)).all (· ≤ reachBytes) = true := hsz0
 have hval : ∀ (j : Nat) t v,Tryd.f17.params[j]? = some t → args[j]? = some v → Value.okWide Tryd.prog W .any base t v := hval0
 have hW' := hW
 obtain ⟨p,q,hA0,hV,rfl,hfz,hnd⟩ := hW
 have hA : DataW.TrodAll enc Tryd.prog W 0 (fun _ => true) true Tryd.f17.params.toList args.toList ds p := hA0
 rw [Tryd.params17] at hA hval hsz
 have hT : Tb W := tb_of W hL hSh
 obtain ⟨v0,vs0,d0,ds0,p0,q0,hargs,rfl,rfl,h0,r0⟩ := trodAll_cons hA
 obtain ⟨v1,vs1,d1,ds1,p1,q1,rfl,rfl,rfl,h1,r1⟩ := trodAll_cons r0
 obtain ⟨rfl,rfl,rfl⟩ := trodAll_nil r1
 obtain rfl : args = #[v0,v1] := by cases args; simp_all
 obtain ⟨rfl,rfl⟩ := trodVars_none hV
 have k0 := h0
 have lt0 : ∀ x ∈ p0,x.block < W.heap.size := by obtain ⟨m,hm⟩ := k0; exact DataW.trod_lt m _ _ _ hm
 obtain ⟨x0,hx0,ok0⟩ := QRead.arg (QRead.Rd.slice (B := 1) Tryd.underlying24 (by kernel_rfl) (by kernel_rfl) (QRead.Rd.int Tryd.underlying5)) h0 hsz (j := 0) rfl rfl
 obtain ⟨ad0,len0,cap0,rfl⟩ := okWide_slice Tryd.underlying24 (hval 0 24 v0 rfl rfl)
 obtain ⟨A0,c0,hq0,hc0,hr0⟩ := hx0
 simp only [Value.cells,List.cons.injEq,Value.slice.injEq,and_true] at hq0
 obtain ⟨rfl,rfl,rfl⟩ := hq0
 have k1 := h1
 have lt1 : ∀ x ∈ p1,x.block < W.heap.size := by obtain ⟨m,hm⟩ := k1; exact DataW.trod_lt m _ _ _ hm
 obtain ⟨x1,hx1,ok1⟩ := QRead.arg (QRead.Rd.slice (B := 1) Tryd.underlying24 (by kernel_rfl) (by kernel_rfl) (QRead.Rd.int Tryd.underlying5)) h1 hsz (j := 1) rfl rfl
 obtain ⟨ad1,len1,cap1,rfl⟩ := okWide_slice Tryd.underlying24 (hval 1 24 v1 rfl rfl)
 obtain ⟨A1,c1,hq1,hc1,hr1⟩ := hx1
 simp only [Value.cells,List.cons.injEq,Value.slice.injEq,and_true] at hq1
 obtain ⟨rfl,rfl,rfl⟩ := hq1
 clear hA0 hval0 hsz0 hsz
 refine (Pb.laws_FnTermOrder.walk Pure.FnTermOrder x0 x1 _ _ _ _ W hr0 hc0 hr1 hc1 ok0 ok1 hT).mono fun e W' ⟨he,bel⟩ => ?_
 subst he
 exact ⟨_,rfl,_,_,_,[],_,[],hW',trodAll_mk1 (shut_bool Tryd.underlying4 _),(trodAll_cons_mk (Below.trod laidOut (by kernel_rfl) (of_decide_eq_true (by kernel_rfl)) k0 bel lt0) (trodAll_cons_mk (Below.trod laidOut (by kernel_rfl) (of_decide_eq_true (by kernel_rfl)) k1 bel lt1) trodAll_mk0)),rfl,bel.frame _,fun h => by cases h⟩
theorem closed : joinedFacts Tryd.pinned.checked.prog 17 Tryd.f17 (OpenSpec.ofChange Rows.fnTermOrderSpec).bare Rows.fnTermOrderRow = true := by
 unfold joinedFacts
 rw [QHead.may_,QHead.final_,QHead.make_]
 kernel_rfl
theorem over : Rows.fnTermOrderRow.holds Tryd.pinned (OpenSpec.ofChange Rows.fnTermOrderSpec) :=
 OpenClaim.holds_of_cond 17 Tryd.f17 rfl rfl rfl rfl rfl rfl rfl ⟨rfl,rfl,rfl,rfl,rfl⟩ rfl rfl rfl rfl rfl (by kernel_rfl) Tryd.func17 closed
  (of_decide_eq_true (by kernel_rfl)) (by unfold Func.isWrapper; first | (rw [if_pos (by decide +kernel)]; kernel_rfl) | (rw [if_neg (by decide +kernel)]; exact ⟨rfl,rfl⟩))
  (fun os started H enc _ F => by rw [OpenClaim.pre_eq_preRow]; exact lifted os started H enc F)
theorem plain (f : FuncId) (fn : Func) (hf : Tryd.pinned.checked.prog.funcNamed "loop.example/g00531/laws.FnTermOrder" = some f) (hfn : Tryd.pinned.checked.prog.funcs[f]? = some fn) :
  true = Tryd.pinned.checked.prog.looks [] ∧ ∀ (j : Nat) t,fn.params[j]? = some t → Tryd.pinned.checked.prog.wantsStandIn t = false := by
 obtain rfl : f = 17 := Option.some.inj ((show Tryd.prog.funcNamed "loop.example/g00531/laws.FnTermOrder" = some 17 by kernel_rfl).symm.trans hf) |>.symm
 obtain rfl : fn = Tryd.f17 := (Option.some.inj (Tryd.func17.symm.trans hfn)).symm
 refine ⟨QHead.looks_,fun j t ht => ?_⟩
 rw [Tryd.params17] at ht
 have hm := Array.mem_of_getElem? ht
 simp only [List.mem_toArray,List.mem_cons,List.not_mem_nil,or_false] at hm
 rcases hm with rfl | rfl
 ·exact (show Tryd.prog.wantsStandIn 24 = false by kernel_rfl)
 ·exact (show Tryd.prog.wantsStandIn 24 = false by kernel_rfl)
theorem proved : Rows.FnTermOrderCardSaid :=
 Claim7.holds_tied_plain_at .later [] _ _ _ _ over (fun _ h => by cases h) (by kernel_rfl) (fun _ h => by cases h) fnTermOrder_row_tie rfl ⟨rfl,rfl⟩ QHead.main_ rfl plain (by kernel_rfl)
#print axioms proved
end Go.Proofs.YtebadckdihgklaaDoor.fnTermOrder
namespace Go.Proofs.YtebadckdihgklaaDoor
/-- The row, under a short name, for the claim. -/
theorem fnTermOrder_holds : Rows.FnTermOrderCardSaid := fnTermOrder.proved
end Go.Proofs.YtebadckdihgklaaDoor
