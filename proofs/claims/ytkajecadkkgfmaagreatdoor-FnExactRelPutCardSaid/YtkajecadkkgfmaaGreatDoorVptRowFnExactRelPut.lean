-- Cut by prune.py, a program of this session, out of the texts of this claim: Lean checks it.
import Derived.Test.YtkajecadkkgfmaaGreatDoorRows
import Derived.Test.YtkajecadkkgfmaaGreatDoorQHead
import Derived.Test.YtkajecadkkgfmaaGreatDoorVptPex22
import Derived.Test.YtkajecadkkgfmaaGreatDoorVptPureFnExactRelPut
import Derived.Test.YtkajecadkkgfmaaGreatDoorVptQRead
import Derived.Test.YtkajecadkkgfmaaGreatDoorCards
import Derived.Test.YtkajecadkkgfmaaGreatDoorTie
import Derived.WalkKit
import Derived.ProofKit
import Derived.OpenShut
import Derived.ShutString
import Derived.ChangeOld
import Derived.Below
import Derived.SizedLaws
import Derived.Deep.DeepHandedRow
import Derived.LaidMore
import Derived.Lib.LaidTab
import Derived.SevenTiedAt
import Derived.Stop.LaidErr
namespace Go.Proofs.YtkajecadkkgfmaaGreatDoor.fnExactRelPut
open Go.ChangeShapes Go.WideShapes Go.ChangeAt Go.RowKit
open Go.ChangeMaps (open_string shut_string)
open Go.Proofs.YtkajecadkkgfmaaGreatDoor.Pe
open Go.Proofs.YtkajecadkkgfmaaGreatDoorW.PrintWords
set_option linter.unusedVariables false
theorem own : ownKnob Tryz.prog.godebug = none := by kernel_rfl
theorem laidOut : laidOutB Tryz.prog = true := by kernel_rfl
theorem rdT27 (w : World) : QRead.Rd Tryz.prog w 27 k27 okT27 := QRead.Rd.iso (fun x : S27 => x.f0) (fun p => ⟨p⟩) (fun _ => rfl) (QRead.Rd.struct (e := 1) Tryz.underlying27 (by kernel_rfl) (QRead.RdL.one (o := 0) (z := 1) (QRead.Rd.slice (B := 16) Tryz.underlying25 (by kernel_rfl) (by kernel_rfl) (QRead.Rd.string Tryz.underlying9)) (by kernel_rfl)))
theorem rdT24 (w : World) : QRead.Rd Tryz.prog w 24 k24 okT24 := QRead.Rd.iso (fun x : S24 => (x.f0,x.f1)) (fun p => ⟨p.1,p.2⟩) (fun _ => rfl) (QRead.Rd.struct (e := 2) Tryz.underlying24 (by kernel_rfl) (QRead.RdL.cons (o := 0) (z := 1) (QRead.Rd.int Tryz.underlying3) (by kernel_rfl) (QRead.RdL.one (o := 1) (z := 1) (QRead.Rd.slice (B := 24) Tryz.underlying22 (by kernel_rfl) (by kernel_rfl) (rdT27 _)) (by kernel_rfl))))
theorem tPow : (Tryz.prog.globals[2]?).map (·.type) = some 164 := by kernel_rfl
theorem gES : Tryz.prog.globalNamed "strconv.ErrSyntax" = some 0 := by kernel_rfl
theorem tES : (Tryz.prog.globals[0]?).map (·.type) = some 124 := by kernel_rfl
theorem gER : Tryz.prog.globalNamed "strconv.ErrRange" = some 1 := by kernel_rfl
theorem tER : (Tryz.prog.globals[1]?).map (·.type) = some 124 := by kernel_rfl
theorem tb_of (W : World) (hL : laidMetH Tryz.prog Rows.fnExactRelPutRow.laid W) (hSh : W.ShapedOpen Tryz.prog) : Tb W := by
 have hL' : laidMet Tryz.prog Rows.fnExactRelPutRow.laid W := hL
 constructor
 ·exact QRead.tab_in gPow tPow Tryz.underlying164 Tryz.underlying121 (by kernel_rfl) (by kernel_rfl) ⟨2,rfl⟩ hL'
 ·exact QRead.iface_in gES tES Tryz.underlying124 ⟨4,_,rfl⟩ hL'
 ·exact QRead.iface_in gER tER Tryz.underlying124 ⟨3,_,rfl⟩ hL'
 ·exact cell_of_shapedOpen_int (zero := #[.int .i64 0]) (t := 3) hSh (of_decide_eq_true (by kernel_rfl)) (by kernel_rfl) rfl (by kernel_rfl) (by kernel_rfl) Tryz.underlying3
theorem door_met (os : Os) (args : Array Value) : laidMetH Tryz.prog Rows.fnExactRelPutRow.laid ((World.doorLaid Tryz.prog 2000 os).forCall (fun _ _ => 0) ⟨#[],args,[]⟩).memory :=
 laidMetH_of_parts3 (fuel := 8) (laidMet_of_run' 8 (by kernel_rfl) (by kernel_rfl)) (by kernel_rfl) (by kernel_rfl)
set_option maxRecDepth 100000 in
theorem wit (os : Os) {H : Type} (enc : TypeId × Value → H) : ∃ (w : World) (tape : Tape) (i : Input),w.os = os ∧ (w.forCall tape i).Shaped Tryz.checked.prog ∧ i.vars = [] ∧ Input.okWide Tryz.checked.prog (w.forCall tape i) .any w.heap.size 3 i ∧
   (OpenSpec.ofChange Rows.fnExactRelPutSpec).preRow enc Tryz.checked.prog Tryz.f3 Rows.fnExactRelPutRow.domain false Rows.fnExactRelPutRow.laid (w.forCall tape i).memory i.args ∧ ({} : Assume).holds Tryz.checked.prog (lone (Frame.enter Tryz.checked.prog 3 i.args .normal) [] (w.forCall tape i)) := by
 obtain ⟨w,tape,i,h1,h2,h3,h4,⟨⟨h5,h6⟩,h7⟩,h8⟩ := ChangeSpec.witness_shaped (enc := enc) (C := Tryz.checked) (f := 3) (fn := Tryz.f3) (s := Rows.fnExactRelPutSpec) (conds := Rows.fnExactRelPutRow.domain) (apart := false) (os := os) (X := fun w _ => laidMetH Tryz.prog Rows.fnExactRelPutRow.laid w) false (World.doorLaid Tryz.prog 2000 os) #[.agg #[(.int .i64 0),(.slice none 0 0)],.agg #[(.slice none 0 0)]] 8 rfl (World.shaped_of_RefB (by kernel_rfl) (by kernel_rfl)) (by kernel_rfl) (by kernel_rfl) (by kernel_rfl) (door_met os _)
 exact ⟨w,tape,i,h1,h2,h3,h4,⟨⟨h5,h6⟩,h7⟩,h8⟩
set_option maxRecDepth 100000 in
theorem lifted (os : Os) (started : os.Started) (H : Type) (enc : TypeId × Value → H) (F : Stop.Interp) :
  ReturnsInHanded {} Tryz.checked os 3 .any ((OpenSpec.ofChange Rows.fnExactRelPutSpec).preRow enc Tryz.prog Tryz.f3 Rows.fnExactRelPutRow.domain false Rows.fnExactRelPutRow.laid) (((OpenSpec.ofChange Rows.fnExactRelPutSpec).at F).post enc Tryz.prog Tryz.f3 false true false false) := by
 refine returnsInHanded_of_row (C := Tryz.checked) (s := OpenSpec.ofChange Rows.fnExactRelPutSpec) own started (by kernel_rfl) Tryz.func3 (wit os enc) ?_
 intro W base args ds gs before hval0 hW hcnd _ hsz0 hL hSh _
 have hsz : (DataW.weightsEach Tryz.prog (Tryz.f3.params.toList ++ Rows.fnExactRelPutSpec.plain.varTypes Tryz.prog) (ds ++ gs)).all (· ≤ reachBytes) = true := hsz0
 have hval : ∀ (j : Nat) t v,Tryz.f3.params[j]? = some t → args[j]? = some v → Value.okWide Tryz.prog W .any base t v := hval0
 have hW' := hW
 obtain ⟨p,q,hA0,hV,rfl,hfz,hnd⟩ := hW
 have hA : DataW.TrodAll enc Tryz.prog W 0 (fun _ => true) true Tryz.f3.params.toList args.toList ds p := hA0
 rw [Tryz.params3] at hA hval hsz
 have hT : Tb W := tb_of W hL hSh
 obtain ⟨v0,vs0,d0,ds0,p0,q0,hargs,rfl,rfl,h0,r0⟩ := trodAll_cons hA
 obtain ⟨v1,vs1,d1,ds1,p1,q1,rfl,rfl,rfl,h1,r1⟩ := trodAll_cons r0
 obtain ⟨rfl,rfl,rfl⟩ := trodAll_nil r1
 obtain rfl : args = #[v0,v1] := by cases args; simp_all
 obtain ⟨rfl,rfl⟩ := trodVars_none hV
 have k0 := h0
 have lt0 : ∀ x ∈ p0,x.block < W.heap.size := by obtain ⟨m,hm⟩ := k0; exact DataW.trod_lt m _ _ _ hm
 obtain ⟨x0,hx0,ok0⟩ := QRead.arg (rdT24 _) h0 hsz (j := 0) rfl rfl
 obtain ⟨cs0,rfl,_⟩ := okWide_struct Tryz.underlying24 (hval 0 24 v0 rfl rfl)
 obtain ⟨A0_1,c0_1,hq0,l0_1,g0_1⟩ := k24_open hx0
 obtain rfl : cs0 = #[.int .i64 x0.f0,.slice A0_1 x0.f1.length c0_1] := Array.toList_inj.1 (by simpa [Value.cells] using hq0)
 have k1 := h1
 have lt1 : ∀ x ∈ p1,x.block < W.heap.size := by obtain ⟨m,hm⟩ := k1; exact DataW.trod_lt m _ _ _ hm
 obtain ⟨x1,hx1,ok1⟩ := QRead.arg (rdT27 _) h1 hsz (j := 1) rfl rfl
 obtain ⟨cs1,rfl,_⟩ := okWide_struct Tryz.underlying27 (hval 1 27 v1 rfl rfl)
 obtain ⟨A1_0,c1_0,hq1,l1_0,g1_0⟩ := k27_open hx1
 obtain rfl : cs1 = #[.slice A1_0 x1.f0.length c1_0] := Array.toList_inj.1 (by simpa [Value.cells] using hq1)
 clear hA0 hval0 hsz0 hsz
 refine (Pe.laws_FnExactRelPut.walk Pure.FnExactRelPut x0 x1 _ _ _ _ W g0_1 l0_1 g1_0 l1_0 ok0 ok1 hT).mono fun e W' ⟨he,bel⟩ => ?_
 subst he
 exact ⟨_,rfl,_,_,_,[],_,[],hW',trodAll_mk1 (shut_bool Tryz.underlying4 _),(trodAll_cons_mk (Below.trod laidOut (by kernel_rfl) (of_decide_eq_true (by kernel_rfl)) k0 bel lt0) (trodAll_cons_mk (Below.trod laidOut (by kernel_rfl) (of_decide_eq_true (by kernel_rfl)) k1 bel lt1) trodAll_mk0)),rfl,bel.frame _,fun h => by cases h⟩
theorem closed : joinedFacts Tryz.pinned.checked.prog 3 Tryz.f3 (OpenSpec.ofChange Rows.fnExactRelPutSpec).bare Rows.fnExactRelPutRow = true := by
 unfold joinedFacts
 rw [QHead.may_,QHead.final_,QHead.make_]
 kernel_rfl
theorem over : Rows.fnExactRelPutRow.holds Tryz.pinned (OpenSpec.ofChange Rows.fnExactRelPutSpec) :=
 OpenClaim.holds_of_cond 3 Tryz.f3 rfl rfl rfl rfl rfl rfl rfl ⟨rfl,rfl,rfl,rfl,rfl⟩ rfl rfl rfl rfl rfl (by kernel_rfl) Tryz.func3 closed
  (of_decide_eq_true (by kernel_rfl)) (by unfold Func.isWrapper; first | (rw [if_pos (by decide +kernel)]; kernel_rfl) | (rw [if_neg (by decide +kernel)]; exact ⟨rfl,rfl⟩))
  (fun os started H enc _ F => by rw [OpenClaim.pre_eq_preRow]; exact lifted os started H enc F)
theorem plain (f : FuncId) (fn : Func) (hf : Tryz.pinned.checked.prog.funcNamed "loop.example/g00531/laws.FnExactRelPut" = some f) (hfn : Tryz.pinned.checked.prog.funcs[f]? = some fn) :
  true = Tryz.pinned.checked.prog.looks [] ∧ ∀ (j : Nat) t,fn.params[j]? = some t → Tryz.pinned.checked.prog.wantsStandIn t = false := by
 obtain rfl : f = 3 := Option.some.inj ((show Tryz.prog.funcNamed "loop.example/g00531/laws.FnExactRelPut" = some 3 by kernel_rfl).symm.trans hf) |>.symm
 obtain rfl : fn = Tryz.f3 := (Option.some.inj (Tryz.func3.symm.trans hfn)).symm
 refine ⟨QHead.looks_,fun j t ht => ?_⟩
 rw [Tryz.params3] at ht
 have hm := Array.mem_of_getElem? ht
 simp only [List.mem_toArray,List.mem_cons,List.not_mem_nil,or_false] at hm
 rcases hm with rfl | rfl
 ·exact (show Tryz.prog.wantsStandIn 24 = false by kernel_rfl)
 ·exact (show Tryz.prog.wantsStandIn 27 = false by kernel_rfl)
theorem proved : Rows.FnExactRelPutCardSaid :=
 Claim7.holds_tied_plain_at .later [] _ _ _ _ over (fun _ h => by cases h) (by kernel_rfl) (fun _ h => by cases h) fnExactRelPut_row_tie rfl ⟨rfl,rfl⟩ QHead.main_ rfl plain (by kernel_rfl)
#print axioms proved
end Go.Proofs.YtkajecadkkgfmaaGreatDoor.fnExactRelPut
namespace Go.Proofs.YtkajecadkkgfmaaGreatDoor
/-- The row, under a short name, for the claim. -/
theorem fnExactRelPut_holds : Rows.FnExactRelPutCardSaid := fnExactRelPut.proved
end Go.Proofs.YtkajecadkkgfmaaGreatDoor
