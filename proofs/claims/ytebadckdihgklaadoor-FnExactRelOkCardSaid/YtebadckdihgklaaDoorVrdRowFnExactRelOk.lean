-- Cut by prune.py, a program of this session, out of the texts of this claim: Lean checks it.
import Derived.Test.YtebadckdihgklaaDoorRows
import Derived.Test.YtebadckdihgklaaDoorQHead
import Derived.Test.YtebadckdihgklaaDoorVrdPbx41
import Derived.Test.YtebadckdihgklaaDoorVrdPureFnExactRelOk
import Derived.Test.YtebadckdihgklaaDoorVrdQRead
import Derived.Test.YtebadckdihgklaaDoorCards
import Derived.Test.YtebadckdihgklaaDoorTie
import Derived.WalkKit
import Derived.ProofKit
import Derived.OpenShut
import Derived.ShutString
import Derived.ChangeOld
import Derived.Below
import Derived.SizedLaws
import Derived.Deep.DeepHandedRow
import Derived.LaidMore
import Derived.Lib.LaidTab
import Derived.SevenTiedAt
import Derived.Stop.LaidErr
namespace Go.Proofs.YtebadckdihgklaaDoor.fnExactRelOk
open Go.ChangeShapes Go.WideShapes Go.ChangeAt Go.RowKit
open Go.ChangeMaps (open_string shut_string)
open Go.Proofs.YtebadckdihgklaaDoor.Pb
open Go.Proofs.YtebadckdihgklaaDoorW.PrintWords
set_option linter.unusedVariables false
theorem own : ownKnob Tryd.prog.godebug = none := by kernel_rfl
theorem laidOut : laidOutB Tryd.prog = true := by kernel_rfl
theorem rdT33 (w : World) : QRead.Rd Tryd.prog w 33 k33 okT33 := QRead.Rd.iso (fun x : S33 => x.f0) (fun p => ⟨p⟩) (fun _ => rfl) (QRead.Rd.struct (e := 1) Tryd.underlying33 (by kernel_rfl) (QRead.RdL.one (o := 0) (z := 1) (QRead.Rd.slice (B := 16) Tryd.underlying31 (by kernel_rfl) (by kernel_rfl) (QRead.Rd.string Tryd.underlying9)) (by kernel_rfl)))
theorem rdT65 (w : World) : QRead.Rd Tryd.prog w 65 k65 okT65 := QRead.Rd.iso (fun x : S65 => (x.f0,x.f1)) (fun p => ⟨p.1,p.2⟩) (fun _ => rfl) (QRead.Rd.struct (e := 2) Tryd.underlying65 (by kernel_rfl) (QRead.RdL.cons (o := 0) (z := 1) (QRead.Rd.int Tryd.underlying3) (by kernel_rfl) (QRead.RdL.one (o := 1) (z := 1) (QRead.Rd.slice (B := 24) Tryd.underlying63 (by kernel_rfl) (by kernel_rfl) (rdT33 _)) (by kernel_rfl))))
theorem tPow : (Tryd.prog.globals[0]?).map (·.type) = some 130 := by kernel_rfl
theorem gES : Tryd.prog.globalNamed "strconv.ErrSyntax" = some 1 := by kernel_rfl
theorem tES : (Tryd.prog.globals[1]?).map (·.type) = some 96 := by kernel_rfl
theorem gER : Tryd.prog.globalNamed "strconv.ErrRange" = some 2 := by kernel_rfl
theorem tER : (Tryd.prog.globals[2]?).map (·.type) = some 96 := by kernel_rfl
theorem tb_of (W : World) (hL : laidMetH Tryd.prog Rows.fnExactRelOkRow.laid W) (hSh : W.ShapedOpen Tryd.prog) : Tb W := by
 have hL' : laidMet Tryd.prog Rows.fnExactRelOkRow.laid W := hL
 constructor
 ·exact QRead.tab_in gPow tPow Tryd.underlying130 Tryd.underlying117 (by kernel_rfl) (by kernel_rfl) ⟨2,rfl⟩ hL'
 ·exact QRead.iface_in gES tES Tryd.underlying96 ⟨4,_,rfl⟩ hL'
 ·exact QRead.iface_in gER tER Tryd.underlying96 ⟨3,_,rfl⟩ hL'
 ·exact cell_of_shapedOpen_int (zero := #[.int .i64 0]) (t := 3) hSh (of_decide_eq_true (by kernel_rfl)) (by kernel_rfl) rfl (by kernel_rfl) (by kernel_rfl) Tryd.underlying3
theorem door_met (os : Os) (args : Array Value) : laidMetH Tryd.prog Rows.fnExactRelOkRow.laid ((World.doorLaid Tryd.prog 2000 os).forCall (fun _ _ => 0) ⟨#[],args,[]⟩).memory :=
 laidMetH_of_parts3 (fuel := 8) (laidMet_of_run' 8 (by kernel_rfl) (by kernel_rfl)) (by kernel_rfl) (by kernel_rfl)
set_option maxRecDepth 100000 in
theorem wit (os : Os) {H : Type} (enc : TypeId × Value → H) : ∃ (w : World) (tape : Tape) (i : Input),w.os = os ∧ (w.forCall tape i).Shaped Tryd.checked.prog ∧ i.vars = [] ∧ Input.okWide Tryd.checked.prog (w.forCall tape i) .any w.heap.size 19 i ∧
   (OpenSpec.ofChange Rows.fnExactRelOkSpec).preRow enc Tryd.checked.prog Tryd.f19 Rows.fnExactRelOkRow.domain false Rows.fnExactRelOkRow.laid (w.forCall tape i).memory i.args ∧ ({} : Assume).holds Tryd.checked.prog (lone (Frame.enter Tryd.checked.prog 19 i.args .normal) [] (w.forCall tape i)) := by
 obtain ⟨w,tape,i,h1,h2,h3,h4,⟨⟨h5,h6⟩,h7⟩,h8⟩ := ChangeSpec.witness_shaped (enc := enc) (C := Tryd.checked) (f := 19) (fn := Tryd.f19) (s := Rows.fnExactRelOkSpec) (conds := Rows.fnExactRelOkRow.domain) (apart := false) (os := os) (X := fun w _ => laidMetH Tryd.prog Rows.fnExactRelOkRow.laid w) false (World.doorLaid Tryd.prog 2000 os) #[.agg #[(.int .i64 0),(.slice none 0 0)]] 8 rfl (World.shaped_of_RefB (by kernel_rfl) (by kernel_rfl)) (by kernel_rfl) (by kernel_rfl) (by kernel_rfl) (door_met os _)
 exact ⟨w,tape,i,h1,h2,h3,h4,⟨⟨h5,h6⟩,h7⟩,h8⟩
set_option maxRecDepth 100000 in
theorem lifted (os : Os) (started : os.Started) (H : Type) (enc : TypeId × Value → H) (F : Stop.Interp) :
  ReturnsInHanded {} Tryd.checked os 19 .any ((OpenSpec.ofChange Rows.fnExactRelOkSpec).preRow enc Tryd.prog Tryd.f19 Rows.fnExactRelOkRow.domain false Rows.fnExactRelOkRow.laid) (((OpenSpec.ofChange Rows.fnExactRelOkSpec).at F).post enc Tryd.prog Tryd.f19 false true false false) := by
 refine returnsInHanded_of_row (C := Tryd.checked) (s := OpenSpec.ofChange Rows.fnExactRelOkSpec) own started (by kernel_rfl) Tryd.func19 (wit os enc) ?_
 intro W base args ds gs before hval0 hW hcnd _ hsz0 hL hSh _
 have hsz : (DataW.weightsEach Tryd.prog (Tryd.f19.params.toList ++ Rows.fnExactRelOkSpec.plain.varTypes Tryd.prog) (ds ++ gs)).all (· ≤ reachBytes) = true := hsz0
 have hval : ∀ (j : Nat) t v,Tryd.f19.params[j]? = some t → args[j]? = some v → Value.okWide Tryd.prog W .any base t v := hval0
 have hW' := hW
 obtain ⟨p,q,hA0,hV,rfl,hfz,hnd⟩ := hW
 have hA : DataW.TrodAll enc Tryd.prog W 0 (fun _ => true) true Tryd.f19.params.toList args.toList ds p := hA0
 rw [Tryd.params19] at hA hval hsz
 have hT : Tb W := tb_of W hL hSh
 obtain ⟨v0,vs0,d0,ds0,p0,q0,hargs,rfl,rfl,h0,r0⟩ := trodAll_cons hA
 obtain ⟨rfl,rfl,rfl⟩ := trodAll_nil r0
 obtain rfl : args = #[v0] := by cases args; simp_all
 obtain ⟨rfl,rfl⟩ := trodVars_none hV
 have k0 := h0
 have lt0 : ∀ x ∈ p0,x.block < W.heap.size := by obtain ⟨m,hm⟩ := k0; exact DataW.trod_lt m _ _ _ hm
 obtain ⟨x0,hx0,ok0⟩ := QRead.arg (rdT65 _) h0 hsz (j := 0) rfl rfl
 obtain ⟨cs0,rfl,_⟩ := okWide_struct Tryd.underlying65 (hval 0 65 v0 rfl rfl)
 obtain ⟨A0_1,c0_1,hq0,l0_1,g0_1⟩ := k65_open hx0
 obtain rfl : cs0 = #[.int .i64 x0.f0,.slice A0_1 x0.f1.length c0_1] := Array.toList_inj.1 (by simpa [Value.cells] using hq0)
 clear hA0 hval0 hsz0 hsz
 refine (Pb.laws_FnExactRelOk.walk Pure.FnExactRelOk x0 _ _ W g0_1 l0_1 ok0 hT).mono fun e W' ⟨he,bel⟩ => ?_
 subst he
 exact ⟨_,rfl,_,_,_,[],_,[],hW',trodAll_mk1 (shut_bool Tryd.underlying4 _),(trodAll_cons_mk (Below.trod laidOut (by kernel_rfl) (of_decide_eq_true (by kernel_rfl)) k0 bel lt0) trodAll_mk0),rfl,bel.frame _,fun h => by cases h⟩
theorem closed : joinedFacts Tryd.pinned.checked.prog 19 Tryd.f19 (OpenSpec.ofChange Rows.fnExactRelOkSpec).bare Rows.fnExactRelOkRow = true := by
 unfold joinedFacts
 rw [QHead.may_,QHead.final_,QHead.make_]
 kernel_rfl
theorem over : Rows.fnExactRelOkRow.holds Tryd.pinned (OpenSpec.ofChange Rows.fnExactRelOkSpec) :=
 OpenClaim.holds_of_cond 19 Tryd.f19 rfl rfl rfl rfl rfl rfl rfl ⟨rfl,rfl,rfl,rfl,rfl⟩ rfl rfl rfl rfl rfl (by kernel_rfl) Tryd.func19 closed
  (of_decide_eq_true (by kernel_rfl)) (by unfold Func.isWrapper; first | (rw [if_pos (by decide +kernel)]; kernel_rfl) | (rw [if_neg (by decide +kernel)]; exact ⟨rfl,rfl⟩))
  (fun os started H enc _ F => by rw [OpenClaim.pre_eq_preRow]; exact lifted os started H enc F)
theorem plain (f : FuncId) (fn : Func) (hf : Tryd.pinned.checked.prog.funcNamed "loop.example/g00531/laws.FnExactRelOk" = some f) (hfn : Tryd.pinned.checked.prog.funcs[f]? = some fn) :
  true = Tryd.pinned.checked.prog.looks [] ∧ ∀ (j : Nat) t,fn.params[j]? = some t → Tryd.pinned.checked.prog.wantsStandIn t = false := by
 obtain rfl : f = 19 := Option.some.inj ((show Tryd.prog.funcNamed "loop.example/g00531/laws.FnExactRelOk" = some 19 by kernel_rfl).symm.trans hf) |>.symm
 obtain rfl : fn = Tryd.f19 := (Option.some.inj (Tryd.func19.symm.trans hfn)).symm
 refine ⟨QHead.looks_,fun j t ht => ?_⟩
 rw [Tryd.params19] at ht
 have hm := Array.mem_of_getElem? ht
 simp only [List.mem_toArray,List.mem_cons,List.not_mem_nil,or_false] at hm
 rcases hm with rfl
 ·exact (show Tryd.prog.wantsStandIn 65 = false by kernel_rfl)
theorem proved : Rows.FnExactRelOkCardSaid :=
 Claim7.holds_tied_plain_at .later [] _ _ _ _ over (fun _ h => by cases h) (by kernel_rfl) (fun _ h => by cases h) fnExactRelOk_row_tie rfl ⟨rfl,rfl⟩ QHead.main_ rfl plain (by kernel_rfl)
#print axioms proved
end Go.Proofs.YtebadckdihgklaaDoor.fnExactRelOk
namespace Go.Proofs.YtebadckdihgklaaDoor
/-- The row, under a short name, for the claim. -/
theorem fnExactRelOk_holds : Rows.FnExactRelOkCardSaid := fnExactRelOk.proved
end Go.Proofs.YtebadckdihgklaaDoor
