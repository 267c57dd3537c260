-- Cut by prune.py, a program of this session, out of the texts of this claim: Lean checks it.
import Derived.Test.YtamjmldfifofbaaGreatDoorRows
import Derived.Test.YtamjmldfifofbaaGreatDoorQHead
import Derived.Test.YtamjmldfifofbaaGreatDoorVfaPfx20
import Derived.Test.YtamjmldfifofbaaGreatDoorVfaPureFnExactFactText
import Derived.Test.YtamjmldfifofbaaGreatDoorVfaQRead
import Derived.Test.YtamjmldfifofbaaGreatDoorCards
import Derived.Test.YtamjmldfifofbaaGreatDoorTie
import Derived.WalkKit
import Derived.ProofKit
import Derived.OpenShut
import Derived.ShutString
import Derived.ChangeOld
import Derived.Below
import Derived.SizedLaws
import Derived.Deep.DeepHandedRow
import Derived.LaidMore
import Derived.Lib.LaidTab
import Derived.SevenTiedAt
import Derived.Stop.LaidErr
namespace Go.Proofs.YtamjmldfifofbaaGreatDoor.fnExactFactText
open Go.ChangeShapes Go.WideShapes Go.ChangeAt Go.RowKit
open Go.ChangeMaps (open_string shut_string)
open Go.Proofs.YtamjmldfifofbaaGreatDoor.Pf
open Go.Proofs.YtamjmldfifofbaaGreatDoorW.PrintWords
set_option linter.unusedVariables false
theorem own : ownKnob Tryz.prog.godebug = none := by kernel_rfl
theorem laidOut : laidOutB Tryz.prog = true := by kernel_rfl
theorem rdT124 (w : World) : QRead.Rd Tryz.prog w 124 k124 okT124 := QRead.Rd.iso (fun x : S124 => (x.f0,x.f1)) (fun p => ⟨p.1,p.2⟩) (fun _ => rfl) (QRead.Rd.struct (e := 2) Tryz.underlying124 (by kernel_rfl) (QRead.RdL.cons (o := 0) (z := 1) (QRead.Rd.string Tryz.underlying9) (by kernel_rfl) (QRead.RdL.one (o := 1) (z := 1) (QRead.Rd.slice (B := 16) Tryz.underlying27 (by kernel_rfl) (by kernel_rfl) (QRead.Rd.string Tryz.underlying9)) (by kernel_rfl))))
theorem rdT63 (w : World) : QRead.Rd Tryz.prog w 63 k63 okT63 := QRead.Rd.iso (fun x : S63 => (x.f0,x.f1)) (fun p => ⟨p.1,p.2⟩) (fun _ => rfl) (QRead.Rd.struct (e := 2) Tryz.underlying63 (by kernel_rfl) (QRead.RdL.cons (o := 0) (z := 1) (QRead.Rd.string Tryz.underlying9) (by kernel_rfl) (QRead.RdL.one (o := 1) (z := 1) (QRead.Rd.slice (B := 40) Tryz.underlying61 (by kernel_rfl) (by kernel_rfl) (rdT124 _)) (by kernel_rfl))))
theorem rdT65 (w : World) : QRead.Rd Tryz.prog w 65 k65 okT65 := QRead.Rd.iso (fun x : S65 => (x.f0,x.f1,x.f2)) (fun p => ⟨p.1,p.2.1,p.2.2⟩) (fun _ => rfl) (QRead.Rd.struct (e := 3) Tryz.underlying65 (by kernel_rfl) (QRead.RdL.cons (o := 0) (z := 1) (QRead.Rd.string Tryz.underlying9) (by kernel_rfl) (QRead.RdL.cons (o := 1) (z := 1) (QRead.Rd.slice (B := 16) Tryz.underlying27 (by kernel_rfl) (by kernel_rfl) (QRead.Rd.string Tryz.underlying9)) (by kernel_rfl) (QRead.RdL.one (o := 2) (z := 1) (QRead.Rd.int Tryz.underlying3) (by kernel_rfl)))))
theorem rdT127 (w : World) : QRead.Rd Tryz.prog w 127 k127 okT127 := QRead.Rd.iso (fun x : S127 => (x.f0,x.f1,x.f2)) (fun p => ⟨p.1,p.2.1,p.2.2⟩) (fun _ => rfl) (QRead.Rd.struct (e := 3) Tryz.underlying127 (by kernel_rfl) (QRead.RdL.cons (o := 0) (z := 1) (QRead.Rd.int Tryz.underlying3) (by kernel_rfl) (QRead.RdL.cons (o := 1) (z := 1) (QRead.Rd.string Tryz.underlying9) (by kernel_rfl) (QRead.RdL.one (o := 2) (z := 1) (QRead.Rd.slice (B := 8) Tryz.underlying68 (by kernel_rfl) (by kernel_rfl) (QRead.Rd.int Tryz.underlying3)) (by kernel_rfl)))))
theorem rdT70 (w : World) : QRead.Rd Tryz.prog w 70 k70 okT70 := QRead.Rd.iso (fun x : S70 => (x.f0,x.f1,x.f2)) (fun p => ⟨p.1,p.2.1,p.2.2⟩) (fun _ => rfl) (QRead.Rd.struct (e := 3) Tryz.underlying70 (by kernel_rfl) (QRead.RdL.cons (o := 0) (z := 1) (QRead.Rd.int Tryz.underlying3) (by kernel_rfl) (QRead.RdL.cons (o := 1) (z := 1) (QRead.Rd.string Tryz.underlying9) (by kernel_rfl) (QRead.RdL.one (o := 2) (z := 1) (QRead.Rd.slice (B := 8) Tryz.underlying68 (by kernel_rfl) (by kernel_rfl) (QRead.Rd.int Tryz.underlying3)) (by kernel_rfl)))))
theorem rdT73 (w : World) : QRead.Rd Tryz.prog w 73 k73 okT73 := QRead.Rd.iso (fun x : S73 => (x.f0,x.f1,x.f2)) (fun p => ⟨p.1,p.2.1,p.2.2⟩) (fun _ => rfl) (QRead.Rd.struct (e := 5) Tryz.underlying73 (by kernel_rfl) (QRead.RdL.cons (o := 0) (z := 1) (QRead.Rd.slice (B := 48) Tryz.underlying67 (by kernel_rfl) (by kernel_rfl) (rdT127 _)) (by kernel_rfl) (QRead.RdL.cons (o := 1) (z := 3) (rdT70 _) (by kernel_rfl) (QRead.RdL.one (o := 4) (z := 1) (QRead.Rd.slice (B := 48) Tryz.underlying71 (by kernel_rfl) (by kernel_rfl) (rdT70 _)) (by kernel_rfl)))))
theorem rdT26 (w : World) : QRead.Rd Tryz.prog w 26 k26 okT26 := QRead.Rd.iso (fun x : S26 => (x.f0,x.f1,x.f2)) (fun p => ⟨p.1,p.2.1,p.2.2⟩) (fun _ => rfl) (QRead.Rd.struct (e := 3) Tryz.underlying26 (by kernel_rfl) (QRead.RdL.cons (o := 0) (z := 1) (QRead.Rd.slice (B := 40) Tryz.underlying22 (by kernel_rfl) (by kernel_rfl) (rdT63 _)) (by kernel_rfl) (QRead.RdL.cons (o := 1) (z := 1) (QRead.Rd.slice (B := 48) Tryz.underlying23 (by kernel_rfl) (by kernel_rfl) (rdT65 _)) (by kernel_rfl) (QRead.RdL.one (o := 2) (z := 1) (QRead.Rd.slice (B := 96) Tryz.underlying24 (by kernel_rfl) (by kernel_rfl) (rdT73 _)) (by kernel_rfl)))))
theorem rdT29 (w : World) : QRead.Rd Tryz.prog w 29 k29 okT29 := QRead.Rd.iso (fun x : S29 => x.f0) (fun p => ⟨p⟩) (fun _ => rfl) (QRead.Rd.struct (e := 1) Tryz.underlying29 (by kernel_rfl) (QRead.RdL.one (o := 0) (z := 1) (QRead.Rd.slice (B := 16) Tryz.underlying27 (by kernel_rfl) (by kernel_rfl) (QRead.Rd.string Tryz.underlying9)) (by kernel_rfl)))
theorem tPow : (Tryz.prog.globals[3]?).map (·.type) = some 170 := by kernel_rfl
theorem gES : Tryz.prog.globalNamed "strconv.ErrSyntax" = some 1 := by kernel_rfl
theorem tES : (Tryz.prog.globals[1]?).map (·.type) = some 114 := by kernel_rfl
theorem gER : Tryz.prog.globalNamed "strconv.ErrRange" = some 2 := by kernel_rfl
theorem tER : (Tryz.prog.globals[2]?).map (·.type) = some 114 := by kernel_rfl
theorem tb_of (W : World) (hL : laidMetH Tryz.prog Rows.fnExactFactTextRow.laid W) (hSh : W.ShapedOpen Tryz.prog) : Tb W := by
 have hL' : laidMet Tryz.prog Rows.fnExactFactTextRow.laid W := hL
 constructor
 ·exact QRead.tab_in gPow tPow Tryz.underlying170 Tryz.underlying151 (by kernel_rfl) (by kernel_rfl) ⟨2,rfl⟩ hL'
 ·exact QRead.iface_in gES tES Tryz.underlying114 ⟨4,_,rfl⟩ hL'
 ·exact QRead.iface_in gER tER Tryz.underlying114 ⟨3,_,rfl⟩ hL'
 ·exact cell_of_shapedOpen_int (zero := #[.int .i64 0]) (t := 3) hSh (of_decide_eq_true (by kernel_rfl)) (by kernel_rfl) rfl (by kernel_rfl) (by kernel_rfl) Tryz.underlying3
theorem door_met (os : Os) (args : Array Value) : laidMetH Tryz.prog Rows.fnExactFactTextRow.laid ((World.doorLaid Tryz.prog 2000 os).forCall (fun _ _ => 0) ⟨#[],args,[]⟩).memory :=
 laidMetH_of_parts3 (fuel := 8) (laidMet_of_run' 8 (by kernel_rfl) (by kernel_rfl)) (by kernel_rfl) (by kernel_rfl)
set_option maxRecDepth 100000 in
theorem wit (os : Os) {H : Type} (enc : TypeId × Value → H) : ∃ (w : World) (tape : Tape) (i : Input),w.os = os ∧ (w.forCall tape i).Shaped Tryz.checked.prog ∧ i.vars = [] ∧ Input.okWide Tryz.checked.prog (w.forCall tape i) .any w.heap.size 3 i ∧
   (OpenSpec.ofChange Rows.fnExactFactTextSpec).preRow enc Tryz.checked.prog Tryz.f3 Rows.fnExactFactTextRow.domain false Rows.fnExactFactTextRow.laid (w.forCall tape i).memory i.args ∧ ({} : Assume).holds Tryz.checked.prog (lone (Frame.enter Tryz.checked.prog 3 i.args .normal) [] (w.forCall tape i)) := by
 obtain ⟨w,tape,i,h1,h2,h3,h4,⟨⟨h5,h6⟩,h7⟩,h8⟩ := ChangeSpec.witness_shaped (enc := enc) (C := Tryz.checked) (f := 3) (fn := Tryz.f3) (s := Rows.fnExactFactTextSpec) (conds := Rows.fnExactFactTextRow.domain) (apart := false) (os := os) (X := fun w _ => laidMetH Tryz.prog Rows.fnExactFactTextRow.laid w) false (World.doorLaid Tryz.prog 2000 os) #[.agg #[(.slice none 0 0),(.slice none 0 0),(.slice none 0 0)],.int .i64 0,.agg #[(.slice none 0 0)]] 8 rfl (World.shaped_of_RefB (by kernel_rfl) (by kernel_rfl)) (by kernel_rfl) (by kernel_rfl) (by kernel_rfl) (door_met os _)
 exact ⟨w,tape,i,h1,h2,h3,h4,⟨⟨h5,h6⟩,h7⟩,h8⟩
set_option maxRecDepth 100000 in
theorem lifted (os : Os) (started : os.Started) (H : Type) (enc : TypeId × Value → H) (F : Stop.Interp) :
  ReturnsInHanded {} Tryz.checked os 3 .any ((OpenSpec.ofChange Rows.fnExactFactTextSpec).preRow enc Tryz.prog Tryz.f3 Rows.fnExactFactTextRow.domain false Rows.fnExactFactTextRow.laid) (((OpenSpec.ofChange Rows.fnExactFactTextSpec).at F).post enc Tryz.prog Tryz.f3 false true false false) := by
 refine returnsInHanded_of_row (C := Tryz.checked) (s := OpenSpec.ofChange Rows.fnExactFactTextSpec) own started (by kernel_rfl) Tryz.func3 (wit os enc) ?_
 intro W base args ds gs before hval0 hW hcnd _ hsz0 hL hSh _
 have hsz : (DataW.weightsEach Tryz.prog (Tryz.f3.params.toList ++ Rows.fnExactFactTextSpec.plain.varTypes Tryz.prog) (ds ++ gs)).all (· ≤ reachBytes) = true := hsz0
 have hval : ∀ (j : Nat) t v,Tryz.f3.params[j]? = some t → args[j]? = some v → Value.okWide Tryz.prog W .any base t v := hval0
 have hW' := hW
 obtain ⟨p,q,hA0,hV,rfl,hfz,hnd⟩ := hW
 have hA : DataW.TrodAll enc Tryz.prog W 0 (fun _ => true) true Tryz.f3.params.toList args.toList ds p := hA0
 rw [Tryz.params3] at hA hval hsz
 have hT : Tb W := tb_of W hL hSh
 obtain ⟨v0,vs0,d0,ds0,p0,q0,hargs,rfl,rfl,h0,r0⟩ := trodAll_cons hA
 obtain ⟨v1,vs1,d1,ds1,p1,q1,rfl,rfl,rfl,h1,r1⟩ := trodAll_cons r0
 obtain ⟨v2,vs2,d2,ds2,p2,q2,rfl,rfl,rfl,h2,r2⟩ := trodAll_cons r1
 obtain ⟨rfl,rfl,rfl⟩ := trodAll_nil r2
 obtain rfl : args = #[v0,v1,v2] := by cases args; simp_all
 obtain ⟨rfl,rfl⟩ := trodVars_none hV
 have k0 := h0
 have lt0 : ∀ x ∈ p0,x.block < W.heap.size := by obtain ⟨m,hm⟩ := k0; exact DataW.trod_lt m _ _ _ hm
 obtain ⟨x0,hx0,ok0⟩ := QRead.arg (rdT26 _) h0 hsz (j := 0) rfl rfl
 obtain ⟨cs0,rfl,_⟩ := okWide_struct Tryz.underlying26 (hval 0 26 v0 rfl rfl)
 obtain ⟨A0_0,c0_0,A0_1,c0_1,A0_2,c0_2,hq0,l0_0,g0_0,l0_1,g0_1,l0_2,g0_2⟩ := k26_open hx0
 obtain rfl : cs0 = #[.slice A0_0 x0.f0.length c0_0,.slice A0_1 x0.f1.length c0_1,.slice A0_2 x0.f2.length c0_2] := Array.toList_inj.1 (by simpa [Value.cells] using hq0)
 obtain ⟨a1,rfl,rfl,rfl,w1⟩ := open_int Tryz.underlying3 (hval 1 3 v1 rfl rfl) h1
 have k2 := h2
 have lt2 : ∀ x ∈ p2,x.block < W.heap.size := by obtain ⟨m,hm⟩ := k2; exact DataW.trod_lt m _ _ _ hm
 obtain ⟨x2,hx2,ok2⟩ := QRead.arg (rdT29 _) h2 hsz (j := 2) rfl rfl
 obtain ⟨cs2,rfl,_⟩ := okWide_struct Tryz.underlying29 (hval 2 29 v2 rfl rfl)
 obtain ⟨A2_0,c2_0,hq2,l2_0,g2_0⟩ := k29_open hx2
 obtain rfl : cs2 = #[.slice A2_0 x2.f0.length c2_0] := Array.toList_inj.1 (by simpa [Value.cells] using hq2)
 clear hA0 hval0 hsz0 hsz
 refine (Pf.laws_FnExactFactText.walk Pure.FnExactFactText x0 a1 x2 _ _ _ _ _ _ _ _ W g0_0 l0_0 g0_1 l0_1 g0_2 l0_2 g2_0 l2_0 ok0 w1 ok2 hT).mono fun e W' ⟨he,bel⟩ => ?_
 subst he
 exact ⟨_,rfl,_,_,_,[],_,[],hW',trodAll_mk1 (shut_bool Tryz.underlying4 _),(trodAll_cons_mk (Below.trod laidOut (by kernel_rfl) (of_decide_eq_true (by kernel_rfl)) k0 bel lt0) (trodAll_cons_mk (shut_int Tryz.underlying3 w1) (trodAll_cons_mk (Below.trod laidOut (by kernel_rfl) (of_decide_eq_true (by kernel_rfl)) k2 bel lt2) trodAll_mk0))),rfl,bel.frame _,fun h => by cases h⟩
theorem closed : joinedFacts Tryz.pinned.checked.prog 3 Tryz.f3 (OpenSpec.ofChange Rows.fnExactFactTextSpec).bare Rows.fnExactFactTextRow = true := by
 unfold joinedFacts
 rw [QHead.may_,QHead.final_,QHead.make_]
 kernel_rfl
theorem over : Rows.fnExactFactTextRow.holds Tryz.pinned (OpenSpec.ofChange Rows.fnExactFactTextSpec) :=
 OpenClaim.holds_of_cond 3 Tryz.f3 rfl rfl rfl rfl rfl rfl rfl ⟨rfl,rfl,rfl,rfl,rfl⟩ rfl rfl rfl rfl rfl (by kernel_rfl) Tryz.func3 closed
  (of_decide_eq_true (by kernel_rfl)) (by unfold Func.isWrapper; first | (rw [if_pos (by decide +kernel)]; kernel_rfl) | (rw [if_neg (by decide +kernel)]; exact ⟨rfl,rfl⟩))
  (fun os started H enc _ F => by rw [OpenClaim.pre_eq_preRow]; exact lifted os started H enc F)
theorem plain (f : FuncId) (fn : Func) (hf : Tryz.pinned.checked.prog.funcNamed "loop.example/g00531/laws.FnExactFactText" = some f) (hfn : Tryz.pinned.checked.prog.funcs[f]? = some fn) :
  true = Tryz.pinned.checked.prog.looks [] ∧ ∀ (j : Nat) t,fn.params[j]? = some t → Tryz.pinned.checked.prog.wantsStandIn t = false := by
 obtain rfl : f = 3 := Option.some.inj ((show Tryz.prog.funcNamed "loop.example/g00531/laws.FnExactFactText" = some 3 by kernel_rfl).symm.trans hf) |>.symm
 obtain rfl : fn = Tryz.f3 := (Option.some.inj (Tryz.func3.symm.trans hfn)).symm
 refine ⟨QHead.looks_,fun j t ht => ?_⟩
 rw [Tryz.params3] at ht
 have hm := Array.mem_of_getElem? ht
 simp only [List.mem_toArray,List.mem_cons,List.not_mem_nil,or_false] at hm
 rcases hm with rfl | rfl | rfl
 ·exact (show Tryz.prog.wantsStandIn 26 = false by kernel_rfl)
 ·exact (show Tryz.prog.wantsStandIn 3 = false by kernel_rfl)
 ·exact (show Tryz.prog.wantsStandIn 29 = false by kernel_rfl)
theorem proved : Rows.FnExactFactTextCardSaid :=
 Claim7.holds_tied_plain_at .later [] _ _ _ _ over (fun _ h => by cases h) (by kernel_rfl) (fun _ h => by cases h) fnExactFactText_row_tie rfl ⟨rfl,rfl⟩ QHead.main_ rfl plain (by kernel_rfl)
#print axioms proved
end Go.Proofs.YtamjmldfifofbaaGreatDoor.fnExactFactText
namespace Go.Proofs.YtamjmldfifofbaaGreatDoor
/-- The row, under a short name, for the claim. -/
theorem fnExactFactText_holds : Rows.FnExactFactTextCardSaid := fnExactFactText.proved
end Go.Proofs.YtamjmldfifofbaaGreatDoor
