-- Cut by prune.py, a program of this session, out of the texts of this claim: Lean checks it.
import Derived.Test.YtkdabljlfbmpdaaGreatVbdPbx0
namespace Go.Proofs.YtkdabljlfbmpdaaGreat.Pb
open Go.RowKit Go.Proofs.YtkdabljlfbmpdaaGreatW.PrintWords Go.Proofs.YtkdabljlfbmpdaaGreatW.PrintLast Go.Proofs.YtkdabljlfbmpdaaGreatW.PrintMore
attribute [local go_sem] max2_int min2_int max_two min_two max_three min_three max_four min_four   -- for this text's walks alone
set_option linter.unusedVariables false
set_option linter.unusedSimpArgs false
mutual
def z8_.l0:Nat→List Int→List ByteArray→Int→List (S48)→Int→ByteArray→List Int→List (S33)→Option (List ByteArray×Bool)
 | 0,_,_,_,_,_,_,_,_=>none
 | k + 1,x4,x5,x6,x170000,x170001,x170002,x170003,x170004=>if x6 < (x170000.length:Int)then(if 0≤x6 then(z8_.l1 k x4 x5 x6 0 x170000 x170001 x170002 x170003 x170004 ((y20 x170000 x6).f0) ((y20 x170000 x6).f1) ((y20 x170000 x6).f2))else(none))else((some (([(⟨x170001,x170002,x170003⟩:S33)]:List (S33)):List (S33))).bind fun y199=>(if y199.length + x170004.length < 2932031007402 then(z8_.l3 k x4 x5 (y199 ++ x170004) 0)else(none)))
def z8_.l1:Nat→List Int→List ByteArray→Int→Int→List (S48)→Int→ByteArray→List Int→List (S33)→Int→ByteArray→List Int→Option (List ByteArray×Bool)
 | 0,_,_,_,_,_,_,_,_,_,_,_,_=>none
 | k + 1,x4,x5,x6,x8,x170000,x170001,x170002,x170003,x170004,x181000,x181001,x181002=>if x8 < (x181002.length:Int)then(if 0≤x8 then((spec_l01Between.f (rd x181002 x8) 0 (wrap64 (x6 - 1))).bind fun t182=>(if t182=true then(if 0≤(rd x181002 x8)then(if(rd x181002 x8) < (x4.length:Int)then(z8_.l1 k (x4.set ((rd x181002 x8):Int).toNat (wrap64 ((rd x4 (rd x181002 x8)) + 1))) x5 x6 (wrap64 (x8 + 1)) x170000 x170001 x170002 x170003 x170004 x181000 x181001 x181002)else(none))else(none))else(some (x5,false))))else(none))else(if x181000=1 then(z8_.j2 k x4 x5 x6 x181000 (x181000 == 1) x170000 x170001 x170002 x170003 x170004 x181000 x181001 x181002)else(z8_.j2 k x4 x5 x6 x181000 (x181000 == 3) x170000 x170001 x170002 x170003 x170004 x181000 x181001 x181002))
def z8_.j5:Nat→List Int→List ByteArray→Int→ByteArray→List (S48)→Int→ByteArray→List Int→List (S33)→Int→ByteArray→List Int→Option (List ByteArray×Bool)
 | 0,_,_,_,_,_,_,_,_,_,_,_,_=>none
 | k + 1,x4,x5,x6,x9,x170000,x170001,x170002,x170003,x170004,x181000,x181001,x181002=>if x181000≤3 then(if(x181002.length:Int) > 0 then(z8_.j6 k x4 x5 x6 x9 true x170000 x170001 x170002 x170003 x170004)else(z8_.j6 k x4 x5 x6 x9 (decide ((x9.size:Int) > 3000)) x170000 x170001 x170002 x170003 x170004))else(z8_.j6 k x4 x5 x6 x9 (decide ((x9.size:Int) > 3000)) x170000 x170001 x170002 x170003 x170004)
def z8_.j6:Nat→List Int→List ByteArray→Int→ByteArray→Bool→List (S48)→Int→ByteArray→List Int→List (S33)→Option (List ByteArray×Bool)
 | 0,_,_,_,_,_,_,_,_,_,_=>none
 | k + 1,x4,x5,x6,x9,x156,x170000,x170001,x170002,x170003,x170004=>if x156=true then(some (x5,false))else(if 0≤x6 then(if x6 < (x5.length:Int)then(z8_.l0 k x4 (x5.set (x6:Int).toNat x9) (wrap64 (x6 + 1)) x170000 x170001 x170002 x170003 x170004)else(none))else(none))
def z8_.j2:Nat→List Int→List ByteArray→Int→Int→Bool→List (S48)→Int→ByteArray→List Int→List (S33)→Int→ByteArray→List Int→Option (List ByteArray×Bool)
 | 0,_,_,_,_,_,_,_,_,_,_,_,_,_=>none
 | k + 1,x4,x5,x6,x69,x71,x170000,x170001,x170002,x170003,x170004,x181000,x181001,x181002=>if x71=true then(z8_.j5 k x4 x5 x6 x181001 x170000 x170001 x170002 x170003 x170004 x181000 x181001 x181002)else(if x69=2 then(z8_.j5 k x4 x5 x6 (⟨#[95]⟩:ByteArray) x170000 x170001 x170002 x170003 x170004 x181000 x181001 x181002)else(if x69=4 then(z8_.l2 k x4 x5 x6 x181001 0 x170000 x170001 x170002 x170003 x170004 x181000 x181001 x181002)else(if x69=5 then(z8_.j4 k x4 x5 x6 (x69 == 5) x170000 x170001 x170002 x170003 x170004 x181000 x181001 x181002)else(if x69=6 then(z8_.j4 k x4 x5 x6 (x69 == 6) x170000 x170001 x170002 x170003 x170004 x181000 x181001 x181002)else(z8_.j4 k x4 x5 x6 (x69 == 7) x170000 x170001 x170002 x170003 x170004 x181000 x181001 x181002)))))
def z8_.l2:Nat→List Int→List ByteArray→Int→ByteArray→Int→List (S48)→Int→ByteArray→List Int→List (S33)→Int→ByteArray→List Int→Option (List ByteArray×Bool)
 | 0,_,_,_,_,_,_,_,_,_,_,_,_,_=>none
 | k + 1,x4,x5,x6,x9,x10,x170000,x170001,x170002,x170003,x170004,x181000,x181001,x181002=>if x10 < (x181002.length:Int)then(if x10=0 then(if x9.size + 1≤9223372036854775807 then(if 0≤x10 then(if 0≤(rd x181002 x10)then(if(rd x181002 x10) < (x5.length:Int)then(if(x9 ++ (⟨#[40]⟩:ByteArray)).size + (rdOf ByteArray.empty x5 (rd x181002 x10)).size≤9223372036854775807 then(z8_.l2 k x4 x5 x6 ((x9 ++ (⟨#[40]⟩:ByteArray)) ++ (rdOf ByteArray.empty x5 (rd x181002 x10))) (wrap64 (x10 + 1)) x170000 x170001 x170002 x170003 x170004 x181000 x181001 x181002)else(none))else(none))else(none))else(none))else(none))else(if x9.size + 2≤9223372036854775807 then(if 0≤x10 then(if 0≤(rd x181002 x10)then(if(rd x181002 x10) < (x5.length:Int)then(if(x9 ++ (⟨#[44,32]⟩:ByteArray)).size + (rdOf ByteArray.empty x5 (rd x181002 x10)).size≤9223372036854775807 then(z8_.l2 k x4 x5 x6 ((x9 ++ (⟨#[44,32]⟩:ByteArray)) ++ (rdOf ByteArray.empty x5 (rd x181002 x10))) (wrap64 (x10 + 1)) x170000 x170001 x170002 x170003 x170004 x181000 x181001 x181002)else(none))else(none))else(none))else(none))else(none)))else(if(x181002.length:Int) > 0 then(if x9.size + 1≤9223372036854775807 then(z8_.j5 k x4 x5 x6 (x9 ++ (⟨#[41]⟩:ByteArray)) x170000 x170001 x170002 x170003 x170004 x181000 x181001 x181002)else(none))else(z8_.j5 k x4 x5 x6 x9 x170000 x170001 x170002 x170003 x170004 x181000 x181001 x181002))
def z8_.j4:Nat→List Int→List ByteArray→Int→Bool→List (S48)→Int→ByteArray→List Int→List (S33)→Int→ByteArray→List Int→Option (List ByteArray×Bool)
 | 0,_,_,_,_,_,_,_,_,_,_,_,_=>none
 | k + 1,x4,x5,x6,x111,x170000,x170001,x170002,x170003,x170004,x181000,x181001,x181002=>if x111=true then(if(x181002.length:Int)=2 then((some (([(⟨#[32,43,32]⟩:ByteArray),(⟨#[32,45,32]⟩:ByteArray),(⟨#[32,42,32]⟩:ByteArray)]:List ByteArray):List ByteArray)).bind fun y190=>(if 0≤(wrap64 (x181000 - 5))then(if(wrap64 (x181000 - 5)) < (y190.length:Int)then(if 0 < (x181002.length:Int)then((spec_l04Side.f x170000 x170001 x170002 x170003 x170004 x5 (rd x181002 0)).bind fun t195=>(if t195.size + (rdOf ByteArray.empty y190 (wrap64 (x181000 - 5))).size≤9223372036854775807 then(if 1 < (x181002.length:Int)then((spec_l04Side.f x170000 x170001 x170002 x170003 x170004 x5 (rd x181002 1)).bind fun t197=>(if(t195 ++ (rdOf ByteArray.empty y190 (wrap64 (x181000 - 5)))).size + t197.size≤9223372036854775807 then(z8_.j5 k x4 x5 x6 ((t195 ++ (rdOf ByteArray.empty y190 (wrap64 (x181000 - 5)))) ++ t197) x170000 x170001 x170002 x170003 x170004 x181000 x181001 x181002)else(none)))else(none))else(none)))else(none))else(none))else(none)))else(some (x5,false)))else(some (x5,false))
def z8_.l3:Nat→List Int→List ByteArray→List (S33)→Int→Option (List ByteArray×Bool)
 | 0,_,_,_,_=>none
 | k + 1,x4,x5,x12,x13=>if x13 < (x12.length:Int)then(z8_.l4 k x4 x5 x12 x13 0)else(z8_.l5 k x4 x5 0)
def z8_.l4:Nat→List Int→List ByteArray→List (S33)→Int→Int→Option (List ByteArray×Bool)
 | 0,_,_,_,_,_=>none
 | k + 1,x4,x5,x12,x13,x14=>if 0≤x13 then(if x13 < (x12.length:Int)then(if x14 < (((y19 x12 x13).f2).length:Int)then(if 0≤x14 then((spec_l01Between.f (rd ((y19 x12 x13).f2) x14) 0 (wrap64 ((x4.length:Int) - 1))).bind fun t208=>(if t208=true then(if 0≤(rd ((y19 x12 x13).f2) x14)then(if(rd ((y19 x12 x13).f2) x14) < (x4.length:Int)then(z8_.l4 k (x4.set ((rd ((y19 x12 x13).f2) x14):Int).toNat (wrap64 ((rd x4 (rd ((y19 x12 x13).f2) x14)) + 1))) x5 x12 x13 (wrap64 (x14 + 1)))else(none))else(none))else(some (x5,false))))else(none))else(z8_.l3 k x4 x5 x12 (wrap64 (x13 + 1))))else(none))else(none)
def z8_.l5:Nat→List Int→List ByteArray→Int→Option (List ByteArray×Bool)
 | 0,_,_,_=>none
 | k + 1,x4,x5,x15=>if x15 < (x4.length:Int)then(if 0≤x15 then(if(rd x4 x15)=1 then(z8_.l5 k x4 x5 (wrap64 (x15 + 1)))else(some (x5,false)))else(none))else(some (x5,true))
end
def z8_.f (k:Nat) (l0_0:List (S48)) (a0_1:Int) (a0_2:ByteArray) (l0_3:List Int) (l0_4:List (S33)):Option (List ByteArray×Bool):=if(l0_0.length:Int) > 60 then(some ((([]:List ByteArray)),false))else(if 0≤(l0_0.length:Int)then(if((l0_0.length:Int):Int).toNat≤35184372088832 then(if((l0_0.length:Int):Int).toNat≤17592186044416 then(z8_.l0 k (List.replicate ((l0_0.length:Int):Int).toNat 0) (List.replicate ((l0_0.length:Int):Int).toNat (⟨#[]⟩:ByteArray)) 0 l0_0 a0_1 a0_2 l0_3 l0_4)else(none))else(none))else(none))
def z8_.T40:Bool×List (List Nat×List Nat):=(true,[([],[]),([],[]),([],[]),([2],[2]),([3],[3]),([4],[4]),([0,1,5],[0,1,5]),([],[]),([6,7],[6,7]),([],[]),([],[]),([],[]),([11],[11]),([12],[12]),([13],[13]),([9,10,14,6],[9,10,14]),([8,15],[8,15]),([16,15,0,1,2,3,4,5,6,7,8,9,10,11,12,13,14,15,16],[16])])
def z8_.B40:List Nat:=[0,0,0,4,12,28,63,0,255,0,0,0,2048,6144,14336,32383,65535,131071]
theorem z8_.tab40:rtab .any (opsOf Tryz.f33 40)=z8_.T40:=by kernel_rfl
theorem z8_.bits40:waitsOk z8_.T40.2 z8_.B40=true:=by kernel_rfl
set_option maxHeartbeats 8000000 in
set_option maxRecDepth 100000 in
theorem z8_.calls (k:Nat) (Dm:Option Addr) (Cc:Nat) (Aa:List (S48)) (Ba:Int) (Bb:ByteArray) (P0_3_:Nat→Prop) (Bg:Option Addr) (Bh:Nat) (Am:List Int) (P0_4_:Nat→Prop) (Bk:Option Addr) (Bl:Nat) (Ap:List (S33)) (r1:List ByteArray) (r2:Bool) (w:World) (Kj:Kd.C k48 w Dm Aa.length Aa) (Kk:Aa.length≤Cc) (Nv:Kd.V (Kd.int .i64) 3 w w.heap.size (fun k_=>P0_3_ k_) (.slice Bg Am.length Bh) Am) (Nw:Kd.V k33 33 w w.heap.size (fun k_=>P0_4_ k_) (.slice Bk Ap.length Bl) Ap) (h:z8_.f k Aa Ba Bb Am Ap=some (r1,r2)) :
  Calls Tryz.prog 33 #[.agg #[.slice Dm Aa.length Cc,.int .i64 Ba,.string Bb,.slice Bg Am.length Bh,.slice Bk Ap.length Bl]] w fun e w'=>∃ v0_:Value,e=.returned (.tuple #[v0_,.bool r2])∧Kd.R Kd.string 9 w' w.heap.size (fun k_=>(w.heap.size≤k_)) v0_ r1∧Below w.heap.size w w':=by
 have bE:=Tryz.underlying36
 have bF:=Tryz.underlying48
 have bG:=Tryz.underlying33
 have Gn:=y0.mk Kj
 have Kl:=y0.mk Kk
 clear Kj Kk
 have Cm:=y0.mk (show Kd.V (Kd.int .i64) 3 w w.heap.size (fun k_=>((P0_3_ k_∨P0_4_ k_)∨w.heap.size≤k_)) (.slice Bg Am.length Bh) Am from Kd.V_mono Nv (fun k_ hk=>.inl (.inl hk)))
 have Cn:=y0.mk (show Kd.V k33 33 w w.heap.size (fun k_=>((P0_3_ k_∨P0_4_ k_)∨w.heap.size≤k_)) (.slice Bk Ap.length Bl) Ap from Kd.V_mono Nw (fun k_ hk=>.inl (.inr hk)))
 have HB:=y0.mk (Below.refl w.heap.size w)
 have H:(if(Aa.length:Int) > 60 then(some ((([]:List ByteArray)),false))else(if 0≤(Aa.length:Int)then(if((Aa.length:Int):Int).toNat≤35184372088832 then(if((Aa.length:Int):Int).toNat≤17592186044416 then(z8_.l0 k (List.replicate ((Aa.length:Int):Int).toNat 0) (List.replicate ((Aa.length:Int):Int).toNat (⟨#[]⟩:ByteArray)) 0 Aa Ba Bb Am Ap)else(none))else(none))else(none)))=some (r1,r2):=h
 clear h
 by_cases c2:(Aa.length:Int) > 60
 ·as_aux_lemma =>
  rw [if_pos c2]at H
  have Nx:decide (60 < (Aa.length:Int))=true:=decide_eq_true c2
  have Ny:decide (60 < Aa.length)=true:=decide_eq_true (by omega)
  clear c2
  obtain⟨Ue,El⟩:∃ y_:List ByteArray,y_=(([]:List ByteArray)):=⟨_,rfl⟩
  replace H:(some (Ue,false))=some (r1,r2):=by first|(rw [El];with_reducible exact H)|(have H2_:=(Option.bind_some _ _).symm.trans H;rw [El];with_reducible exact H2_)|(have H2_:=(Option.bind_some _ _).symm.trans H;with_reducible exact H2_)|with_reducible exact H|(rw [El];exact H)|exact H
  have Km:=y0.mk El
  clear El
  simp only [Option.some.injEq,Prod.mk.injEq]at H
  obtain⟨rfl,rfl⟩:=H
  go_enter Tryz.func33,Tryz.ntmps33
  go_wp2_with (first|((with_reducible refine y16 (N:=1) rfl ?_);(try(refine gate_guard (by rfl) ?_;dsimp only));refine qe 1 #[.slice Dm Aa.length Cc,.int .i64 Ba,.string Bb,.slice Bg Am.length Bh,.slice Bk Ap.length Bl] 36 ?_;intro Ag hg w3 hbox hb;replace Cm:=y0.mk (Kd.V_below (Kd.V_elderB (qV Cm.out) Ag (Nat.le_of_eq hg.symm)) hb);replace Cn:=y0.mk (Kd.V_below (Kd.V_elderB (qV Cn.out) Ag (Nat.le_of_eq hg.symm)) hb);have Af:=y0.mk (hbox);have Nz:=y0.mk (qg (w:=w) hg);have Oa:=y0.mk (qg (w:=w) hg);replace HB:=y0.mk (y5 qb hb);clear hb hbox hg;obtain⟨Uf,Ug,Uh,Ui,Uj,Uk,Ul,Um,Uo,Up⟩:=qz5 Af.out)|((with_reducible refine y16 (N:=20) rfl ?_);(try(refine gate_guard (by rfl) ?_;dsimp only));refine qL Kd.string 9 20 ([]:List ByteArray) ?_;intro bH w5 Lb hb hg_ hnew_;clear hg_ hnew_;(first|rw [← Km.out]at Lb|(simp only [Int.reduceToNat]at Lb;rw [← Km.out]at Lb));replace Cm:=y0.mk (Kd.V_elder' (qV Cm.out) (Kd.R_base Lb) hb);replace Cn:=y0.mk (Kd.V_elder' (qV Cn.out) (Kd.R_base Lb) hb);have Ob:=y0.mk (Kd.R_lower (Kd.R_newM (M:=fun k_=>(w.heap.size≤k_)) Lb (y4 qb) (fun k_ h_=>h_)) (y4 qb));replace Af:=y0.mk (qK Af.out hb);replace HB:=y0.mk (y5 qb hb);clear hb Lb))
  go_ret2
  exact⟨_,by first|rfl|(simp [y12,y13] <;> rfl)|(simp [*,y12,y13] <;> rfl),by(with_reducible repeat(first|apply Kd.R_alloc|apply Kd.R_drewN|apply Kd.R_drew));exact Kd.R_mono Ob.out (fun _ hk=>hk.1),qb⟩
 ·as_aux_lemma =>
  rw [if_neg c2]at H
  have Nx:decide (60 < (Aa.length:Int))=false:=decide_eq_false c2
  have Ny:decide (60 < Aa.length)=false:=decide_eq_false (by omega)
  clear c2
  obtain⟨c7,H⟩:=qo H
  have Uq:=eq_true c7
  have Ur:=decide_eq_true c7
  clear c7
  obtain⟨c8,H⟩:=qo H
  have Us:=eq_true c8
  have Ut:=decide_eq_true c8
  clear c8
  obtain⟨Lc,Em⟩:∃ y_:List Int,y_=(List.replicate ((Aa.length:Int):Int).toNat 0):=⟨_,rfl⟩
  replace H:(if((Aa.length:Int):Int).toNat≤17592186044416 then(z8_.l0 k Lc (List.replicate ((Aa.length:Int):Int).toNat (⟨#[]⟩:ByteArray)) 0 Aa Ba Bb Am Ap)else(none))=some (r1,r2):=by first|(rw [Em];with_reducible exact H)|(have H2_:=(Option.bind_some _ _).symm.trans H;rw [Em];with_reducible exact H2_)|(have H2_:=(Option.bind_some _ _).symm.trans H;with_reducible exact H2_)|with_reducible exact H|(rw [Em];exact H)|exact H
  have Kn:=y0.mk Em
  clear Em
  obtain⟨c9,H⟩:=qo H
  have Uu:=eq_true c9
  have Uv:=decide_eq_true c9
  clear c9
  obtain⟨Oc,En⟩:∃ y_:List ByteArray,y_=(List.replicate ((Aa.length:Int):Int).toNat (⟨#[]⟩:ByteArray)):=⟨_,rfl⟩
  replace H:(z8_.l0 k Lc Oc 0 Aa Ba Bb Am Ap)=some (r1,r2):=by first|(rw [En];with_reducible exact H)|(have H2_:=(Option.bind_some _ _).symm.trans H;rw [En];with_reducible exact H2_)|(have H2_:=(Option.bind_some _ _).symm.trans H;with_reducible exact H2_)|with_reducible exact H|(rw [En];exact H)|exact H
  have Ko:=y0.mk En
  clear En
  have H':=y0.mk H
  clear H
  go_enter Tryz.func33,Tryz.ntmps33
  go_wp2_with (first|((with_reducible refine y16 (N:=1) rfl ?_);(try(refine gate_guard (by rfl) ?_;dsimp only));refine qe 1 #[.slice Dm Aa.length Cc,.int .i64 Ba,.string Bb,.slice Bg Am.length Bh,.slice Bk Ap.length Bl] 36 ?_;intro Ag hg cF hbox hb;replace Cm:=y0.mk (Kd.V_below (Kd.V_elderB (qV Cm.out) Ag (Nat.le_of_eq hg.symm)) hb);replace Cn:=y0.mk (Kd.V_below (Kd.V_elderB (qV Cn.out) Ag (Nat.le_of_eq hg.symm)) hb);have Af:=y0.mk (hbox);have Nz:=y0.mk (qg (w:=w) hg);have Oa:=y0.mk (qg (w:=w) hg);replace HB:=y0.mk (y5 qb hb);clear hb hbox hg;obtain⟨Hw,Hx,Hy,Hz,Ia,Ib,Ic,Id,Ie,If⟩:=qz5 Af.out)|((with_reducible refine y16 (N:=24) rfl ?_);(try(refine gate_guard (by rfl) ?_;dsimp only));refine Kd.R_make (Kd.int .i64) _ 3 rfl (N:=24) rfl 23 _ _ rfl (Aa.length:Int) rfl rfl Tryz.underlying23 (.int .i64 0) 8 info3 rfl (by decide) (by omega) 0 (ok:=fun _=>True) (okp:=fun _=>True) rfl (fun _ hk=>hk) trivial (of_decide_eq_true qy0) (Nat.le_trans (Nat.mul_le_mul_right _ (of_decide_eq_true qy0:(Aa.length:Int).toNat≤35184372088832)) (by omega)) (Below.refl _ _) (Nat.le_refl _) ?_;intro Bc cI Fd hb hg_ hnew_;clear hg_ hnew_;(first|rw [← Kn.out]at Fd|(simp only [Int.reduceToNat]at Fd;rw [← Kn.out]at Fd));replace Cm:=y0.mk (Kd.V_elder' (qV Cm.out) (Kd.R_base Fd) hb);replace Cn:=y0.mk (Kd.V_elder' (qV Cn.out) (Kd.R_base Fd) hb);have Gp:=y0.mk (Kd.R_lower (Kd.R_newM (M:=fun k_=>(w.heap.size≤k_)) Fd (y4 qb) (fun k_ h_=>h_)) (y4 qb));replace Af:=y0.mk (qK Af.out hb);replace HB:=y0.mk (y5 qb hb);clear hb Fd;obtain⟨Ig,Ih,Ii,Ij,Ik,Il,Im,Io,Ip,Iq⟩:=qz5 Af.out)|((with_reducible refine y16 (N:=28) rfl ?_);(try(refine gate_guard (by rfl) ?_;dsimp only));refine Kd.R_make Kd.string _ 9 rfl (N:=28) rfl 30 _ _ rfl (Aa.length:Int) rfl rfl Tryz.underlying30 (.string ⟨#[]⟩) 16 info9 rfl (by decide) (by omega) (⟨#[]⟩:ByteArray) (ok:=fun _=>True) (okp:=fun _=>True) rfl (fun _ hk=>hk) trivial (of_decide_eq_true qy0) (Nat.le_trans (Nat.mul_le_mul_right _ (of_decide_eq_true qy0:(Aa.length:Int).toNat≤17592186044416)) (by omega)) (Below.refl _ _) (Nat.le_refl _) ?_;intro Au cJ Fe hb hg_ hnew_;clear hg_ hnew_;(first|rw [← Ko.out]at Fe|(simp only [Int.reduceToNat]at Fe;rw [← Ko.out]at Fe));replace Cm:=y0.mk (Kd.V_elder' (qV Cm.out) (Kd.R_base Fe) hb);replace Cn:=y0.mk (Kd.V_elder' (qV Cn.out) (Kd.R_base Fe) hb);replace Gp:=y0.mk (Kd.R_below (qR Gp.out) hb);have Od:=y0.mk (Kd.R_lower (Kd.R_newM (M:=fun k_=>(w.heap.size≤k_)) Fe (y4 qb) (fun k_ h_=>h_)) (y4 qb));replace Af:=y0.mk (qK Af.out hb);replace HB:=y0.mk (y5 qb hb);clear hb Fe))
  go_loopg [6] k (fun kq v6 w'=>∃(Ff:List Int) (Aw:List ByteArray) (Ad:Int),v6=.int .i64 Ad∧y0 (z8_.l0 kq Ff Aw Ad Aa Ba Bb Am Ap=some (r1,r2))∧y0 (kq≤k)∧y0 (Kd.R (Kd.int .i64) 3 w' w.heap.size (fun k_=>(w.heap.size≤k_)) Bc Ff)∧y0 (Kd.R Kd.string 9 w' w.heap.size (fun k_=>(w.heap.size≤k_)) Au Aw)∧y0 (Kd.V (Kd.int .i64) 3 w' w.heap.size (fun k_=>((P0_3_ k_∨P0_4_ k_)∨w.heap.size≤k_)∧some k_≠(Bc:Value).ownBlock∧some k_≠(Au:Value).ownBlock∧k_≠Ag) (.slice Bg Am.length Bh) Am)∧y0 (Kd.V k33 33 w' w.heap.size (fun k_=>((P0_3_ k_∨P0_4_ k_)∨w.heap.size≤k_)∧some k_≠(Bc:Value).ownBlock∧some k_≠(Au:Value).ownBlock∧k_≠Ag) (.slice Bk Ap.length Bl) Ap)∧y0 (w'.heap[Ag]?=some (.cells #[(.slice Dm Aa.length Cc),.int .i64 Ba,.string Bb,(.slice Bg Am.length Bh),(.slice Bk Ap.length Bl)] 36 (0,0)))∧y0 (Below w.heap.size w w'))
  case atStart=>exact⟨(Lc),(Oc),(0),qy2,H',⟨Nat.le_refl _⟩,⟨qR (Kd.R_mono Gp.out (fun _ hk=>hk.1))⟩,⟨qR (Kd.R_mono Od.out (fun _ hk=>hk.1))⟩,⟨qV (Kd.V_mono Cm.out (fun _ hk=>⟨hk.1.1.1,⟨hk.1.2,⟨hk.2,hk.1.1.2⟩⟩⟩))⟩,⟨qV (Kd.V_mono Cn.out (fun _ hk=>⟨hk.1.1.1,⟨hk.1.2,⟨hk.2,hk.1.1.2⟩⟩⟩))⟩,⟨qk Af.out⟩,⟨qb⟩⟩
  case round =>
   clear H'
   (try clear Nx Ny Uq Ur Us Ut Uu Uv Hw Hx Hy Hz Ia Ig Ih Ii Ij Ik Ib Ic Id Ie If Il Im Io Ip Iq)
   obtain⟨Ff,Aw,Ad,rfl,HA,Cz,Ak,Aj,Ab,Ac,Af,HB⟩:=hrel
   cases gk with
   | zero=>exact absurd HA.out (by simp [z8_.l0])
   | succ k1 =>
    have H:=HA.out
    clear HA
    simp only [z8_.l0]at H
    by_cases Nq:Ad < (Aa.length:Int)
    ·as_aux_lemma =>
     rw [if_pos Nq]at H
     have Gq:=decide_eq_true Nq
     clear Nq
     obtain⟨Wy,H⟩:=qo H
     have Oe:decide (0≤Ad)=true:=decide_eq_true Wy
     clear Wy
     have H':=y0.mk H
     clear H
     obtain⟨Ir,Is,Iu,Iv,Iw,Ix,Iy,Iz,Ja,Jb⟩:=qz5 Af.out
     have Jc:0≤(Ad:Int):=of_decide_eq_true qy0
     have Jd:Ad < (Aa.length:Int):=of_decide_eq_true qy0
     obtain⟨Cr,Cd,Br,Uw,De,Df,Dg,Fq,Fr⟩:=at_T48 Gn.out Ad Jc Jd
     cases Uw
     replace De:=(HB.out.cell (World.block_lt_of_cell? w _ De)).trans De
     replace Df:=(HB.out.cell (World.block_lt_of_cell? w _ Df)).trans Df
     replace Dg:=(HB.out.cell (World.block_lt_of_cell? w _ Dg)).trans Dg
     have Cf:=y0.mk Fr
     have Ri:=y0.mk Fq
     clear Fr Fq
     replace Jc:=eq_true Jc
     replace Jd:=eq_true Jd
     go_wp2_with (first|((with_reducible refine y16 (N:=7) rfl ?_);(try(refine gate_guard (by rfl) ?_;dsimp only));refine qe 7 #[.int .i64 0,.string (⟨#[]⟩:ByteArray),.slice none 0 0] 48 ?_;intro Ar hg cL hbox hb;replace Ak:=y0.mk (Kd.R_below (qR Ak.out) hb);replace Aj:=y0.mk (Kd.R_below (qR Aj.out) hb);replace Ab:=y0.mk (Kd.V_below (Kd.V_elderB (qV Ab.out) Ar (Nat.le_of_eq hg.symm)) hb);replace Ac:=y0.mk (Kd.V_below (Kd.V_elderB (qV Ac.out) Ar (Nat.le_of_eq hg.symm)) hb);have Ai:=y0.mk (hbox);have Wz:=y0.mk (qg (w:=w) hg);have Xa:=y0.mk (qg (w:=w) hg);replace HB:=y0.mk (y5 qb hb);have As:=y0.mk (qn Af.out hg);have Av:=y0.mk (qm Af.out hg);replace Af:=y0.mk (qK Af.out hb);clear hb hbox hg;have Xb:=Av.out;have Xc:=As.out;obtain⟨Je,Jf,Jg,Jh,Ji,Jj⟩:=qz3 Ai.out))
     go_loopg [8] k1 (fun kq v8 w'=>∃(Bd:List Int) (Bj:Int),v8=.int .i64 Bj∧y0 (z8_.l1 kq Bd Aw Ad Bj Aa Ba Bb Am Ap ((y20 Aa Ad).f0) ((y20 Aa Ad).f1) ((y20 Aa Ad).f2)=some (r1,r2))∧y0 (kq≤k1)∧y0 (Kd.R (Kd.int .i64) 3 w' w.heap.size (fun k_=>(w.heap.size≤k_)) Bc Bd)∧y0 (Kd.R Kd.string 9 w' w.heap.size (fun k_=>(w.heap.size≤k_)) Au Aw)∧y0 (Kd.V (Kd.int .i64) 3 w' w.heap.size (fun k_=>((P0_3_ k_∨P0_4_ k_)∨w.heap.size≤k_)∧some k_≠(Bc:Value).ownBlock∧some k_≠(Au:Value).ownBlock∧k_≠Ag∧k_≠Ar) (.slice Bg Am.length Bh) Am)∧y0 (Kd.V k33 33 w' w.heap.size (fun k_=>((P0_3_ k_∨P0_4_ k_)∨w.heap.size≤k_)∧some k_≠(Bc:Value).ownBlock∧some k_≠(Au:Value).ownBlock∧k_≠Ag∧k_≠Ar) (.slice Bk Ap.length Bl) Ap)∧y0 (w'.heap[Ag]?=some (.cells #[(.slice (some Cr) Aa.length Cc),.int .i64 Ba,.string Bb,(.slice Bg Am.length Bh),(.slice Bk Ap.length Bl)] 36 (0,0)))∧y0 (w'.heap[Ar]?=some (.cells #[.int .i64 ((y20 Aa Ad).f0),.string ((y20 Aa Ad).f1),(.slice Cd ((y20 Aa Ad).f2).length Br)] 48 (0,0)))∧y0 (Below w.heap.size w w'))
     case atStart=>exact⟨(Ff),(0),qy2,H',⟨Nat.le_refl _⟩,⟨qR (Kd.R_mono (Kd.R_far (p:=⟨Ar,2,none⟩) (Kd.R_far (p:=⟨Ar,1,none⟩) (Kd.R_far (p:=⟨Ar,0,none⟩) (Kd.R_types Ak.out Ai.out (by decide)) (fun _ hk=>hk.2) (.int .i64 ((y20 Aa Ad).f0))) (fun _ hk=>hk.2) (.string ((y20 Aa Ad).f1))) (fun _ hk=>hk.2) (.slice Cd ((y20 Aa Ad).f2).length Br)) (fun _ hk=>hk.1))⟩,⟨qR (Kd.R_mono (Kd.R_far (p:=⟨Ar,2,none⟩) (Kd.R_far (p:=⟨Ar,1,none⟩) (Kd.R_far (p:=⟨Ar,0,none⟩) (Kd.R_types Aj.out Ai.out (by decide)) (fun _ hk=>hk.2) (.int .i64 ((y20 Aa Ad).f0))) (fun _ hk=>hk.2) (.string ((y20 Aa Ad).f1))) (fun _ hk=>hk.2) (.slice Cd ((y20 Aa Ad).f2).length Br)) (fun _ hk=>hk.1))⟩,⟨qV (Kd.V_mono (Kd.V_far (p:=⟨Ar,2,none⟩) (Kd.V_far (p:=⟨Ar,1,none⟩) (Kd.V_far (p:=⟨Ar,0,none⟩) (Kd.V_mono Ab.out (fun k_ hk=>(⟨hk,hk.2⟩:_∧k_≠Ar))) (fun _ hk=>hk.2) (.int .i64 ((y20 Aa Ad).f0))) (fun _ hk=>hk.2) (.string ((y20 Aa Ad).f1))) (fun _ hk=>hk.2) (.slice Cd ((y20 Aa Ad).f2).length Br)) (fun _ hk=>⟨hk.1.1.1,⟨hk.1.1.2.1,⟨hk.1.1.2.2.1,⟨hk.1.1.2.2.2,hk.1.2⟩⟩⟩⟩))⟩,⟨qV (Kd.V_mono (Kd.V_far (p:=⟨Ar,2,none⟩) (Kd.V_far (p:=⟨Ar,1,none⟩) (Kd.V_far (p:=⟨Ar,0,none⟩) (Kd.V_mono Ac.out (fun k_ hk=>(⟨hk,hk.2⟩:_∧k_≠Ar))) (fun _ hk=>hk.2) (.int .i64 ((y20 Aa Ad).f0))) (fun _ hk=>hk.2) (.string ((y20 Aa Ad).f1))) (fun _ hk=>hk.2) (.slice Cd ((y20 Aa Ad).f2).length Br)) (fun _ hk=>⟨hk.1.1.1,⟨hk.1.1.2.1,⟨hk.1.1.2.2.1,⟨hk.1.1.2.2.2,hk.1.2⟩⟩⟩⟩))⟩,⟨by(with_reducible repeat(first|refine y10 ?_ _|refine y9 ?_|refine y6 ?_ _));refine y11 ?_ As.out _;(with_reducible repeat(first|refine y10 ?_ _|refine y9 ?_|refine y6 ?_ _));refine y11 ?_ As.out _;(with_reducible repeat(first|refine y10 ?_ _|refine y9 ?_|refine y6 ?_ _));refine y11 ?_ As.out _;(with_reducible repeat(first|refine y10 ?_ _|refine y9 ?_|refine y6 ?_ _));exact Af.out⟩,⟨by(with_reducible repeat(first|refine y10 ?_ _|refine y9 ?_|refine y6 ?_ _));refine blk_put (cs:=#[.int .i64 ((y20 Aa Ad).f0),.string ((y20 Aa Ad).f1),.slice none 0 0]) ?_ 2 _ rfl;(with_reducible repeat(first|refine y10 ?_ _|refine y9 ?_|refine y6 ?_ _));refine blk_put (cs:=#[.int .i64 ((y20 Aa Ad).f0),.string (⟨#[]⟩:ByteArray),.slice none 0 0]) ?_ 1 _ rfl;(with_reducible repeat(first|refine y10 ?_ _|refine y9 ?_|refine y6 ?_ _));refine blk_put (cs:=#[.int .i64 0,.string (⟨#[]⟩:ByteArray),.slice none 0 0]) ?_ 0 _ rfl;(with_reducible repeat(first|refine y10 ?_ _|refine y9 ?_|refine y6 ?_ _));exact Ai.out⟩,⟨qb⟩⟩
     case round =>
      clear H'
      (try clear Gq Oe Ir Is Iu Iv Iw Je Jf Jg Ix Iy Iz Ja Jb Jh Ji Jj De Df Dg Jc Jd)
      obtain⟨Bd,Bj,rfl,HA,Cy,Ak,Aj,Ab,Ac,Af,Ai,HB⟩:=hrel
      cases gk with
      | zero=>exact absurd HA.out (by simp [z8_.l1])
      | succ k2 =>
       have H:=HA.out
       clear HA
       simp only [z8_.l1]at H
       by_cases Nr:Bj < (((y20 Aa Ad).f2).length:Int)
       ·as_aux_lemma =>
        rw [if_pos Nr]at H
        have Kp:=decide_eq_true Nr
        clear Nr
        obtain⟨Xd,H⟩:=qo H
        have Xe:decide (0≤Bj)=true:=decide_eq_true Xd
        clear Xd
        obtain⟨Ux,Xf,H⟩:=qB H
        by_cases Rj:Ux=true
        ·subst Rj
         replace H:=qT H
         obtain⟨Xg,H⟩:=qo H
         have Xh:decide (0≤(rd ((y20 Aa Ad).f2) Bj))=true:=decide_eq_true Xg
         clear Xg
         obtain⟨Xi,H⟩:=qo H
         have Xj:decide ((rd ((y20 Aa Ad).f2) Bj) < (Bd.length:Int))=true:=decide_eq_true Xi
         clear Xi
         obtain⟨Ld,Eo⟩:∃ y_:List Int,y_=(Bd.set ((rd ((y20 Aa Ad).f2) Bj):Int).toNat (wrap64 ((rd Bd (rd ((y20 Aa Ad).f2) Bj)) + 1))):=⟨_,rfl⟩
         replace H:(z8_.l1 k2 Ld Aw Ad (wrap64 (Bj + 1)) Aa Ba Bb Am Ap ((y20 Aa Ad).f0) ((y20 Aa Ad).f1) ((y20 Aa Ad).f2))=some (r1,r2):=by first|(rw [Eo];with_reducible exact H)|(have H2_:=(Option.bind_some _ _).symm.trans H;rw [Eo];with_reducible exact H2_)|(have H2_:=(Option.bind_some _ _).symm.trans H;with_reducible exact H2_)|with_reducible exact H|(rw [Eo];exact H)|exact H
         have Of:=y0.mk Eo
         clear Eo
         have H':=y0.mk H
         clear H
         have Xk:=Av.out
         have Xl:=As.out
         obtain⟨Fs,Ft,Fu,Fv,Fx,Fy⟩:=qz3 Ai.out
         have Fg:0≤(Bj:Int):=of_decide_eq_true qy0
         have Fh:Bj < (((y20 Aa Ad).f2).length:Int):=of_decide_eq_true qy0
         obtain⟨Gr,Le,Bt⟩:=Kd.at_int Cf.out Bj Fg Fh
         cases Le
         replace Bt:=(HB.out.cell (World.block_lt_of_cell? w _ Bt)).trans Bt
         replace Fg:=eq_true Fg
         replace Fh:=eq_true Fh
         go_wp2_with (first|((with_reducible refine y15 (f:=52) rfl ?_);refine y17 (some 55) rfl rfl Tryz.func52 (by kernel_rfl) rfl #[.int .i64 (rd ((y20 Aa Ad).f2) Bj),.int .i64 0,.int .i64 (wrap64 (Ad - 1))] rfl qy1 ?_;(with_reducible refine(spec_l01Between.calls (rd ((y20 Aa Ad).f2) Bj) 0 (wrap64 (Ad - 1)) true _ Xf.out).mono ?_);rintro e w' ⟨rfl,⟨nd,rfl⟩⟩;refine⟨_,rfl, ?_⟩;(try(rw [drewN_self wr];have e1_:∀(n_:Nat) (a_:Addr),World.cell? wr a_=World.cell? (World.drewN wr n_) a_:=fun _ _=>rfl;have e2_:∀(n_:Nat) (a_:Addr),World.frozen? wr a_=World.frozen? (World.drewN wr n_) a_:=fun _ _=>rfl;generalize hq_:World.drewN wr _=wr;have e3_:=(fun a_=>(e1_ _ a_).trans (congrArg (fun w_=>World.cell? w_ a_) hq_));have e4_:=(fun a_=>(e2_ _ a_).trans (congrArg (fun w_=>World.frozen? w_ a_) hq_));clear e1_ e2_;(try replace Bt:=(e3_ _).symm.trans Bt);(try replace Fs:=(e3_ _).symm.trans Fs);(try replace Fv:=(e4_ _).symm.trans Fv);(try replace Ft:=(e3_ _).symm.trans Ft);(try replace Fx:=(e4_ _).symm.trans Fx);(try replace Fu:=(e3_ _).symm.trans Fu);(try replace Fy:=(e4_ _).symm.trans Fy);skip;clear e3_ e4_;have n0_:y0 (Kd.V (Kd.int .i64) 3 wr w.heap.size (fun k_=>((P0_3_ k_∨P0_4_ k_)∨w.heap.size≤k_)∧some k_≠(Bc:Value).ownBlock∧some k_≠(Au:Value).ownBlock∧k_≠Ag∧k_≠Ar) (.slice Bg Am.length Bh) Am):=⟨by rw [← hq_];exact(qV Ab.out)⟩;have n1_:y0 (Kd.V k33 33 wr w.heap.size (fun k_=>((P0_3_ k_∨P0_4_ k_)∨w.heap.size≤k_)∧some k_≠(Bc:Value).ownBlock∧some k_≠(Au:Value).ownBlock∧k_≠Ag∧k_≠Ar) (.slice Bk Ap.length Bl) Ap):=⟨by rw [← hq_];exact(qV Ac.out)⟩;have n2_:y0 (Kd.R (Kd.int .i64) 3 wr w.heap.size (fun k_=>(w.heap.size≤k_)) Bc Bd):=⟨by rw [← hq_];exact(qR Ak.out)⟩;have n3_:y0 (Kd.R Kd.string 9 wr w.heap.size (fun k_=>(w.heap.size≤k_)) Au Aw):=⟨by rw [← hq_];exact(qR Aj.out)⟩;have n4_:y0 (wr.heap[Ag]?=some (.cells #[.slice (some Cr) Aa.length Cc,.int .i64 Ba,.string Bb,.slice Bg Am.length Bh,.slice Bk Ap.length Bl] 36 (0,0))):=⟨by rw [← hq_];exact(qk Af.out)⟩;have n5_:y0 (wr.heap[Ar]?=some (.cells #[.int .i64 ((y20 Aa Ad).f0),.string ((y20 Aa Ad).f1),.slice (some Gr) ((y20 Aa Ad).f2).length Br] 48 (0,0))):=⟨by rw [← hq_];exact(qk Ai.out)⟩;have n6_:y0 (Below w.heap.size w wr):=⟨by rw [← hq_];exact qb⟩;clear Ab Ac Ak Aj Af Ai HB hq_;have Ab:=n0_;have Ac:=n1_;have Ak:=n2_;have Aj:=n3_;have Af:=n4_;have Ai:=n5_;have HB:=n6_;clear n0_ n1_ n2_ n3_ n4_ n5_ n6_));have Lf:0≤(Bj:Int):=of_decide_eq_true qy0;have Lg:Bj < (((y20 Aa Ad).f2).length:Int):=of_decide_eq_true qy0;obtain⟨Og,Uy,Dx⟩:=Kd.at_int Cf.out Bj Lf Lg;obtain rfl:Gr=Og:=(by injection Uy);replace Dx:=(HB.out.cell (World.block_lt_of_cell? w _ Dx)).trans Dx;replace Lf:=eq_true Lf;replace Lg:=eq_true Lg;obtain⟨bI,Gh,Uz⟩:=Kd.R_slice Ak.out;subst Uz;have Lh:0≤((rd ((y20 Aa Ad).f2) Bj):Int):=of_decide_eq_true qy0;have Li:(rd ((y20 Aa Ad).f2) Bj) < (Bd.length:Int):=of_decide_eq_true qy0;obtain⟨Xm,Va,Jk⟩:=Kd.at_int (Kd.R_reads' Ak.out).2.2 (rd ((y20 Aa Ad).f2) Bj) Lh Li;cases Va;replace Lh:=eq_true Lh;replace Li:=eq_true Li;have Vb:0≤((rd ((y20 Aa Ad).f2) Bj):Int):=of_decide_eq_true qy0;have Vc:((rd ((y20 Aa Ad).f2) Bj):Int) < ((Bd.length:Int):Int):=of_decide_eq_true qy0;obtain⟨Ep,bJ,Oh,Oi,Vd,bK,Oj⟩:=Kd.R_form Ak.out (by omega);(first|cases Oh|(injection Oh with ea_ en_ ec_;(first|subst ea_|(injection ea_ with ea_;subst ea_));subst ec_;clear en_));have Ve:=y0.mk Oi;have bL:=y0.mk Oj;clear Oi Vd Oj;(first|simp only [add_plain]at Jk|skip);obtain⟨Vf,Vg⟩:=Kd.R_celln 0 Ak.out ((rd ((y20 Aa Ad).f2) Bj):Int) Vb Vc;replace Vb:=eq_true Vb;replace Vc:=eq_true Vc;obtain⟨hy33_,hz33_⟩:=Kd.R_celln 0 Ak.out ((rd ((y20 Aa Ad).f2) Bj):Int) (of_decide_eq_true qy0) (of_decide_eq_true qy0);have Lj:=Kd.R_putg Ak.out ((rd ((y20 Aa Ad).f2) Bj):Int) (wrap64 ((rd Bd (rd ((y20 Aa Ad).f2) Bj)) + 1)))|((with_reducible refine gate_store (t:=3) (p:=67) rfl ?_);refine store_event (t:=3) (p:=67) (v:=?vo_w34) (w1:=(wr.setCell ⟨Ep,((rd ((y20 Aa Ad).f2) Bj):Int).toNat,none⟩ (.int .i64 (wrap64 ((rd Bd (rd ((y20 Aa Ad).f2) Bj)) + 1))))) ?hg ?ho ?hn ?hr ?_;(case ho=>rfl);(case hg=>rfl);(case hn=>rfl);(case hr=>first|(go_simp;done)|(go_simp;rfl));intro Vh hw;have hg:wr.grownBy Vh (some Ep):=(by rw [hw];exact Lj.2);have hp_:Kd.R (Kd.int .i64) 3 Vh w.heap.size (fun k_=>(w.heap.size≤k_)) (.slice (some ⟨Ep,0,none⟩) Bd.length Gh) Ld:=(by rw [hw,Of.out];exact Lj.1);clear Lj;replace Aj:=y0.mk (Kd.R_over' (v:=(.slice (some ⟨Ep,0,none⟩) Bd.length Gh)) (qR Aj.out) (Kd.R_typed Ak.out) (by decide) hg);replace Ab:=y0.mk (Kd.V_afterv (v:=(.slice (some ⟨Ep,0,none⟩) Bd.length Gh)) (v1:=(.slice (some ⟨Ep,0,none⟩) Bd.length Gh)) (ok:=(fun k_=>((P0_3_ k_∨P0_4_ k_)∨w.heap.size≤k_)∧some k_≠(Au:Value).ownBlock∧k_≠Ag∧k_≠Ar)) (qV (Kd.V_mono Ab.out (fun _ hk=>⟨⟨hk.1,⟨hk.2.2.1,⟨hk.2.2.2.1,hk.2.2.2.2⟩⟩⟩,hk.2.1⟩))) hg (.inl rfl));replace Ac:=y0.mk (Kd.V_afterv (v:=(.slice (some ⟨Ep,0,none⟩) Bd.length Gh)) (v1:=(.slice (some ⟨Ep,0,none⟩) Bd.length Gh)) (ok:=(fun k_=>((P0_3_ k_∨P0_4_ k_)∨w.heap.size≤k_)∧some k_≠(Au:Value).ownBlock∧k_≠Ag∧k_≠Ar)) (qV (Kd.V_mono Ac.out (fun _ hk=>⟨⟨hk.1,⟨hk.2.2.1,⟨hk.2.2.2.1,hk.2.2.2.2⟩⟩⟩,hk.2.1⟩))) hg (.inl rfl));replace Af:=y0.mk (blk_grown (qk Af.out) hg (Kd.R_ne Ak.out Af.out (by decide)));replace Ai:=y0.mk (blk_grown (qk Ai.out) hg (Kd.R_ne Ak.out Ai.out (by decide)));replace Ak:=y0.mk (hp_);replace HB:=y0.mk ((by rw [hw];exact y3 (HB.out) Ve.out:Below w.heap.size w Vh));clear hg hw hp_))
         go_roundg k2
         case measure=>have:=Cz.out;have:=Cy.out;omega
         exact⟨(Ld),(wrap64 (Bj + 1)),qy2,H',⟨by have:=Cz.out;have:=Cy.out;omega⟩,⟨qR Ak.out⟩,⟨qR Aj.out⟩,⟨qV (Kd.V_mono Ab.out (fun _ hk=>⟨hk.1.1,⟨hk.2,⟨hk.1.2.1,⟨hk.1.2.2.1,hk.1.2.2.2⟩⟩⟩⟩))⟩,⟨qV (Kd.V_mono Ac.out (fun _ hk=>⟨hk.1.1,⟨hk.2,⟨hk.1.2.1,⟨hk.1.2.2.1,hk.1.2.2.2⟩⟩⟩⟩))⟩,⟨qk Af.out⟩,⟨qk Ai.out⟩,⟨qb⟩⟩
        ·replace Rj:=Bool.eq_false_iff.mpr Rj
         subst Rj
         replace H:=qF H
         simp only [Option.some.injEq,Prod.mk.injEq]at H
         obtain⟨rfl,rfl⟩:=H
         have Xn:=Av.out
         have Xo:=As.out
         obtain⟨Rl,Rn,Ro,Rp,Rq,Rs⟩:=qz3 Ai.out
         have Fg:0≤(Bj:Int):=of_decide_eq_true qy0
         have Fh:Bj < (((y20 Aa Ad).f2).length:Int):=of_decide_eq_true qy0
         obtain⟨Gr,Le,Bt⟩:=Kd.at_int Cf.out Bj Fg Fh
         cases Le
         replace Bt:=(HB.out.cell (World.block_lt_of_cell? w _ Bt)).trans Bt
         replace Fg:=eq_true Fg
         replace Fh:=eq_true Fh
         go_wp2_with (first|((with_reducible refine y15 (f:=52) rfl ?_);refine y17 (some 55) rfl rfl Tryz.func52 (by kernel_rfl) rfl #[.int .i64 (rd ((y20 Aa Ad).f2) Bj),.int .i64 0,.int .i64 (wrap64 (Ad - 1))] rfl qy1 ?_;(with_reducible refine(spec_l01Between.calls (rd ((y20 Aa Ad).f2) Bj) 0 (wrap64 (Ad - 1)) false _ Xf.out).mono ?_);rintro e w' ⟨rfl,⟨nd,rfl⟩⟩;refine⟨_,rfl, ?_⟩))
         go_ret2
         exact⟨_,by first|rfl|(simp [y12,y13] <;> rfl)|(simp [*,y12,y13] <;> rfl),by(with_reducible repeat(first|apply Kd.R_alloc|apply Kd.R_drewN|apply Kd.R_drew));exact Aj.out,qb⟩
       ·as_aux_lemma =>
        rw [if_neg Nr]at H
        have Kp:=decide_eq_false Nr
        clear Nr
        have Lk:=y0.mk H
        clear H
        have Xp:=Av.out
        have Xq:=As.out
        obtain⟨Jl,Jm,Jn,Jo,Jp,Jq⟩:=qz3 Ai.out
        go_upto_block 4 with(fail)
        go_cut [9] (fun v9 wc=>∃(kq:Nat) (Cs:ByteArray),v9=.string Cs∧y0 (z8_.j5 kq Bd Aw Ad Cs Aa Ba Bb Am Ap ((y20 Aa Ad).f0) ((y20 Aa Ad).f1) ((y20 Aa Ad).f2)=some (r1,r2))∧y0 (kq≤k2)∧y0 (Kd.R (Kd.int .i64) 3 wc w.heap.size (fun k_=>(w.heap.size≤k_)) Bc Bd)∧y0 (Kd.R Kd.string 9 wc w.heap.size (fun k_=>(w.heap.size≤k_)) Au Aw)∧y0 (Kd.V (Kd.int .i64) 3 wc w.heap.size (fun k_=>((P0_3_ k_∨P0_4_ k_)∨w.heap.size≤k_)∧some k_≠(Bc:Value).ownBlock∧some k_≠(Au:Value).ownBlock∧k_≠Ag∧k_≠Ar) (.slice Bg Am.length Bh) Am)∧y0 (Kd.V k33 33 wc w.heap.size (fun k_=>((P0_3_ k_∨P0_4_ k_)∨w.heap.size≤k_)∧some k_≠(Bc:Value).ownBlock∧some k_≠(Au:Value).ownBlock∧k_≠Ag∧k_≠Ar) (.slice Bk Ap.length Bl) Ap)∧y0 (wc.heap[Ag]?=some (.cells #[(.slice (some Cr) Aa.length Cc),.int .i64 Ba,.string Bb,(.slice Bg Am.length Bh),(.slice Bk Ap.length Bl)] 36 (0,0)))∧y0 (wc.heap[Ar]?=some (.cells #[.int .i64 ((y20 Aa Ad).f0),.string ((y20 Aa Ad).f1),(.slice Cd ((y20 Aa Ad).f2).length Br)] 48 (0,0)))∧y0 (Below w.heap.size w wc))
        case first =>
         have H:=Lk.out
         clear Lk
         have Ll:=y0.mk H
         clear H
         go_upto_if 71 with(fail)
         go_cut [71] (fun bM wc=>∃(kq:Nat) (Dy:Bool),bM=.bool Dy∧y0 (z8_.j2 kq Bd Aw Ad ((y20 Aa Ad).f0) Dy Aa Ba Bb Am Ap ((y20 Aa Ad).f0) ((y20 Aa Ad).f1) ((y20 Aa Ad).f2)=some (r1,r2))∧y0 (kq≤k2)∧y0 (Kd.R (Kd.int .i64) 3 wc w.heap.size (fun k_=>(w.heap.size≤k_)) Bc Bd)∧y0 (Kd.R Kd.string 9 wc w.heap.size (fun k_=>(w.heap.size≤k_)) Au Aw)∧y0 (Kd.V (Kd.int .i64) 3 wc w.heap.size (fun k_=>((P0_3_ k_∨P0_4_ k_)∨w.heap.size≤k_)∧some k_≠(Bc:Value).ownBlock∧some k_≠(Au:Value).ownBlock∧k_≠Ag∧k_≠Ar) (.slice Bg Am.length Bh) Am)∧y0 (Kd.V k33 33 wc w.heap.size (fun k_=>((P0_3_ k_∨P0_4_ k_)∨w.heap.size≤k_)∧some k_≠(Bc:Value).ownBlock∧some k_≠(Au:Value).ownBlock∧k_≠Ag∧k_≠Ar) (.slice Bk Ap.length Bl) Ap)∧y0 (wc.heap[Ag]?=some (.cells #[(.slice (some Cr) Aa.length Cc),.int .i64 Ba,.string Bb,(.slice Bg Am.length Bh),(.slice Bk Ap.length Bl)] 36 (0,0)))∧y0 (wc.heap[Ar]?=some (.cells #[.int .i64 ((y20 Aa Ad).f0),.string ((y20 Aa Ad).f1),(.slice Cd ((y20 Aa Ad).f2).length Br)] 48 (0,0)))∧y0 (Below w.heap.size w wc))
         case first =>
          have H:=Ll.out
          clear Ll
          by_cases Lm:((y20 Aa Ad).f0)=1
          ·as_aux_lemma =>
           rw [if_pos Lm]at H
           have Eq:(((y20 Aa Ad).f0) == 1)=true:=beq_iff_eq.mpr Lm
           have Ok:(((y20 Aa Ad).f0) != 1)=false:=bne_eq_false_iff_eq.mpr Lm
           clear Lm
           (first|rw [Eq]|(simp only [i64_w,i32_w];rw [Eq])|skip)
           have H':=y0.mk H
           clear H
           go_wp2
           go_meet
           exact⟨_,((((y20 Aa Ad).f0) == 1)),qy2,H',⟨by have:=Cz.out;have:=Cy.out;first|omega|exact Nat.le_refl _⟩,⟨qR Ak.out⟩,⟨qR Aj.out⟩,⟨qV Ab.out⟩,⟨qV Ac.out⟩,⟨qk Af.out⟩,⟨qk Ai.out⟩,⟨qb⟩⟩
          ·as_aux_lemma =>
           rw [if_neg Lm]at H
           have Eq:(((y20 Aa Ad).f0) == 1)=false:=beq_eq_false_iff_ne.mpr Lm
           have Ok:(((y20 Aa Ad).f0) != 1)=true:=bne_iff_ne.mpr Lm
           (first|rw [Eq]|(simp only [i64_w,i32_w];rw [Eq])|skip)
           have H':=y0.mk H
           clear H
           go_wp2
           go_meet
           exact⟨_,((((y20 Aa Ad).f0) == 3)),qy2,H',⟨by have:=Cz.out;have:=Cy.out;first|omega|exact Nat.le_refl _⟩,⟨qR Ak.out⟩,⟨qR Aj.out⟩,⟨qV Ab.out⟩,⟨qV Ac.out⟩,⟨qk Af.out⟩,⟨qk Ai.out⟩,⟨qb⟩⟩
         case rest =>
          clear Ll
          (try clear Kp Jl Jm Jn Jo Jp Jq)
          obtain⟨kq,Dy,rfl,HA,Dc,Ak,Aj,Ab,Ac,Af,Ai,HB⟩:=hcut
          cases kq with
          | zero=>exact absurd HA.out (by simp [z8_.j2])
          | succ Ln =>
           have H:=HA.out
           clear HA
           simp only [z8_.j2]at H
           by_cases Ol:Dy=true
           ·subst Ol
            replace H:=qT H
            have H':=y0.mk H
            clear H
            have Xr:=Av.out
            have Xs:=As.out
            obtain⟨Rt,Ru,Rv,Rw,Rx,Ry⟩:=qz3 Ai.out
            go_wp2
            go_meet
            exact⟨_,(((y20 Aa Ad).f1)),qy2,H',⟨by have:=Cz.out;have:=Cy.out;have:=Dc.out;first|omega|exact Nat.le_refl _⟩,⟨qR Ak.out⟩,⟨qR Aj.out⟩,⟨qV Ab.out⟩,⟨qV Ac.out⟩,⟨qk Af.out⟩,⟨qk Ai.out⟩,⟨qb⟩⟩
           ·replace Ol:=Bool.eq_false_iff.mpr Ol
            subst Ol
            replace H:=qF H
            by_cases Lo:((y20 Aa Ad).f0)=2
            ·as_aux_lemma =>
             rw [if_pos Lo]at H
             have Kq:(((y20 Aa Ad).f0) == 2)=true:=beq_iff_eq.mpr Lo
             have Kr:(((y20 Aa Ad).f0) != 2)=false:=bne_eq_false_iff_eq.mpr Lo
             clear Lo
             have H':=y0.mk H
             clear H
             go_wp2
             go_meet
             exact⟨_,((⟨#[95]⟩:ByteArray)),qy2,H',⟨by have:=Cz.out;have:=Cy.out;have:=Dc.out;first|omega|exact Nat.le_refl _⟩,⟨qR Ak.out⟩,⟨qR Aj.out⟩,⟨qV Ab.out⟩,⟨qV Ac.out⟩,⟨qk Af.out⟩,⟨qk Ai.out⟩,⟨qb⟩⟩
            ·as_aux_lemma =>
             rw [if_neg Lo]at H
             have Kq:(((y20 Aa Ad).f0) == 2)=false:=beq_eq_false_iff_ne.mpr Lo
             have Kr:(((y20 Aa Ad).f0) != 2)=true:=bne_iff_ne.mpr Lo
             by_cases Lp:((y20 Aa Ad).f0)=4
             ·as_aux_lemma =>
              rw [if_pos Lp]at H
              have Gs:(((y20 Aa Ad).f0) == 4)=true:=beq_iff_eq.mpr Lp
              have Gt:(((y20 Aa Ad).f0) != 4)=false:=bne_eq_false_iff_eq.mpr Lp
              clear Lp
              have H':=y0.mk H
              clear H
              have Xt:=Av.out
              have Xu:=As.out
              obtain⟨Jr,Js,Jt,Ju,Jv,Jw⟩:=qz3 Ai.out
              go_wp2
              go_loopg [9,10] Ln (fun kq v9 bN w'=>∃(Dz:ByteArray) (Az:Int),v9=.string Dz∧bN=.int .i64 Az∧y0 (z8_.l2 kq Bd Aw Ad Dz Az Aa Ba Bb Am Ap ((y20 Aa Ad).f0) ((y20 Aa Ad).f1) ((y20 Aa Ad).f2)=some (r1,r2))∧y0 (kq≤Ln)∧y0 (Kd.R (Kd.int .i64) 3 w' w.heap.size (fun k_=>(w.heap.size≤k_)) Bc Bd)∧y0 (Kd.R Kd.string 9 w' w.heap.size (fun k_=>(w.heap.size≤k_)) Au Aw)∧y0 (Kd.V (Kd.int .i64) 3 w' w.heap.size (fun k_=>((P0_3_ k_∨P0_4_ k_)∨w.heap.size≤k_)∧some k_≠(Bc:Value).ownBlock∧some k_≠(Au:Value).ownBlock∧k_≠Ag∧k_≠Ar) (.slice Bg Am.length Bh) Am)∧y0 (Kd.V k33 33 w' w.heap.size (fun k_=>((P0_3_ k_∨P0_4_ k_)∨w.heap.size≤k_)∧some k_≠(Bc:Value).ownBlock∧some k_≠(Au:Value).ownBlock∧k_≠Ag∧k_≠Ar) (.slice Bk Ap.length Bl) Ap)∧y0 (w'.heap[Ag]?=some (.cells #[(.slice (some Cr) Aa.length Cc),.int .i64 Ba,.string Bb,(.slice Bg Am.length Bh),(.slice Bk Ap.length Bl)] 36 (0,0)))∧y0 (w'.heap[Ar]?=some (.cells #[.int .i64 ((y20 Aa Ad).f0),.string ((y20 Aa Ad).f1),(.slice Cd ((y20 Aa Ad).f2).length Br)] 48 (0,0)))∧y0 (Below w.heap.size w w'))
              case atStart=>exact⟨(((y20 Aa Ad).f1)),(0),qy2,qy2,H',⟨Nat.le_refl _⟩,⟨qR Ak.out⟩,⟨qR Aj.out⟩,⟨qV Ab.out⟩,⟨qV Ac.out⟩,⟨qk Af.out⟩,⟨qk Ai.out⟩,⟨qb⟩⟩
              case round =>
               clear H'
               (try clear Ol Kq Kr Gs Gt Jr Js Jt Ju Jv Jw)
               obtain⟨Dz,Az,rfl,rfl,HA,Ns,Ak,Aj,Ab,Ac,Af,Ai,HB⟩:=hrel
               cases gk with
               | zero=>exact absurd HA.out (by simp [z8_.l2])
               | succ k4 =>
                have H:=HA.out
                clear HA
                simp only [z8_.l2]at H
                by_cases Nt:Az < (((y20 Aa Ad).f2).length:Int)
                ·as_aux_lemma =>
                 rw [if_pos Nt]at H
                 have Om:=decide_eq_true Nt
                 clear Nt
                 by_cases Lq:Az=0
                 ·as_aux_lemma =>
                  rw [if_pos Lq]at H
                  have On:(Az == 0)=true:=beq_iff_eq.mpr Lq
                  have Oo:(Az != 0)=false:=bne_eq_false_iff_eq.mpr Lq
                  clear Lq
                  obtain⟨Vi,H⟩:=qo H
                  have Xv:=eq_true Vi
                  have Xw:=decide_eq_true Vi
                  have Xx:=eq_false (Nat.not_lt.2 Vi)
                  obtain⟨Xy,H⟩:=qo H
                  have Xz:decide (0≤Az)=true:=decide_eq_true Xy
                  clear Xy
                  obtain⟨Ya,H⟩:=qo H
                  have Yb:decide (0≤(rd ((y20 Aa Ad).f2) Az))=true:=decide_eq_true Ya
                  clear Ya
                  obtain⟨Yc,H⟩:=qo H
                  have Yd:decide ((rd ((y20 Aa Ad).f2) Az) < (Aw.length:Int))=true:=decide_eq_true Yc
                  clear Yc
                  obtain⟨Vj,H⟩:=qo H
                  have Ye:=eq_true Vj
                  have Yf:=decide_eq_true Vj
                  have Oq:=eq_false (Nat.not_lt.2 Vj)
                  have Yg:(9223372036854775807 < Dz.size + 1 + (rdOf ByteArray.empty Aw (rd ((y20 Aa Ad).f2) Az)).size)=False:=qs Oq
                  have H':=y0.mk H
                  clear H
                  have Yh:=Av.out
                  have Yi:=As.out
                  obtain⟨Rz,Sa,Sb,Sc,Sd,Se⟩:=qz3 Ai.out
                  have Lr:0≤(Az:Int):=of_decide_eq_true qy0
                  have Ls:Az < (((y20 Aa Ad).f2).length:Int):=of_decide_eq_true qy0
                  obtain⟨Yj,Vk,Ea⟩:=Kd.at_int Cf.out Az Lr Ls
                  cases Vk
                  replace Ea:=(HB.out.cell (World.block_lt_of_cell? w _ Ea)).trans Ea
                  replace Lr:=eq_true Lr
                  replace Ls:=eq_true Ls
                  obtain⟨bO,bP,Vl⟩:=Kd.R_slice Aj.out
                  subst Vl
                  have Lt:0≤((rd ((y20 Aa Ad).f2) Az):Int):=of_decide_eq_true qy0
                  have Lu:(rd ((y20 Aa Ad).f2) Az) < (Aw.length:Int):=of_decide_eq_true qy0
                  obtain⟨Yk,Vm,Sf⟩:=Kd.at_string (Kd.R_reads' Aj.out).2.2 (rd ((y20 Aa Ad).f2) Az) Lt Lu
                  cases Vm
                  replace Lt:=eq_true Lt
                  replace Lu:=eq_true Lu
                  go_wp2
                  go_roundg k4
                  case measure=>have:=Cz.out;have:=Cy.out;have:=Dc.out;have:=Ns.out;omega
                  exact⟨((Dz ++ (⟨#[40]⟩:ByteArray)) ++ (rdOf ByteArray.empty Aw (rd ((y20 Aa Ad).f2) Az))),(wrap64 (Az + 1)),qy2,qy2,H',⟨by have:=Cz.out;have:=Cy.out;have:=Dc.out;have:=Ns.out;omega⟩,⟨qR Ak.out⟩,⟨qR Aj.out⟩,⟨qV Ab.out⟩,⟨qV Ac.out⟩,⟨qk Af.out⟩,⟨qk Ai.out⟩,⟨qb⟩⟩
                 ·as_aux_lemma =>
                  rw [if_neg Lq]at H
                  have On:(Az == 0)=false:=beq_eq_false_iff_ne.mpr Lq
                  have Oo:(Az != 0)=true:=bne_iff_ne.mpr Lq
                  obtain⟨Vn,H⟩:=qo H
                  have Yl:=eq_true Vn
                  have Ym:=decide_eq_true Vn
                  have Yn:=eq_false (Nat.not_lt.2 Vn)
                  obtain⟨Yo,H⟩:=qo H
                  have Yp:decide (0≤Az)=true:=decide_eq_true Yo
                  clear Yo
                  obtain⟨Yq,H⟩:=qo H
                  have Yr:decide (0≤(rd ((y20 Aa Ad).f2) Az))=true:=decide_eq_true Yq
                  clear Yq
                  obtain⟨Ys,H⟩:=qo H
                  have Yt:decide ((rd ((y20 Aa Ad).f2) Az) < (Aw.length:Int))=true:=decide_eq_true Ys
                  clear Ys
                  obtain⟨Vo,H⟩:=qo H
                  have Yu:=eq_true Vo
                  have Yv:=decide_eq_true Vo
                  have Ot:=eq_false (Nat.not_lt.2 Vo)
                  have Yw:(9223372036854775807 < Dz.size + 2 + (rdOf ByteArray.empty Aw (rd ((y20 Aa Ad).f2) Az)).size)=False:=qs Ot
                  have H':=y0.mk H
                  clear H
                  have Yx:=Av.out
                  have Yy:=As.out
                  obtain⟨Sg,Sh,Si,Sj,Sk,Sl⟩:=qz3 Ai.out
                  have Lv:0≤(Az:Int):=of_decide_eq_true qy0
                  have Lw:Az < (((y20 Aa Ad).f2).length:Int):=of_decide_eq_true qy0
                  obtain⟨Yz,Vp,Eb⟩:=Kd.at_int Cf.out Az Lv Lw
                  cases Vp
                  replace Eb:=(HB.out.cell (World.block_lt_of_cell? w _ Eb)).trans Eb
                  replace Lv:=eq_true Lv
                  replace Lw:=eq_true Lw
                  obtain⟨bQ,bR,Vq⟩:=Kd.R_slice Aj.out
                  subst Vq
                  have Lx:0≤((rd ((y20 Aa Ad).f2) Az):Int):=of_decide_eq_true qy0
                  have Ly:(rd ((y20 Aa Ad).f2) Az) < (Aw.length:Int):=of_decide_eq_true qy0
                  obtain⟨Za,Vr,Sm⟩:=Kd.at_string (Kd.R_reads' Aj.out).2.2 (rd ((y20 Aa Ad).f2) Az) Lx Ly
                  cases Vr
                  replace Lx:=eq_true Lx
                  replace Ly:=eq_true Ly
                  go_wp2
                  go_roundg k4
                  case measure=>have:=Cz.out;have:=Cy.out;have:=Dc.out;have:=Ns.out;omega
                  exact⟨((Dz ++ (⟨#[44,32]⟩:ByteArray)) ++ (rdOf ByteArray.empty Aw (rd ((y20 Aa Ad).f2) Az))),(wrap64 (Az + 1)),qy2,qy2,H',⟨by have:=Cz.out;have:=Cy.out;have:=Dc.out;have:=Ns.out;omega⟩,⟨qR Ak.out⟩,⟨qR Aj.out⟩,⟨qV Ab.out⟩,⟨qV Ac.out⟩,⟨qk Af.out⟩,⟨qk Ai.out⟩,⟨qb⟩⟩
                ·as_aux_lemma =>
                 rw [if_neg Nt]at H
                 have Om:=decide_eq_false Nt
                 clear Nt
                 by_cases Nu:(((y20 Aa Ad).f2).length:Int) > 0
                 ·as_aux_lemma =>
                  rw [if_pos Nu]at H
                  have Ou:decide (0 < (((y20 Aa Ad).f2).length:Int))=true:=decide_eq_true Nu
                  have Ov:decide (0 < ((y20 Aa Ad).f2).length)=true:=decide_eq_true (by omega)
                  clear Nu
                  obtain⟨Vs,H⟩:=qo H
                  have Zb:=eq_true Vs
                  have Zc:=decide_eq_true Vs
                  have Zd:=eq_false (Nat.not_lt.2 Vs)
                  have H':=y0.mk H
                  clear H
                  have Ze:=Av.out
                  have Zf:=As.out
                  obtain⟨Sn,So,Sp,Sq,Sr,Ss⟩:=qz3 Ai.out
                  go_wp2
                  go_meet
                  exact⟨_,(Dz ++ (⟨#[41]⟩:ByteArray)),qy2,H',⟨by have:=Cz.out;have:=Cy.out;have:=Dc.out;have:=Ns.out;first|omega|exact Nat.le_refl _⟩,⟨qR Ak.out⟩,⟨qR Aj.out⟩,⟨qV Ab.out⟩,⟨qV Ac.out⟩,⟨qk Af.out⟩,⟨qk Ai.out⟩,⟨qb⟩⟩
                 ·as_aux_lemma =>
                  rw [if_neg Nu]at H
                  have Ou:decide (0 < (((y20 Aa Ad).f2).length:Int))=false:=decide_eq_false Nu
                  have Ov:decide (0 < ((y20 Aa Ad).f2).length)=false:=decide_eq_false (by omega)
                  clear Nu
                  have H':=y0.mk H
                  clear H
                  have Zg:=Av.out
                  have Zh:=As.out
                  obtain⟨St,Su,Sv,Sw,Sx,Sy⟩:=qz3 Ai.out
                  go_wp2
                  go_meet
                  exact⟨_,(Dz),qy2,H',⟨by have:=Cz.out;have:=Cy.out;have:=Dc.out;have:=Ns.out;first|omega|exact Nat.le_refl _⟩,⟨qR Ak.out⟩,⟨qR Aj.out⟩,⟨qV Ab.out⟩,⟨qV Ac.out⟩,⟨qk Af.out⟩,⟨qk Ai.out⟩,⟨qb⟩⟩
             ·as_aux_lemma =>
              rw [if_neg Lp]at H
              have Gs:(((y20 Aa Ad).f0) == 4)=false:=beq_eq_false_iff_ne.mpr Lp
              have Gt:(((y20 Aa Ad).f0) != 4)=true:=bne_iff_ne.mpr Lp
              have Lz:=y0.mk H
              clear H
              go_upto_if 111 with(fail)
              go_cut [111] (fun Vt wc=>∃(kq:Nat) (Dh:Bool),Vt=.bool Dh∧y0 (z8_.j4 kq Bd Aw Ad Dh Aa Ba Bb Am Ap ((y20 Aa Ad).f0) ((y20 Aa Ad).f1) ((y20 Aa Ad).f2)=some (r1,r2))∧y0 (kq≤Ln)∧y0 (Kd.R (Kd.int .i64) 3 wc w.heap.size (fun k_=>(w.heap.size≤k_)) Bc Bd)∧y0 (Kd.R Kd.string 9 wc w.heap.size (fun k_=>(w.heap.size≤k_)) Au Aw)∧y0 (Kd.V (Kd.int .i64) 3 wc w.heap.size (fun k_=>((P0_3_ k_∨P0_4_ k_)∨w.heap.size≤k_)∧some k_≠(Bc:Value).ownBlock∧some k_≠(Au:Value).ownBlock∧k_≠Ag∧k_≠Ar) (.slice Bg Am.length Bh) Am)∧y0 (Kd.V k33 33 wc w.heap.size (fun k_=>((P0_3_ k_∨P0_4_ k_)∨w.heap.size≤k_)∧some k_≠(Bc:Value).ownBlock∧some k_≠(Au:Value).ownBlock∧k_≠Ag∧k_≠Ar) (.slice Bk Ap.length Bl) Ap)∧y0 (wc.heap[Ag]?=some (.cells #[(.slice (some Cr) Aa.length Cc),.int .i64 Ba,.string Bb,(.slice Bg Am.length Bh),(.slice Bk Ap.length Bl)] 36 (0,0)))∧y0 (wc.heap[Ar]?=some (.cells #[.int .i64 ((y20 Aa Ad).f0),.string ((y20 Aa Ad).f1),(.slice Cd ((y20 Aa Ad).f2).length Br)] 48 (0,0)))∧y0 (Below w.heap.size w wc))
              case first =>
               have H:=Lz.out
               clear Lz
               by_cases Ma:((y20 Aa Ad).f0)=5
               ·as_aux_lemma =>
                rw [if_pos Ma]at H
                have Er:(((y20 Aa Ad).f0) == 5)=true:=beq_iff_eq.mpr Ma
                have Ow:(((y20 Aa Ad).f0) != 5)=false:=bne_eq_false_iff_eq.mpr Ma
                clear Ma
                (first|rw [Er]|(simp only [i64_w,i32_w];rw [Er])|skip)
                have H':=y0.mk H
                clear H
                go_wp2
                go_meet
                exact⟨_,((((y20 Aa Ad).f0) == 5)),qy2,H',⟨by have:=Cz.out;have:=Cy.out;have:=Dc.out;first|omega|exact Nat.le_refl _⟩,⟨qR Ak.out⟩,⟨qR Aj.out⟩,⟨qV Ab.out⟩,⟨qV Ac.out⟩,⟨qk Af.out⟩,⟨qk Ai.out⟩,⟨qb⟩⟩
               ·as_aux_lemma =>
                rw [if_neg Ma]at H
                have Er:(((y20 Aa Ad).f0) == 5)=false:=beq_eq_false_iff_ne.mpr Ma
                have Ow:(((y20 Aa Ad).f0) != 5)=true:=bne_iff_ne.mpr Ma
                (first|rw [Er]|(simp only [i64_w,i32_w];rw [Er])|skip)
                by_cases Mb:((y20 Aa Ad).f0)=6
                ·as_aux_lemma =>
                 rw [if_pos Mb]at H
                 have Ox:(((y20 Aa Ad).f0) == 6)=true:=beq_iff_eq.mpr Mb
                 have Oy:(((y20 Aa Ad).f0) != 6)=false:=bne_eq_false_iff_eq.mpr Mb
                 clear Mb
                 have H':=y0.mk H
                 clear H
                 go_wp2
                 go_meet
                 exact⟨_,((((y20 Aa Ad).f0) == 6)),qy2,H',⟨by have:=Cz.out;have:=Cy.out;have:=Dc.out;first|omega|exact Nat.le_refl _⟩,⟨qR Ak.out⟩,⟨qR Aj.out⟩,⟨qV Ab.out⟩,⟨qV Ac.out⟩,⟨qk Af.out⟩,⟨qk Ai.out⟩,⟨qb⟩⟩
                ·as_aux_lemma =>
                 rw [if_neg Mb]at H
                 have Ox:(((y20 Aa Ad).f0) == 6)=false:=beq_eq_false_iff_ne.mpr Mb
                 have Oy:(((y20 Aa Ad).f0) != 6)=true:=bne_iff_ne.mpr Mb
                 have H':=y0.mk H
                 clear H
                 go_wp2
                 go_meet
                 exact⟨_,((((y20 Aa Ad).f0) == 7)),qy2,H',⟨by have:=Cz.out;have:=Cy.out;have:=Dc.out;first|omega|exact Nat.le_refl _⟩,⟨qR Ak.out⟩,⟨qR Aj.out⟩,⟨qV Ab.out⟩,⟨qV Ac.out⟩,⟨qk Af.out⟩,⟨qk Ai.out⟩,⟨qb⟩⟩
              case rest =>
               clear Lz
               (try clear Gs Gt)
               obtain⟨kq,Dh,rfl,HA,Vu,Ak,Aj,Ab,Ac,Af,Ai,HB⟩:=hcut
               cases kq with
               | zero=>exact absurd HA.out (by simp [z8_.j4])
               | succ Oz =>
                have H:=HA.out
                clear HA
                simp only [z8_.j4]at H
                by_cases Sz:Dh=true
                ·subst Sz
                 replace H:=qT H
                 by_cases Mc:(((y20 Aa Ad).f2).length:Int)=2
                 ·as_aux_lemma =>
                  rw [if_pos Mc]at H
                  have Pa:((((y20 Aa Ad).f2).length:Int) == 2)=true:=beq_iff_eq.mpr Mc
                  have Pc:((((y20 Aa Ad).f2).length:Int) != 2)=false:=bne_eq_false_iff_eq.mpr Mc
                  clear Mc
                  obtain⟨Dd,Es⟩:∃ y_:List ByteArray,y_=(([(⟨#[32,43,32]⟩:ByteArray),(⟨#[32,45,32]⟩:ByteArray),(⟨#[32,42,32]⟩:ByteArray)]:List ByteArray)):=⟨_,rfl⟩
                  replace H:(if 0≤(wrap64 (((y20 Aa Ad).f0) - 5))then(if(wrap64 (((y20 Aa Ad).f0) - 5)) < (Dd.length:Int)then(if 0 < (((y20 Aa Ad).f2).length:Int)then((spec_l04Side.f Aa Ba Bb Am Ap Aw (rd ((y20 Aa Ad).f2) 0)).bind fun Do=>(if Do.size + (rdOf ByteArray.empty Dd (wrap64 (((y20 Aa Ad).f0) - 5))).size≤9223372036854775807 then(if 1 < (((y20 Aa Ad).f2).length:Int)then((spec_l04Side.f Aa Ba Bb Am Ap Aw (rd ((y20 Aa Ad).f2) 1)).bind fun Ec=>(if(Do ++ (rdOf ByteArray.empty Dd (wrap64 (((y20 Aa Ad).f0) - 5)))).size + Ec.size≤9223372036854775807 then(z8_.j5 Oz Bd Aw Ad ((Do ++ (rdOf ByteArray.empty Dd (wrap64 (((y20 Aa Ad).f0) - 5)))) ++ Ec) Aa Ba Bb Am Ap ((y20 Aa Ad).f0) ((y20 Aa Ad).f1) ((y20 Aa Ad).f2))else(none)))else(none))else(none)))else(none))else(none))else(none))=some (r1,r2):=by first|(rw [Es];with_reducible exact H)|(have H2_:=(Option.bind_some _ _).symm.trans H;rw [Es];with_reducible exact H2_)|(have H2_:=(Option.bind_some _ _).symm.trans H;with_reducible exact H2_)|with_reducible exact H|(rw [Es];exact H)|exact H
                  have Ks:=y0.mk Es
                  clear Es
                  obtain⟨Da,Et⟩:∃ j_:Int,(wrap64 (((y20 Aa Ad).f0) - 5))=j_:=⟨_,rfl⟩
                  replace H:(if 0≤(Da)then(if(Da) < (Dd.length:Int)then(if 0 < (((y20 Aa Ad).f2).length:Int)then((spec_l04Side.f Aa Ba Bb Am Ap Aw (rd ((y20 Aa Ad).f2) 0)).bind fun Do=>(if Do.size + (rdOf ByteArray.empty Dd (Da)).size≤9223372036854775807 then(if 1 < (((y20 Aa Ad).f2).length:Int)then((spec_l04Side.f Aa Ba Bb Am Ap Aw (rd ((y20 Aa Ad).f2) 1)).bind fun Ec=>(if(Do ++ (rdOf ByteArray.empty Dd (Da))).size + Ec.size≤9223372036854775807 then(z8_.j5 Oz Bd Aw Ad ((Do ++ (rdOf ByteArray.empty Dd (Da))) ++ Ec) Aa Ba Bb Am Ap ((y20 Aa Ad).f0) ((y20 Aa Ad).f1) ((y20 Aa Ad).f2))else(none)))else(none))else(none)))else(none))else(none))else(none))=some (r1,r2):=by first|(rw [Et]at H;exact H)|(simp only [Et]at H ⊢;exact H)
                  have hji78w:(IntKind.i64.wrap (((y20 Aa Ad).f0) - 5))=Da:=(i64_w _).trans Et
                  obtain⟨Zi,H⟩:=qo H
                  have Zj:decide (0≤(Da))=true:=decide_eq_true Zi
                  clear Zi
                  obtain⟨Zk,H⟩:=qo H
                  have Zl:decide ((Da) < (Dd.length:Int))=true:=decide_eq_true Zk
                  clear Zk
                  obtain⟨Zm,H⟩:=qo H
                  have Zn:decide (0 < (((y20 Aa Ad).f2).length:Int))=true:=decide_eq_true Zm
                  have Zo:decide (0 < ((y20 Aa Ad).f2).length)=true:=decide_eq_true (by omega)
                  clear Zm
                  obtain⟨Do,bS,H⟩:=qB H
                  obtain⟨Vv,H⟩:=qo H
                  have Zp:=eq_true Vv
                  have Zq:=decide_eq_true Vv
                  have Zr:=eq_false (Nat.not_lt.2 Vv)
                  obtain⟨Zs,H⟩:=qo H
                  have Zt:decide (1 < (((y20 Aa Ad).f2).length:Int))=true:=decide_eq_true Zs
                  have Zu:decide (1 < ((y20 Aa Ad).f2).length)=true:=decide_eq_true (by omega)
                  clear Zs
                  obtain⟨Ec,bT,H⟩:=qB H
                  obtain⟨Vw,H⟩:=qo H
                  have Zv:=eq_true Vw
                  have Zw:=decide_eq_true Vw
                  have Pd:=eq_false (Nat.not_lt.2 Vw)
                  have Zx:(9223372036854775807 < Do.size + (rdOf ByteArray.empty Dd (Da)).size + Ec.size)=False:=qs Pd
                  have H':=y0.mk H
                  clear H
                  have Zy:=Av.out
                  have Zz:=As.out
                  obtain⟨Ta,Tc,Td,Te,Tf,Tg⟩:=qz3 Ai.out
                  try go_wp2_with (first|((with_reducible refine y16 (N:=120) rfl ?_);(try(refine gate_guard (by rfl) ?_;dsimp only));refine qL Kd.string 9 120 ([(⟨#[32,43,32]⟩:ByteArray),(⟨#[32,45,32]⟩:ByteArray),(⟨#[32,42,32]⟩:ByteArray)]:List ByteArray) ?_;intro bU bV Eu hb hg_ hnew_;clear hg_ hnew_;(first|rw [← Ks.out]at Eu|(simp only [Int.reduceToNat]at Eu;rw [← Ks.out]at Eu));replace Ak:=y0.mk (Kd.R_below (qR Ak.out) hb);replace Ab:=y0.mk (Kd.V_elder' (qV Ab.out) (Kd.R_base Eu) hb);replace Ac:=y0.mk (Kd.V_elder' (qV Ac.out) (Kd.R_base Eu) hb);have Ct:=y0.mk (Kd.R_lower (Kd.R_new' (Kd.R_newM (M:=fun k_=>(w.heap.size≤k_)) Eu (y4 qb) (fun k_ h_=>h_)) (Kd.R_lt (qR Aj.out))) (y4 qb));replace Aj:=y0.mk (Kd.R_elder' (qR Aj.out) (Kd.R_base Eu) hb);replace Af:=y0.mk (qK Af.out hb);replace Ai:=y0.mk (qK Ai.out hb);replace HB:=y0.mk (y5 qb hb);clear hb Eu;obtain⟨Th,Ti,Tj,Tk,Tl,Tm⟩:=qz3 Ai.out;obtain⟨bW,bX,Vx⟩:=Kd.R_slice Ct.out;subst Vx;have Md:0≤((Da):Int):=of_decide_eq_true qy0;have Me:(Da) < (Dd.length:Int):=of_decide_eq_true qy0;obtain⟨aA,Vy,Tn⟩:=Kd.at_string (Kd.R_reads' Ct.out).2.2 (Da) Md Me;cases Vy;replace Md:=eq_true Md;replace Me:=eq_true Me))
                  replace Ak:=y0.mk (Kd.R_drew Ak.out)
                  replace Aj:=y0.mk (Kd.R_drew Aj.out)
                  replace Ab:=y0.mk (Kd.V_drew Ab.out)
                  replace Ac:=y0.mk (Kd.V_drew Ac.out)
                  replace Ct:=y0.mk (Kd.R_drew Ct.out)
                  replace Af:=y0.mk (y9 Af.out)
                  replace Ai:=y0.mk (y9 Ai.out)
                  replace HB:=y0.mk (y2 HB.out)
                  have Mf:0≤(0:Int):=(by omega)
                  have Mg:0 < (((y20 Aa Ad).f2).length:Int):=of_decide_eq_true qy0
                  obtain⟨Ew,Vz,Cg⟩:=Kd.at_int Cf.out 0 Mf Mg
                  have Bu:=Cg
                  (try rw [show((0:Int)).toNat=0 from rfl]at Bu)
                  (try rw [show 0 * 1=0 from rfl]at Bu)
                  (try rw [Addr.add_zero']at Bu)
                  cases Vz
                  have aC:(0 < ((y20 Aa Ad).f2).length)=True:=eq_true (by omega)
                  (try rw [show((0:Int)).toNat=0 from rfl]at Cg)
                  (try rw [Addr.add_zero']at Cg)
                  replace Cg:=(HB.out.cell (World.block_lt_of_cell? w _ Cg)).trans Cg
                  replace Mf:=eq_true Mf
                  replace Mg:=eq_true Mg
                  have Mh:0≤(1:Int):=(by omega)
                  have Mi:1 < (((y20 Aa Ad).f2).length:Int):=of_decide_eq_true qy0
                  obtain⟨Pe,Wa,Ch⟩:=Kd.at_int Cf.out 1 Mh Mi
                  have Bv:=Ch
                  (try rw [show((1:Int)).toNat=1 from rfl]at Bv)
                  (try rw [show 1 * 1=1 from rfl]at Bv)
                  (try simp only [Nat.reduceMul,Nat.reduceEqDiff,Go.Addr.add,↓reduceIte]at Bv)
                  obtain rfl:Ew=Pe:=(by injection Wa)
                  (try simp only [show(1:Int).toNat=1 from rfl,Nat.reduceMul,Nat.reduceEqDiff,Go.Addr.add,↓reduceIte]at Ch)
                  have aD:(1 < ((y20 Aa Ad).f2).length)=True:=eq_true (by omega)
                  (try rw [show((1:Int)).toNat=1 from rfl]at Ch)
                  replace Ch:=(HB.out.cell (World.block_lt_of_cell? w _ Ch)).trans Ch
                  replace Mh:=eq_true Mh
                  replace Mi:=eq_true Mi
                  obtain⟨Pf,Pg,Ph⟩:=Kd.R_slice Aj.out
                  (first|subst Ph|(injection Ph with f1_ f2_ f3_;have f4_:=f1_.symm;have f5_:=f3_.symm;clear f1_ f2_ f3_;subst f4_;subst f5_))
                  refine start_ (n:=18) (S:=fun w'=>w'.cell? ⟨Ag,0,none⟩=some (.slice (some Cr) Aa.length Cc)∧w'.cell? ⟨Ag,1,none⟩=some (.int .i64 Ba)∧w'.cell? ⟨Ag,2,none⟩=some (.string Bb)∧w'.cell? ⟨Ag,3,none⟩=some (.slice Bg Am.length Bh)∧w'.cell? ⟨Ag,4,none⟩=some (.slice Bk Ap.length Bl)∧w'.cell? ⟨Ar,0,none⟩=some (.int .i64 ((y20 Aa Ad).f0))∧w'.cell? ⟨Ar,1,none⟩=some (.string ((y20 Aa Ad).f1))∧w'.cell? ⟨Ar,2,none⟩=some (.slice (some Ew) ((y20 Aa Ad).f2).length Br)∧w'.cell? Ew=some (.int .i64 (rd ((y20 Aa Ad).f2) 0))∧w'.cell? ⟨Ew.block,Ew.off + 1,none⟩=some (.int .i64 (rd ((y20 Aa Ad).f2) 1))) (ds:=[]) (fl_ 18 0) (by kernel_rfl) rfl rfl ⟨(y8 Af.out 0).trans rfl,(y8 Af.out 1).trans rfl,(y8 Af.out 2).trans rfl,(y8 Af.out 3).trans rfl,(y8 Af.out 4).trans rfl,(y8 Ai.out 0).trans rfl,(y8 Ai.out 1).trans rfl,(y8 Ai.out 2).trans rfl,((HB.out.cell (World.block_lt_of_cell? w _ Bu)).trans Bu),((HB.out.cell (World.block_lt_of_cell? w _ Bv)).trans Bv)⟩ (fun hHeld=>?_);refine with_tabW z8_.tab40 z8_.bits40 (fun HT_ HW_=>?_)
                  generalize bV.drew=cM at Ak Aj Ab Ac Ct Af Ai HB Cg Ch hHeld ⊢
                  refine qp 1 127 (fl_ 18 2) ?_
                  refine qp 2 128 (fl_ 18 6) ?_
                  refine qp 7 133 (fl_ 18 134) ?_
                  refine qp 10 136 (fl_ 18 1158) ?_
                  refine qp 11 137 (fl_ 18 3206) ?_
                  refine qt 0 126 (fl_ 18 3207) hHeld ?_
                  refine qt 3 129 (fl_ 18 3215) hHeld ?_
                  refine qp 4 130 (fl_ 18 3231) ?_
                  refine qt 5 131 (fl_ 18 3263) hHeld ?_
                  refine qt 9 135 (fl_ 18 3775) hHeld ?_
                  refine qt 12 138 (fl_ 18 7871) hHeld ?_
                  refine qp 13 139 (fl_ 18 16063) ?_
                  refine qt 14 140 (fl_ 18 32447) hHeld ?_
                  refine qO 6 132 (fl_ 18 32511) (fun K hK=>?_)
                  refine goes_ Tryz.func53 (by kernel_rfl) rfl #[.agg #[.slice (some Cr) Aa.length Cc,.int .i64 Ba,.string Bb,.slice Bg Am.length Bh,.slice Bk Ap.length Bl],.slice Pf Aw.length Pg,.int .i64 (rd ((y20 Aa Ad).f2) 0)] (by rfl) rfl rfl qy1 ?_
                  with_reducible refine(spec_l04Side.calls _ _ Aa Ba Bb _ _ Am _ _ Ap _ _ Aw (rd ((y20 Aa Ad).f2) 0) Do _ (qc (Kd.C_below Gn.out HB.out)) Kl.out (qc ((Kd.V_reads' Ab.out).2.2)) (by exact(Kd.V_reads' Ab.out).2.1) (qc ((Kd.V_reads' Ac.out).2.2)) (by exact(Kd.V_reads' Ac.out).2.1) (qc ((Kd.R_reads' Aj.out).2.2)) (by exact(Kd.R_reads' Aj.out).2.1) bS.out).mono ?_
                  rintro e cN ⟨rfl,hb⟩
                  refine⟨_,rfl, ?_⟩
                  replace Ak:=y0.mk (Kd.R_below (qR Ak.out) hb)
                  replace Aj:=y0.mk (Kd.R_below (qR Aj.out) hb)
                  replace Ab:=y0.mk (Kd.V_below (qV Ab.out) hb)
                  replace Ac:=y0.mk (Kd.V_below (qV Ac.out) hb)
                  replace Ct:=y0.mk (Kd.R_below (qR Ct.out) hb)
                  replace Af:=y0.mk (qK Af.out hb)
                  replace Ai:=y0.mk (qK Ai.out hb)
                  replace HB:=y0.mk (y5 qb hb)
                  (try clear hb)
                  refine hK.out _ _ ⟨(y8 Af.out 0).trans rfl,(y8 Af.out 1).trans rfl,(y8 Af.out 2).trans rfl,(y8 Af.out 3).trans rfl,(y8 Af.out 4).trans rfl,(y8 Ai.out 0).trans rfl,(y8 Ai.out 1).trans rfl,(y8 Ai.out 2).trans rfl,((HB.out.cell (World.block_lt_of_cell? w _ Bu)).trans Bu),((HB.out.cell (World.block_lt_of_cell? w _ Bv)).trans Bv)⟩ (fun hHeld=>?_)
                  clear hK K
                  refine qx 132 ?_
                  refine qp 8 134 (fl_ 18 32767) ?_
                  refine qO 15 141 (fl_ 18 65535) (fun K hK=>?_)
                  refine goes_ Tryz.func53 (by kernel_rfl) rfl #[.agg #[.slice (some Cr) Aa.length Cc,.int .i64 Ba,.string Bb,.slice Bg Am.length Bh,.slice Bk Ap.length Bl],.slice Pf Aw.length Pg,.int .i64 (rd ((y20 Aa Ad).f2) 1)] (by rfl) rfl rfl qy1 ?_
                  with_reducible refine(spec_l04Side.calls _ _ Aa Ba Bb _ _ Am _ _ Ap _ _ Aw (rd ((y20 Aa Ad).f2) 1) Ec _ (qc (Kd.C_below Gn.out HB.out)) Kl.out (qc ((Kd.V_reads' Ab.out).2.2)) (by exact(Kd.V_reads' Ab.out).2.1) (qc ((Kd.V_reads' Ac.out).2.2)) (by exact(Kd.V_reads' Ac.out).2.1) (qc ((Kd.R_reads' Aj.out).2.2)) (by exact(Kd.R_reads' Aj.out).2.1) bT.out).mono ?_
                  rintro e cO ⟨rfl,hb⟩
                  refine⟨_,rfl, ?_⟩
                  replace Ak:=y0.mk (Kd.R_below (qR Ak.out) hb)
                  replace Aj:=y0.mk (Kd.R_below (qR Aj.out) hb)
                  replace Ab:=y0.mk (Kd.V_below (qV Ab.out) hb)
                  replace Ac:=y0.mk (Kd.V_below (qV Ac.out) hb)
                  replace Ct:=y0.mk (Kd.R_below (qR Ct.out) hb)
                  replace Af:=y0.mk (qK Af.out hb)
                  replace Ai:=y0.mk (qK Ai.out hb)
                  replace HB:=y0.mk (y5 qb hb)
                  (try clear hb)
                  refine hK.out _ _ ⟨(y8 Af.out 0).trans rfl,(y8 Af.out 1).trans rfl,(y8 Af.out 2).trans rfl,(y8 Af.out 3).trans rfl,(y8 Af.out 4).trans rfl,(y8 Ai.out 0).trans rfl,(y8 Ai.out 1).trans rfl,(y8 Ai.out 2).trans rfl,((HB.out.cell (World.block_lt_of_cell? w _ Bu)).trans Bu),((HB.out.cell (World.block_lt_of_cell? w _ Bv)).trans Bv)⟩ (fun hHeld=>?_)
                  clear hK K
                  refine qx 141 ?_
                  refine qp 16 142 (fl_ 18 131071) ?_
                  refine qp 17 9 (fl_ 18 262143) ?_
                  refine done_ (done_of HT_.out (by kernel_rfl)) ?_
                  try go_wp2
                  go_meet
                  exact⟨_,((Do ++ (rdOf ByteArray.empty Dd (Da))) ++ Ec),(by first|rfl|(simp;done)|(simp only [← Et] <;> (first|rfl|simp))|(simp [*];done)),(by first|exact H'|(have h_:=H';simp only [← Et]at h_ ⊢;exact h_)),⟨by have:=Cz.out;have:=Cy.out;have:=Dc.out;have:=Vu.out;first|omega|exact Nat.le_refl _⟩,⟨qR Ak.out⟩,⟨qR (Kd.R_mono Aj.out (fun _ hk=>hk.1))⟩,⟨qV (Kd.V_mono Ab.out (fun _ hk=>⟨hk.1.1,⟨hk.1.2.1,⟨hk.1.2.2.1,⟨hk.1.2.2.2.1,hk.1.2.2.2.2⟩⟩⟩⟩))⟩,⟨qV (Kd.V_mono Ac.out (fun _ hk=>⟨hk.1.1,⟨hk.1.2.1,⟨hk.1.2.2.1,⟨hk.1.2.2.2.1,hk.1.2.2.2.2⟩⟩⟩⟩))⟩,⟨qk Af.out⟩,⟨qk Ai.out⟩,⟨qb⟩⟩
                 ·as_aux_lemma =>
                  rw [if_neg Mc]at H
                  have Pa:((((y20 Aa Ad).f2).length:Int) == 2)=false:=beq_eq_false_iff_ne.mpr Mc
                  have Pc:((((y20 Aa Ad).f2).length:Int) != 2)=true:=bne_iff_ne.mpr Mc
                  simp only [Option.some.injEq,Prod.mk.injEq]at H
                  obtain⟨rfl,rfl⟩:=H
                  have aE:=Av.out
                  have aG:=As.out
                  obtain⟨To,Tp,Tq,Tr,Ts,Tt⟩:=qz3 Ai.out
                  go_wp2
                  go_ret2
                  exact⟨_,by first|rfl|(simp [y12,y13] <;> rfl)|(simp [*,y12,y13] <;> rfl),by(with_reducible repeat(first|apply Kd.R_alloc|apply Kd.R_drewN|apply Kd.R_drew));exact Aj.out,qb⟩
                ·replace Sz:=Bool.eq_false_iff.mpr Sz
                 subst Sz
                 replace H:=qF H
                 simp only [Option.some.injEq,Prod.mk.injEq]at H
                 obtain⟨rfl,rfl⟩:=H
                 go_wp2
                 go_ret2
                 exact⟨_,by first|rfl|(simp [y12,y13] <;> rfl)|(simp [*,y12,y13] <;> rfl),by(with_reducible repeat(first|apply Kd.R_alloc|apply Kd.R_drewN|apply Kd.R_drew));exact Aj.out,qb⟩
        case rest =>
         clear Lk
         obtain⟨kq,Cs,rfl,HA,Gu,Ak,Aj,Ab,Ac,Af,Ai,HB⟩:=hcut
         cases kq with
         | zero=>exact absurd HA.out (by simp [z8_.j5])
         | succ Wb =>
          have H:=HA.out
          clear HA
          simp only [z8_.j5]at H
          have Mj:=y0.mk H
          clear H
          go_upto_region 41 with(fail)
          go_cut [156] (fun Wc wc=>∃(kq:Nat) (Di:Bool),Wc=.bool Di∧y0 (z8_.j6 kq Bd Aw Ad Cs Di Aa Ba Bb Am Ap=some (r1,r2))∧y0 (kq≤Wb)∧y0 (Kd.R (Kd.int .i64) 3 wc w.heap.size (fun k_=>(w.heap.size≤k_)) Bc Bd)∧y0 (Kd.R Kd.string 9 wc w.heap.size (fun k_=>(w.heap.size≤k_)) Au Aw)∧y0 (Kd.V (Kd.int .i64) 3 wc w.heap.size (fun k_=>((P0_3_ k_∨P0_4_ k_)∨w.heap.size≤k_)∧some k_≠(Bc:Value).ownBlock∧some k_≠(Au:Value).ownBlock∧k_≠Ag∧k_≠Ar) (.slice Bg Am.length Bh) Am)∧y0 (Kd.V k33 33 wc w.heap.size (fun k_=>((P0_3_ k_∨P0_4_ k_)∨w.heap.size≤k_)∧some k_≠(Bc:Value).ownBlock∧some k_≠(Au:Value).ownBlock∧k_≠Ag∧k_≠Ar) (.slice Bk Ap.length Bl) Ap)∧y0 (wc.heap[Ag]?=some (.cells #[(.slice (some Cr) Aa.length Cc),.int .i64 Ba,.string Bb,(.slice Bg Am.length Bh),(.slice Bk Ap.length Bl)] 36 (0,0)))∧y0 (wc.heap[Ar]?=some (.cells #[.int .i64 ((y20 Aa Ad).f0),.string ((y20 Aa Ad).f1),(.slice Cd ((y20 Aa Ad).f2).length Br)] 48 (0,0)))∧y0 (Below w.heap.size w wc))
          case first =>
           have H:=Mj.out
           clear Mj
           by_cases Gi:((y20 Aa Ad).f0)≤3
           ·as_aux_lemma =>
            rw [if_pos Gi]at H
            have Dp:=decide_eq_true Gi
            clear Gi
            (first|rw [Dp]|(simp only [i64_w,i32_w];rw [Dp])|skip)
            by_cases Gj:(((y20 Aa Ad).f2).length:Int) > 0
            ·as_aux_lemma =>
             rw [if_pos Gj]at H
             have Ml:decide (0 < (((y20 Aa Ad).f2).length:Int))=true:=decide_eq_true Gj
             have Mm:decide (0 < ((y20 Aa Ad).f2).length)=true:=decide_eq_true (by omega)
             clear Gj
             have H':=y0.mk H
             clear H
             have Wd:=Av.out
             have We:=As.out
             obtain⟨Pj,Pk,Pm,Pn,Po,Pp⟩:=qz3 Ai.out
             go_wp2
             go_meet
             exact⟨_,(true),qy2,H',⟨by have:=Cz.out;have:=Cy.out;have:=Gu.out;first|omega|exact Nat.le_refl _⟩,⟨qR Ak.out⟩,⟨qR Aj.out⟩,⟨qV Ab.out⟩,⟨qV Ac.out⟩,⟨qk Af.out⟩,⟨qk Ai.out⟩,⟨qb⟩⟩
            ·as_aux_lemma =>
             rw [if_neg Gj]at H
             have Ml:decide (0 < (((y20 Aa Ad).f2).length:Int))=false:=decide_eq_false Gj
             have Mm:decide (0 < ((y20 Aa Ad).f2).length)=false:=decide_eq_false (by omega)
             clear Gj
             have H':=y0.mk H
             clear H
             have Wf:=Av.out
             have Wg:=As.out
             obtain⟨Pq,Pr,Ps,Pt,Pu,Pv⟩:=qz3 Ai.out
             go_wp2
             go_meet
             exact⟨_,(decide ((Cs.size:Int) > 3000)),qy2,H',⟨by have:=Cz.out;have:=Cy.out;have:=Gu.out;first|omega|exact Nat.le_refl _⟩,⟨qR Ak.out⟩,⟨qR Aj.out⟩,⟨qV Ab.out⟩,⟨qV Ac.out⟩,⟨qk Af.out⟩,⟨qk Ai.out⟩,⟨qb⟩⟩
           ·as_aux_lemma =>
            rw [if_neg Gi]at H
            have Dp:=decide_eq_false Gi
            clear Gi
            (first|rw [Dp]|(simp only [i64_w,i32_w];rw [Dp])|skip)
            have H':=y0.mk H
            clear H
            have Wh:=Av.out
            have Wj:=As.out
            obtain⟨Pw,Px,Py,Pz,Qa,Qb⟩:=qz3 Ai.out
            go_wp2
            go_meet
            exact⟨_,(decide ((Cs.size:Int) > 3000)),qy2,H',⟨by have:=Cz.out;have:=Cy.out;have:=Gu.out;first|omega|exact Nat.le_refl _⟩,⟨qR Ak.out⟩,⟨qR Aj.out⟩,⟨qV Ab.out⟩,⟨qV Ac.out⟩,⟨qk Af.out⟩,⟨qk Ai.out⟩,⟨qb⟩⟩
          case rest =>
           clear Mj
           obtain⟨kq,Di,rfl,HA,Qc,Ak,Aj,Ab,Ac,Af,Ai,HB⟩:=hcut
           cases kq with
           | zero=>exact absurd HA.out (by simp [z8_.j6])
           | succ Qd =>
            have H:=HA.out
            clear HA
            simp only [z8_.j6]at H
            by_cases Jx:Di=true
            ·subst Jx
             replace H:=qT H
             simp only [Option.some.injEq,Prod.mk.injEq]at H
             obtain⟨rfl,rfl⟩:=H
             go_wp2
             go_ret2
             exact⟨_,by first|rfl|(simp [y12,y13] <;> rfl)|(simp [*,y12,y13] <;> rfl),by(with_reducible repeat(first|apply Kd.R_alloc|apply Kd.R_drewN|apply Kd.R_drew));exact Aj.out,qb⟩
            ·replace Jx:=Bool.eq_false_iff.mpr Jx
             subst Jx
             replace H:=qF H
             obtain⟨Qe,H⟩:=qo H
             have Wk:decide (0≤Ad)=true:=decide_eq_true Qe
             clear Qe
             obtain⟨Qf,H⟩:=qo H
             have Wl:decide (Ad < (Aw.length:Int))=true:=decide_eq_true Qf
             clear Qf
             obtain⟨Mn,Ex⟩:∃ y_:List ByteArray,y_=(Aw.set (Ad:Int).toNat Cs):=⟨_,rfl⟩
             replace H:(z8_.l0 Qd Bd Mn (wrap64 (Ad + 1)) Aa Ba Bb Am Ap)=some (r1,r2):=by first|(rw [Ex];with_reducible exact H)|(have H2_:=(Option.bind_some _ _).symm.trans H;rw [Ex];with_reducible exact H2_)|(have H2_:=(Option.bind_some _ _).symm.trans H;with_reducible exact H2_)|with_reducible exact H|(rw [Ex];exact H)|exact H
             have Qg:=y0.mk Ex
             clear Ex
             have H':=y0.mk H
             clear H
             have Mo:0≤(Ad:Int):=of_decide_eq_true qy0
             have Mp:(Ad:Int) < ((Aw.length:Int):Int):=of_decide_eq_true qy0
             obtain⟨Db,Du,Kt,Ku,Qh,aH,Kv⟩:=Kd.R_form Aj.out (by omega)
             (first|cases Kt|(injection Kt with ea_ en_ ec_;(first|subst ea_|(injection ea_ with ea_;subst ea_));subst ec_;clear en_))
             have Qi:=y0.mk Ku
             have aI:=y0.mk Kv
             clear Ku Qh Kv
             obtain⟨Tu,Tv⟩:=Kd.R_celln (⟨#[]⟩:ByteArray) Aj.out (Ad:Int) Mo Mp
             replace Mo:=eq_true Mo
             replace Mp:=eq_true Mp
             have Gv:=Kd.R_putg Aj.out (Ad:Int) Cs
             go_wp2_with (first|((with_reducible refine gate_store (t:=9) (p:=161) rfl ?_);refine store_event (t:=9) (p:=161) (v:=?vo_w113) (w1:=(wc.setCell ⟨Db,(Ad:Int).toNat,none⟩ (.string Cs))) ?hg ?ho ?hn ?hr ?_;(case ho=>rfl);(case hg=>rfl);(case hn=>rfl);(case hr=>first|(go_simp;done)|(go_simp;rfl));intro Mq hw;have hg:wc.grownBy Mq (some Db):=(by rw [hw];exact Gv.2);have hp_:Kd.R Kd.string 9 Mq w.heap.size (fun k_=>(w.heap.size≤k_)) (.slice (some ⟨Db,0,none⟩) Aw.length Du) Mn:=(by rw [hw,Qg.out];exact Gv.1);clear Gv;replace Ak:=y0.mk (Kd.R_over' (v:=(.slice (some ⟨Db,0,none⟩) Aw.length Du)) (qR Ak.out) (Kd.R_typed Aj.out) (by decide) hg);replace Ab:=y0.mk (Kd.V_afterv (v:=(.slice (some ⟨Db,0,none⟩) Aw.length Du)) (v1:=(.slice (some ⟨Db,0,none⟩) Aw.length Du)) (ok:=(fun k_=>((P0_3_ k_∨P0_4_ k_)∨w.heap.size≤k_)∧some k_≠(Bc:Value).ownBlock∧k_≠Ag∧k_≠Ar)) (qV (Kd.V_mono Ab.out (fun _ hk=>⟨⟨hk.1,⟨hk.2.1,⟨hk.2.2.2.1,hk.2.2.2.2⟩⟩⟩,hk.2.2.1⟩))) hg (.inl rfl));replace Ac:=y0.mk (Kd.V_afterv (v:=(.slice (some ⟨Db,0,none⟩) Aw.length Du)) (v1:=(.slice (some ⟨Db,0,none⟩) Aw.length Du)) (ok:=(fun k_=>((P0_3_ k_∨P0_4_ k_)∨w.heap.size≤k_)∧some k_≠(Bc:Value).ownBlock∧k_≠Ag∧k_≠Ar)) (qV (Kd.V_mono Ac.out (fun _ hk=>⟨⟨hk.1,⟨hk.2.1,⟨hk.2.2.2.1,hk.2.2.2.2⟩⟩⟩,hk.2.2.1⟩))) hg (.inl rfl));replace Af:=y0.mk (blk_grown (qk Af.out) hg (Kd.R_ne Aj.out Af.out (by decide)));replace Ai:=y0.mk (blk_grown (qk Ai.out) hg (Kd.R_ne Aj.out Ai.out (by decide)));replace Aj:=y0.mk (hp_);replace HB:=y0.mk ((by rw [hw];exact y3 (HB.out) Qi.out:Below w.heap.size w Mq));clear hg hw hp_))
             go_roundg Qd
             case measure=>have:=Cz.out;have:=Cy.out;have:=Gu.out;have:=Qc.out;omega
             exact⟨(Bd),(Mn),(wrap64 (Ad + 1)),qy2,H',⟨by have:=Cz.out;have:=Cy.out;have:=Gu.out;have:=Qc.out;omega⟩,⟨qR Ak.out⟩,⟨qR Aj.out⟩,⟨qV (Kd.V_mono Ab.out (fun _ hk=>⟨hk.1.1,⟨hk.1.2.1,⟨hk.2,hk.1.2.2.1⟩⟩⟩))⟩,⟨qV (Kd.V_mono Ac.out (fun _ hk=>⟨hk.1.1,⟨hk.1.2.1,⟨hk.2,hk.1.2.2.1⟩⟩⟩))⟩,⟨qk Af.out⟩,⟨qb⟩⟩
    ·as_aux_lemma =>
     rw [if_neg Nq]at H
     have Gq:=decide_eq_false Nq
     clear Nq
     obtain⟨Jy,Ey⟩:∃ y_:List (S33),y_=(([(⟨Ba,Bb,Am⟩:S33)]:List (S33))):=⟨_,rfl⟩
     replace H:(if Jy.length + Ap.length < 2932031007402 then(z8_.l3 k1 Ff Aw (Jy ++ Ap) 0)else(none))=some (r1,r2):=by first|(rw [Ey];with_reducible exact H)|(have H2_:=(Option.bind_some _ _).symm.trans H;rw [Ey];with_reducible exact H2_)|(have H2_:=(Option.bind_some _ _).symm.trans H;with_reducible exact H2_)|with_reducible exact H|(rw [Ey];exact H)|exact H
     have Kw:=y0.mk Ey
     clear Ey
     obtain⟨Qj,H⟩:=qo H
     have Mr:=y0.mk Qj
     clear Qj
     obtain⟨At,Ez⟩:∃ y_:List (S33),y_=(Jy ++ Ap):=⟨_,rfl⟩
     replace H:(z8_.l3 k1 Ff Aw At 0)=some (r1,r2):=by first|(rw [Ez];with_reducible exact H)|(have H2_:=(Option.bind_some _ _).symm.trans H;rw [Ez];with_reducible exact H2_)|(have H2_:=(Option.bind_some _ _).symm.trans H;with_reducible exact H2_)|with_reducible exact H|(rw [Ez];exact H)|exact H
     have Qk:=y0.mk Ez
     clear Ez
     have H':=y0.mk H
     clear H
     obtain⟨Gw,Gx,Gy,Gz,Ha,Hb,Hc,Hd,He,Hf⟩:=qz5 Af.out
     go_wp2_with (first|((with_reducible refine y16 (N:=164) rfl ?_);(try(refine gate_guard (by rfl) ?_;dsimp only));refine Kd.N_lit k33 _ 33 ?hg (N':=164) ?hd (xs:=([(⟨Ba,Bb,Am⟩:S33)]:List (S33))) (inner:=[.int .i64 Ba,.string Bb,.slice Bg Am.length Bh]) (ok:=(fun k_=>((P0_3_ k_∨P0_4_ k_)∨w.heap.size≤k_)∧some k_≠(Bc:Value).ownBlock∧some k_≠(Au:Value).ownBlock∧k_≠Ag)) (okp:=(fun k_=>((P0_3_ k_∨P0_4_ k_)∨w.heap.size≤k_)∧some k_≠(Bc:Value).ownBlock∧some k_≠(Au:Value).ownBlock∧k_≠Ag)) ?hr ?hp (fun _ hk=>hk) ((show ∀ k_,wr.heap.size≤k_→(fun k_=>((P0_3_ k_∨P0_4_ k_)∨w.heap.size≤k_)∧some k_≠(Bc:Value).ownBlock∧some k_≠(Au:Value).ownBlock∧k_≠Ag) k_ from fun k_ hk=>⟨(.inr (Nat.le_trans (y4 qb) hk)),Kd.fresh' (Kd.R_lt (qR Ak.out)) k_ hk,Kd.fresh' (Kd.R_lt (qR Aj.out)) k_ hk,Kd.freshB (g:=Ag) (o:=.cells #[.slice Dm Aa.length Cc,.int .i64 Ba,.string Bb,.slice Bg Am.length Bh,.slice Bk Ap.length Bl] 36 (0,0)) (qk Af.out) k_ hk⟩) _ (Nat.le_refl _)) (Below.refl _ _) (Nat.le_refl _) (by simp) ?_;(case hd=>rfl);(case hg=>rfl);(case hr=>first|(go_simp;done)|(go_simp;rfl));(case hp=>exact(Reps.c3 (show Kd.FK k33 _ _ (⟨Ba,Bb,Am⟩:S33) [.int .i64 Ba,.string Bb,.slice Bg Am.length Bh]from(k33_mkF _ _ (⟨Ba,Bb,Am⟩:S33) (Kd.V_reads' (Kd.V_mono (ok':=(fun k_=>((P0_3_ k_∨P0_4_ k_)∨w.heap.size≤k_)∧some k_≠(Bc:Value).ownBlock∧some k_≠(Au:Value).ownBlock∧k_≠Ag)) (Ab.out) (fun k_ hk=>⟨hk.1,⟨hk.2.1,⟨hk.2.2.1,hk.2.2.2⟩⟩⟩))).2.1 (Kd.V_F (Kd.V_mono (ok':=(fun k_=>((P0_3_ k_∨P0_4_ k_)∨w.heap.size≤k_)∧some k_≠(Bc:Value).ownBlock∧some k_≠(Au:Value).ownBlock∧k_≠Ag)) (Ab.out) (fun k_ hk=>⟨hk.1,⟨hk.2.1,⟨hk.2.2.1,hk.2.2.2⟩⟩⟩))))) (Reps.none _ _)));intro Ms bY Dq hb hg_ hnew_;clear hg_ hnew_;(first|rw [← Kw.out]at Dq|(simp only [Int.reduceToNat]at Dq;rw [← Kw.out]at Dq));replace Ak:=y0.mk (Kd.R_below (qR Ak.out) hb);replace Aj:=y0.mk (Kd.R_below (qR Aj.out) hb);replace Ab:=y0.mk (Kd.V_elder' (qV Ab.out) (Kd.N_base Dq) hb);replace Ac:=y0.mk (Kd.V_elder' (qV Ac.out) (Kd.N_base Dq) hb);have Fa:=y0.mk (Kd.N_lower Dq (y4 qb));replace Af:=y0.mk (qK Af.out hb);replace HB:=y0.mk (y5 qb hb);clear hb Dq;obtain⟨Hg,Hh,Hi,Hj,Hk,Hl,Hm,Hn,Ho,Hp⟩:=qz5 Af.out)|((with_reducible refine gate_builtin (b:=.append) (xs:=#[.tmp 164,.tmp 166]) rfl ?_);(try(refine gate_guard (by rfl) ?_;dsimp only));at_builtin;refine Kd.N_append_rows k33 (w0:=w) w.heap.size rfl (.tmp 164) (.tmp 166) 34 33 (.agg #[(.int .i64 0),(.string ⟨#[]⟩),(.slice none 0 0)]) 48 rfl Tryz.underlying34 info33 rfl (by decide) (by omega) Ms Jy Ap _ _ _ (fun k_=>((P0_3_ k_∨P0_4_ k_)∨w.heap.size≤k_)∧some k_≠(Bc:Value).ownBlock∧some k_≠(Au:Value).ownBlock∧k_≠Ag) (fun k_=>((fun k_=>((P0_3_ k_∨P0_4_ k_)∨w.heap.size≤k_)∧some k_≠(Bc:Value).ownBlock∧some k_≠(Au:Value).ownBlock∧k_≠Ag)) k_∧some k_≠(Ms:Value).ownBlock) rfl rfl ?aO ?aR (fun _ hk=>hk) ?aF ?aB ?aS ?aL ?_;(case aR=>exact(by skip;exact Kd.V_F (Kd.V_mono (ok':=(fun k_=>((fun k_=>((P0_3_ k_∨P0_4_ k_)∨w.heap.size≤k_)∧some k_≠(Bc:Value).ownBlock∧some k_≠(Au:Value).ownBlock∧k_≠Ag)) k_∧some k_≠(Ms:Value).ownBlock)) (Ac.out) (fun k_ hk=>⟨⟨hk.1.1,⟨hk.1.2.1,⟨hk.1.2.2.1,hk.1.2.2.2⟩⟩⟩,hk.2⟩))));(case aB=>exact qb);(case aF=>exact(fun k_ hk=>⟨(.inr (Nat.le_trans (y4 qb) hk)),Kd.fresh' (Kd.R_lt (qR Ak.out)) k_ hk,Kd.fresh' (Kd.R_lt (qR Aj.out)) k_ hk,Kd.freshB (g:=Ag) (o:=.cells #[.slice Dm Aa.length Cc,.int .i64 Ba,.string Bb,.slice Bg Am.length Bh,.slice Bk Ap.length Bl] 36 (0,0)) (qk Af.out) k_ hk⟩));(case aO=>exact(qN Fa.out));(case aS=>exact(y4 qb));(case aL=>have:=Mr.out;omega);intro Mt bZ ho hb hg hat;rw [← Qk.out]at ho;replace Ak:=y0.mk (Kd.R_over' (qR Ak.out) (Kd.N_typed (qN Fa.out)) (by decide) hg);replace Aj:=y0.mk (Kd.R_over' (qR Aj.out) (Kd.N_typed (qN Fa.out)) (by decide) hg);replace Ab:=y0.mk (Kd.V_afterv (ok:=(fun k_=>((P0_3_ k_∨P0_4_ k_)∨w.heap.size≤k_)∧some k_≠(Bc:Value).ownBlock∧some k_≠(Au:Value).ownBlock∧k_≠Ag)) (qV Ab.out) hg hat);replace Ac:=y0.mk (Kd.V_afterv (ok:=(fun k_=>((P0_3_ k_∨P0_4_ k_)∨w.heap.size≤k_)∧some k_≠(Bc:Value).ownBlock∧some k_≠(Au:Value).ownBlock∧k_≠Ag)) (qV Ac.out) hg hat);replace Af:=y0.mk (blk_grown (qk Af.out) hg (Kd.N_ne Fa.out Af.out (by decide)));replace HB:=y0.mk (hb);have Ql:=y0.mk (ho);clear Fa;clear ho hb hg hat))
     go_loopg [13] k1 (fun kq cA w'=>∃(Bd:List Int) (Ah:Int),cA=.int .i64 Ah∧y0 (z8_.l3 kq Bd Aw At Ah=some (r1,r2))∧y0 (kq≤k1)∧y0 (Kd.R (Kd.int .i64) 3 w' w.heap.size (fun k_=>(w.heap.size≤k_)) Bc Bd)∧y0 (Kd.R Kd.string 9 w' w.heap.size (fun k_=>(w.heap.size≤k_)) Au Aw)∧y0 (Kd.N k33 33 w' w.heap.size (fun k_=>((P0_3_ k_∨P0_4_ k_)∨w.heap.size≤k_)∧some k_≠(Bc:Value).ownBlock∧some k_≠(Au:Value).ownBlock∧k_≠Ag) Mt At)∧y0 (Kd.V (Kd.int .i64) 3 w' w.heap.size (fun k_=>((P0_3_ k_∨P0_4_ k_)∨w.heap.size≤k_)∧some k_≠(Bc:Value).ownBlock∧some k_≠(Au:Value).ownBlock∧some k_≠(Mt:Value).ownBlock∧k_≠Ag) (.slice Bg Am.length Bh) Am)∧y0 (Kd.V k33 33 w' w.heap.size (fun k_=>((P0_3_ k_∨P0_4_ k_)∨w.heap.size≤k_)∧some k_≠(Bc:Value).ownBlock∧some k_≠(Au:Value).ownBlock∧some k_≠(Mt:Value).ownBlock∧k_≠Ag) (.slice Bk Ap.length Bl) Ap)∧y0 (w'.heap[Ag]?=some (.cells #[(.slice Dm Aa.length Cc),.int .i64 Ba,.string Bb,(.slice Bg Am.length Bh),(.slice Bk Ap.length Bl)] 36 (0,0)))∧y0 (Below w.heap.size w w'))
     case atStart=>exact⟨(Ff),(0),qy2,H',⟨Nat.le_refl _⟩,⟨qR Ak.out⟩,⟨qR Aj.out⟩,⟨qN Ql.out⟩,⟨qV (Kd.V_mono Ab.out (fun _ hk=>⟨hk.1.1,⟨hk.1.2.1,⟨hk.1.2.2.1,⟨hk.2,hk.1.2.2.2⟩⟩⟩⟩))⟩,⟨qV (Kd.V_mono Ac.out (fun _ hk=>⟨hk.1.1,⟨hk.1.2.1,⟨hk.1.2.2.1,⟨hk.2,hk.1.2.2.2⟩⟩⟩⟩))⟩,⟨qk Af.out⟩,⟨qb⟩⟩
     case round =>
      clear H'
      (try clear Gq Gw Gx Gy Gz Ha Hg Hh Hi Hj Hk Hb Hc Hd He Hf Hl Hm Hn Ho Hp)
      obtain⟨Bd,Ah,rfl,HA,Cy,Ak,Aj,Be,Ab,Ac,Af,HB⟩:=hrel
      cases gk with
      | zero=>exact absurd HA.out (by simp [z8_.l3])
      | succ k2 =>
       have H:=HA.out
       clear HA
       simp only [z8_.l3]at H
       by_cases Gk:Ah < (At.length:Int)
       ·as_aux_lemma =>
        rw [if_pos Gk]at H
        have Fi:=decide_eq_true Gk
        clear Gk
        have H':=y0.mk H
        clear H
        obtain⟨Hq,Ce,Qm⟩:=Kd.N_slice Be.out
        subst Qm
        go_wp2
        go_loopg [14] k2 (fun kq cC w'=>∃(Bi:List Int) (Ay:Int),cC=.int .i64 Ay∧y0 (z8_.l4 kq Bi Aw At Ah Ay=some (r1,r2))∧y0 (kq≤k2)∧y0 (Kd.R (Kd.int .i64) 3 w' w.heap.size (fun k_=>(w.heap.size≤k_)) Bc Bi)∧y0 (Kd.R Kd.string 9 w' w.heap.size (fun k_=>(w.heap.size≤k_)) Au Aw)∧y0 (Kd.N k33 33 w' w.heap.size (fun k_=>((P0_3_ k_∨P0_4_ k_)∨w.heap.size≤k_)∧some k_≠(Bc:Value).ownBlock∧some k_≠(Au:Value).ownBlock∧k_≠Ag) (.slice Hq At.length Ce) At)∧y0 (Kd.V (Kd.int .i64) 3 w' w.heap.size (fun k_=>((P0_3_ k_∨P0_4_ k_)∨w.heap.size≤k_)∧some k_≠(Bc:Value).ownBlock∧some k_≠(Au:Value).ownBlock∧some k_≠((.slice Hq At.length Ce):Value).ownBlock∧k_≠Ag) (.slice Bg Am.length Bh) Am)∧y0 (Kd.V k33 33 w' w.heap.size (fun k_=>((P0_3_ k_∨P0_4_ k_)∨w.heap.size≤k_)∧some k_≠(Bc:Value).ownBlock∧some k_≠(Au:Value).ownBlock∧some k_≠((.slice Hq At.length Ce):Value).ownBlock∧k_≠Ag) (.slice Bk Ap.length Bl) Ap)∧y0 (w'.heap[Ag]?=some (.cells #[(.slice Dm Aa.length Cc),.int .i64 Ba,.string Bb,(.slice Bg Am.length Bh),(.slice Bk Ap.length Bl)] 36 (0,0)))∧y0 (Below w.heap.size w w'))
        case atStart=>exact⟨(Bd),(0),qy2,H',⟨Nat.le_refl _⟩,⟨qR Ak.out⟩,⟨qR Aj.out⟩,⟨qN Be.out⟩,⟨qV Ab.out⟩,⟨qV Ac.out⟩,⟨qk Af.out⟩,⟨qb⟩⟩
        case round =>
         clear H'
         (try clear Fi)
         obtain⟨Bi,Ay,rfl,HA,Mu,Ak,Aj,Be,Ab,Ac,Af,HB⟩:=hrel
         cases gk with
         | zero=>exact absurd HA.out (by simp [z8_.l4])
         | succ k3 =>
          have H:=HA.out
          clear HA
          simp only [z8_.l4]at H
          obtain⟨Qn,H⟩:=qo H
          have Wm:decide (0≤Ah)=true:=decide_eq_true Qn
          clear Qn
          obtain⟨Qo,H⟩:=qo H
          have Wn:decide (Ah < (At.length:Int))=true:=decide_eq_true Qo
          clear Qo
          by_cases Gl:Ay < (((y19 At Ah).f2).length:Int)
          ·as_aux_lemma =>
           rw [if_pos Gl]at H
           have Mv:=decide_eq_true Gl
           clear Gl
           obtain⟨Qp,H⟩:=qo H
           have Wo:decide (0≤Ay)=true:=decide_eq_true Qp
           clear Qp
           obtain⟨Wp,Qq,H⟩:=qB H
           by_cases Jz:Wp=true
           ·subst Jz
            replace H:=qT H
            obtain⟨Qr,H⟩:=qo H
            have Wq:decide (0≤(rd ((y19 At Ah).f2) Ay))=true:=decide_eq_true Qr
            clear Qr
            obtain⟨Qs,H⟩:=qo H
            have Wr:decide ((rd ((y19 At Ah).f2) Ay) < (Bi.length:Int))=true:=decide_eq_true Qs
            clear Qs
            obtain⟨Mw,Fb⟩:∃ y_:List Int,y_=(Bi.set ((rd ((y19 At Ah).f2) Ay):Int).toNat (wrap64 ((rd Bi (rd ((y19 At Ah).f2) Ay)) + 1))):=⟨_,rfl⟩
            replace H:(z8_.l4 k3 Mw Aw At Ah (wrap64 (Ay + 1)))=some (r1,r2):=by first|(rw [Fb];with_reducible exact H)|(have H2_:=(Option.bind_some _ _).symm.trans H;rw [Fb];with_reducible exact H2_)|(have H2_:=(Option.bind_some _ _).symm.trans H;with_reducible exact H2_)|with_reducible exact H|(rw [Fb];exact H)|exact H
            have Qt:=y0.mk Fb
            clear Fb
            have H':=y0.mk H
            clear H
            have Cu:0≤(Ah:Int):=of_decide_eq_true qy0
            have Cv:Ah < (At.length:Int):=of_decide_eq_true qy0
            obtain⟨Bz,Hr,Ed,Hs,Dj,Dk,Bp,Ca,Cb⟩:=at_T33 (Kd.N_reads' Be.out).2.2 Ah Cu Cv
            cases Hs
            obtain⟨Kx,Dr,Ds,Co⟩:=Kd.N_get Be.out z33 Ah Cu (by first|exact Cv|exact of_decide_eq_true qy0|(have e_:=(Kd.N_reads' Be.out).1;omega))
            obtain⟨Fz,Ga,rfl,Bn,Bo⟩:=k33_openF Ds
            have Bf:=Co 2 _ rfl
            rw [add_field _ _ 2 (by omega)]at Bf
            replace Bf:=Option.some.inj (Bf.symm.trans Bp)
            injection Bf with hva_ hvn_ hvc_
            rw [hva_]at Bo
            rw [hvc_]at Bn
            have Ci:=y0.mk (show Kd.V (Kd.int .i64) 3 _ w.heap.size _ _ ((y19 At Ah).f2)from Kd.V_mk Bn Bo)
            clear hva_ hvn_ hvc_ Bo Bn
            clear Co Dr
            have Cp:=y0.mk Cb
            have Gb:=y0.mk Ca
            clear Cb Ca
            replace Cu:=eq_true Cu
            replace Cv:=eq_true Cv
            have Ee:0≤(Ah:Int):=of_decide_eq_true qy0
            have Ef:Ah < (At.length:Int):=of_decide_eq_true qy0
            obtain⟨Ht,Mx,My,Mz,Eg,Eh,Cj,Cw,Cx⟩:=at_T33 (Kd.N_reads' Be.out).2.2 Ah Ee Ef
            obtain rfl:Bz=Ht:=(by injection Mz)
            obtain⟨Qu,Fj,Fk,Dt⟩:=Kd.N_get Be.out z33 Ah Ee (by first|exact Ef|exact of_decide_eq_true qy0|(have e_:=(Kd.N_reads' Be.out).1;omega))
            obtain⟨Ka,Kb,rfl,Ck,Cl⟩:=k33_openF Fk
            have Bw:=Dt 2 _ rfl
            rw [add_field _ _ 2 (by omega)]at Bw
            replace Bw:=Option.some.inj (Bw.symm.trans Cj)
            injection Bw with hva_ hvn_ hvc_
            rw [hva_]at Cl
            rw [hvc_]at Ck
            have Cq:=y0.mk (show Kd.V (Kd.int .i64) 3 _ w.heap.size _ _ ((y19 At Ah).f2)from Kd.V_mk Ck Cl)
            clear hva_ hvn_ hvc_ Cl Ck
            clear Dt Fj
            have Bx:=y0.mk Cx
            have Ke:=y0.mk Cw
            clear Cx Cw
            replace Ee:=eq_true Ee
            replace Ef:=eq_true Ef
            have ea_:=Option.some.inj (Bp.symm.trans Cj)
            injection ea_ with ea_ en_ ec_
            subst ea_
            subst ec_
            clear en_
            have Fl:0≤(Ay:Int):=of_decide_eq_true qy0
            have Fm:Ay < (((y19 At Ah).f2).length:Int):=of_decide_eq_true qy0
            obtain⟨Fc,Na,Ei⟩:=Kd.at_int (by repeat(first|(with_reducible exact Bx.out)|(with_reducible refine Kd.C_alloc ?_ _)|(with_reducible refine Kd.C_drewN ?_ _)|(with_reducible refine Kd.C_drew ?_)|exact Bx.out)) Ay Fl Fm
            cases Na
            replace Fl:=eq_true Fl
            replace Fm:=eq_true Fm
            obtain⟨Dw,Bm,Qv⟩:=Kd.R_slice Ak.out
            subst Qv
            go_wp2_with (first|((with_reducible refine y15 (f:=52) rfl ?_);refine y17 (some 195) rfl rfl Tryz.func52 (by kernel_rfl) rfl #[.int .i64 (rd ((y19 At Ah).f2) Ay),.int .i64 0,.int .i64 (wrap64 ((Bi.length:Int) - 1))] rfl qy1 ?_;(with_reducible refine(spec_l01Between.calls (rd ((y19 At Ah).f2) Ay) 0 (wrap64 ((Bi.length:Int) - 1)) true _ Qq.out).mono ?_);rintro e w' ⟨rfl,⟨nd,rfl⟩⟩;refine⟨_,rfl, ?_⟩;(try(rw [drewN_self wr];have e1_:∀(n_:Nat) (a_:Addr),World.cell? wr a_=World.cell? (World.drewN wr n_) a_:=fun _ _=>rfl;have e2_:∀(n_:Nat) (a_:Addr),World.frozen? wr a_=World.frozen? (World.drewN wr n_) a_:=fun _ _=>rfl;generalize hq_:World.drewN wr _=wr;have e3_:=(fun a_=>(e1_ _ a_).trans (congrArg (fun w_=>World.cell? w_ a_) hq_));have e4_:=(fun a_=>(e2_ _ a_).trans (congrArg (fun w_=>World.frozen? w_ a_) hq_));clear e1_ e2_;(try replace Dj:=(e3_ _).symm.trans Dj);(try replace Dk:=(e3_ _).symm.trans Dk);(try replace Bp:=(e3_ _).symm.trans Bp);(try replace Eg:=(e3_ _).symm.trans Eg);(try replace Eh:=(e3_ _).symm.trans Eh);(try replace Cj:=(e3_ _).symm.trans Cj);(try replace Ei:=(e3_ _).symm.trans Ei);skip;clear e3_ e4_;have n0_:y0 (Kd.V (Kd.int .i64) 3 wr w.heap.size (fun k_=>((P0_3_ k_∨P0_4_ k_)∨w.heap.size≤k_)∧some k_≠(.slice (some Bz) At.length Ce:Value).ownBlock∧some k_≠(.slice Dw Bi.length Bm:Value).ownBlock∧some k_≠(Au:Value).ownBlock∧k_≠Ag) (.slice (some Fc) ((y19 At Ah).f2).length Ed) ((y19 At Ah).f2)):=⟨by rw [← hq_];exact(qV (Kd.V_mono Ci.out (fun _ hk=>⟨hk.1.1,⟨hk.2,⟨hk.1.2.1,⟨hk.1.2.2.1,hk.1.2.2.2⟩⟩⟩⟩)))⟩;have n1_:y0 (Kd.V (Kd.int .i64) 3 wr w.heap.size (fun k_=>((P0_3_ k_∨P0_4_ k_)∨w.heap.size≤k_)∧some k_≠(.slice (some Bz) At.length Ce:Value).ownBlock∧some k_≠(.slice Dw Bi.length Bm:Value).ownBlock∧some k_≠(Au:Value).ownBlock∧k_≠Ag) (.slice (some Fc) ((y19 At Ah).f2).length Ed) ((y19 At Ah).f2)):=⟨by rw [← hq_];exact(qV (Kd.V_mono Cq.out (fun _ hk=>⟨hk.1.1,⟨hk.2,⟨hk.1.2.1,⟨hk.1.2.2.1,hk.1.2.2.2⟩⟩⟩⟩)))⟩;have n2_:y0 (Kd.N k33 33 wr w.heap.size (fun k_=>((P0_3_ k_∨P0_4_ k_)∨w.heap.size≤k_)∧some k_≠(.slice Dw Bi.length Bm:Value).ownBlock∧some k_≠(Au:Value).ownBlock∧k_≠Ag) (.slice (some Bz) At.length Ce) At):=⟨by rw [← hq_];exact(qN Be.out)⟩;have n3_:y0 (Kd.V (Kd.int .i64) 3 wr w.heap.size (fun k_=>((P0_3_ k_∨P0_4_ k_)∨w.heap.size≤k_)∧some k_≠(.slice (some Bz) At.length Ce:Value).ownBlock∧some k_≠(.slice Dw Bi.length Bm:Value).ownBlock∧some k_≠(Au:Value).ownBlock∧k_≠Ag) (.slice Bg Am.length Bh) Am):=⟨by rw [← hq_];exact(qV (Kd.V_mono Ab.out (fun _ hk=>⟨hk.1,⟨hk.2.2.2.1,⟨hk.2.1,⟨hk.2.2.1,hk.2.2.2.2⟩⟩⟩⟩)))⟩;have n4_:y0 (Kd.V k33 33 wr w.heap.size (fun k_=>((P0_3_ k_∨P0_4_ k_)∨w.heap.size≤k_)∧some k_≠(.slice (some Bz) At.length Ce:Value).ownBlock∧some k_≠(.slice Dw Bi.length Bm:Value).ownBlock∧some k_≠(Au:Value).ownBlock∧k_≠Ag) (.slice Bk Ap.length Bl) Ap):=⟨by rw [← hq_];exact(qV (Kd.V_mono Ac.out (fun _ hk=>⟨hk.1,⟨hk.2.2.2.1,⟨hk.2.1,⟨hk.2.2.1,hk.2.2.2.2⟩⟩⟩⟩)))⟩;have n5_:y0 (Kd.R (Kd.int .i64) 3 wr w.heap.size (fun k_=>(w.heap.size≤k_)) (.slice Dw Bi.length Bm) Bi):=⟨by rw [← hq_];exact(qR Ak.out)⟩;have n6_:y0 (Kd.R Kd.string 9 wr w.heap.size (fun k_=>(w.heap.size≤k_)) Au Aw):=⟨by rw [← hq_];exact(qR Aj.out)⟩;have n7_:y0 (wr.heap[Ag]?=some (.cells #[.slice Dm Aa.length Cc,.int .i64 Ba,.string Bb,.slice Bg Am.length Bh,.slice Bk Ap.length Bl] 36 (0,0))):=⟨by rw [← hq_];exact(qk Af.out)⟩;have n8_:y0 (Below w.heap.size w wr):=⟨by rw [← hq_];exact qb⟩;have n9_:y0 (Kd.C (Kd.int .i64) wr (some Fc) ((y19 At Ah).f2).length ((y19 At Ah).f2)):=⟨by rw [← hq_];exact(by repeat(first|(with_reducible exact Cp.out)|(with_reducible refine Kd.C_alloc ?_ _)|(with_reducible refine Kd.C_drewN ?_ _)|(with_reducible refine Kd.C_drew ?_)|exact Cp.out))⟩;have n10_:y0 (Kd.C (Kd.int .i64) wr (some Fc) ((y19 At Ah).f2).length ((y19 At Ah).f2)):=⟨by rw [← hq_];exact(by repeat(first|(with_reducible exact Bx.out)|(with_reducible refine Kd.C_alloc ?_ _)|(with_reducible refine Kd.C_drewN ?_ _)|(with_reducible refine Kd.C_drew ?_)|exact Bx.out))⟩;clear Ci Cq Be Ab Ac Ak Aj Af HB Cp Bx hq_;have Ci:=n0_;have Cq:=n1_;have Be:=n2_;have Ab:=n3_;have Ac:=n4_;have Ak:=n5_;have Aj:=n6_;have Af:=n7_;have HB:=n8_;have Cp:=n9_;have Bx:=n10_;clear n0_ n1_ n2_ n3_ n4_ n5_ n6_ n7_ n8_ n9_ n10_));have Kf:0≤(Ah:Int):=of_decide_eq_true qy0;have Kg:Ah < (At.length:Int):=of_decide_eq_true qy0;obtain⟨Qw,Ws,Wt,Wu,Tw,Tx,Gc,Gd,Ge⟩:=at_T33 (Kd.N_reads' Be.out).2.2 Ah Kf Kg;obtain rfl:Bz=Qw:=(by injection Wu);obtain⟨aJ,Nb,Nc,Hu⟩:=Kd.N_get Be.out z33 Ah Kf (by first|exact Kg|exact of_decide_eq_true qy0|(have e_:=(Kd.N_reads' Be.out).1;omega));obtain⟨Ty,Tz,rfl,Ej,Ek⟩:=k33_openF Nc;have Dl:=Hu 2 _ rfl;rw [add_field _ _ 2 (by omega)]at Dl;replace Dl:=Option.some.inj (Dl.symm.trans Gc);injection Dl with hva_ hvn_ hvc_;rw [hva_]at Ek;rw [hvc_]at Ej;have Gf:=y0.mk (show Kd.V (Kd.int .i64) 3 _ w.heap.size _ _ ((y19 At Ah).f2)from Kd.V_mk Ej Ek);clear hva_ hvn_ hvc_ Ek Ej;clear Hu Nb;have Gg:=y0.mk Ge;have Ua:=y0.mk Gd;clear Ge Gd;replace Kf:=eq_true Kf;replace Kg:=eq_true Kg;have ea_:=Option.some.inj (Bp.symm.trans Gc);injection ea_ with ea_ en_ ec_;subst ea_;subst ec_;clear en_;have Nd:0≤(Ay:Int):=of_decide_eq_true qy0;have Nf:Ay < (((y19 At Ah).f2).length:Int):=of_decide_eq_true qy0;obtain⟨aK,Wv,Ub⟩:=Kd.at_int (by repeat(first|(with_reducible exact Gg.out)|(with_reducible refine Kd.C_alloc ?_ _)|(with_reducible refine Kd.C_drewN ?_ _)|(with_reducible refine Kd.C_drew ?_)|exact Gg.out)) Ay Nd Nf;cases Wv;replace Nd:=eq_true Nd;replace Nf:=eq_true Nf;have Ng:0≤((rd ((y19 At Ah).f2) Ay):Int):=of_decide_eq_true qy0;have Nh:(rd ((y19 At Ah).f2) Ay) < (Bi.length:Int):=of_decide_eq_true qy0;obtain⟨aM,Ww,Kh⟩:=Kd.at_int (Kd.R_reads' Ak.out).2.2 (rd ((y19 At Ah).f2) Ay) Ng Nh;cases Ww;replace Ng:=eq_true Ng;replace Nh:=eq_true Nh;have Ni:0≤((rd ((y19 At Ah).f2) Ay):Int):=of_decide_eq_true qy0;have Nj:((rd ((y19 At Ah).f2) Ay):Int) < ((Bi.length:Int):Int):=of_decide_eq_true qy0;obtain⟨Bs,aN,Ky,Kz,Qx,aQ,La⟩:=Kd.R_form Ak.out (by omega);(first|cases Ky|(injection Ky with ea_ en_ ec_;(first|subst ea_|(injection ea_ with ea_;subst ea_));subst ec_;clear en_));have Qy:=y0.mk Kz;have aT:=y0.mk La;clear Kz Qx La;(first|simp only [add_plain]at Kh|skip);obtain⟨Uc,Ud⟩:=Kd.R_celln 0 Ak.out ((rd ((y19 At Ah).f2) Ay):Int) Ni Nj;replace Ni:=eq_true Ni;replace Nj:=eq_true Nj;obtain⟨hy132_,hz132_⟩:=Kd.R_celln 0 Ak.out ((rd ((y19 At Ah).f2) Ay):Int) (of_decide_eq_true qy0) (of_decide_eq_true qy0);have Hv:=Kd.R_putg Ak.out ((rd ((y19 At Ah).f2) Ay):Int) (wrap64 ((rd Bi (rd ((y19 At Ah).f2) Ay)) + 1)))|((with_reducible refine gate_store (t:=3) (p:=210) rfl ?_);refine store_event (t:=3) (p:=210) (v:=?vo_w133) (w1:=(wr.setCell ⟨Bs,((rd ((y19 At Ah).f2) Ay):Int).toNat,none⟩ (.int .i64 (wrap64 ((rd Bi (rd ((y19 At Ah).f2) Ay)) + 1))))) ?hg ?ho ?hn ?hr ?_;(case ho=>rfl);(case hg=>rfl);(case hn=>rfl);(case hr=>first|(go_simp;done)|(go_simp;rfl));intro Nk hw;have hg:wr.grownBy Nk (some Bs):=(by rw [hw];exact Hv.2);have hp_:Kd.R (Kd.int .i64) 3 Nk w.heap.size (fun k_=>(w.heap.size≤k_)) (.slice (some ⟨Bs,0,none⟩) Bi.length Bm) Mw:=(by rw [hw,Qt.out];exact Hv.1);clear Hv;replace Aj:=y0.mk (Kd.R_over' (v:=(.slice (some ⟨Bs,0,none⟩) Bi.length Bm)) (qR Aj.out) (Kd.R_typed Ak.out) (by decide) hg);replace Be:=y0.mk (Kd.N_afterv (v:=(.slice (some ⟨Bs,0,none⟩) Bi.length Bm)) (v1:=(.slice (some ⟨Bs,0,none⟩) Bi.length Bm)) (ok:=(fun k_=>((P0_3_ k_∨P0_4_ k_)∨w.heap.size≤k_)∧some k_≠(Au:Value).ownBlock∧k_≠Ag)) (qN (Kd.N_mono Be.out (fun _ hk=>⟨⟨hk.1,⟨hk.2.2.1,hk.2.2.2⟩⟩,hk.2.1⟩))) hg (.inl rfl));replace Ab:=y0.mk (Kd.V_afterv (v:=(.slice (some ⟨Bs,0,none⟩) Bi.length Bm)) (v1:=(.slice (some ⟨Bs,0,none⟩) Bi.length Bm)) (ok:=(fun k_=>((P0_3_ k_∨P0_4_ k_)∨w.heap.size≤k_)∧some k_≠(Au:Value).ownBlock∧some k_≠(.slice (some Bz) At.length Ce:Value).ownBlock∧k_≠Ag)) (qV (Kd.V_mono Ab.out (fun _ hk=>⟨⟨hk.1,⟨hk.2.2.2.1,⟨hk.2.1,hk.2.2.2.2⟩⟩⟩,hk.2.2.1⟩))) hg (.inl rfl));replace Ac:=y0.mk (Kd.V_afterv (v:=(.slice (some ⟨Bs,0,none⟩) Bi.length Bm)) (v1:=(.slice (some ⟨Bs,0,none⟩) Bi.length Bm)) (ok:=(fun k_=>((P0_3_ k_∨P0_4_ k_)∨w.heap.size≤k_)∧some k_≠(Au:Value).ownBlock∧some k_≠(.slice (some Bz) At.length Ce:Value).ownBlock∧k_≠Ag)) (qV (Kd.V_mono Ac.out (fun _ hk=>⟨⟨hk.1,⟨hk.2.2.2.1,⟨hk.2.1,hk.2.2.2.2⟩⟩⟩,hk.2.2.1⟩))) hg (.inl rfl));replace Af:=y0.mk (blk_grown (qk Af.out) hg (Kd.R_ne Ak.out Af.out (by decide)));replace Ak:=y0.mk (hp_);replace Ci:=y0.mk (Kd.V_afterv (v:=(.slice (some ⟨Bs,0,none⟩) Bi.length Bm)) (v1:=(.slice (some ⟨Bs,0,none⟩) Bi.length Bm)) (ok:=(fun k_=>((P0_3_ k_∨P0_4_ k_)∨w.heap.size≤k_)∧some k_≠(Au:Value).ownBlock∧some k_≠(.slice (some Bz) At.length Ce:Value).ownBlock∧k_≠Ag)) (qV (Kd.V_mono Ci.out (fun _ hk=>⟨⟨hk.1,⟨hk.2.2.2.1,⟨hk.2.1,hk.2.2.2.2⟩⟩⟩,hk.2.2.1⟩))) hg (.inl rfl));replace Cq:=y0.mk (Kd.V_afterv (v:=(.slice (some ⟨Bs,0,none⟩) Bi.length Bm)) (v1:=(.slice (some ⟨Bs,0,none⟩) Bi.length Bm)) (ok:=(fun k_=>((P0_3_ k_∨P0_4_ k_)∨w.heap.size≤k_)∧some k_≠(Au:Value).ownBlock∧some k_≠(.slice (some Bz) At.length Ce:Value).ownBlock∧k_≠Ag)) (qV (Kd.V_mono Cq.out (fun _ hk=>⟨⟨hk.1,⟨hk.2.2.2.1,⟨hk.2.1,hk.2.2.2.2⟩⟩⟩,hk.2.2.1⟩))) hg (.inl rfl));replace Gf:=y0.mk (Kd.V_afterv (v:=(.slice (some ⟨Bs,0,none⟩) Bi.length Bm)) (v1:=(.slice (some ⟨Bs,0,none⟩) Bi.length Bm)) (ok:=(fun k_=>((P0_3_ k_∨P0_4_ k_)∨w.heap.size≤k_)∧some k_≠(Au:Value).ownBlock∧some k_≠(.slice (some Bz) At.length Ce:Value).ownBlock∧k_≠Ag)) (qV (Kd.V_mono Gf.out (fun _ hk=>⟨⟨hk.1.1,⟨hk.1.2.2.1,⟨hk.2,hk.1.2.2.2⟩⟩⟩,hk.1.2.1⟩))) hg (.inl rfl));replace HB:=y0.mk ((by rw [hw];exact y3 (HB.out) Qy.out:Below w.heap.size w Nk));clear hg hw hp_))
            go_roundg k3
            case measure=>have:=Cz.out;have:=Cy.out;have:=Mu.out;omega
            exact⟨(Mw),(wrap64 (Ay + 1)),qy2,H',⟨by have:=Cz.out;have:=Cy.out;have:=Mu.out;omega⟩,⟨qR Ak.out⟩,⟨qR Aj.out⟩,⟨qN (Kd.N_mono Be.out (fun _ hk=>⟨hk.1.1,⟨hk.2,⟨hk.1.2.1,hk.1.2.2⟩⟩⟩))⟩,⟨qV (Kd.V_mono Ab.out (fun _ hk=>⟨hk.1.1,⟨hk.2,⟨hk.1.2.1,⟨hk.1.2.2.1,hk.1.2.2.2⟩⟩⟩⟩))⟩,⟨qV (Kd.V_mono Ac.out (fun _ hk=>⟨hk.1.1,⟨hk.2,⟨hk.1.2.1,⟨hk.1.2.2.1,hk.1.2.2.2⟩⟩⟩⟩))⟩,⟨qk Af.out⟩,⟨qb⟩⟩
           ·replace Jz:=Bool.eq_false_iff.mpr Jz
            subst Jz
            replace H:=qF H
            simp only [Option.some.injEq,Prod.mk.injEq]at H
            obtain⟨rfl,rfl⟩:=H
            have Cu:0≤(Ah:Int):=of_decide_eq_true qy0
            have Cv:Ah < (At.length:Int):=of_decide_eq_true qy0
            obtain⟨Bz,Hr,Ed,Hs,Dj,Dk,Bp,Ca,Cb⟩:=at_T33 (Kd.N_reads' Be.out).2.2 Ah Cu Cv
            cases Hs
            obtain⟨Kx,Dr,Ds,Co⟩:=Kd.N_get Be.out z33 Ah Cu (by first|exact Cv|exact of_decide_eq_true qy0|(have e_:=(Kd.N_reads' Be.out).1;omega))
            obtain⟨Fz,Ga,rfl,Bn,Bo⟩:=k33_openF Ds
            have Bf:=Co 2 _ rfl
            rw [add_field _ _ 2 (by omega)]at Bf
            replace Bf:=Option.some.inj (Bf.symm.trans Bp)
            injection Bf with hva_ hvn_ hvc_
            rw [hva_]at Bo
            rw [hvc_]at Bn
            have Ci:=y0.mk (show Kd.V (Kd.int .i64) 3 _ w.heap.size _ _ ((y19 At Ah).f2)from Kd.V_mk Bn Bo)
            clear hva_ hvn_ hvc_ Bo Bn
            clear Co Dr
            have Cp:=y0.mk Cb
            have Gb:=y0.mk Ca
            clear Cb Ca
            replace Cu:=eq_true Cu
            replace Cv:=eq_true Cv
            have Ee:0≤(Ah:Int):=of_decide_eq_true qy0
            have Ef:Ah < (At.length:Int):=of_decide_eq_true qy0
            obtain⟨Ht,Mx,My,Mz,Eg,Eh,Cj,Cw,Cx⟩:=at_T33 (Kd.N_reads' Be.out).2.2 Ah Ee Ef
            obtain rfl:Bz=Ht:=(by injection Mz)
            obtain⟨Qu,Fj,Fk,Dt⟩:=Kd.N_get Be.out z33 Ah Ee (by first|exact Ef|exact of_decide_eq_true qy0|(have e_:=(Kd.N_reads' Be.out).1;omega))
            obtain⟨Ka,Kb,rfl,Ck,Cl⟩:=k33_openF Fk
            have Bw:=Dt 2 _ rfl
            rw [add_field _ _ 2 (by omega)]at Bw
            replace Bw:=Option.some.inj (Bw.symm.trans Cj)
            injection Bw with hva_ hvn_ hvc_
            rw [hva_]at Cl
            rw [hvc_]at Ck
            have Cq:=y0.mk (show Kd.V (Kd.int .i64) 3 _ w.heap.size _ _ ((y19 At Ah).f2)from Kd.V_mk Ck Cl)
            clear hva_ hvn_ hvc_ Cl Ck
            clear Dt Fj
            have Bx:=y0.mk Cx
            have Ke:=y0.mk Cw
            clear Cx Cw
            replace Ee:=eq_true Ee
            replace Ef:=eq_true Ef
            have ea_:=Option.some.inj (Bp.symm.trans Cj)
            injection ea_ with ea_ en_ ec_
            subst ea_
            subst ec_
            clear en_
            have Fl:0≤(Ay:Int):=of_decide_eq_true qy0
            have Fm:Ay < (((y19 At Ah).f2).length:Int):=of_decide_eq_true qy0
            obtain⟨Fc,Na,Ei⟩:=Kd.at_int (by repeat(first|(with_reducible exact Bx.out)|(with_reducible refine Kd.C_alloc ?_ _)|(with_reducible refine Kd.C_drewN ?_ _)|(with_reducible refine Kd.C_drew ?_)|exact Bx.out)) Ay Fl Fm
            cases Na
            replace Fl:=eq_true Fl
            replace Fm:=eq_true Fm
            obtain⟨aU,aV,Qz⟩:=Kd.R_slice Ak.out
            subst Qz
            go_wp2_with (first|((with_reducible refine y15 (f:=52) rfl ?_);refine y17 (some 195) rfl rfl Tryz.func52 (by kernel_rfl) rfl #[.int .i64 (rd ((y19 At Ah).f2) Ay),.int .i64 0,.int .i64 (wrap64 ((Bi.length:Int) - 1))] rfl qy1 ?_;(with_reducible refine(spec_l01Between.calls (rd ((y19 At Ah).f2) Ay) 0 (wrap64 ((Bi.length:Int) - 1)) false _ Qq.out).mono ?_);rintro e w' ⟨rfl,⟨nd,rfl⟩⟩;refine⟨_,rfl, ?_⟩))
            go_ret2
            exact⟨_,by first|rfl|(simp [y12,y13] <;> rfl)|(simp [*,y12,y13] <;> rfl),by(with_reducible repeat(first|apply Kd.R_alloc|apply Kd.R_drewN|apply Kd.R_drew));exact Aj.out,qb⟩
          ·as_aux_lemma =>
           rw [if_neg Gl]at H
           have Mv:=decide_eq_false Gl
           clear Gl
           have H':=y0.mk H
           clear H
           have Cu:0≤(Ah:Int):=of_decide_eq_true qy0
           have Cv:Ah < (At.length:Int):=of_decide_eq_true qy0
           obtain⟨Bz,Hr,Ed,Hs,Dj,Dk,Bp,Ca,Cb⟩:=at_T33 (Kd.N_reads' Be.out).2.2 Ah Cu Cv
           cases Hs
           obtain⟨Kx,Dr,Ds,Co⟩:=Kd.N_get Be.out z33 Ah Cu (by first|exact Cv|exact of_decide_eq_true qy0|(have e_:=(Kd.N_reads' Be.out).1;omega))
           obtain⟨Fz,Ga,rfl,Bn,Bo⟩:=k33_openF Ds
           have Bf:=Co 2 _ rfl
           rw [add_field _ _ 2 (by omega)]at Bf
           replace Bf:=Option.some.inj (Bf.symm.trans Bp)
           injection Bf with hva_ hvn_ hvc_
           rw [hva_]at Bo
           rw [hvc_]at Bn
           have Ci:=y0.mk (show Kd.V (Kd.int .i64) 3 _ w.heap.size _ _ ((y19 At Ah).f2)from Kd.V_mk Bn Bo)
           clear hva_ hvn_ hvc_ Bo Bn
           clear Co Dr
           have Cp:=y0.mk Cb
           have Gb:=y0.mk Ca
           clear Cb Ca
           replace Cu:=eq_true Cu
           replace Cv:=eq_true Cv
           go_wp2
           go_roundg k3
           case measure=>have:=Cz.out;have:=Cy.out;have:=Mu.out;omega
           exact⟨(Bi),(wrap64 (Ah + 1)),qy2,H',⟨by have:=Cz.out;have:=Cy.out;have:=Mu.out;omega⟩,⟨qR Ak.out⟩,⟨qR Aj.out⟩,⟨qN Be.out⟩,⟨qV Ab.out⟩,⟨qV Ac.out⟩,⟨qk Af.out⟩,⟨qb⟩⟩
       ·as_aux_lemma =>
        rw [if_neg Gk]at H
        have Fi:=decide_eq_false Gk
        clear Gk
        have H':=y0.mk H
        clear H
        obtain⟨aW,aX,Ra⟩:=Kd.N_slice Be.out
        subst Ra
        go_wp2
        go_loopg [15] k2 (fun kq cD w'=>∃(Bq:Int),cD=.int .i64 Bq∧y0 (z8_.l5 kq Bd Aw Bq=some (r1,r2))∧y0 (kq≤k2)∧y0 (Kd.R (Kd.int .i64) 3 w' w.heap.size (fun k_=>(w.heap.size≤k_)) Bc Bd)∧y0 (Kd.R Kd.string 9 w' w.heap.size (fun k_=>(w.heap.size≤k_)) Au Aw)∧y0 (Kd.V (Kd.int .i64) 3 w' w.heap.size (fun k_=>((P0_3_ k_∨P0_4_ k_)∨w.heap.size≤k_)∧some k_≠(Bc:Value).ownBlock∧some k_≠(Au:Value).ownBlock∧k_≠Ag) (.slice Bg Am.length Bh) Am)∧y0 (Kd.V k33 33 w' w.heap.size (fun k_=>((P0_3_ k_∨P0_4_ k_)∨w.heap.size≤k_)∧some k_≠(Bc:Value).ownBlock∧some k_≠(Au:Value).ownBlock∧k_≠Ag) (.slice Bk Ap.length Bl) Ap)∧y0 (w'.heap[Ag]?=some (.cells #[(.slice Dm Aa.length Cc),.int .i64 Ba,.string Bb,(.slice Bg Am.length Bh),(.slice Bk Ap.length Bl)] 36 (0,0)))∧y0 (Below w.heap.size w w'))
        case atStart=>exact⟨(0),qy2,H',⟨Nat.le_refl _⟩,⟨qR Ak.out⟩,⟨qR Aj.out⟩,⟨qV (Kd.V_mono Ab.out (fun _ hk=>⟨hk.1,⟨hk.2.1,⟨hk.2.2.1,hk.2.2.2.2⟩⟩⟩))⟩,⟨qV (Kd.V_mono Ac.out (fun _ hk=>⟨hk.1,⟨hk.2.1,⟨hk.2.2.1,hk.2.2.2.2⟩⟩⟩))⟩,⟨qk Af.out⟩,⟨qb⟩⟩
        case round =>
         clear H'
         (try clear Fi)
         obtain⟨Bq,rfl,HA,Mu,Ak,Aj,Ab,Ac,Af,HB⟩:=hrel
         cases gk with
         | zero=>exact absurd HA.out (by simp [z8_.l5])
         | succ k3 =>
          have H:=HA.out
          clear HA
          simp only [z8_.l5]at H
          by_cases Gm:Bq < (Bd.length:Int)
          ·as_aux_lemma =>
           rw [if_pos Gm]at H
           have Nl:=decide_eq_true Gm
           clear Gm
           obtain⟨Rb,H⟩:=qo H
           have Wx:decide (0≤Bq)=true:=decide_eq_true Rb
           clear Rb
           by_cases Fn:(rd Bd Bq)=1
           ·as_aux_lemma =>
            rw [if_pos Fn]at H
            have Nm:((rd Bd Bq) == 1)=true:=beq_iff_eq.mpr Fn
            have Nn:((rd Bd Bq) != 1)=false:=bne_eq_false_iff_eq.mpr Fn
            clear Fn
            have H':=y0.mk H
            clear H
            obtain⟨aY,aZ,Rc⟩:=Kd.R_slice Ak.out
            subst Rc
            have Fo:0≤(Bq:Int):=of_decide_eq_true qy0
            have Fp:Bq < (Bd.length:Int):=of_decide_eq_true qy0
            obtain⟨Rf,Np,Ki⟩:=Kd.at_int (Kd.R_reads' Ak.out).2.2 Bq Fo Fp
            cases Np
            replace Fo:=eq_true Fo
            replace Fp:=eq_true Fp
            go_wp2
            go_roundg k3
            case measure=>have:=Cz.out;have:=Cy.out;have:=Mu.out;omega
            exact⟨(wrap64 (Bq + 1)),qy2,H',⟨by have:=Cz.out;have:=Cy.out;have:=Mu.out;omega⟩,⟨qR Ak.out⟩,⟨qR Aj.out⟩,⟨qV Ab.out⟩,⟨qV Ac.out⟩,⟨qk Af.out⟩,⟨qb⟩⟩
           ·as_aux_lemma =>
            rw [if_neg Fn]at H
            have Nm:((rd Bd Bq) == 1)=false:=beq_eq_false_iff_ne.mpr Fn
            have Nn:((rd Bd Bq) != 1)=true:=bne_iff_ne.mpr Fn
            simp only [Option.some.injEq,Prod.mk.injEq]at H
            obtain⟨rfl,rfl⟩:=H
            obtain⟨bA,bB,Rg⟩:=Kd.R_slice Ak.out
            subst Rg
            have Fo:0≤(Bq:Int):=of_decide_eq_true qy0
            have Fp:Bq < (Bd.length:Int):=of_decide_eq_true qy0
            obtain⟨Rf,Np,Ki⟩:=Kd.at_int (Kd.R_reads' Ak.out).2.2 Bq Fo Fp
            cases Np
            replace Fo:=eq_true Fo
            replace Fp:=eq_true Fp
            go_wp2
            go_ret2
            exact⟨_,by first|rfl|(simp [y12,y13] <;> rfl)|(simp [*,y12,y13] <;> rfl),by(with_reducible repeat(first|apply Kd.R_alloc|apply Kd.R_drewN|apply Kd.R_drew));exact Aj.out,qb⟩
          ·as_aux_lemma =>
           rw [if_neg Gm]at H
           have Nl:=decide_eq_false Gm
           clear Gm
           simp only [Option.some.injEq,Prod.mk.injEq]at H
           obtain⟨rfl,rfl⟩:=H
           obtain⟨bC,bD,Rh⟩:=Kd.R_slice Ak.out
           subst Rh
           go_wp2
           go_ret2
           exact⟨_,by first|rfl|(simp [y12,y13] <;> rfl)|(simp [*,y12,y13] <;> rfl),by(with_reducible repeat(first|apply Kd.R_alloc|apply Kd.R_drewN|apply Kd.R_drew));exact Aj.out,qb⟩
end Go.Proofs.YtkdabljlfbmpdaaGreat.Pb
