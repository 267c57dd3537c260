-- Cut by prune.py, a program of this session, out of the texts of this claim: Lean checks it.
import Derived.Test.YtkdabljlfbmpdaaVolPox0
namespace Go.Proofs.Ytkdabljlfbmpdaa.Po
open Go.RowKit Go.Proofs.YtkdabljlfbmpdaaW.PrintWords Go.Proofs.YtkdabljlfbmpdaaW.PrintLast Go.Proofs.YtkdabljlfbmpdaaW.PrintMore
attribute [local go_sem] max2_int min2_int max_two min_two max_three min_three max_four min_four   -- for this text's walks alone
set_option linter.unusedVariables false
set_option linter.unusedSimpArgs false
mutual
def z8_.l0:Nat→List Int→List ByteArray→Int→List (S63)→Int→ByteArray→List Int→List (S33)→Option (List ByteArray×Bool)
 | 0,_,_,_,_,_,_,_,_=>none
 | k + 1,x4,x5,x6,x170000,x170001,x170002,x170003,x170004=>if x6 < (x170000.length:Int)then(if 0≤x6 then(z8_.l1 k x4 x5 x6 0 x170000 x170001 x170002 x170003 x170004 ((y21 x170000 x6).f0) ((y21 x170000 x6).f1) ((y21 x170000 x6).f2))else(none))else((some (([(⟨x170001,x170002,x170003⟩:S33)]:List (S33)):List (S33))).bind fun y199=>(if y199.length + x170004.length < 2932031007402 then(z8_.l3 k x4 x5 (y199 ++ x170004) 0)else(none)))
def z8_.l1:Nat→List Int→List ByteArray→Int→Int→List (S63)→Int→ByteArray→List Int→List (S33)→Int→ByteArray→List Int→Option (List ByteArray×Bool)
 | 0,_,_,_,_,_,_,_,_,_,_,_,_=>none
 | k + 1,x4,x5,x6,x8,x170000,x170001,x170002,x170003,x170004,x181000,x181001,x181002=>if x8 < (x181002.length:Int)then(if 0≤x8 then((spec_l01Between.f (rd x181002 x8) 0 (wrap64 (x6 - 1))).bind fun t182=>(if t182=true then(if 0≤(rd x181002 x8)then(if(rd x181002 x8) < (x4.length:Int)then(z8_.l1 k (x4.set ((rd x181002 x8):Int).toNat (wrap64 ((rd x4 (rd x181002 x8)) + 1))) x5 x6 (wrap64 (x8 + 1)) x170000 x170001 x170002 x170003 x170004 x181000 x181001 x181002)else(none))else(none))else(some (x5,false))))else(none))else(if x181000=1 then(z8_.j2 k x4 x5 x6 x181000 (x181000 == 1) x170000 x170001 x170002 x170003 x170004 x181000 x181001 x181002)else(z8_.j2 k x4 x5 x6 x181000 (x181000 == 3) x170000 x170001 x170002 x170003 x170004 x181000 x181001 x181002))
def z8_.j5:Nat→List Int→List ByteArray→Int→ByteArray→List (S63)→Int→ByteArray→List Int→List (S33)→Int→ByteArray→List Int→Option (List ByteArray×Bool)
 | 0,_,_,_,_,_,_,_,_,_,_,_,_=>none
 | k + 1,x4,x5,x6,x9,x170000,x170001,x170002,x170003,x170004,x181000,x181001,x181002=>if x181000≤3 then(if(x181002.length:Int) > 0 then(z8_.j6 k x4 x5 x6 x9 true x170000 x170001 x170002 x170003 x170004)else(z8_.j6 k x4 x5 x6 x9 (decide ((x9.size:Int) > 3000)) x170000 x170001 x170002 x170003 x170004))else(z8_.j6 k x4 x5 x6 x9 (decide ((x9.size:Int) > 3000)) x170000 x170001 x170002 x170003 x170004)
def z8_.j6:Nat→List Int→List ByteArray→Int→ByteArray→Bool→List (S63)→Int→ByteArray→List Int→List (S33)→Option (List ByteArray×Bool)
 | 0,_,_,_,_,_,_,_,_,_,_=>none
 | k + 1,x4,x5,x6,x9,x156,x170000,x170001,x170002,x170003,x170004=>if x156=true then(some (x5,false))else(if 0≤x6 then(if x6 < (x5.length:Int)then(z8_.l0 k x4 (x5.set (x6:Int).toNat x9) (wrap64 (x6 + 1)) x170000 x170001 x170002 x170003 x170004)else(none))else(none))
def z8_.j2:Nat→List Int→List ByteArray→Int→Int→Bool→List (S63)→Int→ByteArray→List Int→List (S33)→Int→ByteArray→List Int→Option (List ByteArray×Bool)
 | 0,_,_,_,_,_,_,_,_,_,_,_,_,_=>none
 | k + 1,x4,x5,x6,x69,x71,x170000,x170001,x170002,x170003,x170004,x181000,x181001,x181002=>if x71=true then(z8_.j5 k x4 x5 x6 x181001 x170000 x170001 x170002 x170003 x170004 x181000 x181001 x181002)else(if x69=2 then(z8_.j5 k x4 x5 x6 (⟨#[95]⟩:ByteArray) x170000 x170001 x170002 x170003 x170004 x181000 x181001 x181002)else(if x69=4 then(z8_.l2 k x4 x5 x6 x181001 0 x170000 x170001 x170002 x170003 x170004 x181000 x181001 x181002)else(if x69=5 then(z8_.j4 k x4 x5 x6 (x69 == 5) x170000 x170001 x170002 x170003 x170004 x181000 x181001 x181002)else(if x69=6 then(z8_.j4 k x4 x5 x6 (x69 == 6) x170000 x170001 x170002 x170003 x170004 x181000 x181001 x181002)else(z8_.j4 k x4 x5 x6 (x69 == 7) x170000 x170001 x170002 x170003 x170004 x181000 x181001 x181002)))))
def z8_.l2:Nat→List Int→List ByteArray→Int→ByteArray→Int→List (S63)→Int→ByteArray→List Int→List (S33)→Int→ByteArray→List Int→Option (List ByteArray×Bool)
 | 0,_,_,_,_,_,_,_,_,_,_,_,_,_=>none
 | k + 1,x4,x5,x6,x9,x10,x170000,x170001,x170002,x170003,x170004,x181000,x181001,x181002=>if x10 < (x181002.length:Int)then(if x10=0 then(if x9.size + 1≤9223372036854775807 then(if 0≤x10 then(if 0≤(rd x181002 x10)then(if(rd x181002 x10) < (x5.length:Int)then(if(x9 ++ (⟨#[40]⟩:ByteArray)).size + (rdOf ByteArray.empty x5 (rd x181002 x10)).size≤9223372036854775807 then(z8_.l2 k x4 x5 x6 ((x9 ++ (⟨#[40]⟩:ByteArray)) ++ (rdOf ByteArray.empty x5 (rd x181002 x10))) (wrap64 (x10 + 1)) x170000 x170001 x170002 x170003 x170004 x181000 x181001 x181002)else(none))else(none))else(none))else(none))else(none))else(if x9.size + 2≤9223372036854775807 then(if 0≤x10 then(if 0≤(rd x181002 x10)then(if(rd x181002 x10) < (x5.length:Int)then(if(x9 ++ (⟨#[44,32]⟩:ByteArray)).size + (rdOf ByteArray.empty x5 (rd x181002 x10)).size≤9223372036854775807 then(z8_.l2 k x4 x5 x6 ((x9 ++ (⟨#[44,32]⟩:ByteArray)) ++ (rdOf ByteArray.empty x5 (rd x181002 x10))) (wrap64 (x10 + 1)) x170000 x170001 x170002 x170003 x170004 x181000 x181001 x181002)else(none))else(none))else(none))else(none))else(none)))else(if(x181002.length:Int) > 0 then(if x9.size + 1≤9223372036854775807 then(z8_.j5 k x4 x5 x6 (x9 ++ (⟨#[41]⟩:ByteArray)) x170000 x170001 x170002 x170003 x170004 x181000 x181001 x181002)else(none))else(z8_.j5 k x4 x5 x6 x9 x170000 x170001 x170002 x170003 x170004 x181000 x181001 x181002))
def z8_.j4:Nat→List Int→List ByteArray→Int→Bool→List (S63)→Int→ByteArray→List Int→List (S33)→Int→ByteArray→List Int→Option (List ByteArray×Bool)
 | 0,_,_,_,_,_,_,_,_,_,_,_,_=>none
 | k + 1,x4,x5,x6,x111,x170000,x170001,x170002,x170003,x170004,x181000,x181001,x181002=>if x111=true then(if(x181002.length:Int)=2 then((some (([(⟨#[32,43,32]⟩:ByteArray),(⟨#[32,45,32]⟩:ByteArray),(⟨#[32,42,32]⟩:ByteArray)]:List ByteArray):List ByteArray)).bind fun y190=>(if 0≤(wrap64 (x181000 - 5))then(if(wrap64 (x181000 - 5)) < (y190.length:Int)then(if 0 < (x181002.length:Int)then((spec_l04Side.f x170000 x170001 x170002 x170003 x170004 x5 (rd x181002 0)).bind fun t195=>(if t195.size + (rdOf ByteArray.empty y190 (wrap64 (x181000 - 5))).size≤9223372036854775807 then(if 1 < (x181002.length:Int)then((spec_l04Side.f x170000 x170001 x170002 x170003 x170004 x5 (rd x181002 1)).bind fun t197=>(if(t195 ++ (rdOf ByteArray.empty y190 (wrap64 (x181000 - 5)))).size + t197.size≤9223372036854775807 then(z8_.j5 k x4 x5 x6 ((t195 ++ (rdOf ByteArray.empty y190 (wrap64 (x181000 - 5)))) ++ t197) x170000 x170001 x170002 x170003 x170004 x181000 x181001 x181002)else(none)))else(none))else(none)))else(none))else(none))else(none)))else(some (x5,false)))else(some (x5,false))
def z8_.l3:Nat→List Int→List ByteArray→List (S33)→Int→Option (List ByteArray×Bool)
 | 0,_,_,_,_=>none
 | k + 1,x4,x5,x12,x13=>if x13 < (x12.length:Int)then(z8_.l4 k x4 x5 x12 x13 0)else(z8_.l5 k x4 x5 0)
def z8_.l4:Nat→List Int→List ByteArray→List (S33)→Int→Int→Option (List ByteArray×Bool)
 | 0,_,_,_,_,_=>none
 | k + 1,x4,x5,x12,x13,x14=>if 0≤x13 then(if x13 < (x12.length:Int)then(if x14 < (((y20 x12 x13).f2).length:Int)then(if 0≤x14 then((spec_l01Between.f (rd ((y20 x12 x13).f2) x14) 0 (wrap64 ((x4.length:Int) - 1))).bind fun t208=>(if t208=true then(if 0≤(rd ((y20 x12 x13).f2) x14)then(if(rd ((y20 x12 x13).f2) x14) < (x4.length:Int)then(z8_.l4 k (x4.set ((rd ((y20 x12 x13).f2) x14):Int).toNat (wrap64 ((rd x4 (rd ((y20 x12 x13).f2) x14)) + 1))) x5 x12 x13 (wrap64 (x14 + 1)))else(none))else(none))else(some (x5,false))))else(none))else(z8_.l3 k x4 x5 x12 (wrap64 (x13 + 1))))else(none))else(none)
def z8_.l5:Nat→List Int→List ByteArray→Int→Option (List ByteArray×Bool)
 | 0,_,_,_=>none
 | k + 1,x4,x5,x15=>if x15 < (x4.length:Int)then(if 0≤x15 then(if(rd x4 x15)=1 then(z8_.l5 k x4 x5 (wrap64 (x15 + 1)))else(some (x5,false)))else(none))else(some (x5,true))
end
def z8_.f (k:Nat) (l0_0:List (S63)) (a0_1:Int) (a0_2:ByteArray) (l0_3:List Int) (l0_4:List (S33)):Option (List ByteArray×Bool):=if(l0_0.length:Int) > 60 then(some ((([]:List ByteArray)),false))else(if 0≤(l0_0.length:Int)then(if((l0_0.length:Int):Int).toNat≤35184372088832 then(if((l0_0.length:Int):Int).toNat≤17592186044416 then(z8_.l0 k (List.replicate ((l0_0.length:Int):Int).toNat 0) (List.replicate ((l0_0.length:Int):Int).toNat (⟨#[]⟩:ByteArray)) 0 l0_0 a0_1 a0_2 l0_3 l0_4)else(none))else(none))else(none))
def z8_.T40:Bool×List (List Nat×List Nat):=(true,[([],[]),([],[]),([],[]),([2],[2]),([3],[3]),([4],[4]),([0,1,5],[0,1,5]),([],[]),([6,7],[6,7]),([],[]),([],[]),([],[]),([11],[11]),([12],[12]),([13],[13]),([9,10,14,6],[9,10,14]),([8,15],[8,15]),([16,15,0,1,2,3,4,5,6,7,8,9,10,11,12,13,14,15,16],[16])])
def z8_.B40:List Nat:=[0,0,0,4,12,28,63,0,255,0,0,0,2048,6144,14336,32383,65535,131071]
theorem z8_.tab40:rtab .any (opsOf Try.f47 40)=z8_.T40:=by kernel_rfl
theorem z8_.bits40:waitsOk z8_.T40.2 z8_.B40=true:=by kernel_rfl
set_option maxHeartbeats 8000000 in
set_option maxRecDepth 100000 in
theorem z8_.calls (k:Nat) (Do:Option Addr) (Cc:Nat) (Aa:List (S63)) (Ba:Int) (Bb:ByteArray) (P0_3_:Nat→Prop) (Bg:Option Addr) (Bh:Nat) (Am:List Int) (P0_4_:Nat→Prop) (Bk:Option Addr) (Bl:Nat) (Ap:List (S33)) (r1:List ByteArray) (r2:Bool) (w:World) (Kk:Kd.C k63 w Do Aa.length Aa) (Kl:Aa.length≤Cc) (Nw:Kd.V (Kd.int .i64) 3 w w.heap.size (fun k_=>P0_3_ k_) (.slice Bg Am.length Bh) Am) (Nx:Kd.V k33 33 w w.heap.size (fun k_=>P0_4_ k_) (.slice Bk Ap.length Bl) Ap) (h:z8_.f k Aa Ba Bb Am Ap=some (r1,r2)) :
  Calls Try.prog 47 #[.agg #[.slice Do Aa.length Cc,.int .i64 Ba,.string Bb,.slice Bg Am.length Bh,.slice Bk Ap.length Bl]] w fun e w'=>∃ v0_:Value,e=.returned (.tuple #[v0_,.bool r2])∧Kd.R Kd.string 9 w' w.heap.size (fun k_=>(w.heap.size≤k_)) v0_ r1∧Below w.heap.size w w':=by
 have bF:=Try.underlying36
 have bG:=Try.underlying63
 have bH:=Try.underlying33
 have Gp:=y0.mk Kk
 have Km:=y0.mk Kl
 clear Kk Kl
 have Cm:=y0.mk (show Kd.V (Kd.int .i64) 3 w w.heap.size (fun k_=>((P0_3_ k_∨P0_4_ k_)∨w.heap.size≤k_)) (.slice Bg Am.length Bh) Am from Kd.V_mono Nw (fun k_ hk=>.inl (.inl hk)))
 have Cn:=y0.mk (show Kd.V k33 33 w w.heap.size (fun k_=>((P0_3_ k_∨P0_4_ k_)∨w.heap.size≤k_)) (.slice Bk Ap.length Bl) Ap from Kd.V_mono Nx (fun k_ hk=>.inl (.inr hk)))
 have HB:=y0.mk (Below.refl w.heap.size w)
 have H:(if(Aa.length:Int) > 60 then(some ((([]:List ByteArray)),false))else(if 0≤(Aa.length:Int)then(if((Aa.length:Int):Int).toNat≤35184372088832 then(if((Aa.length:Int):Int).toNat≤17592186044416 then(z8_.l0 k (List.replicate ((Aa.length:Int):Int).toNat 0) (List.replicate ((Aa.length:Int):Int).toNat (⟨#[]⟩:ByteArray)) 0 Aa Ba Bb Am Ap)else(none))else(none))else(none)))=some (r1,r2):=h
 clear h
 by_cases c2:(Aa.length:Int) > 60
 ·as_aux_lemma =>
  rw [if_pos c2]at H
  have Ny:decide (60 < (Aa.length:Int))=true:=decide_eq_true c2
  have Nz:decide (60 < Aa.length)=true:=decide_eq_true (by omega)
  clear c2
  obtain⟨Uf,Em⟩:∃ y_:List ByteArray,y_=(([]:List ByteArray)):=⟨_,rfl⟩
  replace H:(some (Uf,false))=some (r1,r2):=by first|(rw [Em];with_reducible exact H)|(have H2_:=(Option.bind_some _ _).symm.trans H;rw [Em];with_reducible exact H2_)|(have H2_:=(Option.bind_some _ _).symm.trans H;with_reducible exact H2_)|with_reducible exact H|(rw [Em];exact H)|exact H
  have Kn:=y0.mk Em
  clear Em
  simp only [Option.some.injEq,Prod.mk.injEq]at H
  obtain⟨rfl,rfl⟩:=H
  go_enter Try.func47,Try.ntmps47
  go_wp2_with (first|((with_reducible refine y17 (N:=1) rfl ?_);(try(refine gate_guard (by rfl) ?_;dsimp only));refine qe 1 #[.slice Do Aa.length Cc,.int .i64 Ba,.string Bb,.slice Bg Am.length Bh,.slice Bk Ap.length Bl] 36 ?_;intro Ag hg w3 hbox hb;replace Cm:=y0.mk (Kd.V_below (Kd.V_elderB (qV Cm.out) Ag (Nat.le_of_eq hg.symm)) hb);replace Cn:=y0.mk (Kd.V_below (Kd.V_elderB (qV Cn.out) Ag (Nat.le_of_eq hg.symm)) hb);have Af:=y0.mk (hbox);have Oa:=y0.mk (qg (w:=w) hg);have Ob:=y0.mk (qg (w:=w) hg);replace HB:=y0.mk (y5 qb hb);clear hb hbox hg;obtain⟨Ug,Uh,Ui,Uj,Uk,Ul,Um,Uo,Up,Uq⟩:=qz5 Af.out)|((with_reducible refine y17 (N:=20) rfl ?_);(try(refine gate_guard (by rfl) ?_;dsimp only));refine qL Kd.string 9 20 ([]:List ByteArray) ?_;intro bI w5 Lc hb hg_ hnew_;clear hg_ hnew_;(first|rw [← Kn.out]at Lc|(simp only [Int.reduceToNat]at Lc;rw [← Kn.out]at Lc));replace Cm:=y0.mk (Kd.V_elder' (qV Cm.out) (Kd.R_base Lc) hb);replace Cn:=y0.mk (Kd.V_elder' (qV Cn.out) (Kd.R_base Lc) hb);have Oc:=y0.mk (Kd.R_lower (Kd.R_newM (M:=fun k_=>(w.heap.size≤k_)) Lc (y4 qb) (fun k_ h_=>h_)) (y4 qb));replace Af:=y0.mk (qK Af.out hb);replace HB:=y0.mk (y5 qb hb);clear hb Lc))
  go_ret2
  exact⟨_,by first|rfl|(simp [y13,y14] <;> rfl)|(simp [*,y13,y14] <;> rfl),by(with_reducible repeat(first|apply Kd.R_alloc|apply Kd.R_drewN|apply Kd.R_drew));exact Kd.R_mono Oc.out (fun _ hk=>hk.1),qb⟩
 ·as_aux_lemma =>
  rw [if_neg c2]at H
  have Ny:decide (60 < (Aa.length:Int))=false:=decide_eq_false c2
  have Nz:decide (60 < Aa.length)=false:=decide_eq_false (by omega)
  clear c2
  obtain⟨c7,H⟩:=qo H
  have Ur:=eq_true c7
  have Us:=decide_eq_true c7
  clear c7
  obtain⟨c8,H⟩:=qo H
  have Ut:=eq_true c8
  have Uu:=decide_eq_true c8
  clear c8
  obtain⟨Ld,En⟩:∃ y_:List Int,y_=(List.replicate ((Aa.length:Int):Int).toNat 0):=⟨_,rfl⟩
  replace H:(if((Aa.length:Int):Int).toNat≤17592186044416 then(z8_.l0 k Ld (List.replicate ((Aa.length:Int):Int).toNat (⟨#[]⟩:ByteArray)) 0 Aa Ba Bb Am Ap)else(none))=some (r1,r2):=by first|(rw [En];with_reducible exact H)|(have H2_:=(Option.bind_some _ _).symm.trans H;rw [En];with_reducible exact H2_)|(have H2_:=(Option.bind_some _ _).symm.trans H;with_reducible exact H2_)|with_reducible exact H|(rw [En];exact H)|exact H
  have Ko:=y0.mk En
  clear En
  obtain⟨c9,H⟩:=qo H
  have Uv:=eq_true c9
  have Uw:=decide_eq_true c9
  clear c9
  obtain⟨Od,Eo⟩:∃ y_:List ByteArray,y_=(List.replicate ((Aa.length:Int):Int).toNat (⟨#[]⟩:ByteArray)):=⟨_,rfl⟩
  replace H:(z8_.l0 k Ld Od 0 Aa Ba Bb Am Ap)=some (r1,r2):=by first|(rw [Eo];with_reducible exact H)|(have H2_:=(Option.bind_some _ _).symm.trans H;rw [Eo];with_reducible exact H2_)|(have H2_:=(Option.bind_some _ _).symm.trans H;with_reducible exact H2_)|with_reducible exact H|(rw [Eo];exact H)|exact H
  have Kp:=y0.mk Eo
  clear Eo
  have H':=y0.mk H
  clear H
  go_enter Try.func47,Try.ntmps47
  go_wp2_with (first|((with_reducible refine y17 (N:=1) rfl ?_);(try(refine gate_guard (by rfl) ?_;dsimp only));refine qe 1 #[.slice Do Aa.length Cc,.int .i64 Ba,.string Bb,.slice Bg Am.length Bh,.slice Bk Ap.length Bl] 36 ?_;intro Ag hg cI hbox hb;replace Cm:=y0.mk (Kd.V_below (Kd.V_elderB (qV Cm.out) Ag (Nat.le_of_eq hg.symm)) hb);replace Cn:=y0.mk (Kd.V_below (Kd.V_elderB (qV Cn.out) Ag (Nat.le_of_eq hg.symm)) hb);have Af:=y0.mk (hbox);have Oa:=y0.mk (qg (w:=w) hg);have Ob:=y0.mk (qg (w:=w) hg);replace HB:=y0.mk (y5 qb hb);clear hb hbox hg;obtain⟨Hx,Hy,Hz,Ia,Ib,Ic,Id,Ie,If,Ig⟩:=qz5 Af.out)|((with_reducible refine y17 (N:=24) rfl ?_);(try(refine gate_guard (by rfl) ?_;dsimp only));refine Kd.R_make (Kd.int .i64) _ 3 rfl (N:=24) rfl 23 _ _ rfl (Aa.length:Int) rfl rfl Try.underlying23 (.int .i64 0) 8 info3 rfl (by decide) (by omega) 0 (ok:=fun _=>True) (okp:=fun _=>True) rfl (fun _ hk=>hk) trivial (of_decide_eq_true qy0) (Nat.le_trans (Nat.mul_le_mul_right _ (of_decide_eq_true qy0:(Aa.length:Int).toNat≤35184372088832)) (by omega)) (Below.refl _ _) (Nat.le_refl _) ?_;intro Bc cJ Fe hb hg_ hnew_;clear hg_ hnew_;(first|rw [← Ko.out]at Fe|(simp only [Int.reduceToNat]at Fe;rw [← Ko.out]at Fe));replace Cm:=y0.mk (Kd.V_elder' (qV Cm.out) (Kd.R_base Fe) hb);replace Cn:=y0.mk (Kd.V_elder' (qV Cn.out) (Kd.R_base Fe) hb);have Gq:=y0.mk (Kd.R_lower (Kd.R_newM (M:=fun k_=>(w.heap.size≤k_)) Fe (y4 qb) (fun k_ h_=>h_)) (y4 qb));replace Af:=y0.mk (qK Af.out hb);replace HB:=y0.mk (y5 qb hb);clear hb Fe;obtain⟨Ih,Ii,Ij,Ik,Il,Im,Io,Ip,Iq,Ir⟩:=qz5 Af.out)|((with_reducible refine y17 (N:=28) rfl ?_);(try(refine gate_guard (by rfl) ?_;dsimp only));refine Kd.R_make Kd.string _ 9 rfl (N:=28) rfl 30 _ _ rfl (Aa.length:Int) rfl rfl Try.underlying30 (.string ⟨#[]⟩) 16 info9 rfl (by decide) (by omega) (⟨#[]⟩:ByteArray) (ok:=fun _=>True) (okp:=fun _=>True) rfl (fun _ hk=>hk) trivial (of_decide_eq_true qy0) (Nat.le_trans (Nat.mul_le_mul_right _ (of_decide_eq_true qy0:(Aa.length:Int).toNat≤17592186044416)) (by omega)) (Below.refl _ _) (Nat.le_refl _) ?_;intro Au cL Ff hb hg_ hnew_;clear hg_ hnew_;(first|rw [← Kp.out]at Ff|(simp only [Int.reduceToNat]at Ff;rw [← Kp.out]at Ff));replace Cm:=y0.mk (Kd.V_elder' (qV Cm.out) (Kd.R_base Ff) hb);replace Cn:=y0.mk (Kd.V_elder' (qV Cn.out) (Kd.R_base Ff) hb);replace Gq:=y0.mk (Kd.R_below (qR Gq.out) hb);have Oe:=y0.mk (Kd.R_lower (Kd.R_newM (M:=fun k_=>(w.heap.size≤k_)) Ff (y4 qb) (fun k_ h_=>h_)) (y4 qb));replace Af:=y0.mk (qK Af.out hb);replace HB:=y0.mk (y5 qb hb);clear hb Ff))
  go_loopg [6] k (fun kq v6 w'=>∃(Fg:List Int) (Aw:List ByteArray) (Ad:Int),v6=.int .i64 Ad∧y0 (z8_.l0 kq Fg Aw Ad Aa Ba Bb Am Ap=some (r1,r2))∧y0 (kq≤k)∧y0 (Kd.R (Kd.int .i64) 3 w' w.heap.size (fun k_=>(w.heap.size≤k_)) Bc Fg)∧y0 (Kd.R Kd.string 9 w' w.heap.size (fun k_=>(w.heap.size≤k_)) Au Aw)∧y0 (Kd.V (Kd.int .i64) 3 w' w.heap.size (fun k_=>((P0_3_ k_∨P0_4_ k_)∨w.heap.size≤k_)∧some k_≠(Bc:Value).ownBlock∧some k_≠(Au:Value).ownBlock∧k_≠Ag) (.slice Bg Am.length Bh) Am)∧y0 (Kd.V k33 33 w' w.heap.size (fun k_=>((P0_3_ k_∨P0_4_ k_)∨w.heap.size≤k_)∧some k_≠(Bc:Value).ownBlock∧some k_≠(Au:Value).ownBlock∧k_≠Ag) (.slice Bk Ap.length Bl) Ap)∧y0 (w'.heap[Ag]?=some (.cells #[(.slice Do Aa.length Cc),.int .i64 Ba,.string Bb,(.slice Bg Am.length Bh),(.slice Bk Ap.length Bl)] 36 (0,0)))∧y0 (Below w.heap.size w w'))
  case atStart=>exact⟨(Ld),(Od),(0),qy2,H',⟨Nat.le_refl _⟩,⟨qR (Kd.R_mono Gq.out (fun _ hk=>hk.1))⟩,⟨qR (Kd.R_mono Oe.out (fun _ hk=>hk.1))⟩,⟨qV (Kd.V_mono Cm.out (fun _ hk=>⟨hk.1.1.1,⟨hk.1.2,⟨hk.2,hk.1.1.2⟩⟩⟩))⟩,⟨qV (Kd.V_mono Cn.out (fun _ hk=>⟨hk.1.1.1,⟨hk.1.2,⟨hk.2,hk.1.1.2⟩⟩⟩))⟩,⟨qk Af.out⟩,⟨qb⟩⟩
  case round =>
   clear H'
   (try clear Ny Nz Ur Us Ut Uu Uv Uw Hx Hy Hz Ia Ib Ih Ii Ij Ik Il Ic Id Ie If Ig Im Io Ip Iq Ir)
   obtain⟨Fg,Aw,Ad,rfl,HA,Da,Ak,Aj,Ab,Ac,Af,HB⟩:=hrel
   cases gk with
   | zero=>exact absurd HA.out (by simp [z8_.l0])
   | succ k1 =>
    have H:=HA.out
    clear HA
    simp only [z8_.l0]at H
    by_cases Nr:Ad < (Aa.length:Int)
    ·as_aux_lemma =>
     rw [if_pos Nr]at H
     have Gr:=decide_eq_true Nr
     clear Nr
     obtain⟨Wz,H⟩:=qo H
     have Of:decide (0≤Ad)=true:=decide_eq_true Wz
     clear Wz
     have H':=y0.mk H
     clear H
     obtain⟨Is,Iu,Iv,Iw,Ix,Iy,Iz,Ja,Jb,Jc⟩:=qz5 Af.out
     have Jd:0≤(Ad:Int):=of_decide_eq_true qy0
     have Je:Ad < (Aa.length:Int):=of_decide_eq_true qy0
     obtain⟨Cs,Cd,Br,Ux,Df,Dg,Dh,Fr,Fs⟩:=at_T63 Gp.out Ad Jd Je
     cases Ux
     replace Df:=(HB.out.cell (World.block_lt_of_cell? w _ Df)).trans Df
     replace Dg:=(HB.out.cell (World.block_lt_of_cell? w _ Dg)).trans Dg
     replace Dh:=(HB.out.cell (World.block_lt_of_cell? w _ Dh)).trans Dh
     have Cf:=y0.mk Fs
     have Rj:=y0.mk Fr
     clear Fs Fr
     replace Jd:=eq_true Jd
     replace Je:=eq_true Je
     go_wp2_with (first|((with_reducible refine y17 (N:=7) rfl ?_);(try(refine gate_guard (by rfl) ?_;dsimp only));refine qe 7 #[.int .i64 0,.string (⟨#[]⟩:ByteArray),.slice none 0 0] 63 ?_;intro Ar hg cM hbox hb;replace Ak:=y0.mk (Kd.R_below (qR Ak.out) hb);replace Aj:=y0.mk (Kd.R_below (qR Aj.out) hb);replace Ab:=y0.mk (Kd.V_below (Kd.V_elderB (qV Ab.out) Ar (Nat.le_of_eq hg.symm)) hb);replace Ac:=y0.mk (Kd.V_below (Kd.V_elderB (qV Ac.out) Ar (Nat.le_of_eq hg.symm)) hb);have Ai:=y0.mk (hbox);have Xa:=y0.mk (qg (w:=w) hg);have Xb:=y0.mk (qg (w:=w) hg);replace HB:=y0.mk (y5 qb hb);have As:=y0.mk (qn Af.out hg);have Av:=y0.mk (qm Af.out hg);replace Af:=y0.mk (qK Af.out hb);clear hb hbox hg;have Xc:=Av.out;have Xd:=As.out;obtain⟨Jf,Jg,Jh,Ji,Jj,Jk⟩:=qz3 Ai.out))
     go_loopg [8] k1 (fun kq v8 w'=>∃(Bd:List Int) (Bj:Int),v8=.int .i64 Bj∧y0 (z8_.l1 kq Bd Aw Ad Bj Aa Ba Bb Am Ap ((y21 Aa Ad).f0) ((y21 Aa Ad).f1) ((y21 Aa Ad).f2)=some (r1,r2))∧y0 (kq≤k1)∧y0 (Kd.R (Kd.int .i64) 3 w' w.heap.size (fun k_=>(w.heap.size≤k_)) Bc Bd)∧y0 (Kd.R Kd.string 9 w' w.heap.size (fun k_=>(w.heap.size≤k_)) Au Aw)∧y0 (Kd.V (Kd.int .i64) 3 w' w.heap.size (fun k_=>((P0_3_ k_∨P0_4_ k_)∨w.heap.size≤k_)∧some k_≠(Bc:Value).ownBlock∧some k_≠(Au:Value).ownBlock∧k_≠Ag∧k_≠Ar) (.slice Bg Am.length Bh) Am)∧y0 (Kd.V k33 33 w' w.heap.size (fun k_=>((P0_3_ k_∨P0_4_ k_)∨w.heap.size≤k_)∧some k_≠(Bc:Value).ownBlock∧some k_≠(Au:Value).ownBlock∧k_≠Ag∧k_≠Ar) (.slice Bk Ap.length Bl) Ap)∧y0 (w'.heap[Ag]?=some (.cells #[(.slice (some Cs) Aa.length Cc),.int .i64 Ba,.string Bb,(.slice Bg Am.length Bh),(.slice Bk Ap.length Bl)] 36 (0,0)))∧y0 (w'.heap[Ar]?=some (.cells #[.int .i64 ((y21 Aa Ad).f0),.string ((y21 Aa Ad).f1),(.slice Cd ((y21 Aa Ad).f2).length Br)] 63 (0,0)))∧y0 (Below w.heap.size w w'))
     case atStart=>exact⟨(Fg),(0),qy2,H',⟨Nat.le_refl _⟩,⟨qR (Kd.R_mono (Kd.R_far (p:=⟨Ar,2,none⟩) (Kd.R_far (p:=⟨Ar,1,none⟩) (Kd.R_far (p:=⟨Ar,0,none⟩) (Kd.R_types Ak.out Ai.out (by decide)) (fun _ hk=>hk.2) (.int .i64 ((y21 Aa Ad).f0))) (fun _ hk=>hk.2) (.string ((y21 Aa Ad).f1))) (fun _ hk=>hk.2) (.slice Cd ((y21 Aa Ad).f2).length Br)) (fun _ hk=>hk.1))⟩,⟨qR (Kd.R_mono (Kd.R_far (p:=⟨Ar,2,none⟩) (Kd.R_far (p:=⟨Ar,1,none⟩) (Kd.R_far (p:=⟨Ar,0,none⟩) (Kd.R_types Aj.out Ai.out (by decide)) (fun _ hk=>hk.2) (.int .i64 ((y21 Aa Ad).f0))) (fun _ hk=>hk.2) (.string ((y21 Aa Ad).f1))) (fun _ hk=>hk.2) (.slice Cd ((y21 Aa Ad).f2).length Br)) (fun _ hk=>hk.1))⟩,⟨qV (Kd.V_mono (Kd.V_far (p:=⟨Ar,2,none⟩) (Kd.V_far (p:=⟨Ar,1,none⟩) (Kd.V_far (p:=⟨Ar,0,none⟩) (Kd.V_mono Ab.out (fun k_ hk=>(⟨hk,hk.2⟩:_∧k_≠Ar))) (fun _ hk=>hk.2) (.int .i64 ((y21 Aa Ad).f0))) (fun _ hk=>hk.2) (.string ((y21 Aa Ad).f1))) (fun _ hk=>hk.2) (.slice Cd ((y21 Aa Ad).f2).length Br)) (fun _ hk=>⟨hk.1.1.1,⟨hk.1.1.2.1,⟨hk.1.1.2.2.1,⟨hk.1.1.2.2.2,hk.1.2⟩⟩⟩⟩))⟩,⟨qV (Kd.V_mono (Kd.V_far (p:=⟨Ar,2,none⟩) (Kd.V_far (p:=⟨Ar,1,none⟩) (Kd.V_far (p:=⟨Ar,0,none⟩) (Kd.V_mono Ac.out (fun k_ hk=>(⟨hk,hk.2⟩:_∧k_≠Ar))) (fun _ hk=>hk.2) (.int .i64 ((y21 Aa Ad).f0))) (fun _ hk=>hk.2) (.string ((y21 Aa Ad).f1))) (fun _ hk=>hk.2) (.slice Cd ((y21 Aa Ad).f2).length Br)) (fun _ hk=>⟨hk.1.1.1,⟨hk.1.1.2.1,⟨hk.1.1.2.2.1,⟨hk.1.1.2.2.2,hk.1.2⟩⟩⟩⟩))⟩,⟨by(with_reducible repeat(first|refine y10 ?_ _|refine y9 ?_|refine y6 ?_ _));refine y11 ?_ As.out _;(with_reducible repeat(first|refine y10 ?_ _|refine y9 ?_|refine y6 ?_ _));refine y11 ?_ As.out _;(with_reducible repeat(first|refine y10 ?_ _|refine y9 ?_|refine y6 ?_ _));refine y11 ?_ As.out _;(with_reducible repeat(first|refine y10 ?_ _|refine y9 ?_|refine y6 ?_ _));exact Af.out⟩,⟨by(with_reducible repeat(first|refine y10 ?_ _|refine y9 ?_|refine y6 ?_ _));refine blk_put (cs:=#[.int .i64 ((y21 Aa Ad).f0),.string ((y21 Aa Ad).f1),.slice none 0 0]) ?_ 2 _ rfl;(with_reducible repeat(first|refine y10 ?_ _|refine y9 ?_|refine y6 ?_ _));refine blk_put (cs:=#[.int .i64 ((y21 Aa Ad).f0),.string (⟨#[]⟩:ByteArray),.slice none 0 0]) ?_ 1 _ rfl;(with_reducible repeat(first|refine y10 ?_ _|refine y9 ?_|refine y6 ?_ _));refine blk_put (cs:=#[.int .i64 0,.string (⟨#[]⟩:ByteArray),.slice none 0 0]) ?_ 0 _ rfl;(with_reducible repeat(first|refine y10 ?_ _|refine y9 ?_|refine y6 ?_ _));exact Ai.out⟩,⟨qb⟩⟩
     case round =>
      clear H'
      (try clear Gr Of Is Iu Iv Iw Ix Jf Jg Jh Iy Iz Ja Jb Jc Ji Jj Jk Df Dg Dh Jd Je)
      obtain⟨Bd,Bj,rfl,HA,Cz,Ak,Aj,Ab,Ac,Af,Ai,HB⟩:=hrel
      cases gk with
      | zero=>exact absurd HA.out (by simp [z8_.l1])
      | succ k2 =>
       have H:=HA.out
       clear HA
       simp only [z8_.l1]at H
       by_cases Ns:Bj < (((y21 Aa Ad).f2).length:Int)
       ·as_aux_lemma =>
        rw [if_pos Ns]at H
        have Kq:=decide_eq_true Ns
        clear Ns
        obtain⟨Xe,H⟩:=qo H
        have Xf:decide (0≤Bj)=true:=decide_eq_true Xe
        clear Xe
        obtain⟨Uy,Xg,H⟩:=qB H
        by_cases Rl:Uy=true
        ·subst Rl
         replace H:=qT H
         obtain⟨Xh,H⟩:=qo H
         have Xi:decide (0≤(rd ((y21 Aa Ad).f2) Bj))=true:=decide_eq_true Xh
         clear Xh
         obtain⟨Xj,H⟩:=qo H
         have Xk:decide ((rd ((y21 Aa Ad).f2) Bj) < (Bd.length:Int))=true:=decide_eq_true Xj
         clear Xj
         obtain⟨Le,Ep⟩:∃ y_:List Int,y_=(Bd.set ((rd ((y21 Aa Ad).f2) Bj):Int).toNat (wrap64 ((rd Bd (rd ((y21 Aa Ad).f2) Bj)) + 1))):=⟨_,rfl⟩
         replace H:(z8_.l1 k2 Le Aw Ad (wrap64 (Bj + 1)) Aa Ba Bb Am Ap ((y21 Aa Ad).f0) ((y21 Aa Ad).f1) ((y21 Aa Ad).f2))=some (r1,r2):=by first|(rw [Ep];with_reducible exact H)|(have H2_:=(Option.bind_some _ _).symm.trans H;rw [Ep];with_reducible exact H2_)|(have H2_:=(Option.bind_some _ _).symm.trans H;with_reducible exact H2_)|with_reducible exact H|(rw [Ep];exact H)|exact H
         have Og:=y0.mk Ep
         clear Ep
         have H':=y0.mk H
         clear H
         have Xl:=Av.out
         have Xm:=As.out
         obtain⟨Ft,Fu,Fv,Fx,Fy,Fz⟩:=qz3 Ai.out
         have Fh:0≤(Bj:Int):=of_decide_eq_true qy0
         have Fi:Bj < (((y21 Aa Ad).f2).length:Int):=of_decide_eq_true qy0
         obtain⟨Gs,Lf,Bt⟩:=Kd.at_int Cf.out Bj Fh Fi
         cases Lf
         replace Bt:=(HB.out.cell (World.block_lt_of_cell? w _ Bt)).trans Bt
         replace Fh:=eq_true Fh
         replace Fi:=eq_true Fi
         go_wp2_with (first|((with_reducible refine y16 (f:=23) rfl ?_);refine y18 (some 55) rfl rfl Try.func23 (by kernel_rfl) rfl #[.int .i64 (rd ((y21 Aa Ad).f2) Bj),.int .i64 0,.int .i64 (wrap64 (Ad - 1))] rfl qy1 ?_;(with_reducible refine(spec_l01Between.calls (rd ((y21 Aa Ad).f2) Bj) 0 (wrap64 (Ad - 1)) true _ Xg.out).mono ?_);rintro e w' ⟨rfl,⟨nd,rfl⟩⟩;refine⟨_,rfl, ?_⟩;(try(rw [drewN_self wr];have e1_:∀(n_:Nat) (a_:Addr),World.cell? wr a_=World.cell? (World.drewN wr n_) a_:=fun _ _=>rfl;have e2_:∀(n_:Nat) (a_:Addr),World.frozen? wr a_=World.frozen? (World.drewN wr n_) a_:=fun _ _=>rfl;generalize hq_:World.drewN wr _=wr;have e3_:=(fun a_=>(e1_ _ a_).trans (congrArg (fun w_=>World.cell? w_ a_) hq_));have e4_:=(fun a_=>(e2_ _ a_).trans (congrArg (fun w_=>World.frozen? w_ a_) hq_));clear e1_ e2_;(try replace Bt:=(e3_ _).symm.trans Bt);(try replace Ft:=(e3_ _).symm.trans Ft);(try replace Fx:=(e4_ _).symm.trans Fx);(try replace Fu:=(e3_ _).symm.trans Fu);(try replace Fy:=(e4_ _).symm.trans Fy);(try replace Fv:=(e3_ _).symm.trans Fv);(try replace Fz:=(e4_ _).symm.trans Fz);skip;clear e3_ e4_;have n0_:y0 (Kd.V (Kd.int .i64) 3 wr w.heap.size (fun k_=>((P0_3_ k_∨P0_4_ k_)∨w.heap.size≤k_)∧some k_≠(Bc:Value).ownBlock∧some k_≠(Au:Value).ownBlock∧k_≠Ag∧k_≠Ar) (.slice Bg Am.length Bh) Am):=⟨by rw [← hq_];exact(qV Ab.out)⟩;have n1_:y0 (Kd.V k33 33 wr w.heap.size (fun k_=>((P0_3_ k_∨P0_4_ k_)∨w.heap.size≤k_)∧some k_≠(Bc:Value).ownBlock∧some k_≠(Au:Value).ownBlock∧k_≠Ag∧k_≠Ar) (.slice Bk Ap.length Bl) Ap):=⟨by rw [← hq_];exact(qV Ac.out)⟩;have n2_:y0 (Kd.R (Kd.int .i64) 3 wr w.heap.size (fun k_=>(w.heap.size≤k_)) Bc Bd):=⟨by rw [← hq_];exact(qR Ak.out)⟩;have n3_:y0 (Kd.R Kd.string 9 wr w.heap.size (fun k_=>(w.heap.size≤k_)) Au Aw):=⟨by rw [← hq_];exact(qR Aj.out)⟩;have n4_:y0 (wr.heap[Ag]?=some (.cells #[.slice (some Cs) Aa.length Cc,.int .i64 Ba,.string Bb,.slice Bg Am.length Bh,.slice Bk Ap.length Bl] 36 (0,0))):=⟨by rw [← hq_];exact(qk Af.out)⟩;have n5_:y0 (wr.heap[Ar]?=some (.cells #[.int .i64 ((y21 Aa Ad).f0),.string ((y21 Aa Ad).f1),.slice (some Gs) ((y21 Aa Ad).f2).length Br] 63 (0,0))):=⟨by rw [← hq_];exact(qk Ai.out)⟩;have n6_:y0 (Below w.heap.size w wr):=⟨by rw [← hq_];exact qb⟩;clear Ab Ac Ak Aj Af Ai HB hq_;have Ab:=n0_;have Ac:=n1_;have Ak:=n2_;have Aj:=n3_;have Af:=n4_;have Ai:=n5_;have HB:=n6_;clear n0_ n1_ n2_ n3_ n4_ n5_ n6_));have Lg:0≤(Bj:Int):=of_decide_eq_true qy0;have Lh:Bj < (((y21 Aa Ad).f2).length:Int):=of_decide_eq_true qy0;obtain⟨Oh,Uz,Dy⟩:=Kd.at_int Cf.out Bj Lg Lh;obtain rfl:Gs=Oh:=(by injection Uz);replace Dy:=(HB.out.cell (World.block_lt_of_cell? w _ Dy)).trans Dy;replace Lg:=eq_true Lg;replace Lh:=eq_true Lh;obtain⟨bJ,Gi,Va⟩:=Kd.R_slice Ak.out;subst Va;have Li:0≤((rd ((y21 Aa Ad).f2) Bj):Int):=of_decide_eq_true qy0;have Lj:(rd ((y21 Aa Ad).f2) Bj) < (Bd.length:Int):=of_decide_eq_true qy0;obtain⟨Xn,Vb,Jl⟩:=Kd.at_int (Kd.R_reads' Ak.out).2.2 (rd ((y21 Aa Ad).f2) Bj) Li Lj;cases Vb;replace Li:=eq_true Li;replace Lj:=eq_true Lj;have Vc:0≤((rd ((y21 Aa Ad).f2) Bj):Int):=of_decide_eq_true qy0;have Vd:((rd ((y21 Aa Ad).f2) Bj):Int) < ((Bd.length:Int):Int):=of_decide_eq_true qy0;obtain⟨Eq,bK,Oi,Oj,Ve,bL,Ok⟩:=Kd.R_form Ak.out (by omega);(first|cases Oi|(injection Oi with ea_ en_ ec_;(first|subst ea_|(injection ea_ with ea_;subst ea_));subst ec_;clear en_));have Vf:=y0.mk Oj;have bM:=y0.mk Ok;clear Oj Ve Ok;(first|simp only [add_plain]at Jl|skip);obtain⟨Vg,Vh⟩:=Kd.R_celln 0 Ak.out ((rd ((y21 Aa Ad).f2) Bj):Int) Vc Vd;replace Vc:=eq_true Vc;replace Vd:=eq_true Vd;obtain⟨hy33_,hz33_⟩:=Kd.R_celln 0 Ak.out ((rd ((y21 Aa Ad).f2) Bj):Int) (of_decide_eq_true qy0) (of_decide_eq_true qy0);have Lk:=Kd.R_putg Ak.out ((rd ((y21 Aa Ad).f2) Bj):Int) (wrap64 ((rd Bd (rd ((y21 Aa Ad).f2) Bj)) + 1)))|((with_reducible refine gate_store (t:=3) (p:=67) rfl ?_);refine store_event (t:=3) (p:=67) (v:=?vo_w34) (w1:=(wr.setCell ⟨Eq,((rd ((y21 Aa Ad).f2) Bj):Int).toNat,none⟩ (.int .i64 (wrap64 ((rd Bd (rd ((y21 Aa Ad).f2) Bj)) + 1))))) ?hg ?ho ?hn ?hr ?_;(case ho=>rfl);(case hg=>rfl);(case hn=>rfl);(case hr=>first|(go_simp;done)|(go_simp;rfl));intro Vi hw;have hg:wr.grownBy Vi (some Eq):=(by rw [hw];exact Lk.2);have hp_:Kd.R (Kd.int .i64) 3 Vi w.heap.size (fun k_=>(w.heap.size≤k_)) (.slice (some ⟨Eq,0,none⟩) Bd.length Gi) Le:=(by rw [hw,Og.out];exact Lk.1);clear Lk;replace Aj:=y0.mk (Kd.R_over' (v:=(.slice (some ⟨Eq,0,none⟩) Bd.length Gi)) (qR Aj.out) (Kd.R_typed Ak.out) (by decide) hg);replace Ab:=y0.mk (Kd.V_afterv (v:=(.slice (some ⟨Eq,0,none⟩) Bd.length Gi)) (v1:=(.slice (some ⟨Eq,0,none⟩) Bd.length Gi)) (ok:=(fun k_=>((P0_3_ k_∨P0_4_ k_)∨w.heap.size≤k_)∧some k_≠(Au:Value).ownBlock∧k_≠Ag∧k_≠Ar)) (qV (Kd.V_mono Ab.out (fun _ hk=>⟨⟨hk.1,⟨hk.2.2.1,⟨hk.2.2.2.1,hk.2.2.2.2⟩⟩⟩,hk.2.1⟩))) hg (.inl rfl));replace Ac:=y0.mk (Kd.V_afterv (v:=(.slice (some ⟨Eq,0,none⟩) Bd.length Gi)) (v1:=(.slice (some ⟨Eq,0,none⟩) Bd.length Gi)) (ok:=(fun k_=>((P0_3_ k_∨P0_4_ k_)∨w.heap.size≤k_)∧some k_≠(Au:Value).ownBlock∧k_≠Ag∧k_≠Ar)) (qV (Kd.V_mono Ac.out (fun _ hk=>⟨⟨hk.1,⟨hk.2.2.1,⟨hk.2.2.2.1,hk.2.2.2.2⟩⟩⟩,hk.2.1⟩))) hg (.inl rfl));replace Af:=y0.mk (blk_grown (qk Af.out) hg (Kd.R_ne Ak.out Af.out (by decide)));replace Ai:=y0.mk (blk_grown (qk Ai.out) hg (Kd.R_ne Ak.out Ai.out (by decide)));replace Ak:=y0.mk (hp_);replace HB:=y0.mk ((by rw [hw];exact y3 (HB.out) Vf.out:Below w.heap.size w Vi));clear hg hw hp_))
         go_roundg k2
         case measure=>have:=Da.out;have:=Cz.out;omega
         exact⟨(Le),(wrap64 (Bj + 1)),qy2,H',⟨by have:=Da.out;have:=Cz.out;omega⟩,⟨qR Ak.out⟩,⟨qR Aj.out⟩,⟨qV (Kd.V_mono Ab.out (fun _ hk=>⟨hk.1.1,⟨hk.2,⟨hk.1.2.1,⟨hk.1.2.2.1,hk.1.2.2.2⟩⟩⟩⟩))⟩,⟨qV (Kd.V_mono Ac.out (fun _ hk=>⟨hk.1.1,⟨hk.2,⟨hk.1.2.1,⟨hk.1.2.2.1,hk.1.2.2.2⟩⟩⟩⟩))⟩,⟨qk Af.out⟩,⟨qk Ai.out⟩,⟨qb⟩⟩
        ·replace Rl:=Bool.eq_false_iff.mpr Rl
         subst Rl
         replace H:=qF H
         simp only [Option.some.injEq,Prod.mk.injEq]at H
         obtain⟨rfl,rfl⟩:=H
         have Xo:=Av.out
         have Xp:=As.out
         obtain⟨Rn,Ro,Rp,Rq,Rs,Rt⟩:=qz3 Ai.out
         have Fh:0≤(Bj:Int):=of_decide_eq_true qy0
         have Fi:Bj < (((y21 Aa Ad).f2).length:Int):=of_decide_eq_true qy0
         obtain⟨Gs,Lf,Bt⟩:=Kd.at_int Cf.out Bj Fh Fi
         cases Lf
         replace Bt:=(HB.out.cell (World.block_lt_of_cell? w _ Bt)).trans Bt
         replace Fh:=eq_true Fh
         replace Fi:=eq_true Fi
         go_wp2_with (first|((with_reducible refine y16 (f:=23) rfl ?_);refine y18 (some 55) rfl rfl Try.func23 (by kernel_rfl) rfl #[.int .i64 (rd ((y21 Aa Ad).f2) Bj),.int .i64 0,.int .i64 (wrap64 (Ad - 1))] rfl qy1 ?_;(with_reducible refine(spec_l01Between.calls (rd ((y21 Aa Ad).f2) Bj) 0 (wrap64 (Ad - 1)) false _ Xg.out).mono ?_);rintro e w' ⟨rfl,⟨nd,rfl⟩⟩;refine⟨_,rfl, ?_⟩))
         go_ret2
         exact⟨_,by first|rfl|(simp [y13,y14] <;> rfl)|(simp [*,y13,y14] <;> rfl),by(with_reducible repeat(first|apply Kd.R_alloc|apply Kd.R_drewN|apply Kd.R_drew));exact Aj.out,qb⟩
       ·as_aux_lemma =>
        rw [if_neg Ns]at H
        have Kq:=decide_eq_false Ns
        clear Ns
        have Ll:=y0.mk H
        clear H
        have Xq:=Av.out
        have Xr:=As.out
        obtain⟨Jm,Jn,Jo,Jp,Jq,Jr⟩:=qz3 Ai.out
        go_upto_block 4 with(fail)
        go_cut [9] (fun v9 wc=>∃(kq:Nat) (Ct:ByteArray),v9=.string Ct∧y0 (z8_.j5 kq Bd Aw Ad Ct Aa Ba Bb Am Ap ((y21 Aa Ad).f0) ((y21 Aa Ad).f1) ((y21 Aa Ad).f2)=some (r1,r2))∧y0 (kq≤k2)∧y0 (Kd.R (Kd.int .i64) 3 wc w.heap.size (fun k_=>(w.heap.size≤k_)) Bc Bd)∧y0 (Kd.R Kd.string 9 wc w.heap.size (fun k_=>(w.heap.size≤k_)) Au Aw)∧y0 (Kd.V (Kd.int .i64) 3 wc w.heap.size (fun k_=>((P0_3_ k_∨P0_4_ k_)∨w.heap.size≤k_)∧some k_≠(Bc:Value).ownBlock∧some k_≠(Au:Value).ownBlock∧k_≠Ag∧k_≠Ar) (.slice Bg Am.length Bh) Am)∧y0 (Kd.V k33 33 wc w.heap.size (fun k_=>((P0_3_ k_∨P0_4_ k_)∨w.heap.size≤k_)∧some k_≠(Bc:Value).ownBlock∧some k_≠(Au:Value).ownBlock∧k_≠Ag∧k_≠Ar) (.slice Bk Ap.length Bl) Ap)∧y0 (wc.heap[Ag]?=some (.cells #[(.slice (some Cs) Aa.length Cc),.int .i64 Ba,.string Bb,(.slice Bg Am.length Bh),(.slice Bk Ap.length Bl)] 36 (0,0)))∧y0 (wc.heap[Ar]?=some (.cells #[.int .i64 ((y21 Aa Ad).f0),.string ((y21 Aa Ad).f1),(.slice Cd ((y21 Aa Ad).f2).length Br)] 63 (0,0)))∧y0 (Below w.heap.size w wc))
        case first =>
         have H:=Ll.out
         clear Ll
         have Lm:=y0.mk H
         clear H
         go_upto_if 71 with(fail)
         go_cut [71] (fun bN wc=>∃(kq:Nat) (Dz:Bool),bN=.bool Dz∧y0 (z8_.j2 kq Bd Aw Ad ((y21 Aa Ad).f0) Dz Aa Ba Bb Am Ap ((y21 Aa Ad).f0) ((y21 Aa Ad).f1) ((y21 Aa Ad).f2)=some (r1,r2))∧y0 (kq≤k2)∧y0 (Kd.R (Kd.int .i64) 3 wc w.heap.size (fun k_=>(w.heap.size≤k_)) Bc Bd)∧y0 (Kd.R Kd.string 9 wc w.heap.size (fun k_=>(w.heap.size≤k_)) Au Aw)∧y0 (Kd.V (Kd.int .i64) 3 wc w.heap.size (fun k_=>((P0_3_ k_∨P0_4_ k_)∨w.heap.size≤k_)∧some k_≠(Bc:Value).ownBlock∧some k_≠(Au:Value).ownBlock∧k_≠Ag∧k_≠Ar) (.slice Bg Am.length Bh) Am)∧y0 (Kd.V k33 33 wc w.heap.size (fun k_=>((P0_3_ k_∨P0_4_ k_)∨w.heap.size≤k_)∧some k_≠(Bc:Value).ownBlock∧some k_≠(Au:Value).ownBlock∧k_≠Ag∧k_≠Ar) (.slice Bk Ap.length Bl) Ap)∧y0 (wc.heap[Ag]?=some (.cells #[(.slice (some Cs) Aa.length Cc),.int .i64 Ba,.string Bb,(.slice Bg Am.length Bh),(.slice Bk Ap.length Bl)] 36 (0,0)))∧y0 (wc.heap[Ar]?=some (.cells #[.int .i64 ((y21 Aa Ad).f0),.string ((y21 Aa Ad).f1),(.slice Cd ((y21 Aa Ad).f2).length Br)] 63 (0,0)))∧y0 (Below w.heap.size w wc))
         case first =>
          have H:=Lm.out
          clear Lm
          by_cases Ln:((y21 Aa Ad).f0)=1
          ·as_aux_lemma =>
           rw [if_pos Ln]at H
           have Er:(((y21 Aa Ad).f0) == 1)=true:=beq_iff_eq.mpr Ln
           have Ol:(((y21 Aa Ad).f0) != 1)=false:=bne_eq_false_iff_eq.mpr Ln
           clear Ln
           (first|rw [Er]|(simp only [i64_w,i32_w];rw [Er])|skip)
           have H':=y0.mk H
           clear H
           go_wp2
           go_meet
           exact⟨_,((((y21 Aa Ad).f0) == 1)),qy2,H',⟨by have:=Da.out;have:=Cz.out;first|omega|exact Nat.le_refl _⟩,⟨qR Ak.out⟩,⟨qR Aj.out⟩,⟨qV Ab.out⟩,⟨qV Ac.out⟩,⟨qk Af.out⟩,⟨qk Ai.out⟩,⟨qb⟩⟩
          ·as_aux_lemma =>
           rw [if_neg Ln]at H
           have Er:(((y21 Aa Ad).f0) == 1)=false:=beq_eq_false_iff_ne.mpr Ln
           have Ol:(((y21 Aa Ad).f0) != 1)=true:=bne_iff_ne.mpr Ln
           (first|rw [Er]|(simp only [i64_w,i32_w];rw [Er])|skip)
           have H':=y0.mk H
           clear H
           go_wp2
           go_meet
           exact⟨_,((((y21 Aa Ad).f0) == 3)),qy2,H',⟨by have:=Da.out;have:=Cz.out;first|omega|exact Nat.le_refl _⟩,⟨qR Ak.out⟩,⟨qR Aj.out⟩,⟨qV Ab.out⟩,⟨qV Ac.out⟩,⟨qk Af.out⟩,⟨qk Ai.out⟩,⟨qb⟩⟩
         case rest =>
          clear Lm
          (try clear Kq Jm Jn Jo Jp Jq Jr)
          obtain⟨kq,Dz,rfl,HA,Dd,Ak,Aj,Ab,Ac,Af,Ai,HB⟩:=hcut
          cases kq with
          | zero=>exact absurd HA.out (by simp [z8_.j2])
          | succ Lo =>
           have H:=HA.out
           clear HA
           simp only [z8_.j2]at H
           by_cases Om:Dz=true
           ·subst Om
            replace H:=qT H
            have H':=y0.mk H
            clear H
            have Xs:=Av.out
            have Xt:=As.out
            obtain⟨Ru,Rv,Rw,Rx,Ry,Rz⟩:=qz3 Ai.out
            go_wp2
            go_meet
            exact⟨_,(((y21 Aa Ad).f1)),qy2,H',⟨by have:=Da.out;have:=Cz.out;have:=Dd.out;first|omega|exact Nat.le_refl _⟩,⟨qR Ak.out⟩,⟨qR Aj.out⟩,⟨qV Ab.out⟩,⟨qV Ac.out⟩,⟨qk Af.out⟩,⟨qk Ai.out⟩,⟨qb⟩⟩
           ·replace Om:=Bool.eq_false_iff.mpr Om
            subst Om
            replace H:=qF H
            by_cases Lp:((y21 Aa Ad).f0)=2
            ·as_aux_lemma =>
             rw [if_pos Lp]at H
             have Kr:(((y21 Aa Ad).f0) == 2)=true:=beq_iff_eq.mpr Lp
             have Ks:(((y21 Aa Ad).f0) != 2)=false:=bne_eq_false_iff_eq.mpr Lp
             clear Lp
             have H':=y0.mk H
             clear H
             go_wp2
             go_meet
             exact⟨_,((⟨#[95]⟩:ByteArray)),qy2,H',⟨by have:=Da.out;have:=Cz.out;have:=Dd.out;first|omega|exact Nat.le_refl _⟩,⟨qR Ak.out⟩,⟨qR Aj.out⟩,⟨qV Ab.out⟩,⟨qV Ac.out⟩,⟨qk Af.out⟩,⟨qk Ai.out⟩,⟨qb⟩⟩
            ·as_aux_lemma =>
             rw [if_neg Lp]at H
             have Kr:(((y21 Aa Ad).f0) == 2)=false:=beq_eq_false_iff_ne.mpr Lp
             have Ks:(((y21 Aa Ad).f0) != 2)=true:=bne_iff_ne.mpr Lp
             by_cases Lq:((y21 Aa Ad).f0)=4
             ·as_aux_lemma =>
              rw [if_pos Lq]at H
              have Gt:(((y21 Aa Ad).f0) == 4)=true:=beq_iff_eq.mpr Lq
              have Gu:(((y21 Aa Ad).f0) != 4)=false:=bne_eq_false_iff_eq.mpr Lq
              clear Lq
              have H':=y0.mk H
              clear H
              have Xu:=Av.out
              have Xv:=As.out
              obtain⟨Js,Jt,Ju,Jv,Jw,Jx⟩:=qz3 Ai.out
              go_wp2
              go_loopg [9,10] Lo (fun kq v9 bO w'=>∃(Ea:ByteArray) (Az:Int),v9=.string Ea∧bO=.int .i64 Az∧y0 (z8_.l2 kq Bd Aw Ad Ea Az Aa Ba Bb Am Ap ((y21 Aa Ad).f0) ((y21 Aa Ad).f1) ((y21 Aa Ad).f2)=some (r1,r2))∧y0 (kq≤Lo)∧y0 (Kd.R (Kd.int .i64) 3 w' w.heap.size (fun k_=>(w.heap.size≤k_)) Bc Bd)∧y0 (Kd.R Kd.string 9 w' w.heap.size (fun k_=>(w.heap.size≤k_)) Au Aw)∧y0 (Kd.V (Kd.int .i64) 3 w' w.heap.size (fun k_=>((P0_3_ k_∨P0_4_ k_)∨w.heap.size≤k_)∧some k_≠(Bc:Value).ownBlock∧some k_≠(Au:Value).ownBlock∧k_≠Ag∧k_≠Ar) (.slice Bg Am.length Bh) Am)∧y0 (Kd.V k33 33 w' w.heap.size (fun k_=>((P0_3_ k_∨P0_4_ k_)∨w.heap.size≤k_)∧some k_≠(Bc:Value).ownBlock∧some k_≠(Au:Value).ownBlock∧k_≠Ag∧k_≠Ar) (.slice Bk Ap.length Bl) Ap)∧y0 (w'.heap[Ag]?=some (.cells #[(.slice (some Cs) Aa.length Cc),.int .i64 Ba,.string Bb,(.slice Bg Am.length Bh),(.slice Bk Ap.length Bl)] 36 (0,0)))∧y0 (w'.heap[Ar]?=some (.cells #[.int .i64 ((y21 Aa Ad).f0),.string ((y21 Aa Ad).f1),(.slice Cd ((y21 Aa Ad).f2).length Br)] 63 (0,0)))∧y0 (Below w.heap.size w w'))
              case atStart=>exact⟨(((y21 Aa Ad).f1)),(0),qy2,qy2,H',⟨Nat.le_refl _⟩,⟨qR Ak.out⟩,⟨qR Aj.out⟩,⟨qV Ab.out⟩,⟨qV Ac.out⟩,⟨qk Af.out⟩,⟨qk Ai.out⟩,⟨qb⟩⟩
              case round =>
               clear H'
               (try clear Om Kr Ks Gt Gu Js Jt Ju Jv Jw Jx)
               obtain⟨Ea,Az,rfl,rfl,HA,Nt,Ak,Aj,Ab,Ac,Af,Ai,HB⟩:=hrel
               cases gk with
               | zero=>exact absurd HA.out (by simp [z8_.l2])
               | succ k4 =>
                have H:=HA.out
                clear HA
                simp only [z8_.l2]at H
                by_cases Nu:Az < (((y21 Aa Ad).f2).length:Int)
                ·as_aux_lemma =>
                 rw [if_pos Nu]at H
                 have On:=decide_eq_true Nu
                 clear Nu
                 by_cases Lr:Az=0
                 ·as_aux_lemma =>
                  rw [if_pos Lr]at H
                  have Oo:(Az == 0)=true:=beq_iff_eq.mpr Lr
                  have Oq:(Az != 0)=false:=bne_eq_false_iff_eq.mpr Lr
                  clear Lr
                  obtain⟨Vj,H⟩:=qo H
                  have Xw:=eq_true Vj
                  have Xx:=decide_eq_true Vj
                  have Xy:=eq_false (Nat.not_lt.2 Vj)
                  obtain⟨Xz,H⟩:=qo H
                  have Ya:decide (0≤Az)=true:=decide_eq_true Xz
                  clear Xz
                  obtain⟨Yb,H⟩:=qo H
                  have Yc:decide (0≤(rd ((y21 Aa Ad).f2) Az))=true:=decide_eq_true Yb
                  clear Yb
                  obtain⟨Yd,H⟩:=qo H
                  have Ye:decide ((rd ((y21 Aa Ad).f2) Az) < (Aw.length:Int))=true:=decide_eq_true Yd
                  clear Yd
                  obtain⟨Vk,H⟩:=qo H
                  have Yf:=eq_true Vk
                  have Yg:=decide_eq_true Vk
                  have Ot:=eq_false (Nat.not_lt.2 Vk)
                  have Yh:(9223372036854775807 < Ea.size + 1 + (rdOf ByteArray.empty Aw (rd ((y21 Aa Ad).f2) Az)).size)=False:=qs Ot
                  have H':=y0.mk H
                  clear H
                  have Yi:=Av.out
                  have Yj:=As.out
                  obtain⟨Sa,Sb,Sc,Sd,Se,Sf⟩:=qz3 Ai.out
                  have Ls:0≤(Az:Int):=of_decide_eq_true qy0
                  have Lt:Az < (((y21 Aa Ad).f2).length:Int):=of_decide_eq_true qy0
                  obtain⟨Yk,Vl,Eb⟩:=Kd.at_int Cf.out Az Ls Lt
                  cases Vl
                  replace Eb:=(HB.out.cell (World.block_lt_of_cell? w _ Eb)).trans Eb
                  replace Ls:=eq_true Ls
                  replace Lt:=eq_true Lt
                  obtain⟨bP,bQ,Vm⟩:=Kd.R_slice Aj.out
                  subst Vm
                  have Lu:0≤((rd ((y21 Aa Ad).f2) Az):Int):=of_decide_eq_true qy0
                  have Lv:(rd ((y21 Aa Ad).f2) Az) < (Aw.length:Int):=of_decide_eq_true qy0
                  obtain⟨Yl,Vn,Sg⟩:=Kd.at_string (Kd.R_reads' Aj.out).2.2 (rd ((y21 Aa Ad).f2) Az) Lu Lv
                  cases Vn
                  replace Lu:=eq_true Lu
                  replace Lv:=eq_true Lv
                  go_wp2
                  go_roundg k4
                  case measure=>have:=Da.out;have:=Cz.out;have:=Dd.out;have:=Nt.out;omega
                  exact⟨((Ea ++ (⟨#[40]⟩:ByteArray)) ++ (rdOf ByteArray.empty Aw (rd ((y21 Aa Ad).f2) Az))),(wrap64 (Az + 1)),qy2,qy2,H',⟨by have:=Da.out;have:=Cz.out;have:=Dd.out;have:=Nt.out;omega⟩,⟨qR Ak.out⟩,⟨qR Aj.out⟩,⟨qV Ab.out⟩,⟨qV Ac.out⟩,⟨qk Af.out⟩,⟨qk Ai.out⟩,⟨qb⟩⟩
                 ·as_aux_lemma =>
                  rw [if_neg Lr]at H
                  have Oo:(Az == 0)=false:=beq_eq_false_iff_ne.mpr Lr
                  have Oq:(Az != 0)=true:=bne_iff_ne.mpr Lr
                  obtain⟨Vo,H⟩:=qo H
                  have Ym:=eq_true Vo
                  have Yn:=decide_eq_true Vo
                  have Yo:=eq_false (Nat.not_lt.2 Vo)
                  obtain⟨Yp,H⟩:=qo H
                  have Yq:decide (0≤Az)=true:=decide_eq_true Yp
                  clear Yp
                  obtain⟨Yr,H⟩:=qo H
                  have Ys:decide (0≤(rd ((y21 Aa Ad).f2) Az))=true:=decide_eq_true Yr
                  clear Yr
                  obtain⟨Yt,H⟩:=qo H
                  have Yu:decide ((rd ((y21 Aa Ad).f2) Az) < (Aw.length:Int))=true:=decide_eq_true Yt
                  clear Yt
                  obtain⟨Vp,H⟩:=qo H
                  have Yv:=eq_true Vp
                  have Yw:=decide_eq_true Vp
                  have Ou:=eq_false (Nat.not_lt.2 Vp)
                  have Yx:(9223372036854775807 < Ea.size + 2 + (rdOf ByteArray.empty Aw (rd ((y21 Aa Ad).f2) Az)).size)=False:=qs Ou
                  have H':=y0.mk H
                  clear H
                  have Yy:=Av.out
                  have Yz:=As.out
                  obtain⟨Sh,Si,Sj,Sk,Sl,Sm⟩:=qz3 Ai.out
                  have Lw:0≤(Az:Int):=of_decide_eq_true qy0
                  have Lx:Az < (((y21 Aa Ad).f2).length:Int):=of_decide_eq_true qy0
                  obtain⟨Za,Vq,Ec⟩:=Kd.at_int Cf.out Az Lw Lx
                  cases Vq
                  replace Ec:=(HB.out.cell (World.block_lt_of_cell? w _ Ec)).trans Ec
                  replace Lw:=eq_true Lw
                  replace Lx:=eq_true Lx
                  obtain⟨bR,bS,Vr⟩:=Kd.R_slice Aj.out
                  subst Vr
                  have Ly:0≤((rd ((y21 Aa Ad).f2) Az):Int):=of_decide_eq_true qy0
                  have Lz:(rd ((y21 Aa Ad).f2) Az) < (Aw.length:Int):=of_decide_eq_true qy0
                  obtain⟨Zb,Vs,Sn⟩:=Kd.at_string (Kd.R_reads' Aj.out).2.2 (rd ((y21 Aa Ad).f2) Az) Ly Lz
                  cases Vs
                  replace Ly:=eq_true Ly
                  replace Lz:=eq_true Lz
                  go_wp2
                  go_roundg k4
                  case measure=>have:=Da.out;have:=Cz.out;have:=Dd.out;have:=Nt.out;omega
                  exact⟨((Ea ++ (⟨#[44,32]⟩:ByteArray)) ++ (rdOf ByteArray.empty Aw (rd ((y21 Aa Ad).f2) Az))),(wrap64 (Az + 1)),qy2,qy2,H',⟨by have:=Da.out;have:=Cz.out;have:=Dd.out;have:=Nt.out;omega⟩,⟨qR Ak.out⟩,⟨qR Aj.out⟩,⟨qV Ab.out⟩,⟨qV Ac.out⟩,⟨qk Af.out⟩,⟨qk Ai.out⟩,⟨qb⟩⟩
                ·as_aux_lemma =>
                 rw [if_neg Nu]at H
                 have On:=decide_eq_false Nu
                 clear Nu
                 by_cases Nv:(((y21 Aa Ad).f2).length:Int) > 0
                 ·as_aux_lemma =>
                  rw [if_pos Nv]at H
                  have Ov:decide (0 < (((y21 Aa Ad).f2).length:Int))=true:=decide_eq_true Nv
                  have Ow:decide (0 < ((y21 Aa Ad).f2).length)=true:=decide_eq_true (by omega)
                  clear Nv
                  obtain⟨Vt,H⟩:=qo H
                  have Zc:=eq_true Vt
                  have Zd:=decide_eq_true Vt
                  have Ze:=eq_false (Nat.not_lt.2 Vt)
                  have H':=y0.mk H
                  clear H
                  have Zf:=Av.out
                  have Zg:=As.out
                  obtain⟨So,Sp,Sq,Sr,Ss,St⟩:=qz3 Ai.out
                  go_wp2
                  go_meet
                  exact⟨_,(Ea ++ (⟨#[41]⟩:ByteArray)),qy2,H',⟨by have:=Da.out;have:=Cz.out;have:=Dd.out;have:=Nt.out;first|omega|exact Nat.le_refl _⟩,⟨qR Ak.out⟩,⟨qR Aj.out⟩,⟨qV Ab.out⟩,⟨qV Ac.out⟩,⟨qk Af.out⟩,⟨qk Ai.out⟩,⟨qb⟩⟩
                 ·as_aux_lemma =>
                  rw [if_neg Nv]at H
                  have Ov:decide (0 < (((y21 Aa Ad).f2).length:Int))=false:=decide_eq_false Nv
                  have Ow:decide (0 < ((y21 Aa Ad).f2).length)=false:=decide_eq_false (by omega)
                  clear Nv
                  have H':=y0.mk H
                  clear H
                  have Zh:=Av.out
                  have Zi:=As.out
                  obtain⟨Su,Sv,Sw,Sx,Sy,Sz⟩:=qz3 Ai.out
                  go_wp2
                  go_meet
                  exact⟨_,(Ea),qy2,H',⟨by have:=Da.out;have:=Cz.out;have:=Dd.out;have:=Nt.out;first|omega|exact Nat.le_refl _⟩,⟨qR Ak.out⟩,⟨qR Aj.out⟩,⟨qV Ab.out⟩,⟨qV Ac.out⟩,⟨qk Af.out⟩,⟨qk Ai.out⟩,⟨qb⟩⟩
             ·as_aux_lemma =>
              rw [if_neg Lq]at H
              have Gt:(((y21 Aa Ad).f0) == 4)=false:=beq_eq_false_iff_ne.mpr Lq
              have Gu:(((y21 Aa Ad).f0) != 4)=true:=bne_iff_ne.mpr Lq
              have Ma:=y0.mk H
              clear H
              go_upto_if 111 with(fail)
              go_cut [111] (fun Vu wc=>∃(kq:Nat) (Di:Bool),Vu=.bool Di∧y0 (z8_.j4 kq Bd Aw Ad Di Aa Ba Bb Am Ap ((y21 Aa Ad).f0) ((y21 Aa Ad).f1) ((y21 Aa Ad).f2)=some (r1,r2))∧y0 (kq≤Lo)∧y0 (Kd.R (Kd.int .i64) 3 wc w.heap.size (fun k_=>(w.heap.size≤k_)) Bc Bd)∧y0 (Kd.R Kd.string 9 wc w.heap.size (fun k_=>(w.heap.size≤k_)) Au Aw)∧y0 (Kd.V (Kd.int .i64) 3 wc w.heap.size (fun k_=>((P0_3_ k_∨P0_4_ k_)∨w.heap.size≤k_)∧some k_≠(Bc:Value).ownBlock∧some k_≠(Au:Value).ownBlock∧k_≠Ag∧k_≠Ar) (.slice Bg Am.length Bh) Am)∧y0 (Kd.V k33 33 wc w.heap.size (fun k_=>((P0_3_ k_∨P0_4_ k_)∨w.heap.size≤k_)∧some k_≠(Bc:Value).ownBlock∧some k_≠(Au:Value).ownBlock∧k_≠Ag∧k_≠Ar) (.slice Bk Ap.length Bl) Ap)∧y0 (wc.heap[Ag]?=some (.cells #[(.slice (some Cs) Aa.length Cc),.int .i64 Ba,.string Bb,(.slice Bg Am.length Bh),(.slice Bk Ap.length Bl)] 36 (0,0)))∧y0 (wc.heap[Ar]?=some (.cells #[.int .i64 ((y21 Aa Ad).f0),.string ((y21 Aa Ad).f1),(.slice Cd ((y21 Aa Ad).f2).length Br)] 63 (0,0)))∧y0 (Below w.heap.size w wc))
              case first =>
               have H:=Ma.out
               clear Ma
               by_cases Mb:((y21 Aa Ad).f0)=5
               ·as_aux_lemma =>
                rw [if_pos Mb]at H
                have Es:(((y21 Aa Ad).f0) == 5)=true:=beq_iff_eq.mpr Mb
                have Ox:(((y21 Aa Ad).f0) != 5)=false:=bne_eq_false_iff_eq.mpr Mb
                clear Mb
                (first|rw [Es]|(simp only [i64_w,i32_w];rw [Es])|skip)
                have H':=y0.mk H
                clear H
                go_wp2
                go_meet
                exact⟨_,((((y21 Aa Ad).f0) == 5)),qy2,H',⟨by have:=Da.out;have:=Cz.out;have:=Dd.out;first|omega|exact Nat.le_refl _⟩,⟨qR Ak.out⟩,⟨qR Aj.out⟩,⟨qV Ab.out⟩,⟨qV Ac.out⟩,⟨qk Af.out⟩,⟨qk Ai.out⟩,⟨qb⟩⟩
               ·as_aux_lemma =>
                rw [if_neg Mb]at H
                have Es:(((y21 Aa Ad).f0) == 5)=false:=beq_eq_false_iff_ne.mpr Mb
                have Ox:(((y21 Aa Ad).f0) != 5)=true:=bne_iff_ne.mpr Mb
                (first|rw [Es]|(simp only [i64_w,i32_w];rw [Es])|skip)
                by_cases Mc:((y21 Aa Ad).f0)=6
                ·as_aux_lemma =>
                 rw [if_pos Mc]at H
                 have Oy:(((y21 Aa Ad).f0) == 6)=true:=beq_iff_eq.mpr Mc
                 have Oz:(((y21 Aa Ad).f0) != 6)=false:=bne_eq_false_iff_eq.mpr Mc
                 clear Mc
                 have H':=y0.mk H
                 clear H
                 go_wp2
                 go_meet
                 exact⟨_,((((y21 Aa Ad).f0) == 6)),qy2,H',⟨by have:=Da.out;have:=Cz.out;have:=Dd.out;first|omega|exact Nat.le_refl _⟩,⟨qR Ak.out⟩,⟨qR Aj.out⟩,⟨qV Ab.out⟩,⟨qV Ac.out⟩,⟨qk Af.out⟩,⟨qk Ai.out⟩,⟨qb⟩⟩
                ·as_aux_lemma =>
                 rw [if_neg Mc]at H
                 have Oy:(((y21 Aa Ad).f0) == 6)=false:=beq_eq_false_iff_ne.mpr Mc
                 have Oz:(((y21 Aa Ad).f0) != 6)=true:=bne_iff_ne.mpr Mc
                 have H':=y0.mk H
                 clear H
                 go_wp2
                 go_meet
                 exact⟨_,((((y21 Aa Ad).f0) == 7)),qy2,H',⟨by have:=Da.out;have:=Cz.out;have:=Dd.out;first|omega|exact Nat.le_refl _⟩,⟨qR Ak.out⟩,⟨qR Aj.out⟩,⟨qV Ab.out⟩,⟨qV Ac.out⟩,⟨qk Af.out⟩,⟨qk Ai.out⟩,⟨qb⟩⟩
              case rest =>
               clear Ma
               (try clear Gt Gu)
               obtain⟨kq,Di,rfl,HA,Vv,Ak,Aj,Ab,Ac,Af,Ai,HB⟩:=hcut
               cases kq with
               | zero=>exact absurd HA.out (by simp [z8_.j4])
               | succ Pa =>
                have H:=HA.out
                clear HA
                simp only [z8_.j4]at H
                by_cases Ta:Di=true
                ·subst Ta
                 replace H:=qT H
                 by_cases Md:(((y21 Aa Ad).f2).length:Int)=2
                 ·as_aux_lemma =>
                  rw [if_pos Md]at H
                  have Pb:((((y21 Aa Ad).f2).length:Int) == 2)=true:=beq_iff_eq.mpr Md
                  have Pc:((((y21 Aa Ad).f2).length:Int) != 2)=false:=bne_eq_false_iff_eq.mpr Md
                  clear Md
                  obtain⟨De,Et⟩:∃ y_:List ByteArray,y_=(([(⟨#[32,43,32]⟩:ByteArray),(⟨#[32,45,32]⟩:ByteArray),(⟨#[32,42,32]⟩:ByteArray)]:List ByteArray)):=⟨_,rfl⟩
                  replace H:(if 0≤(wrap64 (((y21 Aa Ad).f0) - 5))then(if(wrap64 (((y21 Aa Ad).f0) - 5)) < (De.length:Int)then(if 0 < (((y21 Aa Ad).f2).length:Int)then((spec_l04Side.f Aa Ba Bb Am Ap Aw (rd ((y21 Aa Ad).f2) 0)).bind fun Dp=>(if Dp.size + (rdOf ByteArray.empty De (wrap64 (((y21 Aa Ad).f0) - 5))).size≤9223372036854775807 then(if 1 < (((y21 Aa Ad).f2).length:Int)then((spec_l04Side.f Aa Ba Bb Am Ap Aw (rd ((y21 Aa Ad).f2) 1)).bind fun Ed=>(if(Dp ++ (rdOf ByteArray.empty De (wrap64 (((y21 Aa Ad).f0) - 5)))).size + Ed.size≤9223372036854775807 then(z8_.j5 Pa Bd Aw Ad ((Dp ++ (rdOf ByteArray.empty De (wrap64 (((y21 Aa Ad).f0) - 5)))) ++ Ed) Aa Ba Bb Am Ap ((y21 Aa Ad).f0) ((y21 Aa Ad).f1) ((y21 Aa Ad).f2))else(none)))else(none))else(none)))else(none))else(none))else(none))=some (r1,r2):=by first|(rw [Et];with_reducible exact H)|(have H2_:=(Option.bind_some _ _).symm.trans H;rw [Et];with_reducible exact H2_)|(have H2_:=(Option.bind_some _ _).symm.trans H;with_reducible exact H2_)|with_reducible exact H|(rw [Et];exact H)|exact H
                  have Kt:=y0.mk Et
                  clear Et
                  obtain⟨Db,Eu⟩:∃ j_:Int,(wrap64 (((y21 Aa Ad).f0) - 5))=j_:=⟨_,rfl⟩
                  replace H:(if 0≤(Db)then(if(Db) < (De.length:Int)then(if 0 < (((y21 Aa Ad).f2).length:Int)then((spec_l04Side.f Aa Ba Bb Am Ap Aw (rd ((y21 Aa Ad).f2) 0)).bind fun Dp=>(if Dp.size + (rdOf ByteArray.empty De (Db)).size≤9223372036854775807 then(if 1 < (((y21 Aa Ad).f2).length:Int)then((spec_l04Side.f Aa Ba Bb Am Ap Aw (rd ((y21 Aa Ad).f2) 1)).bind fun Ed=>(if(Dp ++ (rdOf ByteArray.empty De (Db))).size + Ed.size≤9223372036854775807 then(z8_.j5 Pa Bd Aw Ad ((Dp ++ (rdOf ByteArray.empty De (Db))) ++ Ed) Aa Ba Bb Am Ap ((y21 Aa Ad).f0) ((y21 Aa Ad).f1) ((y21 Aa Ad).f2))else(none)))else(none))else(none)))else(none))else(none))else(none))=some (r1,r2):=by first|(rw [Eu]at H;exact H)|(simp only [Eu]at H ⊢;exact H)
                  have hji78w:(IntKind.i64.wrap (((y21 Aa Ad).f0) - 5))=Db:=(i64_w _).trans Eu
                  obtain⟨Zj,H⟩:=qo H
                  have Zk:decide (0≤(Db))=true:=decide_eq_true Zj
                  clear Zj
                  obtain⟨Zl,H⟩:=qo H
                  have Zm:decide ((Db) < (De.length:Int))=true:=decide_eq_true Zl
                  clear Zl
                  obtain⟨Zn,H⟩:=qo H
                  have Zo:decide (0 < (((y21 Aa Ad).f2).length:Int))=true:=decide_eq_true Zn
                  have Zp:decide (0 < ((y21 Aa Ad).f2).length)=true:=decide_eq_true (by omega)
                  clear Zn
                  obtain⟨Dp,bT,H⟩:=qB H
                  obtain⟨Vw,H⟩:=qo H
                  have Zq:=eq_true Vw
                  have Zr:=decide_eq_true Vw
                  have Zs:=eq_false (Nat.not_lt.2 Vw)
                  obtain⟨Zt,H⟩:=qo H
                  have Zu:decide (1 < (((y21 Aa Ad).f2).length:Int))=true:=decide_eq_true Zt
                  have Zv:decide (1 < ((y21 Aa Ad).f2).length)=true:=decide_eq_true (by omega)
                  clear Zt
                  obtain⟨Ed,bU,H⟩:=qB H
                  obtain⟨Vx,H⟩:=qo H
                  have Zw:=eq_true Vx
                  have Zx:=decide_eq_true Vx
                  have Pd:=eq_false (Nat.not_lt.2 Vx)
                  have Zy:(9223372036854775807 < Dp.size + (rdOf ByteArray.empty De (Db)).size + Ed.size)=False:=qs Pd
                  have H':=y0.mk H
                  clear H
                  have Zz:=Av.out
                  have aA:=As.out
                  obtain⟨Tc,Td,Te,Tf,Tg,Th⟩:=qz3 Ai.out
                  try go_wp2_with (first|((with_reducible refine y17 (N:=120) rfl ?_);(try(refine gate_guard (by rfl) ?_;dsimp only));refine qL Kd.string 9 120 ([(⟨#[32,43,32]⟩:ByteArray),(⟨#[32,45,32]⟩:ByteArray),(⟨#[32,42,32]⟩:ByteArray)]:List ByteArray) ?_;intro bV bW Ew hb hg_ hnew_;clear hg_ hnew_;(first|rw [← Kt.out]at Ew|(simp only [Int.reduceToNat]at Ew;rw [← Kt.out]at Ew));replace Ak:=y0.mk (Kd.R_below (qR Ak.out) hb);replace Ab:=y0.mk (Kd.V_elder' (qV Ab.out) (Kd.R_base Ew) hb);replace Ac:=y0.mk (Kd.V_elder' (qV Ac.out) (Kd.R_base Ew) hb);have Cu:=y0.mk (Kd.R_lower (Kd.R_new' (Kd.R_newM (M:=fun k_=>(w.heap.size≤k_)) Ew (y4 qb) (fun k_ h_=>h_)) (Kd.R_lt (qR Aj.out))) (y4 qb));replace Aj:=y0.mk (Kd.R_elder' (qR Aj.out) (Kd.R_base Ew) hb);replace Af:=y0.mk (qK Af.out hb);replace Ai:=y0.mk (qK Ai.out hb);replace HB:=y0.mk (y5 qb hb);clear hb Ew;obtain⟨Ti,Tj,Tk,Tl,Tm,Tn⟩:=qz3 Ai.out;obtain⟨bX,bY,Vy⟩:=Kd.R_slice Cu.out;subst Vy;have Me:0≤((Db):Int):=of_decide_eq_true qy0;have Mf:(Db) < (De.length:Int):=of_decide_eq_true qy0;obtain⟨aC,Vz,To⟩:=Kd.at_string (Kd.R_reads' Cu.out).2.2 (Db) Me Mf;cases Vz;replace Me:=eq_true Me;replace Mf:=eq_true Mf))
                  replace Ak:=y0.mk (Kd.R_drew Ak.out)
                  replace Aj:=y0.mk (Kd.R_drew Aj.out)
                  replace Ab:=y0.mk (Kd.V_drew Ab.out)
                  replace Ac:=y0.mk (Kd.V_drew Ac.out)
                  replace Cu:=y0.mk (Kd.R_drew Cu.out)
                  replace Af:=y0.mk (y9 Af.out)
                  replace Ai:=y0.mk (y9 Ai.out)
                  replace HB:=y0.mk (y2 HB.out)
                  have Mg:0≤(0:Int):=(by omega)
                  have Mh:0 < (((y21 Aa Ad).f2).length:Int):=of_decide_eq_true qy0
                  obtain⟨Ex,Wa,Cg⟩:=Kd.at_int Cf.out 0 Mg Mh
                  have Bu:=Cg
                  (try rw [show((0:Int)).toNat=0 from rfl]at Bu)
                  (try rw [show 0 * 1=0 from rfl]at Bu)
                  (try rw [Addr.add_zero']at Bu)
                  cases Wa
                  have aD:(0 < ((y21 Aa Ad).f2).length)=True:=eq_true (by omega)
                  (try rw [show((0:Int)).toNat=0 from rfl]at Cg)
                  (try rw [Addr.add_zero']at Cg)
                  replace Cg:=(HB.out.cell (World.block_lt_of_cell? w _ Cg)).trans Cg
                  replace Mg:=eq_true Mg
                  replace Mh:=eq_true Mh
                  have Mi:0≤(1:Int):=(by omega)
                  have Mj:1 < (((y21 Aa Ad).f2).length:Int):=of_decide_eq_true qy0
                  obtain⟨Pe,Wb,Ch⟩:=Kd.at_int Cf.out 1 Mi Mj
                  have Bv:=Ch
                  (try rw [show((1:Int)).toNat=1 from rfl]at Bv)
                  (try rw [show 1 * 1=1 from rfl]at Bv)
                  (try simp only [Nat.reduceMul,Nat.reduceEqDiff,Go.Addr.add,↓reduceIte]at Bv)
                  obtain rfl:Ex=Pe:=(by injection Wb)
                  (try simp only [show(1:Int).toNat=1 from rfl,Nat.reduceMul,Nat.reduceEqDiff,Go.Addr.add,↓reduceIte]at Ch)
                  have aE:(1 < ((y21 Aa Ad).f2).length)=True:=eq_true (by omega)
                  (try rw [show((1:Int)).toNat=1 from rfl]at Ch)
                  replace Ch:=(HB.out.cell (World.block_lt_of_cell? w _ Ch)).trans Ch
                  replace Mi:=eq_true Mi
                  replace Mj:=eq_true Mj
                  obtain⟨Pf,Pg,Ph⟩:=Kd.R_slice Aj.out
                  (first|subst Ph|(injection Ph with f1_ f2_ f3_;have f4_:=f1_.symm;have f5_:=f3_.symm;clear f1_ f2_ f3_;subst f4_;subst f5_))
                  refine start_ (n:=18) (S:=fun w'=>w'.cell? ⟨Ag,0,none⟩=some (.slice (some Cs) Aa.length Cc)∧w'.cell? ⟨Ag,1,none⟩=some (.int .i64 Ba)∧w'.cell? ⟨Ag,2,none⟩=some (.string Bb)∧w'.cell? ⟨Ag,3,none⟩=some (.slice Bg Am.length Bh)∧w'.cell? ⟨Ag,4,none⟩=some (.slice Bk Ap.length Bl)∧w'.cell? ⟨Ar,0,none⟩=some (.int .i64 ((y21 Aa Ad).f0))∧w'.cell? ⟨Ar,1,none⟩=some (.string ((y21 Aa Ad).f1))∧w'.cell? ⟨Ar,2,none⟩=some (.slice (some Ex) ((y21 Aa Ad).f2).length Br)∧w'.cell? Ex=some (.int .i64 (rd ((y21 Aa Ad).f2) 0))∧w'.cell? ⟨Ex.block,Ex.off + 1,none⟩=some (.int .i64 (rd ((y21 Aa Ad).f2) 1))) (ds:=[]) (fl_ 18 0) (by kernel_rfl) rfl rfl ⟨(y8 Af.out 0).trans rfl,(y8 Af.out 1).trans rfl,(y8 Af.out 2).trans rfl,(y8 Af.out 3).trans rfl,(y8 Af.out 4).trans rfl,(y8 Ai.out 0).trans rfl,(y8 Ai.out 1).trans rfl,(y8 Ai.out 2).trans rfl,((HB.out.cell (World.block_lt_of_cell? w _ Bu)).trans Bu),((HB.out.cell (World.block_lt_of_cell? w _ Bv)).trans Bv)⟩ (fun hHeld=>?_);refine with_tabW z8_.tab40 z8_.bits40 (fun HT_ HW_=>?_)
                  generalize bW.drew=cN at Ak Aj Ab Ac Cu Af Ai HB Cg Ch hHeld ⊢
                  refine qp 1 127 (fl_ 18 2) ?_
                  refine qp 2 128 (fl_ 18 6) ?_
                  refine qp 7 133 (fl_ 18 134) ?_
                  refine qp 10 136 (fl_ 18 1158) ?_
                  refine qp 11 137 (fl_ 18 3206) ?_
                  refine qt 0 126 (fl_ 18 3207) hHeld ?_
                  refine qt 3 129 (fl_ 18 3215) hHeld ?_
                  refine qp 4 130 (fl_ 18 3231) ?_
                  refine qt 5 131 (fl_ 18 3263) hHeld ?_
                  refine qt 9 135 (fl_ 18 3775) hHeld ?_
                  refine qt 12 138 (fl_ 18 7871) hHeld ?_
                  refine qp 13 139 (fl_ 18 16063) ?_
                  refine qt 14 140 (fl_ 18 32447) hHeld ?_
                  refine qO 6 132 (fl_ 18 32511) (fun K hK=>?_)
                  refine goes_ Try.func66 (by kernel_rfl) rfl #[.agg #[.slice (some Cs) Aa.length Cc,.int .i64 Ba,.string Bb,.slice Bg Am.length Bh,.slice Bk Ap.length Bl],.slice Pf Aw.length Pg,.int .i64 (rd ((y21 Aa Ad).f2) 0)] (by rfl) rfl rfl qy1 ?_
                  with_reducible refine(spec_l04Side.calls _ _ Aa Ba Bb _ _ Am _ _ Ap _ _ Aw (rd ((y21 Aa Ad).f2) 0) Dp _ (qc (Kd.C_below Gp.out HB.out)) Km.out (qc ((Kd.V_reads' Ab.out).2.2)) (by exact(Kd.V_reads' Ab.out).2.1) (qc ((Kd.V_reads' Ac.out).2.2)) (by exact(Kd.V_reads' Ac.out).2.1) (qc ((Kd.R_reads' Aj.out).2.2)) (by exact(Kd.R_reads' Aj.out).2.1) bT.out).mono ?_
                  rintro e cO ⟨rfl,hb⟩
                  refine⟨_,rfl, ?_⟩
                  replace Ak:=y0.mk (Kd.R_below (qR Ak.out) hb)
                  replace Aj:=y0.mk (Kd.R_below (qR Aj.out) hb)
                  replace Ab:=y0.mk (Kd.V_below (qV Ab.out) hb)
                  replace Ac:=y0.mk (Kd.V_below (qV Ac.out) hb)
                  replace Cu:=y0.mk (Kd.R_below (qR Cu.out) hb)
                  replace Af:=y0.mk (qK Af.out hb)
                  replace Ai:=y0.mk (qK Ai.out hb)
                  replace HB:=y0.mk (y5 qb hb)
                  (try clear hb)
                  refine hK.out _ _ ⟨(y8 Af.out 0).trans rfl,(y8 Af.out 1).trans rfl,(y8 Af.out 2).trans rfl,(y8 Af.out 3).trans rfl,(y8 Af.out 4).trans rfl,(y8 Ai.out 0).trans rfl,(y8 Ai.out 1).trans rfl,(y8 Ai.out 2).trans rfl,((HB.out.cell (World.block_lt_of_cell? w _ Bu)).trans Bu),((HB.out.cell (World.block_lt_of_cell? w _ Bv)).trans Bv)⟩ (fun hHeld=>?_)
                  clear hK K
                  refine qx 132 ?_
                  refine qp 8 134 (fl_ 18 32767) ?_
                  refine qO 15 141 (fl_ 18 65535) (fun K hK=>?_)
                  refine goes_ Try.func66 (by kernel_rfl) rfl #[.agg #[.slice (some Cs) Aa.length Cc,.int .i64 Ba,.string Bb,.slice Bg Am.length Bh,.slice Bk Ap.length Bl],.slice Pf Aw.length Pg,.int .i64 (rd ((y21 Aa Ad).f2) 1)] (by rfl) rfl rfl qy1 ?_
                  with_reducible refine(spec_l04Side.calls _ _ Aa Ba Bb _ _ Am _ _ Ap _ _ Aw (rd ((y21 Aa Ad).f2) 1) Ed _ (qc (Kd.C_below Gp.out HB.out)) Km.out (qc ((Kd.V_reads' Ab.out).2.2)) (by exact(Kd.V_reads' Ab.out).2.1) (qc ((Kd.V_reads' Ac.out).2.2)) (by exact(Kd.V_reads' Ac.out).2.1) (qc ((Kd.R_reads' Aj.out).2.2)) (by exact(Kd.R_reads' Aj.out).2.1) bU.out).mono ?_
                  rintro e cP ⟨rfl,hb⟩
                  refine⟨_,rfl, ?_⟩
                  replace Ak:=y0.mk (Kd.R_below (qR Ak.out) hb)
                  replace Aj:=y0.mk (Kd.R_below (qR Aj.out) hb)
                  replace Ab:=y0.mk (Kd.V_below (qV Ab.out) hb)
                  replace Ac:=y0.mk (Kd.V_below (qV Ac.out) hb)
                  replace Cu:=y0.mk (Kd.R_below (qR Cu.out) hb)
                  replace Af:=y0.mk (qK Af.out hb)
                  replace Ai:=y0.mk (qK Ai.out hb)
                  replace HB:=y0.mk (y5 qb hb)
                  (try clear hb)
                  refine hK.out _ _ ⟨(y8 Af.out 0).trans rfl,(y8 Af.out 1).trans rfl,(y8 Af.out 2).trans rfl,(y8 Af.out 3).trans rfl,(y8 Af.out 4).trans rfl,(y8 Ai.out 0).trans rfl,(y8 Ai.out 1).trans rfl,(y8 Ai.out 2).trans rfl,((HB.out.cell (World.block_lt_of_cell? w _ Bu)).trans Bu),((HB.out.cell (World.block_lt_of_cell? w _ Bv)).trans Bv)⟩ (fun hHeld=>?_)
                  clear hK K
                  refine qx 141 ?_
                  refine qp 16 142 (fl_ 18 131071) ?_
                  refine qp 17 9 (fl_ 18 262143) ?_
                  refine done_ (done_of HT_.out (by kernel_rfl)) ?_
                  try go_wp2
                  go_meet
                  exact⟨_,((Dp ++ (rdOf ByteArray.empty De (Db))) ++ Ed),(by first|rfl|(simp;done)|(simp only [← Eu] <;> (first|rfl|simp))|(simp [*];done)),(by first|exact H'|(have h_:=H';simp only [← Eu]at h_ ⊢;exact h_)),⟨by have:=Da.out;have:=Cz.out;have:=Dd.out;have:=Vv.out;first|omega|exact Nat.le_refl _⟩,⟨qR Ak.out⟩,⟨qR (Kd.R_mono Aj.out (fun _ hk=>hk.1))⟩,⟨qV (Kd.V_mono Ab.out (fun _ hk=>⟨hk.1.1,⟨hk.1.2.1,⟨hk.1.2.2.1,⟨hk.1.2.2.2.1,hk.1.2.2.2.2⟩⟩⟩⟩))⟩,⟨qV (Kd.V_mono Ac.out (fun _ hk=>⟨hk.1.1,⟨hk.1.2.1,⟨hk.1.2.2.1,⟨hk.1.2.2.2.1,hk.1.2.2.2.2⟩⟩⟩⟩))⟩,⟨qk Af.out⟩,⟨qk Ai.out⟩,⟨qb⟩⟩
                 ·as_aux_lemma =>
                  rw [if_neg Md]at H
                  have Pb:((((y21 Aa Ad).f2).length:Int) == 2)=false:=beq_eq_false_iff_ne.mpr Md
                  have Pc:((((y21 Aa Ad).f2).length:Int) != 2)=true:=bne_iff_ne.mpr Md
                  simp only [Option.some.injEq,Prod.mk.injEq]at H
                  obtain⟨rfl,rfl⟩:=H
                  have aG:=Av.out
                  have aH:=As.out
                  obtain⟨Tp,Tq,Tr,Ts,Tt,Tu⟩:=qz3 Ai.out
                  go_wp2
                  go_ret2
                  exact⟨_,by first|rfl|(simp [y13,y14] <;> rfl)|(simp [*,y13,y14] <;> rfl),by(with_reducible repeat(first|apply Kd.R_alloc|apply Kd.R_drewN|apply Kd.R_drew));exact Aj.out,qb⟩
                ·replace Ta:=Bool.eq_false_iff.mpr Ta
                 subst Ta
                 replace H:=qF H
                 simp only [Option.some.injEq,Prod.mk.injEq]at H
                 obtain⟨rfl,rfl⟩:=H
                 go_wp2
                 go_ret2
                 exact⟨_,by first|rfl|(simp [y13,y14] <;> rfl)|(simp [*,y13,y14] <;> rfl),by(with_reducible repeat(first|apply Kd.R_alloc|apply Kd.R_drewN|apply Kd.R_drew));exact Aj.out,qb⟩
        case rest =>
         clear Ll
         obtain⟨kq,Ct,rfl,HA,Gv,Ak,Aj,Ab,Ac,Af,Ai,HB⟩:=hcut
         cases kq with
         | zero=>exact absurd HA.out (by simp [z8_.j5])
         | succ Wc =>
          have H:=HA.out
          clear HA
          simp only [z8_.j5]at H
          have Ml:=y0.mk H
          clear H
          go_upto_region 41 with(fail)
          go_cut [156] (fun Wd wc=>∃(kq:Nat) (Dj:Bool),Wd=.bool Dj∧y0 (z8_.j6 kq Bd Aw Ad Ct Dj Aa Ba Bb Am Ap=some (r1,r2))∧y0 (kq≤Wc)∧y0 (Kd.R (Kd.int .i64) 3 wc w.heap.size (fun k_=>(w.heap.size≤k_)) Bc Bd)∧y0 (Kd.R Kd.string 9 wc w.heap.size (fun k_=>(w.heap.size≤k_)) Au Aw)∧y0 (Kd.V (Kd.int .i64) 3 wc w.heap.size (fun k_=>((P0_3_ k_∨P0_4_ k_)∨w.heap.size≤k_)∧some k_≠(Bc:Value).ownBlock∧some k_≠(Au:Value).ownBlock∧k_≠Ag∧k_≠Ar) (.slice Bg Am.length Bh) Am)∧y0 (Kd.V k33 33 wc w.heap.size (fun k_=>((P0_3_ k_∨P0_4_ k_)∨w.heap.size≤k_)∧some k_≠(Bc:Value).ownBlock∧some k_≠(Au:Value).ownBlock∧k_≠Ag∧k_≠Ar) (.slice Bk Ap.length Bl) Ap)∧y0 (wc.heap[Ag]?=some (.cells #[(.slice (some Cs) Aa.length Cc),.int .i64 Ba,.string Bb,(.slice Bg Am.length Bh),(.slice Bk Ap.length Bl)] 36 (0,0)))∧y0 (wc.heap[Ar]?=some (.cells #[.int .i64 ((y21 Aa Ad).f0),.string ((y21 Aa Ad).f1),(.slice Cd ((y21 Aa Ad).f2).length Br)] 63 (0,0)))∧y0 (Below w.heap.size w wc))
          case first =>
           have H:=Ml.out
           clear Ml
           by_cases Gj:((y21 Aa Ad).f0)≤3
           ·as_aux_lemma =>
            rw [if_pos Gj]at H
            have Dq:=decide_eq_true Gj
            clear Gj
            (first|rw [Dq]|(simp only [i64_w,i32_w];rw [Dq])|skip)
            by_cases Gk:(((y21 Aa Ad).f2).length:Int) > 0
            ·as_aux_lemma =>
             rw [if_pos Gk]at H
             have Mm:decide (0 < (((y21 Aa Ad).f2).length:Int))=true:=decide_eq_true Gk
             have Mn:decide (0 < ((y21 Aa Ad).f2).length)=true:=decide_eq_true (by omega)
             clear Gk
             have H':=y0.mk H
             clear H
             have We:=Av.out
             have Wf:=As.out
             obtain⟨Pj,Pk,Pm,Pn,Pp,Pq⟩:=qz3 Ai.out
             go_wp2
             go_meet
             exact⟨_,(true),qy2,H',⟨by have:=Da.out;have:=Cz.out;have:=Gv.out;first|omega|exact Nat.le_refl _⟩,⟨qR Ak.out⟩,⟨qR Aj.out⟩,⟨qV Ab.out⟩,⟨qV Ac.out⟩,⟨qk Af.out⟩,⟨qk Ai.out⟩,⟨qb⟩⟩
            ·as_aux_lemma =>
             rw [if_neg Gk]at H
             have Mm:decide (0 < (((y21 Aa Ad).f2).length:Int))=false:=decide_eq_false Gk
             have Mn:decide (0 < ((y21 Aa Ad).f2).length)=false:=decide_eq_false (by omega)
             clear Gk
             have H':=y0.mk H
             clear H
             have Wg:=Av.out
             have Wh:=As.out
             obtain⟨Pr,Ps,Pt,Pu,Pv,Pw⟩:=qz3 Ai.out
             go_wp2
             go_meet
             exact⟨_,(decide ((Ct.size:Int) > 3000)),qy2,H',⟨by have:=Da.out;have:=Cz.out;have:=Gv.out;first|omega|exact Nat.le_refl _⟩,⟨qR Ak.out⟩,⟨qR Aj.out⟩,⟨qV Ab.out⟩,⟨qV Ac.out⟩,⟨qk Af.out⟩,⟨qk Ai.out⟩,⟨qb⟩⟩
           ·as_aux_lemma =>
            rw [if_neg Gj]at H
            have Dq:=decide_eq_false Gj
            clear Gj
            (first|rw [Dq]|(simp only [i64_w,i32_w];rw [Dq])|skip)
            have H':=y0.mk H
            clear H
            have Wj:=Av.out
            have Wk:=As.out
            obtain⟨Px,Py,Pz,Qa,Qb,Qc⟩:=qz3 Ai.out
            go_wp2
            go_meet
            exact⟨_,(decide ((Ct.size:Int) > 3000)),qy2,H',⟨by have:=Da.out;have:=Cz.out;have:=Gv.out;first|omega|exact Nat.le_refl _⟩,⟨qR Ak.out⟩,⟨qR Aj.out⟩,⟨qV Ab.out⟩,⟨qV Ac.out⟩,⟨qk Af.out⟩,⟨qk Ai.out⟩,⟨qb⟩⟩
          case rest =>
           clear Ml
           obtain⟨kq,Dj,rfl,HA,Qd,Ak,Aj,Ab,Ac,Af,Ai,HB⟩:=hcut
           cases kq with
           | zero=>exact absurd HA.out (by simp [z8_.j6])
           | succ Qe =>
            have H:=HA.out
            clear HA
            simp only [z8_.j6]at H
            by_cases Jy:Dj=true
            ·subst Jy
             replace H:=qT H
             simp only [Option.some.injEq,Prod.mk.injEq]at H
             obtain⟨rfl,rfl⟩:=H
             go_wp2
             go_ret2
             exact⟨_,by first|rfl|(simp [y13,y14] <;> rfl)|(simp [*,y13,y14] <;> rfl),by(with_reducible repeat(first|apply Kd.R_alloc|apply Kd.R_drewN|apply Kd.R_drew));exact Aj.out,qb⟩
            ·replace Jy:=Bool.eq_false_iff.mpr Jy
             subst Jy
             replace H:=qF H
             obtain⟨Qf,H⟩:=qo H
             have Wl:decide (0≤Ad)=true:=decide_eq_true Qf
             clear Qf
             obtain⟨Qg,H⟩:=qo H
             have Wm:decide (Ad < (Aw.length:Int))=true:=decide_eq_true Qg
             clear Qg
             obtain⟨Mo,Ey⟩:∃ y_:List ByteArray,y_=(Aw.set (Ad:Int).toNat Ct):=⟨_,rfl⟩
             replace H:(z8_.l0 Qe Bd Mo (wrap64 (Ad + 1)) Aa Ba Bb Am Ap)=some (r1,r2):=by first|(rw [Ey];with_reducible exact H)|(have H2_:=(Option.bind_some _ _).symm.trans H;rw [Ey];with_reducible exact H2_)|(have H2_:=(Option.bind_some _ _).symm.trans H;with_reducible exact H2_)|with_reducible exact H|(rw [Ey];exact H)|exact H
             have Qh:=y0.mk Ey
             clear Ey
             have H':=y0.mk H
             clear H
             have Mp:0≤(Ad:Int):=of_decide_eq_true qy0
             have Mq:(Ad:Int) < ((Aw.length:Int):Int):=of_decide_eq_true qy0
             obtain⟨Dc,Dw,Ku,Kv,Qi,aI,Kw⟩:=Kd.R_form Aj.out (by omega)
             (first|cases Ku|(injection Ku with ea_ en_ ec_;(first|subst ea_|(injection ea_ with ea_;subst ea_));subst ec_;clear en_))
             have Qj:=y0.mk Kv
             have aJ:=y0.mk Kw
             clear Kv Qi Kw
             obtain⟨Tv,Tw⟩:=Kd.R_celln (⟨#[]⟩:ByteArray) Aj.out (Ad:Int) Mp Mq
             replace Mp:=eq_true Mp
             replace Mq:=eq_true Mq
             have Gw:=Kd.R_putg Aj.out (Ad:Int) Ct
             go_wp2_with (first|((with_reducible refine gate_store (t:=9) (p:=161) rfl ?_);refine store_event (t:=9) (p:=161) (v:=?vo_w113) (w1:=(wc.setCell ⟨Dc,(Ad:Int).toNat,none⟩ (.string Ct))) ?hg ?ho ?hn ?hr ?_;(case ho=>rfl);(case hg=>rfl);(case hn=>rfl);(case hr=>first|(go_simp;done)|(go_simp;rfl));intro Mr hw;have hg:wc.grownBy Mr (some Dc):=(by rw [hw];exact Gw.2);have hp_:Kd.R Kd.string 9 Mr w.heap.size (fun k_=>(w.heap.size≤k_)) (.slice (some ⟨Dc,0,none⟩) Aw.length Dw) Mo:=(by rw [hw,Qh.out];exact Gw.1);clear Gw;replace Ak:=y0.mk (Kd.R_over' (v:=(.slice (some ⟨Dc,0,none⟩) Aw.length Dw)) (qR Ak.out) (Kd.R_typed Aj.out) (by decide) hg);replace Ab:=y0.mk (Kd.V_afterv (v:=(.slice (some ⟨Dc,0,none⟩) Aw.length Dw)) (v1:=(.slice (some ⟨Dc,0,none⟩) Aw.length Dw)) (ok:=(fun k_=>((P0_3_ k_∨P0_4_ k_)∨w.heap.size≤k_)∧some k_≠(Bc:Value).ownBlock∧k_≠Ag∧k_≠Ar)) (qV (Kd.V_mono Ab.out (fun _ hk=>⟨⟨hk.1,⟨hk.2.1,⟨hk.2.2.2.1,hk.2.2.2.2⟩⟩⟩,hk.2.2.1⟩))) hg (.inl rfl));replace Ac:=y0.mk (Kd.V_afterv (v:=(.slice (some ⟨Dc,0,none⟩) Aw.length Dw)) (v1:=(.slice (some ⟨Dc,0,none⟩) Aw.length Dw)) (ok:=(fun k_=>((P0_3_ k_∨P0_4_ k_)∨w.heap.size≤k_)∧some k_≠(Bc:Value).ownBlock∧k_≠Ag∧k_≠Ar)) (qV (Kd.V_mono Ac.out (fun _ hk=>⟨⟨hk.1,⟨hk.2.1,⟨hk.2.2.2.1,hk.2.2.2.2⟩⟩⟩,hk.2.2.1⟩))) hg (.inl rfl));replace Af:=y0.mk (blk_grown (qk Af.out) hg (Kd.R_ne Aj.out Af.out (by decide)));replace Ai:=y0.mk (blk_grown (qk Ai.out) hg (Kd.R_ne Aj.out Ai.out (by decide)));replace Aj:=y0.mk (hp_);replace HB:=y0.mk ((by rw [hw];exact y3 (HB.out) Qj.out:Below w.heap.size w Mr));clear hg hw hp_))
             go_roundg Qe
             case measure=>have:=Da.out;have:=Cz.out;have:=Gv.out;have:=Qd.out;omega
             exact⟨(Bd),(Mo),(wrap64 (Ad + 1)),qy2,H',⟨by have:=Da.out;have:=Cz.out;have:=Gv.out;have:=Qd.out;omega⟩,⟨qR Ak.out⟩,⟨qR Aj.out⟩,⟨qV (Kd.V_mono Ab.out (fun _ hk=>⟨hk.1.1,⟨hk.1.2.1,⟨hk.2,hk.1.2.2.1⟩⟩⟩))⟩,⟨qV (Kd.V_mono Ac.out (fun _ hk=>⟨hk.1.1,⟨hk.1.2.1,⟨hk.2,hk.1.2.2.1⟩⟩⟩))⟩,⟨qk Af.out⟩,⟨qb⟩⟩
    ·as_aux_lemma =>
     rw [if_neg Nr]at H
     have Gr:=decide_eq_false Nr
     clear Nr
     obtain⟨Jz,Ez⟩:∃ y_:List (S33),y_=(([(⟨Ba,Bb,Am⟩:S33)]:List (S33))):=⟨_,rfl⟩
     replace H:(if Jz.length + Ap.length < 2932031007402 then(z8_.l3 k1 Fg Aw (Jz ++ Ap) 0)else(none))=some (r1,r2):=by first|(rw [Ez];with_reducible exact H)|(have H2_:=(Option.bind_some _ _).symm.trans H;rw [Ez];with_reducible exact H2_)|(have H2_:=(Option.bind_some _ _).symm.trans H;with_reducible exact H2_)|with_reducible exact H|(rw [Ez];exact H)|exact H
     have Kx:=y0.mk Ez
     clear Ez
     obtain⟨Qk,H⟩:=qo H
     have Ms:=y0.mk Qk
     clear Qk
     obtain⟨At,Fa⟩:∃ y_:List (S33),y_=(Jz ++ Ap):=⟨_,rfl⟩
     replace H:(z8_.l3 k1 Fg Aw At 0)=some (r1,r2):=by first|(rw [Fa];with_reducible exact H)|(have H2_:=(Option.bind_some _ _).symm.trans H;rw [Fa];with_reducible exact H2_)|(have H2_:=(Option.bind_some _ _).symm.trans H;with_reducible exact H2_)|with_reducible exact H|(rw [Fa];exact H)|exact H
     have Ql:=y0.mk Fa
     clear Fa
     have H':=y0.mk H
     clear H
     obtain⟨Gx,Gy,Gz,Ha,Hb,Hc,Hd,He,Hf,Hg⟩:=qz5 Af.out
     go_wp2_with (first|((with_reducible refine y17 (N:=164) rfl ?_);(try(refine gate_guard (by rfl) ?_;dsimp only));refine Kd.N_lit k33 _ 33 ?hg (N':=164) ?hd (xs:=([(⟨Ba,Bb,Am⟩:S33)]:List (S33))) (inner:=[.int .i64 Ba,.string Bb,.slice Bg Am.length Bh]) (ok:=(fun k_=>((P0_3_ k_∨P0_4_ k_)∨w.heap.size≤k_)∧some k_≠(Bc:Value).ownBlock∧some k_≠(Au:Value).ownBlock∧k_≠Ag)) (okp:=(fun k_=>((P0_3_ k_∨P0_4_ k_)∨w.heap.size≤k_)∧some k_≠(Bc:Value).ownBlock∧some k_≠(Au:Value).ownBlock∧k_≠Ag)) ?hr ?hp (fun _ hk=>hk) ((show ∀ k_,wr.heap.size≤k_→(fun k_=>((P0_3_ k_∨P0_4_ k_)∨w.heap.size≤k_)∧some k_≠(Bc:Value).ownBlock∧some k_≠(Au:Value).ownBlock∧k_≠Ag) k_ from fun k_ hk=>⟨(.inr (Nat.le_trans (y4 qb) hk)),Kd.fresh' (Kd.R_lt (qR Ak.out)) k_ hk,Kd.fresh' (Kd.R_lt (qR Aj.out)) k_ hk,Kd.freshB (g:=Ag) (o:=.cells #[.slice Do Aa.length Cc,.int .i64 Ba,.string Bb,.slice Bg Am.length Bh,.slice Bk Ap.length Bl] 36 (0,0)) (qk Af.out) k_ hk⟩) _ (Nat.le_refl _)) (Below.refl _ _) (Nat.le_refl _) (by simp) ?_;(case hd=>rfl);(case hg=>rfl);(case hr=>first|(go_simp;done)|(go_simp;rfl));(case hp=>exact(Reps.c3 (show Kd.FK k33 _ _ (⟨Ba,Bb,Am⟩:S33) [.int .i64 Ba,.string Bb,.slice Bg Am.length Bh]from(k33_mkF _ _ (⟨Ba,Bb,Am⟩:S33) (Kd.V_reads' (Kd.V_mono (ok':=(fun k_=>((P0_3_ k_∨P0_4_ k_)∨w.heap.size≤k_)∧some k_≠(Bc:Value).ownBlock∧some k_≠(Au:Value).ownBlock∧k_≠Ag)) (Ab.out) (fun k_ hk=>⟨hk.1,⟨hk.2.1,⟨hk.2.2.1,hk.2.2.2⟩⟩⟩))).2.1 (Kd.V_F (Kd.V_mono (ok':=(fun k_=>((P0_3_ k_∨P0_4_ k_)∨w.heap.size≤k_)∧some k_≠(Bc:Value).ownBlock∧some k_≠(Au:Value).ownBlock∧k_≠Ag)) (Ab.out) (fun k_ hk=>⟨hk.1,⟨hk.2.1,⟨hk.2.2.1,hk.2.2.2⟩⟩⟩))))) (Reps.none _ _)));intro Mt bZ Dr hb hg_ hnew_;clear hg_ hnew_;(first|rw [← Kx.out]at Dr|(simp only [Int.reduceToNat]at Dr;rw [← Kx.out]at Dr));replace Ak:=y0.mk (Kd.R_below (qR Ak.out) hb);replace Aj:=y0.mk (Kd.R_below (qR Aj.out) hb);replace Ab:=y0.mk (Kd.V_elder' (qV Ab.out) (Kd.N_base Dr) hb);replace Ac:=y0.mk (Kd.V_elder' (qV Ac.out) (Kd.N_base Dr) hb);have Fb:=y0.mk (Kd.N_lower Dr (y4 qb));replace Af:=y0.mk (qK Af.out hb);replace HB:=y0.mk (y5 qb hb);clear hb Dr;obtain⟨Hh,Hi,Hj,Hk,Hl,Hm,Hn,Ho,Hp,Hq⟩:=qz5 Af.out)|((with_reducible refine gate_builtin (b:=.append) (xs:=#[.tmp 164,.tmp 166]) rfl ?_);(try(refine gate_guard (by rfl) ?_;dsimp only));at_builtin;refine Kd.N_append_rows k33 (w0:=w) w.heap.size rfl (.tmp 164) (.tmp 166) 34 33 (.agg #[(.int .i64 0),(.string ⟨#[]⟩),(.slice none 0 0)]) 48 rfl Try.underlying34 info33 rfl (by decide) (by omega) Mt Jz Ap _ _ _ (fun k_=>((P0_3_ k_∨P0_4_ k_)∨w.heap.size≤k_)∧some k_≠(Bc:Value).ownBlock∧some k_≠(Au:Value).ownBlock∧k_≠Ag) (fun k_=>((fun k_=>((P0_3_ k_∨P0_4_ k_)∨w.heap.size≤k_)∧some k_≠(Bc:Value).ownBlock∧some k_≠(Au:Value).ownBlock∧k_≠Ag)) k_∧some k_≠(Mt:Value).ownBlock) rfl rfl ?aO ?aR (fun _ hk=>hk) ?aF ?aB ?aS ?aL ?_;(case aR=>exact(by skip;exact Kd.V_F (Kd.V_mono (ok':=(fun k_=>((fun k_=>((P0_3_ k_∨P0_4_ k_)∨w.heap.size≤k_)∧some k_≠(Bc:Value).ownBlock∧some k_≠(Au:Value).ownBlock∧k_≠Ag)) k_∧some k_≠(Mt:Value).ownBlock)) (Ac.out) (fun k_ hk=>⟨⟨hk.1.1,⟨hk.1.2.1,⟨hk.1.2.2.1,hk.1.2.2.2⟩⟩⟩,hk.2⟩))));(case aB=>exact qb);(case aF=>exact(fun k_ hk=>⟨(.inr (Nat.le_trans (y4 qb) hk)),Kd.fresh' (Kd.R_lt (qR Ak.out)) k_ hk,Kd.fresh' (Kd.R_lt (qR Aj.out)) k_ hk,Kd.freshB (g:=Ag) (o:=.cells #[.slice Do Aa.length Cc,.int .i64 Ba,.string Bb,.slice Bg Am.length Bh,.slice Bk Ap.length Bl] 36 (0,0)) (qk Af.out) k_ hk⟩));(case aO=>exact(qN Fb.out));(case aS=>exact(y4 qb));(case aL=>have:=Ms.out;omega);intro Mu cA ho hb hg hat;rw [← Ql.out]at ho;replace Ak:=y0.mk (Kd.R_over' (qR Ak.out) (Kd.N_typed (qN Fb.out)) (by decide) hg);replace Aj:=y0.mk (Kd.R_over' (qR Aj.out) (Kd.N_typed (qN Fb.out)) (by decide) hg);replace Ab:=y0.mk (Kd.V_afterv (ok:=(fun k_=>((P0_3_ k_∨P0_4_ k_)∨w.heap.size≤k_)∧some k_≠(Bc:Value).ownBlock∧some k_≠(Au:Value).ownBlock∧k_≠Ag)) (qV Ab.out) hg hat);replace Ac:=y0.mk (Kd.V_afterv (ok:=(fun k_=>((P0_3_ k_∨P0_4_ k_)∨w.heap.size≤k_)∧some k_≠(Bc:Value).ownBlock∧some k_≠(Au:Value).ownBlock∧k_≠Ag)) (qV Ac.out) hg hat);replace Af:=y0.mk (blk_grown (qk Af.out) hg (Kd.N_ne Fb.out Af.out (by decide)));replace HB:=y0.mk (hb);have Qm:=y0.mk (ho);clear Fb;clear ho hb hg hat))
     go_loopg [13] k1 (fun kq cC w'=>∃(Bd:List Int) (Ah:Int),cC=.int .i64 Ah∧y0 (z8_.l3 kq Bd Aw At Ah=some (r1,r2))∧y0 (kq≤k1)∧y0 (Kd.R (Kd.int .i64) 3 w' w.heap.size (fun k_=>(w.heap.size≤k_)) Bc Bd)∧y0 (Kd.R Kd.string 9 w' w.heap.size (fun k_=>(w.heap.size≤k_)) Au Aw)∧y0 (Kd.N k33 33 w' w.heap.size (fun k_=>((P0_3_ k_∨P0_4_ k_)∨w.heap.size≤k_)∧some k_≠(Bc:Value).ownBlock∧some k_≠(Au:Value).ownBlock∧k_≠Ag) Mu At)∧y0 (Kd.V (Kd.int .i64) 3 w' w.heap.size (fun k_=>((P0_3_ k_∨P0_4_ k_)∨w.heap.size≤k_)∧some k_≠(Bc:Value).ownBlock∧some k_≠(Au:Value).ownBlock∧some k_≠(Mu:Value).ownBlock∧k_≠Ag) (.slice Bg Am.length Bh) Am)∧y0 (Kd.V k33 33 w' w.heap.size (fun k_=>((P0_3_ k_∨P0_4_ k_)∨w.heap.size≤k_)∧some k_≠(Bc:Value).ownBlock∧some k_≠(Au:Value).ownBlock∧some k_≠(Mu:Value).ownBlock∧k_≠Ag) (.slice Bk Ap.length Bl) Ap)∧y0 (w'.heap[Ag]?=some (.cells #[(.slice Do Aa.length Cc),.int .i64 Ba,.string Bb,(.slice Bg Am.length Bh),(.slice Bk Ap.length Bl)] 36 (0,0)))∧y0 (Below w.heap.size w w'))
     case atStart=>exact⟨(Fg),(0),qy2,H',⟨Nat.le_refl _⟩,⟨qR Ak.out⟩,⟨qR Aj.out⟩,⟨qN Qm.out⟩,⟨qV (Kd.V_mono Ab.out (fun _ hk=>⟨hk.1.1,⟨hk.1.2.1,⟨hk.1.2.2.1,⟨hk.2,hk.1.2.2.2⟩⟩⟩⟩))⟩,⟨qV (Kd.V_mono Ac.out (fun _ hk=>⟨hk.1.1,⟨hk.1.2.1,⟨hk.1.2.2.1,⟨hk.2,hk.1.2.2.2⟩⟩⟩⟩))⟩,⟨qk Af.out⟩,⟨qb⟩⟩
     case round =>
      clear H'
      (try clear Gr Gx Gy Gz Ha Hb Hh Hi Hj Hk Hl Hc Hd He Hf Hg Hm Hn Ho Hp Hq)
      obtain⟨Bd,Ah,rfl,HA,Cz,Ak,Aj,Be,Ab,Ac,Af,HB⟩:=hrel
      cases gk with
      | zero=>exact absurd HA.out (by simp [z8_.l3])
      | succ k2 =>
       have H:=HA.out
       clear HA
       simp only [z8_.l3]at H
       by_cases Gl:Ah < (At.length:Int)
       ·as_aux_lemma =>
        rw [if_pos Gl]at H
        have Fj:=decide_eq_true Gl
        clear Gl
        have H':=y0.mk H
        clear H
        obtain⟨Hr,Ce,Qn⟩:=Kd.N_slice Be.out
        subst Qn
        go_wp2
        go_loopg [14] k2 (fun kq cD w'=>∃(Bi:List Int) (Ay:Int),cD=.int .i64 Ay∧y0 (z8_.l4 kq Bi Aw At Ah Ay=some (r1,r2))∧y0 (kq≤k2)∧y0 (Kd.R (Kd.int .i64) 3 w' w.heap.size (fun k_=>(w.heap.size≤k_)) Bc Bi)∧y0 (Kd.R Kd.string 9 w' w.heap.size (fun k_=>(w.heap.size≤k_)) Au Aw)∧y0 (Kd.N k33 33 w' w.heap.size (fun k_=>((P0_3_ k_∨P0_4_ k_)∨w.heap.size≤k_)∧some k_≠(Bc:Value).ownBlock∧some k_≠(Au:Value).ownBlock∧k_≠Ag) (.slice Hr At.length Ce) At)∧y0 (Kd.V (Kd.int .i64) 3 w' w.heap.size (fun k_=>((P0_3_ k_∨P0_4_ k_)∨w.heap.size≤k_)∧some k_≠(Bc:Value).ownBlock∧some k_≠(Au:Value).ownBlock∧some k_≠((.slice Hr At.length Ce):Value).ownBlock∧k_≠Ag) (.slice Bg Am.length Bh) Am)∧y0 (Kd.V k33 33 w' w.heap.size (fun k_=>((P0_3_ k_∨P0_4_ k_)∨w.heap.size≤k_)∧some k_≠(Bc:Value).ownBlock∧some k_≠(Au:Value).ownBlock∧some k_≠((.slice Hr At.length Ce):Value).ownBlock∧k_≠Ag) (.slice Bk Ap.length Bl) Ap)∧y0 (w'.heap[Ag]?=some (.cells #[(.slice Do Aa.length Cc),.int .i64 Ba,.string Bb,(.slice Bg Am.length Bh),(.slice Bk Ap.length Bl)] 36 (0,0)))∧y0 (Below w.heap.size w w'))
        case atStart=>exact⟨(Bd),(0),qy2,H',⟨Nat.le_refl _⟩,⟨qR Ak.out⟩,⟨qR Aj.out⟩,⟨qN Be.out⟩,⟨qV Ab.out⟩,⟨qV Ac.out⟩,⟨qk Af.out⟩,⟨qb⟩⟩
        case round =>
         clear H'
         (try clear Fj)
         obtain⟨Bi,Ay,rfl,HA,Mv,Ak,Aj,Be,Ab,Ac,Af,HB⟩:=hrel
         cases gk with
         | zero=>exact absurd HA.out (by simp [z8_.l4])
         | succ k3 =>
          have H:=HA.out
          clear HA
          simp only [z8_.l4]at H
          obtain⟨Qo,H⟩:=qo H
          have Wn:decide (0≤Ah)=true:=decide_eq_true Qo
          clear Qo
          obtain⟨Qp,H⟩:=qo H
          have Wo:decide (Ah < (At.length:Int))=true:=decide_eq_true Qp
          clear Qp
          by_cases Gm:Ay < (((y20 At Ah).f2).length:Int)
          ·as_aux_lemma =>
           rw [if_pos Gm]at H
           have Mw:=decide_eq_true Gm
           clear Gm
           obtain⟨Qq,H⟩:=qo H
           have Wp:decide (0≤Ay)=true:=decide_eq_true Qq
           clear Qq
           obtain⟨Wq,Qr,H⟩:=qB H
           by_cases Ka:Wq=true
           ·subst Ka
            replace H:=qT H
            obtain⟨Qs,H⟩:=qo H
            have Wr:decide (0≤(rd ((y20 At Ah).f2) Ay))=true:=decide_eq_true Qs
            clear Qs
            obtain⟨Qt,H⟩:=qo H
            have Ws:decide ((rd ((y20 At Ah).f2) Ay) < (Bi.length:Int))=true:=decide_eq_true Qt
            clear Qt
            obtain⟨Mx,Fc⟩:∃ y_:List Int,y_=(Bi.set ((rd ((y20 At Ah).f2) Ay):Int).toNat (wrap64 ((rd Bi (rd ((y20 At Ah).f2) Ay)) + 1))):=⟨_,rfl⟩
            replace H:(z8_.l4 k3 Mx Aw At Ah (wrap64 (Ay + 1)))=some (r1,r2):=by first|(rw [Fc];with_reducible exact H)|(have H2_:=(Option.bind_some _ _).symm.trans H;rw [Fc];with_reducible exact H2_)|(have H2_:=(Option.bind_some _ _).symm.trans H;with_reducible exact H2_)|with_reducible exact H|(rw [Fc];exact H)|exact H
            have Qu:=y0.mk Fc
            clear Fc
            have H':=y0.mk H
            clear H
            have Cv:0≤(Ah:Int):=of_decide_eq_true qy0
            have Cw:Ah < (At.length:Int):=of_decide_eq_true qy0
            obtain⟨Bz,Hs,Ee,Ht,Dk,Dl,Bp,Ca,Cb⟩:=at_T33 (Kd.N_reads' Be.out).2.2 Ah Cv Cw
            cases Ht
            obtain⟨Ky,Ds,Dt,Cp⟩:=Kd.N_get Be.out z33 Ah Cv (by first|exact Cw|exact of_decide_eq_true qy0|(have e_:=(Kd.N_reads' Be.out).1;omega))
            obtain⟨Ga,Gb,rfl,Bn,Bo⟩:=k33_openF Dt
            have Bf:=Cp 2 _ rfl
            rw [add_field _ _ 2 (by omega)]at Bf
            replace Bf:=Option.some.inj (Bf.symm.trans Bp)
            injection Bf with hva_ hvn_ hvc_
            rw [hva_]at Bo
            rw [hvc_]at Bn
            have Ci:=y0.mk (show Kd.V (Kd.int .i64) 3 _ w.heap.size _ _ ((y20 At Ah).f2)from Kd.V_mk Bn Bo)
            clear hva_ hvn_ hvc_ Bo Bn
            clear Cp Ds
            have Cq:=y0.mk Cb
            have Gc:=y0.mk Ca
            clear Cb Ca
            replace Cv:=eq_true Cv
            replace Cw:=eq_true Cw
            have Ef:0≤(Ah:Int):=of_decide_eq_true qy0
            have Eg:Ah < (At.length:Int):=of_decide_eq_true qy0
            obtain⟨Hu,My,Mz,Na,Eh,Ei,Cj,Cx,Cy⟩:=at_T33 (Kd.N_reads' Be.out).2.2 Ah Ef Eg
            obtain rfl:Bz=Hu:=(by injection Na)
            obtain⟨Qv,Fk,Fl,Du⟩:=Kd.N_get Be.out z33 Ah Ef (by first|exact Eg|exact of_decide_eq_true qy0|(have e_:=(Kd.N_reads' Be.out).1;omega))
            obtain⟨Kb,Ke,rfl,Ck,Cl⟩:=k33_openF Fl
            have Bw:=Du 2 _ rfl
            rw [add_field _ _ 2 (by omega)]at Bw
            replace Bw:=Option.some.inj (Bw.symm.trans Cj)
            injection Bw with hva_ hvn_ hvc_
            rw [hva_]at Cl
            rw [hvc_]at Ck
            have Cr:=y0.mk (show Kd.V (Kd.int .i64) 3 _ w.heap.size _ _ ((y20 At Ah).f2)from Kd.V_mk Ck Cl)
            clear hva_ hvn_ hvc_ Cl Ck
            clear Du Fk
            have Bx:=y0.mk Cy
            have Kf:=y0.mk Cx
            clear Cy Cx
            replace Ef:=eq_true Ef
            replace Eg:=eq_true Eg
            have ea_:=Option.some.inj (Bp.symm.trans Cj)
            injection ea_ with ea_ en_ ec_
            subst ea_
            subst ec_
            clear en_
            have Fm:0≤(Ay:Int):=of_decide_eq_true qy0
            have Fn:Ay < (((y20 At Ah).f2).length:Int):=of_decide_eq_true qy0
            obtain⟨Fd,Nb,Ej⟩:=Kd.at_int (by repeat(first|(with_reducible exact Bx.out)|(with_reducible refine Kd.C_alloc ?_ _)|(with_reducible refine Kd.C_drewN ?_ _)|(with_reducible refine Kd.C_drew ?_)|exact Bx.out)) Ay Fm Fn
            cases Nb
            replace Fm:=eq_true Fm
            replace Fn:=eq_true Fn
            obtain⟨Dx,Bm,Qw⟩:=Kd.R_slice Ak.out
            subst Qw
            go_wp2_with (first|((with_reducible refine y16 (f:=23) rfl ?_);refine y18 (some 195) rfl rfl Try.func23 (by kernel_rfl) rfl #[.int .i64 (rd ((y20 At Ah).f2) Ay),.int .i64 0,.int .i64 (wrap64 ((Bi.length:Int) - 1))] rfl qy1 ?_;(with_reducible refine(spec_l01Between.calls (rd ((y20 At Ah).f2) Ay) 0 (wrap64 ((Bi.length:Int) - 1)) true _ Qr.out).mono ?_);rintro e w' ⟨rfl,⟨nd,rfl⟩⟩;refine⟨_,rfl, ?_⟩;(try(rw [drewN_self wr];have e1_:∀(n_:Nat) (a_:Addr),World.cell? wr a_=World.cell? (World.drewN wr n_) a_:=fun _ _=>rfl;have e2_:∀(n_:Nat) (a_:Addr),World.frozen? wr a_=World.frozen? (World.drewN wr n_) a_:=fun _ _=>rfl;generalize hq_:World.drewN wr _=wr;have e3_:=(fun a_=>(e1_ _ a_).trans (congrArg (fun w_=>World.cell? w_ a_) hq_));have e4_:=(fun a_=>(e2_ _ a_).trans (congrArg (fun w_=>World.frozen? w_ a_) hq_));clear e1_ e2_;(try replace Dk:=(e3_ _).symm.trans Dk);(try replace Dl:=(e3_ _).symm.trans Dl);(try replace Bp:=(e3_ _).symm.trans Bp);(try replace Eh:=(e3_ _).symm.trans Eh);(try replace Ei:=(e3_ _).symm.trans Ei);(try replace Cj:=(e3_ _).symm.trans Cj);(try replace Ej:=(e3_ _).symm.trans Ej);skip;clear e3_ e4_;have n0_:y0 (Kd.V (Kd.int .i64) 3 wr w.heap.size (fun k_=>((P0_3_ k_∨P0_4_ k_)∨w.heap.size≤k_)∧some k_≠(.slice (some Bz) At.length Ce:Value).ownBlock∧some k_≠(.slice Dx Bi.length Bm:Value).ownBlock∧some k_≠(Au:Value).ownBlock∧k_≠Ag) (.slice (some Fd) ((y20 At Ah).f2).length Ee) ((y20 At Ah).f2)):=⟨by rw [← hq_];exact(qV (Kd.V_mono Ci.out (fun _ hk=>⟨hk.1.1,⟨hk.2,⟨hk.1.2.1,⟨hk.1.2.2.1,hk.1.2.2.2⟩⟩⟩⟩)))⟩;have n1_:y0 (Kd.V (Kd.int .i64) 3 wr w.heap.size (fun k_=>((P0_3_ k_∨P0_4_ k_)∨w.heap.size≤k_)∧some k_≠(.slice (some Bz) At.length Ce:Value).ownBlock∧some k_≠(.slice Dx Bi.length Bm:Value).ownBlock∧some k_≠(Au:Value).ownBlock∧k_≠Ag) (.slice (some Fd) ((y20 At Ah).f2).length Ee) ((y20 At Ah).f2)):=⟨by rw [← hq_];exact(qV (Kd.V_mono Cr.out (fun _ hk=>⟨hk.1.1,⟨hk.2,⟨hk.1.2.1,⟨hk.1.2.2.1,hk.1.2.2.2⟩⟩⟩⟩)))⟩;have n2_:y0 (Kd.N k33 33 wr w.heap.size (fun k_=>((P0_3_ k_∨P0_4_ k_)∨w.heap.size≤k_)∧some k_≠(.slice Dx Bi.length Bm:Value).ownBlock∧some k_≠(Au:Value).ownBlock∧k_≠Ag) (.slice (some Bz) At.length Ce) At):=⟨by rw [← hq_];exact(qN Be.out)⟩;have n3_:y0 (Kd.V (Kd.int .i64) 3 wr w.heap.size (fun k_=>((P0_3_ k_∨P0_4_ k_)∨w.heap.size≤k_)∧some k_≠(.slice (some Bz) At.length Ce:Value).ownBlock∧some k_≠(.slice Dx Bi.length Bm:Value).ownBlock∧some k_≠(Au:Value).ownBlock∧k_≠Ag) (.slice Bg Am.length Bh) Am):=⟨by rw [← hq_];exact(qV (Kd.V_mono Ab.out (fun _ hk=>⟨hk.1,⟨hk.2.2.2.1,⟨hk.2.1,⟨hk.2.2.1,hk.2.2.2.2⟩⟩⟩⟩)))⟩;have n4_:y0 (Kd.V k33 33 wr w.heap.size (fun k_=>((P0_3_ k_∨P0_4_ k_)∨w.heap.size≤k_)∧some k_≠(.slice (some Bz) At.length Ce:Value).ownBlock∧some k_≠(.slice Dx Bi.length Bm:Value).ownBlock∧some k_≠(Au:Value).ownBlock∧k_≠Ag) (.slice Bk Ap.length Bl) Ap):=⟨by rw [← hq_];exact(qV (Kd.V_mono Ac.out (fun _ hk=>⟨hk.1,⟨hk.2.2.2.1,⟨hk.2.1,⟨hk.2.2.1,hk.2.2.2.2⟩⟩⟩⟩)))⟩;have n5_:y0 (Kd.R (Kd.int .i64) 3 wr w.heap.size (fun k_=>(w.heap.size≤k_)) (.slice Dx Bi.length Bm) Bi):=⟨by rw [← hq_];exact(qR Ak.out)⟩;have n6_:y0 (Kd.R Kd.string 9 wr w.heap.size (fun k_=>(w.heap.size≤k_)) Au Aw):=⟨by rw [← hq_];exact(qR Aj.out)⟩;have n7_:y0 (wr.heap[Ag]?=some (.cells #[.slice Do Aa.length Cc,.int .i64 Ba,.string Bb,.slice Bg Am.length Bh,.slice Bk Ap.length Bl] 36 (0,0))):=⟨by rw [← hq_];exact(qk Af.out)⟩;have n8_:y0 (Below w.heap.size w wr):=⟨by rw [← hq_];exact qb⟩;have n9_:y0 (Kd.C (Kd.int .i64) wr (some Fd) ((y20 At Ah).f2).length ((y20 At Ah).f2)):=⟨by rw [← hq_];exact(by repeat(first|(with_reducible exact Cq.out)|(with_reducible refine Kd.C_alloc ?_ _)|(with_reducible refine Kd.C_drewN ?_ _)|(with_reducible refine Kd.C_drew ?_)|exact Cq.out))⟩;have n10_:y0 (Kd.C (Kd.int .i64) wr (some Fd) ((y20 At Ah).f2).length ((y20 At Ah).f2)):=⟨by rw [← hq_];exact(by repeat(first|(with_reducible exact Bx.out)|(with_reducible refine Kd.C_alloc ?_ _)|(with_reducible refine Kd.C_drewN ?_ _)|(with_reducible refine Kd.C_drew ?_)|exact Bx.out))⟩;clear Ci Cr Be Ab Ac Ak Aj Af HB Cq Bx hq_;have Ci:=n0_;have Cr:=n1_;have Be:=n2_;have Ab:=n3_;have Ac:=n4_;have Ak:=n5_;have Aj:=n6_;have Af:=n7_;have HB:=n8_;have Cq:=n9_;have Bx:=n10_;clear n0_ n1_ n2_ n3_ n4_ n5_ n6_ n7_ n8_ n9_ n10_));have Kg:0≤(Ah:Int):=of_decide_eq_true qy0;have Kh:Ah < (At.length:Int):=of_decide_eq_true qy0;obtain⟨Qx,Wt,Wu,Wv,Tx,Ty,Gd,Ge,Gf⟩:=at_T33 (Kd.N_reads' Be.out).2.2 Ah Kg Kh;obtain rfl:Bz=Qx:=(by injection Wv);obtain⟨aK,Nc,Nd,Hv⟩:=Kd.N_get Be.out z33 Ah Kg (by first|exact Kh|exact of_decide_eq_true qy0|(have e_:=(Kd.N_reads' Be.out).1;omega));obtain⟨Tz,Ua,rfl,Ek,El⟩:=k33_openF Nd;have Dm:=Hv 2 _ rfl;rw [add_field _ _ 2 (by omega)]at Dm;replace Dm:=Option.some.inj (Dm.symm.trans Gd);injection Dm with hva_ hvn_ hvc_;rw [hva_]at El;rw [hvc_]at Ek;have Gg:=y0.mk (show Kd.V (Kd.int .i64) 3 _ w.heap.size _ _ ((y20 At Ah).f2)from Kd.V_mk Ek El);clear hva_ hvn_ hvc_ El Ek;clear Hv Nc;have Gh:=y0.mk Gf;have Ub:=y0.mk Ge;clear Gf Ge;replace Kg:=eq_true Kg;replace Kh:=eq_true Kh;have ea_:=Option.some.inj (Bp.symm.trans Gd);injection ea_ with ea_ en_ ec_;subst ea_;subst ec_;clear en_;have Nf:0≤(Ay:Int):=of_decide_eq_true qy0;have Ng:Ay < (((y20 At Ah).f2).length:Int):=of_decide_eq_true qy0;obtain⟨aM,Ww,Uc⟩:=Kd.at_int (by repeat(first|(with_reducible exact Gh.out)|(with_reducible refine Kd.C_alloc ?_ _)|(with_reducible refine Kd.C_drewN ?_ _)|(with_reducible refine Kd.C_drew ?_)|exact Gh.out)) Ay Nf Ng;cases Ww;replace Nf:=eq_true Nf;replace Ng:=eq_true Ng;have Nh:0≤((rd ((y20 At Ah).f2) Ay):Int):=of_decide_eq_true qy0;have Ni:(rd ((y20 At Ah).f2) Ay) < (Bi.length:Int):=of_decide_eq_true qy0;obtain⟨aN,Wx,Ki⟩:=Kd.at_int (Kd.R_reads' Ak.out).2.2 (rd ((y20 At Ah).f2) Ay) Nh Ni;cases Wx;replace Nh:=eq_true Nh;replace Ni:=eq_true Ni;have Nj:0≤((rd ((y20 At Ah).f2) Ay):Int):=of_decide_eq_true qy0;have Nk:((rd ((y20 At Ah).f2) Ay):Int) < ((Bi.length:Int):Int):=of_decide_eq_true qy0;obtain⟨Bs,aQ,Kz,La,Qy,aT,Lb⟩:=Kd.R_form Ak.out (by omega);(first|cases Kz|(injection Kz with ea_ en_ ec_;(first|subst ea_|(injection ea_ with ea_;subst ea_));subst ec_;clear en_));have Qz:=y0.mk La;have aU:=y0.mk Lb;clear La Qy Lb;(first|simp only [add_plain]at Ki|skip);obtain⟨Ud,Ue⟩:=Kd.R_celln 0 Ak.out ((rd ((y20 At Ah).f2) Ay):Int) Nj Nk;replace Nj:=eq_true Nj;replace Nk:=eq_true Nk;obtain⟨hy132_,hz132_⟩:=Kd.R_celln 0 Ak.out ((rd ((y20 At Ah).f2) Ay):Int) (of_decide_eq_true qy0) (of_decide_eq_true qy0);have Hw:=Kd.R_putg Ak.out ((rd ((y20 At Ah).f2) Ay):Int) (wrap64 ((rd Bi (rd ((y20 At Ah).f2) Ay)) + 1)))|((with_reducible refine gate_store (t:=3) (p:=210) rfl ?_);refine store_event (t:=3) (p:=210) (v:=?vo_w133) (w1:=(wr.setCell ⟨Bs,((rd ((y20 At Ah).f2) Ay):Int).toNat,none⟩ (.int .i64 (wrap64 ((rd Bi (rd ((y20 At Ah).f2) Ay)) + 1))))) ?hg ?ho ?hn ?hr ?_;(case ho=>rfl);(case hg=>rfl);(case hn=>rfl);(case hr=>first|(go_simp;done)|(go_simp;rfl));intro Nl hw;have hg:wr.grownBy Nl (some Bs):=(by rw [hw];exact Hw.2);have hp_:Kd.R (Kd.int .i64) 3 Nl w.heap.size (fun k_=>(w.heap.size≤k_)) (.slice (some ⟨Bs,0,none⟩) Bi.length Bm) Mx:=(by rw [hw,Qu.out];exact Hw.1);clear Hw;replace Aj:=y0.mk (Kd.R_over' (v:=(.slice (some ⟨Bs,0,none⟩) Bi.length Bm)) (qR Aj.out) (Kd.R_typed Ak.out) (by decide) hg);replace Be:=y0.mk (Kd.N_afterv (v:=(.slice (some ⟨Bs,0,none⟩) Bi.length Bm)) (v1:=(.slice (some ⟨Bs,0,none⟩) Bi.length Bm)) (ok:=(fun k_=>((P0_3_ k_∨P0_4_ k_)∨w.heap.size≤k_)∧some k_≠(Au:Value).ownBlock∧k_≠Ag)) (qN (Kd.N_mono Be.out (fun _ hk=>⟨⟨hk.1,⟨hk.2.2.1,hk.2.2.2⟩⟩,hk.2.1⟩))) hg (.inl rfl));replace Ab:=y0.mk (Kd.V_afterv (v:=(.slice (some ⟨Bs,0,none⟩) Bi.length Bm)) (v1:=(.slice (some ⟨Bs,0,none⟩) Bi.length Bm)) (ok:=(fun k_=>((P0_3_ k_∨P0_4_ k_)∨w.heap.size≤k_)∧some k_≠(Au:Value).ownBlock∧some k_≠(.slice (some Bz) At.length Ce:Value).ownBlock∧k_≠Ag)) (qV (Kd.V_mono Ab.out (fun _ hk=>⟨⟨hk.1,⟨hk.2.2.2.1,⟨hk.2.1,hk.2.2.2.2⟩⟩⟩,hk.2.2.1⟩))) hg (.inl rfl));replace Ac:=y0.mk (Kd.V_afterv (v:=(.slice (some ⟨Bs,0,none⟩) Bi.length Bm)) (v1:=(.slice (some ⟨Bs,0,none⟩) Bi.length Bm)) (ok:=(fun k_=>((P0_3_ k_∨P0_4_ k_)∨w.heap.size≤k_)∧some k_≠(Au:Value).ownBlock∧some k_≠(.slice (some Bz) At.length Ce:Value).ownBlock∧k_≠Ag)) (qV (Kd.V_mono Ac.out (fun _ hk=>⟨⟨hk.1,⟨hk.2.2.2.1,⟨hk.2.1,hk.2.2.2.2⟩⟩⟩,hk.2.2.1⟩))) hg (.inl rfl));replace Af:=y0.mk (blk_grown (qk Af.out) hg (Kd.R_ne Ak.out Af.out (by decide)));replace Ak:=y0.mk (hp_);replace Ci:=y0.mk (Kd.V_afterv (v:=(.slice (some ⟨Bs,0,none⟩) Bi.length Bm)) (v1:=(.slice (some ⟨Bs,0,none⟩) Bi.length Bm)) (ok:=(fun k_=>((P0_3_ k_∨P0_4_ k_)∨w.heap.size≤k_)∧some k_≠(Au:Value).ownBlock∧some k_≠(.slice (some Bz) At.length Ce:Value).ownBlock∧k_≠Ag)) (qV (Kd.V_mono Ci.out (fun _ hk=>⟨⟨hk.1,⟨hk.2.2.2.1,⟨hk.2.1,hk.2.2.2.2⟩⟩⟩,hk.2.2.1⟩))) hg (.inl rfl));replace Cr:=y0.mk (Kd.V_afterv (v:=(.slice (some ⟨Bs,0,none⟩) Bi.length Bm)) (v1:=(.slice (some ⟨Bs,0,none⟩) Bi.length Bm)) (ok:=(fun k_=>((P0_3_ k_∨P0_4_ k_)∨w.heap.size≤k_)∧some k_≠(Au:Value).ownBlock∧some k_≠(.slice (some Bz) At.length Ce:Value).ownBlock∧k_≠Ag)) (qV (Kd.V_mono Cr.out (fun _ hk=>⟨⟨hk.1,⟨hk.2.2.2.1,⟨hk.2.1,hk.2.2.2.2⟩⟩⟩,hk.2.2.1⟩))) hg (.inl rfl));replace Gg:=y0.mk (Kd.V_afterv (v:=(.slice (some ⟨Bs,0,none⟩) Bi.length Bm)) (v1:=(.slice (some ⟨Bs,0,none⟩) Bi.length Bm)) (ok:=(fun k_=>((P0_3_ k_∨P0_4_ k_)∨w.heap.size≤k_)∧some k_≠(Au:Value).ownBlock∧some k_≠(.slice (some Bz) At.length Ce:Value).ownBlock∧k_≠Ag)) (qV (Kd.V_mono Gg.out (fun _ hk=>⟨⟨hk.1.1,⟨hk.1.2.2.1,⟨hk.2,hk.1.2.2.2⟩⟩⟩,hk.1.2.1⟩))) hg (.inl rfl));replace HB:=y0.mk ((by rw [hw];exact y3 (HB.out) Qz.out:Below w.heap.size w Nl));clear hg hw hp_))
            go_roundg k3
            case measure=>have:=Da.out;have:=Cz.out;have:=Mv.out;omega
            exact⟨(Mx),(wrap64 (Ay + 1)),qy2,H',⟨by have:=Da.out;have:=Cz.out;have:=Mv.out;omega⟩,⟨qR Ak.out⟩,⟨qR Aj.out⟩,⟨qN (Kd.N_mono Be.out (fun _ hk=>⟨hk.1.1,⟨hk.2,⟨hk.1.2.1,hk.1.2.2⟩⟩⟩))⟩,⟨qV (Kd.V_mono Ab.out (fun _ hk=>⟨hk.1.1,⟨hk.2,⟨hk.1.2.1,⟨hk.1.2.2.1,hk.1.2.2.2⟩⟩⟩⟩))⟩,⟨qV (Kd.V_mono Ac.out (fun _ hk=>⟨hk.1.1,⟨hk.2,⟨hk.1.2.1,⟨hk.1.2.2.1,hk.1.2.2.2⟩⟩⟩⟩))⟩,⟨qk Af.out⟩,⟨qb⟩⟩
           ·replace Ka:=Bool.eq_false_iff.mpr Ka
            subst Ka
            replace H:=qF H
            simp only [Option.some.injEq,Prod.mk.injEq]at H
            obtain⟨rfl,rfl⟩:=H
            have Cv:0≤(Ah:Int):=of_decide_eq_true qy0
            have Cw:Ah < (At.length:Int):=of_decide_eq_true qy0
            obtain⟨Bz,Hs,Ee,Ht,Dk,Dl,Bp,Ca,Cb⟩:=at_T33 (Kd.N_reads' Be.out).2.2 Ah Cv Cw
            cases Ht
            obtain⟨Ky,Ds,Dt,Cp⟩:=Kd.N_get Be.out z33 Ah Cv (by first|exact Cw|exact of_decide_eq_true qy0|(have e_:=(Kd.N_reads' Be.out).1;omega))
            obtain⟨Ga,Gb,rfl,Bn,Bo⟩:=k33_openF Dt
            have Bf:=Cp 2 _ rfl
            rw [add_field _ _ 2 (by omega)]at Bf
            replace Bf:=Option.some.inj (Bf.symm.trans Bp)
            injection Bf with hva_ hvn_ hvc_
            rw [hva_]at Bo
            rw [hvc_]at Bn
            have Ci:=y0.mk (show Kd.V (Kd.int .i64) 3 _ w.heap.size _ _ ((y20 At Ah).f2)from Kd.V_mk Bn Bo)
            clear hva_ hvn_ hvc_ Bo Bn
            clear Cp Ds
            have Cq:=y0.mk Cb
            have Gc:=y0.mk Ca
            clear Cb Ca
            replace Cv:=eq_true Cv
            replace Cw:=eq_true Cw
            have Ef:0≤(Ah:Int):=of_decide_eq_true qy0
            have Eg:Ah < (At.length:Int):=of_decide_eq_true qy0
            obtain⟨Hu,My,Mz,Na,Eh,Ei,Cj,Cx,Cy⟩:=at_T33 (Kd.N_reads' Be.out).2.2 Ah Ef Eg
            obtain rfl:Bz=Hu:=(by injection Na)
            obtain⟨Qv,Fk,Fl,Du⟩:=Kd.N_get Be.out z33 Ah Ef (by first|exact Eg|exact of_decide_eq_true qy0|(have e_:=(Kd.N_reads' Be.out).1;omega))
            obtain⟨Kb,Ke,rfl,Ck,Cl⟩:=k33_openF Fl
            have Bw:=Du 2 _ rfl
            rw [add_field _ _ 2 (by omega)]at Bw
            replace Bw:=Option.some.inj (Bw.symm.trans Cj)
            injection Bw with hva_ hvn_ hvc_
            rw [hva_]at Cl
            rw [hvc_]at Ck
            have Cr:=y0.mk (show Kd.V (Kd.int .i64) 3 _ w.heap.size _ _ ((y20 At Ah).f2)from Kd.V_mk Ck Cl)
            clear hva_ hvn_ hvc_ Cl Ck
            clear Du Fk
            have Bx:=y0.mk Cy
            have Kf:=y0.mk Cx
            clear Cy Cx
            replace Ef:=eq_true Ef
            replace Eg:=eq_true Eg
            have ea_:=Option.some.inj (Bp.symm.trans Cj)
            injection ea_ with ea_ en_ ec_
            subst ea_
            subst ec_
            clear en_
            have Fm:0≤(Ay:Int):=of_decide_eq_true qy0
            have Fn:Ay < (((y20 At Ah).f2).length:Int):=of_decide_eq_true qy0
            obtain⟨Fd,Nb,Ej⟩:=Kd.at_int (by repeat(first|(with_reducible exact Bx.out)|(with_reducible refine Kd.C_alloc ?_ _)|(with_reducible refine Kd.C_drewN ?_ _)|(with_reducible refine Kd.C_drew ?_)|exact Bx.out)) Ay Fm Fn
            cases Nb
            replace Fm:=eq_true Fm
            replace Fn:=eq_true Fn
            obtain⟨aV,aW,Ra⟩:=Kd.R_slice Ak.out
            subst Ra
            go_wp2_with (first|((with_reducible refine y16 (f:=23) rfl ?_);refine y18 (some 195) rfl rfl Try.func23 (by kernel_rfl) rfl #[.int .i64 (rd ((y20 At Ah).f2) Ay),.int .i64 0,.int .i64 (wrap64 ((Bi.length:Int) - 1))] rfl qy1 ?_;(with_reducible refine(spec_l01Between.calls (rd ((y20 At Ah).f2) Ay) 0 (wrap64 ((Bi.length:Int) - 1)) false _ Qr.out).mono ?_);rintro e w' ⟨rfl,⟨nd,rfl⟩⟩;refine⟨_,rfl, ?_⟩))
            go_ret2
            exact⟨_,by first|rfl|(simp [y13,y14] <;> rfl)|(simp [*,y13,y14] <;> rfl),by(with_reducible repeat(first|apply Kd.R_alloc|apply Kd.R_drewN|apply Kd.R_drew));exact Aj.out,qb⟩
          ·as_aux_lemma =>
           rw [if_neg Gm]at H
           have Mw:=decide_eq_false Gm
           clear Gm
           have H':=y0.mk H
           clear H
           have Cv:0≤(Ah:Int):=of_decide_eq_true qy0
           have Cw:Ah < (At.length:Int):=of_decide_eq_true qy0
           obtain⟨Bz,Hs,Ee,Ht,Dk,Dl,Bp,Ca,Cb⟩:=at_T33 (Kd.N_reads' Be.out).2.2 Ah Cv Cw
           cases Ht
           obtain⟨Ky,Ds,Dt,Cp⟩:=Kd.N_get Be.out z33 Ah Cv (by first|exact Cw|exact of_decide_eq_true qy0|(have e_:=(Kd.N_reads' Be.out).1;omega))
           obtain⟨Ga,Gb,rfl,Bn,Bo⟩:=k33_openF Dt
           have Bf:=Cp 2 _ rfl
           rw [add_field _ _ 2 (by omega)]at Bf
           replace Bf:=Option.some.inj (Bf.symm.trans Bp)
           injection Bf with hva_ hvn_ hvc_
           rw [hva_]at Bo
           rw [hvc_]at Bn
           have Ci:=y0.mk (show Kd.V (Kd.int .i64) 3 _ w.heap.size _ _ ((y20 At Ah).f2)from Kd.V_mk Bn Bo)
           clear hva_ hvn_ hvc_ Bo Bn
           clear Cp Ds
           have Cq:=y0.mk Cb
           have Gc:=y0.mk Ca
           clear Cb Ca
           replace Cv:=eq_true Cv
           replace Cw:=eq_true Cw
           go_wp2
           go_roundg k3
           case measure=>have:=Da.out;have:=Cz.out;have:=Mv.out;omega
           exact⟨(Bi),(wrap64 (Ah + 1)),qy2,H',⟨by have:=Da.out;have:=Cz.out;have:=Mv.out;omega⟩,⟨qR Ak.out⟩,⟨qR Aj.out⟩,⟨qN Be.out⟩,⟨qV Ab.out⟩,⟨qV Ac.out⟩,⟨qk Af.out⟩,⟨qb⟩⟩
       ·as_aux_lemma =>
        rw [if_neg Gl]at H
        have Fj:=decide_eq_false Gl
        clear Gl
        have H':=y0.mk H
        clear H
        obtain⟨aX,aY,Rb⟩:=Kd.N_slice Be.out
        subst Rb
        go_wp2
        go_loopg [15] k2 (fun kq cF w'=>∃(Bq:Int),cF=.int .i64 Bq∧y0 (z8_.l5 kq Bd Aw Bq=some (r1,r2))∧y0 (kq≤k2)∧y0 (Kd.R (Kd.int .i64) 3 w' w.heap.size (fun k_=>(w.heap.size≤k_)) Bc Bd)∧y0 (Kd.R Kd.string 9 w' w.heap.size (fun k_=>(w.heap.size≤k_)) Au Aw)∧y0 (Kd.V (Kd.int .i64) 3 w' w.heap.size (fun k_=>((P0_3_ k_∨P0_4_ k_)∨w.heap.size≤k_)∧some k_≠(Bc:Value).ownBlock∧some k_≠(Au:Value).ownBlock∧k_≠Ag) (.slice Bg Am.length Bh) Am)∧y0 (Kd.V k33 33 w' w.heap.size (fun k_=>((P0_3_ k_∨P0_4_ k_)∨w.heap.size≤k_)∧some k_≠(Bc:Value).ownBlock∧some k_≠(Au:Value).ownBlock∧k_≠Ag) (.slice Bk Ap.length Bl) Ap)∧y0 (w'.heap[Ag]?=some (.cells #[(.slice Do Aa.length Cc),.int .i64 Ba,.string Bb,(.slice Bg Am.length Bh),(.slice Bk Ap.length Bl)] 36 (0,0)))∧y0 (Below w.heap.size w w'))
        case atStart=>exact⟨(0),qy2,H',⟨Nat.le_refl _⟩,⟨qR Ak.out⟩,⟨qR Aj.out⟩,⟨qV (Kd.V_mono Ab.out (fun _ hk=>⟨hk.1,⟨hk.2.1,⟨hk.2.2.1,hk.2.2.2.2⟩⟩⟩))⟩,⟨qV (Kd.V_mono Ac.out (fun _ hk=>⟨hk.1,⟨hk.2.1,⟨hk.2.2.1,hk.2.2.2.2⟩⟩⟩))⟩,⟨qk Af.out⟩,⟨qb⟩⟩
        case round =>
         clear H'
         (try clear Fj)
         obtain⟨Bq,rfl,HA,Mv,Ak,Aj,Ab,Ac,Af,HB⟩:=hrel
         cases gk with
         | zero=>exact absurd HA.out (by simp [z8_.l5])
         | succ k3 =>
          have H:=HA.out
          clear HA
          simp only [z8_.l5]at H
          by_cases Gn:Bq < (Bd.length:Int)
          ·as_aux_lemma =>
           rw [if_pos Gn]at H
           have Nm:=decide_eq_true Gn
           clear Gn
           obtain⟨Rc,H⟩:=qo H
           have Wy:decide (0≤Bq)=true:=decide_eq_true Rc
           clear Rc
           by_cases Fo:(rd Bd Bq)=1
           ·as_aux_lemma =>
            rw [if_pos Fo]at H
            have Nn:((rd Bd Bq) == 1)=true:=beq_iff_eq.mpr Fo
            have Np:((rd Bd Bq) != 1)=false:=bne_eq_false_iff_eq.mpr Fo
            clear Fo
            have H':=y0.mk H
            clear H
            obtain⟨aZ,bA,Rf⟩:=Kd.R_slice Ak.out
            subst Rf
            have Fp:0≤(Bq:Int):=of_decide_eq_true qy0
            have Fq:Bq < (Bd.length:Int):=of_decide_eq_true qy0
            obtain⟨Rg,Nq,Kj⟩:=Kd.at_int (Kd.R_reads' Ak.out).2.2 Bq Fp Fq
            cases Nq
            replace Fp:=eq_true Fp
            replace Fq:=eq_true Fq
            go_wp2
            go_roundg k3
            case measure=>have:=Da.out;have:=Cz.out;have:=Mv.out;omega
            exact⟨(wrap64 (Bq + 1)),qy2,H',⟨by have:=Da.out;have:=Cz.out;have:=Mv.out;omega⟩,⟨qR Ak.out⟩,⟨qR Aj.out⟩,⟨qV Ab.out⟩,⟨qV Ac.out⟩,⟨qk Af.out⟩,⟨qb⟩⟩
           ·as_aux_lemma =>
            rw [if_neg Fo]at H
            have Nn:((rd Bd Bq) == 1)=false:=beq_eq_false_iff_ne.mpr Fo
            have Np:((rd Bd Bq) != 1)=true:=bne_iff_ne.mpr Fo
            simp only [Option.some.injEq,Prod.mk.injEq]at H
            obtain⟨rfl,rfl⟩:=H
            obtain⟨bB,bC,Rh⟩:=Kd.R_slice Ak.out
            subst Rh
            have Fp:0≤(Bq:Int):=of_decide_eq_true qy0
            have Fq:Bq < (Bd.length:Int):=of_decide_eq_true qy0
            obtain⟨Rg,Nq,Kj⟩:=Kd.at_int (Kd.R_reads' Ak.out).2.2 Bq Fp Fq
            cases Nq
            replace Fp:=eq_true Fp
            replace Fq:=eq_true Fq
            go_wp2
            go_ret2
            exact⟨_,by first|rfl|(simp [y13,y14] <;> rfl)|(simp [*,y13,y14] <;> rfl),by(with_reducible repeat(first|apply Kd.R_alloc|apply Kd.R_drewN|apply Kd.R_drew));exact Aj.out,qb⟩
          ·as_aux_lemma =>
           rw [if_neg Gn]at H
           have Nm:=decide_eq_false Gn
           clear Gn
           simp only [Option.some.injEq,Prod.mk.injEq]at H
           obtain⟨rfl,rfl⟩:=H
           obtain⟨bD,bE,Ri⟩:=Kd.R_slice Ak.out
           subst Ri
           go_wp2
           go_ret2
           exact⟨_,by first|rfl|(simp [y13,y14] <;> rfl)|(simp [*,y13,y14] <;> rfl),by(with_reducible repeat(first|apply Kd.R_alloc|apply Kd.R_drewN|apply Kd.R_drew));exact Aj.out,qb⟩
end Go.Proofs.Ytkdabljlfbmpdaa.Po
