-- Cut by prune.py.
import Derived.Test.YtkdabljlfbmpdaaVgrPwx4
namespace Go.Proofs.Ytkdabljlfbmpdaa.Pw
open RowKit YtkdabljlfbmpdaaW.PrintWords YtkdabljlfbmpdaaW.PrintLast YtkdabljlfbmpdaaW.PrintMore
set_option linter.unusedVariables false
set_option linter.unusedSimpArgs false
mutual
def z8_.l0:Nat→List Int→List ByteArray→Int→List (S63)→Int→ByteArray→List Int→List (S33)→Option (List ByteArray×Bool)
 | 0,_,_,_,_,_,_,_,_=>none
 | k + 1,x4,x5,x6,Ae,An,Ao,Aq,Al=>if x6 < (Ae.length:Int)then(if 0≤x6 then(z8_.l1 k x4 x5 x6 0 Ae An Ao Aq Al ((y19 Ae x6).f0) ((y19 Ae x6).f1) ((y19 Ae x6).f2))else(none))else((some (([(⟨An,Ao,Aq⟩:S33)]:List (S33)):List (S33))).bind fun y218=>(if y218.length + Al.length < 2932031007402 then(z8_.l3 k x4 x5 (y218 ++ Al) 0)else(none)))
def z8_.l1:Nat→List Int→List ByteArray→Int→Int→List (S63)→Int→ByteArray→List Int→List (S33)→Int→ByteArray→List Int→Option (List ByteArray×Bool)
 | 0,_,_,_,_,_,_,_,_,_,_,_,_=>none
 | k + 1,x4,x5,x6,x8,An,Ao,Aq,By,Di,Al,Du,Ae=>if x8 < (Ae.length:Int)then(if 0≤x8 then((spec_l01Between.f (rd Ae x8) 0 (wrap64 (x6 - 1))).bind fun Ea=>(if Ea=true then(if 0≤(rd Ae x8)then(if(rd Ae x8) < (x4.length:Int)then(z8_.l1 k (x4.set ((rd Ae x8):Int).toNat (wrap64 ((rd x4 (rd Ae x8)) + 1))) x5 x6 (wrap64 (x8 + 1)) An Ao Aq By Di Al Du Ae)else(none))else(none))else(some (x5,false))))else(none))else(if Al=1 then(z8_.j2 k x4 x5 x6 Al (Al == 1) An Ao Aq By Di Al Du Ae)else(z8_.j2 k x4 x5 x6 Al (Al == 3) An Ao Aq By Di Al Du Ae))
def z8_.j5:Nat→List Int→List ByteArray→Int→ByteArray→List (S63)→Int→ByteArray→List Int→List (S33)→Int→ByteArray→List Int→Option (List ByteArray×Bool)
 | 0,_,_,_,_,_,_,_,_,_,_,_,_=>none
 | k + 1,x4,x5,x6,x9,Ae,Al,An,Ao,Aq,By,x200001,Di=>if By≤3 then(if(Di.length:Int) > 0 then(z8_.j6 k x4 x5 x6 x9 true Ae Al An Ao Aq)else(z8_.j6 k x4 x5 x6 x9 (decide ((x9.size:Int) > 3000)) Ae Al An Ao Aq))else(z8_.j6 k x4 x5 x6 x9 (decide ((x9.size:Int) > 3000)) Ae Al An Ao Aq)
def z8_.j6:Nat→List Int→List ByteArray→Int→ByteArray→Bool→List (S63)→Int→ByteArray→List Int→List (S33)→Option (List ByteArray×Bool)
 | 0,_,_,_,_,_,_,_,_,_,_=>none
 | k + 1,x4,x5,x6,x9,Ae,Al,An,Ao,Aq,By=>if Ae=true then(some (x5,false))else(if 0≤x6 then(if x6 < (x5.length:Int)then(z8_.l0 k x4 (x5.set (x6:Int).toNat x9) (wrap64 (x6 + 1)) Al An Ao Aq By)else(none))else(none))
def z8_.j2:Nat→List Int→List ByteArray→Int→Int→Bool→List (S63)→Int→ByteArray→List Int→List (S33)→Int→ByteArray→List Int→Option (List ByteArray×Bool)
 | 0,_,_,_,_,_,_,_,_,_,_,_,_,_=>none
 | k + 1,x4,x5,x6,Al,Fd,An,Ao,Aq,By,Di,Du,Ae,Ea=>if Fd=true then(z8_.j5 k x4 x5 x6 Ae An Ao Aq By Di Du Ae Ea)else(if Al=2 then(z8_.j5 k x4 x5 x6 (⟨#[95]⟩:ByteArray) An Ao Aq By Di Du Ae Ea)else(if Al=4 then(z8_.l2 k x4 x5 x6 Ae 0 An Ao Aq By Di Du Ae Ea)else(if Al=5 then(z8_.j4 k x4 x5 x6 (Al == 5) An Ao Aq By Di Du Ae Ea)else(if Al=6 then(z8_.j4 k x4 x5 x6 (Al == 6) An Ao Aq By Di Du Ae Ea)else(z8_.j4 k x4 x5 x6 (Al == 7) An Ao Aq By Di Du Ae Ea)))))
def z8_.l2:Nat→List Int→List ByteArray→Int→ByteArray→Int→List (S63)→Int→ByteArray→List Int→List (S33)→Int→ByteArray→List Int→Option (List ByteArray×Bool)
 | 0,_,_,_,_,_,_,_,_,_,_,_,_,_=>none
 | k + 1,x4,x5,x6,x9,Ae,An,Ao,Aq,By,Di,Du,Ea,Al=>if Ae < (Al.length:Int)then(if Ae=0 then(if x9.size + 1≤9223372036854775807 then(if 0≤Ae then(if 0≤(rd Al Ae)then(if(rd Al Ae) < (x5.length:Int)then(if(x9 ++ (⟨#[40]⟩:ByteArray)).size + (rdOf ByteArray.empty x5 (rd Al Ae)).size≤9223372036854775807 then(z8_.l2 k x4 x5 x6 ((x9 ++ (⟨#[40]⟩:ByteArray)) ++ (rdOf ByteArray.empty x5 (rd Al Ae))) (wrap64 (Ae + 1)) An Ao Aq By Di Du Ea Al)else(none))else(none))else(none))else(none))else(none))else(if x9.size + 2≤9223372036854775807 then(if 0≤Ae then(if 0≤(rd Al Ae)then(if(rd Al Ae) < (x5.length:Int)then(if(x9 ++ (⟨#[44,32]⟩:ByteArray)).size + (rdOf ByteArray.empty x5 (rd Al Ae)).size≤9223372036854775807 then(z8_.l2 k x4 x5 x6 ((x9 ++ (⟨#[44,32]⟩:ByteArray)) ++ (rdOf ByteArray.empty x5 (rd Al Ae))) (wrap64 (Ae + 1)) An Ao Aq By Di Du Ea Al)else(none))else(none))else(none))else(none))else(none)))else(if(Al.length:Int) > 0 then(if x9.size + 1≤9223372036854775807 then(z8_.j5 k x4 x5 x6 (x9 ++ (⟨#[41]⟩:ByteArray)) An Ao Aq By Di Du Ea Al)else(none))else(z8_.j5 k x4 x5 x6 x9 An Ao Aq By Di Du Ea Al))
def z8_.j4:Nat→List Int→List ByteArray→Int→Bool→List (S63)→Int→ByteArray→List Int→List (S33)→Int→ByteArray→List Int→Option (List ByteArray×Bool)
 | 0,_,_,_,_,_,_,_,_,_,_,_,_=>none
 | k + 1,x4,x5,x6,Fd,An,Ao,Aq,By,Di,Ae,Ff,Al=>if Fd=true then(if(Al.length:Int)=2 then((some (([(⟨#[32,43,32]⟩:ByteArray),(⟨#[32,45,32]⟩:ByteArray),(⟨#[32,42,32]⟩:ByteArray)]:List ByteArray):List ByteArray)).bind fun y209=>(if 0≤(wrap64 (Ae - 5))then(if(wrap64 (Ae - 5)) < (y209.length:Int)then(if 0 < (Al.length:Int)then((spec_l04Side.f An Ao Aq By Di x5 (rd Al 0)).bind fun Du=>(if Du.size + (rdOf ByteArray.empty y209 (wrap64 (Ae - 5))).size≤9223372036854775807 then(if 1 < (Al.length:Int)then((spec_l04Side.f An Ao Aq By Di x5 (rd Al 1)).bind fun Ea=>(if(Du ++ (rdOf ByteArray.empty y209 (wrap64 (Ae - 5)))).size + Ea.size≤9223372036854775807 then(z8_.j5 k x4 x5 x6 ((Du ++ (rdOf ByteArray.empty y209 (wrap64 (Ae - 5)))) ++ Ea) An Ao Aq By Di Ae Ff Al)else(none)))else(none))else(none)))else(none))else(none))else(none)))else(some (x5,false)))else(some (x5,false))
def z8_.l3:Nat→List Int→List ByteArray→List (S33)→Int→Option (List ByteArray×Bool)
 | 0,_,_,_,_=>none
 | k + 1,x4,x5,Ae,Al=>if Al < (Ae.length:Int)then(z8_.l4 k x4 x5 Ae Al 0)else(z8_.l5 k x4 x5 0)
def z8_.l4:Nat→List Int→List ByteArray→List (S33)→Int→Int→Option (List ByteArray×Bool)
 | 0,_,_,_,_,_=>none
 | k + 1,x4,x5,Al,Ae,An=>if 0≤Ae then(if Ae < (Al.length:Int)then(if An < (((y18 Al Ae).f2).length:Int)then(if 0≤An then((spec_l01Between.f (rd ((y18 Al Ae).f2) An) 0 (wrap64 ((x4.length:Int) - 1))).bind fun Ao=>(if Ao=true then(if 0≤(rd ((y18 Al Ae).f2) An)then(if(rd ((y18 Al Ae).f2) An) < (x4.length:Int)then(z8_.l4 k (x4.set ((rd ((y18 Al Ae).f2) An):Int).toNat (wrap64 ((rd x4 (rd ((y18 Al Ae).f2) An)) + 1))) x5 Al Ae (wrap64 (An + 1)))else(none))else(none))else(some (x5,false))))else(none))else(z8_.l3 k x4 x5 Al (wrap64 (Ae + 1))))else(none))else(none)
def z8_.l5:Nat→List Int→List ByteArray→Int→Option (List ByteArray×Bool)
 | 0,_,_,_=>none
 | k + 1,x4,x5,Ae=>if Ae < (x4.length:Int)then(if 0≤Ae then(if(rd x4 Ae)=1 then(z8_.l5 k x4 x5 (wrap64 (Ae + 1)))else(some (x5,false)))else(none))else(some (x5,true))
end
def z8_.f (k:Nat) (Ae:List (S63)) (Al:Int) (An:ByteArray) (Ao:List Int) (Aq:List (S33)):Option (List ByteArray×Bool):=if(Ae.length:Int) > 60 then(some ((([]:List ByteArray)),false))else(if 0≤(Ae.length:Int)then(if((Ae.length:Int):Int).toNat≤35184372088832 then(if((Ae.length:Int):Int).toNat≤17592186044416 then(z8_.l0 k (List.replicate ((Ae.length:Int):Int).toNat 0) (List.replicate ((Ae.length:Int):Int).toNat (⟨#[]⟩:ByteArray)) 0 Ae Al An Ao Aq)else(none))else(none))else(none))
def z8_.T40:Bool×List (List Nat×List Nat):=(true,[([],[]),([],[]),([],[]),([2],[2]),([3],[3]),([4],[4]),([0,1,5],[0,1,5]),([],[]),([6,7],[6,7]),([],[]),([],[]),([],[]),([11],[11]),([12],[12]),([13],[13]),([9,10,14,6],[9,10,14]),([8,15],[8,15]),([16,15,0,1,2,3,4,5,6,7,8,9,10,11,12,13,14,15,16],[16])])
def z8_.B40:List Nat:=[0,0,0,4,12,28,63,0,255,0,0,0,2048,6144,14336,32383,65535,131071]
theorem z8_.tab40:rtab .any (opsOf Try.f47 40)=z8_.T40:=by kernel_rfl
theorem z8_.bits40:waitsOk z8_.T40.2 z8_.B40=true:=by kernel_rfl
set_option maxHeartbeats 8000000 in
set_option maxRecDepth 100000 in
theorem z8_.calls (k:Nat) (Dm:Option Addr) (Cb:Nat) (Aa:List (S63)) (Az:Int) (Ba:ByteArray) (P0_3_:Nat→Prop) (Bf:Option Addr) (Bg:Nat) (Am:List Int) (P0_4_:Nat→Prop) (Bj:Option Addr) (Bk:Nat) (Ap:List (S33)) (r1:List ByteArray) (r2:Bool) (w:World) (Kk:Kd.C k63 w Dm Aa.length Aa) (Kl:Aa.length≤Cb) (Nw:Kd.V (Kd.int .i64) 3 w w.heap.size (fun k_=>P0_3_ k_) (.slice Bf Am.length Bg) Am) (Nx:Kd.V k33 33 w w.heap.size (fun k_=>P0_4_ k_) (.slice Bj Ap.length Bk) Ap) (h:z8_.f k Aa Az Ba Am Ap=some (r1,r2)) :
  Calls Try.prog 47 #[.agg #[.slice Dm Aa.length Cb,.int .i64 Az,.string Ba,.slice Bf Am.length Bg,.slice Bj Ap.length Bk]] w fun e w'=>∃ v0_:Value,e=.returned (.tuple #[v0_,.bool r2])∧Kd.R Kd.string 9 w' w.heap.size (fun k_=>(w.heap.size≤k_)) v0_ r1∧Below w.heap.size w w':=by
 have bF:=Try.underlying36
 have bG:=Try.underlying63
 have bH:=Try.underlying33
 have Gn:=y0.mk Kk
 have Km:=y0.mk Kl
 clear Kk Kl
 have Cl:=y0.mk (show Kd.V (Kd.int .i64) 3 w w.heap.size (fun k_=>((P0_3_ k_∨P0_4_ k_)∨w.heap.size≤k_)) (.slice Bf Am.length Bg) Am from Kd.V_mono Nw (fun k_ hk=>.inl (.inl hk)))
 have Cm:=y0.mk (show Kd.V k33 33 w w.heap.size (fun k_=>((P0_3_ k_∨P0_4_ k_)∨w.heap.size≤k_)) (.slice Bj Ap.length Bk) Ap from Kd.V_mono Nx (fun k_ hk=>.inl (.inr hk)))
 have HB:=y0.mk (Below.refl w.heap.size w)
 have H:(if(Aa.length:Int) > 60 then(some ((([]:List ByteArray)),false))else(if 0≤(Aa.length:Int)then(if((Aa.length:Int):Int).toNat≤35184372088832 then(if((Aa.length:Int):Int).toNat≤17592186044416 then(z8_.l0 k (List.replicate ((Aa.length:Int):Int).toNat 0) (List.replicate ((Aa.length:Int):Int).toNat (⟨#[]⟩:ByteArray)) 0 Aa Az Ba Am Ap)else(none))else(none))else(none)))=some (r1,r2):=h
 clear h
 by_cases c2:(Aa.length:Int) > 60
 ·as_aux_lemma =>
  rw [if_pos c2]at H
  have Ny:decide (60 < (Aa.length:Int))=true:=decide_eq_true c2
  have Nz:decide (60 < Aa.length)=true:=decide_eq_true (by omega)
  clear c2
  obtain⟨Uf,El⟩:∃ y_:List ByteArray,y_=(([]:List ByteArray)):=⟨_,rfl⟩
  replace H:(some (Uf,false))=some (r1,r2):=by first|exact El ▸ H|exact El ▸ (Option.bind_some _ _).symm.trans H
  replace El:=y0.mk El
  simp only [Option.some.injEq,Prod.mk.injEq]at H
  obtain⟨rfl,rfl⟩:=H
  go_enter Try.func47,Try.ntmps47
  go_wp2_with (first|((with_reducible refine y16 (N:=1) rfl ?_);(try(refine gate_guard (by rfl) ?_;dsimp only));refine qe 1 #[.slice Dm Aa.length Cb,.int .i64 Az,.string Ba,.slice Bf Am.length Bg,.slice Bj Ap.length Bk] 36 ?_;intro Ag hg w3 hbox hb;replace Cl:=y0.mk (Kd.V_below (Kd.V_elderB (qV Cl.out) Ag (Nat.le_of_eq hg.symm)) hb);replace Cm:=y0.mk (Kd.V_below (Kd.V_elderB (qV Cm.out) Ag (Nat.le_of_eq hg.symm)) hb);have Af:=y0.mk (hbox);have Oa:=y0.mk (qg (w:=w) hg);have Ob:=y0.mk (qg (w:=w) hg);replace HB:=y0.mk (y4 qb hb);clear hb hbox hg;obtain⟨Ug,Uh,Ui,Uj,Uk,Ul,Um,Uo,Up,Uq⟩:=qz5 Af.out)|((with_reducible refine y16 (N:=20) rfl ?_);(try(refine gate_guard (by rfl) ?_;dsimp only));refine qL Kd.string 9 20 ([]:List ByteArray) ?_;intro bI w5 Lc hb hg_ hnew_;clear hg_ hnew_;(first|rw [← El.out]at Lc|(simp only [Int.reduceToNat]at Lc;rw [← El.out]at Lc));replace Cl:=y0.mk (Kd.V_elder' (qV Cl.out) (Kd.R_base Lc) hb);replace Cm:=y0.mk (Kd.V_elder' (qV Cm.out) (Kd.R_base Lc) hb);have Oc:=y0.mk (Kd.R_lower (Kd.R_newM (M:=fun k_=>(w.heap.size≤k_)) Lc (y3 qb) (fun k_ h_=>h_)) (y3 qb));replace Af:=y0.mk (qK Af.out hb);replace HB:=y0.mk (y4 qb hb);clear hb Lc))
  go_ret2
  exact⟨_,by first|rfl|(simp [y12,y13] <;> rfl)|(simp [*,y12,y13] <;> rfl),by(with_reducible repeat(first|apply Kd.R_alloc|apply Kd.R_drewN|apply Kd.R_drew));exact Kd.R_mono Oc.out (fun _ hk=>hk.1),qb⟩
 ·as_aux_lemma =>
  rw [if_neg c2]at H
  have Ny:decide (60 < (Aa.length:Int))=false:=decide_eq_false c2
  have Nz:decide (60 < Aa.length)=false:=decide_eq_false (by omega)
  clear c2
  obtain⟨c7,H⟩:=qo H
  have Ur:=eq_true c7
  have Us:=decide_eq_true c7
  clear c7
  obtain⟨c8,H⟩:=qo H
  have Ut:=eq_true c8
  have Uu:=decide_eq_true c8
  clear c8
  obtain⟨Ld,Em⟩:∃ y_:List Int,y_=(List.replicate ((Aa.length:Int):Int).toNat 0):=⟨_,rfl⟩
  replace H:(if((Aa.length:Int):Int).toNat≤17592186044416 then(z8_.l0 k Ld (List.replicate ((Aa.length:Int):Int).toNat (⟨#[]⟩:ByteArray)) 0 Aa Az Ba Am Ap)else(none))=some (r1,r2):=by first|exact Em ▸ H|exact Em ▸ (Option.bind_some _ _).symm.trans H
  replace Em:=y0.mk Em
  obtain⟨c9,H⟩:=qo H
  have Uv:=eq_true c9
  have Uw:=decide_eq_true c9
  clear c9
  obtain⟨Od,En⟩:∃ y_:List ByteArray,y_=(List.replicate ((Aa.length:Int):Int).toNat (⟨#[]⟩:ByteArray)):=⟨_,rfl⟩
  replace H:(z8_.l0 k Ld Od 0 Aa Az Ba Am Ap)=some (r1,r2):=by first|exact En ▸ H|exact En ▸ (Option.bind_some _ _).symm.trans H
  replace En:=y0.mk En
  have H':=y0.mk H
  clear H
  go_enter Try.func47,Try.ntmps47
  go_wp2_with (first|((with_reducible refine y16 (N:=1) rfl ?_);(try(refine gate_guard (by rfl) ?_;dsimp only));refine qe 1 #[.slice Dm Aa.length Cb,.int .i64 Az,.string Ba,.slice Bf Am.length Bg,.slice Bj Ap.length Bk] 36 ?_;intro Ag hg cF hbox hb;replace Cl:=y0.mk (Kd.V_below (Kd.V_elderB (qV Cl.out) Ag (Nat.le_of_eq hg.symm)) hb);replace Cm:=y0.mk (Kd.V_below (Kd.V_elderB (qV Cm.out) Ag (Nat.le_of_eq hg.symm)) hb);have Af:=y0.mk (hbox);have Oa:=y0.mk (qg (w:=w) hg);have Ob:=y0.mk (qg (w:=w) hg);replace HB:=y0.mk (y4 qb hb);clear hb hbox hg;obtain⟨Hx,Hy,Hz,Ia,Ib,Ic,Id,Ie,If,Ig⟩:=qz5 Af.out)|((with_reducible refine y16 (N:=24) rfl ?_);(try(refine gate_guard (by rfl) ?_;dsimp only));refine Kd.R_make (Kd.int .i64) _ 3 rfl (N:=24) rfl 23 _ _ rfl (Aa.length:Int) rfl rfl Try.underlying23 (.int .i64 0) 8 info3 rfl (by decide) (by omega) 0 (ok:=fun _=>True) (okp:=fun _=>True) rfl (fun _ hk=>hk) trivial (of_decide_eq_true qy0) (Nat.le_trans (Nat.mul_le_mul_right _ (of_decide_eq_true qy0:(Aa.length:Int).toNat≤35184372088832)) (by omega)) (Below.refl _ _) (Nat.le_refl _) ?_;intro Bb cG Fd hb hg_ hnew_;clear hg_ hnew_;(first|rw [← Em.out]at Fd|(simp only [Int.reduceToNat]at Fd;rw [← Em.out]at Fd));replace Cl:=y0.mk (Kd.V_elder' (qV Cl.out) (Kd.R_base Fd) hb);replace Cm:=y0.mk (Kd.V_elder' (qV Cm.out) (Kd.R_base Fd) hb);have Gp:=y0.mk (Kd.R_lower (Kd.R_newM (M:=fun k_=>(w.heap.size≤k_)) Fd (y3 qb) (fun k_ h_=>h_)) (y3 qb));replace Af:=y0.mk (qK Af.out hb);replace HB:=y0.mk (y4 qb hb);clear hb Fd;obtain⟨Ih,Ii,Ij,Ik,Il,Im,Io,Ip,Iq,Ir⟩:=qz5 Af.out)|((with_reducible refine y16 (N:=28) rfl ?_);(try(refine gate_guard (by rfl) ?_;dsimp only));refine Kd.R_make Kd.string _ 9 rfl (N:=28) rfl 30 _ _ rfl (Aa.length:Int) rfl rfl Try.underlying30 (.string ⟨#[]⟩) 16 info9 rfl (by decide) (by omega) (⟨#[]⟩:ByteArray) (ok:=fun _=>True) (okp:=fun _=>True) rfl (fun _ hk=>hk) trivial (of_decide_eq_true qy0) (Nat.le_trans (Nat.mul_le_mul_right _ (of_decide_eq_true qy0:(Aa.length:Int).toNat≤17592186044416)) (by omega)) (Below.refl _ _) (Nat.le_refl _) ?_;intro Au cH Fe hb hg_ hnew_;clear hg_ hnew_;(first|rw [← En.out]at Fe|(simp only [Int.reduceToNat]at Fe;rw [← En.out]at Fe));replace Cl:=y0.mk (Kd.V_elder' (qV Cl.out) (Kd.R_base Fe) hb);replace Cm:=y0.mk (Kd.V_elder' (qV Cm.out) (Kd.R_base Fe) hb);replace Gp:=y0.mk (Kd.R_below (qR Gp.out) hb);have Oe:=y0.mk (Kd.R_lower (Kd.R_newM (M:=fun k_=>(w.heap.size≤k_)) Fe (y3 qb) (fun k_ h_=>h_)) (y3 qb));replace Af:=y0.mk (qK Af.out hb);replace HB:=y0.mk (y4 qb hb);clear hb Fe))
  go_loopg [6] k (fun kq v6 w'=>∃(Ff:List Int) (Aw:List ByteArray) (Ad:Int),v6=.int .i64 Ad∧y0 (z8_.l0 kq Ff Aw Ad Aa Az Ba Am Ap=some (r1,r2))∧y0 (kq≤k)∧y0 (Kd.R (Kd.int .i64) 3 w' w.heap.size (fun k_=>(w.heap.size≤k_)) Bb Ff)∧y0 (Kd.R Kd.string 9 w' w.heap.size (fun k_=>(w.heap.size≤k_)) Au Aw)∧y0 (Kd.V (Kd.int .i64) 3 w' w.heap.size (fun k_=>((P0_3_ k_∨P0_4_ k_)∨w.heap.size≤k_)∧some k_≠(Bb:Value).ownBlock∧some k_≠(Au:Value).ownBlock∧k_≠Ag) (.slice Bf Am.length Bg) Am)∧y0 (Kd.V k33 33 w' w.heap.size (fun k_=>((P0_3_ k_∨P0_4_ k_)∨w.heap.size≤k_)∧some k_≠(Bb:Value).ownBlock∧some k_≠(Au:Value).ownBlock∧k_≠Ag) (.slice Bj Ap.length Bk) Ap)∧y0 (w'.heap[Ag]?=some (.cells #[(.slice Dm Aa.length Cb),.int .i64 Az,.string Ba,(.slice Bf Am.length Bg),(.slice Bj Ap.length Bk)] 36 (0,0)))∧y0 (Below w.heap.size w w'))
  case atStart=>exact⟨(Ld),(Od),(0),qy2,H',⟨Nat.le_refl _⟩,⟨qR (Kd.R_mono Gp.out (fun _ hk=>hk.1))⟩,⟨qR (Kd.R_mono Oe.out (fun _ hk=>hk.1))⟩,⟨qV (Kd.V_mono Cl.out (fun _ hk=>⟨hk.1.1.1,⟨hk.1.2,⟨hk.2,hk.1.1.2⟩⟩⟩))⟩,⟨qV (Kd.V_mono Cm.out (fun _ hk=>⟨hk.1.1.1,⟨hk.1.2,⟨hk.2,hk.1.1.2⟩⟩⟩))⟩,⟨qk Af.out⟩,⟨qb⟩⟩
  case round =>
   clear H'
   (try clear Ny Nz Ur Us Ut Uu Uv Uw Hx Hy Hz Ia Ib Ih Ii Ij Ik Il Ic Id Ie If Ig Im Io Ip Iq Ir)
   obtain⟨Ff,Aw,Ad,rfl,HA,Cz,Ak,Aj,Ab,Ac,Af,HB⟩:=hrel
   cases gk with
   | zero=>exact absurd HA.out (by simp [z8_.l0])
   | succ k1 =>
    have H:=HA.out
    clear HA
    simp only [z8_.l0]at H
    by_cases Nr:Ad < (Aa.length:Int)
    ·as_aux_lemma =>
     rw [if_pos Nr]at H
     have Gq:=decide_eq_true Nr
     clear Nr
     obtain⟨Wz,H⟩:=qo H
     have Of:decide (0≤Ad)=true:=decide_eq_true Wz
     clear Wz
     have H':=y0.mk H
     clear H
     obtain⟨Is,Iu,Iv,Iw,Ix,Iy,Iz,Ja,Jb,Jc⟩:=qz5 Af.out
     have Jd:0≤(Ad:Int):=qd
     have Je:Ad < (Aa.length:Int):=qd
     obtain⟨Cr,Cc,Bq,Ux,De,Df,Dg,Fq,Fr⟩:=at_T63 Gn.out Ad Jd Je
     cases Ux
     replace De:=qC De HB
     replace Df:=qC Df HB
     replace Dg:=qC Dg HB
     have Ce:=y0.mk Fr
     have Rj:=y0.mk Fq
     clear Fr Fq
     replace Jd:=eq_true Jd
     replace Je:=eq_true Je
     go_wp2_with (first|((with_reducible refine y16 (N:=7) rfl ?_);(try(refine gate_guard (by rfl) ?_;dsimp only));refine qe 7 #[.int .i64 0,.string (⟨#[]⟩:ByteArray),.slice none 0 0] 63 ?_;intro Ar hg cI hbox hb;replace Ak:=y0.mk (Kd.R_below (qR Ak.out) hb);replace Aj:=y0.mk (Kd.R_below (qR Aj.out) hb);replace Ab:=y0.mk (Kd.V_below (Kd.V_elderB (qV Ab.out) Ar (Nat.le_of_eq hg.symm)) hb);replace Ac:=y0.mk (Kd.V_below (Kd.V_elderB (qV Ac.out) Ar (Nat.le_of_eq hg.symm)) hb);have Ai:=y0.mk (hbox);have Xa:=y0.mk (qg (w:=w) hg);have Xb:=y0.mk (qg (w:=w) hg);replace HB:=y0.mk (y4 qb hb);have As:=y0.mk (qn Af.out hg);have Av:=y0.mk (qm Af.out hg);replace Af:=y0.mk (qK Af.out hb);clear hb hbox hg;have Xc:=Av.out;have Xd:=As.out;obtain⟨Jf,Jg,Jh,Ji,Jj,Jk⟩:=qz3 Ai.out))
     go_loopg [8] k1 (fun kq v8 w'=>∃(Bc:List Int) (Bi:Int),v8=.int .i64 Bi∧y0 (z8_.l1 kq Bc Aw Ad Bi Aa Az Ba Am Ap ((y19 Aa Ad).f0) ((y19 Aa Ad).f1) ((y19 Aa Ad).f2)=some (r1,r2))∧y0 (kq≤k1)∧y0 (Kd.R (Kd.int .i64) 3 w' w.heap.size (fun k_=>(w.heap.size≤k_)) Bb Bc)∧y0 (Kd.R Kd.string 9 w' w.heap.size (fun k_=>(w.heap.size≤k_)) Au Aw)∧y0 (Kd.V (Kd.int .i64) 3 w' w.heap.size (fun k_=>((P0_3_ k_∨P0_4_ k_)∨w.heap.size≤k_)∧some k_≠(Bb:Value).ownBlock∧some k_≠(Au:Value).ownBlock∧k_≠Ag∧k_≠Ar) (.slice Bf Am.length Bg) Am)∧y0 (Kd.V k33 33 w' w.heap.size (fun k_=>((P0_3_ k_∨P0_4_ k_)∨w.heap.size≤k_)∧some k_≠(Bb:Value).ownBlock∧some k_≠(Au:Value).ownBlock∧k_≠Ag∧k_≠Ar) (.slice Bj Ap.length Bk) Ap)∧y0 (w'.heap[Ag]?=some (.cells #[(.slice (some Cr) Aa.length Cb),.int .i64 Az,.string Ba,(.slice Bf Am.length Bg),(.slice Bj Ap.length Bk)] 36 (0,0)))∧y0 (w'.heap[Ar]?=some (.cells #[.int .i64 ((y19 Aa Ad).f0),.string ((y19 Aa Ad).f1),(.slice Cc ((y19 Aa Ad).f2).length Bq)] 63 (0,0)))∧y0 (Below w.heap.size w w'))
     case atStart=>exact⟨(Ff),(0),qy2,H',⟨Nat.le_refl _⟩,⟨qR (Kd.R_mono (qfR Ar (Kd.R_types Ak.out Ai.out (by decide)) (.int .i64 ((y19 Aa Ad).f0)) (.string ((y19 Aa Ad).f1)) (.slice Cc ((y19 Aa Ad).f2).length Bq)) (fun _ hk=>hk.1))⟩,⟨qR (Kd.R_mono (qfR Ar (Kd.R_types Aj.out Ai.out (by decide)) (.int .i64 ((y19 Aa Ad).f0)) (.string ((y19 Aa Ad).f1)) (.slice Cc ((y19 Aa Ad).f2).length Bq)) (fun _ hk=>hk.1))⟩,⟨qV (Kd.V_mono (qfV Ar (Kd.V_mono Ab.out (fun k_ hk=>(⟨hk,hk.2⟩:_∧k_≠Ar))) (.int .i64 ((y19 Aa Ad).f0)) (.string ((y19 Aa Ad).f1)) (.slice Cc ((y19 Aa Ad).f2).length Bq)) (fun _ hk=>⟨hk.1.1.1,⟨hk.1.1.2.1,⟨hk.1.1.2.2.1,⟨hk.1.1.2.2.2,hk.1.2⟩⟩⟩⟩))⟩,⟨qV (Kd.V_mono (qfV Ar (Kd.V_mono Ac.out (fun k_ hk=>(⟨hk,hk.2⟩:_∧k_≠Ar))) (.int .i64 ((y19 Aa Ad).f0)) (.string ((y19 Aa Ad).f1)) (.slice Cc ((y19 Aa Ad).f2).length Bq)) (fun _ hk=>⟨hk.1.1.1,⟨hk.1.1.2.1,⟨hk.1.1.2.2.1,⟨hk.1.1.2.2.2,hk.1.2⟩⟩⟩⟩))⟩,⟨by(with_reducible repeat(first|refine y9 ?_ _|refine y8 ?_|refine y5 ?_ _));refine y10 ?_ As.out _;refine y10 ?_ As.out _;refine y10 ?_ As.out _;(with_reducible repeat(first|refine y9 ?_ _|refine y8 ?_|refine y5 ?_ _));exact Af.out⟩,⟨by(with_reducible repeat(first|refine y9 ?_ _|refine y8 ?_|refine y5 ?_ _));refine y11 (cs:=#[.int .i64 ((y19 Aa Ad).f0),.string ((y19 Aa Ad).f1),.slice none 0 0]) ?_ 2 _ rfl;refine y11 (cs:=#[.int .i64 ((y19 Aa Ad).f0),.string (⟨#[]⟩:ByteArray),.slice none 0 0]) ?_ 1 _ rfl;refine y11 (cs:=#[.int .i64 0,.string (⟨#[]⟩:ByteArray),.slice none 0 0]) ?_ 0 _ rfl;(with_reducible repeat(first|refine y9 ?_ _|refine y8 ?_|refine y5 ?_ _));exact Ai.out⟩,⟨qb⟩⟩
     case round =>
      clear H'
      (try clear Gq Of Is Iu Iv Iw Ix Jf Jg Jh Iy Iz Ja Jb Jc Ji Jj Jk De Df Dg Jd Je)
      obtain⟨Bc,Bi,rfl,HA,Cy,Ak,Aj,Ab,Ac,Af,Ai,HB⟩:=hrel
      cases gk with
      | zero=>exact absurd HA.out (by simp [z8_.l1])
      | succ k2 =>
       have H:=HA.out
       clear HA
       simp only [z8_.l1]at H
       by_cases Ns:Bi < (((y19 Aa Ad).f2).length:Int)
       ·as_aux_lemma =>
        rw [if_pos Ns]at H
        have Kq:=decide_eq_true Ns
        clear Ns
        obtain⟨Xe,H⟩:=qo H
        have Xf:decide (0≤Bi)=true:=decide_eq_true Xe
        clear Xe
        obtain⟨Uy,Xg,H⟩:=qB H
        by_cases Rl:Uy=true
        ·subst Rl
         replace H:=qT H
         obtain⟨Xh,H⟩:=qo H
         have Xi:decide (0≤(rd ((y19 Aa Ad).f2) Bi))=true:=decide_eq_true Xh
         clear Xh
         obtain⟨Xj,H⟩:=qo H
         have Xk:decide ((rd ((y19 Aa Ad).f2) Bi) < (Bc.length:Int))=true:=decide_eq_true Xj
         clear Xj
         obtain⟨Le,Eo⟩:∃ y_:List Int,y_=(Bc.set ((rd ((y19 Aa Ad).f2) Bi):Int).toNat (wrap64 ((rd Bc (rd ((y19 Aa Ad).f2) Bi)) + 1))):=⟨_,rfl⟩
         replace H:(z8_.l1 k2 Le Aw Ad (wrap64 (Bi + 1)) Aa Az Ba Am Ap ((y19 Aa Ad).f0) ((y19 Aa Ad).f1) ((y19 Aa Ad).f2))=some (r1,r2):=by first|exact Eo ▸ H|exact Eo ▸ (Option.bind_some _ _).symm.trans H
         replace Eo:=y0.mk Eo
         have H':=y0.mk H
         clear H
         have Xl:=Av.out
         have Xm:=As.out
         obtain⟨Fs,Ft,Fu,Fv,Fx,Fy⟩:=qz3 Ai.out
         have Fg:0≤(Bi:Int):=qd
         have Fh:Bi < (((y19 Aa Ad).f2).length:Int):=qd
         obtain⟨Gr,Lf,Bs⟩:=Kd.at_int Ce.out Bi Fg Fh
         cases Lf
         replace Bs:=qC Bs HB
         replace Fg:=eq_true Fg
         replace Fh:=eq_true Fh
         go_wp2_with (first|((with_reducible refine y15 (f:=23) rfl ?_);refine y17 (some 55) rfl rfl Try.func23 (by kernel_rfl) rfl #[.int .i64 (rd ((y19 Aa Ad).f2) Bi),.int .i64 0,.int .i64 (wrap64 (Ad - 1))] rfl qy1 ?_;(with_reducible refine(spec_l01Between.calls (rd ((y19 Aa Ad).f2) Bi) 0 (wrap64 (Ad - 1)) true _ Xg.out).mono ?_);rintro e w' ⟨rfl,⟨nd,rfl⟩⟩;refine⟨_,rfl, ?_⟩;(try(rw [drewN_self wr];have e1_:∀(n_:Nat) (a_:Addr),World.cell? wr a_=World.cell? (World.drewN wr n_) a_:=fun _ _=>rfl;have e2_:∀(n_:Nat) (a_:Addr),World.frozen? wr a_=World.frozen? (World.drewN wr n_) a_:=fun _ _=>rfl;generalize hq_:World.drewN wr _=wr;have e3_:=(fun a_=>(e1_ _ a_).trans (congrArg (fun w_=>World.cell? w_ a_) hq_));have e4_:=(fun a_=>(e2_ _ a_).trans (congrArg (fun w_=>World.frozen? w_ a_) hq_));clear e1_ e2_;(try replace Bs:=(e3_ _).symm.trans Bs);(try replace Fs:=(e3_ _).symm.trans Fs);(try replace Fv:=(e4_ _).symm.trans Fv);(try replace Ft:=(e3_ _).symm.trans Ft);(try replace Fx:=(e4_ _).symm.trans Fx);(try replace Fu:=(e3_ _).symm.trans Fu);(try replace Fy:=(e4_ _).symm.trans Fy);skip;clear e3_ e4_;have n0_:y0 (Kd.V (Kd.int .i64) 3 wr w.heap.size (fun k_=>((P0_3_ k_∨P0_4_ k_)∨w.heap.size≤k_)∧some k_≠(Bb:Value).ownBlock∧some k_≠(Au:Value).ownBlock∧k_≠Ag∧k_≠Ar) (.slice Bf Am.length Bg) Am):=⟨by rw [← hq_];exact(qV Ab.out)⟩;have n1_:y0 (Kd.V k33 33 wr w.heap.size (fun k_=>((P0_3_ k_∨P0_4_ k_)∨w.heap.size≤k_)∧some k_≠(Bb:Value).ownBlock∧some k_≠(Au:Value).ownBlock∧k_≠Ag∧k_≠Ar) (.slice Bj Ap.length Bk) Ap):=⟨by rw [← hq_];exact(qV Ac.out)⟩;have n2_:y0 (Kd.R (Kd.int .i64) 3 wr w.heap.size (fun k_=>(w.heap.size≤k_)) Bb Bc):=⟨by rw [← hq_];exact(qR Ak.out)⟩;have n3_:y0 (Kd.R Kd.string 9 wr w.heap.size (fun k_=>(w.heap.size≤k_)) Au Aw):=⟨by rw [← hq_];exact(qR Aj.out)⟩;have n4_:y0 (wr.heap[Ag]?=some (.cells #[.slice (some Cr) Aa.length Cb,.int .i64 Az,.string Ba,.slice Bf Am.length Bg,.slice Bj Ap.length Bk] 36 (0,0))):=⟨by rw [← hq_];exact(qk Af.out)⟩;have n5_:y0 (wr.heap[Ar]?=some (.cells #[.int .i64 ((y19 Aa Ad).f0),.string ((y19 Aa Ad).f1),.slice (some Gr) ((y19 Aa Ad).f2).length Bq] 63 (0,0))):=⟨by rw [← hq_];exact(qk Ai.out)⟩;have n6_:y0 (Below w.heap.size w wr):=⟨by rw [← hq_];exact qb⟩;clear Ab Ac Ak Aj Af Ai HB hq_;have Ab:=n0_;have Ac:=n1_;have Ak:=n2_;have Aj:=n3_;have Af:=n4_;have Ai:=n5_;have HB:=n6_;clear n0_ n1_ n2_ n3_ n4_ n5_ n6_));have Lg:0≤(Bi:Int):=qd;have Lh:Bi < (((y19 Aa Ad).f2).length:Int):=qd;obtain⟨Oh,Uz,Dx⟩:=Kd.at_int Ce.out Bi Lg Lh;obtain rfl:Gr=Oh:=(by injection Uz);replace Dx:=qC Dx HB;replace Lg:=eq_true Lg;replace Lh:=eq_true Lh;obtain⟨bJ,Gh,Va⟩:=Kd.R_slice Ak.out;subst Va;have Li:0≤((rd ((y19 Aa Ad).f2) Bi):Int):=qd;have Lj:(rd ((y19 Aa Ad).f2) Bi) < (Bc.length:Int):=qd;obtain⟨Xn,Vb,Jl⟩:=Kd.at_int (Kd.R_reads' Ak.out).2.2 (rd ((y19 Aa Ad).f2) Bi) Li Lj;cases Vb;replace Li:=eq_true Li;replace Lj:=eq_true Lj;have Vc:0≤((rd ((y19 Aa Ad).f2) Bi):Int):=qd;have Vd:((rd ((y19 Aa Ad).f2) Bi):Int) < ((Bc.length:Int):Int):=qd;obtain⟨Ep,bK,Oi,Oj,Ve,bL,Ok⟩:=Kd.R_form Ak.out (by omega);(first|cases Oi|(injection Oi with ea_ en_ ec_;(first|subst ea_|(injection ea_ with ea_;subst ea_));subst ec_;clear en_));have Vf:=y0.mk Oj;have bM:=y0.mk Ok;clear Oj Ve Ok;(first|simp only [add_plain]at Jl|skip);obtain⟨Vg,Vh⟩:=Kd.R_celln 0 Ak.out ((rd ((y19 Aa Ad).f2) Bi):Int) Vc Vd;replace Vc:=eq_true Vc;replace Vd:=eq_true Vd;obtain⟨hy33_,hz33_⟩:=Kd.R_celln 0 Ak.out ((rd ((y19 Aa Ad).f2) Bi):Int) (of_decide_eq_true qy0) (of_decide_eq_true qy0);have Lk:=Kd.R_putg Ak.out ((rd ((y19 Aa Ad).f2) Bi):Int) (wrap64 ((rd Bc (rd ((y19 Aa Ad).f2) Bi)) + 1)))|((with_reducible refine gate_store (t:=3) (p:=67) rfl ?_);refine store_event (t:=3) (p:=67) (v:=?vo_w34) (w1:=(wr.setCell ⟨Ep,((rd ((y19 Aa Ad).f2) Bi):Int).toNat,none⟩ (.int .i64 (wrap64 ((rd Bc (rd ((y19 Aa Ad).f2) Bi)) + 1))))) ?hg ?ho ?hn ?hr ?_;(case ho=>rfl);(case hg=>rfl);(case hn=>rfl);(case hr=>first|(go_simp;done)|(go_simp;rfl));intro Vi hw;have hg:wr.grownBy Vi (some Ep):=(by rw [hw];exact Lk.2);have hp_:Kd.R (Kd.int .i64) 3 Vi w.heap.size (fun k_=>(w.heap.size≤k_)) (.slice (some ⟨Ep,0,none⟩) Bc.length Gh) Le:=(by rw [hw,Eo.out];exact Lk.1);clear Lk;replace Aj:=y0.mk (Kd.R_over' (v:=(.slice (some ⟨Ep,0,none⟩) Bc.length Gh)) (qR Aj.out) (Kd.R_typed Ak.out) (by decide) hg);replace Ab:=y0.mk (Kd.V_afterv (v:=(.slice (some ⟨Ep,0,none⟩) Bc.length Gh)) (v1:=(.slice (some ⟨Ep,0,none⟩) Bc.length Gh)) (ok:=(fun k_=>((P0_3_ k_∨P0_4_ k_)∨w.heap.size≤k_)∧some k_≠(Au:Value).ownBlock∧k_≠Ag∧k_≠Ar)) (qV (Kd.V_mono Ab.out (fun _ hk=>⟨⟨hk.1,⟨hk.2.2.1,⟨hk.2.2.2.1,hk.2.2.2.2⟩⟩⟩,hk.2.1⟩))) hg (.inl rfl));replace Ac:=y0.mk (Kd.V_afterv (v:=(.slice (some ⟨Ep,0,none⟩) Bc.length Gh)) (v1:=(.slice (some ⟨Ep,0,none⟩) Bc.length Gh)) (ok:=(fun k_=>((P0_3_ k_∨P0_4_ k_)∨w.heap.size≤k_)∧some k_≠(Au:Value).ownBlock∧k_≠Ag∧k_≠Ar)) (qV (Kd.V_mono Ac.out (fun _ hk=>⟨⟨hk.1,⟨hk.2.2.1,⟨hk.2.2.2.1,hk.2.2.2.2⟩⟩⟩,hk.2.1⟩))) hg (.inl rfl));replace Af:=y0.mk (blk_grown (qk Af.out) hg (Kd.R_ne Ak.out Af.out (by decide)));replace Ai:=y0.mk (blk_grown (qk Ai.out) hg (Kd.R_ne Ak.out Ai.out (by decide)));replace Ak:=y0.mk (hp_);replace HB:=y0.mk ((by rw [hw];exact below_set (HB.out) Vf.out:Below w.heap.size w Vi));clear hg hw hp_))
         go_roundg k2
         case measure=>have:=Cz.out;have:=Cy.out;omega
         exact⟨(Le),(wrap64 (Bi + 1)),qy2,H',⟨by have:=Cz.out;have:=Cy.out;omega⟩,⟨qR Ak.out⟩,⟨qR Aj.out⟩,⟨qV (Kd.V_mono Ab.out (fun _ hk=>⟨hk.1.1,⟨hk.2,⟨hk.1.2.1,⟨hk.1.2.2.1,hk.1.2.2.2⟩⟩⟩⟩))⟩,⟨qV (Kd.V_mono Ac.out (fun _ hk=>⟨hk.1.1,⟨hk.2,⟨hk.1.2.1,⟨hk.1.2.2.1,hk.1.2.2.2⟩⟩⟩⟩))⟩,⟨qk Af.out⟩,⟨qk Ai.out⟩,⟨qb⟩⟩
        ·replace Rl:=Bool.eq_false_iff.mpr Rl
         subst Rl
         replace H:=qF H
         simp only [Option.some.injEq,Prod.mk.injEq]at H
         obtain⟨rfl,rfl⟩:=H
         have Xo:=Av.out
         have Xp:=As.out
         obtain⟨Rn,Ro,Rp,Rq,Rs,Rt⟩:=qz3 Ai.out
         have Fg:0≤(Bi:Int):=qd
         have Fh:Bi < (((y19 Aa Ad).f2).length:Int):=qd
         obtain⟨Gr,Lf,Bs⟩:=Kd.at_int Ce.out Bi Fg Fh
         cases Lf
         replace Bs:=qC Bs HB
         replace Fg:=eq_true Fg
         replace Fh:=eq_true Fh
         go_wp2_with (first|((with_reducible refine y15 (f:=23) rfl ?_);refine y17 (some 55) rfl rfl Try.func23 (by kernel_rfl) rfl #[.int .i64 (rd ((y19 Aa Ad).f2) Bi),.int .i64 0,.int .i64 (wrap64 (Ad - 1))] rfl qy1 ?_;(with_reducible refine(spec_l01Between.calls (rd ((y19 Aa Ad).f2) Bi) 0 (wrap64 (Ad - 1)) false _ Xg.out).mono ?_);rintro e w' ⟨rfl,⟨nd,rfl⟩⟩;refine⟨_,rfl, ?_⟩))
         go_ret2
         exact⟨_,by first|rfl|(simp [y12,y13] <;> rfl)|(simp [*,y12,y13] <;> rfl),by(with_reducible repeat(first|apply Kd.R_alloc|apply Kd.R_drewN|apply Kd.R_drew));exact Aj.out,qb⟩
       ·as_aux_lemma =>
        rw [if_neg Ns]at H
        have Kq:=decide_eq_false Ns
        clear Ns
        have Ll:=y0.mk H
        clear H
        have Xq:=Av.out
        have Xr:=As.out
        obtain⟨Jm,Jn,Jo,Jp,Jq,Jr⟩:=qz3 Ai.out
        go_upto_block 4 with(fail)
        go_cut [9] (fun v9 wc=>∃(kq:Nat) (Cs:ByteArray),v9=.string Cs∧y0 (z8_.j5 kq Bc Aw Ad Cs Aa Az Ba Am Ap ((y19 Aa Ad).f0) ((y19 Aa Ad).f1) ((y19 Aa Ad).f2)=some (r1,r2))∧y0 (kq≤k2)∧y0 (Kd.R (Kd.int .i64) 3 wc w.heap.size (fun k_=>(w.heap.size≤k_)) Bb Bc)∧y0 (Kd.R Kd.string 9 wc w.heap.size (fun k_=>(w.heap.size≤k_)) Au Aw)∧y0 (Kd.V (Kd.int .i64) 3 wc w.heap.size (fun k_=>((P0_3_ k_∨P0_4_ k_)∨w.heap.size≤k_)∧some k_≠(Bb:Value).ownBlock∧some k_≠(Au:Value).ownBlock∧k_≠Ag∧k_≠Ar) (.slice Bf Am.length Bg) Am)∧y0 (Kd.V k33 33 wc w.heap.size (fun k_=>((P0_3_ k_∨P0_4_ k_)∨w.heap.size≤k_)∧some k_≠(Bb:Value).ownBlock∧some k_≠(Au:Value).ownBlock∧k_≠Ag∧k_≠Ar) (.slice Bj Ap.length Bk) Ap)∧y0 (wc.heap[Ag]?=some (.cells #[(.slice (some Cr) Aa.length Cb),.int .i64 Az,.string Ba,(.slice Bf Am.length Bg),(.slice Bj Ap.length Bk)] 36 (0,0)))∧y0 (wc.heap[Ar]?=some (.cells #[.int .i64 ((y19 Aa Ad).f0),.string ((y19 Aa Ad).f1),(.slice Cc ((y19 Aa Ad).f2).length Bq)] 63 (0,0)))∧y0 (Below w.heap.size w wc))
        case first =>
         have H:=Ll.out
         clear Ll
         have Lm:=y0.mk H
         clear H
         go_upto_if 71 with(fail)
         go_cut [71] (fun bN wc=>∃(kq:Nat) (Dy:Bool),bN=.bool Dy∧y0 (z8_.j2 kq Bc Aw Ad ((y19 Aa Ad).f0) Dy Aa Az Ba Am Ap ((y19 Aa Ad).f0) ((y19 Aa Ad).f1) ((y19 Aa Ad).f2)=some (r1,r2))∧y0 (kq≤k2)∧y0 (Kd.R (Kd.int .i64) 3 wc w.heap.size (fun k_=>(w.heap.size≤k_)) Bb Bc)∧y0 (Kd.R Kd.string 9 wc w.heap.size (fun k_=>(w.heap.size≤k_)) Au Aw)∧y0 (Kd.V (Kd.int .i64) 3 wc w.heap.size (fun k_=>((P0_3_ k_∨P0_4_ k_)∨w.heap.size≤k_)∧some k_≠(Bb:Value).ownBlock∧some k_≠(Au:Value).ownBlock∧k_≠Ag∧k_≠Ar) (.slice Bf Am.length Bg) Am)∧y0 (Kd.V k33 33 wc w.heap.size (fun k_=>((P0_3_ k_∨P0_4_ k_)∨w.heap.size≤k_)∧some k_≠(Bb:Value).ownBlock∧some k_≠(Au:Value).ownBlock∧k_≠Ag∧k_≠Ar) (.slice Bj Ap.length Bk) Ap)∧y0 (wc.heap[Ag]?=some (.cells #[(.slice (some Cr) Aa.length Cb),.int .i64 Az,.string Ba,(.slice Bf Am.length Bg),(.slice Bj Ap.length Bk)] 36 (0,0)))∧y0 (wc.heap[Ar]?=some (.cells #[.int .i64 ((y19 Aa Ad).f0),.string ((y19 Aa Ad).f1),(.slice Cc ((y19 Aa Ad).f2).length Bq)] 63 (0,0)))∧y0 (Below w.heap.size w wc))
         case first =>
          have H:=Lm.out
          clear Lm
          by_cases Ln:((y19 Aa Ad).f0)=1
          ·as_aux_lemma =>
           rw [if_pos Ln]at H
           have Eq:(((y19 Aa Ad).f0) == 1)=true:=beq_iff_eq.mpr Ln
           have Ol:(((y19 Aa Ad).f0) != 1)=false:=bne_eq_false_iff_eq.mpr Ln
           clear Ln
           (first|rw [Eq]|(simp only [i64_w,i32_w];rw [Eq])|skip)
           have H':=y0.mk H
           clear H
           go_wp2
           go_meet
           exact⟨_,((((y19 Aa Ad).f0) == 1)),qy2,H',⟨by have:=Cz.out;have:=Cy.out;first|omega|exact Nat.le_refl _⟩,⟨qR Ak.out⟩,⟨qR Aj.out⟩,⟨qV Ab.out⟩,⟨qV Ac.out⟩,⟨qk Af.out⟩,⟨qk Ai.out⟩,⟨qb⟩⟩
          ·as_aux_lemma =>
           rw [if_neg Ln]at H
           have Eq:(((y19 Aa Ad).f0) == 1)=false:=beq_eq_false_iff_ne.mpr Ln
           have Ol:(((y19 Aa Ad).f0) != 1)=true:=bne_iff_ne.mpr Ln
           (first|rw [Eq]|(simp only [i64_w,i32_w];rw [Eq])|skip)
           have H':=y0.mk H
           clear H
           go_wp2
           go_meet
           exact⟨_,((((y19 Aa Ad).f0) == 3)),qy2,H',⟨by have:=Cz.out;have:=Cy.out;first|omega|exact Nat.le_refl _⟩,⟨qR Ak.out⟩,⟨qR Aj.out⟩,⟨qV Ab.out⟩,⟨qV Ac.out⟩,⟨qk Af.out⟩,⟨qk Ai.out⟩,⟨qb⟩⟩
         case rest =>
          clear Lm
          (try clear Kq Jm Jn Jo Jp Jq Jr)
          obtain⟨kq,Dy,rfl,HA,Dc,Ak,Aj,Ab,Ac,Af,Ai,HB⟩:=hcut
          cases kq with
          | zero=>exact absurd HA.out (by simp [z8_.j2])
          | succ Lo =>
           have H:=HA.out
           clear HA
           simp only [z8_.j2]at H
           by_cases Om:Dy=true
           ·subst Om
            replace H:=qT H
            have H':=y0.mk H
            clear H
            have Xs:=Av.out
            have Xt:=As.out
            obtain⟨Ru,Rv,Rw,Rx,Ry,Rz⟩:=qz3 Ai.out
            go_wp2
            go_meet
            exact⟨_,(((y19 Aa Ad).f1)),qy2,H',⟨by have:=Cz.out;have:=Cy.out;have:=Dc.out;first|omega|exact Nat.le_refl _⟩,⟨qR Ak.out⟩,⟨qR Aj.out⟩,⟨qV Ab.out⟩,⟨qV Ac.out⟩,⟨qk Af.out⟩,⟨qk Ai.out⟩,⟨qb⟩⟩
           ·replace Om:=Bool.eq_false_iff.mpr Om
            subst Om
            replace H:=qF H
            by_cases Lp:((y19 Aa Ad).f0)=2
            ·as_aux_lemma =>
             rw [if_pos Lp]at H
             have Kr:(((y19 Aa Ad).f0) == 2)=true:=beq_iff_eq.mpr Lp
             have Ks:(((y19 Aa Ad).f0) != 2)=false:=bne_eq_false_iff_eq.mpr Lp
             clear Lp
             have H':=y0.mk H
             clear H
             go_wp2
             go_meet
             exact⟨_,((⟨#[95]⟩:ByteArray)),qy2,H',⟨by have:=Cz.out;have:=Cy.out;have:=Dc.out;first|omega|exact Nat.le_refl _⟩,⟨qR Ak.out⟩,⟨qR Aj.out⟩,⟨qV Ab.out⟩,⟨qV Ac.out⟩,⟨qk Af.out⟩,⟨qk Ai.out⟩,⟨qb⟩⟩
            ·as_aux_lemma =>
             rw [if_neg Lp]at H
             have Kr:(((y19 Aa Ad).f0) == 2)=false:=beq_eq_false_iff_ne.mpr Lp
             have Ks:(((y19 Aa Ad).f0) != 2)=true:=bne_iff_ne.mpr Lp
             by_cases Lq:((y19 Aa Ad).f0)=4
             ·as_aux_lemma =>
              rw [if_pos Lq]at H
              have Gs:(((y19 Aa Ad).f0) == 4)=true:=beq_iff_eq.mpr Lq
              have Gt:(((y19 Aa Ad).f0) != 4)=false:=bne_eq_false_iff_eq.mpr Lq
              clear Lq
              have H':=y0.mk H
              clear H
              have Xu:=Av.out
              have Xv:=As.out
              obtain⟨Js,Jt,Ju,Jv,Jw,Jx⟩:=qz3 Ai.out
              go_wp2
              go_loopg [9,10] Lo (fun kq v9 bO w'=>∃(Dz:ByteArray) (Ay:Int),v9=.string Dz∧bO=.int .i64 Ay∧y0 (z8_.l2 kq Bc Aw Ad Dz Ay Aa Az Ba Am Ap ((y19 Aa Ad).f0) ((y19 Aa Ad).f1) ((y19 Aa Ad).f2)=some (r1,r2))∧y0 (kq≤Lo)∧y0 (Kd.R (Kd.int .i64) 3 w' w.heap.size (fun k_=>(w.heap.size≤k_)) Bb Bc)∧y0 (Kd.R Kd.string 9 w' w.heap.size (fun k_=>(w.heap.size≤k_)) Au Aw)∧y0 (Kd.V (Kd.int .i64) 3 w' w.heap.size (fun k_=>((P0_3_ k_∨P0_4_ k_)∨w.heap.size≤k_)∧some k_≠(Bb:Value).ownBlock∧some k_≠(Au:Value).ownBlock∧k_≠Ag∧k_≠Ar) (.slice Bf Am.length Bg) Am)∧y0 (Kd.V k33 33 w' w.heap.size (fun k_=>((P0_3_ k_∨P0_4_ k_)∨w.heap.size≤k_)∧some k_≠(Bb:Value).ownBlock∧some k_≠(Au:Value).ownBlock∧k_≠Ag∧k_≠Ar) (.slice Bj Ap.length Bk) Ap)∧y0 (w'.heap[Ag]?=some (.cells #[(.slice (some Cr) Aa.length Cb),.int .i64 Az,.string Ba,(.slice Bf Am.length Bg),(.slice Bj Ap.length Bk)] 36 (0,0)))∧y0 (w'.heap[Ar]?=some (.cells #[.int .i64 ((y19 Aa Ad).f0),.string ((y19 Aa Ad).f1),(.slice Cc ((y19 Aa Ad).f2).length Bq)] 63 (0,0)))∧y0 (Below w.heap.size w w'))
              case atStart=>exact⟨(((y19 Aa Ad).f1)),(0),qy2,qy2,H',⟨Nat.le_refl _⟩,⟨qR Ak.out⟩,⟨qR Aj.out⟩,⟨qV Ab.out⟩,⟨qV Ac.out⟩,⟨qk Af.out⟩,⟨qk Ai.out⟩,⟨qb⟩⟩
              case round =>
               clear H'
               (try clear Om Kr Ks Gs Gt Js Jt Ju Jv Jw Jx)
               obtain⟨Dz,Ay,rfl,rfl,HA,Nt,Ak,Aj,Ab,Ac,Af,Ai,HB⟩:=hrel
               cases gk with
               | zero=>exact absurd HA.out (by simp [z8_.l2])
               | succ k4 =>
                have H:=HA.out
                clear HA
                simp only [z8_.l2]at H
                by_cases Nu:Ay < (((y19 Aa Ad).f2).length:Int)
                ·as_aux_lemma =>
                 rw [if_pos Nu]at H
                 have On:=decide_eq_true Nu
                 clear Nu
                 by_cases Lr:Ay=0
                 ·as_aux_lemma =>
                  rw [if_pos Lr]at H
                  have Oo:(Ay == 0)=true:=beq_iff_eq.mpr Lr
                  have Oq:(Ay != 0)=false:=bne_eq_false_iff_eq.mpr Lr
                  clear Lr
                  obtain⟨Vj,H⟩:=qo H
                  have Xw:=eq_true Vj
                  have Xx:=decide_eq_true Vj
                  have Xy:=eq_false (Nat.not_lt.2 Vj)
                  obtain⟨Xz,H⟩:=qo H
                  have Ya:decide (0≤Ay)=true:=decide_eq_true Xz
                  clear Xz
                  obtain⟨Yb,H⟩:=qo H
                  have Yc:decide (0≤(rd ((y19 Aa Ad).f2) Ay))=true:=decide_eq_true Yb
                  clear Yb
                  obtain⟨Yd,H⟩:=qo H
                  have Ye:decide ((rd ((y19 Aa Ad).f2) Ay) < (Aw.length:Int))=true:=decide_eq_true Yd
                  clear Yd
                  obtain⟨Vk,H⟩:=qo H
                  have Yf:=eq_true Vk
                  have Yg:=decide_eq_true Vk
                  have Ot:=eq_false (Nat.not_lt.2 Vk)
                  have Yh:(9223372036854775807 < Dz.size + 1 + (rdOf ByteArray.empty Aw (rd ((y19 Aa Ad).f2) Ay)).size)=False:=qs Ot
                  have H':=y0.mk H
                  clear H
                  have Yi:=Av.out
                  have Yj:=As.out
                  obtain⟨Sa,Sb,Sc,Sd,Se,Sf⟩:=qz3 Ai.out
                  have Ls:0≤(Ay:Int):=qd
                  have Lt:Ay < (((y19 Aa Ad).f2).length:Int):=qd
                  obtain⟨Yk,Vl,Ea⟩:=Kd.at_int Ce.out Ay Ls Lt
                  cases Vl
                  replace Ea:=qC Ea HB
                  replace Ls:=eq_true Ls
                  replace Lt:=eq_true Lt
                  obtain⟨bP,bQ,Vm⟩:=Kd.R_slice Aj.out
                  subst Vm
                  have Lu:0≤((rd ((y19 Aa Ad).f2) Ay):Int):=qd
                  have Lv:(rd ((y19 Aa Ad).f2) Ay) < (Aw.length:Int):=qd
                  obtain⟨Yl,Vn,Sg⟩:=Kd.at_string (Kd.R_reads' Aj.out).2.2 (rd ((y19 Aa Ad).f2) Ay) Lu Lv
                  cases Vn
                  replace Lu:=eq_true Lu
                  replace Lv:=eq_true Lv
                  go_wp2
                  go_roundg k4
                  case measure=>have:=Cz.out;have:=Cy.out;have:=Dc.out;have:=Nt.out;omega
                  exact⟨((Dz ++ (⟨#[40]⟩:ByteArray)) ++ (rdOf ByteArray.empty Aw (rd ((y19 Aa Ad).f2) Ay))),(wrap64 (Ay + 1)),qy2,qy2,H',⟨by have:=Cz.out;have:=Cy.out;have:=Dc.out;have:=Nt.out;omega⟩,⟨qR Ak.out⟩,⟨qR Aj.out⟩,⟨qV Ab.out⟩,⟨qV Ac.out⟩,⟨qk Af.out⟩,⟨qk Ai.out⟩,⟨qb⟩⟩
                 ·as_aux_lemma =>
                  rw [if_neg Lr]at H
                  have Oo:(Ay == 0)=false:=beq_eq_false_iff_ne.mpr Lr
                  have Oq:(Ay != 0)=true:=bne_iff_ne.mpr Lr
                  obtain⟨Vo,H⟩:=qo H
                  have Ym:=eq_true Vo
                  have Yn:=decide_eq_true Vo
                  have Yo:=eq_false (Nat.not_lt.2 Vo)
                  obtain⟨Yp,H⟩:=qo H
                  have Yq:decide (0≤Ay)=true:=decide_eq_true Yp
                  clear Yp
                  obtain⟨Yr,H⟩:=qo H
                  have Ys:decide (0≤(rd ((y19 Aa Ad).f2) Ay))=true:=decide_eq_true Yr
                  clear Yr
                  obtain⟨Yt,H⟩:=qo H
                  have Yu:decide ((rd ((y19 Aa Ad).f2) Ay) < (Aw.length:Int))=true:=decide_eq_true Yt
                  clear Yt
                  obtain⟨Vp,H⟩:=qo H
                  have Yv:=eq_true Vp
                  have Yw:=decide_eq_true Vp
                  have Ou:=eq_false (Nat.not_lt.2 Vp)
                  have Yx:(9223372036854775807 < Dz.size + 2 + (rdOf ByteArray.empty Aw (rd ((y19 Aa Ad).f2) Ay)).size)=False:=qs Ou
                  have H':=y0.mk H
                  clear H
                  have Yy:=Av.out
                  have Yz:=As.out
                  obtain⟨Sh,Si,Sj,Sk,Sl,Sm⟩:=qz3 Ai.out
                  have Lw:0≤(Ay:Int):=qd
                  have Lx:Ay < (((y19 Aa Ad).f2).length:Int):=qd
                  obtain⟨Za,Vq,Eb⟩:=Kd.at_int Ce.out Ay Lw Lx
                  cases Vq
                  replace Eb:=qC Eb HB
                  replace Lw:=eq_true Lw
                  replace Lx:=eq_true Lx
                  obtain⟨bR,bS,Vr⟩:=Kd.R_slice Aj.out
                  subst Vr
                  have Ly:0≤((rd ((y19 Aa Ad).f2) Ay):Int):=qd
                  have Lz:(rd ((y19 Aa Ad).f2) Ay) < (Aw.length:Int):=qd
                  obtain⟨Zb,Vs,Sn⟩:=Kd.at_string (Kd.R_reads' Aj.out).2.2 (rd ((y19 Aa Ad).f2) Ay) Ly Lz
                  cases Vs
                  replace Ly:=eq_true Ly
                  replace Lz:=eq_true Lz
                  go_wp2
                  go_roundg k4
                  case measure=>have:=Cz.out;have:=Cy.out;have:=Dc.out;have:=Nt.out;omega
                  exact⟨((Dz ++ (⟨#[44,32]⟩:ByteArray)) ++ (rdOf ByteArray.empty Aw (rd ((y19 Aa Ad).f2) Ay))),(wrap64 (Ay + 1)),qy2,qy2,H',⟨by have:=Cz.out;have:=Cy.out;have:=Dc.out;have:=Nt.out;omega⟩,⟨qR Ak.out⟩,⟨qR Aj.out⟩,⟨qV Ab.out⟩,⟨qV Ac.out⟩,⟨qk Af.out⟩,⟨qk Ai.out⟩,⟨qb⟩⟩
                ·as_aux_lemma =>
                 rw [if_neg Nu]at H
                 have On:=decide_eq_false Nu
                 clear Nu
                 by_cases Nv:(((y19 Aa Ad).f2).length:Int) > 0
                 ·as_aux_lemma =>
                  rw [if_pos Nv]at H
                  have Ov:decide (0 < (((y19 Aa Ad).f2).length:Int))=true:=decide_eq_true Nv
                  have Ow:decide (0 < ((y19 Aa Ad).f2).length)=true:=decide_eq_true (by omega)
                  clear Nv
                  obtain⟨Vt,H⟩:=qo H
                  have Zc:=eq_true Vt
                  have Zd:=decide_eq_true Vt
                  have Ze:=eq_false (Nat.not_lt.2 Vt)
                  have H':=y0.mk H
                  clear H
                  have Zf:=Av.out
                  have Zg:=As.out
                  obtain⟨So,Sp,Sq,Sr,Ss,St⟩:=qz3 Ai.out
                  go_wp2
                  go_meet
                  exact⟨_,(Dz ++ (⟨#[41]⟩:ByteArray)),qy2,H',⟨by have:=Cz.out;have:=Cy.out;have:=Dc.out;have:=Nt.out;first|omega|exact Nat.le_refl _⟩,⟨qR Ak.out⟩,⟨qR Aj.out⟩,⟨qV Ab.out⟩,⟨qV Ac.out⟩,⟨qk Af.out⟩,⟨qk Ai.out⟩,⟨qb⟩⟩
                 ·as_aux_lemma =>
                  rw [if_neg Nv]at H
                  have Ov:decide (0 < (((y19 Aa Ad).f2).length:Int))=false:=decide_eq_false Nv
                  have Ow:decide (0 < ((y19 Aa Ad).f2).length)=false:=decide_eq_false (by omega)
                  clear Nv
                  have H':=y0.mk H
                  clear H
                  have Zh:=Av.out
                  have Zi:=As.out
                  obtain⟨Su,Sv,Sw,Sx,Sy,Sz⟩:=qz3 Ai.out
                  go_wp2
                  go_meet
                  exact⟨_,(Dz),qy2,H',⟨by have:=Cz.out;have:=Cy.out;have:=Dc.out;have:=Nt.out;first|omega|exact Nat.le_refl _⟩,⟨qR Ak.out⟩,⟨qR Aj.out⟩,⟨qV Ab.out⟩,⟨qV Ac.out⟩,⟨qk Af.out⟩,⟨qk Ai.out⟩,⟨qb⟩⟩
             ·as_aux_lemma =>
              rw [if_neg Lq]at H
              have Gs:(((y19 Aa Ad).f0) == 4)=false:=beq_eq_false_iff_ne.mpr Lq
              have Gt:(((y19 Aa Ad).f0) != 4)=true:=bne_iff_ne.mpr Lq
              have Ma:=y0.mk H
              clear H
              go_upto_if 111 with(fail)
              go_cut [111] (fun Vu wc=>∃(kq:Nat) (Dh:Bool),Vu=.bool Dh∧y0 (z8_.j4 kq Bc Aw Ad Dh Aa Az Ba Am Ap ((y19 Aa Ad).f0) ((y19 Aa Ad).f1) ((y19 Aa Ad).f2)=some (r1,r2))∧y0 (kq≤Lo)∧y0 (Kd.R (Kd.int .i64) 3 wc w.heap.size (fun k_=>(w.heap.size≤k_)) Bb Bc)∧y0 (Kd.R Kd.string 9 wc w.heap.size (fun k_=>(w.heap.size≤k_)) Au Aw)∧y0 (Kd.V (Kd.int .i64) 3 wc w.heap.size (fun k_=>((P0_3_ k_∨P0_4_ k_)∨w.heap.size≤k_)∧some k_≠(Bb:Value).ownBlock∧some k_≠(Au:Value).ownBlock∧k_≠Ag∧k_≠Ar) (.slice Bf Am.length Bg) Am)∧y0 (Kd.V k33 33 wc w.heap.size (fun k_=>((P0_3_ k_∨P0_4_ k_)∨w.heap.size≤k_)∧some k_≠(Bb:Value).ownBlock∧some k_≠(Au:Value).ownBlock∧k_≠Ag∧k_≠Ar) (.slice Bj Ap.length Bk) Ap)∧y0 (wc.heap[Ag]?=some (.cells #[(.slice (some Cr) Aa.length Cb),.int .i64 Az,.string Ba,(.slice Bf Am.length Bg),(.slice Bj Ap.length Bk)] 36 (0,0)))∧y0 (wc.heap[Ar]?=some (.cells #[.int .i64 ((y19 Aa Ad).f0),.string ((y19 Aa Ad).f1),(.slice Cc ((y19 Aa Ad).f2).length Bq)] 63 (0,0)))∧y0 (Below w.heap.size w wc))
              case first =>
               have H:=Ma.out
               clear Ma
               by_cases Mb:((y19 Aa Ad).f0)=5
               ·as_aux_lemma =>
                rw [if_pos Mb]at H
                have Er:(((y19 Aa Ad).f0) == 5)=true:=beq_iff_eq.mpr Mb
                have Ox:(((y19 Aa Ad).f0) != 5)=false:=bne_eq_false_iff_eq.mpr Mb
                clear Mb
                (first|rw [Er]|(simp only [i64_w,i32_w];rw [Er])|skip)
                have H':=y0.mk H
                clear H
                go_wp2
                go_meet
                exact⟨_,((((y19 Aa Ad).f0) == 5)),qy2,H',⟨by have:=Cz.out;have:=Cy.out;have:=Dc.out;first|omega|exact Nat.le_refl _⟩,⟨qR Ak.out⟩,⟨qR Aj.out⟩,⟨qV Ab.out⟩,⟨qV Ac.out⟩,⟨qk Af.out⟩,⟨qk Ai.out⟩,⟨qb⟩⟩
               ·as_aux_lemma =>
                rw [if_neg Mb]at H
                have Er:(((y19 Aa Ad).f0) == 5)=false:=beq_eq_false_iff_ne.mpr Mb
                have Ox:(((y19 Aa Ad).f0) != 5)=true:=bne_iff_ne.mpr Mb
                (first|rw [Er]|(simp only [i64_w,i32_w];rw [Er])|skip)
                by_cases Mc:((y19 Aa Ad).f0)=6
                ·as_aux_lemma =>
                 rw [if_pos Mc]at H
                 have Oy:(((y19 Aa Ad).f0) == 6)=true:=beq_iff_eq.mpr Mc
                 have Oz:(((y19 Aa Ad).f0) != 6)=false:=bne_eq_false_iff_eq.mpr Mc
                 clear Mc
                 have H':=y0.mk H
                 clear H
                 go_wp2
                 go_meet
                 exact⟨_,((((y19 Aa Ad).f0) == 6)),qy2,H',⟨by have:=Cz.out;have:=Cy.out;have:=Dc.out;first|omega|exact Nat.le_refl _⟩,⟨qR Ak.out⟩,⟨qR Aj.out⟩,⟨qV Ab.out⟩,⟨qV Ac.out⟩,⟨qk Af.out⟩,⟨qk Ai.out⟩,⟨qb⟩⟩
                ·as_aux_lemma =>
                 rw [if_neg Mc]at H
                 have Oy:(((y19 Aa Ad).f0) == 6)=false:=beq_eq_false_iff_ne.mpr Mc
                 have Oz:(((y19 Aa Ad).f0) != 6)=true:=bne_iff_ne.mpr Mc
                 have H':=y0.mk H
                 clear H
                 go_wp2
                 go_meet
                 exact⟨_,((((y19 Aa Ad).f0) == 7)),qy2,H',⟨by have:=Cz.out;have:=Cy.out;have:=Dc.out;first|omega|exact Nat.le_refl _⟩,⟨qR Ak.out⟩,⟨qR Aj.out⟩,⟨qV Ab.out⟩,⟨qV Ac.out⟩,⟨qk Af.out⟩,⟨qk Ai.out⟩,⟨qb⟩⟩
              case rest =>
               clear Ma
               (try clear Gs Gt)
               obtain⟨kq,Dh,rfl,HA,Vv,Ak,Aj,Ab,Ac,Af,Ai,HB⟩:=hcut
               cases kq with
               | zero=>exact absurd HA.out (by simp [z8_.j4])
               | succ Pa =>
                have H:=HA.out
                clear HA
                simp only [z8_.j4]at H
                by_cases Ta:Dh=true
                ·subst Ta
                 replace H:=qT H
                 by_cases Md:(((y19 Aa Ad).f2).length:Int)=2
                 ·as_aux_lemma =>
                  rw [if_pos Md]at H
                  have Pb:((((y19 Aa Ad).f2).length:Int) == 2)=true:=beq_iff_eq.mpr Md
                  have Pc:((((y19 Aa Ad).f2).length:Int) != 2)=false:=bne_eq_false_iff_eq.mpr Md
                  clear Md
                  obtain⟨Dd,Es⟩:∃ y_:List ByteArray,y_=(([(⟨#[32,43,32]⟩:ByteArray),(⟨#[32,45,32]⟩:ByteArray),(⟨#[32,42,32]⟩:ByteArray)]:List ByteArray)):=⟨_,rfl⟩
                  replace H:(if 0≤(wrap64 (((y19 Aa Ad).f0) - 5))then(if(wrap64 (((y19 Aa Ad).f0) - 5)) < (Dd.length:Int)then(if 0 < (((y19 Aa Ad).f2).length:Int)then((spec_l04Side.f Aa Az Ba Am Ap Aw (rd ((y19 Aa Ad).f2) 0)).bind fun Do=>(if Do.size + (rdOf ByteArray.empty Dd (wrap64 (((y19 Aa Ad).f0) - 5))).size≤9223372036854775807 then(if 1 < (((y19 Aa Ad).f2).length:Int)then((spec_l04Side.f Aa Az Ba Am Ap Aw (rd ((y19 Aa Ad).f2) 1)).bind fun Ec=>(if(Do ++ (rdOf ByteArray.empty Dd (wrap64 (((y19 Aa Ad).f0) - 5)))).size + Ec.size≤9223372036854775807 then(z8_.j5 Pa Bc Aw Ad ((Do ++ (rdOf ByteArray.empty Dd (wrap64 (((y19 Aa Ad).f0) - 5)))) ++ Ec) Aa Az Ba Am Ap ((y19 Aa Ad).f0) ((y19 Aa Ad).f1) ((y19 Aa Ad).f2))else(none)))else(none))else(none)))else(none))else(none))else(none))=some (r1,r2):=by first|exact Es ▸ H|exact Es ▸ (Option.bind_some _ _).symm.trans H
                  replace Es:=y0.mk Es
                  obtain⟨Da,Et⟩:∃ j_:Int,(wrap64 (((y19 Aa Ad).f0) - 5))=j_:=⟨_,rfl⟩
                  replace H:(if 0≤(Da)then(if(Da) < (Dd.length:Int)then(if 0 < (((y19 Aa Ad).f2).length:Int)then((spec_l04Side.f Aa Az Ba Am Ap Aw (rd ((y19 Aa Ad).f2) 0)).bind fun Do=>(if Do.size + (rdOf ByteArray.empty Dd (Da)).size≤9223372036854775807 then(if 1 < (((y19 Aa Ad).f2).length:Int)then((spec_l04Side.f Aa Az Ba Am Ap Aw (rd ((y19 Aa Ad).f2) 1)).bind fun Ec=>(if(Do ++ (rdOf ByteArray.empty Dd (Da))).size + Ec.size≤9223372036854775807 then(z8_.j5 Pa Bc Aw Ad ((Do ++ (rdOf ByteArray.empty Dd (Da))) ++ Ec) Aa Az Ba Am Ap ((y19 Aa Ad).f0) ((y19 Aa Ad).f1) ((y19 Aa Ad).f2))else(none)))else(none))else(none)))else(none))else(none))else(none))=some (r1,r2):=by first|(rw [Et]at H;exact H)|(simp only [Et]at H ⊢;exact H)
                  have hji78w:(IntKind.i64.wrap (((y19 Aa Ad).f0) - 5))=Da:=(i64_w _).trans Et
                  obtain⟨Zj,H⟩:=qo H
                  have Zk:decide (0≤(Da))=true:=decide_eq_true Zj
                  clear Zj
                  obtain⟨Zl,H⟩:=qo H
                  have Zm:decide ((Da) < (Dd.length:Int))=true:=decide_eq_true Zl
                  clear Zl
                  obtain⟨Zn,H⟩:=qo H
                  have Zo:decide (0 < (((y19 Aa Ad).f2).length:Int))=true:=decide_eq_true Zn
                  have Zp:decide (0 < ((y19 Aa Ad).f2).length)=true:=decide_eq_true (by omega)
                  clear Zn
                  obtain⟨Do,bT,H⟩:=qB H
                  obtain⟨Vw,H⟩:=qo H
                  have Zq:=eq_true Vw
                  have Zr:=decide_eq_true Vw
                  have Zs:=eq_false (Nat.not_lt.2 Vw)
                  obtain⟨Zt,H⟩:=qo H
                  have Zu:decide (1 < (((y19 Aa Ad).f2).length:Int))=true:=decide_eq_true Zt
                  have Zv:decide (1 < ((y19 Aa Ad).f2).length)=true:=decide_eq_true (by omega)
                  clear Zt
                  obtain⟨Ec,bU,H⟩:=qB H
                  obtain⟨Vx,H⟩:=qo H
                  have Zw:=eq_true Vx
                  have Zx:=decide_eq_true Vx
                  have Pd:=eq_false (Nat.not_lt.2 Vx)
                  have Zy:(9223372036854775807 < Do.size + (rdOf ByteArray.empty Dd (Da)).size + Ec.size)=False:=qs Pd
                  have H':=y0.mk H
                  clear H
                  have Zz:=Av.out
                  have aA:=As.out
                  obtain⟨Tc,Td,Te,Tf,Tg,Th⟩:=qz3 Ai.out
                  try go_wp2_with (first|((with_reducible refine y16 (N:=120) rfl ?_);(try(refine gate_guard (by rfl) ?_;dsimp only));refine qL Kd.string 9 120 ([(⟨#[32,43,32]⟩:ByteArray),(⟨#[32,45,32]⟩:ByteArray),(⟨#[32,42,32]⟩:ByteArray)]:List ByteArray) ?_;intro bV bW Eu hb hg_ hnew_;clear hg_ hnew_;(first|rw [← Es.out]at Eu|(simp only [Int.reduceToNat]at Eu;rw [← Es.out]at Eu));replace Ak:=y0.mk (Kd.R_below (qR Ak.out) hb);replace Ab:=y0.mk (Kd.V_elder' (qV Ab.out) (Kd.R_base Eu) hb);replace Ac:=y0.mk (Kd.V_elder' (qV Ac.out) (Kd.R_base Eu) hb);have Ct:=y0.mk (Kd.R_lower (Kd.R_new' (Kd.R_newM (M:=fun k_=>(w.heap.size≤k_)) Eu (y3 qb) (fun k_ h_=>h_)) (Kd.R_lt (qR Aj.out))) (y3 qb));replace Aj:=y0.mk (Kd.R_elder' (qR Aj.out) (Kd.R_base Eu) hb);replace Af:=y0.mk (qK Af.out hb);replace Ai:=y0.mk (qK Ai.out hb);replace HB:=y0.mk (y4 qb hb);clear hb Eu;obtain⟨Ti,Tj,Tk,Tl,Tm,Tn⟩:=qz3 Ai.out;obtain⟨bX,bY,Vy⟩:=Kd.R_slice Ct.out;subst Vy;have Me:0≤((Da):Int):=qd;have Mf:(Da) < (Dd.length:Int):=qd;obtain⟨aC,Vz,To⟩:=Kd.at_string (Kd.R_reads' Ct.out).2.2 (Da) Me Mf;cases Vz;replace Me:=eq_true Me;replace Mf:=eq_true Mf))
                  replace Ak:=y0.mk (Kd.R_drew Ak.out)
                  replace Aj:=y0.mk (Kd.R_drew Aj.out)
                  replace Ab:=y0.mk (Kd.V_drew Ab.out)
                  replace Ac:=y0.mk (Kd.V_drew Ac.out)
                  replace Ct:=y0.mk (Kd.R_drew Ct.out)
                  replace Af:=y0.mk (y8 Af.out)
                  replace Ai:=y0.mk (y8 Ai.out)
                  replace HB:=y0.mk (y2 HB.out)
                  have Mg:0≤(0:Int):=(by omega)
                  have Mh:0 < (((y19 Aa Ad).f2).length:Int):=qd
                  obtain⟨Ew,Wa,Cf⟩:=Kd.at_int Ce.out 0 Mg Mh
                  have Bt:=Cf
                  (try rw [show((0:Int)).toNat=0 from rfl]at Bt)
                  (try rw [show 0 * 1=0 from rfl]at Bt)
                  (try rw [Addr.add_zero']at Bt)
                  cases Wa
                  have aD:(0 < ((y19 Aa Ad).f2).length)=True:=eq_true (by omega)
                  (try rw [show((0:Int)).toNat=0 from rfl]at Cf)
                  (try rw [Addr.add_zero']at Cf)
                  replace Cf:=qC Cf HB
                  replace Mg:=eq_true Mg
                  replace Mh:=eq_true Mh
                  have Mi:0≤(1:Int):=(by omega)
                  have Mj:1 < (((y19 Aa Ad).f2).length:Int):=qd
                  obtain⟨Pe,Wb,Cg⟩:=Kd.at_int Ce.out 1 Mi Mj
                  have Bu:=Cg
                  (try rw [show((1:Int)).toNat=1 from rfl]at Bu)
                  (try rw [show 1 * 1=1 from rfl]at Bu)
                  (try simp only [Nat.reduceMul,Nat.reduceEqDiff,Go.Addr.add,↓reduceIte]at Bu)
                  obtain rfl:Ew=Pe:=(by injection Wb)
                  (try simp only [show(1:Int).toNat=1 from rfl,Nat.reduceMul,Nat.reduceEqDiff,Go.Addr.add,↓reduceIte]at Cg)
                  have aE:(1 < ((y19 Aa Ad).f2).length)=True:=eq_true (by omega)
                  (try rw [show((1:Int)).toNat=1 from rfl]at Cg)
                  replace Cg:=qC Cg HB
                  replace Mi:=eq_true Mi
                  replace Mj:=eq_true Mj
                  obtain⟨Pf,Pg,Ph⟩:=Kd.R_slice Aj.out
                  (first|subst Ph|(injection Ph with f1_ f2_ f3_;have f4_:=f1_.symm;have f5_:=f3_.symm;clear f1_ f2_ f3_;subst f4_;subst f5_))
                  refine start_ (n:=18) (S:=fun w'=>w'.cell? ⟨Ag,0,none⟩=some (.slice (some Cr) Aa.length Cb)∧w'.cell? ⟨Ag,1,none⟩=some (.int .i64 Az)∧w'.cell? ⟨Ag,2,none⟩=some (.string Ba)∧w'.cell? ⟨Ag,3,none⟩=some (.slice Bf Am.length Bg)∧w'.cell? ⟨Ag,4,none⟩=some (.slice Bj Ap.length Bk)∧w'.cell? ⟨Ar,0,none⟩=some (.int .i64 ((y19 Aa Ad).f0))∧w'.cell? ⟨Ar,1,none⟩=some (.string ((y19 Aa Ad).f1))∧w'.cell? ⟨Ar,2,none⟩=some (.slice (some Ew) ((y19 Aa Ad).f2).length Bq)∧w'.cell? Ew=some (.int .i64 (rd ((y19 Aa Ad).f2) 0))∧w'.cell? ⟨Ew.block,Ew.off + 1,none⟩=some (.int .i64 (rd ((y19 Aa Ad).f2) 1))) (ds:=[]) (fl_ 18 0) (by kernel_rfl) rfl rfl ⟨(y7 Af.out 0).trans rfl,(y7 Af.out 1).trans rfl,(y7 Af.out 2).trans rfl,(y7 Af.out 3).trans rfl,(y7 Af.out 4).trans rfl,(y7 Ai.out 0).trans rfl,(y7 Ai.out 1).trans rfl,(y7 Ai.out 2).trans rfl,(qC Bt HB),(qC Bu HB)⟩ (fun hHeld=>?_);refine with_tabW z8_.tab40 z8_.bits40 (fun HT_ HW_=>?_)
                  generalize bW.drew=cJ at Ak Aj Ab Ac Ct Af Ai HB Cf Cg hHeld ⊢
                  refine qp 1 127 (fl_ 18 2) ?_
                  refine qp 2 128 (fl_ 18 6) ?_
                  refine qp 7 133 (fl_ 18 134) ?_
                  refine qp 10 136 (fl_ 18 1158) ?_
                  refine qp 11 137 (fl_ 18 3206) ?_
                  refine qt 0 126 (fl_ 18 3207) hHeld ?_
                  refine qt 3 129 (fl_ 18 3215) hHeld ?_
                  refine qp 4 130 (fl_ 18 3231) ?_
                  refine qt 5 131 (fl_ 18 3263) hHeld ?_
                  refine qt 9 135 (fl_ 18 3775) hHeld ?_
                  refine qt 12 138 (fl_ 18 7871) hHeld ?_
                  refine qp 13 139 (fl_ 18 16063) ?_
                  refine qt 14 140 (fl_ 18 32447) hHeld ?_
                  refine qO 6 132 (fl_ 18 32511) (fun K hK=>?_)
                  refine goes_ Try.func66 (by kernel_rfl) rfl #[.agg #[.slice (some Cr) Aa.length Cb,.int .i64 Az,.string Ba,.slice Bf Am.length Bg,.slice Bj Ap.length Bk],.slice Pf Aw.length Pg,.int .i64 (rd ((y19 Aa Ad).f2) 0)] (by rfl) rfl rfl qy1 ?_
                  with_reducible refine(spec_l04Side.calls _ _ Aa Az Ba _ _ Am _ _ Ap _ _ Aw (rd ((y19 Aa Ad).f2) 0) Do _ (qc (Kd.C_below Gn.out HB.out)) Km.out (qc ((Kd.V_reads' Ab.out).2.2)) (by exact(Kd.V_reads' Ab.out).2.1) (qc ((Kd.V_reads' Ac.out).2.2)) (by exact(Kd.V_reads' Ac.out).2.1) (qc ((Kd.R_reads' Aj.out).2.2)) (by exact(Kd.R_reads' Aj.out).2.1) bT.out).mono ?_
                  rintro e cL ⟨rfl,hb⟩
                  refine⟨_,rfl, ?_⟩
                  replace Ak:=y0.mk (Kd.R_below (qR Ak.out) hb)
                  replace Aj:=y0.mk (Kd.R_below (qR Aj.out) hb)
                  replace Ab:=y0.mk (Kd.V_below (qV Ab.out) hb)
                  replace Ac:=y0.mk (Kd.V_below (qV Ac.out) hb)
                  replace Ct:=y0.mk (Kd.R_below (qR Ct.out) hb)
                  replace Af:=y0.mk (qK Af.out hb)
                  replace Ai:=y0.mk (qK Ai.out hb)
                  replace HB:=y0.mk (y4 qb hb)
                  (try clear hb)
                  refine hK.out _ _ ⟨(y7 Af.out 0).trans rfl,(y7 Af.out 1).trans rfl,(y7 Af.out 2).trans rfl,(y7 Af.out 3).trans rfl,(y7 Af.out 4).trans rfl,(y7 Ai.out 0).trans rfl,(y7 Ai.out 1).trans rfl,(y7 Ai.out 2).trans rfl,(qC Bt HB),(qC Bu HB)⟩ (fun hHeld=>?_)
                  clear hK K
                  refine qx 132 ?_
                  refine qp 8 134 (fl_ 18 32767) ?_
                  refine qO 15 141 (fl_ 18 65535) (fun K hK=>?_)
                  refine goes_ Try.func66 (by kernel_rfl) rfl #[.agg #[.slice (some Cr) Aa.length Cb,.int .i64 Az,.string Ba,.slice Bf Am.length Bg,.slice Bj Ap.length Bk],.slice Pf Aw.length Pg,.int .i64 (rd ((y19 Aa Ad).f2) 1)] (by rfl) rfl rfl qy1 ?_
                  with_reducible refine(spec_l04Side.calls _ _ Aa Az Ba _ _ Am _ _ Ap _ _ Aw (rd ((y19 Aa Ad).f2) 1) Ec _ (qc (Kd.C_below Gn.out HB.out)) Km.out (qc ((Kd.V_reads' Ab.out).2.2)) (by exact(Kd.V_reads' Ab.out).2.1) (qc ((Kd.V_reads' Ac.out).2.2)) (by exact(Kd.V_reads' Ac.out).2.1) (qc ((Kd.R_reads' Aj.out).2.2)) (by exact(Kd.R_reads' Aj.out).2.1) bU.out).mono ?_
                  rintro e cM ⟨rfl,hb⟩
                  refine⟨_,rfl, ?_⟩
                  replace Ak:=y0.mk (Kd.R_below (qR Ak.out) hb)
                  replace Aj:=y0.mk (Kd.R_below (qR Aj.out) hb)
                  replace Ab:=y0.mk (Kd.V_below (qV Ab.out) hb)
                  replace Ac:=y0.mk (Kd.V_below (qV Ac.out) hb)
                  replace Ct:=y0.mk (Kd.R_below (qR Ct.out) hb)
                  replace Af:=y0.mk (qK Af.out hb)
                  replace Ai:=y0.mk (qK Ai.out hb)
                  replace HB:=y0.mk (y4 qb hb)
                  (try clear hb)
                  refine hK.out _ _ ⟨(y7 Af.out 0).trans rfl,(y7 Af.out 1).trans rfl,(y7 Af.out 2).trans rfl,(y7 Af.out 3).trans rfl,(y7 Af.out 4).trans rfl,(y7 Ai.out 0).trans rfl,(y7 Ai.out 1).trans rfl,(y7 Ai.out 2).trans rfl,(qC Bt HB),(qC Bu HB)⟩ (fun hHeld=>?_)
                  clear hK K
                  refine qx 141 ?_
                  refine qp 16 142 (fl_ 18 131071) ?_
                  refine qp 17 9 (fl_ 18 262143) ?_
                  refine done_ (done_of HT_.out (by kernel_rfl)) ?_
                  try go_wp2
                  go_meet
                  exact⟨_,((Do ++ (rdOf ByteArray.empty Dd (Da))) ++ Ec),(by first|rfl|(simp;done)|(simp only [← Et] <;> (first|rfl|simp))|(simp [*];done)),(by first|exact H'|(have h_:=H';simp only [← Et]at h_ ⊢;exact h_)),⟨by have:=Cz.out;have:=Cy.out;have:=Dc.out;have:=Vv.out;first|omega|exact Nat.le_refl _⟩,⟨qR Ak.out⟩,⟨qR (Kd.R_mono Aj.out (fun _ hk=>hk.1))⟩,⟨qV (Kd.V_mono Ab.out (fun _ hk=>⟨hk.1.1,⟨hk.1.2.1,⟨hk.1.2.2.1,⟨hk.1.2.2.2.1,hk.1.2.2.2.2⟩⟩⟩⟩))⟩,⟨qV (Kd.V_mono Ac.out (fun _ hk=>⟨hk.1.1,⟨hk.1.2.1,⟨hk.1.2.2.1,⟨hk.1.2.2.2.1,hk.1.2.2.2.2⟩⟩⟩⟩))⟩,⟨qk Af.out⟩,⟨qk Ai.out⟩,⟨qb⟩⟩
                 ·as_aux_lemma =>
                  rw [if_neg Md]at H
                  have Pb:((((y19 Aa Ad).f2).length:Int) == 2)=false:=beq_eq_false_iff_ne.mpr Md
                  have Pc:((((y19 Aa Ad).f2).length:Int) != 2)=true:=bne_iff_ne.mpr Md
                  simp only [Option.some.injEq,Prod.mk.injEq]at H
                  obtain⟨rfl,rfl⟩:=H
                  have aG:=Av.out
                  have aH:=As.out
                  obtain⟨Tp,Tq,Tr,Ts,Tt,Tu⟩:=qz3 Ai.out
                  go_wp2
                  go_ret2
                  exact⟨_,by first|rfl|(simp [y12,y13] <;> rfl)|(simp [*,y12,y13] <;> rfl),by(with_reducible repeat(first|apply Kd.R_alloc|apply Kd.R_drewN|apply Kd.R_drew));exact Aj.out,qb⟩
                ·replace Ta:=Bool.eq_false_iff.mpr Ta
                 subst Ta
                 replace H:=qF H
                 simp only [Option.some.injEq,Prod.mk.injEq]at H
                 obtain⟨rfl,rfl⟩:=H
                 go_wp2
                 go_ret2
                 exact⟨_,by first|rfl|(simp [y12,y13] <;> rfl)|(simp [*,y12,y13] <;> rfl),by(with_reducible repeat(first|apply Kd.R_alloc|apply Kd.R_drewN|apply Kd.R_drew));exact Aj.out,qb⟩
        case rest =>
         clear Ll
         obtain⟨kq,Cs,rfl,HA,Gu,Ak,Aj,Ab,Ac,Af,Ai,HB⟩:=hcut
         cases kq with
         | zero=>exact absurd HA.out (by simp [z8_.j5])
         | succ Wc =>
          have H:=HA.out
          clear HA
          simp only [z8_.j5]at H
          have Ml:=y0.mk H
          clear H
          go_upto_region 41 with(fail)
          go_cut [156] (fun Wd wc=>∃(kq:Nat) (Di:Bool),Wd=.bool Di∧y0 (z8_.j6 kq Bc Aw Ad Cs Di Aa Az Ba Am Ap=some (r1,r2))∧y0 (kq≤Wc)∧y0 (Kd.R (Kd.int .i64) 3 wc w.heap.size (fun k_=>(w.heap.size≤k_)) Bb Bc)∧y0 (Kd.R Kd.string 9 wc w.heap.size (fun k_=>(w.heap.size≤k_)) Au Aw)∧y0 (Kd.V (Kd.int .i64) 3 wc w.heap.size (fun k_=>((P0_3_ k_∨P0_4_ k_)∨w.heap.size≤k_)∧some k_≠(Bb:Value).ownBlock∧some k_≠(Au:Value).ownBlock∧k_≠Ag∧k_≠Ar) (.slice Bf Am.length Bg) Am)∧y0 (Kd.V k33 33 wc w.heap.size (fun k_=>((P0_3_ k_∨P0_4_ k_)∨w.heap.size≤k_)∧some k_≠(Bb:Value).ownBlock∧some k_≠(Au:Value).ownBlock∧k_≠Ag∧k_≠Ar) (.slice Bj Ap.length Bk) Ap)∧y0 (wc.heap[Ag]?=some (.cells #[(.slice (some Cr) Aa.length Cb),.int .i64 Az,.string Ba,(.slice Bf Am.length Bg),(.slice Bj Ap.length Bk)] 36 (0,0)))∧y0 (wc.heap[Ar]?=some (.cells #[.int .i64 ((y19 Aa Ad).f0),.string ((y19 Aa Ad).f1),(.slice Cc ((y19 Aa Ad).f2).length Bq)] 63 (0,0)))∧y0 (Below w.heap.size w wc))
          case first =>
           have H:=Ml.out
           clear Ml
           by_cases Gi:((y19 Aa Ad).f0)≤3
           ·as_aux_lemma =>
            rw [if_pos Gi]at H
            have Dp:=decide_eq_true Gi
            clear Gi
            (first|rw [Dp]|(simp only [i64_w,i32_w];rw [Dp])|skip)
            by_cases Gj:(((y19 Aa Ad).f2).length:Int) > 0
            ·as_aux_lemma =>
             rw [if_pos Gj]at H
             have Mm:decide (0 < (((y19 Aa Ad).f2).length:Int))=true:=decide_eq_true Gj
             have Mn:decide (0 < ((y19 Aa Ad).f2).length)=true:=decide_eq_true (by omega)
             clear Gj
             have H':=y0.mk H
             clear H
             have We:=Av.out
             have Wf:=As.out
             obtain⟨Pj,Pk,Pm,Pn,Po,Pp⟩:=qz3 Ai.out
             go_wp2
             go_meet
             exact⟨_,(true),qy2,H',⟨by have:=Cz.out;have:=Cy.out;have:=Gu.out;first|omega|exact Nat.le_refl _⟩,⟨qR Ak.out⟩,⟨qR Aj.out⟩,⟨qV Ab.out⟩,⟨qV Ac.out⟩,⟨qk Af.out⟩,⟨qk Ai.out⟩,⟨qb⟩⟩
            ·as_aux_lemma =>
             rw [if_neg Gj]at H
             have Mm:decide (0 < (((y19 Aa Ad).f2).length:Int))=false:=decide_eq_false Gj
             have Mn:decide (0 < ((y19 Aa Ad).f2).length)=false:=decide_eq_false (by omega)
             clear Gj
             have H':=y0.mk H
             clear H
             have Wg:=Av.out
             have Wh:=As.out
             obtain⟨Pq,Pr,Ps,Pt,Pu,Pv⟩:=qz3 Ai.out
             go_wp2
             go_meet
             exact⟨_,(decide ((Cs.size:Int) > 3000)),qy2,H',⟨by have:=Cz.out;have:=Cy.out;have:=Gu.out;first|omega|exact Nat.le_refl _⟩,⟨qR Ak.out⟩,⟨qR Aj.out⟩,⟨qV Ab.out⟩,⟨qV Ac.out⟩,⟨qk Af.out⟩,⟨qk Ai.out⟩,⟨qb⟩⟩
           ·as_aux_lemma =>
            rw [if_neg Gi]at H
            have Dp:=decide_eq_false Gi
            clear Gi
            (first|rw [Dp]|(simp only [i64_w,i32_w];rw [Dp])|skip)
            have H':=y0.mk H
            clear H
            have Wj:=Av.out
            have Wk:=As.out
            obtain⟨Px,Py,Pz,Qa,Qb,Qc⟩:=qz3 Ai.out
            go_wp2
            go_meet
            exact⟨_,(decide ((Cs.size:Int) > 3000)),qy2,H',⟨by have:=Cz.out;have:=Cy.out;have:=Gu.out;first|omega|exact Nat.le_refl _⟩,⟨qR Ak.out⟩,⟨qR Aj.out⟩,⟨qV Ab.out⟩,⟨qV Ac.out⟩,⟨qk Af.out⟩,⟨qk Ai.out⟩,⟨qb⟩⟩
          case rest =>
           clear Ml
           obtain⟨kq,Di,rfl,HA,Qd,Ak,Aj,Ab,Ac,Af,Ai,HB⟩:=hcut
           cases kq with
           | zero=>exact absurd HA.out (by simp [z8_.j6])
           | succ Qe =>
            have H:=HA.out
            clear HA
            simp only [z8_.j6]at H
            by_cases Jy:Di=true
            ·subst Jy
             replace H:=qT H
             simp only [Option.some.injEq,Prod.mk.injEq]at H
             obtain⟨rfl,rfl⟩:=H
             go_wp2
             go_ret2
             exact⟨_,by first|rfl|(simp [y12,y13] <;> rfl)|(simp [*,y12,y13] <;> rfl),by(with_reducible repeat(first|apply Kd.R_alloc|apply Kd.R_drewN|apply Kd.R_drew));exact Aj.out,qb⟩
            ·replace Jy:=Bool.eq_false_iff.mpr Jy
             subst Jy
             replace H:=qF H
             obtain⟨Qf,H⟩:=qo H
             have Wl:decide (0≤Ad)=true:=decide_eq_true Qf
             clear Qf
             obtain⟨Qg,H⟩:=qo H
             have Wm:decide (Ad < (Aw.length:Int))=true:=decide_eq_true Qg
             clear Qg
             obtain⟨Mo,Ex⟩:∃ y_:List ByteArray,y_=(Aw.set (Ad:Int).toNat Cs):=⟨_,rfl⟩
             replace H:(z8_.l0 Qe Bc Mo (wrap64 (Ad + 1)) Aa Az Ba Am Ap)=some (r1,r2):=by first|exact Ex ▸ H|exact Ex ▸ (Option.bind_some _ _).symm.trans H
             replace Ex:=y0.mk Ex
             have H':=y0.mk H
             clear H
             have Mp:0≤(Ad:Int):=qd
             have Mq:(Ad:Int) < ((Aw.length:Int):Int):=qd
             obtain⟨Db,Du,Ku,Kv,Qi,aI,Kw⟩:=Kd.R_form Aj.out (by omega)
             (first|cases Ku|(injection Ku with ea_ en_ ec_;(first|subst ea_|(injection ea_ with ea_;subst ea_));subst ec_;clear en_))
             have Qj:=y0.mk Kv
             have aJ:=y0.mk Kw
             clear Kv Qi Kw
             obtain⟨Tv,Tw⟩:=Kd.R_celln (⟨#[]⟩:ByteArray) Aj.out (Ad:Int) Mp Mq
             replace Mp:=eq_true Mp
             replace Mq:=eq_true Mq
             have Gv:=Kd.R_putg Aj.out (Ad:Int) Cs
             go_wp2_with (first|((with_reducible refine gate_store (t:=9) (p:=161) rfl ?_);refine store_event (t:=9) (p:=161) (v:=?vo_w113) (w1:=(wc.setCell ⟨Db,(Ad:Int).toNat,none⟩ (.string Cs))) ?hg ?ho ?hn ?hr ?_;(case ho=>rfl);(case hg=>rfl);(case hn=>rfl);(case hr=>first|(go_simp;done)|(go_simp;rfl));intro Mr hw;have hg:wc.grownBy Mr (some Db):=(by rw [hw];exact Gv.2);have hp_:Kd.R Kd.string 9 Mr w.heap.size (fun k_=>(w.heap.size≤k_)) (.slice (some ⟨Db,0,none⟩) Aw.length Du) Mo:=(by rw [hw,Ex.out];exact Gv.1);clear Gv;replace Ak:=y0.mk (Kd.R_over' (v:=(.slice (some ⟨Db,0,none⟩) Aw.length Du)) (qR Ak.out) (Kd.R_typed Aj.out) (by decide) hg);replace Ab:=y0.mk (Kd.V_afterv (v:=(.slice (some ⟨Db,0,none⟩) Aw.length Du)) (v1:=(.slice (some ⟨Db,0,none⟩) Aw.length Du)) (ok:=(fun k_=>((P0_3_ k_∨P0_4_ k_)∨w.heap.size≤k_)∧some k_≠(Bb:Value).ownBlock∧k_≠Ag∧k_≠Ar)) (qV (Kd.V_mono Ab.out (fun _ hk=>⟨⟨hk.1,⟨hk.2.1,⟨hk.2.2.2.1,hk.2.2.2.2⟩⟩⟩,hk.2.2.1⟩))) hg (.inl rfl));replace Ac:=y0.mk (Kd.V_afterv (v:=(.slice (some ⟨Db,0,none⟩) Aw.length Du)) (v1:=(.slice (some ⟨Db,0,none⟩) Aw.length Du)) (ok:=(fun k_=>((P0_3_ k_∨P0_4_ k_)∨w.heap.size≤k_)∧some k_≠(Bb:Value).ownBlock∧k_≠Ag∧k_≠Ar)) (qV (Kd.V_mono Ac.out (fun _ hk=>⟨⟨hk.1,⟨hk.2.1,⟨hk.2.2.2.1,hk.2.2.2.2⟩⟩⟩,hk.2.2.1⟩))) hg (.inl rfl));replace Af:=y0.mk (blk_grown (qk Af.out) hg (Kd.R_ne Aj.out Af.out (by decide)));replace Ai:=y0.mk (blk_grown (qk Ai.out) hg (Kd.R_ne Aj.out Ai.out (by decide)));replace Aj:=y0.mk (hp_);replace HB:=y0.mk ((by rw [hw];exact below_set (HB.out) Qj.out:Below w.heap.size w Mr));clear hg hw hp_))
             go_roundg Qe
             case measure=>have:=Cz.out;have:=Cy.out;have:=Gu.out;have:=Qd.out;omega
             exact⟨(Bc),(Mo),(wrap64 (Ad + 1)),qy2,H',⟨by have:=Cz.out;have:=Cy.out;have:=Gu.out;have:=Qd.out;omega⟩,⟨qR Ak.out⟩,⟨qR Aj.out⟩,⟨qV (Kd.V_mono Ab.out (fun _ hk=>⟨hk.1.1,⟨hk.1.2.1,⟨hk.2,hk.1.2.2.1⟩⟩⟩))⟩,⟨qV (Kd.V_mono Ac.out (fun _ hk=>⟨hk.1.1,⟨hk.1.2.1,⟨hk.2,hk.1.2.2.1⟩⟩⟩))⟩,⟨qk Af.out⟩,⟨qb⟩⟩
    ·as_aux_lemma =>
     rw [if_neg Nr]at H
     have Gq:=decide_eq_false Nr
     clear Nr
     obtain⟨Jz,Ey⟩:∃ y_:List (S33),y_=(([(⟨Az,Ba,Am⟩:S33)]:List (S33))):=⟨_,rfl⟩
     replace H:(if Jz.length + Ap.length < 2932031007402 then(z8_.l3 k1 Ff Aw (Jz ++ Ap) 0)else(none))=some (r1,r2):=by first|exact Ey ▸ H|exact Ey ▸ (Option.bind_some _ _).symm.trans H
     replace Ey:=y0.mk Ey
     obtain⟨Qk,H⟩:=qo H
     replace Qk:=y0.mk Qk
     obtain⟨At,Ez⟩:∃ y_:List (S33),y_=(Jz ++ Ap):=⟨_,rfl⟩
     replace H:(z8_.l3 k1 Ff Aw At 0)=some (r1,r2):=by first|exact Ez ▸ H|exact Ez ▸ (Option.bind_some _ _).symm.trans H
     replace Ez:=y0.mk Ez
     have H':=y0.mk H
     clear H
     obtain⟨Gw,Gx,Gz,Ha,Hb,Hc,Hd,He,Hf,Hg⟩:=qz5 Af.out
     go_wp2_with (first|((with_reducible refine y16 (N:=164) rfl ?_);(try(refine gate_guard (by rfl) ?_;dsimp only));refine Kd.N_lit k33 _ 33 ?hg (N':=164) ?hd (xs:=([(⟨Az,Ba,Am⟩:S33)]:List (S33))) (inner:=[.int .i64 Az,.string Ba,.slice Bf Am.length Bg]) (ok:=(fun k_=>((P0_3_ k_∨P0_4_ k_)∨w.heap.size≤k_)∧some k_≠(Bb:Value).ownBlock∧some k_≠(Au:Value).ownBlock∧k_≠Ag)) (okp:=(fun k_=>((P0_3_ k_∨P0_4_ k_)∨w.heap.size≤k_)∧some k_≠(Bb:Value).ownBlock∧some k_≠(Au:Value).ownBlock∧k_≠Ag)) ?hr ?hp (fun _ hk=>hk) ((show ∀ k_,wr.heap.size≤k_→(fun k_=>((P0_3_ k_∨P0_4_ k_)∨w.heap.size≤k_)∧some k_≠(Bb:Value).ownBlock∧some k_≠(Au:Value).ownBlock∧k_≠Ag) k_ from fun k_ hk=>⟨(.inr (Nat.le_trans (y3 qb) hk)),Kd.fresh' (Kd.R_lt (qR Ak.out)) k_ hk,Kd.fresh' (Kd.R_lt (qR Aj.out)) k_ hk,Kd.freshB (g:=Ag) (o:=.cells #[.slice Dm Aa.length Cb,.int .i64 Az,.string Ba,.slice Bf Am.length Bg,.slice Bj Ap.length Bk] 36 (0,0)) (qk Af.out) k_ hk⟩) _ (Nat.le_refl _)) (Below.refl _ _) (Nat.le_refl _) (by simp) ?_;(case hd=>rfl);(case hg=>rfl);(case hr=>first|(go_simp;done)|(go_simp;rfl));(case hp=>exact(Reps.c3 (show Kd.FK k33 _ _ (⟨Az,Ba,Am⟩:S33) [.int .i64 Az,.string Ba,.slice Bf Am.length Bg]from(k33_mkF _ _ (⟨Az,Ba,Am⟩:S33) (Kd.V_reads' (Kd.V_mono (ok':=(fun k_=>((P0_3_ k_∨P0_4_ k_)∨w.heap.size≤k_)∧some k_≠(Bb:Value).ownBlock∧some k_≠(Au:Value).ownBlock∧k_≠Ag)) (Ab.out) (fun k_ hk=>⟨hk.1,⟨hk.2.1,⟨hk.2.2.1,hk.2.2.2⟩⟩⟩))).2.1 (Kd.V_F (Kd.V_mono (ok':=(fun k_=>((P0_3_ k_∨P0_4_ k_)∨w.heap.size≤k_)∧some k_≠(Bb:Value).ownBlock∧some k_≠(Au:Value).ownBlock∧k_≠Ag)) (Ab.out) (fun k_ hk=>⟨hk.1,⟨hk.2.1,⟨hk.2.2.1,hk.2.2.2⟩⟩⟩))))) (Reps.none _ _)));intro Mt bZ Dq hb hg_ hnew_;clear hg_ hnew_;(first|rw [← Ey.out]at Dq|(simp only [Int.reduceToNat]at Dq;rw [← Ey.out]at Dq));replace Ak:=y0.mk (Kd.R_below (qR Ak.out) hb);replace Aj:=y0.mk (Kd.R_below (qR Aj.out) hb);replace Ab:=y0.mk (Kd.V_elder' (qV Ab.out) (Kd.N_base Dq) hb);replace Ac:=y0.mk (Kd.V_elder' (qV Ac.out) (Kd.N_base Dq) hb);have Fa:=y0.mk (Kd.N_lower Dq (y3 qb));replace Af:=y0.mk (qK Af.out hb);replace HB:=y0.mk (y4 qb hb);clear hb Dq;obtain⟨Hh,Hi,Hj,Hk,Hl,Hm,Hn,Ho,Hp,Hq⟩:=qz5 Af.out)|((with_reducible refine gate_builtin (b:=.append) (xs:=#[.tmp 164,.tmp 166]) rfl ?_);(try(refine gate_guard (by rfl) ?_;dsimp only));at_builtin;refine Kd.N_append_rows k33 (w0:=w) w.heap.size rfl (.tmp 164) (.tmp 166) 34 33 (.agg #[(.int .i64 0),(.string ⟨#[]⟩),(.slice none 0 0)]) 48 rfl Try.underlying34 info33 rfl (by decide) (by omega) Mt Jz Ap _ _ _ (fun k_=>((P0_3_ k_∨P0_4_ k_)∨w.heap.size≤k_)∧some k_≠(Bb:Value).ownBlock∧some k_≠(Au:Value).ownBlock∧k_≠Ag) (fun k_=>((fun k_=>((P0_3_ k_∨P0_4_ k_)∨w.heap.size≤k_)∧some k_≠(Bb:Value).ownBlock∧some k_≠(Au:Value).ownBlock∧k_≠Ag)) k_∧some k_≠(Mt:Value).ownBlock) rfl rfl ?aO ?aR (fun _ hk=>hk) ?aF ?aB ?aS ?aL ?_;(case aR=>exact(by skip;exact Kd.V_F (Kd.V_mono (ok':=(fun k_=>((fun k_=>((P0_3_ k_∨P0_4_ k_)∨w.heap.size≤k_)∧some k_≠(Bb:Value).ownBlock∧some k_≠(Au:Value).ownBlock∧k_≠Ag)) k_∧some k_≠(Mt:Value).ownBlock)) (Ac.out) (fun k_ hk=>⟨⟨hk.1.1,⟨hk.1.2.1,⟨hk.1.2.2.1,hk.1.2.2.2⟩⟩⟩,hk.2⟩))));(case aB=>exact qb);(case aF=>exact(fun k_ hk=>⟨(.inr (Nat.le_trans (y3 qb) hk)),Kd.fresh' (Kd.R_lt (qR Ak.out)) k_ hk,Kd.fresh' (Kd.R_lt (qR Aj.out)) k_ hk,Kd.freshB (g:=Ag) (o:=.cells #[.slice Dm Aa.length Cb,.int .i64 Az,.string Ba,.slice Bf Am.length Bg,.slice Bj Ap.length Bk] 36 (0,0)) (qk Af.out) k_ hk⟩));(case aO=>exact(qN Fa.out));(case aS=>exact(y3 qb));(case aL=>have:=Qk.out;omega);intro Mu cA ho hb hg hat;rw [← Ez.out]at ho;replace Ak:=y0.mk (Kd.R_over' (qR Ak.out) (Kd.N_typed (qN Fa.out)) (by decide) hg);replace Aj:=y0.mk (Kd.R_over' (qR Aj.out) (Kd.N_typed (qN Fa.out)) (by decide) hg);replace Ab:=y0.mk (Kd.V_afterv (ok:=(fun k_=>((P0_3_ k_∨P0_4_ k_)∨w.heap.size≤k_)∧some k_≠(Bb:Value).ownBlock∧some k_≠(Au:Value).ownBlock∧k_≠Ag)) (qV Ab.out) hg hat);replace Ac:=y0.mk (Kd.V_afterv (ok:=(fun k_=>((P0_3_ k_∨P0_4_ k_)∨w.heap.size≤k_)∧some k_≠(Bb:Value).ownBlock∧some k_≠(Au:Value).ownBlock∧k_≠Ag)) (qV Ac.out) hg hat);replace Af:=y0.mk (blk_grown (qk Af.out) hg (Kd.N_ne Fa.out Af.out (by decide)));replace HB:=y0.mk (hb);have Qm:=y0.mk (ho);clear Fa;clear ho hb hg hat))
     go_loopg [13] k1 (fun kq cC w'=>∃(Bc:List Int) (Ah:Int),cC=.int .i64 Ah∧y0 (z8_.l3 kq Bc Aw At Ah=some (r1,r2))∧y0 (kq≤k1)∧y0 (Kd.R (Kd.int .i64) 3 w' w.heap.size (fun k_=>(w.heap.size≤k_)) Bb Bc)∧y0 (Kd.R Kd.string 9 w' w.heap.size (fun k_=>(w.heap.size≤k_)) Au Aw)∧y0 (Kd.N k33 33 w' w.heap.size (fun k_=>((P0_3_ k_∨P0_4_ k_)∨w.heap.size≤k_)∧some k_≠(Bb:Value).ownBlock∧some k_≠(Au:Value).ownBlock∧k_≠Ag) Mu At)∧y0 (Kd.V (Kd.int .i64) 3 w' w.heap.size (fun k_=>((P0_3_ k_∨P0_4_ k_)∨w.heap.size≤k_)∧some k_≠(Bb:Value).ownBlock∧some k_≠(Au:Value).ownBlock∧some k_≠(Mu:Value).ownBlock∧k_≠Ag) (.slice Bf Am.length Bg) Am)∧y0 (Kd.V k33 33 w' w.heap.size (fun k_=>((P0_3_ k_∨P0_4_ k_)∨w.heap.size≤k_)∧some k_≠(Bb:Value).ownBlock∧some k_≠(Au:Value).ownBlock∧some k_≠(Mu:Value).ownBlock∧k_≠Ag) (.slice Bj Ap.length Bk) Ap)∧y0 (w'.heap[Ag]?=some (.cells #[(.slice Dm Aa.length Cb),.int .i64 Az,.string Ba,(.slice Bf Am.length Bg),(.slice Bj Ap.length Bk)] 36 (0,0)))∧y0 (Below w.heap.size w w'))
     case atStart=>exact⟨(Ff),(0),qy2,H',⟨Nat.le_refl _⟩,⟨qR Ak.out⟩,⟨qR Aj.out⟩,⟨qN Qm.out⟩,⟨qV (Kd.V_mono Ab.out (fun _ hk=>⟨hk.1.1,⟨hk.1.2.1,⟨hk.1.2.2.1,⟨hk.2,hk.1.2.2.2⟩⟩⟩⟩))⟩,⟨qV (Kd.V_mono Ac.out (fun _ hk=>⟨hk.1.1,⟨hk.1.2.1,⟨hk.1.2.2.1,⟨hk.2,hk.1.2.2.2⟩⟩⟩⟩))⟩,⟨qk Af.out⟩,⟨qb⟩⟩
     case round =>
      clear H'
      (try clear Gq Gw Gx Gz Ha Hb Hh Hi Hj Hk Hl Hc Hd He Hf Hg Hm Hn Ho Hp Hq)
      obtain⟨Bc,Ah,rfl,HA,Cy,Ak,Aj,Bd,Ab,Ac,Af,HB⟩:=hrel
      cases gk with
      | zero=>exact absurd HA.out (by simp [z8_.l3])
      | succ k2 =>
       have H:=HA.out
       clear HA
       simp only [z8_.l3]at H
       by_cases Gk:Ah < (At.length:Int)
       ·as_aux_lemma =>
        rw [if_pos Gk]at H
        have Fi:=decide_eq_true Gk
        clear Gk
        have H':=y0.mk H
        clear H
        obtain⟨Hr,Cd,Qn⟩:=Kd.N_slice Bd.out
        subst Qn
        go_wp2
        go_loopg [14] k2 (fun kq cD w'=>∃(Bh:List Int) (Ax:Int),cD=.int .i64 Ax∧y0 (z8_.l4 kq Bh Aw At Ah Ax=some (r1,r2))∧y0 (kq≤k2)∧y0 (Kd.R (Kd.int .i64) 3 w' w.heap.size (fun k_=>(w.heap.size≤k_)) Bb Bh)∧y0 (Kd.R Kd.string 9 w' w.heap.size (fun k_=>(w.heap.size≤k_)) Au Aw)∧y0 (Kd.N k33 33 w' w.heap.size (fun k_=>((P0_3_ k_∨P0_4_ k_)∨w.heap.size≤k_)∧some k_≠(Bb:Value).ownBlock∧some k_≠(Au:Value).ownBlock∧k_≠Ag) (.slice Hr At.length Cd) At)∧y0 (Kd.V (Kd.int .i64) 3 w' w.heap.size (fun k_=>((P0_3_ k_∨P0_4_ k_)∨w.heap.size≤k_)∧some k_≠(Bb:Value).ownBlock∧some k_≠(Au:Value).ownBlock∧some k_≠((.slice Hr At.length Cd):Value).ownBlock∧k_≠Ag) (.slice Bf Am.length Bg) Am)∧y0 (Kd.V k33 33 w' w.heap.size (fun k_=>((P0_3_ k_∨P0_4_ k_)∨w.heap.size≤k_)∧some k_≠(Bb:Value).ownBlock∧some k_≠(Au:Value).ownBlock∧some k_≠((.slice Hr At.length Cd):Value).ownBlock∧k_≠Ag) (.slice Bj Ap.length Bk) Ap)∧y0 (w'.heap[Ag]?=some (.cells #[(.slice Dm Aa.length Cb),.int .i64 Az,.string Ba,(.slice Bf Am.length Bg),(.slice Bj Ap.length Bk)] 36 (0,0)))∧y0 (Below w.heap.size w w'))
        case atStart=>exact⟨(Bc),(0),qy2,H',⟨Nat.le_refl _⟩,⟨qR Ak.out⟩,⟨qR Aj.out⟩,⟨qN Bd.out⟩,⟨qV Ab.out⟩,⟨qV Ac.out⟩,⟨qk Af.out⟩,⟨qb⟩⟩
        case round =>
         clear H'
         (try clear Fi)
         obtain⟨Bh,Ax,rfl,HA,Mv,Ak,Aj,Bd,Ab,Ac,Af,HB⟩:=hrel
         cases gk with
         | zero=>exact absurd HA.out (by simp [z8_.l4])
         | succ k3 =>
          have H:=HA.out
          clear HA
          simp only [z8_.l4]at H
          obtain⟨Qo,H⟩:=qo H
          have Wn:decide (0≤Ah)=true:=decide_eq_true Qo
          clear Qo
          obtain⟨Qp,H⟩:=qo H
          have Wo:decide (Ah < (At.length:Int))=true:=decide_eq_true Qp
          clear Qp
          by_cases Gl:Ax < (((y18 At Ah).f2).length:Int)
          ·as_aux_lemma =>
           rw [if_pos Gl]at H
           have Mw:=decide_eq_true Gl
           clear Gl
           obtain⟨Qq,H⟩:=qo H
           have Wp:decide (0≤Ax)=true:=decide_eq_true Qq
           clear Qq
           obtain⟨Wq,Qr,H⟩:=qB H
           by_cases Ka:Wq=true
           ·subst Ka
            replace H:=qT H
            obtain⟨Qs,H⟩:=qo H
            have Wr:decide (0≤(rd ((y18 At Ah).f2) Ax))=true:=decide_eq_true Qs
            clear Qs
            obtain⟨Qt,H⟩:=qo H
            have Ws:decide ((rd ((y18 At Ah).f2) Ax) < (Bh.length:Int))=true:=decide_eq_true Qt
            clear Qt
            obtain⟨Mx,Fb⟩:∃ y_:List Int,y_=(Bh.set ((rd ((y18 At Ah).f2) Ax):Int).toNat (wrap64 ((rd Bh (rd ((y18 At Ah).f2) Ax)) + 1))):=⟨_,rfl⟩
            replace H:(z8_.l4 k3 Mx Aw At Ah (wrap64 (Ax + 1)))=some (r1,r2):=by first|exact Fb ▸ H|exact Fb ▸ (Option.bind_some _ _).symm.trans H
            replace Fb:=y0.mk Fb
            have H':=y0.mk H
            clear H
            have Cu:0≤(Ah:Int):=qd
            have Cv:Ah < (At.length:Int):=qd
            obtain⟨Bx,Hs,Ed,Ht,Dj,Dk,Bo,Bz,Ca⟩:=at_T33 (Kd.N_reads' Bd.out).2.2 Ah Cu Cv
            cases Ht
            obtain⟨Ky,Dr,Ds,Cn⟩:=Kd.N_get Bd.out z33 Ah Cu (by first|exact Cv|exact of_decide_eq_true qy0|(have e_:=(Kd.N_reads' Bd.out).1;omega))
            obtain⟨Fz,Ga,rfl,Bm,Bn⟩:=k33_openF Ds
            have Be:=Cn 2 _ rfl
            rw [add_field _ _ 2 (by omega)]at Be
            replace Be:=Option.some.inj (Be.symm.trans Bo)
            injection Be with hva_ hvn_ hvc_
            rw [hva_]at Bn
            rw [hvc_]at Bm
            have Ch:=y0.mk (show Kd.V (Kd.int .i64) 3 _ w.heap.size _ _ ((y18 At Ah).f2)from Kd.V_mk Bm Bn)
            clear hva_ hvn_ hvc_ Bn Bm
            clear Cn Dr
            have Cp:=y0.mk Ca
            have Gb:=y0.mk Bz
            clear Ca Bz
            replace Cu:=eq_true Cu
            replace Cv:=eq_true Cv
            have Ee:0≤(Ah:Int):=qd
            have Ef:Ah < (At.length:Int):=qd
            obtain⟨Hu,My,Mz,Na,Eg,Eh,Ci,Cw,Cx⟩:=at_T33 (Kd.N_reads' Bd.out).2.2 Ah Ee Ef
            obtain rfl:Bx=Hu:=(by injection Na)
            obtain⟨Qv,Fj,Fk,Dt⟩:=Kd.N_get Bd.out z33 Ah Ee (by first|exact Ef|exact of_decide_eq_true qy0|(have e_:=(Kd.N_reads' Bd.out).1;omega))
            obtain⟨Kb,Ke,rfl,Cj,Ck⟩:=k33_openF Fk
            have Bv:=Dt 2 _ rfl
            rw [add_field _ _ 2 (by omega)]at Bv
            replace Bv:=Option.some.inj (Bv.symm.trans Ci)
            injection Bv with hva_ hvn_ hvc_
            rw [hva_]at Ck
            rw [hvc_]at Cj
            have Cq:=y0.mk (show Kd.V (Kd.int .i64) 3 _ w.heap.size _ _ ((y18 At Ah).f2)from Kd.V_mk Cj Ck)
            clear hva_ hvn_ hvc_ Ck Cj
            clear Dt Fj
            have Bw:=y0.mk Cx
            have Kf:=y0.mk Cw
            clear Cx Cw
            replace Ee:=eq_true Ee
            replace Ef:=eq_true Ef
            have ea_:=Option.some.inj (Bo.symm.trans Ci)
            injection ea_ with ea_ en_ ec_
            subst ea_
            subst ec_
            clear en_
            have Fl:0≤(Ax:Int):=qd
            have Fm:Ax < (((y18 At Ah).f2).length:Int):=qd
            obtain⟨Fc,Nb,Ei⟩:=Kd.at_int (by repeat(first|(with_reducible exact Bw.out)|(with_reducible refine Kd.C_alloc ?_ _)|(with_reducible refine Kd.C_drewN ?_ _)|(with_reducible refine Kd.C_drew ?_)|exact Bw.out)) Ax Fl Fm
            cases Nb
            replace Fl:=eq_true Fl
            replace Fm:=eq_true Fm
            obtain⟨Dw,Bl,Qw⟩:=Kd.R_slice Ak.out
            subst Qw
            go_wp2_with (first|((with_reducible refine y15 (f:=23) rfl ?_);refine y17 (some 195) rfl rfl Try.func23 (by kernel_rfl) rfl #[.int .i64 (rd ((y18 At Ah).f2) Ax),.int .i64 0,.int .i64 (wrap64 ((Bh.length:Int) - 1))] rfl qy1 ?_;(with_reducible refine(spec_l01Between.calls (rd ((y18 At Ah).f2) Ax) 0 (wrap64 ((Bh.length:Int) - 1)) true _ Qr.out).mono ?_);rintro e w' ⟨rfl,⟨nd,rfl⟩⟩;refine⟨_,rfl, ?_⟩;(try(rw [drewN_self wr];have e1_:∀(n_:Nat) (a_:Addr),World.cell? wr a_=World.cell? (World.drewN wr n_) a_:=fun _ _=>rfl;have e2_:∀(n_:Nat) (a_:Addr),World.frozen? wr a_=World.frozen? (World.drewN wr n_) a_:=fun _ _=>rfl;generalize hq_:World.drewN wr _=wr;have e3_:=(fun a_=>(e1_ _ a_).trans (congrArg (fun w_=>World.cell? w_ a_) hq_));have e4_:=(fun a_=>(e2_ _ a_).trans (congrArg (fun w_=>World.frozen? w_ a_) hq_));clear e1_ e2_;(try replace Dj:=(e3_ _).symm.trans Dj);(try replace Dk:=(e3_ _).symm.trans Dk);(try replace Bo:=(e3_ _).symm.trans Bo);(try replace Eg:=(e3_ _).symm.trans Eg);(try replace Eh:=(e3_ _).symm.trans Eh);(try replace Ci:=(e3_ _).symm.trans Ci);(try replace Ei:=(e3_ _).symm.trans Ei);skip;clear e3_ e4_;have n0_:y0 (Kd.V (Kd.int .i64) 3 wr w.heap.size (fun k_=>((P0_3_ k_∨P0_4_ k_)∨w.heap.size≤k_)∧some k_≠(.slice (some Bx) At.length Cd:Value).ownBlock∧some k_≠(.slice Dw Bh.length Bl:Value).ownBlock∧some k_≠(Au:Value).ownBlock∧k_≠Ag) (.slice (some Fc) ((y18 At Ah).f2).length Ed) ((y18 At Ah).f2)):=⟨by rw [← hq_];exact(qV (Kd.V_mono Ch.out (fun _ hk=>⟨hk.1.1,⟨hk.2,⟨hk.1.2.1,⟨hk.1.2.2.1,hk.1.2.2.2⟩⟩⟩⟩)))⟩;have n1_:y0 (Kd.V (Kd.int .i64) 3 wr w.heap.size (fun k_=>((P0_3_ k_∨P0_4_ k_)∨w.heap.size≤k_)∧some k_≠(.slice (some Bx) At.length Cd:Value).ownBlock∧some k_≠(.slice Dw Bh.length Bl:Value).ownBlock∧some k_≠(Au:Value).ownBlock∧k_≠Ag) (.slice (some Fc) ((y18 At Ah).f2).length Ed) ((y18 At Ah).f2)):=⟨by rw [← hq_];exact(qV (Kd.V_mono Cq.out (fun _ hk=>⟨hk.1.1,⟨hk.2,⟨hk.1.2.1,⟨hk.1.2.2.1,hk.1.2.2.2⟩⟩⟩⟩)))⟩;have n2_:y0 (Kd.N k33 33 wr w.heap.size (fun k_=>((P0_3_ k_∨P0_4_ k_)∨w.heap.size≤k_)∧some k_≠(.slice Dw Bh.length Bl:Value).ownBlock∧some k_≠(Au:Value).ownBlock∧k_≠Ag) (.slice (some Bx) At.length Cd) At):=⟨by rw [← hq_];exact(qN Bd.out)⟩;have n3_:y0 (Kd.V (Kd.int .i64) 3 wr w.heap.size (fun k_=>((P0_3_ k_∨P0_4_ k_)∨w.heap.size≤k_)∧some k_≠(.slice (some Bx) At.length Cd:Value).ownBlock∧some k_≠(.slice Dw Bh.length Bl:Value).ownBlock∧some k_≠(Au:Value).ownBlock∧k_≠Ag) (.slice Bf Am.length Bg) Am):=⟨by rw [← hq_];exact(qV (Kd.V_mono Ab.out (fun _ hk=>⟨hk.1,⟨hk.2.2.2.1,⟨hk.2.1,⟨hk.2.2.1,hk.2.2.2.2⟩⟩⟩⟩)))⟩;have n4_:y0 (Kd.V k33 33 wr w.heap.size (fun k_=>((P0_3_ k_∨P0_4_ k_)∨w.heap.size≤k_)∧some k_≠(.slice (some Bx) At.length Cd:Value).ownBlock∧some k_≠(.slice Dw Bh.length Bl:Value).ownBlock∧some k_≠(Au:Value).ownBlock∧k_≠Ag) (.slice Bj Ap.length Bk) Ap):=⟨by rw [← hq_];exact(qV (Kd.V_mono Ac.out (fun _ hk=>⟨hk.1,⟨hk.2.2.2.1,⟨hk.2.1,⟨hk.2.2.1,hk.2.2.2.2⟩⟩⟩⟩)))⟩;have n5_:y0 (Kd.R (Kd.int .i64) 3 wr w.heap.size (fun k_=>(w.heap.size≤k_)) (.slice Dw Bh.length Bl) Bh):=⟨by rw [← hq_];exact(qR Ak.out)⟩;have n6_:y0 (Kd.R Kd.string 9 wr w.heap.size (fun k_=>(w.heap.size≤k_)) Au Aw):=⟨by rw [← hq_];exact(qR Aj.out)⟩;have n7_:y0 (wr.heap[Ag]?=some (.cells #[.slice Dm Aa.length Cb,.int .i64 Az,.string Ba,.slice Bf Am.length Bg,.slice Bj Ap.length Bk] 36 (0,0))):=⟨by rw [← hq_];exact(qk Af.out)⟩;have n8_:y0 (Below w.heap.size w wr):=⟨by rw [← hq_];exact qb⟩;have n9_:y0 (Kd.C (Kd.int .i64) wr (some Fc) ((y18 At Ah).f2).length ((y18 At Ah).f2)):=⟨by rw [← hq_];exact(by repeat(first|(with_reducible exact Cp.out)|(with_reducible refine Kd.C_alloc ?_ _)|(with_reducible refine Kd.C_drewN ?_ _)|(with_reducible refine Kd.C_drew ?_)|exact Cp.out))⟩;have n10_:y0 (Kd.C (Kd.int .i64) wr (some Fc) ((y18 At Ah).f2).length ((y18 At Ah).f2)):=⟨by rw [← hq_];exact(by repeat(first|(with_reducible exact Bw.out)|(with_reducible refine Kd.C_alloc ?_ _)|(with_reducible refine Kd.C_drewN ?_ _)|(with_reducible refine Kd.C_drew ?_)|exact Bw.out))⟩;clear Ch Cq Bd Ab Ac Ak Aj Af HB Cp Bw hq_;have Ch:=n0_;have Cq:=n1_;have Bd:=n2_;have Ab:=n3_;have Ac:=n4_;have Ak:=n5_;have Aj:=n6_;have Af:=n7_;have HB:=n8_;have Cp:=n9_;have Bw:=n10_;clear n0_ n1_ n2_ n3_ n4_ n5_ n6_ n7_ n8_ n9_ n10_));have Kg:0≤(Ah:Int):=qd;have Kh:Ah < (At.length:Int):=qd;obtain⟨Qx,Wt,Wu,Wv,Tx,Ty,Gc,Gd,Ge⟩:=at_T33 (Kd.N_reads' Bd.out).2.2 Ah Kg Kh;obtain rfl:Bx=Qx:=(by injection Wv);obtain⟨aK,Nc,Nd,Hv⟩:=Kd.N_get Bd.out z33 Ah Kg (by first|exact Kh|exact of_decide_eq_true qy0|(have e_:=(Kd.N_reads' Bd.out).1;omega));obtain⟨Tz,Ua,rfl,Ej,Ek⟩:=k33_openF Nd;have Dl:=Hv 2 _ rfl;rw [add_field _ _ 2 (by omega)]at Dl;replace Dl:=Option.some.inj (Dl.symm.trans Gc);injection Dl with hva_ hvn_ hvc_;rw [hva_]at Ek;rw [hvc_]at Ej;have Gf:=y0.mk (show Kd.V (Kd.int .i64) 3 _ w.heap.size _ _ ((y18 At Ah).f2)from Kd.V_mk Ej Ek);clear hva_ hvn_ hvc_ Ek Ej;clear Hv Nc;have Gg:=y0.mk Ge;have Ub:=y0.mk Gd;clear Ge Gd;replace Kg:=eq_true Kg;replace Kh:=eq_true Kh;have ea_:=Option.some.inj (Bo.symm.trans Gc);injection ea_ with ea_ en_ ec_;subst ea_;subst ec_;clear en_;have Nf:0≤(Ax:Int):=qd;have Ng:Ax < (((y18 At Ah).f2).length:Int):=qd;obtain⟨aM,Ww,Uc⟩:=Kd.at_int (by repeat(first|(with_reducible exact Gg.out)|(with_reducible refine Kd.C_alloc ?_ _)|(with_reducible refine Kd.C_drewN ?_ _)|(with_reducible refine Kd.C_drew ?_)|exact Gg.out)) Ax Nf Ng;cases Ww;replace Nf:=eq_true Nf;replace Ng:=eq_true Ng;have Nh:0≤((rd ((y18 At Ah).f2) Ax):Int):=qd;have Ni:(rd ((y18 At Ah).f2) Ax) < (Bh.length:Int):=qd;obtain⟨aN,Wx,Ki⟩:=Kd.at_int (Kd.R_reads' Ak.out).2.2 (rd ((y18 At Ah).f2) Ax) Nh Ni;cases Wx;replace Nh:=eq_true Nh;replace Ni:=eq_true Ni;have Nj:0≤((rd ((y18 At Ah).f2) Ax):Int):=qd;have Nk:((rd ((y18 At Ah).f2) Ax):Int) < ((Bh.length:Int):Int):=qd;obtain⟨Br,aQ,Kz,La,Qy,aT,Lb⟩:=Kd.R_form Ak.out (by omega);(first|cases Kz|(injection Kz with ea_ en_ ec_;(first|subst ea_|(injection ea_ with ea_;subst ea_));subst ec_;clear en_));have Qz:=y0.mk La;have aU:=y0.mk Lb;clear La Qy Lb;(first|simp only [add_plain]at Ki|skip);obtain⟨Ud,Ue⟩:=Kd.R_celln 0 Ak.out ((rd ((y18 At Ah).f2) Ax):Int) Nj Nk;replace Nj:=eq_true Nj;replace Nk:=eq_true Nk;obtain⟨hy132_,hz132_⟩:=Kd.R_celln 0 Ak.out ((rd ((y18 At Ah).f2) Ax):Int) (of_decide_eq_true qy0) (of_decide_eq_true qy0);have Hw:=Kd.R_putg Ak.out ((rd ((y18 At Ah).f2) Ax):Int) (wrap64 ((rd Bh (rd ((y18 At Ah).f2) Ax)) + 1)))|((with_reducible refine gate_store (t:=3) (p:=210) rfl ?_);refine store_event (t:=3) (p:=210) (v:=?vo_w133) (w1:=(wr.setCell ⟨Br,((rd ((y18 At Ah).f2) Ax):Int).toNat,none⟩ (.int .i64 (wrap64 ((rd Bh (rd ((y18 At Ah).f2) Ax)) + 1))))) ?hg ?ho ?hn ?hr ?_;(case ho=>rfl);(case hg=>rfl);(case hn=>rfl);(case hr=>first|(go_simp;done)|(go_simp;rfl));intro Nl hw;have hg:wr.grownBy Nl (some Br):=(by rw [hw];exact Hw.2);have hp_:Kd.R (Kd.int .i64) 3 Nl w.heap.size (fun k_=>(w.heap.size≤k_)) (.slice (some ⟨Br,0,none⟩) Bh.length Bl) Mx:=(by rw [hw,Fb.out];exact Hw.1);clear Hw;replace Aj:=y0.mk (Kd.R_over' (v:=(.slice (some ⟨Br,0,none⟩) Bh.length Bl)) (qR Aj.out) (Kd.R_typed Ak.out) (by decide) hg);replace Bd:=y0.mk (Kd.N_afterv (v:=(.slice (some ⟨Br,0,none⟩) Bh.length Bl)) (v1:=(.slice (some ⟨Br,0,none⟩) Bh.length Bl)) (ok:=(fun k_=>((P0_3_ k_∨P0_4_ k_)∨w.heap.size≤k_)∧some k_≠(Au:Value).ownBlock∧k_≠Ag)) (qN (Kd.N_mono Bd.out (fun _ hk=>⟨⟨hk.1,⟨hk.2.2.1,hk.2.2.2⟩⟩,hk.2.1⟩))) hg (.inl rfl));replace Ab:=y0.mk (Kd.V_afterv (v:=(.slice (some ⟨Br,0,none⟩) Bh.length Bl)) (v1:=(.slice (some ⟨Br,0,none⟩) Bh.length Bl)) (ok:=(fun k_=>((P0_3_ k_∨P0_4_ k_)∨w.heap.size≤k_)∧some k_≠(Au:Value).ownBlock∧some k_≠(.slice (some Bx) At.length Cd:Value).ownBlock∧k_≠Ag)) (qV (Kd.V_mono Ab.out (fun _ hk=>⟨⟨hk.1,⟨hk.2.2.2.1,⟨hk.2.1,hk.2.2.2.2⟩⟩⟩,hk.2.2.1⟩))) hg (.inl rfl));replace Ac:=y0.mk (Kd.V_afterv (v:=(.slice (some ⟨Br,0,none⟩) Bh.length Bl)) (v1:=(.slice (some ⟨Br,0,none⟩) Bh.length Bl)) (ok:=(fun k_=>((P0_3_ k_∨P0_4_ k_)∨w.heap.size≤k_)∧some k_≠(Au:Value).ownBlock∧some k_≠(.slice (some Bx) At.length Cd:Value).ownBlock∧k_≠Ag)) (qV (Kd.V_mono Ac.out (fun _ hk=>⟨⟨hk.1,⟨hk.2.2.2.1,⟨hk.2.1,hk.2.2.2.2⟩⟩⟩,hk.2.2.1⟩))) hg (.inl rfl));replace Af:=y0.mk (blk_grown (qk Af.out) hg (Kd.R_ne Ak.out Af.out (by decide)));replace Ak:=y0.mk (hp_);replace Ch:=y0.mk (Kd.V_afterv (v:=(.slice (some ⟨Br,0,none⟩) Bh.length Bl)) (v1:=(.slice (some ⟨Br,0,none⟩) Bh.length Bl)) (ok:=(fun k_=>((P0_3_ k_∨P0_4_ k_)∨w.heap.size≤k_)∧some k_≠(Au:Value).ownBlock∧some k_≠(.slice (some Bx) At.length Cd:Value).ownBlock∧k_≠Ag)) (qV (Kd.V_mono Ch.out (fun _ hk=>⟨⟨hk.1,⟨hk.2.2.2.1,⟨hk.2.1,hk.2.2.2.2⟩⟩⟩,hk.2.2.1⟩))) hg (.inl rfl));replace Cq:=y0.mk (Kd.V_afterv (v:=(.slice (some ⟨Br,0,none⟩) Bh.length Bl)) (v1:=(.slice (some ⟨Br,0,none⟩) Bh.length Bl)) (ok:=(fun k_=>((P0_3_ k_∨P0_4_ k_)∨w.heap.size≤k_)∧some k_≠(Au:Value).ownBlock∧some k_≠(.slice (some Bx) At.length Cd:Value).ownBlock∧k_≠Ag)) (qV (Kd.V_mono Cq.out (fun _ hk=>⟨⟨hk.1,⟨hk.2.2.2.1,⟨hk.2.1,hk.2.2.2.2⟩⟩⟩,hk.2.2.1⟩))) hg (.inl rfl));replace Gf:=y0.mk (Kd.V_afterv (v:=(.slice (some ⟨Br,0,none⟩) Bh.length Bl)) (v1:=(.slice (some ⟨Br,0,none⟩) Bh.length Bl)) (ok:=(fun k_=>((P0_3_ k_∨P0_4_ k_)∨w.heap.size≤k_)∧some k_≠(Au:Value).ownBlock∧some k_≠(.slice (some Bx) At.length Cd:Value).ownBlock∧k_≠Ag)) (qV (Kd.V_mono Gf.out (fun _ hk=>⟨⟨hk.1.1,⟨hk.1.2.2.1,⟨hk.2,hk.1.2.2.2⟩⟩⟩,hk.1.2.1⟩))) hg (.inl rfl));replace HB:=y0.mk ((by rw [hw];exact below_set (HB.out) Qz.out:Below w.heap.size w Nl));clear hg hw hp_))
            go_roundg k3
            case measure=>have:=Cz.out;have:=Cy.out;have:=Mv.out;omega
            exact⟨(Mx),(wrap64 (Ax + 1)),qy2,H',⟨by have:=Cz.out;have:=Cy.out;have:=Mv.out;omega⟩,⟨qR Ak.out⟩,⟨qR Aj.out⟩,⟨qN (Kd.N_mono Bd.out (fun _ hk=>⟨hk.1.1,⟨hk.2,⟨hk.1.2.1,hk.1.2.2⟩⟩⟩))⟩,⟨qV (Kd.V_mono Ab.out (fun _ hk=>⟨hk.1.1,⟨hk.2,⟨hk.1.2.1,⟨hk.1.2.2.1,hk.1.2.2.2⟩⟩⟩⟩))⟩,⟨qV (Kd.V_mono Ac.out (fun _ hk=>⟨hk.1.1,⟨hk.2,⟨hk.1.2.1,⟨hk.1.2.2.1,hk.1.2.2.2⟩⟩⟩⟩))⟩,⟨qk Af.out⟩,⟨qb⟩⟩
           ·replace Ka:=Bool.eq_false_iff.mpr Ka
            subst Ka
            replace H:=qF H
            simp only [Option.some.injEq,Prod.mk.injEq]at H
            obtain⟨rfl,rfl⟩:=H
            have Cu:0≤(Ah:Int):=qd
            have Cv:Ah < (At.length:Int):=qd
            obtain⟨Bx,Hs,Ed,Ht,Dj,Dk,Bo,Bz,Ca⟩:=at_T33 (Kd.N_reads' Bd.out).2.2 Ah Cu Cv
            cases Ht
            obtain⟨Ky,Dr,Ds,Cn⟩:=Kd.N_get Bd.out z33 Ah Cu (by first|exact Cv|exact of_decide_eq_true qy0|(have e_:=(Kd.N_reads' Bd.out).1;omega))
            obtain⟨Fz,Ga,rfl,Bm,Bn⟩:=k33_openF Ds
            have Be:=Cn 2 _ rfl
            rw [add_field _ _ 2 (by omega)]at Be
            replace Be:=Option.some.inj (Be.symm.trans Bo)
            injection Be with hva_ hvn_ hvc_
            rw [hva_]at Bn
            rw [hvc_]at Bm
            have Ch:=y0.mk (show Kd.V (Kd.int .i64) 3 _ w.heap.size _ _ ((y18 At Ah).f2)from Kd.V_mk Bm Bn)
            clear hva_ hvn_ hvc_ Bn Bm
            clear Cn Dr
            have Cp:=y0.mk Ca
            have Gb:=y0.mk Bz
            clear Ca Bz
            replace Cu:=eq_true Cu
            replace Cv:=eq_true Cv
            have Ee:0≤(Ah:Int):=qd
            have Ef:Ah < (At.length:Int):=qd
            obtain⟨Hu,My,Mz,Na,Eg,Eh,Ci,Cw,Cx⟩:=at_T33 (Kd.N_reads' Bd.out).2.2 Ah Ee Ef
            obtain rfl:Bx=Hu:=(by injection Na)
            obtain⟨Qv,Fj,Fk,Dt⟩:=Kd.N_get Bd.out z33 Ah Ee (by first|exact Ef|exact of_decide_eq_true qy0|(have e_:=(Kd.N_reads' Bd.out).1;omega))
            obtain⟨Kb,Ke,rfl,Cj,Ck⟩:=k33_openF Fk
            have Bv:=Dt 2 _ rfl
            rw [add_field _ _ 2 (by omega)]at Bv
            replace Bv:=Option.some.inj (Bv.symm.trans Ci)
            injection Bv with hva_ hvn_ hvc_
            rw [hva_]at Ck
            rw [hvc_]at Cj
            have Cq:=y0.mk (show Kd.V (Kd.int .i64) 3 _ w.heap.size _ _ ((y18 At Ah).f2)from Kd.V_mk Cj Ck)
            clear hva_ hvn_ hvc_ Ck Cj
            clear Dt Fj
            have Bw:=y0.mk Cx
            have Kf:=y0.mk Cw
            clear Cx Cw
            replace Ee:=eq_true Ee
            replace Ef:=eq_true Ef
            have ea_:=Option.some.inj (Bo.symm.trans Ci)
            injection ea_ with ea_ en_ ec_
            subst ea_
            subst ec_
            clear en_
            have Fl:0≤(Ax:Int):=qd
            have Fm:Ax < (((y18 At Ah).f2).length:Int):=qd
            obtain⟨Fc,Nb,Ei⟩:=Kd.at_int (by repeat(first|(with_reducible exact Bw.out)|(with_reducible refine Kd.C_alloc ?_ _)|(with_reducible refine Kd.C_drewN ?_ _)|(with_reducible refine Kd.C_drew ?_)|exact Bw.out)) Ax Fl Fm
            cases Nb
            replace Fl:=eq_true Fl
            replace Fm:=eq_true Fm
            obtain⟨aV,aW,Ra⟩:=Kd.R_slice Ak.out
            subst Ra
            go_wp2_with (first|((with_reducible refine y15 (f:=23) rfl ?_);refine y17 (some 195) rfl rfl Try.func23 (by kernel_rfl) rfl #[.int .i64 (rd ((y18 At Ah).f2) Ax),.int .i64 0,.int .i64 (wrap64 ((Bh.length:Int) - 1))] rfl qy1 ?_;(with_reducible refine(spec_l01Between.calls (rd ((y18 At Ah).f2) Ax) 0 (wrap64 ((Bh.length:Int) - 1)) false _ Qr.out).mono ?_);rintro e w' ⟨rfl,⟨nd,rfl⟩⟩;refine⟨_,rfl, ?_⟩))
            go_ret2
            exact⟨_,by first|rfl|(simp [y12,y13] <;> rfl)|(simp [*,y12,y13] <;> rfl),by(with_reducible repeat(first|apply Kd.R_alloc|apply Kd.R_drewN|apply Kd.R_drew));exact Aj.out,qb⟩
          ·as_aux_lemma =>
           rw [if_neg Gl]at H
           have Mw:=decide_eq_false Gl
           clear Gl
           have H':=y0.mk H
           clear H
           have Cu:0≤(Ah:Int):=qd
           have Cv:Ah < (At.length:Int):=qd
           obtain⟨Bx,Hs,Ed,Ht,Dj,Dk,Bo,Bz,Ca⟩:=at_T33 (Kd.N_reads' Bd.out).2.2 Ah Cu Cv
           cases Ht
           obtain⟨Ky,Dr,Ds,Cn⟩:=Kd.N_get Bd.out z33 Ah Cu (by first|exact Cv|exact of_decide_eq_true qy0|(have e_:=(Kd.N_reads' Bd.out).1;omega))
           obtain⟨Fz,Ga,rfl,Bm,Bn⟩:=k33_openF Ds
           have Be:=Cn 2 _ rfl
           rw [add_field _ _ 2 (by omega)]at Be
           replace Be:=Option.some.inj (Be.symm.trans Bo)
           injection Be with hva_ hvn_ hvc_
           rw [hva_]at Bn
           rw [hvc_]at Bm
           have Ch:=y0.mk (show Kd.V (Kd.int .i64) 3 _ w.heap.size _ _ ((y18 At Ah).f2)from Kd.V_mk Bm Bn)
           clear hva_ hvn_ hvc_ Bn Bm
           clear Cn Dr
           have Cp:=y0.mk Ca
           have Gb:=y0.mk Bz
           clear Ca Bz
           replace Cu:=eq_true Cu
           replace Cv:=eq_true Cv
           go_wp2
           go_roundg k3
           case measure=>have:=Cz.out;have:=Cy.out;have:=Mv.out;omega
           exact⟨(Bh),(wrap64 (Ah + 1)),qy2,H',⟨by have:=Cz.out;have:=Cy.out;have:=Mv.out;omega⟩,⟨qR Ak.out⟩,⟨qR Aj.out⟩,⟨qN Bd.out⟩,⟨qV Ab.out⟩,⟨qV Ac.out⟩,⟨qk Af.out⟩,⟨qb⟩⟩
       ·as_aux_lemma =>
        rw [if_neg Gk]at H
        have Fi:=decide_eq_false Gk
        clear Gk
        have H':=y0.mk H
        clear H
        obtain⟨aX,aY,Rb⟩:=Kd.N_slice Bd.out
        subst Rb
        go_wp2
        go_loopg [15] k2 (fun kq cE w'=>∃(Bp:Int),cE=.int .i64 Bp∧y0 (z8_.l5 kq Bc Aw Bp=some (r1,r2))∧y0 (kq≤k2)∧y0 (Kd.R (Kd.int .i64) 3 w' w.heap.size (fun k_=>(w.heap.size≤k_)) Bb Bc)∧y0 (Kd.R Kd.string 9 w' w.heap.size (fun k_=>(w.heap.size≤k_)) Au Aw)∧y0 (Kd.V (Kd.int .i64) 3 w' w.heap.size (fun k_=>((P0_3_ k_∨P0_4_ k_)∨w.heap.size≤k_)∧some k_≠(Bb:Value).ownBlock∧some k_≠(Au:Value).ownBlock∧k_≠Ag) (.slice Bf Am.length Bg) Am)∧y0 (Kd.V k33 33 w' w.heap.size (fun k_=>((P0_3_ k_∨P0_4_ k_)∨w.heap.size≤k_)∧some k_≠(Bb:Value).ownBlock∧some k_≠(Au:Value).ownBlock∧k_≠Ag) (.slice Bj Ap.length Bk) Ap)∧y0 (w'.heap[Ag]?=some (.cells #[(.slice Dm Aa.length Cb),.int .i64 Az,.string Ba,(.slice Bf Am.length Bg),(.slice Bj Ap.length Bk)] 36 (0,0)))∧y0 (Below w.heap.size w w'))
        case atStart=>exact⟨(0),qy2,H',⟨Nat.le_refl _⟩,⟨qR Ak.out⟩,⟨qR Aj.out⟩,⟨qV (Kd.V_mono Ab.out (fun _ hk=>⟨hk.1,⟨hk.2.1,⟨hk.2.2.1,hk.2.2.2.2⟩⟩⟩))⟩,⟨qV (Kd.V_mono Ac.out (fun _ hk=>⟨hk.1,⟨hk.2.1,⟨hk.2.2.1,hk.2.2.2.2⟩⟩⟩))⟩,⟨qk Af.out⟩,⟨qb⟩⟩
        case round =>
         clear H'
         (try clear Fi)
         obtain⟨Bp,rfl,HA,Mv,Ak,Aj,Ab,Ac,Af,HB⟩:=hrel
         cases gk with
         | zero=>exact absurd HA.out (by simp [z8_.l5])
         | succ k3 =>
          have H:=HA.out
          clear HA
          simp only [z8_.l5]at H
          by_cases Gm:Bp < (Bc.length:Int)
          ·as_aux_lemma =>
           rw [if_pos Gm]at H
           have Nm:=decide_eq_true Gm
           clear Gm
           obtain⟨Rc,H⟩:=qo H
           have Wy:decide (0≤Bp)=true:=decide_eq_true Rc
           clear Rc
           by_cases Fn:(rd Bc Bp)=1
           ·as_aux_lemma =>
            rw [if_pos Fn]at H
            have Nn:((rd Bc Bp) == 1)=true:=beq_iff_eq.mpr Fn
            have Np:((rd Bc Bp) != 1)=false:=bne_eq_false_iff_eq.mpr Fn
            clear Fn
            have H':=y0.mk H
            clear H
            obtain⟨aZ,bA,Rf⟩:=Kd.R_slice Ak.out
            subst Rf
            have Fo:0≤(Bp:Int):=qd
            have Fp:Bp < (Bc.length:Int):=qd
            obtain⟨Rg,Nq,Kj⟩:=Kd.at_int (Kd.R_reads' Ak.out).2.2 Bp Fo Fp
            cases Nq
            replace Fo:=eq_true Fo
            replace Fp:=eq_true Fp
            go_wp2
            go_roundg k3
            case measure=>have:=Cz.out;have:=Cy.out;have:=Mv.out;omega
            exact⟨(wrap64 (Bp + 1)),qy2,H',⟨by have:=Cz.out;have:=Cy.out;have:=Mv.out;omega⟩,⟨qR Ak.out⟩,⟨qR Aj.out⟩,⟨qV Ab.out⟩,⟨qV Ac.out⟩,⟨qk Af.out⟩,⟨qb⟩⟩
           ·as_aux_lemma =>
            rw [if_neg Fn]at H
            have Nn:((rd Bc Bp) == 1)=false:=beq_eq_false_iff_ne.mpr Fn
            have Np:((rd Bc Bp) != 1)=true:=bne_iff_ne.mpr Fn
            simp only [Option.some.injEq,Prod.mk.injEq]at H
            obtain⟨rfl,rfl⟩:=H
            obtain⟨bB,bC,Rh⟩:=Kd.R_slice Ak.out
            subst Rh
            have Fo:0≤(Bp:Int):=qd
            have Fp:Bp < (Bc.length:Int):=qd
            obtain⟨Rg,Nq,Kj⟩:=Kd.at_int (Kd.R_reads' Ak.out).2.2 Bp Fo Fp
            cases Nq
            replace Fo:=eq_true Fo
            replace Fp:=eq_true Fp
            go_wp2
            go_ret2
            exact⟨_,by first|rfl|(simp [y12,y13] <;> rfl)|(simp [*,y12,y13] <;> rfl),by(with_reducible repeat(first|apply Kd.R_alloc|apply Kd.R_drewN|apply Kd.R_drew));exact Aj.out,qb⟩
          ·as_aux_lemma =>
           rw [if_neg Gm]at H
           have Nm:=decide_eq_false Gm
           clear Gm
           simp only [Option.some.injEq,Prod.mk.injEq]at H
           obtain⟨rfl,rfl⟩:=H
           obtain⟨bD,bE,Ri⟩:=Kd.R_slice Ak.out
           subst Ri
           go_wp2
           go_ret2
           exact⟨_,by first|rfl|(simp [y12,y13] <;> rfl)|(simp [*,y12,y13] <;> rfl),by(with_reducible repeat(first|apply Kd.R_alloc|apply Kd.R_drewN|apply Kd.R_drew));exact Aj.out,qb⟩
end Go.Proofs.Ytkdabljlfbmpdaa.Pw
