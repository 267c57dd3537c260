-- Cut by prune.py.
import Derived.Test.YtimhlficlhafbaaGreatDoorVvlPvx0
namespace Go.Proofs.YtimhlficlhafbaaGreatDoor.Pv
open RowKit YtimhlficlhafbaaGreatDoorW.PrintWords YtimhlficlhafbaaGreatDoorW.PrintLast YtimhlficlhafbaaGreatDoorW.PrintMore
set_option linter.unusedVariables false
set_option linter.unusedSimpArgs false
mutual
def z10_.l0:Nat→List Int→List ByteArray→Int→List (S67)→Int→ByteArray→List Int→List (S35)→Option (List ByteArray×Bool)
 | 0,_,_,_,_,_,_,_,_=>none
 | k + 1,x4,x5,x6,Ae,Ao,By,Dd,An=>if x6 < (Ae.length:Int)then(if 0≤x6 then(z10_.l1 k x4 x5 x6 0 Ae Ao By Dd An ((y23 Ae x6).f0) ((y23 Ae x6).f1) ((y23 Ae x6).f2))else(none))else((some (([(⟨Ao,By,Dd⟩:S35)]:List (S35)):List (S35))).bind fun y149=>(if y149.length + An.length < 2932031007402 then(z10_.l3 k x4 x5 (y149 ++ An) 0)else(none)))
def z10_.l1:Nat→List Int→List ByteArray→Int→Int→List (S67)→Int→ByteArray→List Int→List (S35)→Int→ByteArray→List Int→Option (List ByteArray×Bool)
 | 0,_,_,_,_,_,_,_,_,_,_,_,_=>none
 | k + 1,x4,x5,x6,x8,Ao,By,Dd,De,Dz,An,Ea,Ae=>if x8 < (Ae.length:Int)then(if 0≤x8 then((z8_.f (rd Ae x8) 0 (wrap64 (x6 - 1))).bind fun Ec=>(if Ec=true then(if 0≤(rd Ae x8)then(if(rd Ae x8) < (x4.length:Int)then(z10_.l1 k (x4.set ((rd Ae x8):Int).toNat (wrap64 ((rd x4 (rd Ae x8)) + 1))) x5 x6 (wrap64 (x8 + 1)) Ao By Dd De Dz An Ea Ae)else(none))else(none))else(some (x5,false))))else(none))else(if An=1 then(z10_.j2 k x4 x5 x6 An (An == 1) Ao By Dd De Dz An Ea Ae)else(z10_.j2 k x4 x5 x6 An (An == 3) Ao By Dd De Dz An Ea Ae))
def z10_.j5:Nat→List Int→List ByteArray→Int→ByteArray→List (S67)→Int→ByteArray→List Int→List (S35)→Int→ByteArray→List Int→Option (List ByteArray×Bool)
 | 0,_,_,_,_,_,_,_,_,_,_,_,_=>none
 | k + 1,x4,x5,x6,x9,Ae,An,Ao,By,Dd,De,x131001,Dz=>if De≤3 then(if(Dz.length:Int) > 0 then(z10_.j6 k x4 x5 x6 x9 true Ae An Ao By Dd)else(z10_.j6 k x4 x5 x6 x9 (decide ((x9.size:Int) > 3000)) Ae An Ao By Dd))else(z10_.j6 k x4 x5 x6 x9 (decide ((x9.size:Int) > 3000)) Ae An Ao By Dd)
def z10_.j6:Nat→List Int→List ByteArray→Int→ByteArray→Bool→List (S67)→Int→ByteArray→List Int→List (S35)→Option (List ByteArray×Bool)
 | 0,_,_,_,_,_,_,_,_,_,_=>none
 | k + 1,x4,x5,x6,x9,Ae,An,Ao,By,Dd,De=>if Ae=true then(some (x5,false))else(if 0≤x6 then(if x6 < (x5.length:Int)then(z10_.l0 k x4 (x5.set (x6:Int).toNat x9) (wrap64 (x6 + 1)) An Ao By Dd De)else(none))else(none))
def z10_.j2:Nat→List Int→List ByteArray→Int→Int→Bool→List (S67)→Int→ByteArray→List Int→List (S35)→Int→ByteArray→List Int→Option (List ByteArray×Bool)
 | 0,_,_,_,_,_,_,_,_,_,_,_,_,_=>none
 | k + 1,x4,x5,x6,An,Ee,Ao,By,Dd,De,Dz,Ea,Ae,Ec=>if Ee=true then(z10_.j5 k x4 x5 x6 Ae Ao By Dd De Dz Ea Ae Ec)else(if An=2 then(z10_.j5 k x4 x5 x6 (⟨#[95]⟩:ByteArray) Ao By Dd De Dz Ea Ae Ec)else(if An=4 then(z10_.l2 k x4 x5 x6 Ae 0 Ao By Dd De Dz Ea Ae Ec)else(if An=5 then(z10_.j4 k x4 x5 x6 (An == 5) Ao By Dd De Dz Ea Ae Ec)else(if An=6 then(z10_.j4 k x4 x5 x6 (An == 6) Ao By Dd De Dz Ea Ae Ec)else(z10_.j4 k x4 x5 x6 (An == 7) Ao By Dd De Dz Ea Ae Ec)))))
def z10_.l2:Nat→List Int→List ByteArray→Int→ByteArray→Int→List (S67)→Int→ByteArray→List Int→List (S35)→Int→ByteArray→List Int→Option (List ByteArray×Bool)
 | 0,_,_,_,_,_,_,_,_,_,_,_,_,_=>none
 | k + 1,x4,x5,x6,x9,Ae,Ao,By,Dd,De,Dz,Ea,Ec,An=>if Ae < (An.length:Int)then(if Ae=0 then(if x9.size + 1≤9223372036854775807 then(if 0≤Ae then(if 0≤(rd An Ae)then(if(rd An Ae) < (x5.length:Int)then(if(x9 ++ (⟨#[40]⟩:ByteArray)).size + (rdOf ByteArray.empty x5 (rd An Ae)).size≤9223372036854775807 then(z10_.l2 k x4 x5 x6 ((x9 ++ (⟨#[40]⟩:ByteArray)) ++ (rdOf ByteArray.empty x5 (rd An Ae))) (wrap64 (Ae + 1)) Ao By Dd De Dz Ea Ec An)else(none))else(none))else(none))else(none))else(none))else(if x9.size + 2≤9223372036854775807 then(if 0≤Ae then(if 0≤(rd An Ae)then(if(rd An Ae) < (x5.length:Int)then(if(x9 ++ (⟨#[44,32]⟩:ByteArray)).size + (rdOf ByteArray.empty x5 (rd An Ae)).size≤9223372036854775807 then(z10_.l2 k x4 x5 x6 ((x9 ++ (⟨#[44,32]⟩:ByteArray)) ++ (rdOf ByteArray.empty x5 (rd An Ae))) (wrap64 (Ae + 1)) Ao By Dd De Dz Ea Ec An)else(none))else(none))else(none))else(none))else(none)))else(if(An.length:Int) > 0 then(if x9.size + 1≤9223372036854775807 then(z10_.j5 k x4 x5 x6 (x9 ++ (⟨#[41]⟩:ByteArray)) Ao By Dd De Dz Ea Ec An)else(none))else(z10_.j5 k x4 x5 x6 x9 Ao By Dd De Dz Ea Ec An))
def z10_.j4:Nat→List Int→List ByteArray→Int→Bool→List (S67)→Int→ByteArray→List Int→List (S35)→Int→ByteArray→List Int→Option (List ByteArray×Bool)
 | 0,_,_,_,_,_,_,_,_,_,_,_,_=>none
 | k + 1,x4,x5,x6,Ee,Ao,By,Dd,De,Dz,Ae,Em,An=>if Ee=true then(if(An.length:Int)=2 then((some (([(⟨#[32,43,32]⟩:ByteArray),(⟨#[32,45,32]⟩:ByteArray),(⟨#[32,42,32]⟩:ByteArray)]:List ByteArray):List ByteArray)).bind fun y140=>(if 0≤(wrap64 (Ae - 5))then(if(wrap64 (Ae - 5)) < (y140.length:Int)then(if 0 < (An.length:Int)then((spec_l04Side.f Ao By Dd De Dz x5 (rd An 0)).bind fun Ea=>(if Ea.size + (rdOf ByteArray.empty y140 (wrap64 (Ae - 5))).size≤9223372036854775807 then(if 1 < (An.length:Int)then((spec_l04Side.f Ao By Dd De Dz x5 (rd An 1)).bind fun Ec=>(if(Ea ++ (rdOf ByteArray.empty y140 (wrap64 (Ae - 5)))).size + Ec.size≤9223372036854775807 then(z10_.j5 k x4 x5 x6 ((Ea ++ (rdOf ByteArray.empty y140 (wrap64 (Ae - 5)))) ++ Ec) Ao By Dd De Dz Ae Em An)else(none)))else(none))else(none)))else(none))else(none))else(none)))else(some (x5,false)))else(some (x5,false))
def z10_.l3:Nat→List Int→List ByteArray→List (S35)→Int→Option (List ByteArray×Bool)
 | 0,_,_,_,_=>none
 | k + 1,x4,x5,Ae,An=>if An < (Ae.length:Int)then(z10_.l4 k x4 x5 Ae An 0)else(z10_.l5 k x4 x5 0)
def z10_.l4:Nat→List Int→List ByteArray→List (S35)→Int→Int→Option (List ByteArray×Bool)
 | 0,_,_,_,_,_=>none
 | k + 1,x4,x5,An,Ae,Ao=>if 0≤Ae then(if Ae < (An.length:Int)then(if Ao < (((y22 An Ae).f2).length:Int)then(if 0≤Ao then((z8_.f (rd ((y22 An Ae).f2) Ao) 0 (wrap64 ((x4.length:Int) - 1))).bind fun By=>(if By=true then(if 0≤(rd ((y22 An Ae).f2) Ao)then(if(rd ((y22 An Ae).f2) Ao) < (x4.length:Int)then(z10_.l4 k (x4.set ((rd ((y22 An Ae).f2) Ao):Int).toNat (wrap64 ((rd x4 (rd ((y22 An Ae).f2) Ao)) + 1))) x5 An Ae (wrap64 (Ao + 1)))else(none))else(none))else(some (x5,false))))else(none))else(z10_.l3 k x4 x5 An (wrap64 (Ae + 1))))else(none))else(none)
def z10_.l5:Nat→List Int→List ByteArray→Int→Option (List ByteArray×Bool)
 | 0,_,_,_=>none
 | k + 1,x4,x5,Ae=>if Ae < (x4.length:Int)then(if 0≤Ae then(if(rd x4 Ae)=1 then(z10_.l5 k x4 x5 (wrap64 (Ae + 1)))else(some (x5,false)))else(none))else(some (x5,true))
end
def z10_.f (k:Nat) (Ae:List (S67)) (An:Int) (Ao:ByteArray) (By:List Int) (Dd:List (S35)):Option (List ByteArray×Bool):=if(Ae.length:Int) > 60 then(some ((([]:List ByteArray)),false))else(if 0≤(Ae.length:Int)then(if((Ae.length:Int):Int).toNat≤35184372088832 then(if((Ae.length:Int):Int).toNat≤17592186044416 then(z10_.l0 k (List.replicate ((Ae.length:Int):Int).toNat 0) (List.replicate ((Ae.length:Int):Int).toNat (⟨#[]⟩:ByteArray)) 0 Ae An Ao By Dd)else(none))else(none))else(none))
def z10_.T40:Bool×List (List Nat×List Nat):=(true,[([],[]),([],[]),([],[]),([2],[2]),([3],[3]),([4],[4]),([0,1,5],[0,1,5]),([],[]),([6,7],[6,7]),([],[]),([],[]),([],[]),([11],[11]),([12],[12]),([13],[13]),([9,10,14,6],[9,10,14]),([8,15],[8,15]),([16,15,0,1,2,3,4,5,6,7,8,9,10,11,12,13,14,15,16],[16])])
def z10_.B40:List Nat:=[0,0,0,4,12,28,63,0,255,0,0,0,2048,6144,14336,32383,65535,131071]
theorem z10_.tab40:rtab .any (opsOf Tryz.f29 40)=z10_.T40:=by kernel_rfl
theorem z10_.bits40:waitsOk z10_.T40.2 z10_.B40=true:=by kernel_rfl
set_option maxHeartbeats 8000000 in
set_option maxRecDepth 100000 in
theorem z10_.calls (k:Nat) (Dj:Option Addr) (Bz:Nat) (Aa:List (S67)) (Ax:Int) (Ay:ByteArray) (P0_3_:Nat→Prop) (Bd:Option Addr) (Be:Nat) (Al:List Int) (P0_4_:Nat→Prop) (Bh:Option Addr) (Bi:Nat) (Am:List (S35)) (r1:List ByteArray) (r2:Bool) (w:World) (Kg:Kd.C k67 w Dj Aa.length Aa) (Kh:Aa.length≤Bz) (Nr:Kd.V (Kd.int .i64) 3 w w.heap.size (fun k_=>P0_3_ k_) (.slice Bd Al.length Be) Al) (Ns:Kd.V k35 35 w w.heap.size (fun k_=>P0_4_ k_) (.slice Bh Am.length Bi) Am) (h:z10_.f k Aa Ax Ay Al Am=some (r1,r2)) :
  Calls Tryz.prog 29 #[.agg #[.slice Dj Aa.length Bz,.int .i64 Ax,.string Ay,.slice Bd Al.length Be,.slice Bh Am.length Bi]] w fun e w'=>∃ v0_:Value,e=.returned (.tuple #[v0_,.bool r2])∧Kd.R Kd.string 9 w' w.heap.size (fun k_=>(w.heap.size≤k_)) v0_ r1∧Below w.heap.size w w':=by
 have bB:=Tryz.underlying38
 have bC:=Tryz.underlying67
 have bD:=Tryz.underlying35
 have Gk:=y0.mk Kg
 have Ki:=y0.mk Kh
 clear Kg Kh
 have Cj:=y0.mk (show Kd.V (Kd.int .i64) 3 w w.heap.size (fun k_=>((P0_3_ k_∨P0_4_ k_)∨w.heap.size≤k_)) (.slice Bd Al.length Be) Al from Kd.V_mono Nr (fun k_ hk=>.inl (.inl hk)))
 have Ck:=y0.mk (show Kd.V k35 35 w w.heap.size (fun k_=>((P0_3_ k_∨P0_4_ k_)∨w.heap.size≤k_)) (.slice Bh Am.length Bi) Am from Kd.V_mono Ns (fun k_ hk=>.inl (.inr hk)))
 have HB:=y0.mk (Below.refl w.heap.size w)
 have H:(if(Aa.length:Int) > 60 then(some ((([]:List ByteArray)),false))else(if 0≤(Aa.length:Int)then(if((Aa.length:Int):Int).toNat≤35184372088832 then(if((Aa.length:Int):Int).toNat≤17592186044416 then(z10_.l0 k (List.replicate ((Aa.length:Int):Int).toNat 0) (List.replicate ((Aa.length:Int):Int).toNat (⟨#[]⟩:ByteArray)) 0 Aa Ax Ay Al Am)else(none))else(none))else(none)))=some (r1,r2):=h
 clear h
 by_cases c2:(Aa.length:Int) > 60
 ·as_aux_lemma =>
  rw [if_pos c2]at H
  have Nt:decide (60 < (Aa.length:Int))=true:=decide_eq_true c2
  have Nu:decide (60 < Aa.length)=true:=decide_eq_true (by omega)
  clear c2
  obtain⟨Uc,Eh⟩:∃ y_:List ByteArray,y_=(([]:List ByteArray)):=⟨_,rfl⟩
  replace H:(some (Uc,false))=some (r1,r2):=by first|exact Eh ▸ H|exact Eh ▸ (Option.bind_some _ _).symm.trans H
  replace Eh:=y0.mk Eh
  simp only [Option.some.injEq,Prod.mk.injEq]at H
  obtain⟨rfl,rfl⟩:=H
  go_enter Tryz.func29,Tryz.ntmps29
  go_wp2_with (first|((with_reducible refine y19 (N:=1) rfl ?_);(try(refine y20 (by rfl) ?_;dsimp only));refine qe 1 #[.slice Dj Aa.length Bz,.int .i64 Ax,.string Ay,.slice Bd Al.length Be,.slice Bh Am.length Bi] 38 ?_;intro Ag hg w3 hbox hb;replace Cj:=y0.mk (Kd.V_below (Kd.V_elderB (qV Cj.out) Ag (Nat.le_of_eq hg.symm)) hb);replace Ck:=y0.mk (Kd.V_below (Kd.V_elderB (qV Ck.out) Ag (Nat.le_of_eq hg.symm)) hb);have Af:=y0.mk (hbox);have Nv:=y0.mk (qg (w:=w) hg);have Nw:=y0.mk (qg (w:=w) hg);replace HB:=y0.mk (y5 qb hb);clear hb hbox hg;obtain⟨Ud,Ue,Uf,Ug,Uh,Ui,Uj,Uk,Ul,Um⟩:=qz5 Af.out)|((with_reducible refine y19 (N:=20) rfl ?_);(try(refine y20 (by rfl) ?_;dsimp only));refine qL Kd.string 9 20 ([]:List ByteArray) ?_;intro bE w5 Kx hb hg_ hnew_;clear hg_ hnew_;(first|rw [← Eh.out]at Kx|(simp only [Int.reduceToNat]at Kx;rw [← Eh.out]at Kx));replace Cj:=y0.mk (Kd.V_elder' (qV Cj.out) (Kd.R_base Kx) hb);replace Ck:=y0.mk (Kd.V_elder' (qV Ck.out) (Kd.R_base Kx) hb);have Nx:=y0.mk (Kd.R_lower (Kd.R_newM (M:=fun k_=>(w.heap.size≤k_)) Kx (y4 qb) (fun k_ h_=>h_)) (y4 qb));replace Af:=y0.mk (qK Af.out hb);replace HB:=y0.mk (y5 qb hb);clear hb Kx))
  go_ret2
  exact⟨_,by first|rfl|(simp [y15,y16] <;> rfl)|(simp [*,y15,y16] <;> rfl),by(with_reducible repeat(first|apply Kd.R_alloc|apply Kd.R_drewN|apply Kd.R_drew));exact Kd.R_mono Nx.out (fun _ hk=>hk.1),qb⟩
 ·as_aux_lemma =>
  rw [if_neg c2]at H
  have Nt:decide (60 < (Aa.length:Int))=false:=decide_eq_false c2
  have Nu:decide (60 < Aa.length)=false:=decide_eq_false (by omega)
  clear c2
  obtain⟨c7,H⟩:=qo H
  have Un:=eq_true c7
  have Uo:=decide_eq_true c7
  clear c7
  obtain⟨c8,H⟩:=qo H
  have Up:=eq_true c8
  have Uq:=decide_eq_true c8
  clear c8
  obtain⟨Ky,Ei⟩:∃ y_:List Int,y_=(List.replicate ((Aa.length:Int):Int).toNat 0):=⟨_,rfl⟩
  replace H:(if((Aa.length:Int):Int).toNat≤17592186044416 then(z10_.l0 k Ky (List.replicate ((Aa.length:Int):Int).toNat (⟨#[]⟩:ByteArray)) 0 Aa Ax Ay Al Am)else(none))=some (r1,r2):=by first|exact Ei ▸ H|exact Ei ▸ (Option.bind_some _ _).symm.trans H
  replace Ei:=y0.mk Ei
  obtain⟨c9,H⟩:=qo H
  have Ur:=eq_true c9
  have Us:=decide_eq_true c9
  clear c9
  obtain⟨Ny,Ej⟩:∃ y_:List ByteArray,y_=(List.replicate ((Aa.length:Int):Int).toNat (⟨#[]⟩:ByteArray)):=⟨_,rfl⟩
  replace H:(z10_.l0 k Ky Ny 0 Aa Ax Ay Al Am)=some (r1,r2):=by first|exact Ej ▸ H|exact Ej ▸ (Option.bind_some _ _).symm.trans H
  replace Ej:=y0.mk Ej
  have H':=y0.mk H
  clear H
  go_enter Tryz.func29,Tryz.ntmps29
  go_wp2_with (first|((with_reducible refine y19 (N:=1) rfl ?_);(try(refine y20 (by rfl) ?_;dsimp only));refine qe 1 #[.slice Dj Aa.length Bz,.int .i64 Ax,.string Ay,.slice Bd Al.length Be,.slice Bh Am.length Bi] 38 ?_;intro Ag hg cA hbox hb;replace Cj:=y0.mk (Kd.V_below (Kd.V_elderB (qV Cj.out) Ag (Nat.le_of_eq hg.symm)) hb);replace Ck:=y0.mk (Kd.V_below (Kd.V_elderB (qV Ck.out) Ag (Nat.le_of_eq hg.symm)) hb);have Af:=y0.mk (hbox);have Nv:=y0.mk (qg (w:=w) hg);have Nw:=y0.mk (qg (w:=w) hg);replace HB:=y0.mk (y5 qb hb);clear hb hbox hg;obtain⟨Ht,Hu,Hv,Hw,Hx,Hy,Hz,Ia,Ib,Ic⟩:=qz5 Af.out)|((with_reducible refine y19 (N:=24) rfl ?_);(try(refine y20 (by rfl) ?_;dsimp only));refine Kd.R_make (Kd.int .i64) _ 3 rfl (N:=24) rfl 23 _ _ rfl (Aa.length:Int) rfl rfl Tryz.underlying23 (.int .i64 0) 8 info3 rfl (by decide) (by omega) 0 (ok:=fun _=>True) (okp:=fun _=>True) rfl (fun _ hk=>hk) trivial (of_decide_eq_true qy0) (Nat.le_trans (Nat.mul_le_mul_right _ (of_decide_eq_true qy0:(Aa.length:Int).toNat≤35184372088832)) (by omega)) (Below.refl _ _) (Nat.le_refl _) ?_;intro Az cB Fa hb hg_ hnew_;clear hg_ hnew_;(first|rw [← Ei.out]at Fa|(simp only [Int.reduceToNat]at Fa;rw [← Ei.out]at Fa));replace Cj:=y0.mk (Kd.V_elder' (qV Cj.out) (Kd.R_base Fa) hb);replace Ck:=y0.mk (Kd.V_elder' (qV Ck.out) (Kd.R_base Fa) hb);have Gl:=y0.mk (Kd.R_lower (Kd.R_newM (M:=fun k_=>(w.heap.size≤k_)) Fa (y4 qb) (fun k_ h_=>h_)) (y4 qb));replace Af:=y0.mk (qK Af.out hb);replace HB:=y0.mk (y5 qb hb);clear hb Fa;obtain⟨Id,Ie,If,Ig,Ih,Ii,Ij,Ik,Il,Im⟩:=qz5 Af.out)|((with_reducible refine y19 (N:=28) rfl ?_);(try(refine y20 (by rfl) ?_;dsimp only));refine Kd.R_make Kd.string _ 9 rfl (N:=28) rfl 29 _ _ rfl (Aa.length:Int) rfl rfl Tryz.underlying29 (.string ⟨#[]⟩) 16 info9 rfl (by decide) (by omega) (⟨#[]⟩:ByteArray) (ok:=fun _=>True) (okp:=fun _=>True) rfl (fun _ hk=>hk) trivial (of_decide_eq_true qy0) (Nat.le_trans (Nat.mul_le_mul_right _ (of_decide_eq_true qy0:(Aa.length:Int).toNat≤17592186044416)) (by omega)) (Below.refl _ _) (Nat.le_refl _) ?_;intro As cC Fb hb hg_ hnew_;clear hg_ hnew_;(first|rw [← Ej.out]at Fb|(simp only [Int.reduceToNat]at Fb;rw [← Ej.out]at Fb));replace Cj:=y0.mk (Kd.V_elder' (qV Cj.out) (Kd.R_base Fb) hb);replace Ck:=y0.mk (Kd.V_elder' (qV Ck.out) (Kd.R_base Fb) hb);replace Gl:=y0.mk (Kd.R_below (qR Gl.out) hb);have Nz:=y0.mk (Kd.R_lower (Kd.R_newM (M:=fun k_=>(w.heap.size≤k_)) Fb (y4 qb) (fun k_ h_=>h_)) (y4 qb));replace Af:=y0.mk (qK Af.out hb);replace HB:=y0.mk (y5 qb hb);clear hb Fb))
  go_loopg [6] k (fun kq v6 w'=>∃(Fc:List Int) (Au:List ByteArray) (Ad:Int),v6=.int .i64 Ad∧y0 (z10_.l0 kq Fc Au Ad Aa Ax Ay Al Am=some (r1,r2))∧y0 (kq≤k)∧y0 (Kd.R (Kd.int .i64) 3 w' w.heap.size (fun k_=>(w.heap.size≤k_)) Az Fc)∧y0 (Kd.R Kd.string 9 w' w.heap.size (fun k_=>(w.heap.size≤k_)) As Au)∧y0 (Kd.V (Kd.int .i64) 3 w' w.heap.size (fun k_=>((P0_3_ k_∨P0_4_ k_)∨w.heap.size≤k_)∧some k_≠(Az:Value).ownBlock∧some k_≠(As:Value).ownBlock∧k_≠Ag) (.slice Bd Al.length Be) Al)∧y0 (Kd.V k35 35 w' w.heap.size (fun k_=>((P0_3_ k_∨P0_4_ k_)∨w.heap.size≤k_)∧some k_≠(Az:Value).ownBlock∧some k_≠(As:Value).ownBlock∧k_≠Ag) (.slice Bh Am.length Bi) Am)∧y0 (w'.heap[Ag]?=some (.cells #[(.slice Dj Aa.length Bz),.int .i64 Ax,.string Ay,(.slice Bd Al.length Be),(.slice Bh Am.length Bi)] 38 (0,0)))∧y0 (Below w.heap.size w w'))
  case atStart=>exact⟨(Ky),(Ny),(0),qy2,H',⟨Nat.le_refl _⟩,⟨qR (Kd.R_mono Gl.out (fun _ hk=>hk.1))⟩,⟨qR (Kd.R_mono Nz.out (fun _ hk=>hk.1))⟩,⟨qV (Kd.V_mono Cj.out (fun _ hk=>⟨hk.1.1.1,⟨hk.1.2,⟨hk.2,hk.1.1.2⟩⟩⟩))⟩,⟨qV (Kd.V_mono Ck.out (fun _ hk=>⟨hk.1.1.1,⟨hk.1.2,⟨hk.2,hk.1.1.2⟩⟩⟩))⟩,⟨qk Af.out⟩,⟨qb⟩⟩
  case round =>
   clear H'
   (try clear Nt Nu Un Uo Up Uq Ur Us Ht Hu Hv Hw Hx Id Ie If Ig Ih Hy Hz Ia Ib Ic Ii Ij Ik Il Im)
   obtain⟨Fc,Au,Ad,rfl,HA,Cw,Ak,Aj,Ab,Ac,Af,HB⟩:=hrel
   cases gk with
   | zero=>exact absurd HA.out (by simp [z10_.l0])
   | succ k1 =>
    have H:=HA.out
    clear HA
    simp only [z10_.l0]at H
    by_cases Nl:Ad < (Aa.length:Int)
    ·as_aux_lemma =>
     rw [if_pos Nl]at H
     have Gm:=decide_eq_true Nl
     clear Nl
     obtain⟨Wv,H⟩:=qo H
     have Oa:decide (0≤Ad)=true:=decide_eq_true Wv
     clear Wv
     have H':=y0.mk H
     clear H
     obtain⟨Io,Ip,Iq,Ir,Is,Iu,Iv,Iw,Ix,Iy⟩:=qz5 Af.out
     have Iz:0≤(Ad:Int):=qd
     have Ja:Ad < (Aa.length:Int):=qd
     obtain⟨Co,Ca,Bo,Ut,Db,Dc,Dd,Fn,Fo⟩:=at_T67 Gk.out Ad Iz Ja
     cases Ut
     replace Db:=qC Db HB
     replace Dc:=qC Dc HB
     replace Dd:=qC Dd HB
     have Cc:=y0.mk Fo
     have Rf:=y0.mk Fn
     clear Fo Fn
     replace Iz:=eq_true Iz
     replace Ja:=eq_true Ja
     go_wp2_with (first|((with_reducible refine y19 (N:=7) rfl ?_);(try(refine y20 (by rfl) ?_;dsimp only));refine qe 7 #[.int .i64 0,.string (⟨#[]⟩:ByteArray),.slice none 0 0] 67 ?_;intro Ap hg cD hbox hb;replace Ak:=y0.mk (Kd.R_below (qR Ak.out) hb);replace Aj:=y0.mk (Kd.R_below (qR Aj.out) hb);replace Ab:=y0.mk (Kd.V_below (Kd.V_elderB (qV Ab.out) Ap (Nat.le_of_eq hg.symm)) hb);replace Ac:=y0.mk (Kd.V_below (Kd.V_elderB (qV Ac.out) Ap (Nat.le_of_eq hg.symm)) hb);have Ai:=y0.mk (hbox);have Ww:=y0.mk (qg (w:=w) hg);have Wx:=y0.mk (qg (w:=w) hg);replace HB:=y0.mk (y5 qb hb);have Aq:=y0.mk (qn Af.out hg);have At:=y0.mk (qm Af.out hg);replace Af:=y0.mk (qK Af.out hb);clear hb hbox hg;have Wy:=At.out;have Wz:=Aq.out;obtain⟨Jb,Jc,Jd,Je,Jf,Jg⟩:=qz3 Ai.out))
     go_loopg [8] k1 (fun kq v8 w'=>∃(Ba:List Int) (Bg:Int),v8=.int .i64 Bg∧y0 (z10_.l1 kq Ba Au Ad Bg Aa Ax Ay Al Am ((y23 Aa Ad).f0) ((y23 Aa Ad).f1) ((y23 Aa Ad).f2)=some (r1,r2))∧y0 (kq≤k1)∧y0 (Kd.R (Kd.int .i64) 3 w' w.heap.size (fun k_=>(w.heap.size≤k_)) Az Ba)∧y0 (Kd.R Kd.string 9 w' w.heap.size (fun k_=>(w.heap.size≤k_)) As Au)∧y0 (Kd.V (Kd.int .i64) 3 w' w.heap.size (fun k_=>((P0_3_ k_∨P0_4_ k_)∨w.heap.size≤k_)∧some k_≠(Az:Value).ownBlock∧some k_≠(As:Value).ownBlock∧k_≠Ag∧k_≠Ap) (.slice Bd Al.length Be) Al)∧y0 (Kd.V k35 35 w' w.heap.size (fun k_=>((P0_3_ k_∨P0_4_ k_)∨w.heap.size≤k_)∧some k_≠(Az:Value).ownBlock∧some k_≠(As:Value).ownBlock∧k_≠Ag∧k_≠Ap) (.slice Bh Am.length Bi) Am)∧y0 (w'.heap[Ag]?=some (.cells #[(.slice (some Co) Aa.length Bz),.int .i64 Ax,.string Ay,(.slice Bd Al.length Be),(.slice Bh Am.length Bi)] 38 (0,0)))∧y0 (w'.heap[Ap]?=some (.cells #[.int .i64 ((y23 Aa Ad).f0),.string ((y23 Aa Ad).f1),(.slice Ca ((y23 Aa Ad).f2).length Bo)] 67 (0,0)))∧y0 (Below w.heap.size w w'))
     case atStart=>exact⟨(Fc),(0),qy2,H',⟨Nat.le_refl _⟩,⟨qR (Kd.R_mono (qfR Ap (Kd.R_types Ak.out Ai.out (by decide)) (.int .i64 ((y23 Aa Ad).f0)) (.string ((y23 Aa Ad).f1)) (.slice Ca ((y23 Aa Ad).f2).length Bo)) (fun _ hk=>hk.1))⟩,⟨qR (Kd.R_mono (qfR Ap (Kd.R_types Aj.out Ai.out (by decide)) (.int .i64 ((y23 Aa Ad).f0)) (.string ((y23 Aa Ad).f1)) (.slice Ca ((y23 Aa Ad).f2).length Bo)) (fun _ hk=>hk.1))⟩,⟨qV (Kd.V_mono (qfV Ap (Kd.V_mono Ab.out (fun k_ hk=>(⟨hk,hk.2⟩:_∧k_≠Ap))) (.int .i64 ((y23 Aa Ad).f0)) (.string ((y23 Aa Ad).f1)) (.slice Ca ((y23 Aa Ad).f2).length Bo)) (fun _ hk=>⟨hk.1.1.1,⟨hk.1.1.2.1,⟨hk.1.1.2.2.1,⟨hk.1.1.2.2.2,hk.1.2⟩⟩⟩⟩))⟩,⟨qV (Kd.V_mono (qfV Ap (Kd.V_mono Ac.out (fun k_ hk=>(⟨hk,hk.2⟩:_∧k_≠Ap))) (.int .i64 ((y23 Aa Ad).f0)) (.string ((y23 Aa Ad).f1)) (.slice Ca ((y23 Aa Ad).f2).length Bo)) (fun _ hk=>⟨hk.1.1.1,⟨hk.1.1.2.1,⟨hk.1.1.2.2.1,⟨hk.1.1.2.2.2,hk.1.2⟩⟩⟩⟩))⟩,⟨by(with_reducible repeat(first|refine y10 ?_ _|refine y9 ?_|refine y6 ?_ _));refine y11 ?_ Aq.out _;refine y11 ?_ Aq.out _;refine y11 ?_ Aq.out _;(with_reducible repeat(first|refine y10 ?_ _|refine y9 ?_|refine y6 ?_ _));exact Af.out⟩,⟨by(with_reducible repeat(first|refine y10 ?_ _|refine y9 ?_|refine y6 ?_ _));refine y13 (cs:=#[.int .i64 ((y23 Aa Ad).f0),.string ((y23 Aa Ad).f1),.slice none 0 0]) ?_ 2 _ rfl;refine y13 (cs:=#[.int .i64 ((y23 Aa Ad).f0),.string (⟨#[]⟩:ByteArray),.slice none 0 0]) ?_ 1 _ rfl;refine y13 (cs:=#[.int .i64 0,.string (⟨#[]⟩:ByteArray),.slice none 0 0]) ?_ 0 _ rfl;(with_reducible repeat(first|refine y10 ?_ _|refine y9 ?_|refine y6 ?_ _));exact Ai.out⟩,⟨qb⟩⟩
     case round =>
      clear H'
      (try clear Gm Oa Io Ip Iq Ir Is Jb Jc Jd Iu Iv Iw Ix Iy Je Jf Jg Db Dc Dd Iz Ja)
      obtain⟨Ba,Bg,rfl,HA,Cv,Ak,Aj,Ab,Ac,Af,Ai,HB⟩:=hrel
      cases gk with
      | zero=>exact absurd HA.out (by simp [z10_.l1])
      | succ k2 =>
       have H:=HA.out
       clear HA
       simp only [z10_.l1]at H
       by_cases Nm:Bg < (((y23 Aa Ad).f2).length:Int)
       ·as_aux_lemma =>
        rw [if_pos Nm]at H
        have Km:=decide_eq_true Nm
        clear Nm
        obtain⟨Xa,H⟩:=qo H
        have Xb:decide (0≤Bg)=true:=decide_eq_true Xa
        clear Xa
        obtain⟨Uu,Xc,H⟩:=qB H
        by_cases Rg:Uu=true
        ·subst Rg
         replace H:=qT H
         obtain⟨Xd,H⟩:=qo H
         have Xe:decide (0≤(rd ((y23 Aa Ad).f2) Bg))=true:=decide_eq_true Xd
         clear Xd
         obtain⟨Xf,H⟩:=qo H
         have Xg:decide ((rd ((y23 Aa Ad).f2) Bg) < (Ba.length:Int))=true:=decide_eq_true Xf
         clear Xf
         obtain⟨Kz,Ek⟩:∃ y_:List Int,y_=(Ba.set ((rd ((y23 Aa Ad).f2) Bg):Int).toNat (wrap64 ((rd Ba (rd ((y23 Aa Ad).f2) Bg)) + 1))):=⟨_,rfl⟩
         replace H:(z10_.l1 k2 Kz Au Ad (wrap64 (Bg + 1)) Aa Ax Ay Al Am ((y23 Aa Ad).f0) ((y23 Aa Ad).f1) ((y23 Aa Ad).f2))=some (r1,r2):=by first|exact Ek ▸ H|exact Ek ▸ (Option.bind_some _ _).symm.trans H
         replace Ek:=y0.mk Ek
         have H':=y0.mk H
         clear H
         have Xh:=At.out
         have Xi:=Aq.out
         obtain⟨Fp,Fq,Fr,Fs,Ft,Fu⟩:=qz3 Ai.out
         have Fd:0≤(Bg:Int):=qd
         have Fe:Bg < (((y23 Aa Ad).f2).length:Int):=qd
         obtain⟨Gn,La,Bq⟩:=Kd.at_int Cc.out Bg Fd Fe
         cases La
         replace Bq:=qC Bq HB
         replace Fd:=eq_true Fd
         replace Fe:=eq_true Fe
         go_wp2_with (first|((with_reducible refine y18 (f:=16) rfl ?_);refine y21 (some 55) rfl rfl Tryz.func16 (by kernel_rfl) rfl #[.int .i64 (rd ((y23 Aa Ad).f2) Bg),.int .i64 0,.int .i64 (wrap64 (Ad - 1))] rfl qy1 ?_;(with_reducible refine(z8_.calls (rd ((y23 Aa Ad).f2) Bg) 0 (wrap64 (Ad - 1)) true _ Xc.out).mono ?_);rintro e w' ⟨rfl,⟨nd,rfl⟩⟩;refine⟨_,rfl, ?_⟩;(try(rw [drewN_self wr];have e1_:∀(n_:Nat) (a_:Addr),World.cell? wr a_=World.cell? (World.drewN wr n_) a_:=fun _ _=>rfl;have e2_:∀(n_:Nat) (a_:Addr),World.frozen? wr a_=World.frozen? (World.drewN wr n_) a_:=fun _ _=>rfl;generalize hq_:World.drewN wr _=wr;have e3_:=(fun a_=>(e1_ _ a_).trans (congrArg (fun w_=>World.cell? w_ a_) hq_));have e4_:=(fun a_=>(e2_ _ a_).trans (congrArg (fun w_=>World.frozen? w_ a_) hq_));clear e1_ e2_;(try replace Bq:=(e3_ _).symm.trans Bq);(try replace Fp:=(e3_ _).symm.trans Fp);(try replace Fs:=(e4_ _).symm.trans Fs);(try replace Fq:=(e3_ _).symm.trans Fq);(try replace Ft:=(e4_ _).symm.trans Ft);(try replace Fr:=(e3_ _).symm.trans Fr);(try replace Fu:=(e4_ _).symm.trans Fu);skip;clear e3_ e4_;have n0_:y0 (Kd.V (Kd.int .i64) 3 wr w.heap.size (fun k_=>((P0_3_ k_∨P0_4_ k_)∨w.heap.size≤k_)∧some k_≠(Az:Value).ownBlock∧some k_≠(As:Value).ownBlock∧k_≠Ag∧k_≠Ap) (.slice Bd Al.length Be) Al):=⟨by rw [← hq_];exact(qV Ab.out)⟩;have n1_:y0 (Kd.V k35 35 wr w.heap.size (fun k_=>((P0_3_ k_∨P0_4_ k_)∨w.heap.size≤k_)∧some k_≠(Az:Value).ownBlock∧some k_≠(As:Value).ownBlock∧k_≠Ag∧k_≠Ap) (.slice Bh Am.length Bi) Am):=⟨by rw [← hq_];exact(qV Ac.out)⟩;have n2_:y0 (Kd.R (Kd.int .i64) 3 wr w.heap.size (fun k_=>(w.heap.size≤k_)) Az Ba):=⟨by rw [← hq_];exact(qR Ak.out)⟩;have n3_:y0 (Kd.R Kd.string 9 wr w.heap.size (fun k_=>(w.heap.size≤k_)) As Au):=⟨by rw [← hq_];exact(qR Aj.out)⟩;have n4_:y0 (wr.heap[Ag]?=some (.cells #[.slice (some Co) Aa.length Bz,.int .i64 Ax,.string Ay,.slice Bd Al.length Be,.slice Bh Am.length Bi] 38 (0,0))):=⟨by rw [← hq_];exact(qk Af.out)⟩;have n5_:y0 (wr.heap[Ap]?=some (.cells #[.int .i64 ((y23 Aa Ad).f0),.string ((y23 Aa Ad).f1),.slice (some Gn) ((y23 Aa Ad).f2).length Bo] 67 (0,0))):=⟨by rw [← hq_];exact(qk Ai.out)⟩;have n6_:y0 (Below w.heap.size w wr):=⟨by rw [← hq_];exact qb⟩;clear Ab Ac Ak Aj Af Ai HB hq_;have Ab:=n0_;have Ac:=n1_;have Ak:=n2_;have Aj:=n3_;have Af:=n4_;have Ai:=n5_;have HB:=n6_;clear n0_ n1_ n2_ n3_ n4_ n5_ n6_));have Lb:0≤(Bg:Int):=qd;have Lc:Bg < (((y23 Aa Ad).f2).length:Int):=qd;obtain⟨Oc,Uv,Dt⟩:=Kd.at_int Cc.out Bg Lb Lc;obtain rfl:Gn=Oc:=(by injection Uv);replace Dt:=qC Dt HB;replace Lb:=eq_true Lb;replace Lc:=eq_true Lc;obtain⟨bF,Ge,Uw⟩:=Kd.R_slice Ak.out;subst Uw;have Ld:0≤((rd ((y23 Aa Ad).f2) Bg):Int):=qd;have Le:(rd ((y23 Aa Ad).f2) Bg) < (Ba.length:Int):=qd;obtain⟨Xj,Ux,Jh⟩:=Kd.at_int (Kd.R_reads' Ak.out).2.2 (rd ((y23 Aa Ad).f2) Bg) Ld Le;cases Ux;replace Ld:=eq_true Ld;replace Le:=eq_true Le;have Uy:0≤((rd ((y23 Aa Ad).f2) Bg):Int):=qd;have Uz:((rd ((y23 Aa Ad).f2) Bg):Int) < ((Ba.length:Int):Int):=qd;obtain⟨El,bG,Od,Oe,Va,bH,Og⟩:=Kd.R_form Ak.out (by omega);(first|cases Od|(injection Od with ea_ en_ ec_;(first|subst ea_|(injection ea_ with ea_;subst ea_));subst ec_;clear en_));have Vb:=y0.mk Oe;have bI:=y0.mk Og;clear Oe Va Og;(first|simp only [add_plain]at Jh|skip);obtain⟨Vc,Vd⟩:=Kd.R_celln 0 Ak.out ((rd ((y23 Aa Ad).f2) Bg):Int) Uy Uz;replace Uy:=eq_true Uy;replace Uz:=eq_true Uz;obtain⟨hy33_,hz33_⟩:=Kd.R_celln 0 Ak.out ((rd ((y23 Aa Ad).f2) Bg):Int) (of_decide_eq_true qy0) (of_decide_eq_true qy0);have Lf:=Kd.R_putg Ak.out ((rd ((y23 Aa Ad).f2) Bg):Int) (wrap64 ((rd Ba (rd ((y23 Aa Ad).f2) Bg)) + 1)))|((with_reducible refine gate_store (t:=3) (p:=67) rfl ?_);refine store_event (t:=3) (p:=67) (v:=?vo_w34) (w1:=(wr.setCell ⟨El,((rd ((y23 Aa Ad).f2) Bg):Int).toNat,none⟩ (.int .i64 (wrap64 ((rd Ba (rd ((y23 Aa Ad).f2) Bg)) + 1))))) ?hg ?ho ?hn ?hr ?_;(case ho=>rfl);(case hg=>rfl);(case hn=>rfl);(case hr=>first|(go_simp;done)|(go_simp;rfl));intro Ve hw;have hg:wr.grownBy Ve (some El):=(by rw [hw];exact Lf.2);have hp_:Kd.R (Kd.int .i64) 3 Ve w.heap.size (fun k_=>(w.heap.size≤k_)) (.slice (some ⟨El,0,none⟩) Ba.length Ge) Kz:=(by rw [hw,Ek.out];exact Lf.1);clear Lf;replace Aj:=y0.mk (Kd.R_over' (v:=(.slice (some ⟨El,0,none⟩) Ba.length Ge)) (qR Aj.out) (Kd.R_typed Ak.out) (by decide) hg);replace Ab:=y0.mk (Kd.V_afterv (v:=(.slice (some ⟨El,0,none⟩) Ba.length Ge)) (v1:=(.slice (some ⟨El,0,none⟩) Ba.length Ge)) (ok:=(fun k_=>((P0_3_ k_∨P0_4_ k_)∨w.heap.size≤k_)∧some k_≠(As:Value).ownBlock∧k_≠Ag∧k_≠Ap)) (qV (Kd.V_mono Ab.out (fun _ hk=>⟨⟨hk.1,⟨hk.2.2.1,⟨hk.2.2.2.1,hk.2.2.2.2⟩⟩⟩,hk.2.1⟩))) hg (.inl rfl));replace Ac:=y0.mk (Kd.V_afterv (v:=(.slice (some ⟨El,0,none⟩) Ba.length Ge)) (v1:=(.slice (some ⟨El,0,none⟩) Ba.length Ge)) (ok:=(fun k_=>((P0_3_ k_∨P0_4_ k_)∨w.heap.size≤k_)∧some k_≠(As:Value).ownBlock∧k_≠Ag∧k_≠Ap)) (qV (Kd.V_mono Ac.out (fun _ hk=>⟨⟨hk.1,⟨hk.2.2.1,⟨hk.2.2.2.1,hk.2.2.2.2⟩⟩⟩,hk.2.1⟩))) hg (.inl rfl));replace Af:=y0.mk (y12 (qk Af.out) hg (Kd.R_ne Ak.out Af.out (by decide)));replace Ai:=y0.mk (y12 (qk Ai.out) hg (Kd.R_ne Ak.out Ai.out (by decide)));replace Ak:=y0.mk (hp_);replace HB:=y0.mk ((by rw [hw];exact below_set (HB.out) Vb.out:Below w.heap.size w Ve));clear hg hw hp_))
         go_roundg k2
         case measure=>have:=Cw.out;have:=Cv.out;omega
         exact⟨(Kz),(wrap64 (Bg + 1)),qy2,H',⟨by have:=Cw.out;have:=Cv.out;omega⟩,⟨qR Ak.out⟩,⟨qR Aj.out⟩,⟨qV (Kd.V_mono Ab.out (fun _ hk=>⟨hk.1.1,⟨hk.2,⟨hk.1.2.1,⟨hk.1.2.2.1,hk.1.2.2.2⟩⟩⟩⟩))⟩,⟨qV (Kd.V_mono Ac.out (fun _ hk=>⟨hk.1.1,⟨hk.2,⟨hk.1.2.1,⟨hk.1.2.2.1,hk.1.2.2.2⟩⟩⟩⟩))⟩,⟨qk Af.out⟩,⟨qk Ai.out⟩,⟨qb⟩⟩
        ·replace Rg:=Bool.eq_false_iff.mpr Rg
         subst Rg
         replace H:=qF H
         simp only [Option.some.injEq,Prod.mk.injEq]at H
         obtain⟨rfl,rfl⟩:=H
         have Xk:=At.out
         have Xl:=Aq.out
         obtain⟨Rh,Ri,Rj,Rk,Rl,Rn⟩:=qz3 Ai.out
         have Fd:0≤(Bg:Int):=qd
         have Fe:Bg < (((y23 Aa Ad).f2).length:Int):=qd
         obtain⟨Gn,La,Bq⟩:=Kd.at_int Cc.out Bg Fd Fe
         cases La
         replace Bq:=qC Bq HB
         replace Fd:=eq_true Fd
         replace Fe:=eq_true Fe
         go_wp2_with (first|((with_reducible refine y18 (f:=16) rfl ?_);refine y21 (some 55) rfl rfl Tryz.func16 (by kernel_rfl) rfl #[.int .i64 (rd ((y23 Aa Ad).f2) Bg),.int .i64 0,.int .i64 (wrap64 (Ad - 1))] rfl qy1 ?_;(with_reducible refine(z8_.calls (rd ((y23 Aa Ad).f2) Bg) 0 (wrap64 (Ad - 1)) false _ Xc.out).mono ?_);rintro e w' ⟨rfl,⟨nd,rfl⟩⟩;refine⟨_,rfl, ?_⟩))
         go_ret2
         exact⟨_,by first|rfl|(simp [y15,y16] <;> rfl)|(simp [*,y15,y16] <;> rfl),by(with_reducible repeat(first|apply Kd.R_alloc|apply Kd.R_drewN|apply Kd.R_drew));exact Aj.out,qb⟩
       ·as_aux_lemma =>
        rw [if_neg Nm]at H
        have Km:=decide_eq_false Nm
        clear Nm
        have Lg:=y0.mk H
        clear H
        have Xm:=At.out
        have Xn:=Aq.out
        obtain⟨Ji,Jj,Jk,Jl,Jm,Jn⟩:=qz3 Ai.out
        go_upto_block 4 with(fail)
        go_cut [9] (fun v9 wc=>∃(kq:Nat) (Cp:ByteArray),v9=.string Cp∧y0 (z10_.j5 kq Ba Au Ad Cp Aa Ax Ay Al Am ((y23 Aa Ad).f0) ((y23 Aa Ad).f1) ((y23 Aa Ad).f2)=some (r1,r2))∧y0 (kq≤k2)∧y0 (Kd.R (Kd.int .i64) 3 wc w.heap.size (fun k_=>(w.heap.size≤k_)) Az Ba)∧y0 (Kd.R Kd.string 9 wc w.heap.size (fun k_=>(w.heap.size≤k_)) As Au)∧y0 (Kd.V (Kd.int .i64) 3 wc w.heap.size (fun k_=>((P0_3_ k_∨P0_4_ k_)∨w.heap.size≤k_)∧some k_≠(Az:Value).ownBlock∧some k_≠(As:Value).ownBlock∧k_≠Ag∧k_≠Ap) (.slice Bd Al.length Be) Al)∧y0 (Kd.V k35 35 wc w.heap.size (fun k_=>((P0_3_ k_∨P0_4_ k_)∨w.heap.size≤k_)∧some k_≠(Az:Value).ownBlock∧some k_≠(As:Value).ownBlock∧k_≠Ag∧k_≠Ap) (.slice Bh Am.length Bi) Am)∧y0 (wc.heap[Ag]?=some (.cells #[(.slice (some Co) Aa.length Bz),.int .i64 Ax,.string Ay,(.slice Bd Al.length Be),(.slice Bh Am.length Bi)] 38 (0,0)))∧y0 (wc.heap[Ap]?=some (.cells #[.int .i64 ((y23 Aa Ad).f0),.string ((y23 Aa Ad).f1),(.slice Ca ((y23 Aa Ad).f2).length Bo)] 67 (0,0)))∧y0 (Below w.heap.size w wc))
        case first =>
         have H:=Lg.out
         clear Lg
         have Lh:=y0.mk H
         clear H
         go_upto_if 71 with(fail)
         go_cut [71] (fun bJ wc=>∃(kq:Nat) (Du:Bool),bJ=.bool Du∧y0 (z10_.j2 kq Ba Au Ad ((y23 Aa Ad).f0) Du Aa Ax Ay Al Am ((y23 Aa Ad).f0) ((y23 Aa Ad).f1) ((y23 Aa Ad).f2)=some (r1,r2))∧y0 (kq≤k2)∧y0 (Kd.R (Kd.int .i64) 3 wc w.heap.size (fun k_=>(w.heap.size≤k_)) Az Ba)∧y0 (Kd.R Kd.string 9 wc w.heap.size (fun k_=>(w.heap.size≤k_)) As Au)∧y0 (Kd.V (Kd.int .i64) 3 wc w.heap.size (fun k_=>((P0_3_ k_∨P0_4_ k_)∨w.heap.size≤k_)∧some k_≠(Az:Value).ownBlock∧some k_≠(As:Value).ownBlock∧k_≠Ag∧k_≠Ap) (.slice Bd Al.length Be) Al)∧y0 (Kd.V k35 35 wc w.heap.size (fun k_=>((P0_3_ k_∨P0_4_ k_)∨w.heap.size≤k_)∧some k_≠(Az:Value).ownBlock∧some k_≠(As:Value).ownBlock∧k_≠Ag∧k_≠Ap) (.slice Bh Am.length Bi) Am)∧y0 (wc.heap[Ag]?=some (.cells #[(.slice (some Co) Aa.length Bz),.int .i64 Ax,.string Ay,(.slice Bd Al.length Be),(.slice Bh Am.length Bi)] 38 (0,0)))∧y0 (wc.heap[Ap]?=some (.cells #[.int .i64 ((y23 Aa Ad).f0),.string ((y23 Aa Ad).f1),(.slice Ca ((y23 Aa Ad).f2).length Bo)] 67 (0,0)))∧y0 (Below w.heap.size w wc))
         case first =>
          have H:=Lh.out
          clear Lh
          by_cases Li:((y23 Aa Ad).f0)=1
          ·as_aux_lemma =>
           rw [if_pos Li]at H
           have Em:(((y23 Aa Ad).f0) == 1)=true:=beq_iff_eq.mpr Li
           have Oh:(((y23 Aa Ad).f0) != 1)=false:=bne_eq_false_iff_eq.mpr Li
           clear Li
           (first|rw [Em]|(simp only [i64_w,i32_w];rw [Em])|skip)
           have H':=y0.mk H
           clear H
           go_wp2
           go_meet
           exact⟨_,((((y23 Aa Ad).f0) == 1)),qy2,H',⟨by have:=Cw.out;have:=Cv.out;first|omega|exact Nat.le_refl _⟩,⟨qR Ak.out⟩,⟨qR Aj.out⟩,⟨qV Ab.out⟩,⟨qV Ac.out⟩,⟨qk Af.out⟩,⟨qk Ai.out⟩,⟨qb⟩⟩
          ·as_aux_lemma =>
           rw [if_neg Li]at H
           have Em:(((y23 Aa Ad).f0) == 1)=false:=beq_eq_false_iff_ne.mpr Li
           have Oh:(((y23 Aa Ad).f0) != 1)=true:=bne_iff_ne.mpr Li
           (first|rw [Em]|(simp only [i64_w,i32_w];rw [Em])|skip)
           have H':=y0.mk H
           clear H
           go_wp2
           go_meet
           exact⟨_,((((y23 Aa Ad).f0) == 3)),qy2,H',⟨by have:=Cw.out;have:=Cv.out;first|omega|exact Nat.le_refl _⟩,⟨qR Ak.out⟩,⟨qR Aj.out⟩,⟨qV Ab.out⟩,⟨qV Ac.out⟩,⟨qk Af.out⟩,⟨qk Ai.out⟩,⟨qb⟩⟩
         case rest =>
          clear Lh
          (try clear Km Ji Jj Jk Jl Jm Jn)
          obtain⟨kq,Du,rfl,HA,Cz,Ak,Aj,Ab,Ac,Af,Ai,HB⟩:=hcut
          cases kq with
          | zero=>exact absurd HA.out (by simp [z10_.j2])
          | succ Lj =>
           have H:=HA.out
           clear HA
           simp only [z10_.j2]at H
           by_cases Oi:Du=true
           ·subst Oi
            replace H:=qT H
            have H':=y0.mk H
            clear H
            have Xo:=At.out
            have Xp:=Aq.out
            obtain⟨Ro,Rp,Rq,Rs,Rt,Ru⟩:=qz3 Ai.out
            go_wp2
            go_meet
            exact⟨_,(((y23 Aa Ad).f1)),qy2,H',⟨by have:=Cw.out;have:=Cv.out;have:=Cz.out;first|omega|exact Nat.le_refl _⟩,⟨qR Ak.out⟩,⟨qR Aj.out⟩,⟨qV Ab.out⟩,⟨qV Ac.out⟩,⟨qk Af.out⟩,⟨qk Ai.out⟩,⟨qb⟩⟩
           ·replace Oi:=Bool.eq_false_iff.mpr Oi
            subst Oi
            replace H:=qF H
            by_cases Lk:((y23 Aa Ad).f0)=2
            ·as_aux_lemma =>
             rw [if_pos Lk]at H
             have Kn:(((y23 Aa Ad).f0) == 2)=true:=beq_iff_eq.mpr Lk
             have Ko:(((y23 Aa Ad).f0) != 2)=false:=bne_eq_false_iff_eq.mpr Lk
             clear Lk
             have H':=y0.mk H
             clear H
             go_wp2
             go_meet
             exact⟨_,((⟨#[95]⟩:ByteArray)),qy2,H',⟨by have:=Cw.out;have:=Cv.out;have:=Cz.out;first|omega|exact Nat.le_refl _⟩,⟨qR Ak.out⟩,⟨qR Aj.out⟩,⟨qV Ab.out⟩,⟨qV Ac.out⟩,⟨qk Af.out⟩,⟨qk Ai.out⟩,⟨qb⟩⟩
            ·as_aux_lemma =>
             rw [if_neg Lk]at H
             have Kn:(((y23 Aa Ad).f0) == 2)=false:=beq_eq_false_iff_ne.mpr Lk
             have Ko:(((y23 Aa Ad).f0) != 2)=true:=bne_iff_ne.mpr Lk
             by_cases Ll:((y23 Aa Ad).f0)=4
             ·as_aux_lemma =>
              rw [if_pos Ll]at H
              have Gp:(((y23 Aa Ad).f0) == 4)=true:=beq_iff_eq.mpr Ll
              have Gq:(((y23 Aa Ad).f0) != 4)=false:=bne_eq_false_iff_eq.mpr Ll
              clear Ll
              have H':=y0.mk H
              clear H
              have Xq:=At.out
              have Xr:=Aq.out
              obtain⟨Jo,Jp,Jq,Jr,Js,Jt⟩:=qz3 Ai.out
              go_wp2
              go_loopg [9,10] Lj (fun kq v9 bK w'=>∃(Dv:ByteArray) (Aw:Int),v9=.string Dv∧bK=.int .i64 Aw∧y0 (z10_.l2 kq Ba Au Ad Dv Aw Aa Ax Ay Al Am ((y23 Aa Ad).f0) ((y23 Aa Ad).f1) ((y23 Aa Ad).f2)=some (r1,r2))∧y0 (kq≤Lj)∧y0 (Kd.R (Kd.int .i64) 3 w' w.heap.size (fun k_=>(w.heap.size≤k_)) Az Ba)∧y0 (Kd.R Kd.string 9 w' w.heap.size (fun k_=>(w.heap.size≤k_)) As Au)∧y0 (Kd.V (Kd.int .i64) 3 w' w.heap.size (fun k_=>((P0_3_ k_∨P0_4_ k_)∨w.heap.size≤k_)∧some k_≠(Az:Value).ownBlock∧some k_≠(As:Value).ownBlock∧k_≠Ag∧k_≠Ap) (.slice Bd Al.length Be) Al)∧y0 (Kd.V k35 35 w' w.heap.size (fun k_=>((P0_3_ k_∨P0_4_ k_)∨w.heap.size≤k_)∧some k_≠(Az:Value).ownBlock∧some k_≠(As:Value).ownBlock∧k_≠Ag∧k_≠Ap) (.slice Bh Am.length Bi) Am)∧y0 (w'.heap[Ag]?=some (.cells #[(.slice (some Co) Aa.length Bz),.int .i64 Ax,.string Ay,(.slice Bd Al.length Be),(.slice Bh Am.length Bi)] 38 (0,0)))∧y0 (w'.heap[Ap]?=some (.cells #[.int .i64 ((y23 Aa Ad).f0),.string ((y23 Aa Ad).f1),(.slice Ca ((y23 Aa Ad).f2).length Bo)] 67 (0,0)))∧y0 (Below w.heap.size w w'))
              case atStart=>exact⟨(((y23 Aa Ad).f1)),(0),qy2,qy2,H',⟨Nat.le_refl _⟩,⟨qR Ak.out⟩,⟨qR Aj.out⟩,⟨qV Ab.out⟩,⟨qV Ac.out⟩,⟨qk Af.out⟩,⟨qk Ai.out⟩,⟨qb⟩⟩
              case round =>
               clear H'
               (try clear Oi Kn Ko Gp Gq Jo Jp Jq Jr Js Jt)
               obtain⟨Dv,Aw,rfl,rfl,HA,Nn,Ak,Aj,Ab,Ac,Af,Ai,HB⟩:=hrel
               cases gk with
               | zero=>exact absurd HA.out (by simp [z10_.l2])
               | succ k4 =>
                have H:=HA.out
                clear HA
                simp only [z10_.l2]at H
                by_cases Np:Aw < (((y23 Aa Ad).f2).length:Int)
                ·as_aux_lemma =>
                 rw [if_pos Np]at H
                 have Oj:=decide_eq_true Np
                 clear Np
                 by_cases Lm:Aw=0
                 ·as_aux_lemma =>
                  rw [if_pos Lm]at H
                  have Ol:(Aw == 0)=true:=beq_iff_eq.mpr Lm
                  have Om:(Aw != 0)=false:=bne_eq_false_iff_eq.mpr Lm
                  clear Lm
                  obtain⟨Vf,H⟩:=qo H
                  have Xs:=eq_true Vf
                  have Xt:=decide_eq_true Vf
                  have Xu:=eq_false (Nat.not_lt.2 Vf)
                  obtain⟨Xv,H⟩:=qo H
                  have Xw:decide (0≤Aw)=true:=decide_eq_true Xv
                  clear Xv
                  obtain⟨Xx,H⟩:=qo H
                  have Xy:decide (0≤(rd ((y23 Aa Ad).f2) Aw))=true:=decide_eq_true Xx
                  clear Xx
                  obtain⟨Xz,H⟩:=qo H
                  have Ya:decide ((rd ((y23 Aa Ad).f2) Aw) < (Au.length:Int))=true:=decide_eq_true Xz
                  clear Xz
                  obtain⟨Vg,H⟩:=qo H
                  have Yb:=eq_true Vg
                  have Yc:=decide_eq_true Vg
                  have On:=eq_false (Nat.not_lt.2 Vg)
                  have Yd:(9223372036854775807 < Dv.size + 1 + (rdOf ByteArray.empty Au (rd ((y23 Aa Ad).f2) Aw)).size)=False:=qs On
                  have H':=y0.mk H
                  clear H
                  have Ye:=At.out
                  have Yf:=Aq.out
                  obtain⟨Rv,Rw,Rx,Ry,Rz,Sa⟩:=qz3 Ai.out
                  have Ln:0≤(Aw:Int):=qd
                  have Lo:Aw < (((y23 Aa Ad).f2).length:Int):=qd
                  obtain⟨Yg,Vh,Dw⟩:=Kd.at_int Cc.out Aw Ln Lo
                  cases Vh
                  replace Dw:=qC Dw HB
                  replace Ln:=eq_true Ln
                  replace Lo:=eq_true Lo
                  obtain⟨bL,bM,Vi⟩:=Kd.R_slice Aj.out
                  subst Vi
                  have Lp:0≤((rd ((y23 Aa Ad).f2) Aw):Int):=qd
                  have Lq:(rd ((y23 Aa Ad).f2) Aw) < (Au.length:Int):=qd
                  obtain⟨Yh,Vj,Sb⟩:=Kd.at_string (Kd.R_reads' Aj.out).2.2 (rd ((y23 Aa Ad).f2) Aw) Lp Lq
                  cases Vj
                  replace Lp:=eq_true Lp
                  replace Lq:=eq_true Lq
                  go_wp2
                  go_roundg k4
                  case measure=>have:=Cw.out;have:=Cv.out;have:=Cz.out;have:=Nn.out;omega
                  exact⟨((Dv ++ (⟨#[40]⟩:ByteArray)) ++ (rdOf ByteArray.empty Au (rd ((y23 Aa Ad).f2) Aw))),(wrap64 (Aw + 1)),qy2,qy2,H',⟨by have:=Cw.out;have:=Cv.out;have:=Cz.out;have:=Nn.out;omega⟩,⟨qR Ak.out⟩,⟨qR Aj.out⟩,⟨qV Ab.out⟩,⟨qV Ac.out⟩,⟨qk Af.out⟩,⟨qk Ai.out⟩,⟨qb⟩⟩
                 ·as_aux_lemma =>
                  rw [if_neg Lm]at H
                  have Ol:(Aw == 0)=false:=beq_eq_false_iff_ne.mpr Lm
                  have Om:(Aw != 0)=true:=bne_iff_ne.mpr Lm
                  obtain⟨Vk,H⟩:=qo H
                  have Yi:=eq_true Vk
                  have Yj:=decide_eq_true Vk
                  have Yk:=eq_false (Nat.not_lt.2 Vk)
                  obtain⟨Yl,H⟩:=qo H
                  have Ym:decide (0≤Aw)=true:=decide_eq_true Yl
                  clear Yl
                  obtain⟨Yn,H⟩:=qo H
                  have Yo:decide (0≤(rd ((y23 Aa Ad).f2) Aw))=true:=decide_eq_true Yn
                  clear Yn
                  obtain⟨Yp,H⟩:=qo H
                  have Yq:decide ((rd ((y23 Aa Ad).f2) Aw) < (Au.length:Int))=true:=decide_eq_true Yp
                  clear Yp
                  obtain⟨Vl,H⟩:=qo H
                  have Yr:=eq_true Vl
                  have Ys:=decide_eq_true Vl
                  have Oo:=eq_false (Nat.not_lt.2 Vl)
                  have Yt:(9223372036854775807 < Dv.size + 2 + (rdOf ByteArray.empty Au (rd ((y23 Aa Ad).f2) Aw)).size)=False:=qs Oo
                  have H':=y0.mk H
                  clear H
                  have Yu:=At.out
                  have Yv:=Aq.out
                  obtain⟨Sc,Sd,Se,Sf,Sg,Sh⟩:=qz3 Ai.out
                  have Lr:0≤(Aw:Int):=qd
                  have Ls:Aw < (((y23 Aa Ad).f2).length:Int):=qd
                  obtain⟨Yw,Vm,Dx⟩:=Kd.at_int Cc.out Aw Lr Ls
                  cases Vm
                  replace Dx:=qC Dx HB
                  replace Lr:=eq_true Lr
                  replace Ls:=eq_true Ls
                  obtain⟨bN,bO,Vn⟩:=Kd.R_slice Aj.out
                  subst Vn
                  have Lt:0≤((rd ((y23 Aa Ad).f2) Aw):Int):=qd
                  have Lu:(rd ((y23 Aa Ad).f2) Aw) < (Au.length:Int):=qd
                  obtain⟨Yx,Vo,Si⟩:=Kd.at_string (Kd.R_reads' Aj.out).2.2 (rd ((y23 Aa Ad).f2) Aw) Lt Lu
                  cases Vo
                  replace Lt:=eq_true Lt
                  replace Lu:=eq_true Lu
                  go_wp2
                  go_roundg k4
                  case measure=>have:=Cw.out;have:=Cv.out;have:=Cz.out;have:=Nn.out;omega
                  exact⟨((Dv ++ (⟨#[44,32]⟩:ByteArray)) ++ (rdOf ByteArray.empty Au (rd ((y23 Aa Ad).f2) Aw))),(wrap64 (Aw + 1)),qy2,qy2,H',⟨by have:=Cw.out;have:=Cv.out;have:=Cz.out;have:=Nn.out;omega⟩,⟨qR Ak.out⟩,⟨qR Aj.out⟩,⟨qV Ab.out⟩,⟨qV Ac.out⟩,⟨qk Af.out⟩,⟨qk Ai.out⟩,⟨qb⟩⟩
                ·as_aux_lemma =>
                 rw [if_neg Np]at H
                 have Oj:=decide_eq_false Np
                 clear Np
                 by_cases Nq:(((y23 Aa Ad).f2).length:Int) > 0
                 ·as_aux_lemma =>
                  rw [if_pos Nq]at H
                  have Oq:decide (0 < (((y23 Aa Ad).f2).length:Int))=true:=decide_eq_true Nq
                  have Ot:decide (0 < ((y23 Aa Ad).f2).length)=true:=decide_eq_true (by omega)
                  clear Nq
                  obtain⟨Vp,H⟩:=qo H
                  have Yy:=eq_true Vp
                  have Yz:=decide_eq_true Vp
                  have Za:=eq_false (Nat.not_lt.2 Vp)
                  have H':=y0.mk H
                  clear H
                  have Zb:=At.out
                  have Zc:=Aq.out
                  obtain⟨Sj,Sk,Sl,Sn,So,Sp⟩:=qz3 Ai.out
                  go_wp2
                  go_meet
                  exact⟨_,(Dv ++ (⟨#[41]⟩:ByteArray)),qy2,H',⟨by have:=Cw.out;have:=Cv.out;have:=Cz.out;have:=Nn.out;first|omega|exact Nat.le_refl _⟩,⟨qR Ak.out⟩,⟨qR Aj.out⟩,⟨qV Ab.out⟩,⟨qV Ac.out⟩,⟨qk Af.out⟩,⟨qk Ai.out⟩,⟨qb⟩⟩
                 ·as_aux_lemma =>
                  rw [if_neg Nq]at H
                  have Oq:decide (0 < (((y23 Aa Ad).f2).length:Int))=false:=decide_eq_false Nq
                  have Ot:decide (0 < ((y23 Aa Ad).f2).length)=false:=decide_eq_false (by omega)
                  clear Nq
                  have H':=y0.mk H
                  clear H
                  have Zd:=At.out
                  have Ze:=Aq.out
                  obtain⟨Sq,Sr,Ss,St,Su,Sv⟩:=qz3 Ai.out
                  go_wp2
                  go_meet
                  exact⟨_,(Dv),qy2,H',⟨by have:=Cw.out;have:=Cv.out;have:=Cz.out;have:=Nn.out;first|omega|exact Nat.le_refl _⟩,⟨qR Ak.out⟩,⟨qR Aj.out⟩,⟨qV Ab.out⟩,⟨qV Ac.out⟩,⟨qk Af.out⟩,⟨qk Ai.out⟩,⟨qb⟩⟩
             ·as_aux_lemma =>
              rw [if_neg Ll]at H
              have Gp:(((y23 Aa Ad).f0) == 4)=false:=beq_eq_false_iff_ne.mpr Ll
              have Gq:(((y23 Aa Ad).f0) != 4)=true:=bne_iff_ne.mpr Ll
              have Lv:=y0.mk H
              clear H
              go_upto_if 111 with(fail)
              go_cut [111] (fun Vq wc=>∃(kq:Nat) (De:Bool),Vq=.bool De∧y0 (z10_.j4 kq Ba Au Ad De Aa Ax Ay Al Am ((y23 Aa Ad).f0) ((y23 Aa Ad).f1) ((y23 Aa Ad).f2)=some (r1,r2))∧y0 (kq≤Lj)∧y0 (Kd.R (Kd.int .i64) 3 wc w.heap.size (fun k_=>(w.heap.size≤k_)) Az Ba)∧y0 (Kd.R Kd.string 9 wc w.heap.size (fun k_=>(w.heap.size≤k_)) As Au)∧y0 (Kd.V (Kd.int .i64) 3 wc w.heap.size (fun k_=>((P0_3_ k_∨P0_4_ k_)∨w.heap.size≤k_)∧some k_≠(Az:Value).ownBlock∧some k_≠(As:Value).ownBlock∧k_≠Ag∧k_≠Ap) (.slice Bd Al.length Be) Al)∧y0 (Kd.V k35 35 wc w.heap.size (fun k_=>((P0_3_ k_∨P0_4_ k_)∨w.heap.size≤k_)∧some k_≠(Az:Value).ownBlock∧some k_≠(As:Value).ownBlock∧k_≠Ag∧k_≠Ap) (.slice Bh Am.length Bi) Am)∧y0 (wc.heap[Ag]?=some (.cells #[(.slice (some Co) Aa.length Bz),.int .i64 Ax,.string Ay,(.slice Bd Al.length Be),(.slice Bh Am.length Bi)] 38 (0,0)))∧y0 (wc.heap[Ap]?=some (.cells #[.int .i64 ((y23 Aa Ad).f0),.string ((y23 Aa Ad).f1),(.slice Ca ((y23 Aa Ad).f2).length Bo)] 67 (0,0)))∧y0 (Below w.heap.size w wc))
              case first =>
               have H:=Lv.out
               clear Lv
               by_cases Lw:((y23 Aa Ad).f0)=5
               ·as_aux_lemma =>
                rw [if_pos Lw]at H
                have En:(((y23 Aa Ad).f0) == 5)=true:=beq_iff_eq.mpr Lw
                have Ou:(((y23 Aa Ad).f0) != 5)=false:=bne_eq_false_iff_eq.mpr Lw
                clear Lw
                (first|rw [En]|(simp only [i64_w,i32_w];rw [En])|skip)
                have H':=y0.mk H
                clear H
                go_wp2
                go_meet
                exact⟨_,((((y23 Aa Ad).f0) == 5)),qy2,H',⟨by have:=Cw.out;have:=Cv.out;have:=Cz.out;first|omega|exact Nat.le_refl _⟩,⟨qR Ak.out⟩,⟨qR Aj.out⟩,⟨qV Ab.out⟩,⟨qV Ac.out⟩,⟨qk Af.out⟩,⟨qk Ai.out⟩,⟨qb⟩⟩
               ·as_aux_lemma =>
                rw [if_neg Lw]at H
                have En:(((y23 Aa Ad).f0) == 5)=false:=beq_eq_false_iff_ne.mpr Lw
                have Ou:(((y23 Aa Ad).f0) != 5)=true:=bne_iff_ne.mpr Lw
                (first|rw [En]|(simp only [i64_w,i32_w];rw [En])|skip)
                by_cases Lx:((y23 Aa Ad).f0)=6
                ·as_aux_lemma =>
                 rw [if_pos Lx]at H
                 have Ov:(((y23 Aa Ad).f0) == 6)=true:=beq_iff_eq.mpr Lx
                 have Ow:(((y23 Aa Ad).f0) != 6)=false:=bne_eq_false_iff_eq.mpr Lx
                 clear Lx
                 have H':=y0.mk H
                 clear H
                 go_wp2
                 go_meet
                 exact⟨_,((((y23 Aa Ad).f0) == 6)),qy2,H',⟨by have:=Cw.out;have:=Cv.out;have:=Cz.out;first|omega|exact Nat.le_refl _⟩,⟨qR Ak.out⟩,⟨qR Aj.out⟩,⟨qV Ab.out⟩,⟨qV Ac.out⟩,⟨qk Af.out⟩,⟨qk Ai.out⟩,⟨qb⟩⟩
                ·as_aux_lemma =>
                 rw [if_neg Lx]at H
                 have Ov:(((y23 Aa Ad).f0) == 6)=false:=beq_eq_false_iff_ne.mpr Lx
                 have Ow:(((y23 Aa Ad).f0) != 6)=true:=bne_iff_ne.mpr Lx
                 have H':=y0.mk H
                 clear H
                 go_wp2
                 go_meet
                 exact⟨_,((((y23 Aa Ad).f0) == 7)),qy2,H',⟨by have:=Cw.out;have:=Cv.out;have:=Cz.out;first|omega|exact Nat.le_refl _⟩,⟨qR Ak.out⟩,⟨qR Aj.out⟩,⟨qV Ab.out⟩,⟨qV Ac.out⟩,⟨qk Af.out⟩,⟨qk Ai.out⟩,⟨qb⟩⟩
              case rest =>
               clear Lv
               (try clear Gp Gq)
               obtain⟨kq,De,rfl,HA,Vr,Ak,Aj,Ab,Ac,Af,Ai,HB⟩:=hcut
               cases kq with
               | zero=>exact absurd HA.out (by simp [z10_.j4])
               | succ Ox =>
                have H:=HA.out
                clear HA
                simp only [z10_.j4]at H
                by_cases Sw:De=true
                ·subst Sw
                 replace H:=qT H
                 by_cases Ly:(((y23 Aa Ad).f2).length:Int)=2
                 ·as_aux_lemma =>
                  rw [if_pos Ly]at H
                  have Oy:((((y23 Aa Ad).f2).length:Int) == 2)=true:=beq_iff_eq.mpr Ly
                  have Oz:((((y23 Aa Ad).f2).length:Int) != 2)=false:=bne_eq_false_iff_eq.mpr Ly
                  clear Ly
                  obtain⟨Da,Eo⟩:∃ y_:List ByteArray,y_=(([(⟨#[32,43,32]⟩:ByteArray),(⟨#[32,45,32]⟩:ByteArray),(⟨#[32,42,32]⟩:ByteArray)]:List ByteArray)):=⟨_,rfl⟩
                  replace H:(if 0≤(wrap64 (((y23 Aa Ad).f0) - 5))then(if(wrap64 (((y23 Aa Ad).f0) - 5)) < (Da.length:Int)then(if 0 < (((y23 Aa Ad).f2).length:Int)then((spec_l04Side.f Aa Ax Ay Al Am Au (rd ((y23 Aa Ad).f2) 0)).bind fun Dk=>(if Dk.size + (rdOf ByteArray.empty Da (wrap64 (((y23 Aa Ad).f0) - 5))).size≤9223372036854775807 then(if 1 < (((y23 Aa Ad).f2).length:Int)then((spec_l04Side.f Aa Ax Ay Al Am Au (rd ((y23 Aa Ad).f2) 1)).bind fun Dy=>(if(Dk ++ (rdOf ByteArray.empty Da (wrap64 (((y23 Aa Ad).f0) - 5)))).size + Dy.size≤9223372036854775807 then(z10_.j5 Ox Ba Au Ad ((Dk ++ (rdOf ByteArray.empty Da (wrap64 (((y23 Aa Ad).f0) - 5)))) ++ Dy) Aa Ax Ay Al Am ((y23 Aa Ad).f0) ((y23 Aa Ad).f1) ((y23 Aa Ad).f2))else(none)))else(none))else(none)))else(none))else(none))else(none))=some (r1,r2):=by first|exact Eo ▸ H|exact Eo ▸ (Option.bind_some _ _).symm.trans H
                  replace Eo:=y0.mk Eo
                  obtain⟨Cx,Ep⟩:∃ j_:Int,(wrap64 (((y23 Aa Ad).f0) - 5))=j_:=⟨_,rfl⟩
                  replace H:(if 0≤(Cx)then(if(Cx) < (Da.length:Int)then(if 0 < (((y23 Aa Ad).f2).length:Int)then((spec_l04Side.f Aa Ax Ay Al Am Au (rd ((y23 Aa Ad).f2) 0)).bind fun Dk=>(if Dk.size + (rdOf ByteArray.empty Da (Cx)).size≤9223372036854775807 then(if 1 < (((y23 Aa Ad).f2).length:Int)then((spec_l04Side.f Aa Ax Ay Al Am Au (rd ((y23 Aa Ad).f2) 1)).bind fun Dy=>(if(Dk ++ (rdOf ByteArray.empty Da (Cx))).size + Dy.size≤9223372036854775807 then(z10_.j5 Ox Ba Au Ad ((Dk ++ (rdOf ByteArray.empty Da (Cx))) ++ Dy) Aa Ax Ay Al Am ((y23 Aa Ad).f0) ((y23 Aa Ad).f1) ((y23 Aa Ad).f2))else(none)))else(none))else(none)))else(none))else(none))else(none))=some (r1,r2):=by first|(rw [Ep]at H;exact H)|(simp only [Ep]at H ⊢;exact H)
                  have hji78w:(IntKind.i64.wrap (((y23 Aa Ad).f0) - 5))=Cx:=(i64_w _).trans Ep
                  obtain⟨Zf,H⟩:=qo H
                  have Zg:decide (0≤(Cx))=true:=decide_eq_true Zf
                  clear Zf
                  obtain⟨Zh,H⟩:=qo H
                  have Zi:decide ((Cx) < (Da.length:Int))=true:=decide_eq_true Zh
                  clear Zh
                  obtain⟨Zj,H⟩:=qo H
                  have Zk:decide (0 < (((y23 Aa Ad).f2).length:Int))=true:=decide_eq_true Zj
                  have Zl:decide (0 < ((y23 Aa Ad).f2).length)=true:=decide_eq_true (by omega)
                  clear Zj
                  obtain⟨Dk,bP,H⟩:=qB H
                  obtain⟨Vs,H⟩:=qo H
                  have Zm:=eq_true Vs
                  have Zn:=decide_eq_true Vs
                  have Zo:=eq_false (Nat.not_lt.2 Vs)
                  obtain⟨Zp,H⟩:=qo H
                  have Zq:decide (1 < (((y23 Aa Ad).f2).length:Int))=true:=decide_eq_true Zp
                  have Zr:decide (1 < ((y23 Aa Ad).f2).length)=true:=decide_eq_true (by omega)
                  clear Zp
                  obtain⟨Dy,bQ,H⟩:=qB H
                  obtain⟨Vt,H⟩:=qo H
                  have Zs:=eq_true Vt
                  have Zt:=decide_eq_true Vt
                  have Pa:=eq_false (Nat.not_lt.2 Vt)
                  have Zu:(9223372036854775807 < Dk.size + (rdOf ByteArray.empty Da (Cx)).size + Dy.size)=False:=qs Pa
                  have H':=y0.mk H
                  clear H
                  have Zv:=At.out
                  have Zw:=Aq.out
                  obtain⟨Sx,Sy,Sz,Ta,Tc,Td⟩:=qz3 Ai.out
                  try go_wp2_with (first|((with_reducible refine y19 (N:=120) rfl ?_);(try(refine y20 (by rfl) ?_;dsimp only));refine qL Kd.string 9 120 ([(⟨#[32,43,32]⟩:ByteArray),(⟨#[32,45,32]⟩:ByteArray),(⟨#[32,42,32]⟩:ByteArray)]:List ByteArray) ?_;intro bR bS Er hb hg_ hnew_;clear hg_ hnew_;(first|rw [← Eo.out]at Er|(simp only [Int.reduceToNat]at Er;rw [← Eo.out]at Er));replace Ak:=y0.mk (Kd.R_below (qR Ak.out) hb);replace Ab:=y0.mk (Kd.V_elder' (qV Ab.out) (Kd.R_base Er) hb);replace Ac:=y0.mk (Kd.V_elder' (qV Ac.out) (Kd.R_base Er) hb);have Cq:=y0.mk (Kd.R_lower (Kd.R_new' (Kd.R_newM (M:=fun k_=>(w.heap.size≤k_)) Er (y4 qb) (fun k_ h_=>h_)) (Kd.R_lt (qR Aj.out))) (y4 qb));replace Aj:=y0.mk (Kd.R_elder' (qR Aj.out) (Kd.R_base Er) hb);replace Af:=y0.mk (qK Af.out hb);replace Ai:=y0.mk (qK Ai.out hb);replace HB:=y0.mk (y5 qb hb);clear hb Er;obtain⟨Te,Tf,Tg,Th,Ti,Tj⟩:=qz3 Ai.out;obtain⟨bT,bU,Vu⟩:=Kd.R_slice Cq.out;subst Vu;have Lz:0≤((Cx):Int):=qd;have Ma:(Cx) < (Da.length:Int):=qd;obtain⟨Zx,Vv,Tk⟩:=Kd.at_string (Kd.R_reads' Cq.out).2.2 (Cx) Lz Ma;cases Vv;replace Lz:=eq_true Lz;replace Ma:=eq_true Ma))
                  replace Ak:=y0.mk (Kd.R_drew Ak.out)
                  replace Aj:=y0.mk (Kd.R_drew Aj.out)
                  replace Ab:=y0.mk (Kd.V_drew Ab.out)
                  replace Ac:=y0.mk (Kd.V_drew Ac.out)
                  replace Cq:=y0.mk (Kd.R_drew Cq.out)
                  replace Af:=y0.mk (y9 Af.out)
                  replace Ai:=y0.mk (y9 Ai.out)
                  replace HB:=y0.mk (below_drew1 HB.out)
                  have Mb:0≤(0:Int):=(by omega)
                  have Mc:0 < (((y23 Aa Ad).f2).length:Int):=qd
                  obtain⟨Es,Vw,Cd⟩:=Kd.at_int Cc.out 0 Mb Mc
                  have Br:=Cd
                  (try rw [show((0:Int)).toNat=0 from rfl]at Br)
                  (try rw [show 0 * 1=0 from rfl]at Br)
                  (try rw [Addr.add_zero']at Br)
                  cases Vw
                  have Zy:(0 < ((y23 Aa Ad).f2).length)=True:=eq_true (by omega)
                  (try rw [show((0:Int)).toNat=0 from rfl]at Cd)
                  (try rw [Addr.add_zero']at Cd)
                  replace Cd:=qC Cd HB
                  replace Mb:=eq_true Mb
                  replace Mc:=eq_true Mc
                  have Md:0≤(1:Int):=(by omega)
                  have Me:1 < (((y23 Aa Ad).f2).length:Int):=qd
                  obtain⟨Pb,Vx,Ce⟩:=Kd.at_int Cc.out 1 Md Me
                  have Bs:=Ce
                  (try rw [show((1:Int)).toNat=1 from rfl]at Bs)
                  (try rw [show 1 * 1=1 from rfl]at Bs)
                  (try simp only [Nat.reduceMul,Nat.reduceEqDiff,Go.Addr.add,↓reduceIte]at Bs)
                  obtain rfl:Es=Pb:=(by injection Vx)
                  (try simp only [show(1:Int).toNat=1 from rfl,Nat.reduceMul,Nat.reduceEqDiff,Go.Addr.add,↓reduceIte]at Ce)
                  have Zz:(1 < ((y23 Aa Ad).f2).length)=True:=eq_true (by omega)
                  (try rw [show((1:Int)).toNat=1 from rfl]at Ce)
                  replace Ce:=qC Ce HB
                  replace Md:=eq_true Md
                  replace Me:=eq_true Me
                  obtain⟨Pc,Pd,Pe⟩:=Kd.R_slice Aj.out
                  (first|subst Pe|(injection Pe with f1_ f2_ f3_;have f4_:=f1_.symm;have f5_:=f3_.symm;clear f1_ f2_ f3_;subst f4_;subst f5_))
                  refine start_ (n:=18) (S:=fun w'=>w'.cell? ⟨Ag,0,none⟩=some (.slice (some Co) Aa.length Bz)∧w'.cell? ⟨Ag,1,none⟩=some (.int .i64 Ax)∧w'.cell? ⟨Ag,2,none⟩=some (.string Ay)∧w'.cell? ⟨Ag,3,none⟩=some (.slice Bd Al.length Be)∧w'.cell? ⟨Ag,4,none⟩=some (.slice Bh Am.length Bi)∧w'.cell? ⟨Ap,0,none⟩=some (.int .i64 ((y23 Aa Ad).f0))∧w'.cell? ⟨Ap,1,none⟩=some (.string ((y23 Aa Ad).f1))∧w'.cell? ⟨Ap,2,none⟩=some (.slice (some Es) ((y23 Aa Ad).f2).length Bo)∧w'.cell? Es=some (.int .i64 (rd ((y23 Aa Ad).f2) 0))∧w'.cell? ⟨Es.block,Es.off + 1,none⟩=some (.int .i64 (rd ((y23 Aa Ad).f2) 1))) (ds:=[]) (fl_ 18 0) (by kernel_rfl) rfl rfl ⟨(y8 Af.out 0).trans rfl,(y8 Af.out 1).trans rfl,(y8 Af.out 2).trans rfl,(y8 Af.out 3).trans rfl,(y8 Af.out 4).trans rfl,(y8 Ai.out 0).trans rfl,(y8 Ai.out 1).trans rfl,(y8 Ai.out 2).trans rfl,(qC Br HB),(qC Bs HB)⟩ (fun hHeld=>?_);refine with_tabW z10_.tab40 z10_.bits40 (fun HT_ HW_=>?_)
                  generalize bS.drew=cE at Ak Aj Ab Ac Cq Af Ai HB Cd Ce hHeld ⊢
                  refine qp 1 127 (fl_ 18 2) ?_
                  refine qp 2 128 (fl_ 18 6) ?_
                  refine qp 7 133 (fl_ 18 134) ?_
                  refine qp 10 136 (fl_ 18 1158) ?_
                  refine qp 11 137 (fl_ 18 3206) ?_
                  refine qt 0 126 (fl_ 18 3207) hHeld ?_
                  refine qt 3 129 (fl_ 18 3215) hHeld ?_
                  refine qp 4 130 (fl_ 18 3231) ?_
                  refine qt 5 131 (fl_ 18 3263) hHeld ?_
                  refine qt 9 135 (fl_ 18 3775) hHeld ?_
                  refine qt 12 138 (fl_ 18 7871) hHeld ?_
                  refine qp 13 139 (fl_ 18 16063) ?_
                  refine qt 14 140 (fl_ 18 32447) hHeld ?_
                  refine qO 6 132 (fl_ 18 32511) (fun K hK=>?_)
                  refine goes_ Tryz.func48 (by kernel_rfl) rfl #[.agg #[.slice (some Co) Aa.length Bz,.int .i64 Ax,.string Ay,.slice Bd Al.length Be,.slice Bh Am.length Bi],.slice Pc Au.length Pd,.int .i64 (rd ((y23 Aa Ad).f2) 0)] (by rfl) rfl rfl qy1 ?_
                  with_reducible refine(spec_l04Side.calls _ _ Aa Ax Ay _ _ Al _ _ Am _ _ Au (rd ((y23 Aa Ad).f2) 0) Dk _ (qc (Kd.C_below Gk.out HB.out)) Ki.out (qc ((Kd.V_reads' Ab.out).2.2)) (by exact(Kd.V_reads' Ab.out).2.1) (qc ((Kd.V_reads' Ac.out).2.2)) (by exact(Kd.V_reads' Ac.out).2.1) (qc ((Kd.R_reads' Aj.out).2.2)) (by exact(Kd.R_reads' Aj.out).2.1) bP.out).mono ?_
                  rintro e cF ⟨rfl,hb⟩
                  refine⟨_,rfl, ?_⟩
                  replace Ak:=y0.mk (Kd.R_below (qR Ak.out) hb)
                  replace Aj:=y0.mk (Kd.R_below (qR Aj.out) hb)
                  replace Ab:=y0.mk (Kd.V_below (qV Ab.out) hb)
                  replace Ac:=y0.mk (Kd.V_below (qV Ac.out) hb)
                  replace Cq:=y0.mk (Kd.R_below (qR Cq.out) hb)
                  replace Af:=y0.mk (qK Af.out hb)
                  replace Ai:=y0.mk (qK Ai.out hb)
                  replace HB:=y0.mk (y5 qb hb)
                  (try clear hb)
                  refine hK.out _ _ ⟨(y8 Af.out 0).trans rfl,(y8 Af.out 1).trans rfl,(y8 Af.out 2).trans rfl,(y8 Af.out 3).trans rfl,(y8 Af.out 4).trans rfl,(y8 Ai.out 0).trans rfl,(y8 Ai.out 1).trans rfl,(y8 Ai.out 2).trans rfl,(qC Br HB),(qC Bs HB)⟩ (fun hHeld=>?_)
                  clear hK K
                  refine qx 132 ?_
                  refine qp 8 134 (fl_ 18 32767) ?_
                  refine qO 15 141 (fl_ 18 65535) (fun K hK=>?_)
                  refine goes_ Tryz.func48 (by kernel_rfl) rfl #[.agg #[.slice (some Co) Aa.length Bz,.int .i64 Ax,.string Ay,.slice Bd Al.length Be,.slice Bh Am.length Bi],.slice Pc Au.length Pd,.int .i64 (rd ((y23 Aa Ad).f2) 1)] (by rfl) rfl rfl qy1 ?_
                  with_reducible refine(spec_l04Side.calls _ _ Aa Ax Ay _ _ Al _ _ Am _ _ Au (rd ((y23 Aa Ad).f2) 1) Dy _ (qc (Kd.C_below Gk.out HB.out)) Ki.out (qc ((Kd.V_reads' Ab.out).2.2)) (by exact(Kd.V_reads' Ab.out).2.1) (qc ((Kd.V_reads' Ac.out).2.2)) (by exact(Kd.V_reads' Ac.out).2.1) (qc ((Kd.R_reads' Aj.out).2.2)) (by exact(Kd.R_reads' Aj.out).2.1) bQ.out).mono ?_
                  rintro e cG ⟨rfl,hb⟩
                  refine⟨_,rfl, ?_⟩
                  replace Ak:=y0.mk (Kd.R_below (qR Ak.out) hb)
                  replace Aj:=y0.mk (Kd.R_below (qR Aj.out) hb)
                  replace Ab:=y0.mk (Kd.V_below (qV Ab.out) hb)
                  replace Ac:=y0.mk (Kd.V_below (qV Ac.out) hb)
                  replace Cq:=y0.mk (Kd.R_below (qR Cq.out) hb)
                  replace Af:=y0.mk (qK Af.out hb)
                  replace Ai:=y0.mk (qK Ai.out hb)
                  replace HB:=y0.mk (y5 qb hb)
                  (try clear hb)
                  refine hK.out _ _ ⟨(y8 Af.out 0).trans rfl,(y8 Af.out 1).trans rfl,(y8 Af.out 2).trans rfl,(y8 Af.out 3).trans rfl,(y8 Af.out 4).trans rfl,(y8 Ai.out 0).trans rfl,(y8 Ai.out 1).trans rfl,(y8 Ai.out 2).trans rfl,(qC Br HB),(qC Bs HB)⟩ (fun hHeld=>?_)
                  clear hK K
                  refine qx 141 ?_
                  refine qp 16 142 (fl_ 18 131071) ?_
                  refine qp 17 9 (fl_ 18 262143) ?_
                  refine done_ (done_of HT_.out (by kernel_rfl)) ?_
                  try go_wp2
                  go_meet
                  exact⟨_,((Dk ++ (rdOf ByteArray.empty Da (Cx))) ++ Dy),(by first|rfl|(simp;done)|(simp only [← Ep] <;> (first|rfl|simp))|(simp [*];done)),(by first|exact H'|(have h_:=H';simp only [← Ep]at h_ ⊢;exact h_)),⟨by have:=Cw.out;have:=Cv.out;have:=Cz.out;have:=Vr.out;first|omega|exact Nat.le_refl _⟩,⟨qR Ak.out⟩,⟨qR (Kd.R_mono Aj.out (fun _ hk=>hk.1))⟩,⟨qV (Kd.V_mono Ab.out (fun _ hk=>⟨hk.1.1,⟨hk.1.2.1,⟨hk.1.2.2.1,⟨hk.1.2.2.2.1,hk.1.2.2.2.2⟩⟩⟩⟩))⟩,⟨qV (Kd.V_mono Ac.out (fun _ hk=>⟨hk.1.1,⟨hk.1.2.1,⟨hk.1.2.2.1,⟨hk.1.2.2.2.1,hk.1.2.2.2.2⟩⟩⟩⟩))⟩,⟨qk Af.out⟩,⟨qk Ai.out⟩,⟨qb⟩⟩
                 ·as_aux_lemma =>
                  rw [if_neg Ly]at H
                  have Oy:((((y23 Aa Ad).f2).length:Int) == 2)=false:=beq_eq_false_iff_ne.mpr Ly
                  have Oz:((((y23 Aa Ad).f2).length:Int) != 2)=true:=bne_iff_ne.mpr Ly
                  simp only [Option.some.injEq,Prod.mk.injEq]at H
                  obtain⟨rfl,rfl⟩:=H
                  have aA:=At.out
                  have aC:=Aq.out
                  obtain⟨Tl,Tn,To,Tp,Tq,Tr⟩:=qz3 Ai.out
                  go_wp2
                  go_ret2
                  exact⟨_,by first|rfl|(simp [y15,y16] <;> rfl)|(simp [*,y15,y16] <;> rfl),by(with_reducible repeat(first|apply Kd.R_alloc|apply Kd.R_drewN|apply Kd.R_drew));exact Aj.out,qb⟩
                ·replace Sw:=Bool.eq_false_iff.mpr Sw
                 subst Sw
                 replace H:=qF H
                 simp only [Option.some.injEq,Prod.mk.injEq]at H
                 obtain⟨rfl,rfl⟩:=H
                 go_wp2
                 go_ret2
                 exact⟨_,by first|rfl|(simp [y15,y16] <;> rfl)|(simp [*,y15,y16] <;> rfl),by(with_reducible repeat(first|apply Kd.R_alloc|apply Kd.R_drewN|apply Kd.R_drew));exact Aj.out,qb⟩
        case rest =>
         clear Lg
         obtain⟨kq,Cp,rfl,HA,Gr,Ak,Aj,Ab,Ac,Af,Ai,HB⟩:=hcut
         cases kq with
         | zero=>exact absurd HA.out (by simp [z10_.j5])
         | succ Vy =>
          have H:=HA.out
          clear HA
          simp only [z10_.j5]at H
          have Mf:=y0.mk H
          clear H
          go_upto_region 41 with(fail)
          go_cut [156] (fun Vz wc=>∃(kq:Nat) (Df:Bool),Vz=.bool Df∧y0 (z10_.j6 kq Ba Au Ad Cp Df Aa Ax Ay Al Am=some (r1,r2))∧y0 (kq≤Vy)∧y0 (Kd.R (Kd.int .i64) 3 wc w.heap.size (fun k_=>(w.heap.size≤k_)) Az Ba)∧y0 (Kd.R Kd.string 9 wc w.heap.size (fun k_=>(w.heap.size≤k_)) As Au)∧y0 (Kd.V (Kd.int .i64) 3 wc w.heap.size (fun k_=>((P0_3_ k_∨P0_4_ k_)∨w.heap.size≤k_)∧some k_≠(Az:Value).ownBlock∧some k_≠(As:Value).ownBlock∧k_≠Ag∧k_≠Ap) (.slice Bd Al.length Be) Al)∧y0 (Kd.V k35 35 wc w.heap.size (fun k_=>((P0_3_ k_∨P0_4_ k_)∨w.heap.size≤k_)∧some k_≠(Az:Value).ownBlock∧some k_≠(As:Value).ownBlock∧k_≠Ag∧k_≠Ap) (.slice Bh Am.length Bi) Am)∧y0 (wc.heap[Ag]?=some (.cells #[(.slice (some Co) Aa.length Bz),.int .i64 Ax,.string Ay,(.slice Bd Al.length Be),(.slice Bh Am.length Bi)] 38 (0,0)))∧y0 (wc.heap[Ap]?=some (.cells #[.int .i64 ((y23 Aa Ad).f0),.string ((y23 Aa Ad).f1),(.slice Ca ((y23 Aa Ad).f2).length Bo)] 67 (0,0)))∧y0 (Below w.heap.size w wc))
          case first =>
           have H:=Mf.out
           clear Mf
           by_cases Gf:((y23 Aa Ad).f0)≤3
           ·as_aux_lemma =>
            rw [if_pos Gf]at H
            have Dl:=decide_eq_true Gf
            clear Gf
            (first|rw [Dl]|(simp only [i64_w,i32_w];rw [Dl])|skip)
            by_cases Gg:(((y23 Aa Ad).f2).length:Int) > 0
            ·as_aux_lemma =>
             rw [if_pos Gg]at H
             have Mg:decide (0 < (((y23 Aa Ad).f2).length:Int))=true:=decide_eq_true Gg
             have Mh:decide (0 < ((y23 Aa Ad).f2).length)=true:=decide_eq_true (by omega)
             clear Gg
             have H':=y0.mk H
             clear H
             have Wa:=At.out
             have Wb:=Aq.out
             obtain⟨Pf,Pg,Ph,Pi,Pj,Pk⟩:=qz3 Ai.out
             go_wp2
             go_meet
             exact⟨_,(true),qy2,H',⟨by have:=Cw.out;have:=Cv.out;have:=Gr.out;first|omega|exact Nat.le_refl _⟩,⟨qR Ak.out⟩,⟨qR Aj.out⟩,⟨qV Ab.out⟩,⟨qV Ac.out⟩,⟨qk Af.out⟩,⟨qk Ai.out⟩,⟨qb⟩⟩
            ·as_aux_lemma =>
             rw [if_neg Gg]at H
             have Mg:decide (0 < (((y23 Aa Ad).f2).length:Int))=false:=decide_eq_false Gg
             have Mh:decide (0 < ((y23 Aa Ad).f2).length)=false:=decide_eq_false (by omega)
             clear Gg
             have H':=y0.mk H
             clear H
             have Wc:=At.out
             have Wd:=Aq.out
             obtain⟨Pm,Pn,Po,Pp,Pq,Pr⟩:=qz3 Ai.out
             go_wp2
             go_meet
             exact⟨_,(decide ((Cp.size:Int) > 3000)),qy2,H',⟨by have:=Cw.out;have:=Cv.out;have:=Gr.out;first|omega|exact Nat.le_refl _⟩,⟨qR Ak.out⟩,⟨qR Aj.out⟩,⟨qV Ab.out⟩,⟨qV Ac.out⟩,⟨qk Af.out⟩,⟨qk Ai.out⟩,⟨qb⟩⟩
           ·as_aux_lemma =>
            rw [if_neg Gf]at H
            have Dl:=decide_eq_false Gf
            clear Gf
            (first|rw [Dl]|(simp only [i64_w,i32_w];rw [Dl])|skip)
            have H':=y0.mk H
            clear H
            have We:=At.out
            have Wf:=Aq.out
            obtain⟨Ps,Pt,Pu,Pw,Px,Py⟩:=qz3 Ai.out
            go_wp2
            go_meet
            exact⟨_,(decide ((Cp.size:Int) > 3000)),qy2,H',⟨by have:=Cw.out;have:=Cv.out;have:=Gr.out;first|omega|exact Nat.le_refl _⟩,⟨qR Ak.out⟩,⟨qR Aj.out⟩,⟨qV Ab.out⟩,⟨qV Ac.out⟩,⟨qk Af.out⟩,⟨qk Ai.out⟩,⟨qb⟩⟩
          case rest =>
           clear Mf
           obtain⟨kq,Df,rfl,HA,Pz,Ak,Aj,Ab,Ac,Af,Ai,HB⟩:=hcut
           cases kq with
           | zero=>exact absurd HA.out (by simp [z10_.j6])
           | succ Qa =>
            have H:=HA.out
            clear HA
            simp only [z10_.j6]at H
            by_cases Ju:Df=true
            ·subst Ju
             replace H:=qT H
             simp only [Option.some.injEq,Prod.mk.injEq]at H
             obtain⟨rfl,rfl⟩:=H
             go_wp2
             go_ret2
             exact⟨_,by first|rfl|(simp [y15,y16] <;> rfl)|(simp [*,y15,y16] <;> rfl),by(with_reducible repeat(first|apply Kd.R_alloc|apply Kd.R_drewN|apply Kd.R_drew));exact Aj.out,qb⟩
            ·replace Ju:=Bool.eq_false_iff.mpr Ju
             subst Ju
             replace H:=qF H
             obtain⟨Qb,H⟩:=qo H
             have Wg:decide (0≤Ad)=true:=decide_eq_true Qb
             clear Qb
             obtain⟨Qc,H⟩:=qo H
             have Wh:decide (Ad < (Au.length:Int))=true:=decide_eq_true Qc
             clear Qc
             obtain⟨Mi,Et⟩:∃ y_:List ByteArray,y_=(Au.set (Ad:Int).toNat Cp):=⟨_,rfl⟩
             replace H:(z10_.l0 Qa Ba Mi (wrap64 (Ad + 1)) Aa Ax Ay Al Am)=some (r1,r2):=by first|exact Et ▸ H|exact Et ▸ (Option.bind_some _ _).symm.trans H
             replace Et:=y0.mk Et
             have H':=y0.mk H
             clear H
             have Mj:0≤(Ad:Int):=qd
             have Ml:(Ad:Int) < ((Au.length:Int):Int):=qd
             obtain⟨Cy,Dr,Kq,Kr,Qe,aD,Ks⟩:=Kd.R_form Aj.out (by omega)
             (first|cases Kq|(injection Kq with ea_ en_ ec_;(first|subst ea_|(injection ea_ with ea_;subst ea_));subst ec_;clear en_))
             have Qf:=y0.mk Kr
             have aE:=y0.mk Ks
             clear Kr Qe Ks
             obtain⟨Ts,Tt⟩:=Kd.R_celln (⟨#[]⟩:ByteArray) Aj.out (Ad:Int) Mj Ml
             replace Mj:=eq_true Mj
             replace Ml:=eq_true Ml
             have Gs:=Kd.R_putg Aj.out (Ad:Int) Cp
             go_wp2_with (first|((with_reducible refine gate_store (t:=9) (p:=161) rfl ?_);refine store_event (t:=9) (p:=161) (v:=?vo_w113) (w1:=(wc.setCell ⟨Cy,(Ad:Int).toNat,none⟩ (.string Cp))) ?hg ?ho ?hn ?hr ?_;(case ho=>rfl);(case hg=>rfl);(case hn=>rfl);(case hr=>first|(go_simp;done)|(go_simp;rfl));intro Mm hw;have hg:wc.grownBy Mm (some Cy):=(by rw [hw];exact Gs.2);have hp_:Kd.R Kd.string 9 Mm w.heap.size (fun k_=>(w.heap.size≤k_)) (.slice (some ⟨Cy,0,none⟩) Au.length Dr) Mi:=(by rw [hw,Et.out];exact Gs.1);clear Gs;replace Ak:=y0.mk (Kd.R_over' (v:=(.slice (some ⟨Cy,0,none⟩) Au.length Dr)) (qR Ak.out) (Kd.R_typed Aj.out) (by decide) hg);replace Ab:=y0.mk (Kd.V_afterv (v:=(.slice (some ⟨Cy,0,none⟩) Au.length Dr)) (v1:=(.slice (some ⟨Cy,0,none⟩) Au.length Dr)) (ok:=(fun k_=>((P0_3_ k_∨P0_4_ k_)∨w.heap.size≤k_)∧some k_≠(Az:Value).ownBlock∧k_≠Ag∧k_≠Ap)) (qV (Kd.V_mono Ab.out (fun _ hk=>⟨⟨hk.1,⟨hk.2.1,⟨hk.2.2.2.1,hk.2.2.2.2⟩⟩⟩,hk.2.2.1⟩))) hg (.inl rfl));replace Ac:=y0.mk (Kd.V_afterv (v:=(.slice (some ⟨Cy,0,none⟩) Au.length Dr)) (v1:=(.slice (some ⟨Cy,0,none⟩) Au.length Dr)) (ok:=(fun k_=>((P0_3_ k_∨P0_4_ k_)∨w.heap.size≤k_)∧some k_≠(Az:Value).ownBlock∧k_≠Ag∧k_≠Ap)) (qV (Kd.V_mono Ac.out (fun _ hk=>⟨⟨hk.1,⟨hk.2.1,⟨hk.2.2.2.1,hk.2.2.2.2⟩⟩⟩,hk.2.2.1⟩))) hg (.inl rfl));replace Af:=y0.mk (y12 (qk Af.out) hg (Kd.R_ne Aj.out Af.out (by decide)));replace Ai:=y0.mk (y12 (qk Ai.out) hg (Kd.R_ne Aj.out Ai.out (by decide)));replace Aj:=y0.mk (hp_);replace HB:=y0.mk ((by rw [hw];exact below_set (HB.out) Qf.out:Below w.heap.size w Mm));clear hg hw hp_))
             go_roundg Qa
             case measure=>have:=Cw.out;have:=Cv.out;have:=Gr.out;have:=Pz.out;omega
             exact⟨(Ba),(Mi),(wrap64 (Ad + 1)),qy2,H',⟨by have:=Cw.out;have:=Cv.out;have:=Gr.out;have:=Pz.out;omega⟩,⟨qR Ak.out⟩,⟨qR Aj.out⟩,⟨qV (Kd.V_mono Ab.out (fun _ hk=>⟨hk.1.1,⟨hk.1.2.1,⟨hk.2,hk.1.2.2.1⟩⟩⟩))⟩,⟨qV (Kd.V_mono Ac.out (fun _ hk=>⟨hk.1.1,⟨hk.1.2.1,⟨hk.2,hk.1.2.2.1⟩⟩⟩))⟩,⟨qk Af.out⟩,⟨qb⟩⟩
    ·as_aux_lemma =>
     rw [if_neg Nl]at H
     have Gm:=decide_eq_false Nl
     clear Nl
     obtain⟨Jv,Eu⟩:∃ y_:List (S35),y_=(([(⟨Ax,Ay,Al⟩:S35)]:List (S35))):=⟨_,rfl⟩
     replace H:(if Jv.length + Am.length < 2932031007402 then(z10_.l3 k1 Fc Au (Jv ++ Am) 0)else(none))=some (r1,r2):=by first|exact Eu ▸ H|exact Eu ▸ (Option.bind_some _ _).symm.trans H
     replace Eu:=y0.mk Eu
     obtain⟨Qg,H⟩:=qo H
     replace Qg:=y0.mk Qg
     obtain⟨Ar,Ew⟩:∃ y_:List (S35),y_=(Jv ++ Am):=⟨_,rfl⟩
     replace H:(z10_.l3 k1 Fc Au Ar 0)=some (r1,r2):=by first|exact Ew ▸ H|exact Ew ▸ (Option.bind_some _ _).symm.trans H
     replace Ew:=y0.mk Ew
     have H':=y0.mk H
     clear H
     obtain⟨Gt,Gu,Gv,Gw,Gx,Gy,Gz,Ha,Hb,Hc⟩:=qz5 Af.out
     go_wp2_with (first|((with_reducible refine y19 (N:=164) rfl ?_);(try(refine y20 (by rfl) ?_;dsimp only));refine Kd.N_lit k35 _ 35 ?hg (N':=164) ?hd (xs:=([(⟨Ax,Ay,Al⟩:S35)]:List (S35))) (inner:=[.int .i64 Ax,.string Ay,.slice Bd Al.length Be]) (ok:=(fun k_=>((P0_3_ k_∨P0_4_ k_)∨w.heap.size≤k_)∧some k_≠(Az:Value).ownBlock∧some k_≠(As:Value).ownBlock∧k_≠Ag)) (okp:=(fun k_=>((P0_3_ k_∨P0_4_ k_)∨w.heap.size≤k_)∧some k_≠(Az:Value).ownBlock∧some k_≠(As:Value).ownBlock∧k_≠Ag)) ?hr ?hp (fun _ hk=>hk) ((show ∀ k_,wr.heap.size≤k_→(fun k_=>((P0_3_ k_∨P0_4_ k_)∨w.heap.size≤k_)∧some k_≠(Az:Value).ownBlock∧some k_≠(As:Value).ownBlock∧k_≠Ag) k_ from fun k_ hk=>⟨(.inr (Nat.le_trans (y4 qb) hk)),Kd.fresh' (Kd.R_lt (qR Ak.out)) k_ hk,Kd.fresh' (Kd.R_lt (qR Aj.out)) k_ hk,Kd.freshB (g:=Ag) (o:=.cells #[.slice Dj Aa.length Bz,.int .i64 Ax,.string Ay,.slice Bd Al.length Be,.slice Bh Am.length Bi] 38 (0,0)) (qk Af.out) k_ hk⟩) _ (Nat.le_refl _)) (Below.refl _ _) (Nat.le_refl _) (by simp) ?_;(case hd=>rfl);(case hg=>rfl);(case hr=>first|(go_simp;done)|(go_simp;rfl));(case hp=>exact(Reps.c3 (show Kd.FK k35 _ _ (⟨Ax,Ay,Al⟩:S35) [.int .i64 Ax,.string Ay,.slice Bd Al.length Be]from(k35_mkF _ _ (⟨Ax,Ay,Al⟩:S35) (Kd.V_reads' (Kd.V_mono (ok':=(fun k_=>((P0_3_ k_∨P0_4_ k_)∨w.heap.size≤k_)∧some k_≠(Az:Value).ownBlock∧some k_≠(As:Value).ownBlock∧k_≠Ag)) (Ab.out) (fun k_ hk=>⟨hk.1,⟨hk.2.1,⟨hk.2.2.1,hk.2.2.2⟩⟩⟩))).2.1 (Kd.V_F (Kd.V_mono (ok':=(fun k_=>((P0_3_ k_∨P0_4_ k_)∨w.heap.size≤k_)∧some k_≠(Az:Value).ownBlock∧some k_≠(As:Value).ownBlock∧k_≠Ag)) (Ab.out) (fun k_ hk=>⟨hk.1,⟨hk.2.1,⟨hk.2.2.1,hk.2.2.2⟩⟩⟩))))) (Reps.none _ _)));intro Mo bV Dm hb hg_ hnew_;clear hg_ hnew_;(first|rw [← Eu.out]at Dm|(simp only [Int.reduceToNat]at Dm;rw [← Eu.out]at Dm));replace Ak:=y0.mk (Kd.R_below (qR Ak.out) hb);replace Aj:=y0.mk (Kd.R_below (qR Aj.out) hb);replace Ab:=y0.mk (Kd.V_elder' (qV Ab.out) (Kd.N_base Dm) hb);replace Ac:=y0.mk (Kd.V_elder' (qV Ac.out) (Kd.N_base Dm) hb);have Ex:=y0.mk (Kd.N_lower Dm (y4 qb));replace Af:=y0.mk (qK Af.out hb);replace HB:=y0.mk (y5 qb hb);clear hb Dm;obtain⟨Hd,He,Hf,Hg,Hh,Hi,Hj,Hk,Hl,Hm⟩:=qz5 Af.out)|((with_reducible refine gate_builtin (b:=.append) (xs:=#[.tmp 164,.tmp 166]) rfl ?_);(try(refine y20 (by rfl) ?_;dsimp only));at_builtin;refine Kd.N_append_rows k35 (w0:=w) w.heap.size rfl (.tmp 164) (.tmp 166) 36 35 (.agg #[(.int .i64 0),(.string ⟨#[]⟩),(.slice none 0 0)]) 48 rfl Tryz.underlying36 info35 rfl (by decide) (by omega) Mo Jv Am _ _ _ (fun k_=>((P0_3_ k_∨P0_4_ k_)∨w.heap.size≤k_)∧some k_≠(Az:Value).ownBlock∧some k_≠(As:Value).ownBlock∧k_≠Ag) (fun k_=>((fun k_=>((P0_3_ k_∨P0_4_ k_)∨w.heap.size≤k_)∧some k_≠(Az:Value).ownBlock∧some k_≠(As:Value).ownBlock∧k_≠Ag)) k_∧some k_≠(Mo:Value).ownBlock) rfl rfl ?aO ?aR (fun _ hk=>hk) ?aF ?aB ?aS ?aL ?_;(case aR=>exact(by skip;exact Kd.V_F (Kd.V_mono (ok':=(fun k_=>((fun k_=>((P0_3_ k_∨P0_4_ k_)∨w.heap.size≤k_)∧some k_≠(Az:Value).ownBlock∧some k_≠(As:Value).ownBlock∧k_≠Ag)) k_∧some k_≠(Mo:Value).ownBlock)) (Ac.out) (fun k_ hk=>⟨⟨hk.1.1,⟨hk.1.2.1,⟨hk.1.2.2.1,hk.1.2.2.2⟩⟩⟩,hk.2⟩))));(case aB=>exact qb);(case aF=>exact(fun k_ hk=>⟨(.inr (Nat.le_trans (y4 qb) hk)),Kd.fresh' (Kd.R_lt (qR Ak.out)) k_ hk,Kd.fresh' (Kd.R_lt (qR Aj.out)) k_ hk,Kd.freshB (g:=Ag) (o:=.cells #[.slice Dj Aa.length Bz,.int .i64 Ax,.string Ay,.slice Bd Al.length Be,.slice Bh Am.length Bi] 38 (0,0)) (qk Af.out) k_ hk⟩));(case aO=>exact(qN Ex.out));(case aS=>exact(y4 qb));(case aL=>have:=Qg.out;omega);intro Mp bW ho hb hg hat;rw [← Ew.out]at ho;replace Ak:=y0.mk (Kd.R_over' (qR Ak.out) (Kd.N_typed (qN Ex.out)) (by decide) hg);replace Aj:=y0.mk (Kd.R_over' (qR Aj.out) (Kd.N_typed (qN Ex.out)) (by decide) hg);replace Ab:=y0.mk (Kd.V_afterv (ok:=(fun k_=>((P0_3_ k_∨P0_4_ k_)∨w.heap.size≤k_)∧some k_≠(Az:Value).ownBlock∧some k_≠(As:Value).ownBlock∧k_≠Ag)) (qV Ab.out) hg hat);replace Ac:=y0.mk (Kd.V_afterv (ok:=(fun k_=>((P0_3_ k_∨P0_4_ k_)∨w.heap.size≤k_)∧some k_≠(Az:Value).ownBlock∧some k_≠(As:Value).ownBlock∧k_≠Ag)) (qV Ac.out) hg hat);replace Af:=y0.mk (y12 (qk Af.out) hg (Kd.N_ne Ex.out Af.out (by decide)));replace HB:=y0.mk (hb);have Qi:=y0.mk (ho);clear Ex;clear ho hb hg hat))
     go_loopg [13] k1 (fun kq bX w'=>∃(Ba:List Int) (Ah:Int),bX=.int .i64 Ah∧y0 (z10_.l3 kq Ba Au Ar Ah=some (r1,r2))∧y0 (kq≤k1)∧y0 (Kd.R (Kd.int .i64) 3 w' w.heap.size (fun k_=>(w.heap.size≤k_)) Az Ba)∧y0 (Kd.R Kd.string 9 w' w.heap.size (fun k_=>(w.heap.size≤k_)) As Au)∧y0 (Kd.N k35 35 w' w.heap.size (fun k_=>((P0_3_ k_∨P0_4_ k_)∨w.heap.size≤k_)∧some k_≠(Az:Value).ownBlock∧some k_≠(As:Value).ownBlock∧k_≠Ag) Mp Ar)∧y0 (Kd.V (Kd.int .i64) 3 w' w.heap.size (fun k_=>((P0_3_ k_∨P0_4_ k_)∨w.heap.size≤k_)∧some k_≠(Az:Value).ownBlock∧some k_≠(As:Value).ownBlock∧some k_≠(Mp:Value).ownBlock∧k_≠Ag) (.slice Bd Al.length Be) Al)∧y0 (Kd.V k35 35 w' w.heap.size (fun k_=>((P0_3_ k_∨P0_4_ k_)∨w.heap.size≤k_)∧some k_≠(Az:Value).ownBlock∧some k_≠(As:Value).ownBlock∧some k_≠(Mp:Value).ownBlock∧k_≠Ag) (.slice Bh Am.length Bi) Am)∧y0 (w'.heap[Ag]?=some (.cells #[(.slice Dj Aa.length Bz),.int .i64 Ax,.string Ay,(.slice Bd Al.length Be),(.slice Bh Am.length Bi)] 38 (0,0)))∧y0 (Below w.heap.size w w'))
     case atStart=>exact⟨(Fc),(0),qy2,H',⟨Nat.le_refl _⟩,⟨qR Ak.out⟩,⟨qR Aj.out⟩,⟨qN Qi.out⟩,⟨qV (Kd.V_mono Ab.out (fun _ hk=>⟨hk.1.1,⟨hk.1.2.1,⟨hk.1.2.2.1,⟨hk.2,hk.1.2.2.2⟩⟩⟩⟩))⟩,⟨qV (Kd.V_mono Ac.out (fun _ hk=>⟨hk.1.1,⟨hk.1.2.1,⟨hk.1.2.2.1,⟨hk.2,hk.1.2.2.2⟩⟩⟩⟩))⟩,⟨qk Af.out⟩,⟨qb⟩⟩
     case round =>
      clear H'
      (try clear Gm Gt Gu Gv Gw Gx Hd He Hf Hg Hh Gy Gz Ha Hb Hc Hi Hj Hk Hl Hm)
      obtain⟨Ba,Ah,rfl,HA,Cv,Ak,Aj,Bb,Ab,Ac,Af,HB⟩:=hrel
      cases gk with
      | zero=>exact absurd HA.out (by simp [z10_.l3])
      | succ k2 =>
       have H:=HA.out
       clear HA
       simp only [z10_.l3]at H
       by_cases Gh:Ah < (Ar.length:Int)
       ·as_aux_lemma =>
        rw [if_pos Gh]at H
        have Ff:=decide_eq_true Gh
        clear Gh
        have H':=y0.mk H
        clear H
        obtain⟨Hn,Cb,Qj⟩:=Kd.N_slice Bb.out
        subst Qj
        go_wp2
        go_loopg [14] k2 (fun kq bY w'=>∃(Bf:List Int) (Av:Int),bY=.int .i64 Av∧y0 (z10_.l4 kq Bf Au Ar Ah Av=some (r1,r2))∧y0 (kq≤k2)∧y0 (Kd.R (Kd.int .i64) 3 w' w.heap.size (fun k_=>(w.heap.size≤k_)) Az Bf)∧y0 (Kd.R Kd.string 9 w' w.heap.size (fun k_=>(w.heap.size≤k_)) As Au)∧y0 (Kd.N k35 35 w' w.heap.size (fun k_=>((P0_3_ k_∨P0_4_ k_)∨w.heap.size≤k_)∧some k_≠(Az:Value).ownBlock∧some k_≠(As:Value).ownBlock∧k_≠Ag) (.slice Hn Ar.length Cb) Ar)∧y0 (Kd.V (Kd.int .i64) 3 w' w.heap.size (fun k_=>((P0_3_ k_∨P0_4_ k_)∨w.heap.size≤k_)∧some k_≠(Az:Value).ownBlock∧some k_≠(As:Value).ownBlock∧some k_≠((.slice Hn Ar.length Cb):Value).ownBlock∧k_≠Ag) (.slice Bd Al.length Be) Al)∧y0 (Kd.V k35 35 w' w.heap.size (fun k_=>((P0_3_ k_∨P0_4_ k_)∨w.heap.size≤k_)∧some k_≠(Az:Value).ownBlock∧some k_≠(As:Value).ownBlock∧some k_≠((.slice Hn Ar.length Cb):Value).ownBlock∧k_≠Ag) (.slice Bh Am.length Bi) Am)∧y0 (w'.heap[Ag]?=some (.cells #[(.slice Dj Aa.length Bz),.int .i64 Ax,.string Ay,(.slice Bd Al.length Be),(.slice Bh Am.length Bi)] 38 (0,0)))∧y0 (Below w.heap.size w w'))
        case atStart=>exact⟨(Ba),(0),qy2,H',⟨Nat.le_refl _⟩,⟨qR Ak.out⟩,⟨qR Aj.out⟩,⟨qN Bb.out⟩,⟨qV Ab.out⟩,⟨qV Ac.out⟩,⟨qk Af.out⟩,⟨qb⟩⟩
        case round =>
         clear H'
         (try clear Ff)
         obtain⟨Bf,Av,rfl,HA,Mq,Ak,Aj,Bb,Ab,Ac,Af,HB⟩:=hrel
         cases gk with
         | zero=>exact absurd HA.out (by simp [z10_.l4])
         | succ k3 =>
          have H:=HA.out
          clear HA
          simp only [z10_.l4]at H
          obtain⟨Qk,H⟩:=qo H
          have Wj:decide (0≤Ah)=true:=decide_eq_true Qk
          clear Qk
          obtain⟨Ql,H⟩:=qo H
          have Wk:decide (Ah < (Ar.length:Int))=true:=decide_eq_true Ql
          clear Ql
          by_cases Gi:Av < (((y22 Ar Ah).f2).length:Int)
          ·as_aux_lemma =>
           rw [if_pos Gi]at H
           have Mr:=decide_eq_true Gi
           clear Gi
           obtain⟨Qm,H⟩:=qo H
           have Wl:decide (0≤Av)=true:=decide_eq_true Qm
           clear Qm
           obtain⟨Wm,Qn,H⟩:=qB H
           by_cases Jw:Wm=true
           ·subst Jw
            replace H:=qT H
            obtain⟨Qo,H⟩:=qo H
            have Wn:decide (0≤(rd ((y22 Ar Ah).f2) Av))=true:=decide_eq_true Qo
            clear Qo
            obtain⟨Qp,H⟩:=qo H
            have Wo:decide ((rd ((y22 Ar Ah).f2) Av) < (Bf.length:Int))=true:=decide_eq_true Qp
            clear Qp
            obtain⟨Ms,Ey⟩:∃ y_:List Int,y_=(Bf.set ((rd ((y22 Ar Ah).f2) Av):Int).toNat (wrap64 ((rd Bf (rd ((y22 Ar Ah).f2) Av)) + 1))):=⟨_,rfl⟩
            replace H:(z10_.l4 k3 Ms Au Ar Ah (wrap64 (Av + 1)))=some (r1,r2):=by first|exact Ey ▸ H|exact Ey ▸ (Option.bind_some _ _).symm.trans H
            replace Ey:=y0.mk Ey
            have H':=y0.mk H
            clear H
            have Cr:0≤(Ah:Int):=qd
            have Cs:Ah < (Ar.length:Int):=qd
            obtain⟨Bv,Ho,Dz,Hp,Dg,Dh,Bm,Bw,Bx⟩:=at_T35 (Kd.N_reads' Bb.out).2.2 Ah Cr Cs
            cases Hp
            obtain⟨Ku,Do,Dp,Cl⟩:=Kd.N_get Bb.out z35 Ah Cr (by first|exact Cs|exact of_decide_eq_true qy0|(have e_:=(Kd.N_reads' Bb.out).1;omega))
            obtain⟨Fv,Fx,rfl,Bk,Bl⟩:=k35_openF Dp
            have Bc:=Cl 2 _ rfl
            rw [add_field _ _ 2 (by omega)]at Bc
            replace Bc:=Option.some.inj (Bc.symm.trans Bm)
            injection Bc with hva_ hvn_ hvc_
            rw [hva_]at Bl
            rw [hvc_]at Bk
            have Cf:=y0.mk (show Kd.V (Kd.int .i64) 3 _ w.heap.size _ _ ((y22 Ar Ah).f2)from Kd.V_mk Bk Bl)
            clear hva_ hvn_ hvc_ Bl Bk
            clear Cl Do
            have Cm:=y0.mk Bx
            have Fy:=y0.mk Bw
            clear Bx Bw
            replace Cr:=eq_true Cr
            replace Cs:=eq_true Cs
            have Ea:0≤(Ah:Int):=qd
            have Eb:Ah < (Ar.length:Int):=qd
            obtain⟨Hq,Mt,Mu,Mv,Ec,Ed,Cg,Ct,Cu⟩:=at_T35 (Kd.N_reads' Bb.out).2.2 Ah Ea Eb
            obtain rfl:Bv=Hq:=(by injection Mv)
            obtain⟨Qr,Fg,Fh,Dq⟩:=Kd.N_get Bb.out z35 Ah Ea (by first|exact Eb|exact of_decide_eq_true qy0|(have e_:=(Kd.N_reads' Bb.out).1;omega))
            obtain⟨Jx,Jy,rfl,Ch,Ci⟩:=k35_openF Fh
            have Bt:=Dq 2 _ rfl
            rw [add_field _ _ 2 (by omega)]at Bt
            replace Bt:=Option.some.inj (Bt.symm.trans Cg)
            injection Bt with hva_ hvn_ hvc_
            rw [hva_]at Ci
            rw [hvc_]at Ch
            have Cn:=y0.mk (show Kd.V (Kd.int .i64) 3 _ w.heap.size _ _ ((y22 Ar Ah).f2)from Kd.V_mk Ch Ci)
            clear hva_ hvn_ hvc_ Ci Ch
            clear Dq Fg
            have Bu:=y0.mk Cu
            have Jz:=y0.mk Ct
            clear Cu Ct
            replace Ea:=eq_true Ea
            replace Eb:=eq_true Eb
            have ea_:=Option.some.inj (Bm.symm.trans Cg)
            injection ea_ with ea_ en_ ec_
            subst ea_
            subst ec_
            clear en_
            have Fi:0≤(Av:Int):=qd
            have Fj:Av < (((y22 Ar Ah).f2).length:Int):=qd
            obtain⟨Ez,Mw,Ee⟩:=Kd.at_int (by repeat(first|(with_reducible exact Bu.out)|(with_reducible refine Kd.C_alloc ?_ _)|(with_reducible refine Kd.C_drewN ?_ _)|(with_reducible refine Kd.C_drew ?_)|exact Bu.out)) Av Fi Fj
            cases Mw
            replace Fi:=eq_true Fi
            replace Fj:=eq_true Fj
            obtain⟨Ds,Bj,Qs⟩:=Kd.R_slice Ak.out
            subst Qs
            go_wp2_with (first|((with_reducible refine y18 (f:=16) rfl ?_);refine y21 (some 195) rfl rfl Tryz.func16 (by kernel_rfl) rfl #[.int .i64 (rd ((y22 Ar Ah).f2) Av),.int .i64 0,.int .i64 (wrap64 ((Bf.length:Int) - 1))] rfl qy1 ?_;(with_reducible refine(z8_.calls (rd ((y22 Ar Ah).f2) Av) 0 (wrap64 ((Bf.length:Int) - 1)) true _ Qn.out).mono ?_);rintro e w' ⟨rfl,⟨nd,rfl⟩⟩;refine⟨_,rfl, ?_⟩;(try(rw [drewN_self wr];have e1_:∀(n_:Nat) (a_:Addr),World.cell? wr a_=World.cell? (World.drewN wr n_) a_:=fun _ _=>rfl;have e2_:∀(n_:Nat) (a_:Addr),World.frozen? wr a_=World.frozen? (World.drewN wr n_) a_:=fun _ _=>rfl;generalize hq_:World.drewN wr _=wr;have e3_:=(fun a_=>(e1_ _ a_).trans (congrArg (fun w_=>World.cell? w_ a_) hq_));have e4_:=(fun a_=>(e2_ _ a_).trans (congrArg (fun w_=>World.frozen? w_ a_) hq_));clear e1_ e2_;(try replace Dg:=(e3_ _).symm.trans Dg);(try replace Dh:=(e3_ _).symm.trans Dh);(try replace Bm:=(e3_ _).symm.trans Bm);(try replace Ec:=(e3_ _).symm.trans Ec);(try replace Ed:=(e3_ _).symm.trans Ed);(try replace Cg:=(e3_ _).symm.trans Cg);(try replace Ee:=(e3_ _).symm.trans Ee);skip;clear e3_ e4_;have n0_:y0 (Kd.V (Kd.int .i64) 3 wr w.heap.size (fun k_=>((P0_3_ k_∨P0_4_ k_)∨w.heap.size≤k_)∧some k_≠(.slice (some Bv) Ar.length Cb:Value).ownBlock∧some k_≠(.slice Ds Bf.length Bj:Value).ownBlock∧some k_≠(As:Value).ownBlock∧k_≠Ag) (.slice (some Ez) ((y22 Ar Ah).f2).length Dz) ((y22 Ar Ah).f2)):=⟨by rw [← hq_];exact(qV (Kd.V_mono Cf.out (fun _ hk=>⟨hk.1.1,⟨hk.2,⟨hk.1.2.1,⟨hk.1.2.2.1,hk.1.2.2.2⟩⟩⟩⟩)))⟩;have n1_:y0 (Kd.V (Kd.int .i64) 3 wr w.heap.size (fun k_=>((P0_3_ k_∨P0_4_ k_)∨w.heap.size≤k_)∧some k_≠(.slice (some Bv) Ar.length Cb:Value).ownBlock∧some k_≠(.slice Ds Bf.length Bj:Value).ownBlock∧some k_≠(As:Value).ownBlock∧k_≠Ag) (.slice (some Ez) ((y22 Ar Ah).f2).length Dz) ((y22 Ar Ah).f2)):=⟨by rw [← hq_];exact(qV (Kd.V_mono Cn.out (fun _ hk=>⟨hk.1.1,⟨hk.2,⟨hk.1.2.1,⟨hk.1.2.2.1,hk.1.2.2.2⟩⟩⟩⟩)))⟩;have n2_:y0 (Kd.N k35 35 wr w.heap.size (fun k_=>((P0_3_ k_∨P0_4_ k_)∨w.heap.size≤k_)∧some k_≠(.slice Ds Bf.length Bj:Value).ownBlock∧some k_≠(As:Value).ownBlock∧k_≠Ag) (.slice (some Bv) Ar.length Cb) Ar):=⟨by rw [← hq_];exact(qN Bb.out)⟩;have n3_:y0 (Kd.V (Kd.int .i64) 3 wr w.heap.size (fun k_=>((P0_3_ k_∨P0_4_ k_)∨w.heap.size≤k_)∧some k_≠(.slice (some Bv) Ar.length Cb:Value).ownBlock∧some k_≠(.slice Ds Bf.length Bj:Value).ownBlock∧some k_≠(As:Value).ownBlock∧k_≠Ag) (.slice Bd Al.length Be) Al):=⟨by rw [← hq_];exact(qV (Kd.V_mono Ab.out (fun _ hk=>⟨hk.1,⟨hk.2.2.2.1,⟨hk.2.1,⟨hk.2.2.1,hk.2.2.2.2⟩⟩⟩⟩)))⟩;have n4_:y0 (Kd.V k35 35 wr w.heap.size (fun k_=>((P0_3_ k_∨P0_4_ k_)∨w.heap.size≤k_)∧some k_≠(.slice (some Bv) Ar.length Cb:Value).ownBlock∧some k_≠(.slice Ds Bf.length Bj:Value).ownBlock∧some k_≠(As:Value).ownBlock∧k_≠Ag) (.slice Bh Am.length Bi) Am):=⟨by rw [← hq_];exact(qV (Kd.V_mono Ac.out (fun _ hk=>⟨hk.1,⟨hk.2.2.2.1,⟨hk.2.1,⟨hk.2.2.1,hk.2.2.2.2⟩⟩⟩⟩)))⟩;have n5_:y0 (Kd.R (Kd.int .i64) 3 wr w.heap.size (fun k_=>(w.heap.size≤k_)) (.slice Ds Bf.length Bj) Bf):=⟨by rw [← hq_];exact(qR Ak.out)⟩;have n6_:y0 (Kd.R Kd.string 9 wr w.heap.size (fun k_=>(w.heap.size≤k_)) As Au):=⟨by rw [← hq_];exact(qR Aj.out)⟩;have n7_:y0 (wr.heap[Ag]?=some (.cells #[.slice Dj Aa.length Bz,.int .i64 Ax,.string Ay,.slice Bd Al.length Be,.slice Bh Am.length Bi] 38 (0,0))):=⟨by rw [← hq_];exact(qk Af.out)⟩;have n8_:y0 (Below w.heap.size w wr):=⟨by rw [← hq_];exact qb⟩;have n9_:y0 (Kd.C (Kd.int .i64) wr (some Ez) ((y22 Ar Ah).f2).length ((y22 Ar Ah).f2)):=⟨by rw [← hq_];exact(by repeat(first|(with_reducible exact Cm.out)|(with_reducible refine Kd.C_alloc ?_ _)|(with_reducible refine Kd.C_drewN ?_ _)|(with_reducible refine Kd.C_drew ?_)|exact Cm.out))⟩;have n10_:y0 (Kd.C (Kd.int .i64) wr (some Ez) ((y22 Ar Ah).f2).length ((y22 Ar Ah).f2)):=⟨by rw [← hq_];exact(by repeat(first|(with_reducible exact Bu.out)|(with_reducible refine Kd.C_alloc ?_ _)|(with_reducible refine Kd.C_drewN ?_ _)|(with_reducible refine Kd.C_drew ?_)|exact Bu.out))⟩;clear Cf Cn Bb Ab Ac Ak Aj Af HB Cm Bu hq_;have Cf:=n0_;have Cn:=n1_;have Bb:=n2_;have Ab:=n3_;have Ac:=n4_;have Ak:=n5_;have Aj:=n6_;have Af:=n7_;have HB:=n8_;have Cm:=n9_;have Bu:=n10_;clear n0_ n1_ n2_ n3_ n4_ n5_ n6_ n7_ n8_ n9_ n10_));have Ka:0≤(Ah:Int):=qd;have Kb:Ah < (Ar.length:Int):=qd;obtain⟨Qt,Wp,Wq,Wr,Tu,Tv,Fz,Ga,Gb⟩:=at_T35 (Kd.N_reads' Bb.out).2.2 Ah Ka Kb;obtain rfl:Bv=Qt:=(by injection Wr);obtain⟨aG,Mx,My,Hr⟩:=Kd.N_get Bb.out z35 Ah Ka (by first|exact Kb|exact of_decide_eq_true qy0|(have e_:=(Kd.N_reads' Bb.out).1;omega));obtain⟨Tw,Tx,rfl,Ef,Eg⟩:=k35_openF My;have Di:=Hr 2 _ rfl;rw [add_field _ _ 2 (by omega)]at Di;replace Di:=Option.some.inj (Di.symm.trans Fz);injection Di with hva_ hvn_ hvc_;rw [hva_]at Eg;rw [hvc_]at Ef;have Gc:=y0.mk (show Kd.V (Kd.int .i64) 3 _ w.heap.size _ _ ((y22 Ar Ah).f2)from Kd.V_mk Ef Eg);clear hva_ hvn_ hvc_ Eg Ef;clear Hr Mx;have Gd:=y0.mk Gb;have Ty:=y0.mk Ga;clear Gb Ga;replace Ka:=eq_true Ka;replace Kb:=eq_true Kb;have ea_:=Option.some.inj (Bm.symm.trans Fz);injection ea_ with ea_ en_ ec_;subst ea_;subst ec_;clear en_;have Mz:0≤(Av:Int):=qd;have Na:Av < (((y22 Ar Ah).f2).length:Int):=qd;obtain⟨aH,Ws,Tz⟩:=Kd.at_int (by repeat(first|(with_reducible exact Gd.out)|(with_reducible refine Kd.C_alloc ?_ _)|(with_reducible refine Kd.C_drewN ?_ _)|(with_reducible refine Kd.C_drew ?_)|exact Gd.out)) Av Mz Na;cases Ws;replace Mz:=eq_true Mz;replace Na:=eq_true Na;have Nb:0≤((rd ((y22 Ar Ah).f2) Av):Int):=qd;have Nc:(rd ((y22 Ar Ah).f2) Av) < (Bf.length:Int):=qd;obtain⟨aI,Wt,Ke⟩:=Kd.at_int (Kd.R_reads' Ak.out).2.2 (rd ((y22 Ar Ah).f2) Av) Nb Nc;cases Wt;replace Nb:=eq_true Nb;replace Nc:=eq_true Nc;have Nd:0≤((rd ((y22 Ar Ah).f2) Av):Int):=qd;have Nf:((rd ((y22 Ar Ah).f2) Av):Int) < ((Bf.length:Int):Int):=qd;obtain⟨Bp,aJ,Kv,Ap,Qu,aK,Kw⟩:=Kd.R_form Ak.out (by omega);(first|cases Kv|(injection Kv with ea_ en_ ec_;(first|subst ea_|(injection ea_ with ea_;subst ea_));subst ec_;clear en_));have Qv:=y0.mk Ap;have aM:=y0.mk Kw;clear Ap Qu Kw;(first|simp only [add_plain]at Ke|skip);obtain⟨Ua,Ub⟩:=Kd.R_celln 0 Ak.out ((rd ((y22 Ar Ah).f2) Av):Int) Nd Nf;replace Nd:=eq_true Nd;replace Nf:=eq_true Nf;obtain⟨hy132_,hz132_⟩:=Kd.R_celln 0 Ak.out ((rd ((y22 Ar Ah).f2) Av):Int) (of_decide_eq_true qy0) (of_decide_eq_true qy0);have Hs:=Kd.R_putg Ak.out ((rd ((y22 Ar Ah).f2) Av):Int) (wrap64 ((rd Bf (rd ((y22 Ar Ah).f2) Av)) + 1)))|((with_reducible refine gate_store (t:=3) (p:=210) rfl ?_);refine store_event (t:=3) (p:=210) (v:=?vo_w133) (w1:=(wr.setCell ⟨Bp,((rd ((y22 Ar Ah).f2) Av):Int).toNat,none⟩ (.int .i64 (wrap64 ((rd Bf (rd ((y22 Ar Ah).f2) Av)) + 1))))) ?hg ?ho ?hn ?hr ?_;(case ho=>rfl);(case hg=>rfl);(case hn=>rfl);(case hr=>first|(go_simp;done)|(go_simp;rfl));intro Ng hw;have hg:wr.grownBy Ng (some Bp):=(by rw [hw];exact Hs.2);have hp_:Kd.R (Kd.int .i64) 3 Ng w.heap.size (fun k_=>(w.heap.size≤k_)) (.slice (some ⟨Bp,0,none⟩) Bf.length Bj) Ms:=(by rw [hw,Ey.out];exact Hs.1);clear Hs;replace Aj:=y0.mk (Kd.R_over' (v:=(.slice (some ⟨Bp,0,none⟩) Bf.length Bj)) (qR Aj.out) (Kd.R_typed Ak.out) (by decide) hg);replace Bb:=y0.mk (Kd.N_afterv (v:=(.slice (some ⟨Bp,0,none⟩) Bf.length Bj)) (v1:=(.slice (some ⟨Bp,0,none⟩) Bf.length Bj)) (ok:=(fun k_=>((P0_3_ k_∨P0_4_ k_)∨w.heap.size≤k_)∧some k_≠(As:Value).ownBlock∧k_≠Ag)) (qN (Kd.N_mono Bb.out (fun _ hk=>⟨⟨hk.1,⟨hk.2.2.1,hk.2.2.2⟩⟩,hk.2.1⟩))) hg (.inl rfl));replace Ab:=y0.mk (Kd.V_afterv (v:=(.slice (some ⟨Bp,0,none⟩) Bf.length Bj)) (v1:=(.slice (some ⟨Bp,0,none⟩) Bf.length Bj)) (ok:=(fun k_=>((P0_3_ k_∨P0_4_ k_)∨w.heap.size≤k_)∧some k_≠(As:Value).ownBlock∧some k_≠(.slice (some Bv) Ar.length Cb:Value).ownBlock∧k_≠Ag)) (qV (Kd.V_mono Ab.out (fun _ hk=>⟨⟨hk.1,⟨hk.2.2.2.1,⟨hk.2.1,hk.2.2.2.2⟩⟩⟩,hk.2.2.1⟩))) hg (.inl rfl));replace Ac:=y0.mk (Kd.V_afterv (v:=(.slice (some ⟨Bp,0,none⟩) Bf.length Bj)) (v1:=(.slice (some ⟨Bp,0,none⟩) Bf.length Bj)) (ok:=(fun k_=>((P0_3_ k_∨P0_4_ k_)∨w.heap.size≤k_)∧some k_≠(As:Value).ownBlock∧some k_≠(.slice (some Bv) Ar.length Cb:Value).ownBlock∧k_≠Ag)) (qV (Kd.V_mono Ac.out (fun _ hk=>⟨⟨hk.1,⟨hk.2.2.2.1,⟨hk.2.1,hk.2.2.2.2⟩⟩⟩,hk.2.2.1⟩))) hg (.inl rfl));replace Af:=y0.mk (y12 (qk Af.out) hg (Kd.R_ne Ak.out Af.out (by decide)));replace Ak:=y0.mk (hp_);replace Cf:=y0.mk (Kd.V_afterv (v:=(.slice (some ⟨Bp,0,none⟩) Bf.length Bj)) (v1:=(.slice (some ⟨Bp,0,none⟩) Bf.length Bj)) (ok:=(fun k_=>((P0_3_ k_∨P0_4_ k_)∨w.heap.size≤k_)∧some k_≠(As:Value).ownBlock∧some k_≠(.slice (some Bv) Ar.length Cb:Value).ownBlock∧k_≠Ag)) (qV (Kd.V_mono Cf.out (fun _ hk=>⟨⟨hk.1,⟨hk.2.2.2.1,⟨hk.2.1,hk.2.2.2.2⟩⟩⟩,hk.2.2.1⟩))) hg (.inl rfl));replace Cn:=y0.mk (Kd.V_afterv (v:=(.slice (some ⟨Bp,0,none⟩) Bf.length Bj)) (v1:=(.slice (some ⟨Bp,0,none⟩) Bf.length Bj)) (ok:=(fun k_=>((P0_3_ k_∨P0_4_ k_)∨w.heap.size≤k_)∧some k_≠(As:Value).ownBlock∧some k_≠(.slice (some Bv) Ar.length Cb:Value).ownBlock∧k_≠Ag)) (qV (Kd.V_mono Cn.out (fun _ hk=>⟨⟨hk.1,⟨hk.2.2.2.1,⟨hk.2.1,hk.2.2.2.2⟩⟩⟩,hk.2.2.1⟩))) hg (.inl rfl));replace Gc:=y0.mk (Kd.V_afterv (v:=(.slice (some ⟨Bp,0,none⟩) Bf.length Bj)) (v1:=(.slice (some ⟨Bp,0,none⟩) Bf.length Bj)) (ok:=(fun k_=>((P0_3_ k_∨P0_4_ k_)∨w.heap.size≤k_)∧some k_≠(As:Value).ownBlock∧some k_≠(.slice (some Bv) Ar.length Cb:Value).ownBlock∧k_≠Ag)) (qV (Kd.V_mono Gc.out (fun _ hk=>⟨⟨hk.1.1,⟨hk.1.2.2.1,⟨hk.2,hk.1.2.2.2⟩⟩⟩,hk.1.2.1⟩))) hg (.inl rfl));replace HB:=y0.mk ((by rw [hw];exact below_set (HB.out) Qv.out:Below w.heap.size w Ng));clear hg hw hp_))
            go_roundg k3
            case measure=>have:=Cw.out;have:=Cv.out;have:=Mq.out;omega
            exact⟨(Ms),(wrap64 (Av + 1)),qy2,H',⟨by have:=Cw.out;have:=Cv.out;have:=Mq.out;omega⟩,⟨qR Ak.out⟩,⟨qR Aj.out⟩,⟨qN (Kd.N_mono Bb.out (fun _ hk=>⟨hk.1.1,⟨hk.2,⟨hk.1.2.1,hk.1.2.2⟩⟩⟩))⟩,⟨qV (Kd.V_mono Ab.out (fun _ hk=>⟨hk.1.1,⟨hk.2,⟨hk.1.2.1,⟨hk.1.2.2.1,hk.1.2.2.2⟩⟩⟩⟩))⟩,⟨qV (Kd.V_mono Ac.out (fun _ hk=>⟨hk.1.1,⟨hk.2,⟨hk.1.2.1,⟨hk.1.2.2.1,hk.1.2.2.2⟩⟩⟩⟩))⟩,⟨qk Af.out⟩,⟨qb⟩⟩
           ·replace Jw:=Bool.eq_false_iff.mpr Jw
            subst Jw
            replace H:=qF H
            simp only [Option.some.injEq,Prod.mk.injEq]at H
            obtain⟨rfl,rfl⟩:=H
            have Cr:0≤(Ah:Int):=qd
            have Cs:Ah < (Ar.length:Int):=qd
            obtain⟨Bv,Ho,Dz,Hp,Dg,Dh,Bm,Bw,Bx⟩:=at_T35 (Kd.N_reads' Bb.out).2.2 Ah Cr Cs
            cases Hp
            obtain⟨Ku,Do,Dp,Cl⟩:=Kd.N_get Bb.out z35 Ah Cr (by first|exact Cs|exact of_decide_eq_true qy0|(have e_:=(Kd.N_reads' Bb.out).1;omega))
            obtain⟨Fv,Fx,rfl,Bk,Bl⟩:=k35_openF Dp
            have Bc:=Cl 2 _ rfl
            rw [add_field _ _ 2 (by omega)]at Bc
            replace Bc:=Option.some.inj (Bc.symm.trans Bm)
            injection Bc with hva_ hvn_ hvc_
            rw [hva_]at Bl
            rw [hvc_]at Bk
            have Cf:=y0.mk (show Kd.V (Kd.int .i64) 3 _ w.heap.size _ _ ((y22 Ar Ah).f2)from Kd.V_mk Bk Bl)
            clear hva_ hvn_ hvc_ Bl Bk
            clear Cl Do
            have Cm:=y0.mk Bx
            have Fy:=y0.mk Bw
            clear Bx Bw
            replace Cr:=eq_true Cr
            replace Cs:=eq_true Cs
            have Ea:0≤(Ah:Int):=qd
            have Eb:Ah < (Ar.length:Int):=qd
            obtain⟨Hq,Mt,Mu,Mv,Ec,Ed,Cg,Ct,Cu⟩:=at_T35 (Kd.N_reads' Bb.out).2.2 Ah Ea Eb
            obtain rfl:Bv=Hq:=(by injection Mv)
            obtain⟨Qr,Fg,Fh,Dq⟩:=Kd.N_get Bb.out z35 Ah Ea (by first|exact Eb|exact of_decide_eq_true qy0|(have e_:=(Kd.N_reads' Bb.out).1;omega))
            obtain⟨Jx,Jy,rfl,Ch,Ci⟩:=k35_openF Fh
            have Bt:=Dq 2 _ rfl
            rw [add_field _ _ 2 (by omega)]at Bt
            replace Bt:=Option.some.inj (Bt.symm.trans Cg)
            injection Bt with hva_ hvn_ hvc_
            rw [hva_]at Ci
            rw [hvc_]at Ch
            have Cn:=y0.mk (show Kd.V (Kd.int .i64) 3 _ w.heap.size _ _ ((y22 Ar Ah).f2)from Kd.V_mk Ch Ci)
            clear hva_ hvn_ hvc_ Ci Ch
            clear Dq Fg
            have Bu:=y0.mk Cu
            have Jz:=y0.mk Ct
            clear Cu Ct
            replace Ea:=eq_true Ea
            replace Eb:=eq_true Eb
            have ea_:=Option.some.inj (Bm.symm.trans Cg)
            injection ea_ with ea_ en_ ec_
            subst ea_
            subst ec_
            clear en_
            have Fi:0≤(Av:Int):=qd
            have Fj:Av < (((y22 Ar Ah).f2).length:Int):=qd
            obtain⟨Ez,Mw,Ee⟩:=Kd.at_int (by repeat(first|(with_reducible exact Bu.out)|(with_reducible refine Kd.C_alloc ?_ _)|(with_reducible refine Kd.C_drewN ?_ _)|(with_reducible refine Kd.C_drew ?_)|exact Bu.out)) Av Fi Fj
            cases Mw
            replace Fi:=eq_true Fi
            replace Fj:=eq_true Fj
            obtain⟨aN,aQ,Qw⟩:=Kd.R_slice Ak.out
            subst Qw
            go_wp2_with (first|((with_reducible refine y18 (f:=16) rfl ?_);refine y21 (some 195) rfl rfl Tryz.func16 (by kernel_rfl) rfl #[.int .i64 (rd ((y22 Ar Ah).f2) Av),.int .i64 0,.int .i64 (wrap64 ((Bf.length:Int) - 1))] rfl qy1 ?_;(with_reducible refine(z8_.calls (rd ((y22 Ar Ah).f2) Av) 0 (wrap64 ((Bf.length:Int) - 1)) false _ Qn.out).mono ?_);rintro e w' ⟨rfl,⟨nd,rfl⟩⟩;refine⟨_,rfl, ?_⟩))
            go_ret2
            exact⟨_,by first|rfl|(simp [y15,y16] <;> rfl)|(simp [*,y15,y16] <;> rfl),by(with_reducible repeat(first|apply Kd.R_alloc|apply Kd.R_drewN|apply Kd.R_drew));exact Aj.out,qb⟩
          ·as_aux_lemma =>
           rw [if_neg Gi]at H
           have Mr:=decide_eq_false Gi
           clear Gi
           have H':=y0.mk H
           clear H
           have Cr:0≤(Ah:Int):=qd
           have Cs:Ah < (Ar.length:Int):=qd
           obtain⟨Bv,Ho,Dz,Hp,Dg,Dh,Bm,Bw,Bx⟩:=at_T35 (Kd.N_reads' Bb.out).2.2 Ah Cr Cs
           cases Hp
           obtain⟨Ku,Do,Dp,Cl⟩:=Kd.N_get Bb.out z35 Ah Cr (by first|exact Cs|exact of_decide_eq_true qy0|(have e_:=(Kd.N_reads' Bb.out).1;omega))
           obtain⟨Fv,Fx,rfl,Bk,Bl⟩:=k35_openF Dp
           have Bc:=Cl 2 _ rfl
           rw [add_field _ _ 2 (by omega)]at Bc
           replace Bc:=Option.some.inj (Bc.symm.trans Bm)
           injection Bc with hva_ hvn_ hvc_
           rw [hva_]at Bl
           rw [hvc_]at Bk
           have Cf:=y0.mk (show Kd.V (Kd.int .i64) 3 _ w.heap.size _ _ ((y22 Ar Ah).f2)from Kd.V_mk Bk Bl)
           clear hva_ hvn_ hvc_ Bl Bk
           clear Cl Do
           have Cm:=y0.mk Bx
           have Fy:=y0.mk Bw
           clear Bx Bw
           replace Cr:=eq_true Cr
           replace Cs:=eq_true Cs
           go_wp2
           go_roundg k3
           case measure=>have:=Cw.out;have:=Cv.out;have:=Mq.out;omega
           exact⟨(Bf),(wrap64 (Ah + 1)),qy2,H',⟨by have:=Cw.out;have:=Cv.out;have:=Mq.out;omega⟩,⟨qR Ak.out⟩,⟨qR Aj.out⟩,⟨qN Bb.out⟩,⟨qV Ab.out⟩,⟨qV Ac.out⟩,⟨qk Af.out⟩,⟨qb⟩⟩
       ·as_aux_lemma =>
        rw [if_neg Gh]at H
        have Ff:=decide_eq_false Gh
        clear Gh
        have H':=y0.mk H
        clear H
        obtain⟨aT,aU,Qx⟩:=Kd.N_slice Bb.out
        subst Qx
        go_wp2
        go_loopg [15] k2 (fun kq bZ w'=>∃(Bn:Int),bZ=.int .i64 Bn∧y0 (z10_.l5 kq Ba Au Bn=some (r1,r2))∧y0 (kq≤k2)∧y0 (Kd.R (Kd.int .i64) 3 w' w.heap.size (fun k_=>(w.heap.size≤k_)) Az Ba)∧y0 (Kd.R Kd.string 9 w' w.heap.size (fun k_=>(w.heap.size≤k_)) As Au)∧y0 (Kd.V (Kd.int .i64) 3 w' w.heap.size (fun k_=>((P0_3_ k_∨P0_4_ k_)∨w.heap.size≤k_)∧some k_≠(Az:Value).ownBlock∧some k_≠(As:Value).ownBlock∧k_≠Ag) (.slice Bd Al.length Be) Al)∧y0 (Kd.V k35 35 w' w.heap.size (fun k_=>((P0_3_ k_∨P0_4_ k_)∨w.heap.size≤k_)∧some k_≠(Az:Value).ownBlock∧some k_≠(As:Value).ownBlock∧k_≠Ag) (.slice Bh Am.length Bi) Am)∧y0 (w'.heap[Ag]?=some (.cells #[(.slice Dj Aa.length Bz),.int .i64 Ax,.string Ay,(.slice Bd Al.length Be),(.slice Bh Am.length Bi)] 38 (0,0)))∧y0 (Below w.heap.size w w'))
        case atStart=>exact⟨(0),qy2,H',⟨Nat.le_refl _⟩,⟨qR Ak.out⟩,⟨qR Aj.out⟩,⟨qV (Kd.V_mono Ab.out (fun _ hk=>⟨hk.1,⟨hk.2.1,⟨hk.2.2.1,hk.2.2.2.2⟩⟩⟩))⟩,⟨qV (Kd.V_mono Ac.out (fun _ hk=>⟨hk.1,⟨hk.2.1,⟨hk.2.2.1,hk.2.2.2.2⟩⟩⟩))⟩,⟨qk Af.out⟩,⟨qb⟩⟩
        case round =>
         clear H'
         (try clear Ff)
         obtain⟨Bn,rfl,HA,Mq,Ak,Aj,Ab,Ac,Af,HB⟩:=hrel
         cases gk with
         | zero=>exact absurd HA.out (by simp [z10_.l5])
         | succ k3 =>
          have H:=HA.out
          clear HA
          simp only [z10_.l5]at H
          by_cases Gj:Bn < (Ba.length:Int)
          ·as_aux_lemma =>
           rw [if_pos Gj]at H
           have Nh:=decide_eq_true Gj
           clear Gj
           obtain⟨Qy,H⟩:=qo H
           have Wu:decide (0≤Bn)=true:=decide_eq_true Qy
           clear Qy
           by_cases Fk:(rd Ba Bn)=1
           ·as_aux_lemma =>
            rw [if_pos Fk]at H
            have Ni:((rd Ba Bn) == 1)=true:=beq_iff_eq.mpr Fk
            have Nj:((rd Ba Bn) != 1)=false:=bne_eq_false_iff_eq.mpr Fk
            clear Fk
            have H':=y0.mk H
            clear H
            obtain⟨aV,aW,Qz⟩:=Kd.R_slice Ak.out
            subst Qz
            have Fl:0≤(Bn:Int):=qd
            have Fm:Bn < (Ba.length:Int):=qd
            obtain⟨Ra,Nk,Kf⟩:=Kd.at_int (Kd.R_reads' Ak.out).2.2 Bn Fl Fm
            cases Nk
            replace Fl:=eq_true Fl
            replace Fm:=eq_true Fm
            go_wp2
            go_roundg k3
            case measure=>have:=Cw.out;have:=Cv.out;have:=Mq.out;omega
            exact⟨(wrap64 (Bn + 1)),qy2,H',⟨by have:=Cw.out;have:=Cv.out;have:=Mq.out;omega⟩,⟨qR Ak.out⟩,⟨qR Aj.out⟩,⟨qV Ab.out⟩,⟨qV Ac.out⟩,⟨qk Af.out⟩,⟨qb⟩⟩
           ·as_aux_lemma =>
            rw [if_neg Fk]at H
            have Ni:((rd Ba Bn) == 1)=false:=beq_eq_false_iff_ne.mpr Fk
            have Nj:((rd Ba Bn) != 1)=true:=bne_iff_ne.mpr Fk
            simp only [Option.some.injEq,Prod.mk.injEq]at H
            obtain⟨rfl,rfl⟩:=H
            obtain⟨aX,aY,Rb⟩:=Kd.R_slice Ak.out
            subst Rb
            have Fl:0≤(Bn:Int):=qd
            have Fm:Bn < (Ba.length:Int):=qd
            obtain⟨Ra,Nk,Kf⟩:=Kd.at_int (Kd.R_reads' Ak.out).2.2 Bn Fl Fm
            cases Nk
            replace Fl:=eq_true Fl
            replace Fm:=eq_true Fm
            go_wp2
            go_ret2
            exact⟨_,by first|rfl|(simp [y15,y16] <;> rfl)|(simp [*,y15,y16] <;> rfl),by(with_reducible repeat(first|apply Kd.R_alloc|apply Kd.R_drewN|apply Kd.R_drew));exact Aj.out,qb⟩
          ·as_aux_lemma =>
           rw [if_neg Gj]at H
           have Nh:=decide_eq_false Gj
           clear Gj
           simp only [Option.some.injEq,Prod.mk.injEq]at H
           obtain⟨rfl,rfl⟩:=H
           obtain⟨aZ,bA,Rc⟩:=Kd.R_slice Ak.out
           subst Rc
           go_wp2
           go_ret2
           exact⟨_,by first|rfl|(simp [y15,y16] <;> rfl)|(simp [*,y15,y16] <;> rfl),by(with_reducible repeat(first|apply Kd.R_alloc|apply Kd.R_drewN|apply Kd.R_drew));exact Aj.out,qb⟩
end Go.Proofs.YtimhlficlhafbaaGreatDoor.Pv
