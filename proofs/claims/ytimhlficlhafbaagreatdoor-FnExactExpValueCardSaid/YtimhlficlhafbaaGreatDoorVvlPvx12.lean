-- Cut by prune.py.
import Derived.Test.YtimhlficlhafbaaGreatDoorVvlPvx9
namespace Go.Proofs.YtimhlficlhafbaaGreatDoor.Pv
open RowKit YtimhlficlhafbaaGreatDoorW.PrintWords YtimhlficlhafbaaGreatDoorW.PrintLast YtimhlficlhafbaaGreatDoorW.PrintMore
set_option linter.unusedVariables false
set_option linter.unusedSimpArgs false
mutual
def z11_.l0:Nat→Int→List ByteArray→List ByteArray→List Bool→List ByteArray→Int→List (S67)→Int→ByteArray→List Int→List (S35)→Option (ByteArray×Int)
 | 0,_,_,_,_,_,_,_,_,_,_,_=>none
 | k + 1,x1,x2,x3,By,Ao,Ae,An,Dd,De,Dz,Ea=>if Ae≤x1 then(if 0≤Ae then(if Ae < (An.length:Int)then(if Ae < (By.length:Int)then(if rdOf false By Ae=true then(if((y23 An Ae).f0)=1 then(z11_.l1 k x1 x2 x3 By Ao Ae (-1) (wrap64 ((x2.length:Int) - 1)) An Dd De Dz Ea ((y23 An Ae).f0) ((y23 An Ae).f1) ((y23 An Ae).f2))else(if((y23 An Ae).f0)=2 then(some ((⟨#[]⟩:ByteArray),1))else(if((y23 An Ae).f0)=3 then(if Ae < (Ao.length:Int)then(z11_.l0 k x1 x2 x3 By (Ao.set (Ae:Int).toNat ((y23 An Ae).f1)) (wrap64 (Ae + 1)) An Dd De Dz Ea)else(none))else(if((y23 An Ae).f0)=4 then(z11_.l2 k x1 x2 x3 By Ao Ae (([]:List ByteArray)) 0 An Dd De Dz Ea ((y23 An Ae).f0) ((y23 An Ae).f1) ((y23 An Ae).f2))else(if 0 < (((y23 An Ae).f2).length:Int)then(if 0≤(rd ((y23 An Ae).f2) 0)then(if(rd ((y23 An Ae).f2) 0) < (Ao.length:Int)then((spec_TermNum.f k (rdOf ByteArray.empty Ao (rd ((y23 An Ae).f2) 0))).bind fun bt296=>(if 1 < (((y23 An Ae).f2).length:Int)then(if 0≤(rd ((y23 An Ae).f2) 1)then(if(rd ((y23 An Ae).f2) 1) < (Ao.length:Int)then((spec_TermNum.f k (rdOf ByteArray.empty Ao (rd ((y23 An Ae).f2) 1))).bind fun bt300=>(if bt296.2=true then(z11_.j3 k x1 x2 x3 By Ao Ae bt296.1 bt300.1 (!bt300.2) An Dd De Dz Ea ((y23 An Ae).f0) ((y23 An Ae).f1) ((y23 An Ae).f2))else(z11_.j3 k x1 x2 x3 By Ao Ae bt296.1 bt300.1 true An Dd De Dz Ea ((y23 An Ae).f0) ((y23 An Ae).f1) ((y23 An Ae).f2))))else(none))else(none))else(none)))else(none))else(none))else(none))))))else(z11_.l0 k x1 x2 x3 By Ao (wrap64 (Ae + 1)) An Dd De Dz Ea))else(none))else(none))else(none))else(if 0≤x1 then(if x1 < (Ao.length:Int)then((z6_.f k (rdOf ByteArray.empty Ao x1)).bind fun Ec=>(if Ec=0 then(some ((⟨#[]⟩:ByteArray),2))else(some (rdOf ByteArray.empty Ao x1,0))))else(none))else(none))
def z11_.l1:Nat→Int→List ByteArray→List ByteArray→List Bool→List ByteArray→Int→Int→Int→List (S67)→Int→ByteArray→List Int→List (S35)→Int→ByteArray→List Int→Option (ByteArray×Int)
 | 0,_,_,_,_,_,_,_,_,_,_,_,_,_,_,_,_=>none
 | k + 1,x1,x2,x3,Dd,By,An,Ao,Ae,De,Dz,Ea,Ec,Ee,Ep,Em,Ez=>if Ae≥0 then(if 0≤Ae then(if Ae < (x2.length:Int)then(if(rdOf ByteArray.empty x2 Ae).toList=Em.toList then(if Ae < (x3.length:Int)then(z11_.l1 k x1 x2 x3 Dd By An Ae (wrap64 (Ae - 1)) De Dz Ea Ec Ee Ep Em Ez)else(z11_.l1 k x1 x2 x3 Dd By An Ao (wrap64 (Ae - 1)) De Dz Ea Ec Ee Ep Em Ez))else(z11_.l1 k x1 x2 x3 Dd By An Ao (wrap64 (Ae - 1)) De Dz Ea Ec Ee Ep Em Ez))else(none))else(none))else(if Ao < 0 then(some ((⟨#[]⟩:ByteArray),1))else(if 0≤Ao then(if Ao < (x3.length:Int)then(if 0≤An then(if An < (By.length:Int)then(z11_.l0 k x1 x2 x3 Dd (By.set (An:Int).toNat (rdOf ByteArray.empty x3 Ao)) (wrap64 (An + 1)) De Dz Ea Ec Ee)else(none))else(none))else(none))else(none)))
def z11_.l2:Nat→Int→List ByteArray→List ByteArray→List Bool→List ByteArray→Int→List ByteArray→Int→List (S67)→Int→ByteArray→List Int→List (S35)→Int→ByteArray→List Int→Option (ByteArray×Int)
 | 0,_,_,_,_,_,_,_,_,_,_,_,_,_,_,_,_=>none
 | k + 1,x1,x2,x3,De,An,Ao,Dd,Ae,Dz,Ea,Ec,Ee,Em,Ez,Ep,By=>if Ae < (By.length:Int)then(if 0≤Ae then(if 0≤(rd By Ae)then(if(rd By Ae) < (An.length:Int)then(if Dd.length < 8796093022208 then(z11_.l2 k x1 x2 x3 De An Ao (Dd ++ [rdOf ByteArray.empty An (rd By Ae)]) (wrap64 (Ae + 1)) Dz Ea Ec Ee Em Ez Ep By)else(none))else(none))else(none))else(none))else((spec_TermMake.f k Ep Dd).bind fun bt291=>(if bt291.2=true then(if 0≤Ao then(if Ao < (An.length:Int)then(z11_.l0 k x1 x2 x3 De (An.set (Ao:Int).toNat bt291.1) (wrap64 (Ao + 1)) Dz Ea Ec Ee Em)else(none))else(none))else(some ((⟨#[]⟩:ByteArray),2))))
def z11_.j3:Nat→Int→List ByteArray→List ByteArray→List Bool→List ByteArray→Int→Int→Int→Bool→List (S67)→Int→ByteArray→List Int→List (S35)→Int→ByteArray→List Int→Option (ByteArray×Int)
 | 0,_,_,_,_,_,_,_,_,_,_,_,_,_,_,_,_,_=>none
 | k + 1,x1,x2,x3,By,Dd,De,Ae,An,Fa,Dz,Ea,Ec,Ee,Em,Ao,Ep,Ez=>if Fa=true then(some ((⟨#[]⟩:ByteArray),1))else(if Ao=6 then(z11_.j4 k x1 x2 x3 By Dd De Ae An (wrap64 (Ae - An)) Dz Ea Ec Ee Em Ao Ep Ez)else(z11_.j4 k x1 x2 x3 By Dd De Ae An (wrap64 (Ae + An)) Dz Ea Ec Ee Em Ao Ep Ez))
def z11_.j4:Nat→Int→List ByteArray→List ByteArray→List Bool→List ByteArray→Int→Int→Int→Int→List (S67)→Int→ByteArray→List Int→List (S35)→Int→ByteArray→List Int→Option (ByteArray×Int)
 | 0,_,_,_,_,_,_,_,_,_,_,_,_,_,_,_,_,_=>none
 | k + 1,x1,x2,x3,Ae,An,Ao,Ec,Ee,Em,By,Dd,De,Dz,Ea,Ep,x278001,x278002=>if Ep=7 then(z11_.j5 k x1 x2 x3 Ae An Ao (wrap64 (Ec * Ee)) By Dd De Dz Ea)else(z11_.j5 k x1 x2 x3 Ae An Ao Em By Dd De Dz Ea)
def z11_.j5:Nat→Int→List ByteArray→List ByteArray→List Bool→List ByteArray→Int→Int→List (S67)→Int→ByteArray→List Int→List (S35)→Option (ByteArray×Int)
 | 0,_,_,_,_,_,_,_,_,_,_,_,_=>none
 | k + 1,x1,x2,x3,By,An,Ae,Ao,Dd,De,Dz,Ea,Ec=>(z8_.f Ao (-1000000) 1000000).bind fun Ee=>(if Ee=true then((spec_NumText.f k Ao).bind fun Em=>(if 0≤Ae then(if Ae < (An.length:Int)then(z11_.l0 k x1 x2 x3 By (An.set (Ae:Int).toNat Em) (wrap64 (Ae + 1)) Dd De Dz Ea Ec)else(none))else(none)))else(some ((⟨#[]⟩:ByteArray),2)))
end
def z11_.f (k:Nat) (Ae:List (S67)) (An:Int) (Ao:ByteArray) (By:List Int) (Dd:List (S35)) (a1:Int) (l2:List ByteArray) (l3:List ByteArray):Option (ByteArray×Int):=(spec_l06Within.f k Ae An Ao By Dd a1).bind fun De=>(if 0≤(Ae.length:Int)then(if((Ae.length:Int):Int).toNat≤17592186044416 then(z11_.l0 k a1 l2 l3 De (List.replicate ((Ae.length:Int):Int).toNat (⟨#[]⟩:ByteArray)) 0 Ae An Ao By Dd)else(none))else(none))
set_option maxHeartbeats 8000000 in
set_option maxRecDepth 100000 in
theorem z11_.calls (k:Nat) (Is:Option Addr) (Cg:Nat) (Ab:List (S67)) (Bd:Int) (Be:ByteArray) (Ch:Option Addr) (Ci:Nat) (Ba:List Int) (Cj:Option Addr) (Ck:Nat) (Bb:List (S35)) (a1:Int) (A2:Option Addr) (c2:Nat) (l2:List ByteArray) (A3:Option Addr) (c3:Nat) (l3:List ByteArray) (r1:ByteArray) (r2:Int) (w:World) (Nf:Kd.C k67 w Is Ab.length Ab) (Ng:Ab.length≤Cg) (Nh:Kd.C (Kd.int .i64) w Ch Ba.length Ba) (Ni:Ba.length≤Ci) (Nj:Kd.C k35 w Cj Bb.length Bb) (Nk:Bb.length≤Ck) (Vo:Kd.C Kd.string w A2 l2.length l2) (Vp:l2.length≤c2) (Vq:Kd.C Kd.string w A3 l3.length l3) (Vr:l3.length≤c3) (h:z11_.f k Ab Bd Be Ba Bb a1 l2 l3=some (r1,r2)) :
  Calls Tryz.prog 17 #[.agg #[.slice Is Ab.length Cg,.int .i64 Bd,.string Be,.slice Ch Ba.length Ci,.slice Cj Bb.length Ck],.int .i64 a1,.slice A2 l2.length c2,.slice A3 l3.length c3] w fun e w'=>e=.returned (.tuple #[.string r1,.int .i64 r2])∧Below w.heap.size w w':=by
 have Xu:=Tryz.underlying38
 have Xv:=Tryz.underlying67
 have Ct:=y0.mk Nf
 have Iz:=y0.mk Ng
 clear Nf Ng
 have Ja:=y0.mk Nh
 have Jb:=y0.mk Ni
 clear Nh Ni
 have Jc:=y0.mk Nj
 have Jd:=y0.mk Nk
 clear Nj Nk
 have Xw:=y0.mk Vo
 have Yi:=y0.mk Vp
 clear Vo Vp
 have Xx:=y0.mk Vq
 have Yj:=y0.mk Vr
 clear Vq Vr
 have HB:=y0.mk (Below.refl w.heap.size w)
 have H:((spec_l06Within.f k Ab Bd Be Ba Bb a1).bind fun Ay=>(if 0≤(Ab.length:Int)then(if((Ab.length:Int):Int).toNat≤17592186044416 then(z11_.l0 k a1 l2 l3 Ay (List.replicate ((Ab.length:Int):Int).toNat (⟨#[]⟩:ByteArray)) 0 Ab Bd Be Ba Bb)else(none))else(none)))=some (r1,r2):=h
 clear h
 obtain⟨Ay,A5,H⟩:=qB H
 obtain⟨c6,H⟩:=qo H
 have Um:=eq_true c6
 have Un:=decide_eq_true c6
 clear c6
 obtain⟨c7,H⟩:=qo H
 have Uo:=eq_true c7
 have Up:=decide_eq_true c7
 clear c7
 obtain⟨Qb,Ft⟩:∃ y_:List ByteArray,y_=(List.replicate ((Ab.length:Int):Int).toNat (⟨#[]⟩:ByteArray)):=⟨_,rfl⟩
 replace H:(z11_.l0 k a1 l2 l3 Ay Qb 0 Ab Bd Be Ba Bb)=some (r1,r2):=by first|exact Ft ▸ H|exact Ft ▸ (Option.bind_some _ _).symm.trans H
 replace Ft:=y0.mk Ft
 have H':=y0.mk H
 clear H
 go_enter Tryz.func17,Tryz.ntmps17
 go_wp2_with (first|((with_reducible refine y19 (N:=4) rfl ?_);(try(refine y20 (by rfl) ?_;dsimp only));refine qe 4 #[.slice Is Ab.length Cg,.int .i64 Bd,.string Be,.slice Ch Ba.length Ci,.slice Cj Bb.length Ck] 38 ?_;intro Bx hg w8 hbox hb;have Ah:=y0.mk (hbox);have Nl:=y0.mk (qg (w:=w) hg);have Nm:=y0.mk (qg (w:=w) hg);replace HB:=y0.mk (y5 qb hb);clear hb hbox hg;obtain⟨Hc,Hd,He,Hf,Hg,Hh,Hi,Hj,Hk,Hl⟩:=qz5 Ah.out)|(go_at_call 31;(with_reducible refine(spec_l06Within.calls k _ _ Ab Bd Be _ _ Ba _ _ Bb a1 Ay _ (qc (Kd.C_below Ct.out HB.out)) Iz.out (qc (Kd.C_below Ja.out HB.out)) Jb.out (qc (Kd.C_below Jc.out HB.out)) Jd.out A5.out).mono ?_);rintro e Vs ⟨Iu,rfl,Nn,hb⟩;have Cu:=y0.mk (Kd.R_lower Nn (y4 qb));replace Ah:=y0.mk (qK Ah.out hb);replace HB:=y0.mk (y5 qb hb);(try clear hb);(try clear Nn);obtain⟨Es,Et,Eu,Ew,Ex,Ey,Ez,Fa,Fb,Fc⟩:=qz5 Ah.out)|((with_reducible refine y19 (N:=31) rfl ?_);(try(refine y20 (by rfl) ?_;dsimp only));refine Kd.R_make Kd.string _ 9 rfl (N:=31) rfl 29 _ _ rfl (Ab.length:Int) rfl rfl Tryz.underlying29 (.string ⟨#[]⟩) 16 info9 rfl (by decide) (by omega) (⟨#[]⟩:ByteArray) (ok:=fun _=>True) (okp:=fun _=>True) rfl (fun _ hk=>hk) trivial (of_decide_eq_true qy0) (Nat.le_trans (Nat.mul_le_mul_right _ (of_decide_eq_true qy0:(Ab.length:Int).toNat≤17592186044416)) (by omega)) (Below.refl _ _) (Nat.le_refl _) ?_;intro Fd Vt Cn hb hg_ hnew_;clear hg_ hnew_;(first|rw [← Ft.out]at Cn|(simp only [Int.reduceToNat]at Cn;rw [← Ft.out]at Cn));replace Cu:=y0.mk (Kd.R_below (qR Cu.out) hb);have Je:=y0.mk (Kd.R_lower Cn (y4 qb));replace Ah:=y0.mk (qK Ah.out hb);replace HB:=y0.mk (y5 qb hb);clear hb Cn))
 go_loopg [12] k (fun kq Xy w'=>∃(Ak:List ByteArray) (Aa:Int),Xy=.int .i64 Aa∧y0 (z11_.l0 kq a1 l2 l3 Ay Ak Aa Ab Bd Be Ba Bb=some (r1,r2))∧y0 (kq≤k)∧y0 (Kd.R Kd.bool 4 w' w.heap.size (fun _=>True) Iu Ay)∧y0 (Kd.R Kd.string 9 w' w.heap.size (fun _=>True) Fd Ak)∧y0 (w'.heap[Bx]?=some (.cells #[(.slice Is Ab.length Cg),.int .i64 Bd,.string Be,(.slice Ch Ba.length Ci),(.slice Cj Bb.length Ck)] 38 (0,0)))∧y0 (Below w.heap.size w w'))
 case atStart=>exact⟨(Qb),(0),qy2,H',⟨Nat.le_refl _⟩,⟨qR Cu.out⟩,⟨qR Je.out⟩,⟨qk Ah.out⟩,⟨qb⟩⟩
 case round =>
  clear H'
  (try clear Um Un Uo Up Es Et Eu Ew Ex Hc Hd He Hf Hg Ey Ez Fa Fb Fc Hh Hi Hj Hk Hl)
  obtain⟨Ak,Aa,rfl,HA,Dp,Ag,Ac,Ah,HB⟩:=hrel
  cases gk with
  | zero=>exact absurd HA.out (by simp [z11_.l0])
  | succ k1 =>
   have H:=HA.out
   clear HA
   simp only [z11_.l0]at H
   by_cases Pu:Aa≤a1
   ·as_aux_lemma =>
    rw [if_pos Pu]at H
    have Np:=decide_eq_true Pu
    clear Pu
    obtain⟨Vu,H⟩:=qo H
    have Qc:decide (0≤Aa)=true:=decide_eq_true Vu
    clear Vu
    obtain⟨Vv,H⟩:=qo H
    have Qd:decide (Aa < (Ab.length:Int))=true:=decide_eq_true Vv
    clear Vv
    obtain⟨Vw,H⟩:=qo H
    have Qe:decide (Aa < (Ay.length:Int))=true:=decide_eq_true Vw
    clear Vw
    obtain⟨Qf,Jf⟩:∃ b_:Bool,b_=(rdOf false Ay Aa):=⟨_,rfl⟩
    replace H:(if Qf=true then(if((y23 Ab Aa).f0)=1 then(z11_.l1 k1 a1 l2 l3 Ay Ak Aa (-1) (wrap64 ((l2.length:Int) - 1)) Ab Bd Be Ba Bb ((y23 Ab Aa).f0) ((y23 Ab Aa).f1) ((y23 Ab Aa).f2))else(if((y23 Ab Aa).f0)=2 then(some ((⟨#[]⟩:ByteArray),1))else(if((y23 Ab Aa).f0)=3 then(if Aa < (Ak.length:Int)then(z11_.l0 k1 a1 l2 l3 Ay (Ak.set (Aa:Int).toNat ((y23 Ab Aa).f1)) (wrap64 (Aa + 1)) Ab Bd Be Ba Bb)else(none))else(if((y23 Ab Aa).f0)=4 then(z11_.l2 k1 a1 l2 l3 Ay Ak Aa (([]:List ByteArray)) 0 Ab Bd Be Ba Bb ((y23 Ab Aa).f0) ((y23 Ab Aa).f1) ((y23 Ab Aa).f2))else(if 0 < (((y23 Ab Aa).f2).length:Int)then(if 0≤(rd ((y23 Ab Aa).f2) 0)then(if(rd ((y23 Ab Aa).f2) 0) < (Ak.length:Int)then((spec_TermNum.f k1 (rdOf ByteArray.empty Ak (rd ((y23 Ab Aa).f2) 0))).bind fun Jg=>(if 1 < (((y23 Ab Aa).f2).length:Int)then(if 0≤(rd ((y23 Ab Aa).f2) 1)then(if(rd ((y23 Ab Aa).f2) 1) < (Ak.length:Int)then((spec_TermNum.f k1 (rdOf ByteArray.empty Ak (rd ((y23 Ab Aa).f2) 1))).bind fun Jh=>(if Jg.2=true then(z11_.j3 k1 a1 l2 l3 Ay Ak Aa Jg.1 Jh.1 (!Jh.2) Ab Bd Be Ba Bb ((y23 Ab Aa).f0) ((y23 Ab Aa).f1) ((y23 Ab Aa).f2))else(z11_.j3 k1 a1 l2 l3 Ay Ak Aa Jg.1 Jh.1 true Ab Bd Be Ba Bb ((y23 Ab Aa).f0) ((y23 Ab Aa).f1) ((y23 Ab Aa).f2))))else(none))else(none))else(none)))else(none))else(none))else(none))))))else(z11_.l0 k1 a1 l2 l3 Ay Ak (wrap64 (Aa + 1)) Ab Bd Be Ba Bb))=some (r1,r2):=by rw [← Jf]at H;exact H
    replace Jf:=y0.mk Jf
    by_cases Qg:Qf=true
    ·subst Qg
     replace H:=qT H
     by_cases Oo:((y23 Ab Aa).f0)=1
     ·as_aux_lemma =>
      rw [if_pos Oo]at H
      have Ji:(((y23 Ab Aa).f0) == 1)=true:=beq_iff_eq.mpr Oo
      have Jj:(((y23 Ab Aa).f0) != 1)=false:=bne_eq_false_iff_eq.mpr Oo
      clear Oo
      have H':=y0.mk H
      clear H
      obtain⟨Me,Mf,Mg,Mh,Mi,Mj,Ml,Mm,Mn,Mo⟩:=qz5 Ah.out
      have Bz:0≤(Aa:Int):=qd
      have Ca:Aa < (Ab.length:Int):=qd
      obtain⟨Bu,Ap,Al,Ds,Av,Aw,Ax,Bf,Bg⟩:=at_T67 Ct.out Aa Bz Ca
      cases Ds
      replace Av:=qC Av HB
      replace Aw:=qC Aw HB
      replace Ax:=qC Ax HB
      have Bs:=y0.mk Bg
      have Cv:=y0.mk Bf
      clear Bg Bf
      replace Bz:=eq_true Bz
      replace Ca:=eq_true Ca
      go_wp2_with (first|((with_reducible refine y19 (N:=13) rfl ?_);(try(refine y20 (by rfl) ?_;dsimp only));refine qe 13 #[.int .i64 0,.string (⟨#[]⟩:ByteArray),.slice none 0 0] 67 ?_;intro Ad hg Qh hbox hb;replace Ag:=y0.mk (Kd.R_below (qR Ag.out) hb);replace Ac:=y0.mk (Kd.R_below (qR Ac.out) hb);have Af:=y0.mk (hbox);have Bh:=y0.mk (qg (w:=w) hg);have Cb:=y0.mk (qg (w:=w) hg);replace HB:=y0.mk (y5 qb hb);have Aj:=y0.mk (qn Ah.out hg);have Am:=y0.mk (qm Ah.out hg);replace Ah:=y0.mk (qK Ah.out hb);clear hb hbox hg;have Nq:=Am.out;have Nr:=Aj.out;obtain⟨Fe,Ff,Fg,Fh,Fi,Fj⟩:=qz3 Af.out;obtain⟨Qi,Oq,Jk⟩:=Kd.R_slice Ag.out;subst Jk;have As:0≤(Aa:Int):=qd;have At:Aa < (Ay.length:Int):=qd;obtain⟨Aq,Bp,Ai⟩:=Kd.at_bool (Kd.R_reads' Ag.out).2.2 Aa As At;(try rw [← Jf.out]at Ai);cases Bp;have hn278_0:Aq.block≠Ad:=Kd.own_blk (Kd.R_ne Ag.out Af.out (by decide));have hn278_1:Aq.block≠Ad:=Kd.own_blk (Kd.R_ne Ag.out Af.out (by decide));have hn278_2:Aq.block≠Ad:=Kd.own_blk (Kd.R_ne Ag.out Af.out (by decide));replace Ai:=(y14 (p:=⟨Ad,0,none⟩) qy4 (.int .i64 ((y23 Ab Aa).f0))).trans Ai;replace Ai:=(y14 (p:=⟨Ad,1,none⟩) qy5 (.string ((y23 Ab Aa).f1))).trans Ai;replace Ai:=(y14 (p:=⟨Ad,2,none⟩) qy6 (.slice Ap ((y23 Ab Aa).f2).length Al)).trans Ai;(try have Bi:=fun(n_:Nat)=>(show(((((Qh.drewN n_).setCell ⟨Ad,0,none⟩ (.int .i64 ((y23 Ab Aa).f0))).setCell ⟨Ad,1,none⟩ (.string ((y23 Ab Aa).f1))).setCell ⟨Ad,2,none⟩ (.slice Ap ((y23 Ab Aa).f2).length Al))).cell? _=some _ from Ai));clear hn278_0;clear hn278_1;clear hn278_2;replace As:=eq_true As;replace At:=eq_true At))
      go_loopg [14,15] k1 (fun kq Xz Ya w'=>∃(Bv:Int) (Br:Int),Xz=.int .i64 Bv∧Ya=.int .i64 Br∧y0 (z11_.l1 kq a1 l2 l3 Ay Ak Aa Bv Br Ab Bd Be Ba Bb ((y23 Ab Aa).f0) ((y23 Ab Aa).f1) ((y23 Ab Aa).f2)=some (r1,r2))∧y0 (kq≤k1)∧y0 (Kd.R Kd.bool 4 w' w.heap.size (fun _=>True) (.slice (some Aq) Ay.length Oq) Ay)∧y0 (Kd.R Kd.string 9 w' w.heap.size (fun _=>True) Fd Ak)∧y0 (w'.heap[Bx]?=some (.cells #[(.slice (some Bu) Ab.length Cg),.int .i64 Bd,.string Be,(.slice Ch Ba.length Ci),(.slice Cj Bb.length Ck)] 38 (0,0)))∧y0 (w'.heap[Ad]?=some (.cells #[.int .i64 ((y23 Ab Aa).f0),.string ((y23 Ab Aa).f1),(.slice Ap ((y23 Ab Aa).f2).length Al)] 67 (0,0)))∧y0 (Below w.heap.size w w'))
      case atStart=>exact⟨((-1)),(wrap64 ((l2.length:Int) - 1)),qy2,qy2,H',⟨Nat.le_refl _⟩,⟨qR (Kd.R_mono (qfR Ad (Kd.R_types Ag.out Af.out (by decide)) (.int .i64 ((y23 Ab Aa).f0)) (.string ((y23 Ab Aa).f1)) (.slice Ap ((y23 Ab Aa).f2).length Al)) (fun _ hk=>trivial))⟩,⟨qR (Kd.R_mono (qfR Ad (Kd.R_types Ac.out Af.out (by decide)) (.int .i64 ((y23 Ab Aa).f0)) (.string ((y23 Ab Aa).f1)) (.slice Ap ((y23 Ab Aa).f2).length Al)) (fun _ hk=>trivial))⟩,⟨by(with_reducible repeat(first|refine y10 ?_ _|refine y9 ?_|refine y6 ?_ _));refine y11 ?_ Aj.out _;refine y11 ?_ Aj.out _;refine y11 ?_ Aj.out _;(with_reducible repeat(first|refine y10 ?_ _|refine y9 ?_|refine y6 ?_ _));exact Ah.out⟩,⟨by(with_reducible repeat(first|refine y10 ?_ _|refine y9 ?_|refine y6 ?_ _));refine y13 (cs:=#[.int .i64 ((y23 Ab Aa).f0),.string ((y23 Ab Aa).f1),.slice none 0 0]) ?_ 2 _ rfl;refine y13 (cs:=#[.int .i64 ((y23 Ab Aa).f0),.string (⟨#[]⟩:ByteArray),.slice none 0 0]) ?_ 1 _ rfl;refine y13 (cs:=#[.int .i64 0,.string (⟨#[]⟩:ByteArray),.slice none 0 0]) ?_ 0 _ rfl;(with_reducible repeat(first|refine y10 ?_ _|refine y9 ?_|refine y6 ?_ _));exact Af.out⟩,⟨qb⟩⟩
      case round =>
       clear H'
       (try clear Np Qc Qd Qe Qg Ji Jj Me Mf Mg Mh Mi Fe Ff Fg Mj Ml Mm Mn Mo Fh Fi Fj Av Aw Ax Ai Bz As Ca At)
       obtain⟨Bv,Br,rfl,rfl,HA,Iv,Ag,Ac,Ah,Af,HB⟩:=hrel
       cases gk with
       | zero=>exact absurd HA.out (by simp [z11_.l1])
       | succ k2 =>
        have H:=HA.out
        clear HA
        simp only [z11_.l1]at H
        by_cases Pw:Br≥0
        ·as_aux_lemma =>
         rw [if_pos Pw]at H
         have Qj:decide (0≤Br)=true:=decide_eq_true Pw
         clear Pw
         obtain⟨Vx,H⟩:=qo H
         have Vy:decide (0≤Br)=true:=decide_eq_true Vx
         clear Vx
         obtain⟨Vz,H⟩:=qo H
         have Wa:decide (Br < (l2.length:Int))=true:=decide_eq_true Vz
         clear Vz
         have Ot:0≤(Br:Int):=qd
         have Ou:Br < (l2.length:Int):=qd
         obtain⟨Wb,Uq,Fk⟩:=Kd.at_string Xw.out Br Ot Ou
         cases Uq
         replace Fk:=qC Fk HB
         replace Ot:=eq_true Ot
         replace Ou:=eq_true Ou
         have Wc:=Am.out
         have Wd:=Aj.out
         obtain⟨Sq,Sr,Ss,St,Su,Sv⟩:=qz3 Af.out
         by_cases Ov:(rdOf ByteArray.empty l2 Br).toList=((y23 Ab Aa).f1).toList
         ·as_aux_lemma =>
          rw [if_pos Ov]at H
          have Qk:((rdOf ByteArray.empty l2 Br).toList == ((y23 Ab Aa).f1).toList)=true:=beq_iff_eq.mpr Ov
          have Ql:((rdOf ByteArray.empty l2 Br).toList != ((y23 Ab Aa).f1).toList)=false:=bne_eq_false_iff_eq.mpr Ov
          clear Ov
          by_cases Px:Br < (l3.length:Int)
          ·as_aux_lemma =>
           rw [if_pos Px]at H
           have Qm:=decide_eq_true Px
           clear Px
           have H':=y0.mk H
           clear H
           go_wp2
           repeat(go_quiet (fail);try go_wp2)
           go_roundg k2
           case measure=>have:=Dp.out;have:=Iv.out;omega
           exact⟨(Br),(wrap64 (Br - 1)),qy2,qy2,H',⟨by have:=Dp.out;have:=Iv.out;omega⟩,⟨qR Ag.out⟩,⟨qR Ac.out⟩,⟨qk Ah.out⟩,⟨qk Af.out⟩,⟨qb⟩⟩
          ·as_aux_lemma =>
           rw [if_neg Px]at H
           have Qm:=decide_eq_false Px
           clear Px
           have H':=y0.mk H
           clear H
           go_wp2
           repeat(go_quiet (fail);try go_wp2)
           go_roundg k2
           case measure=>have:=Dp.out;have:=Iv.out;omega
           exact⟨(Bv),(wrap64 (Br - 1)),qy2,qy2,H',⟨by have:=Dp.out;have:=Iv.out;omega⟩,⟨qR Ag.out⟩,⟨qR Ac.out⟩,⟨qk Ah.out⟩,⟨qk Af.out⟩,⟨qb⟩⟩
         ·as_aux_lemma =>
          rw [if_neg Ov]at H
          have Qk:((rdOf ByteArray.empty l2 Br).toList == ((y23 Ab Aa).f1).toList)=false:=beq_eq_false_iff_ne.mpr Ov
          have Ql:((rdOf ByteArray.empty l2 Br).toList != ((y23 Ab Aa).f1).toList)=true:=bne_iff_ne.mpr Ov
          have H':=y0.mk H
          clear H
          go_wp2
          repeat(go_quiet (fail);try go_wp2)
          go_roundg k2
          case measure=>have:=Dp.out;have:=Iv.out;omega
          exact⟨(Bv),(wrap64 (Br - 1)),qy2,qy2,H',⟨by have:=Dp.out;have:=Iv.out;omega⟩,⟨qR Ag.out⟩,⟨qR Ac.out⟩,⟨qk Ah.out⟩,⟨qk Af.out⟩,⟨qb⟩⟩
        ·as_aux_lemma =>
         rw [if_neg Pw]at H
         have Qj:decide (0≤Br)=false:=decide_eq_false Pw
         clear Pw
         by_cases Py:Bv < 0
         ·as_aux_lemma =>
          rw [if_pos Py]at H
          have Qn:=decide_eq_true Py
          clear Py
          simp only [Option.some.injEq,Prod.mk.injEq]at H
          obtain⟨rfl,rfl⟩:=H
          go_wp2
          repeat(go_quiet (fail);try go_wp2)
          go_ret2
          exact⟨qf,qb⟩
         ·as_aux_lemma =>
          rw [if_neg Py]at H
          have Qn:=decide_eq_false Py
          clear Py
          obtain⟨We,H⟩:=qo H
          have Wf:decide (0≤Bv)=true:=decide_eq_true We
          clear We
          obtain⟨Wg,H⟩:=qo H
          have Wh:decide (Bv < (l3.length:Int))=true:=decide_eq_true Wg
          clear Wg
          obtain⟨Wj,H⟩:=qo H
          have Wk:decide (0≤Aa)=true:=decide_eq_true Wj
          clear Wj
          obtain⟨Wl,H⟩:=qo H
          have Wm:decide (Aa < (Ak.length:Int))=true:=decide_eq_true Wl
          clear Wl
          obtain⟨Jl,Fu⟩:∃ y_:List ByteArray,y_=(Ak.set (Aa:Int).toNat (rdOf ByteArray.empty l3 Bv)):=⟨_,rfl⟩
          replace H:(z11_.l0 k2 a1 l2 l3 Ay Jl (wrap64 (Aa + 1)) Ab Bd Be Ba Bb)=some (r1,r2):=by first|exact Fu ▸ H|exact Fu ▸ (Option.bind_some _ _).symm.trans H
          replace Fu:=y0.mk Fu
          have H':=y0.mk H
          clear H
          have Ow:0≤(Bv:Int):=qd
          have Ox:Bv < (l3.length:Int):=qd
          obtain⟨Wn,Ur,Fl⟩:=Kd.at_string Xx.out Bv Ow Ox
          cases Ur
          replace Fl:=qC Fl HB
          replace Ow:=eq_true Ow
          replace Ox:=eq_true Ox
          have Us:0≤(Aa:Int):=qd
          have Ut:(Aa:Int) < ((Ak.length:Int):Int):=qd
          obtain⟨De,Iw,Qo,Qp,Uu,Yb,Qq⟩:=Kd.R_form Ac.out (by omega)
          (first|cases Qo|(injection Qo with ea_ en_ ec_;(first|subst ea_|(injection ea_ with ea_;subst ea_));subst ec_;clear en_))
          have Oy:=y0.mk Qp
          have Yc:=y0.mk Qq
          clear Qp Uu Qq
          obtain⟨Uv,Uw⟩:=Kd.R_celln (⟨#[]⟩:ByteArray) Ac.out (Aa:Int) Us Ut
          replace Us:=eq_true Us
          replace Ut:=eq_true Ut
          have Df:=Kd.R_putg Ac.out (Aa:Int) (rdOf ByteArray.empty l3 Bv)
          go_wp2_with (first|((with_reducible refine gate_store (t:=9) (p:=131) rfl ?_);(try(rw [drewN_self wr];generalize hq_:World.drewN wr _=wr;have n0_:=y0.mk (Kd.R_at hq_ Ag.out);have n1_:=y0.mk (Kd.R_at hq_ Ac.out);have n2_:=y0.mk (blk_at hq_ Ah.out);have n3_:=y0.mk (blk_at hq_ Af.out);have n4_:=y0.mk (below_at hq_ HB.out);clear hq_ Ag Ac Ah Af HB;have Ag:=n0_;have Ac:=n1_;have Ah:=n2_;have Af:=n3_;have HB:=n4_;clear n0_ n1_ n2_ n3_ n4_;(try(have Df:=Kd.R_putg Ac.out (Aa:Int) (rdOf ByteArray.empty l3 Bv)))));refine store_event (t:=9) (p:=131) (v:=?vo_w44) (w1:=(wr.setCell ⟨De,(Aa:Int).toNat,none⟩ (.string (rdOf ByteArray.empty l3 Bv)))) ?hg ?ho ?hn ?hr ?_;(case ho=>rfl);(case hg=>rfl);(case hn=>rfl);(case hr=>first|(go_simp;done)|(go_simp;rfl));intro Jn hw;have hg:wr.grownBy Jn (some De):=(by rw [hw];exact Df.2);have hp_:Kd.R Kd.string 9 Jn w.heap.size (fun _=>True) (.slice (some ⟨De,0,none⟩) Ak.length Iw) Jl:=(by rw [hw,Fu.out];exact Df.1);clear Df;replace Ag:=y0.mk (Kd.R_over' (v:=(.slice (some ⟨De,0,none⟩) Ak.length Iw)) (qR Ag.out) (Kd.R_typed Ac.out) (by decide) hg);replace Ah:=y0.mk (y12 (qk Ah.out) hg (Kd.R_ne Ac.out Ah.out (by decide)));replace Af:=y0.mk (y12 (qk Af.out) hg (Kd.R_ne Ac.out Af.out (by decide)));replace Ac:=y0.mk (hp_);replace HB:=y0.mk ((by rw [hw];exact below_set (HB.out) Oy.out:Below w.heap.size w Jn));clear hg hw hp_))
          go_roundg k2
          case measure=>have:=Dp.out;have:=Iv.out;omega
          exact⟨(Jl),(wrap64 (Aa + 1)),qy2,H',⟨by have:=Dp.out;have:=Iv.out;omega⟩,⟨qR Ag.out⟩,⟨qR Ac.out⟩,⟨qk Ah.out⟩,⟨qb⟩⟩
     ·as_aux_lemma =>
      rw [if_neg Oo]at H
      have Ji:(((y23 Ab Aa).f0) == 1)=false:=beq_eq_false_iff_ne.mpr Oo
      have Jj:(((y23 Ab Aa).f0) != 1)=true:=bne_iff_ne.mpr Oo
      by_cases Oz:((y23 Ab Aa).f0)=2
      ·as_aux_lemma =>
       rw [if_pos Oz]at H
       have Ns:(((y23 Ab Aa).f0) == 2)=true:=beq_iff_eq.mpr Oz
       have Nt:(((y23 Ab Aa).f0) != 2)=false:=bne_eq_false_iff_eq.mpr Oz
       clear Oz
       simp only [Option.some.injEq,Prod.mk.injEq]at H
       obtain⟨rfl,rfl⟩:=H
       obtain⟨Sw,Sx,Sy,Sz,Ta,Tc,Td,Te,Tf,Tg⟩:=qz5 Ah.out
       have Bz:0≤(Aa:Int):=qd
       have Ca:Aa < (Ab.length:Int):=qd
       obtain⟨Bu,Ap,Al,Ds,Av,Aw,Ax,Bf,Bg⟩:=at_T67 Ct.out Aa Bz Ca
       cases Ds
       replace Av:=qC Av HB
       replace Aw:=qC Aw HB
       replace Ax:=qC Ax HB
       have Bs:=y0.mk Bg
       have Cv:=y0.mk Bf
       clear Bg Bf
       replace Bz:=eq_true Bz
       replace Ca:=eq_true Ca
       go_wp2_with (first|((with_reducible refine y19 (N:=13) rfl ?_);(try(refine y20 (by rfl) ?_;dsimp only));refine qe 13 #[.int .i64 0,.string (⟨#[]⟩:ByteArray),.slice none 0 0] 67 ?_;intro Ad hg Qr hbox hb;replace Ag:=y0.mk (Kd.R_below (qR Ag.out) hb);replace Ac:=y0.mk (Kd.R_below (qR Ac.out) hb);have Af:=y0.mk (hbox);have Bh:=y0.mk (qg (w:=w) hg);have Cb:=y0.mk (qg (w:=w) hg);replace HB:=y0.mk (y5 qb hb);have Aj:=y0.mk (qn Ah.out hg);have Am:=y0.mk (qm Ah.out hg);replace Ah:=y0.mk (qK Ah.out hb);clear hb hbox hg;have Nu:=Am.out;have Nv:=Aj.out;obtain⟨Hr,Hs,Ht,Hu,Hv,Hw⟩:=qz3 Af.out;obtain⟨Qs,Qt,Jo⟩:=Kd.R_slice Ag.out;subst Jo;have As:0≤(Aa:Int):=qd;have At:Aa < (Ay.length:Int):=qd;obtain⟨Aq,Bp,Ai⟩:=Kd.at_bool (Kd.R_reads' Ag.out).2.2 Aa As At;(try rw [← Jf.out]at Ai);cases Bp;have hn278_0:Aq.block≠Ad:=Kd.own_blk (Kd.R_ne Ag.out Af.out (by decide));have hn278_1:Aq.block≠Ad:=Kd.own_blk (Kd.R_ne Ag.out Af.out (by decide));have hn278_2:Aq.block≠Ad:=Kd.own_blk (Kd.R_ne Ag.out Af.out (by decide));replace Ai:=(y14 (p:=⟨Ad,0,none⟩) qy4 (.int .i64 ((y23 Ab Aa).f0))).trans Ai;replace Ai:=(y14 (p:=⟨Ad,1,none⟩) qy5 (.string ((y23 Ab Aa).f1))).trans Ai;replace Ai:=(y14 (p:=⟨Ad,2,none⟩) qy6 (.slice Ap ((y23 Ab Aa).f2).length Al)).trans Ai;(try have Bi:=fun(n_:Nat)=>(show(((((Qr.drewN n_).setCell ⟨Ad,0,none⟩ (.int .i64 ((y23 Ab Aa).f0))).setCell ⟨Ad,1,none⟩ (.string ((y23 Ab Aa).f1))).setCell ⟨Ad,2,none⟩ (.slice Ap ((y23 Ab Aa).f2).length Al))).cell? _=some _ from Ai));clear hn278_0;clear hn278_1;clear hn278_2;replace As:=eq_true As;replace At:=eq_true At))
       go_ret2
       exact⟨qf,qb⟩
      ·as_aux_lemma =>
       rw [if_neg Oz]at H
       have Ns:(((y23 Ab Aa).f0) == 2)=false:=beq_eq_false_iff_ne.mpr Oz
       have Nt:(((y23 Ab Aa).f0) != 2)=true:=bne_iff_ne.mpr Oz
       by_cases Pa:((y23 Ab Aa).f0)=3
       ·as_aux_lemma =>
        rw [if_pos Pa]at H
        have Nw:(((y23 Ab Aa).f0) == 3)=true:=beq_iff_eq.mpr Pa
        have Nx:(((y23 Ab Aa).f0) != 3)=false:=bne_eq_false_iff_eq.mpr Pa
        clear Pa
        obtain⟨Wo,H⟩:=qo H
        have Wp:decide (Aa < (Ak.length:Int))=true:=decide_eq_true Wo
        clear Wo
        obtain⟨Jp,Fv⟩:∃ y_:List ByteArray,y_=(Ak.set (Aa:Int).toNat ((y23 Ab Aa).f1)):=⟨_,rfl⟩
        replace H:(z11_.l0 k1 a1 l2 l3 Ay Jp (wrap64 (Aa + 1)) Ab Bd Be Ba Bb)=some (r1,r2):=by first|exact Fv ▸ H|exact Fv ▸ (Option.bind_some _ _).symm.trans H
        replace Fv:=y0.mk Fv
        have H':=y0.mk H
        clear H
        obtain⟨Th,Ti,Tj,Tk,Tl,Tn,To,Tp,Tq,Tr⟩:=qz5 Ah.out
        have Bz:0≤(Aa:Int):=qd
        have Ca:Aa < (Ab.length:Int):=qd
        obtain⟨Bu,Ap,Al,Ds,Av,Aw,Ax,Bf,Bg⟩:=at_T67 Ct.out Aa Bz Ca
        cases Ds
        replace Av:=qC Av HB
        replace Aw:=qC Aw HB
        replace Ax:=qC Ax HB
        have Bs:=y0.mk Bg
        have Cv:=y0.mk Bf
        clear Bg Bf
        replace Bz:=eq_true Bz
        replace Ca:=eq_true Ca
        go_wp2_with (first|((with_reducible refine y19 (N:=13) rfl ?_);(try(refine y20 (by rfl) ?_;dsimp only));refine qe 13 #[.int .i64 0,.string (⟨#[]⟩:ByteArray),.slice none 0 0] 67 ?_;intro Ad hg Hx hbox hb;replace Ag:=y0.mk (Kd.R_below (qR Ag.out) hb);replace Ac:=y0.mk (Kd.R_below (qR Ac.out) hb);have Af:=y0.mk (hbox);have Bh:=y0.mk (qg (w:=w) hg);have Cb:=y0.mk (qg (w:=w) hg);replace HB:=y0.mk (y5 qb hb);have Aj:=y0.mk (qn Ah.out hg);have Am:=y0.mk (qm Ah.out hg);replace Ah:=y0.mk (qK Ah.out hb);clear hb hbox hg;have Ny:=Am.out;have Nz:=Aj.out;obtain⟨Hy,Hz,Ia,Ib,Ic,Id⟩:=qz3 Af.out)|((with_reducible refine gate_store (t:=67) (p:=13) rfl ?_);(try(rw [drewN_self Hx];generalize hq_:World.drewN Hx _=Hx;have n0_:=y0.mk (Kd.R_at hq_ Ag.out);have n1_:=y0.mk (Kd.R_at hq_ Ac.out);have n2_:=y0.mk (blk_at hq_ Ah.out);have n3_:=y0.mk (blk_at hq_ Af.out);have n4_:=y0.mk (below_at hq_ HB.out);clear hq_ Ag Ac Ah Af HB;have Ag:=n0_;have Ac:=n1_;have Ah:=n2_;have Af:=n3_;have HB:=n4_;clear n0_ n1_ n2_ n3_ n4_));refine store_event (t:=67) (p:=13) (v:=?vo_w58) (w1:=(((Hx.setCell ⟨Ad,0,none⟩ (.int .i64 ((y23 Ab Aa).f0))).setCell ⟨Ad,1,none⟩ (.string ((y23 Ab Aa).f1))).setCell ⟨Ad,2,none⟩ (.slice Ap ((y23 Ab Aa).f2).length Al))) ?hg ?ho ?hn ?hr ?_;(case ho=>rfl);(case hg=>rfl);(case hn=>rfl);(case hr=>first|(go_simp;done)|(go_simp;rfl));intro Cs hw;have n0_:y0 (Kd.R Kd.bool 4 Cs w.heap.size (fun _=>True) Iu Ay):=⟨(by rw [hw];exact(qR (Kd.R_mono (qfR Ad (Kd.R_types Ag.out Af.out (by decide)) (.int .i64 ((y23 Ab Aa).f0)) (.string ((y23 Ab Aa).f1)) (.slice Ap ((y23 Ab Aa).f2).length Al)) (fun _ hk=>trivial))))⟩;have n1_:y0 (Kd.R Kd.string 9 Cs w.heap.size (fun _=>True) Fd Ak):=⟨(by rw [hw];exact(qR (Kd.R_mono (qfR Ad (Kd.R_types Ac.out Af.out (by decide)) (.int .i64 ((y23 Ab Aa).f0)) (.string ((y23 Ab Aa).f1)) (.slice Ap ((y23 Ab Aa).f2).length Al)) (fun _ hk=>trivial))))⟩;have n2_:y0 (Cs.heap[Bx]?=some (.cells #[.slice (some Bu) Ab.length Cg,.int .i64 Bd,.string Be,.slice Ch Ba.length Ci,.slice Cj Bb.length Ck] 38 (0,0))):=⟨(by rw [hw];exact(by(with_reducible repeat(first|refine y10 ?_ _|refine y9 ?_|refine y6 ?_ _));refine y11 ?_ Aj.out _;refine y11 ?_ Aj.out _;refine y11 ?_ Aj.out _;(with_reducible repeat(first|refine y10 ?_ _|refine y9 ?_|refine y6 ?_ _));exact Ah.out))⟩;have n3_:y0 (Cs.heap[Ad]?=some (.cells #[.int .i64 ((y23 Ab Aa).f0),.string ((y23 Ab Aa).f1),.slice Ap ((y23 Ab Aa).f2).length Al] 67 (0,0))):=⟨(by rw [hw];exact(by(with_reducible repeat(first|refine y10 ?_ _|refine y9 ?_|refine y6 ?_ _));refine y13 (cs:=#[.int .i64 ((y23 Ab Aa).f0),.string ((y23 Ab Aa).f1),.slice none 0 0]) ?_ 2 _ rfl;refine y13 (cs:=#[.int .i64 ((y23 Ab Aa).f0),.string (⟨#[]⟩:ByteArray),.slice none 0 0]) ?_ 1 _ rfl;refine y13 (cs:=#[.int .i64 0,.string (⟨#[]⟩:ByteArray),.slice none 0 0]) ?_ 0 _ rfl;(with_reducible repeat(first|refine y10 ?_ _|refine y9 ?_|refine y6 ?_ _));exact Af.out))⟩;have n4_:y0 (Below w.heap.size w Cs):=⟨(by rw [hw];exact qb)⟩;clear hw;clear Ag;clear Ac;clear Ah;clear Af;clear HB;have Ag:=n0_;have Ac:=n1_;have Ah:=n2_;have Af:=n3_;have HB:=n4_;clear n0_ n1_ n2_ n3_ n4_;obtain⟨Qu,Qv,Jr⟩:=Kd.R_slice Ag.out;subst Jr;have As:0≤(Aa:Int):=qd;have At:Aa < (Ay.length:Int):=qd;obtain⟨Aq,Bp,Ai⟩:=Kd.at_bool (Kd.R_reads' Ag.out).2.2 Aa As At;(try rw [← Jf.out]at Ai);cases Bp;replace As:=eq_true As;replace At:=eq_true At;obtain⟨Ie,If,Ig,Ih,Ii,Ij⟩:=qz3 Af.out;have Js:0≤(Aa:Int):=qd;have Jt:(Aa:Int) < ((Ak.length:Int):Int):=qd;obtain⟨Cw,Fx,Fy,Fz,Ju,Qw,Ga⟩:=Kd.R_form Ac.out (by omega);(first|cases Fy|(injection Fy with ea_ en_ ec_;(first|subst ea_|(injection ea_ with ea_;subst ea_));subst ec_;clear en_));have Jv:=y0.mk Fz;have Qx:=y0.mk Ga;clear Fz Ju Ga;obtain⟨Jw,Jx⟩:=Kd.R_celln (⟨#[]⟩:ByteArray) Ac.out (Aa:Int) Js Jt;replace Js:=eq_true Js;replace Jt:=eq_true Jt;obtain⟨hy61_,hz61_⟩:=Kd.R_celln (⟨#[]⟩:ByteArray) Ac.out (Aa:Int) (of_decide_eq_true qy0) (of_decide_eq_true qy0);have Cx:=Kd.R_putg Ac.out (Aa:Int) ((y23 Ab Aa).f1))|((with_reducible refine gate_store (t:=9) (p:=140) rfl ?_);(try(rw [drewN_self Cs];generalize hq_:World.drewN Cs _=Cs;have n0_:=y0.mk (Kd.R_at hq_ Ag.out);have n1_:=y0.mk (Kd.R_at hq_ Ac.out);have n2_:=y0.mk (blk_at hq_ Ah.out);have n3_:=y0.mk (blk_at hq_ Af.out);have n4_:=y0.mk (below_at hq_ HB.out);clear hq_ Ag Ac Ah Af HB;have Ag:=n0_;have Ac:=n1_;have Ah:=n2_;have Af:=n3_;have HB:=n4_;clear n0_ n1_ n2_ n3_ n4_;(try(obtain⟨hy61_,hz61_⟩:=Kd.R_celln (⟨#[]⟩:ByteArray) Ac.out (Aa:Int) (of_decide_eq_true qy0) (of_decide_eq_true qy0)));(try(have Cx:=Kd.R_putg Ac.out (Aa:Int) ((y23 Ab Aa).f1)))));refine store_event (t:=9) (p:=140) (v:=?vo_w62) (w1:=(Cs.setCell ⟨Cw,(Aa:Int).toNat,none⟩ (.string ((y23 Ab Aa).f1)))) ?hg ?ho ?hn ?hr ?_;(case ho=>rfl);(case hg=>rfl);(case hn=>rfl);(case hr=>first|(go_simp;done)|(go_simp;rfl));intro Jy hw;have hg:Cs.grownBy Jy (some Cw):=(by rw [hw];exact Cx.2);have hp_:Kd.R Kd.string 9 Jy w.heap.size (fun _=>True) (.slice (some ⟨Cw,0,none⟩) Ak.length Fx) Jp:=(by rw [hw,Fv.out];exact Cx.1);clear Cx;replace Ag:=y0.mk (Kd.R_over' (v:=(.slice (some ⟨Cw,0,none⟩) Ak.length Fx)) (qR Ag.out) (Kd.R_typed Ac.out) (by decide) hg);replace Ah:=y0.mk (y12 (qk Ah.out) hg (Kd.R_ne Ac.out Ah.out (by decide)));replace Af:=y0.mk (y12 (qk Af.out) hg (Kd.R_ne Ac.out Af.out (by decide)));replace Ac:=y0.mk (hp_);replace HB:=y0.mk ((by rw [hw];exact below_set (HB.out) Jv.out:Below w.heap.size w Jy));clear hg hw hp_))
        go_roundg k1
        case measure=>have:=Dp.out;omega
        exact⟨(Jp),(wrap64 (Aa + 1)),qy2,H',⟨by have:=Dp.out;omega⟩,⟨qR Ag.out⟩,⟨qR Ac.out⟩,⟨qk Ah.out⟩,⟨qb⟩⟩
       ·as_aux_lemma =>
        rw [if_neg Pa]at H
        have Nw:(((y23 Ab Aa).f0) == 3)=false:=beq_eq_false_iff_ne.mpr Pa
        have Nx:(((y23 Ab Aa).f0) != 3)=true:=bne_iff_ne.mpr Pa
        by_cases Pb:((y23 Ab Aa).f0)=4
        ·as_aux_lemma =>
         rw [if_pos Pb]at H
         have Jz:(((y23 Ab Aa).f0) == 4)=true:=beq_iff_eq.mpr Pb
         have Ka:(((y23 Ab Aa).f0) != 4)=false:=bne_eq_false_iff_eq.mpr Pb
         clear Pb
         obtain⟨Qy,Gb⟩:∃ y_:List ByteArray,y_=(([]:List ByteArray)):=⟨_,rfl⟩
         replace H:(z11_.l2 k1 a1 l2 l3 Ay Ak Aa Qy 0 Ab Bd Be Ba Bb ((y23 Ab Aa).f0) ((y23 Ab Aa).f1) ((y23 Ab Aa).f2))=some (r1,r2):=by first|exact Gb ▸ H|exact Gb ▸ (Option.bind_some _ _).symm.trans H
         replace Gb:=y0.mk Gb
         have H':=y0.mk H
         clear H
         obtain⟨Mp,Mq,Mr,Ms,Mt,Mu,Mv,Mw,Mx,My⟩:=qz5 Ah.out
         have Bz:0≤(Aa:Int):=qd
         have Ca:Aa < (Ab.length:Int):=qd
         obtain⟨Bu,Ap,Al,Ds,Av,Aw,Ax,Bf,Bg⟩:=at_T67 Ct.out Aa Bz Ca
         cases Ds
         replace Av:=qC Av HB
         replace Aw:=qC Aw HB
         replace Ax:=qC Ax HB
         have Bs:=y0.mk Bg
         have Cv:=y0.mk Bf
         clear Bg Bf
         replace Bz:=eq_true Bz
         replace Ca:=eq_true Ca
         go_wp2_with (first|((with_reducible refine y19 (N:=13) rfl ?_);(try(refine y20 (by rfl) ?_;dsimp only));refine qe 13 #[.int .i64 0,.string (⟨#[]⟩:ByteArray),.slice none 0 0] 67 ?_;intro Ad hg Qz hbox hb;replace Ag:=y0.mk (Kd.R_below (qR Ag.out) hb);replace Ac:=y0.mk (Kd.R_below (qR Ac.out) hb);have Af:=y0.mk (hbox);have Bh:=y0.mk (qg (w:=w) hg);have Cb:=y0.mk (qg (w:=w) hg);replace HB:=y0.mk (y5 qb hb);have Aj:=y0.mk (qn Ah.out hg);have Am:=y0.mk (qm Ah.out hg);replace Ah:=y0.mk (qK Ah.out hb);clear hb hbox hg;have Oa:=Am.out;have Ob:=Aj.out;obtain⟨Fm,Fn,Fo,Fp,Fq,Fr⟩:=qz3 Af.out;obtain⟨Ra,Pc,Kb⟩:=Kd.R_slice Ag.out;subst Kb;have As:0≤(Aa:Int):=qd;have At:Aa < (Ay.length:Int):=qd;obtain⟨Aq,Bp,Ai⟩:=Kd.at_bool (Kd.R_reads' Ag.out).2.2 Aa As At;(try rw [← Jf.out]at Ai);cases Bp;have hn278_0:Aq.block≠Ad:=Kd.own_blk (Kd.R_ne Ag.out Af.out (by decide));have hn278_1:Aq.block≠Ad:=Kd.own_blk (Kd.R_ne Ag.out Af.out (by decide));have hn278_2:Aq.block≠Ad:=Kd.own_blk (Kd.R_ne Ag.out Af.out (by decide));replace Ai:=(y14 (p:=⟨Ad,0,none⟩) qy4 (.int .i64 ((y23 Ab Aa).f0))).trans Ai;replace Ai:=(y14 (p:=⟨Ad,1,none⟩) qy5 (.string ((y23 Ab Aa).f1))).trans Ai;replace Ai:=(y14 (p:=⟨Ad,2,none⟩) qy6 (.slice Ap ((y23 Ab Aa).f2).length Al)).trans Ai;(try have Bi:=fun(n_:Nat)=>(show(((((Qz.drewN n_).setCell ⟨Ad,0,none⟩ (.int .i64 ((y23 Ab Aa).f0))).setCell ⟨Ad,1,none⟩ (.string ((y23 Ab Aa).f1))).setCell ⟨Ad,2,none⟩ (.slice Ap ((y23 Ab Aa).f2).length Al))).cell? _=some _ from Ai));clear hn278_0;clear hn278_1;clear hn278_2;replace As:=eq_true As;replace At:=eq_true At)|((with_reducible refine y19 (N:=143) rfl ?_);(try(refine y20 (by rfl) ?_;dsimp only));refine qL Kd.string 9 143 ([]:List ByteArray) ?_;intro Rb Wq Cl hb hg_ hnew_;clear hg_ hnew_;(first|rw [← Gb.out]at Cl|(simp only [Int.reduceToNat]at Cl;rw [← Gb.out]at Cl));replace Ag:=y0.mk (Kd.R_below (qR ((Kd.R_mono (qfR Ad (Kd.R_types Ag.out Af.out (by decide)) (.int .i64 ((y23 Ab Aa).f0)) (.string ((y23 Ab Aa).f1)) (.slice Ap ((y23 Ab Aa).f2).length Al)) (fun _ h_=>h_.1)))) hb);have Ke:=y0.mk (Kd.R_lower (Kd.R_new' Cl (Kd.R_lt (qR ((Kd.R_mono (qfR Ad (Kd.R_types Ac.out Af.out (by decide)) (.int .i64 ((y23 Ab Aa).f0)) (.string ((y23 Ab Aa).f1)) (.slice Ap ((y23 Ab Aa).f2).length Al)) (fun _ h_=>h_.1)))))) (y4 qb));replace Ac:=y0.mk (Kd.R_elder' (qR ((Kd.R_mono (qfR Ad (Kd.R_types Ac.out Af.out (by decide)) (.int .i64 ((y23 Ab Aa).f0)) (.string ((y23 Ab Aa).f1)) (.slice Ap ((y23 Ab Aa).f2).length Al)) (fun _ h_=>h_.1)))) (Kd.R_base Cl) hb);replace Ah:=y0.mk (y7 (g:=Bx) (o:=.cells #[.slice (some Bu) Ab.length Cg,.int .i64 Bd,.string Be,.slice Ch Ba.length Ci,.slice Cj Bb.length Ck] 38 (0,0)) (by(with_reducible repeat(first|refine y10 ?_ _|refine y9 ?_|refine y6 ?_ _));refine y11 ?_ Aj.out _;refine y11 ?_ Aj.out _;refine y11 ?_ Aj.out _;(with_reducible repeat(first|refine y10 ?_ _|refine y9 ?_|refine y6 ?_ _));exact Ah.out) hb);replace Af:=y0.mk (y7 (g:=Ad) (o:=.cells #[.int .i64 ((y23 Ab Aa).f0),.string ((y23 Ab Aa).f1),.slice Ap ((y23 Ab Aa).f2).length Al] 67 (0,0)) (by(with_reducible repeat(first|refine y10 ?_ _|refine y9 ?_|refine y6 ?_ _));refine y13 (cs:=#[.int .i64 ((y23 Ab Aa).f0),.string ((y23 Ab Aa).f1),.slice none 0 0]) ?_ 2 _ rfl;refine y13 (cs:=#[.int .i64 ((y23 Ab Aa).f0),.string (⟨#[]⟩:ByteArray),.slice none 0 0]) ?_ 1 _ rfl;refine y13 (cs:=#[.int .i64 0,.string (⟨#[]⟩:ByteArray),.slice none 0 0]) ?_ 0 _ rfl;(with_reducible repeat(first|refine y10 ?_ _|refine y9 ?_|refine y6 ?_ _));exact Af.out) hb);replace HB:=y0.mk (y5 qb hb);clear hb Cl))
         go_loopg [16,17] k1 (fun kq Wr Yd w'=>∃(Cd:List ByteArray) (Bq:Int),Yd=.int .i64 Bq∧y0 (z11_.l2 kq a1 l2 l3 Ay Ak Aa Cd Bq Ab Bd Be Ba Bb ((y23 Ab Aa).f0) ((y23 Ab Aa).f1) ((y23 Ab Aa).f2)=some (r1,r2))∧y0 (kq≤k1)∧y0 (Kd.R Kd.bool 4 w' w.heap.size (fun _=>True) (.slice (some Aq) Ay.length Pc) Ay)∧y0 (Kd.R Kd.string 9 w' w.heap.size (fun k_=>some k_≠(Wr:Value).ownBlock) Fd Ak)∧y0 (Kd.R Kd.string 9 w' w.heap.size (fun k_=>some k_≠(Fd:Value).ownBlock) Wr Cd)∧y0 (w'.heap[Bx]?=some (.cells #[(.slice (some Bu) Ab.length Cg),.int .i64 Bd,.string Be,(.slice Ch Ba.length Ci),(.slice Cj Bb.length Ck)] 38 (0,0)))∧y0 (w'.heap[Ad]?=some (.cells #[.int .i64 ((y23 Ab Aa).f0),.string ((y23 Ab Aa).f1),(.slice Ap ((y23 Ab Aa).f2).length Al)] 67 (0,0)))∧y0 (Below w.heap.size w w'))
         case atStart=>exact⟨(Qy),(0),qy2,H',⟨Nat.le_refl _⟩,⟨qR Ag.out⟩,⟨qR (Kd.R_mono Ac.out (fun _ hk=>hk.2))⟩,⟨qR (Kd.R_mono Ke.out (fun _ hk=>hk.2))⟩,⟨qk Ah.out⟩,⟨qk Af.out⟩,⟨qb⟩⟩
         case round =>
          clear H'
          (try clear Ji Jj Ns Nt Nw Nx Jz Ka Mp Mq Mr Ms Mt Fm Fn Fo Mu Mv Mw Mx My Fp Fq Fr Av Aw Ax Ai Bz As Ca At)
          obtain⟨Cd,Bq,rfl,HA,Iv,Ag,Ac,Ar,Ah,Af,HB⟩:=hrel
          cases gk with
          | zero=>exact absurd HA.out (by simp [z11_.l2])
          | succ k2 =>
           have H:=HA.out
           clear HA
           simp only [z11_.l2]at H
           by_cases Pz:Bq < (((y23 Ab Aa).f2).length:Int)
           ·as_aux_lemma =>
            rw [if_pos Pz]at H
            have Rc:=decide_eq_true Pz
            clear Pz
            obtain⟨Ws,H⟩:=qo H
            have Wt:decide (0≤Bq)=true:=decide_eq_true Ws
            clear Ws
            obtain⟨Wu,H⟩:=qo H
            have Wv:decide (0≤(rd ((y23 Ab Aa).f2) Bq))=true:=decide_eq_true Wu
            clear Wu
            obtain⟨Ww,H⟩:=qo H
            have Wx:decide ((rd ((y23 Ab Aa).f2) Bq) < (Ak.length:Int))=true:=decide_eq_true Ww
            clear Ww
            obtain⟨Wy,H⟩:=qo H
            replace Wy:=y0.mk Wy
            obtain⟨Rf,Gc⟩:∃ y_:List ByteArray,y_=(Cd ++ [rdOf ByteArray.empty Ak (rd ((y23 Ab Aa).f2) Bq)]):=⟨_,rfl⟩
            replace H:(z11_.l2 k2 a1 l2 l3 Ay Ak Aa Rf (wrap64 (Bq + 1)) Ab Bd Be Ba Bb ((y23 Ab Aa).f0) ((y23 Ab Aa).f1) ((y23 Ab Aa).f2))=some (r1,r2):=by first|exact Gc ▸ H|exact Gc ▸ (Option.bind_some _ _).symm.trans H
            replace Gc:=y0.mk Gc
            have H':=y0.mk H
            clear H
            have Wz:=Am.out
            have Xa:=Aj.out
            obtain⟨Ts,Tt,Tu,Tv,Tw,Tx⟩:=qz3 Af.out
            have Pd:0≤(Bq:Int):=qd
            have Pe:Bq < (((y23 Ab Aa).f2).length:Int):=qd
            obtain⟨Xb,Ux,Fs⟩:=Kd.at_int Bs.out Bq Pd Pe
            cases Ux
            replace Fs:=qC Fs HB
            replace Pd:=eq_true Pd
            replace Pe:=eq_true Pe
            obtain⟨Ye,Pf,Uy⟩:=Kd.R_slice Ac.out
            subst Uy
            have Pg:0≤((rd ((y23 Ab Aa).f2) Bq):Int):=qd
            have Ph:(rd ((y23 Ab Aa).f2) Bq) < (Ak.length:Int):=qd
            obtain⟨Kh,Uz,Ty⟩:=Kd.at_string (Kd.R_reads' Ac.out).2.2 (rd ((y23 Ab Aa).f2) Bq) Pg Ph
            cases Uz
            replace Pg:=eq_true Pg
            replace Ph:=eq_true Ph
            go_wp2_with (first|((with_reducible refine gate_builtin (b:=.append) (xs:=#[.tmp 151,.tmp 160]) rfl ?_);(try(refine y20 (by rfl) ?_;dsimp only));at_builtin;refine Kd.R_append Kd.string (w0:=w) w.heap.size rfl (.tmp 151) (.tmp 160) 29 9 (.string ⟨#[]⟩) 16 rfl Tryz.underlying29 info9 rfl (by decide) (by omega) u16 Cd (rdOf ByteArray.empty Ak (rd ((y23 Ab Aa).f2) Bq)) [.string (rdOf ByteArray.empty Ak (rd ((y23 Ab Aa).f2) Bq))] (fun k_=>some k_≠(.slice (some Kh) Ak.length Pf:Value).ownBlock) (fun _=>False) rfl rfl ?aP (fun _ hk=>hk.elim) ?aF ?aO ?aB ?aS ?aL ?_;(case aP=>exact rfl);(case aB=>exact qb);(case aF=>exact(fun k_ hk=>Kd.fresh' (Kd.R_lt (qR Ac.out)) k_ hk));(case aO=>exact(qR Ar.out));(case aS=>exact(y4 qb));(case aL=>have:=Wy.out;omega);intro Rg Xc ho hb hg hat;rw [← Gc.out]at ho;replace Ag:=y0.mk (Kd.R_over' (qR Ag.out) (Kd.R_typed (qR Ar.out)) (by decide) hg);replace Ac:=y0.mk (Kd.R_after (ok:=(fun _=>True)) (qR (Kd.R_mono Ac.out (fun _ hk=>⟨trivial,hk⟩))) hg hat);replace Ah:=y0.mk (y12 (qk Ah.out) hg (Kd.R_ne Ar.out Ah.out (by decide)));replace Af:=y0.mk (y12 (qk Af.out) hg (Kd.R_ne Ar.out Af.out (by decide)));replace HB:=y0.mk (hb);have Ki:=y0.mk (ho);clear Ar;clear ho hb hg hat))
            go_roundg k2
            case measure=>have:=Dp.out;have:=Iv.out;omega
            exact⟨(Rf),(wrap64 (Bq + 1)),qy2,H',⟨by have:=Dp.out;have:=Iv.out;omega⟩,⟨qR Ag.out⟩,⟨qR (Kd.R_mono Ac.out (fun _ hk=>hk.2))⟩,⟨qR Ki.out⟩,⟨qk Ah.out⟩,⟨qk Af.out⟩,⟨qb⟩⟩
           ·as_aux_lemma =>
            rw [if_neg Pz]at H
            have Rc:=decide_eq_false Pz
            clear Pz
            obtain⟨⟨Cr,Va⟩,Qa,H⟩:=qB H
            dsimp only at H
            by_cases Tz:Va=true
            ·subst Tz
             replace H:=qT H
             obtain⟨Xd,H⟩:=qo H
             have Xe:decide (0≤Aa)=true:=decide_eq_true Xd
             clear Xd
             obtain⟨Xf,H⟩:=qo H
             have Xg:decide (Aa < (Ak.length:Int))=true:=decide_eq_true Xf
             clear Xf
             obtain⟨Kj,Gd⟩:∃ y_:List ByteArray,y_=(Ak.set (Aa:Int).toNat Cr):=⟨_,rfl⟩
             replace H:(z11_.l0 k2 a1 l2 l3 Ay Kj (wrap64 (Aa + 1)) Ab Bd Be Ba Bb)=some (r1,r2):=by first|exact Gd ▸ H|exact Gd ▸ (Option.bind_some _ _).symm.trans H
             replace Gd:=y0.mk Gd
             have H':=y0.mk H
             clear H
             have Xh:=Am.out
             have Xi:=Aj.out
             obtain⟨Ua,Ub,Uc,Ud,Ue,Uf⟩:=qz3 Af.out
             obtain⟨Pi,Pj,Vb⟩:=Kd.R_slice Ar.out
             subst Vb
             go_wp2_with (first|(go_at_call 32;(with_reducible refine(spec_TermMake.calls k2 ((y23 Ab Aa).f1) _ _ Cd Cr true _ (qc ((Kd.R_reads' Ar.out).2.2)) (by exact(Kd.R_reads' Ar.out).2.1) Qa.out).mono ?_);rintro e Ge ⟨rfl,hb⟩;replace Ag:=y0.mk (Kd.R_below (qR Ag.out) hb);replace Ac:=y0.mk (Kd.R_below (qR Ac.out) hb);replace Ar:=y0.mk (Kd.R_below (qR Ar.out) hb);replace Ah:=y0.mk (qK Ah.out hb);replace Af:=y0.mk (qK Af.out hb);replace HB:=y0.mk (y5 qb hb);(try clear hb);have Kl:0≤(Aa:Int):=qd;have Km:(Aa:Int) < ((Ak.length:Int):Int):=qd;obtain⟨Cm,Cy,Gf,Gg,Kn,Rh,Gh⟩:=Kd.R_form Ac.out (by omega);(first|cases Gf|(injection Gf with ea_ en_ ec_;(first|subst ea_|(injection ea_ with ea_;subst ea_));subst ec_;clear en_));have Ko:=y0.mk Gg;have Ri:=y0.mk Gh;clear Gg Kn Gh;obtain⟨Kp,Kq⟩:=Kd.R_celln (⟨#[]⟩:ByteArray) Ac.out (Aa:Int) Kl Km;replace Kl:=eq_true Kl;replace Km:=eq_true Km;obtain⟨hy89_,hz89_⟩:=Kd.R_celln (⟨#[]⟩:ByteArray) Ac.out (Aa:Int) (of_decide_eq_true qy0) (of_decide_eq_true qy0);have Cz:=Kd.R_putg Ac.out (Aa:Int) Cr)|((with_reducible refine gate_store (t:=9) (p:=174) rfl ?_);(try(rw [drewN_self Ge];generalize hq_:World.drewN Ge _=Ge;have n0_:=y0.mk (Kd.R_at hq_ Ag.out);have n1_:=y0.mk (Kd.R_at hq_ Ac.out);have n2_:=y0.mk (Kd.R_at hq_ Ar.out);have n3_:=y0.mk (blk_at hq_ Ah.out);have n4_:=y0.mk (blk_at hq_ Af.out);have n5_:=y0.mk (below_at hq_ HB.out);clear hq_ Ag Ac Ar Ah Af HB;have Ag:=n0_;have Ac:=n1_;have Ar:=n2_;have Ah:=n3_;have Af:=n4_;have HB:=n5_;clear n0_ n1_ n2_ n3_ n4_ n5_;(try(obtain⟨hy89_,hz89_⟩:=Kd.R_celln (⟨#[]⟩:ByteArray) Ac.out (Aa:Int) (of_decide_eq_true qy0) (of_decide_eq_true qy0)));(try(have Cz:=Kd.R_putg Ac.out (Aa:Int) Cr))));refine store_event (t:=9) (p:=174) (v:=?vo_w90) (w1:=(Ge.setCell ⟨Cm,(Aa:Int).toNat,none⟩ (.string Cr))) ?hg ?ho ?hn ?hr ?_;(case ho=>rfl);(case hg=>rfl);(case hn=>rfl);(case hr=>first|(go_simp;done)|(go_simp;rfl));intro Kr hw;have hg:Ge.grownBy Kr (some Cm):=(by rw [hw];exact Cz.2);have hp_:Kd.R Kd.string 9 Kr w.heap.size (fun k_=>some k_≠(.slice Pi Cd.length Pj:Value).ownBlock) (.slice (some ⟨Cm,0,none⟩) Ak.length Cy) Kj:=(by rw [hw,Gd.out];exact Cz.1);clear Cz;replace Ag:=y0.mk (Kd.R_over' (v:=(.slice (some ⟨Cm,0,none⟩) Ak.length Cy)) (qR Ag.out) (Kd.R_typed Ac.out) (by decide) hg);replace Ar:=y0.mk (Kd.R_after (v:=(.slice (some ⟨Cm,0,none⟩) Ak.length Cy)) (v1:=(.slice (some ⟨Cm,0,none⟩) Ak.length Cy)) (ok:=(fun _=>True)) (qR (Kd.R_mono Ar.out (fun _ hk=>⟨trivial,hk⟩))) hg (.inl rfl));replace Ah:=y0.mk (y12 (qk Ah.out) hg (Kd.R_ne Ac.out Ah.out (by decide)));replace Af:=y0.mk (y12 (qk Af.out) hg (Kd.R_ne Ac.out Af.out (by decide)));replace Ac:=y0.mk (hp_);replace HB:=y0.mk ((by rw [hw];exact below_set (HB.out) Ko.out:Below w.heap.size w Kr));clear hg hw hp_))
             go_roundg k2
             case measure=>have:=Dp.out;have:=Iv.out;omega
             exact⟨(Kj),(wrap64 (Aa + 1)),qy2,H',⟨by have:=Dp.out;have:=Iv.out;omega⟩,⟨qR Ag.out⟩,⟨qR (Kd.R_mono Ac.out (fun _ hk=>trivial))⟩,⟨qk Ah.out⟩,⟨qb⟩⟩
            ·replace Tz:=Bool.eq_false_iff.mpr Tz
             subst Tz
             replace H:=qF H
             simp only [Option.some.injEq,Prod.mk.injEq]at H
             obtain⟨rfl,rfl⟩:=H
             have Xj:=Am.out
             have Xk:=Aj.out
             obtain⟨Ug,Uh,Ui,Uj,Uk,Ul⟩:=qz3 Af.out
             obtain⟨Yf,Yg,Vc⟩:=Kd.R_slice Ar.out
             subst Vc
             go_wp2_with (first|(go_at_call 32;(with_reducible refine(spec_TermMake.calls k2 ((y23 Ab Aa).f1) _ _ Cd Cr false _ (qc ((Kd.R_reads' Ar.out).2.2)) (by exact(Kd.R_reads' Ar.out).2.1) Qa.out).mono ?_);rintro e Xl ⟨rfl,hb⟩;replace Ag:=y0.mk (Kd.R_below (qR Ag.out) hb);replace Ac:=y0.mk (Kd.R_below (qR Ac.out) hb);replace Ar:=y0.mk (Kd.R_below (qR Ar.out) hb);replace Ah:=y0.mk (qK Ah.out hb);replace Af:=y0.mk (qK Af.out hb);replace HB:=y0.mk (y5 qb hb);(try clear hb)))
             go_ret2
             exact⟨qf,qb⟩
        ·as_aux_lemma =>
         rw [if_neg Pb]at H
         have Jz:(((y23 Ab Aa).f0) == 4)=false:=beq_eq_false_iff_ne.mpr Pb
         have Ka:(((y23 Ab Aa).f0) != 4)=true:=bne_iff_ne.mpr Pb
         obtain⟨Xm,H⟩:=qo H
         have Rj:decide (0 < (((y23 Ab Aa).f2).length:Int))=true:=decide_eq_true Xm
         have Rk:decide (0 < ((y23 Ab Aa).f2).length)=true:=decide_eq_true (by omega)
         clear Xm
         obtain⟨Xn,H⟩:=qo H
         have Rl:decide (0≤(rd ((y23 Ab Aa).f2) 0))=true:=decide_eq_true Xn
         clear Xn
         obtain⟨Xo,H⟩:=qo H
         have Rn:decide ((rd ((y23 Ab Aa).f2) 0) < (Ak.length:Int))=true:=decide_eq_true Xo
         clear Xo
         obtain⟨⟨Gi,Mz⟩,Vd,H⟩:=qB H
         dsimp only at H
         obtain⟨Xp,H⟩:=qo H
         have Ro:decide (1 < (((y23 Ab Aa).f2).length:Int))=true:=decide_eq_true Xp
         have Rp:decide (1 < ((y23 Ab Aa).f2).length)=true:=decide_eq_true (by omega)
         clear Xp
         obtain⟨Rq,H⟩:=qo H
         have Pk:decide (0≤(rd ((y23 Ab Aa).f2) 1))=true:=decide_eq_true Rq
         clear Rq
         obtain⟨Rs,H⟩:=qo H
         have Pm:decide ((rd ((y23 Ab Aa).f2) 1) < (Ak.length:Int))=true:=decide_eq_true Rs
         clear Rs
         obtain⟨⟨Gj,Na⟩,Pn,H⟩:=qB H
         dsimp only at H
         have Ks:=y0.mk H
         clear H
         obtain⟨Kt,Ku,Kv,Kw,Kx,Ky,Kz,La,Lb,Lc⟩:=qz5 Ah.out
         have Bz:0≤(Aa:Int):=qd
         have Ca:Aa < (Ab.length:Int):=qd
         obtain⟨Bu,Ap,Al,Ds,Av,Aw,Ax,Bf,Bg⟩:=at_T67 Ct.out Aa Bz Ca
         cases Ds
         replace Av:=qC Av HB
         replace Aw:=qC Aw HB
         replace Ax:=qC Ax HB
         have Bs:=y0.mk Bg
         have Cv:=y0.mk Bf
         clear Bg Bf
         replace Bz:=eq_true Bz
         replace Ca:=eq_true Ca
         go_upto_region 11 with(first|((with_reducible refine y19 (N:=13) rfl ?_);(try(refine y20 (by rfl) ?_;dsimp only));refine qe 13 #[.int .i64 0,.string (⟨#[]⟩:ByteArray),.slice none 0 0] 67 ?_;intro Ad hg Dt hbox hb;replace Ag:=y0.mk (Kd.R_below (qR Ag.out) hb);replace Ac:=y0.mk (Kd.R_below (qR Ac.out) hb);have Af:=y0.mk (hbox);have Bh:=y0.mk (qg (w:=w) hg);have Cb:=y0.mk (qg (w:=w) hg);replace HB:=y0.mk (y5 qb hb);have Aj:=y0.mk (qn Ah.out hg);have Am:=y0.mk (qm Ah.out hg);replace Ah:=y0.mk (qK Ah.out hb);clear hb hbox hg;have Ld:=Am.out;have Le:=Aj.out;obtain⟨Du,Dv,Dw,Dx,Dy,Dz⟩:=qz3 Af.out;obtain⟨Oc,Gk,Gl⟩:=Kd.R_slice Ag.out;subst Gl;have As:0≤(Aa:Int):=qd;have At:Aa < (Ay.length:Int):=qd;obtain⟨Aq,Bp,Ai⟩:=Kd.at_bool (Kd.R_reads' Ag.out).2.2 Aa As At;(try rw [← Jf.out]at Ai);cases Bp;have hn278_0:Aq.block≠Ad:=Kd.own_blk (Kd.R_ne Ag.out Af.out (by decide));have hn278_1:Aq.block≠Ad:=Kd.own_blk (Kd.R_ne Ag.out Af.out (by decide));have hn278_2:Aq.block≠Ad:=Kd.own_blk (Kd.R_ne Ag.out Af.out (by decide));replace Ai:=(y14 (p:=⟨Ad,0,none⟩) qy4 (.int .i64 ((y23 Ab Aa).f0))).trans Ai;replace Ai:=(y14 (p:=⟨Ad,1,none⟩) qy5 (.string ((y23 Ab Aa).f1))).trans Ai;replace Ai:=(y14 (p:=⟨Ad,2,none⟩) qy6 (.slice Ap ((y23 Ab Aa).f2).length Al)).trans Ai;(try have Bi:=fun(n_:Nat)=>(show(((((Dt.drewN n_).setCell ⟨Ad,0,none⟩ (.int .i64 ((y23 Ab Aa).f0))).setCell ⟨Ad,1,none⟩ (.string ((y23 Ab Aa).f1))).setCell ⟨Ad,2,none⟩ (.slice Ap ((y23 Ab Aa).f2).length Al))).cell? _=some _ from Ai));clear hn278_0;clear hn278_1;clear hn278_2;replace As:=eq_true As;replace At:=eq_true At;have Dg:0≤(0:Int):=(by omega);have Dh:0 < (((y23 Ab Aa).f2).length:Int):=qd;obtain⟨Az,Lf,hx294_0⟩:=Kd.at_int Bs.out 0 Dg Dh;cases Lf;have Od:(0 < ((y23 Ab Aa).f2).length)=True:=eq_true (by omega);(try rw [show((0:Int)).toNat=0 from rfl]at hx294_0);(try rw [Addr.add_zero']at hx294_0);have Bj:Az.block≠Ad:=Nat.ne_of_lt (Nat.lt_of_lt_of_le qy7 Bh.out);have Bk:Az.block≠Ad:=Nat.ne_of_lt (Nat.lt_of_lt_of_le qy7 Bh.out);have Bl:Az.block≠Ad:=Nat.ne_of_lt (Nat.lt_of_lt_of_le qy7 Bh.out);replace hx294_0:=qC hx294_0 HB;replace hx294_0:=(y14 (p:=⟨Ad,0,none⟩) (by first|(rw [y2];exact Bj)|(show(Addr.add _ _).block≠_;rw [y2];exact Bj)|exact Bj) (.int .i64 ((y23 Ab Aa).f0))).trans hx294_0;replace hx294_0:=(y14 (p:=⟨Ad,1,none⟩) (by first|(rw [y2];exact Bk)|(show(Addr.add _ _).block≠_;rw [y2];exact Bk)|exact Bk) (.string ((y23 Ab Aa).f1))).trans hx294_0;replace hx294_0:=(y14 (p:=⟨Ad,2,none⟩) (by first|(rw [y2];exact Bl)|(show(Addr.add _ _).block≠_;rw [y2];exact Bl)|exact Bl) (.slice (some Az) ((y23 Ab Aa).f2).length Al)).trans hx294_0;(try have Ik:=fun(n_:Nat)=>(show(((((Dt.drewN n_).setCell ⟨Ad,0,none⟩ (.int .i64 ((y23 Ab Aa).f0))).setCell ⟨Ad,1,none⟩ (.string ((y23 Ab Aa).f1))).setCell ⟨Ad,2,none⟩ (.slice (some Az) ((y23 Ab Aa).f2).length Al))).cell? _=some _ from hx294_0));clear Bj;clear Bk;clear Bl;replace Dg:=eq_true Dg;replace Dh:=eq_true Dh;obtain⟨Oe,Co,Gm⟩:=Kd.R_slice Ac.out;subst Gm;have Di:0≤((rd ((y23 Ab Aa).f2) 0):Int):=qd;have Dj:(rd ((y23 Ab Aa).f2) 0) < (Ak.length:Int):=qd;obtain⟨Cc,Lg,Au⟩:=Kd.at_string (Kd.R_reads' Ac.out).2.2 (rd ((y23 Ab Aa).f2) 0) Di Dj;cases Lg;have Bm:Cc.block≠Ad:=Kd.own_blk (Kd.R_ne Ac.out Af.out (by decide));have Bn:Cc.block≠Ad:=Kd.own_blk (Kd.R_ne Ac.out Af.out (by decide));have Bo:Cc.block≠Ad:=Kd.own_blk (Kd.R_ne Ac.out Af.out (by decide));replace Au:=(y14 (p:=⟨Ad,0,none⟩) (by first|(rw [y2];exact Bm)|(show(Addr.add _ _).block≠_;rw [y2];exact Bm)|exact Bm) (.int .i64 ((y23 Ab Aa).f0))).trans Au;replace Au:=(y14 (p:=⟨Ad,1,none⟩) (by first|(rw [y2];exact Bn)|(show(Addr.add _ _).block≠_;rw [y2];exact Bn)|exact Bn) (.string ((y23 Ab Aa).f1))).trans Au;replace Au:=(y14 (p:=⟨Ad,2,none⟩) (by first|(rw [y2];exact Bo)|(show(Addr.add _ _).block≠_;rw [y2];exact Bo)|exact Bo) (.slice (some Az) ((y23 Ab Aa).f2).length Al)).trans Au;(try have Il:=fun(n_:Nat)=>(show(((((Dt.drewN n_).setCell ⟨Ad,0,none⟩ (.int .i64 ((y23 Ab Aa).f0))).setCell ⟨Ad,1,none⟩ (.string ((y23 Ab Aa).f1))).setCell ⟨Ad,2,none⟩ (.slice (some Az) ((y23 Ab Aa).f2).length Al))).cell? _=some _ from Au));clear Bm;clear Bn;clear Bo;replace Di:=eq_true Di;replace Dj:=eq_true Dj)|(go_at_call 33;(with_reducible refine(spec_TermNum.calls k1 (rdOf ByteArray.empty Ak (rd ((y23 Ab Aa).f2) 0)) Gi Mz _ Vd.out).mono ?_);rintro e Rt ⟨rfl,hb⟩;replace Ag:=y0.mk (Kd.R_below (qR ((Kd.R_mono (qfR Ad (Kd.R_types Ag.out Af.out (by decide)) (.int .i64 ((y23 Ab Aa).f0)) (.string ((y23 Ab Aa).f1)) (.slice (some Az) ((y23 Ab Aa).f2).length Al)) (fun _ h_=>h_.1)))) hb);replace Ac:=y0.mk (Kd.R_below (qR ((Kd.R_mono (qfR Ad (Kd.R_types Ac.out Af.out (by decide)) (.int .i64 ((y23 Ab Aa).f0)) (.string ((y23 Ab Aa).f1)) (.slice (some Az) ((y23 Ab Aa).f2).length Al)) (fun _ h_=>h_.1)))) hb);replace Ah:=y0.mk (y7 (g:=Bx) (o:=.cells #[.slice (some Bu) Ab.length Cg,.int .i64 Bd,.string Be,.slice Ch Ba.length Ci,.slice Cj Bb.length Ck] 38 (0,0)) (by(with_reducible repeat(first|refine y10 ?_ _|refine y9 ?_|refine y6 ?_ _));refine y11 ?_ Aj.out _;refine y11 ?_ Aj.out _;refine y11 ?_ Aj.out _;(with_reducible repeat(first|refine y10 ?_ _|refine y9 ?_|refine y6 ?_ _));exact Ah.out) hb);replace Af:=y0.mk (y7 (g:=Ad) (o:=.cells #[.int .i64 ((y23 Ab Aa).f0),.string ((y23 Ab Aa).f1),.slice (some Az) ((y23 Ab Aa).f2).length Al] 67 (0,0)) (by(with_reducible repeat(first|refine y10 ?_ _|refine y9 ?_|refine y6 ?_ _));refine y13 (cs:=#[.int .i64 ((y23 Ab Aa).f0),.string ((y23 Ab Aa).f1),.slice none 0 0]) ?_ 2 _ rfl;refine y13 (cs:=#[.int .i64 ((y23 Ab Aa).f0),.string (⟨#[]⟩:ByteArray),.slice none 0 0]) ?_ 1 _ rfl;refine y13 (cs:=#[.int .i64 0,.string (⟨#[]⟩:ByteArray),.slice none 0 0]) ?_ 0 _ rfl;(with_reducible repeat(first|refine y10 ?_ _|refine y9 ?_|refine y6 ?_ _));exact Af.out) hb);replace HB:=y0.mk (y5 qb hb);(try clear hb);obtain⟨Ea,Eb,Ec,Ed,Ee,Ef⟩:=qz3 Af.out;have Dk:0≤(1:Int):=(by omega);have Dl:1 < (((y23 Ab Aa).f2).length:Int):=qd;obtain⟨Gn,Lh,Bc⟩:=Kd.at_int Bs.out 1 Dk Dl;obtain rfl:Az=Gn:=(by injection Lh);(try simp only [show(1:Int).toNat=1 from rfl,Nat.reduceMul,Nat.reduceEqDiff,Go.Addr.add,↓reduceIte]at Bc);have Og:(1 < ((y23 Ab Aa).f2).length)=True:=eq_true (by omega);(try rw [show((1:Int)).toNat=1 from rfl]at Bc);replace Bc:=qC Bc HB;replace Dk:=eq_true Dk;replace Dl:=eq_true Dl;have Dm:0≤((rd ((y23 Ab Aa).f2) 1):Int):=qd;have Do:(rd ((y23 Ab Aa).f2) 1) < (Ak.length:Int):=qd;obtain⟨Gp,Li,Cq⟩:=Kd.at_string (Kd.R_reads' Ac.out).2.2 (rd ((y23 Ab Aa).f2) 1) Dm Do;obtain rfl:Cc=Gp:=(by injection Li);replace Dm:=eq_true Dm;replace Do:=eq_true Do)|(go_at_call 33;(with_reducible refine(spec_TermNum.calls k1 (rdOf ByteArray.empty Ak (rd ((y23 Ab Aa).f2) 1)) Gj Na _ Pn.out).mono ?_);rintro e Ru ⟨rfl,hb⟩;replace Ag:=y0.mk (Kd.R_below (qR Ag.out) hb);replace Ac:=y0.mk (Kd.R_below (qR Ac.out) hb);replace Ah:=y0.mk (qK Ah.out hb);replace Af:=y0.mk (qK Af.out hb);replace HB:=y0.mk (y5 qb hb);(try clear hb)))
         (try simp only [Act.put,qS_,qZ_,qC_])
         go_cut [76] (fun Yh wc=>∃(kq:Nat) (Dq:Bool),Yh=.bool Dq∧y0 (z11_.j3 kq a1 l2 l3 Ay Ak Aa Gi Gj Dq Ab Bd Be Ba Bb ((y23 Ab Aa).f0) ((y23 Ab Aa).f1) ((y23 Ab Aa).f2)=some (r1,r2))∧y0 (kq≤k1)∧y0 (Kd.R Kd.bool 4 wc w.heap.size (fun _=>True) (.slice (some Aq) Ay.length Gk) Ay)∧y0 (Kd.R Kd.string 9 wc w.heap.size (fun _=>True) (.slice (some Cc) Ak.length Co) Ak)∧y0 (wc.heap[Bx]?=some (.cells #[(.slice (some Bu) Ab.length Cg),.int .i64 Bd,.string Be,(.slice Ch Ba.length Ci),(.slice Cj Bb.length Ck)] 38 (0,0)))∧y0 (wc.heap[Ad]?=some (.cells #[.int .i64 ((y23 Ab Aa).f0),.string ((y23 Ab Aa).f1),(.slice (some Az) ((y23 Ab Aa).f2).length Al)] 67 (0,0)))∧y0 (Below w.heap.size w wc))
         case first =>
          have H:=Ks.out
          clear Ks
          by_cases Nb:Mz=true
          ·subst Nb
           replace H:=qT H
           have H':=y0.mk H
           clear H
           go_wp2
           repeat(go_quiet (fail);try go_wp2)
           go_meet
           exact⟨_,(!Na),qy2,H',⟨by have:=Dp.out;first|omega|exact Nat.le_refl _⟩,⟨qR Ag.out⟩,⟨qR Ac.out⟩,⟨qk Ah.out⟩,⟨qk Af.out⟩,⟨qb⟩⟩
          ·replace Nb:=Bool.eq_false_iff.mpr Nb
           subst Nb
           replace H:=qF H
           have H':=y0.mk H
           clear H
           go_wp2
           repeat(go_quiet (fail);try go_wp2)
           go_meet
           exact⟨_,(true),qy2,H',⟨by have:=Dp.out;first|omega|exact Nat.le_refl _⟩,⟨qR Ag.out⟩,⟨qR Ac.out⟩,⟨qk Ah.out⟩,⟨qk Af.out⟩,⟨qb⟩⟩
         case rest =>
          clear Ks
          (try clear Jz Ka Rj Rk Rl Rn Ro Rp Pk Pm Kt Ku Kv Kw Kx Du Dv Dw Ea Eb Ec Ky Kz La Lb Lc Dx Dy Dz Ed Ee Ef Av Aw Ax Ai hx294_0 Au Bc Cq)
          (try clear Bz As Dg Di Dk Dm Ca At Dh Dj Dl Do)
          obtain⟨kq,Dq,rfl,HA,Er,Ag,Ac,Ah,Af,HB⟩:=hcut
          cases kq with
          | zero=>exact absurd HA.out (by simp [z11_.j3])
          | succ Rv =>
           have H:=HA.out
           clear HA
           simp only [z11_.j3]at H
           by_cases Lj:Dq=true
           ·subst Lj
            replace H:=qT H
            simp only [Option.some.injEq,Prod.mk.injEq]at H
            obtain⟨rfl,rfl⟩:=H
            go_wp2
            repeat(go_quiet (fail);try go_wp2)
            go_ret2
            exact⟨qf,qb⟩
           ·replace Lj:=Bool.eq_false_iff.mpr Lj
            subst Lj
            replace H:=qF H
            have Lk:=y0.mk H
            clear H
            have Ve:=Am.out
            have Vf:=Aj.out
            obtain⟨Ll,Lm,Ln,Lo,Lp,Lq⟩:=qz3 Af.out
            go_upto_if 82 with(fail)
            repeat(go_quiet (fail);go_upto_if 82 with(fail))
            go_cut [24] (fun Vg wc=>∃(kq:Nat) (Dr:Int),Vg=.int .i64 Dr∧y0 (z11_.j4 kq a1 l2 l3 Ay Ak Aa Gi Gj Dr Ab Bd Be Ba Bb ((y23 Ab Aa).f0) ((y23 Ab Aa).f1) ((y23 Ab Aa).f2)=some (r1,r2))∧y0 (kq≤Rv)∧y0 (Kd.R Kd.bool 4 wc w.heap.size (fun _=>True) (.slice (some Aq) Ay.length Gk) Ay)∧y0 (Kd.R Kd.string 9 wc w.heap.size (fun _=>True) (.slice (some Cc) Ak.length Co) Ak)∧y0 (wc.heap[Bx]?=some (.cells #[(.slice (some Bu) Ab.length Cg),.int .i64 Bd,.string Be,(.slice Ch Ba.length Ci),(.slice Cj Bb.length Ck)] 38 (0,0)))∧y0 (wc.heap[Ad]?=some (.cells #[.int .i64 ((y23 Ab Aa).f0),.string ((y23 Ab Aa).f1),(.slice (some Az) ((y23 Ab Aa).f2).length Al)] 67 (0,0)))∧y0 (Below w.heap.size w wc))
            case first =>
             have H:=Lk.out
             clear Lk
             by_cases Hm:((y23 Ab Aa).f0)=6
             ·as_aux_lemma =>
              rw [if_pos Hm]at H
              have Eg:(((y23 Ab Aa).f0) == 6)=true:=beq_iff_eq.mpr Hm
              have Po:(((y23 Ab Aa).f0) != 6)=false:=bne_eq_false_iff_eq.mpr Hm
              clear Hm
              (first|rw [Eg]|(simp only [i64_w,i32_w];rw [Eg])|skip)
              have H':=y0.mk H
              clear H
              go_wp2
              repeat(go_quiet (fail);try go_wp2)
              go_meet
              exact⟨_,(wrap64 (Gi - Gj)),qy2,H',⟨by have:=Dp.out;have:=Er.out;first|omega|exact Nat.le_refl _⟩,⟨qR Ag.out⟩,⟨qR Ac.out⟩,⟨qk Ah.out⟩,⟨qk Af.out⟩,⟨qb⟩⟩
             ·as_aux_lemma =>
              rw [if_neg Hm]at H
              have Eg:(((y23 Ab Aa).f0) == 6)=false:=beq_eq_false_iff_ne.mpr Hm
              have Po:(((y23 Ab Aa).f0) != 6)=true:=bne_iff_ne.mpr Hm
              (first|rw [Eg]|(simp only [i64_w,i32_w];rw [Eg])|skip)
              have H':=y0.mk H
              clear H
              go_wp2
              repeat(go_quiet (fail);try go_wp2)
              go_meet
              exact⟨_,(wrap64 (Gi + Gj)),qy2,H',⟨by have:=Dp.out;have:=Er.out;first|omega|exact Nat.le_refl _⟩,⟨qR Ag.out⟩,⟨qR Ac.out⟩,⟨qk Ah.out⟩,⟨qk Af.out⟩,⟨qb⟩⟩
            case rest =>
             clear Lk
             (try clear Lj Ll Lm Ln Lo Lp Lq)
             obtain⟨kq,Dr,rfl,HA,Im,Ag,Ac,Ah,Af,HB⟩:=hcut
             cases kq with
             | zero=>exact absurd HA.out (by simp [z11_.j4])
             | succ Rw =>
              have H:=HA.out
              clear HA
              simp only [z11_.j4]at H
              have Lr:=y0.mk H
              clear H
              have Vh:=Am.out
              have Vi:=Aj.out
              obtain⟨Ls,Lt,Lu,Lv,Lw,Lx⟩:=qz3 Af.out
              go_upto_if 88 with(fail)
              repeat(go_quiet (fail);go_upto_if 88 with(fail))
              go_cut [24] (fun Vg wc=>∃(kq:Nat) (Bt:Int),Vg=.int .i64 Bt∧y0 (z11_.j5 kq a1 l2 l3 Ay Ak Aa Bt Ab Bd Be Ba Bb=some (r1,r2))∧y0 (kq≤Rw)∧y0 (Kd.R Kd.bool 4 wc w.heap.size (fun _=>True) (.slice (some Aq) Ay.length Gk) Ay)∧y0 (Kd.R Kd.string 9 wc w.heap.size (fun _=>True) (.slice (some Cc) Ak.length Co) Ak)∧y0 (wc.heap[Bx]?=some (.cells #[(.slice (some Bu) Ab.length Cg),.int .i64 Bd,.string Be,(.slice Ch Ba.length Ci),(.slice Cj Bb.length Ck)] 38 (0,0)))∧y0 (wc.heap[Ad]?=some (.cells #[.int .i64 ((y23 Ab Aa).f0),.string ((y23 Ab Aa).f1),(.slice (some Az) ((y23 Ab Aa).f2).length Al)] 67 (0,0)))∧y0 (Below w.heap.size w wc))
              case first =>
               have H:=Lr.out
               clear Lr
               by_cases Hn:((y23 Ab Aa).f0)=7
               ·as_aux_lemma =>
                rw [if_pos Hn]at H
                have Eh:(((y23 Ab Aa).f0) == 7)=true:=beq_iff_eq.mpr Hn
                have Pp:(((y23 Ab Aa).f0) != 7)=false:=bne_eq_false_iff_eq.mpr Hn
                clear Hn
                (first|rw [Eh]|(simp only [i64_w,i32_w];rw [Eh])|skip)
                have H':=y0.mk H
                clear H
                go_wp2
                repeat(go_quiet (fail);try go_wp2)
                go_meet
                exact⟨_,(wrap64 (Gi * Gj)),qy2,H',⟨by have:=Dp.out;have:=Er.out;have:=Im.out;first|omega|exact Nat.le_refl _⟩,⟨qR Ag.out⟩,⟨qR Ac.out⟩,⟨qk Ah.out⟩,⟨qk Af.out⟩,⟨qb⟩⟩
               ·as_aux_lemma =>
                rw [if_neg Hn]at H
                have Eh:(((y23 Ab Aa).f0) == 7)=false:=beq_eq_false_iff_ne.mpr Hn
                have Pp:(((y23 Ab Aa).f0) != 7)=true:=bne_iff_ne.mpr Hn
                (first|rw [Eh]|(simp only [i64_w,i32_w];rw [Eh])|skip)
                have H':=y0.mk H
                clear H
                go_wp2
                repeat(go_quiet (fail);try go_wp2)
                go_meet
                exact⟨_,(Dr),qy2,H',⟨by have:=Dp.out;have:=Er.out;have:=Im.out;first|omega|exact Nat.le_refl _⟩,⟨qR Ag.out⟩,⟨qR Ac.out⟩,⟨qk Ah.out⟩,⟨qk Af.out⟩,⟨qb⟩⟩
              case rest =>
               clear Lr
               (try clear Ls Lt Lu Lv Lw Lx)
               obtain⟨kq,Bt,rfl,HA,Oh,Ag,Ac,Ah,Af,HB⟩:=hcut
               cases kq with
               | zero=>exact absurd HA.out (by simp [z11_.j5])
               | succ Gq =>
                have H:=HA.out
                clear HA
                simp only [z11_.j5]at H
                obtain⟨Vj,Ix,H⟩:=qB H
                by_cases Nc:Vj=true
                ·subst Nc
                 replace H:=qT H
                 obtain⟨Da,Pq,H⟩:=qB H
                 obtain⟨Rx,H⟩:=qo H
                 have Vk:decide (0≤Aa)=true:=decide_eq_true Rx
                 clear Rx
                 obtain⟨Ry,H⟩:=qo H
                 have Vl:decide (Aa < (Ak.length:Int))=true:=decide_eq_true Ry
                 clear Ry
                 obtain⟨Ly,Gr⟩:∃ y_:List ByteArray,y_=(Ak.set (Aa:Int).toNat Da):=⟨_,rfl⟩
                 replace H:(z11_.l0 Gq a1 l2 l3 Ay Ly (wrap64 (Aa + 1)) Ab Bd Be Ba Bb)=some (r1,r2):=by first|exact Gr ▸ H|exact Gr ▸ (Option.bind_some _ _).symm.trans H
                 replace Gr:=y0.mk Gr
                 have H':=y0.mk H
                 clear H
                 go_wp2_with (first|(go_at_call 16;(with_reducible refine(z8_.calls Bt (-1000000) 1000000 true _ Ix.out).mono ?_);rintro e w' ⟨rfl,⟨nd,rfl⟩⟩;(try first|exact⟨rfl,_,World.drewN_drewN _ _ _⟩|exact⟨rfl,_,Eq.trans (World.drewN_drewN _ _ _) (congrArg (World.drewN _) (Nat.add_assoc _ _ _))⟩))|(go_at_call 34;(with_reducible refine(spec_NumText.calls Gq Bt Da _ Pq.out).mono ?_);rintro e Cp ⟨rfl,hb⟩;replace Ag:=y0.mk (Kd.R_below (qR Ag.out) hb);replace Ac:=y0.mk (Kd.R_below (qR Ac.out) hb);replace Ah:=y0.mk (qK Ah.out hb);replace Af:=y0.mk (qK Af.out hb);replace HB:=y0.mk (y5 qb hb);(try clear hb);have Ei:0≤(Aa:Int):=qd;have Ej:(Aa:Int) < ((Ak.length:Int):Int):=qd;obtain⟨Ce,Oi,Db,Dc,Gs,Oj,Dd⟩:=Kd.R_form Ac.out (by omega);(first|cases Db|(injection Db with ea_ en_ ec_;(first|subst ea_|(injection ea_ with ea_;subst ea_));subst ec_;clear en_));have Gt:=y0.mk Dc;have Ol:=y0.mk Dd;clear Dc Gs Dd;(first|simp only [add_plain]at Au|skip);(first|simp only [add_plain]at Cq|skip);obtain⟨Io,Ip⟩:=Kd.R_celln (⟨#[]⟩:ByteArray) Ac.out (Aa:Int) Ei Ej;replace Ei:=eq_true Ei;replace Ej:=eq_true Ej;obtain⟨hy130_,hz130_⟩:=Kd.R_celln (⟨#[]⟩:ByteArray) Ac.out (Aa:Int) (of_decide_eq_true qy0) (of_decide_eq_true qy0);have Cf:=Kd.R_putg Ac.out (Aa:Int) Da)|((with_reducible refine gate_store (t:=9) (p:=99) rfl ?_);(try(rw [drewN_self Cp];generalize hq_:World.drewN Cp _=Cp;have n0_:=y0.mk (Kd.R_at hq_ Ag.out);have n1_:=y0.mk (Kd.R_at hq_ Ac.out);have n2_:=y0.mk (blk_at hq_ Ah.out);have n3_:=y0.mk (blk_at hq_ Af.out);have n4_:=y0.mk (below_at hq_ HB.out);clear hq_ Ag Ac Ah Af HB;have Ag:=n0_;have Ac:=n1_;have Ah:=n2_;have Af:=n3_;have HB:=n4_;clear n0_ n1_ n2_ n3_ n4_;(try(obtain⟨hy130_,hz130_⟩:=Kd.R_celln (⟨#[]⟩:ByteArray) Ac.out (Aa:Int) (of_decide_eq_true qy0) (of_decide_eq_true qy0)));(try(have Cf:=Kd.R_putg Ac.out (Aa:Int) Da))));refine store_event (t:=9) (p:=99) (v:=?vo_w131) (w1:=(Cp.setCell ⟨Ce,(Aa:Int).toNat,none⟩ (.string Da))) ?hg ?ho ?hn ?hr ?_;(case ho=>rfl);(case hg=>rfl);(case hn=>rfl);(case hr=>first|(go_simp;done)|(go_simp;rfl));intro Ek hw;have hg:Cp.grownBy Ek (some Ce):=(by rw [hw];exact Cf.2);have hp_:Kd.R Kd.string 9 Ek w.heap.size (fun _=>True) (.slice (some ⟨Ce,0,none⟩) Ak.length Co) Ly:=(by rw [hw,Gr.out];exact Cf.1);clear Cf;replace Ag:=y0.mk (Kd.R_over' (v:=(.slice (some ⟨Ce,0,none⟩) Ak.length Co)) (qR Ag.out) (Kd.R_typed Ac.out) (by decide) hg);replace Ah:=y0.mk (y12 (qk Ah.out) hg (Kd.R_ne Ac.out Ah.out (by decide)));replace Af:=y0.mk (y12 (qk Af.out) hg (Kd.R_ne Ac.out Af.out (by decide)));replace Ac:=y0.mk (hp_);replace HB:=y0.mk ((by rw [hw];exact below_set (HB.out) Gt.out:Below w.heap.size w Ek));clear hg hw hp_))
                 go_roundg Gq
                 case measure=>have:=Dp.out;have:=Er.out;have:=Im.out;have:=Oh.out;omega
                 exact⟨(Ly),(wrap64 (Aa + 1)),qy2,H',⟨by have:=Dp.out;have:=Er.out;have:=Im.out;have:=Oh.out;omega⟩,⟨qR Ag.out⟩,⟨qR Ac.out⟩,⟨qk Ah.out⟩,⟨qb⟩⟩
                ·replace Nc:=Bool.eq_false_iff.mpr Nc
                 subst Nc
                 replace H:=qF H
                 simp only [Option.some.injEq,Prod.mk.injEq]at H
                 obtain⟨rfl,rfl⟩:=H
                 go_wp2_with (first|(go_at_call 16;(with_reducible refine(z8_.calls Bt (-1000000) 1000000 false _ Ix.out).mono ?_);rintro e w' ⟨rfl,⟨nd,rfl⟩⟩;(try first|exact⟨rfl,_,World.drewN_drewN _ _ _⟩|exact⟨rfl,_,Eq.trans (World.drewN_drewN _ _ _) (congrArg (World.drewN _) (Nat.add_assoc _ _ _))⟩)))
                 go_ret2
                 exact⟨qf,qb⟩
    ·replace Qg:=Bool.eq_false_iff.mpr Qg
     subst Qg
     replace H:=qF H
     have H':=y0.mk H
     clear H
     obtain⟨Rz,Sa,Sb,Sc,Sd,Se,Sf,Sg,Sh,Si⟩:=qz5 Ah.out
     have Bz:0≤(Aa:Int):=qd
     have Ca:Aa < (Ab.length:Int):=qd
     obtain⟨Bu,Ap,Al,Ds,Av,Aw,Ax,Bf,Bg⟩:=at_T67 Ct.out Aa Bz Ca
     cases Ds
     replace Av:=qC Av HB
     replace Aw:=qC Aw HB
     replace Ax:=qC Ax HB
     have Bs:=y0.mk Bg
     have Cv:=y0.mk Bf
     clear Bg Bf
     replace Bz:=eq_true Bz
     replace Ca:=eq_true Ca
     go_wp2_with (first|((with_reducible refine y19 (N:=13) rfl ?_);(try(refine y20 (by rfl) ?_;dsimp only));refine qe 13 #[.int .i64 0,.string (⟨#[]⟩:ByteArray),.slice none 0 0] 67 ?_;intro Ad hg Ma hbox hb;replace Ag:=y0.mk (Kd.R_below (qR Ag.out) hb);replace Ac:=y0.mk (Kd.R_below (qR Ac.out) hb);have Af:=y0.mk (hbox);have Bh:=y0.mk (qg (w:=w) hg);have Cb:=y0.mk (qg (w:=w) hg);replace HB:=y0.mk (y5 qb hb);have Aj:=y0.mk (qn Ah.out hg);have Am:=y0.mk (qm Ah.out hg);replace Ah:=y0.mk (qK Ah.out hb);clear hb hbox hg;have Mb:=Am.out;have Mc:=Aj.out;obtain⟨Gu,Gv,Gw,Gx,Gy,Gz⟩:=qz3 Af.out;obtain⟨Om,On,Ha⟩:=Kd.R_slice Ag.out;subst Ha;have As:0≤(Aa:Int):=qd;have At:Aa < (Ay.length:Int):=qd;obtain⟨Aq,Bp,Ai⟩:=Kd.at_bool (Kd.R_reads' Ag.out).2.2 Aa As At;(try rw [← Jf.out]at Ai);cases Bp;have hn278_0:Aq.block≠Ad:=Kd.own_blk (Kd.R_ne Ag.out Af.out (by decide));have hn278_1:Aq.block≠Ad:=Kd.own_blk (Kd.R_ne Ag.out Af.out (by decide));have hn278_2:Aq.block≠Ad:=Kd.own_blk (Kd.R_ne Ag.out Af.out (by decide));replace Ai:=(y14 (p:=⟨Ad,0,none⟩) qy4 (.int .i64 ((y23 Ab Aa).f0))).trans Ai;replace Ai:=(y14 (p:=⟨Ad,1,none⟩) qy5 (.string ((y23 Ab Aa).f1))).trans Ai;replace Ai:=(y14 (p:=⟨Ad,2,none⟩) qy6 (.slice Ap ((y23 Ab Aa).f2).length Al)).trans Ai;(try have Bi:=fun(n_:Nat)=>(show(((((Ma.drewN n_).setCell ⟨Ad,0,none⟩ (.int .i64 ((y23 Ab Aa).f0))).setCell ⟨Ad,1,none⟩ (.string ((y23 Ab Aa).f1))).setCell ⟨Ad,2,none⟩ (.slice Ap ((y23 Ab Aa).f2).length Al))).cell? _=some _ from Ai));clear hn278_0;clear hn278_1;clear hn278_2;replace As:=eq_true As;replace At:=eq_true At))
     go_roundg k1
     case measure=>have:=Dp.out;omega
     exact⟨(Ak),(wrap64 (Aa + 1)),qy2,H',⟨by have:=Dp.out;omega⟩,⟨qR (Kd.R_mono (qfR Ad (Kd.R_types Ag.out Af.out (by decide)) (.int .i64 ((y23 Ab Aa).f0)) (.string ((y23 Ab Aa).f1)) (.slice Ap ((y23 Ab Aa).f2).length Al)) (fun _ hk=>trivial))⟩,⟨qR (Kd.R_mono (qfR Ad (Kd.R_types Ac.out Af.out (by decide)) (.int .i64 ((y23 Ab Aa).f0)) (.string ((y23 Ab Aa).f1)) (.slice Ap ((y23 Ab Aa).f2).length Al)) (fun _ hk=>trivial))⟩,⟨by(with_reducible repeat(first|refine y10 ?_ _|refine y9 ?_|refine y6 ?_ _));refine y11 ?_ Aj.out _;refine y11 ?_ Aj.out _;refine y11 ?_ Aj.out _;(with_reducible repeat(first|refine y10 ?_ _|refine y9 ?_|refine y6 ?_ _));exact Ah.out⟩,⟨qb⟩⟩
   ·as_aux_lemma =>
    rw [if_neg Pu]at H
    have Np:=decide_eq_false Pu
    clear Pu
    obtain⟨Sj,H⟩:=qo H
    have Vm:decide (0≤a1)=true:=decide_eq_true Sj
    clear Sj
    obtain⟨Sk,H⟩:=qo H
    have Vn:decide (a1 < (Ak.length:Int))=true:=decide_eq_true Sk
    clear Sk
    obtain⟨El,Iy,H⟩:=qB H
    by_cases Ho:El=0
    ·as_aux_lemma =>
     rw [if_pos Ho]at H
     have Pr:(El == 0)=true:=beq_iff_eq.mpr Ho
     have Ps:(El != 0)=false:=bne_eq_false_iff_eq.mpr Ho
     clear Ho
     simp only [Option.some.injEq,Prod.mk.injEq]at H
     obtain⟨rfl,rfl⟩:=H
     obtain⟨Xq,Xr,Sl⟩:=Kd.R_slice Ac.out
     subst Sl
     have Hp:0≤(a1:Int):=qd
     have Hq:a1 < (Ak.length:Int):=qd
     obtain⟨Iq,Pt,Nd⟩:=Kd.at_string (Kd.R_reads' Ac.out).2.2 a1 Hp Hq
     cases Pt
     replace Hp:=eq_true Hp
     replace Hq:=eq_true Hq
     go_wp2_with (first|(go_at_call 35;(with_reducible refine(z6_.calls k1 (rdOf ByteArray.empty Ak a1) El _ Iy.out).mono ?_);rintro e Sn ⟨rfl,hb⟩;replace Ag:=y0.mk (Kd.R_below (qR Ag.out) hb);replace Ac:=y0.mk (Kd.R_below (qR Ac.out) hb);replace Ah:=y0.mk (qK Ah.out hb);replace HB:=y0.mk (y5 qb hb);(try clear hb)))
     go_ret2
     exact⟨qf,qb⟩
    ·as_aux_lemma =>
     rw [if_neg Ho]at H
     have Pr:(El == 0)=false:=beq_eq_false_iff_ne.mpr Ho
     have Ps:(El != 0)=true:=bne_iff_ne.mpr Ho
     simp only [Option.some.injEq,Prod.mk.injEq]at H
     obtain⟨rfl,rfl⟩:=H
     obtain⟨Xs,Xt,So⟩:=Kd.R_slice Ac.out
     subst So
     have Hp:0≤(a1:Int):=qd
     have Hq:a1 < (Ak.length:Int):=qd
     obtain⟨Iq,Pt,Nd⟩:=Kd.at_string (Kd.R_reads' Ac.out).2.2 a1 Hp Hq
     cases Pt
     replace Hp:=eq_true Hp
     replace Hq:=eq_true Hq
     go_wp2_with (first|(go_at_call 35;(with_reducible refine(z6_.calls k1 (rdOf ByteArray.empty Ak a1) El _ Iy.out).mono ?_);rintro e Sp ⟨rfl,hb⟩;replace Ag:=y0.mk (Kd.R_below (qR Ag.out) hb);replace Ac:=y0.mk (Kd.R_below (qR Ac.out) hb);replace Ah:=y0.mk (qK Ah.out hb);replace HB:=y0.mk (y5 qb hb);(try clear hb);have Em:0≤(a1:Int):=qd;have En:a1 < (Ak.length:Int):=qd;obtain⟨Hb,Md,Ir⟩:=Kd.at_string (Kd.R_reads' Ac.out).2.2 a1 Em En;obtain rfl:Iq=Hb:=(by injection Md);replace Em:=eq_true Em;replace En:=eq_true En))
     go_ret2
     exact⟨qf,qb⟩
end Go.Proofs.YtimhlficlhafbaaGreatDoor.Pv
