-- Cut by prune.py.
import Derived.Test.YtkdabljlfbmpdaaVgrPwx10
namespace Go.Proofs.Ytkdabljlfbmpdaa.Pw
open RowKit YtkdabljlfbmpdaaW.PrintWords YtkdabljlfbmpdaaW.PrintLast YtkdabljlfbmpdaaW.PrintMore
set_option linter.unusedVariables false
set_option linter.unusedSimpArgs false
mutual
def spec_l08Old.l0:Nat→List ByteArray→List Bool→Int→List (S63)→Int→ByteArray→List Int→List (S33)→Option (List ByteArray)
 | 0,_,_,_,_,_,_,_,_=>none
 | k + 1,x3,x4,x5,Al,An,Ao,Aq,Ae=>if x5 < (Ae.length:Int)then(spec_l08Old.l1 k x3 x4 x5 0 Al An Ao Aq Ae)else(spec_l08Old.l3 k x3 Al An Ao Aq Ae)
def spec_l08Old.l1:Nat→List ByteArray→List Bool→Int→Int→List (S63)→Int→ByteArray→List Int→List (S33)→Option (List ByteArray)
 | 0,_,_,_,_,_,_,_,_,_=>none
 | k + 1,x3,x4,x5,x6,Al,An,Ao,Aq,Ae=>if 0≤x5 then(if x5 < (Ae.length:Int)then(if x6 < (((y18 Ae x5).f2).length:Int)then(spec_l08Old.j2 k x3 x4 x5 x6 (((y18 Ae x5).f0) == 1) Al An Ao Aq Ae)else(spec_l08Old.j2 k x3 x4 x5 x6 false Al An Ao Aq Ae))else(none))else(none)
def spec_l08Old.j2:Nat→List ByteArray→List Bool→Int→Int→Bool→List (S63)→Int→ByteArray→List Int→List (S33)→Option (List ByteArray)
 | 0,_,_,_,_,_,_,_,_,_,_=>none
 | k + 1,x3,x4,x5,x6,By,Al,An,Ao,Aq,Ae=>if By=true then(if 0≤x5 then(if x5 < (Ae.length:Int)then(if 0≤x6 then(if x6 < (((y18 Ae x5).f2).length:Int)then((z12_.f k Al An Ao Aq Ae (rd ((y18 Ae x5).f2) x6)).bind fun Di=>(spec_l08Old.l2 k x3 x4 x5 x6 Di 0 Al An Ao Aq Ae))else(none))else(none))else(none))else(none))else(spec_l08Old.l0 k x3 x4 (wrap64 (x5 + 1)) Al An Ao Aq Ae)
def spec_l08Old.l2:Nat→List ByteArray→List Bool→Int→Int→List Bool→Int→List (S63)→Int→ByteArray→List Int→List (S33)→Option (List ByteArray)
 | 0,_,_,_,_,_,_,_,_,_,_,_=>none
 | k + 1,x3,x4,x5,x6,x7,x8,Ae,Al,An,Ao,Aq=>if x8 < (x7.length:Int)then(if 0≤x8 then(if rdOf false x7 x8=true then(if x8 < (Ae.length:Int)then(if((y19 Ae x8).f0)=1 then(if x8 < (x4.length:Int)then(if rdOf false x4 x8=true then(spec_l08Old.l2 k x3 x4 x5 x6 x7 (wrap64 (x8 + 1)) Ae Al An Ao Aq)else(if x3.length < 8796093022208 then(spec_l08Old.l2 k (x3 ++ [(y19 Ae x8).f1]) x4 x5 x6 x7 (wrap64 (x8 + 1)) Ae Al An Ao Aq)else(none)))else(none))else(spec_l08Old.l2 k x3 x4 x5 x6 x7 (wrap64 (x8 + 1)) Ae Al An Ao Aq))else(none))else(spec_l08Old.l2 k x3 x4 x5 x6 x7 (wrap64 (x8 + 1)) Ae Al An Ao Aq))else(none))else(spec_l08Old.l1 k x3 x4 x5 (wrap64 (x6 + 1)) Ae Al An Ao Aq)
def spec_l08Old.l3:Nat→List ByteArray→List (S63)→Int→ByteArray→List Int→List (S33)→Option (List ByteArray)
 | 0,_,_,_,_,_,_=>none
 | k + 1,x3,Ae,Al,An,Ao,Aq=>spec_l08Old.l4 k x3 false 0 Ae Al An Ao Aq
def spec_l08Old.l4:Nat→List ByteArray→Bool→Int→List (S63)→Int→ByteArray→List Int→List (S33)→Option (List ByteArray)
 | 0,_,_,_,_,_,_,_,_=>none
 | k + 1,x3,x9,Ae,An,Ao,Aq,By,Al=>if Ae < (Al.length:Int)then(if 0≤Ae then(spec_l08Old.l5 k x3 x9 Ae 0 An Ao Aq By Al ((y18 Al Ae).f0) ((y18 Al Ae).f1) ((y18 Al Ae).f2))else(none))else(if x9=true then(spec_l08Old.l3 k x3 An Ao Aq By Al)else(some x3))
def spec_l08Old.l5:Nat→List ByteArray→Bool→Int→Int→List (S63)→Int→ByteArray→List Int→List (S33)→Int→ByteArray→List Int→Option (List ByteArray)
 | 0,_,_,_,_,_,_,_,_,_,_,_,_=>none
 | k + 1,x3,x9,Ao,Ae,Aq,By,Di,Du,Ea,Al,An,Fd=>if Ae < 2 then(if Al=3 then(spec_l08Old.j7 k x3 x9 Ao Ae (An.toList == ([61]:List UInt8)) Aq By Di Du Ea Al An Fd)else(spec_l08Old.j7 k x3 x9 Ao Ae false Aq By Di Du Ea Al An Fd))else(spec_l08Old.j7 k x3 x9 Ao Ae false Aq By Di Du Ea Al An Fd)
def spec_l08Old.j7:Nat→List ByteArray→Bool→Int→Int→Bool→List (S63)→Int→ByteArray→List Int→List (S33)→Int→ByteArray→List Int→Option (List ByteArray)
 | 0,_,_,_,_,_,_,_,_,_,_,_,_,_=>none
 | k + 1,x3,x9,Du,Ae,Ff,An,Ao,Aq,By,Di,Ea,Fd,Al=>if Ff=true then(if 0≤Ae then(if Ae < (Al.length:Int)then(if 0≤(wrap64 (1 - Ae))then(if(wrap64 (1 - Ae)) < (Al.length:Int)then(if 0≤(rd Al Ae)then(if(rd Al Ae) < (An.length:Int)then(if((y19 An (rd Al Ae)).f0)=1 then((spec_l05In.f k x3 ((y19 An (rd Al Ae)).f1)).bind fun Fj=>(if Fj=true then((z10_.f k An Ao Aq By Di (rd Al (wrap64 (1 - Ae))) 5 7).bind fun Fk=>(spec_l08Old.j8 k x3 x9 Du Ae (rd Al (wrap64 (1 - Ae))) Fk An Ao Aq By Di Ea Fd Al))else(spec_l08Old.j8 k x3 x9 Du Ae (rd Al (wrap64 (1 - Ae))) true An Ao Aq By Di Ea Fd Al)))else(spec_l08Old.j8 k x3 x9 Du Ae (rd Al (wrap64 (1 - Ae))) true An Ao Aq By Di Ea Fd Al))else(none))else(none))else(none))else(none))else(none))else(none))else(spec_l08Old.l4 k x3 x9 (wrap64 (Du + 1)) An Ao Aq By Di)
def spec_l08Old.j8:Nat→List ByteArray→Bool→Int→Int→Int→Bool→List (S63)→Int→ByteArray→List Int→List (S33)→Int→ByteArray→List Int→Option (List ByteArray)
 | 0,_,_,_,_,_,_,_,_,_,_,_,_,_,_=>none
 | k + 1,x3,x9,By,Di,Ff,Fj,Ae,Al,An,Ao,Aq,Du,Ea,Fd=>if Fj=true then(spec_l08Old.l5 k x3 x9 By (wrap64 (Di + 1)) Ae Al An Ao Aq Du Ea Fd)else((spec_l06Vars.f k Ae Al An Ao Aq Ff).bind fun Fk=>(spec_l08Old.l6 k x3 x9 By Di Fk 0 Ae Al An Ao Aq Du Ea Fd))
def spec_l08Old.l6:Nat→List ByteArray→Bool→Int→Int→List ByteArray→Int→List (S63)→Int→ByteArray→List Int→List (S33)→Int→ByteArray→List Int→Option (List ByteArray)
 | 0,_,_,_,_,_,_,_,_,_,_,_,_,_,_=>none
 | k + 1,x3,x9,An,Ao,Al,Ae,Aq,By,Di,Du,Ea,Fd,Ff,Fj=>if Ae < (Al.length:Int)then(if 0≤Ae then((spec_l05In.f k x3 (rdOf ByteArray.empty Al Ae)).bind fun Fk=>(if Fk=true then(spec_l08Old.l6 k x3 x9 An Ao Al (wrap64 (Ae + 1)) Aq By Di Du Ea Fd Ff Fj)else(if x3.length < 8796093022208 then(spec_l08Old.l6 k (x3 ++ [rdOf ByteArray.empty Al Ae]) true An Ao Al (wrap64 (Ae + 1)) Aq By Di Du Ea Fd Ff Fj)else(none))))else(none))else(spec_l08Old.l5 k x3 x9 An (wrap64 (Ao + 1)) Aq By Di Du Ea Fd Ff Fj)
end
def spec_l08Old.f (k:Nat) (Ae:List (S63)) (Al:Int) (An:ByteArray) (Ao:List Int) (Aq:List (S33)):Option (List ByteArray):=(z11_.f k Ae Al An Ao Aq).bind fun By=>(spec_l08Old.l0 k (([]:List ByteArray)) By 0 Ae Al An Ao Aq)
def spec_l08Old.T9:Bool×List (List Nat×List Nat):=(true,[([],[]),([],[]),([1],[1]),([],[]),([2,3],[2,3]),([4],[4]),([5],[5]),([],[]),([6,7],[6,7]),([8],[8]),([0,9],[0,9]),([10,10,0,1,2,3,4,5,6,7,8,9,10],[10])])
def spec_l08Old.B9:List Nat:=[0,0,2,0,14,30,62,0,254,510,1023,2047]
theorem spec_l08Old.tab9:rtab .any (opsOf Try.f38 9)=spec_l08Old.T9:=by kernel_rfl
theorem spec_l08Old.bits9:waitsOk spec_l08Old.T9.2 spec_l08Old.B9=true:=by kernel_rfl
def spec_l08Old.T23:Bool×List (List Nat×List Nat):=(true,[([],[]),([0],[0]),([],[]),([1,2],[1,2]),([3],[3]),([],[]),([5],[5]),([],[]),([7],[7]),([6,8],[6,8]),([9],[9]),([4,0,1,2,3,4],[4]),([10,11,0,1,2,3,4,5,6,7,8,9,10,11],[10])])
def spec_l08Old.B23:List Nat:=[0,1,0,7,15,0,32,0,128,480,992,31,4095]
theorem spec_l08Old.tab23:rtab .any (opsOf Try.f38 23)=spec_l08Old.T23:=by kernel_rfl
theorem spec_l08Old.bits23:waitsOk spec_l08Old.T23.2 spec_l08Old.B23=true:=by kernel_rfl
set_option maxHeartbeats 8000000 in
set_option maxRecDepth 100000 in
theorem spec_l08Old.calls (k:Nat) (Bg:Option Addr) (Bh:Nat) (Ad:List (S63)) (Ak:Int) (Am:ByteArray) (Bi:Option Addr) (Bj:Nat) (Ai:List Int) (Df:Option Addr) (Bk:Nat) (Ab:List (S33)) (r:List ByteArray) (w:World) (Hx:Kd.C k63 w Bg Ad.length Ad) (Hy:Ad.length≤Bh) (Hz:Kd.C (Kd.int .i64) w Bi Ai.length Ai) (Ia:Ai.length≤Bj) (Ib:Kd.C k33 w Df Ab.length Ab) (Ic:Ab.length≤Bk) (h:spec_l08Old.f k Ad Ak Am Ai Ab=some r) :
  Calls Try.prog 38 #[.agg #[.slice Bg Ad.length Bh,.int .i64 Ak,.string Am,.slice Bi Ai.length Bj,.slice Df Ab.length Bk]] w fun e w'=>∃ v0_:Value,e=.returned (v0_)∧Kd.R Kd.string 9 w' w.heap.size (fun _=>True) v0_ r∧Below w.heap.size w w':=by
 have Tv:=Try.underlying36
 have Tw:=Try.underlying33
 have Bv:=y0.mk Hx
 have Ef:=y0.mk Hy
 clear Hx Hy
 have Eg:=y0.mk Hz
 have Eh:=y0.mk Ia
 clear Hz Ia
 have Cg:=y0.mk Ib
 have Ei:=y0.mk Ic
 clear Ib Ic
 have HB:=y0.mk (Below.refl w.heap.size w)
 have H:((z11_.f k Ad Ak Am Ai Ab).bind fun Ax=>(spec_l08Old.l0 k (([]:List ByteArray)) Ax 0 Ad Ak Am Ai Ab))=some r:=h
 clear h
 obtain⟨Kj,Ds⟩:∃ y_:List ByteArray,y_=(([]:List ByteArray)):=⟨_,rfl⟩
 replace H:((z11_.f k Ad Ak Am Ai Ab).bind fun Ax=>(spec_l08Old.l0 k Kj Ax 0 Ad Ak Am Ai Ab))=some r:=by first|exact Ds ▸ H|exact Ds ▸ (Option.bind_some _ _).symm.trans H
 replace Ds:=y0.mk Ds
 obtain⟨Ax,A2,H⟩:=qB H
 have H':=y0.mk H
 clear H
 go_enter Try.func38,Try.ntmps38
 go_wp2_with (first|((with_reducible refine y16 (N:=1) rfl ?_);refine qe 1 #[.slice Bg Ad.length Bh,.int .i64 Ak,.string Am,.slice Bi Ai.length Bj,.slice Df Ab.length Bk] 36 ?_;intro Ba hg w3 hbox hb;have Ac:=y0.mk (hbox);have Sf:=y0.mk (qg (w:=w) hg);have Sg:=y0.mk (qg (w:=w) hg);replace HB:=y0.mk (y4 qb hb);clear hb hbox hg)|((with_reducible refine y16 (N:=17) rfl ?_);refine qL Kd.string 9 17 ([]:List ByteArray) ?_;intro Tx w4 Kk hb hg_ hnew_;clear hg_ hnew_;(first|rw [← Ds.out]at Kk|(simp only [Int.reduceToNat]at Kk;rw [← Ds.out]at Kk));have Fi:=y0.mk (Kd.R_lower Kk (y3 qb));replace Ac:=y0.mk (qK Ac.out hb);replace HB:=y0.mk (y4 qb hb);clear hb Kk;obtain⟨Ii,Ij,Ik,Il,Im,Io,Ip,Iq,Ir,Is⟩:=qz5 Ac.out)|((with_reducible refine y15 (f:=58) rfl ?_);refine y17 (some 19) rfl rfl Try.func58 (by kernel_rfl) rfl #[.agg #[.slice Bg Ad.length Bh,.int .i64 Ak,.string Am,.slice Bi Ai.length Bj,.slice Df Ab.length Bk]] rfl qy1 ?_;(with_reducible refine(z11_.calls k _ _ Ad Ak Am _ _ Ai _ _ Ab Ax _ (qc (Kd.C_below Bv.out HB.out)) Ef.out (qc (Kd.C_below Eg.out HB.out)) Eh.out (qc (Kd.C_below Cg.out HB.out)) Ei.out A2.out).mono ?_);rintro e w7 ⟨Fj,rfl,Fx,hb⟩;refine⟨_,rfl, ?_⟩;replace Fi:=y0.mk (Kd.R_below (qR Fi.out) hb);have Kl:=y0.mk (Kd.R_lower Fx (y3 qb));replace Ac:=y0.mk (qK Ac.out hb);replace HB:=y0.mk (y4 qb hb);(try clear hb);(try clear Fx)))
 go_loopg [3,5] k (fun kq v3 v5 w'=>∃(Fk:List ByteArray) (Ap:Int),v5=.int .i64 Ap∧y0 (spec_l08Old.l0 kq Fk Ax Ap Ad Ak Am Ai Ab=some r)∧y0 (kq≤k)∧y0 (Kd.R Kd.string 9 w' w.heap.size (fun _=>True) v3 Fk)∧y0 (Kd.R Kd.bool 4 w' w.heap.size (fun _=>True) Fj Ax)∧y0 (w'.heap[Ba]?=some (.cells #[(.slice Bg Ad.length Bh),.int .i64 Ak,.string Am,(.slice Bi Ai.length Bj),(.slice Df Ab.length Bk)] 36 (0,0)))∧y0 (Below w.heap.size w w'))
 case atStart=>exact⟨(Kj),(0),qy2,H',⟨Nat.le_refl _⟩,⟨qR Fi.out⟩,⟨qR Kl.out⟩,⟨qk Ac.out⟩,⟨qb⟩⟩
 case round =>
  clear H'
  (try clear Ii Ij Ik Il Im Io Ip Iq Ir Is)
  obtain⟨Fk,Ap,rfl,HA,Bw,Af,Ay,Ac,HB⟩:=hrel
  cases gk with
  | zero=>exact absurd HA.out (by simp [spec_l08Old.l0])
  | succ k1 =>
   have H:=HA.out
   clear HA
   simp only [spec_l08Old.l0]at H
   by_cases c8:Ap < (Ab.length:Int)
   ·as_aux_lemma =>
    rw [if_pos c8]at H
    have Iu:=decide_eq_true c8
    clear c8
    have H':=y0.mk H
    clear H
    obtain⟨Iv,Iw,Ix,Iy,Iz,Ja,Jb,Jc,Jd,Je⟩:=qz5 Ac.out
    go_wp2
    go_loopg [3,6] k1 (fun kq v3 v6 w'=>∃(Ci:List ByteArray) (Bb:Int),v6=.int .i64 Bb∧y0 (spec_l08Old.l1 kq Ci Ax Ap Bb Ad Ak Am Ai Ab=some r)∧y0 (kq≤k1)∧y0 (Kd.R Kd.string 9 w' w.heap.size (fun _=>True) v3 Ci)∧y0 (Kd.R Kd.bool 4 w' w.heap.size (fun _=>True) Fj Ax)∧y0 (w'.heap[Ba]?=some (.cells #[(.slice Bg Ad.length Bh),.int .i64 Ak,.string Am,(.slice Bi Ai.length Bj),(.slice Df Ab.length Bk)] 36 (0,0)))∧y0 (Below w.heap.size w w'))
    case atStart=>exact⟨(Fk),(0),qy2,H',⟨Nat.le_refl _⟩,⟨qR Af.out⟩,⟨qR Ay.out⟩,⟨qk Ac.out⟩,⟨qb⟩⟩
    case round =>
     clear H'
     (try clear Iu Iv Iw Ix Iy Iz Ja Jb Jc Jd Je)
     obtain⟨Ci,Bb,rfl,HA,Bs,Af,Ay,Ac,HB⟩:=hrel
     cases gk with
     | zero=>exact absurd HA.out (by simp [spec_l08Old.l1])
     | succ k2 =>
      have H:=HA.out
      clear HA
      simp only [spec_l08Old.l1]at H
      have Jf:=y0.mk H
      clear H
      go_upto_region 7 with(fail)
      go_cut [44] (fun Ty wc=>∃(kq:Nat) (Ej:Bool),Ty=.bool Ej∧y0 (spec_l08Old.j2 kq Ci Ax Ap Bb Ej Ad Ak Am Ai Ab=some r)∧y0 (kq≤k2)∧y0 (Kd.R Kd.string 9 wc w.heap.size (fun _=>True) u3 Ci)∧y0 (Kd.R Kd.bool 4 wc w.heap.size (fun _=>True) Fj Ax)∧y0 (wc.heap[Ba]?=some (.cells #[(.slice Bg Ad.length Bh),.int .i64 Ak,.string Am,(.slice Bi Ai.length Bj),(.slice Df Ab.length Bk)] 36 (0,0)))∧y0 (Below w.heap.size w wc))
      case first =>
       have H:=Jf.out
       clear Jf
       obtain⟨Sh,H⟩:=qo H
       have Ie:decide (0≤Ap)=true:=decide_eq_true Sh
       clear Sh
       (first|rw [Ie]|(simp only [i64_w,i32_w];rw [Ie])|skip)
       obtain⟨Si,H⟩:=qo H
       have Sj:decide (Ap < (Ab.length:Int))=true:=decide_eq_true Si
       clear Si
       obtain⟨Mq,Mr,Ms,Mt,Mu,Mv,Mw,Mx,My,Mz⟩:=qz5 Ac.out
       have Jg:0≤(Ap:Int):=qd
       have Jh:Ap < (Ab.length:Int):=qd
       obtain⟨Km,Ql,Qm,Qn,Dg,Dh,Ck,Ek,El⟩:=at_T33 Cg.out Ap Jg Jh
       cases Qn
       replace Dg:=qC Dg HB
       replace Dh:=qC Dh HB
       replace Ck:=qC Ck HB
       have Na:=y0.mk El
       have Nb:=y0.mk Ek
       clear El Ek
       replace Jg:=eq_true Jg
       replace Jh:=eq_true Jh
       by_cases Kb:Bb < (((y18 Ab Ap).f2).length:Int)
       ·as_aux_lemma =>
        rw [if_pos Kb]at H
        have Kn:=decide_eq_true Kb
        clear Kb
        have H':=y0.mk H
        clear H
        have Ji:0≤(Ap:Int):=qd
        have Jj:Ap < (Ab.length:Int):=qd
        obtain⟨Ko,Qo,Qp,Qq,Di,Dj,Cl,Em,En⟩:=at_T33 Cg.out Ap Ji Jj
        obtain rfl:Km=Ko:=(by injection Qq)
        replace Di:=qC Di HB
        replace Dj:=qC Dj HB
        replace Cl:=qC Cl HB
        have Nc:=y0.mk En
        have Nd:=y0.mk Em
        clear En Em
        replace Ji:=eq_true Ji
        replace Jj:=eq_true Jj
        have ea_:=Option.some.inj (Ck.symm.trans Cl)
        injection ea_ with ea_ en_ ec_
        subst ea_
        subst ec_
        clear en_
        go_wp2
        go_meet
        exact⟨_,((((y18 Ab Ap).f0) == 1)),qy2,H',⟨by have:=Bw.out;have:=Bs.out;first|omega|exact Nat.le_refl _⟩,⟨qR Af.out⟩,⟨qR Ay.out⟩,⟨qk Ac.out⟩,⟨qb⟩⟩
       ·as_aux_lemma =>
        rw [if_neg Kb]at H
        have Kn:=decide_eq_false Kb
        clear Kb
        have H':=y0.mk H
        clear H
        go_wp2
        go_meet
        exact⟨_,(false),qy2,H',⟨by have:=Bw.out;have:=Bs.out;first|omega|exact Nat.le_refl _⟩,⟨qR Af.out⟩,⟨qR Ay.out⟩,⟨qk Ac.out⟩,⟨qb⟩⟩
      case rest =>
       clear Jf
       obtain⟨kq,Ej,rfl,HA,Fh,Af,Ay,Ac,HB⟩:=hcut
       cases kq with
       | zero=>exact absurd HA.out (by simp [spec_l08Old.j2])
       | succ Nf =>
        have H:=HA.out
        clear HA
        simp only [spec_l08Old.j2]at H
        by_cases Kp:Ej=true
        ·subst Kp
         replace H:=qT H
         obtain⟨Sk,H⟩:=qo H
         have Kq:decide (0≤Ap)=true:=decide_eq_true Sk
         clear Sk
         obtain⟨Sl,H⟩:=qo H
         have Kr:decide (Ap < (Ab.length:Int))=true:=decide_eq_true Sl
         clear Sl
         obtain⟨Sm,H⟩:=qo H
         have Ks:decide (0≤Bb)=true:=decide_eq_true Sm
         clear Sm
         obtain⟨Sn,H⟩:=qo H
         have Kt:decide (Bb < (((y18 Ab Ap).f2).length:Int))=true:=decide_eq_true Sn
         clear Sn
         obtain⟨Bt,Tz,H⟩:=qB H
         have H':=y0.mk H
         clear H
         try go_wp2
         replace Af:=y0.mk (Kd.R_drew Af.out)
         replace Ay:=y0.mk (Kd.R_drew Ay.out)
         replace Ac:=y0.mk (y8 Ac.out)
         replace HB:=y0.mk (y2 HB.out)
         have Fy:0≤(Ap:Int):=qd
         have Fz:Ap < (Ab.length:Int):=qd
         obtain⟨Ch,Qr,Jk,Qs,Bm,Bn,Bo,Eo,Ep⟩:=at_T33 Cg.out Ap Fy Fz
         have Cm:=Bo
         have Cn:=Bn
         have Cp:=Bm
         cases Qs
         replace Bm:=qC Bm HB
         replace Bn:=qC Bn HB
         replace Bo:=qC Bo HB
         have Eq:=y0.mk Ep
         have Ng:=y0.mk Eo
         clear Ep Eo
         replace Fy:=eq_true Fy
         replace Fz:=eq_true Fz
         have Ga:0≤(Bb:Int):=qd
         have Gb:Bb < (((y18 Ab Ap).f2).length:Int):=qd
         obtain⟨If,Qt,Bp⟩:=Kd.at_int Eq.out Bb Ga Gb
         have Cq:=Bp
         cases Qt
         replace Bp:=qC Bp HB
         replace Ga:=eq_true Ga
         replace Gb:=eq_true Gb
         refine start_ (n:=12) (S:=fun w'=>w'.cell? ⟨Ba,0,none⟩=some (.slice Bg Ad.length Bh)∧w'.cell? ⟨Ba,1,none⟩=some (.int .i64 Ak)∧w'.cell? ⟨Ba,2,none⟩=some (.string Am)∧w'.cell? ⟨Ba,3,none⟩=some (.slice Bi Ai.length Bj)∧w'.cell? ⟨Ba,4,none⟩=some (.slice (some Ch) Ab.length Bk)∧w'.cell? (Ch.add ((Ap).toNat * 3))=some (.int .i64 ((y18 Ab Ap).f0))∧w'.cell? ⟨(Ch.add ((Ap).toNat * 3)).block,(Ch.add ((Ap).toNat * 3)).off + 1,none⟩=some (.string ((y18 Ab Ap).f1))∧w'.cell? ⟨(Ch.add ((Ap).toNat * 3)).block,(Ch.add ((Ap).toNat * 3)).off + 2,none⟩=some (.slice (some If) ((y18 Ab Ap).f2).length Jk)∧w'.cell? (If.add (Bb).toNat)=some (.int .i64 (rd ((y18 Ab Ap).f2) Bb))) (ds:=[]) (fl_ 12 0) (by kernel_rfl) rfl rfl ⟨(y7 Ac.out 0).trans rfl,(y7 Ac.out 1).trans rfl,(y7 Ac.out 2).trans rfl,(y7 Ac.out 3).trans rfl,(y7 Ac.out 4).trans rfl,(qC Cp HB),(qC Cn HB),(qC Cm HB),(qC Cq HB)⟩ (fun hHeld=>?_);refine with_tabW spec_l08Old.tab9 spec_l08Old.bits9 (fun HT_ HW_=>?_)
         generalize wc.drew=Vd at Af Ay Ac HB Eq Bm Bn Bo Bp hHeld ⊢
         refine qp 1 48 (fl_ 12 2) ?_
         refine qp 3 50 (fl_ 12 10) ?_
         refine qp 7 54 (fl_ 12 138) ?_
         refine qt 0 47 (fl_ 12 139) hHeld ?_
         refine qt 2 49 (fl_ 12 143) hHeld ?_
         refine qp 4 51 (fl_ 12 159) ?_
         refine qp 5 52 (fl_ 12 191) ?_
         refine qt 6 53 (fl_ 12 255) hHeld ?_
         refine qp 8 55 (fl_ 12 511) ?_
         refine qt 9 56 (fl_ 12 1023) hHeld ?_
         refine qO 10 57 (fl_ 12 2047) (fun K hK=>?_)
         refine goes_ Try.func49 (by kernel_rfl) rfl #[.agg #[.slice Bg Ad.length Bh,.int .i64 Ak,.string Am,.slice Bi Ai.length Bj,.slice (some Ch) Ab.length Bk],.int .i64 (rd ((y18 Ab Ap).f2) Bb)] (by rfl) rfl rfl qy1 ?_
         with_reducible refine(z12_.calls Nf _ _ Ad Ak Am _ _ Ai _ _ Ab (rd ((y18 Ab Ap).f2) Bb) Bt _ (qc (Kd.C_below Bv.out HB.out)) Ef.out (qc (Kd.C_below Eg.out HB.out)) Eh.out (qc (Kd.C_below Cg.out HB.out)) Ei.out Tz.out).mono ?_
         rintro e Ve ⟨Ku,rfl,Fx,hb⟩
         refine⟨_,rfl, ?_⟩
         replace Af:=y0.mk (Kd.R_below (qR Af.out) hb)
         have Kv:=y0.mk (Kd.R_lower (Kd.R_new' Fx (Kd.R_lt (qR Ay.out))) (y3 qb))
         replace Ay:=y0.mk (Kd.R_elder' (qR Ay.out) (Kd.R_base Fx) hb)
         replace Ac:=y0.mk (qK Ac.out hb)
         replace HB:=y0.mk (y4 qb hb)
         (try clear hb)
         (try clear Fx)
         refine hK.out _ _ ⟨(y7 Ac.out 0).trans rfl,(y7 Ac.out 1).trans rfl,(y7 Ac.out 2).trans rfl,(y7 Ac.out 3).trans rfl,(y7 Ac.out 4).trans rfl,(qC Cp HB),(qC Cn HB),(qC Cm HB),(qC Cq HB)⟩ (fun hHeld=>?_)
         clear hK K
         refine qx 57 ?_
         refine qp 11 7 (fl_ 12 4095) ?_
         refine done_ (done_of HT_.out (by kernel_rfl)) ?_
         try go_wp2
         go_loopg [3,8] Nf (fun kq v3 v8 w'=>∃(As:List ByteArray) (Ag:Int),v8=.int .i64 Ag∧y0 (spec_l08Old.l2 kq As Ax Ap Bb Bt Ag Ad Ak Am Ai Ab=some r)∧y0 (kq≤Nf)∧y0 (Kd.R Kd.string 9 w' w.heap.size (fun _=>True) v3 As)∧y0 (Kd.R Kd.bool 4 w' w.heap.size (fun k_=>some k_≠(Ku:Value).ownBlock) Fj Ax)∧y0 (Kd.R Kd.bool 4 w' w.heap.size (fun k_=>some k_≠(Fj:Value).ownBlock) Ku Bt)∧y0 (w'.heap[Ba]?=some (.cells #[(.slice Bg Ad.length Bh),.int .i64 Ak,.string Am,(.slice Bi Ai.length Bj),(.slice (some Ch) Ab.length Bk)] 36 (0,0)))∧y0 (Below w.heap.size w w'))
         case atStart=>exact⟨(Ci),(0),qy2,H',⟨Nat.le_refl _⟩,⟨qR Af.out⟩,⟨qR (Kd.R_mono Ay.out (fun _ hk=>hk.2))⟩,⟨qR (Kd.R_mono Kv.out (fun _ hk=>hk.2))⟩,⟨qk Ac.out⟩,⟨qb⟩⟩
         case round =>
          clear H'
          (try clear Kp Kq Kr Ks Kt Bm Bn Bo Bp Fy Ga Fz Gb)
          obtain⟨As,Ag,rfl,HA,Cd,Af,Ay,Bz,Ac,HB⟩:=hrel
          cases gk with
          | zero=>exact absurd HA.out (by simp [spec_l08Old.l2])
          | succ k4 =>
           have H:=HA.out
           clear HA
           simp only [spec_l08Old.l2]at H
           by_cases Ke:Ag < (Bt.length:Int)
           ·as_aux_lemma =>
            rw [if_pos Ke]at H
            have Kw:=decide_eq_true Ke
            clear Ke
            obtain⟨So,H⟩:=qo H
            have Sp:decide (0≤Ag)=true:=decide_eq_true So
            clear So
            obtain⟨Kx,Fl⟩:∃ b_:Bool,b_=(rdOf false Bt Ag):=⟨_,rfl⟩
            replace H:(if Kx=true then(if Ag < (Ad.length:Int)then(if((y19 Ad Ag).f0)=1 then(if Ag < (Ax.length:Int)then(if rdOf false Ax Ag=true then(spec_l08Old.l2 k4 As Ax Ap Bb Bt (wrap64 (Ag + 1)) Ad Ak Am Ai Ab)else(if As.length < 8796093022208 then(spec_l08Old.l2 k4 (As ++ [(y19 Ad Ag).f1]) Ax Ap Bb Bt (wrap64 (Ag + 1)) Ad Ak Am Ai Ab)else(none)))else(none))else(spec_l08Old.l2 k4 As Ax Ap Bb Bt (wrap64 (Ag + 1)) Ad Ak Am Ai Ab))else(none))else(spec_l08Old.l2 k4 As Ax Ap Bb Bt (wrap64 (Ag + 1)) Ad Ak Am Ai Ab))=some r:=by rw [← Fl]at H;exact H
            replace Fl:=y0.mk Fl
            by_cases Nh:Kx=true
            ·subst Nh
             replace H:=qT H
             obtain⟨Sq,H⟩:=qo H
             have Sr:decide (Ag < (Ad.length:Int))=true:=decide_eq_true Sq
             clear Sq
             by_cases Jl:((y19 Ad Ag).f0)=1
             ·as_aux_lemma =>
              rw [if_pos Jl]at H
              have Ky:(((y19 Ad Ag).f0) == 1)=true:=beq_iff_eq.mpr Jl
              have Kz:(((y19 Ad Ag).f0) != 1)=false:=bne_eq_false_iff_eq.mpr Jl
              clear Jl
              obtain⟨Ss,H⟩:=qo H
              have St:decide (Ag < (Ax.length:Int))=true:=decide_eq_true Ss
              clear Ss
              obtain⟨La,Fm⟩:∃ b_:Bool,b_=(rdOf false Ax Ag):=⟨_,rfl⟩
              replace H:(if La=true then(spec_l08Old.l2 k4 As Ax Ap Bb Bt (wrap64 (Ag + 1)) Ad Ak Am Ai Ab)else(if As.length < 8796093022208 then(spec_l08Old.l2 k4 (As ++ [(y19 Ad Ag).f1]) Ax Ap Bb Bt (wrap64 (Ag + 1)) Ad Ak Am Ai Ab)else(none)))=some r:=by rw [← Fm]at H;exact H
              replace Fm:=y0.mk Fm
              by_cases Ni:La=true
              ·subst Ni
               replace H:=qT H
               have H':=y0.mk H
               clear H
               obtain⟨Ua,Ub,Qu⟩:=Kd.R_slice Bz.out
               subst Qu
               have Ca:0≤(Ag:Int):=qd
               have Cb:Ag < (Bt.length:Int):=qd
               obtain⟨Fn,Dz,Az⟩:=Kd.at_bool (Kd.R_reads' Bz.out).2.2 Ag Ca Cb
               (try rw [← Fl.out]at Az)
               (try rw [← Fm.out]at Az)
               cases Dz
               replace Ca:=eq_true Ca
               replace Cb:=eq_true Cb
               obtain⟨Nj,Nk,Nl,Nm,Nn,Np,Nq,Nr,Ns,Nt⟩:=qz5 Ac.out
               have Cz:0≤(Ag:Int):=qd
               have Da:Ag < (Ad.length:Int):=qd
               obtain⟨Fo,Fp,Fq,Fr,Av,Aw,At,Bc,Bd⟩:=at_T63 Bv.out Ag Cz Da
               cases Fr
               replace Av:=qC Av HB
               replace Aw:=qC Aw HB
               replace At:=qC At HB
               have Es:=y0.mk Bd
               have Et:=y0.mk Bc
               clear Bd Bc
               replace Cz:=eq_true Cz
               replace Da:=eq_true Da
               obtain⟨Uc,Ud,Qv⟩:=Kd.R_slice Ay.out
               subst Qv
               have Ea:0≤(Ag:Int):=qd
               have Eb:Ag < (Ax.length:Int):=qd
               obtain⟨Lb,Jm,Cc⟩:=Kd.at_bool (Kd.R_reads' Ay.out).2.2 Ag Ea Eb
               (try rw [← Fl.out]at Cc)
               (try rw [← Fm.out]at Cc)
               cases Jm
               replace Ea:=eq_true Ea
               replace Eb:=eq_true Eb
               go_wp2
               go_roundg k4
               case measure=>have:=Bw.out;have:=Bs.out;have:=Fh.out;have:=Cd.out;omega
               exact⟨(As),(wrap64 (Ag + 1)),qy2,H',⟨by have:=Bw.out;have:=Bs.out;have:=Fh.out;have:=Cd.out;omega⟩,⟨qR Af.out⟩,⟨qR Ay.out⟩,⟨qR Bz.out⟩,⟨qk Ac.out⟩,⟨qb⟩⟩
              ·replace Ni:=Bool.eq_false_iff.mpr Ni
               subst Ni
               replace H:=qF H
               obtain⟨Su,H⟩:=qo H
               replace Su:=y0.mk Su
               obtain⟨Ld,Dt⟩:∃ y_:List ByteArray,y_=(As ++ [(y19 Ad Ag).f1]):=⟨_,rfl⟩
               replace H:(spec_l08Old.l2 k4 Ld Ax Ap Bb Bt (wrap64 (Ag + 1)) Ad Ak Am Ai Ab)=some r:=by first|exact Dt ▸ H|exact Dt ▸ (Option.bind_some _ _).symm.trans H
               replace Dt:=y0.mk Dt
               have H':=y0.mk H
               clear H
               obtain⟨Ue,Uf,Qw⟩:=Kd.R_slice Bz.out
               subst Qw
               have Ca:0≤(Ag:Int):=qd
               have Cb:Ag < (Bt.length:Int):=qd
               obtain⟨Fn,Dz,Az⟩:=Kd.at_bool (Kd.R_reads' Bz.out).2.2 Ag Ca Cb
               (try rw [← Fl.out]at Az)
               (try rw [← Fm.out]at Az)
               cases Dz
               replace Ca:=eq_true Ca
               replace Cb:=eq_true Cb
               obtain⟨Nu,Nv,Nw,Nx,Ny,Nz,Oa,Ob,Oc,Od⟩:=qz5 Ac.out
               have Cz:0≤(Ag:Int):=qd
               have Da:Ag < (Ad.length:Int):=qd
               obtain⟨Fo,Fp,Fq,Fr,Av,Aw,At,Bc,Bd⟩:=at_T63 Bv.out Ag Cz Da
               cases Fr
               replace Av:=qC Av HB
               replace Aw:=qC Aw HB
               replace At:=qC At HB
               have Es:=y0.mk Bd
               have Et:=y0.mk Bc
               clear Bd Bc
               replace Cz:=eq_true Cz
               replace Da:=eq_true Da
               obtain⟨Ug,Uh,Qx⟩:=Kd.R_slice Ay.out
               subst Qx
               have Ea:0≤(Ag:Int):=qd
               have Eb:Ag < (Ax.length:Int):=qd
               obtain⟨Lb,Jm,Cc⟩:=Kd.at_bool (Kd.R_reads' Ay.out).2.2 Ag Ea Eb
               (try rw [← Fl.out]at Cc)
               (try rw [← Fm.out]at Cc)
               cases Jm
               replace Ea:=eq_true Ea
               replace Eb:=eq_true Eb
               have Jn:0≤(Ag:Int):=qd
               have Jo:Ag < (Ad.length:Int):=qd
               obtain⟨Lf,Qy,Qz,Ra,Dk,Dl,Cr,Eu,Ew⟩:=at_T63 Bv.out Ag Jn Jo
               obtain rfl:Fo=Lf:=(by injection Ra)
               replace Dk:=qC Dk HB
               replace Dl:=qC Dl HB
               replace Cr:=qC Cr HB
               have Oe:=y0.mk Ew
               have Of:=y0.mk Eu
               clear Ew Eu
               replace Jn:=eq_true Jn
               replace Jo:=eq_true Jo
               have ea_:=Option.some.inj (At.symm.trans Cr)
               injection ea_ with ea_ en_ ec_
               subst ea_
               subst ec_
               clear en_
               go_wp2_with (first|((with_reducible refine gate_builtin (b:=.append) (xs:=#[.tmp 84,.tmp 91]) rfl ?_);at_builtin;refine Kd.R_append Kd.string (w0:=w) w.heap.size rfl (.tmp 84) (.tmp 91) 30 9 (.string ⟨#[]⟩) 16 rfl Try.underlying30 info9 rfl (by decide) (by omega) u3 As ((y19 Ad Ag).f1) [.string ((y19 Ad Ag).f1)] (fun _=>True) (fun _=>False) rfl rfl ?aP (fun _ hk=>hk.elim) ?aF ?aO ?aB ?aS ?aL ?_;(case aP=>exact rfl);(case aB=>exact qb);(case aF=>exact(fun _ _=>trivial));(case aO=>exact(qR Af.out));(case aS=>exact(y3 qb));(case aL=>have:=Su.out;omega);intro Ui Vf ho hb hg hat;rw [← Dt.out]at ho;replace Ay:=y0.mk (Kd.R_over' (qR Ay.out) (Kd.R_typed (qR Af.out)) (by decide) hg);replace Bz:=y0.mk (Kd.R_over' (qR Bz.out) (Kd.R_typed (qR Af.out)) (by decide) hg);replace Ac:=y0.mk (blk_grown (qk Ac.out) hg (Kd.R_ne Af.out Ac.out (by decide)));replace HB:=y0.mk (hb);have Lg:=y0.mk (ho);clear Af;clear ho hb hg hat))
               go_roundg k4
               case measure=>have:=Bw.out;have:=Bs.out;have:=Fh.out;have:=Cd.out;omega
               exact⟨(Ld),(wrap64 (Ag + 1)),qy2,H',⟨by have:=Bw.out;have:=Bs.out;have:=Fh.out;have:=Cd.out;omega⟩,⟨qR Lg.out⟩,⟨qR Ay.out⟩,⟨qR Bz.out⟩,⟨qk Ac.out⟩,⟨qb⟩⟩
             ·as_aux_lemma =>
              rw [if_neg Jl]at H
              have Ky:(((y19 Ad Ag).f0) == 1)=false:=beq_eq_false_iff_ne.mpr Jl
              have Kz:(((y19 Ad Ag).f0) != 1)=true:=bne_iff_ne.mpr Jl
              have H':=y0.mk H
              clear H
              obtain⟨Uj,Uk,Rb⟩:=Kd.R_slice Bz.out
              subst Rb
              have Ca:0≤(Ag:Int):=qd
              have Cb:Ag < (Bt.length:Int):=qd
              obtain⟨Fn,Dz,Az⟩:=Kd.at_bool (Kd.R_reads' Bz.out).2.2 Ag Ca Cb
              (try rw [← Fl.out]at Az)
              cases Dz
              replace Ca:=eq_true Ca
              replace Cb:=eq_true Cb
              obtain⟨Og,Oh,Oi,Oj,Ok,Ol,Om,On,Oo,Oq⟩:=qz5 Ac.out
              have Cz:0≤(Ag:Int):=qd
              have Da:Ag < (Ad.length:Int):=qd
              obtain⟨Fo,Fp,Fq,Fr,Av,Aw,At,Bc,Bd⟩:=at_T63 Bv.out Ag Cz Da
              cases Fr
              replace Av:=qC Av HB
              replace Aw:=qC Aw HB
              replace At:=qC At HB
              have Es:=y0.mk Bd
              have Et:=y0.mk Bc
              clear Bd Bc
              replace Cz:=eq_true Cz
              replace Da:=eq_true Da
              go_wp2
              go_roundg k4
              case measure=>have:=Bw.out;have:=Bs.out;have:=Fh.out;have:=Cd.out;omega
              exact⟨(As),(wrap64 (Ag + 1)),qy2,H',⟨by have:=Bw.out;have:=Bs.out;have:=Fh.out;have:=Cd.out;omega⟩,⟨qR Af.out⟩,⟨qR Ay.out⟩,⟨qR Bz.out⟩,⟨qk Ac.out⟩,⟨qb⟩⟩
            ·replace Nh:=Bool.eq_false_iff.mpr Nh
             subst Nh
             replace H:=qF H
             have H':=y0.mk H
             clear H
             obtain⟨Ul,Um,Rc⟩:=Kd.R_slice Bz.out
             subst Rc
             have Ca:0≤(Ag:Int):=qd
             have Cb:Ag < (Bt.length:Int):=qd
             obtain⟨Fn,Dz,Az⟩:=Kd.at_bool (Kd.R_reads' Bz.out).2.2 Ag Ca Cb
             (try rw [← Fl.out]at Az)
             cases Dz
             replace Ca:=eq_true Ca
             replace Cb:=eq_true Cb
             go_wp2
             go_roundg k4
             case measure=>have:=Bw.out;have:=Bs.out;have:=Fh.out;have:=Cd.out;omega
             exact⟨(As),(wrap64 (Ag + 1)),qy2,H',⟨by have:=Bw.out;have:=Bs.out;have:=Fh.out;have:=Cd.out;omega⟩,⟨qR Af.out⟩,⟨qR Ay.out⟩,⟨qR Bz.out⟩,⟨qk Ac.out⟩,⟨qb⟩⟩
           ·as_aux_lemma =>
            rw [if_neg Ke]at H
            have Kw:=decide_eq_false Ke
            clear Ke
            have H':=y0.mk H
            clear H
            obtain⟨Uo,Up,Rf⟩:=Kd.R_slice Bz.out
            subst Rf
            go_wp2
            go_roundg k4
            case measure=>have:=Bw.out;have:=Bs.out;have:=Fh.out;have:=Cd.out;omega
            exact⟨(As),(wrap64 (Bb + 1)),qy2,H',⟨by have:=Bw.out;have:=Bs.out;have:=Fh.out;have:=Cd.out;omega⟩,⟨qR Af.out⟩,⟨qR (Kd.R_mono Ay.out (fun _ hk=>trivial))⟩,⟨qk Ac.out⟩,⟨qb⟩⟩
        ·replace Kp:=Bool.eq_false_iff.mpr Kp
         subst Kp
         replace H:=qF H
         have H':=y0.mk H
         clear H
         go_wp2
         go_roundg Nf
         case measure=>have:=Bw.out;have:=Bs.out;have:=Fh.out;omega
         exact⟨(Ci),(wrap64 (Ap + 1)),qy2,H',⟨by have:=Bw.out;have:=Bs.out;have:=Fh.out;omega⟩,⟨qR Af.out⟩,⟨qR Ay.out⟩,⟨qk Ac.out⟩,⟨qb⟩⟩
   ·as_aux_lemma =>
    rw [if_neg c8]at H
    have Iu:=decide_eq_false c8
    clear c8
    have H':=y0.mk H
    clear H
    obtain⟨Gc,Gd,Ge,Gf,Gg,Gh,Gi,Gj,Gk,Gl⟩:=qz5 Ac.out
    go_wp2
    go_loopg [3] k1 (fun kq v3 w'=>∃(Ci:List ByteArray),y0 (spec_l08Old.l3 kq Ci Ad Ak Am Ai Ab=some r)∧y0 (kq≤k1)∧y0 (Kd.R Kd.string 9 w' w.heap.size (fun _=>True) v3 Ci)∧y0 (w'.heap[Ba]?=some (.cells #[(.slice Bg Ad.length Bh),.int .i64 Ak,.string Am,(.slice Bi Ai.length Bj),(.slice Df Ab.length Bk)] 36 (0,0)))∧y0 (Below w.heap.size w w'))
    case atStart=>exact⟨(Fk),H',⟨Nat.le_refl _⟩,⟨qR Af.out⟩,⟨qk Ac.out⟩,⟨qb⟩⟩
    case round =>
     clear H'
     (try clear Iu Gc Gd Ge Gf Gg Gh Gi Gj Gk Gl)
     obtain⟨Ci,HA,Bs,Af,Ac,HB⟩:=hrel
     cases gk with
     | zero=>exact absurd HA.out (by simp [spec_l08Old.l3])
     | succ k2 =>
      have H:=HA.out
      clear HA
      simp only [spec_l08Old.l3]at H
      have H':=y0.mk H
      clear H
      go_wp2
      go_loopg [3,9,10] k2 (fun kq v3 v9 Uq w'=>∃(Fs:List ByteArray) (Ft:Bool) (Aa:Int),v9=.bool Ft∧Uq=.int .i64 Aa∧y0 (spec_l08Old.l4 kq Fs Ft Aa Ad Ak Am Ai Ab=some r)∧y0 (kq≤k2)∧y0 (Kd.R Kd.string 9 w' w.heap.size (fun _=>True) v3 Fs)∧y0 (w'.heap[Ba]?=some (.cells #[(.slice Bg Ad.length Bh),.int .i64 Ak,.string Am,(.slice Bi Ai.length Bj),(.slice Df Ab.length Bk)] 36 (0,0)))∧y0 (Below w.heap.size w w'))
      case atStart=>exact⟨(Ci),(false),(0),qy2,qy2,H',⟨Nat.le_refl _⟩,⟨qR Af.out⟩,⟨qk Ac.out⟩,⟨qb⟩⟩
      case round =>
       clear H'
       obtain⟨Fs,Ft,Aa,rfl,rfl,HA,Dr,Af,Ac,HB⟩:=hrel
       cases gk with
       | zero=>exact absurd HA.out (by simp [spec_l08Old.l4])
       | succ k3 =>
        have H:=HA.out
        clear HA
        simp only [spec_l08Old.l4]at H
        by_cases Kf:Aa < (Ab.length:Int)
        ·as_aux_lemma =>
         rw [if_pos Kf]at H
         have Ig:=decide_eq_true Kf
         clear Kf
         obtain⟨Sv,H⟩:=qo H
         have Lh:decide (0≤Aa)=true:=decide_eq_true Sv
         clear Sv
         have H':=y0.mk H
         clear H
         obtain⟨Gm,Gn,Gp,Gq,Gr,Gs,Gt,Gu,Gv,Gw⟩:=qz5 Ac.out
         have Gx:0≤(Aa:Int):=qd
         have Gz:Aa < (Ab.length:Int):=qd
         obtain⟨Du,Ec,Ce,Rg,Cs,Ct,Cu,Ex,Ey⟩:=at_T33 Cg.out Aa Gx Gz
         cases Rg
         replace Cs:=qC Cs HB
         replace Ct:=qC Ct HB
         replace Cu:=qC Cu HB
         have Ez:=y0.mk Ey
         have Ot:=y0.mk Ex
         clear Ey Ex
         replace Gx:=eq_true Gx
         replace Gz:=eq_true Gz
         go_wp2_with (first|((with_reducible refine y16 (N:=11) rfl ?_);refine qe 11 #[.int .i64 0,.string (⟨#[]⟩:ByteArray),.slice none 0 0] 33 ?_;intro Bx hg Vg hbox hb;replace Af:=y0.mk (Kd.R_below (qR Af.out) hb);have Aj:=y0.mk (hbox);have Sw:=y0.mk (qg (w:=w) hg);have Sx:=y0.mk (qg (w:=w) hg);replace HB:=y0.mk (y4 qb hb);have Au:=y0.mk (qn Ac.out hg);have Be:=y0.mk (qm Ac.out hg);replace Ac:=y0.mk (qK Ac.out hb);clear hb hbox hg;have Sy:=Be.out;have Sz:=Au.out;obtain⟨Ha,Hb,Hc,Hd,He,Hf⟩:=qz3 Aj.out))
         go_loopg [3,9,12] k3 (fun kq v3 v9 Ur w'=>∃(As:List ByteArray) (Db:Bool) (Ah:Int),v9=.bool Db∧Ur=.int .i64 Ah∧y0 (spec_l08Old.l5 kq As Db Aa Ah Ad Ak Am Ai Ab ((y18 Ab Aa).f0) ((y18 Ab Aa).f1) ((y18 Ab Aa).f2)=some r)∧y0 (kq≤k3)∧y0 (Kd.R Kd.string 9 w' w.heap.size (fun _=>True) v3 As)∧y0 (w'.heap[Ba]?=some (.cells #[(.slice Bg Ad.length Bh),.int .i64 Ak,.string Am,(.slice Bi Ai.length Bj),(.slice (some Du) Ab.length Bk)] 36 (0,0)))∧y0 (w'.heap[Bx]?=some (.cells #[.int .i64 ((y18 Ab Aa).f0),.string ((y18 Ab Aa).f1),(.slice Ec ((y18 Ab Aa).f2).length Ce)] 33 (0,0)))∧y0 (Below w.heap.size w w'))
         case atStart=>exact⟨(Fs),(Ft),(0),qy2,qy2,H',⟨Nat.le_refl _⟩,⟨qR (Kd.R_mono (qfR Bx (Kd.R_types Af.out Aj.out (by decide)) (.int .i64 ((y18 Ab Aa).f0)) (.string ((y18 Ab Aa).f1)) (.slice Ec ((y18 Ab Aa).f2).length Ce)) (fun _ hk=>trivial))⟩,⟨by(with_reducible repeat(first|refine y9 ?_ _|refine y8 ?_|refine y5 ?_ _));refine y10 ?_ Au.out _;refine y10 ?_ Au.out _;refine y10 ?_ Au.out _;(with_reducible repeat(first|refine y9 ?_ _|refine y8 ?_|refine y5 ?_ _));exact Ac.out⟩,⟨by(with_reducible repeat(first|refine y9 ?_ _|refine y8 ?_|refine y5 ?_ _));refine y11 (cs:=#[.int .i64 ((y18 Ab Aa).f0),.string ((y18 Ab Aa).f1),.slice none 0 0]) ?_ 2 _ rfl;refine y11 (cs:=#[.int .i64 ((y18 Ab Aa).f0),.string (⟨#[]⟩:ByteArray),.slice none 0 0]) ?_ 1 _ rfl;refine y11 (cs:=#[.int .i64 0,.string (⟨#[]⟩:ByteArray),.slice none 0 0]) ?_ 0 _ rfl;(with_reducible repeat(first|refine y9 ?_ _|refine y8 ?_|refine y5 ?_ _));exact Aj.out⟩,⟨qb⟩⟩
         case round =>
          clear H'
          (try clear Ig Lh Gm Gn Gp Gq Gr Ha Hb Hc Gs Gt Gu Gv Gw Hd He Hf Cs Ct Cu Gx Gz)
          obtain⟨As,Db,Ah,rfl,rfl,HA,Cd,Af,Ac,Aj,HB⟩:=hrel
          cases gk with
          | zero=>exact absurd HA.out (by simp [spec_l08Old.l5])
          | succ k4 =>
           have H:=HA.out
           clear HA
           simp only [spec_l08Old.l5]at H
           have Jp:=y0.mk H
           clear H
           go_upto_region 21 with(fail)
           go_cut [116] (fun Rh wc=>∃(kq:Nat) (Cv:Bool),Rh=.bool Cv∧y0 (spec_l08Old.j7 kq As Db Aa Ah Cv Ad Ak Am Ai Ab ((y18 Ab Aa).f0) ((y18 Ab Aa).f1) ((y18 Ab Aa).f2)=some r)∧y0 (kq≤k4)∧y0 (Kd.R Kd.string 9 wc w.heap.size (fun _=>True) u3 As)∧y0 (wc.heap[Ba]?=some (.cells #[(.slice Bg Ad.length Bh),.int .i64 Ak,.string Am,(.slice Bi Ai.length Bj),(.slice (some Du) Ab.length Bk)] 36 (0,0)))∧y0 (wc.heap[Bx]?=some (.cells #[.int .i64 ((y18 Ab Aa).f0),.string ((y18 Ab Aa).f1),(.slice Ec ((y18 Ab Aa).f2).length Ce)] 33 (0,0)))∧y0 (Below w.heap.size w wc))
           case first =>
            have H:=Jp.out
            clear Jp
            by_cases Kg:Ah < 2
            ·as_aux_lemma =>
             rw [if_pos Kg]at H
             have Dw:=decide_eq_true Kg
             clear Kg
             (first|rw [Dw]|(simp only [i64_w,i32_w];rw [Dw])|skip)
             by_cases Jq:((y18 Ab Aa).f0)=3
             ·as_aux_lemma =>
              rw [if_pos Jq]at H
              have Li:(((y18 Ab Aa).f0) == 3)=true:=beq_iff_eq.mpr Jq
              have Lj:(((y18 Ab Aa).f0) != 3)=false:=bne_eq_false_iff_eq.mpr Jq
              clear Jq
              have H':=y0.mk H
              clear H
              have Ta:=Be.out
              have Tc:=Au.out
              obtain⟨Ou,Ov,Ow,Ox,Oy,Oz⟩:=qz3 Aj.out
              go_wp2
              go_meet
              exact⟨_,((((y18 Ab Aa).f1).toList == ([61]:List UInt8))),qy2,H',⟨by have:=Bw.out;have:=Bs.out;have:=Dr.out;have:=Cd.out;first|omega|exact Nat.le_refl _⟩,⟨qR Af.out⟩,⟨qk Ac.out⟩,⟨qk Aj.out⟩,⟨qb⟩⟩
             ·as_aux_lemma =>
              rw [if_neg Jq]at H
              have Li:(((y18 Ab Aa).f0) == 3)=false:=beq_eq_false_iff_ne.mpr Jq
              have Lj:(((y18 Ab Aa).f0) != 3)=true:=bne_iff_ne.mpr Jq
              have H':=y0.mk H
              clear H
              have Td:=Be.out
              have Te:=Au.out
              obtain⟨Pa,Pb,Pc,Pd,Pe,Pf⟩:=qz3 Aj.out
              go_wp2
              go_meet
              exact⟨_,(false),qy2,H',⟨by have:=Bw.out;have:=Bs.out;have:=Dr.out;have:=Cd.out;first|omega|exact Nat.le_refl _⟩,⟨qR Af.out⟩,⟨qk Ac.out⟩,⟨qk Aj.out⟩,⟨qb⟩⟩
            ·as_aux_lemma =>
             rw [if_neg Kg]at H
             have Dw:=decide_eq_false Kg
             clear Kg
             (first|rw [Dw]|(simp only [i64_w,i32_w];rw [Dw])|skip)
             have H':=y0.mk H
             clear H
             go_wp2
             go_meet
             exact⟨_,(false),qy2,H',⟨by have:=Bw.out;have:=Bs.out;have:=Dr.out;have:=Cd.out;first|omega|exact Nat.le_refl _⟩,⟨qR Af.out⟩,⟨qk Ac.out⟩,⟨qk Aj.out⟩,⟨qb⟩⟩
           case rest =>
            clear Jp
            obtain⟨kq,Cv,rfl,HA,Cf,Af,Ac,Aj,HB⟩:=hcut
            cases kq with
            | zero=>exact absurd HA.out (by simp [spec_l08Old.j7])
            | succ Dc =>
             have H:=HA.out
             clear HA
             simp only [spec_l08Old.j7]at H
             by_cases Lk:Cv=true
             ·subst Lk
              replace H:=qT H
              obtain⟨Tf,H⟩:=qo H
              have Ll:decide (0≤Ah)=true:=decide_eq_true Tf
              clear Tf
              obtain⟨Tg,H⟩:=qo H
              have Lm:decide (Ah < (((y18 Ab Aa).f2).length:Int))=true:=decide_eq_true Tg
              clear Tg
              obtain⟨Bf,Fa⟩:∃ j_:Int,(wrap64 (1 - Ah))=j_:=⟨_,rfl⟩
              replace H:(if 0≤(Bf)then(if(Bf) < (((y18 Ab Aa).f2).length:Int)then(if 0≤(rd ((y18 Ab Aa).f2) Ah)then(if(rd ((y18 Ab Aa).f2) Ah) < (Ad.length:Int)then(if((y19 Ad (rd ((y18 Ab Aa).f2) Ah)).f0)=1 then((spec_l05In.f Dc As ((y19 Ad (rd ((y18 Ab Aa).f2) Ah)).f1)).bind fun Jr=>(if Jr=true then((z10_.f Dc Ad Ak Am Ai Ab (rd ((y18 Ab Aa).f2) (Bf)) 5 7).bind fun Hg=>(spec_l08Old.j8 Dc As Db Aa Ah (rd ((y18 Ab Aa).f2) (Bf)) Hg Ad Ak Am Ai Ab ((y18 Ab Aa).f0) ((y18 Ab Aa).f1) ((y18 Ab Aa).f2)))else(spec_l08Old.j8 Dc As Db Aa Ah (rd ((y18 Ab Aa).f2) (Bf)) true Ad Ak Am Ai Ab ((y18 Ab Aa).f0) ((y18 Ab Aa).f1) ((y18 Ab Aa).f2))))else(spec_l08Old.j8 Dc As Db Aa Ah (rd ((y18 Ab Aa).f2) (Bf)) true Ad Ak Am Ai Ab ((y18 Ab Aa).f0) ((y18 Ab Aa).f1) ((y18 Ab Aa).f2)))else(none))else(none))else(none))else(none))=some r:=by first|(rw [Fa]at H;exact H)|(simp only [Fa]at H ⊢;exact H)
              have hji62w:(IntKind.i64.wrap (1 - Ah))=Bf:=(i64_w _).trans Fa
              obtain⟨Th,H⟩:=qo H
              have Ln:decide (0≤(Bf))=true:=decide_eq_true Th
              clear Th
              obtain⟨Ti,H⟩:=qo H
              have Lo:decide ((Bf) < (((y18 Ab Aa).f2).length:Int))=true:=decide_eq_true Ti
              clear Ti
              have Js:=y0.mk H
              clear H
              try go_wp2
              replace Af:=y0.mk (Kd.R_drew Af.out)
              replace Ac:=y0.mk (y8 Ac.out)
              replace Aj:=y0.mk (y8 Aj.out)
              replace HB:=y0.mk (y2 HB.out)
              have Hh:0≤(Ah:Int):=qd
              have Hi:Ah < (((y18 Ab Aa).f2).length:Int):=qd
              obtain⟨De,Ri,Bq⟩:=Kd.at_int Ez.out Ah Hh Hi
              have Fb:=Bq
              cases Ri
              replace Bq:=qC Bq HB
              replace Hh:=eq_true Hh
              replace Hi:=eq_true Hi
              have Hj:0≤((Bf):Int):=qd
              have Hk:(Bf) < (((y18 Ab Aa).f2).length:Int):=qd
              obtain⟨Lp,Rj,Br⟩:=Kd.at_int Ez.out (Bf) Hj Hk
              have Fc:=Br
              obtain rfl:De=Lp:=(by injection Rj)
              replace Br:=qC Br HB
              replace Hj:=eq_true Hj
              replace Hk:=eq_true Hk
              refine start_ (n:=13) (S:=fun w'=>w'.cell? ⟨Bx,0,none⟩=some (.int .i64 ((y18 Ab Aa).f0))∧w'.cell? ⟨Bx,1,none⟩=some (.string ((y18 Ab Aa).f1))∧w'.cell? ⟨Bx,2,none⟩=some (.slice (some De) ((y18 Ab Aa).f2).length Ce)∧w'.cell? (De.add (Ah).toNat)=some (.int .i64 (rd ((y18 Ab Aa).f2) Ah))∧w'.cell? (De.add ((Bf)).toNat)=some (.int .i64 (rd ((y18 Ab Aa).f2) (Bf)))) (ds:=[]) (fl_ 13 0) (by kernel_rfl) rfl rfl ⟨(y7 Aj.out 0).trans rfl,(y7 Aj.out 1).trans rfl,(y7 Aj.out 2).trans rfl,(qC Fb HB),(qC Fc HB)⟩ (fun hHeld=>?_);refine with_tabW spec_l08Old.tab23 spec_l08Old.bits23 (fun HT_ HW_=>?_)
              generalize wc.drew=Vh at Af Ac Aj HB Bq Br hHeld ⊢
              refine qp 0 119 (fl_ 13 1) ?_
              refine qp 2 121 (fl_ 13 5) ?_
              refine qp 5 124 (fl_ 13 37) ?_
              refine qp 7 126 (fl_ 13 165) ?_
              refine qp 8 127 (fl_ 13 421) ?_
              refine qt 1 120 (fl_ 13 423) hHeld ?_
              refine qp 3 122 (fl_ 13 431) ?_
              refine qt 4 123 (fl_ 13 447) hHeld ?_
              refine qp 11 13 (fl_ 13 2495) ?_
              refine qt 6 125 (fl_ 13 2559) hHeld ?_
              refine qp 9 128 (fl_ 13 3071) ?_
              refine qt 10 129 (fl_ 13 4095) hHeld ?_
              refine qp 12 14 (fl_ 13 8191) ?_
              refine done_ (done_of HT_.out (by kernel_rfl)) ?_
              go_upto_region 24 with(fail)
              go_cut [152] (fun Rl wc=>∃(kq:Nat) (Cw:Bool),Rl=.bool Cw∧y0 (spec_l08Old.j8 kq As Db Aa Ah (rd ((y18 Ab Aa).f2) (Bf)) Cw Ad Ak Am Ai Ab ((y18 Ab Aa).f0) ((y18 Ab Aa).f1) ((y18 Ab Aa).f2)=some r)∧y0 (kq≤Dc)∧y0 (Kd.R Kd.string 9 wc w.heap.size (fun _=>True) u3 As)∧y0 (wc.heap[Ba]?=some (.cells #[(.slice Bg Ad.length Bh),.int .i64 Ak,.string Am,(.slice Bi Ai.length Bj),(.slice (some Du) Ab.length Bk)] 36 (0,0)))∧y0 (wc.heap[Bx]?=some (.cells #[.int .i64 ((y18 Ab Aa).f0),.string ((y18 Ab Aa).f1),(.slice (some De) ((y18 Ab Aa).f2).length Ce)] 33 (0,0)))∧y0 (Below w.heap.size w wc))
              case first =>
               have H:=Js.out
               clear Js
               obtain⟨Tj,H⟩:=qo H
               have Ih:decide (0≤(rd ((y18 Ab Aa).f2) Ah))=true:=decide_eq_true Tj
               clear Tj
               (first|rw [Ih]|(simp only [i64_w,i32_w];rw [Ih])|skip)
               obtain⟨Tk,H⟩:=qo H
               have Tl:decide ((rd ((y18 Ab Aa).f2) Ah) < (Ad.length:Int))=true:=decide_eq_true Tk
               clear Tk
               have Tm:=Au.out
               have Tn:=Be.out
               obtain⟨Pg,Ph,Pj,Pk,Pm,Pn,Po,Pp,Pq,Pr⟩:=qz5 Ac.out
               have Jt:0≤((rd ((y18 Ab Aa).f2) Ah):Int):=qd
               have Ju:(rd ((y18 Ab Aa).f2) Ah) < (Ad.length:Int):=qd
               obtain⟨Lq,Rn,Ro,Rp,Dm,Do,Cx,Fd,Fe⟩:=at_T63 Bv.out (rd ((y18 Ab Aa).f2) Ah) Jt Ju
               cases Rp
               replace Dm:=qC Dm HB
               replace Do:=qC Do HB
               replace Cx:=qC Cx HB
               have Ps:=y0.mk Fe
               have Pt:=y0.mk Fd
               clear Fe Fd
               replace Jt:=eq_true Jt
               replace Ju:=eq_true Ju
               by_cases Jv:((y19 Ad (rd ((y18 Ab Aa).f2) Ah)).f0)=1
               ·as_aux_lemma =>
                rw [if_pos Jv]at H
                have Lr:(((y19 Ad (rd ((y18 Ab Aa).f2) Ah)).f0) == 1)=true:=beq_iff_eq.mpr Jv
                have Ls:(((y19 Ad (rd ((y18 Ab Aa).f2) Ah)).f0) != 1)=false:=bne_eq_false_iff_eq.mpr Jv
                clear Jv
                obtain⟨Jr,To,H⟩:=qB H
                have Jw:0≤((rd ((y18 Ab Aa).f2) Ah):Int):=qd
                have Jx:(rd ((y18 Ab Aa).f2) Ah) < (Ad.length:Int):=qd
                obtain⟨Lt,Rq,Rs,Rt,Dp,Dq,Cy,Ff,Fg⟩:=at_T63 Bv.out (rd ((y18 Ab Aa).f2) Ah) Jw Jx
                obtain rfl:Lq=Lt:=(by injection Rt)
                replace Dp:=qC Dp HB
                replace Dq:=qC Dq HB
                replace Cy:=qC Cy HB
                have Pu:=y0.mk Fg
                have Pv:=y0.mk Ff
                clear Fg Ff
                replace Jw:=eq_true Jw
                replace Jx:=eq_true Jx
                have ea_:=Option.some.inj (Cx.symm.trans Cy)
                injection ea_ with ea_ en_ ec_
                subst ea_
                subst ec_
                clear en_
                obtain⟨Us,Ut,Ru⟩:=Kd.R_slice Af.out
                subst Ru
                by_cases Px:Jr=true
                ·subst Px
                 replace H:=qT H
                 obtain⟨Hg,Uu,H⟩:=qB H
                 have H':=y0.mk H
                 clear H
                 go_wp2_with (first|(go_at_call 39;(with_reducible refine(spec_l05In.calls Dc _ _ As ((y19 Ad (rd ((y18 Ab Aa).f2) Ah)).f1) true _ (qc ((Kd.R_reads' Af.out).2.2)) (by exact(Kd.R_reads' Af.out).2.1) To.out).mono ?_);rintro e w' ⟨rfl,⟨nd,rfl⟩⟩)|(go_at_call 43;(with_reducible refine(z10_.calls Dc _ _ Ad Ak Am _ _ Ai _ _ Ab (rd ((y18 Ab Aa).f2) (Bf)) 5 7 Hg _ (qc (Kd.C_below Bv.out qb)) Ef.out (qc (Kd.C_below Eg.out qb)) Eh.out (qc (Kd.C_below Cg.out qb)) Ei.out Uu.out).mono ?_);rintro e Vi ⟨rfl,hb⟩;replace Af:=y0.mk (Kd.R_below (qR Af.out) hb);replace Ac:=y0.mk (qK Ac.out hb);replace Aj:=y0.mk (qK Aj.out hb);replace HB:=y0.mk (y4 qb hb);(try clear hb)))
                 go_meet
                 exact⟨_,(Hg),qy2,H',⟨by have:=Bw.out;have:=Bs.out;have:=Dr.out;have:=Cd.out;have:=Cf.out;first|omega|exact Nat.le_refl _⟩,⟨qR Af.out⟩,⟨qk Ac.out⟩,⟨qk Aj.out⟩,⟨qb⟩⟩
                ·replace Px:=Bool.eq_false_iff.mpr Px
                 subst Px
                 replace H:=qF H
                 have H':=y0.mk H
                 clear H
                 go_wp2_with (first|(go_at_call 39;(with_reducible refine(spec_l05In.calls Dc _ _ As ((y19 Ad (rd ((y18 Ab Aa).f2) Ah)).f1) false _ (qc ((Kd.R_reads' Af.out).2.2)) (by exact(Kd.R_reads' Af.out).2.1) To.out).mono ?_);rintro e w' ⟨rfl,⟨nd,rfl⟩⟩))
                 go_meet
                 exact⟨_,(true),qy2,H',⟨by have:=Bw.out;have:=Bs.out;have:=Dr.out;have:=Cd.out;have:=Cf.out;first|omega|exact Nat.le_refl _⟩,⟨qR Af.out⟩,⟨qk Ac.out⟩,⟨qk Aj.out⟩,⟨qb⟩⟩
               ·as_aux_lemma =>
                rw [if_neg Jv]at H
                have Lr:(((y19 Ad (rd ((y18 Ab Aa).f2) Ah)).f0) == 1)=false:=beq_eq_false_iff_ne.mpr Jv
                have Ls:(((y19 Ad (rd ((y18 Ab Aa).f2) Ah)).f0) != 1)=true:=bne_iff_ne.mpr Jv
                have H':=y0.mk H
                clear H
                go_wp2
                go_meet
                exact⟨_,(true),qy2,H',⟨by have:=Bw.out;have:=Bs.out;have:=Dr.out;have:=Cd.out;have:=Cf.out;first|omega|exact Nat.le_refl _⟩,⟨qR Af.out⟩,⟨qk Ac.out⟩,⟨qk Aj.out⟩,⟨qb⟩⟩
              case rest =>
               clear Js
               (try clear Lk Ll Lm Ln Lo Bq Br Hh Hj Hi Hk)
               obtain⟨kq,Cw,rfl,HA,Dx,Af,Ac,Aj,HB⟩:=hcut
               cases kq with
               | zero=>exact absurd HA.out (by simp [spec_l08Old.j8])
               | succ Hl =>
                have H:=HA.out
                clear HA
                simp only [spec_l08Old.j8]at H
                by_cases Lu:Cw=true
                ·subst Lu
                 replace H:=qT H
                 have H':=y0.mk H
                 clear H
                 go_wp2
                 go_roundg Hl
                 case measure=>have:=Bw.out;have:=Bs.out;have:=Dr.out;have:=Cd.out;have:=Cf.out;have:=Dx.out;omega
                 exact⟨(As),(Db),(wrap64 (Ah + 1)),qy2,qy2,H',⟨by have:=Bw.out;have:=Bs.out;have:=Dr.out;have:=Cd.out;have:=Cf.out;have:=Dx.out;omega⟩,⟨qR Af.out⟩,⟨qk Ac.out⟩,⟨qk Aj.out⟩,⟨qb⟩⟩
                ·replace Lu:=Bool.eq_false_iff.mpr Lu
                 subst Lu
                 replace H:=qF H
                 obtain⟨Bu,Uv,H⟩:=qB H
                 have H':=y0.mk H
                 clear H
                 have Tp:=Au.out
                 have Tq:=Be.out
                 obtain⟨Hm,Hn,Ho,Hp,Hq,Hr,Hs,Ht,Hu,Hv⟩:=qz5 Ac.out
                 go_wp2_with (first|((with_reducible refine y15 (f:=24) rfl ?_);refine y17 (some 155) rfl rfl Try.func24 (by kernel_rfl) rfl #[.agg #[.slice Bg Ad.length Bh,.int .i64 Ak,.string Am,.slice Bi Ai.length Bj,.slice (some Du) Ab.length Bk],.int .i64 (rd ((y18 Ab Aa).f2) (Bf))] rfl (by(try simp only [qM_,List.map_cons,List.map_nil]);first|done|(simp only [Fa];rfl)|rfl|(simp only [qD_,qT_];rfl)) ?_;(with_reducible refine(spec_l06Vars.calls Hl _ _ Ad Ak Am _ _ Ai _ _ Ab (rd ((y18 Ab Aa).f2) (Bf)) Bu _ (qc (Kd.C_below Bv.out HB.out)) Ef.out (qc (Kd.C_below Eg.out HB.out)) Eh.out (qc (Kd.C_below Cg.out HB.out)) Ei.out Uv.out).mono ?_);rintro e Vj ⟨Lv,rfl,Fx,hb⟩;refine⟨_,rfl, ?_⟩;have Lw:=y0.mk (Kd.R_lower (Kd.R_new' Fx (Kd.R_lt (qR Af.out))) (y3 qb));replace Af:=y0.mk (Kd.R_elder' (qR Af.out) (Kd.R_base Fx) hb);replace Ac:=y0.mk (qK Ac.out hb);replace Aj:=y0.mk (qK Aj.out hb);replace HB:=y0.mk (y4 qb hb);(try clear hb);(try clear Fx)))
                 go_loopg [3,9,16] Hl (fun kq v3 v9 Uw w'=>∃(Cj:List ByteArray) (Fu:Bool) (Ar:Int),v9=.bool Fu∧Uw=.int .i64 Ar∧y0 (spec_l08Old.l6 kq Cj Fu Aa Ah Bu Ar Ad Ak Am Ai Ab ((y18 Ab Aa).f0) ((y18 Ab Aa).f1) ((y18 Ab Aa).f2)=some r)∧y0 (kq≤Hl)∧y0 (Kd.R Kd.string 9 w' w.heap.size (fun k_=>some k_≠(Lv:Value).ownBlock) v3 Cj)∧y0 (Kd.R Kd.string 9 w' w.heap.size (fun k_=>some k_≠(v3:Value).ownBlock) Lv Bu)∧y0 (w'.heap[Ba]?=some (.cells #[(.slice Bg Ad.length Bh),.int .i64 Ak,.string Am,(.slice Bi Ai.length Bj),(.slice (some Du) Ab.length Bk)] 36 (0,0)))∧y0 (w'.heap[Bx]?=some (.cells #[.int .i64 ((y18 Ab Aa).f0),.string ((y18 Ab Aa).f1),(.slice (some De) ((y18 Ab Aa).f2).length Ce)] 33 (0,0)))∧y0 (Below w.heap.size w w'))
                 case atStart=>exact⟨(As),(Db),(0),qy2,qy2,H',⟨Nat.le_refl _⟩,⟨qR (Kd.R_mono Af.out (fun _ hk=>hk.2))⟩,⟨qR (Kd.R_mono Lw.out (fun _ hk=>hk.2))⟩,⟨qk Ac.out⟩,⟨qk Aj.out⟩,⟨qb⟩⟩
                 case round =>
                  clear H'
                  (try clear Lu Hm Hn Ho Hp Hq Hr Hs Ht Hu Hv)
                  obtain⟨Cj,Fu,Ar,rfl,rfl,HA,Kh,Af,Bl,Ac,Aj,HB⟩:=hrel
                  cases gk with
                  | zero=>exact absurd HA.out (by simp [spec_l08Old.l6])
                  | succ k7 =>
                   have H:=HA.out
                   clear HA
                   simp only [spec_l08Old.l6]at H
                   by_cases Ki:Ar < (Bu.length:Int)
                   ·as_aux_lemma =>
                    rw [if_pos Ki]at H
                    have Lx:=decide_eq_true Ki
                    clear Ki
                    obtain⟨Tr,H⟩:=qo H
                    have Ts:decide (0≤Ar)=true:=decide_eq_true Tr
                    clear Tr
                    obtain⟨Rv,Tt,H⟩:=qB H
                    by_cases Py:Rv=true
                    ·subst Py
                     replace H:=qT H
                     have H':=y0.mk H
                     clear H
                     obtain⟨Ux,Uy,Rw⟩:=Kd.R_slice Bl.out
                     subst Rw
                     have Ed:0≤(Ar:Int):=qd
                     have Ee:Ar < (Bu.length:Int):=qd
                     obtain⟨Fv,Jy,Hw⟩:=Kd.at_string (Kd.R_reads' Bl.out).2.2 Ar Ed Ee
                     cases Jy
                     replace Ed:=eq_true Ed
                     replace Ee:=eq_true Ee
                     obtain⟨Rx,Ry,Rz⟩:=Kd.R_slice Af.out
                     subst Rz
                     go_wp2_with (first|((with_reducible refine y15 (f:=39) rfl ?_);refine y17 (some 167) rfl rfl Try.func39 (by kernel_rfl) rfl #[.slice Rx Cj.length Ry,.string (rdOf ByteArray.empty Bu Ar)] rfl qy1 ?_;(with_reducible refine(spec_l05In.calls k7 _ _ Cj (rdOf ByteArray.empty Bu Ar) true _ (qc ((Kd.R_reads' Af.out).2.2)) (by exact(Kd.R_reads' Af.out).2.1) Tt.out).mono ?_);rintro e w' ⟨rfl,⟨nd,rfl⟩⟩;refine⟨_,rfl, ?_⟩))
                     go_roundg k7
                     case measure=>have:=Bw.out;have:=Bs.out;have:=Dr.out;have:=Cd.out;have:=Cf.out;have:=Dx.out;have:=Kh.out;omega
                     exact⟨(Cj),(Fu),(wrap64 (Ar + 1)),qy2,qy2,H',⟨by have:=Bw.out;have:=Bs.out;have:=Dr.out;have:=Cd.out;have:=Cf.out;have:=Dx.out;have:=Kh.out;omega⟩,⟨qR Af.out⟩,⟨qR Bl.out⟩,⟨qk Ac.out⟩,⟨qk Aj.out⟩,⟨qb⟩⟩
                    ·replace Py:=Bool.eq_false_iff.mpr Py
                     subst Py
                     replace H:=qF H
                     obtain⟨Tu,H⟩:=qo H
                     replace Tu:=y0.mk Tu
                     obtain⟨Lz,Dy⟩:∃ y_:List ByteArray,y_=(Cj ++ [rdOf ByteArray.empty Bu Ar]):=⟨_,rfl⟩
                     replace H:(spec_l08Old.l6 k7 Lz true Aa Ah Bu (wrap64 (Ar + 1)) Ad Ak Am Ai Ab ((y18 Ab Aa).f0) ((y18 Ab Aa).f1) ((y18 Ab Aa).f2))=some r:=by first|exact Dy ▸ H|exact Dy ▸ (Option.bind_some _ _).symm.trans H
                     replace Dy:=y0.mk Dy
                     have H':=y0.mk H
                     clear H
                     obtain⟨Uz,Sa,Sb⟩:=Kd.R_slice Bl.out
                     subst Sb
                     have Ed:0≤(Ar:Int):=qd
                     have Ee:Ar < (Bu.length:Int):=qd
                     obtain⟨Fv,Jy,Hw⟩:=Kd.at_string (Kd.R_reads' Bl.out).2.2 Ar Ed Ee
                     cases Jy
                     replace Ed:=eq_true Ed
                     replace Ee:=eq_true Ee
                     obtain⟨Mb,Mc,Sc⟩:=Kd.R_slice Af.out
                     subst Sc
                     go_wp2_with (first|((with_reducible refine y15 (f:=39) rfl ?_);refine y17 (some 167) rfl rfl Try.func39 (by kernel_rfl) rfl #[.slice Mb Cj.length Mc,.string (rdOf ByteArray.empty Bu Ar)] rfl qy1 ?_;(with_reducible refine(spec_l05In.calls k7 _ _ Cj (rdOf ByteArray.empty Bu Ar) false _ (qc ((Kd.R_reads' Af.out).2.2)) (by exact(Kd.R_reads' Af.out).2.1) Tt.out).mono ?_);rintro e w' ⟨rfl,⟨nd,rfl⟩⟩;refine⟨_,rfl, ?_⟩;have Jz:0≤(Ar:Int):=qd;have Ka:Ar < (Bu.length:Int):=qd;obtain⟨Md,Sd,Pz⟩:=Kd.at_string (Kd.R_reads' Bl.out).2.2 Ar Jz Ka;obtain rfl:Fv=Md:=(by injection Sd);replace Jz:=eq_true Jz;replace Ka:=eq_true Ka)|((with_reducible refine gate_builtin (b:=.append) (xs:=#[.tmp 169,.tmp 174]) rfl ?_);at_builtin;refine Kd.R_append Kd.string (w0:=w) w.heap.size rfl (.tmp 169) (.tmp 174) 30 9 (.string ⟨#[]⟩) 16 rfl Try.underlying30 info9 rfl (by decide) (by omega) (.slice Mb Cj.length Mc) Cj (rdOf ByteArray.empty Bu Ar) [.string (rdOf ByteArray.empty Bu Ar)] (fun k_=>some k_≠(.slice (some Fv) Bu.length Sa:Value).ownBlock) (fun _=>False) rfl rfl ?aP (fun _ hk=>hk.elim) ?aF ?aO ?aB ?aS ?aL ?_;(case aP=>exact rfl);(case aB=>exact qb);(case aF=>exact(fun k_ hk=>Kd.fresh' (Kd.R_lt (qR Bl.out)) k_ hk));(case aO=>exact(qR Af.out));(case aS=>exact(y3 qb));(case aL=>have:=Tu.out;omega);intro Va Vk ho hb hg hat;rw [← Dy.out]at ho;replace Bl:=y0.mk (Kd.R_after (ok:=(fun _=>True)) (qR (Kd.R_mono Bl.out (fun _ hk=>⟨trivial,hk⟩))) hg hat);replace Ac:=y0.mk (blk_grown (qk Ac.out) hg (Kd.R_ne Af.out Ac.out (by decide)));replace Aj:=y0.mk (blk_grown (qk Aj.out) hg (Kd.R_ne Af.out Aj.out (by decide)));replace HB:=y0.mk (hb);have Me:=y0.mk (ho);clear Af;clear ho hb hg hat))
                     go_roundg k7
                     case measure=>have:=Bw.out;have:=Bs.out;have:=Dr.out;have:=Cd.out;have:=Cf.out;have:=Dx.out;have:=Kh.out;omega
                     exact⟨(Lz),(true),(wrap64 (Ar + 1)),qy2,qy2,H',⟨by have:=Bw.out;have:=Bs.out;have:=Dr.out;have:=Cd.out;have:=Cf.out;have:=Dx.out;have:=Kh.out;omega⟩,⟨qR Me.out⟩,⟨qR (Kd.R_mono Bl.out (fun _ hk=>hk.2))⟩,⟨qk Ac.out⟩,⟨qk Aj.out⟩,⟨qb⟩⟩
                   ·as_aux_lemma =>
                    rw [if_neg Ki]at H
                    have Lx:=decide_eq_false Ki
                    clear Ki
                    have H':=y0.mk H
                    clear H
                    obtain⟨Vb,Vc,Se⟩:=Kd.R_slice Bl.out
                    subst Se
                    go_wp2
                    go_roundg k7
                    case measure=>have:=Bw.out;have:=Bs.out;have:=Dr.out;have:=Cd.out;have:=Cf.out;have:=Dx.out;have:=Kh.out;omega
                    exact⟨(Cj),(Fu),(wrap64 (Ah + 1)),qy2,qy2,H',⟨by have:=Bw.out;have:=Bs.out;have:=Dr.out;have:=Cd.out;have:=Cf.out;have:=Dx.out;have:=Kh.out;omega⟩,⟨qR (Kd.R_mono Af.out (fun _ hk=>trivial))⟩,⟨qk Ac.out⟩,⟨qk Aj.out⟩,⟨qb⟩⟩
             ·replace Lk:=Bool.eq_false_iff.mpr Lk
              subst Lk
              replace H:=qF H
              have H':=y0.mk H
              clear H
              go_wp2
              go_roundg Dc
              case measure=>have:=Bw.out;have:=Bs.out;have:=Dr.out;have:=Cd.out;have:=Cf.out;omega
              exact⟨(As),(Db),(wrap64 (Aa + 1)),qy2,qy2,H',⟨by have:=Bw.out;have:=Bs.out;have:=Dr.out;have:=Cd.out;have:=Cf.out;omega⟩,⟨qR Af.out⟩,⟨qk Ac.out⟩,⟨qb⟩⟩
        ·as_aux_lemma =>
         rw [if_neg Kf]at H
         have Ig:=decide_eq_false Kf
         clear Kf
         by_cases Qa:Ft=true
         ·subst Qa
          replace H:=qT H
          have H':=y0.mk H
          clear H
          obtain⟨Qb,Qc,Qd,Qe,Qf,Qg,Qh,Qi,Qj,Qk⟩:=qz5 Ac.out
          go_wp2
          go_roundg k3
          case measure=>have:=Bw.out;have:=Bs.out;have:=Dr.out;omega
          exact⟨(Fs),H',⟨by have:=Bw.out;have:=Bs.out;have:=Dr.out;omega⟩,⟨qR Af.out⟩,⟨qk Ac.out⟩,⟨qb⟩⟩
         ·replace Qa:=Bool.eq_false_iff.mpr Qa
          subst Qa
          replace H:=qF H
          obtain rfl:=Option.some.inj H
          obtain⟨Mf,Mg,Mh,Mi,Mj,Ml,Mm,Mn,Mo,Mp⟩:=qz5 Ac.out
          go_wp2
          go_ret
          exact⟨_,by first|rfl|(simp [y12,y13] <;> rfl)|(simp [*,y12,y13] <;> rfl),by(with_reducible repeat(first|apply Kd.R_alloc|apply Kd.R_drewN|apply Kd.R_drew));exact Af.out,qb⟩
end Go.Proofs.Ytkdabljlfbmpdaa.Pw
