-- Cut by prune.py.
import Derived.Test.YtkdabljlfbmpdaaVgrPwx6
namespace Go.Proofs.Ytkdabljlfbmpdaa.Pw
open RowKit YtkdabljlfbmpdaaW.PrintWords YtkdabljlfbmpdaaW.PrintLast YtkdabljlfbmpdaaW.PrintMore
set_option linter.unusedVariables false
set_option linter.unusedSimpArgs false
mutual
def z11_.l0:Nat→List Bool→Int→List (S63)→Int→ByteArray→List Int→List (S33)→Option (List Bool)
 | 0,_,_,_,_,_,_,_=>none
 | k + 1,x3,x4,Ae,Al,An,Ao,Aq=>if x4≥0 then(z11_.l1 k x3 x4 0 Ae Al An Ao Aq)else(some x3)
def z11_.l1:Nat→List Bool→Int→Int→List (S63)→Int→ByteArray→List Int→List (S33)→Option (List Bool)
 | 0,_,_,_,_,_,_,_,_=>none
 | k + 1,x3,x4,x5,Ae,Al,An,Ao,Aq=>if 0≤x4 then(if x4 < (Ae.length:Int)then(if x5 < (((y19 Ae x4).f2).length:Int)then(if 0≤x5 then(if x4 < (x3.length:Int)then(if rdOf false x3 x4=true then(if 0≤(rd ((y19 Ae x4).f2) x5)then(if(rd ((y19 Ae x4).f2) x5) < (x3.length:Int)then(z11_.l1 k (x3.set ((rd ((y19 Ae x4).f2) x5):Int).toNat true) x4 (wrap64 (x5 + 1)) Ae Al An Ao Aq)else(none))else(none))else((spec_l06Calc.f ((y19 Ae x4).f0)).bind fun By=>(if 0≤(rd ((y19 Ae x4).f2) x5)then(if(rd ((y19 Ae x4).f2) x5) < (x3.length:Int)then(z11_.l1 k (x3.set ((rd ((y19 Ae x4).f2) x5):Int).toNat By) x4 (wrap64 (x5 + 1)) Ae Al An Ao Aq)else(none))else(none))))else(none))else(none))else(z11_.l0 k x3 (wrap64 (x4 - 1)) Ae Al An Ao Aq))else(none))else(none)
end
def z11_.f (k:Nat) (Ae:List (S63)) (Al:Int) (An:ByteArray) (Ao:List Int) (Aq:List (S33)):Option (List Bool):=if 0≤(Ae.length:Int)then(if((Ae.length:Int):Int).toNat≤281474976710656 then(z11_.l0 k (List.replicate ((Ae.length:Int):Int).toNat false) (wrap64 ((Ae.length:Int) - 1)) Ae Al An Ao Aq)else(none))else(none)
def z11_.T8:Bool×List (List Nat×List Nat):=(true,[([],[]),([],[]),([1],[1]),([],[]),([2,3],[2,3]),([4],[4]),([5],[5]),([],[]),([6,7],[6,7]),([8],[8]),([],[]),([],[]),([10,11],[10,11]),([12],[12]),([13],[13]),([14],[14]),([15,14],[14,15]),([14],[14]),([16,17,14],[14,16,17]),([18,14],[14,18]),([19,14],[14,19]),([20,14,14],[14,20]),([14,21],[14,21]),([0,9,0,1,2,3,4,5,6,7,8,9,10,11,12,13,14,15,16,17,18,19,20,21,22],[0,9]),([23,22,21,0,1,2,3,4,5,6,7,8,9,10,11,12,13,14,15,16,17,18,19,20,21,22],[22,23])])
def z11_.B8:List Nat:=[0,0,2,0,14,30,62,0,254,510,0,0,3072,7168,15360,31744,64512,31744,261120,523264,1047552,2096128,4193280,8388607,16777215]
theorem z11_.tab8:rtab .any (opsOf Try.f58 8)=z11_.T8:=by kernel_rfl
theorem z11_.bits8:waitsOk z11_.T8.2 z11_.B8=true:=by kernel_rfl
set_option maxHeartbeats 8000000 in
set_option maxRecDepth 100000 in
theorem z11_.calls (k:Nat) (Cm:Option Addr) (Bw:Nat) (Ab:List (S63)) (Be:Int) (Bf:ByteArray) (Bx:Option Addr) (Bz:Nat) (Ba:List Int) (Ca:Option Addr) (Cb:Nat) (Bb:List (S33)) (r:List Bool) (w:World) (Cx:Kd.C k63 w Cm Ab.length Ab) (Cy:Ab.length≤Bw) (Cz:Kd.C (Kd.int .i64) w Bx Ba.length Ba) (Da:Ba.length≤Bz) (Db:Kd.C k33 w Ca Bb.length Bb) (Dc:Bb.length≤Cb) (h:z11_.f k Ab Be Bf Ba Bb=some r) :
  Calls Try.prog 58 #[.agg #[.slice Cm Ab.length Bw,.int .i64 Be,.string Bf,.slice Bx Ba.length Bz,.slice Ca Bb.length Cb]] w fun e w'=>∃ v0_:Value,e=.returned (v0_)∧Kd.R Kd.bool 4 w' w.heap.size (fun _=>True) v0_ r∧Below w.heap.size w w':=by
 have Il:=Try.underlying36
 have Bq:=y0.mk Cx
 have Hp:=y0.mk Cy
 clear Cx Cy
 have Hq:=y0.mk Cz
 have Hr:=y0.mk Da
 clear Cz Da
 have Hs:=y0.mk Db
 have Ht:=y0.mk Dc
 clear Db Dc
 have HB:=y0.mk (Below.refl w.heap.size w)
 have H:(if 0≤(Ab.length:Int)then(if((Ab.length:Int):Int).toNat≤281474976710656 then(z11_.l0 k (List.replicate ((Ab.length:Int):Int).toNat false) (wrap64 ((Ab.length:Int) - 1)) Ab Be Bf Ba Bb)else(none))else(none))=some r:=h
 clear h
 obtain⟨c2,H⟩:=qo H
 have Gu:=eq_true c2
 have Gv:=decide_eq_true c2
 clear c2
 obtain⟨c3,H⟩:=qo H
 have Gw:=eq_true c3
 have Gx:=decide_eq_true c3
 clear c3
 obtain⟨Eq,Bt⟩:∃ y_:List Bool,y_=(List.replicate ((Ab.length:Int):Int).toNat false):=⟨_,rfl⟩
 replace H:(z11_.l0 k Eq (wrap64 ((Ab.length:Int) - 1)) Ab Be Bf Ba Bb)=some r:=by first|exact Bt ▸ H|exact Bt ▸ (Option.bind_some _ _).symm.trans H
 replace Bt:=y0.mk Bt
 have H':=y0.mk H
 clear H
 go_enter Try.func58,Try.ntmps58
 go_wp2_with (first|((with_reducible refine y16 (N:=1) rfl ?_);refine qe 1 #[.slice Cm Ab.length Bw,.int .i64 Be,.string Bf,.slice Bx Ba.length Bz,.slice Ca Bb.length Cb] 36 ?_;intro Az hg w4 hbox hb;have Ac:=y0.mk (hbox);have Hu:=y0.mk (qg (w:=w) hg);have De:=y0.mk (qg (w:=w) hg);replace HB:=y0.mk (y4 qb hb);clear hb hbox hg;obtain⟨Dh,Di,Dj,Dk,Dl,Dm,Do,Dp,Dq,Dr⟩:=qz5 Ac.out)|((with_reducible refine y16 (N:=9) rfl ?_);refine Kd.R_make Kd.bool _ 4 rfl (N:=9) rfl 75 _ _ rfl (Ab.length:Int) rfl rfl Try.underlying75 (.bool false) 1 info4 rfl (by decide) (by omega) false (ok:=fun _=>True) (okp:=fun _=>True) rfl (fun _ hk=>hk) trivial (of_decide_eq_true qy0) (Nat.le_trans (Nat.mul_le_mul_right _ (of_decide_eq_true qy0:(Ab.length:Int).toNat≤281474976710656)) (by omega)) (Below.refl _ _) (Nat.le_refl _) ?_;intro Er w6 Es hb hg_ hnew_;clear hg_ hnew_;(first|rw [← Bt.out]at Es|(simp only [Int.reduceToNat]at Es;rw [← Bt.out]at Es));have Et:=y0.mk (Kd.R_lower Es (y3 qb));replace Ac:=y0.mk (qK Ac.out hb);replace HB:=y0.mk (y4 qb hb);clear hb Es;obtain⟨Ds,Dt,Du,Dw,Dx,Dy,Dz,Ea,Eb,Ec⟩:=qz5 Ac.out))
 go_loopg [4] k (fun kq v4 w'=>∃(Cu:List Bool) (Aa:Int),v4=.int .i64 Aa∧y0 (z11_.l0 kq Cu Aa Ab Be Bf Ba Bb=some r)∧y0 (kq≤k)∧y0 (Kd.R Kd.bool 4 w' w.heap.size (fun _=>True) Er Cu)∧y0 (w'.heap[Az]?=some (.cells #[(.slice Cm Ab.length Bw),.int .i64 Be,.string Bf,(.slice Bx Ba.length Bz),(.slice Ca Bb.length Cb)] 36 (0,0)))∧y0 (Below w.heap.size w w'))
 case atStart=>exact⟨(Eq),(wrap64 ((Ab.length:Int) - 1)),qy2,H',⟨Nat.le_refl _⟩,⟨qR Et.out⟩,⟨qk Ac.out⟩,⟨qb⟩⟩
 case round =>
  clear H'
  (try clear Gu Gv Gw Gx Dh Di Dj Dk Dl Ds Dt Du Dw Dx Dm Do Dp Dq Dr Dy Dz Ea Eb Ec)
  obtain⟨Cu,Aa,rfl,HA,En,As,Ac,HB⟩:=hrel
  cases gk with
  | zero=>exact absurd HA.out (by simp [z11_.l0])
  | succ k1 =>
   have H:=HA.out
   clear HA
   simp only [z11_.l0]at H
   by_cases c9:Aa≥0
   ·rw [if_pos c9]at H
    have Eu:decide (0≤Aa)=true:=decide_eq_true c9
    clear c9
    have H':=y0.mk H
    clear H
    go_wp2
    go_loopg [5] k1 (fun kq v5 w'=>∃(Bc:List Bool) (Ad:Int),v5=.int .i64 Ad∧y0 (z11_.l1 kq Bc Aa Ad Ab Be Bf Ba Bb=some r)∧y0 (kq≤k1)∧y0 (Kd.R Kd.bool 4 w' w.heap.size (fun _=>True) Er Bc)∧y0 (w'.heap[Az]?=some (.cells #[(.slice Cm Ab.length Bw),.int .i64 Be,.string Bf,(.slice Bx Ba.length Bz),(.slice Ca Bb.length Cb)] 36 (0,0)))∧y0 (Below w.heap.size w w'))
    case atStart=>exact⟨(Cu),(0),qy2,H',⟨Nat.le_refl _⟩,⟨qR As.out⟩,⟨qk Ac.out⟩,⟨qb⟩⟩
    case round =>
     clear H'
     (try clear Eu)
     obtain⟨Bc,Ad,rfl,HA,Eo,As,Ac,HB⟩:=hrel
     cases gk with
     | zero=>exact absurd HA.out (by simp [z11_.l1])
     | succ k2 =>
      have H:=HA.out
      clear HA
      simp only [z11_.l1]at H
      obtain⟨Hv,H⟩:=qo H
      have Hw:decide (0≤Aa)=true:=decide_eq_true Hv
      clear Hv
      obtain⟨Hx,H⟩:=qo H
      have Hy:decide (Aa < (Ab.length:Int))=true:=decide_eq_true Hx
      clear Hx
      by_cases Ep:Ad < (((y19 Ab Aa).f2).length:Int)
      ·rw [if_pos Ep]at H
       have Ew:=decide_eq_true Ep
       clear Ep
       obtain⟨Hz,H⟩:=qo H
       have Ia:decide (0≤Ad)=true:=decide_eq_true Hz
       clear Hz
       obtain⟨Ib,H⟩:=qo H
       have Ic:decide (Aa < (Bc.length:Int))=true:=decide_eq_true Ib
       clear Ib
       obtain⟨Ex,Cn⟩:∃ b_:Bool,b_=(rdOf false Bc Aa):=⟨_,rfl⟩
       replace H:(if Ex=true then(if 0≤(rd ((y19 Ab Aa).f2) Ad)then(if(rd ((y19 Ab Aa).f2) Ad) < (Bc.length:Int)then(z11_.l1 k2 (Bc.set ((rd ((y19 Ab Aa).f2) Ad):Int).toNat true) Aa (wrap64 (Ad + 1)) Ab Be Bf Ba Bb)else(none))else(none))else((spec_l06Calc.f ((y19 Ab Aa).f0)).bind fun Cp=>(if 0≤(rd ((y19 Ab Aa).f2) Ad)then(if(rd ((y19 Ab Aa).f2) Ad) < (Bc.length:Int)then(z11_.l1 k2 (Bc.set ((rd ((y19 Ab Aa).f2) Ad):Int).toNat Cp) Aa (wrap64 (Ad + 1)) Ab Be Bf Ba Bb)else(none))else(none))))=some r:=by rw [← Cn]at H;exact H
       replace Cn:=y0.mk Cn
       by_cases Fm:Ex=true
       ·subst Fm
        replace H:=qT H
        obtain⟨Id,H⟩:=qo H
        have Ie:decide (0≤(rd ((y19 Ab Aa).f2) Ad))=true:=decide_eq_true Id
        clear Id
        obtain⟨If,H⟩:=qo H
        have Ig:decide ((rd ((y19 Ab Aa).f2) Ad) < (Bc.length:Int))=true:=decide_eq_true If
        clear If
        obtain⟨Ey,Bu⟩:∃ y_:List Bool,y_=(Bc.set ((rd ((y19 Ab Aa).f2) Ad):Int).toNat true):=⟨_,rfl⟩
        replace H:(z11_.l1 k2 Ey Aa (wrap64 (Ad + 1)) Ab Be Bf Ba Bb)=some r:=by first|exact Bu ▸ H|exact Bu ▸ (Option.bind_some _ _).symm.trans H
        replace Bu:=y0.mk Bu
        have H':=y0.mk H
        clear H
        obtain⟨Fn,Fo,Fp,Fq,Fr,Fs,Ft,Fu,Fv,Fx⟩:=qz5 Ac.out
        have Bo:0≤(Aa:Int):=qd
        have Bp:Aa < (Ab.length:Int):=qd
        obtain⟨Af,Cq,Cr,Cs,Ah,Ai,Aj,At,Au⟩:=at_T63 Bq.out Aa Bo Bp
        cases Cs
        replace Ah:=qC Ah HB
        replace Ai:=qC Ai HB
        replace Aj:=qC Aj HB
        have Ci:=y0.mk Au
        have Cj:=y0.mk At
        clear Au At
        replace Bo:=eq_true Bo
        replace Bp:=eq_true Bp
        try go_wp2
        replace As:=y0.mk (Kd.R_drew As.out)
        replace Ac:=y0.mk (y8 Ac.out)
        replace HB:=y0.mk (y2 HB.out)
        have Cc:0≤(Aa:Int):=qd
        have Cd:Aa < (Ab.length:Int):=qd
        obtain⟨Ct,Ed,Bs,Ee,Ak,Am,Ag,Bg,Bh⟩:=at_T63 Bq.out Aa Cc Cd
        have Av:=Ag
        have Aw:=Am
        have Ax:=Ak
        obtain rfl:Af=Ct:=(by injection Ee)
        replace Ak:=qC Ak HB
        replace Am:=qC Am HB
        replace Ag:=qC Ag HB
        have Bi:=y0.mk Bh
        have Cv:=y0.mk Bg
        clear Bh Bg
        replace Cc:=eq_true Cc
        replace Cd:=eq_true Cd
        have Ce:0≤(Ad:Int):=qd
        have Cf:Ad < (((y19 Ab Aa).f2).length:Int):=qd
        obtain⟨Br,Ef,Ap⟩:=Kd.at_int Bi.out Ad Ce Cf
        have Ay:=Ap
        cases Ef
        replace Ap:=qC Ap HB
        replace Ce:=eq_true Ce
        replace Cf:=eq_true Cf
        obtain⟨Im,Io,Fa⟩:=Kd.R_slice As.out
        (first|subst Fa|(injection Fa with f1_ f2_ f3_;have f4_:=f1_.symm;have f5_:=f3_.symm;clear f1_ f2_ f3_;subst f4_;subst f5_))
        have Cg:0≤(Aa:Int):=qd
        have Ch:Aa < (Bc.length:Int):=qd
        obtain⟨Dg,Eg,Ar⟩:=Kd.at_bool (Kd.R_reads' As.out).2.2 Aa Cg Ch
        (try rw [← Cn.out]at Ar)
        cases Eg
        replace Cg:=eq_true Cg
        replace Ch:=eq_true Ch
        have Gz:0≤((rd ((y19 Ab Aa).f2) Ad):Int):=qd
        have Ha:((rd ((y19 Ab Aa).f2) Ad):Int) < ((Bc.length:Int):Int):=qd
        obtain⟨Hb,Ip,Fb,Fc,Hc,Iq,Fd⟩:=Kd.R_form As.out (by omega)
        (first|cases Fb|(injection Fb with ea_ en_ ec_;(first|subst ea_|(injection ea_ with ea_;subst ea_));subst ec_;clear en_))
        have Hd:=y0.mk Fc
        have He:=y0.mk Fd
        clear Fc Hc Fd
        (first|simp only [add_plain]at Ar|skip)
        obtain⟨Eh,Ei⟩:=Kd.R_celln false As.out ((rd ((y19 Ab Aa).f2) Ad):Int) Gz Ha
        replace Gz:=eq_true Gz
        replace Ha:=eq_true Ha
        have Ej:=Kd.R_putn As.out ((rd ((y19 Ab Aa).f2) Ad):Int) true
        rw [← Bu.out]at Ej
        replace Ej:=y0.mk Ej
        refine start_ (n:=25) (S:=fun w'=>w'.cell? ⟨Az,0,none⟩=some (.slice (some Af) Ab.length Bw)∧w'.cell? ⟨Az,1,none⟩=some (.int .i64 Be)∧w'.cell? ⟨Az,2,none⟩=some (.string Bf)∧w'.cell? ⟨Az,3,none⟩=some (.slice Bx Ba.length Bz)∧w'.cell? ⟨Az,4,none⟩=some (.slice Ca Bb.length Cb)∧w'.cell? (Af.add ((Aa).toNat * 3))=some (.int .i64 ((y19 Ab Aa).f0))∧w'.cell? ⟨(Af.add ((Aa).toNat * 3)).block,(Af.add ((Aa).toNat * 3)).off + 1,none⟩=some (.string ((y19 Ab Aa).f1))∧w'.cell? ⟨(Af.add ((Aa).toNat * 3)).block,(Af.add ((Aa).toNat * 3)).off + 2,none⟩=some (.slice (some Br) ((y19 Ab Aa).f2).length Bs)∧w'.cell? (Br.add (Ad).toNat)=some (.int .i64 (rd ((y19 Ab Aa).f2) Ad))∧w'.cell? ⟨Hb,(Aa).toNat,none⟩=some (.bool true)) (ds:=[24]) (fl_ 25 0) (by kernel_rfl) rfl rfl ⟨(y7 Ac.out 0).trans rfl,(y7 Ac.out 1).trans rfl,(y7 Ac.out 2).trans rfl,(y7 Ac.out 3).trans rfl,(y7 Ac.out 4).trans rfl,(qC Ax HB),(qC Aw HB),(qC Av HB),(qC Ay HB),Ar⟩ (fun hHeld=>?_);refine with_tabW z11_.tab8 z11_.bits8 (fun HT_ HW_=>?_)
        generalize wr.drew=Iz at As Ac HB He Ej Bi Ei Eh Ak Am Ag Ap Ar hHeld ⊢
        refine qp2 0 29 25 ?_
        refine qp 3 32 (fl_ 25 11) ?_
        refine qp 7 36 (fl_ 25 139) ?_
        refine qp 10 39 (fl_ 25 1163) ?_
        refine qp 11 40 (fl_ 25 3211) ?_
        refine qp 12 41 (fl_ 25 7307) ?_
        refine qt 2 31 (fl_ 25 7311) hHeld ?_
        refine qp 4 33 (fl_ 25 7327) ?_
        refine qp 5 34 (fl_ 25 7359) ?_
        refine qt 6 35 (fl_ 25 7423) hHeld ?_
        refine qp 8 37 (fl_ 25 7679) ?_
        refine qt 9 38 (fl_ 25 8191) hHeld ?_
        refine qt 13 42 (fl_ 25 16383) hHeld ?_
        refine qp10 14 43 25 ?_
        refine last_ (i:=24) (N:=none) (fl_ 25 33554431) rfl rfl (one_of HT_.out (by kernel_rfl)) (by decide) (fun K hK=>?_)
        refine skip_ (w1:=?_) (by rfl) rfl ?_ ?_
        rotate_left
        ·go_simp
         rfl
        refine hK.out _ _ ?_
        clear hK K
        refine done_ (done_of HT_.out (by kernel_rfl)) ?_
        try go_wp2
        go_roundg k2
        case measure=>have:=En.out;have:=Eo.out;omega
        exact⟨(Ey),(wrap64 (Ad + 1)),qy2,H',⟨by have:=En.out;have:=Eo.out;omega⟩,⟨qR Ej.out⟩,⟨by(with_reducible repeat(first|refine y9 ?_ _|refine y8 ?_|refine y5 ?_ _));refine y10 ?_ (by have h_:=Kd.R_ne As.out Ac.out (by decide);intro e_;exact h_ (by rw [e_];rfl)) _;(with_reducible repeat(first|refine y9 ?_ _|refine y8 ?_|refine y5 ?_ _));exact Ac.out⟩,⟨by repeat(first|(with_reducible first|exact HB.out|apply below_alloc|apply pw_below_drewN|apply y2|refine below_set ?_ Hd.out|refine below_set ?_ De.out)|exact HB.out)⟩⟩
       ·replace Fm:=Bool.eq_false_iff.mpr Fm
        subst Fm
        replace H:=qF H
        obtain⟨Cp,Ir,H⟩:=qB H
        obtain⟨Ih,H⟩:=qo H
        have Ii:decide (0≤(rd ((y19 Ab Aa).f2) Ad))=true:=decide_eq_true Ih
        clear Ih
        obtain⟨Ij,H⟩:=qo H
        have Ik:decide ((rd ((y19 Ab Aa).f2) Ad) < (Bc.length:Int))=true:=decide_eq_true Ij
        clear Ij
        obtain⟨Ff,Bv⟩:∃ y_:List Bool,y_=(Bc.set ((rd ((y19 Ab Aa).f2) Ad):Int).toNat Cp):=⟨_,rfl⟩
        replace H:(z11_.l1 k2 Ff Aa (wrap64 (Ad + 1)) Ab Be Bf Ba Bb)=some r:=by first|exact Bv ▸ H|exact Bv ▸ (Option.bind_some _ _).symm.trans H
        replace Bv:=y0.mk Bv
        have H':=y0.mk H
        clear H
        obtain⟨Fy,Fz,Ga,Gb,Gc,Gd,Ge,Gf,Gg,Gh⟩:=qz5 Ac.out
        have Bo:0≤(Aa:Int):=qd
        have Bp:Aa < (Ab.length:Int):=qd
        obtain⟨Af,Cq,Cr,Cs,Ah,Ai,Aj,At,Au⟩:=at_T63 Bq.out Aa Bo Bp
        cases Cs
        replace Ah:=qC Ah HB
        replace Ai:=qC Ai HB
        replace Aj:=qC Aj HB
        have Ci:=y0.mk Au
        have Cj:=y0.mk At
        clear Au At
        replace Bo:=eq_true Bo
        replace Bp:=eq_true Bp
        try go_wp2
        replace As:=y0.mk (Kd.R_drew As.out)
        replace Ac:=y0.mk (y8 Ac.out)
        replace HB:=y0.mk (y2 HB.out)
        have Cc:0≤(Aa:Int):=qd
        have Cd:Aa < (Ab.length:Int):=qd
        obtain⟨Ct,Ed,Bs,Ee,Ak,Am,Ag,Bg,Bh⟩:=at_T63 Bq.out Aa Cc Cd
        have Av:=Ag
        have Aw:=Am
        have Ax:=Ak
        obtain rfl:Af=Ct:=(by injection Ee)
        replace Ak:=qC Ak HB
        replace Am:=qC Am HB
        replace Ag:=qC Ag HB
        have Bi:=y0.mk Bh
        have Cv:=y0.mk Bg
        clear Bh Bg
        replace Cc:=eq_true Cc
        replace Cd:=eq_true Cd
        have Ce:0≤(Ad:Int):=qd
        have Cf:Ad < (((y19 Ab Aa).f2).length:Int):=qd
        obtain⟨Br,Ef,Ap⟩:=Kd.at_int Bi.out Ad Ce Cf
        have Ay:=Ap
        cases Ef
        replace Ap:=qC Ap HB
        replace Ce:=eq_true Ce
        replace Cf:=eq_true Cf
        obtain⟨Is,Iu,Fh⟩:=Kd.R_slice As.out
        (first|subst Fh|(injection Fh with f1_ f2_ f3_;have f4_:=f1_.symm;have f5_:=f3_.symm;clear f1_ f2_ f3_;subst f4_;subst f5_))
        have Cg:0≤(Aa:Int):=qd
        have Ch:Aa < (Bc.length:Int):=qd
        obtain⟨Dg,Eg,Ar⟩:=Kd.at_bool (Kd.R_reads' As.out).2.2 Aa Cg Ch
        (try rw [← Cn.out]at Ar)
        cases Eg
        replace Cg:=eq_true Cg
        replace Ch:=eq_true Ch
        have Ek:0≤(Aa:Int):=qd
        have El:Aa < (Ab.length:Int):=qd
        obtain⟨Fi,Hf,Hg,Hh,Bj,Bk,Bd,Ck,Cl⟩:=at_T63 Bq.out Aa Ek El
        have Bl:=Bd
        have Bm:=Bk
        have Bn:=Bj
        obtain rfl:Af=Fi:=(by injection Hh)
        replace Bj:=qC Bj HB
        replace Bk:=qC Bk HB
        replace Bd:=qC Bd HB
        have Cw:=y0.mk Cl
        have Gi:=y0.mk Ck
        clear Cl Ck
        replace Ek:=eq_true Ek
        replace El:=eq_true El
        have ea_:=Option.some.inj (Ag.symm.trans Bd)
        injection ea_ with ea_ en_ ec_
        subst ea_
        subst ec_
        clear en_
        refine start_ (n:=25) (S:=fun w'=>w'.cell? ⟨Az,0,none⟩=some (.slice (some Af) Ab.length Bw)∧w'.cell? ⟨Az,1,none⟩=some (.int .i64 Be)∧w'.cell? ⟨Az,2,none⟩=some (.string Bf)∧w'.cell? ⟨Az,3,none⟩=some (.slice Bx Ba.length Bz)∧w'.cell? ⟨Az,4,none⟩=some (.slice Ca Bb.length Cb)∧w'.cell? (Af.add ((Aa).toNat * 3))=some (.int .i64 ((y19 Ab Aa).f0))∧w'.cell? ⟨(Af.add ((Aa).toNat * 3)).block,(Af.add ((Aa).toNat * 3)).off + 1,none⟩=some (.string ((y19 Ab Aa).f1))∧w'.cell? ⟨(Af.add ((Aa).toNat * 3)).block,(Af.add ((Aa).toNat * 3)).off + 2,none⟩=some (.slice (some Br) ((y19 Ab Aa).f2).length Bs)∧w'.cell? (Br.add (Ad).toNat)=some (.int .i64 (rd ((y19 Ab Aa).f2) Ad))∧w'.cell? (Dg.add (Aa).toNat)=some (.bool false)∧w'.cell? (Af.add ((Aa).toNat * 3))=some (.int .i64 ((y19 Ab Aa).f0))∧w'.cell? ⟨(Af.add ((Aa).toNat * 3)).block,(Af.add ((Aa).toNat * 3)).off + 1,none⟩=some (.string ((y19 Ab Aa).f1))∧w'.cell? ⟨(Af.add ((Aa).toNat * 3)).block,(Af.add ((Aa).toNat * 3)).off + 2,none⟩=some (.slice (some Br) ((y19 Ab Aa).f2).length Bs)) (ds:=[24]) (fl_ 25 0) (by kernel_rfl) rfl rfl ⟨(y7 Ac.out 0).trans rfl,(y7 Ac.out 1).trans rfl,(y7 Ac.out 2).trans rfl,(y7 Ac.out 3).trans rfl,(y7 Ac.out 4).trans rfl,(qC Ax HB),(qC Aw HB),(qC Av HB),(qC Ay HB),Ar,(qC Bn HB),(qC Bm HB),(qC Bl HB)⟩ (fun hHeld=>?_);refine with_tabW z11_.tab8 z11_.bits8 (fun HT_ HW_=>?_)
        generalize wr.drew=Ja at As Ac HB Bi Cw Ak Am Ag Ap Ar Bj Bk Bd hHeld ⊢
        refine qp2 0 29 25 ?_
        refine qp 3 32 (fl_ 25 11) ?_
        refine qp 7 36 (fl_ 25 139) ?_
        refine qp 10 39 (fl_ 25 1163) ?_
        refine qp 11 40 (fl_ 25 3211) ?_
        refine qp 12 41 (fl_ 25 7307) ?_
        refine qt 2 31 (fl_ 25 7311) hHeld ?_
        refine qp 4 33 (fl_ 25 7327) ?_
        refine qp 5 34 (fl_ 25 7359) ?_
        refine qt 6 35 (fl_ 25 7423) hHeld ?_
        refine qp 8 37 (fl_ 25 7679) ?_
        refine qt 9 38 (fl_ 25 8191) hHeld ?_
        refine qt 13 42 (fl_ 25 16383) hHeld ?_
        refine qp2 14 43 25 ?_
        refine qp 17 46 (fl_ 25 196607) ?_
        refine qt 16 45 (fl_ 25 262143) hHeld ?_
        refine qp2 18 47 25 ?_
        refine qt 20 49 (fl_ 25 2097151) hHeld ?_
        refine qO 21 50 (fl_ 25 4194303) (fun K hK=>?_)
        refine goes_ Try.func72 (by kernel_rfl) rfl #[.int .i64 ((y19 Ab Aa).f0)] (by rfl) rfl rfl qy1 ?_
        with_reducible refine(spec_l06Calc.calls ((y19 Ab Aa).f0) Cp _ Ir.out).mono ?_
        rintro e w' ⟨rfl,⟨nd,rfl⟩⟩
        refine⟨_,rfl, ?_⟩
        have Hi:0≤((rd ((y19 Ab Aa).f2) Ad):Int):=qd
        have Hj:((rd ((y19 Ab Aa).f2) Ad):Int) < ((Bc.length:Int):Int):=qd
        obtain⟨Iv,Iw,Fj,Fk,Hk,Ix,Fl⟩:=Kd.R_form As.out (by omega)
        (first|cases Fj|(injection Fj with ea_ en_ ec_;(first|subst ea_|(injection ea_ with ea_;subst ea_));subst ec_;clear en_))
        have Hl:=y0.mk Fk
        have Iy:=y0.mk Fl
        clear Fk Hk Fl
        (first|simp only [add_plain]at Ar|skip)
        obtain⟨Hm,Hn⟩:=Kd.R_celln false As.out ((rd ((y19 Ab Aa).f2) Ad):Int) Hi Hj
        replace Hi:=eq_true Hi
        replace Hj:=eq_true Hj
        have Em:=Kd.R_putn As.out ((rd ((y19 Ab Aa).f2) Ad):Int) Cp
        rw [← Bv.out]at Em
        replace Em:=y0.mk Em
        refine hK.out _ _ ⟨(y7 Ac.out 0).trans rfl,(y7 Ac.out 1).trans rfl,(y7 Ac.out 2).trans rfl,(y7 Ac.out 3).trans rfl,(y7 Ac.out 4).trans rfl,(qC (W:=Ja) Ax HB),(qC (W:=Ja) Aw HB),(qC (W:=Ja) Av HB),(qC (W:=Ja) Ay HB),hHeld.2.2.2.2.2.2.2.2.2.1,(qC (W:=Ja) Bn HB),(qC (W:=Ja) Bm HB),(qC (W:=Ja) Bl HB)⟩ (fun hHeld=>?_)
        clear hK K
        refine qx 50 ?_
        refine qp2 22 51 25 ?_
        refine last_ (i:=24) (N:=none) (fl_ 25 33554431) rfl rfl (one_of HT_.out (by kernel_rfl)) (by decide) (fun K hK=>?_)
        refine skip_ (w1:=?_) (by rfl) rfl ?_ ?_
        rotate_left
        ·go_simp
         rfl
        refine hK.out _ _ ?_
        clear hK K
        refine done_ (done_of HT_.out (by kernel_rfl)) ?_
        try go_wp2
        go_roundg k2
        case measure=>have:=En.out;have:=Eo.out;omega
        exact⟨(Ff),(wrap64 (Ad + 1)),qy2,H',⟨by have:=En.out;have:=Eo.out;omega⟩,⟨qR Em.out⟩,⟨by(with_reducible repeat(first|refine y9 ?_ _|refine y8 ?_|refine y5 ?_ _));refine y10 ?_ (by have h_:=Kd.R_ne As.out Ac.out (by decide);intro e_;exact h_ (by rw [e_];rfl)) _;(with_reducible repeat(first|refine y9 ?_ _|refine y8 ?_|refine y5 ?_ _));exact Ac.out⟩,⟨by repeat(first|(with_reducible first|exact HB.out|apply below_alloc|apply pw_below_drewN|apply y2|refine below_set ?_ Hl.out|refine below_set ?_ De.out)|exact HB.out)⟩⟩
      ·rw [if_neg Ep]at H
       have Ew:=decide_eq_false Ep
       clear Ep
       have H':=y0.mk H
       clear H
       obtain⟨Gj,Gk,Gl,Gm,Gn,Gp,Gq,Gr,Gs,Gt⟩:=qz5 Ac.out
       have Bo:0≤(Aa:Int):=qd
       have Bp:Aa < (Ab.length:Int):=qd
       obtain⟨Af,Cq,Cr,Cs,Ah,Ai,Aj,At,Au⟩:=at_T63 Bq.out Aa Bo Bp
       cases Cs
       replace Ah:=qC Ah HB
       replace Ai:=qC Ai HB
       replace Aj:=qC Aj HB
       have Ci:=y0.mk Au
       have Cj:=y0.mk At
       clear Au At
       replace Bo:=eq_true Bo
       replace Bp:=eq_true Bp
       go_wp2
       go_roundg k2
       case measure=>have:=En.out;have:=Eo.out;omega
       exact⟨(Bc),(wrap64 (Aa - 1)),qy2,H',⟨by have:=En.out;have:=Eo.out;omega⟩,⟨qR As.out⟩,⟨qk Ac.out⟩,⟨qb⟩⟩
   ·rw [if_neg c9]at H
    have Eu:decide (0≤Aa)=false:=decide_eq_false c9
    clear c9
    obtain rfl:=Option.some.inj H
    go_wp2
    go_ret
    exact⟨_,by first|rfl|(simp [y12,y13] <;> rfl)|(simp [*,y12,y13] <;> rfl),by(with_reducible repeat(first|apply Kd.R_alloc|apply Kd.R_drewN|apply Kd.R_drew));exact As.out,qb⟩
end Go.Proofs.Ytkdabljlfbmpdaa.Pw
