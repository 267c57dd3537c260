-- Cut by prune.py, a program of this session, out of the texts of this claim: Lean checks it.
import Derived.Test.YtkdabljlfbmpdaaVolPox0
import Derived.Test.YtkdabljlfbmpdaaVolPox4
namespace Go.Proofs.Ytkdabljlfbmpdaa.Po
open Go.RowKit Go.Proofs.YtkdabljlfbmpdaaW.PrintWords Go.Proofs.YtkdabljlfbmpdaaW.PrintLast Go.Proofs.YtkdabljlfbmpdaaW.PrintMore
attribute [local go_sem] max2_int min2_int max_two min_two max_three min_three max_four min_four   -- for this text's walks alone
set_option linter.unusedVariables false
set_option linter.unusedSimpArgs false
mutual
def z9_.l0:Nat→List Bool→Int→List (S63)→Int→ByteArray→List Int→List (S33)→Option (List Bool)
 | 0,_,_,_,_,_,_,_=>none
 | k + 1,x3,x4,x271000,x271001,x271002,x271003,x271004=>if x4≥0 then(z9_.l1 k x3 x4 0 x271000 x271001 x271002 x271003 x271004)else(some x3)
def z9_.l1:Nat→List Bool→Int→Int→List (S63)→Int→ByteArray→List Int→List (S33)→Option (List Bool)
 | 0,_,_,_,_,_,_,_,_=>none
 | k + 1,x3,x4,x5,x271000,x271001,x271002,x271003,x271004=>if 0≤x4 then(if x4 < (x271000.length:Int)then(if x5 < (((y21 x271000 x4).f2).length:Int)then(if 0≤x5 then(if x4 < (x3.length:Int)then(if rdOf false x3 x4=true then(if 0≤(rd ((y21 x271000 x4).f2) x5)then(if(rd ((y21 x271000 x4).f2) x5) < (x3.length:Int)then(z9_.l1 k (x3.set ((rd ((y21 x271000 x4).f2) x5):Int).toNat true) x4 (wrap64 (x5 + 1)) x271000 x271001 x271002 x271003 x271004)else(none))else(none))else((spec_l06Calc.f ((y21 x271000 x4).f0)).bind fun t280=>(if 0≤(rd ((y21 x271000 x4).f2) x5)then(if(rd ((y21 x271000 x4).f2) x5) < (x3.length:Int)then(z9_.l1 k (x3.set ((rd ((y21 x271000 x4).f2) x5):Int).toNat t280) x4 (wrap64 (x5 + 1)) x271000 x271001 x271002 x271003 x271004)else(none))else(none))))else(none))else(none))else(z9_.l0 k x3 (wrap64 (x4 - 1)) x271000 x271001 x271002 x271003 x271004))else(none))else(none)
end
def z9_.f (k:Nat) (l0_0:List (S63)) (a0_1:Int) (a0_2:ByteArray) (l0_3:List Int) (l0_4:List (S33)):Option (List Bool):=if 0≤(l0_0.length:Int)then(if((l0_0.length:Int):Int).toNat≤281474976710656 then(z9_.l0 k (List.replicate ((l0_0.length:Int):Int).toNat false) (wrap64 ((l0_0.length:Int) - 1)) l0_0 a0_1 a0_2 l0_3 l0_4)else(none))else(none)
def z9_.T8:Bool×List (List Nat×List Nat):=(true,[([],[]),([],[]),([1],[1]),([],[]),([2,3],[2,3]),([4],[4]),([5],[5]),([],[]),([6,7],[6,7]),([8],[8]),([],[]),([],[]),([10,11],[10,11]),([12],[12]),([13],[13]),([14],[14]),([15,14],[14,15]),([14],[14]),([16,17,14],[14,16,17]),([18,14],[14,18]),([19,14],[14,19]),([20,14,14],[14,20]),([14,21],[14,21]),([0,9,0,1,2,3,4,5,6,7,8,9,10,11,12,13,14,15,16,17,18,19,20,21,22],[0,9]),([23,22,21,0,1,2,3,4,5,6,7,8,9,10,11,12,13,14,15,16,17,18,19,20,21,22],[22,23])])
def z9_.B8:List Nat:=[0,0,2,0,14,30,62,0,254,510,0,0,3072,7168,15360,31744,64512,31744,261120,523264,1047552,2096128,4193280,8388607,16777215]
theorem z9_.tab8:rtab .any (opsOf Try.f58 8)=z9_.T8:=by kernel_rfl
theorem z9_.bits8:waitsOk z9_.T8.2 z9_.B8=true:=by kernel_rfl
set_option maxHeartbeats 8000000 in
set_option maxRecDepth 100000 in
theorem z9_.calls (k:Nat) (Cn:Option Addr) (Bx:Nat) (Ab:List (S63)) (Bf:Int) (Bg:ByteArray) (Bz:Option Addr) (Ca:Nat) (Bb:List Int) (Cb:Option Addr) (Cc:Nat) (Bc:List (S33)) (r:List Bool) (w:World) (Cy:Kd.C k63 w Cn Ab.length Ab) (Cz:Ab.length≤Bx) (Da:Kd.C (Kd.int .i64) w Bz Bb.length Bb) (Db:Bb.length≤Ca) (Dc:Kd.C k33 w Cb Bc.length Bc) (Dd:Bc.length≤Cc) (h:z9_.f k Ab Bf Bg Bb Bc=some r) :
  Calls Try.prog 58 #[.agg #[.slice Cn Ab.length Bx,.int .i64 Bf,.string Bg,.slice Bz Bb.length Ca,.slice Cb Bc.length Cc]] w fun e w'=>∃ v0_:Value,e=.returned (v0_)∧Kd.R Kd.bool 4 w' w.heap.size (fun _=>True) v0_ r∧Below w.heap.size w w':=by
 have Il:=Try.underlying36
 have Br:=y0.mk Cy
 have Hp:=y0.mk Cz
 clear Cy Cz
 have Hq:=y0.mk Da
 have Hr:=y0.mk Db
 clear Da Db
 have Hs:=y0.mk Dc
 have Ht:=y0.mk Dd
 clear Dc Dd
 have HB:=y0.mk (Below.refl w.heap.size w)
 have H:(if 0≤(Ab.length:Int)then(if((Ab.length:Int):Int).toNat≤281474976710656 then(z9_.l0 k (List.replicate ((Ab.length:Int):Int).toNat false) (wrap64 ((Ab.length:Int) - 1)) Ab Bf Bg Bb Bc)else(none))else(none))=some r:=h
 clear h
 obtain⟨c2,H⟩:=qo H
 have Gv:=eq_true c2
 have Gw:=decide_eq_true c2
 clear c2
 obtain⟨c3,H⟩:=qo H
 have Gx:=eq_true c3
 have Gy:=decide_eq_true c3
 clear c3
 obtain⟨Er,Bu⟩:∃ y_:List Bool,y_=(List.replicate ((Ab.length:Int):Int).toNat false):=⟨_,rfl⟩
 replace H:(z9_.l0 k Er (wrap64 ((Ab.length:Int) - 1)) Ab Bf Bg Bb Bc)=some r:=by first|(rw [Bu];with_reducible exact H)|(have H2_:=(Option.bind_some _ _).symm.trans H;rw [Bu];with_reducible exact H2_)|(have H2_:=(Option.bind_some _ _).symm.trans H;with_reducible exact H2_)|with_reducible exact H|(rw [Bu];exact H)|exact H
 have De:=y0.mk Bu
 clear Bu
 have H':=y0.mk H
 clear H
 go_enter Try.func58,Try.ntmps58
 go_wp2_with (first|((with_reducible refine y17 (N:=1) rfl ?_);refine qe 1 #[.slice Cn Ab.length Bx,.int .i64 Bf,.string Bg,.slice Bz Bb.length Ca,.slice Cb Bc.length Cc] 36 ?_;intro Ba hg w4 hbox hb;have Ac:=y0.mk (hbox);have Hu:=y0.mk (qg (w:=w) hg);have Df:=y0.mk (qg (w:=w) hg);replace HB:=y0.mk (y5 qb hb);clear hb hbox hg;obtain⟨Di,Dj,Dk,Dl,Dm,Do,Dp,Dq,Dr,Ds⟩:=qz5 Ac.out)|((with_reducible refine y17 (N:=9) rfl ?_);refine Kd.R_make Kd.bool _ 4 rfl (N:=9) rfl 75 _ _ rfl (Ab.length:Int) rfl rfl Try.underlying75 (.bool false) 1 info4 rfl (by decide) (by omega) false (ok:=fun _=>True) (okp:=fun _=>True) rfl (fun _ hk=>hk) trivial (of_decide_eq_true qy0) (Nat.le_trans (Nat.mul_le_mul_right _ (of_decide_eq_true qy0:(Ab.length:Int).toNat≤281474976710656)) (by omega)) (Below.refl _ _) (Nat.le_refl _) ?_;intro Es w6 Et hb hg_ hnew_;clear hg_ hnew_;(first|rw [← De.out]at Et|(simp only [Int.reduceToNat]at Et;rw [← De.out]at Et));have Eu:=y0.mk (Kd.R_lower Et (y4 qb));replace Ac:=y0.mk (qK Ac.out hb);replace HB:=y0.mk (y5 qb hb);clear hb Et;obtain⟨Dt,Du,Dw,Dx,Dy,Dz,Ea,Eb,Ec,Ed⟩:=qz5 Ac.out))
 go_loopg [4] k (fun kq v4 w'=>∃(Cv:List Bool) (Aa:Int),v4=.int .i64 Aa∧y0 (z9_.l0 kq Cv Aa Ab Bf Bg Bb Bc=some r)∧y0 (kq≤k)∧y0 (Kd.R Kd.bool 4 w' w.heap.size (fun _=>True) Es Cv)∧y0 (w'.heap[Ba]?=some (.cells #[(.slice Cn Ab.length Bx),.int .i64 Bf,.string Bg,(.slice Bz Bb.length Ca),(.slice Cb Bc.length Cc)] 36 (0,0)))∧y0 (Below w.heap.size w w'))
 case atStart=>exact⟨(Er),(wrap64 ((Ab.length:Int) - 1)),qy2,H',⟨Nat.le_refl _⟩,⟨qR Eu.out⟩,⟨qk Ac.out⟩,⟨qb⟩⟩
 case round =>
  clear H'
  (try clear Gv Gw Gx Gy Di Dj Dk Dl Dm Dt Du Dw Dx Dy Do Dp Dq Dr Ds Dz Ea Eb Ec Ed)
  obtain⟨Cv,Aa,rfl,HA,Eo,As,Ac,HB⟩:=hrel
  cases gk with
  | zero=>exact absurd HA.out (by simp [z9_.l0])
  | succ k1 =>
   have H:=HA.out
   clear HA
   simp only [z9_.l0]at H
   by_cases c9:Aa≥0
   ·rw [if_pos c9]at H
    have Ew:decide (0≤Aa)=true:=decide_eq_true c9
    clear c9
    have H':=y0.mk H
    clear H
    go_wp2
    go_loopg [5] k1 (fun kq v5 w'=>∃(Bd:List Bool) (Ad:Int),v5=.int .i64 Ad∧y0 (z9_.l1 kq Bd Aa Ad Ab Bf Bg Bb Bc=some r)∧y0 (kq≤k1)∧y0 (Kd.R Kd.bool 4 w' w.heap.size (fun _=>True) Es Bd)∧y0 (w'.heap[Ba]?=some (.cells #[(.slice Cn Ab.length Bx),.int .i64 Bf,.string Bg,(.slice Bz Bb.length Ca),(.slice Cb Bc.length Cc)] 36 (0,0)))∧y0 (Below w.heap.size w w'))
    case atStart=>exact⟨(Cv),(0),qy2,H',⟨Nat.le_refl _⟩,⟨qR As.out⟩,⟨qk Ac.out⟩,⟨qb⟩⟩
    case round =>
     clear H'
     (try clear Ew)
     obtain⟨Bd,Ad,rfl,HA,Ep,As,Ac,HB⟩:=hrel
     cases gk with
     | zero=>exact absurd HA.out (by simp [z9_.l1])
     | succ k2 =>
      have H:=HA.out
      clear HA
      simp only [z9_.l1]at H
      obtain⟨Hv,H⟩:=qo H
      have Hw:decide (0≤Aa)=true:=decide_eq_true Hv
      clear Hv
      obtain⟨Hx,H⟩:=qo H
      have Hy:decide (Aa < (Ab.length:Int))=true:=decide_eq_true Hx
      clear Hx
      by_cases Eq:Ad < (((y21 Ab Aa).f2).length:Int)
      ·rw [if_pos Eq]at H
       have Ex:=decide_eq_true Eq
       clear Eq
       obtain⟨Hz,H⟩:=qo H
       have Ia:decide (0≤Ad)=true:=decide_eq_true Hz
       clear Hz
       obtain⟨Ib,H⟩:=qo H
       have Ic:decide (Aa < (Bd.length:Int))=true:=decide_eq_true Ib
       clear Ib
       obtain⟨Ey,Cp⟩:∃ b_:Bool,b_=(rdOf false Bd Aa):=⟨_,rfl⟩
       replace H:(if Ey=true then(if 0≤(rd ((y21 Ab Aa).f2) Ad)then(if(rd ((y21 Ab Aa).f2) Ad) < (Bd.length:Int)then(z9_.l1 k2 (Bd.set ((rd ((y21 Ab Aa).f2) Ad):Int).toNat true) Aa (wrap64 (Ad + 1)) Ab Bf Bg Bb Bc)else(none))else(none))else((spec_l06Calc.f ((y21 Ab Aa).f0)).bind fun Cq=>(if 0≤(rd ((y21 Ab Aa).f2) Ad)then(if(rd ((y21 Ab Aa).f2) Ad) < (Bd.length:Int)then(z9_.l1 k2 (Bd.set ((rd ((y21 Ab Aa).f2) Ad):Int).toNat Cq) Aa (wrap64 (Ad + 1)) Ab Bf Bg Bb Bc)else(none))else(none))))=some r:=by rw [← Cp]at H;exact H
       have Dg:=y0.mk Cp
       clear Cp
       by_cases Fn:Ey=true
       ·subst Fn
        replace H:=qT H
        obtain⟨Id,H⟩:=qo H
        have Ie:decide (0≤(rd ((y21 Ab Aa).f2) Ad))=true:=decide_eq_true Id
        clear Id
        obtain⟨If,H⟩:=qo H
        have Ig:decide ((rd ((y21 Ab Aa).f2) Ad) < (Bd.length:Int))=true:=decide_eq_true If
        clear If
        obtain⟨Ez,Bv⟩:∃ y_:List Bool,y_=(Bd.set ((rd ((y21 Ab Aa).f2) Ad):Int).toNat true):=⟨_,rfl⟩
        replace H:(z9_.l1 k2 Ez Aa (wrap64 (Ad + 1)) Ab Bf Bg Bb Bc)=some r:=by first|(rw [Bv];with_reducible exact H)|(have H2_:=(Option.bind_some _ _).symm.trans H;rw [Bv];with_reducible exact H2_)|(have H2_:=(Option.bind_some _ _).symm.trans H;with_reducible exact H2_)|with_reducible exact H|(rw [Bv];exact H)|exact H
        have Fa:=y0.mk Bv
        clear Bv
        have H':=y0.mk H
        clear H
        obtain⟨Fo,Fp,Fq,Fr,Fs,Ft,Fu,Fv,Fx,Fy⟩:=qz5 Ac.out
        have Bp:0≤(Aa:Int):=of_decide_eq_true qy0
        have Bq:Aa < (Ab.length:Int):=of_decide_eq_true qy0
        obtain⟨Af,Cr,Cs,Ct,Ah,Ai,Aj,At,Au⟩:=at_T63 Br.out Aa Bp Bq
        cases Ct
        replace Ah:=(HB.out.cell (World.block_lt_of_cell? w _ Ah)).trans Ah
        replace Ai:=(HB.out.cell (World.block_lt_of_cell? w _ Ai)).trans Ai
        replace Aj:=(HB.out.cell (World.block_lt_of_cell? w _ Aj)).trans Aj
        have Cj:=y0.mk Au
        have Ck:=y0.mk At
        clear Au At
        replace Bp:=eq_true Bp
        replace Bq:=eq_true Bq
        try go_wp2
        replace As:=y0.mk (Kd.R_drew As.out)
        replace Ac:=y0.mk (y9 Ac.out)
        replace HB:=y0.mk (y2 HB.out)
        have Cd:0≤(Aa:Int):=of_decide_eq_true qy0
        have Ce:Aa < (Ab.length:Int):=of_decide_eq_true qy0
        obtain⟨Cu,Ee,Bt,Ef,Ak,Am,Ag,Bh,Bi⟩:=at_T63 Br.out Aa Cd Ce
        have Av:=Ag
        have Aw:=Am
        have Ay:=Ak
        obtain rfl:Af=Cu:=(by injection Ef)
        replace Ak:=(HB.out.cell (World.block_lt_of_cell? w _ Ak)).trans Ak
        replace Am:=(HB.out.cell (World.block_lt_of_cell? w _ Am)).trans Am
        replace Ag:=(HB.out.cell (World.block_lt_of_cell? w _ Ag)).trans Ag
        have Bj:=y0.mk Bi
        have Cw:=y0.mk Bh
        clear Bi Bh
        replace Cd:=eq_true Cd
        replace Ce:=eq_true Ce
        have Cf:0≤(Ad:Int):=of_decide_eq_true qy0
        have Cg:Ad < (((y21 Ab Aa).f2).length:Int):=of_decide_eq_true qy0
        obtain⟨Bs,Eg,Ap⟩:=Kd.at_int Bj.out Ad Cf Cg
        have Az:=Ap
        cases Eg
        replace Ap:=(HB.out.cell (World.block_lt_of_cell? w _ Ap)).trans Ap
        replace Cf:=eq_true Cf
        replace Cg:=eq_true Cg
        obtain⟨Im,Io,Fb⟩:=Kd.R_slice As.out
        (first|subst Fb|(injection Fb with f1_ f2_ f3_;have f4_:=f1_.symm;have f5_:=f3_.symm;clear f1_ f2_ f3_;subst f4_;subst f5_))
        have Ch:0≤(Aa:Int):=of_decide_eq_true qy0
        have Ci:Aa < (Bd.length:Int):=of_decide_eq_true qy0
        obtain⟨Dh,Eh,Ar⟩:=Kd.at_bool (Kd.R_reads' As.out).2.2 Aa Ch Ci
        (try rw [← Dg.out]at Ar)
        cases Eh
        replace Ch:=eq_true Ch
        replace Ci:=eq_true Ci
        have Gz:0≤((rd ((y21 Ab Aa).f2) Ad):Int):=of_decide_eq_true qy0
        have Ha:((rd ((y21 Ab Aa).f2) Ad):Int) < ((Bd.length:Int):Int):=of_decide_eq_true qy0
        obtain⟨Hb,Ip,Fc,Fd,Hc,Iq,Fe⟩:=Kd.R_form As.out (by omega)
        (first|cases Fc|(injection Fc with ea_ en_ ec_;(first|subst ea_|(injection ea_ with ea_;subst ea_));subst ec_;clear en_))
        have Hd:=y0.mk Fd
        have He:=y0.mk Fe
        clear Fd Hc Fe
        (first|simp only [add_plain]at Ar|skip)
        obtain⟨Ei,Ej⟩:=Kd.R_celln false As.out ((rd ((y21 Ab Aa).f2) Ad):Int) Gz Ha
        replace Gz:=eq_true Gz
        replace Ha:=eq_true Ha
        have Ek:=Kd.R_putn As.out ((rd ((y21 Ab Aa).f2) Ad):Int) true
        rw [← Fa.out]at Ek
        have Ff:=y0.mk Ek
        clear Ek
        refine start_ (n:=25) (S:=fun w'=>w'.cell? ⟨Ba,0,none⟩=some (.slice (some Af) Ab.length Bx)∧w'.cell? ⟨Ba,1,none⟩=some (.int .i64 Bf)∧w'.cell? ⟨Ba,2,none⟩=some (.string Bg)∧w'.cell? ⟨Ba,3,none⟩=some (.slice Bz Bb.length Ca)∧w'.cell? ⟨Ba,4,none⟩=some (.slice Cb Bc.length Cc)∧w'.cell? (Af.add ((Aa).toNat * 3))=some (.int .i64 ((y21 Ab Aa).f0))∧w'.cell? ⟨(Af.add ((Aa).toNat * 3)).block,(Af.add ((Aa).toNat * 3)).off + 1,none⟩=some (.string ((y21 Ab Aa).f1))∧w'.cell? ⟨(Af.add ((Aa).toNat * 3)).block,(Af.add ((Aa).toNat * 3)).off + 2,none⟩=some (.slice (some Bs) ((y21 Ab Aa).f2).length Bt)∧w'.cell? (Bs.add (Ad).toNat)=some (.int .i64 (rd ((y21 Ab Aa).f2) Ad))∧w'.cell? ⟨Hb,(Aa).toNat,none⟩=some (.bool true)) (ds:=[24]) (fl_ 25 0) (by kernel_rfl) rfl rfl ⟨(y8 Ac.out 0).trans rfl,(y8 Ac.out 1).trans rfl,(y8 Ac.out 2).trans rfl,(y8 Ac.out 3).trans rfl,(y8 Ac.out 4).trans rfl,((HB.out.cell (World.block_lt_of_cell? w _ Ay)).trans Ay),((HB.out.cell (World.block_lt_of_cell? w _ Aw)).trans Aw),((HB.out.cell (World.block_lt_of_cell? w _ Av)).trans Av),((HB.out.cell (World.block_lt_of_cell? w _ Az)).trans Az),Ar⟩ (fun hHeld=>?_);refine with_tabW z9_.tab8 z9_.bits8 (fun HT_ HW_=>?_)
        generalize wr.drew=Iz at As Ac HB He Ff Bj Ej Ei Ak Am Ag Ap Ar hHeld ⊢
        refine qp2 0 29 25 ?_
        refine qp 3 32 (fl_ 25 11) ?_
        refine qp 7 36 (fl_ 25 139) ?_
        refine qp 10 39 (fl_ 25 1163) ?_
        refine qp 11 40 (fl_ 25 3211) ?_
        refine qp 12 41 (fl_ 25 7307) ?_
        refine qt 2 31 (fl_ 25 7311) hHeld ?_
        refine qp 4 33 (fl_ 25 7327) ?_
        refine qp 5 34 (fl_ 25 7359) ?_
        refine qt 6 35 (fl_ 25 7423) hHeld ?_
        refine qp 8 37 (fl_ 25 7679) ?_
        refine qt 9 38 (fl_ 25 8191) hHeld ?_
        refine qt 13 42 (fl_ 25 16383) hHeld ?_
        refine qp10 14 43 25 ?_
        refine last_ (i:=24) (N:=none) (fl_ 25 33554431) rfl rfl (one_of HT_.out (by kernel_rfl)) (by decide) (fun K hK=>?_)
        refine skip_ (w1:=?_) (by rfl) rfl ?_ ?_
        rotate_left
        ·go_simp
         rfl
        refine hK.out _ _ ?_
        clear hK K
        refine done_ (done_of HT_.out (by kernel_rfl)) ?_
        try go_wp2
        go_roundg k2
        case measure=>have:=Eo.out;have:=Ep.out;omega
        exact⟨(Ez),(wrap64 (Ad + 1)),qy2,H',⟨by have:=Eo.out;have:=Ep.out;omega⟩,⟨qR Ff.out⟩,⟨by(with_reducible repeat(first|refine y10 ?_ _|refine y9 ?_|refine y6 ?_ _));refine y11 ?_ (by have h_:=Kd.R_ne As.out Ac.out (by decide);intro e_;exact h_ (by rw [e_];rfl)) _;(with_reducible repeat(first|refine y10 ?_ _|refine y9 ?_|refine y6 ?_ _));exact Ac.out⟩,⟨by repeat(first|(with_reducible first|exact HB.out|apply below_alloc|apply y19|apply y2|refine y3 ?_ Hd.out|refine y3 ?_ Df.out)|exact HB.out)⟩⟩
       ·replace Fn:=Bool.eq_false_iff.mpr Fn
        subst Fn
        replace H:=qF H
        obtain⟨Cq,Ir,H⟩:=qB H
        obtain⟨Ih,H⟩:=qo H
        have Ii:decide (0≤(rd ((y21 Ab Aa).f2) Ad))=true:=decide_eq_true Ih
        clear Ih
        obtain⟨Ij,H⟩:=qo H
        have Ik:decide ((rd ((y21 Ab Aa).f2) Ad) < (Bd.length:Int))=true:=decide_eq_true Ij
        clear Ij
        obtain⟨Fg,Bw⟩:∃ y_:List Bool,y_=(Bd.set ((rd ((y21 Ab Aa).f2) Ad):Int).toNat Cq):=⟨_,rfl⟩
        replace H:(z9_.l1 k2 Fg Aa (wrap64 (Ad + 1)) Ab Bf Bg Bb Bc)=some r:=by first|(rw [Bw];with_reducible exact H)|(have H2_:=(Option.bind_some _ _).symm.trans H;rw [Bw];with_reducible exact H2_)|(have H2_:=(Option.bind_some _ _).symm.trans H;with_reducible exact H2_)|with_reducible exact H|(rw [Bw];exact H)|exact H
        have Fh:=y0.mk Bw
        clear Bw
        have H':=y0.mk H
        clear H
        obtain⟨Fz,Ga,Gb,Gc,Gd,Ge,Gf,Gg,Gh,Gi⟩:=qz5 Ac.out
        have Bp:0≤(Aa:Int):=of_decide_eq_true qy0
        have Bq:Aa < (Ab.length:Int):=of_decide_eq_true qy0
        obtain⟨Af,Cr,Cs,Ct,Ah,Ai,Aj,At,Au⟩:=at_T63 Br.out Aa Bp Bq
        cases Ct
        replace Ah:=(HB.out.cell (World.block_lt_of_cell? w _ Ah)).trans Ah
        replace Ai:=(HB.out.cell (World.block_lt_of_cell? w _ Ai)).trans Ai
        replace Aj:=(HB.out.cell (World.block_lt_of_cell? w _ Aj)).trans Aj
        have Cj:=y0.mk Au
        have Ck:=y0.mk At
        clear Au At
        replace Bp:=eq_true Bp
        replace Bq:=eq_true Bq
        try go_wp2
        replace As:=y0.mk (Kd.R_drew As.out)
        replace Ac:=y0.mk (y9 Ac.out)
        replace HB:=y0.mk (y2 HB.out)
        have Cd:0≤(Aa:Int):=of_decide_eq_true qy0
        have Ce:Aa < (Ab.length:Int):=of_decide_eq_true qy0
        obtain⟨Cu,Ee,Bt,Ef,Ak,Am,Ag,Bh,Bi⟩:=at_T63 Br.out Aa Cd Ce
        have Av:=Ag
        have Aw:=Am
        have Ay:=Ak
        obtain rfl:Af=Cu:=(by injection Ef)
        replace Ak:=(HB.out.cell (World.block_lt_of_cell? w _ Ak)).trans Ak
        replace Am:=(HB.out.cell (World.block_lt_of_cell? w _ Am)).trans Am
        replace Ag:=(HB.out.cell (World.block_lt_of_cell? w _ Ag)).trans Ag
        have Bj:=y0.mk Bi
        have Cw:=y0.mk Bh
        clear Bi Bh
        replace Cd:=eq_true Cd
        replace Ce:=eq_true Ce
        have Cf:0≤(Ad:Int):=of_decide_eq_true qy0
        have Cg:Ad < (((y21 Ab Aa).f2).length:Int):=of_decide_eq_true qy0
        obtain⟨Bs,Eg,Ap⟩:=Kd.at_int Bj.out Ad Cf Cg
        have Az:=Ap
        cases Eg
        replace Ap:=(HB.out.cell (World.block_lt_of_cell? w _ Ap)).trans Ap
        replace Cf:=eq_true Cf
        replace Cg:=eq_true Cg
        obtain⟨Is,Iu,Fi⟩:=Kd.R_slice As.out
        (first|subst Fi|(injection Fi with f1_ f2_ f3_;have f4_:=f1_.symm;have f5_:=f3_.symm;clear f1_ f2_ f3_;subst f4_;subst f5_))
        have Ch:0≤(Aa:Int):=of_decide_eq_true qy0
        have Ci:Aa < (Bd.length:Int):=of_decide_eq_true qy0
        obtain⟨Dh,Eh,Ar⟩:=Kd.at_bool (Kd.R_reads' As.out).2.2 Aa Ch Ci
        (try rw [← Dg.out]at Ar)
        cases Eh
        replace Ch:=eq_true Ch
        replace Ci:=eq_true Ci
        have El:0≤(Aa:Int):=of_decide_eq_true qy0
        have Em:Aa < (Ab.length:Int):=of_decide_eq_true qy0
        obtain⟨Fj,Hf,Hg,Hh,Bk,Bl,Be,Cl,Cm⟩:=at_T63 Br.out Aa El Em
        have Bm:=Be
        have Bn:=Bl
        have Bo:=Bk
        obtain rfl:Af=Fj:=(by injection Hh)
        replace Bk:=(HB.out.cell (World.block_lt_of_cell? w _ Bk)).trans Bk
        replace Bl:=(HB.out.cell (World.block_lt_of_cell? w _ Bl)).trans Bl
        replace Be:=(HB.out.cell (World.block_lt_of_cell? w _ Be)).trans Be
        have Cx:=y0.mk Cm
        have Gj:=y0.mk Cl
        clear Cm Cl
        replace El:=eq_true El
        replace Em:=eq_true Em
        have ea_:=Option.some.inj (Ag.symm.trans Be)
        injection ea_ with ea_ en_ ec_
        subst ea_
        subst ec_
        clear en_
        refine start_ (n:=25) (S:=fun w'=>w'.cell? ⟨Ba,0,none⟩=some (.slice (some Af) Ab.length Bx)∧w'.cell? ⟨Ba,1,none⟩=some (.int .i64 Bf)∧w'.cell? ⟨Ba,2,none⟩=some (.string Bg)∧w'.cell? ⟨Ba,3,none⟩=some (.slice Bz Bb.length Ca)∧w'.cell? ⟨Ba,4,none⟩=some (.slice Cb Bc.length Cc)∧w'.cell? (Af.add ((Aa).toNat * 3))=some (.int .i64 ((y21 Ab Aa).f0))∧w'.cell? ⟨(Af.add ((Aa).toNat * 3)).block,(Af.add ((Aa).toNat * 3)).off + 1,none⟩=some (.string ((y21 Ab Aa).f1))∧w'.cell? ⟨(Af.add ((Aa).toNat * 3)).block,(Af.add ((Aa).toNat * 3)).off + 2,none⟩=some (.slice (some Bs) ((y21 Ab Aa).f2).length Bt)∧w'.cell? (Bs.add (Ad).toNat)=some (.int .i64 (rd ((y21 Ab Aa).f2) Ad))∧w'.cell? (Dh.add (Aa).toNat)=some (.bool false)∧w'.cell? (Af.add ((Aa).toNat * 3))=some (.int .i64 ((y21 Ab Aa).f0))∧w'.cell? ⟨(Af.add ((Aa).toNat * 3)).block,(Af.add ((Aa).toNat * 3)).off + 1,none⟩=some (.string ((y21 Ab Aa).f1))∧w'.cell? ⟨(Af.add ((Aa).toNat * 3)).block,(Af.add ((Aa).toNat * 3)).off + 2,none⟩=some (.slice (some Bs) ((y21 Ab Aa).f2).length Bt)) (ds:=[24]) (fl_ 25 0) (by kernel_rfl) rfl rfl ⟨(y8 Ac.out 0).trans rfl,(y8 Ac.out 1).trans rfl,(y8 Ac.out 2).trans rfl,(y8 Ac.out 3).trans rfl,(y8 Ac.out 4).trans rfl,((HB.out.cell (World.block_lt_of_cell? w _ Ay)).trans Ay),((HB.out.cell (World.block_lt_of_cell? w _ Aw)).trans Aw),((HB.out.cell (World.block_lt_of_cell? w _ Av)).trans Av),((HB.out.cell (World.block_lt_of_cell? w _ Az)).trans Az),Ar,((HB.out.cell (World.block_lt_of_cell? w _ Bo)).trans Bo),((HB.out.cell (World.block_lt_of_cell? w _ Bn)).trans Bn),((HB.out.cell (World.block_lt_of_cell? w _ Bm)).trans Bm)⟩ (fun hHeld=>?_);refine with_tabW z9_.tab8 z9_.bits8 (fun HT_ HW_=>?_)
        generalize wr.drew=Ja at As Ac HB Bj Cx Ak Am Ag Ap Ar Bk Bl Be hHeld ⊢
        refine qp2 0 29 25 ?_
        refine qp 3 32 (fl_ 25 11) ?_
        refine qp 7 36 (fl_ 25 139) ?_
        refine qp 10 39 (fl_ 25 1163) ?_
        refine qp 11 40 (fl_ 25 3211) ?_
        refine qp 12 41 (fl_ 25 7307) ?_
        refine qt 2 31 (fl_ 25 7311) hHeld ?_
        refine qp 4 33 (fl_ 25 7327) ?_
        refine qp 5 34 (fl_ 25 7359) ?_
        refine qt 6 35 (fl_ 25 7423) hHeld ?_
        refine qp 8 37 (fl_ 25 7679) ?_
        refine qt 9 38 (fl_ 25 8191) hHeld ?_
        refine qt 13 42 (fl_ 25 16383) hHeld ?_
        refine qp2 14 43 25 ?_
        refine qp 17 46 (fl_ 25 196607) ?_
        refine qt 16 45 (fl_ 25 262143) hHeld ?_
        refine qp2 18 47 25 ?_
        refine qt 20 49 (fl_ 25 2097151) hHeld ?_
        refine qO 21 50 (fl_ 25 4194303) (fun K hK=>?_)
        refine goes_ Try.func72 (by kernel_rfl) rfl #[.int .i64 ((y21 Ab Aa).f0)] (by rfl) rfl rfl qy1 ?_
        with_reducible refine(spec_l06Calc.calls ((y21 Ab Aa).f0) Cq _ Ir.out).mono ?_
        rintro e w' ⟨rfl,⟨nd,rfl⟩⟩
        refine⟨_,rfl, ?_⟩
        have Hi:0≤((rd ((y21 Ab Aa).f2) Ad):Int):=of_decide_eq_true qy0
        have Hj:((rd ((y21 Ab Aa).f2) Ad):Int) < ((Bd.length:Int):Int):=of_decide_eq_true qy0
        obtain⟨Iv,Iw,Fk,Fl,Hk,Ix,Fm⟩:=Kd.R_form As.out (by omega)
        (first|cases Fk|(injection Fk with ea_ en_ ec_;(first|subst ea_|(injection ea_ with ea_;subst ea_));subst ec_;clear en_))
        have Hl:=y0.mk Fl
        have Iy:=y0.mk Fm
        clear Fl Hk Fm
        (first|simp only [add_plain]at Ar|skip)
        obtain⟨Hm,Hn⟩:=Kd.R_celln false As.out ((rd ((y21 Ab Aa).f2) Ad):Int) Hi Hj
        replace Hi:=eq_true Hi
        replace Hj:=eq_true Hj
        have En:=Kd.R_putn As.out ((rd ((y21 Ab Aa).f2) Ad):Int) Cq
        rw [← Fh.out]at En
        have Ho:=y0.mk En
        clear En
        refine hK.out _ _ ⟨(y8 Ac.out 0).trans rfl,(y8 Ac.out 1).trans rfl,(y8 Ac.out 2).trans rfl,(y8 Ac.out 3).trans rfl,(y8 Ac.out 4).trans rfl,((HB.out.cell (World.block_lt_of_cell? w _ Ay)).trans Ay),((HB.out.cell (World.block_lt_of_cell? w _ Aw)).trans Aw),((HB.out.cell (World.block_lt_of_cell? w _ Av)).trans Av),((HB.out.cell (World.block_lt_of_cell? w _ Az)).trans Az),hHeld.2.2.2.2.2.2.2.2.2.1,((HB.out.cell (World.block_lt_of_cell? w _ Bo)).trans Bo),((HB.out.cell (World.block_lt_of_cell? w _ Bn)).trans Bn),((HB.out.cell (World.block_lt_of_cell? w _ Bm)).trans Bm)⟩ (fun hHeld=>?_)
        clear hK K
        refine qx 50 ?_
        refine qp2 22 51 25 ?_
        refine last_ (i:=24) (N:=none) (fl_ 25 33554431) rfl rfl (one_of HT_.out (by kernel_rfl)) (by decide) (fun K hK=>?_)
        refine skip_ (w1:=?_) (by rfl) rfl ?_ ?_
        rotate_left
        ·go_simp
         rfl
        refine hK.out _ _ ?_
        clear hK K
        refine done_ (done_of HT_.out (by kernel_rfl)) ?_
        try go_wp2
        go_roundg k2
        case measure=>have:=Eo.out;have:=Ep.out;omega
        exact⟨(Fg),(wrap64 (Ad + 1)),qy2,H',⟨by have:=Eo.out;have:=Ep.out;omega⟩,⟨Ho.out⟩,⟨by(with_reducible repeat(first|refine y10 ?_ _|refine y9 ?_|refine y6 ?_ _));refine y11 ?_ (by have h_:=Kd.R_ne As.out Ac.out (by decide);intro e_;exact h_ (by rw [e_];rfl)) _;(with_reducible repeat(first|refine y10 ?_ _|refine y9 ?_|refine y6 ?_ _));exact Ac.out⟩,⟨by repeat(first|(with_reducible first|exact HB.out|apply below_alloc|apply y19|apply y2|refine y3 ?_ Hl.out|refine y3 ?_ Df.out)|exact HB.out)⟩⟩
      ·rw [if_neg Eq]at H
       have Ex:=decide_eq_false Eq
       clear Eq
       have H':=y0.mk H
       clear H
       obtain⟨Gk,Gl,Gm,Gn,Gp,Gq,Gr,Gs,Gt,Gu⟩:=qz5 Ac.out
       have Bp:0≤(Aa:Int):=of_decide_eq_true qy0
       have Bq:Aa < (Ab.length:Int):=of_decide_eq_true qy0
       obtain⟨Af,Cr,Cs,Ct,Ah,Ai,Aj,At,Au⟩:=at_T63 Br.out Aa Bp Bq
       cases Ct
       replace Ah:=(HB.out.cell (World.block_lt_of_cell? w _ Ah)).trans Ah
       replace Ai:=(HB.out.cell (World.block_lt_of_cell? w _ Ai)).trans Ai
       replace Aj:=(HB.out.cell (World.block_lt_of_cell? w _ Aj)).trans Aj
       have Cj:=y0.mk Au
       have Ck:=y0.mk At
       clear Au At
       replace Bp:=eq_true Bp
       replace Bq:=eq_true Bq
       go_wp2
       go_roundg k2
       case measure=>have:=Eo.out;have:=Ep.out;omega
       exact⟨(Bd),(wrap64 (Aa - 1)),qy2,H',⟨by have:=Eo.out;have:=Ep.out;omega⟩,⟨qR As.out⟩,⟨qk Ac.out⟩,⟨qb⟩⟩
   ·rw [if_neg c9]at H
    have Ew:decide (0≤Aa)=false:=decide_eq_false c9
    clear c9
    obtain rfl:=Option.some.inj H
    go_wp2
    go_ret
    exact⟨_,by first|rfl|(simp [y13,y14] <;> rfl)|(simp [*,y13,y14] <;> rfl),by(with_reducible repeat(first|apply Kd.R_alloc|apply Kd.R_drewN|apply Kd.R_drew));exact As.out,qb⟩
end Go.Proofs.Ytkdabljlfbmpdaa.Po
