-- Cut by prune.py, a program of this session, out of the texts of this claim: Lean checks it.
import Derived.Test.YtkdabljlfbmpdaaVolPox0
import Derived.Test.YtkdabljlfbmpdaaVolPox4
import Derived.Test.YtkdabljlfbmpdaaVolPox9
section
namespace Go.Proofs.Ytkdabljlfbmpdaa.Po
open Go.RowKit Go.Proofs.YtkdabljlfbmpdaaW.PrintWords Go.Proofs.YtkdabljlfbmpdaaW.PrintLast Go.Proofs.YtkdabljlfbmpdaaW.PrintMore
attribute [local go_sem] max2_int min2_int max_two min_two max_three min_three max_four min_four   -- for this text's walks alone
set_option linter.unusedVariables false
set_option linter.unusedSimpArgs false
def spec_Old.l0:Nat→List ByteArray→List ByteArray→Int→List (S63)→Int→ByteArray→List Int→List (S33)→Option (List ByteArray)
 | 0,_,_,_,_,_,_,_,_=>none
 | k + 1,x3,x4,x5,x321000,x321001,x321002,x321003,x321004=>if x5 < (x321000.length:Int)then(if 0≤x5 then(if((y21 x321000 x5).f0)=1 then((spec_l05In.f k x4 ((y21 x321000 x5).f1)).bind fun t330=>(if t330=true then((spec_l05In.f k x3 ((y21 x321000 x5).f1)).bind fun t332=>(if t332=true then(spec_Old.l0 k x3 x4 (wrap64 (x5 + 1)) x321000 x321001 x321002 x321003 x321004)else(if x3.length < 8796093022208 then(spec_Old.l0 k (x3 ++ [(y21 x321000 x5).f1]) x4 (wrap64 (x5 + 1)) x321000 x321001 x321002 x321003 x321004)else(none))))else(spec_Old.l0 k x3 x4 (wrap64 (x5 + 1)) x321000 x321001 x321002 x321003 x321004)))else(spec_Old.l0 k x3 x4 (wrap64 (x5 + 1)) x321000 x321001 x321002 x321003 x321004))else(none))else(some x3)
def spec_Old.f (k:Nat) (l0_0:List (S63)) (a0_1:Int) (a0_2:ByteArray) (l0_3:List Int) (l0_4:List (S33)):Option (List ByteArray):=(some (([]:List ByteArray):List ByteArray)).bind fun y321=>((z7_.f k l0_0 a0_1 a0_2 l0_3 l0_4).bind fun t324=>(if t324.toList=([]:List UInt8)then(some y321)else((spec_l08Old.f k l0_0 a0_1 a0_2 l0_3 l0_4).bind fun t325=>(spec_Old.l0 k y321 t325 0 l0_0 a0_1 a0_2 l0_3 l0_4))))
set_option maxHeartbeats 8000000 in
set_option maxRecDepth 100000 in
theorem spec_Old.calls (k:Nat) (Bt:Option Addr) (Bu:Nat) (Ac:List (S63)) (Aw:Int) (Ay:ByteArray) (Bv:Option Addr) (Bw:Nat) (Ar:List Int) (Bx:Option Addr) (Bz:Nat) (As:List (S33)) (r:List ByteArray) (w:World) (Dx:Kd.C k63 w Bt Ac.length Ac) (Dy:Ac.length≤Bu) (Dz:Kd.C (Kd.int .i64) w Bv Ar.length Ar) (Ea:Ar.length≤Bw) (Eb:Kd.C k33 w Bx As.length As) (Ec:As.length≤Bz) (h:spec_Old.f k Ac Aw Ay Ar As=some r) :
  Calls Try.prog 15 #[.agg #[.slice Bt Ac.length Bu,.int .i64 Aw,.string Ay,.slice Bv Ar.length Bw,.slice Bx As.length Bz]] w fun e w'=>∃ v0_:Value,e=.returned (v0_)∧Kd.R Kd.string 9 w' w.heap.size (fun _=>True) v0_ r∧Below w.heap.size w w':=by
 have Il:=Try.underlying36
 have Av:=y0.mk Dx
 have Cp:=y0.mk Dy
 clear Dx Dy
 have Cq:=y0.mk Dz
 have Cr:=y0.mk Ea
 clear Dz Ea
 have Cs:=y0.mk Eb
 have Ct:=y0.mk Ec
 clear Eb Ec
 have HB:=y0.mk (Below.refl w.heap.size w)
 have H:((some (([]:List ByteArray):List ByteArray)).bind fun Cn=>((z7_.f k Ac Aw Ay Ar As).bind fun Bl=>(if Bl.toList=([]:List UInt8)then(some Cn)else((spec_l08Old.f k Ac Aw Ay Ar As).bind fun Bj=>(spec_Old.l0 k Cn Bj 0 Ac Aw Ay Ar As)))))=some r:=h
 clear h
 obtain⟨Cn,Ca⟩:∃ y_:List ByteArray,y_=(([]:List ByteArray)):=⟨_,rfl⟩
 replace H:((z7_.f k Ac Aw Ay Ar As).bind fun Bl=>(if Bl.toList=([]:List UInt8)then(some Cn)else((spec_l08Old.f k Ac Aw Ay Ar As).bind fun Bj=>(spec_Old.l0 k Cn Bj 0 Ac Aw Ay Ar As))))=some r:=by first|(rw [Ca];with_reducible exact H)|(have H2_:=(Option.bind_some _ _).symm.trans H;rw [Ca];with_reducible exact H2_)|(have H2_:=(Option.bind_some _ _).symm.trans H;with_reducible exact H2_)|with_reducible exact H|(rw [Ca];exact H)|exact H
 have Ci:=y0.mk Ca
 clear Ca
 obtain⟨Bl,A2,H⟩:=qB H
 by_cases c3:Bl.toList=([]:List UInt8)
 ·rw [if_pos c3]at H
  have Em:(Bl.toList == ([]:List UInt8))=true:=beq_iff_eq.mpr c3
  have En:(Bl.toList != ([]:List UInt8))=false:=bne_eq_false_iff_eq.mpr c3
  clear c3
  obtain rfl:=Option.some.inj H
  go_enter Try.func15,Try.ntmps15
  go_wp2_with (first|((with_reducible refine y17 (N:=1) rfl ?_);refine qe 1 #[.slice Bt Ac.length Bu,.int .i64 Aw,.string Ay,.slice Bv Ar.length Bw,.slice Bx As.length Bz] 36 ?_;intro Ed hg w4 hbox hb;have Ad:=y0.mk (hbox);have Eo:=y0.mk (qg (w:=w) hg);have Ep:=y0.mk (qg (w:=w) hg);replace HB:=y0.mk (y5 qb hb);clear hb hbox hg)|((with_reducible refine y17 (N:=6) rfl ?_);refine qL Kd.string 9 6 ([]:List ByteArray) ?_;intro Hg w5 Eq hb hg_ hnew_;clear hg_ hnew_;(first|rw [← Ci.out]at Eq|(simp only [Int.reduceToNat]at Eq;rw [← Ci.out]at Eq));have Bc:=y0.mk (Kd.R_lower Eq (y4 qb));replace Ad:=y0.mk (qK Ad.out hb);replace HB:=y0.mk (y5 qb hb);clear hb Eq;obtain⟨Hh,Hi,Hj,Hk,Hl,Hm,Hn,Ho,Hp,Hq⟩:=qz5 Ad.out)|((with_reducible refine y16 (f:=22) rfl ?_);refine y18 (some 8) rfl rfl Try.func22 (by kernel_rfl) rfl #[.agg #[.slice Bt Ac.length Bu,.int .i64 Aw,.string Ay,.slice Bv Ar.length Bw,.slice Bx As.length Bz]] rfl qy1 ?_;(with_reducible refine(z7_.calls k _ _ Ac Aw Ay _ _ Ar _ _ As Bl _ (qc (Kd.C_below Av.out HB.out)) Cp.out (qc (Kd.C_below Cq.out HB.out)) Cr.out (qc (Kd.C_below Cs.out HB.out)) Ct.out A2.out).mono ?_);rintro e w8 ⟨rfl,hb⟩;refine⟨_,rfl, ?_⟩;replace Bc:=y0.mk (Kd.R_below (qR Bc.out) hb);replace Ad:=y0.mk (qK Ad.out hb);replace HB:=y0.mk (y5 qb hb);(try clear hb)))
  go_ret
  exact⟨_,by first|rfl|(simp [y13,y14] <;> rfl)|(simp [*,y13,y14] <;> rfl),by(with_reducible repeat(first|apply Kd.R_alloc|apply Kd.R_drewN|apply Kd.R_drew));exact Bc.out,qb⟩
 ·rw [if_neg c3]at H
  have Em:(Bl.toList == ([]:List UInt8))=false:=beq_eq_false_iff_ne.mpr c3
  have En:(Bl.toList != ([]:List UInt8))=true:=bne_iff_ne.mpr c3
  obtain⟨Bj,A9,H⟩:=qB H
  have H':=y0.mk H
  clear H
  go_enter Try.func15,Try.ntmps15
  go_wp2_with (first|((with_reducible refine y17 (N:=1) rfl ?_);refine qe 1 #[.slice Bt Ac.length Bu,.int .i64 Aw,.string Ay,.slice Bv Ar.length Bw,.slice Bx As.length Bz] 36 ?_;intro Ed hg Iv hbox hb;have Ad:=y0.mk (hbox);have Eo:=y0.mk (qg (w:=w) hg);have Ep:=y0.mk (qg (w:=w) hg);replace HB:=y0.mk (y5 qb hb);clear hb hbox hg)|((with_reducible refine y17 (N:=6) rfl ?_);refine qL Kd.string 9 6 ([]:List ByteArray) ?_;intro Hg Iw Cu hb hg_ hnew_;clear hg_ hnew_;(first|rw [← Ci.out]at Cu|(simp only [Int.reduceToNat]at Cu;rw [← Ci.out]at Cu));have Bc:=y0.mk (Kd.R_lower Cu (y4 qb));replace Ad:=y0.mk (qK Ad.out hb);replace HB:=y0.mk (y5 qb hb);clear hb Cu;obtain⟨Cz,Da,Db,Dc,Dd,De,Df,Dg,Dh,Di⟩:=qz5 Ad.out)|((with_reducible refine y16 (f:=22) rfl ?_);refine y18 (some 8) rfl rfl Try.func22 (by kernel_rfl) rfl #[.agg #[.slice Bt Ac.length Bu,.int .i64 Aw,.string Ay,.slice Bv Ar.length Bw,.slice Bx As.length Bz]] rfl qy1 ?_;(with_reducible refine(z7_.calls k _ _ Ac Aw Ay _ _ Ar _ _ As Bl _ (qc (Kd.C_below Av.out HB.out)) Cp.out (qc (Kd.C_below Cq.out HB.out)) Cr.out (qc (Kd.C_below Cs.out HB.out)) Ct.out A2.out).mono ?_);rintro e Ix ⟨rfl,hb⟩;refine⟨_,rfl, ?_⟩;replace Bc:=y0.mk (Kd.R_below (qR Bc.out) hb);replace Ad:=y0.mk (qK Ad.out hb);replace HB:=y0.mk (y5 qb hb);(try clear hb);obtain⟨Dj,Dk,Dl,Dm,Do,Dp,Dq,Dr,Ds,Dt⟩:=qz5 Ad.out)|((with_reducible refine y16 (f:=38) rfl ?_);refine y18 (some 12) rfl rfl Try.func38 (by kernel_rfl) rfl #[.agg #[.slice Bt Ac.length Bu,.int .i64 Aw,.string Ay,.slice Bv Ar.length Bw,.slice Bx As.length Bz]] rfl qy1 ?_;(with_reducible refine(spec_l08Old.calls k _ _ Ac Aw Ay _ _ Ar _ _ As Bj _ (qc (Kd.C_below Av.out HB.out)) Cp.out (qc (Kd.C_below Cq.out HB.out)) Cr.out (qc (Kd.C_below Cs.out HB.out)) Ct.out A9.out).mono ?_);rintro e Iy ⟨Er,rfl,Hr,hb⟩;refine⟨_,rfl, ?_⟩;have Es:=y0.mk (Kd.R_lower (Kd.R_new' Hr (Kd.R_lt (qR Bc.out))) (y4 qb));replace Bc:=y0.mk (Kd.R_elder' (qR Bc.out) (Kd.R_base Hr) hb);replace Ad:=y0.mk (qK Ad.out hb);replace HB:=y0.mk (y5 qb hb);(try clear hb);(try clear Hr)))
  go_loopg [3,5] k (fun kq v3 v5 w'=>∃(Bm:List ByteArray) (Ab:Int),v5=.int .i64 Ab∧y0 (spec_Old.l0 kq Bm Bj Ab Ac Aw Ay Ar As=some r)∧y0 (kq≤k)∧y0 (Kd.R Kd.string 9 w' w.heap.size (fun k_=>some k_≠(Er:Value).ownBlock) v3 Bm)∧y0 (Kd.R Kd.string 9 w' w.heap.size (fun k_=>some k_≠(v3:Value).ownBlock) Er Bj)∧y0 (w'.heap[Ed]?=some (.cells #[(.slice Bt Ac.length Bu),.int .i64 Aw,.string Ay,(.slice Bv Ar.length Bw),(.slice Bx As.length Bz)] 36 (0,0)))∧y0 (Below w.heap.size w w'))
  case atStart=>exact⟨(Cn),(0),qy2,H',⟨Nat.le_refl _⟩,⟨qR (Kd.R_mono Bc.out (fun _ hk=>hk.2))⟩,⟨qR (Kd.R_mono Es.out (fun _ hk=>hk.2))⟩,⟨qk Ad.out⟩,⟨qb⟩⟩
  case round =>
   clear H'
   (try clear Em En Cz Da Db Dc Dd Dj Dk Dl Dm Do De Df Dg Dh Di Dp Dq Dr Ds Dt)
   obtain⟨Bm,Ab,rfl,HA,Ee,Bi,Bb,Ad,HB⟩:=hrel
   cases gk with
   | zero=>exact absurd HA.out (by simp [spec_Old.l0])
   | succ k1 =>
    have H:=HA.out
    clear HA
    simp only [spec_Old.l0]at H
    by_cases El:Ab < (Ac.length:Int)
    ·rw [if_pos El]at H
     have Et:=decide_eq_true El
     clear El
     obtain⟨Ih,H⟩:=qo H
     have Ii:decide (0≤Ab)=true:=decide_eq_true Ih
     clear Ih
     by_cases Ef:((y21 Ac Ab).f0)=1
     ·rw [if_pos Ef]at H
      have Eu:(((y21 Ac Ab).f0) == 1)=true:=beq_iff_eq.mpr Ef
      have Ew:(((y21 Ac Ab).f0) != 1)=false:=bne_eq_false_iff_eq.mpr Ef
      clear Ef
      obtain⟨Hs,Ht,H⟩:=qB H
      by_cases Fc:Hs=true
      ·subst Fc
       replace H:=qT H
       obtain⟨Hu,Ij,H⟩:=qB H
       by_cases Fd:Hu=true
       ·subst Fd
        replace H:=qT H
        have H':=y0.mk H
        clear H
        obtain⟨Fe,Ff,Fg,Fh,Fi,Fj,Fk,Fl,Fm,Fn⟩:=qz5 Ad.out
        have Bd:0≤(Ab:Int):=of_decide_eq_true qy0
        have Be:Ab < (Ac.length:Int):=of_decide_eq_true qy0
        obtain⟨Bf,Cd,Ce,Cf,Af,Ag,Aa,Ai,Aj⟩:=at_T63 Av.out Ab Bd Be
        cases Cf
        replace Af:=(HB.out.cell (World.block_lt_of_cell? w _ Af)).trans Af
        replace Ag:=(HB.out.cell (World.block_lt_of_cell? w _ Ag)).trans Ag
        replace Aa:=(HB.out.cell (World.block_lt_of_cell? w _ Aa)).trans Aa
        have Bp:=y0.mk Aj
        have Bq:=y0.mk Ai
        clear Aj Ai
        replace Bd:=eq_true Bd
        replace Be:=eq_true Be
        have Bn:0≤(Ab:Int):=of_decide_eq_true qy0
        have Bo:Ab < (Ac.length:Int):=of_decide_eq_true qy0
        obtain⟨Cb,Cv,Cw,Cx,Ak,Am,Ah,At,Au⟩:=at_T63 Av.out Ab Bn Bo
        obtain rfl:Bf=Cb:=(by injection Cx)
        replace Ak:=(HB.out.cell (World.block_lt_of_cell? w _ Ak)).trans Ak
        replace Am:=(HB.out.cell (World.block_lt_of_cell? w _ Am)).trans Am
        replace Ah:=(HB.out.cell (World.block_lt_of_cell? w _ Ah)).trans Ah
        have Cj:=y0.mk Au
        have Ck:=y0.mk At
        clear Au At
        replace Bn:=eq_true Bn
        replace Bo:=eq_true Bo
        have ea_:=Option.some.inj (Aa.symm.trans Ah)
        injection ea_ with ea_ en_ ec_
        subst ea_
        subst ec_
        clear en_
        obtain⟨Im,Io,Hv⟩:=Kd.R_slice Bb.out
        subst Hv
        go_wp2_with (first|(go_at_call 39;(with_reducible refine(spec_l05In.calls k1 _ _ Bj ((y21 Ac Ab).f1) true _ (qc ((Kd.R_reads' Bb.out).2.2)) (by exact(Kd.R_reads' Bb.out).2.1) Ht.out).mono ?_);rintro e w' ⟨rfl,⟨nd,rfl⟩⟩;have Cg:0≤(Ab:Int):=of_decide_eq_true qy0;have Ch:Ab < (Ac.length:Int):=of_decide_eq_true qy0;obtain⟨Cy,Eg,Eh,Ei,Az,Ba,Ap,Bg,Bh⟩:=at_T63 Av.out Ab Cg Ch;obtain rfl:Bf=Cy:=(by injection Ei);replace Az:=(HB.out.cell (World.block_lt_of_cell? w _ Az)).trans Az;replace Ba:=(HB.out.cell (World.block_lt_of_cell? w _ Ba)).trans Ba;replace Ap:=(HB.out.cell (World.block_lt_of_cell? w _ Ap)).trans Ap;have Du:=y0.mk Bh;have Dw:=y0.mk Bg;clear Bh Bg;replace Cg:=eq_true Cg;replace Ch:=eq_true Ch;have ea_:=Option.some.inj (Aa.symm.trans Ap);injection ea_ with ea_ en_ ec_;subst ea_;subst ec_;clear en_;obtain⟨Ip,Iq,Hw⟩:=Kd.R_slice Bi.out;subst Hw)|(go_at_call 39;(with_reducible refine(spec_l05In.calls k1 _ _ Bm ((y21 Ac Ab).f1) true _ (qc ((Kd.R_reads' Bi.out).2.2)) (by exact(Kd.R_reads' Bi.out).2.1) Ij.out).mono ?_);rintro e w' ⟨rfl,⟨nd,rfl⟩⟩))
        go_roundg k1
        case measure=>have:=Ee.out;omega
        exact⟨(Bm),(wrap64 (Ab + 1)),qy2,H',⟨by have:=Ee.out;omega⟩,⟨qR Bi.out⟩,⟨qR Bb.out⟩,⟨qk Ad.out⟩,⟨qb⟩⟩
       ·replace Fd:=Bool.eq_false_iff.mpr Fd
        subst Fd
        replace H:=qF H
        obtain⟨Ik,H⟩:=qo H
        have Ex:=y0.mk Ik
        clear Ik
        obtain⟨Ey,Cc⟩:∃ y_:List ByteArray,y_=(Bm ++ [(y21 Ac Ab).f1]):=⟨_,rfl⟩
        replace H:(spec_Old.l0 k1 Ey Bj (wrap64 (Ab + 1)) Ac Aw Ay Ar As)=some r:=by first|(rw [Cc];with_reducible exact H)|(have H2_:=(Option.bind_some _ _).symm.trans H;rw [Cc];with_reducible exact H2_)|(have H2_:=(Option.bind_some _ _).symm.trans H;with_reducible exact H2_)|with_reducible exact H|(rw [Cc];exact H)|exact H
        have Ez:=y0.mk Cc
        clear Cc
        have H':=y0.mk H
        clear H
        obtain⟨Fo,Fp,Fq,Fr,Fs,Ft,Fu,Fv,Fx,Fy⟩:=qz5 Ad.out
        have Bd:0≤(Ab:Int):=of_decide_eq_true qy0
        have Be:Ab < (Ac.length:Int):=of_decide_eq_true qy0
        obtain⟨Bf,Cd,Ce,Cf,Af,Ag,Aa,Ai,Aj⟩:=at_T63 Av.out Ab Bd Be
        cases Cf
        replace Af:=(HB.out.cell (World.block_lt_of_cell? w _ Af)).trans Af
        replace Ag:=(HB.out.cell (World.block_lt_of_cell? w _ Ag)).trans Ag
        replace Aa:=(HB.out.cell (World.block_lt_of_cell? w _ Aa)).trans Aa
        have Bp:=y0.mk Aj
        have Bq:=y0.mk Ai
        clear Aj Ai
        replace Bd:=eq_true Bd
        replace Be:=eq_true Be
        have Bn:0≤(Ab:Int):=of_decide_eq_true qy0
        have Bo:Ab < (Ac.length:Int):=of_decide_eq_true qy0
        obtain⟨Cb,Cv,Cw,Cx,Ak,Am,Ah,At,Au⟩:=at_T63 Av.out Ab Bn Bo
        obtain rfl:Bf=Cb:=(by injection Cx)
        replace Ak:=(HB.out.cell (World.block_lt_of_cell? w _ Ak)).trans Ak
        replace Am:=(HB.out.cell (World.block_lt_of_cell? w _ Am)).trans Am
        replace Ah:=(HB.out.cell (World.block_lt_of_cell? w _ Ah)).trans Ah
        have Cj:=y0.mk Au
        have Ck:=y0.mk At
        clear Au At
        replace Bn:=eq_true Bn
        replace Bo:=eq_true Bo
        have ea_:=Option.some.inj (Aa.symm.trans Ah)
        injection ea_ with ea_ en_ ec_
        subst ea_
        subst ec_
        clear en_
        obtain⟨Hx,Hy,Hz⟩:=Kd.R_slice Bb.out
        subst Hz
        go_wp2_with (first|(go_at_call 39;(with_reducible refine(spec_l05In.calls k1 _ _ Bj ((y21 Ac Ab).f1) true _ (qc ((Kd.R_reads' Bb.out).2.2)) (by exact(Kd.R_reads' Bb.out).2.1) Ht.out).mono ?_);rintro e w' ⟨rfl,⟨nd,rfl⟩⟩;have Cg:0≤(Ab:Int):=of_decide_eq_true qy0;have Ch:Ab < (Ac.length:Int):=of_decide_eq_true qy0;obtain⟨Cy,Eg,Eh,Ei,Az,Ba,Ap,Bg,Bh⟩:=at_T63 Av.out Ab Cg Ch;obtain rfl:Bf=Cy:=(by injection Ei);replace Az:=(HB.out.cell (World.block_lt_of_cell? w _ Az)).trans Az;replace Ba:=(HB.out.cell (World.block_lt_of_cell? w _ Ba)).trans Ba;replace Ap:=(HB.out.cell (World.block_lt_of_cell? w _ Ap)).trans Ap;have Du:=y0.mk Bh;have Dw:=y0.mk Bg;clear Bh Bg;replace Cg:=eq_true Cg;replace Ch:=eq_true Ch;have ea_:=Option.some.inj (Aa.symm.trans Ap);injection ea_ with ea_ en_ ec_;subst ea_;subst ec_;clear en_;obtain⟨Ia,Ib,Ic⟩:=Kd.R_slice Bi.out;subst Ic)|(go_at_call 39;(with_reducible refine(spec_l05In.calls k1 _ _ Bm ((y21 Ac Ab).f1) false _ (qc ((Kd.R_reads' Bi.out).2.2)) (by exact(Kd.R_reads' Bi.out).2.1) Ij.out).mono ?_);rintro e w' ⟨rfl,⟨nd,rfl⟩⟩;have Ej:0≤(Ab:Int):=of_decide_eq_true qy0;have Ek:Ab < (Ac.length:Int):=of_decide_eq_true qy0;obtain⟨Fa,Id,Ie,If,Br,Bs,Bk,Cl,Cm⟩:=at_T63 Av.out Ab Ej Ek;obtain rfl:Bf=Fa:=(by injection If);replace Br:=(HB.out.cell (World.block_lt_of_cell? w _ Br)).trans Br;replace Bs:=(HB.out.cell (World.block_lt_of_cell? w _ Bs)).trans Bs;replace Bk:=(HB.out.cell (World.block_lt_of_cell? w _ Bk)).trans Bk;have Fz:=y0.mk Cm;have Ga:=y0.mk Cl;clear Cm Cl;replace Ej:=eq_true Ej;replace Ek:=eq_true Ek;have ea_:=Option.some.inj (Aa.symm.trans Bk);injection ea_ with ea_ en_ ec_;subst ea_;subst ec_;clear en_)|((with_reducible refine gate_builtin (b:=.append) (xs:=#[.tmp 48,.tmp 55]) rfl ?_);at_builtin;refine Kd.R_append Kd.string (w0:=w) w.heap.size rfl (.tmp 48) (.tmp 55) 30 9 (.string ⟨#[]⟩) 16 rfl Try.underlying30 info9 rfl (by decide) (by omega) (.slice Ia Bm.length Ib) Bm ((y21 Ac Ab).f1) [.string ((y21 Ac Ab).f1)] (fun k_=>some k_≠(.slice Hx Bj.length Hy:Value).ownBlock) (fun _=>False) rfl rfl ?aP (fun _ hk=>hk.elim) ?aF ?aO ?aB ?aS ?aL ?_;(case aP=>exact rfl);(case aB=>exact qb);(case aF=>exact(fun k_ hk=>Kd.fresh' (Kd.R_lt (qR Bb.out)) k_ hk));(case aO=>exact(qR Bi.out));(case aS=>exact(y4 qb));(case aL=>have:=Ex.out;omega);intro Ir Iz ho hb hg hat;rw [← Ez.out]at ho;replace Bb:=y0.mk (Kd.R_after (ok:=(fun _=>True)) (qR (Kd.R_mono Bb.out (fun _ hk=>⟨trivial,hk⟩))) hg hat);replace Ad:=y0.mk (blk_grown (qk Ad.out) hg (Kd.R_ne Bi.out Ad.out (by decide)));replace HB:=y0.mk (hb);have Fb:=y0.mk (ho);clear Bi;clear ho hb hg hat))
        go_roundg k1
        case measure=>have:=Ee.out;omega
        exact⟨(Ey),(wrap64 (Ab + 1)),qy2,H',⟨by have:=Ee.out;omega⟩,⟨qR Fb.out⟩,⟨qR (Kd.R_mono Bb.out (fun _ hk=>hk.2))⟩,⟨qk Ad.out⟩,⟨qb⟩⟩
      ·replace Fc:=Bool.eq_false_iff.mpr Fc
       subst Fc
       replace H:=qF H
       have H':=y0.mk H
       clear H
       obtain⟨Gb,Gc,Gd,Ge,Gf,Gg,Gh,Gi,Gj,Gk⟩:=qz5 Ad.out
       have Bd:0≤(Ab:Int):=of_decide_eq_true qy0
       have Be:Ab < (Ac.length:Int):=of_decide_eq_true qy0
       obtain⟨Bf,Cd,Ce,Cf,Af,Ag,Aa,Ai,Aj⟩:=at_T63 Av.out Ab Bd Be
       cases Cf
       replace Af:=(HB.out.cell (World.block_lt_of_cell? w _ Af)).trans Af
       replace Ag:=(HB.out.cell (World.block_lt_of_cell? w _ Ag)).trans Ag
       replace Aa:=(HB.out.cell (World.block_lt_of_cell? w _ Aa)).trans Aa
       have Bp:=y0.mk Aj
       have Bq:=y0.mk Ai
       clear Aj Ai
       replace Bd:=eq_true Bd
       replace Be:=eq_true Be
       have Bn:0≤(Ab:Int):=of_decide_eq_true qy0
       have Bo:Ab < (Ac.length:Int):=of_decide_eq_true qy0
       obtain⟨Cb,Cv,Cw,Cx,Ak,Am,Ah,At,Au⟩:=at_T63 Av.out Ab Bn Bo
       obtain rfl:Bf=Cb:=(by injection Cx)
       replace Ak:=(HB.out.cell (World.block_lt_of_cell? w _ Ak)).trans Ak
       replace Am:=(HB.out.cell (World.block_lt_of_cell? w _ Am)).trans Am
       replace Ah:=(HB.out.cell (World.block_lt_of_cell? w _ Ah)).trans Ah
       have Cj:=y0.mk Au
       have Ck:=y0.mk At
       clear Au At
       replace Bn:=eq_true Bn
       replace Bo:=eq_true Bo
       have ea_:=Option.some.inj (Aa.symm.trans Ah)
       injection ea_ with ea_ en_ ec_
       subst ea_
       subst ec_
       clear en_
       obtain⟨Is,Iu,Ig⟩:=Kd.R_slice Bb.out
       subst Ig
       go_wp2_with (first|(go_at_call 39;(with_reducible refine(spec_l05In.calls k1 _ _ Bj ((y21 Ac Ab).f1) false _ (qc ((Kd.R_reads' Bb.out).2.2)) (by exact(Kd.R_reads' Bb.out).2.1) Ht.out).mono ?_);rintro e w' ⟨rfl,⟨nd,rfl⟩⟩))
       go_roundg k1
       case measure=>have:=Ee.out;omega
       exact⟨(Bm),(wrap64 (Ab + 1)),qy2,H',⟨by have:=Ee.out;omega⟩,⟨qR Bi.out⟩,⟨qR Bb.out⟩,⟨qk Ad.out⟩,⟨qb⟩⟩
     ·rw [if_neg Ef]at H
      have Eu:(((y21 Ac Ab).f0) == 1)=false:=beq_eq_false_iff_ne.mpr Ef
      have Ew:(((y21 Ac Ab).f0) != 1)=true:=bne_iff_ne.mpr Ef
      have H':=y0.mk H
      clear H
      obtain⟨Gl,Gm,Gn,Gp,Gq,Gr,Gs,Gt,Gu,Gv⟩:=qz5 Ad.out
      have Bd:0≤(Ab:Int):=of_decide_eq_true qy0
      have Be:Ab < (Ac.length:Int):=of_decide_eq_true qy0
      obtain⟨Bf,Cd,Ce,Cf,Af,Ag,Aa,Ai,Aj⟩:=at_T63 Av.out Ab Bd Be
      cases Cf
      replace Af:=(HB.out.cell (World.block_lt_of_cell? w _ Af)).trans Af
      replace Ag:=(HB.out.cell (World.block_lt_of_cell? w _ Ag)).trans Ag
      replace Aa:=(HB.out.cell (World.block_lt_of_cell? w _ Aa)).trans Aa
      have Bp:=y0.mk Aj
      have Bq:=y0.mk Ai
      clear Aj Ai
      replace Bd:=eq_true Bd
      replace Be:=eq_true Be
      go_wp2
      go_roundg k1
      case measure=>have:=Ee.out;omega
      exact⟨(Bm),(wrap64 (Ab + 1)),qy2,H',⟨by have:=Ee.out;omega⟩,⟨qR Bi.out⟩,⟨qR Bb.out⟩,⟨qk Ad.out⟩,⟨qb⟩⟩
    ·rw [if_neg El]at H
     have Et:=decide_eq_false El
     clear El
     obtain rfl:=Option.some.inj H
     obtain⟨Gw,Gx,Gy,Gz,Ha,Hb,Hc,Hd,He,Hf⟩:=qz5 Ad.out
     go_wp2
     go_ret
     exact⟨_,by first|rfl|(simp [y13,y14] <;> rfl)|(simp [*,y13,y14] <;> rfl),by(with_reducible repeat(first|apply Kd.R_alloc|apply Kd.R_drewN|apply Kd.R_drew));exact Kd.R_mono Bi.out (fun _ hk=>trivial),qb⟩
def impl_in.f (a0:Int) (a1:Int) (a2:Int):Option (Bool):=if a0≥a1 then(some (decide (a0≤a2)))else(some false)
set_option maxHeartbeats 8000000 in
set_option maxRecDepth 100000 in
theorem impl_in.calls (a0:Int) (a1:Int) (a2:Int) (r:Bool) (w:World) (h:impl_in.f a0 a1 a2=some r) :
  Calls Try.prog 29 #[.int .i64 a0,.int .i64 a1,.int .i64 a2] w fun e w'=>e=.returned (.bool r)∧Drawn0 w w':=by
 have H:(if a0≥a1 then(some (decide (a0≤a2)))else(some false))=some r:=h
 clear h
 by_cases c4:a0≥a1
 ·rw [if_pos c4]at H
  have c4b0:decide (a1≤a0)=true:=decide_eq_true c4
  clear c4
  obtain rfl:=Option.some.inj H
  go_enter Try.func29,Try.ntmps29
  go_wp2
  go_ret
  exact qf2
 ·rw [if_neg c4]at H
  have c4b0:decide (a1≤a0)=false:=decide_eq_false c4
  clear c4
  obtain rfl:=Option.some.inj H
  go_enter Try.func29,Try.ntmps29
  go_wp2
  go_ret
  exact qf2
def impl_isSum.f (a0:Int):Option (Bool):=(impl_in.f a0 5 7).bind fun t337=>(some t337)
set_option maxHeartbeats 8000000 in
set_option maxRecDepth 100000 in
theorem impl_isSum.calls (a0:Int) (r:Bool) (w:World) (h:impl_isSum.f a0=some r) :
  Calls Try.prog 65 #[.int .i64 a0] w fun e w'=>e=.returned (.bool r)∧Drawn0 w w':=by
 have H:((impl_in.f a0 5 7).bind fun t337=>(some t337))=some r:=h
 clear h
 obtain⟨t337,A2,H⟩:=qB H
 obtain rfl:=Option.some.inj H
 go_enter Try.func65,Try.ntmps65
 go_wp2_with (first|((with_reducible refine y16 (f:=29) rfl ?_);refine y18 (some 4) rfl rfl Try.func29 (by kernel_rfl) rfl #[.int .i64 a0,.int .i64 5,.int .i64 7] rfl qy1 ?_;(with_reducible refine(impl_in.calls a0 5 7 t337 _ A2.out).mono ?_);rintro e w' ⟨rfl,⟨nd,rfl⟩⟩;refine⟨_,rfl, ?_⟩))
 go_ret
 exact qf2
def impl_Rule_lits.f (l0_0:List (S63)) (a0_1:Int) (a0_2:ByteArray) (l0_3:List Int) (l0_4:List (S33)):Option ((List (S33))):=(some (([(⟨a0_1,a0_2,l0_3⟩:S33)]:List (S33)):List (S33))).bind fun y339=>(if y339.length + l0_4.length < 2932031007402 then(some (y339 ++ l0_4))else(none))
set_option maxHeartbeats 8000000 in
set_option maxRecDepth 100000 in
theorem impl_Rule_lits.calls (Av:Option Addr) (Aw:Nat) (Aj:List (S63)) (Ag:Int) (Ah:ByteArray) (P0_3_:Nat→Prop) (Ak:Option Addr) (Am:Nat) (Ab:List Int) (P0_4_:Nat→Prop) (At:Option Addr) (Au:Nat) (Ac:List (S33)) (r:List (S33)) (w:World) (Az:Kd.C k63 w Av Aj.length Aj) (Ba:Aj.length≤Aw) (Be:Kd.V (Kd.int .i64) 3 w w.heap.size (fun k_=>P0_3_ k_) (.slice Ak Ab.length Am) Ab) (Bf:Kd.V k33 33 w w.heap.size (fun k_=>P0_4_ k_) (.slice At Ac.length Au) Ac) (h:impl_Rule_lits.f Aj Ag Ah Ab Ac=some r) :
  Calls Try.prog 80 #[.agg #[.slice Av Aj.length Aw,.int .i64 Ag,.string Ah,.slice Ak Ab.length Am,.slice At Ac.length Au]] w fun e w'=>∃ v0_:Value,e=.returned (v0_)∧Kd.N k33 33 w' w.heap.size (fun k_=>((P0_3_ k_∨P0_4_ k_)∨w.heap.size≤k_)) v0_ r∧Below w.heap.size w w':=by
 have Cj:=Try.underlying36
 have Ck:=Try.underlying33
 have Cf:=y0.mk Az
 have Cg:=y0.mk Ba
 clear Az Ba
 have Af:=y0.mk (show Kd.V (Kd.int .i64) 3 w w.heap.size (fun k_=>((P0_3_ k_∨P0_4_ k_)∨w.heap.size≤k_)) (.slice Ak Ab.length Am) Ab from Kd.V_mono Be (fun k_ hk=>.inl (.inl hk)))
 have Ai:=y0.mk (show Kd.V k33 33 w w.heap.size (fun k_=>((P0_3_ k_∨P0_4_ k_)∨w.heap.size≤k_)) (.slice At Ac.length Au) Ac from Kd.V_mono Bf (fun k_ hk=>.inl (.inr hk)))
 have HB:=y0.mk (Below.refl w.heap.size w)
 have H:((some (([(⟨Ag,Ah,Ab⟩:S33)]:List (S33)):List (S33))).bind fun As=>(if As.length + Ac.length < 2932031007402 then(some (As ++ Ac))else(none)))=some r:=h
 clear h
 obtain⟨As,Ap⟩:∃ y_:List (S33),y_=(([(⟨Ag,Ah,Ab⟩:S33)]:List (S33))):=⟨_,rfl⟩
 replace H:(if As.length + Ac.length < 2932031007402 then(some (As ++ Ac))else(none))=some r:=by first|(rw [Ap];with_reducible exact H)|(have H2_:=(Option.bind_some _ _).symm.trans H;rw [Ap];with_reducible exact H2_)|(have H2_:=(Option.bind_some _ _).symm.trans H;with_reducible exact H2_)|with_reducible exact H|(rw [Ap];exact H)|exact H
 have Bb:=y0.mk Ap
 clear Ap
 obtain⟨c2,H⟩:=qo H
 have Bi:=y0.mk c2
 clear c2
 obtain⟨Bj,Ar⟩:∃ y_:List (S33),y_=(As ++ Ac):=⟨_,rfl⟩
 replace H:(some Bj)=some r:=by first|(rw [Ar];with_reducible exact H)|(have H2_:=(Option.bind_some _ _).symm.trans H;rw [Ar];with_reducible exact H2_)|(have H2_:=(Option.bind_some _ _).symm.trans H;with_reducible exact H2_)|with_reducible exact H|(rw [Ar];exact H)|exact H
 have Bg:=y0.mk Ar
 clear Ar
 obtain rfl:=Option.some.inj H
 go_enter Try.func80,Try.ntmps80
 go_wp2_with (first|((with_reducible refine y17 (N:=1) rfl ?_);refine qe 1 #[.slice Av Aj.length Aw,.int .i64 Ag,.string Ah,.slice Ak Ab.length Am,.slice At Ac.length Au] 36 ?_;intro Aa hg w3 hbox hb;replace Af:=y0.mk (Kd.V_below (Kd.V_elderB (qV Af.out) Aa (Nat.le_of_eq hg.symm)) hb);replace Ai:=y0.mk (Kd.V_below (Kd.V_elderB (qV Ai.out) Aa (Nat.le_of_eq hg.symm)) hb);have Ad:=y0.mk (hbox);have Ch:=y0.mk (qg (w:=w) hg);have Ci:=y0.mk (qg (w:=w) hg);replace HB:=y0.mk (y5 qb hb);clear hb hbox hg;obtain⟨Bk,Bl,Bm,Bn,Bo,Bp,Bq,Br,Bs,Bt⟩:=qz5 Ad.out)|((with_reducible refine y17 (N:=5) rfl ?_);refine Kd.N_lit k33 _ 33 ?hg (N':=5) ?hd (xs:=([(⟨Ag,Ah,Ab⟩:S33)]:List (S33))) (inner:=[.int .i64 Ag,.string Ah,.slice Ak Ab.length Am]) (ok:=(fun k_=>((P0_3_ k_∨P0_4_ k_)∨w.heap.size≤k_)∧k_≠Aa)) (okp:=(fun k_=>((P0_3_ k_∨P0_4_ k_)∨w.heap.size≤k_)∧k_≠Aa)) ?hr ?hp (fun _ hk=>hk) ((show ∀ k_,w3.heap.size≤k_→(fun k_=>((P0_3_ k_∨P0_4_ k_)∨w.heap.size≤k_)∧k_≠Aa) k_ from fun k_ hk=>⟨(.inr (Nat.le_trans (y4 qb) hk)),Kd.freshB (g:=Aa) (o:=.cells #[.slice Av Aj.length Aw,.int .i64 Ag,.string Ah,.slice Ak Ab.length Am,.slice At Ac.length Au] 36 (0,0)) (qk Ad.out) k_ hk⟩) _ (Nat.le_refl _)) (Below.refl _ _) (Nat.le_refl _) (by simp) ?_;(case hd=>rfl);(case hg=>rfl);(case hr=>first|(go_simp;done)|(go_simp;rfl));(case hp=>exact(Reps.c3 (show Kd.FK k33 _ _ (⟨Ag,Ah,Ab⟩:S33) [.int .i64 Ag,.string Ah,.slice Ak Ab.length Am]from(k33_mkF _ _ (⟨Ag,Ah,Ab⟩:S33) (Kd.V_reads' (Kd.V_mono (ok':=(fun k_=>((P0_3_ k_∨P0_4_ k_)∨w.heap.size≤k_)∧k_≠Aa)) (Af.out) (fun k_ hk=>⟨hk.1,hk.2⟩))).2.1 (Kd.V_F (Kd.V_mono (ok':=(fun k_=>((P0_3_ k_∨P0_4_ k_)∨w.heap.size≤k_)∧k_≠Aa)) (Af.out) (fun k_ hk=>⟨hk.1,hk.2⟩))))) (Reps.none _ _)));intro Bc w5 Bd hb hg_ hnew_;clear hg_ hnew_;(first|rw [← Bb.out]at Bd|(simp only [Int.reduceToNat]at Bd;rw [← Bb.out]at Bd));replace Af:=y0.mk (Kd.V_elder' (qV Af.out) (Kd.N_base Bd) hb);replace Ai:=y0.mk (Kd.V_elder' (qV Ai.out) (Kd.N_base Bd) hb);have Ay:=y0.mk (Kd.N_lower Bd (y4 qb));replace Ad:=y0.mk (qK Ad.out hb);replace HB:=y0.mk (y5 qb hb);clear hb Bd;obtain⟨Bu,Bv,Bw,Bx,Bz,Ca,Cb,Cc,Cd,Ce⟩:=qz5 Ad.out)|((with_reducible refine gate_builtin (b:=.append) (xs:=#[.tmp 5,.tmp 7]) rfl ?_);at_builtin;refine Kd.N_append_rows k33 (w0:=w) w.heap.size rfl (.tmp 5) (.tmp 7) 34 33 (.agg #[(.int .i64 0),(.string ⟨#[]⟩),(.slice none 0 0)]) 48 rfl Try.underlying34 info33 rfl (by decide) (by omega) Bc As Ac _ _ _ (fun k_=>((P0_3_ k_∨P0_4_ k_)∨w.heap.size≤k_)∧k_≠Aa) (fun k_=>((fun k_=>((P0_3_ k_∨P0_4_ k_)∨w.heap.size≤k_)∧k_≠Aa)) k_∧some k_≠(Bc:Value).ownBlock) rfl rfl ?aO ?aR (fun _ hk=>hk) ?aF ?aB ?aS ?aL ?_;(case aR=>exact(by skip;exact Kd.V_F (Kd.V_mono (ok':=(fun k_=>((fun k_=>((P0_3_ k_∨P0_4_ k_)∨w.heap.size≤k_)∧k_≠Aa)) k_∧some k_≠(Bc:Value).ownBlock)) (Ai.out) (fun k_ hk=>⟨⟨hk.1.1,hk.1.2⟩,hk.2⟩))));(case aB=>exact qb);(case aF=>exact(fun k_ hk=>⟨(.inr (Nat.le_trans (y4 qb) hk)),Kd.freshB (g:=Aa) (o:=.cells #[.slice Av Aj.length Aw,.int .i64 Ag,.string Ah,.slice Ak Ab.length Am,.slice At Ac.length Au] 36 (0,0)) (qk Ad.out) k_ hk⟩));(case aO=>exact(qN Ay.out));(case aS=>exact(y4 qb));(case aL=>have:=Bi.out;omega);intro Cl w8 ho hb hg hat;rw [← Bg.out]at ho;replace Af:=y0.mk (Kd.V_afterv (ok:=(fun k_=>((P0_3_ k_∨P0_4_ k_)∨w.heap.size≤k_)∧k_≠Aa)) (qV Af.out) hg hat);replace Ai:=y0.mk (Kd.V_afterv (ok:=(fun k_=>((P0_3_ k_∨P0_4_ k_)∨w.heap.size≤k_)∧k_≠Aa)) (qV Ai.out) hg hat);replace Ad:=y0.mk (blk_grown (qk Ad.out) hg (Kd.N_ne Ay.out Ad.out (by decide)));replace HB:=y0.mk (hb);have Bh:=y0.mk (ho);clear Ay;clear ho hb hg hat))
 go_ret
 exact⟨_,by first|rfl|(simp [y13,y14] <;> rfl)|(simp [*,y13,y14] <;> rfl),by(with_reducible repeat(first|apply Kd.N_alloc|apply Kd.N_drewN|apply Kd.N_drew));exact Kd.N_mono Bh.out (fun _ hk=>hk.1),qb⟩
def impl_isFormed_1.f (a0:Int):Option (Bool):=some (a0 != 1)
set_option maxHeartbeats 8000000 in
set_option maxRecDepth 100000 in
theorem impl_isFormed_1.calls (a0:Int) (r:Bool) (w:World) (h:impl_isFormed_1.f a0=some r) :
  Calls Try.prog 82 #[.int .i64 a0] w fun e w'=>e=.returned (.bool r)∧Drawn0 w w':=by
 have H:(some (a0 != 1))=some r:=h
 clear h
 obtain rfl:=Option.some.inj H
 go_enter Try.func82,Try.ntmps82
 go_wp2
 go_ret
 exact qf2
def z5_.l0:Nat→List Int→Int→Int→Option (Int)
 | 0,_,_,_=>none
 | k + 1,x0,x7,x8=>if x8 < x7 then(if 0≤x8 then(if x8 < (x0.length:Int)then((impl_isFormed_1.f (rd x0 x8)).bind fun t346=>(if t346=true then(some x8)else(z5_.l0 k x0 x7 (wrap64 (x8 + 1)))))else(none))else(none))else(some (-1))
def z5_.f (k:Nat) (l0:List Int) :Option (Int):=z5_.l0 k l0 (l0.length:Int) 0
set_option maxHeartbeats 8000000 in
set_option maxRecDepth 100000 in
theorem z5_.calls (k:Nat) (A0:Option Addr) (c0:Nat) (l0:List Int)  (r:Int) (w:World) (Ai:Kd.C (Kd.int .i64) w A0 l0.length l0) (Aj:l0.length≤c0) (h:z5_.f k l0=some r) :
  Calls Try.prog 92 #[.slice A0 l0.length c0,.func (.func 82) #[] #[]] w fun e w'=>e=.returned (.int .i64 r)∧Drawn0 w w':=by
 have Ap:=y0.mk Ai
 have At:=y0.mk Aj
 clear Ai Aj
 have H:(z5_.l0 k l0 (l0.length:Int) 0)=some r:=h
 clear h
 have H':=y0.mk H
 clear H
 go_enter Try.func92,Try.ntmps92
 go_wp2
 go_loopg [8] k (fun kq v8 w'=>∃(Aa:Int),v8=.int .i64 Aa∧y0 (z5_.l0 kq l0 (l0.length:Int) Aa=some r)∧y0 (kq≤k)∧Drawn0 w w')
 case atStart=>exact⟨(0),qy2,H',⟨Nat.le_refl _⟩,by repeat(first|exact Drawn0.refl _|apply Drawn0.step)⟩
 case round =>
  clear H'
  obtain⟨Aa,rfl,HA,Ak,⟨m1,rfl⟩⟩:=hrel
  cases gk with
  | zero=>exact absurd HA.out (by simp [z5_.l0])
  | succ k1 =>
   have H:=HA.out
   clear HA
   simp only [z5_.l0]at H
   by_cases c3:Aa < (l0.length:Int)
   ·rw [if_pos c3]at H
    have Af:=decide_eq_true c3
    clear c3
    obtain⟨c4,H⟩:=qo H
    have Ar:decide (0≤Aa)=true:=decide_eq_true c4
    clear c4
    obtain⟨c5,H⟩:=qo H
    have As:decide (Aa < (l0.length:Int))=true:=decide_eq_true c5
    clear c5
    obtain⟨Ag,A6,H⟩:=qB H
    have Ab:0≤(Aa:Int):=of_decide_eq_true qy0
    have Ac:Aa < (l0.length:Int):=of_decide_eq_true qy0
    obtain⟨Am,Ah,Ad⟩:=Kd.at_int Ap.out Aa Ab Ac
    cases Ah
    replace Ab:=eq_true Ab
    replace Ac:=eq_true Ac
    by_cases c7:Ag=true
    ·subst c7
     replace H:=qT H
     obtain rfl:=Option.some.inj H
     go_wp2_with (first|(go_at_call 82;(with_reducible refine(impl_isFormed_1.calls (rd l0 Aa) true _ A6.out).mono ?_);rintro e w' ⟨rfl,⟨nd,rfl⟩⟩))
     go_ret
     exact qf2
    ·replace c7:=Bool.eq_false_iff.mpr c7
     subst c7
     replace H:=qF H
     have H':=y0.mk H
     clear H
     go_wp2_with (first|(go_at_call 82;(with_reducible refine(impl_isFormed_1.calls (rd l0 Aa) false _ A6.out).mono ?_);rintro e w' ⟨rfl,⟨nd,rfl⟩⟩))
     go_roundg k1
     case measure=>have:=Ak.out;omega
     exact⟨(wrap64 (Aa + 1)),qy2,H',⟨by have:=Ak.out;omega⟩,by repeat(first|exact Drawn0.refl _|apply Drawn0.step)⟩
   ·rw [if_neg c3]at H
    have Af:=decide_eq_false c3
    clear c3
    obtain rfl:=Option.some.inj H
    go_wp2
    go_ret
    exact qf2
def slices_ContainsFunc_int_int_impl_isFormed_1.f (k:Nat) (l0:List Int) :Option (Bool):=(z5_.f k l0).bind fun t347=>(some (decide (t347≥0)))
set_option maxHeartbeats 8000000 in
set_option maxRecDepth 100000 in
theorem slices_ContainsFunc_int_int_impl_isFormed_1.calls (k:Nat) (A0:Option Addr) (c0:Nat) (l0:List Int)  (r:Bool) (w:World) (hr0:Kd.C (Kd.int .i64) w A0 l0.length l0) (hc0:l0.length≤c0) (h:slices_ContainsFunc_int_int_impl_isFormed_1.f k l0=some r) :
  Calls Try.prog 81 #[.slice A0 l0.length c0,.func (.func 82) #[] #[]] w fun e w'=>e=.returned (.bool r)∧Drawn0 w w':=by
 have HR0:=y0.mk hr0
 have HC0:=y0.mk hc0
 clear hr0 hc0
 have H:((z5_.f k l0).bind fun t347=>(some (decide (t347≥0))))=some r:=h
 clear h
 obtain⟨t347,A3,H⟩:=qB H
 obtain rfl:=Option.some.inj H
 go_enter Try.func81,Try.ntmps81
 go_wp2_with (first|((with_reducible refine y16 (f:=92) rfl ?_);refine y18 (some 7) rfl rfl Try.func92 (by kernel_rfl) rfl #[.slice A0 l0.length c0,.func (.func 82) #[] #[]] rfl qy1 ?_;(with_reducible refine(z5_.calls k _ _ l0  t347 _ (qc HR0.out) HC0.out A3.out).mono ?_);rintro e w' ⟨rfl,⟨nd,rfl⟩⟩;refine⟨_,rfl, ?_⟩))
 go_ret
 exact qf2
end Go.Proofs.Ytkdabljlfbmpdaa.Po
end
section
namespace Go.Proofs.Ytkdabljlfbmpdaa.Po
open Go.RowKit Go.Proofs.YtkdabljlfbmpdaaW.PrintWords Go.Proofs.YtkdabljlfbmpdaaW.PrintLast Go.Proofs.YtkdabljlfbmpdaaW.PrintMore
attribute [local go_sem] max2_int min2_int max_two min_two max_three min_three max_four min_four   -- for this text's walks alone
set_option linter.unusedVariables false
set_option linter.unusedSimpArgs false
mutual
def z4_.l0:Nat→List Int→List (S63)→Int→Int→List (S63)→Int→ByteArray→List Int→List (S33)→Option (Bool)
 | 0,_,_,_,_,_,_,_,_,_=>none
 | k + 1,x3,x17,x18,x19,x349000,x349001,x349002,x349003,x349004=>if x19 < x18 then(if 0≤x19 then(if x19 < (x17.length:Int)then(z4_.l1 k x3 x19 x17 x18 x19 ((y21 x17 x19).f2) (((y21 x17 x19).f2).length:Int) 0 x349000 x349001 x349002 x349003 x349004 ((y21 x17 x19).f0) ((y21 x17 x19).f1) ((y21 x17 x19).f2))else(none))else(none))else((impl_Rule_lits.f x349000 x349001 x349002 x349003 x349004).bind fun t362=>(z4_.l2 k x3 t362 (t362.length:Int) 0 x349000 x349001 x349002 x349003 x349004))
def z4_.l1:Nat→List Int→Int→List (S63)→Int→Int→List Int→Int→Int→List (S63)→Int→ByteArray→List Int→List (S33)→Int→ByteArray→List Int→Option (Bool)
 | 0,_,_,_,_,_,_,_,_,_,_,_,_,_,_,_,_=>none
 | k + 1,x3,x4,x17,x18,x19,x25,x26,x27,x349000,x349001,x349002,x349003,x349004,x354000,x354001,x354002=>if x27 < x26 then(if 0≤x27 then(if x27 < (x25.length:Int)then((impl_in.f (rd x25 x27) 0 (wrap64 (x4 - 1))).bind fun t355=>(if t355=true then(if 0≤(rd x25 x27)then(if(rd x25 x27) < (x3.length:Int)then(z4_.l1 k (x3.set ((rd x25 x27):Int).toNat (wrap64 ((rd x3 (rd x25 x27)) + 1))) x4 x17 x18 x19 x25 x26 (wrap64 (x27 + 1)) x349000 x349001 x349002 x349003 x349004 x354000 x354001 x354002)else(none))else(none))else(some false)))else(none))else(none))else((impl_in.f x354000 1 7).bind fun t358=>(if t358=true then((impl_isSum.f x354000).bind fun t359=>(if t359=true then(if(x354002.length:Int)=2 then((impl_in.f x354000 1 3).bind fun t360=>(if t360=true then(if(x354002.length:Int) > 0 then(some false)else(z4_.l0 k x3 x17 x18 (wrap64 (x19 + 1)) x349000 x349001 x349002 x349003 x349004))else(z4_.l0 k x3 x17 x18 (wrap64 (x19 + 1)) x349000 x349001 x349002 x349003 x349004)))else(some false))else((impl_in.f x354000 1 3).bind fun t361=>(if t361=true then(if(x354002.length:Int) > 0 then(some false)else(z4_.l0 k x3 x17 x18 (wrap64 (x19 + 1)) x349000 x349001 x349002 x349003 x349004))else(z4_.l0 k x3 x17 x18 (wrap64 (x19 + 1)) x349000 x349001 x349002 x349003 x349004)))))else(some false)))
def z4_.l2:Nat→List Int→List (S33)→Int→Int→List (S63)→Int→ByteArray→List Int→List (S33)→Option (Bool)
 | 0,_,_,_,_,_,_,_,_,_=>none
 | k + 1,x3,x71,x72,x73,x349000,x349001,x349002,x349003,x349004=>if x73 < x72 then(if 0≤x73 then(if x73 < (x71.length:Int)then(if x73=0 then(if((y20 x71 x73).f0)=1 then((impl_in.f ((y20 x71 x73).f0) 1 3).bind fun t368=>(if t368=true then(if((y20 x71 x73).f0)=3 then(z4_.j3 k x3 x71 x72 x73 ((((y20 x71 x73).f2).length:Int) != 2) x349000 x349001 x349002 x349003 x349004 ((y20 x71 x73).f0) ((y20 x71 x73).f1) ((y20 x71 x73).f2))else(z4_.j3 k x3 x71 x72 x73 false x349000 x349001 x349002 x349003 x349004 ((y20 x71 x73).f0) ((y20 x71 x73).f1) ((y20 x71 x73).f2)))else(z4_.j3 k x3 x71 x72 x73 true x349000 x349001 x349002 x349003 x349004 ((y20 x71 x73).f0) ((y20 x71 x73).f1) ((y20 x71 x73).f2))))else(z4_.j3 k x3 x71 x72 x73 true x349000 x349001 x349002 x349003 x349004 ((y20 x71 x73).f0) ((y20 x71 x73).f1) ((y20 x71 x73).f2)))else((impl_in.f ((y20 x71 x73).f0) 1 3).bind fun t369=>(if t369=true then(if((y20 x71 x73).f0)=3 then(z4_.j3 k x3 x71 x72 x73 ((((y20 x71 x73).f2).length:Int) != 2) x349000 x349001 x349002 x349003 x349004 ((y20 x71 x73).f0) ((y20 x71 x73).f1) ((y20 x71 x73).f2))else(z4_.j3 k x3 x71 x72 x73 false x349000 x349001 x349002 x349003 x349004 ((y20 x71 x73).f0) ((y20 x71 x73).f1) ((y20 x71 x73).f2)))else(z4_.j3 k x3 x71 x72 x73 true x349000 x349001 x349002 x349003 x349004 ((y20 x71 x73).f0) ((y20 x71 x73).f1) ((y20 x71 x73).f2)))))else(none))else(none))else(if(x349000.length:Int)≤60 then((slices_ContainsFunc_int_int_impl_isFormed_1.f k x3).bind fun t365=>(some (!t365)))else(some false))
def z4_.j3:Nat→List Int→List (S33)→Int→Int→Bool→List (S63)→Int→ByteArray→List Int→List (S33)→Int→ByteArray→List Int→Option (Bool)
 | 0,_,_,_,_,_,_,_,_,_,_,_,_,_=>none
 | k + 1,x3,x71,x72,x73,x101,x349000,x349001,x349002,x349003,x349004,x368000,x368001,x368002=>if x101=true then(some false)else(z4_.l3 k x3 x71 x72 x73 x368002 (x368002.length:Int) 0 x349000 x349001 x349002 x349003 x349004)
def z4_.l3:Nat→List Int→List (S33)→Int→Int→List Int→Int→Int→List (S63)→Int→ByteArray→List Int→List (S33)→Option (Bool)
 | 0,_,_,_,_,_,_,_,_,_,_,_,_=>none
 | k + 1,x3,x71,x72,x73,x103,x104,x105,x349000,x349001,x349002,x349003,x349004=>if x105 < x104 then(if 0≤x105 then(if x105 < (x103.length:Int)then((impl_in.f (rd x103 x105) 0 (wrap64 ((x349000.length:Int) - 1))).bind fun t371=>(if t371=true then(if 0≤(rd x103 x105)then(if(rd x103 x105) < (x3.length:Int)then(z4_.l3 k (x3.set ((rd x103 x105):Int).toNat (wrap64 ((rd x3 (rd x103 x105)) + 1))) x71 x72 x73 x103 x104 (wrap64 (x105 + 1)) x349000 x349001 x349002 x349003 x349004)else(none))else(none))else(some false)))else(none))else(none))else(z4_.l2 k x3 x71 x72 (wrap64 (x73 + 1)) x349000 x349001 x349002 x349003 x349004)
end
def z4_.f (k:Nat) (l0_0:List (S63)) (a0_1:Int) (a0_2:ByteArray) (l0_3:List Int) (l0_4:List (S33)):Option (Bool):=if 0≤(l0_0.length:Int)then(if((l0_0.length:Int):Int).toNat≤35184372088832 then(z4_.l0 k (List.replicate ((l0_0.length:Int):Int).toNat 0) l0_0 (l0_0.length:Int) 0 l0_0 a0_1 a0_2 l0_3 l0_4)else(none))else(none)
set_option maxHeartbeats 8000000 in
set_option maxRecDepth 100000 in
theorem z4_.calls (k:Nat) (Bz:Option Addr) (Bl:Nat) (Af:List (S63)) (Bf:Int) (Bg:ByteArray) (Bm:Option Addr) (Bn:Nat) (Bb:List Int) (Bo:Option Addr) (Bp:Nat) (Bc:List (S33)) (r:Bool) (w:World) (Fb:Kd.C k63 w Bz Af.length Af) (Fc:Af.length≤Bl) (Fd:Kd.C (Kd.int .i64) w Bm Bb.length Bb) (Fe:Bb.length≤Bn) (Ff:Kd.C k33 w Bo Bc.length Bc) (Fg:Bc.length≤Bp) (h:z4_.f k Af Bf Bg Bb Bc=some r) :
  Calls Try.prog 67 #[.agg #[.slice Bz Af.length Bl,.int .i64 Bf,.string Bg,.slice Bm Bb.length Bn,.slice Bo Bc.length Bp]] w fun e w'=>e=.returned (.bool r)∧Below w.heap.size w w':=by
 have Tg:=Try.underlying36
 have Th:=Try.underlying63
 have Ti:=Try.underlying33
 have Fh:=y0.mk Fb
 have Hn:=y0.mk Fc
 clear Fb Fc
 have Ho:=y0.mk Fd
 have Hp:=y0.mk Fe
 clear Fd Fe
 have Hq:=y0.mk Ff
 have Hr:=y0.mk Fg
 clear Ff Fg
 have HB:=y0.mk (Below.refl w.heap.size w)
 have H:(if 0≤(Af.length:Int)then(if((Af.length:Int):Int).toNat≤35184372088832 then(z4_.l0 k (List.replicate ((Af.length:Int):Int).toNat 0) Af (Af.length:Int) 0 Af Bf Bg Bb Bc)else(none))else(none))=some r:=h
 clear h
 obtain⟨c2,H⟩:=qo H
 have Oj:=eq_true c2
 have Ok:=decide_eq_true c2
 clear c2
 obtain⟨c3,H⟩:=qo H
 have Ol:=eq_true c3
 have Om:=decide_eq_true c3
 clear c3
 obtain⟨Hs,Cf⟩:∃ y_:List Int,y_=(List.replicate ((Af.length:Int):Int).toNat 0):=⟨_,rfl⟩
 replace H:(z4_.l0 k Hs Af (Af.length:Int) 0 Af Bf Bg Bb Bc)=some r:=by first|(rw [Cf];with_reducible exact H)|(have H2_:=(Option.bind_some _ _).symm.trans H;rw [Cf];with_reducible exact H2_)|(have H2_:=(Option.bind_some _ _).symm.trans H;with_reducible exact H2_)|with_reducible exact H|(rw [Cf];exact H)|exact H
 have Fi:=y0.mk Cf
 clear Cf
 have H':=y0.mk H
 clear H
 go_enter Try.func67,Try.ntmps67
 go_wp2_with (first|((with_reducible refine y17 (N:=1) rfl ?_);(try(refine gate_guard (by rfl) ?_;dsimp only));refine qe 1 #[.slice Bz Af.length Bl,.int .i64 Bf,.string Bg,.slice Bm Bb.length Bn,.slice Bo Bc.length Bp] 36 ?_;intro Az hg w4 hbox hb;have Ah:=y0.mk (hbox);have Fj:=y0.mk (qg (w:=w) hg);have Qh:=y0.mk (qg (w:=w) hg);replace HB:=y0.mk (y5 qb hb);clear hb hbox hg;obtain⟨Fp,Fq,Fr,Fs,Ft,Fu,Fv,Fx,Fy,Fz⟩:=qz5 Ah.out)|((with_reducible refine y17 (N:=15) rfl ?_);(try(refine gate_guard (by rfl) ?_;dsimp only));refine Kd.R_make (Kd.int .i64) _ 3 rfl (N:=15) rfl 23 _ _ rfl (Af.length:Int) rfl rfl Try.underlying23 (.int .i64 0) 8 info3 rfl (by decide) (by omega) 0 (ok:=fun _=>True) (okp:=fun _=>True) rfl (fun _ hk=>hk) trivial (of_decide_eq_true qy0) (Nat.le_trans (Nat.mul_le_mul_right _ (of_decide_eq_true qy0:(Af.length:Int).toNat≤35184372088832)) (by omega)) (Below.refl _ _) (Nat.le_refl _) ?_;intro Bi w6 Ht hb hg_ hnew_;clear hg_ hnew_;(first|rw [← Fi.out]at Ht|(simp only [Int.reduceToNat]at Ht;rw [← Fi.out]at Ht));have Hu:=y0.mk (Kd.R_lower Ht (y4 qb));replace Ah:=y0.mk (qK Ah.out hb);replace HB:=y0.mk (y5 qb hb);clear hb Ht;obtain⟨Ga,Gb,Gc,Gd,Ge,Gf,Gg,Gh,Gi,Gj⟩:=qz5 Ah.out))
 go_loopg [19] k (fun kq Tj w'=>∃(Dj:List Int) (Ad:Int),Tj=.int .i64 Ad∧y0 (z4_.l0 kq Dj Af (Af.length:Int) Ad Af Bf Bg Bb Bc=some r)∧y0 (kq≤k)∧y0 (Kd.R (Kd.int .i64) 3 w' w.heap.size (fun _=>True) Bi Dj)∧y0 (w'.heap[Az]?=some (.cells #[(.slice Bz Af.length Bl),.int .i64 Bf,.string Bg,(.slice Bm Bb.length Bn),(.slice Bo Bc.length Bp)] 36 (0,0)))∧y0 (Below w.heap.size w w'))
 case atStart=>exact⟨(Hs),(0),qy2,H',⟨Nat.le_refl _⟩,⟨qR Hu.out⟩,⟨qk Ah.out⟩,⟨qb⟩⟩
 case round =>
  clear H'
  (try clear Oj Ok Ol Om Fp Fq Fr Fs Ft Ga Gb Gc Gd Ge Fu Fv Fx Fy Fz Gf Gg Gh Gi Gj)
  obtain⟨Dj,Ad,rfl,HA,Ca,Am,Ah,HB⟩:=hrel
  cases gk with
  | zero=>exact absurd HA.out (by simp [z4_.l0])
  | succ k1 =>
   have H:=HA.out
   clear HA
   simp only [z4_.l0]at H
   by_cases c9:Ad < (Af.length:Int)
   ·as_aux_lemma =>
    rw [if_pos c9]at H
    have Gk:=decide_eq_true c9
    clear c9
    obtain⟨Qi,H⟩:=qo H
    have Hv:decide (0≤Ad)=true:=decide_eq_true Qi
    clear Qi
    obtain⟨Qj,H⟩:=qo H
    have Hw:decide (Ad < (Af.length:Int))=true:=decide_eq_true Qj
    clear Qj
    have H':=y0.mk H
    clear H
    have Dq:0≤(Ad:Int):=of_decide_eq_true qy0
    have Dr:Ad < (Af.length:Int):=of_decide_eq_true qy0
    obtain⟨Fk,Dk,Ck,On,Bq,Br,Bs,Cr,Cs⟩:=at_T63 Fh.out Ad Dq Dr
    cases On
    replace Bq:=(HB.out.cell (World.block_lt_of_cell? w _ Bq)).trans Bq
    replace Br:=(HB.out.cell (World.block_lt_of_cell? w _ Br)).trans Br
    replace Bs:=(HB.out.cell (World.block_lt_of_cell? w _ Bs)).trans Bs
    have Ct:=y0.mk Cs
    have Kh:=y0.mk Cr
    clear Cs Cr
    replace Dq:=eq_true Dq
    replace Dr:=eq_true Dr
    go_wp2_with (first|((with_reducible refine y17 (N:=5) rfl ?_);(try(refine gate_guard (by rfl) ?_;dsimp only));refine qe 5 #[.int .i64 0,.string (⟨#[]⟩:ByteArray),.slice none 0 0] 63 ?_;intro Cg hg Tw hbox hb;replace Am:=y0.mk (Kd.R_below (qR Am.out) hb);have Ba:=y0.mk (hbox);have Qk:=y0.mk (qg (w:=w) hg);have Ql:=y0.mk (qg (w:=w) hg);replace HB:=y0.mk (y5 qb hb);have As:=y0.mk (qn Ah.out hg);have Av:=y0.mk (qm Ah.out hg);replace Ah:=y0.mk (qK Ah.out hb);clear hb hbox hg;have Qm:=Av.out;have Qn:=As.out;obtain⟨Ds,Dt,Du,Dw,Dx,Dy⟩:=qz3 Ba.out))
    go_loopg [27] k1 (fun kq Tk w'=>∃(Bd:List Int) (Ap:Int),Tk=.int .i64 Ap∧y0 (z4_.l1 kq Bd Ad Af (Af.length:Int) Ad ((y21 Af Ad).f2) (((y21 Af Ad).f2).length:Int) Ap Af Bf Bg Bb Bc ((y21 Af Ad).f0) ((y21 Af Ad).f1) ((y21 Af Ad).f2)=some r)∧y0 (kq≤k1)∧y0 (Kd.R (Kd.int .i64) 3 w' w.heap.size (fun _=>True) Bi Bd)∧y0 (w'.heap[Az]?=some (.cells #[(.slice (some Fk) Af.length Bl),.int .i64 Bf,.string Bg,(.slice Bm Bb.length Bn),(.slice Bo Bc.length Bp)] 36 (0,0)))∧y0 (w'.heap[Cg]?=some (.cells #[.int .i64 ((y21 Af Ad).f0),.string ((y21 Af Ad).f1),(.slice Dk ((y21 Af Ad).f2).length Ck)] 63 (0,0)))∧y0 (Below w.heap.size w w'))
    case atStart=>exact⟨(Dj),(0),qy2,H',⟨Nat.le_refl _⟩,⟨qR (Kd.R_mono (Kd.R_far (p:=⟨Cg,2,none⟩) (Kd.R_far (p:=⟨Cg,1,none⟩) (Kd.R_far (p:=⟨Cg,0,none⟩) (Kd.R_types Am.out Ba.out (by decide)) (fun _ hk=>hk.2) (.int .i64 ((y21 Af Ad).f0))) (fun _ hk=>hk.2) (.string ((y21 Af Ad).f1))) (fun _ hk=>hk.2) (.slice Dk ((y21 Af Ad).f2).length Ck)) (fun _ hk=>trivial))⟩,⟨by(with_reducible repeat(first|refine y10 ?_ _|refine y9 ?_|refine y6 ?_ _));refine y11 ?_ As.out _;(with_reducible repeat(first|refine y10 ?_ _|refine y9 ?_|refine y6 ?_ _));refine y11 ?_ As.out _;(with_reducible repeat(first|refine y10 ?_ _|refine y9 ?_|refine y6 ?_ _));refine y11 ?_ As.out _;(with_reducible repeat(first|refine y10 ?_ _|refine y9 ?_|refine y6 ?_ _));exact Ah.out⟩,⟨by(with_reducible repeat(first|refine y10 ?_ _|refine y9 ?_|refine y6 ?_ _));refine blk_put (cs:=#[.int .i64 ((y21 Af Ad).f0),.string ((y21 Af Ad).f1),.slice none 0 0]) ?_ 2 _ rfl;(with_reducible repeat(first|refine y10 ?_ _|refine y9 ?_|refine y6 ?_ _));refine blk_put (cs:=#[.int .i64 ((y21 Af Ad).f0),.string (⟨#[]⟩:ByteArray),.slice none 0 0]) ?_ 1 _ rfl;(with_reducible repeat(first|refine y10 ?_ _|refine y9 ?_|refine y6 ?_ _));refine blk_put (cs:=#[.int .i64 0,.string (⟨#[]⟩:ByteArray),.slice none 0 0]) ?_ 0 _ rfl;(with_reducible repeat(first|refine y10 ?_ _|refine y9 ?_|refine y6 ?_ _));exact Ba.out⟩,⟨qb⟩⟩
    case round =>
     clear H'
     (try clear Gk Hv Hw Ds Dt Du Dw Dx Dy Bq Br Bs Dq Dr)
     obtain⟨Bd,Ap,rfl,HA,Bx,Am,Ah,Ba,HB⟩:=hrel
     cases gk with
     | zero=>exact absurd HA.out (by simp [z4_.l1])
     | succ k2 =>
      have H:=HA.out
      clear HA
      simp only [z4_.l1]at H
      by_cases Hi:Ap < (((y21 Af Ad).f2).length:Int)
      ·as_aux_lemma =>
       rw [if_pos Hi]at H
       have Hx:=decide_eq_true Hi
       clear Hi
       obtain⟨Qo,H⟩:=qo H
       have Qp:decide (0≤Ap)=true:=decide_eq_true Qo
       clear Qo
       obtain⟨Qq,H⟩:=qo H
       have Qr:decide (Ap < (((y21 Af Ad).f2).length:Int))=true:=decide_eq_true Qq
       clear Qq
       obtain⟨Oo,Qs,H⟩:=qB H
       by_cases Ki:Oo=true
       ·subst Ki
        replace H:=qT H
        obtain⟨Qt,H⟩:=qo H
        have Qu:decide (0≤(rd ((y21 Af Ad).f2) Ap))=true:=decide_eq_true Qt
        clear Qt
        obtain⟨Qv,H⟩:=qo H
        have Qw:decide ((rd ((y21 Af Ad).f2) Ap) < (Bd.length:Int))=true:=decide_eq_true Qv
        clear Qv
        obtain⟨Gl,Ch⟩:∃ y_:List Int,y_=(Bd.set ((rd ((y21 Af Ad).f2) Ap):Int).toNat (wrap64 ((rd Bd (rd ((y21 Af Ad).f2) Ap)) + 1))):=⟨_,rfl⟩
        replace H:(z4_.l1 k2 Gl Ad Af (Af.length:Int) Ad ((y21 Af Ad).f2) (((y21 Af Ad).f2).length:Int) (wrap64 (Ap + 1)) Af Bf Bg Bb Bc ((y21 Af Ad).f0) ((y21 Af Ad).f1) ((y21 Af Ad).f2))=some r:=by first|(rw [Ch];with_reducible exact H)|(have H2_:=(Option.bind_some _ _).symm.trans H;rw [Ch];with_reducible exact H2_)|(have H2_:=(Option.bind_some _ _).symm.trans H;with_reducible exact H2_)|with_reducible exact H|(rw [Ch];exact H)|exact H
        have Hy:=y0.mk Ch
        clear Ch
        have H':=y0.mk H
        clear H
        have Cl:0≤(Ap:Int):=of_decide_eq_true qy0
        have Cm:Ap < (((y21 Af Ad).f2).length:Int):=of_decide_eq_true qy0
        obtain⟨Fl,Gm,Be⟩:=Kd.at_int Ct.out Ap Cl Cm
        cases Gm
        replace Be:=(HB.out.cell (World.block_lt_of_cell? w _ Be)).trans Be
        replace Cl:=eq_true Cl
        replace Cm:=eq_true Cm
        go_wp2_with (first|((with_reducible refine y16 (f:=29) rfl ?_);refine y18 (some 34) rfl rfl Try.func29 (by kernel_rfl) rfl #[.int .i64 (rd ((y21 Af Ad).f2) Ap),.int .i64 0,.int .i64 (wrap64 (Ad - 1))] rfl qy1 ?_;(with_reducible refine(impl_in.calls (rd ((y21 Af Ad).f2) Ap) 0 (wrap64 (Ad - 1)) true _ Qs.out).mono ?_);rintro e w' ⟨rfl,⟨nd,rfl⟩⟩;refine⟨_,rfl, ?_⟩;(try(rw [drewN_self wr];have e1_:∀(n_:Nat) (a_:Addr),World.cell? wr a_=World.cell? (World.drewN wr n_) a_:=fun _ _=>rfl;have e2_:∀(n_:Nat) (a_:Addr),World.frozen? wr a_=World.frozen? (World.drewN wr n_) a_:=fun _ _=>rfl;generalize hq_:World.drewN wr _=wr;have e3_:=(fun a_=>(e1_ _ a_).trans (congrArg (fun w_=>World.cell? w_ a_) hq_));have e4_:=(fun a_=>(e2_ _ a_).trans (congrArg (fun w_=>World.frozen? w_ a_) hq_));clear e1_ e2_;(try replace Be:=(e3_ _).symm.trans Be);skip;clear e3_ e4_;have n0_:y0 (Kd.R (Kd.int .i64) 3 wr w.heap.size (fun _=>True) Bi Bd):=⟨by rw [← hq_];exact(qR Am.out)⟩;have n1_:y0 (wr.heap[Az]?=some (.cells #[.slice (some Fk) Af.length Bl,.int .i64 Bf,.string Bg,.slice Bm Bb.length Bn,.slice Bo Bc.length Bp] 36 (0,0))):=⟨by rw [← hq_];exact(qk Ah.out)⟩;have n2_:y0 (wr.heap[Cg]?=some (.cells #[.int .i64 ((y21 Af Ad).f0),.string ((y21 Af Ad).f1),.slice (some Fl) ((y21 Af Ad).f2).length Ck] 63 (0,0))):=⟨by rw [← hq_];exact(qk Ba.out)⟩;have n3_:y0 (Below w.heap.size w wr):=⟨by rw [← hq_];exact qb⟩;clear Am Ah Ba HB hq_;have Am:=n0_;have Ah:=n1_;have Ba:=n2_;have HB:=n3_;clear n0_ n1_ n2_ n3_));obtain⟨Tl,Oq,Ot⟩:=Kd.R_slice Am.out;subst Ot;have Gn:0≤((rd ((y21 Af Ad).f2) Ap):Int):=of_decide_eq_true qy0;have Gp:(rd ((y21 Af Ad).f2) Ap) < (Bd.length:Int):=of_decide_eq_true qy0;obtain⟨Qx,Ou,Dz⟩:=Kd.at_int (Kd.R_reads' Am.out).2.2 (rd ((y21 Af Ad).f2) Ap) Gn Gp;cases Ou;replace Gn:=eq_true Gn;replace Gp:=eq_true Gp;have Ov:0≤((rd ((y21 Af Ad).f2) Ap):Int):=of_decide_eq_true qy0;have Ow:((rd ((y21 Af Ad).f2) Ap):Int) < ((Bd.length:Int):Int):=of_decide_eq_true qy0;obtain⟨Gq,Tm,Hz,Ia,Ox,Tn,Ib⟩:=Kd.R_form Am.out (by omega);(first|cases Hz|(injection Hz with ea_ en_ ec_;(first|subst ea_|(injection ea_ with ea_;subst ea_));subst ec_;clear en_));have Oy:=y0.mk Ia;have To:=y0.mk Ib;clear Ia Ox Ib;(first|simp only [add_plain]at Dz|skip);obtain⟨Oz,Pa⟩:=Kd.R_celln 0 Am.out ((rd ((y21 Af Ad).f2) Ap):Int) Ov Ow;replace Ov:=eq_true Ov;replace Ow:=eq_true Ow;obtain⟨hy24_,hz24_⟩:=Kd.R_celln 0 Am.out ((rd ((y21 Af Ad).f2) Ap):Int) (of_decide_eq_true qy0) (of_decide_eq_true qy0);have Gr:=Kd.R_putg Am.out ((rd ((y21 Af Ad).f2) Ap):Int) (wrap64 ((rd Bd (rd ((y21 Af Ad).f2) Ap)) + 1)))|((with_reducible refine gate_store (t:=3) (p:=41) rfl ?_);refine store_event (t:=3) (p:=41) (v:=?vo_w25) (w1:=(wr.setCell ⟨Gq,((rd ((y21 Af Ad).f2) Ap):Int).toNat,none⟩ (.int .i64 (wrap64 ((rd Bd (rd ((y21 Af Ad).f2) Ap)) + 1))))) ?hg ?ho ?hn ?hr ?_;(case ho=>rfl);(case hg=>rfl);(case hn=>rfl);(case hr=>first|(go_simp;done)|(go_simp;rfl));intro Pb hw;have hg:wr.grownBy Pb (some Gq):=(by rw [hw];exact Gr.2);have hp_:Kd.R (Kd.int .i64) 3 Pb w.heap.size (fun _=>True) (.slice (some ⟨Gq,0,none⟩) Bd.length Oq) Gl:=(by rw [hw,Hy.out];exact Gr.1);clear Gr;replace Ah:=y0.mk (blk_grown (qk Ah.out) hg (Kd.R_ne Am.out Ah.out (by decide)));replace Ba:=y0.mk (blk_grown (qk Ba.out) hg (Kd.R_ne Am.out Ba.out (by decide)));replace Am:=y0.mk (hp_);replace HB:=y0.mk ((by rw [hw];exact y3 (HB.out) Oy.out:Below w.heap.size w Pb));clear hg hw hp_))
        go_roundg k2
        case measure=>have:=Ca.out;have:=Bx.out;omega
        exact⟨(Gl),(wrap64 (Ap + 1)),qy2,H',⟨by have:=Ca.out;have:=Bx.out;omega⟩,⟨qR Am.out⟩,⟨qk Ah.out⟩,⟨qk Ba.out⟩,⟨qb⟩⟩
       ·replace Ki:=Bool.eq_false_iff.mpr Ki
        subst Ki
        replace H:=qF H
        obtain rfl:=Option.some.inj H
        have Cl:0≤(Ap:Int):=of_decide_eq_true qy0
        have Cm:Ap < (((y21 Af Ad).f2).length:Int):=of_decide_eq_true qy0
        obtain⟨Fl,Gm,Be⟩:=Kd.at_int Ct.out Ap Cl Cm
        cases Gm
        replace Be:=(HB.out.cell (World.block_lt_of_cell? w _ Be)).trans Be
        replace Cl:=eq_true Cl
        replace Cm:=eq_true Cm
        go_wp2_with (first|((with_reducible refine y16 (f:=29) rfl ?_);refine y18 (some 34) rfl rfl Try.func29 (by kernel_rfl) rfl #[.int .i64 (rd ((y21 Af Ad).f2) Ap),.int .i64 0,.int .i64 (wrap64 (Ad - 1))] rfl qy1 ?_;(with_reducible refine(impl_in.calls (rd ((y21 Af Ad).f2) Ap) 0 (wrap64 (Ad - 1)) false _ Qs.out).mono ?_);rintro e w' ⟨rfl,⟨nd,rfl⟩⟩;refine⟨_,rfl, ?_⟩))
        go_ret
        exact⟨qf,qb⟩
      ·as_aux_lemma =>
       rw [if_neg Hi]at H
       have Hx:=decide_eq_false Hi
       clear Hi
       obtain⟨Pc,Fm,H⟩:=qB H
       by_cases Kj:Pc=true
       ·subst Kj
        replace H:=qT H
        obtain⟨Pd,Gs,H⟩:=qB H
        by_cases Kk:Pd=true
        ·subst Kk
         replace H:=qT H
         by_cases Gt:(((y21 Af Ad).f2).length:Int)=2
         ·as_aux_lemma =>
          rw [if_pos Gt]at H
          have Ic:((((y21 Af Ad).f2).length:Int) == 2)=true:=beq_iff_eq.mpr Gt
          have Id:((((y21 Af Ad).f2).length:Int) != 2)=false:=bne_eq_false_iff_eq.mpr Gt
          clear Gt
          obtain⟨Pe,Pf,H⟩:=qB H
          by_cases Kl:Pe=true
          ·subst Kl
           replace H:=qT H
           by_cases Hj:(((y21 Af Ad).f2).length:Int) > 0
           ·as_aux_lemma =>
            rw [if_pos Hj]at H
            have Ie:decide (0 < (((y21 Af Ad).f2).length:Int))=true:=decide_eq_true Hj
            have If:decide (0 < ((y21 Af Ad).f2).length)=true:=decide_eq_true (by omega)
            clear Hj
            obtain rfl:=Option.some.inj H
            have Qy:=Av.out
            have Qz:=As.out
            obtain⟨Km,Kn,Ko,Kp,Kq,Kr⟩:=qz3 Ba.out
            go_wp2_with (first|((with_reducible refine y16 (f:=29) rfl ?_);refine y18 (some 45) rfl rfl Try.func29 (by kernel_rfl) rfl #[.int .i64 ((y21 Af Ad).f0),.int .i64 1,.int .i64 7] rfl qy1 ?_;(with_reducible refine(impl_in.calls ((y21 Af Ad).f0) 1 7 true _ Fm.out).mono ?_);rintro e w' ⟨rfl,⟨nd,rfl⟩⟩;refine⟨_,rfl, ?_⟩)|(go_at_call 65;(with_reducible refine(impl_isSum.calls ((y21 Af Ad).f0) true _ Gs.out).mono ?_);rintro e w' ⟨rfl,⟨nd,rfl⟩⟩)|(go_at_call 29;(with_reducible refine(impl_in.calls ((y21 Af Ad).f0) 1 3 true _ Pf.out).mono ?_);rintro e w' ⟨rfl,⟨nd,rfl⟩⟩))
            go_ret
            exact⟨qf,qb⟩
           ·as_aux_lemma =>
            rw [if_neg Hj]at H
            have Ie:decide (0 < (((y21 Af Ad).f2).length:Int))=false:=decide_eq_false Hj
            have If:decide (0 < ((y21 Af Ad).f2).length)=false:=decide_eq_false (by omega)
            clear Hj
            have H':=y0.mk H
            clear H
            have Ra:=Av.out
            have Rb:=As.out
            obtain⟨Ks,Kt,Ku,Kv,Kw,Kx⟩:=qz3 Ba.out
            go_wp2_with (first|((with_reducible refine y16 (f:=29) rfl ?_);refine y18 (some 45) rfl rfl Try.func29 (by kernel_rfl) rfl #[.int .i64 ((y21 Af Ad).f0),.int .i64 1,.int .i64 7] rfl qy1 ?_;(with_reducible refine(impl_in.calls ((y21 Af Ad).f0) 1 7 true _ Fm.out).mono ?_);rintro e w' ⟨rfl,⟨nd,rfl⟩⟩;refine⟨_,rfl, ?_⟩)|(go_at_call 65;(with_reducible refine(impl_isSum.calls ((y21 Af Ad).f0) true _ Gs.out).mono ?_);rintro e w' ⟨rfl,⟨nd,rfl⟩⟩)|(go_at_call 29;(with_reducible refine(impl_in.calls ((y21 Af Ad).f0) 1 3 true _ Pf.out).mono ?_);rintro e w' ⟨rfl,⟨nd,rfl⟩⟩))
            go_roundg k2
            case measure=>have:=Ca.out;have:=Bx.out;omega
            exact⟨(Bd),(wrap64 (Ad + 1)),qy2,H',⟨by have:=Ca.out;have:=Bx.out;omega⟩,⟨qR Am.out⟩,⟨qk Ah.out⟩,⟨qb⟩⟩
          ·replace Kl:=Bool.eq_false_iff.mpr Kl
           subst Kl
           replace H:=qF H
           have H':=y0.mk H
           clear H
           have Rc:=Av.out
           have Rf:=As.out
           obtain⟨Ky,Kz,La,Lb,Lc,Ld⟩:=qz3 Ba.out
           go_wp2_with (first|((with_reducible refine y16 (f:=29) rfl ?_);refine y18 (some 45) rfl rfl Try.func29 (by kernel_rfl) rfl #[.int .i64 ((y21 Af Ad).f0),.int .i64 1,.int .i64 7] rfl qy1 ?_;(with_reducible refine(impl_in.calls ((y21 Af Ad).f0) 1 7 true _ Fm.out).mono ?_);rintro e w' ⟨rfl,⟨nd,rfl⟩⟩;refine⟨_,rfl, ?_⟩)|(go_at_call 65;(with_reducible refine(impl_isSum.calls ((y21 Af Ad).f0) true _ Gs.out).mono ?_);rintro e w' ⟨rfl,⟨nd,rfl⟩⟩)|(go_at_call 29;(with_reducible refine(impl_in.calls ((y21 Af Ad).f0) 1 3 false _ Pf.out).mono ?_);rintro e w' ⟨rfl,⟨nd,rfl⟩⟩))
           go_roundg k2
           case measure=>have:=Ca.out;have:=Bx.out;omega
           exact⟨(Bd),(wrap64 (Ad + 1)),qy2,H',⟨by have:=Ca.out;have:=Bx.out;omega⟩,⟨qR Am.out⟩,⟨qk Ah.out⟩,⟨qb⟩⟩
         ·as_aux_lemma =>
          rw [if_neg Gt]at H
          have Ic:((((y21 Af Ad).f2).length:Int) == 2)=false:=beq_eq_false_iff_ne.mpr Gt
          have Id:((((y21 Af Ad).f2).length:Int) != 2)=true:=bne_iff_ne.mpr Gt
          obtain rfl:=Option.some.inj H
          have Rg:=Av.out
          have Rh:=As.out
          obtain⟨Le,Lf,Lg,Lh,Li,Lj⟩:=qz3 Ba.out
          go_wp2_with (first|((with_reducible refine y16 (f:=29) rfl ?_);refine y18 (some 45) rfl rfl Try.func29 (by kernel_rfl) rfl #[.int .i64 ((y21 Af Ad).f0),.int .i64 1,.int .i64 7] rfl qy1 ?_;(with_reducible refine(impl_in.calls ((y21 Af Ad).f0) 1 7 true _ Fm.out).mono ?_);rintro e w' ⟨rfl,⟨nd,rfl⟩⟩;refine⟨_,rfl, ?_⟩)|(go_at_call 65;(with_reducible refine(impl_isSum.calls ((y21 Af Ad).f0) true _ Gs.out).mono ?_);rintro e w' ⟨rfl,⟨nd,rfl⟩⟩))
          go_ret
          exact⟨qf,qb⟩
        ·replace Kk:=Bool.eq_false_iff.mpr Kk
         subst Kk
         replace H:=qF H
         obtain⟨Pg,Ph,H⟩:=qB H
         by_cases Lk:Pg=true
         ·subst Lk
          replace H:=qT H
          by_cases Hk:(((y21 Af Ad).f2).length:Int) > 0
          ·as_aux_lemma =>
           rw [if_pos Hk]at H
           have Ig:decide (0 < (((y21 Af Ad).f2).length:Int))=true:=decide_eq_true Hk
           have Ih:decide (0 < ((y21 Af Ad).f2).length)=true:=decide_eq_true (by omega)
           clear Hk
           obtain rfl:=Option.some.inj H
           have Ri:=Av.out
           have Rj:=As.out
           obtain⟨Ll,Lm,Ln,Lo,Lp,Lq⟩:=qz3 Ba.out
           go_wp2_with (first|((with_reducible refine y16 (f:=29) rfl ?_);refine y18 (some 45) rfl rfl Try.func29 (by kernel_rfl) rfl #[.int .i64 ((y21 Af Ad).f0),.int .i64 1,.int .i64 7] rfl qy1 ?_;(with_reducible refine(impl_in.calls ((y21 Af Ad).f0) 1 7 true _ Fm.out).mono ?_);rintro e w' ⟨rfl,⟨nd,rfl⟩⟩;refine⟨_,rfl, ?_⟩)|(go_at_call 65;(with_reducible refine(impl_isSum.calls ((y21 Af Ad).f0) false _ Gs.out).mono ?_);rintro e w' ⟨rfl,⟨nd,rfl⟩⟩)|(go_at_call 29;(with_reducible refine(impl_in.calls ((y21 Af Ad).f0) 1 3 true _ Ph.out).mono ?_);rintro e w' ⟨rfl,⟨nd,rfl⟩⟩))
           go_ret
           exact⟨qf,qb⟩
          ·as_aux_lemma =>
           rw [if_neg Hk]at H
           have Ig:decide (0 < (((y21 Af Ad).f2).length:Int))=false:=decide_eq_false Hk
           have Ih:decide (0 < ((y21 Af Ad).f2).length)=false:=decide_eq_false (by omega)
           clear Hk
           have H':=y0.mk H
           clear H
           have Rl:=Av.out
           have Rn:=As.out
           obtain⟨Lr,Ls,Lt,Lu,Lv,Lw⟩:=qz3 Ba.out
           go_wp2_with (first|((with_reducible refine y16 (f:=29) rfl ?_);refine y18 (some 45) rfl rfl Try.func29 (by kernel_rfl) rfl #[.int .i64 ((y21 Af Ad).f0),.int .i64 1,.int .i64 7] rfl qy1 ?_;(with_reducible refine(impl_in.calls ((y21 Af Ad).f0) 1 7 true _ Fm.out).mono ?_);rintro e w' ⟨rfl,⟨nd,rfl⟩⟩;refine⟨_,rfl, ?_⟩)|(go_at_call 65;(with_reducible refine(impl_isSum.calls ((y21 Af Ad).f0) false _ Gs.out).mono ?_);rintro e w' ⟨rfl,⟨nd,rfl⟩⟩)|(go_at_call 29;(with_reducible refine(impl_in.calls ((y21 Af Ad).f0) 1 3 true _ Ph.out).mono ?_);rintro e w' ⟨rfl,⟨nd,rfl⟩⟩))
           go_roundg k2
           case measure=>have:=Ca.out;have:=Bx.out;omega
           exact⟨(Bd),(wrap64 (Ad + 1)),qy2,H',⟨by have:=Ca.out;have:=Bx.out;omega⟩,⟨qR Am.out⟩,⟨qk Ah.out⟩,⟨qb⟩⟩
         ·replace Lk:=Bool.eq_false_iff.mpr Lk
          subst Lk
          replace H:=qF H
          have H':=y0.mk H
          clear H
          have Ro:=Av.out
          have Rp:=As.out
          obtain⟨Lx,Ly,Lz,Ma,Mb,Mc⟩:=qz3 Ba.out
          go_wp2_with (first|((with_reducible refine y16 (f:=29) rfl ?_);refine y18 (some 45) rfl rfl Try.func29 (by kernel_rfl) rfl #[.int .i64 ((y21 Af Ad).f0),.int .i64 1,.int .i64 7] rfl qy1 ?_;(with_reducible refine(impl_in.calls ((y21 Af Ad).f0) 1 7 true _ Fm.out).mono ?_);rintro e w' ⟨rfl,⟨nd,rfl⟩⟩;refine⟨_,rfl, ?_⟩)|(go_at_call 65;(with_reducible refine(impl_isSum.calls ((y21 Af Ad).f0) false _ Gs.out).mono ?_);rintro e w' ⟨rfl,⟨nd,rfl⟩⟩)|(go_at_call 29;(with_reducible refine(impl_in.calls ((y21 Af Ad).f0) 1 3 false _ Ph.out).mono ?_);rintro e w' ⟨rfl,⟨nd,rfl⟩⟩))
          go_roundg k2
          case measure=>have:=Ca.out;have:=Bx.out;omega
          exact⟨(Bd),(wrap64 (Ad + 1)),qy2,H',⟨by have:=Ca.out;have:=Bx.out;omega⟩,⟨qR Am.out⟩,⟨qk Ah.out⟩,⟨qb⟩⟩
       ·replace Kj:=Bool.eq_false_iff.mpr Kj
        subst Kj
        replace H:=qF H
        obtain rfl:=Option.some.inj H
        have Rq:=Av.out
        have Rs:=As.out
        obtain⟨Md,Me,Mf,Mg,Mh,Mi⟩:=qz3 Ba.out
        go_wp2_with (first|((with_reducible refine y16 (f:=29) rfl ?_);refine y18 (some 45) rfl rfl Try.func29 (by kernel_rfl) rfl #[.int .i64 ((y21 Af Ad).f0),.int .i64 1,.int .i64 7] rfl qy1 ?_;(with_reducible refine(impl_in.calls ((y21 Af Ad).f0) 1 7 false _ Fm.out).mono ?_);rintro e w' ⟨rfl,⟨nd,rfl⟩⟩;refine⟨_,rfl, ?_⟩))
        go_ret
        exact⟨qf,qb⟩
   ·as_aux_lemma =>
    rw [if_neg c9]at H
    have Gk:=decide_eq_false c9
    clear c9
    obtain⟨Ab,Tp,H⟩:=qB H
    have H':=y0.mk H
    clear H
    obtain⟨Ea,Eb,Ec,Ed,Ee,Ef,Eg,Eh,Ei,Ej⟩:=qz5 Ah.out
    go_wp2_with (first|((with_reducible refine y16 (f:=80) rfl ?_);refine y18 (some 71) rfl rfl Try.func80 (by kernel_rfl) rfl #[.agg #[.slice Bz Af.length Bl,.int .i64 Bf,.string Bg,.slice Bm Bb.length Bn,.slice Bo Bc.length Bp]] rfl qy1 ?_;(with_reducible refine(impl_Rule_lits.calls _ _ Af Bf Bg (fun k_=>k_ < w.heap.size) _ _ Bb (fun k_=>k_ < w.heap.size) _ _ Bc Ab _ (qc (Kd.C_below Fh.out HB.out)) Hn.out (by exact Kd.V_mk Hp.out (Kd.F_below (Kd.C_F (Kd.heap_int .i64) Ho.out) qb)) (by exact Kd.V_mk Hr.out (Kd.F_below (Kd.C_F k33_heap Hq.out) qb)) Tp.out).mono ?_);rintro e Tx ⟨Tq,rfl,Rt,hb⟩;refine⟨_,rfl, ?_⟩;have Fn:=y0.mk (Kd.N_lower (Kd.N_mono (ok':=fun k_=>some k_≠(Bi:Value).ownBlock∧k_≠Az) Rt (fun k_ hk_=>⟨Or.elim hk_ (fun hs_=>Or.elim hs_ (fun hs_=>fun e_=>Nat.not_le.2 hs_ (Kd.R_base Am.out k_ e_.symm)) (fun hs_=>fun e_=>Nat.not_le.2 hs_ (Kd.R_base Am.out k_ e_.symm))) (fun hn_=>(Kd.fresh' (Kd.R_lt (qR Am.out)) k_ hn_)),Or.elim hk_ (fun hs_=>Or.elim hs_ (fun hs_=>fun e_=>Nat.not_le.2 hs_ (by rw [e_];exact Fj.out)) (fun hs_=>fun e_=>Nat.not_le.2 hs_ (by rw [e_];exact Fj.out))) (fun hn_=>(Kd.freshB (g:=Az) (o:=.cells #[.slice Bz Af.length Bl,.int .i64 Bf,.string Bg,.slice Bm Bb.length Bn,.slice Bo Bc.length Bp] 36 (0,0)) (qk Ah.out) k_ hn_))⟩)) (y4 qb));replace Am:=y0.mk (Kd.R_below (qR Am.out) hb);replace Ah:=y0.mk (qK Ah.out hb);replace HB:=y0.mk (y5 qb hb);(try clear hb);(try clear Rt);obtain⟨Pj,Bw,Pk⟩:=Kd.N_slice Fn.out;subst Pk))
    go_loopg [73] k1 (fun kq Tr w'=>∃(Bd:List Int) (Aa:Int),Tr=.int .i64 Aa∧y0 (z4_.l2 kq Bd Ab (Ab.length:Int) Aa Af Bf Bg Bb Bc=some r)∧y0 (kq≤k1)∧y0 (Kd.R (Kd.int .i64) 3 w' w.heap.size (fun _=>True) Bi Bd)∧y0 (Kd.N k33 33 w' w.heap.size (fun k_=>some k_≠(Bi:Value).ownBlock∧k_≠Az) (.slice Pj Ab.length Bw) Ab)∧y0 (w'.heap[Az]?=some (.cells #[(.slice Bz Af.length Bl),.int .i64 Bf,.string Bg,(.slice Bm Bb.length Bn),(.slice Bo Bc.length Bp)] 36 (0,0)))∧y0 (Below w.heap.size w w'))
    case atStart=>exact⟨(Dj),(0),qy2,H',⟨Nat.le_refl _⟩,⟨qR Am.out⟩,⟨qN Fn.out⟩,⟨qk Ah.out⟩,⟨qb⟩⟩
    case round =>
     clear H'
     (try clear Gk Ea Eb Ec Ed Ee Ef Eg Eh Ei Ej)
     obtain⟨Bd,Aa,rfl,HA,Bx,Am,Ay,Ah,HB⟩:=hrel
     cases gk with
     | zero=>exact absurd HA.out (by simp [z4_.l2])
     | succ k2 =>
      have H:=HA.out
      clear HA
      simp only [z4_.l2]at H
      by_cases Hl:Aa < (Ab.length:Int)
      ·as_aux_lemma =>
       rw [if_pos Hl]at H
       have Fo:=decide_eq_true Hl
       clear Hl
       obtain⟨Ru,H⟩:=qo H
       have Ii:decide (0≤Aa)=true:=decide_eq_true Ru
       clear Ru
       obtain⟨Rv,H⟩:=qo H
       have Ij:decide (Aa < (Ab.length:Int))=true:=decide_eq_true Rv
       clear Rv
       have Gu:=y0.mk H
       clear H
       have Dl:0≤(Aa:Int):=of_decide_eq_true qy0
       have Dm:Aa < (Ab.length:Int):=of_decide_eq_true qy0
       obtain⟨Bk,Aj,Ai,Pm,Ek,El,Cu,Cv,Cw⟩:=at_T33 (Kd.N_reads' Ay.out).2.2 Aa Dl Dm
       cases Pm
       obtain⟨Rw,Gv,Gw,Do⟩:=Kd.N_get Ay.out z33 Aa Dl (by first|exact Dm|exact of_decide_eq_true qy0|(have e_:=(Kd.N_reads' Ay.out).1;omega))
       obtain⟨Mj,Ml,rfl,Cb,Cc⟩:=k33_openF Gw
       have Bt:=Do 2 _ rfl
       rw [add_field _ _ 2 (by omega)]at Bt
       replace Bt:=Option.some.inj (Bt.symm.trans Cu)
       injection Bt with hva_ hvn_ hvc_
       rw [hva_]at Cc
       rw [hvc_]at Cb
       have At:=y0.mk (show Kd.V (Kd.int .i64) 3 _ w.heap.size _ _ ((y20 Ab Aa).f2)from Kd.V_mk Cb Cc)
       clear hva_ hvn_ hvc_ Cc Cb
       clear Do Gv
       have Bu:=y0.mk Cw
       have Mm:=y0.mk Cv
       clear Cw Cv
       replace Dl:=eq_true Dl
       replace Dm:=eq_true Dm
       go_upto_region 18 with(first|((with_reducible refine y17 (N:=9) rfl ?_);(try(refine gate_guard (by rfl) ?_;dsimp only));refine qe 9 #[.int .i64 0,.string (⟨#[]⟩:ByteArray),.slice none 0 0] 33 ?_;intro Ac hg Ty hbox hb;replace Am:=y0.mk (Kd.R_below (qR Am.out) hb);replace Ay:=y0.mk (Kd.N_below (Kd.N_elderB (qN Ay.out) Ac (Nat.le_of_eq hg.symm)) hb);replace At:=y0.mk (Kd.V_below (Kd.V_elderB (qV At.out) Ac (Nat.le_of_eq hg.symm)) hb);replace Bu:=y0.mk (Kd.C_below (by repeat(first|(with_reducible exact Bu.out)|(with_reducible refine Kd.C_alloc ?_ _)|(with_reducible refine Kd.C_drewN ?_ _)|(with_reducible refine Kd.C_drew ?_)|exact Bu.out)) hb);have Ar:=y0.mk (hbox);have Rx:=y0.mk (qg (w:=w) hg);have Ry:=y0.mk (qg (w:=w) hg);replace HB:=y0.mk (y5 qb hb);have Ag:=y0.mk (qn Ah.out hg);have Au:=y0.mk (qm Ah.out hg);replace Ah:=y0.mk (qK Ah.out hb);clear hb hbox hg;have Rz:=Au.out;have Sa:=Ag.out;obtain⟨Em,En,Eo,Ep,Eq,Er⟩:=qz3 Ar.out))
       (try simp only [Act.put,qS_,qZ_,qC_])
       go_cut [101] (fun Pn wc=>∃(kq:Nat) (Bv:Bool),Pn=.bool Bv∧y0 (z4_.j3 kq Bd Ab (Ab.length:Int) Aa Bv Af Bf Bg Bb Bc ((y20 Ab Aa).f0) ((y20 Ab Aa).f1) ((y20 Ab Aa).f2)=some r)∧y0 (kq≤k2)∧y0 (Kd.R (Kd.int .i64) 3 wc w.heap.size (fun _=>True) Bi Bd)∧y0 (Kd.N k33 33 wc w.heap.size (fun k_=>some k_≠(Bi:Value).ownBlock∧k_≠Az∧k_≠Ac) (.slice (some Bk) Ab.length Bw) Ab)∧y0 (Kd.V (Kd.int .i64) 3 wc w.heap.size (fun k_=>some k_≠(Bi:Value).ownBlock∧some k_≠((.slice (some Bk) Ab.length Bw):Value).ownBlock∧k_≠Az∧k_≠Ac) (.slice Aj ((y20 Ab Aa).f2).length Ai) ((y20 Ab Aa).f2))∧y0 (wc.heap[Az]?=some (.cells #[(.slice Bz Af.length Bl),.int .i64 Bf,.string Bg,(.slice Bm Bb.length Bn),(.slice Bo Bc.length Bp)] 36 (0,0)))∧y0 (wc.heap[Ac]?=some (.cells #[.int .i64 ((y20 Ab Aa).f0),.string ((y20 Ab Aa).f1),(.slice Aj ((y20 Ab Aa).f2).length Ai)] 33 (0,0)))∧y0 (Kd.C (Kd.int .i64) wc Aj ((y20 Ab Aa).f2).length ((y20 Ab Aa).f2))∧y0 (Below w.heap.size w wc))
       case first =>
        have H:=Gu.out
        clear Gu
        by_cases Gx:Aa=0
        ·as_aux_lemma =>
         rw [if_pos Gx]at H
         have Ci:(Aa == 0)=true:=beq_iff_eq.mpr Gx
         have Ik:(Aa != 0)=false:=bne_eq_false_iff_eq.mpr Gx
         clear Gx
         (first|rw [Ci]|(simp only [i64_w,i32_w];rw [Ci])|skip)
         by_cases Gy:((y20 Ab Aa).f0)=1
         ·as_aux_lemma =>
          rw [if_pos Gy]at H
          have Il:(((y20 Ab Aa).f0) == 1)=true:=beq_iff_eq.mpr Gy
          have Im:(((y20 Ab Aa).f0) != 1)=false:=bne_eq_false_iff_eq.mpr Gy
          clear Gy
          obtain⟨Pp,Pq,H⟩:=qB H
          by_cases Mn:Pp=true
          ·subst Mn
           replace H:=qT H
           by_cases Gz:((y20 Ab Aa).f0)=3
           ·as_aux_lemma =>
            rw [if_pos Gz]at H
            have Io:(((y20 Ab Aa).f0) == 3)=true:=beq_iff_eq.mpr Gz
            have Ip:(((y20 Ab Aa).f0) != 3)=false:=bne_eq_false_iff_eq.mpr Gz
            clear Gz
            have H':=y0.mk H
            clear H
            have Sb:=Au.out
            have Sc:=Ag.out
            obtain⟨Mo,Mp,Mq,Mr,Ms,Mt⟩:=qz3 Ar.out
            go_wp2_with (first|(go_at_call 29;(with_reducible refine(impl_in.calls ((y20 Ab Aa).f0) 1 3 true _ Pq.out).mono ?_);rintro e w' ⟨rfl,⟨nd,rfl⟩⟩))
            go_meet
            exact⟨_,(((((y20 Ab Aa).f2).length:Int) != 2)),qy2,H',⟨by have:=Ca.out;have:=Bx.out;first|omega|exact Nat.le_refl _⟩,⟨qR (Kd.R_mono (Kd.R_far (p:=⟨Ac,2,none⟩) (Kd.R_far (p:=⟨Ac,1,none⟩) (Kd.R_far (p:=⟨Ac,0,none⟩) (Kd.R_types Am.out Ar.out (by decide)) (fun _ hk=>hk.2) (.int .i64 ((y20 Ab Aa).f0))) (fun _ hk=>hk.2) (.string ((y20 Ab Aa).f1))) (fun _ hk=>hk.2) (.slice Aj ((y20 Ab Aa).f2).length Ai)) (fun _ hk=>trivial))⟩,⟨qN (Kd.N_mono (Kd.N_far (p:=⟨Ac,2,none⟩) (Kd.N_far (p:=⟨Ac,1,none⟩) (Kd.N_far (p:=⟨Ac,0,none⟩) (Kd.N_mono Ay.out (fun k_ hk=>(⟨hk,hk.2⟩:_∧k_≠Ac))) (fun _ hk=>hk.2) (.int .i64 ((y20 Ab Aa).f0))) (fun _ hk=>hk.2) (.string ((y20 Ab Aa).f1))) (fun _ hk=>hk.2) (.slice Aj ((y20 Ab Aa).f2).length Ai)) (fun _ hk=>⟨hk.1.1.1,⟨hk.1.1.2,hk.1.2⟩⟩))⟩,⟨qV (Kd.V_mono (Kd.V_far (p:=⟨Ac,2,none⟩) (Kd.V_far (p:=⟨Ac,1,none⟩) (Kd.V_far (p:=⟨Ac,0,none⟩) (Kd.V_mono At.out (fun k_ hk=>(⟨hk,hk.2⟩:_∧k_≠Ac))) (fun _ hk=>hk.2) (.int .i64 ((y20 Ab Aa).f0))) (fun _ hk=>hk.2) (.string ((y20 Ab Aa).f1))) (fun _ hk=>hk.2) (.slice Aj ((y20 Ab Aa).f2).length Ai)) (fun _ hk=>⟨hk.1.1.1.1,⟨hk.1.1.2,⟨hk.1.1.1.2,hk.1.2⟩⟩⟩))⟩,⟨by(with_reducible repeat(first|refine y10 ?_ _|refine y9 ?_|refine y6 ?_ _));refine y11 ?_ Ag.out _;(with_reducible repeat(first|refine y10 ?_ _|refine y9 ?_|refine y6 ?_ _));refine y11 ?_ Ag.out _;(with_reducible repeat(first|refine y10 ?_ _|refine y9 ?_|refine y6 ?_ _));refine y11 ?_ Ag.out _;(with_reducible repeat(first|refine y10 ?_ _|refine y9 ?_|refine y6 ?_ _));exact Ah.out⟩,⟨by(with_reducible repeat(first|refine y10 ?_ _|refine y9 ?_|refine y6 ?_ _));refine blk_put (cs:=#[.int .i64 ((y20 Ab Aa).f0),.string ((y20 Ab Aa).f1),.slice none 0 0]) ?_ 2 _ rfl;(with_reducible repeat(first|refine y10 ?_ _|refine y9 ?_|refine y6 ?_ _));refine blk_put (cs:=#[.int .i64 ((y20 Ab Aa).f0),.string (⟨#[]⟩:ByteArray),.slice none 0 0]) ?_ 1 _ rfl;(with_reducible repeat(first|refine y10 ?_ _|refine y9 ?_|refine y6 ?_ _));refine blk_put (cs:=#[.int .i64 0,.string (⟨#[]⟩:ByteArray),.slice none 0 0]) ?_ 0 _ rfl;(with_reducible repeat(first|refine y10 ?_ _|refine y9 ?_|refine y6 ?_ _));exact Ar.out⟩,⟨(Kd.V_reads' (qV ((Kd.V_mono (Kd.V_far (p:=⟨Ac,2,none⟩) (Kd.V_far (p:=⟨Ac,1,none⟩) (Kd.V_far (p:=⟨Ac,0,none⟩) (Kd.V_mono At.out (fun k_ hk=>(⟨hk,hk.2⟩:_∧k_≠Ac))) (fun _ hk=>hk.2) (.int .i64 ((y20 Ab Aa).f0))) (fun _ hk=>hk.2) (.string ((y20 Ab Aa).f1))) (fun _ hk=>hk.2) (.slice Aj ((y20 Ab Aa).f2).length Ai)) (fun _ h_=>h_.1))))).2.2⟩,⟨qb⟩⟩
           ·as_aux_lemma =>
            rw [if_neg Gz]at H
            have Io:(((y20 Ab Aa).f0) == 3)=false:=beq_eq_false_iff_ne.mpr Gz
            have Ip:(((y20 Ab Aa).f0) != 3)=true:=bne_iff_ne.mpr Gz
            have H':=y0.mk H
            clear H
            have Sd:=Au.out
            have Se:=Ag.out
            obtain⟨Mu,Mv,Mw,Mx,My,Mz⟩:=qz3 Ar.out
            go_wp2_with (first|(go_at_call 29;(with_reducible refine(impl_in.calls ((y20 Ab Aa).f0) 1 3 true _ Pq.out).mono ?_);rintro e w' ⟨rfl,⟨nd,rfl⟩⟩))
            go_meet
            exact⟨_,(false),qy2,H',⟨by have:=Ca.out;have:=Bx.out;first|omega|exact Nat.le_refl _⟩,⟨qR (Kd.R_mono (Kd.R_far (p:=⟨Ac,2,none⟩) (Kd.R_far (p:=⟨Ac,1,none⟩) (Kd.R_far (p:=⟨Ac,0,none⟩) (Kd.R_types Am.out Ar.out (by decide)) (fun _ hk=>hk.2) (.int .i64 ((y20 Ab Aa).f0))) (fun _ hk=>hk.2) (.string ((y20 Ab Aa).f1))) (fun _ hk=>hk.2) (.slice Aj ((y20 Ab Aa).f2).length Ai)) (fun _ hk=>trivial))⟩,⟨qN (Kd.N_mono (Kd.N_far (p:=⟨Ac,2,none⟩) (Kd.N_far (p:=⟨Ac,1,none⟩) (Kd.N_far (p:=⟨Ac,0,none⟩) (Kd.N_mono Ay.out (fun k_ hk=>(⟨hk,hk.2⟩:_∧k_≠Ac))) (fun _ hk=>hk.2) (.int .i64 ((y20 Ab Aa).f0))) (fun _ hk=>hk.2) (.string ((y20 Ab Aa).f1))) (fun _ hk=>hk.2) (.slice Aj ((y20 Ab Aa).f2).length Ai)) (fun _ hk=>⟨hk.1.1.1,⟨hk.1.1.2,hk.1.2⟩⟩))⟩,⟨qV (Kd.V_mono (Kd.V_far (p:=⟨Ac,2,none⟩) (Kd.V_far (p:=⟨Ac,1,none⟩) (Kd.V_far (p:=⟨Ac,0,none⟩) (Kd.V_mono At.out (fun k_ hk=>(⟨hk,hk.2⟩:_∧k_≠Ac))) (fun _ hk=>hk.2) (.int .i64 ((y20 Ab Aa).f0))) (fun _ hk=>hk.2) (.string ((y20 Ab Aa).f1))) (fun _ hk=>hk.2) (.slice Aj ((y20 Ab Aa).f2).length Ai)) (fun _ hk=>⟨hk.1.1.1.1,⟨hk.1.1.2,⟨hk.1.1.1.2,hk.1.2⟩⟩⟩))⟩,⟨by(with_reducible repeat(first|refine y10 ?_ _|refine y9 ?_|refine y6 ?_ _));refine y11 ?_ Ag.out _;(with_reducible repeat(first|refine y10 ?_ _|refine y9 ?_|refine y6 ?_ _));refine y11 ?_ Ag.out _;(with_reducible repeat(first|refine y10 ?_ _|refine y9 ?_|refine y6 ?_ _));refine y11 ?_ Ag.out _;(with_reducible repeat(first|refine y10 ?_ _|refine y9 ?_|refine y6 ?_ _));exact Ah.out⟩,⟨by(with_reducible repeat(first|refine y10 ?_ _|refine y9 ?_|refine y6 ?_ _));refine blk_put (cs:=#[.int .i64 ((y20 Ab Aa).f0),.string ((y20 Ab Aa).f1),.slice none 0 0]) ?_ 2 _ rfl;(with_reducible repeat(first|refine y10 ?_ _|refine y9 ?_|refine y6 ?_ _));refine blk_put (cs:=#[.int .i64 ((y20 Ab Aa).f0),.string (⟨#[]⟩:ByteArray),.slice none 0 0]) ?_ 1 _ rfl;(with_reducible repeat(first|refine y10 ?_ _|refine y9 ?_|refine y6 ?_ _));refine blk_put (cs:=#[.int .i64 0,.string (⟨#[]⟩:ByteArray),.slice none 0 0]) ?_ 0 _ rfl;(with_reducible repeat(first|refine y10 ?_ _|refine y9 ?_|refine y6 ?_ _));exact Ar.out⟩,⟨(Kd.V_reads' (qV ((Kd.V_mono (Kd.V_far (p:=⟨Ac,2,none⟩) (Kd.V_far (p:=⟨Ac,1,none⟩) (Kd.V_far (p:=⟨Ac,0,none⟩) (Kd.V_mono At.out (fun k_ hk=>(⟨hk,hk.2⟩:_∧k_≠Ac))) (fun _ hk=>hk.2) (.int .i64 ((y20 Ab Aa).f0))) (fun _ hk=>hk.2) (.string ((y20 Ab Aa).f1))) (fun _ hk=>hk.2) (.slice Aj ((y20 Ab Aa).f2).length Ai)) (fun _ h_=>h_.1))))).2.2⟩,⟨qb⟩⟩
          ·replace Mn:=Bool.eq_false_iff.mpr Mn
           subst Mn
           replace H:=qF H
           have H':=y0.mk H
           clear H
           have Sf:=Au.out
           have Sg:=Ag.out
           obtain⟨Na,Nb,Nc,Nd,Nf,Ng⟩:=qz3 Ar.out
           go_wp2_with (first|(go_at_call 29;(with_reducible refine(impl_in.calls ((y20 Ab Aa).f0) 1 3 false _ Pq.out).mono ?_);rintro e w' ⟨rfl,⟨nd,rfl⟩⟩))
           go_meet
           exact⟨_,(true),qy2,H',⟨by have:=Ca.out;have:=Bx.out;first|omega|exact Nat.le_refl _⟩,⟨qR (Kd.R_mono (Kd.R_far (p:=⟨Ac,2,none⟩) (Kd.R_far (p:=⟨Ac,1,none⟩) (Kd.R_far (p:=⟨Ac,0,none⟩) (Kd.R_types Am.out Ar.out (by decide)) (fun _ hk=>hk.2) (.int .i64 ((y20 Ab Aa).f0))) (fun _ hk=>hk.2) (.string ((y20 Ab Aa).f1))) (fun _ hk=>hk.2) (.slice Aj ((y20 Ab Aa).f2).length Ai)) (fun _ hk=>trivial))⟩,⟨qN (Kd.N_mono (Kd.N_far (p:=⟨Ac,2,none⟩) (Kd.N_far (p:=⟨Ac,1,none⟩) (Kd.N_far (p:=⟨Ac,0,none⟩) (Kd.N_mono Ay.out (fun k_ hk=>(⟨hk,hk.2⟩:_∧k_≠Ac))) (fun _ hk=>hk.2) (.int .i64 ((y20 Ab Aa).f0))) (fun _ hk=>hk.2) (.string ((y20 Ab Aa).f1))) (fun _ hk=>hk.2) (.slice Aj ((y20 Ab Aa).f2).length Ai)) (fun _ hk=>⟨hk.1.1.1,⟨hk.1.1.2,hk.1.2⟩⟩))⟩,⟨qV (Kd.V_mono (Kd.V_far (p:=⟨Ac,2,none⟩) (Kd.V_far (p:=⟨Ac,1,none⟩) (Kd.V_far (p:=⟨Ac,0,none⟩) (Kd.V_mono At.out (fun k_ hk=>(⟨hk,hk.2⟩:_∧k_≠Ac))) (fun _ hk=>hk.2) (.int .i64 ((y20 Ab Aa).f0))) (fun _ hk=>hk.2) (.string ((y20 Ab Aa).f1))) (fun _ hk=>hk.2) (.slice Aj ((y20 Ab Aa).f2).length Ai)) (fun _ hk=>⟨hk.1.1.1.1,⟨hk.1.1.2,⟨hk.1.1.1.2,hk.1.2⟩⟩⟩))⟩,⟨by(with_reducible repeat(first|refine y10 ?_ _|refine y9 ?_|refine y6 ?_ _));refine y11 ?_ Ag.out _;(with_reducible repeat(first|refine y10 ?_ _|refine y9 ?_|refine y6 ?_ _));refine y11 ?_ Ag.out _;(with_reducible repeat(first|refine y10 ?_ _|refine y9 ?_|refine y6 ?_ _));refine y11 ?_ Ag.out _;(with_reducible repeat(first|refine y10 ?_ _|refine y9 ?_|refine y6 ?_ _));exact Ah.out⟩,⟨by(with_reducible repeat(first|refine y10 ?_ _|refine y9 ?_|refine y6 ?_ _));refine blk_put (cs:=#[.int .i64 ((y20 Ab Aa).f0),.string ((y20 Ab Aa).f1),.slice none 0 0]) ?_ 2 _ rfl;(with_reducible repeat(first|refine y10 ?_ _|refine y9 ?_|refine y6 ?_ _));refine blk_put (cs:=#[.int .i64 ((y20 Ab Aa).f0),.string (⟨#[]⟩:ByteArray),.slice none 0 0]) ?_ 1 _ rfl;(with_reducible repeat(first|refine y10 ?_ _|refine y9 ?_|refine y6 ?_ _));refine blk_put (cs:=#[.int .i64 0,.string (⟨#[]⟩:ByteArray),.slice none 0 0]) ?_ 0 _ rfl;(with_reducible repeat(first|refine y10 ?_ _|refine y9 ?_|refine y6 ?_ _));exact Ar.out⟩,⟨(Kd.V_reads' (qV ((Kd.V_mono (Kd.V_far (p:=⟨Ac,2,none⟩) (Kd.V_far (p:=⟨Ac,1,none⟩) (Kd.V_far (p:=⟨Ac,0,none⟩) (Kd.V_mono At.out (fun k_ hk=>(⟨hk,hk.2⟩:_∧k_≠Ac))) (fun _ hk=>hk.2) (.int .i64 ((y20 Ab Aa).f0))) (fun _ hk=>hk.2) (.string ((y20 Ab Aa).f1))) (fun _ hk=>hk.2) (.slice Aj ((y20 Ab Aa).f2).length Ai)) (fun _ h_=>h_.1))))).2.2⟩,⟨qb⟩⟩
         ·as_aux_lemma =>
          rw [if_neg Gy]at H
          have Il:(((y20 Ab Aa).f0) == 1)=false:=beq_eq_false_iff_ne.mpr Gy
          have Im:(((y20 Ab Aa).f0) != 1)=true:=bne_iff_ne.mpr Gy
          have H':=y0.mk H
          clear H
          have Sh:=Au.out
          have Si:=Ag.out
          obtain⟨Nh,Ni,Nj,Nk,Nl,Nm⟩:=qz3 Ar.out
          go_wp2
          go_meet
          exact⟨_,(true),qy2,H',⟨by have:=Ca.out;have:=Bx.out;first|omega|exact Nat.le_refl _⟩,⟨qR (Kd.R_mono (Kd.R_far (p:=⟨Ac,2,none⟩) (Kd.R_far (p:=⟨Ac,1,none⟩) (Kd.R_far (p:=⟨Ac,0,none⟩) (Kd.R_types Am.out Ar.out (by decide)) (fun _ hk=>hk.2) (.int .i64 ((y20 Ab Aa).f0))) (fun _ hk=>hk.2) (.string ((y20 Ab Aa).f1))) (fun _ hk=>hk.2) (.slice Aj ((y20 Ab Aa).f2).length Ai)) (fun _ hk=>trivial))⟩,⟨qN (Kd.N_mono (Kd.N_far (p:=⟨Ac,2,none⟩) (Kd.N_far (p:=⟨Ac,1,none⟩) (Kd.N_far (p:=⟨Ac,0,none⟩) (Kd.N_mono Ay.out (fun k_ hk=>(⟨hk,hk.2⟩:_∧k_≠Ac))) (fun _ hk=>hk.2) (.int .i64 ((y20 Ab Aa).f0))) (fun _ hk=>hk.2) (.string ((y20 Ab Aa).f1))) (fun _ hk=>hk.2) (.slice Aj ((y20 Ab Aa).f2).length Ai)) (fun _ hk=>⟨hk.1.1.1,⟨hk.1.1.2,hk.1.2⟩⟩))⟩,⟨qV (Kd.V_mono (Kd.V_far (p:=⟨Ac,2,none⟩) (Kd.V_far (p:=⟨Ac,1,none⟩) (Kd.V_far (p:=⟨Ac,0,none⟩) (Kd.V_mono At.out (fun k_ hk=>(⟨hk,hk.2⟩:_∧k_≠Ac))) (fun _ hk=>hk.2) (.int .i64 ((y20 Ab Aa).f0))) (fun _ hk=>hk.2) (.string ((y20 Ab Aa).f1))) (fun _ hk=>hk.2) (.slice Aj ((y20 Ab Aa).f2).length Ai)) (fun _ hk=>⟨hk.1.1.1.1,⟨hk.1.1.2,⟨hk.1.1.1.2,hk.1.2⟩⟩⟩))⟩,⟨by(with_reducible repeat(first|refine y10 ?_ _|refine y9 ?_|refine y6 ?_ _));refine y11 ?_ Ag.out _;(with_reducible repeat(first|refine y10 ?_ _|refine y9 ?_|refine y6 ?_ _));refine y11 ?_ Ag.out _;(with_reducible repeat(first|refine y10 ?_ _|refine y9 ?_|refine y6 ?_ _));refine y11 ?_ Ag.out _;(with_reducible repeat(first|refine y10 ?_ _|refine y9 ?_|refine y6 ?_ _));exact Ah.out⟩,⟨by(with_reducible repeat(first|refine y10 ?_ _|refine y9 ?_|refine y6 ?_ _));refine blk_put (cs:=#[.int .i64 ((y20 Ab Aa).f0),.string ((y20 Ab Aa).f1),.slice none 0 0]) ?_ 2 _ rfl;(with_reducible repeat(first|refine y10 ?_ _|refine y9 ?_|refine y6 ?_ _));refine blk_put (cs:=#[.int .i64 ((y20 Ab Aa).f0),.string (⟨#[]⟩:ByteArray),.slice none 0 0]) ?_ 1 _ rfl;(with_reducible repeat(first|refine y10 ?_ _|refine y9 ?_|refine y6 ?_ _));refine blk_put (cs:=#[.int .i64 0,.string (⟨#[]⟩:ByteArray),.slice none 0 0]) ?_ 0 _ rfl;(with_reducible repeat(first|refine y10 ?_ _|refine y9 ?_|refine y6 ?_ _));exact Ar.out⟩,⟨(Kd.V_reads' (qV ((Kd.V_mono (Kd.V_far (p:=⟨Ac,2,none⟩) (Kd.V_far (p:=⟨Ac,1,none⟩) (Kd.V_far (p:=⟨Ac,0,none⟩) (Kd.V_mono At.out (fun k_ hk=>(⟨hk,hk.2⟩:_∧k_≠Ac))) (fun _ hk=>hk.2) (.int .i64 ((y20 Ab Aa).f0))) (fun _ hk=>hk.2) (.string ((y20 Ab Aa).f1))) (fun _ hk=>hk.2) (.slice Aj ((y20 Ab Aa).f2).length Ai)) (fun _ h_=>h_.1))))).2.2⟩,⟨qb⟩⟩
        ·as_aux_lemma =>
         rw [if_neg Gx]at H
         have Ci:(Aa == 0)=false:=beq_eq_false_iff_ne.mpr Gx
         have Ik:(Aa != 0)=true:=bne_iff_ne.mpr Gx
         (first|rw [Ci]|(simp only [i64_w,i32_w];rw [Ci])|skip)
         obtain⟨Pr,Ps,H⟩:=qB H
         by_cases Nn:Pr=true
         ·subst Nn
          replace H:=qT H
          by_cases Ha:((y20 Ab Aa).f0)=3
          ·as_aux_lemma =>
           rw [if_pos Ha]at H
           have Iq:(((y20 Ab Aa).f0) == 3)=true:=beq_iff_eq.mpr Ha
           have Ir:(((y20 Ab Aa).f0) != 3)=false:=bne_eq_false_iff_eq.mpr Ha
           clear Ha
           have H':=y0.mk H
           clear H
           have Sj:=Au.out
           have Sk:=Ag.out
           obtain⟨Np,Nq,Nr,Ns,Nt,Nu⟩:=qz3 Ar.out
           go_wp2_with (first|(go_at_call 29;(with_reducible refine(impl_in.calls ((y20 Ab Aa).f0) 1 3 true _ Ps.out).mono ?_);rintro e w' ⟨rfl,⟨nd,rfl⟩⟩))
           go_meet
           exact⟨_,(((((y20 Ab Aa).f2).length:Int) != 2)),qy2,H',⟨by have:=Ca.out;have:=Bx.out;first|omega|exact Nat.le_refl _⟩,⟨qR (Kd.R_mono (Kd.R_far (p:=⟨Ac,2,none⟩) (Kd.R_far (p:=⟨Ac,1,none⟩) (Kd.R_far (p:=⟨Ac,0,none⟩) (Kd.R_types Am.out Ar.out (by decide)) (fun _ hk=>hk.2) (.int .i64 ((y20 Ab Aa).f0))) (fun _ hk=>hk.2) (.string ((y20 Ab Aa).f1))) (fun _ hk=>hk.2) (.slice Aj ((y20 Ab Aa).f2).length Ai)) (fun _ hk=>trivial))⟩,⟨qN (Kd.N_mono (Kd.N_far (p:=⟨Ac,2,none⟩) (Kd.N_far (p:=⟨Ac,1,none⟩) (Kd.N_far (p:=⟨Ac,0,none⟩) (Kd.N_mono Ay.out (fun k_ hk=>(⟨hk,hk.2⟩:_∧k_≠Ac))) (fun _ hk=>hk.2) (.int .i64 ((y20 Ab Aa).f0))) (fun _ hk=>hk.2) (.string ((y20 Ab Aa).f1))) (fun _ hk=>hk.2) (.slice Aj ((y20 Ab Aa).f2).length Ai)) (fun _ hk=>⟨hk.1.1.1,⟨hk.1.1.2,hk.1.2⟩⟩))⟩,⟨qV (Kd.V_mono (Kd.V_far (p:=⟨Ac,2,none⟩) (Kd.V_far (p:=⟨Ac,1,none⟩) (Kd.V_far (p:=⟨Ac,0,none⟩) (Kd.V_mono At.out (fun k_ hk=>(⟨hk,hk.2⟩:_∧k_≠Ac))) (fun _ hk=>hk.2) (.int .i64 ((y20 Ab Aa).f0))) (fun _ hk=>hk.2) (.string ((y20 Ab Aa).f1))) (fun _ hk=>hk.2) (.slice Aj ((y20 Ab Aa).f2).length Ai)) (fun _ hk=>⟨hk.1.1.1.1,⟨hk.1.1.2,⟨hk.1.1.1.2,hk.1.2⟩⟩⟩))⟩,⟨by(with_reducible repeat(first|refine y10 ?_ _|refine y9 ?_|refine y6 ?_ _));refine y11 ?_ Ag.out _;(with_reducible repeat(first|refine y10 ?_ _|refine y9 ?_|refine y6 ?_ _));refine y11 ?_ Ag.out _;(with_reducible repeat(first|refine y10 ?_ _|refine y9 ?_|refine y6 ?_ _));refine y11 ?_ Ag.out _;(with_reducible repeat(first|refine y10 ?_ _|refine y9 ?_|refine y6 ?_ _));exact Ah.out⟩,⟨by(with_reducible repeat(first|refine y10 ?_ _|refine y9 ?_|refine y6 ?_ _));refine blk_put (cs:=#[.int .i64 ((y20 Ab Aa).f0),.string ((y20 Ab Aa).f1),.slice none 0 0]) ?_ 2 _ rfl;(with_reducible repeat(first|refine y10 ?_ _|refine y9 ?_|refine y6 ?_ _));refine blk_put (cs:=#[.int .i64 ((y20 Ab Aa).f0),.string (⟨#[]⟩:ByteArray),.slice none 0 0]) ?_ 1 _ rfl;(with_reducible repeat(first|refine y10 ?_ _|refine y9 ?_|refine y6 ?_ _));refine blk_put (cs:=#[.int .i64 0,.string (⟨#[]⟩:ByteArray),.slice none 0 0]) ?_ 0 _ rfl;(with_reducible repeat(first|refine y10 ?_ _|refine y9 ?_|refine y6 ?_ _));exact Ar.out⟩,⟨(Kd.V_reads' (qV ((Kd.V_mono (Kd.V_far (p:=⟨Ac,2,none⟩) (Kd.V_far (p:=⟨Ac,1,none⟩) (Kd.V_far (p:=⟨Ac,0,none⟩) (Kd.V_mono At.out (fun k_ hk=>(⟨hk,hk.2⟩:_∧k_≠Ac))) (fun _ hk=>hk.2) (.int .i64 ((y20 Ab Aa).f0))) (fun _ hk=>hk.2) (.string ((y20 Ab Aa).f1))) (fun _ hk=>hk.2) (.slice Aj ((y20 Ab Aa).f2).length Ai)) (fun _ h_=>h_.1))))).2.2⟩,⟨qb⟩⟩
          ·as_aux_lemma =>
           rw [if_neg Ha]at H
           have Iq:(((y20 Ab Aa).f0) == 3)=false:=beq_eq_false_iff_ne.mpr Ha
           have Ir:(((y20 Ab Aa).f0) != 3)=true:=bne_iff_ne.mpr Ha
           have H':=y0.mk H
           clear H
           have Sl:=Au.out
           have Sm:=Ag.out
           obtain⟨Nv,Nw,Nx,Ny,Nz,Oa⟩:=qz3 Ar.out
           go_wp2_with (first|(go_at_call 29;(with_reducible refine(impl_in.calls ((y20 Ab Aa).f0) 1 3 true _ Ps.out).mono ?_);rintro e w' ⟨rfl,⟨nd,rfl⟩⟩))
           go_meet
           exact⟨_,(false),qy2,H',⟨by have:=Ca.out;have:=Bx.out;first|omega|exact Nat.le_refl _⟩,⟨qR (Kd.R_mono (Kd.R_far (p:=⟨Ac,2,none⟩) (Kd.R_far (p:=⟨Ac,1,none⟩) (Kd.R_far (p:=⟨Ac,0,none⟩) (Kd.R_types Am.out Ar.out (by decide)) (fun _ hk=>hk.2) (.int .i64 ((y20 Ab Aa).f0))) (fun _ hk=>hk.2) (.string ((y20 Ab Aa).f1))) (fun _ hk=>hk.2) (.slice Aj ((y20 Ab Aa).f2).length Ai)) (fun _ hk=>trivial))⟩,⟨qN (Kd.N_mono (Kd.N_far (p:=⟨Ac,2,none⟩) (Kd.N_far (p:=⟨Ac,1,none⟩) (Kd.N_far (p:=⟨Ac,0,none⟩) (Kd.N_mono Ay.out (fun k_ hk=>(⟨hk,hk.2⟩:_∧k_≠Ac))) (fun _ hk=>hk.2) (.int .i64 ((y20 Ab Aa).f0))) (fun _ hk=>hk.2) (.string ((y20 Ab Aa).f1))) (fun _ hk=>hk.2) (.slice Aj ((y20 Ab Aa).f2).length Ai)) (fun _ hk=>⟨hk.1.1.1,⟨hk.1.1.2,hk.1.2⟩⟩))⟩,⟨qV (Kd.V_mono (Kd.V_far (p:=⟨Ac,2,none⟩) (Kd.V_far (p:=⟨Ac,1,none⟩) (Kd.V_far (p:=⟨Ac,0,none⟩) (Kd.V_mono At.out (fun k_ hk=>(⟨hk,hk.2⟩:_∧k_≠Ac))) (fun _ hk=>hk.2) (.int .i64 ((y20 Ab Aa).f0))) (fun _ hk=>hk.2) (.string ((y20 Ab Aa).f1))) (fun _ hk=>hk.2) (.slice Aj ((y20 Ab Aa).f2).length Ai)) (fun _ hk=>⟨hk.1.1.1.1,⟨hk.1.1.2,⟨hk.1.1.1.2,hk.1.2⟩⟩⟩))⟩,⟨by(with_reducible repeat(first|refine y10 ?_ _|refine y9 ?_|refine y6 ?_ _));refine y11 ?_ Ag.out _;(with_reducible repeat(first|refine y10 ?_ _|refine y9 ?_|refine y6 ?_ _));refine y11 ?_ Ag.out _;(with_reducible repeat(first|refine y10 ?_ _|refine y9 ?_|refine y6 ?_ _));refine y11 ?_ Ag.out _;(with_reducible repeat(first|refine y10 ?_ _|refine y9 ?_|refine y6 ?_ _));exact Ah.out⟩,⟨by(with_reducible repeat(first|refine y10 ?_ _|refine y9 ?_|refine y6 ?_ _));refine blk_put (cs:=#[.int .i64 ((y20 Ab Aa).f0),.string ((y20 Ab Aa).f1),.slice none 0 0]) ?_ 2 _ rfl;(with_reducible repeat(first|refine y10 ?_ _|refine y9 ?_|refine y6 ?_ _));refine blk_put (cs:=#[.int .i64 ((y20 Ab Aa).f0),.string (⟨#[]⟩:ByteArray),.slice none 0 0]) ?_ 1 _ rfl;(with_reducible repeat(first|refine y10 ?_ _|refine y9 ?_|refine y6 ?_ _));refine blk_put (cs:=#[.int .i64 0,.string (⟨#[]⟩:ByteArray),.slice none 0 0]) ?_ 0 _ rfl;(with_reducible repeat(first|refine y10 ?_ _|refine y9 ?_|refine y6 ?_ _));exact Ar.out⟩,⟨(Kd.V_reads' (qV ((Kd.V_mono (Kd.V_far (p:=⟨Ac,2,none⟩) (Kd.V_far (p:=⟨Ac,1,none⟩) (Kd.V_far (p:=⟨Ac,0,none⟩) (Kd.V_mono At.out (fun k_ hk=>(⟨hk,hk.2⟩:_∧k_≠Ac))) (fun _ hk=>hk.2) (.int .i64 ((y20 Ab Aa).f0))) (fun _ hk=>hk.2) (.string ((y20 Ab Aa).f1))) (fun _ hk=>hk.2) (.slice Aj ((y20 Ab Aa).f2).length Ai)) (fun _ h_=>h_.1))))).2.2⟩,⟨qb⟩⟩
         ·replace Nn:=Bool.eq_false_iff.mpr Nn
          subst Nn
          replace H:=qF H
          have H':=y0.mk H
          clear H
          have Sn:=Au.out
          have So:=Ag.out
          obtain⟨Ob,Oc,Od,Oe,Of,Og⟩:=qz3 Ar.out
          go_wp2_with (first|(go_at_call 29;(with_reducible refine(impl_in.calls ((y20 Ab Aa).f0) 1 3 false _ Ps.out).mono ?_);rintro e w' ⟨rfl,⟨nd,rfl⟩⟩))
          go_meet
          exact⟨_,(true),qy2,H',⟨by have:=Ca.out;have:=Bx.out;first|omega|exact Nat.le_refl _⟩,⟨qR (Kd.R_mono (Kd.R_far (p:=⟨Ac,2,none⟩) (Kd.R_far (p:=⟨Ac,1,none⟩) (Kd.R_far (p:=⟨Ac,0,none⟩) (Kd.R_types Am.out Ar.out (by decide)) (fun _ hk=>hk.2) (.int .i64 ((y20 Ab Aa).f0))) (fun _ hk=>hk.2) (.string ((y20 Ab Aa).f1))) (fun _ hk=>hk.2) (.slice Aj ((y20 Ab Aa).f2).length Ai)) (fun _ hk=>trivial))⟩,⟨qN (Kd.N_mono (Kd.N_far (p:=⟨Ac,2,none⟩) (Kd.N_far (p:=⟨Ac,1,none⟩) (Kd.N_far (p:=⟨Ac,0,none⟩) (Kd.N_mono Ay.out (fun k_ hk=>(⟨hk,hk.2⟩:_∧k_≠Ac))) (fun _ hk=>hk.2) (.int .i64 ((y20 Ab Aa).f0))) (fun _ hk=>hk.2) (.string ((y20 Ab Aa).f1))) (fun _ hk=>hk.2) (.slice Aj ((y20 Ab Aa).f2).length Ai)) (fun _ hk=>⟨hk.1.1.1,⟨hk.1.1.2,hk.1.2⟩⟩))⟩,⟨qV (Kd.V_mono (Kd.V_far (p:=⟨Ac,2,none⟩) (Kd.V_far (p:=⟨Ac,1,none⟩) (Kd.V_far (p:=⟨Ac,0,none⟩) (Kd.V_mono At.out (fun k_ hk=>(⟨hk,hk.2⟩:_∧k_≠Ac))) (fun _ hk=>hk.2) (.int .i64 ((y20 Ab Aa).f0))) (fun _ hk=>hk.2) (.string ((y20 Ab Aa).f1))) (fun _ hk=>hk.2) (.slice Aj ((y20 Ab Aa).f2).length Ai)) (fun _ hk=>⟨hk.1.1.1.1,⟨hk.1.1.2,⟨hk.1.1.1.2,hk.1.2⟩⟩⟩))⟩,⟨by(with_reducible repeat(first|refine y10 ?_ _|refine y9 ?_|refine y6 ?_ _));refine y11 ?_ Ag.out _;(with_reducible repeat(first|refine y10 ?_ _|refine y9 ?_|refine y6 ?_ _));refine y11 ?_ Ag.out _;(with_reducible repeat(first|refine y10 ?_ _|refine y9 ?_|refine y6 ?_ _));refine y11 ?_ Ag.out _;(with_reducible repeat(first|refine y10 ?_ _|refine y9 ?_|refine y6 ?_ _));exact Ah.out⟩,⟨by(with_reducible repeat(first|refine y10 ?_ _|refine y9 ?_|refine y6 ?_ _));refine blk_put (cs:=#[.int .i64 ((y20 Ab Aa).f0),.string ((y20 Ab Aa).f1),.slice none 0 0]) ?_ 2 _ rfl;(with_reducible repeat(first|refine y10 ?_ _|refine y9 ?_|refine y6 ?_ _));refine blk_put (cs:=#[.int .i64 ((y20 Ab Aa).f0),.string (⟨#[]⟩:ByteArray),.slice none 0 0]) ?_ 1 _ rfl;(with_reducible repeat(first|refine y10 ?_ _|refine y9 ?_|refine y6 ?_ _));refine blk_put (cs:=#[.int .i64 0,.string (⟨#[]⟩:ByteArray),.slice none 0 0]) ?_ 0 _ rfl;(with_reducible repeat(first|refine y10 ?_ _|refine y9 ?_|refine y6 ?_ _));exact Ar.out⟩,⟨(Kd.V_reads' (qV ((Kd.V_mono (Kd.V_far (p:=⟨Ac,2,none⟩) (Kd.V_far (p:=⟨Ac,1,none⟩) (Kd.V_far (p:=⟨Ac,0,none⟩) (Kd.V_mono At.out (fun k_ hk=>(⟨hk,hk.2⟩:_∧k_≠Ac))) (fun _ hk=>hk.2) (.int .i64 ((y20 Ab Aa).f0))) (fun _ hk=>hk.2) (.string ((y20 Ab Aa).f1))) (fun _ hk=>hk.2) (.slice Aj ((y20 Ab Aa).f2).length Ai)) (fun _ h_=>h_.1))))).2.2⟩,⟨qb⟩⟩
       case rest =>
        clear Gu
        (try clear Fo Ii Ij Em En Eo Ep Eq Er Ek El Cu Dl Dm)
        obtain⟨kq,Bv,rfl,HA,Es,Am,Ay,Aw,Ah,Ar,Bu,HB⟩:=hcut
        cases kq with
        | zero=>exact absurd HA.out (by simp [z4_.j3])
        | succ Is =>
         have H:=HA.out
         clear HA
         simp only [z4_.j3]at H
         by_cases Iu:Bv=true
         ·subst Iu
          replace H:=qT H
          obtain rfl:=Option.some.inj H
          go_wp2
          go_ret
          exact⟨qf,qb⟩
         ·replace Iu:=Bool.eq_false_iff.mpr Iu
          subst Iu
          replace H:=qF H
          have H':=y0.mk H
          clear H
          have Sp:=Au.out
          have Sq:=Ag.out
          obtain⟨Et,Eu,Ew,Ex,Ey,Ez⟩:=qz3 Ar.out
          go_wp2
          go_loopg [105] Is (fun kq Pt w'=>∃(Bh:List Int) (Ak:Int),Pt=.int .i64 Ak∧y0 (z4_.l3 kq Bh Ab (Ab.length:Int) Aa ((y20 Ab Aa).f2) (((y20 Ab Aa).f2).length:Int) Ak Af Bf Bg Bb Bc=some r)∧y0 (kq≤Is)∧y0 (Kd.R (Kd.int .i64) 3 w' w.heap.size (fun _=>True) Bi Bh)∧y0 (Kd.N k33 33 w' w.heap.size (fun k_=>some k_≠(Bi:Value).ownBlock∧k_≠Az∧k_≠Ac) (.slice (some Bk) Ab.length Bw) Ab)∧y0 (Kd.V (Kd.int .i64) 3 w' w.heap.size (fun k_=>some k_≠(Bi:Value).ownBlock∧some k_≠((.slice (some Bk) Ab.length Bw):Value).ownBlock∧k_≠Az∧k_≠Ac) (.slice Aj ((y20 Ab Aa).f2).length Ai) ((y20 Ab Aa).f2))∧y0 (Kd.V (Kd.int .i64) 3 w' w.heap.size (fun k_=>some k_≠(Bi:Value).ownBlock∧some k_≠((.slice (some Bk) Ab.length Bw):Value).ownBlock∧k_≠Az∧k_≠Ac) (.slice Aj ((y20 Ab Aa).f2).length Ai) ((y20 Ab Aa).f2))∧y0 (w'.heap[Az]?=some (.cells #[(.slice Bz Af.length Bl),.int .i64 Bf,.string Bg,(.slice Bm Bb.length Bn),(.slice Bo Bc.length Bp)] 36 (0,0)))∧y0 (w'.heap[Ac]?=some (.cells #[.int .i64 ((y20 Ab Aa).f0),.string ((y20 Ab Aa).f1),(.slice Aj ((y20 Ab Aa).f2).length Ai)] 33 (0,0)))∧y0 (Below w.heap.size w w'))
          case atStart=>exact⟨(Bd),(0),qy2,H',⟨Nat.le_refl _⟩,⟨qR Am.out⟩,⟨qN Ay.out⟩,⟨qV Aw.out⟩,⟨qV Aw.out⟩,⟨qk Ah.out⟩,⟨qk Ar.out⟩,⟨qb⟩⟩
          case round =>
           clear H'
           (try clear Iu Et Eu Ew Ex Ey Ez)
           obtain⟨Bh,Ak,rfl,HA,Oh,Am,Ay,Bj,Aw,Ah,Ar,HB⟩:=hrel
           cases gk with
           | zero=>exact absurd HA.out (by simp [z4_.l3])
           | succ k4 =>
            have H:=HA.out
            clear HA
            simp only [z4_.l3]at H
            by_cases Hm:Ak < (((y20 Ab Aa).f2).length:Int)
            ·as_aux_lemma =>
             rw [if_pos Hm]at H
             have Iv:=decide_eq_true Hm
             clear Hm
             obtain⟨Sr,H⟩:=qo H
             have Ss:decide (0≤Ak)=true:=decide_eq_true Sr
             clear Sr
             obtain⟨St,H⟩:=qo H
             have Su:decide (Ak < (((y20 Ab Aa).f2).length:Int))=true:=decide_eq_true St
             clear St
             obtain⟨Pu,Sv,H⟩:=qB H
             by_cases Oi:Pu=true
             ·subst Oi
              replace H:=qT H
              obtain⟨Sw,H⟩:=qo H
              have Sx:decide (0≤(rd ((y20 Ab Aa).f2) Ak))=true:=decide_eq_true Sw
              clear Sw
              obtain⟨Sy,H⟩:=qo H
              have Sz:decide ((rd ((y20 Ab Aa).f2) Ak) < (Bh.length:Int))=true:=decide_eq_true Sy
              clear Sy
              obtain⟨Hb,Cj⟩:∃ y_:List Int,y_=(Bh.set ((rd ((y20 Ab Aa).f2) Ak):Int).toNat (wrap64 ((rd Bh (rd ((y20 Ab Aa).f2) Ak)) + 1))):=⟨_,rfl⟩
              replace H:(z4_.l3 k4 Hb Ab (Ab.length:Int) Aa ((y20 Ab Aa).f2) (((y20 Ab Aa).f2).length:Int) (wrap64 (Ak + 1)) Af Bf Bg Bb Bc)=some r:=by first|(rw [Cj];with_reducible exact H)|(have H2_:=(Option.bind_some _ _).symm.trans H;rw [Cj];with_reducible exact H2_)|(have H2_:=(Option.bind_some _ _).symm.trans H;with_reducible exact H2_)|with_reducible exact H|(rw [Cj];exact H)|exact H
              have Iw:=y0.mk Cj
              clear Cj
              have H':=y0.mk H
              clear H
              have Cn:0≤(Ak:Int):=of_decide_eq_true qy0
              have Cp:Ak < (((y20 Ab Aa).f2).length:Int):=of_decide_eq_true qy0
              obtain⟨Cx,Hc,Cd⟩:=Kd.at_int (Kd.V_reads' Bj.out).2.2 Ak Cn Cp
              cases Hc
              replace Cn:=eq_true Cn
              replace Cp:=eq_true Cp
              have Ta:=Ag.out
              have Tc:=Au.out
              obtain⟨Cy,Cz,Da,Db,Dc,Dd,De,Df,Dg,Dh⟩:=qz5 Ah.out
              go_wp2_with (first|((with_reducible refine y16 (f:=29) rfl ?_);refine y18 (some 114) rfl rfl Try.func29 (by kernel_rfl) rfl #[.int .i64 (rd ((y20 Ab Aa).f2) Ak),.int .i64 0,.int .i64 (wrap64 ((Af.length:Int) - 1))] rfl qy1 ?_;(with_reducible refine(impl_in.calls (rd ((y20 Ab Aa).f2) Ak) 0 (wrap64 ((Af.length:Int) - 1)) true _ Sv.out).mono ?_);rintro e w' ⟨rfl,⟨nd,rfl⟩⟩;refine⟨_,rfl, ?_⟩;(try(rw [drewN_self wr];have e1_:∀(n_:Nat) (a_:Addr),World.cell? wr a_=World.cell? (World.drewN wr n_) a_:=fun _ _=>rfl;have e2_:∀(n_:Nat) (a_:Addr),World.frozen? wr a_=World.frozen? (World.drewN wr n_) a_:=fun _ _=>rfl;generalize hq_:World.drewN wr _=wr;have e3_:=(fun a_=>(e1_ _ a_).trans (congrArg (fun w_=>World.cell? w_ a_) hq_));have e4_:=(fun a_=>(e2_ _ a_).trans (congrArg (fun w_=>World.frozen? w_ a_) hq_));clear e1_ e2_;(try replace Cd:=(e3_ _).symm.trans Cd);(try replace Cy:=(e3_ _).symm.trans Cy);(try replace Dd:=(e4_ _).symm.trans Dd);(try replace Cz:=(e3_ _).symm.trans Cz);(try replace De:=(e4_ _).symm.trans De);(try replace Da:=(e3_ _).symm.trans Da);(try replace Df:=(e4_ _).symm.trans Df);(try replace Db:=(e3_ _).symm.trans Db);(try replace Dg:=(e4_ _).symm.trans Dg);(try replace Dc:=(e3_ _).symm.trans Dc);(try replace Dh:=(e4_ _).symm.trans Dh);skip;clear e3_ e4_;have n0_:y0 (Kd.V (Kd.int .i64) 3 wr w.heap.size (fun k_=>some k_≠(Bi:Value).ownBlock∧some k_≠(.slice (some Bk) Ab.length Bw:Value).ownBlock∧k_≠Az∧k_≠Ac) (.slice (some Cx) ((y20 Ab Aa).f2).length Ai) ((y20 Ab Aa).f2)):=⟨by rw [← hq_];exact(qV Bj.out)⟩;have n1_:y0 (Kd.R (Kd.int .i64) 3 wr w.heap.size (fun _=>True) Bi Bh):=⟨by rw [← hq_];exact(qR Am.out)⟩;have n2_:y0 (Kd.V (Kd.int .i64) 3 wr w.heap.size (fun k_=>some k_≠(Bi:Value).ownBlock∧some k_≠(.slice (some Bk) Ab.length Bw:Value).ownBlock∧k_≠Az∧k_≠Ac) (.slice (some Cx) ((y20 Ab Aa).f2).length Ai) ((y20 Ab Aa).f2)):=⟨by rw [← hq_];exact(qV Aw.out)⟩;have n3_:y0 (Kd.N k33 33 wr w.heap.size (fun k_=>some k_≠(Bi:Value).ownBlock∧k_≠Az∧k_≠Ac) (.slice (some Bk) Ab.length Bw) Ab):=⟨by rw [← hq_];exact(qN Ay.out)⟩;have n4_:y0 (wr.heap[Az]?=some (.cells #[.slice Bz Af.length Bl,.int .i64 Bf,.string Bg,.slice Bm Bb.length Bn,.slice Bo Bc.length Bp] 36 (0,0))):=⟨by rw [← hq_];exact(qk Ah.out)⟩;have n5_:y0 (wr.heap[Ac]?=some (.cells #[.int .i64 ((y20 Ab Aa).f0),.string ((y20 Ab Aa).f1),.slice (some Cx) ((y20 Ab Aa).f2).length Ai] 33 (0,0))):=⟨by rw [← hq_];exact(qk Ar.out)⟩;have n6_:y0 (Below w.heap.size w wr):=⟨by rw [← hq_];exact qb⟩;clear Bj Am Aw Ay Ah Ar HB hq_;have Bj:=n0_;have Am:=n1_;have Aw:=n2_;have Ay:=n3_;have Ah:=n4_;have Ar:=n5_;have HB:=n6_;clear n0_ n1_ n2_ n3_ n4_ n5_ n6_));obtain⟨Ts,Cq,Pv⟩:=Kd.R_slice Am.out;subst Pv;have Hd:0≤((rd ((y20 Ab Aa).f2) Ak):Int):=of_decide_eq_true qy0;have He:(rd ((y20 Ab Aa).f2) Ak) < (Bh.length:Int):=of_decide_eq_true qy0;obtain⟨Td,Pw,Fa⟩:=Kd.at_int (Kd.R_reads' Am.out).2.2 (rd ((y20 Ab Aa).f2) Ak) Hd He;cases Pw;replace Hd:=eq_true Hd;replace He:=eq_true He;have Px:0≤((rd ((y20 Ab Aa).f2) Ak):Int):=of_decide_eq_true qy0;have Py:((rd ((y20 Ab Aa).f2) Ak):Int) < ((Bh.length:Int):Int):=of_decide_eq_true qy0;obtain⟨Ce,Tt,Ix,Iy,Pz,Tu,Iz⟩:=Kd.R_form Am.out (by omega);(first|cases Ix|(injection Ix with ea_ en_ ec_;(first|subst ea_|(injection ea_ with ea_;subst ea_));subst ec_;clear en_));have Qa:=y0.mk Iy;have Tv:=y0.mk Iz;clear Iy Pz Iz;(first|simp only [add_plain]at Fa|skip);obtain⟨Qb,Qc⟩:=Kd.R_celln 0 Am.out ((rd ((y20 Ab Aa).f2) Ak):Int) Px Py;replace Px:=eq_true Px;replace Py:=eq_true Py;obtain⟨hy100_,hz100_⟩:=Kd.R_celln 0 Am.out ((rd ((y20 Ab Aa).f2) Ak):Int) (of_decide_eq_true qy0) (of_decide_eq_true qy0);have Dp:=Kd.R_putg Am.out ((rd ((y20 Ab Aa).f2) Ak):Int) (wrap64 ((rd Bh (rd ((y20 Ab Aa).f2) Ak)) + 1)))|((with_reducible refine gate_store (t:=3) (p:=121) rfl ?_);refine store_event (t:=3) (p:=121) (v:=?vo_w101) (w1:=(wr.setCell ⟨Ce,((rd ((y20 Ab Aa).f2) Ak):Int).toNat,none⟩ (.int .i64 (wrap64 ((rd Bh (rd ((y20 Ab Aa).f2) Ak)) + 1))))) ?hg ?ho ?hn ?hr ?_;(case ho=>rfl);(case hg=>rfl);(case hn=>rfl);(case hr=>first|(go_simp;done)|(go_simp;rfl));intro Hf hw;have hg:wr.grownBy Hf (some Ce):=(by rw [hw];exact Dp.2);have hp_:Kd.R (Kd.int .i64) 3 Hf w.heap.size (fun _=>True) (.slice (some ⟨Ce,0,none⟩) Bh.length Cq) Hb:=(by rw [hw,Iw.out];exact Dp.1);clear Dp;replace Ay:=y0.mk (Kd.N_afterv (v:=(.slice (some ⟨Ce,0,none⟩) Bh.length Cq)) (v1:=(.slice (some ⟨Ce,0,none⟩) Bh.length Cq)) (ok:=(fun k_=>k_≠Az∧k_≠Ac)) (qN (Kd.N_mono Ay.out (fun _ hk=>⟨⟨hk.2.1,hk.2.2⟩,hk.1⟩))) hg (.inl rfl));replace Bj:=y0.mk (Kd.V_afterv (v:=(.slice (some ⟨Ce,0,none⟩) Bh.length Cq)) (v1:=(.slice (some ⟨Ce,0,none⟩) Bh.length Cq)) (ok:=(fun k_=>some k_≠(.slice (some Bk) Ab.length Bw:Value).ownBlock∧k_≠Az∧k_≠Ac)) (qV (Kd.V_mono Bj.out (fun _ hk=>⟨⟨hk.2.1,⟨hk.2.2.1,hk.2.2.2⟩⟩,hk.1⟩))) hg (.inl rfl));replace Aw:=y0.mk (Kd.V_afterv (v:=(.slice (some ⟨Ce,0,none⟩) Bh.length Cq)) (v1:=(.slice (some ⟨Ce,0,none⟩) Bh.length Cq)) (ok:=(fun k_=>some k_≠(.slice (some Bk) Ab.length Bw:Value).ownBlock∧k_≠Az∧k_≠Ac)) (qV (Kd.V_mono Aw.out (fun _ hk=>⟨⟨hk.2.1,⟨hk.2.2.1,hk.2.2.2⟩⟩,hk.1⟩))) hg (.inl rfl));replace Ah:=y0.mk (blk_grown (qk Ah.out) hg (Kd.R_ne Am.out Ah.out (by decide)));replace Ar:=y0.mk (blk_grown (qk Ar.out) hg (Kd.R_ne Am.out Ar.out (by decide)));replace Am:=y0.mk (hp_);replace HB:=y0.mk ((by rw [hw];exact y3 (HB.out) Qa.out:Below w.heap.size w Hf));clear hg hw hp_))
              go_roundg k4
              case measure=>have:=Ca.out;have:=Bx.out;have:=Es.out;have:=Oh.out;omega
              exact⟨(Hb),(wrap64 (Ak + 1)),qy2,H',⟨by have:=Ca.out;have:=Bx.out;have:=Es.out;have:=Oh.out;omega⟩,⟨qR Am.out⟩,⟨qN (Kd.N_mono Ay.out (fun _ hk=>⟨hk.2,⟨hk.1.1,hk.1.2⟩⟩))⟩,⟨qV (Kd.V_mono Bj.out (fun _ hk=>⟨hk.2,⟨hk.1.1,⟨hk.1.2.1,hk.1.2.2⟩⟩⟩))⟩,⟨qV (Kd.V_mono Aw.out (fun _ hk=>⟨hk.2,⟨hk.1.1,⟨hk.1.2.1,hk.1.2.2⟩⟩⟩))⟩,⟨qk Ah.out⟩,⟨qk Ar.out⟩,⟨qb⟩⟩
             ·replace Oi:=Bool.eq_false_iff.mpr Oi
              subst Oi
              replace H:=qF H
              obtain rfl:=Option.some.inj H
              have Cn:0≤(Ak:Int):=of_decide_eq_true qy0
              have Cp:Ak < (((y20 Ab Aa).f2).length:Int):=of_decide_eq_true qy0
              obtain⟨Cx,Hc,Cd⟩:=Kd.at_int (Kd.V_reads' Bj.out).2.2 Ak Cn Cp
              cases Hc
              replace Cn:=eq_true Cn
              replace Cp:=eq_true Cp
              have Qd:=Ag.out
              have Qe:=Au.out
              obtain⟨Ja,Jb,Jc,Jd,Je,Jf,Jg,Jh,Ji,Jj⟩:=qz5 Ah.out
              go_wp2_with (first|((with_reducible refine y16 (f:=29) rfl ?_);refine y18 (some 114) rfl rfl Try.func29 (by kernel_rfl) rfl #[.int .i64 (rd ((y20 Ab Aa).f2) Ak),.int .i64 0,.int .i64 (wrap64 ((Af.length:Int) - 1))] rfl qy1 ?_;(with_reducible refine(impl_in.calls (rd ((y20 Ab Aa).f2) Ak) 0 (wrap64 ((Af.length:Int) - 1)) false _ Sv.out).mono ?_);rintro e w' ⟨rfl,⟨nd,rfl⟩⟩;refine⟨_,rfl, ?_⟩))
              go_ret
              exact⟨qf,qb⟩
            ·as_aux_lemma =>
             rw [if_neg Hm]at H
             have Iv:=decide_eq_false Hm
             clear Hm
             have H':=y0.mk H
             clear H
             go_wp2
             go_roundg k4
             case measure=>have:=Ca.out;have:=Bx.out;have:=Es.out;have:=Oh.out;omega
             exact⟨(Bh),(wrap64 (Aa + 1)),qy2,H',⟨by have:=Ca.out;have:=Bx.out;have:=Es.out;have:=Oh.out;omega⟩,⟨qR Am.out⟩,⟨qN (Kd.N_mono Ay.out (fun _ hk=>⟨hk.1,hk.2.1⟩))⟩,⟨qk Ah.out⟩,⟨qb⟩⟩
      ·as_aux_lemma =>
       rw [if_neg Hl]at H
       have Fo:=decide_eq_false Hl
       clear Hl
       by_cases Di:(Af.length:Int)≤60
       ·as_aux_lemma =>
        rw [if_pos Di]at H
        have Hg:=decide_eq_true Di
        have Hh:decide (Af.length≤60)=true:=decide_eq_true (by omega)
        clear Di
        obtain⟨Qf,Qg,H⟩:=qB H
        obtain rfl:=Option.some.inj H
        obtain⟨Jk,Jl,Jm,Jn,Jo,Jp,Jq,Jr,Js,Jt⟩:=qz5 Ah.out
        obtain⟨Te,Tf,Ju⟩:=Kd.R_slice Am.out
        subst Ju
        go_wp2_with (first|(go_at_call 81;(with_reducible refine(slices_ContainsFunc_int_int_impl_isFormed_1.calls k2 _ _ Bd  Qf _ (qc ((Kd.R_reads' Am.out).2.2)) (by exact(Kd.R_reads' Am.out).2.1) Qg.out).mono ?_);rintro e w' ⟨rfl,⟨nd,rfl⟩⟩))
        go_ret
        exact⟨qf,qb⟩
       ·as_aux_lemma =>
        rw [if_neg Di]at H
        have Hg:=decide_eq_false Di
        have Hh:decide (Af.length≤60)=false:=decide_eq_false (by omega)
        clear Di
        obtain rfl:=Option.some.inj H
        obtain⟨Jv,Jw,Jx,Jy,Jz,Ka,Kb,Ke,Kf,Kg⟩:=qz5 Ah.out
        go_wp2
        go_ret
        exact⟨qf,qb⟩
end Go.Proofs.Ytkdabljlfbmpdaa.Po
end
section
namespace Go.Proofs.Ytkdabljlfbmpdaa.Po
open Go.RowKit Go.Proofs.YtkdabljlfbmpdaaW.PrintWords Go.Proofs.YtkdabljlfbmpdaaW.PrintLast Go.Proofs.YtkdabljlfbmpdaaW.PrintMore
attribute [local go_sem] max2_int min2_int max_two min_two max_three min_three max_four min_four   -- for this text's walks alone
set_option linter.unusedVariables false
set_option linter.unusedSimpArgs false
/-- strings.Join: a text within the model's room. -/
def strings_Join.f (l0:List ByteArray) (a1:ByteArray):Option ByteArray:=if(Lib.join (l0.map (·.data.toList)) a1.data.toList).length≤140737488355328 then if l0.length≤140737488355328 then some ⟨(Lib.join (l0.map (·.data.toList)) a1.data.toList).toArray⟩else none else none
theorem strings_Join.calls (A0:Option Addr) (c0:Nat) (l0:List ByteArray) (a1:ByteArray) (r:ByteArray) (w:World) (Ab:Kd.C Kd.string w A0 l0.length l0) (Ac:l0.length≤c0) (h:strings_Join.f l0 a1=some r) :
  Calls Try.prog 69 #[.slice A0 l0.length c0,.string a1] w fun e w'=>e=.returned (.string r)∧Below w.heap.size w w':=by
 unfold strings_Join.f at h
 by_cases h0:(Lib.join (l0.map (·.data.toList)) a1.data.toList).length≤140737488355328
 ·by_cases h1:l0.length≤140737488355328
  ·rw [if_pos h0,if_pos h1]at h
   obtain rfl:=Option.some.inj h
   cases l0 with
   | nil =>
    refine(Try.strings_Join_none A0 c0 a1 w).mono ?_
    rintro e w' ⟨rfl,rfl⟩
    exact⟨rfl,Below.refl _ _⟩
   | cons x xs =>
    obtain⟨⟨b,o,p⟩,rfl,hx⟩:=Ab.2.2 (by simp)
    have hcell:∀(j:Nat) y,(x :: xs)[j]?=some y→w.cell? ((⟨b,o,p⟩:Addr).add j)=some (.string y):=by
     intro j y hy
     obtain⟨c,hl,hK,hc⟩:=hx j y hy
     have e:c=[.string y]:=hK
     have:=hc 0 (.string y) (by rw [e];rfl)
     simpa [Kd.string,Kd.scalar] using this
    have hp:p=none:=by
     have Aa:=hcell 0 x rfl
     cases p with
     | none=>rfl
     | some q =>
      simp only [World.cell?,Addr.add]at Aa
      split at Aa <;> simp at Aa
    subst hp
    have hcell2:∀(j:Nat) y,(x :: xs)[j]?=some y→w.cell? ⟨b,o + j,none⟩=some (.string y):=by
     intro j y hy
     have:=hcell j y hy
     have e:(⟨b,o,none⟩:Addr).add j=⟨b,o + j,none⟩:=by
      unfold Addr.add
      split <;> simp_all
     rwa [e]at this
    exact Try.strings_Join b o c0 (x :: xs) a1 w hcell2 (World.block_lt_of_cell? w _ (hcell2 0 x rfl)) h1 Ac h0
  ·rw [if_pos h0,if_neg h1]at h
   cases h
 ·rw [if_neg h0]at h
  cases h
end Go.Proofs.Ytkdabljlfbmpdaa.Po
end
