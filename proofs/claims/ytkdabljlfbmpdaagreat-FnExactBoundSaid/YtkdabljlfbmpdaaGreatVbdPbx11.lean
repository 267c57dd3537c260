-- Cut by prune.py, a program of this session, out of the texts of this claim: Lean checks it.
import Derived.Test.YtkdabljlfbmpdaaGreatVbdPbx0
import Derived.Test.YtkdabljlfbmpdaaGreatVbdPbx4
import Derived.Test.YtkdabljlfbmpdaaGreatVbdPbx10
section
namespace Go.Proofs.YtkdabljlfbmpdaaGreat.Pb
open Go.RowKit Go.Proofs.YtkdabljlfbmpdaaGreatW.PrintWords Go.Proofs.YtkdabljlfbmpdaaGreatW.PrintLast Go.Proofs.YtkdabljlfbmpdaaGreatW.PrintMore
attribute [local go_sem] max2_int min2_int max_two min_two max_three min_three max_four min_four   -- for this text's walks alone
set_option linter.unusedVariables false
set_option linter.unusedSimpArgs false
def spec_Bound.l0:Nat→List ByteArray→List ByteArray→Int→List (S48)→Int→ByteArray→List Int→List (S33)→Option (List ByteArray)
 | 0,_,_,_,_,_,_,_,_=>none
 | k + 1,x3,x4,x5,x327000,x327001,x327002,x327003,x327004=>if x5 < (x327000.length:Int)then(if 0≤x5 then(if((y20 x327000 x5).f0)=1 then((spec_l05In.f k x4 ((y20 x327000 x5).f1)).bind fun t336=>(if t336=true then((spec_l05In.f k x3 ((y20 x327000 x5).f1)).bind fun t338=>(if t338=true then(spec_Bound.l0 k x3 x4 (wrap64 (x5 + 1)) x327000 x327001 x327002 x327003 x327004)else(if x3.length < 8796093022208 then(spec_Bound.l0 k (x3 ++ [(y20 x327000 x5).f1]) x4 (wrap64 (x5 + 1)) x327000 x327001 x327002 x327003 x327004)else(none))))else(spec_Bound.l0 k x3 x4 (wrap64 (x5 + 1)) x327000 x327001 x327002 x327003 x327004)))else(spec_Bound.l0 k x3 x4 (wrap64 (x5 + 1)) x327000 x327001 x327002 x327003 x327004))else(none))else(some x3)
def spec_Bound.f (k:Nat) (l0_0:List (S48)) (a0_1:Int) (a0_2:ByteArray) (l0_3:List Int) (l0_4:List (S33)):Option (List ByteArray):=(some (([]:List ByteArray):List ByteArray)).bind fun y327=>((z7_.f k l0_0 a0_1 a0_2 l0_3 l0_4).bind fun t330=>(if t330.toList=([]:List UInt8)then(some y327)else((z9_.f k l0_0 a0_1 a0_2 l0_3 l0_4).bind fun t331=>(spec_Bound.l0 k y327 t331 0 l0_0 a0_1 a0_2 l0_3 l0_4))))
set_option maxHeartbeats 8000000 in
set_option maxRecDepth 100000 in
theorem spec_Bound.calls (k:Nat) (Bt:Option Addr) (Bu:Nat) (Ac:List (S48)) (Aw:Int) (Ay:ByteArray) (Bv:Option Addr) (Bw:Nat) (Ar:List Int) (Bx:Option Addr) (Bz:Nat) (As:List (S33)) (r:List ByteArray) (w:World) (Dw:Kd.C k48 w Bt Ac.length Ac) (Dx:Ac.length≤Bu) (Dy:Kd.C (Kd.int .i64) w Bv Ar.length Ar) (Dz:Ar.length≤Bw) (Ea:Kd.C k33 w Bx As.length As) (Eb:As.length≤Bz) (h:spec_Bound.f k Ac Aw Ay Ar As=some r) :
  Calls Tryz.prog 5 #[.agg #[.slice Bt Ac.length Bu,.int .i64 Aw,.string Ay,.slice Bv Ar.length Bw,.slice Bx As.length Bz]] w fun e w'=>∃ v0_:Value,e=.returned (v0_)∧Kd.R Kd.string 9 w' w.heap.size (fun _=>True) v0_ r∧Below w.heap.size w w':=by
 have Ik:=Tryz.underlying36
 have Av:=y0.mk Dw
 have Co:=y0.mk Dx
 clear Dw Dx
 have Cp:=y0.mk Dy
 have Cq:=y0.mk Dz
 clear Dy Dz
 have Cr:=y0.mk Ea
 have Cs:=y0.mk Eb
 clear Ea Eb
 have HB:=y0.mk (Below.refl w.heap.size w)
 have H:((some (([]:List ByteArray):List ByteArray)).bind fun Cn=>((z7_.f k Ac Aw Ay Ar As).bind fun Bl=>(if Bl.toList=([]:List UInt8)then(some Cn)else((z9_.f k Ac Aw Ay Ar As).bind fun Bj=>(spec_Bound.l0 k Cn Bj 0 Ac Aw Ay Ar As)))))=some r:=h
 clear h
 obtain⟨Cn,Ca⟩:∃ y_:List ByteArray,y_=(([]:List ByteArray)):=⟨_,rfl⟩
 replace H:((z7_.f k Ac Aw Ay Ar As).bind fun Bl=>(if Bl.toList=([]:List UInt8)then(some Cn)else((z9_.f k Ac Aw Ay Ar As).bind fun Bj=>(spec_Bound.l0 k Cn Bj 0 Ac Aw Ay Ar As))))=some r:=by first|(rw [Ca];with_reducible exact H)|(have H2_:=(Option.bind_some _ _).symm.trans H;rw [Ca];with_reducible exact H2_)|(have H2_:=(Option.bind_some _ _).symm.trans H;with_reducible exact H2_)|with_reducible exact H|(rw [Ca];exact H)|exact H
 have Ci:=y0.mk Ca
 clear Ca
 obtain⟨Bl,A2,H⟩:=qB H
 by_cases c3:Bl.toList=([]:List UInt8)
 ·rw [if_pos c3]at H
  have El:(Bl.toList == ([]:List UInt8))=true:=beq_iff_eq.mpr c3
  have Em:(Bl.toList != ([]:List UInt8))=false:=bne_eq_false_iff_eq.mpr c3
  clear c3
  obtain rfl:=Option.some.inj H
  go_enter Tryz.func5,Tryz.ntmps5
  go_wp2_with (first|((with_reducible refine y16 (N:=1) rfl ?_);refine qe 1 #[.slice Bt Ac.length Bu,.int .i64 Aw,.string Ay,.slice Bv Ar.length Bw,.slice Bx As.length Bz] 36 ?_;intro Ec hg w4 hbox hb;have Ad:=y0.mk (hbox);have En:=y0.mk (qg (w:=w) hg);have Eo:=y0.mk (qg (w:=w) hg);replace HB:=y0.mk (y5 qb hb);clear hb hbox hg)|((with_reducible refine y16 (N:=6) rfl ?_);refine qL Kd.string 9 6 ([]:List ByteArray) ?_;intro Hf w5 Ep hb hg_ hnew_;clear hg_ hnew_;(first|rw [← Ci.out]at Ep|(simp only [Int.reduceToNat]at Ep;rw [← Ci.out]at Ep));have Bc:=y0.mk (Kd.R_lower Ep (y4 qb));replace Ad:=y0.mk (qK Ad.out hb);replace HB:=y0.mk (y5 qb hb);clear hb Ep;obtain⟨Hg,Hh,Hi,Hj,Hk,Hl,Hm,Hn,Ho,Hp⟩:=qz5 Ad.out)|((with_reducible refine y15 (f:=16) rfl ?_);refine y17 (some 8) rfl rfl Tryz.func16 (by kernel_rfl) rfl #[.agg #[.slice Bt Ac.length Bu,.int .i64 Aw,.string Ay,.slice Bv Ar.length Bw,.slice Bx As.length Bz]] rfl qy1 ?_;(with_reducible refine(z7_.calls k _ _ Ac Aw Ay _ _ Ar _ _ As Bl _ (qc (Kd.C_below Av.out HB.out)) Co.out (qc (Kd.C_below Cp.out HB.out)) Cq.out (qc (Kd.C_below Cr.out HB.out)) Cs.out A2.out).mono ?_);rintro e w8 ⟨rfl,hb⟩;refine⟨_,rfl, ?_⟩;replace Bc:=y0.mk (Kd.R_below (qR Bc.out) hb);replace Ad:=y0.mk (qK Ad.out hb);replace HB:=y0.mk (y5 qb hb);(try clear hb)))
  go_ret
  exact⟨_,by first|rfl|(simp [y12,y13] <;> rfl)|(simp [*,y12,y13] <;> rfl),by(with_reducible repeat(first|apply Kd.R_alloc|apply Kd.R_drewN|apply Kd.R_drew));exact Bc.out,qb⟩
 ·rw [if_neg c3]at H
  have El:(Bl.toList == ([]:List UInt8))=false:=beq_eq_false_iff_ne.mpr c3
  have Em:(Bl.toList != ([]:List UInt8))=true:=bne_iff_ne.mpr c3
  obtain⟨Bj,A9,H⟩:=qB H
  have H':=y0.mk H
  clear H
  go_enter Tryz.func5,Tryz.ntmps5
  go_wp2_with (first|((with_reducible refine y16 (N:=1) rfl ?_);refine qe 1 #[.slice Bt Ac.length Bu,.int .i64 Aw,.string Ay,.slice Bv Ar.length Bw,.slice Bx As.length Bz] 36 ?_;intro Ec hg Iu hbox hb;have Ad:=y0.mk (hbox);have En:=y0.mk (qg (w:=w) hg);have Eo:=y0.mk (qg (w:=w) hg);replace HB:=y0.mk (y5 qb hb);clear hb hbox hg)|((with_reducible refine y16 (N:=6) rfl ?_);refine qL Kd.string 9 6 ([]:List ByteArray) ?_;intro Hf Iv Ct hb hg_ hnew_;clear hg_ hnew_;(first|rw [← Ci.out]at Ct|(simp only [Int.reduceToNat]at Ct;rw [← Ci.out]at Ct));have Bc:=y0.mk (Kd.R_lower Ct (y4 qb));replace Ad:=y0.mk (qK Ad.out hb);replace HB:=y0.mk (y5 qb hb);clear hb Ct;obtain⟨Cy,Cz,Da,Db,Dc,Dd,De,Df,Dg,Dh⟩:=qz5 Ad.out)|((with_reducible refine y15 (f:=16) rfl ?_);refine y17 (some 8) rfl rfl Tryz.func16 (by kernel_rfl) rfl #[.agg #[.slice Bt Ac.length Bu,.int .i64 Aw,.string Ay,.slice Bv Ar.length Bw,.slice Bx As.length Bz]] rfl qy1 ?_;(with_reducible refine(z7_.calls k _ _ Ac Aw Ay _ _ Ar _ _ As Bl _ (qc (Kd.C_below Av.out HB.out)) Co.out (qc (Kd.C_below Cp.out HB.out)) Cq.out (qc (Kd.C_below Cr.out HB.out)) Cs.out A2.out).mono ?_);rintro e Iw ⟨rfl,hb⟩;refine⟨_,rfl, ?_⟩;replace Bc:=y0.mk (Kd.R_below (qR Bc.out) hb);replace Ad:=y0.mk (qK Ad.out hb);replace HB:=y0.mk (y5 qb hb);(try clear hb);obtain⟨Di,Dj,Dk,Dl,Dm,Do,Dp,Dq,Dr,Ds⟩:=qz5 Ad.out)|((with_reducible refine y15 (f:=17) rfl ?_);refine y17 (some 12) rfl rfl Tryz.func17 (by kernel_rfl) rfl #[.agg #[.slice Bt Ac.length Bu,.int .i64 Aw,.string Ay,.slice Bv Ar.length Bw,.slice Bx As.length Bz]] rfl qy1 ?_;(with_reducible refine(z9_.calls k _ _ Ac Aw Ay _ _ Ar _ _ As Bj _ (qc (Kd.C_below Av.out HB.out)) Co.out (qc (Kd.C_below Cp.out HB.out)) Cq.out (qc (Kd.C_below Cr.out HB.out)) Cs.out A9.out).mono ?_);rintro e Ix ⟨Eq,rfl,Hq,hb⟩;refine⟨_,rfl, ?_⟩;have Er:=y0.mk (Kd.R_lower (Kd.R_new' Hq (Kd.R_lt (qR Bc.out))) (y4 qb));replace Bc:=y0.mk (Kd.R_elder' (qR Bc.out) (Kd.R_base Hq) hb);replace Ad:=y0.mk (qK Ad.out hb);replace HB:=y0.mk (y5 qb hb);(try clear hb);(try clear Hq)))
  go_loopg [3,5] k (fun kq v3 v5 w'=>∃(Bm:List ByteArray) (Ab:Int),v5=.int .i64 Ab∧y0 (spec_Bound.l0 kq Bm Bj Ab Ac Aw Ay Ar As=some r)∧y0 (kq≤k)∧y0 (Kd.R Kd.string 9 w' w.heap.size (fun k_=>some k_≠(Eq:Value).ownBlock) v3 Bm)∧y0 (Kd.R Kd.string 9 w' w.heap.size (fun k_=>some k_≠(v3:Value).ownBlock) Eq Bj)∧y0 (w'.heap[Ec]?=some (.cells #[(.slice Bt Ac.length Bu),.int .i64 Aw,.string Ay,(.slice Bv Ar.length Bw),(.slice Bx As.length Bz)] 36 (0,0)))∧y0 (Below w.heap.size w w'))
  case atStart=>exact⟨(Cn),(0),qy2,H',⟨Nat.le_refl _⟩,⟨qR (Kd.R_mono Bc.out (fun _ hk=>hk.2))⟩,⟨qR (Kd.R_mono Er.out (fun _ hk=>hk.2))⟩,⟨qk Ad.out⟩,⟨qb⟩⟩
  case round =>
   clear H'
   (try clear El Em Cy Cz Da Db Dc Di Dj Dk Dl Dm Dd De Df Dg Dh Do Dp Dq Dr Ds)
   obtain⟨Bm,Ab,rfl,HA,Ed,Bi,Bb,Ad,HB⟩:=hrel
   cases gk with
   | zero=>exact absurd HA.out (by simp [spec_Bound.l0])
   | succ k1 =>
    have H:=HA.out
    clear HA
    simp only [spec_Bound.l0]at H
    by_cases Ek:Ab < (Ac.length:Int)
    ·rw [if_pos Ek]at H
     have Es:=decide_eq_true Ek
     clear Ek
     obtain⟨Ig,H⟩:=qo H
     have Ih:decide (0≤Ab)=true:=decide_eq_true Ig
     clear Ig
     by_cases Ee:((y20 Ac Ab).f0)=1
     ·rw [if_pos Ee]at H
      have Et:(((y20 Ac Ab).f0) == 1)=true:=beq_iff_eq.mpr Ee
      have Eu:(((y20 Ac Ab).f0) != 1)=false:=bne_eq_false_iff_eq.mpr Ee
      clear Ee
      obtain⟨Hr,Hs,H⟩:=qB H
      by_cases Fb:Hr=true
      ·subst Fb
       replace H:=qT H
       obtain⟨Ht,Ii,H⟩:=qB H
       by_cases Fc:Ht=true
       ·subst Fc
        replace H:=qT H
        have H':=y0.mk H
        clear H
        obtain⟨Fd,Fe,Ff,Fg,Fh,Fi,Fj,Fk,Fl,Fm⟩:=qz5 Ad.out
        have Bd:0≤(Ab:Int):=of_decide_eq_true qy0
        have Be:Ab < (Ac.length:Int):=of_decide_eq_true qy0
        obtain⟨Bf,Cd,Ce,Cf,Af,Ag,Aa,Ai,Aj⟩:=at_T48 Av.out Ab Bd Be
        cases Cf
        replace Af:=(HB.out.cell (World.block_lt_of_cell? w _ Af)).trans Af
        replace Ag:=(HB.out.cell (World.block_lt_of_cell? w _ Ag)).trans Ag
        replace Aa:=(HB.out.cell (World.block_lt_of_cell? w _ Aa)).trans Aa
        have Bp:=y0.mk Aj
        have Bq:=y0.mk Ai
        clear Aj Ai
        replace Bd:=eq_true Bd
        replace Be:=eq_true Be
        have Bn:0≤(Ab:Int):=of_decide_eq_true qy0
        have Bo:Ab < (Ac.length:Int):=of_decide_eq_true qy0
        obtain⟨Cb,Cu,Cv,Cw,Ak,Am,Ah,At,Au⟩:=at_T48 Av.out Ab Bn Bo
        obtain rfl:Bf=Cb:=(by injection Cw)
        replace Ak:=(HB.out.cell (World.block_lt_of_cell? w _ Ak)).trans Ak
        replace Am:=(HB.out.cell (World.block_lt_of_cell? w _ Am)).trans Am
        replace Ah:=(HB.out.cell (World.block_lt_of_cell? w _ Ah)).trans Ah
        have Cj:=y0.mk Au
        have Ck:=y0.mk At
        clear Au At
        replace Bn:=eq_true Bn
        replace Bo:=eq_true Bo
        have ea_:=Option.some.inj (Aa.symm.trans Ah)
        injection ea_ with ea_ en_ ec_
        subst ea_
        subst ec_
        clear en_
        obtain⟨Il,Im,Hu⟩:=Kd.R_slice Bb.out
        subst Hu
        go_wp2_with (first|(go_at_call 18;(with_reducible refine(spec_l05In.calls k1 _ _ Bj ((y20 Ac Ab).f1) true _ (qc ((Kd.R_reads' Bb.out).2.2)) (by exact(Kd.R_reads' Bb.out).2.1) Hs.out).mono ?_);rintro e w' ⟨rfl,⟨nd,rfl⟩⟩;have Cg:0≤(Ab:Int):=of_decide_eq_true qy0;have Ch:Ab < (Ac.length:Int):=of_decide_eq_true qy0;obtain⟨Cx,Ef,Eg,Eh,Az,Ba,Ap,Bg,Bh⟩:=at_T48 Av.out Ab Cg Ch;obtain rfl:Bf=Cx:=(by injection Eh);replace Az:=(HB.out.cell (World.block_lt_of_cell? w _ Az)).trans Az;replace Ba:=(HB.out.cell (World.block_lt_of_cell? w _ Ba)).trans Ba;replace Ap:=(HB.out.cell (World.block_lt_of_cell? w _ Ap)).trans Ap;have Dt:=y0.mk Bh;have Du:=y0.mk Bg;clear Bh Bg;replace Cg:=eq_true Cg;replace Ch:=eq_true Ch;have ea_:=Option.some.inj (Aa.symm.trans Ap);injection ea_ with ea_ en_ ec_;subst ea_;subst ec_;clear en_;obtain⟨Io,Ip,Hv⟩:=Kd.R_slice Bi.out;subst Hv)|(go_at_call 18;(with_reducible refine(spec_l05In.calls k1 _ _ Bm ((y20 Ac Ab).f1) true _ (qc ((Kd.R_reads' Bi.out).2.2)) (by exact(Kd.R_reads' Bi.out).2.1) Ii.out).mono ?_);rintro e w' ⟨rfl,⟨nd,rfl⟩⟩))
        go_roundg k1
        case measure=>have:=Ed.out;omega
        exact⟨(Bm),(wrap64 (Ab + 1)),qy2,H',⟨by have:=Ed.out;omega⟩,⟨qR Bi.out⟩,⟨qR Bb.out⟩,⟨qk Ad.out⟩,⟨qb⟩⟩
       ·replace Fc:=Bool.eq_false_iff.mpr Fc
        subst Fc
        replace H:=qF H
        obtain⟨Ij,H⟩:=qo H
        have Ew:=y0.mk Ij
        clear Ij
        obtain⟨Ex,Cc⟩:∃ y_:List ByteArray,y_=(Bm ++ [(y20 Ac Ab).f1]):=⟨_,rfl⟩
        replace H:(spec_Bound.l0 k1 Ex Bj (wrap64 (Ab + 1)) Ac Aw Ay Ar As)=some r:=by first|(rw [Cc];with_reducible exact H)|(have H2_:=(Option.bind_some _ _).symm.trans H;rw [Cc];with_reducible exact H2_)|(have H2_:=(Option.bind_some _ _).symm.trans H;with_reducible exact H2_)|with_reducible exact H|(rw [Cc];exact H)|exact H
        have Ey:=y0.mk Cc
        clear Cc
        have H':=y0.mk H
        clear H
        obtain⟨Fn,Fo,Fp,Fq,Fr,Fs,Ft,Fu,Fv,Fx⟩:=qz5 Ad.out
        have Bd:0≤(Ab:Int):=of_decide_eq_true qy0
        have Be:Ab < (Ac.length:Int):=of_decide_eq_true qy0
        obtain⟨Bf,Cd,Ce,Cf,Af,Ag,Aa,Ai,Aj⟩:=at_T48 Av.out Ab Bd Be
        cases Cf
        replace Af:=(HB.out.cell (World.block_lt_of_cell? w _ Af)).trans Af
        replace Ag:=(HB.out.cell (World.block_lt_of_cell? w _ Ag)).trans Ag
        replace Aa:=(HB.out.cell (World.block_lt_of_cell? w _ Aa)).trans Aa
        have Bp:=y0.mk Aj
        have Bq:=y0.mk Ai
        clear Aj Ai
        replace Bd:=eq_true Bd
        replace Be:=eq_true Be
        have Bn:0≤(Ab:Int):=of_decide_eq_true qy0
        have Bo:Ab < (Ac.length:Int):=of_decide_eq_true qy0
        obtain⟨Cb,Cu,Cv,Cw,Ak,Am,Ah,At,Au⟩:=at_T48 Av.out Ab Bn Bo
        obtain rfl:Bf=Cb:=(by injection Cw)
        replace Ak:=(HB.out.cell (World.block_lt_of_cell? w _ Ak)).trans Ak
        replace Am:=(HB.out.cell (World.block_lt_of_cell? w _ Am)).trans Am
        replace Ah:=(HB.out.cell (World.block_lt_of_cell? w _ Ah)).trans Ah
        have Cj:=y0.mk Au
        have Ck:=y0.mk At
        clear Au At
        replace Bn:=eq_true Bn
        replace Bo:=eq_true Bo
        have ea_:=Option.some.inj (Aa.symm.trans Ah)
        injection ea_ with ea_ en_ ec_
        subst ea_
        subst ec_
        clear en_
        obtain⟨Hw,Hx,Hy⟩:=Kd.R_slice Bb.out
        subst Hy
        go_wp2_with (first|(go_at_call 18;(with_reducible refine(spec_l05In.calls k1 _ _ Bj ((y20 Ac Ab).f1) true _ (qc ((Kd.R_reads' Bb.out).2.2)) (by exact(Kd.R_reads' Bb.out).2.1) Hs.out).mono ?_);rintro e w' ⟨rfl,⟨nd,rfl⟩⟩;have Cg:0≤(Ab:Int):=of_decide_eq_true qy0;have Ch:Ab < (Ac.length:Int):=of_decide_eq_true qy0;obtain⟨Cx,Ef,Eg,Eh,Az,Ba,Ap,Bg,Bh⟩:=at_T48 Av.out Ab Cg Ch;obtain rfl:Bf=Cx:=(by injection Eh);replace Az:=(HB.out.cell (World.block_lt_of_cell? w _ Az)).trans Az;replace Ba:=(HB.out.cell (World.block_lt_of_cell? w _ Ba)).trans Ba;replace Ap:=(HB.out.cell (World.block_lt_of_cell? w _ Ap)).trans Ap;have Dt:=y0.mk Bh;have Du:=y0.mk Bg;clear Bh Bg;replace Cg:=eq_true Cg;replace Ch:=eq_true Ch;have ea_:=Option.some.inj (Aa.symm.trans Ap);injection ea_ with ea_ en_ ec_;subst ea_;subst ec_;clear en_;obtain⟨Hz,Ia,Ib⟩:=Kd.R_slice Bi.out;subst Ib)|(go_at_call 18;(with_reducible refine(spec_l05In.calls k1 _ _ Bm ((y20 Ac Ab).f1) false _ (qc ((Kd.R_reads' Bi.out).2.2)) (by exact(Kd.R_reads' Bi.out).2.1) Ii.out).mono ?_);rintro e w' ⟨rfl,⟨nd,rfl⟩⟩;have Ei:0≤(Ab:Int):=of_decide_eq_true qy0;have Ej:Ab < (Ac.length:Int):=of_decide_eq_true qy0;obtain⟨Ez,Ic,Id,Ie,Br,Bs,Bk,Cl,Cm⟩:=at_T48 Av.out Ab Ei Ej;obtain rfl:Bf=Ez:=(by injection Ie);replace Br:=(HB.out.cell (World.block_lt_of_cell? w _ Br)).trans Br;replace Bs:=(HB.out.cell (World.block_lt_of_cell? w _ Bs)).trans Bs;replace Bk:=(HB.out.cell (World.block_lt_of_cell? w _ Bk)).trans Bk;have Fy:=y0.mk Cm;have Fz:=y0.mk Cl;clear Cm Cl;replace Ei:=eq_true Ei;replace Ej:=eq_true Ej;have ea_:=Option.some.inj (Aa.symm.trans Bk);injection ea_ with ea_ en_ ec_;subst ea_;subst ec_;clear en_)|((with_reducible refine gate_builtin (b:=.append) (xs:=#[.tmp 48,.tmp 55]) rfl ?_);at_builtin;refine Kd.R_append Kd.string (w0:=w) w.heap.size rfl (.tmp 48) (.tmp 55) 30 9 (.string ⟨#[]⟩) 16 rfl Tryz.underlying30 info9 rfl (by decide) (by omega) (.slice Hz Bm.length Ia) Bm ((y20 Ac Ab).f1) [.string ((y20 Ac Ab).f1)] (fun k_=>some k_≠(.slice Hw Bj.length Hx:Value).ownBlock) (fun _=>False) rfl rfl ?aP (fun _ hk=>hk.elim) ?aF ?aO ?aB ?aS ?aL ?_;(case aP=>exact rfl);(case aB=>exact qb);(case aF=>exact(fun k_ hk=>Kd.fresh' (Kd.R_lt (qR Bb.out)) k_ hk));(case aO=>exact(qR Bi.out));(case aS=>exact(y4 qb));(case aL=>have:=Ew.out;omega);intro Iq Iy ho hb hg hat;rw [← Ey.out]at ho;replace Bb:=y0.mk (Kd.R_after (ok:=(fun _=>True)) (qR (Kd.R_mono Bb.out (fun _ hk=>⟨trivial,hk⟩))) hg hat);replace Ad:=y0.mk (blk_grown (qk Ad.out) hg (Kd.R_ne Bi.out Ad.out (by decide)));replace HB:=y0.mk (hb);have Fa:=y0.mk (ho);clear Bi;clear ho hb hg hat))
        go_roundg k1
        case measure=>have:=Ed.out;omega
        exact⟨(Ex),(wrap64 (Ab + 1)),qy2,H',⟨by have:=Ed.out;omega⟩,⟨qR Fa.out⟩,⟨qR (Kd.R_mono Bb.out (fun _ hk=>hk.2))⟩,⟨qk Ad.out⟩,⟨qb⟩⟩
      ·replace Fb:=Bool.eq_false_iff.mpr Fb
       subst Fb
       replace H:=qF H
       have H':=y0.mk H
       clear H
       obtain⟨Ga,Gb,Gc,Gd,Ge,Gf,Gg,Gh,Gi,Gj⟩:=qz5 Ad.out
       have Bd:0≤(Ab:Int):=of_decide_eq_true qy0
       have Be:Ab < (Ac.length:Int):=of_decide_eq_true qy0
       obtain⟨Bf,Cd,Ce,Cf,Af,Ag,Aa,Ai,Aj⟩:=at_T48 Av.out Ab Bd Be
       cases Cf
       replace Af:=(HB.out.cell (World.block_lt_of_cell? w _ Af)).trans Af
       replace Ag:=(HB.out.cell (World.block_lt_of_cell? w _ Ag)).trans Ag
       replace Aa:=(HB.out.cell (World.block_lt_of_cell? w _ Aa)).trans Aa
       have Bp:=y0.mk Aj
       have Bq:=y0.mk Ai
       clear Aj Ai
       replace Bd:=eq_true Bd
       replace Be:=eq_true Be
       have Bn:0≤(Ab:Int):=of_decide_eq_true qy0
       have Bo:Ab < (Ac.length:Int):=of_decide_eq_true qy0
       obtain⟨Cb,Cu,Cv,Cw,Ak,Am,Ah,At,Au⟩:=at_T48 Av.out Ab Bn Bo
       obtain rfl:Bf=Cb:=(by injection Cw)
       replace Ak:=(HB.out.cell (World.block_lt_of_cell? w _ Ak)).trans Ak
       replace Am:=(HB.out.cell (World.block_lt_of_cell? w _ Am)).trans Am
       replace Ah:=(HB.out.cell (World.block_lt_of_cell? w _ Ah)).trans Ah
       have Cj:=y0.mk Au
       have Ck:=y0.mk At
       clear Au At
       replace Bn:=eq_true Bn
       replace Bo:=eq_true Bo
       have ea_:=Option.some.inj (Aa.symm.trans Ah)
       injection ea_ with ea_ en_ ec_
       subst ea_
       subst ec_
       clear en_
       obtain⟨Ir,Is,If⟩:=Kd.R_slice Bb.out
       subst If
       go_wp2_with (first|(go_at_call 18;(with_reducible refine(spec_l05In.calls k1 _ _ Bj ((y20 Ac Ab).f1) false _ (qc ((Kd.R_reads' Bb.out).2.2)) (by exact(Kd.R_reads' Bb.out).2.1) Hs.out).mono ?_);rintro e w' ⟨rfl,⟨nd,rfl⟩⟩))
       go_roundg k1
       case measure=>have:=Ed.out;omega
       exact⟨(Bm),(wrap64 (Ab + 1)),qy2,H',⟨by have:=Ed.out;omega⟩,⟨qR Bi.out⟩,⟨qR Bb.out⟩,⟨qk Ad.out⟩,⟨qb⟩⟩
     ·rw [if_neg Ee]at H
      have Et:(((y20 Ac Ab).f0) == 1)=false:=beq_eq_false_iff_ne.mpr Ee
      have Eu:(((y20 Ac Ab).f0) != 1)=true:=bne_iff_ne.mpr Ee
      have H':=y0.mk H
      clear H
      obtain⟨Gk,Gl,Gm,Gn,Gp,Gq,Gr,Gs,Gt,Gu⟩:=qz5 Ad.out
      have Bd:0≤(Ab:Int):=of_decide_eq_true qy0
      have Be:Ab < (Ac.length:Int):=of_decide_eq_true qy0
      obtain⟨Bf,Cd,Ce,Cf,Af,Ag,Aa,Ai,Aj⟩:=at_T48 Av.out Ab Bd Be
      cases Cf
      replace Af:=(HB.out.cell (World.block_lt_of_cell? w _ Af)).trans Af
      replace Ag:=(HB.out.cell (World.block_lt_of_cell? w _ Ag)).trans Ag
      replace Aa:=(HB.out.cell (World.block_lt_of_cell? w _ Aa)).trans Aa
      have Bp:=y0.mk Aj
      have Bq:=y0.mk Ai
      clear Aj Ai
      replace Bd:=eq_true Bd
      replace Be:=eq_true Be
      go_wp2
      go_roundg k1
      case measure=>have:=Ed.out;omega
      exact⟨(Bm),(wrap64 (Ab + 1)),qy2,H',⟨by have:=Ed.out;omega⟩,⟨qR Bi.out⟩,⟨qR Bb.out⟩,⟨qk Ad.out⟩,⟨qb⟩⟩
    ·rw [if_neg Ek]at H
     have Es:=decide_eq_false Ek
     clear Ek
     obtain rfl:=Option.some.inj H
     obtain⟨Gv,Gw,Gx,Gy,Gz,Ha,Hb,Hc,Hd,He⟩:=qz5 Ad.out
     go_wp2
     go_ret
     exact⟨_,by first|rfl|(simp [y12,y13] <;> rfl)|(simp [*,y12,y13] <;> rfl),by(with_reducible repeat(first|apply Kd.R_alloc|apply Kd.R_drewN|apply Kd.R_drew));exact Kd.R_mono Bi.out (fun _ hk=>trivial),qb⟩
def impl_in.f (a0:Int) (a1:Int) (a2:Int):Option (Bool):=if a0≥a1 then(some (decide (a0≤a2)))else(some false)
set_option maxHeartbeats 8000000 in
set_option maxRecDepth 100000 in
theorem impl_in.calls (a0:Int) (a1:Int) (a2:Int) (r:Bool) (w:World) (h:impl_in.f a0 a1 a2=some r) :
  Calls Tryz.prog 66 #[.int .i64 a0,.int .i64 a1,.int .i64 a2] w fun e w'=>e=.returned (.bool r)∧Drawn0 w w':=by
 have H:(if a0≥a1 then(some (decide (a0≤a2)))else(some false))=some r:=h
 clear h
 by_cases c4:a0≥a1
 ·rw [if_pos c4]at H
  have c4b0:decide (a1≤a0)=true:=decide_eq_true c4
  clear c4
  obtain rfl:=Option.some.inj H
  go_enter Tryz.func66,Tryz.ntmps66
  go_wp2
  go_ret
  exact qf2
 ·rw [if_neg c4]at H
  have c4b0:decide (a1≤a0)=false:=decide_eq_false c4
  clear c4
  obtain rfl:=Option.some.inj H
  go_enter Tryz.func66,Tryz.ntmps66
  go_wp2
  go_ret
  exact qf2
def impl_isSum.f (a0:Int):Option (Bool):=(impl_in.f a0 5 7).bind fun t343=>(some t343)
set_option maxHeartbeats 8000000 in
set_option maxRecDepth 100000 in
theorem impl_isSum.calls (a0:Int) (r:Bool) (w:World) (h:impl_isSum.f a0=some r) :
  Calls Tryz.prog 67 #[.int .i64 a0] w fun e w'=>e=.returned (.bool r)∧Drawn0 w w':=by
 have H:((impl_in.f a0 5 7).bind fun t343=>(some t343))=some r:=h
 clear h
 obtain⟨t343,A2,H⟩:=qB H
 obtain rfl:=Option.some.inj H
 go_enter Tryz.func67,Tryz.ntmps67
 go_wp2_with (first|((with_reducible refine y15 (f:=66) rfl ?_);refine y17 (some 4) rfl rfl Tryz.func66 (by kernel_rfl) rfl #[.int .i64 a0,.int .i64 5,.int .i64 7] rfl qy1 ?_;(with_reducible refine(impl_in.calls a0 5 7 t343 _ A2.out).mono ?_);rintro e w' ⟨rfl,⟨nd,rfl⟩⟩;refine⟨_,rfl, ?_⟩))
 go_ret
 exact qf2
def impl_Rule_lits.f (l0_0:List (S48)) (a0_1:Int) (a0_2:ByteArray) (l0_3:List Int) (l0_4:List (S33)):Option ((List (S33))):=(some (([(⟨a0_1,a0_2,l0_3⟩:S33)]:List (S33)):List (S33))).bind fun y345=>(if y345.length + l0_4.length < 2932031007402 then(some (y345 ++ l0_4))else(none))
set_option maxHeartbeats 8000000 in
set_option maxRecDepth 100000 in
theorem impl_Rule_lits.calls (Av:Option Addr) (Aw:Nat) (Aj:List (S48)) (Ag:Int) (Ah:ByteArray) (P0_3_:Nat→Prop) (Ak:Option Addr) (Am:Nat) (Ab:List Int) (P0_4_:Nat→Prop) (At:Option Addr) (Au:Nat) (Ac:List (S33)) (r:List (S33)) (w:World) (Az:Kd.C k48 w Av Aj.length Aj) (Ba:Aj.length≤Aw) (Be:Kd.V (Kd.int .i64) 3 w w.heap.size (fun k_=>P0_3_ k_) (.slice Ak Ab.length Am) Ab) (Bf:Kd.V k33 33 w w.heap.size (fun k_=>P0_4_ k_) (.slice At Ac.length Au) Ac) (h:impl_Rule_lits.f Aj Ag Ah Ab Ac=some r) :
  Calls Tryz.prog 68 #[.agg #[.slice Av Aj.length Aw,.int .i64 Ag,.string Ah,.slice Ak Ab.length Am,.slice At Ac.length Au]] w fun e w'=>∃ v0_:Value,e=.returned (v0_)∧Kd.N k33 33 w' w.heap.size (fun k_=>((P0_3_ k_∨P0_4_ k_)∨w.heap.size≤k_)) v0_ r∧Below w.heap.size w w':=by
 have Cj:=Tryz.underlying36
 have Ck:=Tryz.underlying33
 have Cf:=y0.mk Az
 have Cg:=y0.mk Ba
 clear Az Ba
 have Af:=y0.mk (show Kd.V (Kd.int .i64) 3 w w.heap.size (fun k_=>((P0_3_ k_∨P0_4_ k_)∨w.heap.size≤k_)) (.slice Ak Ab.length Am) Ab from Kd.V_mono Be (fun k_ hk=>.inl (.inl hk)))
 have Ai:=y0.mk (show Kd.V k33 33 w w.heap.size (fun k_=>((P0_3_ k_∨P0_4_ k_)∨w.heap.size≤k_)) (.slice At Ac.length Au) Ac from Kd.V_mono Bf (fun k_ hk=>.inl (.inr hk)))
 have HB:=y0.mk (Below.refl w.heap.size w)
 have H:((some (([(⟨Ag,Ah,Ab⟩:S33)]:List (S33)):List (S33))).bind fun As=>(if As.length + Ac.length < 2932031007402 then(some (As ++ Ac))else(none)))=some r:=h
 clear h
 obtain⟨As,Ap⟩:∃ y_:List (S33),y_=(([(⟨Ag,Ah,Ab⟩:S33)]:List (S33))):=⟨_,rfl⟩
 replace H:(if As.length + Ac.length < 2932031007402 then(some (As ++ Ac))else(none))=some r:=by first|(rw [Ap];with_reducible exact H)|(have H2_:=(Option.bind_some _ _).symm.trans H;rw [Ap];with_reducible exact H2_)|(have H2_:=(Option.bind_some _ _).symm.trans H;with_reducible exact H2_)|with_reducible exact H|(rw [Ap];exact H)|exact H
 have Bb:=y0.mk Ap
 clear Ap
 obtain⟨c2,H⟩:=qo H
 have Bi:=y0.mk c2
 clear c2
 obtain⟨Bj,Ar⟩:∃ y_:List (S33),y_=(As ++ Ac):=⟨_,rfl⟩
 replace H:(some Bj)=some r:=by first|(rw [Ar];with_reducible exact H)|(have H2_:=(Option.bind_some _ _).symm.trans H;rw [Ar];with_reducible exact H2_)|(have H2_:=(Option.bind_some _ _).symm.trans H;with_reducible exact H2_)|with_reducible exact H|(rw [Ar];exact H)|exact H
 have Bg:=y0.mk Ar
 clear Ar
 obtain rfl:=Option.some.inj H
 go_enter Tryz.func68,Tryz.ntmps68
 go_wp2_with (first|((with_reducible refine y16 (N:=1) rfl ?_);refine qe 1 #[.slice Av Aj.length Aw,.int .i64 Ag,.string Ah,.slice Ak Ab.length Am,.slice At Ac.length Au] 36 ?_;intro Aa hg w3 hbox hb;replace Af:=y0.mk (Kd.V_below (Kd.V_elderB (qV Af.out) Aa (Nat.le_of_eq hg.symm)) hb);replace Ai:=y0.mk (Kd.V_below (Kd.V_elderB (qV Ai.out) Aa (Nat.le_of_eq hg.symm)) hb);have Ad:=y0.mk (hbox);have Ch:=y0.mk (qg (w:=w) hg);have Ci:=y0.mk (qg (w:=w) hg);replace HB:=y0.mk (y5 qb hb);clear hb hbox hg;obtain⟨Bk,Bl,Bm,Bn,Bo,Bp,Bq,Br,Bs,Bt⟩:=qz5 Ad.out)|((with_reducible refine y16 (N:=5) rfl ?_);refine Kd.N_lit k33 _ 33 ?hg (N':=5) ?hd (xs:=([(⟨Ag,Ah,Ab⟩:S33)]:List (S33))) (inner:=[.int .i64 Ag,.string Ah,.slice Ak Ab.length Am]) (ok:=(fun k_=>((P0_3_ k_∨P0_4_ k_)∨w.heap.size≤k_)∧k_≠Aa)) (okp:=(fun k_=>((P0_3_ k_∨P0_4_ k_)∨w.heap.size≤k_)∧k_≠Aa)) ?hr ?hp (fun _ hk=>hk) ((show ∀ k_,w3.heap.size≤k_→(fun k_=>((P0_3_ k_∨P0_4_ k_)∨w.heap.size≤k_)∧k_≠Aa) k_ from fun k_ hk=>⟨(.inr (Nat.le_trans (y4 qb) hk)),Kd.freshB (g:=Aa) (o:=.cells #[.slice Av Aj.length Aw,.int .i64 Ag,.string Ah,.slice Ak Ab.length Am,.slice At Ac.length Au] 36 (0,0)) (qk Ad.out) k_ hk⟩) _ (Nat.le_refl _)) (Below.refl _ _) (Nat.le_refl _) (by simp) ?_;(case hd=>rfl);(case hg=>rfl);(case hr=>first|(go_simp;done)|(go_simp;rfl));(case hp=>exact(Reps.c3 (show Kd.FK k33 _ _ (⟨Ag,Ah,Ab⟩:S33) [.int .i64 Ag,.string Ah,.slice Ak Ab.length Am]from(k33_mkF _ _ (⟨Ag,Ah,Ab⟩:S33) (Kd.V_reads' (Kd.V_mono (ok':=(fun k_=>((P0_3_ k_∨P0_4_ k_)∨w.heap.size≤k_)∧k_≠Aa)) (Af.out) (fun k_ hk=>⟨hk.1,hk.2⟩))).2.1 (Kd.V_F (Kd.V_mono (ok':=(fun k_=>((P0_3_ k_∨P0_4_ k_)∨w.heap.size≤k_)∧k_≠Aa)) (Af.out) (fun k_ hk=>⟨hk.1,hk.2⟩))))) (Reps.none _ _)));intro Bc w5 Bd hb hg_ hnew_;clear hg_ hnew_;(first|rw [← Bb.out]at Bd|(simp only [Int.reduceToNat]at Bd;rw [← Bb.out]at Bd));replace Af:=y0.mk (Kd.V_elder' (qV Af.out) (Kd.N_base Bd) hb);replace Ai:=y0.mk (Kd.V_elder' (qV Ai.out) (Kd.N_base Bd) hb);have Ay:=y0.mk (Kd.N_lower Bd (y4 qb));replace Ad:=y0.mk (qK Ad.out hb);replace HB:=y0.mk (y5 qb hb);clear hb Bd;obtain⟨Bu,Bv,Bw,Bx,Bz,Ca,Cb,Cc,Cd,Ce⟩:=qz5 Ad.out)|((with_reducible refine gate_builtin (b:=.append) (xs:=#[.tmp 5,.tmp 7]) rfl ?_);at_builtin;refine Kd.N_append_rows k33 (w0:=w) w.heap.size rfl (.tmp 5) (.tmp 7) 34 33 (.agg #[(.int .i64 0),(.string ⟨#[]⟩),(.slice none 0 0)]) 48 rfl Tryz.underlying34 info33 rfl (by decide) (by omega) Bc As Ac _ _ _ (fun k_=>((P0_3_ k_∨P0_4_ k_)∨w.heap.size≤k_)∧k_≠Aa) (fun k_=>((fun k_=>((P0_3_ k_∨P0_4_ k_)∨w.heap.size≤k_)∧k_≠Aa)) k_∧some k_≠(Bc:Value).ownBlock) rfl rfl ?aO ?aR (fun _ hk=>hk) ?aF ?aB ?aS ?aL ?_;(case aR=>exact(by skip;exact Kd.V_F (Kd.V_mono (ok':=(fun k_=>((fun k_=>((P0_3_ k_∨P0_4_ k_)∨w.heap.size≤k_)∧k_≠Aa)) k_∧some k_≠(Bc:Value).ownBlock)) (Ai.out) (fun k_ hk=>⟨⟨hk.1.1,hk.1.2⟩,hk.2⟩))));(case aB=>exact qb);(case aF=>exact(fun k_ hk=>⟨(.inr (Nat.le_trans (y4 qb) hk)),Kd.freshB (g:=Aa) (o:=.cells #[.slice Av Aj.length Aw,.int .i64 Ag,.string Ah,.slice Ak Ab.length Am,.slice At Ac.length Au] 36 (0,0)) (qk Ad.out) k_ hk⟩));(case aO=>exact(qN Ay.out));(case aS=>exact(y4 qb));(case aL=>have:=Bi.out;omega);intro Cl w8 ho hb hg hat;rw [← Bg.out]at ho;replace Af:=y0.mk (Kd.V_afterv (ok:=(fun k_=>((P0_3_ k_∨P0_4_ k_)∨w.heap.size≤k_)∧k_≠Aa)) (qV Af.out) hg hat);replace Ai:=y0.mk (Kd.V_afterv (ok:=(fun k_=>((P0_3_ k_∨P0_4_ k_)∨w.heap.size≤k_)∧k_≠Aa)) (qV Ai.out) hg hat);replace Ad:=y0.mk (blk_grown (qk Ad.out) hg (Kd.N_ne Ay.out Ad.out (by decide)));replace HB:=y0.mk (hb);have Bh:=y0.mk (ho);clear Ay;clear ho hb hg hat))
 go_ret
 exact⟨_,by first|rfl|(simp [y12,y13] <;> rfl)|(simp [*,y12,y13] <;> rfl),by(with_reducible repeat(first|apply Kd.N_alloc|apply Kd.N_drewN|apply Kd.N_drew));exact Kd.N_mono Bh.out (fun _ hk=>hk.1),qb⟩
def impl_isFormed_1.f (a0:Int):Option (Bool):=some (a0 != 1)
set_option maxHeartbeats 8000000 in
set_option maxRecDepth 100000 in
theorem impl_isFormed_1.calls (a0:Int) (r:Bool) (w:World) (h:impl_isFormed_1.f a0=some r) :
  Calls Tryz.prog 69 #[.int .i64 a0] w fun e w'=>e=.returned (.bool r)∧Drawn0 w w':=by
 have H:(some (a0 != 1))=some r:=h
 clear h
 obtain rfl:=Option.some.inj H
 go_enter Tryz.func69,Tryz.ntmps69
 go_wp2
 go_ret
 exact qf2
def z5_.l0:Nat→List Int→Int→Int→Option (Int)
 | 0,_,_,_=>none
 | k + 1,x0,x7,x8=>if x8 < x7 then(if 0≤x8 then(if x8 < (x0.length:Int)then((impl_isFormed_1.f (rd x0 x8)).bind fun t352=>(if t352=true then(some x8)else(z5_.l0 k x0 x7 (wrap64 (x8 + 1)))))else(none))else(none))else(some (-1))
def z5_.f (k:Nat) (l0:List Int) :Option (Int):=z5_.l0 k l0 (l0.length:Int) 0
set_option maxHeartbeats 8000000 in
set_option maxRecDepth 100000 in
theorem z5_.calls (k:Nat) (A0:Option Addr) (c0:Nat) (l0:List Int)  (r:Int) (w:World) (Ai:Kd.C (Kd.int .i64) w A0 l0.length l0) (Aj:l0.length≤c0) (h:z5_.f k l0=some r) :
  Calls Tryz.prog 77 #[.slice A0 l0.length c0,.func (.func 69) #[] #[]] w fun e w'=>e=.returned (.int .i64 r)∧Drawn0 w w':=by
 have Ap:=y0.mk Ai
 have At:=y0.mk Aj
 clear Ai Aj
 have H:(z5_.l0 k l0 (l0.length:Int) 0)=some r:=h
 clear h
 have H':=y0.mk H
 clear H
 go_enter Tryz.func77,Tryz.ntmps77
 go_wp2
 go_loopg [8] k (fun kq v8 w'=>∃(Aa:Int),v8=.int .i64 Aa∧y0 (z5_.l0 kq l0 (l0.length:Int) Aa=some r)∧y0 (kq≤k)∧Drawn0 w w')
 case atStart=>exact⟨(0),qy2,H',⟨Nat.le_refl _⟩,by repeat(first|exact Drawn0.refl _|apply Drawn0.step)⟩
 case round =>
  clear H'
  obtain⟨Aa,rfl,HA,Ak,⟨m1,rfl⟩⟩:=hrel
  cases gk with
  | zero=>exact absurd HA.out (by simp [z5_.l0])
  | succ k1 =>
   have H:=HA.out
   clear HA
   simp only [z5_.l0]at H
   by_cases c3:Aa < (l0.length:Int)
   ·rw [if_pos c3]at H
    have Af:=decide_eq_true c3
    clear c3
    obtain⟨c4,H⟩:=qo H
    have Ar:decide (0≤Aa)=true:=decide_eq_true c4
    clear c4
    obtain⟨c5,H⟩:=qo H
    have As:decide (Aa < (l0.length:Int))=true:=decide_eq_true c5
    clear c5
    obtain⟨Ag,A6,H⟩:=qB H
    have Ab:0≤(Aa:Int):=of_decide_eq_true qy0
    have Ac:Aa < (l0.length:Int):=of_decide_eq_true qy0
    obtain⟨Am,Ah,Ad⟩:=Kd.at_int Ap.out Aa Ab Ac
    cases Ah
    replace Ab:=eq_true Ab
    replace Ac:=eq_true Ac
    by_cases c7:Ag=true
    ·subst c7
     replace H:=qT H
     obtain rfl:=Option.some.inj H
     go_wp2_with (first|(go_at_call 69;(with_reducible refine(impl_isFormed_1.calls (rd l0 Aa) true _ A6.out).mono ?_);rintro e w' ⟨rfl,⟨nd,rfl⟩⟩))
     go_ret
     exact qf2
    ·replace c7:=Bool.eq_false_iff.mpr c7
     subst c7
     replace H:=qF H
     have H':=y0.mk H
     clear H
     go_wp2_with (first|(go_at_call 69;(with_reducible refine(impl_isFormed_1.calls (rd l0 Aa) false _ A6.out).mono ?_);rintro e w' ⟨rfl,⟨nd,rfl⟩⟩))
     go_roundg k1
     case measure=>have:=Ak.out;omega
     exact⟨(wrap64 (Aa + 1)),qy2,H',⟨by have:=Ak.out;omega⟩,by repeat(first|exact Drawn0.refl _|apply Drawn0.step)⟩
   ·rw [if_neg c3]at H
    have Af:=decide_eq_false c3
    clear c3
    obtain rfl:=Option.some.inj H
    go_wp2
    go_ret
    exact qf2
def slices_ContainsFunc_int_int_impl_isFormed_1.f (k:Nat) (l0:List Int) :Option (Bool):=(z5_.f k l0).bind fun t353=>(some (decide (t353≥0)))
set_option maxHeartbeats 8000000 in
set_option maxRecDepth 100000 in
theorem slices_ContainsFunc_int_int_impl_isFormed_1.calls (k:Nat) (A0:Option Addr) (c0:Nat) (l0:List Int)  (r:Bool) (w:World) (hr0:Kd.C (Kd.int .i64) w A0 l0.length l0) (hc0:l0.length≤c0) (h:slices_ContainsFunc_int_int_impl_isFormed_1.f k l0=some r) :
  Calls Tryz.prog 61 #[.slice A0 l0.length c0,.func (.func 69) #[] #[]] w fun e w'=>e=.returned (.bool r)∧Drawn0 w w':=by
 have HR0:=y0.mk hr0
 have HC0:=y0.mk hc0
 clear hr0 hc0
 have H:((z5_.f k l0).bind fun t353=>(some (decide (t353≥0))))=some r:=h
 clear h
 obtain⟨t353,A3,H⟩:=qB H
 obtain rfl:=Option.some.inj H
 go_enter Tryz.func61,Tryz.ntmps61
 go_wp2_with (first|((with_reducible refine y15 (f:=77) rfl ?_);refine y17 (some 7) rfl rfl Tryz.func77 (by kernel_rfl) rfl #[.slice A0 l0.length c0,.func (.func 69) #[] #[]] rfl qy1 ?_;(with_reducible refine(z5_.calls k _ _ l0  t353 _ (qc HR0.out) HC0.out A3.out).mono ?_);rintro e w' ⟨rfl,⟨nd,rfl⟩⟩;refine⟨_,rfl, ?_⟩))
 go_ret
 exact qf2
end Go.Proofs.YtkdabljlfbmpdaaGreat.Pb
end
section
namespace Go.Proofs.YtkdabljlfbmpdaaGreat.Pb
open Go.RowKit Go.Proofs.YtkdabljlfbmpdaaGreatW.PrintWords Go.Proofs.YtkdabljlfbmpdaaGreatW.PrintLast Go.Proofs.YtkdabljlfbmpdaaGreatW.PrintMore
attribute [local go_sem] max2_int min2_int max_two min_two max_three min_three max_four min_four   -- for this text's walks alone
set_option linter.unusedVariables false
set_option linter.unusedSimpArgs false
mutual
def z4_.l0:Nat→List Int→List (S48)→Int→Int→List (S48)→Int→ByteArray→List Int→List (S33)→Option (Bool)
 | 0,_,_,_,_,_,_,_,_,_=>none
 | k + 1,x3,x17,x18,x19,x355000,x355001,x355002,x355003,x355004=>if x19 < x18 then(if 0≤x19 then(if x19 < (x17.length:Int)then(z4_.l1 k x3 x19 x17 x18 x19 ((y20 x17 x19).f2) (((y20 x17 x19).f2).length:Int) 0 x355000 x355001 x355002 x355003 x355004 ((y20 x17 x19).f0) ((y20 x17 x19).f1) ((y20 x17 x19).f2))else(none))else(none))else((impl_Rule_lits.f x355000 x355001 x355002 x355003 x355004).bind fun t368=>(z4_.l2 k x3 t368 (t368.length:Int) 0 x355000 x355001 x355002 x355003 x355004))
def z4_.l1:Nat→List Int→Int→List (S48)→Int→Int→List Int→Int→Int→List (S48)→Int→ByteArray→List Int→List (S33)→Int→ByteArray→List Int→Option (Bool)
 | 0,_,_,_,_,_,_,_,_,_,_,_,_,_,_,_,_=>none
 | k + 1,x3,x4,x17,x18,x19,x25,x26,x27,x355000,x355001,x355002,x355003,x355004,x360000,x360001,x360002=>if x27 < x26 then(if 0≤x27 then(if x27 < (x25.length:Int)then((impl_in.f (rd x25 x27) 0 (wrap64 (x4 - 1))).bind fun t361=>(if t361=true then(if 0≤(rd x25 x27)then(if(rd x25 x27) < (x3.length:Int)then(z4_.l1 k (x3.set ((rd x25 x27):Int).toNat (wrap64 ((rd x3 (rd x25 x27)) + 1))) x4 x17 x18 x19 x25 x26 (wrap64 (x27 + 1)) x355000 x355001 x355002 x355003 x355004 x360000 x360001 x360002)else(none))else(none))else(some false)))else(none))else(none))else((impl_in.f x360000 1 7).bind fun t364=>(if t364=true then((impl_isSum.f x360000).bind fun t365=>(if t365=true then(if(x360002.length:Int)=2 then((impl_in.f x360000 1 3).bind fun t366=>(if t366=true then(if(x360002.length:Int) > 0 then(some false)else(z4_.l0 k x3 x17 x18 (wrap64 (x19 + 1)) x355000 x355001 x355002 x355003 x355004))else(z4_.l0 k x3 x17 x18 (wrap64 (x19 + 1)) x355000 x355001 x355002 x355003 x355004)))else(some false))else((impl_in.f x360000 1 3).bind fun t367=>(if t367=true then(if(x360002.length:Int) > 0 then(some false)else(z4_.l0 k x3 x17 x18 (wrap64 (x19 + 1)) x355000 x355001 x355002 x355003 x355004))else(z4_.l0 k x3 x17 x18 (wrap64 (x19 + 1)) x355000 x355001 x355002 x355003 x355004)))))else(some false)))
def z4_.l2:Nat→List Int→List (S33)→Int→Int→List (S48)→Int→ByteArray→List Int→List (S33)→Option (Bool)
 | 0,_,_,_,_,_,_,_,_,_=>none
 | k + 1,x3,x71,x72,x73,x355000,x355001,x355002,x355003,x355004=>if x73 < x72 then(if 0≤x73 then(if x73 < (x71.length:Int)then(if x73=0 then(if((y19 x71 x73).f0)=1 then((impl_in.f ((y19 x71 x73).f0) 1 3).bind fun t374=>(if t374=true then(if((y19 x71 x73).f0)=3 then(z4_.j3 k x3 x71 x72 x73 ((((y19 x71 x73).f2).length:Int) != 2) x355000 x355001 x355002 x355003 x355004 ((y19 x71 x73).f0) ((y19 x71 x73).f1) ((y19 x71 x73).f2))else(z4_.j3 k x3 x71 x72 x73 false x355000 x355001 x355002 x355003 x355004 ((y19 x71 x73).f0) ((y19 x71 x73).f1) ((y19 x71 x73).f2)))else(z4_.j3 k x3 x71 x72 x73 true x355000 x355001 x355002 x355003 x355004 ((y19 x71 x73).f0) ((y19 x71 x73).f1) ((y19 x71 x73).f2))))else(z4_.j3 k x3 x71 x72 x73 true x355000 x355001 x355002 x355003 x355004 ((y19 x71 x73).f0) ((y19 x71 x73).f1) ((y19 x71 x73).f2)))else((impl_in.f ((y19 x71 x73).f0) 1 3).bind fun t375=>(if t375=true then(if((y19 x71 x73).f0)=3 then(z4_.j3 k x3 x71 x72 x73 ((((y19 x71 x73).f2).length:Int) != 2) x355000 x355001 x355002 x355003 x355004 ((y19 x71 x73).f0) ((y19 x71 x73).f1) ((y19 x71 x73).f2))else(z4_.j3 k x3 x71 x72 x73 false x355000 x355001 x355002 x355003 x355004 ((y19 x71 x73).f0) ((y19 x71 x73).f1) ((y19 x71 x73).f2)))else(z4_.j3 k x3 x71 x72 x73 true x355000 x355001 x355002 x355003 x355004 ((y19 x71 x73).f0) ((y19 x71 x73).f1) ((y19 x71 x73).f2)))))else(none))else(none))else(if(x355000.length:Int)≤60 then((slices_ContainsFunc_int_int_impl_isFormed_1.f k x3).bind fun t371=>(some (!t371)))else(some false))
def z4_.j3:Nat→List Int→List (S33)→Int→Int→Bool→List (S48)→Int→ByteArray→List Int→List (S33)→Int→ByteArray→List Int→Option (Bool)
 | 0,_,_,_,_,_,_,_,_,_,_,_,_,_=>none
 | k + 1,x3,x71,x72,x73,x101,x355000,x355001,x355002,x355003,x355004,x374000,x374001,x374002=>if x101=true then(some false)else(z4_.l3 k x3 x71 x72 x73 x374002 (x374002.length:Int) 0 x355000 x355001 x355002 x355003 x355004)
def z4_.l3:Nat→List Int→List (S33)→Int→Int→List Int→Int→Int→List (S48)→Int→ByteArray→List Int→List (S33)→Option (Bool)
 | 0,_,_,_,_,_,_,_,_,_,_,_,_=>none
 | k + 1,x3,x71,x72,x73,x103,x104,x105,x355000,x355001,x355002,x355003,x355004=>if x105 < x104 then(if 0≤x105 then(if x105 < (x103.length:Int)then((impl_in.f (rd x103 x105) 0 (wrap64 ((x355000.length:Int) - 1))).bind fun t377=>(if t377=true then(if 0≤(rd x103 x105)then(if(rd x103 x105) < (x3.length:Int)then(z4_.l3 k (x3.set ((rd x103 x105):Int).toNat (wrap64 ((rd x3 (rd x103 x105)) + 1))) x71 x72 x73 x103 x104 (wrap64 (x105 + 1)) x355000 x355001 x355002 x355003 x355004)else(none))else(none))else(some false)))else(none))else(none))else(z4_.l2 k x3 x71 x72 (wrap64 (x73 + 1)) x355000 x355001 x355002 x355003 x355004)
end
def z4_.f (k:Nat) (l0_0:List (S48)) (a0_1:Int) (a0_2:ByteArray) (l0_3:List Int) (l0_4:List (S33)):Option (Bool):=if 0≤(l0_0.length:Int)then(if((l0_0.length:Int):Int).toNat≤35184372088832 then(z4_.l0 k (List.replicate ((l0_0.length:Int):Int).toNat 0) l0_0 (l0_0.length:Int) 0 l0_0 a0_1 a0_2 l0_3 l0_4)else(none))else(none)
set_option maxHeartbeats 8000000 in
set_option maxRecDepth 100000 in
theorem z4_.calls (k:Nat) (Bz:Option Addr) (Bl:Nat) (Af:List (S48)) (Bf:Int) (Bg:ByteArray) (Bm:Option Addr) (Bn:Nat) (Bb:List Int) (Bo:Option Addr) (Bp:Nat) (Bc:List (S33)) (r:Bool) (w:World) (Fa:Kd.C k48 w Bz Af.length Af) (Fb:Af.length≤Bl) (Fc:Kd.C (Kd.int .i64) w Bm Bb.length Bb) (Fd:Bb.length≤Bn) (Fe:Kd.C k33 w Bo Bc.length Bc) (Ff:Bc.length≤Bp) (h:z4_.f k Af Bf Bg Bb Bc=some r) :
  Calls Tryz.prog 55 #[.agg #[.slice Bz Af.length Bl,.int .i64 Bf,.string Bg,.slice Bm Bb.length Bn,.slice Bo Bc.length Bp]] w fun e w'=>e=.returned (.bool r)∧Below w.heap.size w w':=by
 have Tf:=Tryz.underlying36
 have Tg:=Tryz.underlying48
 have Th:=Tryz.underlying33
 have Fg:=y0.mk Fa
 have Hm:=y0.mk Fb
 clear Fa Fb
 have Hn:=y0.mk Fc
 have Ho:=y0.mk Fd
 clear Fc Fd
 have Hp:=y0.mk Fe
 have Hq:=y0.mk Ff
 clear Fe Ff
 have HB:=y0.mk (Below.refl w.heap.size w)
 have H:(if 0≤(Af.length:Int)then(if((Af.length:Int):Int).toNat≤35184372088832 then(z4_.l0 k (List.replicate ((Af.length:Int):Int).toNat 0) Af (Af.length:Int) 0 Af Bf Bg Bb Bc)else(none))else(none))=some r:=h
 clear h
 obtain⟨c2,H⟩:=qo H
 have Oi:=eq_true c2
 have Oj:=decide_eq_true c2
 clear c2
 obtain⟨c3,H⟩:=qo H
 have Ok:=eq_true c3
 have Ol:=decide_eq_true c3
 clear c3
 obtain⟨Hr,Cf⟩:∃ y_:List Int,y_=(List.replicate ((Af.length:Int):Int).toNat 0):=⟨_,rfl⟩
 replace H:(z4_.l0 k Hr Af (Af.length:Int) 0 Af Bf Bg Bb Bc)=some r:=by first|(rw [Cf];with_reducible exact H)|(have H2_:=(Option.bind_some _ _).symm.trans H;rw [Cf];with_reducible exact H2_)|(have H2_:=(Option.bind_some _ _).symm.trans H;with_reducible exact H2_)|with_reducible exact H|(rw [Cf];exact H)|exact H
 have Fh:=y0.mk Cf
 clear Cf
 have H':=y0.mk H
 clear H
 go_enter Tryz.func55,Tryz.ntmps55
 go_wp2_with (first|((with_reducible refine y16 (N:=1) rfl ?_);(try(refine gate_guard (by rfl) ?_;dsimp only));refine qe 1 #[.slice Bz Af.length Bl,.int .i64 Bf,.string Bg,.slice Bm Bb.length Bn,.slice Bo Bc.length Bp] 36 ?_;intro Az hg w4 hbox hb;have Ah:=y0.mk (hbox);have Fi:=y0.mk (qg (w:=w) hg);have Qg:=y0.mk (qg (w:=w) hg);replace HB:=y0.mk (y5 qb hb);clear hb hbox hg;obtain⟨Fo,Fp,Fq,Fr,Fs,Ft,Fu,Fv,Fx,Fy⟩:=qz5 Ah.out)|((with_reducible refine y16 (N:=15) rfl ?_);(try(refine gate_guard (by rfl) ?_;dsimp only));refine Kd.R_make (Kd.int .i64) _ 3 rfl (N:=15) rfl 23 _ _ rfl (Af.length:Int) rfl rfl Tryz.underlying23 (.int .i64 0) 8 info3 rfl (by decide) (by omega) 0 (ok:=fun _=>True) (okp:=fun _=>True) rfl (fun _ hk=>hk) trivial (of_decide_eq_true qy0) (Nat.le_trans (Nat.mul_le_mul_right _ (of_decide_eq_true qy0:(Af.length:Int).toNat≤35184372088832)) (by omega)) (Below.refl _ _) (Nat.le_refl _) ?_;intro Bi w6 Hs hb hg_ hnew_;clear hg_ hnew_;(first|rw [← Fh.out]at Hs|(simp only [Int.reduceToNat]at Hs;rw [← Fh.out]at Hs));have Ht:=y0.mk (Kd.R_lower Hs (y4 qb));replace Ah:=y0.mk (qK Ah.out hb);replace HB:=y0.mk (y5 qb hb);clear hb Hs;obtain⟨Fz,Ga,Gb,Gc,Gd,Ge,Gf,Gg,Gh,Gi⟩:=qz5 Ah.out))
 go_loopg [19] k (fun kq Ti w'=>∃(Di:List Int) (Ad:Int),Ti=.int .i64 Ad∧y0 (z4_.l0 kq Di Af (Af.length:Int) Ad Af Bf Bg Bb Bc=some r)∧y0 (kq≤k)∧y0 (Kd.R (Kd.int .i64) 3 w' w.heap.size (fun _=>True) Bi Di)∧y0 (w'.heap[Az]?=some (.cells #[(.slice Bz Af.length Bl),.int .i64 Bf,.string Bg,(.slice Bm Bb.length Bn),(.slice Bo Bc.length Bp)] 36 (0,0)))∧y0 (Below w.heap.size w w'))
 case atStart=>exact⟨(Hr),(0),qy2,H',⟨Nat.le_refl _⟩,⟨qR Ht.out⟩,⟨qk Ah.out⟩,⟨qb⟩⟩
 case round =>
  clear H'
  (try clear Oi Oj Ok Ol Fo Fp Fq Fr Fs Fz Ga Gb Gc Gd Ft Fu Fv Fx Fy Ge Gf Gg Gh Gi)
  obtain⟨Di,Ad,rfl,HA,Ca,Am,Ah,HB⟩:=hrel
  cases gk with
  | zero=>exact absurd HA.out (by simp [z4_.l0])
  | succ k1 =>
   have H:=HA.out
   clear HA
   simp only [z4_.l0]at H
   by_cases c9:Ad < (Af.length:Int)
   ·as_aux_lemma =>
    rw [if_pos c9]at H
    have Gj:=decide_eq_true c9
    clear c9
    obtain⟨Qh,H⟩:=qo H
    have Hu:decide (0≤Ad)=true:=decide_eq_true Qh
    clear Qh
    obtain⟨Qi,H⟩:=qo H
    have Hv:decide (Ad < (Af.length:Int))=true:=decide_eq_true Qi
    clear Qi
    have H':=y0.mk H
    clear H
    have Dp:0≤(Ad:Int):=of_decide_eq_true qy0
    have Dq:Ad < (Af.length:Int):=of_decide_eq_true qy0
    obtain⟨Fj,Dj,Ck,Om,Bq,Br,Bs,Cq,Cr⟩:=at_T48 Fg.out Ad Dp Dq
    cases Om
    replace Bq:=(HB.out.cell (World.block_lt_of_cell? w _ Bq)).trans Bq
    replace Br:=(HB.out.cell (World.block_lt_of_cell? w _ Br)).trans Br
    replace Bs:=(HB.out.cell (World.block_lt_of_cell? w _ Bs)).trans Bs
    have Cs:=y0.mk Cr
    have Kg:=y0.mk Cq
    clear Cr Cq
    replace Dp:=eq_true Dp
    replace Dq:=eq_true Dq
    go_wp2_with (first|((with_reducible refine y16 (N:=5) rfl ?_);(try(refine gate_guard (by rfl) ?_;dsimp only));refine qe 5 #[.int .i64 0,.string (⟨#[]⟩:ByteArray),.slice none 0 0] 48 ?_;intro Cg hg Tv hbox hb;replace Am:=y0.mk (Kd.R_below (qR Am.out) hb);have Ba:=y0.mk (hbox);have Qj:=y0.mk (qg (w:=w) hg);have Qk:=y0.mk (qg (w:=w) hg);replace HB:=y0.mk (y5 qb hb);have As:=y0.mk (qn Ah.out hg);have Av:=y0.mk (qm Ah.out hg);replace Ah:=y0.mk (qK Ah.out hb);clear hb hbox hg;have Ql:=Av.out;have Qm:=As.out;obtain⟨Dr,Ds,Dt,Du,Dw,Dx⟩:=qz3 Ba.out))
    go_loopg [27] k1 (fun kq Tj w'=>∃(Bd:List Int) (Ap:Int),Tj=.int .i64 Ap∧y0 (z4_.l1 kq Bd Ad Af (Af.length:Int) Ad ((y20 Af Ad).f2) (((y20 Af Ad).f2).length:Int) Ap Af Bf Bg Bb Bc ((y20 Af Ad).f0) ((y20 Af Ad).f1) ((y20 Af Ad).f2)=some r)∧y0 (kq≤k1)∧y0 (Kd.R (Kd.int .i64) 3 w' w.heap.size (fun _=>True) Bi Bd)∧y0 (w'.heap[Az]?=some (.cells #[(.slice (some Fj) Af.length Bl),.int .i64 Bf,.string Bg,(.slice Bm Bb.length Bn),(.slice Bo Bc.length Bp)] 36 (0,0)))∧y0 (w'.heap[Cg]?=some (.cells #[.int .i64 ((y20 Af Ad).f0),.string ((y20 Af Ad).f1),(.slice Dj ((y20 Af Ad).f2).length Ck)] 48 (0,0)))∧y0 (Below w.heap.size w w'))
    case atStart=>exact⟨(Di),(0),qy2,H',⟨Nat.le_refl _⟩,⟨qR (Kd.R_mono (Kd.R_far (p:=⟨Cg,2,none⟩) (Kd.R_far (p:=⟨Cg,1,none⟩) (Kd.R_far (p:=⟨Cg,0,none⟩) (Kd.R_types Am.out Ba.out (by decide)) (fun _ hk=>hk.2) (.int .i64 ((y20 Af Ad).f0))) (fun _ hk=>hk.2) (.string ((y20 Af Ad).f1))) (fun _ hk=>hk.2) (.slice Dj ((y20 Af Ad).f2).length Ck)) (fun _ hk=>trivial))⟩,⟨by(with_reducible repeat(first|refine y10 ?_ _|refine y9 ?_|refine y6 ?_ _));refine y11 ?_ As.out _;(with_reducible repeat(first|refine y10 ?_ _|refine y9 ?_|refine y6 ?_ _));refine y11 ?_ As.out _;(with_reducible repeat(first|refine y10 ?_ _|refine y9 ?_|refine y6 ?_ _));refine y11 ?_ As.out _;(with_reducible repeat(first|refine y10 ?_ _|refine y9 ?_|refine y6 ?_ _));exact Ah.out⟩,⟨by(with_reducible repeat(first|refine y10 ?_ _|refine y9 ?_|refine y6 ?_ _));refine blk_put (cs:=#[.int .i64 ((y20 Af Ad).f0),.string ((y20 Af Ad).f1),.slice none 0 0]) ?_ 2 _ rfl;(with_reducible repeat(first|refine y10 ?_ _|refine y9 ?_|refine y6 ?_ _));refine blk_put (cs:=#[.int .i64 ((y20 Af Ad).f0),.string (⟨#[]⟩:ByteArray),.slice none 0 0]) ?_ 1 _ rfl;(with_reducible repeat(first|refine y10 ?_ _|refine y9 ?_|refine y6 ?_ _));refine blk_put (cs:=#[.int .i64 0,.string (⟨#[]⟩:ByteArray),.slice none 0 0]) ?_ 0 _ rfl;(with_reducible repeat(first|refine y10 ?_ _|refine y9 ?_|refine y6 ?_ _));exact Ba.out⟩,⟨qb⟩⟩
    case round =>
     clear H'
     (try clear Gj Hu Hv Dr Ds Dt Du Dw Dx Bq Br Bs Dp Dq)
     obtain⟨Bd,Ap,rfl,HA,Bx,Am,Ah,Ba,HB⟩:=hrel
     cases gk with
     | zero=>exact absurd HA.out (by simp [z4_.l1])
     | succ k2 =>
      have H:=HA.out
      clear HA
      simp only [z4_.l1]at H
      by_cases Hh:Ap < (((y20 Af Ad).f2).length:Int)
      ·as_aux_lemma =>
       rw [if_pos Hh]at H
       have Hw:=decide_eq_true Hh
       clear Hh
       obtain⟨Qn,H⟩:=qo H
       have Qo:decide (0≤Ap)=true:=decide_eq_true Qn
       clear Qn
       obtain⟨Qp,H⟩:=qo H
       have Qq:decide (Ap < (((y20 Af Ad).f2).length:Int))=true:=decide_eq_true Qp
       clear Qp
       obtain⟨On,Qr,H⟩:=qB H
       by_cases Kh:On=true
       ·subst Kh
        replace H:=qT H
        obtain⟨Qs,H⟩:=qo H
        have Qt:decide (0≤(rd ((y20 Af Ad).f2) Ap))=true:=decide_eq_true Qs
        clear Qs
        obtain⟨Qu,H⟩:=qo H
        have Qv:decide ((rd ((y20 Af Ad).f2) Ap) < (Bd.length:Int))=true:=decide_eq_true Qu
        clear Qu
        obtain⟨Gk,Ch⟩:∃ y_:List Int,y_=(Bd.set ((rd ((y20 Af Ad).f2) Ap):Int).toNat (wrap64 ((rd Bd (rd ((y20 Af Ad).f2) Ap)) + 1))):=⟨_,rfl⟩
        replace H:(z4_.l1 k2 Gk Ad Af (Af.length:Int) Ad ((y20 Af Ad).f2) (((y20 Af Ad).f2).length:Int) (wrap64 (Ap + 1)) Af Bf Bg Bb Bc ((y20 Af Ad).f0) ((y20 Af Ad).f1) ((y20 Af Ad).f2))=some r:=by first|(rw [Ch];with_reducible exact H)|(have H2_:=(Option.bind_some _ _).symm.trans H;rw [Ch];with_reducible exact H2_)|(have H2_:=(Option.bind_some _ _).symm.trans H;with_reducible exact H2_)|with_reducible exact H|(rw [Ch];exact H)|exact H
        have Hx:=y0.mk Ch
        clear Ch
        have H':=y0.mk H
        clear H
        have Cl:0≤(Ap:Int):=of_decide_eq_true qy0
        have Cm:Ap < (((y20 Af Ad).f2).length:Int):=of_decide_eq_true qy0
        obtain⟨Fk,Gl,Be⟩:=Kd.at_int Cs.out Ap Cl Cm
        cases Gl
        replace Be:=(HB.out.cell (World.block_lt_of_cell? w _ Be)).trans Be
        replace Cl:=eq_true Cl
        replace Cm:=eq_true Cm
        go_wp2_with (first|((with_reducible refine y15 (f:=66) rfl ?_);refine y17 (some 34) rfl rfl Tryz.func66 (by kernel_rfl) rfl #[.int .i64 (rd ((y20 Af Ad).f2) Ap),.int .i64 0,.int .i64 (wrap64 (Ad - 1))] rfl qy1 ?_;(with_reducible refine(impl_in.calls (rd ((y20 Af Ad).f2) Ap) 0 (wrap64 (Ad - 1)) true _ Qr.out).mono ?_);rintro e w' ⟨rfl,⟨nd,rfl⟩⟩;refine⟨_,rfl, ?_⟩;(try(rw [drewN_self wr];have e1_:∀(n_:Nat) (a_:Addr),World.cell? wr a_=World.cell? (World.drewN wr n_) a_:=fun _ _=>rfl;have e2_:∀(n_:Nat) (a_:Addr),World.frozen? wr a_=World.frozen? (World.drewN wr n_) a_:=fun _ _=>rfl;generalize hq_:World.drewN wr _=wr;have e3_:=(fun a_=>(e1_ _ a_).trans (congrArg (fun w_=>World.cell? w_ a_) hq_));have e4_:=(fun a_=>(e2_ _ a_).trans (congrArg (fun w_=>World.frozen? w_ a_) hq_));clear e1_ e2_;(try replace Be:=(e3_ _).symm.trans Be);skip;clear e3_ e4_;have n0_:y0 (Kd.R (Kd.int .i64) 3 wr w.heap.size (fun _=>True) Bi Bd):=⟨by rw [← hq_];exact(qR Am.out)⟩;have n1_:y0 (wr.heap[Az]?=some (.cells #[.slice (some Fj) Af.length Bl,.int .i64 Bf,.string Bg,.slice Bm Bb.length Bn,.slice Bo Bc.length Bp] 36 (0,0))):=⟨by rw [← hq_];exact(qk Ah.out)⟩;have n2_:y0 (wr.heap[Cg]?=some (.cells #[.int .i64 ((y20 Af Ad).f0),.string ((y20 Af Ad).f1),.slice (some Fk) ((y20 Af Ad).f2).length Ck] 48 (0,0))):=⟨by rw [← hq_];exact(qk Ba.out)⟩;have n3_:y0 (Below w.heap.size w wr):=⟨by rw [← hq_];exact qb⟩;clear Am Ah Ba HB hq_;have Am:=n0_;have Ah:=n1_;have Ba:=n2_;have HB:=n3_;clear n0_ n1_ n2_ n3_));obtain⟨Tk,Oo,Oq⟩:=Kd.R_slice Am.out;subst Oq;have Gm:0≤((rd ((y20 Af Ad).f2) Ap):Int):=of_decide_eq_true qy0;have Gn:(rd ((y20 Af Ad).f2) Ap) < (Bd.length:Int):=of_decide_eq_true qy0;obtain⟨Qw,Ot,Dy⟩:=Kd.at_int (Kd.R_reads' Am.out).2.2 (rd ((y20 Af Ad).f2) Ap) Gm Gn;cases Ot;replace Gm:=eq_true Gm;replace Gn:=eq_true Gn;have Ou:0≤((rd ((y20 Af Ad).f2) Ap):Int):=of_decide_eq_true qy0;have Ov:((rd ((y20 Af Ad).f2) Ap):Int) < ((Bd.length:Int):Int):=of_decide_eq_true qy0;obtain⟨Gp,Tl,Hy,Hz,Ow,Tm,Ia⟩:=Kd.R_form Am.out (by omega);(first|cases Hy|(injection Hy with ea_ en_ ec_;(first|subst ea_|(injection ea_ with ea_;subst ea_));subst ec_;clear en_));have Ox:=y0.mk Hz;have Tn:=y0.mk Ia;clear Hz Ow Ia;(first|simp only [add_plain]at Dy|skip);obtain⟨Oy,Oz⟩:=Kd.R_celln 0 Am.out ((rd ((y20 Af Ad).f2) Ap):Int) Ou Ov;replace Ou:=eq_true Ou;replace Ov:=eq_true Ov;obtain⟨hy24_,hz24_⟩:=Kd.R_celln 0 Am.out ((rd ((y20 Af Ad).f2) Ap):Int) (of_decide_eq_true qy0) (of_decide_eq_true qy0);have Gq:=Kd.R_putg Am.out ((rd ((y20 Af Ad).f2) Ap):Int) (wrap64 ((rd Bd (rd ((y20 Af Ad).f2) Ap)) + 1)))|((with_reducible refine gate_store (t:=3) (p:=41) rfl ?_);refine store_event (t:=3) (p:=41) (v:=?vo_w25) (w1:=(wr.setCell ⟨Gp,((rd ((y20 Af Ad).f2) Ap):Int).toNat,none⟩ (.int .i64 (wrap64 ((rd Bd (rd ((y20 Af Ad).f2) Ap)) + 1))))) ?hg ?ho ?hn ?hr ?_;(case ho=>rfl);(case hg=>rfl);(case hn=>rfl);(case hr=>first|(go_simp;done)|(go_simp;rfl));intro Pa hw;have hg:wr.grownBy Pa (some Gp):=(by rw [hw];exact Gq.2);have hp_:Kd.R (Kd.int .i64) 3 Pa w.heap.size (fun _=>True) (.slice (some ⟨Gp,0,none⟩) Bd.length Oo) Gk:=(by rw [hw,Hx.out];exact Gq.1);clear Gq;replace Ah:=y0.mk (blk_grown (qk Ah.out) hg (Kd.R_ne Am.out Ah.out (by decide)));replace Ba:=y0.mk (blk_grown (qk Ba.out) hg (Kd.R_ne Am.out Ba.out (by decide)));replace Am:=y0.mk (hp_);replace HB:=y0.mk ((by rw [hw];exact y3 (HB.out) Ox.out:Below w.heap.size w Pa));clear hg hw hp_))
        go_roundg k2
        case measure=>have:=Ca.out;have:=Bx.out;omega
        exact⟨(Gk),(wrap64 (Ap + 1)),qy2,H',⟨by have:=Ca.out;have:=Bx.out;omega⟩,⟨qR Am.out⟩,⟨qk Ah.out⟩,⟨qk Ba.out⟩,⟨qb⟩⟩
       ·replace Kh:=Bool.eq_false_iff.mpr Kh
        subst Kh
        replace H:=qF H
        obtain rfl:=Option.some.inj H
        have Cl:0≤(Ap:Int):=of_decide_eq_true qy0
        have Cm:Ap < (((y20 Af Ad).f2).length:Int):=of_decide_eq_true qy0
        obtain⟨Fk,Gl,Be⟩:=Kd.at_int Cs.out Ap Cl Cm
        cases Gl
        replace Be:=(HB.out.cell (World.block_lt_of_cell? w _ Be)).trans Be
        replace Cl:=eq_true Cl
        replace Cm:=eq_true Cm
        go_wp2_with (first|((with_reducible refine y15 (f:=66) rfl ?_);refine y17 (some 34) rfl rfl Tryz.func66 (by kernel_rfl) rfl #[.int .i64 (rd ((y20 Af Ad).f2) Ap),.int .i64 0,.int .i64 (wrap64 (Ad - 1))] rfl qy1 ?_;(with_reducible refine(impl_in.calls (rd ((y20 Af Ad).f2) Ap) 0 (wrap64 (Ad - 1)) false _ Qr.out).mono ?_);rintro e w' ⟨rfl,⟨nd,rfl⟩⟩;refine⟨_,rfl, ?_⟩))
        go_ret
        exact⟨qf,qb⟩
      ·as_aux_lemma =>
       rw [if_neg Hh]at H
       have Hw:=decide_eq_false Hh
       clear Hh
       obtain⟨Pc,Fl,H⟩:=qB H
       by_cases Ki:Pc=true
       ·subst Ki
        replace H:=qT H
        obtain⟨Pd,Gr,H⟩:=qB H
        by_cases Kj:Pd=true
        ·subst Kj
         replace H:=qT H
         by_cases Gs:(((y20 Af Ad).f2).length:Int)=2
         ·as_aux_lemma =>
          rw [if_pos Gs]at H
          have Ib:((((y20 Af Ad).f2).length:Int) == 2)=true:=beq_iff_eq.mpr Gs
          have Ic:((((y20 Af Ad).f2).length:Int) != 2)=false:=bne_eq_false_iff_eq.mpr Gs
          clear Gs
          obtain⟨Pe,Pf,H⟩:=qB H
          by_cases Kk:Pe=true
          ·subst Kk
           replace H:=qT H
           by_cases Hi:(((y20 Af Ad).f2).length:Int) > 0
           ·as_aux_lemma =>
            rw [if_pos Hi]at H
            have Id:decide (0 < (((y20 Af Ad).f2).length:Int))=true:=decide_eq_true Hi
            have Ie:decide (0 < ((y20 Af Ad).f2).length)=true:=decide_eq_true (by omega)
            clear Hi
            obtain rfl:=Option.some.inj H
            have Qx:=Av.out
            have Qy:=As.out
            obtain⟨Kl,Km,Kn,Ko,Kp,Kq⟩:=qz3 Ba.out
            go_wp2_with (first|((with_reducible refine y15 (f:=66) rfl ?_);refine y17 (some 45) rfl rfl Tryz.func66 (by kernel_rfl) rfl #[.int .i64 ((y20 Af Ad).f0),.int .i64 1,.int .i64 7] rfl qy1 ?_;(with_reducible refine(impl_in.calls ((y20 Af Ad).f0) 1 7 true _ Fl.out).mono ?_);rintro e w' ⟨rfl,⟨nd,rfl⟩⟩;refine⟨_,rfl, ?_⟩)|(go_at_call 67;(with_reducible refine(impl_isSum.calls ((y20 Af Ad).f0) true _ Gr.out).mono ?_);rintro e w' ⟨rfl,⟨nd,rfl⟩⟩)|(go_at_call 66;(with_reducible refine(impl_in.calls ((y20 Af Ad).f0) 1 3 true _ Pf.out).mono ?_);rintro e w' ⟨rfl,⟨nd,rfl⟩⟩))
            go_ret
            exact⟨qf,qb⟩
           ·as_aux_lemma =>
            rw [if_neg Hi]at H
            have Id:decide (0 < (((y20 Af Ad).f2).length:Int))=false:=decide_eq_false Hi
            have Ie:decide (0 < ((y20 Af Ad).f2).length)=false:=decide_eq_false (by omega)
            clear Hi
            have H':=y0.mk H
            clear H
            have Qz:=Av.out
            have Ra:=As.out
            obtain⟨Kr,Ks,Kt,Ku,Kv,Kw⟩:=qz3 Ba.out
            go_wp2_with (first|((with_reducible refine y15 (f:=66) rfl ?_);refine y17 (some 45) rfl rfl Tryz.func66 (by kernel_rfl) rfl #[.int .i64 ((y20 Af Ad).f0),.int .i64 1,.int .i64 7] rfl qy1 ?_;(with_reducible refine(impl_in.calls ((y20 Af Ad).f0) 1 7 true _ Fl.out).mono ?_);rintro e w' ⟨rfl,⟨nd,rfl⟩⟩;refine⟨_,rfl, ?_⟩)|(go_at_call 67;(with_reducible refine(impl_isSum.calls ((y20 Af Ad).f0) true _ Gr.out).mono ?_);rintro e w' ⟨rfl,⟨nd,rfl⟩⟩)|(go_at_call 66;(with_reducible refine(impl_in.calls ((y20 Af Ad).f0) 1 3 true _ Pf.out).mono ?_);rintro e w' ⟨rfl,⟨nd,rfl⟩⟩))
            go_roundg k2
            case measure=>have:=Ca.out;have:=Bx.out;omega
            exact⟨(Bd),(wrap64 (Ad + 1)),qy2,H',⟨by have:=Ca.out;have:=Bx.out;omega⟩,⟨qR Am.out⟩,⟨qk Ah.out⟩,⟨qb⟩⟩
          ·replace Kk:=Bool.eq_false_iff.mpr Kk
           subst Kk
           replace H:=qF H
           have H':=y0.mk H
           clear H
           have Rb:=Av.out
           have Rc:=As.out
           obtain⟨Kx,Ky,Kz,La,Lb,Lc⟩:=qz3 Ba.out
           go_wp2_with (first|((with_reducible refine y15 (f:=66) rfl ?_);refine y17 (some 45) rfl rfl Tryz.func66 (by kernel_rfl) rfl #[.int .i64 ((y20 Af Ad).f0),.int .i64 1,.int .i64 7] rfl qy1 ?_;(with_reducible refine(impl_in.calls ((y20 Af Ad).f0) 1 7 true _ Fl.out).mono ?_);rintro e w' ⟨rfl,⟨nd,rfl⟩⟩;refine⟨_,rfl, ?_⟩)|(go_at_call 67;(with_reducible refine(impl_isSum.calls ((y20 Af Ad).f0) true _ Gr.out).mono ?_);rintro e w' ⟨rfl,⟨nd,rfl⟩⟩)|(go_at_call 66;(with_reducible refine(impl_in.calls ((y20 Af Ad).f0) 1 3 false _ Pf.out).mono ?_);rintro e w' ⟨rfl,⟨nd,rfl⟩⟩))
           go_roundg k2
           case measure=>have:=Ca.out;have:=Bx.out;omega
           exact⟨(Bd),(wrap64 (Ad + 1)),qy2,H',⟨by have:=Ca.out;have:=Bx.out;omega⟩,⟨qR Am.out⟩,⟨qk Ah.out⟩,⟨qb⟩⟩
         ·as_aux_lemma =>
          rw [if_neg Gs]at H
          have Ib:((((y20 Af Ad).f2).length:Int) == 2)=false:=beq_eq_false_iff_ne.mpr Gs
          have Ic:((((y20 Af Ad).f2).length:Int) != 2)=true:=bne_iff_ne.mpr Gs
          obtain rfl:=Option.some.inj H
          have Rf:=Av.out
          have Rg:=As.out
          obtain⟨Ld,Le,Lf,Lg,Lh,Li⟩:=qz3 Ba.out
          go_wp2_with (first|((with_reducible refine y15 (f:=66) rfl ?_);refine y17 (some 45) rfl rfl Tryz.func66 (by kernel_rfl) rfl #[.int .i64 ((y20 Af Ad).f0),.int .i64 1,.int .i64 7] rfl qy1 ?_;(with_reducible refine(impl_in.calls ((y20 Af Ad).f0) 1 7 true _ Fl.out).mono ?_);rintro e w' ⟨rfl,⟨nd,rfl⟩⟩;refine⟨_,rfl, ?_⟩)|(go_at_call 67;(with_reducible refine(impl_isSum.calls ((y20 Af Ad).f0) true _ Gr.out).mono ?_);rintro e w' ⟨rfl,⟨nd,rfl⟩⟩))
          go_ret
          exact⟨qf,qb⟩
        ·replace Kj:=Bool.eq_false_iff.mpr Kj
         subst Kj
         replace H:=qF H
         obtain⟨Pg,Ph,H⟩:=qB H
         by_cases Lj:Pg=true
         ·subst Lj
          replace H:=qT H
          by_cases Hj:(((y20 Af Ad).f2).length:Int) > 0
          ·as_aux_lemma =>
           rw [if_pos Hj]at H
           have If:decide (0 < (((y20 Af Ad).f2).length:Int))=true:=decide_eq_true Hj
           have Ig:decide (0 < ((y20 Af Ad).f2).length)=true:=decide_eq_true (by omega)
           clear Hj
           obtain rfl:=Option.some.inj H
           have Rh:=Av.out
           have Ri:=As.out
           obtain⟨Lk,Ll,Lm,Ln,Lo,Lp⟩:=qz3 Ba.out
           go_wp2_with (first|((with_reducible refine y15 (f:=66) rfl ?_);refine y17 (some 45) rfl rfl Tryz.func66 (by kernel_rfl) rfl #[.int .i64 ((y20 Af Ad).f0),.int .i64 1,.int .i64 7] rfl qy1 ?_;(with_reducible refine(impl_in.calls ((y20 Af Ad).f0) 1 7 true _ Fl.out).mono ?_);rintro e w' ⟨rfl,⟨nd,rfl⟩⟩;refine⟨_,rfl, ?_⟩)|(go_at_call 67;(with_reducible refine(impl_isSum.calls ((y20 Af Ad).f0) false _ Gr.out).mono ?_);rintro e w' ⟨rfl,⟨nd,rfl⟩⟩)|(go_at_call 66;(with_reducible refine(impl_in.calls ((y20 Af Ad).f0) 1 3 true _ Ph.out).mono ?_);rintro e w' ⟨rfl,⟨nd,rfl⟩⟩))
           go_ret
           exact⟨qf,qb⟩
          ·as_aux_lemma =>
           rw [if_neg Hj]at H
           have If:decide (0 < (((y20 Af Ad).f2).length:Int))=false:=decide_eq_false Hj
           have Ig:decide (0 < ((y20 Af Ad).f2).length)=false:=decide_eq_false (by omega)
           clear Hj
           have H':=y0.mk H
           clear H
           have Rj:=Av.out
           have Rl:=As.out
           obtain⟨Lq,Lr,Ls,Lt,Lu,Lv⟩:=qz3 Ba.out
           go_wp2_with (first|((with_reducible refine y15 (f:=66) rfl ?_);refine y17 (some 45) rfl rfl Tryz.func66 (by kernel_rfl) rfl #[.int .i64 ((y20 Af Ad).f0),.int .i64 1,.int .i64 7] rfl qy1 ?_;(with_reducible refine(impl_in.calls ((y20 Af Ad).f0) 1 7 true _ Fl.out).mono ?_);rintro e w' ⟨rfl,⟨nd,rfl⟩⟩;refine⟨_,rfl, ?_⟩)|(go_at_call 67;(with_reducible refine(impl_isSum.calls ((y20 Af Ad).f0) false _ Gr.out).mono ?_);rintro e w' ⟨rfl,⟨nd,rfl⟩⟩)|(go_at_call 66;(with_reducible refine(impl_in.calls ((y20 Af Ad).f0) 1 3 true _ Ph.out).mono ?_);rintro e w' ⟨rfl,⟨nd,rfl⟩⟩))
           go_roundg k2
           case measure=>have:=Ca.out;have:=Bx.out;omega
           exact⟨(Bd),(wrap64 (Ad + 1)),qy2,H',⟨by have:=Ca.out;have:=Bx.out;omega⟩,⟨qR Am.out⟩,⟨qk Ah.out⟩,⟨qb⟩⟩
         ·replace Lj:=Bool.eq_false_iff.mpr Lj
          subst Lj
          replace H:=qF H
          have H':=y0.mk H
          clear H
          have Rn:=Av.out
          have Ro:=As.out
          obtain⟨Lw,Lx,Ly,Lz,Ma,Mb⟩:=qz3 Ba.out
          go_wp2_with (first|((with_reducible refine y15 (f:=66) rfl ?_);refine y17 (some 45) rfl rfl Tryz.func66 (by kernel_rfl) rfl #[.int .i64 ((y20 Af Ad).f0),.int .i64 1,.int .i64 7] rfl qy1 ?_;(with_reducible refine(impl_in.calls ((y20 Af Ad).f0) 1 7 true _ Fl.out).mono ?_);rintro e w' ⟨rfl,⟨nd,rfl⟩⟩;refine⟨_,rfl, ?_⟩)|(go_at_call 67;(with_reducible refine(impl_isSum.calls ((y20 Af Ad).f0) false _ Gr.out).mono ?_);rintro e w' ⟨rfl,⟨nd,rfl⟩⟩)|(go_at_call 66;(with_reducible refine(impl_in.calls ((y20 Af Ad).f0) 1 3 false _ Ph.out).mono ?_);rintro e w' ⟨rfl,⟨nd,rfl⟩⟩))
          go_roundg k2
          case measure=>have:=Ca.out;have:=Bx.out;omega
          exact⟨(Bd),(wrap64 (Ad + 1)),qy2,H',⟨by have:=Ca.out;have:=Bx.out;omega⟩,⟨qR Am.out⟩,⟨qk Ah.out⟩,⟨qb⟩⟩
       ·replace Ki:=Bool.eq_false_iff.mpr Ki
        subst Ki
        replace H:=qF H
        obtain rfl:=Option.some.inj H
        have Rp:=Av.out
        have Rq:=As.out
        obtain⟨Mc,Md,Me,Mf,Mg,Mh⟩:=qz3 Ba.out
        go_wp2_with (first|((with_reducible refine y15 (f:=66) rfl ?_);refine y17 (some 45) rfl rfl Tryz.func66 (by kernel_rfl) rfl #[.int .i64 ((y20 Af Ad).f0),.int .i64 1,.int .i64 7] rfl qy1 ?_;(with_reducible refine(impl_in.calls ((y20 Af Ad).f0) 1 7 false _ Fl.out).mono ?_);rintro e w' ⟨rfl,⟨nd,rfl⟩⟩;refine⟨_,rfl, ?_⟩))
        go_ret
        exact⟨qf,qb⟩
   ·as_aux_lemma =>
    rw [if_neg c9]at H
    have Gj:=decide_eq_false c9
    clear c9
    obtain⟨Ab,To,H⟩:=qB H
    have H':=y0.mk H
    clear H
    obtain⟨Dz,Ea,Eb,Ec,Ed,Ee,Ef,Eg,Eh,Ei⟩:=qz5 Ah.out
    go_wp2_with (first|((with_reducible refine y15 (f:=68) rfl ?_);refine y17 (some 71) rfl rfl Tryz.func68 (by kernel_rfl) rfl #[.agg #[.slice Bz Af.length Bl,.int .i64 Bf,.string Bg,.slice Bm Bb.length Bn,.slice Bo Bc.length Bp]] rfl qy1 ?_;(with_reducible refine(impl_Rule_lits.calls _ _ Af Bf Bg (fun k_=>k_ < w.heap.size) _ _ Bb (fun k_=>k_ < w.heap.size) _ _ Bc Ab _ (qc (Kd.C_below Fg.out HB.out)) Hm.out (by exact Kd.V_mk Ho.out (Kd.F_below (Kd.C_F (Kd.heap_int .i64) Hn.out) qb)) (by exact Kd.V_mk Hq.out (Kd.F_below (Kd.C_F k33_heap Hp.out) qb)) To.out).mono ?_);rintro e Tw ⟨Tp,rfl,Rs,hb⟩;refine⟨_,rfl, ?_⟩;have Fm:=y0.mk (Kd.N_lower (Kd.N_mono (ok':=fun k_=>some k_≠(Bi:Value).ownBlock∧k_≠Az) Rs (fun k_ hk_=>⟨Or.elim hk_ (fun hs_=>Or.elim hs_ (fun hs_=>fun e_=>Nat.not_le.2 hs_ (Kd.R_base Am.out k_ e_.symm)) (fun hs_=>fun e_=>Nat.not_le.2 hs_ (Kd.R_base Am.out k_ e_.symm))) (fun hn_=>(Kd.fresh' (Kd.R_lt (qR Am.out)) k_ hn_)),Or.elim hk_ (fun hs_=>Or.elim hs_ (fun hs_=>fun e_=>Nat.not_le.2 hs_ (by rw [e_];exact Fi.out)) (fun hs_=>fun e_=>Nat.not_le.2 hs_ (by rw [e_];exact Fi.out))) (fun hn_=>(Kd.freshB (g:=Az) (o:=.cells #[.slice Bz Af.length Bl,.int .i64 Bf,.string Bg,.slice Bm Bb.length Bn,.slice Bo Bc.length Bp] 36 (0,0)) (qk Ah.out) k_ hn_))⟩)) (y4 qb));replace Am:=y0.mk (Kd.R_below (qR Am.out) hb);replace Ah:=y0.mk (qK Ah.out hb);replace HB:=y0.mk (y5 qb hb);(try clear hb);(try clear Rs);obtain⟨Pj,Bw,Pk⟩:=Kd.N_slice Fm.out;subst Pk))
    go_loopg [73] k1 (fun kq Tq w'=>∃(Bd:List Int) (Aa:Int),Tq=.int .i64 Aa∧y0 (z4_.l2 kq Bd Ab (Ab.length:Int) Aa Af Bf Bg Bb Bc=some r)∧y0 (kq≤k1)∧y0 (Kd.R (Kd.int .i64) 3 w' w.heap.size (fun _=>True) Bi Bd)∧y0 (Kd.N k33 33 w' w.heap.size (fun k_=>some k_≠(Bi:Value).ownBlock∧k_≠Az) (.slice Pj Ab.length Bw) Ab)∧y0 (w'.heap[Az]?=some (.cells #[(.slice Bz Af.length Bl),.int .i64 Bf,.string Bg,(.slice Bm Bb.length Bn),(.slice Bo Bc.length Bp)] 36 (0,0)))∧y0 (Below w.heap.size w w'))
    case atStart=>exact⟨(Di),(0),qy2,H',⟨Nat.le_refl _⟩,⟨qR Am.out⟩,⟨qN Fm.out⟩,⟨qk Ah.out⟩,⟨qb⟩⟩
    case round =>
     clear H'
     (try clear Gj Dz Ea Eb Ec Ed Ee Ef Eg Eh Ei)
     obtain⟨Bd,Aa,rfl,HA,Bx,Am,Ay,Ah,HB⟩:=hrel
     cases gk with
     | zero=>exact absurd HA.out (by simp [z4_.l2])
     | succ k2 =>
      have H:=HA.out
      clear HA
      simp only [z4_.l2]at H
      by_cases Hk:Aa < (Ab.length:Int)
      ·as_aux_lemma =>
       rw [if_pos Hk]at H
       have Fn:=decide_eq_true Hk
       clear Hk
       obtain⟨Rt,H⟩:=qo H
       have Ih:decide (0≤Aa)=true:=decide_eq_true Rt
       clear Rt
       obtain⟨Ru,H⟩:=qo H
       have Ii:decide (Aa < (Ab.length:Int))=true:=decide_eq_true Ru
       clear Ru
       have Gt:=y0.mk H
       clear H
       have Dk:0≤(Aa:Int):=of_decide_eq_true qy0
       have Dl:Aa < (Ab.length:Int):=of_decide_eq_true qy0
       obtain⟨Bk,Aj,Ai,Pm,Ej,Ek,Ct,Cu,Cv⟩:=at_T33 (Kd.N_reads' Ay.out).2.2 Aa Dk Dl
       cases Pm
       obtain⟨Rv,Gu,Gv,Dm⟩:=Kd.N_get Ay.out z33 Aa Dk (by first|exact Dl|exact of_decide_eq_true qy0|(have e_:=(Kd.N_reads' Ay.out).1;omega))
       obtain⟨Mi,Mj,rfl,Cb,Cc⟩:=k33_openF Gv
       have Bt:=Dm 2 _ rfl
       rw [add_field _ _ 2 (by omega)]at Bt
       replace Bt:=Option.some.inj (Bt.symm.trans Ct)
       injection Bt with hva_ hvn_ hvc_
       rw [hva_]at Cc
       rw [hvc_]at Cb
       have At:=y0.mk (show Kd.V (Kd.int .i64) 3 _ w.heap.size _ _ ((y19 Ab Aa).f2)from Kd.V_mk Cb Cc)
       clear hva_ hvn_ hvc_ Cc Cb
       clear Dm Gu
       have Bu:=y0.mk Cv
       have Ml:=y0.mk Cu
       clear Cv Cu
       replace Dk:=eq_true Dk
       replace Dl:=eq_true Dl
       go_upto_region 18 with(first|((with_reducible refine y16 (N:=9) rfl ?_);(try(refine gate_guard (by rfl) ?_;dsimp only));refine qe 9 #[.int .i64 0,.string (⟨#[]⟩:ByteArray),.slice none 0 0] 33 ?_;intro Ac hg Tx hbox hb;replace Am:=y0.mk (Kd.R_below (qR Am.out) hb);replace Ay:=y0.mk (Kd.N_below (Kd.N_elderB (qN Ay.out) Ac (Nat.le_of_eq hg.symm)) hb);replace At:=y0.mk (Kd.V_below (Kd.V_elderB (qV At.out) Ac (Nat.le_of_eq hg.symm)) hb);replace Bu:=y0.mk (Kd.C_below (by repeat(first|(with_reducible exact Bu.out)|(with_reducible refine Kd.C_alloc ?_ _)|(with_reducible refine Kd.C_drewN ?_ _)|(with_reducible refine Kd.C_drew ?_)|exact Bu.out)) hb);have Ar:=y0.mk (hbox);have Rw:=y0.mk (qg (w:=w) hg);have Rx:=y0.mk (qg (w:=w) hg);replace HB:=y0.mk (y5 qb hb);have Ag:=y0.mk (qn Ah.out hg);have Au:=y0.mk (qm Ah.out hg);replace Ah:=y0.mk (qK Ah.out hb);clear hb hbox hg;have Ry:=Au.out;have Rz:=Ag.out;obtain⟨El,Em,En,Eo,Ep,Eq⟩:=qz3 Ar.out))
       (try simp only [Act.put,qS_,qZ_,qC_])
       go_cut [101] (fun Pn wc=>∃(kq:Nat) (Bv:Bool),Pn=.bool Bv∧y0 (z4_.j3 kq Bd Ab (Ab.length:Int) Aa Bv Af Bf Bg Bb Bc ((y19 Ab Aa).f0) ((y19 Ab Aa).f1) ((y19 Ab Aa).f2)=some r)∧y0 (kq≤k2)∧y0 (Kd.R (Kd.int .i64) 3 wc w.heap.size (fun _=>True) Bi Bd)∧y0 (Kd.N k33 33 wc w.heap.size (fun k_=>some k_≠(Bi:Value).ownBlock∧k_≠Az∧k_≠Ac) (.slice (some Bk) Ab.length Bw) Ab)∧y0 (Kd.V (Kd.int .i64) 3 wc w.heap.size (fun k_=>some k_≠(Bi:Value).ownBlock∧some k_≠((.slice (some Bk) Ab.length Bw):Value).ownBlock∧k_≠Az∧k_≠Ac) (.slice Aj ((y19 Ab Aa).f2).length Ai) ((y19 Ab Aa).f2))∧y0 (wc.heap[Az]?=some (.cells #[(.slice Bz Af.length Bl),.int .i64 Bf,.string Bg,(.slice Bm Bb.length Bn),(.slice Bo Bc.length Bp)] 36 (0,0)))∧y0 (wc.heap[Ac]?=some (.cells #[.int .i64 ((y19 Ab Aa).f0),.string ((y19 Ab Aa).f1),(.slice Aj ((y19 Ab Aa).f2).length Ai)] 33 (0,0)))∧y0 (Kd.C (Kd.int .i64) wc Aj ((y19 Ab Aa).f2).length ((y19 Ab Aa).f2))∧y0 (Below w.heap.size w wc))
       case first =>
        have H:=Gt.out
        clear Gt
        by_cases Gw:Aa=0
        ·as_aux_lemma =>
         rw [if_pos Gw]at H
         have Ci:(Aa == 0)=true:=beq_iff_eq.mpr Gw
         have Ij:(Aa != 0)=false:=bne_eq_false_iff_eq.mpr Gw
         clear Gw
         (first|rw [Ci]|(simp only [i64_w,i32_w];rw [Ci])|skip)
         by_cases Gx:((y19 Ab Aa).f0)=1
         ·as_aux_lemma =>
          rw [if_pos Gx]at H
          have Ik:(((y19 Ab Aa).f0) == 1)=true:=beq_iff_eq.mpr Gx
          have Il:(((y19 Ab Aa).f0) != 1)=false:=bne_eq_false_iff_eq.mpr Gx
          clear Gx
          obtain⟨Po,Pp,H⟩:=qB H
          by_cases Mm:Po=true
          ·subst Mm
           replace H:=qT H
           by_cases Gy:((y19 Ab Aa).f0)=3
           ·as_aux_lemma =>
            rw [if_pos Gy]at H
            have Im:(((y19 Ab Aa).f0) == 3)=true:=beq_iff_eq.mpr Gy
            have Io:(((y19 Ab Aa).f0) != 3)=false:=bne_eq_false_iff_eq.mpr Gy
            clear Gy
            have H':=y0.mk H
            clear H
            have Sa:=Au.out
            have Sb:=Ag.out
            obtain⟨Mn,Mo,Mp,Mq,Mr,Ms⟩:=qz3 Ar.out
            go_wp2_with (first|(go_at_call 66;(with_reducible refine(impl_in.calls ((y19 Ab Aa).f0) 1 3 true _ Pp.out).mono ?_);rintro e w' ⟨rfl,⟨nd,rfl⟩⟩))
            go_meet
            exact⟨_,(((((y19 Ab Aa).f2).length:Int) != 2)),qy2,H',⟨by have:=Ca.out;have:=Bx.out;first|omega|exact Nat.le_refl _⟩,⟨qR (Kd.R_mono (Kd.R_far (p:=⟨Ac,2,none⟩) (Kd.R_far (p:=⟨Ac,1,none⟩) (Kd.R_far (p:=⟨Ac,0,none⟩) (Kd.R_types Am.out Ar.out (by decide)) (fun _ hk=>hk.2) (.int .i64 ((y19 Ab Aa).f0))) (fun _ hk=>hk.2) (.string ((y19 Ab Aa).f1))) (fun _ hk=>hk.2) (.slice Aj ((y19 Ab Aa).f2).length Ai)) (fun _ hk=>trivial))⟩,⟨qN (Kd.N_mono (Kd.N_far (p:=⟨Ac,2,none⟩) (Kd.N_far (p:=⟨Ac,1,none⟩) (Kd.N_far (p:=⟨Ac,0,none⟩) (Kd.N_mono Ay.out (fun k_ hk=>(⟨hk,hk.2⟩:_∧k_≠Ac))) (fun _ hk=>hk.2) (.int .i64 ((y19 Ab Aa).f0))) (fun _ hk=>hk.2) (.string ((y19 Ab Aa).f1))) (fun _ hk=>hk.2) (.slice Aj ((y19 Ab Aa).f2).length Ai)) (fun _ hk=>⟨hk.1.1.1,⟨hk.1.1.2,hk.1.2⟩⟩))⟩,⟨qV (Kd.V_mono (Kd.V_far (p:=⟨Ac,2,none⟩) (Kd.V_far (p:=⟨Ac,1,none⟩) (Kd.V_far (p:=⟨Ac,0,none⟩) (Kd.V_mono At.out (fun k_ hk=>(⟨hk,hk.2⟩:_∧k_≠Ac))) (fun _ hk=>hk.2) (.int .i64 ((y19 Ab Aa).f0))) (fun _ hk=>hk.2) (.string ((y19 Ab Aa).f1))) (fun _ hk=>hk.2) (.slice Aj ((y19 Ab Aa).f2).length Ai)) (fun _ hk=>⟨hk.1.1.1.1,⟨hk.1.1.2,⟨hk.1.1.1.2,hk.1.2⟩⟩⟩))⟩,⟨by(with_reducible repeat(first|refine y10 ?_ _|refine y9 ?_|refine y6 ?_ _));refine y11 ?_ Ag.out _;(with_reducible repeat(first|refine y10 ?_ _|refine y9 ?_|refine y6 ?_ _));refine y11 ?_ Ag.out _;(with_reducible repeat(first|refine y10 ?_ _|refine y9 ?_|refine y6 ?_ _));refine y11 ?_ Ag.out _;(with_reducible repeat(first|refine y10 ?_ _|refine y9 ?_|refine y6 ?_ _));exact Ah.out⟩,⟨by(with_reducible repeat(first|refine y10 ?_ _|refine y9 ?_|refine y6 ?_ _));refine blk_put (cs:=#[.int .i64 ((y19 Ab Aa).f0),.string ((y19 Ab Aa).f1),.slice none 0 0]) ?_ 2 _ rfl;(with_reducible repeat(first|refine y10 ?_ _|refine y9 ?_|refine y6 ?_ _));refine blk_put (cs:=#[.int .i64 ((y19 Ab Aa).f0),.string (⟨#[]⟩:ByteArray),.slice none 0 0]) ?_ 1 _ rfl;(with_reducible repeat(first|refine y10 ?_ _|refine y9 ?_|refine y6 ?_ _));refine blk_put (cs:=#[.int .i64 0,.string (⟨#[]⟩:ByteArray),.slice none 0 0]) ?_ 0 _ rfl;(with_reducible repeat(first|refine y10 ?_ _|refine y9 ?_|refine y6 ?_ _));exact Ar.out⟩,⟨(Kd.V_reads' (qV ((Kd.V_mono (Kd.V_far (p:=⟨Ac,2,none⟩) (Kd.V_far (p:=⟨Ac,1,none⟩) (Kd.V_far (p:=⟨Ac,0,none⟩) (Kd.V_mono At.out (fun k_ hk=>(⟨hk,hk.2⟩:_∧k_≠Ac))) (fun _ hk=>hk.2) (.int .i64 ((y19 Ab Aa).f0))) (fun _ hk=>hk.2) (.string ((y19 Ab Aa).f1))) (fun _ hk=>hk.2) (.slice Aj ((y19 Ab Aa).f2).length Ai)) (fun _ h_=>h_.1))))).2.2⟩,⟨qb⟩⟩
           ·as_aux_lemma =>
            rw [if_neg Gy]at H
            have Im:(((y19 Ab Aa).f0) == 3)=false:=beq_eq_false_iff_ne.mpr Gy
            have Io:(((y19 Ab Aa).f0) != 3)=true:=bne_iff_ne.mpr Gy
            have H':=y0.mk H
            clear H
            have Sc:=Au.out
            have Sd:=Ag.out
            obtain⟨Mt,Mu,Mv,Mw,Mx,My⟩:=qz3 Ar.out
            go_wp2_with (first|(go_at_call 66;(with_reducible refine(impl_in.calls ((y19 Ab Aa).f0) 1 3 true _ Pp.out).mono ?_);rintro e w' ⟨rfl,⟨nd,rfl⟩⟩))
            go_meet
            exact⟨_,(false),qy2,H',⟨by have:=Ca.out;have:=Bx.out;first|omega|exact Nat.le_refl _⟩,⟨qR (Kd.R_mono (Kd.R_far (p:=⟨Ac,2,none⟩) (Kd.R_far (p:=⟨Ac,1,none⟩) (Kd.R_far (p:=⟨Ac,0,none⟩) (Kd.R_types Am.out Ar.out (by decide)) (fun _ hk=>hk.2) (.int .i64 ((y19 Ab Aa).f0))) (fun _ hk=>hk.2) (.string ((y19 Ab Aa).f1))) (fun _ hk=>hk.2) (.slice Aj ((y19 Ab Aa).f2).length Ai)) (fun _ hk=>trivial))⟩,⟨qN (Kd.N_mono (Kd.N_far (p:=⟨Ac,2,none⟩) (Kd.N_far (p:=⟨Ac,1,none⟩) (Kd.N_far (p:=⟨Ac,0,none⟩) (Kd.N_mono Ay.out (fun k_ hk=>(⟨hk,hk.2⟩:_∧k_≠Ac))) (fun _ hk=>hk.2) (.int .i64 ((y19 Ab Aa).f0))) (fun _ hk=>hk.2) (.string ((y19 Ab Aa).f1))) (fun _ hk=>hk.2) (.slice Aj ((y19 Ab Aa).f2).length Ai)) (fun _ hk=>⟨hk.1.1.1,⟨hk.1.1.2,hk.1.2⟩⟩))⟩,⟨qV (Kd.V_mono (Kd.V_far (p:=⟨Ac,2,none⟩) (Kd.V_far (p:=⟨Ac,1,none⟩) (Kd.V_far (p:=⟨Ac,0,none⟩) (Kd.V_mono At.out (fun k_ hk=>(⟨hk,hk.2⟩:_∧k_≠Ac))) (fun _ hk=>hk.2) (.int .i64 ((y19 Ab Aa).f0))) (fun _ hk=>hk.2) (.string ((y19 Ab Aa).f1))) (fun _ hk=>hk.2) (.slice Aj ((y19 Ab Aa).f2).length Ai)) (fun _ hk=>⟨hk.1.1.1.1,⟨hk.1.1.2,⟨hk.1.1.1.2,hk.1.2⟩⟩⟩))⟩,⟨by(with_reducible repeat(first|refine y10 ?_ _|refine y9 ?_|refine y6 ?_ _));refine y11 ?_ Ag.out _;(with_reducible repeat(first|refine y10 ?_ _|refine y9 ?_|refine y6 ?_ _));refine y11 ?_ Ag.out _;(with_reducible repeat(first|refine y10 ?_ _|refine y9 ?_|refine y6 ?_ _));refine y11 ?_ Ag.out _;(with_reducible repeat(first|refine y10 ?_ _|refine y9 ?_|refine y6 ?_ _));exact Ah.out⟩,⟨by(with_reducible repeat(first|refine y10 ?_ _|refine y9 ?_|refine y6 ?_ _));refine blk_put (cs:=#[.int .i64 ((y19 Ab Aa).f0),.string ((y19 Ab Aa).f1),.slice none 0 0]) ?_ 2 _ rfl;(with_reducible repeat(first|refine y10 ?_ _|refine y9 ?_|refine y6 ?_ _));refine blk_put (cs:=#[.int .i64 ((y19 Ab Aa).f0),.string (⟨#[]⟩:ByteArray),.slice none 0 0]) ?_ 1 _ rfl;(with_reducible repeat(first|refine y10 ?_ _|refine y9 ?_|refine y6 ?_ _));refine blk_put (cs:=#[.int .i64 0,.string (⟨#[]⟩:ByteArray),.slice none 0 0]) ?_ 0 _ rfl;(with_reducible repeat(first|refine y10 ?_ _|refine y9 ?_|refine y6 ?_ _));exact Ar.out⟩,⟨(Kd.V_reads' (qV ((Kd.V_mono (Kd.V_far (p:=⟨Ac,2,none⟩) (Kd.V_far (p:=⟨Ac,1,none⟩) (Kd.V_far (p:=⟨Ac,0,none⟩) (Kd.V_mono At.out (fun k_ hk=>(⟨hk,hk.2⟩:_∧k_≠Ac))) (fun _ hk=>hk.2) (.int .i64 ((y19 Ab Aa).f0))) (fun _ hk=>hk.2) (.string ((y19 Ab Aa).f1))) (fun _ hk=>hk.2) (.slice Aj ((y19 Ab Aa).f2).length Ai)) (fun _ h_=>h_.1))))).2.2⟩,⟨qb⟩⟩
          ·replace Mm:=Bool.eq_false_iff.mpr Mm
           subst Mm
           replace H:=qF H
           have H':=y0.mk H
           clear H
           have Se:=Au.out
           have Sf:=Ag.out
           obtain⟨Mz,Na,Nb,Nc,Nd,Nf⟩:=qz3 Ar.out
           go_wp2_with (first|(go_at_call 66;(with_reducible refine(impl_in.calls ((y19 Ab Aa).f0) 1 3 false _ Pp.out).mono ?_);rintro e w' ⟨rfl,⟨nd,rfl⟩⟩))
           go_meet
           exact⟨_,(true),qy2,H',⟨by have:=Ca.out;have:=Bx.out;first|omega|exact Nat.le_refl _⟩,⟨qR (Kd.R_mono (Kd.R_far (p:=⟨Ac,2,none⟩) (Kd.R_far (p:=⟨Ac,1,none⟩) (Kd.R_far (p:=⟨Ac,0,none⟩) (Kd.R_types Am.out Ar.out (by decide)) (fun _ hk=>hk.2) (.int .i64 ((y19 Ab Aa).f0))) (fun _ hk=>hk.2) (.string ((y19 Ab Aa).f1))) (fun _ hk=>hk.2) (.slice Aj ((y19 Ab Aa).f2).length Ai)) (fun _ hk=>trivial))⟩,⟨qN (Kd.N_mono (Kd.N_far (p:=⟨Ac,2,none⟩) (Kd.N_far (p:=⟨Ac,1,none⟩) (Kd.N_far (p:=⟨Ac,0,none⟩) (Kd.N_mono Ay.out (fun k_ hk=>(⟨hk,hk.2⟩:_∧k_≠Ac))) (fun _ hk=>hk.2) (.int .i64 ((y19 Ab Aa).f0))) (fun _ hk=>hk.2) (.string ((y19 Ab Aa).f1))) (fun _ hk=>hk.2) (.slice Aj ((y19 Ab Aa).f2).length Ai)) (fun _ hk=>⟨hk.1.1.1,⟨hk.1.1.2,hk.1.2⟩⟩))⟩,⟨qV (Kd.V_mono (Kd.V_far (p:=⟨Ac,2,none⟩) (Kd.V_far (p:=⟨Ac,1,none⟩) (Kd.V_far (p:=⟨Ac,0,none⟩) (Kd.V_mono At.out (fun k_ hk=>(⟨hk,hk.2⟩:_∧k_≠Ac))) (fun _ hk=>hk.2) (.int .i64 ((y19 Ab Aa).f0))) (fun _ hk=>hk.2) (.string ((y19 Ab Aa).f1))) (fun _ hk=>hk.2) (.slice Aj ((y19 Ab Aa).f2).length Ai)) (fun _ hk=>⟨hk.1.1.1.1,⟨hk.1.1.2,⟨hk.1.1.1.2,hk.1.2⟩⟩⟩))⟩,⟨by(with_reducible repeat(first|refine y10 ?_ _|refine y9 ?_|refine y6 ?_ _));refine y11 ?_ Ag.out _;(with_reducible repeat(first|refine y10 ?_ _|refine y9 ?_|refine y6 ?_ _));refine y11 ?_ Ag.out _;(with_reducible repeat(first|refine y10 ?_ _|refine y9 ?_|refine y6 ?_ _));refine y11 ?_ Ag.out _;(with_reducible repeat(first|refine y10 ?_ _|refine y9 ?_|refine y6 ?_ _));exact Ah.out⟩,⟨by(with_reducible repeat(first|refine y10 ?_ _|refine y9 ?_|refine y6 ?_ _));refine blk_put (cs:=#[.int .i64 ((y19 Ab Aa).f0),.string ((y19 Ab Aa).f1),.slice none 0 0]) ?_ 2 _ rfl;(with_reducible repeat(first|refine y10 ?_ _|refine y9 ?_|refine y6 ?_ _));refine blk_put (cs:=#[.int .i64 ((y19 Ab Aa).f0),.string (⟨#[]⟩:ByteArray),.slice none 0 0]) ?_ 1 _ rfl;(with_reducible repeat(first|refine y10 ?_ _|refine y9 ?_|refine y6 ?_ _));refine blk_put (cs:=#[.int .i64 0,.string (⟨#[]⟩:ByteArray),.slice none 0 0]) ?_ 0 _ rfl;(with_reducible repeat(first|refine y10 ?_ _|refine y9 ?_|refine y6 ?_ _));exact Ar.out⟩,⟨(Kd.V_reads' (qV ((Kd.V_mono (Kd.V_far (p:=⟨Ac,2,none⟩) (Kd.V_far (p:=⟨Ac,1,none⟩) (Kd.V_far (p:=⟨Ac,0,none⟩) (Kd.V_mono At.out (fun k_ hk=>(⟨hk,hk.2⟩:_∧k_≠Ac))) (fun _ hk=>hk.2) (.int .i64 ((y19 Ab Aa).f0))) (fun _ hk=>hk.2) (.string ((y19 Ab Aa).f1))) (fun _ hk=>hk.2) (.slice Aj ((y19 Ab Aa).f2).length Ai)) (fun _ h_=>h_.1))))).2.2⟩,⟨qb⟩⟩
         ·as_aux_lemma =>
          rw [if_neg Gx]at H
          have Ik:(((y19 Ab Aa).f0) == 1)=false:=beq_eq_false_iff_ne.mpr Gx
          have Il:(((y19 Ab Aa).f0) != 1)=true:=bne_iff_ne.mpr Gx
          have H':=y0.mk H
          clear H
          have Sg:=Au.out
          have Sh:=Ag.out
          obtain⟨Ng,Nh,Ni,Nj,Nk,Nl⟩:=qz3 Ar.out
          go_wp2
          go_meet
          exact⟨_,(true),qy2,H',⟨by have:=Ca.out;have:=Bx.out;first|omega|exact Nat.le_refl _⟩,⟨qR (Kd.R_mono (Kd.R_far (p:=⟨Ac,2,none⟩) (Kd.R_far (p:=⟨Ac,1,none⟩) (Kd.R_far (p:=⟨Ac,0,none⟩) (Kd.R_types Am.out Ar.out (by decide)) (fun _ hk=>hk.2) (.int .i64 ((y19 Ab Aa).f0))) (fun _ hk=>hk.2) (.string ((y19 Ab Aa).f1))) (fun _ hk=>hk.2) (.slice Aj ((y19 Ab Aa).f2).length Ai)) (fun _ hk=>trivial))⟩,⟨qN (Kd.N_mono (Kd.N_far (p:=⟨Ac,2,none⟩) (Kd.N_far (p:=⟨Ac,1,none⟩) (Kd.N_far (p:=⟨Ac,0,none⟩) (Kd.N_mono Ay.out (fun k_ hk=>(⟨hk,hk.2⟩:_∧k_≠Ac))) (fun _ hk=>hk.2) (.int .i64 ((y19 Ab Aa).f0))) (fun _ hk=>hk.2) (.string ((y19 Ab Aa).f1))) (fun _ hk=>hk.2) (.slice Aj ((y19 Ab Aa).f2).length Ai)) (fun _ hk=>⟨hk.1.1.1,⟨hk.1.1.2,hk.1.2⟩⟩))⟩,⟨qV (Kd.V_mono (Kd.V_far (p:=⟨Ac,2,none⟩) (Kd.V_far (p:=⟨Ac,1,none⟩) (Kd.V_far (p:=⟨Ac,0,none⟩) (Kd.V_mono At.out (fun k_ hk=>(⟨hk,hk.2⟩:_∧k_≠Ac))) (fun _ hk=>hk.2) (.int .i64 ((y19 Ab Aa).f0))) (fun _ hk=>hk.2) (.string ((y19 Ab Aa).f1))) (fun _ hk=>hk.2) (.slice Aj ((y19 Ab Aa).f2).length Ai)) (fun _ hk=>⟨hk.1.1.1.1,⟨hk.1.1.2,⟨hk.1.1.1.2,hk.1.2⟩⟩⟩))⟩,⟨by(with_reducible repeat(first|refine y10 ?_ _|refine y9 ?_|refine y6 ?_ _));refine y11 ?_ Ag.out _;(with_reducible repeat(first|refine y10 ?_ _|refine y9 ?_|refine y6 ?_ _));refine y11 ?_ Ag.out _;(with_reducible repeat(first|refine y10 ?_ _|refine y9 ?_|refine y6 ?_ _));refine y11 ?_ Ag.out _;(with_reducible repeat(first|refine y10 ?_ _|refine y9 ?_|refine y6 ?_ _));exact Ah.out⟩,⟨by(with_reducible repeat(first|refine y10 ?_ _|refine y9 ?_|refine y6 ?_ _));refine blk_put (cs:=#[.int .i64 ((y19 Ab Aa).f0),.string ((y19 Ab Aa).f1),.slice none 0 0]) ?_ 2 _ rfl;(with_reducible repeat(first|refine y10 ?_ _|refine y9 ?_|refine y6 ?_ _));refine blk_put (cs:=#[.int .i64 ((y19 Ab Aa).f0),.string (⟨#[]⟩:ByteArray),.slice none 0 0]) ?_ 1 _ rfl;(with_reducible repeat(first|refine y10 ?_ _|refine y9 ?_|refine y6 ?_ _));refine blk_put (cs:=#[.int .i64 0,.string (⟨#[]⟩:ByteArray),.slice none 0 0]) ?_ 0 _ rfl;(with_reducible repeat(first|refine y10 ?_ _|refine y9 ?_|refine y6 ?_ _));exact Ar.out⟩,⟨(Kd.V_reads' (qV ((Kd.V_mono (Kd.V_far (p:=⟨Ac,2,none⟩) (Kd.V_far (p:=⟨Ac,1,none⟩) (Kd.V_far (p:=⟨Ac,0,none⟩) (Kd.V_mono At.out (fun k_ hk=>(⟨hk,hk.2⟩:_∧k_≠Ac))) (fun _ hk=>hk.2) (.int .i64 ((y19 Ab Aa).f0))) (fun _ hk=>hk.2) (.string ((y19 Ab Aa).f1))) (fun _ hk=>hk.2) (.slice Aj ((y19 Ab Aa).f2).length Ai)) (fun _ h_=>h_.1))))).2.2⟩,⟨qb⟩⟩
        ·as_aux_lemma =>
         rw [if_neg Gw]at H
         have Ci:(Aa == 0)=false:=beq_eq_false_iff_ne.mpr Gw
         have Ij:(Aa != 0)=true:=bne_iff_ne.mpr Gw
         (first|rw [Ci]|(simp only [i64_w,i32_w];rw [Ci])|skip)
         obtain⟨Pq,Pr,H⟩:=qB H
         by_cases Nm:Pq=true
         ·subst Nm
          replace H:=qT H
          by_cases Gz:((y19 Ab Aa).f0)=3
          ·as_aux_lemma =>
           rw [if_pos Gz]at H
           have Ip:(((y19 Ab Aa).f0) == 3)=true:=beq_iff_eq.mpr Gz
           have Iq:(((y19 Ab Aa).f0) != 3)=false:=bne_eq_false_iff_eq.mpr Gz
           clear Gz
           have H':=y0.mk H
           clear H
           have Si:=Au.out
           have Sj:=Ag.out
           obtain⟨Nn,Np,Nq,Nr,Ns,Nt⟩:=qz3 Ar.out
           go_wp2_with (first|(go_at_call 66;(with_reducible refine(impl_in.calls ((y19 Ab Aa).f0) 1 3 true _ Pr.out).mono ?_);rintro e w' ⟨rfl,⟨nd,rfl⟩⟩))
           go_meet
           exact⟨_,(((((y19 Ab Aa).f2).length:Int) != 2)),qy2,H',⟨by have:=Ca.out;have:=Bx.out;first|omega|exact Nat.le_refl _⟩,⟨qR (Kd.R_mono (Kd.R_far (p:=⟨Ac,2,none⟩) (Kd.R_far (p:=⟨Ac,1,none⟩) (Kd.R_far (p:=⟨Ac,0,none⟩) (Kd.R_types Am.out Ar.out (by decide)) (fun _ hk=>hk.2) (.int .i64 ((y19 Ab Aa).f0))) (fun _ hk=>hk.2) (.string ((y19 Ab Aa).f1))) (fun _ hk=>hk.2) (.slice Aj ((y19 Ab Aa).f2).length Ai)) (fun _ hk=>trivial))⟩,⟨qN (Kd.N_mono (Kd.N_far (p:=⟨Ac,2,none⟩) (Kd.N_far (p:=⟨Ac,1,none⟩) (Kd.N_far (p:=⟨Ac,0,none⟩) (Kd.N_mono Ay.out (fun k_ hk=>(⟨hk,hk.2⟩:_∧k_≠Ac))) (fun _ hk=>hk.2) (.int .i64 ((y19 Ab Aa).f0))) (fun _ hk=>hk.2) (.string ((y19 Ab Aa).f1))) (fun _ hk=>hk.2) (.slice Aj ((y19 Ab Aa).f2).length Ai)) (fun _ hk=>⟨hk.1.1.1,⟨hk.1.1.2,hk.1.2⟩⟩))⟩,⟨qV (Kd.V_mono (Kd.V_far (p:=⟨Ac,2,none⟩) (Kd.V_far (p:=⟨Ac,1,none⟩) (Kd.V_far (p:=⟨Ac,0,none⟩) (Kd.V_mono At.out (fun k_ hk=>(⟨hk,hk.2⟩:_∧k_≠Ac))) (fun _ hk=>hk.2) (.int .i64 ((y19 Ab Aa).f0))) (fun _ hk=>hk.2) (.string ((y19 Ab Aa).f1))) (fun _ hk=>hk.2) (.slice Aj ((y19 Ab Aa).f2).length Ai)) (fun _ hk=>⟨hk.1.1.1.1,⟨hk.1.1.2,⟨hk.1.1.1.2,hk.1.2⟩⟩⟩))⟩,⟨by(with_reducible repeat(first|refine y10 ?_ _|refine y9 ?_|refine y6 ?_ _));refine y11 ?_ Ag.out _;(with_reducible repeat(first|refine y10 ?_ _|refine y9 ?_|refine y6 ?_ _));refine y11 ?_ Ag.out _;(with_reducible repeat(first|refine y10 ?_ _|refine y9 ?_|refine y6 ?_ _));refine y11 ?_ Ag.out _;(with_reducible repeat(first|refine y10 ?_ _|refine y9 ?_|refine y6 ?_ _));exact Ah.out⟩,⟨by(with_reducible repeat(first|refine y10 ?_ _|refine y9 ?_|refine y6 ?_ _));refine blk_put (cs:=#[.int .i64 ((y19 Ab Aa).f0),.string ((y19 Ab Aa).f1),.slice none 0 0]) ?_ 2 _ rfl;(with_reducible repeat(first|refine y10 ?_ _|refine y9 ?_|refine y6 ?_ _));refine blk_put (cs:=#[.int .i64 ((y19 Ab Aa).f0),.string (⟨#[]⟩:ByteArray),.slice none 0 0]) ?_ 1 _ rfl;(with_reducible repeat(first|refine y10 ?_ _|refine y9 ?_|refine y6 ?_ _));refine blk_put (cs:=#[.int .i64 0,.string (⟨#[]⟩:ByteArray),.slice none 0 0]) ?_ 0 _ rfl;(with_reducible repeat(first|refine y10 ?_ _|refine y9 ?_|refine y6 ?_ _));exact Ar.out⟩,⟨(Kd.V_reads' (qV ((Kd.V_mono (Kd.V_far (p:=⟨Ac,2,none⟩) (Kd.V_far (p:=⟨Ac,1,none⟩) (Kd.V_far (p:=⟨Ac,0,none⟩) (Kd.V_mono At.out (fun k_ hk=>(⟨hk,hk.2⟩:_∧k_≠Ac))) (fun _ hk=>hk.2) (.int .i64 ((y19 Ab Aa).f0))) (fun _ hk=>hk.2) (.string ((y19 Ab Aa).f1))) (fun _ hk=>hk.2) (.slice Aj ((y19 Ab Aa).f2).length Ai)) (fun _ h_=>h_.1))))).2.2⟩,⟨qb⟩⟩
          ·as_aux_lemma =>
           rw [if_neg Gz]at H
           have Ip:(((y19 Ab Aa).f0) == 3)=false:=beq_eq_false_iff_ne.mpr Gz
           have Iq:(((y19 Ab Aa).f0) != 3)=true:=bne_iff_ne.mpr Gz
           have H':=y0.mk H
           clear H
           have Sk:=Au.out
           have Sl:=Ag.out
           obtain⟨Nu,Nv,Nw,Nx,Ny,Nz⟩:=qz3 Ar.out
           go_wp2_with (first|(go_at_call 66;(with_reducible refine(impl_in.calls ((y19 Ab Aa).f0) 1 3 true _ Pr.out).mono ?_);rintro e w' ⟨rfl,⟨nd,rfl⟩⟩))
           go_meet
           exact⟨_,(false),qy2,H',⟨by have:=Ca.out;have:=Bx.out;first|omega|exact Nat.le_refl _⟩,⟨qR (Kd.R_mono (Kd.R_far (p:=⟨Ac,2,none⟩) (Kd.R_far (p:=⟨Ac,1,none⟩) (Kd.R_far (p:=⟨Ac,0,none⟩) (Kd.R_types Am.out Ar.out (by decide)) (fun _ hk=>hk.2) (.int .i64 ((y19 Ab Aa).f0))) (fun _ hk=>hk.2) (.string ((y19 Ab Aa).f1))) (fun _ hk=>hk.2) (.slice Aj ((y19 Ab Aa).f2).length Ai)) (fun _ hk=>trivial))⟩,⟨qN (Kd.N_mono (Kd.N_far (p:=⟨Ac,2,none⟩) (Kd.N_far (p:=⟨Ac,1,none⟩) (Kd.N_far (p:=⟨Ac,0,none⟩) (Kd.N_mono Ay.out (fun k_ hk=>(⟨hk,hk.2⟩:_∧k_≠Ac))) (fun _ hk=>hk.2) (.int .i64 ((y19 Ab Aa).f0))) (fun _ hk=>hk.2) (.string ((y19 Ab Aa).f1))) (fun _ hk=>hk.2) (.slice Aj ((y19 Ab Aa).f2).length Ai)) (fun _ hk=>⟨hk.1.1.1,⟨hk.1.1.2,hk.1.2⟩⟩))⟩,⟨qV (Kd.V_mono (Kd.V_far (p:=⟨Ac,2,none⟩) (Kd.V_far (p:=⟨Ac,1,none⟩) (Kd.V_far (p:=⟨Ac,0,none⟩) (Kd.V_mono At.out (fun k_ hk=>(⟨hk,hk.2⟩:_∧k_≠Ac))) (fun _ hk=>hk.2) (.int .i64 ((y19 Ab Aa).f0))) (fun _ hk=>hk.2) (.string ((y19 Ab Aa).f1))) (fun _ hk=>hk.2) (.slice Aj ((y19 Ab Aa).f2).length Ai)) (fun _ hk=>⟨hk.1.1.1.1,⟨hk.1.1.2,⟨hk.1.1.1.2,hk.1.2⟩⟩⟩))⟩,⟨by(with_reducible repeat(first|refine y10 ?_ _|refine y9 ?_|refine y6 ?_ _));refine y11 ?_ Ag.out _;(with_reducible repeat(first|refine y10 ?_ _|refine y9 ?_|refine y6 ?_ _));refine y11 ?_ Ag.out _;(with_reducible repeat(first|refine y10 ?_ _|refine y9 ?_|refine y6 ?_ _));refine y11 ?_ Ag.out _;(with_reducible repeat(first|refine y10 ?_ _|refine y9 ?_|refine y6 ?_ _));exact Ah.out⟩,⟨by(with_reducible repeat(first|refine y10 ?_ _|refine y9 ?_|refine y6 ?_ _));refine blk_put (cs:=#[.int .i64 ((y19 Ab Aa).f0),.string ((y19 Ab Aa).f1),.slice none 0 0]) ?_ 2 _ rfl;(with_reducible repeat(first|refine y10 ?_ _|refine y9 ?_|refine y6 ?_ _));refine blk_put (cs:=#[.int .i64 ((y19 Ab Aa).f0),.string (⟨#[]⟩:ByteArray),.slice none 0 0]) ?_ 1 _ rfl;(with_reducible repeat(first|refine y10 ?_ _|refine y9 ?_|refine y6 ?_ _));refine blk_put (cs:=#[.int .i64 0,.string (⟨#[]⟩:ByteArray),.slice none 0 0]) ?_ 0 _ rfl;(with_reducible repeat(first|refine y10 ?_ _|refine y9 ?_|refine y6 ?_ _));exact Ar.out⟩,⟨(Kd.V_reads' (qV ((Kd.V_mono (Kd.V_far (p:=⟨Ac,2,none⟩) (Kd.V_far (p:=⟨Ac,1,none⟩) (Kd.V_far (p:=⟨Ac,0,none⟩) (Kd.V_mono At.out (fun k_ hk=>(⟨hk,hk.2⟩:_∧k_≠Ac))) (fun _ hk=>hk.2) (.int .i64 ((y19 Ab Aa).f0))) (fun _ hk=>hk.2) (.string ((y19 Ab Aa).f1))) (fun _ hk=>hk.2) (.slice Aj ((y19 Ab Aa).f2).length Ai)) (fun _ h_=>h_.1))))).2.2⟩,⟨qb⟩⟩
         ·replace Nm:=Bool.eq_false_iff.mpr Nm
          subst Nm
          replace H:=qF H
          have H':=y0.mk H
          clear H
          have Sm:=Au.out
          have Sn:=Ag.out
          obtain⟨Oa,Ob,Oc,Od,Oe,Of⟩:=qz3 Ar.out
          go_wp2_with (first|(go_at_call 66;(with_reducible refine(impl_in.calls ((y19 Ab Aa).f0) 1 3 false _ Pr.out).mono ?_);rintro e w' ⟨rfl,⟨nd,rfl⟩⟩))
          go_meet
          exact⟨_,(true),qy2,H',⟨by have:=Ca.out;have:=Bx.out;first|omega|exact Nat.le_refl _⟩,⟨qR (Kd.R_mono (Kd.R_far (p:=⟨Ac,2,none⟩) (Kd.R_far (p:=⟨Ac,1,none⟩) (Kd.R_far (p:=⟨Ac,0,none⟩) (Kd.R_types Am.out Ar.out (by decide)) (fun _ hk=>hk.2) (.int .i64 ((y19 Ab Aa).f0))) (fun _ hk=>hk.2) (.string ((y19 Ab Aa).f1))) (fun _ hk=>hk.2) (.slice Aj ((y19 Ab Aa).f2).length Ai)) (fun _ hk=>trivial))⟩,⟨qN (Kd.N_mono (Kd.N_far (p:=⟨Ac,2,none⟩) (Kd.N_far (p:=⟨Ac,1,none⟩) (Kd.N_far (p:=⟨Ac,0,none⟩) (Kd.N_mono Ay.out (fun k_ hk=>(⟨hk,hk.2⟩:_∧k_≠Ac))) (fun _ hk=>hk.2) (.int .i64 ((y19 Ab Aa).f0))) (fun _ hk=>hk.2) (.string ((y19 Ab Aa).f1))) (fun _ hk=>hk.2) (.slice Aj ((y19 Ab Aa).f2).length Ai)) (fun _ hk=>⟨hk.1.1.1,⟨hk.1.1.2,hk.1.2⟩⟩))⟩,⟨qV (Kd.V_mono (Kd.V_far (p:=⟨Ac,2,none⟩) (Kd.V_far (p:=⟨Ac,1,none⟩) (Kd.V_far (p:=⟨Ac,0,none⟩) (Kd.V_mono At.out (fun k_ hk=>(⟨hk,hk.2⟩:_∧k_≠Ac))) (fun _ hk=>hk.2) (.int .i64 ((y19 Ab Aa).f0))) (fun _ hk=>hk.2) (.string ((y19 Ab Aa).f1))) (fun _ hk=>hk.2) (.slice Aj ((y19 Ab Aa).f2).length Ai)) (fun _ hk=>⟨hk.1.1.1.1,⟨hk.1.1.2,⟨hk.1.1.1.2,hk.1.2⟩⟩⟩))⟩,⟨by(with_reducible repeat(first|refine y10 ?_ _|refine y9 ?_|refine y6 ?_ _));refine y11 ?_ Ag.out _;(with_reducible repeat(first|refine y10 ?_ _|refine y9 ?_|refine y6 ?_ _));refine y11 ?_ Ag.out _;(with_reducible repeat(first|refine y10 ?_ _|refine y9 ?_|refine y6 ?_ _));refine y11 ?_ Ag.out _;(with_reducible repeat(first|refine y10 ?_ _|refine y9 ?_|refine y6 ?_ _));exact Ah.out⟩,⟨by(with_reducible repeat(first|refine y10 ?_ _|refine y9 ?_|refine y6 ?_ _));refine blk_put (cs:=#[.int .i64 ((y19 Ab Aa).f0),.string ((y19 Ab Aa).f1),.slice none 0 0]) ?_ 2 _ rfl;(with_reducible repeat(first|refine y10 ?_ _|refine y9 ?_|refine y6 ?_ _));refine blk_put (cs:=#[.int .i64 ((y19 Ab Aa).f0),.string (⟨#[]⟩:ByteArray),.slice none 0 0]) ?_ 1 _ rfl;(with_reducible repeat(first|refine y10 ?_ _|refine y9 ?_|refine y6 ?_ _));refine blk_put (cs:=#[.int .i64 0,.string (⟨#[]⟩:ByteArray),.slice none 0 0]) ?_ 0 _ rfl;(with_reducible repeat(first|refine y10 ?_ _|refine y9 ?_|refine y6 ?_ _));exact Ar.out⟩,⟨(Kd.V_reads' (qV ((Kd.V_mono (Kd.V_far (p:=⟨Ac,2,none⟩) (Kd.V_far (p:=⟨Ac,1,none⟩) (Kd.V_far (p:=⟨Ac,0,none⟩) (Kd.V_mono At.out (fun k_ hk=>(⟨hk,hk.2⟩:_∧k_≠Ac))) (fun _ hk=>hk.2) (.int .i64 ((y19 Ab Aa).f0))) (fun _ hk=>hk.2) (.string ((y19 Ab Aa).f1))) (fun _ hk=>hk.2) (.slice Aj ((y19 Ab Aa).f2).length Ai)) (fun _ h_=>h_.1))))).2.2⟩,⟨qb⟩⟩
       case rest =>
        clear Gt
        (try clear Fn Ih Ii El Em En Eo Ep Eq Ej Ek Ct Dk Dl)
        obtain⟨kq,Bv,rfl,HA,Er,Am,Ay,Aw,Ah,Ar,Bu,HB⟩:=hcut
        cases kq with
        | zero=>exact absurd HA.out (by simp [z4_.j3])
        | succ Ir =>
         have H:=HA.out
         clear HA
         simp only [z4_.j3]at H
         by_cases Is:Bv=true
         ·subst Is
          replace H:=qT H
          obtain rfl:=Option.some.inj H
          go_wp2
          go_ret
          exact⟨qf,qb⟩
         ·replace Is:=Bool.eq_false_iff.mpr Is
          subst Is
          replace H:=qF H
          have H':=y0.mk H
          clear H
          have So:=Au.out
          have Sp:=Ag.out
          obtain⟨Es,Et,Eu,Ew,Ex,Ey⟩:=qz3 Ar.out
          go_wp2
          go_loopg [105] Ir (fun kq Ps w'=>∃(Bh:List Int) (Ak:Int),Ps=.int .i64 Ak∧y0 (z4_.l3 kq Bh Ab (Ab.length:Int) Aa ((y19 Ab Aa).f2) (((y19 Ab Aa).f2).length:Int) Ak Af Bf Bg Bb Bc=some r)∧y0 (kq≤Ir)∧y0 (Kd.R (Kd.int .i64) 3 w' w.heap.size (fun _=>True) Bi Bh)∧y0 (Kd.N k33 33 w' w.heap.size (fun k_=>some k_≠(Bi:Value).ownBlock∧k_≠Az∧k_≠Ac) (.slice (some Bk) Ab.length Bw) Ab)∧y0 (Kd.V (Kd.int .i64) 3 w' w.heap.size (fun k_=>some k_≠(Bi:Value).ownBlock∧some k_≠((.slice (some Bk) Ab.length Bw):Value).ownBlock∧k_≠Az∧k_≠Ac) (.slice Aj ((y19 Ab Aa).f2).length Ai) ((y19 Ab Aa).f2))∧y0 (Kd.V (Kd.int .i64) 3 w' w.heap.size (fun k_=>some k_≠(Bi:Value).ownBlock∧some k_≠((.slice (some Bk) Ab.length Bw):Value).ownBlock∧k_≠Az∧k_≠Ac) (.slice Aj ((y19 Ab Aa).f2).length Ai) ((y19 Ab Aa).f2))∧y0 (w'.heap[Az]?=some (.cells #[(.slice Bz Af.length Bl),.int .i64 Bf,.string Bg,(.slice Bm Bb.length Bn),(.slice Bo Bc.length Bp)] 36 (0,0)))∧y0 (w'.heap[Ac]?=some (.cells #[.int .i64 ((y19 Ab Aa).f0),.string ((y19 Ab Aa).f1),(.slice Aj ((y19 Ab Aa).f2).length Ai)] 33 (0,0)))∧y0 (Below w.heap.size w w'))
          case atStart=>exact⟨(Bd),(0),qy2,H',⟨Nat.le_refl _⟩,⟨qR Am.out⟩,⟨qN Ay.out⟩,⟨qV Aw.out⟩,⟨qV Aw.out⟩,⟨qk Ah.out⟩,⟨qk Ar.out⟩,⟨qb⟩⟩
          case round =>
           clear H'
           (try clear Is Es Et Eu Ew Ex Ey)
           obtain⟨Bh,Ak,rfl,HA,Og,Am,Ay,Bj,Aw,Ah,Ar,HB⟩:=hrel
           cases gk with
           | zero=>exact absurd HA.out (by simp [z4_.l3])
           | succ k4 =>
            have H:=HA.out
            clear HA
            simp only [z4_.l3]at H
            by_cases Hl:Ak < (((y19 Ab Aa).f2).length:Int)
            ·as_aux_lemma =>
             rw [if_pos Hl]at H
             have Iu:=decide_eq_true Hl
             clear Hl
             obtain⟨Sq,H⟩:=qo H
             have Sr:decide (0≤Ak)=true:=decide_eq_true Sq
             clear Sq
             obtain⟨Ss,H⟩:=qo H
             have St:decide (Ak < (((y19 Ab Aa).f2).length:Int))=true:=decide_eq_true Ss
             clear Ss
             obtain⟨Pt,Su,H⟩:=qB H
             by_cases Oh:Pt=true
             ·subst Oh
              replace H:=qT H
              obtain⟨Sv,H⟩:=qo H
              have Sw:decide (0≤(rd ((y19 Ab Aa).f2) Ak))=true:=decide_eq_true Sv
              clear Sv
              obtain⟨Sx,H⟩:=qo H
              have Sy:decide ((rd ((y19 Ab Aa).f2) Ak) < (Bh.length:Int))=true:=decide_eq_true Sx
              clear Sx
              obtain⟨Ha,Cj⟩:∃ y_:List Int,y_=(Bh.set ((rd ((y19 Ab Aa).f2) Ak):Int).toNat (wrap64 ((rd Bh (rd ((y19 Ab Aa).f2) Ak)) + 1))):=⟨_,rfl⟩
              replace H:(z4_.l3 k4 Ha Ab (Ab.length:Int) Aa ((y19 Ab Aa).f2) (((y19 Ab Aa).f2).length:Int) (wrap64 (Ak + 1)) Af Bf Bg Bb Bc)=some r:=by first|(rw [Cj];with_reducible exact H)|(have H2_:=(Option.bind_some _ _).symm.trans H;rw [Cj];with_reducible exact H2_)|(have H2_:=(Option.bind_some _ _).symm.trans H;with_reducible exact H2_)|with_reducible exact H|(rw [Cj];exact H)|exact H
              have Iv:=y0.mk Cj
              clear Cj
              have H':=y0.mk H
              clear H
              have Cn:0≤(Ak:Int):=of_decide_eq_true qy0
              have Co:Ak < (((y19 Ab Aa).f2).length:Int):=of_decide_eq_true qy0
              obtain⟨Cw,Hb,Cd⟩:=Kd.at_int (Kd.V_reads' Bj.out).2.2 Ak Cn Co
              cases Hb
              replace Cn:=eq_true Cn
              replace Co:=eq_true Co
              have Sz:=Ag.out
              have Ta:=Au.out
              obtain⟨Cx,Cy,Cz,Da,Db,Dc,Dd,De,Df,Dg⟩:=qz5 Ah.out
              go_wp2_with (first|((with_reducible refine y15 (f:=66) rfl ?_);refine y17 (some 114) rfl rfl Tryz.func66 (by kernel_rfl) rfl #[.int .i64 (rd ((y19 Ab Aa).f2) Ak),.int .i64 0,.int .i64 (wrap64 ((Af.length:Int) - 1))] rfl qy1 ?_;(with_reducible refine(impl_in.calls (rd ((y19 Ab Aa).f2) Ak) 0 (wrap64 ((Af.length:Int) - 1)) true _ Su.out).mono ?_);rintro e w' ⟨rfl,⟨nd,rfl⟩⟩;refine⟨_,rfl, ?_⟩;(try(rw [drewN_self wr];have e1_:∀(n_:Nat) (a_:Addr),World.cell? wr a_=World.cell? (World.drewN wr n_) a_:=fun _ _=>rfl;have e2_:∀(n_:Nat) (a_:Addr),World.frozen? wr a_=World.frozen? (World.drewN wr n_) a_:=fun _ _=>rfl;generalize hq_:World.drewN wr _=wr;have e3_:=(fun a_=>(e1_ _ a_).trans (congrArg (fun w_=>World.cell? w_ a_) hq_));have e4_:=(fun a_=>(e2_ _ a_).trans (congrArg (fun w_=>World.frozen? w_ a_) hq_));clear e1_ e2_;(try replace Cd:=(e3_ _).symm.trans Cd);(try replace Cx:=(e3_ _).symm.trans Cx);(try replace Dc:=(e4_ _).symm.trans Dc);(try replace Cy:=(e3_ _).symm.trans Cy);(try replace Dd:=(e4_ _).symm.trans Dd);(try replace Cz:=(e3_ _).symm.trans Cz);(try replace De:=(e4_ _).symm.trans De);(try replace Da:=(e3_ _).symm.trans Da);(try replace Df:=(e4_ _).symm.trans Df);(try replace Db:=(e3_ _).symm.trans Db);(try replace Dg:=(e4_ _).symm.trans Dg);skip;clear e3_ e4_;have n0_:y0 (Kd.V (Kd.int .i64) 3 wr w.heap.size (fun k_=>some k_≠(Bi:Value).ownBlock∧some k_≠(.slice (some Bk) Ab.length Bw:Value).ownBlock∧k_≠Az∧k_≠Ac) (.slice (some Cw) ((y19 Ab Aa).f2).length Ai) ((y19 Ab Aa).f2)):=⟨by rw [← hq_];exact(qV Bj.out)⟩;have n1_:y0 (Kd.R (Kd.int .i64) 3 wr w.heap.size (fun _=>True) Bi Bh):=⟨by rw [← hq_];exact(qR Am.out)⟩;have n2_:y0 (Kd.V (Kd.int .i64) 3 wr w.heap.size (fun k_=>some k_≠(Bi:Value).ownBlock∧some k_≠(.slice (some Bk) Ab.length Bw:Value).ownBlock∧k_≠Az∧k_≠Ac) (.slice (some Cw) ((y19 Ab Aa).f2).length Ai) ((y19 Ab Aa).f2)):=⟨by rw [← hq_];exact(qV Aw.out)⟩;have n3_:y0 (Kd.N k33 33 wr w.heap.size (fun k_=>some k_≠(Bi:Value).ownBlock∧k_≠Az∧k_≠Ac) (.slice (some Bk) Ab.length Bw) Ab):=⟨by rw [← hq_];exact(qN Ay.out)⟩;have n4_:y0 (wr.heap[Az]?=some (.cells #[.slice Bz Af.length Bl,.int .i64 Bf,.string Bg,.slice Bm Bb.length Bn,.slice Bo Bc.length Bp] 36 (0,0))):=⟨by rw [← hq_];exact(qk Ah.out)⟩;have n5_:y0 (wr.heap[Ac]?=some (.cells #[.int .i64 ((y19 Ab Aa).f0),.string ((y19 Ab Aa).f1),.slice (some Cw) ((y19 Ab Aa).f2).length Ai] 33 (0,0))):=⟨by rw [← hq_];exact(qk Ar.out)⟩;have n6_:y0 (Below w.heap.size w wr):=⟨by rw [← hq_];exact qb⟩;clear Bj Am Aw Ay Ah Ar HB hq_;have Bj:=n0_;have Am:=n1_;have Aw:=n2_;have Ay:=n3_;have Ah:=n4_;have Ar:=n5_;have HB:=n6_;clear n0_ n1_ n2_ n3_ n4_ n5_ n6_));obtain⟨Tr,Cp,Pu⟩:=Kd.R_slice Am.out;subst Pu;have Hc:0≤((rd ((y19 Ab Aa).f2) Ak):Int):=of_decide_eq_true qy0;have Hd:(rd ((y19 Ab Aa).f2) Ak) < (Bh.length:Int):=of_decide_eq_true qy0;obtain⟨Tc,Pv,Ez⟩:=Kd.at_int (Kd.R_reads' Am.out).2.2 (rd ((y19 Ab Aa).f2) Ak) Hc Hd;cases Pv;replace Hc:=eq_true Hc;replace Hd:=eq_true Hd;have Pw:0≤((rd ((y19 Ab Aa).f2) Ak):Int):=of_decide_eq_true qy0;have Px:((rd ((y19 Ab Aa).f2) Ak):Int) < ((Bh.length:Int):Int):=of_decide_eq_true qy0;obtain⟨Ce,Ts,Iw,Ix,Py,Tt,Iy⟩:=Kd.R_form Am.out (by omega);(first|cases Iw|(injection Iw with ea_ en_ ec_;(first|subst ea_|(injection ea_ with ea_;subst ea_));subst ec_;clear en_));have Pz:=y0.mk Ix;have Tu:=y0.mk Iy;clear Ix Py Iy;(first|simp only [add_plain]at Ez|skip);obtain⟨Qa,Qb⟩:=Kd.R_celln 0 Am.out ((rd ((y19 Ab Aa).f2) Ak):Int) Pw Px;replace Pw:=eq_true Pw;replace Px:=eq_true Px;obtain⟨hy100_,hz100_⟩:=Kd.R_celln 0 Am.out ((rd ((y19 Ab Aa).f2) Ak):Int) (of_decide_eq_true qy0) (of_decide_eq_true qy0);have Do:=Kd.R_putg Am.out ((rd ((y19 Ab Aa).f2) Ak):Int) (wrap64 ((rd Bh (rd ((y19 Ab Aa).f2) Ak)) + 1)))|((with_reducible refine gate_store (t:=3) (p:=121) rfl ?_);refine store_event (t:=3) (p:=121) (v:=?vo_w101) (w1:=(wr.setCell ⟨Ce,((rd ((y19 Ab Aa).f2) Ak):Int).toNat,none⟩ (.int .i64 (wrap64 ((rd Bh (rd ((y19 Ab Aa).f2) Ak)) + 1))))) ?hg ?ho ?hn ?hr ?_;(case ho=>rfl);(case hg=>rfl);(case hn=>rfl);(case hr=>first|(go_simp;done)|(go_simp;rfl));intro He hw;have hg:wr.grownBy He (some Ce):=(by rw [hw];exact Do.2);have hp_:Kd.R (Kd.int .i64) 3 He w.heap.size (fun _=>True) (.slice (some ⟨Ce,0,none⟩) Bh.length Cp) Ha:=(by rw [hw,Iv.out];exact Do.1);clear Do;replace Ay:=y0.mk (Kd.N_afterv (v:=(.slice (some ⟨Ce,0,none⟩) Bh.length Cp)) (v1:=(.slice (some ⟨Ce,0,none⟩) Bh.length Cp)) (ok:=(fun k_=>k_≠Az∧k_≠Ac)) (qN (Kd.N_mono Ay.out (fun _ hk=>⟨⟨hk.2.1,hk.2.2⟩,hk.1⟩))) hg (.inl rfl));replace Bj:=y0.mk (Kd.V_afterv (v:=(.slice (some ⟨Ce,0,none⟩) Bh.length Cp)) (v1:=(.slice (some ⟨Ce,0,none⟩) Bh.length Cp)) (ok:=(fun k_=>some k_≠(.slice (some Bk) Ab.length Bw:Value).ownBlock∧k_≠Az∧k_≠Ac)) (qV (Kd.V_mono Bj.out (fun _ hk=>⟨⟨hk.2.1,⟨hk.2.2.1,hk.2.2.2⟩⟩,hk.1⟩))) hg (.inl rfl));replace Aw:=y0.mk (Kd.V_afterv (v:=(.slice (some ⟨Ce,0,none⟩) Bh.length Cp)) (v1:=(.slice (some ⟨Ce,0,none⟩) Bh.length Cp)) (ok:=(fun k_=>some k_≠(.slice (some Bk) Ab.length Bw:Value).ownBlock∧k_≠Az∧k_≠Ac)) (qV (Kd.V_mono Aw.out (fun _ hk=>⟨⟨hk.2.1,⟨hk.2.2.1,hk.2.2.2⟩⟩,hk.1⟩))) hg (.inl rfl));replace Ah:=y0.mk (blk_grown (qk Ah.out) hg (Kd.R_ne Am.out Ah.out (by decide)));replace Ar:=y0.mk (blk_grown (qk Ar.out) hg (Kd.R_ne Am.out Ar.out (by decide)));replace Am:=y0.mk (hp_);replace HB:=y0.mk ((by rw [hw];exact y3 (HB.out) Pz.out:Below w.heap.size w He));clear hg hw hp_))
              go_roundg k4
              case measure=>have:=Ca.out;have:=Bx.out;have:=Er.out;have:=Og.out;omega
              exact⟨(Ha),(wrap64 (Ak + 1)),qy2,H',⟨by have:=Ca.out;have:=Bx.out;have:=Er.out;have:=Og.out;omega⟩,⟨qR Am.out⟩,⟨qN (Kd.N_mono Ay.out (fun _ hk=>⟨hk.2,⟨hk.1.1,hk.1.2⟩⟩))⟩,⟨qV (Kd.V_mono Bj.out (fun _ hk=>⟨hk.2,⟨hk.1.1,⟨hk.1.2.1,hk.1.2.2⟩⟩⟩))⟩,⟨qV (Kd.V_mono Aw.out (fun _ hk=>⟨hk.2,⟨hk.1.1,⟨hk.1.2.1,hk.1.2.2⟩⟩⟩))⟩,⟨qk Ah.out⟩,⟨qk Ar.out⟩,⟨qb⟩⟩
             ·replace Oh:=Bool.eq_false_iff.mpr Oh
              subst Oh
              replace H:=qF H
              obtain rfl:=Option.some.inj H
              have Cn:0≤(Ak:Int):=of_decide_eq_true qy0
              have Co:Ak < (((y19 Ab Aa).f2).length:Int):=of_decide_eq_true qy0
              obtain⟨Cw,Hb,Cd⟩:=Kd.at_int (Kd.V_reads' Bj.out).2.2 Ak Cn Co
              cases Hb
              replace Cn:=eq_true Cn
              replace Co:=eq_true Co
              have Qc:=Ag.out
              have Qd:=Au.out
              obtain⟨Iz,Ja,Jb,Jc,Jd,Je,Jf,Jg,Jh,Ji⟩:=qz5 Ah.out
              go_wp2_with (first|((with_reducible refine y15 (f:=66) rfl ?_);refine y17 (some 114) rfl rfl Tryz.func66 (by kernel_rfl) rfl #[.int .i64 (rd ((y19 Ab Aa).f2) Ak),.int .i64 0,.int .i64 (wrap64 ((Af.length:Int) - 1))] rfl qy1 ?_;(with_reducible refine(impl_in.calls (rd ((y19 Ab Aa).f2) Ak) 0 (wrap64 ((Af.length:Int) - 1)) false _ Su.out).mono ?_);rintro e w' ⟨rfl,⟨nd,rfl⟩⟩;refine⟨_,rfl, ?_⟩))
              go_ret
              exact⟨qf,qb⟩
            ·as_aux_lemma =>
             rw [if_neg Hl]at H
             have Iu:=decide_eq_false Hl
             clear Hl
             have H':=y0.mk H
             clear H
             go_wp2
             go_roundg k4
             case measure=>have:=Ca.out;have:=Bx.out;have:=Er.out;have:=Og.out;omega
             exact⟨(Bh),(wrap64 (Aa + 1)),qy2,H',⟨by have:=Ca.out;have:=Bx.out;have:=Er.out;have:=Og.out;omega⟩,⟨qR Am.out⟩,⟨qN (Kd.N_mono Ay.out (fun _ hk=>⟨hk.1,hk.2.1⟩))⟩,⟨qk Ah.out⟩,⟨qb⟩⟩
      ·as_aux_lemma =>
       rw [if_neg Hk]at H
       have Fn:=decide_eq_false Hk
       clear Hk
       by_cases Dh:(Af.length:Int)≤60
       ·as_aux_lemma =>
        rw [if_pos Dh]at H
        have Hf:=decide_eq_true Dh
        have Hg:decide (Af.length≤60)=true:=decide_eq_true (by omega)
        clear Dh
        obtain⟨Qe,Qf,H⟩:=qB H
        obtain rfl:=Option.some.inj H
        obtain⟨Jj,Jk,Jl,Jm,Jn,Jo,Jp,Jq,Jr,Js⟩:=qz5 Ah.out
        obtain⟨Td,Te,Jt⟩:=Kd.R_slice Am.out
        subst Jt
        go_wp2_with (first|(go_at_call 61;(with_reducible refine(slices_ContainsFunc_int_int_impl_isFormed_1.calls k2 _ _ Bd  Qe _ (qc ((Kd.R_reads' Am.out).2.2)) (by exact(Kd.R_reads' Am.out).2.1) Qf.out).mono ?_);rintro e w' ⟨rfl,⟨nd,rfl⟩⟩))
        go_ret
        exact⟨qf,qb⟩
       ·as_aux_lemma =>
        rw [if_neg Dh]at H
        have Hf:=decide_eq_false Dh
        have Hg:decide (Af.length≤60)=false:=decide_eq_false (by omega)
        clear Dh
        obtain rfl:=Option.some.inj H
        obtain⟨Ju,Jv,Jw,Jx,Jy,Jz,Ka,Kb,Ke,Kf⟩:=qz5 Ah.out
        go_wp2
        go_ret
        exact⟨qf,qb⟩
end Go.Proofs.YtkdabljlfbmpdaaGreat.Pb
end
section
namespace Go.Proofs.YtkdabljlfbmpdaaGreat.Pb
open Go.RowKit Go.Proofs.YtkdabljlfbmpdaaGreatW.PrintWords Go.Proofs.YtkdabljlfbmpdaaGreatW.PrintLast Go.Proofs.YtkdabljlfbmpdaaGreatW.PrintMore
attribute [local go_sem] max2_int min2_int max_two min_two max_three min_three max_four min_four   -- for this text's walks alone
set_option linter.unusedVariables false
set_option linter.unusedSimpArgs false
def strings_Join.f (l0:List ByteArray) (a1:ByteArray):Option ByteArray:=if(Lib.join (l0.map (·.data.toList)) a1.data.toList).length≤140737488355328 then if l0.length≤140737488355328 then some ⟨(Lib.join (l0.map (·.data.toList)) a1.data.toList).toArray⟩else none else none
theorem strings_Join.calls (A0:Option Addr) (c0:Nat) (l0:List ByteArray) (a1:ByteArray) (r:ByteArray) (w:World) (Ab:Kd.C Kd.string w A0 l0.length l0) (Ac:l0.length≤c0) (h:strings_Join.f l0 a1=some r) :
  Calls Tryz.prog 57 #[.slice A0 l0.length c0,.string a1] w fun e w'=>e=.returned (.string r)∧Below w.heap.size w w':=by
 unfold strings_Join.f at h
 by_cases h0:(Lib.join (l0.map (·.data.toList)) a1.data.toList).length≤140737488355328
 ·by_cases h1:l0.length≤140737488355328
  ·rw [if_pos h0,if_pos h1]at h
   obtain rfl:=Option.some.inj h
   cases l0 with
   | nil =>
    refine(Tryz.strings_Join_none A0 c0 a1 w).mono ?_
    rintro e w' ⟨rfl,rfl⟩
    exact⟨rfl,Below.refl _ _⟩
   | cons x xs =>
    obtain⟨⟨b,o,p⟩,rfl,hx⟩:=Ab.2.2 (by simp)
    have hcell:∀(j:Nat) y,(x :: xs)[j]?=some y→w.cell? ((⟨b,o,p⟩:Addr).add j)=some (.string y):=by
     intro j y hy
     obtain⟨c,hl,hK,hc⟩:=hx j y hy
     have e:c=[.string y]:=hK
     have:=hc 0 (.string y) (by rw [e];rfl)
     simpa [Kd.string,Kd.scalar] using this
    have hp:p=none:=by
     have Aa:=hcell 0 x rfl
     cases p with
     | none=>rfl
     | some q =>
      simp only [World.cell?,Addr.add]at Aa
      split at Aa <;> simp at Aa
    subst hp
    have hcell2:∀(j:Nat) y,(x :: xs)[j]?=some y→w.cell? ⟨b,o + j,none⟩=some (.string y):=by
     intro j y hy
     have:=hcell j y hy
     have e:(⟨b,o,none⟩:Addr).add j=⟨b,o + j,none⟩:=by
      unfold Addr.add
      split <;> simp_all
     rwa [e]at this
    exact Tryz.strings_Join b o c0 (x :: xs) a1 w hcell2 (World.block_lt_of_cell? w _ (hcell2 0 x rfl)) h1 Ac h0
  ·rw [if_pos h0,if_neg h1]at h
   cases h
 ·rw [if_neg h0]at h
  cases h
end Go.Proofs.YtkdabljlfbmpdaaGreat.Pb
end
