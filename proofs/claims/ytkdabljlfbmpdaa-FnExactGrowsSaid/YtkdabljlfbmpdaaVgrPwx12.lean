-- Cut by prune.py.
import Derived.Test.YtkdabljlfbmpdaaVgrPwx11
set_option maxHeartbeats 8000000
set_option maxRecDepth 100000
namespace Go.Proofs.Ytkdabljlfbmpdaa.Pw
open RowKit YtkdabljlfbmpdaaW.PrintWords YtkdabljlfbmpdaaW.PrintLast YtkdabljlfbmpdaaW.PrintMore
set_option linter.unusedVariables false
set_option linter.unusedSimpArgs false
def spec_Old.l0:Nat→List ByteArray→List ByteArray→Int→List (S63)→Int→ByteArray→List Int→List (S33)→Option (List ByteArray)
 | 0,_,_,_,_,_,_,_,_=>none
 | k + 1,x3,x4,x5,Ae,Al,An,Ao,Aq=>if x5 < (Ae.length:Int)then(if 0≤x5 then(if((y19 Ae x5).f0)=1 then((spec_l05In.f k x4 ((y19 Ae x5).f1)).bind fun By=>(if By=true then((spec_l05In.f k x3 ((y19 Ae x5).f1)).bind fun Di=>(if Di=true then(spec_Old.l0 k x3 x4 (wrap64 (x5 + 1)) Ae Al An Ao Aq)else(if x3.length < 8796093022208 then(spec_Old.l0 k (x3 ++ [(y19 Ae x5).f1]) x4 (wrap64 (x5 + 1)) Ae Al An Ao Aq)else(none))))else(spec_Old.l0 k x3 x4 (wrap64 (x5 + 1)) Ae Al An Ao Aq)))else(spec_Old.l0 k x3 x4 (wrap64 (x5 + 1)) Ae Al An Ao Aq))else(none))else(some x3)
def spec_Old.f (k:Nat) (Ae:List (S63)) (Al:Int) (An:ByteArray) (Ao:List Int) (Aq:List (S33)):Option (List ByteArray):=(some (([]:List ByteArray):List ByteArray)).bind fun y340=>((z7_.f k Ae Al An Ao Aq).bind fun By=>(if By.toList=([]:List UInt8)then(some y340)else((spec_l08Old.f k Ae Al An Ao Aq).bind fun Di=>(spec_Old.l0 k y340 Di 0 Ae Al An Ao Aq))))
theorem spec_Old.calls (k:Nat) (Bs:Option Addr) (Bt:Nat) (Ac:List (S63)) (Aw:Int) (Ax:ByteArray) (Bu:Option Addr) (Bv:Nat) (Ar:List Int) (Bw:Option Addr) (Bx:Nat) (As:List (S33)) (r:List ByteArray) (w:World) (Dw:Kd.C k63 w Bs Ac.length Ac) (Dx:Ac.length≤Bt) (Dy:Kd.C (Kd.int .i64) w Bu Ar.length Ar) (Dz:Ar.length≤Bv) (Ea:Kd.C k33 w Bw As.length As) (Eb:As.length≤Bx) (h:spec_Old.f k Ac Aw Ax Ar As=some r) :
  Calls Try.prog 15 #[.agg #[.slice Bs Ac.length Bt,.int .i64 Aw,.string Ax,.slice Bu Ar.length Bv,.slice Bw As.length Bx]] w fun e w'=>∃ v0_:Value,e=.returned (v0_)∧Kd.R Kd.string 9 w' w.heap.size (fun _=>True) v0_ r∧Below w.heap.size w w':=by
 have Il:=Try.underlying36
 have Av:=y0.mk Dw
 have Cn:=y0.mk Dx
 clear Dw Dx
 have Cp:=y0.mk Dy
 have Cq:=y0.mk Dz
 clear Dy Dz
 have Cr:=y0.mk Ea
 have Cs:=y0.mk Eb
 clear Ea Eb
 have HB:=y0.mk (Below.refl w.heap.size w)
 have H:((some (([]:List ByteArray):List ByteArray)).bind fun Cm=>((z7_.f k Ac Aw Ax Ar As).bind fun Bk=>(if Bk.toList=([]:List UInt8)then(some Cm)else((spec_l08Old.f k Ac Aw Ax Ar As).bind fun Bi=>(spec_Old.l0 k Cm Bi 0 Ac Aw Ax Ar As)))))=some r:=h
 clear h
 obtain⟨Cm,Bz⟩:∃ y_:List ByteArray,y_=(([]:List ByteArray)):=⟨_,rfl⟩
 replace H:((z7_.f k Ac Aw Ax Ar As).bind fun Bk=>(if Bk.toList=([]:List UInt8)then(some Cm)else((spec_l08Old.f k Ac Aw Ax Ar As).bind fun Bi=>(spec_Old.l0 k Cm Bi 0 Ac Aw Ax Ar As))))=some r:=by first|exact Bz ▸ H|exact Bz ▸ (Option.bind_some _ _).symm.trans H
 replace Bz:=y0.mk Bz
 obtain⟨Bk,A2,H⟩:=qB H
 by_cases c3:Bk.toList=([]:List UInt8)
 ·rw [if_pos c3]at H
  have El:(Bk.toList == ([]:List UInt8))=true:=beq_iff_eq.mpr c3
  have Em:(Bk.toList != ([]:List UInt8))=false:=bne_eq_false_iff_eq.mpr c3
  clear c3
  obtain rfl:=Option.some.inj H
  go_enter Try.func15,Try.ntmps15
  go_wp2_with (first|((with_reducible refine y16 (N:=1) rfl ?_);refine qe 1 #[.slice Bs Ac.length Bt,.int .i64 Aw,.string Ax,.slice Bu Ar.length Bv,.slice Bw As.length Bx] 36 ?_;intro Ec hg w4 hbox hb;have Ad:=y0.mk (hbox);have En:=y0.mk (qg (w:=w) hg);have Eo:=y0.mk (qg (w:=w) hg);replace HB:=y0.mk (y4 qb hb);clear hb hbox hg)|((with_reducible refine y16 (N:=6) rfl ?_);refine qL Kd.string 9 6 ([]:List ByteArray) ?_;intro Hg w5 Ep hb hg_ hnew_;clear hg_ hnew_;(first|rw [← Bz.out]at Ep|(simp only [Int.reduceToNat]at Ep;rw [← Bz.out]at Ep));have Bb:=y0.mk (Kd.R_lower Ep (y3 qb));replace Ad:=y0.mk (qK Ad.out hb);replace HB:=y0.mk (y4 qb hb);clear hb Ep;obtain⟨Hh,Hi,Hj,Hk,Hl,Hm,Hn,Ho,Hp,Hq⟩:=qz5 Ad.out)|((with_reducible refine y15 (f:=22) rfl ?_);refine y17 (some 8) rfl rfl Try.func22 (by kernel_rfl) rfl #[.agg #[.slice Bs Ac.length Bt,.int .i64 Aw,.string Ax,.slice Bu Ar.length Bv,.slice Bw As.length Bx]] rfl qy1 ?_;(with_reducible refine(z7_.calls k _ _ Ac Aw Ax _ _ Ar _ _ As Bk _ (qc (Kd.C_below Av.out HB.out)) Cn.out (qc (Kd.C_below Cp.out HB.out)) Cq.out (qc (Kd.C_below Cr.out HB.out)) Cs.out A2.out).mono ?_);rintro e w8 ⟨rfl,hb⟩;refine⟨_,rfl, ?_⟩;replace Bb:=y0.mk (Kd.R_below (qR Bb.out) hb);replace Ad:=y0.mk (qK Ad.out hb);replace HB:=y0.mk (y4 qb hb);(try clear hb)))
  go_ret
  exact⟨_,by first|rfl|(simp [y12,y13] <;> rfl)|(simp [*,y12,y13] <;> rfl),by(with_reducible repeat(first|apply Kd.R_alloc|apply Kd.R_drewN|apply Kd.R_drew));exact Bb.out,qb⟩
 ·rw [if_neg c3]at H
  have El:(Bk.toList == ([]:List UInt8))=false:=beq_eq_false_iff_ne.mpr c3
  have Em:(Bk.toList != ([]:List UInt8))=true:=bne_iff_ne.mpr c3
  obtain⟨Bi,A9,H⟩:=qB H
  have H':=y0.mk H
  clear H
  go_enter Try.func15,Try.ntmps15
  go_wp2_with (first|((with_reducible refine y16 (N:=1) rfl ?_);refine qe 1 #[.slice Bs Ac.length Bt,.int .i64 Aw,.string Ax,.slice Bu Ar.length Bv,.slice Bw As.length Bx] 36 ?_;intro Ec hg Iv hbox hb;have Ad:=y0.mk (hbox);have En:=y0.mk (qg (w:=w) hg);have Eo:=y0.mk (qg (w:=w) hg);replace HB:=y0.mk (y4 qb hb);clear hb hbox hg)|((with_reducible refine y16 (N:=6) rfl ?_);refine qL Kd.string 9 6 ([]:List ByteArray) ?_;intro Hg Iw Ct hb hg_ hnew_;clear hg_ hnew_;(first|rw [← Bz.out]at Ct|(simp only [Int.reduceToNat]at Ct;rw [← Bz.out]at Ct));have Bb:=y0.mk (Kd.R_lower Ct (y3 qb));replace Ad:=y0.mk (qK Ad.out hb);replace HB:=y0.mk (y4 qb hb);clear hb Ct;obtain⟨Cy,Cz,Da,Db,Dc,Dd,De,Df,Dg,Dh⟩:=qz5 Ad.out)|((with_reducible refine y15 (f:=22) rfl ?_);refine y17 (some 8) rfl rfl Try.func22 (by kernel_rfl) rfl #[.agg #[.slice Bs Ac.length Bt,.int .i64 Aw,.string Ax,.slice Bu Ar.length Bv,.slice Bw As.length Bx]] rfl qy1 ?_;(with_reducible refine(z7_.calls k _ _ Ac Aw Ax _ _ Ar _ _ As Bk _ (qc (Kd.C_below Av.out HB.out)) Cn.out (qc (Kd.C_below Cp.out HB.out)) Cq.out (qc (Kd.C_below Cr.out HB.out)) Cs.out A2.out).mono ?_);rintro e Ix ⟨rfl,hb⟩;refine⟨_,rfl, ?_⟩;replace Bb:=y0.mk (Kd.R_below (qR Bb.out) hb);replace Ad:=y0.mk (qK Ad.out hb);replace HB:=y0.mk (y4 qb hb);(try clear hb);obtain⟨Di,Dj,Dk,Dl,Dm,Do,Dp,Dq,Dr,Ds⟩:=qz5 Ad.out)|((with_reducible refine y15 (f:=38) rfl ?_);refine y17 (some 12) rfl rfl Try.func38 (by kernel_rfl) rfl #[.agg #[.slice Bs Ac.length Bt,.int .i64 Aw,.string Ax,.slice Bu Ar.length Bv,.slice Bw As.length Bx]] rfl qy1 ?_;(with_reducible refine(spec_l08Old.calls k _ _ Ac Aw Ax _ _ Ar _ _ As Bi _ (qc (Kd.C_below Av.out HB.out)) Cn.out (qc (Kd.C_below Cp.out HB.out)) Cq.out (qc (Kd.C_below Cr.out HB.out)) Cs.out A9.out).mono ?_);rintro e Iy ⟨Eq,rfl,Hr,hb⟩;refine⟨_,rfl, ?_⟩;have Er:=y0.mk (Kd.R_lower (Kd.R_new' Hr (Kd.R_lt (qR Bb.out))) (y3 qb));replace Bb:=y0.mk (Kd.R_elder' (qR Bb.out) (Kd.R_base Hr) hb);replace Ad:=y0.mk (qK Ad.out hb);replace HB:=y0.mk (y4 qb hb);(try clear hb);(try clear Hr)))
  go_loopg [3,5] k (fun kq v3 v5 w'=>∃(Bl:List ByteArray) (Ab:Int),v5=.int .i64 Ab∧y0 (spec_Old.l0 kq Bl Bi Ab Ac Aw Ax Ar As=some r)∧y0 (kq≤k)∧y0 (Kd.R Kd.string 9 w' w.heap.size (fun k_=>some k_≠(Eq:Value).ownBlock) v3 Bl)∧y0 (Kd.R Kd.string 9 w' w.heap.size (fun k_=>some k_≠(v3:Value).ownBlock) Eq Bi)∧y0 (w'.heap[Ec]?=some (.cells #[(.slice Bs Ac.length Bt),.int .i64 Aw,.string Ax,(.slice Bu Ar.length Bv),(.slice Bw As.length Bx)] 36 (0,0)))∧y0 (Below w.heap.size w w'))
  case atStart=>exact⟨(Cm),(0),qy2,H',⟨Nat.le_refl _⟩,⟨qR (Kd.R_mono Bb.out (fun _ hk=>hk.2))⟩,⟨qR (Kd.R_mono Er.out (fun _ hk=>hk.2))⟩,⟨qk Ad.out⟩,⟨qb⟩⟩
  case round =>
   clear H'
   (try clear El Em Cy Cz Da Db Dc Di Dj Dk Dl Dm Dd De Df Dg Dh Do Dp Dq Dr Ds)
   obtain⟨Bl,Ab,rfl,HA,Ed,Bh,Ba,Ad,HB⟩:=hrel
   cases gk with
   | zero=>exact absurd HA.out (by simp [spec_Old.l0])
   | succ k1 =>
    have H:=HA.out
    clear HA
    simp only [spec_Old.l0]at H
    by_cases Ek:Ab < (Ac.length:Int)
    ·rw [if_pos Ek]at H
     have Es:=decide_eq_true Ek
     clear Ek
     obtain⟨Ih,H⟩:=qo H
     have Ii:decide (0≤Ab)=true:=decide_eq_true Ih
     clear Ih
     by_cases Ee:((y19 Ac Ab).f0)=1
     ·rw [if_pos Ee]at H
      have Et:(((y19 Ac Ab).f0) == 1)=true:=beq_iff_eq.mpr Ee
      have Eu:(((y19 Ac Ab).f0) != 1)=false:=bne_eq_false_iff_eq.mpr Ee
      clear Ee
      obtain⟨Hs,Ht,H⟩:=qB H
      by_cases Fb:Hs=true
      ·subst Fb
       replace H:=qT H
       obtain⟨Hu,Ij,H⟩:=qB H
       by_cases Fc:Hu=true
       ·subst Fc
        replace H:=qT H
        have H':=y0.mk H
        clear H
        obtain⟨Fd,Fe,Ff,Fg,Fh,Fi,Fj,Fk,Fl,Fm⟩:=qz5 Ad.out
        have Bc:0≤(Ab:Int):=qd
        have Bd:Ab < (Ac.length:Int):=qd
        obtain⟨Be,Cc,Cd,Ce,Af,Ag,Aa,Ai,Aj⟩:=at_T63 Av.out Ab Bc Bd
        cases Ce
        replace Af:=qC Af HB
        replace Ag:=qC Ag HB
        replace Aa:=qC Aa HB
        have Bo:=y0.mk Aj
        have Bp:=y0.mk Ai
        clear Aj Ai
        replace Bc:=eq_true Bc
        replace Bd:=eq_true Bd
        have Bm:0≤(Ab:Int):=qd
        have Bn:Ab < (Ac.length:Int):=qd
        obtain⟨Ca,Cu,Cv,Cw,Ak,Am,Ah,At,Au⟩:=at_T63 Av.out Ab Bm Bn
        obtain rfl:Be=Ca:=(by injection Cw)
        replace Ak:=qC Ak HB
        replace Am:=qC Am HB
        replace Ah:=qC Ah HB
        have Ci:=y0.mk Au
        have Cj:=y0.mk At
        clear Au At
        replace Bm:=eq_true Bm
        replace Bn:=eq_true Bn
        have ea_:=Option.some.inj (Aa.symm.trans Ah)
        injection ea_ with ea_ en_ ec_
        subst ea_
        subst ec_
        clear en_
        obtain⟨Im,Io,Hv⟩:=Kd.R_slice Ba.out
        subst Hv
        go_wp2_with (first|(go_at_call 39;(with_reducible refine(spec_l05In.calls k1 _ _ Bi ((y19 Ac Ab).f1) true _ (qc ((Kd.R_reads' Ba.out).2.2)) (by exact(Kd.R_reads' Ba.out).2.1) Ht.out).mono ?_);rintro e w' ⟨rfl,⟨nd,rfl⟩⟩;have Cf:0≤(Ab:Int):=qd;have Cg:Ab < (Ac.length:Int):=qd;obtain⟨Cx,Ef,Eg,Eh,Ay,Az,Ap,Bf,Bg⟩:=at_T63 Av.out Ab Cf Cg;obtain rfl:Be=Cx:=(by injection Eh);replace Ay:=qC Ay HB;replace Az:=qC Az HB;replace Ap:=qC Ap HB;have Dt:=y0.mk Bg;have Du:=y0.mk Bf;clear Bg Bf;replace Cf:=eq_true Cf;replace Cg:=eq_true Cg;have ea_:=Option.some.inj (Aa.symm.trans Ap);injection ea_ with ea_ en_ ec_;subst ea_;subst ec_;clear en_;obtain⟨Ip,Iq,Hw⟩:=Kd.R_slice Bh.out;subst Hw)|(go_at_call 39;(with_reducible refine(spec_l05In.calls k1 _ _ Bl ((y19 Ac Ab).f1) true _ (qc ((Kd.R_reads' Bh.out).2.2)) (by exact(Kd.R_reads' Bh.out).2.1) Ij.out).mono ?_);rintro e w' ⟨rfl,⟨nd,rfl⟩⟩))
        go_roundg k1
        case measure=>have:=Ed.out;omega
        exact⟨(Bl),(wrap64 (Ab + 1)),qy2,H',⟨by have:=Ed.out;omega⟩,⟨qR Bh.out⟩,⟨qR Ba.out⟩,⟨qk Ad.out⟩,⟨qb⟩⟩
       ·replace Fc:=Bool.eq_false_iff.mpr Fc
        subst Fc
        replace H:=qF H
        obtain⟨Ik,H⟩:=qo H
        replace Ik:=y0.mk Ik
        obtain⟨Ex,Cb⟩:∃ y_:List ByteArray,y_=(Bl ++ [(y19 Ac Ab).f1]):=⟨_,rfl⟩
        replace H:(spec_Old.l0 k1 Ex Bi (wrap64 (Ab + 1)) Ac Aw Ax Ar As)=some r:=by first|exact Cb ▸ H|exact Cb ▸ (Option.bind_some _ _).symm.trans H
        replace Cb:=y0.mk Cb
        have H':=y0.mk H
        clear H
        obtain⟨Fn,Fo,Fp,Fq,Fr,Fs,Ft,Fu,Fv,Fx⟩:=qz5 Ad.out
        have Bc:0≤(Ab:Int):=qd
        have Bd:Ab < (Ac.length:Int):=qd
        obtain⟨Be,Cc,Cd,Ce,Af,Ag,Aa,Ai,Aj⟩:=at_T63 Av.out Ab Bc Bd
        cases Ce
        replace Af:=qC Af HB
        replace Ag:=qC Ag HB
        replace Aa:=qC Aa HB
        have Bo:=y0.mk Aj
        have Bp:=y0.mk Ai
        clear Aj Ai
        replace Bc:=eq_true Bc
        replace Bd:=eq_true Bd
        have Bm:0≤(Ab:Int):=qd
        have Bn:Ab < (Ac.length:Int):=qd
        obtain⟨Ca,Cu,Cv,Cw,Ak,Am,Ah,At,Au⟩:=at_T63 Av.out Ab Bm Bn
        obtain rfl:Be=Ca:=(by injection Cw)
        replace Ak:=qC Ak HB
        replace Am:=qC Am HB
        replace Ah:=qC Ah HB
        have Ci:=y0.mk Au
        have Cj:=y0.mk At
        clear Au At
        replace Bm:=eq_true Bm
        replace Bn:=eq_true Bn
        have ea_:=Option.some.inj (Aa.symm.trans Ah)
        injection ea_ with ea_ en_ ec_
        subst ea_
        subst ec_
        clear en_
        obtain⟨Hx,Hy,Hz⟩:=Kd.R_slice Ba.out
        subst Hz
        go_wp2_with (first|(go_at_call 39;(with_reducible refine(spec_l05In.calls k1 _ _ Bi ((y19 Ac Ab).f1) true _ (qc ((Kd.R_reads' Ba.out).2.2)) (by exact(Kd.R_reads' Ba.out).2.1) Ht.out).mono ?_);rintro e w' ⟨rfl,⟨nd,rfl⟩⟩;have Cf:0≤(Ab:Int):=qd;have Cg:Ab < (Ac.length:Int):=qd;obtain⟨Cx,Ef,Eg,Eh,Ay,Az,Ap,Bf,Bg⟩:=at_T63 Av.out Ab Cf Cg;obtain rfl:Be=Cx:=(by injection Eh);replace Ay:=qC Ay HB;replace Az:=qC Az HB;replace Ap:=qC Ap HB;have Dt:=y0.mk Bg;have Du:=y0.mk Bf;clear Bg Bf;replace Cf:=eq_true Cf;replace Cg:=eq_true Cg;have ea_:=Option.some.inj (Aa.symm.trans Ap);injection ea_ with ea_ en_ ec_;subst ea_;subst ec_;clear en_;obtain⟨Ia,Ib,Ic⟩:=Kd.R_slice Bh.out;subst Ic)|(go_at_call 39;(with_reducible refine(spec_l05In.calls k1 _ _ Bl ((y19 Ac Ab).f1) false _ (qc ((Kd.R_reads' Bh.out).2.2)) (by exact(Kd.R_reads' Bh.out).2.1) Ij.out).mono ?_);rintro e w' ⟨rfl,⟨nd,rfl⟩⟩;have Ei:0≤(Ab:Int):=qd;have Ej:Ab < (Ac.length:Int):=qd;obtain⟨Ez,Id,Ie,If,Bq,Br,Bj,Ck,Cl⟩:=at_T63 Av.out Ab Ei Ej;obtain rfl:Be=Ez:=(by injection If);replace Bq:=qC Bq HB;replace Br:=qC Br HB;replace Bj:=qC Bj HB;have Fy:=y0.mk Cl;have Fz:=y0.mk Ck;clear Cl Ck;replace Ei:=eq_true Ei;replace Ej:=eq_true Ej;have ea_:=Option.some.inj (Aa.symm.trans Bj);injection ea_ with ea_ en_ ec_;subst ea_;subst ec_;clear en_)|((with_reducible refine gate_builtin (b:=.append) (xs:=#[.tmp 48,.tmp 55]) rfl ?_);at_builtin;refine Kd.R_append Kd.string (w0:=w) w.heap.size rfl (.tmp 48) (.tmp 55) 30 9 (.string ⟨#[]⟩) 16 rfl Try.underlying30 info9 rfl (by decide) (by omega) (.slice Ia Bl.length Ib) Bl ((y19 Ac Ab).f1) [.string ((y19 Ac Ab).f1)] (fun k_=>some k_≠(.slice Hx Bi.length Hy:Value).ownBlock) (fun _=>False) rfl rfl ?aP (fun _ hk=>hk.elim) ?aF ?aO ?aB ?aS ?aL ?_;(case aP=>exact rfl);(case aB=>exact qb);(case aF=>exact(fun k_ hk=>Kd.fresh' (Kd.R_lt (qR Ba.out)) k_ hk));(case aO=>exact(qR Bh.out));(case aS=>exact(y3 qb));(case aL=>have:=Ik.out;omega);intro Ir Iz ho hb hg hat;rw [← Cb.out]at ho;replace Ba:=y0.mk (Kd.R_after (ok:=(fun _=>True)) (qR (Kd.R_mono Ba.out (fun _ hk=>⟨trivial,hk⟩))) hg hat);replace Ad:=y0.mk (blk_grown (qk Ad.out) hg (Kd.R_ne Bh.out Ad.out (by decide)));replace HB:=y0.mk (hb);have Fa:=y0.mk (ho);clear Bh;clear ho hb hg hat))
        go_roundg k1
        case measure=>have:=Ed.out;omega
        exact⟨(Ex),(wrap64 (Ab + 1)),qy2,H',⟨by have:=Ed.out;omega⟩,⟨qR Fa.out⟩,⟨qR (Kd.R_mono Ba.out (fun _ hk=>hk.2))⟩,⟨qk Ad.out⟩,⟨qb⟩⟩
      ·replace Fb:=Bool.eq_false_iff.mpr Fb
       subst Fb
       replace H:=qF H
       have H':=y0.mk H
       clear H
       obtain⟨Ga,Gb,Gc,Gd,Ge,Gf,Gg,Gh,Gi,Gj⟩:=qz5 Ad.out
       have Bc:0≤(Ab:Int):=qd
       have Bd:Ab < (Ac.length:Int):=qd
       obtain⟨Be,Cc,Cd,Ce,Af,Ag,Aa,Ai,Aj⟩:=at_T63 Av.out Ab Bc Bd
       cases Ce
       replace Af:=qC Af HB
       replace Ag:=qC Ag HB
       replace Aa:=qC Aa HB
       have Bo:=y0.mk Aj
       have Bp:=y0.mk Ai
       clear Aj Ai
       replace Bc:=eq_true Bc
       replace Bd:=eq_true Bd
       have Bm:0≤(Ab:Int):=qd
       have Bn:Ab < (Ac.length:Int):=qd
       obtain⟨Ca,Cu,Cv,Cw,Ak,Am,Ah,At,Au⟩:=at_T63 Av.out Ab Bm Bn
       obtain rfl:Be=Ca:=(by injection Cw)
       replace Ak:=qC Ak HB
       replace Am:=qC Am HB
       replace Ah:=qC Ah HB
       have Ci:=y0.mk Au
       have Cj:=y0.mk At
       clear Au At
       replace Bm:=eq_true Bm
       replace Bn:=eq_true Bn
       have ea_:=Option.some.inj (Aa.symm.trans Ah)
       injection ea_ with ea_ en_ ec_
       subst ea_
       subst ec_
       clear en_
       obtain⟨Is,Iu,Ig⟩:=Kd.R_slice Ba.out
       subst Ig
       go_wp2_with (first|(go_at_call 39;(with_reducible refine(spec_l05In.calls k1 _ _ Bi ((y19 Ac Ab).f1) false _ (qc ((Kd.R_reads' Ba.out).2.2)) (by exact(Kd.R_reads' Ba.out).2.1) Ht.out).mono ?_);rintro e w' ⟨rfl,⟨nd,rfl⟩⟩))
       go_roundg k1
       case measure=>have:=Ed.out;omega
       exact⟨(Bl),(wrap64 (Ab + 1)),qy2,H',⟨by have:=Ed.out;omega⟩,⟨qR Bh.out⟩,⟨qR Ba.out⟩,⟨qk Ad.out⟩,⟨qb⟩⟩
     ·rw [if_neg Ee]at H
      have Et:(((y19 Ac Ab).f0) == 1)=false:=beq_eq_false_iff_ne.mpr Ee
      have Eu:(((y19 Ac Ab).f0) != 1)=true:=bne_iff_ne.mpr Ee
      have H':=y0.mk H
      clear H
      obtain⟨Gk,Gl,Gm,Gn,Gp,Gq,Gr,Gs,Gt,Gu⟩:=qz5 Ad.out
      have Bc:0≤(Ab:Int):=qd
      have Bd:Ab < (Ac.length:Int):=qd
      obtain⟨Be,Cc,Cd,Ce,Af,Ag,Aa,Ai,Aj⟩:=at_T63 Av.out Ab Bc Bd
      cases Ce
      replace Af:=qC Af HB
      replace Ag:=qC Ag HB
      replace Aa:=qC Aa HB
      have Bo:=y0.mk Aj
      have Bp:=y0.mk Ai
      clear Aj Ai
      replace Bc:=eq_true Bc
      replace Bd:=eq_true Bd
      go_wp2
      go_roundg k1
      case measure=>have:=Ed.out;omega
      exact⟨(Bl),(wrap64 (Ab + 1)),qy2,H',⟨by have:=Ed.out;omega⟩,⟨qR Bh.out⟩,⟨qR Ba.out⟩,⟨qk Ad.out⟩,⟨qb⟩⟩
    ·rw [if_neg Ek]at H
     have Es:=decide_eq_false Ek
     clear Ek
     obtain rfl:=Option.some.inj H
     obtain⟨Gv,Gw,Gx,Gz,Ha,Hb,Hc,Hd,He,Hf⟩:=qz5 Ad.out
     go_wp2
     go_ret
     exact⟨_,by first|rfl|(simp [y12,y13] <;> rfl)|(simp [*,y12,y13] <;> rfl),by(with_reducible repeat(first|apply Kd.R_alloc|apply Kd.R_drewN|apply Kd.R_drew));exact Kd.R_mono Bh.out (fun _ hk=>trivial),qb⟩
def spec_l06All.l0:Nat→List ByteArray→List ByteArray→Int→Option (Bool)
 | 0,_,_,_=>none
 | k + 1,x0,x1,x5=>if x5 < (x0.length:Int)then(if 0≤x5 then((spec_l05In.f k x1 (rdOf ByteArray.empty x0 x5)).bind fun Ae=>(if Ae=true then(spec_l06All.l0 k x0 x1 (wrap64 (x5 + 1)))else(some false)))else(none))else(some true)
def spec_l06All.f (k:Nat) (l0:List ByteArray) (l1:List ByteArray):Option (Bool):=spec_l06All.l0 k l0 l1 0
theorem spec_l06All.calls (k:Nat) (A0:Option Addr) (c0:Nat) (l0:List ByteArray) (A1:Option Addr) (c1:Nat) (l1:List ByteArray) (r:Bool) (w:World) (Ai:Kd.C Kd.string w A0 l0.length l0) (Aj:l0.length≤c0) (Ak:Kd.C Kd.string w A1 l1.length l1) (Am:l1.length≤c1) (h:spec_l06All.f k l0 l1=some r) :
  Calls Try.prog 41 #[.slice A0 l0.length c0,.slice A1 l1.length c1] w fun e w'=>e=.returned (.bool r)∧Drawn0 w w':=by
 have Au:=y0.mk Ai
 have Aw:=y0.mk Aj
 clear Ai Aj
 have Ap:=y0.mk Ak
 have Ar:=y0.mk Am
 clear Ak Am
 have H:(spec_l06All.l0 k l0 l1 0)=some r:=h
 clear h
 have H':=y0.mk H
 clear H
 go_enter Try.func41,Try.ntmps41
 go_wp2
 go_loopg [5] k (fun kq v5 w'=>∃(Aa:Int),v5=.int .i64 Aa∧y0 (spec_l06All.l0 kq l0 l1 Aa=some r)∧y0 (kq≤k)∧Drawn0 w w')
 case atStart=>exact⟨(0),qy2,H',⟨Nat.le_refl _⟩,by repeat(first|exact Drawn0.refl _|apply Drawn0.step)⟩
 case round =>
  clear H'
  obtain⟨Aa,rfl,HA,As,⟨m1,rfl⟩⟩:=hrel
  cases gk with
  | zero=>exact absurd HA.out (by simp [spec_l06All.l0])
  | succ k1 =>
   have H:=HA.out
   clear HA
   simp only [spec_l06All.l0]at H
   by_cases c3:Aa < (l0.length:Int)
   ·rw [if_pos c3]at H
    have Af:=decide_eq_true c3
    clear c3
    obtain⟨c4,H⟩:=qo H
    have Av:decide (0≤Aa)=true:=decide_eq_true c4
    clear c4
    obtain⟨Ag,A5,H⟩:=qB H
    have Ab:0≤(Aa:Int):=qd
    have Ac:Aa < (l0.length:Int):=qd
    obtain⟨At,Ah,Ad⟩:=Kd.at_string Au.out Aa Ab Ac
    cases Ah
    replace Ab:=eq_true Ab
    replace Ac:=eq_true Ac
    by_cases c6:Ag=true
    ·subst c6
     replace H:=qT H
     have H':=y0.mk H
     clear H
     go_wp2_with (first|((with_reducible refine y15 (f:=39) rfl ?_);refine y17 (some 17) rfl rfl Try.func39 (by kernel_rfl) rfl #[.slice A1 l1.length c1,.string (rdOf ByteArray.empty l0 Aa)] rfl qy1 ?_;(with_reducible refine(spec_l05In.calls k1 _ _ l1 (rdOf ByteArray.empty l0 Aa) true _ (qc Ap.out) Ar.out A5.out).mono ?_);rintro e w' ⟨rfl,⟨nd,rfl⟩⟩;refine⟨_,rfl, ?_⟩))
     go_roundg k1
     case measure=>have:=As.out;omega
     exact⟨(wrap64 (Aa + 1)),qy2,H',⟨by have:=As.out;omega⟩,by repeat(first|exact Drawn0.refl _|apply Drawn0.step)⟩
    ·replace c6:=Bool.eq_false_iff.mpr c6
     subst c6
     replace H:=qF H
     obtain rfl:=Option.some.inj H
     go_wp2_with (first|((with_reducible refine y15 (f:=39) rfl ?_);refine y17 (some 17) rfl rfl Try.func39 (by kernel_rfl) rfl #[.slice A1 l1.length c1,.string (rdOf ByteArray.empty l0 Aa)] rfl qy1 ?_;(with_reducible refine(spec_l05In.calls k1 _ _ l1 (rdOf ByteArray.empty l0 Aa) false _ (qc Ap.out) Ar.out A5.out).mono ?_);rintro e w' ⟨rfl,⟨nd,rfl⟩⟩;refine⟨_,rfl, ?_⟩))
     go_ret
     exact qf2
   ·rw [if_neg c3]at H
    have Af:=decide_eq_false c3
    clear c3
    obtain rfl:=Option.some.inj H
    go_wp2
    go_ret
    exact qf2
end Go.Proofs.Ytkdabljlfbmpdaa.Pw
