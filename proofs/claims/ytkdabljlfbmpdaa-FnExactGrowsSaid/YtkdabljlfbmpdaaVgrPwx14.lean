-- Cut by prune.py.
import Derived.Test.YtkdabljlfbmpdaaVgrPwx13
set_option maxHeartbeats 8000000
set_option maxRecDepth 100000
section
namespace Go.Proofs.Ytkdabljlfbmpdaa.Pw
open RowKit YtkdabljlfbmpdaaW.PrintWords YtkdabljlfbmpdaaW.PrintLast YtkdabljlfbmpdaaW.PrintMore
set_option linter.unusedVariables false
set_option linter.unusedSimpArgs false
def spec_Bound.l0:Nat→List ByteArray→List ByteArray→Int→List (S63)→Int→ByteArray→List Int→List (S33)→Option (List ByteArray)
 | 0,_,_,_,_,_,_,_,_=>none
 | k + 1,x3,x4,x5,Ae,Al,An,Ao,Aq=>if x5 < (Ae.length:Int)then(if 0≤x5 then(if((y19 Ae x5).f0)=1 then((spec_l05In.f k x4 ((y19 Ae x5).f1)).bind fun By=>(if By=true then((spec_l05In.f k x3 ((y19 Ae x5).f1)).bind fun Di=>(if Di=true then(spec_Bound.l0 k x3 x4 (wrap64 (x5 + 1)) Ae Al An Ao Aq)else(if x3.length < 8796093022208 then(spec_Bound.l0 k (x3 ++ [(y19 Ae x5).f1]) x4 (wrap64 (x5 + 1)) Ae Al An Ao Aq)else(none))))else(spec_Bound.l0 k x3 x4 (wrap64 (x5 + 1)) Ae Al An Ao Aq)))else(spec_Bound.l0 k x3 x4 (wrap64 (x5 + 1)) Ae Al An Ao Aq))else(none))else(some x3)
def spec_Bound.f (k:Nat) (Ae:List (S63)) (Al:Int) (An:ByteArray) (Ao:List Int) (Aq:List (S33)):Option (List ByteArray):=(some (([]:List ByteArray):List ByteArray)).bind fun y401=>((z7_.f k Ae Al An Ao Aq).bind fun By=>(if By.toList=([]:List UInt8)then(some y401)else((z9_.f k Ae Al An Ao Aq).bind fun Di=>(spec_Bound.l0 k y401 Di 0 Ae Al An Ao Aq))))
theorem spec_Bound.calls (k:Nat) (Bs:Option Addr) (Bt:Nat) (Ac:List (S63)) (Aw:Int) (Ax:ByteArray) (Bu:Option Addr) (Bv:Nat) (Ar:List Int) (Bw:Option Addr) (Bx:Nat) (As:List (S33)) (r:List ByteArray) (w:World) (Dw:Kd.C k63 w Bs Ac.length Ac) (Dx:Ac.length≤Bt) (Dy:Kd.C (Kd.int .i64) w Bu Ar.length Ar) (Dz:Ar.length≤Bv) (Ea:Kd.C k33 w Bw As.length As) (Eb:As.length≤Bx) (h:spec_Bound.f k Ac Aw Ax Ar As=some r) :
  Calls Try.prog 42 #[.agg #[.slice Bs Ac.length Bt,.int .i64 Aw,.string Ax,.slice Bu Ar.length Bv,.slice Bw As.length Bx]] w fun e w'=>∃ v0_:Value,e=.returned (v0_)∧Kd.R Kd.string 9 w' w.heap.size (fun _=>True) v0_ r∧Below w.heap.size w w':=by
 have Il:=Try.underlying36
 have Av:=y0.mk Dw
 have Cn:=y0.mk Dx
 clear Dw Dx
 have Cp:=y0.mk Dy
 have Cq:=y0.mk Dz
 clear Dy Dz
 have Cr:=y0.mk Ea
 have Cs:=y0.mk Eb
 clear Ea Eb
 have HB:=y0.mk (Below.refl w.heap.size w)
 have H:((some (([]:List ByteArray):List ByteArray)).bind fun Cm=>((z7_.f k Ac Aw Ax Ar As).bind fun Bk=>(if Bk.toList=([]:List UInt8)then(some Cm)else((z9_.f k Ac Aw Ax Ar As).bind fun Bi=>(spec_Bound.l0 k Cm Bi 0 Ac Aw Ax Ar As)))))=some r:=h
 clear h
 obtain⟨Cm,Bz⟩:∃ y_:List ByteArray,y_=(([]:List ByteArray)):=⟨_,rfl⟩
 replace H:((z7_.f k Ac Aw Ax Ar As).bind fun Bk=>(if Bk.toList=([]:List UInt8)then(some Cm)else((z9_.f k Ac Aw Ax Ar As).bind fun Bi=>(spec_Bound.l0 k Cm Bi 0 Ac Aw Ax Ar As))))=some r:=by first|exact Bz ▸ H|exact Bz ▸ (Option.bind_some _ _).symm.trans H
 replace Bz:=y0.mk Bz
 obtain⟨Bk,A2,H⟩:=qB H
 by_cases c3:Bk.toList=([]:List UInt8)
 ·rw [if_pos c3]at H
  have El:(Bk.toList == ([]:List UInt8))=true:=beq_iff_eq.mpr c3
  have Em:(Bk.toList != ([]:List UInt8))=false:=bne_eq_false_iff_eq.mpr c3
  clear c3
  obtain rfl:=Option.some.inj H
  go_enter Try.func42,Try.ntmps42
  go_wp2_with (first|((with_reducible refine y16 (N:=1) rfl ?_);refine qe 1 #[.slice Bs Ac.length Bt,.int .i64 Aw,.string Ax,.slice Bu Ar.length Bv,.slice Bw As.length Bx] 36 ?_;intro Ec hg w4 hbox hb;have Ad:=y0.mk (hbox);have En:=y0.mk (qg (w:=w) hg);have Eo:=y0.mk (qg (w:=w) hg);replace HB:=y0.mk (y4 qb hb);clear hb hbox hg)|((with_reducible refine y16 (N:=6) rfl ?_);refine qL Kd.string 9 6 ([]:List ByteArray) ?_;intro Hg w5 Ep hb hg_ hnew_;clear hg_ hnew_;(first|rw [← Bz.out]at Ep|(simp only [Int.reduceToNat]at Ep;rw [← Bz.out]at Ep));have Bb:=y0.mk (Kd.R_lower Ep (y3 qb));replace Ad:=y0.mk (qK Ad.out hb);replace HB:=y0.mk (y4 qb hb);clear hb Ep;obtain⟨Hh,Hi,Hj,Hk,Hl,Hm,Hn,Ho,Hp,Hq⟩:=qz5 Ad.out)|((with_reducible refine y15 (f:=22) rfl ?_);refine y17 (some 8) rfl rfl Try.func22 (by kernel_rfl) rfl #[.agg #[.slice Bs Ac.length Bt,.int .i64 Aw,.string Ax,.slice Bu Ar.length Bv,.slice Bw As.length Bx]] rfl qy1 ?_;(with_reducible refine(z7_.calls k _ _ Ac Aw Ax _ _ Ar _ _ As Bk _ (qc (Kd.C_below Av.out HB.out)) Cn.out (qc (Kd.C_below Cp.out HB.out)) Cq.out (qc (Kd.C_below Cr.out HB.out)) Cs.out A2.out).mono ?_);rintro e w8 ⟨rfl,hb⟩;refine⟨_,rfl, ?_⟩;replace Bb:=y0.mk (Kd.R_below (qR Bb.out) hb);replace Ad:=y0.mk (qK Ad.out hb);replace HB:=y0.mk (y4 qb hb);(try clear hb)))
  go_ret
  exact⟨_,by first|rfl|(simp [y12,y13] <;> rfl)|(simp [*,y12,y13] <;> rfl),by(with_reducible repeat(first|apply Kd.R_alloc|apply Kd.R_drewN|apply Kd.R_drew));exact Bb.out,qb⟩
 ·rw [if_neg c3]at H
  have El:(Bk.toList == ([]:List UInt8))=false:=beq_eq_false_iff_ne.mpr c3
  have Em:(Bk.toList != ([]:List UInt8))=true:=bne_iff_ne.mpr c3
  obtain⟨Bi,A9,H⟩:=qB H
  have H':=y0.mk H
  clear H
  go_enter Try.func42,Try.ntmps42
  go_wp2_with (first|((with_reducible refine y16 (N:=1) rfl ?_);refine qe 1 #[.slice Bs Ac.length Bt,.int .i64 Aw,.string Ax,.slice Bu Ar.length Bv,.slice Bw As.length Bx] 36 ?_;intro Ec hg Iv hbox hb;have Ad:=y0.mk (hbox);have En:=y0.mk (qg (w:=w) hg);have Eo:=y0.mk (qg (w:=w) hg);replace HB:=y0.mk (y4 qb hb);clear hb hbox hg)|((with_reducible refine y16 (N:=6) rfl ?_);refine qL Kd.string 9 6 ([]:List ByteArray) ?_;intro Hg Iw Ct hb hg_ hnew_;clear hg_ hnew_;(first|rw [← Bz.out]at Ct|(simp only [Int.reduceToNat]at Ct;rw [← Bz.out]at Ct));have Bb:=y0.mk (Kd.R_lower Ct (y3 qb));replace Ad:=y0.mk (qK Ad.out hb);replace HB:=y0.mk (y4 qb hb);clear hb Ct;obtain⟨Cy,Cz,Da,Db,Dc,Dd,De,Df,Dg,Dh⟩:=qz5 Ad.out)|((with_reducible refine y15 (f:=22) rfl ?_);refine y17 (some 8) rfl rfl Try.func22 (by kernel_rfl) rfl #[.agg #[.slice Bs Ac.length Bt,.int .i64 Aw,.string Ax,.slice Bu Ar.length Bv,.slice Bw As.length Bx]] rfl qy1 ?_;(with_reducible refine(z7_.calls k _ _ Ac Aw Ax _ _ Ar _ _ As Bk _ (qc (Kd.C_below Av.out HB.out)) Cn.out (qc (Kd.C_below Cp.out HB.out)) Cq.out (qc (Kd.C_below Cr.out HB.out)) Cs.out A2.out).mono ?_);rintro e Ix ⟨rfl,hb⟩;refine⟨_,rfl, ?_⟩;replace Bb:=y0.mk (Kd.R_below (qR Bb.out) hb);replace Ad:=y0.mk (qK Ad.out hb);replace HB:=y0.mk (y4 qb hb);(try clear hb);obtain⟨Di,Dj,Dk,Dl,Dm,Do,Dp,Dq,Dr,Ds⟩:=qz5 Ad.out)|((with_reducible refine y15 (f:=61) rfl ?_);refine y17 (some 12) rfl rfl Try.func61 (by kernel_rfl) rfl #[.agg #[.slice Bs Ac.length Bt,.int .i64 Aw,.string Ax,.slice Bu Ar.length Bv,.slice Bw As.length Bx]] rfl qy1 ?_;(with_reducible refine(z9_.calls k _ _ Ac Aw Ax _ _ Ar _ _ As Bi _ (qc (Kd.C_below Av.out HB.out)) Cn.out (qc (Kd.C_below Cp.out HB.out)) Cq.out (qc (Kd.C_below Cr.out HB.out)) Cs.out A9.out).mono ?_);rintro e Iy ⟨Eq,rfl,Hr,hb⟩;refine⟨_,rfl, ?_⟩;have Er:=y0.mk (Kd.R_lower (Kd.R_new' Hr (Kd.R_lt (qR Bb.out))) (y3 qb));replace Bb:=y0.mk (Kd.R_elder' (qR Bb.out) (Kd.R_base Hr) hb);replace Ad:=y0.mk (qK Ad.out hb);replace HB:=y0.mk (y4 qb hb);(try clear hb);(try clear Hr)))
  go_loopg [3,5] k (fun kq v3 v5 w'=>∃(Bl:List ByteArray) (Ab:Int),v5=.int .i64 Ab∧y0 (spec_Bound.l0 kq Bl Bi Ab Ac Aw Ax Ar As=some r)∧y0 (kq≤k)∧y0 (Kd.R Kd.string 9 w' w.heap.size (fun k_=>some k_≠(Eq:Value).ownBlock) v3 Bl)∧y0 (Kd.R Kd.string 9 w' w.heap.size (fun k_=>some k_≠(v3:Value).ownBlock) Eq Bi)∧y0 (w'.heap[Ec]?=some (.cells #[(.slice Bs Ac.length Bt),.int .i64 Aw,.string Ax,(.slice Bu Ar.length Bv),(.slice Bw As.length Bx)] 36 (0,0)))∧y0 (Below w.heap.size w w'))
  case atStart=>exact⟨(Cm),(0),qy2,H',⟨Nat.le_refl _⟩,⟨qR (Kd.R_mono Bb.out (fun _ hk=>hk.2))⟩,⟨qR (Kd.R_mono Er.out (fun _ hk=>hk.2))⟩,⟨qk Ad.out⟩,⟨qb⟩⟩
  case round =>
   clear H'
   (try clear El Em Cy Cz Da Db Dc Di Dj Dk Dl Dm Dd De Df Dg Dh Do Dp Dq Dr Ds)
   obtain⟨Bl,Ab,rfl,HA,Ed,Bh,Ba,Ad,HB⟩:=hrel
   cases gk with
   | zero=>exact absurd HA.out (by simp [spec_Bound.l0])
   | succ k1 =>
    have H:=HA.out
    clear HA
    simp only [spec_Bound.l0]at H
    by_cases Ek:Ab < (Ac.length:Int)
    ·rw [if_pos Ek]at H
     have Es:=decide_eq_true Ek
     clear Ek
     obtain⟨Ih,H⟩:=qo H
     have Ii:decide (0≤Ab)=true:=decide_eq_true Ih
     clear Ih
     by_cases Ee:((y19 Ac Ab).f0)=1
     ·rw [if_pos Ee]at H
      have Et:(((y19 Ac Ab).f0) == 1)=true:=beq_iff_eq.mpr Ee
      have Eu:(((y19 Ac Ab).f0) != 1)=false:=bne_eq_false_iff_eq.mpr Ee
      clear Ee
      obtain⟨Hs,Ht,H⟩:=qB H
      by_cases Fb:Hs=true
      ·subst Fb
       replace H:=qT H
       obtain⟨Hu,Ij,H⟩:=qB H
       by_cases Fc:Hu=true
       ·subst Fc
        replace H:=qT H
        have H':=y0.mk H
        clear H
        obtain⟨Fd,Fe,Ff,Fg,Fh,Fi,Fj,Fk,Fl,Fm⟩:=qz5 Ad.out
        have Bc:0≤(Ab:Int):=qd
        have Bd:Ab < (Ac.length:Int):=qd
        obtain⟨Be,Cc,Cd,Ce,Af,Ag,Aa,Ai,Aj⟩:=at_T63 Av.out Ab Bc Bd
        cases Ce
        replace Af:=qC Af HB
        replace Ag:=qC Ag HB
        replace Aa:=qC Aa HB
        have Bo:=y0.mk Aj
        have Bp:=y0.mk Ai
        clear Aj Ai
        replace Bc:=eq_true Bc
        replace Bd:=eq_true Bd
        have Bm:0≤(Ab:Int):=qd
        have Bn:Ab < (Ac.length:Int):=qd
        obtain⟨Ca,Cu,Cv,Cw,Ak,Am,Ah,At,Au⟩:=at_T63 Av.out Ab Bm Bn
        obtain rfl:Be=Ca:=(by injection Cw)
        replace Ak:=qC Ak HB
        replace Am:=qC Am HB
        replace Ah:=qC Ah HB
        have Ci:=y0.mk Au
        have Cj:=y0.mk At
        clear Au At
        replace Bm:=eq_true Bm
        replace Bn:=eq_true Bn
        have ea_:=Option.some.inj (Aa.symm.trans Ah)
        injection ea_ with ea_ en_ ec_
        subst ea_
        subst ec_
        clear en_
        obtain⟨Im,Io,Hv⟩:=Kd.R_slice Ba.out
        subst Hv
        go_wp2_with (first|(go_at_call 39;(with_reducible refine(spec_l05In.calls k1 _ _ Bi ((y19 Ac Ab).f1) true _ (qc ((Kd.R_reads' Ba.out).2.2)) (by exact(Kd.R_reads' Ba.out).2.1) Ht.out).mono ?_);rintro e w' ⟨rfl,⟨nd,rfl⟩⟩;have Cf:0≤(Ab:Int):=qd;have Cg:Ab < (Ac.length:Int):=qd;obtain⟨Cx,Ef,Eg,Eh,Ay,Az,Ap,Bf,Bg⟩:=at_T63 Av.out Ab Cf Cg;obtain rfl:Be=Cx:=(by injection Eh);replace Ay:=qC Ay HB;replace Az:=qC Az HB;replace Ap:=qC Ap HB;have Dt:=y0.mk Bg;have Du:=y0.mk Bf;clear Bg Bf;replace Cf:=eq_true Cf;replace Cg:=eq_true Cg;have ea_:=Option.some.inj (Aa.symm.trans Ap);injection ea_ with ea_ en_ ec_;subst ea_;subst ec_;clear en_;obtain⟨Ip,Iq,Hw⟩:=Kd.R_slice Bh.out;subst Hw)|(go_at_call 39;(with_reducible refine(spec_l05In.calls k1 _ _ Bl ((y19 Ac Ab).f1) true _ (qc ((Kd.R_reads' Bh.out).2.2)) (by exact(Kd.R_reads' Bh.out).2.1) Ij.out).mono ?_);rintro e w' ⟨rfl,⟨nd,rfl⟩⟩))
        go_roundg k1
        case measure=>have:=Ed.out;omega
        exact⟨(Bl),(wrap64 (Ab + 1)),qy2,H',⟨by have:=Ed.out;omega⟩,⟨qR Bh.out⟩,⟨qR Ba.out⟩,⟨qk Ad.out⟩,⟨qb⟩⟩
       ·replace Fc:=Bool.eq_false_iff.mpr Fc
        subst Fc
        replace H:=qF H
        obtain⟨Ik,H⟩:=qo H
        replace Ik:=y0.mk Ik
        obtain⟨Ex,Cb⟩:∃ y_:List ByteArray,y_=(Bl ++ [(y19 Ac Ab).f1]):=⟨_,rfl⟩
        replace H:(spec_Bound.l0 k1 Ex Bi (wrap64 (Ab + 1)) Ac Aw Ax Ar As)=some r:=by first|exact Cb ▸ H|exact Cb ▸ (Option.bind_some _ _).symm.trans H
        replace Cb:=y0.mk Cb
        have H':=y0.mk H
        clear H
        obtain⟨Fn,Fo,Fp,Fq,Fr,Fs,Ft,Fu,Fv,Fx⟩:=qz5 Ad.out
        have Bc:0≤(Ab:Int):=qd
        have Bd:Ab < (Ac.length:Int):=qd
        obtain⟨Be,Cc,Cd,Ce,Af,Ag,Aa,Ai,Aj⟩:=at_T63 Av.out Ab Bc Bd
        cases Ce
        replace Af:=qC Af HB
        replace Ag:=qC Ag HB
        replace Aa:=qC Aa HB
        have Bo:=y0.mk Aj
        have Bp:=y0.mk Ai
        clear Aj Ai
        replace Bc:=eq_true Bc
        replace Bd:=eq_true Bd
        have Bm:0≤(Ab:Int):=qd
        have Bn:Ab < (Ac.length:Int):=qd
        obtain⟨Ca,Cu,Cv,Cw,Ak,Am,Ah,At,Au⟩:=at_T63 Av.out Ab Bm Bn
        obtain rfl:Be=Ca:=(by injection Cw)
        replace Ak:=qC Ak HB
        replace Am:=qC Am HB
        replace Ah:=qC Ah HB
        have Ci:=y0.mk Au
        have Cj:=y0.mk At
        clear Au At
        replace Bm:=eq_true Bm
        replace Bn:=eq_true Bn
        have ea_:=Option.some.inj (Aa.symm.trans Ah)
        injection ea_ with ea_ en_ ec_
        subst ea_
        subst ec_
        clear en_
        obtain⟨Hx,Hy,Hz⟩:=Kd.R_slice Ba.out
        subst Hz
        go_wp2_with (first|(go_at_call 39;(with_reducible refine(spec_l05In.calls k1 _ _ Bi ((y19 Ac Ab).f1) true _ (qc ((Kd.R_reads' Ba.out).2.2)) (by exact(Kd.R_reads' Ba.out).2.1) Ht.out).mono ?_);rintro e w' ⟨rfl,⟨nd,rfl⟩⟩;have Cf:0≤(Ab:Int):=qd;have Cg:Ab < (Ac.length:Int):=qd;obtain⟨Cx,Ef,Eg,Eh,Ay,Az,Ap,Bf,Bg⟩:=at_T63 Av.out Ab Cf Cg;obtain rfl:Be=Cx:=(by injection Eh);replace Ay:=qC Ay HB;replace Az:=qC Az HB;replace Ap:=qC Ap HB;have Dt:=y0.mk Bg;have Du:=y0.mk Bf;clear Bg Bf;replace Cf:=eq_true Cf;replace Cg:=eq_true Cg;have ea_:=Option.some.inj (Aa.symm.trans Ap);injection ea_ with ea_ en_ ec_;subst ea_;subst ec_;clear en_;obtain⟨Ia,Ib,Ic⟩:=Kd.R_slice Bh.out;subst Ic)|(go_at_call 39;(with_reducible refine(spec_l05In.calls k1 _ _ Bl ((y19 Ac Ab).f1) false _ (qc ((Kd.R_reads' Bh.out).2.2)) (by exact(Kd.R_reads' Bh.out).2.1) Ij.out).mono ?_);rintro e w' ⟨rfl,⟨nd,rfl⟩⟩;have Ei:0≤(Ab:Int):=qd;have Ej:Ab < (Ac.length:Int):=qd;obtain⟨Ez,Id,Ie,If,Bq,Br,Bj,Ck,Cl⟩:=at_T63 Av.out Ab Ei Ej;obtain rfl:Be=Ez:=(by injection If);replace Bq:=qC Bq HB;replace Br:=qC Br HB;replace Bj:=qC Bj HB;have Fy:=y0.mk Cl;have Fz:=y0.mk Ck;clear Cl Ck;replace Ei:=eq_true Ei;replace Ej:=eq_true Ej;have ea_:=Option.some.inj (Aa.symm.trans Bj);injection ea_ with ea_ en_ ec_;subst ea_;subst ec_;clear en_)|((with_reducible refine gate_builtin (b:=.append) (xs:=#[.tmp 48,.tmp 55]) rfl ?_);at_builtin;refine Kd.R_append Kd.string (w0:=w) w.heap.size rfl (.tmp 48) (.tmp 55) 30 9 (.string ⟨#[]⟩) 16 rfl Try.underlying30 info9 rfl (by decide) (by omega) (.slice Ia Bl.length Ib) Bl ((y19 Ac Ab).f1) [.string ((y19 Ac Ab).f1)] (fun k_=>some k_≠(.slice Hx Bi.length Hy:Value).ownBlock) (fun _=>False) rfl rfl ?aP (fun _ hk=>hk.elim) ?aF ?aO ?aB ?aS ?aL ?_;(case aP=>exact rfl);(case aB=>exact qb);(case aF=>exact(fun k_ hk=>Kd.fresh' (Kd.R_lt (qR Ba.out)) k_ hk));(case aO=>exact(qR Bh.out));(case aS=>exact(y3 qb));(case aL=>have:=Ik.out;omega);intro Ir Iz ho hb hg hat;rw [← Cb.out]at ho;replace Ba:=y0.mk (Kd.R_after (ok:=(fun _=>True)) (qR (Kd.R_mono Ba.out (fun _ hk=>⟨trivial,hk⟩))) hg hat);replace Ad:=y0.mk (blk_grown (qk Ad.out) hg (Kd.R_ne Bh.out Ad.out (by decide)));replace HB:=y0.mk (hb);have Fa:=y0.mk (ho);clear Bh;clear ho hb hg hat))
        go_roundg k1
        case measure=>have:=Ed.out;omega
        exact⟨(Ex),(wrap64 (Ab + 1)),qy2,H',⟨by have:=Ed.out;omega⟩,⟨qR Fa.out⟩,⟨qR (Kd.R_mono Ba.out (fun _ hk=>hk.2))⟩,⟨qk Ad.out⟩,⟨qb⟩⟩
      ·replace Fb:=Bool.eq_false_iff.mpr Fb
       subst Fb
       replace H:=qF H
       have H':=y0.mk H
       clear H
       obtain⟨Ga,Gb,Gc,Gd,Ge,Gf,Gg,Gh,Gi,Gj⟩:=qz5 Ad.out
       have Bc:0≤(Ab:Int):=qd
       have Bd:Ab < (Ac.length:Int):=qd
       obtain⟨Be,Cc,Cd,Ce,Af,Ag,Aa,Ai,Aj⟩:=at_T63 Av.out Ab Bc Bd
       cases Ce
       replace Af:=qC Af HB
       replace Ag:=qC Ag HB
       replace Aa:=qC Aa HB
       have Bo:=y0.mk Aj
       have Bp:=y0.mk Ai
       clear Aj Ai
       replace Bc:=eq_true Bc
       replace Bd:=eq_true Bd
       have Bm:0≤(Ab:Int):=qd
       have Bn:Ab < (Ac.length:Int):=qd
       obtain⟨Ca,Cu,Cv,Cw,Ak,Am,Ah,At,Au⟩:=at_T63 Av.out Ab Bm Bn
       obtain rfl:Be=Ca:=(by injection Cw)
       replace Ak:=qC Ak HB
       replace Am:=qC Am HB
       replace Ah:=qC Ah HB
       have Ci:=y0.mk Au
       have Cj:=y0.mk At
       clear Au At
       replace Bm:=eq_true Bm
       replace Bn:=eq_true Bn
       have ea_:=Option.some.inj (Aa.symm.trans Ah)
       injection ea_ with ea_ en_ ec_
       subst ea_
       subst ec_
       clear en_
       obtain⟨Is,Iu,Ig⟩:=Kd.R_slice Ba.out
       subst Ig
       go_wp2_with (first|(go_at_call 39;(with_reducible refine(spec_l05In.calls k1 _ _ Bi ((y19 Ac Ab).f1) false _ (qc ((Kd.R_reads' Ba.out).2.2)) (by exact(Kd.R_reads' Ba.out).2.1) Ht.out).mono ?_);rintro e w' ⟨rfl,⟨nd,rfl⟩⟩))
       go_roundg k1
       case measure=>have:=Ed.out;omega
       exact⟨(Bl),(wrap64 (Ab + 1)),qy2,H',⟨by have:=Ed.out;omega⟩,⟨qR Bh.out⟩,⟨qR Ba.out⟩,⟨qk Ad.out⟩,⟨qb⟩⟩
     ·rw [if_neg Ee]at H
      have Et:(((y19 Ac Ab).f0) == 1)=false:=beq_eq_false_iff_ne.mpr Ee
      have Eu:(((y19 Ac Ab).f0) != 1)=true:=bne_iff_ne.mpr Ee
      have H':=y0.mk H
      clear H
      obtain⟨Gk,Gl,Gm,Gn,Gp,Gq,Gr,Gs,Gt,Gu⟩:=qz5 Ad.out
      have Bc:0≤(Ab:Int):=qd
      have Bd:Ab < (Ac.length:Int):=qd
      obtain⟨Be,Cc,Cd,Ce,Af,Ag,Aa,Ai,Aj⟩:=at_T63 Av.out Ab Bc Bd
      cases Ce
      replace Af:=qC Af HB
      replace Ag:=qC Ag HB
      replace Aa:=qC Aa HB
      have Bo:=y0.mk Aj
      have Bp:=y0.mk Ai
      clear Aj Ai
      replace Bc:=eq_true Bc
      replace Bd:=eq_true Bd
      go_wp2
      go_roundg k1
      case measure=>have:=Ed.out;omega
      exact⟨(Bl),(wrap64 (Ab + 1)),qy2,H',⟨by have:=Ed.out;omega⟩,⟨qR Bh.out⟩,⟨qR Ba.out⟩,⟨qk Ad.out⟩,⟨qb⟩⟩
    ·rw [if_neg Ek]at H
     have Es:=decide_eq_false Ek
     clear Ek
     obtain rfl:=Option.some.inj H
     obtain⟨Gv,Gw,Gx,Gz,Ha,Hb,Hc,Hd,He,Hf⟩:=qz5 Ad.out
     go_wp2
     go_ret
     exact⟨_,by first|rfl|(simp [y12,y13] <;> rfl)|(simp [*,y12,y13] <;> rfl),by(with_reducible repeat(first|apply Kd.R_alloc|apply Kd.R_drewN|apply Kd.R_drew));exact Kd.R_mono Bh.out (fun _ hk=>trivial),qb⟩
def spec_Grows.l0:Nat→Int→List (S63)→Int→ByteArray→List Int→List (S33)→Option (Bool)
 | 0,_,_,_,_,_,_=>none
 | k + 1,x3,Al,An,Ao,Ae,Aq=>if x3 < (Ae.length:Int)then(if 0≤x3 then((z10_.f k Al An Ao Ae Aq (rd Ae x3) 5 7).bind fun By=>(if By=true then(some true)else(if 0≤(rd Ae x3)then(if(rd Ae x3) < (Al.length:Int)then(if((y19 Al (rd Ae x3)).f0)=4 then((spec_l06Vars.f k Al An Ao Ae Aq (rd Ae x3)).bind fun Di=>(if(Di.length:Int) > 0 then(some true)else(spec_Grows.l0 k (wrap64 (x3 + 1)) Al An Ao Ae Aq)))else(spec_Grows.l0 k (wrap64 (x3 + 1)) Al An Ao Ae Aq))else(none))else(none))))else(none))else(some false)
def spec_Grows.f (k:Nat) (Ae:List (S63)) (Al:Int) (An:ByteArray) (Ao:List Int) (Aq:List (S33)):Option (Bool):=(z7_.f k Ae Al An Ao Aq).bind fun By=>(if By.toList=([]:List UInt8)then(some false)else((spec_Bound.f k Ae Al An Ao Aq).bind fun Di=>((spec_Old.f k Ae Al An Ao Aq).bind fun Du=>((spec_l06All.f k Di Du).bind fun Ea=>(if Ea=true then(spec_Grows.l0 k 0 Ae Al An Ao Aq)else(some true))))))
theorem spec_Grows.calls (k:Nat) (Az:Option Addr) (Ba:Nat) (Ac:List (S63)) (Ag:Int) (Ah:ByteArray) (Bf:Option Addr) (Bb:Nat) (Ab:List Int) (Bc:Option Addr) (Bd:Nat) (Ad:List (S33)) (r:Bool) (w:World) (Ci:Kd.C k63 w Az Ac.length Ac) (Cj:Ac.length≤Ba) (Ck:Kd.C (Kd.int .i64) w Bf Ab.length Ab) (Cl:Ab.length≤Bb) (Cm:Kd.C k33 w Bc Ad.length Ad) (Cn:Ad.length≤Bd) (h:spec_Grows.f k Ac Ag Ah Ab Ad=some r) :
  Calls Try.prog 17 #[.agg #[.slice Az Ac.length Ba,.int .i64 Ag,.string Ah,.slice Bf Ab.length Bb,.slice Bc Ad.length Bd]] w fun e w'=>e=.returned (.bool r)∧Below w.heap.size w w':=by
 have Hp:=Try.underlying36
 have Am:=y0.mk Ci
 have At:=y0.mk Cj
 clear Ci Cj
 have Ap:=y0.mk Ck
 have Au:=y0.mk Cl
 clear Ck Cl
 have Av:=y0.mk Cm
 have Aw:=y0.mk Cn
 clear Cm Cn
 have HB:=y0.mk (Below.refl w.heap.size w)
 have H:((z7_.f k Ac Ag Ah Ab Ad).bind fun Bj=>(if Bj.toList=([]:List UInt8)then(some false)else((spec_Bound.f k Ac Ag Ah Ab Ad).bind fun Bl=>((spec_Old.f k Ac Ag Ah Ab Ad).bind fun Bm=>((spec_l06All.f k Bl Bm).bind fun Cs=>(if Cs=true then(spec_Grows.l0 k 0 Ac Ag Ah Ab Ad)else(some true)))))))=some r:=h
 clear h
 obtain⟨Bj,A2,H⟩:=qB H
 by_cases c3:Bj.toList=([]:List UInt8)
 ·rw [if_pos c3]at H
  have Cx:(Bj.toList == ([]:List UInt8))=true:=beq_iff_eq.mpr c3
  have Cy:(Bj.toList != ([]:List UInt8))=false:=bne_eq_false_iff_eq.mpr c3
  clear c3
  obtain rfl:=Option.some.inj H
  go_enter Try.func17,Try.ntmps17
  go_wp2_with (first|((with_reducible refine y16 (N:=1) rfl ?_);(try(refine gate_guard (by rfl) ?_;dsimp only));refine qe 1 #[.slice Az Ac.length Ba,.int .i64 Ag,.string Ah,.slice Bf Ab.length Bb,.slice Bc Ad.length Bd] 36 ?_;intro Ax hg w4 hbox hb;have Aa:=y0.mk (hbox);have Cp:=y0.mk (qg (w:=w) hg);have Cq:=y0.mk (qg (w:=w) hg);replace HB:=y0.mk (y4 qb hb);clear hb hbox hg;obtain⟨Gi,Gj,Gk,Gl,Gm,Gn,Gp,Gq,Gr,Gs⟩:=qz5 Aa.out)|((with_reducible refine y15 (f:=22) rfl ?_);refine y17 (some 6) rfl rfl Try.func22 (by kernel_rfl) rfl #[.agg #[.slice Az Ac.length Ba,.int .i64 Ag,.string Ah,.slice Bf Ab.length Bb,.slice Bc Ad.length Bd]] rfl qy1 ?_;(with_reducible refine(z7_.calls k _ _ Ac Ag Ah _ _ Ab _ _ Ad Bj _ (qc (Kd.C_below Am.out HB.out)) At.out (qc (Kd.C_below Ap.out HB.out)) Au.out (qc (Kd.C_below Av.out HB.out)) Aw.out A2.out).mono ?_);rintro e w6 ⟨rfl,hb⟩;refine⟨_,rfl, ?_⟩;replace Aa:=y0.mk (qK Aa.out hb);replace HB:=y0.mk (y4 qb hb);(try clear hb)))
  go_ret
  exact⟨qf,qb⟩
 ·rw [if_neg c3]at H
  have Cx:(Bj.toList == ([]:List UInt8))=false:=beq_eq_false_iff_ne.mpr c3
  have Cy:(Bj.toList != ([]:List UInt8))=true:=bne_iff_ne.mpr c3
  obtain⟨Bl,A7,H⟩:=qB H
  obtain⟨Bm,A8,H⟩:=qB H
  obtain⟨Cs,A9,H⟩:=qB H
  by_cases Cz:Cs=true
  ·subst Cz
   replace H:=qT H
   have H':=y0.mk H
   clear H
   go_enter Try.func17,Try.ntmps17
   try go_wp2_with (first|((with_reducible refine y16 (N:=1) rfl ?_);(try(refine gate_guard (by rfl) ?_;dsimp only));refine qe 1 #[.slice Az Ac.length Ba,.int .i64 Ag,.string Ah,.slice Bf Ab.length Bb,.slice Bc Ad.length Bd] 36 ?_;intro Ax hg Hw hbox hb;have Aa:=y0.mk (hbox);have Cp:=y0.mk (qg (w:=w) hg);have Cq:=y0.mk (qg (w:=w) hg);replace HB:=y0.mk (y4 qb hb);clear hb hbox hg;obtain⟨Bx,Bz,Ca,Cb,Cc,Cd,Ce,Cf,Cg,Ch⟩:=qz5 Aa.out)|((with_reducible refine y15 (f:=22) rfl ?_);refine y17 (some 6) rfl rfl Try.func22 (by kernel_rfl) rfl #[.agg #[.slice Az Ac.length Ba,.int .i64 Ag,.string Ah,.slice Bf Ab.length Bb,.slice Bc Ad.length Bd]] rfl qy1 ?_;(with_reducible refine(z7_.calls k _ _ Ac Ag Ah _ _ Ab _ _ Ad Bj _ (qc (Kd.C_below Am.out HB.out)) At.out (qc (Kd.C_below Ap.out HB.out)) Au.out (qc (Kd.C_below Av.out HB.out)) Aw.out A2.out).mono ?_);rintro e Hq ⟨rfl,hb⟩;refine⟨_,rfl, ?_⟩;replace Aa:=y0.mk (qK Aa.out hb);replace HB:=y0.mk (y4 qb hb);(try clear hb)))
   replace Aa:=y0.mk (y8 Aa.out)
   replace HB:=y0.mk (y2 HB.out)
   refine start_ (n:=6) (S:=fun w'=>w'.cell? ⟨Ax,0,none⟩=some (.slice Az Ac.length Ba)∧w'.cell? ⟨Ax,1,none⟩=some (.int .i64 Ag)∧w'.cell? ⟨Ax,2,none⟩=some (.string Ah)∧w'.cell? ⟨Ax,3,none⟩=some (.slice Bf Ab.length Bb)∧w'.cell? ⟨Ax,4,none⟩=some (.slice Bc Ad.length Bd)) (ds:=[]) #[false,false,false,false,false,false] (by kernel_rfl) rfl rfl ⟨(y7 Aa.out 0).trans rfl,(y7 Aa.out 1).trans rfl,(y7 Aa.out 2).trans rfl,(y7 Aa.out 3).trans rfl,(y7 Aa.out 4).trans rfl⟩ (fun hHeld=>?_)
   generalize Hq.drew=Hx at Aa HB hHeld ⊢
   refine qt 0 8 #[true,false,false,false,false,false] hHeld ?_
   refine qt 2 10 #[true,false,true,false,false,false] hHeld ?_
   refine qO 1 9 #[true,true,true,false,false,false] (fun K hK=>?_)
   refine goes_ Try.func42 (by kernel_rfl) rfl #[.agg #[.slice Az Ac.length Ba,.int .i64 Ag,.string Ah,.slice Bf Ab.length Bb,.slice Bc Ad.length Bd]] (by rfl) rfl rfl qy1 ?_
   with_reducible refine(spec_Bound.calls k _ _ Ac Ag Ah _ _ Ab _ _ Ad Bl _ (qc (Kd.C_below Am.out HB.out)) At.out (qc (Kd.C_below Ap.out HB.out)) Au.out (qc (Kd.C_below Av.out HB.out)) Aw.out A7.out).mono ?_
   rintro e Hy ⟨Gt,rfl,Bk,hb⟩
   refine⟨_,rfl, ?_⟩
   have Ay:=y0.mk (Kd.R_lower Bk (y3 qb))
   replace Aa:=y0.mk (qK Aa.out hb)
   replace HB:=y0.mk (y4 qb hb)
   (try clear hb)
   (try clear Bk)
   refine hK.out _ _ ⟨(y7 Aa.out 0).trans rfl,(y7 Aa.out 1).trans rfl,(y7 Aa.out 2).trans rfl,(y7 Aa.out 3).trans rfl,(y7 Aa.out 4).trans rfl⟩ (fun hHeld=>?_)
   clear hK K
   refine qx 9 ?_
   refine qO 3 11 #[true,true,true,true,false,false] (fun K hK=>?_)
   refine goes_ Try.func15 (by kernel_rfl) rfl #[.agg #[.slice Az Ac.length Ba,.int .i64 Ag,.string Ah,.slice Bf Ab.length Bb,.slice Bc Ad.length Bd]] (by rfl) rfl rfl qy1 ?_
   with_reducible refine(spec_Old.calls k _ _ Ac Ag Ah _ _ Ab _ _ Ad Bm _ (qc (Kd.C_below Am.out HB.out)) At.out (qc (Kd.C_below Ap.out HB.out)) Au.out (qc (Kd.C_below Av.out HB.out)) Aw.out A8.out).mono ?_
   rintro e Hz ⟨Gu,rfl,Bk,hb⟩
   refine⟨_,rfl, ?_⟩
   have Bg:=y0.mk (Kd.R_lower (Kd.R_new' Bk (Kd.R_lt (qR Ay.out))) (y3 qb))
   replace Ay:=y0.mk (Kd.R_elder' (qR Ay.out) (Kd.R_base Bk) hb)
   replace Aa:=y0.mk (qK Aa.out hb)
   replace HB:=y0.mk (y4 qb hb)
   (try clear hb)
   (try clear Bk)
   obtain⟨Gv,Gw,Da⟩:=Kd.R_slice Ay.out
   (first|subst Da|(injection Da with f1_ f2_ f3_;have f4_:=f1_.symm;have f5_:=f3_.symm;clear f1_ f2_ f3_;subst f4_;subst f5_))
   obtain⟨Gx,Gz,Db⟩:=Kd.R_slice Bg.out
   (first|subst Db|(injection Db with f1_ f2_ f3_;have f4_:=f1_.symm;have f5_:=f3_.symm;clear f1_ f2_ f3_;subst f4_;subst f5_))
   refine hK.out _ _ ⟨(y7 Aa.out 0).trans rfl,(y7 Aa.out 1).trans rfl,(y7 Aa.out 2).trans rfl,(y7 Aa.out 3).trans rfl,(y7 Aa.out 4).trans rfl⟩ (fun hHeld=>?_)
   clear hK K
   refine qx 11 ?_
   refine qO 4 12 #[true,true,true,true,true,false] (fun K hK=>?_)
   refine goes_ Try.func41 (by kernel_rfl) rfl #[.slice Gv Bl.length Gw,.slice Gx Bm.length Gz] (by rfl) rfl rfl qy1 ?_
   with_reducible refine(spec_l06All.calls k _ _ Bl _ _ Bm true _ (qc ((Kd.R_reads' Ay.out).2.2)) (by exact(Kd.R_reads' Ay.out).2.1) (qc ((Kd.R_reads' Bg.out).2.2)) (by exact(Kd.R_reads' Bg.out).2.1) A9.out).mono ?_
   rintro e w' ⟨rfl,⟨nd,rfl⟩⟩
   refine⟨_,rfl, ?_⟩
   refine hK.out _ _ ⟨(y7 Aa.out 0).trans rfl,(y7 Aa.out 1).trans rfl,(y7 Aa.out 2).trans rfl,(y7 Aa.out 3).trans rfl,(y7 Aa.out 4).trans rfl⟩ (fun hHeld=>?_)
   clear hK K
   refine qx 12 ?_
   refine qp 5 13 #[true,true,true,true,true,true] ?_
   refine done_ (by kernel_rfl) ?_
   try go_wp2
   go_loopg [3] k (fun kq v3 w'=>∃(Af:Int),v3=.int .i64 Af∧y0 (spec_Grows.l0 kq Af Ac Ag Ah Ab Ad=some r)∧y0 (kq≤k)∧y0 (w'.heap[Ax]?=some (.cells #[(.slice Az Ac.length Ba),.int .i64 Ag,.string Ah,(.slice Bf Ab.length Bb),(.slice Bc Ad.length Bd)] 36 (0,0)))∧y0 (Below w.heap.size w w'))
   case atStart=>exact⟨(0),qy2,H',⟨Nat.le_refl _⟩,⟨qk Aa.out⟩,⟨qb⟩⟩
   case round =>
    clear H'
    (try clear Cx Cy Cz Bx Bz Ca Cb Cc Cd Ce Cf Cg Ch)
    obtain⟨Af,rfl,HA,Dj,Aa,HB⟩:=hrel
    cases gk with
    | zero=>exact absurd HA.out (by simp [spec_Grows.l0])
    | succ k1 =>
     have H:=HA.out
     clear HA
     simp only [spec_Grows.l0]at H
     by_cases Cv:Af < (Ab.length:Int)
     ·rw [if_pos Cv]at H
      have Dc:=decide_eq_true Cv
      clear Cv
      obtain⟨Hi,H⟩:=qo H
      have Hj:decide (0≤Af)=true:=decide_eq_true Hi
      clear Hi
      obtain⟨Ha,Dk,H⟩:=qB H
      by_cases Dl:Ha=true
      ·subst Dl
       replace H:=qT H
       obtain rfl:=Option.some.inj H
       obtain⟨Dm,Do,Dp,Dq,Dr,Ds,Dt,Du,Dw,Dx⟩:=qz5 Aa.out
       have Bo:0≤(Af:Int):=qd
       have Bp:Af < (Ab.length:Int):=qd
       obtain⟨Bn,Ct,Be⟩:=Kd.at_int Ap.out Af Bo Bp
       cases Ct
       replace Be:=qC Be HB
       replace Bo:=eq_true Bo
       replace Bp:=eq_true Bp
       go_wp2_with (first|((with_reducible refine y15 (f:=43) rfl ?_);refine y17 (some 30) rfl rfl Try.func43 (by kernel_rfl) rfl #[.agg #[.slice Az Ac.length Ba,.int .i64 Ag,.string Ah,.slice (some Bn) Ab.length Bb,.slice Bc Ad.length Bd],.int .i64 (rd Ab Af),.int .i64 5,.int .i64 7] rfl qy1 ?_;(with_reducible refine(z10_.calls k1 _ _ Ac Ag Ah _ _ Ab _ _ Ad (rd Ab Af) 5 7 true _ (qc (Kd.C_below Am.out HB.out)) At.out (qc (Kd.C_below Ap.out HB.out)) Au.out (qc (Kd.C_below Av.out HB.out)) Aw.out Dk.out).mono ?_);rintro e Ia ⟨rfl,hb⟩;refine⟨_,rfl, ?_⟩;replace Aa:=y0.mk (qK Aa.out hb);replace HB:=y0.mk (y4 qb hb);(try clear hb)))
       go_ret
       exact⟨qf,qb⟩
      ·replace Dl:=Bool.eq_false_iff.mpr Dl
       subst Dl
       replace H:=qF H
       obtain⟨Hk,H⟩:=qo H
       have Hl:decide (0≤(rd Ab Af))=true:=decide_eq_true Hk
       clear Hk
       obtain⟨Hm,H⟩:=qo H
       have Hn:decide ((rd Ab Af) < (Ac.length:Int))=true:=decide_eq_true Hm
       clear Hm
       obtain⟨Dy,Dz,Ea,Eb,Ec,Ed,Ee,Ef,Eg,Eh⟩:=qz5 Aa.out
       have Bo:0≤(Af:Int):=qd
       have Bp:Af < (Ab.length:Int):=qd
       obtain⟨Bn,Ct,Be⟩:=Kd.at_int Ap.out Af Bo Bp
       cases Ct
       replace Be:=qC Be HB
       replace Bo:=eq_true Bo
       replace Bp:=eq_true Bp
       by_cases Cu:((y19 Ac (rd Ab Af)).f0)=4
       ·rw [if_pos Cu]at H
        have Dd:(((y19 Ac (rd Ab Af)).f0) == 4)=true:=beq_iff_eq.mpr Cu
        have De:(((y19 Ac (rd Ab Af)).f0) != 4)=false:=bne_eq_false_iff_eq.mpr Cu
        clear Cu
        obtain⟨Bq,Ho,H⟩:=qB H
        by_cases Cw:(Bq.length:Int) > 0
        ·rw [if_pos Cw]at H
         have Df:decide (0 < (Bq.length:Int))=true:=decide_eq_true Cw
         have Dg:decide (0 < Bq.length)=true:=decide_eq_true (by omega)
         clear Cw
         obtain rfl:=Option.some.inj H
         go_wp2_with (first|((with_reducible refine y15 (f:=43) rfl ?_);refine y17 (some 30) rfl rfl Try.func43 (by kernel_rfl) rfl #[.agg #[.slice Az Ac.length Ba,.int .i64 Ag,.string Ah,.slice (some Bn) Ab.length Bb,.slice Bc Ad.length Bd],.int .i64 (rd Ab Af),.int .i64 5,.int .i64 7] rfl qy1 ?_;(with_reducible refine(z10_.calls k1 _ _ Ac Ag Ah _ _ Ab _ _ Ad (rd Ab Af) 5 7 false _ (qc (Kd.C_below Am.out HB.out)) At.out (qc (Kd.C_below Ap.out HB.out)) Au.out (qc (Kd.C_below Av.out HB.out)) Aw.out Dk.out).mono ?_);rintro e Ib ⟨rfl,hb⟩;refine⟨_,rfl, ?_⟩;replace Aa:=y0.mk (qK Aa.out hb);replace HB:=y0.mk (y4 qb hb);(try clear hb);obtain⟨Ei,Ej,Ek,El,Em,En,Eo,Ep,Eq,Er⟩:=qz5 Aa.out;have Bh:0≤((rd Ab Af):Int):=qd;have Bi:(rd Ab Af) < (Ac.length:Int):=qd;obtain⟨Cr,Bt,Bu,Bv,Ai,Aj,Ak,Ar,As⟩:=at_T63 Am.out (rd Ab Af) Bh Bi;cases Bv;replace Ai:=qC Ai HB;replace Aj:=qC Aj HB;replace Ak:=qC Ak HB;have Br:=y0.mk As;have Bs:=y0.mk Ar;clear As Ar;replace Bh:=eq_true Bh;replace Bi:=eq_true Bi)|(go_at_call 24;(with_reducible refine(spec_l06Vars.calls k1 _ _ Ac Ag Ah _ _ Ab _ _ Ad (rd Ab Af) Bq _ (qc (Kd.C_below Am.out HB.out)) At.out (qc (Kd.C_below Ap.out HB.out)) Au.out (qc (Kd.C_below Av.out HB.out)) Aw.out Ho.out).mono ?_);rintro e Ic ⟨Hb,rfl,Bk,hb⟩;have Bw:=y0.mk (Kd.R_lower Bk (y3 qb));replace Aa:=y0.mk (qK Aa.out hb);replace HB:=y0.mk (y4 qb hb);(try clear hb);(try clear Bk);obtain⟨Hr,Hs,Hc⟩:=Kd.R_slice Bw.out;subst Hc))
         go_ret
         exact⟨qf,qb⟩
        ·rw [if_neg Cw]at H
         have Df:decide (0 < (Bq.length:Int))=false:=decide_eq_false Cw
         have Dg:decide (0 < Bq.length)=false:=decide_eq_false (by omega)
         clear Cw
         have H':=y0.mk H
         clear H
         go_wp2_with (first|((with_reducible refine y15 (f:=43) rfl ?_);refine y17 (some 30) rfl rfl Try.func43 (by kernel_rfl) rfl #[.agg #[.slice Az Ac.length Ba,.int .i64 Ag,.string Ah,.slice (some Bn) Ab.length Bb,.slice Bc Ad.length Bd],.int .i64 (rd Ab Af),.int .i64 5,.int .i64 7] rfl qy1 ?_;(with_reducible refine(z10_.calls k1 _ _ Ac Ag Ah _ _ Ab _ _ Ad (rd Ab Af) 5 7 false _ (qc (Kd.C_below Am.out HB.out)) At.out (qc (Kd.C_below Ap.out HB.out)) Au.out (qc (Kd.C_below Av.out HB.out)) Aw.out Dk.out).mono ?_);rintro e Id ⟨rfl,hb⟩;refine⟨_,rfl, ?_⟩;replace Aa:=y0.mk (qK Aa.out hb);replace HB:=y0.mk (y4 qb hb);(try clear hb);obtain⟨Es,Et,Eu,Ew,Ex,Ey,Ez,Fa,Fb,Fc⟩:=qz5 Aa.out;have Bh:0≤((rd Ab Af):Int):=qd;have Bi:(rd Ab Af) < (Ac.length:Int):=qd;obtain⟨Cr,Bt,Bu,Bv,Ai,Aj,Ak,Ar,As⟩:=at_T63 Am.out (rd Ab Af) Bh Bi;cases Bv;replace Ai:=qC Ai HB;replace Aj:=qC Aj HB;replace Ak:=qC Ak HB;have Br:=y0.mk As;have Bs:=y0.mk Ar;clear As Ar;replace Bh:=eq_true Bh;replace Bi:=eq_true Bi)|(go_at_call 24;(with_reducible refine(spec_l06Vars.calls k1 _ _ Ac Ag Ah _ _ Ab _ _ Ad (rd Ab Af) Bq _ (qc (Kd.C_below Am.out HB.out)) At.out (qc (Kd.C_below Ap.out HB.out)) Au.out (qc (Kd.C_below Av.out HB.out)) Aw.out Ho.out).mono ?_);rintro e Ie ⟨Hb,rfl,Bk,hb⟩;have Bw:=y0.mk (Kd.R_lower Bk (y3 qb));replace Aa:=y0.mk (qK Aa.out hb);replace HB:=y0.mk (y4 qb hb);(try clear hb);(try clear Bk);obtain⟨Ht,Hu,Hd⟩:=Kd.R_slice Bw.out;subst Hd))
         go_roundg k1
         case measure=>have:=Dj.out;omega
         exact⟨(wrap64 (Af + 1)),qy2,H',⟨by have:=Dj.out;omega⟩,⟨qk Aa.out⟩,⟨qb⟩⟩
       ·rw [if_neg Cu]at H
        have Dd:(((y19 Ac (rd Ab Af)).f0) == 4)=false:=beq_eq_false_iff_ne.mpr Cu
        have De:(((y19 Ac (rd Ab Af)).f0) != 4)=true:=bne_iff_ne.mpr Cu
        have H':=y0.mk H
        clear H
        go_wp2_with (first|((with_reducible refine y15 (f:=43) rfl ?_);refine y17 (some 30) rfl rfl Try.func43 (by kernel_rfl) rfl #[.agg #[.slice Az Ac.length Ba,.int .i64 Ag,.string Ah,.slice (some Bn) Ab.length Bb,.slice Bc Ad.length Bd],.int .i64 (rd Ab Af),.int .i64 5,.int .i64 7] rfl qy1 ?_;(with_reducible refine(z10_.calls k1 _ _ Ac Ag Ah _ _ Ab _ _ Ad (rd Ab Af) 5 7 false _ (qc (Kd.C_below Am.out HB.out)) At.out (qc (Kd.C_below Ap.out HB.out)) Au.out (qc (Kd.C_below Av.out HB.out)) Aw.out Dk.out).mono ?_);rintro e If ⟨rfl,hb⟩;refine⟨_,rfl, ?_⟩;replace Aa:=y0.mk (qK Aa.out hb);replace HB:=y0.mk (y4 qb hb);(try clear hb);obtain⟨Fd,Fe,Ff,Fg,Fh,Fi,Fj,Fk,Fl,Fm⟩:=qz5 Aa.out;have Bh:0≤((rd Ab Af):Int):=qd;have Bi:(rd Ab Af) < (Ac.length:Int):=qd;obtain⟨Cr,Bt,Bu,Bv,Ai,Aj,Ak,Ar,As⟩:=at_T63 Am.out (rd Ab Af) Bh Bi;cases Bv;replace Ai:=qC Ai HB;replace Aj:=qC Aj HB;replace Ak:=qC Ak HB;have Br:=y0.mk As;have Bs:=y0.mk Ar;clear As Ar;replace Bh:=eq_true Bh;replace Bi:=eq_true Bi))
        go_roundg k1
        case measure=>have:=Dj.out;omega
        exact⟨(wrap64 (Af + 1)),qy2,H',⟨by have:=Dj.out;omega⟩,⟨qk Aa.out⟩,⟨qb⟩⟩
     ·rw [if_neg Cv]at H
      have Dc:=decide_eq_false Cv
      clear Cv
      obtain rfl:=Option.some.inj H
      obtain⟨Fn,Fo,Fp,Fq,Fr,Fs,Ft,Fu,Fv,Fx⟩:=qz5 Aa.out
      go_wp2
      go_ret
      exact⟨qf,qb⟩
  ·replace Cz:=Bool.eq_false_iff.mpr Cz
   subst Cz
   replace H:=qF H
   obtain rfl:=Option.some.inj H
   go_enter Try.func17,Try.ntmps17
   try go_wp2_with (first|((with_reducible refine y16 (N:=1) rfl ?_);(try(refine gate_guard (by rfl) ?_;dsimp only));refine qe 1 #[.slice Az Ac.length Ba,.int .i64 Ag,.string Ah,.slice Bf Ab.length Bb,.slice Bc Ad.length Bd] 36 ?_;intro Ax hg Ig hbox hb;have Aa:=y0.mk (hbox);have Cp:=y0.mk (qg (w:=w) hg);have Cq:=y0.mk (qg (w:=w) hg);replace HB:=y0.mk (y4 qb hb);clear hb hbox hg;obtain⟨Fy,Fz,Ga,Gb,Gc,Gd,Ge,Gf,Gg,Gh⟩:=qz5 Aa.out)|((with_reducible refine y15 (f:=22) rfl ?_);refine y17 (some 6) rfl rfl Try.func22 (by kernel_rfl) rfl #[.agg #[.slice Az Ac.length Ba,.int .i64 Ag,.string Ah,.slice Bf Ab.length Bb,.slice Bc Ad.length Bd]] rfl qy1 ?_;(with_reducible refine(z7_.calls k _ _ Ac Ag Ah _ _ Ab _ _ Ad Bj _ (qc (Kd.C_below Am.out HB.out)) At.out (qc (Kd.C_below Ap.out HB.out)) Au.out (qc (Kd.C_below Av.out HB.out)) Aw.out A2.out).mono ?_);rintro e Hv ⟨rfl,hb⟩;refine⟨_,rfl, ?_⟩;replace Aa:=y0.mk (qK Aa.out hb);replace HB:=y0.mk (y4 qb hb);(try clear hb)))
   replace Aa:=y0.mk (y8 Aa.out)
   replace HB:=y0.mk (y2 HB.out)
   refine start_ (n:=6) (S:=fun w'=>w'.cell? ⟨Ax,0,none⟩=some (.slice Az Ac.length Ba)∧w'.cell? ⟨Ax,1,none⟩=some (.int .i64 Ag)∧w'.cell? ⟨Ax,2,none⟩=some (.string Ah)∧w'.cell? ⟨Ax,3,none⟩=some (.slice Bf Ab.length Bb)∧w'.cell? ⟨Ax,4,none⟩=some (.slice Bc Ad.length Bd)) (ds:=[]) #[false,false,false,false,false,false] (by kernel_rfl) rfl rfl ⟨(y7 Aa.out 0).trans rfl,(y7 Aa.out 1).trans rfl,(y7 Aa.out 2).trans rfl,(y7 Aa.out 3).trans rfl,(y7 Aa.out 4).trans rfl⟩ (fun hHeld=>?_)
   generalize Hv.drew=Ih at Aa HB hHeld ⊢
   refine qt 0 8 #[true,false,false,false,false,false] hHeld ?_
   refine qt 2 10 #[true,false,true,false,false,false] hHeld ?_
   refine qO 1 9 #[true,true,true,false,false,false] (fun K hK=>?_)
   refine goes_ Try.func42 (by kernel_rfl) rfl #[.agg #[.slice Az Ac.length Ba,.int .i64 Ag,.string Ah,.slice Bf Ab.length Bb,.slice Bc Ad.length Bd]] (by rfl) rfl rfl qy1 ?_
   with_reducible refine(spec_Bound.calls k _ _ Ac Ag Ah _ _ Ab _ _ Ad Bl _ (qc (Kd.C_below Am.out HB.out)) At.out (qc (Kd.C_below Ap.out HB.out)) Au.out (qc (Kd.C_below Av.out HB.out)) Aw.out A7.out).mono ?_
   rintro e Ii ⟨Gt,rfl,Bk,hb⟩
   refine⟨_,rfl, ?_⟩
   have Ay:=y0.mk (Kd.R_lower Bk (y3 qb))
   replace Aa:=y0.mk (qK Aa.out hb)
   replace HB:=y0.mk (y4 qb hb)
   (try clear hb)
   (try clear Bk)
   refine hK.out _ _ ⟨(y7 Aa.out 0).trans rfl,(y7 Aa.out 1).trans rfl,(y7 Aa.out 2).trans rfl,(y7 Aa.out 3).trans rfl,(y7 Aa.out 4).trans rfl⟩ (fun hHeld=>?_)
   clear hK K
   refine qx 9 ?_
   refine qO 3 11 #[true,true,true,true,false,false] (fun K hK=>?_)
   refine goes_ Try.func15 (by kernel_rfl) rfl #[.agg #[.slice Az Ac.length Ba,.int .i64 Ag,.string Ah,.slice Bf Ab.length Bb,.slice Bc Ad.length Bd]] (by rfl) rfl rfl qy1 ?_
   with_reducible refine(spec_Old.calls k _ _ Ac Ag Ah _ _ Ab _ _ Ad Bm _ (qc (Kd.C_below Am.out HB.out)) At.out (qc (Kd.C_below Ap.out HB.out)) Au.out (qc (Kd.C_below Av.out HB.out)) Aw.out A8.out).mono ?_
   rintro e Ij ⟨Gu,rfl,Bk,hb⟩
   refine⟨_,rfl, ?_⟩
   have Bg:=y0.mk (Kd.R_lower (Kd.R_new' Bk (Kd.R_lt (qR Ay.out))) (y3 qb))
   replace Ay:=y0.mk (Kd.R_elder' (qR Ay.out) (Kd.R_base Bk) hb)
   replace Aa:=y0.mk (qK Aa.out hb)
   replace HB:=y0.mk (y4 qb hb)
   (try clear hb)
   (try clear Bk)
   obtain⟨He,Hf,Dh⟩:=Kd.R_slice Ay.out
   (first|subst Dh|(injection Dh with f1_ f2_ f3_;have f4_:=f1_.symm;have f5_:=f3_.symm;clear f1_ f2_ f3_;subst f4_;subst f5_))
   obtain⟨Hg,Hh,Di⟩:=Kd.R_slice Bg.out
   (first|subst Di|(injection Di with f1_ f2_ f3_;have f4_:=f1_.symm;have f5_:=f3_.symm;clear f1_ f2_ f3_;subst f4_;subst f5_))
   refine hK.out _ _ ⟨(y7 Aa.out 0).trans rfl,(y7 Aa.out 1).trans rfl,(y7 Aa.out 2).trans rfl,(y7 Aa.out 3).trans rfl,(y7 Aa.out 4).trans rfl⟩ (fun hHeld=>?_)
   clear hK K
   refine qx 11 ?_
   refine qO 4 12 #[true,true,true,true,true,false] (fun K hK=>?_)
   refine goes_ Try.func41 (by kernel_rfl) rfl #[.slice He Bl.length Hf,.slice Hg Bm.length Hh] (by rfl) rfl rfl qy1 ?_
   with_reducible refine(spec_l06All.calls k _ _ Bl _ _ Bm false _ (qc ((Kd.R_reads' Ay.out).2.2)) (by exact(Kd.R_reads' Ay.out).2.1) (qc ((Kd.R_reads' Bg.out).2.2)) (by exact(Kd.R_reads' Bg.out).2.1) A9.out).mono ?_
   rintro e w' ⟨rfl,⟨nd,rfl⟩⟩
   refine⟨_,rfl, ?_⟩
   refine hK.out _ _ ⟨(y7 Aa.out 0).trans rfl,(y7 Aa.out 1).trans rfl,(y7 Aa.out 2).trans rfl,(y7 Aa.out 3).trans rfl,(y7 Aa.out 4).trans rfl⟩ (fun hHeld=>?_)
   clear hK K
   refine qx 12 ?_
   refine qp 5 13 #[true,true,true,true,true,true] ?_
   refine done_ (by kernel_rfl) ?_
   try go_wp2
   go_ret
   exact⟨qf,qb⟩
def impl_in.f (a0:Int) (a1:Int) (a2:Int):Option (Bool):=if a0≥a1 then(some (decide (a0≤a2)))else(some false)
theorem impl_in.calls (a0:Int) (a1:Int) (a2:Int) (r:Bool) (w:World) (h:impl_in.f a0 a1 a2=some r) :
  Calls Try.prog 29 #[.int .i64 a0,.int .i64 a1,.int .i64 a2] w fun e w'=>e=.returned (.bool r)∧Drawn0 w w':=by
 have H:(if a0≥a1 then(some (decide (a0≤a2)))else(some false))=some r:=h
 clear h
 by_cases c4:a0≥a1
 ·rw [if_pos c4]at H
  have c4b0:decide (a1≤a0)=true:=decide_eq_true c4
  clear c4
  obtain rfl:=Option.some.inj H
  go_enter Try.func29,Try.ntmps29
  go_wp2
  go_ret
  exact qf2
 ·rw [if_neg c4]at H
  have c4b0:decide (a1≤a0)=false:=decide_eq_false c4
  clear c4
  obtain rfl:=Option.some.inj H
  go_enter Try.func29,Try.ntmps29
  go_wp2
  go_ret
  exact qf2
def impl_isSum.f (a0:Int):Option (Bool):=(impl_in.f a0 5 7).bind fun Ae=>(some Ae)
theorem impl_isSum.calls (a0:Int) (r:Bool) (w:World) (h:impl_isSum.f a0=some r) :
  Calls Try.prog 65 #[.int .i64 a0] w fun e w'=>e=.returned (.bool r)∧Drawn0 w w':=by
 have H:((impl_in.f a0 5 7).bind fun t432=>(some t432))=some r:=h
 clear h
 obtain⟨t432,A2,H⟩:=qB H
 obtain rfl:=Option.some.inj H
 go_enter Try.func65,Try.ntmps65
 go_wp2_with (first|((with_reducible refine y15 (f:=29) rfl ?_);refine y17 (some 4) rfl rfl Try.func29 (by kernel_rfl) rfl #[.int .i64 a0,.int .i64 5,.int .i64 7] rfl qy1 ?_;(with_reducible refine(impl_in.calls a0 5 7 t432 _ A2.out).mono ?_);rintro e w' ⟨rfl,⟨nd,rfl⟩⟩;refine⟨_,rfl, ?_⟩))
 go_ret
 exact qf2
def impl_Rule_lits.f (l0_0:List (S63)) (Al:Int) (An:ByteArray) (Ao:List Int) (Ae:List (S33)):Option ((List (S33))):=(some (([(⟨Al,An,Ao⟩:S33)]:List (S33)):List (S33))).bind fun y434=>(if y434.length + Ae.length < 2932031007402 then(some (y434 ++ Ae))else(none))
theorem impl_Rule_lits.calls (Av:Option Addr) (Aw:Nat) (Aj:List (S63)) (Ag:Int) (Ah:ByteArray) (P0_3_:Nat→Prop) (Ak:Option Addr) (Am:Nat) (Ab:List Int) (P0_4_:Nat→Prop) (At:Option Addr) (Au:Nat) (Ac:List (S33)) (r:List (S33)) (w:World) (Ay:Kd.C k63 w Av Aj.length Aj) (Az:Aj.length≤Aw) (Bd:Kd.V (Kd.int .i64) 3 w w.heap.size (fun k_=>P0_3_ k_) (.slice Ak Ab.length Am) Ab) (Be:Kd.V k33 33 w w.heap.size (fun k_=>P0_4_ k_) (.slice At Ac.length Au) Ac) (h:impl_Rule_lits.f Aj Ag Ah Ab Ac=some r) :
  Calls Try.prog 80 #[.agg #[.slice Av Aj.length Aw,.int .i64 Ag,.string Ah,.slice Ak Ab.length Am,.slice At Ac.length Au]] w fun e w'=>∃ v0_:Value,e=.returned (v0_)∧Kd.N k33 33 w' w.heap.size (fun k_=>((P0_3_ k_∨P0_4_ k_)∨w.heap.size≤k_)) v0_ r∧Below w.heap.size w w':=by
 have Ci:=Try.underlying36
 have Cj:=Try.underlying33
 have Ce:=y0.mk Ay
 have Cf:=y0.mk Az
 clear Ay Az
 have Af:=y0.mk (show Kd.V (Kd.int .i64) 3 w w.heap.size (fun k_=>((P0_3_ k_∨P0_4_ k_)∨w.heap.size≤k_)) (.slice Ak Ab.length Am) Ab from Kd.V_mono Bd (fun k_ hk=>.inl (.inl hk)))
 have Ai:=y0.mk (show Kd.V k33 33 w w.heap.size (fun k_=>((P0_3_ k_∨P0_4_ k_)∨w.heap.size≤k_)) (.slice At Ac.length Au) Ac from Kd.V_mono Be (fun k_ hk=>.inl (.inr hk)))
 have HB:=y0.mk (Below.refl w.heap.size w)
 have H:((some (([(⟨Ag,Ah,Ab⟩:S33)]:List (S33)):List (S33))).bind fun As=>(if As.length + Ac.length < 2932031007402 then(some (As ++ Ac))else(none)))=some r:=h
 clear h
 obtain⟨As,Ap⟩:∃ y_:List (S33),y_=(([(⟨Ag,Ah,Ab⟩:S33)]:List (S33))):=⟨_,rfl⟩
 replace H:(if As.length + Ac.length < 2932031007402 then(some (As ++ Ac))else(none))=some r:=by first|exact Ap ▸ H|exact Ap ▸ (Option.bind_some _ _).symm.trans H
 replace Ap:=y0.mk Ap
 obtain⟨c2,H⟩:=qo H
 replace c2:=y0.mk c2
 obtain⟨Bi,Ar⟩:∃ y_:List (S33),y_=(As ++ Ac):=⟨_,rfl⟩
 replace H:(some Bi)=some r:=by first|exact Ar ▸ H|exact Ar ▸ (Option.bind_some _ _).symm.trans H
 replace Ar:=y0.mk Ar
 obtain rfl:=Option.some.inj H
 go_enter Try.func80,Try.ntmps80
 go_wp2_with (first|((with_reducible refine y16 (N:=1) rfl ?_);refine qe 1 #[.slice Av Aj.length Aw,.int .i64 Ag,.string Ah,.slice Ak Ab.length Am,.slice At Ac.length Au] 36 ?_;intro Aa hg w3 hbox hb;replace Af:=y0.mk (Kd.V_below (Kd.V_elderB (qV Af.out) Aa (Nat.le_of_eq hg.symm)) hb);replace Ai:=y0.mk (Kd.V_below (Kd.V_elderB (qV Ai.out) Aa (Nat.le_of_eq hg.symm)) hb);have Ad:=y0.mk (hbox);have Cg:=y0.mk (qg (w:=w) hg);have Ch:=y0.mk (qg (w:=w) hg);replace HB:=y0.mk (y4 qb hb);clear hb hbox hg;obtain⟨Bj,Bk,Bl,Bm,Bn,Bo,Bp,Bq,Br,Bs⟩:=qz5 Ad.out)|((with_reducible refine y16 (N:=5) rfl ?_);refine Kd.N_lit k33 _ 33 ?hg (N':=5) ?hd (xs:=([(⟨Ag,Ah,Ab⟩:S33)]:List (S33))) (inner:=[.int .i64 Ag,.string Ah,.slice Ak Ab.length Am]) (ok:=(fun k_=>((P0_3_ k_∨P0_4_ k_)∨w.heap.size≤k_)∧k_≠Aa)) (okp:=(fun k_=>((P0_3_ k_∨P0_4_ k_)∨w.heap.size≤k_)∧k_≠Aa)) ?hr ?hp (fun _ hk=>hk) ((show ∀ k_,w3.heap.size≤k_→(fun k_=>((P0_3_ k_∨P0_4_ k_)∨w.heap.size≤k_)∧k_≠Aa) k_ from fun k_ hk=>⟨(.inr (Nat.le_trans (y3 qb) hk)),Kd.freshB (g:=Aa) (o:=.cells #[.slice Av Aj.length Aw,.int .i64 Ag,.string Ah,.slice Ak Ab.length Am,.slice At Ac.length Au] 36 (0,0)) (qk Ad.out) k_ hk⟩) _ (Nat.le_refl _)) (Below.refl _ _) (Nat.le_refl _) (by simp) ?_;(case hd=>rfl);(case hg=>rfl);(case hr=>first|(go_simp;done)|(go_simp;rfl));(case hp=>exact(Reps.c3 (show Kd.FK k33 _ _ (⟨Ag,Ah,Ab⟩:S33) [.int .i64 Ag,.string Ah,.slice Ak Ab.length Am]from(k33_mkF _ _ (⟨Ag,Ah,Ab⟩:S33) (Kd.V_reads' (Kd.V_mono (ok':=(fun k_=>((P0_3_ k_∨P0_4_ k_)∨w.heap.size≤k_)∧k_≠Aa)) (Af.out) (fun k_ hk=>⟨hk.1,hk.2⟩))).2.1 (Kd.V_F (Kd.V_mono (ok':=(fun k_=>((P0_3_ k_∨P0_4_ k_)∨w.heap.size≤k_)∧k_≠Aa)) (Af.out) (fun k_ hk=>⟨hk.1,hk.2⟩))))) (Reps.none _ _)));intro Bb w5 Bc hb hg_ hnew_;clear hg_ hnew_;(first|rw [← Ap.out]at Bc|(simp only [Int.reduceToNat]at Bc;rw [← Ap.out]at Bc));replace Af:=y0.mk (Kd.V_elder' (qV Af.out) (Kd.N_base Bc) hb);replace Ai:=y0.mk (Kd.V_elder' (qV Ai.out) (Kd.N_base Bc) hb);have Ax:=y0.mk (Kd.N_lower Bc (y3 qb));replace Ad:=y0.mk (qK Ad.out hb);replace HB:=y0.mk (y4 qb hb);clear hb Bc;obtain⟨Bt,Bu,Bv,Bw,Bx,Bz,Ca,Cb,Cc,Cd⟩:=qz5 Ad.out)|((with_reducible refine gate_builtin (b:=.append) (xs:=#[.tmp 5,.tmp 7]) rfl ?_);at_builtin;refine Kd.N_append_rows k33 (w0:=w) w.heap.size rfl (.tmp 5) (.tmp 7) 34 33 (.agg #[(.int .i64 0),(.string ⟨#[]⟩),(.slice none 0 0)]) 48 rfl Try.underlying34 info33 rfl (by decide) (by omega) Bb As Ac _ _ _ (fun k_=>((P0_3_ k_∨P0_4_ k_)∨w.heap.size≤k_)∧k_≠Aa) (fun k_=>((fun k_=>((P0_3_ k_∨P0_4_ k_)∨w.heap.size≤k_)∧k_≠Aa)) k_∧some k_≠(Bb:Value).ownBlock) rfl rfl ?aO ?aR (fun _ hk=>hk) ?aF ?aB ?aS ?aL ?_;(case aR=>exact(by skip;exact Kd.V_F (Kd.V_mono (ok':=(fun k_=>((fun k_=>((P0_3_ k_∨P0_4_ k_)∨w.heap.size≤k_)∧k_≠Aa)) k_∧some k_≠(Bb:Value).ownBlock)) (Ai.out) (fun k_ hk=>⟨⟨hk.1.1,hk.1.2⟩,hk.2⟩))));(case aB=>exact qb);(case aF=>exact(fun k_ hk=>⟨(.inr (Nat.le_trans (y3 qb) hk)),Kd.freshB (g:=Aa) (o:=.cells #[.slice Av Aj.length Aw,.int .i64 Ag,.string Ah,.slice Ak Ab.length Am,.slice At Ac.length Au] 36 (0,0)) (qk Ad.out) k_ hk⟩));(case aO=>exact(qN Ax.out));(case aS=>exact(y3 qb));(case aL=>have:=c2.out;omega);intro Ck w8 ho hb hg hat;rw [← Ar.out]at ho;replace Af:=y0.mk (Kd.V_afterv (ok:=(fun k_=>((P0_3_ k_∨P0_4_ k_)∨w.heap.size≤k_)∧k_≠Aa)) (qV Af.out) hg hat);replace Ai:=y0.mk (Kd.V_afterv (ok:=(fun k_=>((P0_3_ k_∨P0_4_ k_)∨w.heap.size≤k_)∧k_≠Aa)) (qV Ai.out) hg hat);replace Ad:=y0.mk (blk_grown (qk Ad.out) hg (Kd.N_ne Ax.out Ad.out (by decide)));replace HB:=y0.mk (hb);have Bg:=y0.mk (ho);clear Ax;clear ho hb hg hat))
 go_ret
 exact⟨_,by first|rfl|(simp [y12,y13] <;> rfl)|(simp [*,y12,y13] <;> rfl),by(with_reducible repeat(first|apply Kd.N_alloc|apply Kd.N_drewN|apply Kd.N_drew));exact Kd.N_mono Bg.out (fun _ hk=>hk.1),qb⟩
def impl_isFormed_1.f (a0:Int):Option (Bool):=some (a0 != 1)
theorem impl_isFormed_1.calls (a0:Int) (r:Bool) (w:World) (h:impl_isFormed_1.f a0=some r) :
  Calls Try.prog 82 #[.int .i64 a0] w fun e w'=>e=.returned (.bool r)∧Drawn0 w w':=by
 have H:(some (a0 != 1))=some r:=h
 clear h
 obtain rfl:=Option.some.inj H
 go_enter Try.func82,Try.ntmps82
 go_wp2
 go_ret
 exact qf2
def z5_.l0:Nat→List Int→Int→Int→Option (Int)
 | 0,_,_,_=>none
 | k + 1,x0,x7,x8=>if x8 < x7 then(if 0≤x8 then(if x8 < (x0.length:Int)then((impl_isFormed_1.f (rd x0 x8)).bind fun Ae=>(if Ae=true then(some x8)else(z5_.l0 k x0 x7 (wrap64 (x8 + 1)))))else(none))else(none))else(some (-1))
def z5_.f (k:Nat) (l0:List Int) :Option (Int):=z5_.l0 k l0 (l0.length:Int) 0
theorem z5_.calls (k:Nat) (A0:Option Addr) (c0:Nat) (l0:List Int)  (r:Int) (w:World) (Ai:Kd.C (Kd.int .i64) w A0 l0.length l0) (Aj:l0.length≤c0) (h:z5_.f k l0=some r) :
  Calls Try.prog 92 #[.slice A0 l0.length c0,.func (.func 82) #[] #[]] w fun e w'=>e=.returned (.int .i64 r)∧Drawn0 w w':=by
 have Ap:=y0.mk Ai
 have At:=y0.mk Aj
 clear Ai Aj
 have H:(z5_.l0 k l0 (l0.length:Int) 0)=some r:=h
 clear h
 have H':=y0.mk H
 clear H
 go_enter Try.func92,Try.ntmps92
 go_wp2
 go_loopg [8] k (fun kq v8 w'=>∃(Aa:Int),v8=.int .i64 Aa∧y0 (z5_.l0 kq l0 (l0.length:Int) Aa=some r)∧y0 (kq≤k)∧Drawn0 w w')
 case atStart=>exact⟨(0),qy2,H',⟨Nat.le_refl _⟩,by repeat(first|exact Drawn0.refl _|apply Drawn0.step)⟩
 case round =>
  clear H'
  obtain⟨Aa,rfl,HA,Ak,⟨m1,rfl⟩⟩:=hrel
  cases gk with
  | zero=>exact absurd HA.out (by simp [z5_.l0])
  | succ k1 =>
   have H:=HA.out
   clear HA
   simp only [z5_.l0]at H
   by_cases c3:Aa < (l0.length:Int)
   ·rw [if_pos c3]at H
    have Af:=decide_eq_true c3
    clear c3
    obtain⟨c4,H⟩:=qo H
    have Ar:decide (0≤Aa)=true:=decide_eq_true c4
    clear c4
    obtain⟨c5,H⟩:=qo H
    have As:decide (Aa < (l0.length:Int))=true:=decide_eq_true c5
    clear c5
    obtain⟨Ag,A6,H⟩:=qB H
    have Ab:0≤(Aa:Int):=qd
    have Ac:Aa < (l0.length:Int):=qd
    obtain⟨Am,Ah,Ad⟩:=Kd.at_int Ap.out Aa Ab Ac
    cases Ah
    replace Ab:=eq_true Ab
    replace Ac:=eq_true Ac
    by_cases c7:Ag=true
    ·subst c7
     replace H:=qT H
     obtain rfl:=Option.some.inj H
     go_wp2_with (first|(go_at_call 82;(with_reducible refine(impl_isFormed_1.calls (rd l0 Aa) true _ A6.out).mono ?_);rintro e w' ⟨rfl,⟨nd,rfl⟩⟩))
     go_ret
     exact qf2
    ·replace c7:=Bool.eq_false_iff.mpr c7
     subst c7
     replace H:=qF H
     have H':=y0.mk H
     clear H
     go_wp2_with (first|(go_at_call 82;(with_reducible refine(impl_isFormed_1.calls (rd l0 Aa) false _ A6.out).mono ?_);rintro e w' ⟨rfl,⟨nd,rfl⟩⟩))
     go_roundg k1
     case measure=>have:=Ak.out;omega
     exact⟨(wrap64 (Aa + 1)),qy2,H',⟨by have:=Ak.out;omega⟩,by repeat(first|exact Drawn0.refl _|apply Drawn0.step)⟩
   ·rw [if_neg c3]at H
    have Af:=decide_eq_false c3
    clear c3
    obtain rfl:=Option.some.inj H
    go_wp2
    go_ret
    exact qf2
def slices_ContainsFunc_int_int_impl_isFormed_1.f (k:Nat) (l0:List Int) :Option (Bool):=(z5_.f k l0).bind fun Ae=>(some (decide (Ae≥0)))
theorem slices_ContainsFunc_int_int_impl_isFormed_1.calls (k:Nat) (A0:Option Addr) (c0:Nat) (l0:List Int)  (r:Bool) (w:World) (hr0:Kd.C (Kd.int .i64) w A0 l0.length l0) (hc0:l0.length≤c0) (h:slices_ContainsFunc_int_int_impl_isFormed_1.f k l0=some r) :
  Calls Try.prog 81 #[.slice A0 l0.length c0,.func (.func 82) #[] #[]] w fun e w'=>e=.returned (.bool r)∧Drawn0 w w':=by
 have HR0:=y0.mk hr0
 have HC0:=y0.mk hc0
 clear hr0 hc0
 have H:((z5_.f k l0).bind fun t442=>(some (decide (t442≥0))))=some r:=h
 clear h
 obtain⟨t442,A3,H⟩:=qB H
 obtain rfl:=Option.some.inj H
 go_enter Try.func81,Try.ntmps81
 go_wp2_with (first|((with_reducible refine y15 (f:=92) rfl ?_);refine y17 (some 7) rfl rfl Try.func92 (by kernel_rfl) rfl #[.slice A0 l0.length c0,.func (.func 82) #[] #[]] rfl qy1 ?_;(with_reducible refine(z5_.calls k _ _ l0  t442 _ (qc HR0.out) HC0.out A3.out).mono ?_);rintro e w' ⟨rfl,⟨nd,rfl⟩⟩;refine⟨_,rfl, ?_⟩))
 go_ret
 exact qf2
end Go.Proofs.Ytkdabljlfbmpdaa.Pw
end
