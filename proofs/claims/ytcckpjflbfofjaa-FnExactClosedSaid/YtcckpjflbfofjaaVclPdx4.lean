-- Cut by prune.py, a program of this session, out of the texts of this claim: Lean checks it.
import Derived.Test.YtcckpjflbfofjaaVclPdx0
section
namespace Go.Proofs.Ytcckpjflbfofjaa.Pd
open Go.RowKit Go.Proofs.YtcckpjflbfofjaaW.PrintWords Go.Proofs.YtcckpjflbfofjaaW.PrintLast Go.Proofs.YtcckpjflbfofjaaW.PrintMore
attribute [local go_sem] max2_int min2_int max_two min_two max_three min_three max_four min_four   -- for this text's walks alone
set_option linter.unusedVariables false
set_option linter.unusedSimpArgs false
mutual
def z0_.j0:Nat→Bool→Int→Int→List (S53)→Int→Int→List (S53)→Option (Int×Int×(List (S53))×Bool)
 | 0,_,_,_,_,_,_,_=>none
 | k + 1,x27,x136000,x136001,x136002,x137000,x137001,x137002=>if x27=true then(some (0,0,([]:List (S53)),false))else(z0_.l0 k 0 x136000 x136001 x136002 x137000 x137001 x137002 x136000 x137001 ([]:List (S53)))
def z0_.l0:Nat→Int→Int→Int→List (S53)→Int→Int→List (S53)→Int→Int→List (S53)→Option (Int×Int×(List (S53))×Bool)
 | 0,_,_,_,_,_,_,_,_,_,_=>none
 | k + 1,x7,x136000,x136001,x136002,x137000,x137001,x137002,x141000,x141001,x141002=>if x7 < 6 then(z0_.l1 k x7 0 x136000 x136001 x136002 x137000 x137001 x137002 x141000 x141001 x141002)else(some (x141000,x141001,x141002,true))
def z0_.l1:Nat→Int→Int→Int→Int→List (S53)→Int→Int→List (S53)→Int→Int→List (S53)→Option (Int×Int×(List (S53))×Bool)
 | 0,_,_,_,_,_,_,_,_,_,_,_=>none
 | k + 1,x7,x8,x136000,x136001,x136002,x137000,x137001,x137002,x141000,x141001,x141002=>if x8 < 6 then(z0_.l2 k x7 x8 false false 0 x136000 x136001 x136002 x137000 x137001 x137002 x141000 x141001 x141002)else(z0_.l0 k (wrap64 (x7 + 1)) x136000 x136001 x136002 x137000 x137001 x137002 x141000 x141001 x141002)
def z0_.l2:Nat→Int→Int→Bool→Bool→Int→Int→Int→List (S53)→Int→Int→List (S53)→Int→Int→List (S53)→Option (Int×Int×(List (S53))×Bool)
 | 0,_,_,_,_,_,_,_,_,_,_,_,_,_,_=>none
 | k + 1,x7,x8,x9,x10,x11,x136000,x136001,x136002,x137000,x137001,x137002,x141000,x141001,x141002=>if x11 < (x136002.length:Int)then(z0_.l3 k x7 x8 x9 x10 x11 0 x136000 x136001 x136002 x137000 x137001 x137002 x141000 x141001 x141002)else(if x9=true then(if x141002.length < 5864062014805 then(z0_.l1 k x7 (wrap64 (x8 + 1)) x136000 x136001 x136002 x137000 x137001 x137002 x141000 x141001 (x141002 ++ [(⟨x7,x8,x10⟩:S53)]))else(none))else(z0_.l1 k x7 (wrap64 (x8 + 1)) x136000 x136001 x136002 x137000 x137001 x137002 x141000 x141001 x141002))
def z0_.l3:Nat→Int→Int→Bool→Bool→Int→Int→Int→Int→List (S53)→Int→Int→List (S53)→Int→Int→List (S53)→Option (Int×Int×(List (S53))×Bool)
 | 0,_,_,_,_,_,_,_,_,_,_,_,_,_,_,_=>none
 | k + 1,x7,x8,x9,x10,x11,x12,x136000,x136001,x136002,x137000,x137001,x137002,x141000,x141001,x141002=>if x12 < (x137002.length:Int)then(if 0≤x11 then(if x11 < (x136002.length:Int)then(if((y15 x136002 x11).f0)=x7 then(if 0≤x12 then(if((y15 x136002 x11).f1)=((y15 x137002 x12).f0)then(if((y15 x137002 x12).f1)=x8 then(if x10=true then(z0_.l3 k x7 x8 true true x11 (wrap64 (x12 + 1)) x136000 x136001 x136002 x137000 x137001 x137002 x141000 x141001 x141002)else(if(y15 x136002 x11).f2=true then(z0_.l3 k x7 x8 true true x11 (wrap64 (x12 + 1)) x136000 x136001 x136002 x137000 x137001 x137002 x141000 x141001 x141002)else(z0_.l3 k x7 x8 true ((y15 x137002 x12).f2) x11 (wrap64 (x12 + 1)) x136000 x136001 x136002 x137000 x137001 x137002 x141000 x141001 x141002)))else(z0_.l3 k x7 x8 x9 x10 x11 (wrap64 (x12 + 1)) x136000 x136001 x136002 x137000 x137001 x137002 x141000 x141001 x141002))else(z0_.l3 k x7 x8 x9 x10 x11 (wrap64 (x12 + 1)) x136000 x136001 x136002 x137000 x137001 x137002 x141000 x141001 x141002))else(none))else(z0_.l3 k x7 x8 x9 x10 x11 (wrap64 (x12 + 1)) x136000 x136001 x136002 x137000 x137001 x137002 x141000 x141001 x141002))else(none))else(none))else(z0_.l2 k x7 x8 x9 x10 (wrap64 (x11 + 1)) x136000 x136001 x136002 x137000 x137001 x137002 x141000 x141001 x141002)
end
def z0_.f (k:Nat) (a0_0:Int) (a0_1:Int) (l0_2:List (S53)) (a1_0:Int) (a1_1:Int) (l1_2:List (S53)):Option (Int×Int×(List (S53))×Bool):=(z1_.f k a0_0 a0_1 l0_2).bind fun t138=>(if t138=true then((z1_.f k a1_0 a1_1 l1_2).bind fun t139=>(if t139=true then(z0_.j0 k (a0_1 != a1_0) a0_0 a0_1 l0_2 a1_0 a1_1 l1_2)else(z0_.j0 k true a0_0 a0_1 l0_2 a1_0 a1_1 l1_2)))else(z0_.j0 k true a0_0 a0_1 l0_2 a1_0 a1_1 l1_2))
set_option maxHeartbeats 8000000 in
set_option maxRecDepth 100000 in
theorem z0_.calls (k:Nat) (Az:Int) (Bm:Int) (Cs:Option Addr) (Ct:Nat) (Aq:List (S53)) (Bo:Int) (Be:Int) (Cu:Option Addr) (Cv:Nat) (Au:List (S53)) (r1:Int) (r2:Int) (r3:List (S53)) (r4:Bool) (w:World) (Gf:Kd.C k53 w Cs Aq.length Aq) (Gg:Aq.length≤Ct) (Gh:Kd.C k53 w Cu Au.length Au) (Gi:Au.length≤Cv) (h:z0_.f k Az Bm Aq Bo Be Au=some (r1,r2,r3,r4)) :
  Calls Try.prog 8 #[.agg #[.int .i64 Az,.int .i64 Bm,.slice Cs Aq.length Ct],.agg #[.int .i64 Bo,.int .i64 Be,.slice Cu Au.length Cv]] w fun e w'=>∃ v2_:Value,e=.returned (.tuple #[.agg #[.int .i64 r1,.int .i64 r2,v2_],.bool r4])∧Kd.R k53 53 w' w.heap.size (fun _=>True) v2_ r3∧Below w.heap.size w w':=by
 have So:=Try.underlying28
 have Sp:=Try.underlying53
 have Bp:=y0.mk Gf
 have Cg:=y0.mk Gg
 clear Gf Gg
 have Bw:=y0.mk Gh
 have Cw:=y0.mk Gi
 clear Gh Gi
 have HB:=y0.mk (Below.refl w.heap.size w)
 have H:((z1_.f k Az Bm Aq).bind fun Hh=>(if Hh=true then((z1_.f k Bo Be Au).bind fun Hi=>(if Hi=true then(z0_.j0 k (Bm != Bo) Az Bm Aq Bo Be Au)else(z0_.j0 k true Az Bm Aq Bo Be Au)))else(z0_.j0 k true Az Bm Aq Bo Be Au)))=some (r1,r2,r3,r4):=h
 clear h
 have Ng:=y0.mk H
 clear H
 go_enter Try.func8,Try.ntmps8
 go_upto_region 1 with(first|((with_reducible refine y12 (N:=2) rfl ?_);refine qe 2 #[.int .i64 Az,.int .i64 Bm,.slice Cs Aq.length Ct] 28 ?_;intro Cl hg w4 hbox hb;have Aa:=y0.mk (hbox);have Gj:=y0.mk (qg (w:=w) hg);have Gk:=y0.mk (qg (w:=w) hg);replace HB:=y0.mk (y4 qb hb);clear hb hbox hg)|((with_reducible refine y12 (N:=3) rfl ?_);refine qe 3 #[.int .i64 Bo,.int .i64 Be,.slice Cu Au.length Cv] 28 ?_;intro Cm hg w5 hbox hb;have Ab:=y0.mk (hbox);have Gl:=y0.mk (qg (w:=w) hg);have Gm:=y0.mk (qg (w:=w) hg);replace HB:=y0.mk (y4 qb hb);have Ar:=y0.mk (qn Aa.out hg);have As:=y0.mk (qm Aa.out hg);replace Aa:=y0.mk (qK Aa.out hb);clear hb hbox hg)|((with_reducible refine y12 (N:=4) rfl ?_);refine qe 4 #[.int .i64 0,.int .i64 0,.slice none 0 0] 28 ?_;intro Cb hg w6 hbox hb;have Ad:=y0.mk (hbox);have Gn:=y0.mk (qg (w:=w) hg);have Gp:=y0.mk (qg (w:=w) hg);replace HB:=y0.mk (y4 qb hb);have Am:=y0.mk (qn Aa.out hg);have Ao:=y0.mk (qm Aa.out hg);replace Aa:=y0.mk (qK Aa.out hb);have Aj:=y0.mk (qn Ab.out hg);have Ak:=y0.mk (qm Ab.out hg);replace Ab:=y0.mk (qK Ab.out hb);clear hb hbox hg))
 repeat(go_quiet (first|((with_reducible refine y12 (N:=2) rfl ?_);refine qe 2 #[.int .i64 Az,.int .i64 Bm,.slice Cs Aq.length Ct] 28 ?_;intro Cl hg w4 hbox hb;have Aa:=y0.mk (hbox);have Gj:=y0.mk (qg (w:=w) hg);have Gk:=y0.mk (qg (w:=w) hg);replace HB:=y0.mk (y4 qb hb);clear hb hbox hg)|((with_reducible refine y12 (N:=3) rfl ?_);refine qe 3 #[.int .i64 Bo,.int .i64 Be,.slice Cu Au.length Cv] 28 ?_;intro Cm hg w5 hbox hb;have Ab:=y0.mk (hbox);have Gl:=y0.mk (qg (w:=w) hg);have Gm:=y0.mk (qg (w:=w) hg);replace HB:=y0.mk (y4 qb hb);have Ar:=y0.mk (qn Aa.out hg);have As:=y0.mk (qm Aa.out hg);replace Aa:=y0.mk (qK Aa.out hb);clear hb hbox hg)|((with_reducible refine y12 (N:=4) rfl ?_);refine qe 4 #[.int .i64 0,.int .i64 0,.slice none 0 0] 28 ?_;intro Cb hg w6 hbox hb;have Ad:=y0.mk (hbox);have Gn:=y0.mk (qg (w:=w) hg);have Gp:=y0.mk (qg (w:=w) hg);replace HB:=y0.mk (y4 qb hb);have Am:=y0.mk (qn Aa.out hg);have Ao:=y0.mk (qm Aa.out hg);replace Aa:=y0.mk (qK Aa.out hb);have Aj:=y0.mk (qn Ab.out hg);have Ak:=y0.mk (qm Ab.out hg);replace Ab:=y0.mk (qK Ab.out hb);clear hb hbox hg));go_upto_region 1 with(first|((with_reducible refine y12 (N:=2) rfl ?_);refine qe 2 #[.int .i64 Az,.int .i64 Bm,.slice Cs Aq.length Ct] 28 ?_;intro Cl hg w4 hbox hb;have Aa:=y0.mk (hbox);have Gj:=y0.mk (qg (w:=w) hg);have Gk:=y0.mk (qg (w:=w) hg);replace HB:=y0.mk (y4 qb hb);clear hb hbox hg)|((with_reducible refine y12 (N:=3) rfl ?_);refine qe 3 #[.int .i64 Bo,.int .i64 Be,.slice Cu Au.length Cv] 28 ?_;intro Cm hg w5 hbox hb;have Ab:=y0.mk (hbox);have Gl:=y0.mk (qg (w:=w) hg);have Gm:=y0.mk (qg (w:=w) hg);replace HB:=y0.mk (y4 qb hb);have Ar:=y0.mk (qn Aa.out hg);have As:=y0.mk (qm Aa.out hg);replace Aa:=y0.mk (qK Aa.out hb);clear hb hbox hg)|((with_reducible refine y12 (N:=4) rfl ?_);refine qe 4 #[.int .i64 0,.int .i64 0,.slice none 0 0] 28 ?_;intro Cb hg w6 hbox hb;have Ad:=y0.mk (hbox);have Gn:=y0.mk (qg (w:=w) hg);have Gp:=y0.mk (qg (w:=w) hg);replace HB:=y0.mk (y4 qb hb);have Am:=y0.mk (qn Aa.out hg);have Ao:=y0.mk (qm Aa.out hg);replace Aa:=y0.mk (qK Aa.out hb);have Aj:=y0.mk (qn Ab.out hg);have Ak:=y0.mk (qm Ab.out hg);replace Ab:=y0.mk (qK Ab.out hb);clear hb hbox hg)))
 (try simp only [Act.put,qS_,qZ_,qC_])
 go_cut [27] (fun Sq wc=>∃(kq:Nat) (Eb:Bool),Sq=.bool Eb∧y0 (z0_.j0 kq Eb Az Bm Aq Bo Be Au=some (r1,r2,r3,r4))∧y0 (kq≤k)∧y0 (wc.heap[Cl]?=some (.cells #[.int .i64 Az,.int .i64 Bm,(.slice Cs Aq.length Ct)] 28 (0,0)))∧y0 (wc.heap[Cm]?=some (.cells #[.int .i64 Bo,.int .i64 Be,(.slice Cu Au.length Cv)] 28 (0,0)))∧y0 (wc.heap[Cb]?=some (.cells #[.int .i64 0,.int .i64 0,(.slice none 0 0)] 28 (0,0)))∧y0 (Below w.heap.size w wc))
 case first =>
  have H:=Ng.out
  clear Ng
  obtain⟨Hh,A7,H⟩:=qB H
  by_cases c8:Hh=true
  ·subst c8
   replace H:=qT H
   obtain⟨Hi,A9,H⟩:=qB H
   by_cases Ki:Hi=true
   ·subst Ki
    replace H:=qT H
    have H':=y0.mk H
    clear H
    have Pb:=Ar.out
    have Pc:=As.out
    have Pe:=Am.out
    have Pf:=Ao.out
    obtain⟨Kj,Kk,Kl,Km,Kn,Ko⟩:=qz3 Aa.out
    go_wp2_with (first|(go_at_call 27;(with_reducible refine(z1_.calls k Az Bm _ _ Aq true _ (qc (Kd.C_below Bp.out HB.out)) Cg.out A7.out).mono ?_);rintro e Pg ⟨rfl,hb⟩;replace Aa:=y0.mk (qK Aa.out hb);replace Ab:=y0.mk (qK Ab.out hb);replace Ad:=y0.mk (qK Ad.out hb);replace HB:=y0.mk (y4 qb hb);(try clear hb);have Gq:=Aj.out;have Gr:=Ak.out;obtain⟨Ec,Ed,Ee,Ef,Eg,Eh⟩:=qz3 Ab.out)|(go_at_call 27;(with_reducible refine(z1_.calls k Bo Be _ _ Au true _ (qc (Kd.C_below Bw.out HB.out)) Cw.out A9.out).mono ?_);rintro e Ph ⟨rfl,hb⟩;replace Aa:=y0.mk (qK Aa.out hb);replace Ab:=y0.mk (qK Ab.out hb);replace Ad:=y0.mk (qK Ad.out hb);replace HB:=y0.mk (y4 qb hb);(try clear hb);obtain⟨Ei,Ej,Ek,El,Em,En⟩:=qz3 Aa.out;obtain⟨Eo,Ep,Er,Es,Et,Eu⟩:=qz3 Ab.out))
    repeat(go_quiet (first|(go_at_call 27;(with_reducible refine(z1_.calls k Az Bm _ _ Aq true _ (qc (Kd.C_below Bp.out HB.out)) Cg.out A7.out).mono ?_);rintro e Pg ⟨rfl,hb⟩;replace Aa:=y0.mk (qK Aa.out hb);replace Ab:=y0.mk (qK Ab.out hb);replace Ad:=y0.mk (qK Ad.out hb);replace HB:=y0.mk (y4 qb hb);(try clear hb);have Gq:=Aj.out;have Gr:=Ak.out;obtain⟨Ec,Ed,Ee,Ef,Eg,Eh⟩:=qz3 Ab.out)|(go_at_call 27;(with_reducible refine(z1_.calls k Bo Be _ _ Au true _ (qc (Kd.C_below Bw.out HB.out)) Cw.out A9.out).mono ?_);rintro e Ph ⟨rfl,hb⟩;replace Aa:=y0.mk (qK Aa.out hb);replace Ab:=y0.mk (qK Ab.out hb);replace Ad:=y0.mk (qK Ad.out hb);replace HB:=y0.mk (y4 qb hb);(try clear hb);obtain⟨Ei,Ej,Ek,El,Em,En⟩:=qz3 Aa.out;obtain⟨Eo,Ep,Er,Es,Et,Eu⟩:=qz3 Ab.out));try go_wp2_with (first|(go_at_call 27;(with_reducible refine(z1_.calls k Az Bm _ _ Aq true _ (qc (Kd.C_below Bp.out HB.out)) Cg.out A7.out).mono ?_);rintro e Pg ⟨rfl,hb⟩;replace Aa:=y0.mk (qK Aa.out hb);replace Ab:=y0.mk (qK Ab.out hb);replace Ad:=y0.mk (qK Ad.out hb);replace HB:=y0.mk (y4 qb hb);(try clear hb);have Gq:=Aj.out;have Gr:=Ak.out;obtain⟨Ec,Ed,Ee,Ef,Eg,Eh⟩:=qz3 Ab.out)|(go_at_call 27;(with_reducible refine(z1_.calls k Bo Be _ _ Au true _ (qc (Kd.C_below Bw.out HB.out)) Cw.out A9.out).mono ?_);rintro e Ph ⟨rfl,hb⟩;replace Aa:=y0.mk (qK Aa.out hb);replace Ab:=y0.mk (qK Ab.out hb);replace Ad:=y0.mk (qK Ad.out hb);replace HB:=y0.mk (y4 qb hb);(try clear hb);obtain⟨Ei,Ej,Ek,El,Em,En⟩:=qz3 Aa.out;obtain⟨Eo,Ep,Er,Es,Et,Eu⟩:=qz3 Ab.out)))
    go_meet
    exact⟨_,((Bm != Bo)),qy2,H',⟨by first|omega|exact Nat.le_refl _⟩,⟨qk Aa.out⟩,⟨qk Ab.out⟩,⟨qk Ad.out⟩,⟨qb⟩⟩
   ·replace Ki:=Bool.eq_false_iff.mpr Ki
    subst Ki
    replace H:=qF H
    have H':=y0.mk H
    clear H
    have Pi:=Ar.out
    have Pj:=As.out
    have Pk:=Am.out
    have Pm:=Ao.out
    obtain⟨Kp,Kq,Kr,Ks,Kt,Ku⟩:=qz3 Aa.out
    go_wp2_with (first|(go_at_call 27;(with_reducible refine(z1_.calls k Az Bm _ _ Aq true _ (qc (Kd.C_below Bp.out HB.out)) Cg.out A7.out).mono ?_);rintro e Pn ⟨rfl,hb⟩;replace Aa:=y0.mk (qK Aa.out hb);replace Ab:=y0.mk (qK Ab.out hb);replace Ad:=y0.mk (qK Ad.out hb);replace HB:=y0.mk (y4 qb hb);(try clear hb);have Gs:=Aj.out;have Gt:=Ak.out;obtain⟨Ew,Ey,Ez,Fa,Fb,Fc⟩:=qz3 Ab.out)|(go_at_call 27;(with_reducible refine(z1_.calls k Bo Be _ _ Au false _ (qc (Kd.C_below Bw.out HB.out)) Cw.out A9.out).mono ?_);rintro e Po ⟨rfl,hb⟩;replace Aa:=y0.mk (qK Aa.out hb);replace Ab:=y0.mk (qK Ab.out hb);replace Ad:=y0.mk (qK Ad.out hb);replace HB:=y0.mk (y4 qb hb);(try clear hb)))
    repeat(go_quiet (first|(go_at_call 27;(with_reducible refine(z1_.calls k Az Bm _ _ Aq true _ (qc (Kd.C_below Bp.out HB.out)) Cg.out A7.out).mono ?_);rintro e Pn ⟨rfl,hb⟩;replace Aa:=y0.mk (qK Aa.out hb);replace Ab:=y0.mk (qK Ab.out hb);replace Ad:=y0.mk (qK Ad.out hb);replace HB:=y0.mk (y4 qb hb);(try clear hb);have Gs:=Aj.out;have Gt:=Ak.out;obtain⟨Ew,Ey,Ez,Fa,Fb,Fc⟩:=qz3 Ab.out)|(go_at_call 27;(with_reducible refine(z1_.calls k Bo Be _ _ Au false _ (qc (Kd.C_below Bw.out HB.out)) Cw.out A9.out).mono ?_);rintro e Po ⟨rfl,hb⟩;replace Aa:=y0.mk (qK Aa.out hb);replace Ab:=y0.mk (qK Ab.out hb);replace Ad:=y0.mk (qK Ad.out hb);replace HB:=y0.mk (y4 qb hb);(try clear hb)));try go_wp2_with (first|(go_at_call 27;(with_reducible refine(z1_.calls k Az Bm _ _ Aq true _ (qc (Kd.C_below Bp.out HB.out)) Cg.out A7.out).mono ?_);rintro e Pn ⟨rfl,hb⟩;replace Aa:=y0.mk (qK Aa.out hb);replace Ab:=y0.mk (qK Ab.out hb);replace Ad:=y0.mk (qK Ad.out hb);replace HB:=y0.mk (y4 qb hb);(try clear hb);have Gs:=Aj.out;have Gt:=Ak.out;obtain⟨Ew,Ey,Ez,Fa,Fb,Fc⟩:=qz3 Ab.out)|(go_at_call 27;(with_reducible refine(z1_.calls k Bo Be _ _ Au false _ (qc (Kd.C_below Bw.out HB.out)) Cw.out A9.out).mono ?_);rintro e Po ⟨rfl,hb⟩;replace Aa:=y0.mk (qK Aa.out hb);replace Ab:=y0.mk (qK Ab.out hb);replace Ad:=y0.mk (qK Ad.out hb);replace HB:=y0.mk (y4 qb hb);(try clear hb))))
    go_meet
    exact⟨_,(true),qy2,H',⟨by first|omega|exact Nat.le_refl _⟩,⟨qk Aa.out⟩,⟨qk Ab.out⟩,⟨qk Ad.out⟩,⟨qb⟩⟩
  ·replace c8:=Bool.eq_false_iff.mpr c8
   subst c8
   replace H:=qF H
   have H':=y0.mk H
   clear H
   have Pp:=Ar.out
   have Pq:=As.out
   have Pr:=Am.out
   have Ps:=Ao.out
   obtain⟨Kv,Kw,Kx,Ky,Kz,La⟩:=qz3 Aa.out
   go_wp2_with (first|(go_at_call 27;(with_reducible refine(z1_.calls k Az Bm _ _ Aq false _ (qc (Kd.C_below Bp.out HB.out)) Cg.out A7.out).mono ?_);rintro e Pt ⟨rfl,hb⟩;replace Aa:=y0.mk (qK Aa.out hb);replace Ab:=y0.mk (qK Ab.out hb);replace Ad:=y0.mk (qK Ad.out hb);replace HB:=y0.mk (y4 qb hb);(try clear hb)))
   repeat(go_quiet (first|(go_at_call 27;(with_reducible refine(z1_.calls k Az Bm _ _ Aq false _ (qc (Kd.C_below Bp.out HB.out)) Cg.out A7.out).mono ?_);rintro e Pt ⟨rfl,hb⟩;replace Aa:=y0.mk (qK Aa.out hb);replace Ab:=y0.mk (qK Ab.out hb);replace Ad:=y0.mk (qK Ad.out hb);replace HB:=y0.mk (y4 qb hb);(try clear hb)));try go_wp2_with (first|(go_at_call 27;(with_reducible refine(z1_.calls k Az Bm _ _ Aq false _ (qc (Kd.C_below Bp.out HB.out)) Cg.out A7.out).mono ?_);rintro e Pt ⟨rfl,hb⟩;replace Aa:=y0.mk (qK Aa.out hb);replace Ab:=y0.mk (qK Ab.out hb);replace Ad:=y0.mk (qK Ad.out hb);replace HB:=y0.mk (y4 qb hb);(try clear hb))))
   go_meet
   exact⟨_,(true),qy2,H',⟨by first|omega|exact Nat.le_refl _⟩,⟨qk Aa.out⟩,⟨qk Ab.out⟩,⟨qk Ad.out⟩,⟨qb⟩⟩
 case rest =>
  clear Ng
  obtain⟨kq,Eb,rfl,HA,Cx,Aa,Ab,Ad,HB⟩:=hcut
  cases kq with
  | zero=>exact absurd HA.out (by simp [z0_.j0])
  | succ Pu =>
   have H:=HA.out
   clear HA
   simp only [z0_.j0]at H
   by_cases Hu:Eb=true
   ·subst Hu
    replace H:=qT H
    simp only [Option.some.injEq,Prod.mk.injEq]at H
    obtain⟨rfl,rfl,rfl,rfl⟩:=H
    have Pv:=Ao.out
    have Pw:=Am.out
    have Px:=Ak.out
    have Py:=Aj.out
    obtain⟨Lb,Lc,Ld,Le,Lf,Lg⟩:=qz3 Ad.out
    go_wp2
    repeat(go_quiet (fail);try go_wp2)
    refine bodyPost_ret (results_ct rfl _ _ Cb 28 #[.int .i64 0,.int .i64 0,.slice none 0 0] (0,0) _ rfl (by(with_reducible repeat(first|refine y9 ?_ _|refine y8 ?_|refine y5 ?_ _));refine blk_put (cs:=#[.int .i64 0,.int .i64 0,.slice none 0 0]) ?_ 2 _ rfl;(with_reducible repeat(first|refine y9 ?_ _|refine y8 ?_|refine y5 ?_ _));refine blk_put (cs:=#[.int .i64 0,.int .i64 0,.slice none 0 0]) ?_ 1 _ rfl;(with_reducible repeat(first|refine y9 ?_ _|refine y8 ?_|refine y5 ?_ _));refine blk_put (cs:=#[.int .i64 0,.int .i64 0,.slice none 0 0]) ?_ 0 _ rfl;(with_reducible repeat(first|refine y9 ?_ _|refine y8 ?_|refine y5 ?_ _));exact Ad.out) Try.underlying28 rfl (by kernel_rfl)) rfl ?_
    exact⟨_,by first|rfl|(simp [errW_none,errW_some] <;> rfl)|(simp [*,errW_none,errW_some] <;> rfl),by first|exact Kd.R_nil _ _ _ _ _|exact Kd.N_nil _ _ _ _ _|exact Kd.V_nil _ _ _ _ _|exact Kd.Q_nil _ _ _ _ _|exact Kd.S_nil _ _ _ _ _,qb⟩
   ·replace Hu:=Bool.eq_false_iff.mpr Hu
    subst Hu
    replace H:=qF H
    have H':=y0.mk H
    clear H
    have Pz:=Ar.out
    have Qa:=As.out
    have Qb:=Am.out
    have Qc:=Ao.out
    obtain⟨Fk,Fl,Fm,Fn,Fo,Fq⟩:=qz3 Aa.out
    have Qd:=Aj.out
    have Qe:=Ak.out
    obtain⟨Fr,Fs,Ft,Fu,Fv,Fw⟩:=qz3 Ab.out
    go_wp2_with (first|((with_reducible refine y12 (N:=6) rfl ?_);refine qe 6 #[.int .i64 0,.int .i64 0,.slice none 0 0] 28 ?_;intro Cn hg Qf hbox hb;have Ap:=y0.mk (hbox);have Gu:=y0.mk (qg (w:=w) hg);have Gv:=y0.mk (qg (w:=w) hg);replace HB:=y0.mk (y4 qb hb);have Ai:=y0.mk (qn Aa.out hg);have Aw:=y0.mk (qm Aa.out hg);replace Aa:=y0.mk (qK Aa.out hb);have Al:=y0.mk (qn Ab.out hg);have Bc:=y0.mk (qm Ab.out hg);replace Ab:=y0.mk (qK Ab.out hb);have Bh:=y0.mk (qn Ad.out hg);have Bs:=y0.mk (qm Ad.out hg);replace Ad:=y0.mk (qK Ad.out hb);clear hb hbox hg;have Gw:=Aw.out;have Gx:=Ai.out;have Gy:=Bc.out;have Gz:=Al.out;have Ha:=Bs.out;have Hb:=Bh.out;obtain⟨Dc,Dd,De,Df,Dg,Dh⟩:=qz3 Ap.out))
    repeat(go_quiet (first|((with_reducible refine y12 (N:=6) rfl ?_);refine qe 6 #[.int .i64 0,.int .i64 0,.slice none 0 0] 28 ?_;intro Cn hg Qf hbox hb;have Ap:=y0.mk (hbox);have Gu:=y0.mk (qg (w:=w) hg);have Gv:=y0.mk (qg (w:=w) hg);replace HB:=y0.mk (y4 qb hb);have Ai:=y0.mk (qn Aa.out hg);have Aw:=y0.mk (qm Aa.out hg);replace Aa:=y0.mk (qK Aa.out hb);have Al:=y0.mk (qn Ab.out hg);have Bc:=y0.mk (qm Ab.out hg);replace Ab:=y0.mk (qK Ab.out hb);have Bh:=y0.mk (qn Ad.out hg);have Bs:=y0.mk (qm Ad.out hg);replace Ad:=y0.mk (qK Ad.out hb);clear hb hbox hg;have Gw:=Aw.out;have Gx:=Ai.out;have Gy:=Bc.out;have Gz:=Al.out;have Ha:=Bs.out;have Hb:=Bh.out;obtain⟨Dc,Dd,De,Df,Dg,Dh⟩:=qz3 Ap.out));try go_wp2_with (first|((with_reducible refine y12 (N:=6) rfl ?_);refine qe 6 #[.int .i64 0,.int .i64 0,.slice none 0 0] 28 ?_;intro Cn hg Qf hbox hb;have Ap:=y0.mk (hbox);have Gu:=y0.mk (qg (w:=w) hg);have Gv:=y0.mk (qg (w:=w) hg);replace HB:=y0.mk (y4 qb hb);have Ai:=y0.mk (qn Aa.out hg);have Aw:=y0.mk (qm Aa.out hg);replace Aa:=y0.mk (qK Aa.out hb);have Al:=y0.mk (qn Ab.out hg);have Bc:=y0.mk (qm Ab.out hg);replace Ab:=y0.mk (qK Ab.out hb);have Bh:=y0.mk (qn Ad.out hg);have Bs:=y0.mk (qm Ad.out hg);replace Ad:=y0.mk (qK Ad.out hb);clear hb hbox hg;have Gw:=Aw.out;have Gx:=Ai.out;have Gy:=Bc.out;have Gz:=Al.out;have Ha:=Bs.out;have Hb:=Bh.out;obtain⟨Dc,Dd,De,Df,Dg,Dh⟩:=qz3 Ap.out)))
    go_loopg [7] Pu (fun kq v7 w'=>∃(Bt:Int) (Bv:List (S53)) (Bd:Value),v7=.int .i64 Bt∧y0 (z0_.l0 kq Bt Az Bm Aq Bo Be Au Az Be Bv=some (r1,r2,r3,r4))∧y0 (kq≤Pu)∧y0 (Kd.R k53 53 w' w.heap.size (fun _=>True) Bd Bv)∧y0 (w'.heap[Cl]?=some (.cells #[.int .i64 Az,.int .i64 Bm,(.slice Cs Aq.length Ct)] 28 (0,0)))∧y0 (w'.heap[Cm]?=some (.cells #[.int .i64 Bo,.int .i64 Be,(.slice Cu Au.length Cv)] 28 (0,0)))∧y0 (w'.heap[Cb]?=some (.cells #[.int .i64 0,.int .i64 0,(.slice none 0 0)] 28 (0,0)))∧y0 (w'.heap[Cn]?=some (.cells #[.int .i64 Az,.int .i64 Be,Bd] 28 (0,0)))∧y0 (Below w.heap.size w w'))
    case atStart=>exact⟨(0),(([]:List (S53))),(.slice none 0 0),qy2,H',⟨Nat.le_refl _⟩,⟨by first|exact Kd.R_nil _ _ _ _ _|exact Kd.N_nil _ _ _ _ _|exact Kd.V_nil _ _ _ _ _|exact Kd.Q_nil _ _ _ _ _|exact Kd.S_nil _ _ _ _ _⟩,⟨by(with_reducible repeat(first|refine y9 ?_ _|refine y8 ?_|refine y5 ?_ _));refine blk_far ?_ Ai.out _;(with_reducible repeat(first|refine y9 ?_ _|refine y8 ?_|refine y5 ?_ _));refine blk_far ?_ Ai.out _;(with_reducible repeat(first|refine y9 ?_ _|refine y8 ?_|refine y5 ?_ _));refine blk_far ?_ Ai.out _;(with_reducible repeat(first|refine y9 ?_ _|refine y8 ?_|refine y5 ?_ _));exact Aa.out⟩,⟨by(with_reducible repeat(first|refine y9 ?_ _|refine y8 ?_|refine y5 ?_ _));refine blk_far ?_ Al.out _;(with_reducible repeat(first|refine y9 ?_ _|refine y8 ?_|refine y5 ?_ _));refine blk_far ?_ Al.out _;(with_reducible repeat(first|refine y9 ?_ _|refine y8 ?_|refine y5 ?_ _));refine blk_far ?_ Al.out _;(with_reducible repeat(first|refine y9 ?_ _|refine y8 ?_|refine y5 ?_ _));exact Ab.out⟩,⟨by(with_reducible repeat(first|refine y9 ?_ _|refine y8 ?_|refine y5 ?_ _));refine blk_far ?_ Bh.out _;(with_reducible repeat(first|refine y9 ?_ _|refine y8 ?_|refine y5 ?_ _));refine blk_far ?_ Bh.out _;(with_reducible repeat(first|refine y9 ?_ _|refine y8 ?_|refine y5 ?_ _));refine blk_far ?_ Bh.out _;(with_reducible repeat(first|refine y9 ?_ _|refine y8 ?_|refine y5 ?_ _));exact Ad.out⟩,⟨by(with_reducible repeat(first|refine y9 ?_ _|refine y8 ?_|refine y5 ?_ _));refine blk_put (cs:=#[.int .i64 Az,.int .i64 Be,.slice none 0 0]) ?_ 2 _ rfl;(with_reducible repeat(first|refine y9 ?_ _|refine y8 ?_|refine y5 ?_ _));refine blk_put (cs:=#[.int .i64 Az,.int .i64 0,.slice none 0 0]) ?_ 1 _ rfl;(with_reducible repeat(first|refine y9 ?_ _|refine y8 ?_|refine y5 ?_ _));refine blk_put (cs:=#[.int .i64 0,.int .i64 0,.slice none 0 0]) ?_ 0 _ rfl;(with_reducible repeat(first|refine y9 ?_ _|refine y8 ?_|refine y5 ?_ _));exact Ap.out⟩,⟨qb⟩⟩
    case round =>
     clear H'
     (try clear Hu Fk Fl Fm Fr Fs Ft Dc Dd De Fn Fo Fq Fu Fv Fw Df Dg Dh)
     obtain⟨Bt,Bv,Bd,rfl,HA,Cy,Ac,Aa,Ab,Ad,Ap,HB⟩:=hrel
     cases gk with
     | zero=>exact absurd HA.out (by simp [z0_.l0])
     | succ k2 =>
      have H:=HA.out
      clear HA
      simp only [z0_.l0]at H
      by_cases Hq:Bt < 6
      ·rw [if_pos Hq]at H
       have Hc:=decide_eq_true Hq
       clear Hq
       have H':=y0.mk H
       clear H
       go_wp2
       repeat(go_quiet (fail);try go_wp2)
       go_loopg [8] k2 (fun kq v8 w'=>∃(Bu:Int) (At:List (S53)) (Bd:Value),v8=.int .i64 Bu∧y0 (z0_.l1 kq Bt Bu Az Bm Aq Bo Be Au Az Be At=some (r1,r2,r3,r4))∧y0 (kq≤k2)∧y0 (Kd.R k53 53 w' w.heap.size (fun _=>True) Bd At)∧y0 (w'.heap[Cl]?=some (.cells #[.int .i64 Az,.int .i64 Bm,(.slice Cs Aq.length Ct)] 28 (0,0)))∧y0 (w'.heap[Cm]?=some (.cells #[.int .i64 Bo,.int .i64 Be,(.slice Cu Au.length Cv)] 28 (0,0)))∧y0 (w'.heap[Cb]?=some (.cells #[.int .i64 0,.int .i64 0,(.slice none 0 0)] 28 (0,0)))∧y0 (w'.heap[Cn]?=some (.cells #[.int .i64 Az,.int .i64 Be,Bd] 28 (0,0)))∧y0 (Below w.heap.size w w'))
       case atStart=>exact⟨(0),(Bv),(Bd),qy2,H',⟨Nat.le_refl _⟩,⟨qR Ac.out⟩,⟨qk Aa.out⟩,⟨qk Ab.out⟩,⟨qk Ad.out⟩,⟨qk Ap.out⟩,⟨qb⟩⟩
       case round =>
        clear H'
        (try clear Hc)
        obtain⟨Bu,At,Bd,rfl,HA,Cz,Ac,Aa,Ab,Ad,Ap,HB⟩:=hrel
        cases gk with
        | zero=>exact absurd HA.out (by simp [z0_.l1])
        | succ k3 =>
         have H:=HA.out
         clear HA
         simp only [z0_.l1]at H
         by_cases Hr:Bu < 6
         ·rw [if_pos Hr]at H
          have Hd:=decide_eq_true Hr
          clear Hr
          have H':=y0.mk H
          clear H
          go_wp2
          repeat(go_quiet (fail);try go_wp2)
          go_loopg [9,10,11] k3 (fun kq v9 Nh Sr w'=>∃(Fg:Bool) (Bx:Bool) (Ae:Int),v9=.bool Fg∧Nh=.bool Bx∧Sr=.int .i64 Ae∧y0 (z0_.l2 kq Bt Bu Fg Bx Ae Az Bm Aq Bo Be Au Az Be At=some (r1,r2,r3,r4))∧y0 (kq≤k3)∧y0 (Kd.R k53 53 w' w.heap.size (fun _=>True) Bd At)∧y0 (w'.heap[Cl]?=some (.cells #[.int .i64 Az,.int .i64 Bm,(.slice Cs Aq.length Ct)] 28 (0,0)))∧y0 (w'.heap[Cm]?=some (.cells #[.int .i64 Bo,.int .i64 Be,(.slice Cu Au.length Cv)] 28 (0,0)))∧y0 (w'.heap[Cb]?=some (.cells #[.int .i64 0,.int .i64 0,(.slice none 0 0)] 28 (0,0)))∧y0 (w'.heap[Cn]?=some (.cells #[.int .i64 Az,.int .i64 Be,Bd] 28 (0,0)))∧y0 (Below w.heap.size w w'))
          case atStart=>exact⟨(false),(false),(0),qy2,qy2,qy2,H',⟨Nat.le_refl _⟩,⟨qR Ac.out⟩,⟨qk Aa.out⟩,⟨qk Ab.out⟩,⟨qk Ad.out⟩,⟨qk Ap.out⟩,⟨qb⟩⟩
          case round =>
           clear H'
           (try clear Hd)
           obtain⟨Fg,Bx,Ae,rfl,rfl,rfl,HA,Dn,Ac,Aa,Ab,Ad,Ap,HB⟩:=hrel
           cases gk with
           | zero=>exact absurd HA.out (by simp [z0_.l2])
           | succ k4 =>
            have H:=HA.out
            clear HA
            simp only [z0_.l2]at H
            by_cases Hs:Ae < (Aq.length:Int)
            ·rw [if_pos Hs]at H
             have He:=decide_eq_true Hs
             clear Hs
             have H':=y0.mk H
             clear H
             have Qg:=Ar.out
             have Qh:=As.out
             have Qi:=Am.out
             have Qj:=Ao.out
             have Qk:=Ai.out
             have Ql:=Aw.out
             obtain⟨Fx,Fy,Fz,Ga,Gb,Gc⟩:=qz3 Aa.out
             go_wp2
             repeat(go_quiet (fail);try go_wp2)
             go_loopg [9,10,12] k4 (fun kq v9 Nh Ss w'=>∃(Dx:Bool) (Ci:Bool) (Af:Int),v9=.bool Dx∧Nh=.bool Ci∧Ss=.int .i64 Af∧y0 (z0_.l3 kq Bt Bu Dx Ci Ae Af Az Bm Aq Bo Be Au Az Be At=some (r1,r2,r3,r4))∧y0 (kq≤k4)∧y0 (Kd.R k53 53 w' w.heap.size (fun _=>True) Bd At)∧y0 (w'.heap[Cl]?=some (.cells #[.int .i64 Az,.int .i64 Bm,(.slice Cs Aq.length Ct)] 28 (0,0)))∧y0 (w'.heap[Cm]?=some (.cells #[.int .i64 Bo,.int .i64 Be,(.slice Cu Au.length Cv)] 28 (0,0)))∧y0 (w'.heap[Cb]?=some (.cells #[.int .i64 0,.int .i64 0,(.slice none 0 0)] 28 (0,0)))∧y0 (w'.heap[Cn]?=some (.cells #[.int .i64 Az,.int .i64 Be,Bd] 28 (0,0)))∧y0 (Below w.heap.size w w'))
             case atStart=>exact⟨(Fg),(Bx),(0),qy2,qy2,qy2,H',⟨Nat.le_refl _⟩,⟨qR Ac.out⟩,⟨qk Aa.out⟩,⟨qk Ab.out⟩,⟨qk Ad.out⟩,⟨qk Ap.out⟩,⟨qb⟩⟩
             case round =>
              clear H'
              (try clear He Fx Fy Fz Ga Gb Gc)
              obtain⟨Dx,Ci,Af,rfl,rfl,rfl,HA,Fd,Ac,Aa,Ab,Ad,Ap,HB⟩:=hrel
              cases gk with
              | zero=>exact absurd HA.out (by simp [z0_.l3])
              | succ k5 =>
               have H:=HA.out
               clear HA
               simp only [z0_.l3]at H
               by_cases Ht:Af < (Au.length:Int)
               ·rw [if_pos Ht]at H
                have Hv:=decide_eq_true Ht
                clear Ht
                obtain⟨Qm,H⟩:=qo H
                have Qn:decide (0≤Ae)=true:=decide_eq_true Qm
                clear Qm
                obtain⟨Qo,H⟩:=qo H
                have Qp:decide (Ae < (Aq.length:Int))=true:=decide_eq_true Qo
                clear Qo
                by_cases Hj:((y15 Aq Ae).f0)=Bt
                ·rw [if_pos Hj]at H
                 have Hw:(((y15 Aq Ae).f0) == Bt)=true:=beq_iff_eq.mpr Hj
                 have Hx:(((y15 Aq Ae).f0) != Bt)=false:=bne_eq_false_iff_eq.mpr Hj
                 clear Hj
                 obtain⟨Qq,H⟩:=qo H
                 have Qr:decide (0≤Af)=true:=decide_eq_true Qq
                 clear Qq
                 by_cases Hk:((y15 Aq Ae).f1)=((y15 Au Af).f0)
                 ·rw [if_pos Hk]at H
                  have Hy:(((y15 Aq Ae).f1) == ((y15 Au Af).f0))=true:=beq_iff_eq.mpr Hk
                  have Hz:(((y15 Aq Ae).f1) != ((y15 Au Af).f0))=false:=bne_eq_false_iff_eq.mpr Hk
                  clear Hk
                  by_cases Hl:((y15 Au Af).f1)=Bu
                  ·rw [if_pos Hl]at H
                   have Ia:(((y15 Au Af).f1) == Bu)=true:=beq_iff_eq.mpr Hl
                   have Ib:(((y15 Au Af).f1) != Bu)=false:=bne_eq_false_iff_eq.mpr Hl
                   clear Hl
                   by_cases Lh:Ci=true
                   ·subst Lh
                    replace H:=qT H
                    have H':=y0.mk H
                    clear H
                    have Qs:=As.out
                    have Qt:=Ar.out
                    have Qu:=Aj.out
                    have Qv:=Ak.out
                    have Qw:=Al.out
                    have Qx:=Bc.out
                    obtain⟨Li,Lj,Lk,Ll,Lm,Ln⟩:=qz3 Ab.out
                    have Qy:=Am.out
                    have Qz:=Ao.out
                    have Ra:=Ai.out
                    have Rb:=Aw.out
                    obtain⟨Lo,Lp,Lq,Lr,Ls,Lt⟩:=qz3 Aa.out
                    have Bz:0≤(Ae:Int):=of_decide_eq_true qy0
                    have Ca:Ae < (Aq.length:Int):=of_decide_eq_true qy0
                    obtain⟨Ch,Di,Ba,Bb,Ay⟩:=at_T53 Bp.out Ae Bz Ca
                    cases Di
                    replace Ba:=(HB.out.cell (World.block_lt_of_cell? w _ Ba)).trans Ba
                    replace Bb:=(HB.out.cell (World.block_lt_of_cell? w _ Bb)).trans Bb
                    replace Ay:=(HB.out.cell (World.block_lt_of_cell? w _ Ay)).trans Ay
                    replace Bz:=eq_true Bz
                    replace Ca:=eq_true Ca
                    have Cc:0≤(Ae:Int):=of_decide_eq_true qy0
                    have Cd:Ae < (Aq.length:Int):=of_decide_eq_true qy0
                    obtain⟨Co,Dy,Bi,Bj,Bf⟩:=at_T53 Bp.out Ae Cc Cd
                    obtain rfl:Ch=Co:=(by injection Dy)
                    replace Bi:=(HB.out.cell (World.block_lt_of_cell? w _ Bi)).trans Bi
                    replace Bj:=(HB.out.cell (World.block_lt_of_cell? w _ Bj)).trans Bj
                    replace Bf:=(HB.out.cell (World.block_lt_of_cell? w _ Bf)).trans Bf
                    replace Cc:=eq_true Cc
                    replace Cd:=eq_true Cd
                    have Ce:0≤(Af:Int):=of_decide_eq_true qy0
                    have Cf:Af < (Au.length:Int):=of_decide_eq_true qy0
                    obtain⟨Cp,Dz,Bk,Bl,Bg⟩:=at_T53 Bw.out Af Ce Cf
                    cases Dz
                    replace Bk:=(HB.out.cell (World.block_lt_of_cell? w _ Bk)).trans Bk
                    replace Bl:=(HB.out.cell (World.block_lt_of_cell? w _ Bl)).trans Bl
                    replace Bg:=(HB.out.cell (World.block_lt_of_cell? w _ Bg)).trans Bg
                    replace Ce:=eq_true Ce
                    replace Cf:=eq_true Cf
                    have Cq:0≤(Af:Int):=of_decide_eq_true qy0
                    have Cr:Af < (Au.length:Int):=of_decide_eq_true qy0
                    obtain⟨Do,Fh,Bq,Br,Bn⟩:=at_T53 Bw.out Af Cq Cr
                    obtain rfl:Cp=Do:=(by injection Fh)
                    replace Bq:=(HB.out.cell (World.block_lt_of_cell? w _ Bq)).trans Bq
                    replace Br:=(HB.out.cell (World.block_lt_of_cell? w _ Br)).trans Br
                    replace Bn:=(HB.out.cell (World.block_lt_of_cell? w _ Bn)).trans Bn
                    replace Cq:=eq_true Cq
                    replace Cr:=eq_true Cr
                    go_wp2
                    repeat(go_quiet (fail);try go_wp2)
                    go_roundg k5
                    case measure=>have:=Cx.out;have:=Cy.out;have:=Cz.out;have:=Dn.out;have:=Fd.out;omega
                    exact⟨(true),(true),(wrap64 (Af + 1)),qy2,qy2,qy2,H',⟨by have:=Cx.out;have:=Cy.out;have:=Cz.out;have:=Dn.out;have:=Fd.out;omega⟩,⟨qR Ac.out⟩,⟨qk Aa.out⟩,⟨qk Ab.out⟩,⟨qk Ad.out⟩,⟨qk Ap.out⟩,⟨qb⟩⟩
                   ·replace Lh:=Bool.eq_false_iff.mpr Lh
                    subst Lh
                    replace H:=qF H
                    obtain⟨Ic,Fi⟩:∃ b_:Bool,b_=((y15 Aq Ae).f2):=⟨_,rfl⟩
                    replace H:(if Ic=true then(z0_.l3 k5 Bt Bu true true Ae (wrap64 (Af + 1)) Az Bm Aq Bo Be Au Az Be At)else(z0_.l3 k5 Bt Bu true ((y15 Au Af).f2) Ae (wrap64 (Af + 1)) Az Bm Aq Bo Be Au Az Be At))=some (r1,r2,r3,r4):=by rw [← Fi]at H;exact H
                    have Da:=y0.mk Fi
                    clear Fi
                    have Rc:=As.out
                    have Re:=Ar.out
                    have Rf:=Aj.out
                    have Rg:=Ak.out
                    have Rh:=Al.out
                    have Ri:=Bc.out
                    obtain⟨Lu,Lv,Lw,Lx,Ly,Lz⟩:=qz3 Ab.out
                    have Rj:=Am.out
                    have Rk:=Ao.out
                    have Rl:=Ai.out
                    have Rm:=Aw.out
                    obtain⟨Ma,Mb,Mc,Md,Me,Mf⟩:=qz3 Aa.out
                    have Bz:0≤(Ae:Int):=of_decide_eq_true qy0
                    have Ca:Ae < (Aq.length:Int):=of_decide_eq_true qy0
                    obtain⟨Ch,Di,Ba,Bb,Ay⟩:=at_T53 Bp.out Ae Bz Ca
                    (try rw [← Da.out]at Ay)
                    cases Di
                    replace Ba:=(HB.out.cell (World.block_lt_of_cell? w _ Ba)).trans Ba
                    replace Bb:=(HB.out.cell (World.block_lt_of_cell? w _ Bb)).trans Bb
                    replace Ay:=(HB.out.cell (World.block_lt_of_cell? w _ Ay)).trans Ay
                    replace Bz:=eq_true Bz
                    replace Ca:=eq_true Ca
                    have Cc:0≤(Ae:Int):=of_decide_eq_true qy0
                    have Cd:Ae < (Aq.length:Int):=of_decide_eq_true qy0
                    obtain⟨Co,Dy,Bi,Bj,Bf⟩:=at_T53 Bp.out Ae Cc Cd
                    (try rw [← Da.out]at Bf)
                    obtain rfl:Ch=Co:=(by injection Dy)
                    replace Bi:=(HB.out.cell (World.block_lt_of_cell? w _ Bi)).trans Bi
                    replace Bj:=(HB.out.cell (World.block_lt_of_cell? w _ Bj)).trans Bj
                    replace Bf:=(HB.out.cell (World.block_lt_of_cell? w _ Bf)).trans Bf
                    replace Cc:=eq_true Cc
                    replace Cd:=eq_true Cd
                    have Ce:0≤(Af:Int):=of_decide_eq_true qy0
                    have Cf:Af < (Au.length:Int):=of_decide_eq_true qy0
                    obtain⟨Cp,Dz,Bk,Bl,Bg⟩:=at_T53 Bw.out Af Ce Cf
                    (try rw [← Da.out]at Bg)
                    cases Dz
                    replace Bk:=(HB.out.cell (World.block_lt_of_cell? w _ Bk)).trans Bk
                    replace Bl:=(HB.out.cell (World.block_lt_of_cell? w _ Bl)).trans Bl
                    replace Bg:=(HB.out.cell (World.block_lt_of_cell? w _ Bg)).trans Bg
                    replace Ce:=eq_true Ce
                    replace Cf:=eq_true Cf
                    have Cq:0≤(Af:Int):=of_decide_eq_true qy0
                    have Cr:Af < (Au.length:Int):=of_decide_eq_true qy0
                    obtain⟨Do,Fh,Bq,Br,Bn⟩:=at_T53 Bw.out Af Cq Cr
                    (try rw [← Da.out]at Bn)
                    obtain rfl:Cp=Do:=(by injection Fh)
                    replace Bq:=(HB.out.cell (World.block_lt_of_cell? w _ Bq)).trans Bq
                    replace Br:=(HB.out.cell (World.block_lt_of_cell? w _ Br)).trans Br
                    replace Bn:=(HB.out.cell (World.block_lt_of_cell? w _ Bn)).trans Bn
                    replace Cq:=eq_true Cq
                    replace Cr:=eq_true Cr
                    have Hm:0≤(Ae:Int):=of_decide_eq_true qy0
                    have Hn:Ae < (Aq.length:Int):=of_decide_eq_true qy0
                    obtain⟨Id,Nk,Dj,Dk,Cj⟩:=at_T53 Bp.out Ae Hm Hn
                    (try rw [← Da.out]at Cj)
                    obtain rfl:Ch=Id:=(by injection Nk)
                    replace Dj:=(HB.out.cell (World.block_lt_of_cell? w _ Dj)).trans Dj
                    replace Dk:=(HB.out.cell (World.block_lt_of_cell? w _ Dk)).trans Dk
                    replace Cj:=(HB.out.cell (World.block_lt_of_cell? w _ Cj)).trans Cj
                    replace Hm:=eq_true Hm
                    replace Hn:=eq_true Hn
                    by_cases Mg:Ic=true
                    ·subst Mg
                     replace H:=qT H
                     have H':=y0.mk H
                     clear H
                     go_wp2
                     repeat(go_quiet (fail);try go_wp2)
                     go_roundg k5
                     case measure=>have:=Cx.out;have:=Cy.out;have:=Cz.out;have:=Dn.out;have:=Fd.out;omega
                     exact⟨(true),(true),(wrap64 (Af + 1)),qy2,qy2,qy2,H',⟨by have:=Cx.out;have:=Cy.out;have:=Cz.out;have:=Dn.out;have:=Fd.out;omega⟩,⟨qR Ac.out⟩,⟨qk Aa.out⟩,⟨qk Ab.out⟩,⟨qk Ad.out⟩,⟨qk Ap.out⟩,⟨qb⟩⟩
                    ·replace Mg:=Bool.eq_false_iff.mpr Mg
                     subst Mg
                     replace H:=qF H
                     have H':=y0.mk H
                     clear H
                     have Ho:0≤(Af:Int):=of_decide_eq_true qy0
                     have Hp:Af < (Au.length:Int):=of_decide_eq_true qy0
                     obtain⟨Ie,Nl,Dl,Dm,Ck⟩:=at_T53 Bw.out Af Ho Hp
                     (try rw [← Da.out]at Ck)
                     obtain rfl:Cp=Ie:=(by injection Nl)
                     replace Dl:=(HB.out.cell (World.block_lt_of_cell? w _ Dl)).trans Dl
                     replace Dm:=(HB.out.cell (World.block_lt_of_cell? w _ Dm)).trans Dm
                     replace Ck:=(HB.out.cell (World.block_lt_of_cell? w _ Ck)).trans Ck
                     replace Ho:=eq_true Ho
                     replace Hp:=eq_true Hp
                     go_wp2
                     repeat(go_quiet (fail);try go_wp2)
                     go_roundg k5
                     case measure=>have:=Cx.out;have:=Cy.out;have:=Cz.out;have:=Dn.out;have:=Fd.out;omega
                     exact⟨(true),((y15 Au Af).f2),(wrap64 (Af + 1)),qy2,qy2,qy2,H',⟨by have:=Cx.out;have:=Cy.out;have:=Cz.out;have:=Dn.out;have:=Fd.out;omega⟩,⟨qR Ac.out⟩,⟨qk Aa.out⟩,⟨qk Ab.out⟩,⟨qk Ad.out⟩,⟨qk Ap.out⟩,⟨qb⟩⟩
                  ·rw [if_neg Hl]at H
                   have Ia:(((y15 Au Af).f1) == Bu)=false:=beq_eq_false_iff_ne.mpr Hl
                   have Ib:(((y15 Au Af).f1) != Bu)=true:=bne_iff_ne.mpr Hl
                   have H':=y0.mk H
                   clear H
                   have Rn:=As.out
                   have Ro:=Ar.out
                   have Rp:=Aj.out
                   have Rq:=Ak.out
                   have Rs:=Al.out
                   have Rt:=Bc.out
                   obtain⟨Mh,Mi,Mj,Mk,Ml,Mm⟩:=qz3 Ab.out
                   have Ru:=Am.out
                   have Rv:=Ao.out
                   have Rw:=Ai.out
                   have Rx:=Aw.out
                   obtain⟨Mn,Mo,Mp,Mq,Mr,Ms⟩:=qz3 Aa.out
                   have Bz:0≤(Ae:Int):=of_decide_eq_true qy0
                   have Ca:Ae < (Aq.length:Int):=of_decide_eq_true qy0
                   obtain⟨Ch,Di,Ba,Bb,Ay⟩:=at_T53 Bp.out Ae Bz Ca
                   cases Di
                   replace Ba:=(HB.out.cell (World.block_lt_of_cell? w _ Ba)).trans Ba
                   replace Bb:=(HB.out.cell (World.block_lt_of_cell? w _ Bb)).trans Bb
                   replace Ay:=(HB.out.cell (World.block_lt_of_cell? w _ Ay)).trans Ay
                   replace Bz:=eq_true Bz
                   replace Ca:=eq_true Ca
                   have Cc:0≤(Ae:Int):=of_decide_eq_true qy0
                   have Cd:Ae < (Aq.length:Int):=of_decide_eq_true qy0
                   obtain⟨Co,Dy,Bi,Bj,Bf⟩:=at_T53 Bp.out Ae Cc Cd
                   obtain rfl:Ch=Co:=(by injection Dy)
                   replace Bi:=(HB.out.cell (World.block_lt_of_cell? w _ Bi)).trans Bi
                   replace Bj:=(HB.out.cell (World.block_lt_of_cell? w _ Bj)).trans Bj
                   replace Bf:=(HB.out.cell (World.block_lt_of_cell? w _ Bf)).trans Bf
                   replace Cc:=eq_true Cc
                   replace Cd:=eq_true Cd
                   have Ce:0≤(Af:Int):=of_decide_eq_true qy0
                   have Cf:Af < (Au.length:Int):=of_decide_eq_true qy0
                   obtain⟨Cp,Dz,Bk,Bl,Bg⟩:=at_T53 Bw.out Af Ce Cf
                   cases Dz
                   replace Bk:=(HB.out.cell (World.block_lt_of_cell? w _ Bk)).trans Bk
                   replace Bl:=(HB.out.cell (World.block_lt_of_cell? w _ Bl)).trans Bl
                   replace Bg:=(HB.out.cell (World.block_lt_of_cell? w _ Bg)).trans Bg
                   replace Ce:=eq_true Ce
                   replace Cf:=eq_true Cf
                   have Cq:0≤(Af:Int):=of_decide_eq_true qy0
                   have Cr:Af < (Au.length:Int):=of_decide_eq_true qy0
                   obtain⟨Do,Fh,Bq,Br,Bn⟩:=at_T53 Bw.out Af Cq Cr
                   obtain rfl:Cp=Do:=(by injection Fh)
                   replace Bq:=(HB.out.cell (World.block_lt_of_cell? w _ Bq)).trans Bq
                   replace Br:=(HB.out.cell (World.block_lt_of_cell? w _ Br)).trans Br
                   replace Bn:=(HB.out.cell (World.block_lt_of_cell? w _ Bn)).trans Bn
                   replace Cq:=eq_true Cq
                   replace Cr:=eq_true Cr
                   go_wp2
                   repeat(go_quiet (fail);try go_wp2)
                   go_roundg k5
                   case measure=>have:=Cx.out;have:=Cy.out;have:=Cz.out;have:=Dn.out;have:=Fd.out;omega
                   exact⟨(Dx),(Ci),(wrap64 (Af + 1)),qy2,qy2,qy2,H',⟨by have:=Cx.out;have:=Cy.out;have:=Cz.out;have:=Dn.out;have:=Fd.out;omega⟩,⟨qR Ac.out⟩,⟨qk Aa.out⟩,⟨qk Ab.out⟩,⟨qk Ad.out⟩,⟨qk Ap.out⟩,⟨qb⟩⟩
                 ·rw [if_neg Hk]at H
                  have Hy:(((y15 Aq Ae).f1) == ((y15 Au Af).f0))=false:=beq_eq_false_iff_ne.mpr Hk
                  have Hz:(((y15 Aq Ae).f1) != ((y15 Au Af).f0))=true:=bne_iff_ne.mpr Hk
                  have H':=y0.mk H
                  clear H
                  have Ry:=As.out
                  have Rz:=Ar.out
                  have Sa:=Aj.out
                  have Sb:=Ak.out
                  have Sc:=Al.out
                  have Sd:=Bc.out
                  obtain⟨Mt,Mu,Mv,Mw,Mx,My⟩:=qz3 Ab.out
                  have Se:=Am.out
                  have Sf:=Ao.out
                  have Sg:=Ai.out
                  have Sh:=Aw.out
                  obtain⟨Mz,Na,Nb,Nc,Nd,Nf⟩:=qz3 Aa.out
                  have Bz:0≤(Ae:Int):=of_decide_eq_true qy0
                  have Ca:Ae < (Aq.length:Int):=of_decide_eq_true qy0
                  obtain⟨Ch,Di,Ba,Bb,Ay⟩:=at_T53 Bp.out Ae Bz Ca
                  cases Di
                  replace Ba:=(HB.out.cell (World.block_lt_of_cell? w _ Ba)).trans Ba
                  replace Bb:=(HB.out.cell (World.block_lt_of_cell? w _ Bb)).trans Bb
                  replace Ay:=(HB.out.cell (World.block_lt_of_cell? w _ Ay)).trans Ay
                  replace Bz:=eq_true Bz
                  replace Ca:=eq_true Ca
                  have Cc:0≤(Ae:Int):=of_decide_eq_true qy0
                  have Cd:Ae < (Aq.length:Int):=of_decide_eq_true qy0
                  obtain⟨Co,Dy,Bi,Bj,Bf⟩:=at_T53 Bp.out Ae Cc Cd
                  obtain rfl:Ch=Co:=(by injection Dy)
                  replace Bi:=(HB.out.cell (World.block_lt_of_cell? w _ Bi)).trans Bi
                  replace Bj:=(HB.out.cell (World.block_lt_of_cell? w _ Bj)).trans Bj
                  replace Bf:=(HB.out.cell (World.block_lt_of_cell? w _ Bf)).trans Bf
                  replace Cc:=eq_true Cc
                  replace Cd:=eq_true Cd
                  have Ce:0≤(Af:Int):=of_decide_eq_true qy0
                  have Cf:Af < (Au.length:Int):=of_decide_eq_true qy0
                  obtain⟨Cp,Dz,Bk,Bl,Bg⟩:=at_T53 Bw.out Af Ce Cf
                  cases Dz
                  replace Bk:=(HB.out.cell (World.block_lt_of_cell? w _ Bk)).trans Bk
                  replace Bl:=(HB.out.cell (World.block_lt_of_cell? w _ Bl)).trans Bl
                  replace Bg:=(HB.out.cell (World.block_lt_of_cell? w _ Bg)).trans Bg
                  replace Ce:=eq_true Ce
                  replace Cf:=eq_true Cf
                  go_wp2
                  repeat(go_quiet (fail);try go_wp2)
                  go_roundg k5
                  case measure=>have:=Cx.out;have:=Cy.out;have:=Cz.out;have:=Dn.out;have:=Fd.out;omega
                  exact⟨(Dx),(Ci),(wrap64 (Af + 1)),qy2,qy2,qy2,H',⟨by have:=Cx.out;have:=Cy.out;have:=Cz.out;have:=Dn.out;have:=Fd.out;omega⟩,⟨qR Ac.out⟩,⟨qk Aa.out⟩,⟨qk Ab.out⟩,⟨qk Ad.out⟩,⟨qk Ap.out⟩,⟨qb⟩⟩
                ·rw [if_neg Hj]at H
                 have Hw:(((y15 Aq Ae).f0) == Bt)=false:=beq_eq_false_iff_ne.mpr Hj
                 have Hx:(((y15 Aq Ae).f0) != Bt)=true:=bne_iff_ne.mpr Hj
                 have H':=y0.mk H
                 clear H
                 have Si:=As.out
                 have Sj:=Ar.out
                 have Sk:=Aj.out
                 have Sl:=Ak.out
                 have Sm:=Al.out
                 have Sn:=Bc.out
                 obtain⟨If,Ig,Ih,Ii,Ij,Ik⟩:=qz3 Ab.out
                 have Nm:=Am.out
                 have Nn:=Ao.out
                 have Np:=Ai.out
                 have Nq:=Aw.out
                 obtain⟨Il,Im,Io,Ip,Iq,Ir⟩:=qz3 Aa.out
                 have Bz:0≤(Ae:Int):=of_decide_eq_true qy0
                 have Ca:Ae < (Aq.length:Int):=of_decide_eq_true qy0
                 obtain⟨Ch,Di,Ba,Bb,Ay⟩:=at_T53 Bp.out Ae Bz Ca
                 cases Di
                 replace Ba:=(HB.out.cell (World.block_lt_of_cell? w _ Ba)).trans Ba
                 replace Bb:=(HB.out.cell (World.block_lt_of_cell? w _ Bb)).trans Bb
                 replace Ay:=(HB.out.cell (World.block_lt_of_cell? w _ Ay)).trans Ay
                 replace Bz:=eq_true Bz
                 replace Ca:=eq_true Ca
                 go_wp2
                 repeat(go_quiet (fail);try go_wp2)
                 go_roundg k5
                 case measure=>have:=Cx.out;have:=Cy.out;have:=Cz.out;have:=Dn.out;have:=Fd.out;omega
                 exact⟨(Dx),(Ci),(wrap64 (Af + 1)),qy2,qy2,qy2,H',⟨by have:=Cx.out;have:=Cy.out;have:=Cz.out;have:=Dn.out;have:=Fd.out;omega⟩,⟨qR Ac.out⟩,⟨qk Aa.out⟩,⟨qk Ab.out⟩,⟨qk Ad.out⟩,⟨qk Ap.out⟩,⟨qb⟩⟩
               ·rw [if_neg Ht]at H
                have Hv:=decide_eq_false Ht
                clear Ht
                have H':=y0.mk H
                clear H
                have Nr:=As.out
                have Ns:=Ar.out
                have Nt:=Aj.out
                have Nu:=Ak.out
                have Nv:=Al.out
                have Nw:=Bc.out
                obtain⟨Is,It,Iu,Iv,Iw,Ix⟩:=qz3 Ab.out
                go_wp2
                repeat(go_quiet (fail);try go_wp2)
                go_roundg k5
                case measure=>have:=Cx.out;have:=Cy.out;have:=Cz.out;have:=Dn.out;have:=Fd.out;omega
                exact⟨(Dx),(Ci),(wrap64 (Ae + 1)),qy2,qy2,qy2,H',⟨by have:=Cx.out;have:=Cy.out;have:=Cz.out;have:=Dn.out;have:=Fd.out;omega⟩,⟨qR Ac.out⟩,⟨qk Aa.out⟩,⟨qk Ab.out⟩,⟨qk Ad.out⟩,⟨qk Ap.out⟩,⟨qb⟩⟩
            ·rw [if_neg Hs]at H
             have He:=decide_eq_false Hs
             clear Hs
             by_cases Gd:Fg=true
             ·subst Gd
              replace H:=qT H
              obtain⟨Iy,H⟩:=qo H
              have Ea:=y0.mk Iy
              clear Iy
              obtain⟨Ge,Dp⟩:∃ y_:List (S53),y_=(At ++ [(⟨Bt,Bu,Bx⟩:S53)]):=⟨_,rfl⟩
              replace H:(z0_.l1 k4 Bt (wrap64 (Bu + 1)) Az Bm Aq Bo Be Au Az Be Ge)=some (r1,r2,r3,r4):=by first|(rw [Dp];with_reducible exact H)|(have H2_:=(Option.bind_some _ _).symm.trans H;rw [Dp];with_reducible exact H2_)|(have H2_:=(Option.bind_some _ _).symm.trans H;with_reducible exact H2_)|with_reducible exact H|(rw [Dp];exact H)|exact H
              have Fj:=y0.mk Dp
              clear Dp
              have H':=y0.mk H
              clear H
              have Nx:=Ar.out
              have Ny:=As.out
              have Nz:=Am.out
              have Oa:=Ao.out
              have Ob:=Ai.out
              have Oc:=Aw.out
              obtain⟨Iz,Ja,Jb,Jc,Jd,Je⟩:=qz3 Aa.out
              have Od:=Bc.out
              have Oe:=Al.out
              have Of:=Bs.out
              have Og:=Bh.out
              obtain⟨Jf,Jg,Jh,Ji,Jj,Jk⟩:=qz3 Ap.out
              go_wp2_with (first|((with_reducible refine gate_builtin (b:=.append) (xs:=#[.tmp 108,.tmp 113]) rfl ?_);at_builtin;refine Kd.R_append k53 (w0:=w) w.heap.size rfl (.tmp 108) (.tmp 113) 26 53 (.agg #[(.int .i64 0),(.int .i64 0),(.bool false)]) 24 rfl Try.underlying26 info53 rfl (by decide) (by omega) Bd At (⟨Bt,Bu,Bx⟩:S53) [.int .i64 Bt,.int .i64 Bu,.bool Bx] (fun _=>True) (fun _=>False) rfl rfl ?aP (fun _ hk=>hk.elim) ?aF ?aO ?aB ?aS ?aL ?_;(case aP=>exact k53_mkM _ _ _ (⟨Bt,Bu,Bx⟩:S53));(case aB=>exact qb);(case aF=>exact(fun _ _=>trivial));(case aO=>exact(qR Ac.out));(case aS=>exact(below_size qb));(case aL=>have:=Ea.out;omega);intro Jl Jm ho hb hg hat;rw [← Fj.out]at ho;replace Aa:=y0.mk (blk_grown (qk Aa.out) hg (Kd.R_ne Ac.out Aa.out (by decide)));replace Ab:=y0.mk (blk_grown (qk Ab.out) hg (Kd.R_ne Ac.out Ab.out (by decide)));replace Ad:=y0.mk (blk_grown (qk Ad.out) hg (Kd.R_ne Ac.out Ad.out (by decide)));replace Ap:=y0.mk (blk_grown (qk Ap.out) hg (Kd.R_ne Ac.out Ap.out (by decide)));replace HB:=y0.mk (hb);have Db:=y0.mk (ho);clear Ac;clear ho hb hg hat;obtain⟨Fe,Ff,Dq⟩:=Kd.R_slice Db.out;subst Dq;obtain⟨Dr,Ds,Dt,Du,Dv,Dw⟩:=qz3 Ap.out))
              repeat(go_quiet (first|((with_reducible refine gate_builtin (b:=.append) (xs:=#[.tmp 108,.tmp 113]) rfl ?_);at_builtin;refine Kd.R_append k53 (w0:=w) w.heap.size rfl (.tmp 108) (.tmp 113) 26 53 (.agg #[(.int .i64 0),(.int .i64 0),(.bool false)]) 24 rfl Try.underlying26 info53 rfl (by decide) (by omega) Bd At (⟨Bt,Bu,Bx⟩:S53) [.int .i64 Bt,.int .i64 Bu,.bool Bx] (fun _=>True) (fun _=>False) rfl rfl ?aP (fun _ hk=>hk.elim) ?aF ?aO ?aB ?aS ?aL ?_;(case aP=>exact k53_mkM _ _ _ (⟨Bt,Bu,Bx⟩:S53));(case aB=>exact qb);(case aF=>exact(fun _ _=>trivial));(case aO=>exact(qR Ac.out));(case aS=>exact(below_size qb));(case aL=>have:=Ea.out;omega);intro Jl Jm ho hb hg hat;rw [← Fj.out]at ho;replace Aa:=y0.mk (blk_grown (qk Aa.out) hg (Kd.R_ne Ac.out Aa.out (by decide)));replace Ab:=y0.mk (blk_grown (qk Ab.out) hg (Kd.R_ne Ac.out Ab.out (by decide)));replace Ad:=y0.mk (blk_grown (qk Ad.out) hg (Kd.R_ne Ac.out Ad.out (by decide)));replace Ap:=y0.mk (blk_grown (qk Ap.out) hg (Kd.R_ne Ac.out Ap.out (by decide)));replace HB:=y0.mk (hb);have Db:=y0.mk (ho);clear Ac;clear ho hb hg hat;obtain⟨Fe,Ff,Dq⟩:=Kd.R_slice Db.out;subst Dq;obtain⟨Dr,Ds,Dt,Du,Dv,Dw⟩:=qz3 Ap.out));try go_wp2_with (first|((with_reducible refine gate_builtin (b:=.append) (xs:=#[.tmp 108,.tmp 113]) rfl ?_);at_builtin;refine Kd.R_append k53 (w0:=w) w.heap.size rfl (.tmp 108) (.tmp 113) 26 53 (.agg #[(.int .i64 0),(.int .i64 0),(.bool false)]) 24 rfl Try.underlying26 info53 rfl (by decide) (by omega) Bd At (⟨Bt,Bu,Bx⟩:S53) [.int .i64 Bt,.int .i64 Bu,.bool Bx] (fun _=>True) (fun _=>False) rfl rfl ?aP (fun _ hk=>hk.elim) ?aF ?aO ?aB ?aS ?aL ?_;(case aP=>exact k53_mkM _ _ _ (⟨Bt,Bu,Bx⟩:S53));(case aB=>exact qb);(case aF=>exact(fun _ _=>trivial));(case aO=>exact(qR Ac.out));(case aS=>exact(below_size qb));(case aL=>have:=Ea.out;omega);intro Jl Jm ho hb hg hat;rw [← Fj.out]at ho;replace Aa:=y0.mk (blk_grown (qk Aa.out) hg (Kd.R_ne Ac.out Aa.out (by decide)));replace Ab:=y0.mk (blk_grown (qk Ab.out) hg (Kd.R_ne Ac.out Ab.out (by decide)));replace Ad:=y0.mk (blk_grown (qk Ad.out) hg (Kd.R_ne Ac.out Ad.out (by decide)));replace Ap:=y0.mk (blk_grown (qk Ap.out) hg (Kd.R_ne Ac.out Ap.out (by decide)));replace HB:=y0.mk (hb);have Db:=y0.mk (ho);clear Ac;clear ho hb hg hat;obtain⟨Fe,Ff,Dq⟩:=Kd.R_slice Db.out;subst Dq;obtain⟨Dr,Ds,Dt,Du,Dv,Dw⟩:=qz3 Ap.out)))
              go_roundg k4
              case measure=>have:=Cx.out;have:=Cy.out;have:=Cz.out;have:=Dn.out;omega
              exact⟨(wrap64 (Bu + 1)),(Ge),(.slice Fe Ge.length Ff),qy2,H',⟨by have:=Cx.out;have:=Cy.out;have:=Cz.out;have:=Dn.out;omega⟩,⟨qR (Kd.R_mono (Kd.R_far (p:=⟨Cn,2,none⟩) (Kd.R_types Db.out Ap.out (by decide)) (fun _ hk=>hk.2) (.slice Fe Ge.length Ff)) (fun _ hk=>trivial))⟩,⟨by(with_reducible repeat(first|refine y9 ?_ _|refine y8 ?_|refine y5 ?_ _));refine blk_far ?_ Ai.out _;(with_reducible repeat(first|refine y9 ?_ _|refine y8 ?_|refine y5 ?_ _));exact Aa.out⟩,⟨by(with_reducible repeat(first|refine y9 ?_ _|refine y8 ?_|refine y5 ?_ _));refine blk_far ?_ Al.out _;(with_reducible repeat(first|refine y9 ?_ _|refine y8 ?_|refine y5 ?_ _));exact Ab.out⟩,⟨by(with_reducible repeat(first|refine y9 ?_ _|refine y8 ?_|refine y5 ?_ _));refine blk_far ?_ Bh.out _;(with_reducible repeat(first|refine y9 ?_ _|refine y8 ?_|refine y5 ?_ _));exact Ad.out⟩,⟨by(with_reducible repeat(first|refine y9 ?_ _|refine y8 ?_|refine y5 ?_ _));refine blk_put (cs:=#[.int .i64 Az,.int .i64 Be,Bd]) ?_ 2 _ rfl;(with_reducible repeat(first|refine y9 ?_ _|refine y8 ?_|refine y5 ?_ _));exact Ap.out⟩,⟨qb⟩⟩
             ·replace Gd:=Bool.eq_false_iff.mpr Gd
              subst Gd
              replace H:=qF H
              have H':=y0.mk H
              clear H
              have Oh:=Ar.out
              have Oi:=As.out
              have Oj:=Am.out
              have Ol:=Ao.out
              have Om:=Ai.out
              have On:=Aw.out
              obtain⟨Jn,Jo,Jp,Jq,Jr,Js⟩:=qz3 Aa.out
              go_wp2
              repeat(go_quiet (fail);try go_wp2)
              go_roundg k4
              case measure=>have:=Cx.out;have:=Cy.out;have:=Cz.out;have:=Dn.out;omega
              exact⟨(wrap64 (Bu + 1)),(At),(Bd),qy2,H',⟨by have:=Cx.out;have:=Cy.out;have:=Cz.out;have:=Dn.out;omega⟩,⟨qR Ac.out⟩,⟨qk Aa.out⟩,⟨qk Ab.out⟩,⟨qk Ad.out⟩,⟨qk Ap.out⟩,⟨qb⟩⟩
         ·rw [if_neg Hr]at H
          have Hd:=decide_eq_false Hr
          clear Hr
          have H':=y0.mk H
          clear H
          go_wp2
          repeat(go_quiet (fail);try go_wp2)
          go_roundg k3
          case measure=>have:=Cx.out;have:=Cy.out;have:=Cz.out;omega
          exact⟨(wrap64 (Bt + 1)),(At),(Bd),qy2,H',⟨by have:=Cx.out;have:=Cy.out;have:=Cz.out;omega⟩,⟨qR Ac.out⟩,⟨qk Aa.out⟩,⟨qk Ab.out⟩,⟨qk Ad.out⟩,⟨qk Ap.out⟩,⟨qb⟩⟩
      ·rw [if_neg Hq]at H
       have Hc:=decide_eq_false Hq
       clear Hq
       simp only [Option.some.injEq,Prod.mk.injEq]at H
       obtain⟨rfl,rfl,rfl,rfl⟩:=H
       have Oo:=Aw.out
       have Oq:=Ai.out
       have Ot:=Bc.out
       have Ou:=Al.out
       have Ov:=Bs.out
       have Ow:=Bh.out
       obtain⟨Jt,Ju,Jv,Jw,Jx,Jy⟩:=qz3 Ap.out
       have Ox:=Ao.out
       have Oy:=Am.out
       have Oz:=Ak.out
       have Pa:=Aj.out
       obtain⟨Jz,Ka,Kb,Ke,Kf,Kg⟩:=qz3 Ad.out
       obtain⟨Hf,Hg,Kh⟩:=Kd.R_slice Ac.out
       subst Kh
       go_wp2
       repeat(go_quiet (fail);try go_wp2)
       refine bodyPost_ret (results_ct rfl _ _ Cb 28 #[.int .i64 Az,.int .i64 Be,.slice Hf Bv.length Hg] (0,0) _ rfl (by(with_reducible repeat(first|refine y9 ?_ _|refine y8 ?_|refine y5 ?_ _));refine blk_put (cs:=#[.int .i64 Az,.int .i64 Be,.slice none 0 0]) ?_ 2 _ rfl;(with_reducible repeat(first|refine y9 ?_ _|refine y8 ?_|refine y5 ?_ _));refine blk_put (cs:=#[.int .i64 Az,.int .i64 0,.slice none 0 0]) ?_ 1 _ rfl;(with_reducible repeat(first|refine y9 ?_ _|refine y8 ?_|refine y5 ?_ _));refine blk_put (cs:=#[.int .i64 0,.int .i64 0,.slice none 0 0]) ?_ 0 _ rfl;(with_reducible repeat(first|refine y9 ?_ _|refine y8 ?_|refine y5 ?_ _));exact Ad.out) Try.underlying28 rfl (by kernel_rfl)) rfl ?_
       exact⟨_,by first|rfl|(simp [errW_none,errW_some] <;> rfl)|(simp [*,errW_none,errW_some] <;> rfl),by(with_reducible repeat(first|apply Kd.R_alloc|apply Kd.R_drewN|apply Kd.R_drew));exact Kd.R_mono (Kd.R_far (p:=⟨Cb,2,none⟩) (Kd.R_far (p:=⟨Cb,1,none⟩) (Kd.R_far (p:=⟨Cb,0,none⟩) (Kd.R_types Ac.out Ad.out (by decide)) (fun _ hk=>hk.2) (.int .i64 Az)) (fun _ hk=>hk.2) (.int .i64 Be)) (fun _ hk=>hk.2) (.slice Hf Bv.length Hg)) (fun _ hk=>trivial),qb⟩
end Go.Proofs.Ytcckpjflbfofjaa.Pd
end
section
namespace Go.Proofs.Ytcckpjflbfofjaa.Pd
open Go.RowKit Go.Proofs.YtcckpjflbfofjaaW.PrintWords Go.Proofs.YtcckpjflbfofjaaW.PrintLast Go.Proofs.YtcckpjflbfofjaaW.PrintMore
attribute [local go_sem] max2_int min2_int max_two min_two max_three min_three max_four min_four   -- for this text's walks alone
set_option linter.unusedVariables false
set_option linter.unusedSimpArgs false
def cmp_Or_int.l0:Nat→Int→List Int→Int→Int→Option (Int)
 | 0,_,_,_,_=>none
 | k + 1,x3,x6,x7,x8=>if x8 < x7 then(if 0≤x8 then(if x8 < (x6.length:Int)then(if(rd x6 x8)=x3 then(cmp_Or_int.l0 k x3 x6 x7 (wrap64 (x8 + 1)))else(some (rd x6 x8)))else(none))else(none))else(some x3)
def cmp_Or_int.f (k:Nat) (l0:List Int):Option (Int):=cmp_Or_int.l0 k 0 l0 (l0.length:Int) 0
set_option maxHeartbeats 8000000 in
set_option maxRecDepth 100000 in
theorem cmp_Or_int.calls (k:Nat) (A0:Option Addr) (c0:Nat) (l0:List Int) (r:Int) (w:World) (Ak:Kd.C (Kd.int .i64) w A0 l0.length l0) (Al:l0.length≤c0) (h:cmp_Or_int.f k l0=some r) :
  Calls Try.prog 55 #[.slice A0 l0.length c0] w fun e w'=>e=.returned (.int .i64 r)∧Drawn0 w w':=by
 have Ap:=y0.mk Ak
 have As:=y0.mk Al
 clear Ak Al
 have H:(cmp_Or_int.l0 k 0 l0 (l0.length:Int) 0)=some r:=h
 clear h
 have H':=y0.mk H
 clear H
 go_enter Try.func55,Try.ntmps55
 go_wp2
 go_loopg [8] k (fun kq v8 w'=>∃(Aa:Int),v8=.int .i64 Aa∧y0 (cmp_Or_int.l0 kq 0 l0 (l0.length:Int) Aa=some r)∧y0 (kq≤k)∧Drawn0 w w')
 case atStart=>exact⟨(0),qy2,H',⟨Nat.le_refl _⟩,by repeat(first|exact Drawn0.refl _|apply Drawn0.step)⟩
 case round =>
  clear H'
  obtain⟨Aa,rfl,HA,Am,⟨m1,rfl⟩⟩:=hrel
  cases gk with
  | zero=>exact absurd HA.out (by simp [cmp_Or_int.l0])
  | succ k1 =>
   have H:=HA.out
   clear HA
   simp only [cmp_Or_int.l0]at H
   by_cases c2:Aa < (l0.length:Int)
   ·rw [if_pos c2]at H
    have Ae:=decide_eq_true c2
    clear c2
    obtain⟨c3,H⟩:=qo H
    have Aq:decide (0≤Aa)=true:=decide_eq_true c3
    clear c3
    obtain⟨c4,H⟩:=qo H
    have Ar:decide (Aa < (l0.length:Int))=true:=decide_eq_true c4
    clear c4
    have Ab:0≤(Aa:Int):=of_decide_eq_true qy0
    have Ac:Aa < (l0.length:Int):=of_decide_eq_true qy0
    obtain⟨Ao,Af,Ad⟩:=Kd.at_int Ap.out Aa Ab Ac
    cases Af
    replace Ab:=eq_true Ab
    replace Ac:=eq_true Ac
    by_cases c5:(rd l0 Aa)=0
    ·rw [if_pos c5]at H
     have Ai:((rd l0 Aa) == 0)=true:=beq_iff_eq.mpr c5
     have Aj:((rd l0 Aa) != 0)=false:=bne_eq_false_iff_eq.mpr c5
     clear c5
     have H':=y0.mk H
     clear H
     go_wp2
     go_roundg k1
     case measure=>have:=Am.out;omega
     exact⟨(wrap64 (Aa + 1)),qy2,H',⟨by have:=Am.out;omega⟩,by repeat(first|exact Drawn0.refl _|apply Drawn0.step)⟩
    ·rw [if_neg c5]at H
     have Ai:((rd l0 Aa) == 0)=false:=beq_eq_false_iff_ne.mpr c5
     have Aj:((rd l0 Aa) != 0)=true:=bne_iff_ne.mpr c5
     obtain rfl:=Option.some.inj H
     go_wp2
     go_ret
     exact qf2
   ·rw [if_neg c2]at H
    have Ae:=decide_eq_false c2
    clear c2
    obtain rfl:=Option.some.inj H
    go_wp2
    go_ret
    exact qf2
def cmp_isNaN_int.f (a0:Int):Option (Bool):=some (a0 != a0)
set_option maxHeartbeats 8000000 in
set_option maxRecDepth 100000 in
theorem cmp_isNaN_int.calls (a0:Int) (r:Bool) (w:World) (h:cmp_isNaN_int.f a0=some r) :
  Calls Try.prog 62 #[.int .i64 a0] w fun e w'=>e=.returned (.bool r)∧Drawn0 w w':=by
 have H:(some (a0 != a0))=some r:=h
 clear h
 obtain rfl:=Option.some.inj H
 go_enter Try.func62,Try.ntmps62
 go_wp2
 go_ret
 exact qf2
def cmp_Compare_int.f (a0:Int) (a1:Int):Option (Int):=(cmp_isNaN_int.f a0).bind fun t168=>((cmp_isNaN_int.f a1).bind fun t169=>(if t168=true then(if t169=true then(some 0)else(some (-1)))else(if t169=true then(some 1)else(if a0 < a1 then(some (-1))else(if a0 > a1 then(some 1)else(some 0))))))
set_option maxHeartbeats 8000000 in
set_option maxRecDepth 100000 in
theorem cmp_Compare_int.calls (a0:Int) (a1:Int) (r:Int) (w:World) (h:cmp_Compare_int.f a0 a1=some r) :
  Calls Try.prog 56 #[.int .i64 a0,.int .i64 a1] w fun e w'=>e=.returned (.int .i64 r)∧Drawn0 w w':=by
 have H:((cmp_isNaN_int.f a0).bind fun Ab=>((cmp_isNaN_int.f a1).bind fun Aa=>(if Ab=true then(if Aa=true then(some 0)else(some (-1)))else(if Aa=true then(some 1)else(if a0 < a1 then(some (-1))else(if a0 > a1 then(some 1)else(some 0)))))))=some r:=h
 clear h
 obtain⟨Ab,A3,H⟩:=qB H
 obtain⟨Aa,A4,H⟩:=qB H
 by_cases c5:Ab=true
 ·subst c5
  replace H:=qT H
  by_cases c6:Aa=true
  ·subst c6
   replace H:=qT H
   obtain rfl:=Option.some.inj H
   go_enter Try.func56,Try.ntmps56
   go_wp2_with (first|((with_reducible refine gate_callee (f:=62) rfl ?_);refine goesL_ (some 8) rfl rfl Try.func62 (by kernel_rfl) rfl #[.int .i64 a0] rfl qy1 ?_;(with_reducible refine(cmp_isNaN_int.calls a0 true _ A3.out).mono ?_);rintro e w' ⟨rfl,⟨nd,rfl⟩⟩;refine⟨_,rfl, ?_⟩)|((with_reducible refine gate_callee (f:=62) rfl ?_);refine goesL_ (some 10) rfl rfl Try.func62 (by kernel_rfl) rfl #[.int .i64 a1] rfl qy1 ?_;(with_reducible refine(cmp_isNaN_int.calls a1 true _ A4.out).mono ?_);rintro e w' ⟨rfl,⟨nd,rfl⟩⟩;refine⟨_,rfl, ?_⟩))
   go_ret
   exact qf2
  ·replace c6:=Bool.eq_false_iff.mpr c6
   subst c6
   replace H:=qF H
   obtain rfl:=Option.some.inj H
   go_enter Try.func56,Try.ntmps56
   go_wp2_with (first|((with_reducible refine gate_callee (f:=62) rfl ?_);refine goesL_ (some 8) rfl rfl Try.func62 (by kernel_rfl) rfl #[.int .i64 a0] rfl qy1 ?_;(with_reducible refine(cmp_isNaN_int.calls a0 true _ A3.out).mono ?_);rintro e w' ⟨rfl,⟨nd,rfl⟩⟩;refine⟨_,rfl, ?_⟩)|((with_reducible refine gate_callee (f:=62) rfl ?_);refine goesL_ (some 10) rfl rfl Try.func62 (by kernel_rfl) rfl #[.int .i64 a1] rfl qy1 ?_;(with_reducible refine(cmp_isNaN_int.calls a1 false _ A4.out).mono ?_);rintro e w' ⟨rfl,⟨nd,rfl⟩⟩;refine⟨_,rfl, ?_⟩))
   go_ret
   exact qf2
 ·replace c5:=Bool.eq_false_iff.mpr c5
  subst c5
  replace H:=qF H
  by_cases c7:Aa=true
  ·subst c7
   replace H:=qT H
   obtain rfl:=Option.some.inj H
   go_enter Try.func56,Try.ntmps56
   go_wp2_with (first|((with_reducible refine gate_callee (f:=62) rfl ?_);refine goesL_ (some 8) rfl rfl Try.func62 (by kernel_rfl) rfl #[.int .i64 a0] rfl qy1 ?_;(with_reducible refine(cmp_isNaN_int.calls a0 false _ A3.out).mono ?_);rintro e w' ⟨rfl,⟨nd,rfl⟩⟩;refine⟨_,rfl, ?_⟩)|((with_reducible refine gate_callee (f:=62) rfl ?_);refine goesL_ (some 10) rfl rfl Try.func62 (by kernel_rfl) rfl #[.int .i64 a1] rfl qy1 ?_;(with_reducible refine(cmp_isNaN_int.calls a1 true _ A4.out).mono ?_);rintro e w' ⟨rfl,⟨nd,rfl⟩⟩;refine⟨_,rfl, ?_⟩))
   go_ret
   exact qf2
  ·replace c7:=Bool.eq_false_iff.mpr c7
   subst c7
   replace H:=qF H
   by_cases c8:a0 < a1
   ·rw [if_pos c8]at H
    have Ac:=decide_eq_true c8
    clear c8
    obtain rfl:=Option.some.inj H
    go_enter Try.func56,Try.ntmps56
    go_wp2_with (first|((with_reducible refine gate_callee (f:=62) rfl ?_);refine goesL_ (some 8) rfl rfl Try.func62 (by kernel_rfl) rfl #[.int .i64 a0] rfl qy1 ?_;(with_reducible refine(cmp_isNaN_int.calls a0 false _ A3.out).mono ?_);rintro e w' ⟨rfl,⟨nd,rfl⟩⟩;refine⟨_,rfl, ?_⟩)|((with_reducible refine gate_callee (f:=62) rfl ?_);refine goesL_ (some 10) rfl rfl Try.func62 (by kernel_rfl) rfl #[.int .i64 a1] rfl qy1 ?_;(with_reducible refine(cmp_isNaN_int.calls a1 false _ A4.out).mono ?_);rintro e w' ⟨rfl,⟨nd,rfl⟩⟩;refine⟨_,rfl, ?_⟩))
    go_ret
    exact qf2
   ·rw [if_neg c8]at H
    have Ac:=decide_eq_false c8
    clear c8
    by_cases c9:a0 > a1
    ·rw [if_pos c9]at H
     have Ad:decide (a1 < a0)=true:=decide_eq_true c9
     clear c9
     obtain rfl:=Option.some.inj H
     go_enter Try.func56,Try.ntmps56
     go_wp2_with (first|((with_reducible refine gate_callee (f:=62) rfl ?_);refine goesL_ (some 8) rfl rfl Try.func62 (by kernel_rfl) rfl #[.int .i64 a0] rfl qy1 ?_;(with_reducible refine(cmp_isNaN_int.calls a0 false _ A3.out).mono ?_);rintro e w' ⟨rfl,⟨nd,rfl⟩⟩;refine⟨_,rfl, ?_⟩)|((with_reducible refine gate_callee (f:=62) rfl ?_);refine goesL_ (some 10) rfl rfl Try.func62 (by kernel_rfl) rfl #[.int .i64 a1] rfl qy1 ?_;(with_reducible refine(cmp_isNaN_int.calls a1 false _ A4.out).mono ?_);rintro e w' ⟨rfl,⟨nd,rfl⟩⟩;refine⟨_,rfl, ?_⟩))
     go_ret
     exact qf2
    ·rw [if_neg c9]at H
     have Ad:decide (a1 < a0)=false:=decide_eq_false c9
     clear c9
     obtain rfl:=Option.some.inj H
     go_enter Try.func56,Try.ntmps56
     go_wp2_with (first|((with_reducible refine gate_callee (f:=62) rfl ?_);refine goesL_ (some 8) rfl rfl Try.func62 (by kernel_rfl) rfl #[.int .i64 a0] rfl qy1 ?_;(with_reducible refine(cmp_isNaN_int.calls a0 false _ A3.out).mono ?_);rintro e w' ⟨rfl,⟨nd,rfl⟩⟩;refine⟨_,rfl, ?_⟩)|((with_reducible refine gate_callee (f:=62) rfl ?_);refine goesL_ (some 10) rfl rfl Try.func62 (by kernel_rfl) rfl #[.int .i64 a1] rfl qy1 ?_;(with_reducible refine(cmp_isNaN_int.calls a1 false _ A4.out).mono ?_);rintro e w' ⟨rfl,⟨nd,rfl⟩⟩;refine⟨_,rfl, ?_⟩))
     go_ret
     exact qf2
def impl_compareArcs.f (k:Nat) (a0_0:Int) (a0_1:Int) (a0_2:Bool) (a1_0:Int) (a1_1:Int) (a1_2:Bool):Option (Int):=(cmp_Compare_int.f a0_0 a1_0).bind fun t172=>((cmp_Compare_int.f a0_1 a1_1).bind fun t173=>((cmp_Or_int.f k (([t172,t173]:List Int))).bind fun t177=>(some t177)))
def impl_compareArcs.T1:Bool×List (List Nat×List Nat):=(true,[([],[]),([0],[0]),([],[]),([2],[2]),([1,3],[1,3]),([],[]),([5],[5]),([],[]),([7],[7]),([6,8,4],[6,8]),([4,9],[4,9]),([10,9],[10]),([11,11,0,1,2,3,4,5,6,7,8,9,10,11],[11])])
def impl_compareArcs.B1:List Nat:=[0,1,0,4,15,0,32,0,128,511,1023,2047,4095]
theorem impl_compareArcs.tab1:rtab .any (opsOf Try.f43 1)=impl_compareArcs.T1:=by kernel_rfl
theorem impl_compareArcs.bits1:waitsOk impl_compareArcs.T1.2 impl_compareArcs.B1=true:=by kernel_rfl
set_option maxHeartbeats 8000000 in
set_option maxRecDepth 100000 in
theorem impl_compareArcs.calls (k:Nat) (Ad:Int) (Ae:Int) (Ar:Bool) (Af:Int) (Ai:Int) (As:Bool) (r:Int) (w:World) (h:impl_compareArcs.f k Ad Ae Ar Af Ai As=some r) :
  Calls Try.prog 43 #[.agg #[.int .i64 Ad,.int .i64 Ae,.bool Ar],.agg #[.int .i64 Af,.int .i64 Ai,.bool As]] w fun e w'=>e=.returned (.int .i64 r)∧Below w.heap.size w w':=by
 have Bg:=Try.underlying53
 have HB:=y0.mk (Below.refl w.heap.size w)
 have H:((cmp_Compare_int.f Ad Af).bind fun Aj=>((cmp_Compare_int.f Ae Ai).bind fun Ak=>((cmp_Or_int.f k (([Aj,Ak]:List Int))).bind fun Al=>(some Al))))=some r:=h
 clear h
 obtain⟨Aj,A3,H⟩:=qB H
 obtain⟨Ak,A4,H⟩:=qB H
 obtain⟨Au,Ac⟩:∃ y_:List Int,y_=(([Aj,Ak]:List Int)):=⟨_,rfl⟩
 replace H:((cmp_Or_int.f k Au).bind fun Al=>(some Al))=some r:=by first|(rw [Ac];with_reducible exact H)|(have H2_:=(Option.bind_some _ _).symm.trans H;rw [Ac];with_reducible exact H2_)|(have H2_:=(Option.bind_some _ _).symm.trans H;with_reducible exact H2_)|with_reducible exact H|(rw [Ac];exact H)|exact H
 have At:=y0.mk Ac
 clear Ac
 obtain⟨Al,A5,H⟩:=qB H
 obtain rfl:=Option.some.inj H
 go_enter Try.func43,Try.ntmps43
 try go_wp2_with (first|((with_reducible refine y12 (N:=2) rfl ?_);refine qe 2 #[.int .i64 Ad,.int .i64 Ae,.bool Ar] 53 ?_;intro Am hg w6 hbox hb;have Aa:=y0.mk (hbox);have Bc:=y0.mk (qg (w:=w) hg);have Bd:=y0.mk (qg (w:=w) hg);replace HB:=y0.mk (y4 qb hb);clear hb hbox hg)|((with_reducible refine y12 (N:=3) rfl ?_);refine qe 3 #[.int .i64 Af,.int .i64 Ai,.bool As] 53 ?_;intro Ao hg w7 hbox hb;have Ab:=y0.mk (hbox);have Be:=y0.mk (qg (w:=w) hg);have Bf:=y0.mk (qg (w:=w) hg);replace HB:=y0.mk (y4 qb hb);have Aw:=y0.mk (qn Aa.out hg);have Ay:=y0.mk (qm Aa.out hg);replace Aa:=y0.mk (qK Aa.out hb);clear hb hbox hg))
 replace Aa:=y0.mk (y8 Aa.out)
 replace Ab:=y0.mk (y8 Ab.out)
 replace HB:=y0.mk (y2 HB.out)
 refine start_ (n:=13) (S:=fun w'=>w'.cell? ⟨Am,0,none⟩=some (.int .i64 Ad)∧w'.cell? ⟨Am,1,none⟩=some (.int .i64 Ae)∧w'.cell? ⟨Am,2,none⟩=some (.bool Ar)∧w'.cell? ⟨Ao,0,none⟩=some (.int .i64 Af)∧w'.cell? ⟨Ao,1,none⟩=some (.int .i64 Ai)∧w'.cell? ⟨Ao,2,none⟩=some (.bool As)) (ds:=[]) (fl_ 13 0) (by kernel_rfl) rfl rfl ⟨(y7 Aa.out 0).trans rfl,(y7 Aa.out 1).trans rfl,(y7 Aa.out 2).trans rfl,(y7 Ab.out 0).trans rfl,(y7 Ab.out 1).trans rfl,(y7 Ab.out 2).trans rfl⟩ (fun hHeld=>?_);refine with_tabW impl_compareArcs.tab1 impl_compareArcs.bits1 (fun HT_ HW_=>?_)
 generalize w7.drew=w8 at Aa Ab HB hHeld ⊢
 refine qp 0 5 (fl_ 13 1) ?_
 refine qp 2 7 (fl_ 13 5) ?_
 refine qp 5 10 (fl_ 13 37) ?_
 refine qp 7 12 (fl_ 13 165) ?_
 refine qt 1 6 (fl_ 13 167) hHeld ?_
 refine qt 3 8 (fl_ 13 175) hHeld ?_
 refine qt 6 11 (fl_ 13 239) hHeld ?_
 refine qt 8 13 (fl_ 13 495) hHeld ?_
 refine qO 4 9 (fl_ 13 511) (fun K hK=>?_)
 refine goes_ Try.func56 (by kernel_rfl) rfl #[.int .i64 Ad,.int .i64 Af] (by rfl) rfl rfl qy1 ?_
 with_reducible refine(cmp_Compare_int.calls Ad Af Aj _ A3.out).mono ?_
 rintro e w' ⟨rfl,⟨nd,rfl⟩⟩
 refine⟨_,rfl, ?_⟩
 refine hK.out _ _ ⟨(y7 Aa.out 0).trans rfl,(y7 Aa.out 1).trans rfl,(y7 Aa.out 2).trans rfl,(y7 Ab.out 0).trans rfl,(y7 Ab.out 1).trans rfl,(y7 Ab.out 2).trans rfl⟩ (fun hHeld=>?_)
 clear hK K
 refine qx 9 ?_
 refine qO 9 14 (fl_ 13 1023) (fun K hK=>?_)
 refine goes_ Try.func56 (by kernel_rfl) rfl #[.int .i64 Ae,.int .i64 Ai] (by rfl) rfl rfl qy1 ?_
 with_reducible refine(cmp_Compare_int.calls Ae Ai Ak _ A4.out).mono ?_
 rintro e w' ⟨rfl,⟨nd,rfl⟩⟩
 refine⟨_,rfl, ?_⟩
 refine hK.out _ _ ⟨(y7 Aa.out 0).trans rfl,(y7 Aa.out 1).trans rfl,(y7 Aa.out 2).trans rfl,(y7 Ab.out 0).trans rfl,(y7 Ab.out 1).trans rfl,(y7 Ab.out 2).trans rfl⟩ (fun hHeld=>?_)
 clear hK K
 refine qx 14 ?_
 refine qO 10 15 (fl_ 13 2047) (fun K hK=>?_)
 refine qLs (Kd.int .i64) 3 15 ([Aj,Ak]:List Int) ?_
 intro Bh w9 Ap hb hg_ hnew_
 clear hg_ hnew_
 (first|rw [← At.out]at Ap|(simp only [Int.reduceToNat]at Ap;rw [← At.out]at Ap))
 have Aq:=y0.mk (Kd.R_lower Ap (below_size qb))
 replace Aa:=y0.mk (qK Aa.out hb)
 replace Ab:=y0.mk (qK Ab.out hb)
 replace HB:=y0.mk (y4 qb hb)
 clear hb Ap
 obtain⟨Ba,Bb,Az⟩:=Kd.R_slice Aq.out
 (first|subst Az|(injection Az with f1_ f2_ f3_;have f4_:=f1_.symm;have f5_:=f3_.symm;clear f1_ f2_ f3_;subst f4_;subst f5_))
 refine hK.out _ _ ⟨(y7 Aa.out 0).trans rfl,(y7 Aa.out 1).trans rfl,(y7 Aa.out 2).trans rfl,(y7 Ab.out 0).trans rfl,(y7 Ab.out 1).trans rfl,(y7 Ab.out 2).trans rfl⟩ (fun hHeld=>?_)
 clear hK K
 refine qx 15 ?_
 refine qO 11 16 (fl_ 13 4095) (fun K hK=>?_)
 refine goes_ Try.func55 (by kernel_rfl) rfl #[.slice Ba Au.length Bb] (by rfl) rfl rfl qy1 ?_
 with_reducible refine(cmp_Or_int.calls k _ _ Au Al _ (qc ((Kd.R_reads' Aq.out).2.2)) (by exact(Kd.R_reads' Aq.out).2.1) A5.out).mono ?_
 rintro e w' ⟨rfl,⟨nd,rfl⟩⟩
 refine⟨_,rfl, ?_⟩
 refine hK.out _ _ ⟨(y7 Aa.out 0).trans rfl,(y7 Aa.out 1).trans rfl,(y7 Aa.out 2).trans rfl,(y7 Ab.out 0).trans rfl,(y7 Ab.out 1).trans rfl,(y7 Ab.out 2).trans rfl⟩ (fun hHeld=>?_)
 clear hK K
 refine qx 16 ?_
 refine qp 12 4 (fl_ 13 8191) ?_
 refine done_ (done_of HT_.out (by kernel_rfl)) ?_
 try go_wp2
 go_ret
 exact⟨qf,qb⟩
end Go.Proofs.Ytcckpjflbfofjaa.Pd
end
section
namespace Go.Proofs.Ytcckpjflbfofjaa.Pd
open Go.RowKit Go.Proofs.YtcckpjflbfofjaaW.PrintWords Go.Proofs.YtcckpjflbfofjaaW.PrintLast Go.Proofs.YtcckpjflbfofjaaW.PrintMore
attribute [local go_sem] max2_int min2_int max_two min_two max_three min_three max_four min_four   -- for this text's walks alone
set_option linter.unusedVariables false
set_option linter.unusedSimpArgs false
theorem eqA53 (d:Nat) (w:World) (x0 y0:Int) (x1 y1:Int) (x2 y2:Bool) :
  (Op.equalIn (d + 2) 53 (.agg #[.int .i64 x0,.int .i64 x1,.bool x2]) (.agg #[.int .i64 y0,.int .i64 y1,.bool y2])).run Try.prog w=.ok (x0 == y0 && (x1 == y1 && (x2 == y2))) w:=by
 refine eqA_of Try.underlying53 (by kernel_rfl) ?_
 refine eqf_cons (by rfl) (by go_simp;rfl) (by go_simp;rfl) (by go_simp) ?_
 refine eqf_cons (by rfl) (by go_simp;rfl) (by go_simp;rfl) (by go_simp) ?_
 exact eqf_last (by rfl) (by go_simp;rfl) (by go_simp;rfl) (by go_simp)
end Go.Proofs.Ytcckpjflbfofjaa.Pd
end
section
namespace Go.Proofs.Ytcckpjflbfofjaa.Pd
open Go.RowKit Go.Proofs.YtcckpjflbfofjaaW.PrintWords Go.Proofs.YtcckpjflbfofjaaW.PrintLast Go.Proofs.YtcckpjflbfofjaaW.PrintMore
attribute [local go_sem] max2_int min2_int max_two min_two max_three min_three max_four min_four   -- for this text's walks alone
set_option linter.unusedVariables false
set_option linter.unusedSimpArgs false
attribute [local go_sem high] eqA53
mutual
def spec_l08Same.j0:Nat→Bool→Int→Int→List (S53)→Int→Int→List (S53)→Option (Bool)
 | 0,_,_,_,_,_,_,_=>none
 | k + 1,x26,x151000,x151001,x151002,x152000,x152001,x152002=>if x26=true then(some false)else(spec_l08Same.l0 k 0 x151000 x151001 x151002 x152000 x152001 x152002)
def spec_l08Same.l0:Nat→Int→Int→Int→List (S53)→Int→Int→List (S53)→Option (Bool)
 | 0,_,_,_,_,_,_,_=>none
 | k + 1,x5,x151000,x151001,x151002,x152000,x152001,x152002=>if x5 < (x151002.length:Int)then(if 0≤x5 then(if x5 < (x152002.length:Int)then(if(!(((y15 x151002 x5).f0) == ((y15 x152002 x5).f0)) || (!(((y15 x151002 x5).f1) == ((y15 x152002 x5).f1)) || (!(((y15 x151002 x5).f2) == ((y15 x152002 x5).f2)))))=true then(some false)else(spec_l08Same.l0 k (wrap64 (x5 + 1)) x151000 x151001 x151002 x152000 x152001 x152002))else(none))else(none))else(some true)
end
def spec_l08Same.f (k:Nat) (a0_0:Int) (a0_1:Int) (l0_2:List (S53)) (a1_0:Int) (a1_1:Int) (l1_2:List (S53)):Option (Bool):=if a0_0=a1_0 then(if a0_1=a1_1 then(spec_l08Same.j0 k ((l0_2.length:Int) != (l1_2.length:Int)) a0_0 a0_1 l0_2 a1_0 a1_1 l1_2)else(spec_l08Same.j0 k true a0_0 a0_1 l0_2 a1_0 a1_1 l1_2))else(spec_l08Same.j0 k true a0_0 a0_1 l0_2 a1_0 a1_1 l1_2)
set_option maxHeartbeats 8000000 in
set_option maxRecDepth 100000 in
theorem spec_l08Same.calls (k:Nat) (Aj:Int) (Ak:Int) (Au:Option Addr) (Aw:Nat) (Ac:List (S53)) (Al:Int) (Am:Int) (Ay:Option Addr) (Az:Nat) (Ad:List (S53)) (r:Bool) (w:World) (Be:Kd.C k53 w Au Ac.length Ac) (Bf:Ac.length≤Aw) (Bg:Kd.C k53 w Ay Ad.length Ad) (Bh:Ad.length≤Az) (h:spec_l08Same.f k Aj Ak Ac Al Am Ad=some r) :
  Calls Try.prog 34 #[.agg #[.int .i64 Aj,.int .i64 Ak,.slice Au Ac.length Aw],.agg #[.int .i64 Al,.int .i64 Am,.slice Ay Ad.length Az]] w fun e w'=>e=.returned (.bool r)∧Below w.heap.size w w':=by
 have El:=Try.underlying28
 have Em:=Try.underlying53
 have Bs:=y0.mk Be
 have Du:=y0.mk Bf
 clear Be Bf
 have Bt:=y0.mk Bg
 have Dv:=y0.mk Bh
 clear Bg Bh
 have HB:=y0.mk (Below.refl w.heap.size w)
 have H:(if Aj=Al then(if Ak=Am then(spec_l08Same.j0 k ((Ac.length:Int) != (Ad.length:Int)) Aj Ak Ac Al Am Ad)else(spec_l08Same.j0 k true Aj Ak Ac Al Am Ad))else(spec_l08Same.j0 k true Aj Ak Ac Al Am Ad))=some r:=h
 clear h
 have Di:=y0.mk H
 clear H
 go_enter Try.func34,Try.ntmps34
 go_upto_region 1 with(first|((with_reducible refine y12 (N:=2) rfl ?_);(try(refine gate_guard (by rfl) ?_;dsimp only));refine qe 2 #[.int .i64 Aj,.int .i64 Ak,.slice Au Ac.length Aw] 28 ?_;intro Ba hg w4 hbox hb;have Aa:=y0.mk (hbox);have Bi:=y0.mk (qg (w:=w) hg);have Bj:=y0.mk (qg (w:=w) hg);replace HB:=y0.mk (y4 qb hb);clear hb hbox hg)|((with_reducible refine y12 (N:=3) rfl ?_);(try(refine gate_guard (by rfl) ?_;dsimp only));refine qe 3 #[.int .i64 Al,.int .i64 Am,.slice Ay Ad.length Az] 28 ?_;intro Bb hg w5 hbox hb;have Ai:=y0.mk (hbox);have Bk:=y0.mk (qg (w:=w) hg);have Bl:=y0.mk (qg (w:=w) hg);replace HB:=y0.mk (y4 qb hb);have Ae:=y0.mk (qn Aa.out hg);have Af:=y0.mk (qm Aa.out hg);replace Aa:=y0.mk (qK Aa.out hb);clear hb hbox hg))
 repeat(go_quiet (first|((with_reducible refine y12 (N:=2) rfl ?_);(try(refine gate_guard (by rfl) ?_;dsimp only));refine qe 2 #[.int .i64 Aj,.int .i64 Ak,.slice Au Ac.length Aw] 28 ?_;intro Ba hg w4 hbox hb;have Aa:=y0.mk (hbox);have Bi:=y0.mk (qg (w:=w) hg);have Bj:=y0.mk (qg (w:=w) hg);replace HB:=y0.mk (y4 qb hb);clear hb hbox hg)|((with_reducible refine y12 (N:=3) rfl ?_);(try(refine gate_guard (by rfl) ?_;dsimp only));refine qe 3 #[.int .i64 Al,.int .i64 Am,.slice Ay Ad.length Az] 28 ?_;intro Bb hg w5 hbox hb;have Ai:=y0.mk (hbox);have Bk:=y0.mk (qg (w:=w) hg);have Bl:=y0.mk (qg (w:=w) hg);replace HB:=y0.mk (y4 qb hb);have Ae:=y0.mk (qn Aa.out hg);have Af:=y0.mk (qm Aa.out hg);replace Aa:=y0.mk (qK Aa.out hb);clear hb hbox hg));go_upto_region 1 with(first|((with_reducible refine y12 (N:=2) rfl ?_);(try(refine gate_guard (by rfl) ?_;dsimp only));refine qe 2 #[.int .i64 Aj,.int .i64 Ak,.slice Au Ac.length Aw] 28 ?_;intro Ba hg w4 hbox hb;have Aa:=y0.mk (hbox);have Bi:=y0.mk (qg (w:=w) hg);have Bj:=y0.mk (qg (w:=w) hg);replace HB:=y0.mk (y4 qb hb);clear hb hbox hg)|((with_reducible refine y12 (N:=3) rfl ?_);(try(refine gate_guard (by rfl) ?_;dsimp only));refine qe 3 #[.int .i64 Al,.int .i64 Am,.slice Ay Ad.length Az] 28 ?_;intro Bb hg w5 hbox hb;have Ai:=y0.mk (hbox);have Bk:=y0.mk (qg (w:=w) hg);have Bl:=y0.mk (qg (w:=w) hg);replace HB:=y0.mk (y4 qb hb);have Ae:=y0.mk (qn Aa.out hg);have Af:=y0.mk (qm Aa.out hg);replace Aa:=y0.mk (qK Aa.out hb);clear hb hbox hg)))
 (try simp only [Act.put,qS_,qZ_,qC_])
 go_cut [26] (fun En wc=>∃(kq:Nat) (Bc:Bool),En=.bool Bc∧y0 (spec_l08Same.j0 kq Bc Aj Ak Ac Al Am Ad=some r)∧y0 (kq≤k)∧y0 (wc.heap[Ba]?=some (.cells #[.int .i64 Aj,.int .i64 Ak,(.slice Au Ac.length Aw)] 28 (0,0)))∧y0 (wc.heap[Bb]?=some (.cells #[.int .i64 Al,.int .i64 Am,(.slice Ay Ad.length Az)] 28 (0,0)))∧y0 (Below w.heap.size w wc))
 case first =>
  have H:=Di.out
  clear Di
  by_cases c6:Aj=Al
  ·rw [if_pos c6]at H
   have Bd:(Aj == Al)=true:=beq_iff_eq.mpr c6
   have Dj:(Aj != Al)=false:=bne_eq_false_iff_eq.mpr c6
   clear c6
   (first|rw [Bd]|(simp only [i64_w,i32_w];rw [Bd])|skip)
   have Eo:=Ae.out
   have Ep:=Af.out
   obtain⟨Dk,Dl,Dm,Dn,Do,Dp⟩:=qz3 Aa.out
   obtain⟨Bx,Bz,Ca,Cb,Cc,Cd⟩:=qz3 Ai.out
   by_cases c7:Ak=Am
   ·rw [if_pos c7]at H
    have Dq:(Ak == Am)=true:=beq_iff_eq.mpr c7
    have Dr:(Ak != Am)=false:=bne_eq_false_iff_eq.mpr c7
    clear c7
    have H':=y0.mk H
    clear H
    go_wp2
    repeat(go_quiet (fail);try go_wp2)
    go_meet
    exact⟨_,(((Ac.length:Int) != (Ad.length:Int))),qy2,H',⟨by first|omega|exact Nat.le_refl _⟩,⟨qk Aa.out⟩,⟨qk Ai.out⟩,⟨qb⟩⟩
   ·rw [if_neg c7]at H
    have Dq:(Ak == Am)=false:=beq_eq_false_iff_ne.mpr c7
    have Dr:(Ak != Am)=true:=bne_iff_ne.mpr c7
    have H':=y0.mk H
    clear H
    go_wp2
    repeat(go_quiet (fail);try go_wp2)
    go_meet
    exact⟨_,(true),qy2,H',⟨by first|omega|exact Nat.le_refl _⟩,⟨qk Aa.out⟩,⟨qk Ai.out⟩,⟨qb⟩⟩
  ·rw [if_neg c6]at H
   have Bd:(Aj == Al)=false:=beq_eq_false_iff_ne.mpr c6
   have Dj:(Aj != Al)=true:=bne_iff_ne.mpr c6
   (first|rw [Bd]|(simp only [i64_w,i32_w];rw [Bd])|skip)
   have H':=y0.mk H
   clear H
   have Dw:=Ae.out
   have Dx:=Af.out
   obtain⟨Ce,Cf,Cg,Ch,Ci,Cj⟩:=qz3 Aa.out
   obtain⟨Ck,Cl,Cm,Cn,Co,Cp⟩:=qz3 Ai.out
   go_wp2
   repeat(go_quiet (fail);try go_wp2)
   go_meet
   exact⟨_,(true),qy2,H',⟨by first|omega|exact Nat.le_refl _⟩,⟨qk Aa.out⟩,⟨qk Ai.out⟩,⟨qb⟩⟩
 case rest =>
  clear Di
  obtain⟨kq,Bc,rfl,HA,Dy,Aa,Ai,HB⟩:=hcut
  cases kq with
  | zero=>exact absurd HA.out (by simp [spec_l08Same.j0])
  | succ Dz =>
   have H:=HA.out
   clear HA
   simp only [spec_l08Same.j0]at H
   by_cases Bu:Bc=true
   ·subst Bu
    replace H:=qT H
    obtain rfl:=Option.some.inj H
    go_wp2
    repeat(go_quiet (fail);try go_wp2)
    go_ret
    exact⟨qf,qb⟩
   ·replace Bu:=Bool.eq_false_iff.mpr Bu
    subst Bu
    replace H:=qF H
    have H':=y0.mk H
    clear H
    go_wp2
    repeat(go_quiet (fail);try go_wp2)
    go_loopg [5] Dz (fun kq v5 w'=>∃(Ab:Int),v5=.int .i64 Ab∧y0 (spec_l08Same.l0 kq Ab Aj Ak Ac Al Am Ad=some r)∧y0 (kq≤Dz)∧y0 (w'.heap[Ba]?=some (.cells #[.int .i64 Aj,.int .i64 Ak,(.slice Au Ac.length Aw)] 28 (0,0)))∧y0 (w'.heap[Bb]?=some (.cells #[.int .i64 Al,.int .i64 Am,(.slice Ay Ad.length Az)] 28 (0,0)))∧y0 (Below w.heap.size w w'))
    case atStart=>exact⟨(0),qy2,H',⟨Nat.le_refl _⟩,⟨qk Aa.out⟩,⟨qk Ai.out⟩,⟨qb⟩⟩
    case round =>
     clear H'
     (try clear Bu)
     obtain⟨Ab,rfl,HA,Ea,Aa,Ai,HB⟩:=hrel
     cases gk with
     | zero=>exact absurd HA.out (by simp [spec_l08Same.l0])
     | succ k2 =>
      have H:=HA.out
      clear HA
      simp only [spec_l08Same.l0]at H
      by_cases Bq:Ab < (Ac.length:Int)
      ·rw [if_pos Bq]at H
       have Bv:=decide_eq_true Bq
       clear Bq
       obtain⟨Eb,H⟩:=qo H
       have Ec:decide (0≤Ab)=true:=decide_eq_true Eb
       clear Eb
       obtain⟨Ed,H⟩:=qo H
       have Ee:decide (Ab < (Ad.length:Int))=true:=decide_eq_true Ed
       clear Ed
       have Ef:=Ae.out
       have Eg:=Af.out
       obtain⟨Cq,Cr,Cs,Ct,Cu,Cv⟩:=qz3 Aa.out
       have Bm:0≤(Ab:Int):=of_decide_eq_true qy0
       have Bn:Ab < (Ac.length:Int):=of_decide_eq_true qy0
       obtain⟨Eh,Ds,Ao,Ap,Aq⟩:=at_T53 Bs.out Ab Bm Bn
       cases Ds
       replace Ao:=(HB.out.cell (World.block_lt_of_cell? w _ Ao)).trans Ao
       replace Ap:=(HB.out.cell (World.block_lt_of_cell? w _ Ap)).trans Ap
       replace Aq:=(HB.out.cell (World.block_lt_of_cell? w _ Aq)).trans Aq
       replace Bm:=eq_true Bm
       replace Bn:=eq_true Bn
       obtain⟨Cw,Cx,Cy,Cz,Da,Db⟩:=qz3 Ai.out
       have Bo:0≤(Ab:Int):=of_decide_eq_true qy0
       have Bp:Ab < (Ad.length:Int):=of_decide_eq_true qy0
       obtain⟨Ei,Dt,Ar,As,At⟩:=at_T53 Bt.out Ab Bo Bp
       cases Dt
       replace Ar:=(HB.out.cell (World.block_lt_of_cell? w _ Ar)).trans Ar
       replace As:=(HB.out.cell (World.block_lt_of_cell? w _ As)).trans As
       replace At:=(HB.out.cell (World.block_lt_of_cell? w _ At)).trans At
       replace Bo:=eq_true Bo
       replace Bp:=eq_true Bp
       by_cases Br:(!(((y15 Ac Ab).f0) == ((y15 Ad Ab).f0)) || (!(((y15 Ac Ab).f1) == ((y15 Ad Ab).f1)) || (!(((y15 Ac Ab).f2) == ((y15 Ad Ab).f2)))))=true
       ·rw [if_pos Br]at H
        have Bw:(!(((y15 Ac Ab).f0) == ((y15 Ad Ab).f0)) || (!(((y15 Ac Ab).f1) == ((y15 Ad Ab).f1)) || (!(((y15 Ac Ab).f2) == ((y15 Ad Ab).f2)))))=true:=Br
        clear Br
        obtain rfl:=Option.some.inj H
        go_wp2
        repeat(go_quiet (fail);try go_wp2)
        go_ret
        exact⟨qf,qb⟩
       ·rw [if_neg Br]at H
        have Bw:(!(((y15 Ac Ab).f0) == ((y15 Ad Ab).f0)) || (!(((y15 Ac Ab).f1) == ((y15 Ad Ab).f1)) || (!(((y15 Ac Ab).f2) == ((y15 Ad Ab).f2)))))=false:=by simpa using Br
        clear Br
        have H':=y0.mk H
        clear H
        go_wp2
        repeat(go_quiet (fail);try go_wp2)
        go_roundg k2
        case measure=>have:=Dy.out;have:=Ea.out;omega
        exact⟨(wrap64 (Ab + 1)),qy2,H',⟨by have:=Dy.out;have:=Ea.out;omega⟩,⟨qk Aa.out⟩,⟨qk Ai.out⟩,⟨qb⟩⟩
      ·rw [if_neg Bq]at H
       have Bv:=decide_eq_false Bq
       clear Bq
       obtain rfl:=Option.some.inj H
       have Ej:=Ae.out
       have Ek:=Af.out
       obtain⟨Dc,Dd,De,Df,Dg,Dh⟩:=qz3 Aa.out
       go_wp2
       repeat(go_quiet (fail);try go_wp2)
       go_ret
       exact⟨qf,qb⟩
def impl_in.f (a0:Int) (a1:Int) (a2:Int):Option (Bool):=if a0≥a1 then(some (decide (a0≤a2)))else(some false)
set_option maxHeartbeats 8000000 in
set_option maxRecDepth 100000 in
theorem impl_in.calls (a0:Int) (a1:Int) (a2:Int) (r:Bool) (w:World) (h:impl_in.f a0 a1 a2=some r) :
  Calls Try.prog 42 #[.int .i64 a0,.int .i64 a1,.int .i64 a2] w fun e w'=>e=.returned (.bool r)∧Drawn0 w w':=by
 have H:(if a0≥a1 then(some (decide (a0≤a2)))else(some false))=some r:=h
 clear h
 by_cases c4:a0≥a1
 ·rw [if_pos c4]at H
  have c4b0:decide (a1≤a0)=true:=decide_eq_true c4
  clear c4
  obtain rfl:=Option.some.inj H
  go_enter Try.func42,Try.ntmps42
  go_wp2
  go_ret
  exact qf2
 ·rw [if_neg c4]at H
  have c4b0:decide (a1≤a0)=false:=decide_eq_false c4
  clear c4
  obtain rfl:=Option.some.inj H
  go_enter Try.func42,Try.ntmps42
  go_wp2
  go_ret
  exact qf2
end Go.Proofs.Ytcckpjflbfofjaa.Pd
end
