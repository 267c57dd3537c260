-- Cut by prune.py.
import Derived.Test.YtkdabljlfbmpdaaVgrPwx14
section
namespace Go.Proofs.Ytkdabljlfbmpdaa.Pw
open RowKit YtkdabljlfbmpdaaW.PrintWords YtkdabljlfbmpdaaW.PrintLast YtkdabljlfbmpdaaW.PrintMore
set_option linter.unusedVariables false
set_option linter.unusedSimpArgs false
mutual
def z4_.l0:Nat→List Int→List (S63)→Int→Int→List (S63)→Int→ByteArray→List Int→List (S33)→Option (Bool)
 | 0,_,_,_,_,_,_,_,_,_=>none
 | k + 1,x3,Al,Du,Ae,An,Ao,Aq,By,Di=>if Ae < Du then(if 0≤Ae then(if Ae < (Al.length:Int)then(z4_.l1 k x3 Ae Al Du Ae ((y19 Al Ae).f2) (((y19 Al Ae).f2).length:Int) 0 An Ao Aq By Di ((y19 Al Ae).f0) ((y19 Al Ae).f1) ((y19 Al Ae).f2))else(none))else(none))else((impl_Rule_lits.f An Ao Aq By Di).bind fun Ea=>(z4_.l2 k x3 Ea (Ea.length:Int) 0 An Ao Aq By Di))
def z4_.l1:Nat→List Int→Int→List (S63)→Int→Int→List Int→Int→Int→List (S63)→Int→ByteArray→List Int→List (S33)→Int→ByteArray→List Int→Option (Bool)
 | 0,_,_,_,_,_,_,_,_,_,_,_,_,_,_,_,_=>none
 | k + 1,x3,x4,An,Ao,Aq,Al,Fk,Ae,By,Di,Du,Ea,Fd,Ff,Fn,Fj=>if Ae < Fk then(if 0≤Ae then(if Ae < (Al.length:Int)then((impl_in.f (rd Al Ae) 0 (wrap64 (x4 - 1))).bind fun Fr=>(if Fr=true then(if 0≤(rd Al Ae)then(if(rd Al Ae) < (x3.length:Int)then(z4_.l1 k (x3.set ((rd Al Ae):Int).toNat (wrap64 ((rd x3 (rd Al Ae)) + 1))) x4 An Ao Aq Al Fk (wrap64 (Ae + 1)) By Di Du Ea Fd Ff Fn Fj)else(none))else(none))else(some false)))else(none))else(none))else((impl_in.f Ff 1 7).bind fun Fs=>(if Fs=true then((impl_isSum.f Ff).bind fun Fu=>(if Fu=true then(if(Fj.length:Int)=2 then((impl_in.f Ff 1 3).bind fun Fw=>(if Fw=true then(if(Fj.length:Int) > 0 then(some false)else(z4_.l0 k x3 An Ao (wrap64 (Aq + 1)) By Di Du Ea Fd))else(z4_.l0 k x3 An Ao (wrap64 (Aq + 1)) By Di Du Ea Fd)))else(some false))else((impl_in.f Ff 1 3).bind fun Fx=>(if Fx=true then(if(Fj.length:Int) > 0 then(some false)else(z4_.l0 k x3 An Ao (wrap64 (Aq + 1)) By Di Du Ea Fd))else(z4_.l0 k x3 An Ao (wrap64 (Aq + 1)) By Di Du Ea Fd)))))else(some false)))
def z4_.l2:Nat→List Int→List (S33)→Int→Int→List (S63)→Int→ByteArray→List Int→List (S33)→Option (Bool)
 | 0,_,_,_,_,_,_,_,_,_=>none
 | k + 1,x3,Al,An,Ae,Ao,Aq,By,Di,Du=>if Ae < An then(if 0≤Ae then(if Ae < (Al.length:Int)then(if Ae=0 then(if((y18 Al Ae).f0)=1 then((impl_in.f ((y18 Al Ae).f0) 1 3).bind fun Ea=>(if Ea=true then(if((y18 Al Ae).f0)=3 then(z4_.j3 k x3 Al An Ae ((((y18 Al Ae).f2).length:Int) != 2) Ao Aq By Di Du ((y18 Al Ae).f0) ((y18 Al Ae).f1) ((y18 Al Ae).f2))else(z4_.j3 k x3 Al An Ae false Ao Aq By Di Du ((y18 Al Ae).f0) ((y18 Al Ae).f1) ((y18 Al Ae).f2)))else(z4_.j3 k x3 Al An Ae true Ao Aq By Di Du ((y18 Al Ae).f0) ((y18 Al Ae).f1) ((y18 Al Ae).f2))))else(z4_.j3 k x3 Al An Ae true Ao Aq By Di Du ((y18 Al Ae).f0) ((y18 Al Ae).f1) ((y18 Al Ae).f2)))else((impl_in.f ((y18 Al Ae).f0) 1 3).bind fun Fd=>(if Fd=true then(if((y18 Al Ae).f0)=3 then(z4_.j3 k x3 Al An Ae ((((y18 Al Ae).f2).length:Int) != 2) Ao Aq By Di Du ((y18 Al Ae).f0) ((y18 Al Ae).f1) ((y18 Al Ae).f2))else(z4_.j3 k x3 Al An Ae false Ao Aq By Di Du ((y18 Al Ae).f0) ((y18 Al Ae).f1) ((y18 Al Ae).f2)))else(z4_.j3 k x3 Al An Ae true Ao Aq By Di Du ((y18 Al Ae).f0) ((y18 Al Ae).f1) ((y18 Al Ae).f2)))))else(none))else(none))else(if(Ao.length:Int)≤60 then((slices_ContainsFunc_int_int_impl_isFormed_1.f k x3).bind fun Ff=>(some (!Ff)))else(some false))
def z4_.j3:Nat→List Int→List (S33)→Int→Int→Bool→List (S63)→Int→ByteArray→List Int→List (S33)→Int→ByteArray→List Int→Option (Bool)
 | 0,_,_,_,_,_,_,_,_,_,_,_,_,_=>none
 | k + 1,x3,Al,An,Ao,Aq,By,Di,Du,Ea,Fd,x463000,x463001,Ae=>if Aq=true then(some false)else(z4_.l3 k x3 Al An Ao Ae (Ae.length:Int) 0 By Di Du Ea Fd)
def z4_.l3:Nat→List Int→List (S33)→Int→Int→List Int→Int→Int→List (S63)→Int→ByteArray→List Int→List (S33)→Option (Bool)
 | 0,_,_,_,_,_,_,_,_,_,_,_,_=>none
 | k + 1,x3,Ao,Aq,By,Al,Di,Ae,An,Du,Ea,Fd,Ff=>if Ae < Di then(if 0≤Ae then(if Ae < (Al.length:Int)then((impl_in.f (rd Al Ae) 0 (wrap64 ((An.length:Int) - 1))).bind fun Fj=>(if Fj=true then(if 0≤(rd Al Ae)then(if(rd Al Ae) < (x3.length:Int)then(z4_.l3 k (x3.set ((rd Al Ae):Int).toNat (wrap64 ((rd x3 (rd Al Ae)) + 1))) Ao Aq By Al Di (wrap64 (Ae + 1)) An Du Ea Fd Ff)else(none))else(none))else(some false)))else(none))else(none))else(z4_.l2 k x3 Ao Aq (wrap64 (By + 1)) An Du Ea Fd Ff)
end
def z4_.f (k:Nat) (Ae:List (S63)) (Al:Int) (An:ByteArray) (Ao:List Int) (Aq:List (S33)):Option (Bool):=if 0≤(Ae.length:Int)then(if((Ae.length:Int):Int).toNat≤35184372088832 then(z4_.l0 k (List.replicate ((Ae.length:Int):Int).toNat 0) Ae (Ae.length:Int) 0 Ae Al An Ao Aq)else(none))else(none)
set_option maxHeartbeats 8000000 in
set_option maxRecDepth 100000 in
theorem z4_.calls (k:Nat) (Bx:Option Addr) (Bk:Nat) (Af:List (S63)) (Be:Int) (Bf:ByteArray) (Bl:Option Addr) (Bm:Nat) (Ba:List Int) (Bn:Option Addr) (Bo:Nat) (Bb:List (S33)) (r:Bool) (w:World) (Fa:Kd.C k63 w Bx Af.length Af) (Fb:Af.length≤Bk) (Fc:Kd.C (Kd.int .i64) w Bl Ba.length Ba) (Fd:Ba.length≤Bm) (Fe:Kd.C k33 w Bn Bb.length Bb) (Ff:Bb.length≤Bo) (h:z4_.f k Af Be Bf Ba Bb=some r) :
  Calls Try.prog 67 #[.agg #[.slice Bx Af.length Bk,.int .i64 Be,.string Bf,.slice Bl Ba.length Bm,.slice Bn Bb.length Bo]] w fun e w'=>e=.returned (.bool r)∧Below w.heap.size w w':=by
 have Tg:=Try.underlying36
 have Th:=Try.underlying63
 have Ti:=Try.underlying33
 have Fg:=y0.mk Fa
 have Hn:=y0.mk Fb
 clear Fa Fb
 have Ho:=y0.mk Fc
 have Hp:=y0.mk Fd
 clear Fc Fd
 have Hq:=y0.mk Fe
 have Hr:=y0.mk Ff
 clear Fe Ff
 have HB:=y0.mk (Below.refl w.heap.size w)
 have H:(if 0≤(Af.length:Int)then(if((Af.length:Int):Int).toNat≤35184372088832 then(z4_.l0 k (List.replicate ((Af.length:Int):Int).toNat 0) Af (Af.length:Int) 0 Af Be Bf Ba Bb)else(none))else(none))=some r:=h
 clear h
 obtain⟨c2,H⟩:=qo H
 have Oj:=eq_true c2
 have Ok:=decide_eq_true c2
 clear c2
 obtain⟨c3,H⟩:=qo H
 have Ol:=eq_true c3
 have Om:=decide_eq_true c3
 clear c3
 obtain⟨Hs,Ce⟩:∃ y_:List Int,y_=(List.replicate ((Af.length:Int):Int).toNat 0):=⟨_,rfl⟩
 replace H:(z4_.l0 k Hs Af (Af.length:Int) 0 Af Be Bf Ba Bb)=some r:=by first|exact Ce ▸ H|exact Ce ▸ (Option.bind_some _ _).symm.trans H
 replace Ce:=y0.mk Ce
 have H':=y0.mk H
 clear H
 go_enter Try.func67,Try.ntmps67
 go_wp2_with (first|((with_reducible refine y16 (N:=1) rfl ?_);(try(refine gate_guard (by rfl) ?_;dsimp only));refine qe 1 #[.slice Bx Af.length Bk,.int .i64 Be,.string Bf,.slice Bl Ba.length Bm,.slice Bn Bb.length Bo] 36 ?_;intro Ay hg w4 hbox hb;have Ah:=y0.mk (hbox);have Fi:=y0.mk (qg (w:=w) hg);have Qh:=y0.mk (qg (w:=w) hg);replace HB:=y0.mk (y4 qb hb);clear hb hbox hg;obtain⟨Fo,Fp,Fq,Fr,Fs,Ft,Fu,Fv,Fx,Fy⟩:=qz5 Ah.out)|((with_reducible refine y16 (N:=15) rfl ?_);(try(refine gate_guard (by rfl) ?_;dsimp only));refine Kd.R_make (Kd.int .i64) _ 3 rfl (N:=15) rfl 23 _ _ rfl (Af.length:Int) rfl rfl Try.underlying23 (.int .i64 0) 8 info3 rfl (by decide) (by omega) 0 (ok:=fun _=>True) (okp:=fun _=>True) rfl (fun _ hk=>hk) trivial (of_decide_eq_true qy0) (Nat.le_trans (Nat.mul_le_mul_right _ (of_decide_eq_true qy0:(Af.length:Int).toNat≤35184372088832)) (by omega)) (Below.refl _ _) (Nat.le_refl _) ?_;intro Bh w6 Ht hb hg_ hnew_;clear hg_ hnew_;(first|rw [← Ce.out]at Ht|(simp only [Int.reduceToNat]at Ht;rw [← Ce.out]at Ht));have Hu:=y0.mk (Kd.R_lower Ht (y3 qb));replace Ah:=y0.mk (qK Ah.out hb);replace HB:=y0.mk (y4 qb hb);clear hb Ht;obtain⟨Fz,Ga,Gb,Gc,Gd,Ge,Gf,Gg,Gh,Gi⟩:=qz5 Ah.out))
 go_loopg [19] k (fun kq Tj w'=>∃(Di:List Int) (Ad:Int),Tj=.int .i64 Ad∧y0 (z4_.l0 kq Di Af (Af.length:Int) Ad Af Be Bf Ba Bb=some r)∧y0 (kq≤k)∧y0 (Kd.R (Kd.int .i64) 3 w' w.heap.size (fun _=>True) Bh Di)∧y0 (w'.heap[Ay]?=some (.cells #[(.slice Bx Af.length Bk),.int .i64 Be,.string Bf,(.slice Bl Ba.length Bm),(.slice Bn Bb.length Bo)] 36 (0,0)))∧y0 (Below w.heap.size w w'))
 case atStart=>exact⟨(Hs),(0),qy2,H',⟨Nat.le_refl _⟩,⟨qR Hu.out⟩,⟨qk Ah.out⟩,⟨qb⟩⟩
 case round =>
  clear H'
  (try clear Oj Ok Ol Om Fo Fp Fq Fr Fs Fz Ga Gb Gc Gd Ft Fu Fv Fx Fy Ge Gf Gg Gh Gi)
  obtain⟨Di,Ad,rfl,HA,Bz,Am,Ah,HB⟩:=hrel
  cases gk with
  | zero=>exact absurd HA.out (by simp [z4_.l0])
  | succ k1 =>
   have H:=HA.out
   clear HA
   simp only [z4_.l0]at H
   by_cases c9:Ad < (Af.length:Int)
   ·as_aux_lemma =>
    rw [if_pos c9]at H
    have Gj:=decide_eq_true c9
    clear c9
    obtain⟨Qi,H⟩:=qo H
    have Hv:decide (0≤Ad)=true:=decide_eq_true Qi
    clear Qi
    obtain⟨Qj,H⟩:=qo H
    have Hw:decide (Ad < (Af.length:Int))=true:=decide_eq_true Qj
    clear Qj
    have H':=y0.mk H
    clear H
    have Dp:0≤(Ad:Int):=qd
    have Dq:Ad < (Af.length:Int):=qd
    obtain⟨Fj,Dj,Cj,On,Bp,Bq,Br,Cq,Cr⟩:=at_T63 Fg.out Ad Dp Dq
    cases On
    replace Bp:=qC Bp HB
    replace Bq:=qC Bq HB
    replace Br:=qC Br HB
    have Cs:=y0.mk Cr
    have Kh:=y0.mk Cq
    clear Cr Cq
    replace Dp:=eq_true Dp
    replace Dq:=eq_true Dq
    go_wp2_with (first|((with_reducible refine y16 (N:=5) rfl ?_);(try(refine gate_guard (by rfl) ?_;dsimp only));refine qe 5 #[.int .i64 0,.string (⟨#[]⟩:ByteArray),.slice none 0 0] 63 ?_;intro Cf hg Tw hbox hb;replace Am:=y0.mk (Kd.R_below (qR Am.out) hb);have Az:=y0.mk (hbox);have Qk:=y0.mk (qg (w:=w) hg);have Ql:=y0.mk (qg (w:=w) hg);replace HB:=y0.mk (y4 qb hb);have As:=y0.mk (qn Ah.out hg);have Av:=y0.mk (qm Ah.out hg);replace Ah:=y0.mk (qK Ah.out hb);clear hb hbox hg;have Qm:=Av.out;have Qn:=As.out;obtain⟨Dr,Ds,Dt,Du,Dw,Dx⟩:=qz3 Az.out))
    go_loopg [27] k1 (fun kq Tk w'=>∃(Bc:List Int) (Ap:Int),Tk=.int .i64 Ap∧y0 (z4_.l1 kq Bc Ad Af (Af.length:Int) Ad ((y19 Af Ad).f2) (((y19 Af Ad).f2).length:Int) Ap Af Be Bf Ba Bb ((y19 Af Ad).f0) ((y19 Af Ad).f1) ((y19 Af Ad).f2)=some r)∧y0 (kq≤k1)∧y0 (Kd.R (Kd.int .i64) 3 w' w.heap.size (fun _=>True) Bh Bc)∧y0 (w'.heap[Ay]?=some (.cells #[(.slice (some Fj) Af.length Bk),.int .i64 Be,.string Bf,(.slice Bl Ba.length Bm),(.slice Bn Bb.length Bo)] 36 (0,0)))∧y0 (w'.heap[Cf]?=some (.cells #[.int .i64 ((y19 Af Ad).f0),.string ((y19 Af Ad).f1),(.slice Dj ((y19 Af Ad).f2).length Cj)] 63 (0,0)))∧y0 (Below w.heap.size w w'))
    case atStart=>exact⟨(Di),(0),qy2,H',⟨Nat.le_refl _⟩,⟨qR (Kd.R_mono (qfR Cf (Kd.R_types Am.out Az.out (by decide)) (.int .i64 ((y19 Af Ad).f0)) (.string ((y19 Af Ad).f1)) (.slice Dj ((y19 Af Ad).f2).length Cj)) (fun _ hk=>trivial))⟩,⟨by(with_reducible repeat(first|refine y9 ?_ _|refine y8 ?_|refine y5 ?_ _));refine y10 ?_ As.out _;refine y10 ?_ As.out _;refine y10 ?_ As.out _;(with_reducible repeat(first|refine y9 ?_ _|refine y8 ?_|refine y5 ?_ _));exact Ah.out⟩,⟨by(with_reducible repeat(first|refine y9 ?_ _|refine y8 ?_|refine y5 ?_ _));refine y11 (cs:=#[.int .i64 ((y19 Af Ad).f0),.string ((y19 Af Ad).f1),.slice none 0 0]) ?_ 2 _ rfl;refine y11 (cs:=#[.int .i64 ((y19 Af Ad).f0),.string (⟨#[]⟩:ByteArray),.slice none 0 0]) ?_ 1 _ rfl;refine y11 (cs:=#[.int .i64 0,.string (⟨#[]⟩:ByteArray),.slice none 0 0]) ?_ 0 _ rfl;(with_reducible repeat(first|refine y9 ?_ _|refine y8 ?_|refine y5 ?_ _));exact Az.out⟩,⟨qb⟩⟩
    case round =>
     clear H'
     (try clear Gj Hv Hw Dr Ds Dt Du Dw Dx Bp Bq Br Dp Dq)
     obtain⟨Bc,Ap,rfl,HA,Bw,Am,Ah,Az,HB⟩:=hrel
     cases gk with
     | zero=>exact absurd HA.out (by simp [z4_.l1])
     | succ k2 =>
      have H:=HA.out
      clear HA
      simp only [z4_.l1]at H
      by_cases Hi:Ap < (((y19 Af Ad).f2).length:Int)
      ·as_aux_lemma =>
       rw [if_pos Hi]at H
       have Hx:=decide_eq_true Hi
       clear Hi
       obtain⟨Qo,H⟩:=qo H
       have Qp:decide (0≤Ap)=true:=decide_eq_true Qo
       clear Qo
       obtain⟨Qq,H⟩:=qo H
       have Qr:decide (Ap < (((y19 Af Ad).f2).length:Int))=true:=decide_eq_true Qq
       clear Qq
       obtain⟨Oo,Qs,H⟩:=qB H
       by_cases Ki:Oo=true
       ·subst Ki
        replace H:=qT H
        obtain⟨Qt,H⟩:=qo H
        have Qu:decide (0≤(rd ((y19 Af Ad).f2) Ap))=true:=decide_eq_true Qt
        clear Qt
        obtain⟨Qv,H⟩:=qo H
        have Qw:decide ((rd ((y19 Af Ad).f2) Ap) < (Bc.length:Int))=true:=decide_eq_true Qv
        clear Qv
        obtain⟨Gk,Cg⟩:∃ y_:List Int,y_=(Bc.set ((rd ((y19 Af Ad).f2) Ap):Int).toNat (wrap64 ((rd Bc (rd ((y19 Af Ad).f2) Ap)) + 1))):=⟨_,rfl⟩
        replace H:(z4_.l1 k2 Gk Ad Af (Af.length:Int) Ad ((y19 Af Ad).f2) (((y19 Af Ad).f2).length:Int) (wrap64 (Ap + 1)) Af Be Bf Ba Bb ((y19 Af Ad).f0) ((y19 Af Ad).f1) ((y19 Af Ad).f2))=some r:=by first|exact Cg ▸ H|exact Cg ▸ (Option.bind_some _ _).symm.trans H
        replace Cg:=y0.mk Cg
        have H':=y0.mk H
        clear H
        have Ck:0≤(Ap:Int):=qd
        have Cl:Ap < (((y19 Af Ad).f2).length:Int):=qd
        obtain⟨Fk,Gl,Bd⟩:=Kd.at_int Cs.out Ap Ck Cl
        cases Gl
        replace Bd:=qC Bd HB
        replace Ck:=eq_true Ck
        replace Cl:=eq_true Cl
        go_wp2_with (first|((with_reducible refine y15 (f:=29) rfl ?_);refine y17 (some 34) rfl rfl Try.func29 (by kernel_rfl) rfl #[.int .i64 (rd ((y19 Af Ad).f2) Ap),.int .i64 0,.int .i64 (wrap64 (Ad - 1))] rfl qy1 ?_;(with_reducible refine(impl_in.calls (rd ((y19 Af Ad).f2) Ap) 0 (wrap64 (Ad - 1)) true _ Qs.out).mono ?_);rintro e w' ⟨rfl,⟨nd,rfl⟩⟩;refine⟨_,rfl, ?_⟩;(try(rw [drewN_self wr];have e1_:∀(n_:Nat) (a_:Addr),World.cell? wr a_=World.cell? (World.drewN wr n_) a_:=fun _ _=>rfl;have e2_:∀(n_:Nat) (a_:Addr),World.frozen? wr a_=World.frozen? (World.drewN wr n_) a_:=fun _ _=>rfl;generalize hq_:World.drewN wr _=wr;have e3_:=(fun a_=>(e1_ _ a_).trans (congrArg (fun w_=>World.cell? w_ a_) hq_));have e4_:=(fun a_=>(e2_ _ a_).trans (congrArg (fun w_=>World.frozen? w_ a_) hq_));clear e1_ e2_;(try replace Bd:=(e3_ _).symm.trans Bd);skip;clear e3_ e4_;have n0_:y0 (Kd.R (Kd.int .i64) 3 wr w.heap.size (fun _=>True) Bh Bc):=⟨by rw [← hq_];exact(qR Am.out)⟩;have n1_:y0 (wr.heap[Ay]?=some (.cells #[.slice (some Fj) Af.length Bk,.int .i64 Be,.string Bf,.slice Bl Ba.length Bm,.slice Bn Bb.length Bo] 36 (0,0))):=⟨by rw [← hq_];exact(qk Ah.out)⟩;have n2_:y0 (wr.heap[Cf]?=some (.cells #[.int .i64 ((y19 Af Ad).f0),.string ((y19 Af Ad).f1),.slice (some Fk) ((y19 Af Ad).f2).length Cj] 63 (0,0))):=⟨by rw [← hq_];exact(qk Az.out)⟩;have n3_:y0 (Below w.heap.size w wr):=⟨by rw [← hq_];exact qb⟩;clear Am Ah Az HB hq_;have Am:=n0_;have Ah:=n1_;have Az:=n2_;have HB:=n3_;clear n0_ n1_ n2_ n3_));obtain⟨Tl,Oq,Ot⟩:=Kd.R_slice Am.out;subst Ot;have Gm:0≤((rd ((y19 Af Ad).f2) Ap):Int):=qd;have Gn:(rd ((y19 Af Ad).f2) Ap) < (Bc.length:Int):=qd;obtain⟨Qx,Ou,Dy⟩:=Kd.at_int (Kd.R_reads' Am.out).2.2 (rd ((y19 Af Ad).f2) Ap) Gm Gn;cases Ou;replace Gm:=eq_true Gm;replace Gn:=eq_true Gn;have Ov:0≤((rd ((y19 Af Ad).f2) Ap):Int):=qd;have Ow:((rd ((y19 Af Ad).f2) Ap):Int) < ((Bc.length:Int):Int):=qd;obtain⟨Gp,Tm,Hz,Ia,Ox,Tn,Ib⟩:=Kd.R_form Am.out (by omega);(first|cases Hz|(injection Hz with ea_ en_ ec_;(first|subst ea_|(injection ea_ with ea_;subst ea_));subst ec_;clear en_));have Oy:=y0.mk Ia;have To:=y0.mk Ib;clear Ia Ox Ib;(first|simp only [add_plain]at Dy|skip);obtain⟨Oz,Pa⟩:=Kd.R_celln 0 Am.out ((rd ((y19 Af Ad).f2) Ap):Int) Ov Ow;replace Ov:=eq_true Ov;replace Ow:=eq_true Ow;obtain⟨hy24_,hz24_⟩:=Kd.R_celln 0 Am.out ((rd ((y19 Af Ad).f2) Ap):Int) (of_decide_eq_true qy0) (of_decide_eq_true qy0);have Gq:=Kd.R_putg Am.out ((rd ((y19 Af Ad).f2) Ap):Int) (wrap64 ((rd Bc (rd ((y19 Af Ad).f2) Ap)) + 1)))|((with_reducible refine gate_store (t:=3) (p:=41) rfl ?_);refine store_event (t:=3) (p:=41) (v:=?vo_w25) (w1:=(wr.setCell ⟨Gp,((rd ((y19 Af Ad).f2) Ap):Int).toNat,none⟩ (.int .i64 (wrap64 ((rd Bc (rd ((y19 Af Ad).f2) Ap)) + 1))))) ?hg ?ho ?hn ?hr ?_;(case ho=>rfl);(case hg=>rfl);(case hn=>rfl);(case hr=>first|(go_simp;done)|(go_simp;rfl));intro Pb hw;have hg:wr.grownBy Pb (some Gp):=(by rw [hw];exact Gq.2);have hp_:Kd.R (Kd.int .i64) 3 Pb w.heap.size (fun _=>True) (.slice (some ⟨Gp,0,none⟩) Bc.length Oq) Gk:=(by rw [hw,Cg.out];exact Gq.1);clear Gq;replace Ah:=y0.mk (blk_grown (qk Ah.out) hg (Kd.R_ne Am.out Ah.out (by decide)));replace Az:=y0.mk (blk_grown (qk Az.out) hg (Kd.R_ne Am.out Az.out (by decide)));replace Am:=y0.mk (hp_);replace HB:=y0.mk ((by rw [hw];exact below_set (HB.out) Oy.out:Below w.heap.size w Pb));clear hg hw hp_))
        go_roundg k2
        case measure=>have:=Bz.out;have:=Bw.out;omega
        exact⟨(Gk),(wrap64 (Ap + 1)),qy2,H',⟨by have:=Bz.out;have:=Bw.out;omega⟩,⟨qR Am.out⟩,⟨qk Ah.out⟩,⟨qk Az.out⟩,⟨qb⟩⟩
       ·replace Ki:=Bool.eq_false_iff.mpr Ki
        subst Ki
        replace H:=qF H
        obtain rfl:=Option.some.inj H
        have Ck:0≤(Ap:Int):=qd
        have Cl:Ap < (((y19 Af Ad).f2).length:Int):=qd
        obtain⟨Fk,Gl,Bd⟩:=Kd.at_int Cs.out Ap Ck Cl
        cases Gl
        replace Bd:=qC Bd HB
        replace Ck:=eq_true Ck
        replace Cl:=eq_true Cl
        go_wp2_with (first|((with_reducible refine y15 (f:=29) rfl ?_);refine y17 (some 34) rfl rfl Try.func29 (by kernel_rfl) rfl #[.int .i64 (rd ((y19 Af Ad).f2) Ap),.int .i64 0,.int .i64 (wrap64 (Ad - 1))] rfl qy1 ?_;(with_reducible refine(impl_in.calls (rd ((y19 Af Ad).f2) Ap) 0 (wrap64 (Ad - 1)) false _ Qs.out).mono ?_);rintro e w' ⟨rfl,⟨nd,rfl⟩⟩;refine⟨_,rfl, ?_⟩))
        go_ret
        exact⟨qf,qb⟩
      ·as_aux_lemma =>
       rw [if_neg Hi]at H
       have Hx:=decide_eq_false Hi
       clear Hi
       obtain⟨Pc,Fl,H⟩:=qB H
       by_cases Kj:Pc=true
       ·subst Kj
        replace H:=qT H
        obtain⟨Pd,Gr,H⟩:=qB H
        by_cases Kk:Pd=true
        ·subst Kk
         replace H:=qT H
         by_cases Gs:(((y19 Af Ad).f2).length:Int)=2
         ·as_aux_lemma =>
          rw [if_pos Gs]at H
          have Ic:((((y19 Af Ad).f2).length:Int) == 2)=true:=beq_iff_eq.mpr Gs
          have Id:((((y19 Af Ad).f2).length:Int) != 2)=false:=bne_eq_false_iff_eq.mpr Gs
          clear Gs
          obtain⟨Pe,Pf,H⟩:=qB H
          by_cases Kl:Pe=true
          ·subst Kl
           replace H:=qT H
           by_cases Hj:(((y19 Af Ad).f2).length:Int) > 0
           ·as_aux_lemma =>
            rw [if_pos Hj]at H
            have Ie:decide (0 < (((y19 Af Ad).f2).length:Int))=true:=decide_eq_true Hj
            have If:decide (0 < ((y19 Af Ad).f2).length)=true:=decide_eq_true (by omega)
            clear Hj
            obtain rfl:=Option.some.inj H
            have Qy:=Av.out
            have Qz:=As.out
            obtain⟨Km,Kn,Ko,Kp,Kq,Kr⟩:=qz3 Az.out
            go_wp2_with (first|((with_reducible refine y15 (f:=29) rfl ?_);refine y17 (some 45) rfl rfl Try.func29 (by kernel_rfl) rfl #[.int .i64 ((y19 Af Ad).f0),.int .i64 1,.int .i64 7] rfl qy1 ?_;(with_reducible refine(impl_in.calls ((y19 Af Ad).f0) 1 7 true _ Fl.out).mono ?_);rintro e w' ⟨rfl,⟨nd,rfl⟩⟩;refine⟨_,rfl, ?_⟩)|(go_at_call 65;(with_reducible refine(impl_isSum.calls ((y19 Af Ad).f0) true _ Gr.out).mono ?_);rintro e w' ⟨rfl,⟨nd,rfl⟩⟩)|(go_at_call 29;(with_reducible refine(impl_in.calls ((y19 Af Ad).f0) 1 3 true _ Pf.out).mono ?_);rintro e w' ⟨rfl,⟨nd,rfl⟩⟩))
            go_ret
            exact⟨qf,qb⟩
           ·as_aux_lemma =>
            rw [if_neg Hj]at H
            have Ie:decide (0 < (((y19 Af Ad).f2).length:Int))=false:=decide_eq_false Hj
            have If:decide (0 < ((y19 Af Ad).f2).length)=false:=decide_eq_false (by omega)
            clear Hj
            have H':=y0.mk H
            clear H
            have Ra:=Av.out
            have Rb:=As.out
            obtain⟨Ks,Kt,Ku,Kv,Kw,Kx⟩:=qz3 Az.out
            go_wp2_with (first|((with_reducible refine y15 (f:=29) rfl ?_);refine y17 (some 45) rfl rfl Try.func29 (by kernel_rfl) rfl #[.int .i64 ((y19 Af Ad).f0),.int .i64 1,.int .i64 7] rfl qy1 ?_;(with_reducible refine(impl_in.calls ((y19 Af Ad).f0) 1 7 true _ Fl.out).mono ?_);rintro e w' ⟨rfl,⟨nd,rfl⟩⟩;refine⟨_,rfl, ?_⟩)|(go_at_call 65;(with_reducible refine(impl_isSum.calls ((y19 Af Ad).f0) true _ Gr.out).mono ?_);rintro e w' ⟨rfl,⟨nd,rfl⟩⟩)|(go_at_call 29;(with_reducible refine(impl_in.calls ((y19 Af Ad).f0) 1 3 true _ Pf.out).mono ?_);rintro e w' ⟨rfl,⟨nd,rfl⟩⟩))
            go_roundg k2
            case measure=>have:=Bz.out;have:=Bw.out;omega
            exact⟨(Bc),(wrap64 (Ad + 1)),qy2,H',⟨by have:=Bz.out;have:=Bw.out;omega⟩,⟨qR Am.out⟩,⟨qk Ah.out⟩,⟨qb⟩⟩
          ·replace Kl:=Bool.eq_false_iff.mpr Kl
           subst Kl
           replace H:=qF H
           have H':=y0.mk H
           clear H
           have Rc:=Av.out
           have Rf:=As.out
           obtain⟨Ky,Kz,La,Lb,Lc,Ld⟩:=qz3 Az.out
           go_wp2_with (first|((with_reducible refine y15 (f:=29) rfl ?_);refine y17 (some 45) rfl rfl Try.func29 (by kernel_rfl) rfl #[.int .i64 ((y19 Af Ad).f0),.int .i64 1,.int .i64 7] rfl qy1 ?_;(with_reducible refine(impl_in.calls ((y19 Af Ad).f0) 1 7 true _ Fl.out).mono ?_);rintro e w' ⟨rfl,⟨nd,rfl⟩⟩;refine⟨_,rfl, ?_⟩)|(go_at_call 65;(with_reducible refine(impl_isSum.calls ((y19 Af Ad).f0) true _ Gr.out).mono ?_);rintro e w' ⟨rfl,⟨nd,rfl⟩⟩)|(go_at_call 29;(with_reducible refine(impl_in.calls ((y19 Af Ad).f0) 1 3 false _ Pf.out).mono ?_);rintro e w' ⟨rfl,⟨nd,rfl⟩⟩))
           go_roundg k2
           case measure=>have:=Bz.out;have:=Bw.out;omega
           exact⟨(Bc),(wrap64 (Ad + 1)),qy2,H',⟨by have:=Bz.out;have:=Bw.out;omega⟩,⟨qR Am.out⟩,⟨qk Ah.out⟩,⟨qb⟩⟩
         ·as_aux_lemma =>
          rw [if_neg Gs]at H
          have Ic:((((y19 Af Ad).f2).length:Int) == 2)=false:=beq_eq_false_iff_ne.mpr Gs
          have Id:((((y19 Af Ad).f2).length:Int) != 2)=true:=bne_iff_ne.mpr Gs
          obtain rfl:=Option.some.inj H
          have Rg:=Av.out
          have Rh:=As.out
          obtain⟨Le,Lf,Lg,Lh,Li,Lj⟩:=qz3 Az.out
          go_wp2_with (first|((with_reducible refine y15 (f:=29) rfl ?_);refine y17 (some 45) rfl rfl Try.func29 (by kernel_rfl) rfl #[.int .i64 ((y19 Af Ad).f0),.int .i64 1,.int .i64 7] rfl qy1 ?_;(with_reducible refine(impl_in.calls ((y19 Af Ad).f0) 1 7 true _ Fl.out).mono ?_);rintro e w' ⟨rfl,⟨nd,rfl⟩⟩;refine⟨_,rfl, ?_⟩)|(go_at_call 65;(with_reducible refine(impl_isSum.calls ((y19 Af Ad).f0) true _ Gr.out).mono ?_);rintro e w' ⟨rfl,⟨nd,rfl⟩⟩))
          go_ret
          exact⟨qf,qb⟩
        ·replace Kk:=Bool.eq_false_iff.mpr Kk
         subst Kk
         replace H:=qF H
         obtain⟨Pg,Ph,H⟩:=qB H
         by_cases Lk:Pg=true
         ·subst Lk
          replace H:=qT H
          by_cases Hk:(((y19 Af Ad).f2).length:Int) > 0
          ·as_aux_lemma =>
           rw [if_pos Hk]at H
           have Ig:decide (0 < (((y19 Af Ad).f2).length:Int))=true:=decide_eq_true Hk
           have Ih:decide (0 < ((y19 Af Ad).f2).length)=true:=decide_eq_true (by omega)
           clear Hk
           obtain rfl:=Option.some.inj H
           have Ri:=Av.out
           have Rj:=As.out
           obtain⟨Ll,Lm,Ln,Lo,Lp,Lq⟩:=qz3 Az.out
           go_wp2_with (first|((with_reducible refine y15 (f:=29) rfl ?_);refine y17 (some 45) rfl rfl Try.func29 (by kernel_rfl) rfl #[.int .i64 ((y19 Af Ad).f0),.int .i64 1,.int .i64 7] rfl qy1 ?_;(with_reducible refine(impl_in.calls ((y19 Af Ad).f0) 1 7 true _ Fl.out).mono ?_);rintro e w' ⟨rfl,⟨nd,rfl⟩⟩;refine⟨_,rfl, ?_⟩)|(go_at_call 65;(with_reducible refine(impl_isSum.calls ((y19 Af Ad).f0) false _ Gr.out).mono ?_);rintro e w' ⟨rfl,⟨nd,rfl⟩⟩)|(go_at_call 29;(with_reducible refine(impl_in.calls ((y19 Af Ad).f0) 1 3 true _ Ph.out).mono ?_);rintro e w' ⟨rfl,⟨nd,rfl⟩⟩))
           go_ret
           exact⟨qf,qb⟩
          ·as_aux_lemma =>
           rw [if_neg Hk]at H
           have Ig:decide (0 < (((y19 Af Ad).f2).length:Int))=false:=decide_eq_false Hk
           have Ih:decide (0 < ((y19 Af Ad).f2).length)=false:=decide_eq_false (by omega)
           clear Hk
           have H':=y0.mk H
           clear H
           have Rl:=Av.out
           have Rn:=As.out
           obtain⟨Lr,Ls,Lt,Lu,Lv,Lw⟩:=qz3 Az.out
           go_wp2_with (first|((with_reducible refine y15 (f:=29) rfl ?_);refine y17 (some 45) rfl rfl Try.func29 (by kernel_rfl) rfl #[.int .i64 ((y19 Af Ad).f0),.int .i64 1,.int .i64 7] rfl qy1 ?_;(with_reducible refine(impl_in.calls ((y19 Af Ad).f0) 1 7 true _ Fl.out).mono ?_);rintro e w' ⟨rfl,⟨nd,rfl⟩⟩;refine⟨_,rfl, ?_⟩)|(go_at_call 65;(with_reducible refine(impl_isSum.calls ((y19 Af Ad).f0) false _ Gr.out).mono ?_);rintro e w' ⟨rfl,⟨nd,rfl⟩⟩)|(go_at_call 29;(with_reducible refine(impl_in.calls ((y19 Af Ad).f0) 1 3 true _ Ph.out).mono ?_);rintro e w' ⟨rfl,⟨nd,rfl⟩⟩))
           go_roundg k2
           case measure=>have:=Bz.out;have:=Bw.out;omega
           exact⟨(Bc),(wrap64 (Ad + 1)),qy2,H',⟨by have:=Bz.out;have:=Bw.out;omega⟩,⟨qR Am.out⟩,⟨qk Ah.out⟩,⟨qb⟩⟩
         ·replace Lk:=Bool.eq_false_iff.mpr Lk
          subst Lk
          replace H:=qF H
          have H':=y0.mk H
          clear H
          have Ro:=Av.out
          have Rp:=As.out
          obtain⟨Lx,Ly,Lz,Ma,Mb,Mc⟩:=qz3 Az.out
          go_wp2_with (first|((with_reducible refine y15 (f:=29) rfl ?_);refine y17 (some 45) rfl rfl Try.func29 (by kernel_rfl) rfl #[.int .i64 ((y19 Af Ad).f0),.int .i64 1,.int .i64 7] rfl qy1 ?_;(with_reducible refine(impl_in.calls ((y19 Af Ad).f0) 1 7 true _ Fl.out).mono ?_);rintro e w' ⟨rfl,⟨nd,rfl⟩⟩;refine⟨_,rfl, ?_⟩)|(go_at_call 65;(with_reducible refine(impl_isSum.calls ((y19 Af Ad).f0) false _ Gr.out).mono ?_);rintro e w' ⟨rfl,⟨nd,rfl⟩⟩)|(go_at_call 29;(with_reducible refine(impl_in.calls ((y19 Af Ad).f0) 1 3 false _ Ph.out).mono ?_);rintro e w' ⟨rfl,⟨nd,rfl⟩⟩))
          go_roundg k2
          case measure=>have:=Bz.out;have:=Bw.out;omega
          exact⟨(Bc),(wrap64 (Ad + 1)),qy2,H',⟨by have:=Bz.out;have:=Bw.out;omega⟩,⟨qR Am.out⟩,⟨qk Ah.out⟩,⟨qb⟩⟩
       ·replace Kj:=Bool.eq_false_iff.mpr Kj
        subst Kj
        replace H:=qF H
        obtain rfl:=Option.some.inj H
        have Rq:=Av.out
        have Rs:=As.out
        obtain⟨Md,Me,Mf,Mg,Mh,Mi⟩:=qz3 Az.out
        go_wp2_with (first|((with_reducible refine y15 (f:=29) rfl ?_);refine y17 (some 45) rfl rfl Try.func29 (by kernel_rfl) rfl #[.int .i64 ((y19 Af Ad).f0),.int .i64 1,.int .i64 7] rfl qy1 ?_;(with_reducible refine(impl_in.calls ((y19 Af Ad).f0) 1 7 false _ Fl.out).mono ?_);rintro e w' ⟨rfl,⟨nd,rfl⟩⟩;refine⟨_,rfl, ?_⟩))
        go_ret
        exact⟨qf,qb⟩
   ·as_aux_lemma =>
    rw [if_neg c9]at H
    have Gj:=decide_eq_false c9
    clear c9
    obtain⟨Ab,Tp,H⟩:=qB H
    have H':=y0.mk H
    clear H
    obtain⟨Dz,Ea,Eb,Ec,Ed,Ee,Ef,Eg,Eh,Ei⟩:=qz5 Ah.out
    go_wp2_with (first|((with_reducible refine y15 (f:=80) rfl ?_);refine y17 (some 71) rfl rfl Try.func80 (by kernel_rfl) rfl #[.agg #[.slice Bx Af.length Bk,.int .i64 Be,.string Bf,.slice Bl Ba.length Bm,.slice Bn Bb.length Bo]] rfl qy1 ?_;(with_reducible refine(impl_Rule_lits.calls _ _ Af Be Bf (fun k_=>k_ < w.heap.size) _ _ Ba (fun k_=>k_ < w.heap.size) _ _ Bb Ab _ (qc (Kd.C_below Fg.out HB.out)) Hn.out (by exact Kd.V_mk Hp.out (Kd.F_below (Kd.C_F (Kd.heap_int .i64) Ho.out) qb)) (by exact Kd.V_mk Hr.out (Kd.F_below (Kd.C_F k33_heap Hq.out) qb)) Tp.out).mono ?_);rintro e Tx ⟨Tq,rfl,Rt,hb⟩;refine⟨_,rfl, ?_⟩;have Fm:=y0.mk (Kd.N_lower (Kd.N_mono (ok':=fun k_=>some k_≠(Bh:Value).ownBlock∧k_≠Ay) Rt (fun k_ hk_=>⟨Or.elim hk_ (fun hs_=>Or.elim hs_ (fun hs_=>fun e_=>Nat.not_le.2 hs_ (Kd.R_base Am.out k_ e_.symm)) (fun hs_=>fun e_=>Nat.not_le.2 hs_ (Kd.R_base Am.out k_ e_.symm))) (fun hn_=>(Kd.fresh' (Kd.R_lt (qR Am.out)) k_ hn_)),Or.elim hk_ (fun hs_=>Or.elim hs_ (fun hs_=>fun e_=>Nat.not_le.2 hs_ (by rw [e_];exact Fi.out)) (fun hs_=>fun e_=>Nat.not_le.2 hs_ (by rw [e_];exact Fi.out))) (fun hn_=>(Kd.freshB (g:=Ay) (o:=.cells #[.slice Bx Af.length Bk,.int .i64 Be,.string Bf,.slice Bl Ba.length Bm,.slice Bn Bb.length Bo] 36 (0,0)) (qk Ah.out) k_ hn_))⟩)) (y3 qb));replace Am:=y0.mk (Kd.R_below (qR Am.out) hb);replace Ah:=y0.mk (qK Ah.out hb);replace HB:=y0.mk (y4 qb hb);(try clear hb);(try clear Rt);obtain⟨Pj,Bv,Pk⟩:=Kd.N_slice Fm.out;subst Pk))
    go_loopg [73] k1 (fun kq Tr w'=>∃(Bc:List Int) (Aa:Int),Tr=.int .i64 Aa∧y0 (z4_.l2 kq Bc Ab (Ab.length:Int) Aa Af Be Bf Ba Bb=some r)∧y0 (kq≤k1)∧y0 (Kd.R (Kd.int .i64) 3 w' w.heap.size (fun _=>True) Bh Bc)∧y0 (Kd.N k33 33 w' w.heap.size (fun k_=>some k_≠(Bh:Value).ownBlock∧k_≠Ay) (.slice Pj Ab.length Bv) Ab)∧y0 (w'.heap[Ay]?=some (.cells #[(.slice Bx Af.length Bk),.int .i64 Be,.string Bf,(.slice Bl Ba.length Bm),(.slice Bn Bb.length Bo)] 36 (0,0)))∧y0 (Below w.heap.size w w'))
    case atStart=>exact⟨(Di),(0),qy2,H',⟨Nat.le_refl _⟩,⟨qR Am.out⟩,⟨qN Fm.out⟩,⟨qk Ah.out⟩,⟨qb⟩⟩
    case round =>
     clear H'
     (try clear Gj Dz Ea Eb Ec Ed Ee Ef Eg Eh Ei)
     obtain⟨Bc,Aa,rfl,HA,Bw,Am,Ax,Ah,HB⟩:=hrel
     cases gk with
     | zero=>exact absurd HA.out (by simp [z4_.l2])
     | succ k2 =>
      have H:=HA.out
      clear HA
      simp only [z4_.l2]at H
      by_cases Hl:Aa < (Ab.length:Int)
      ·as_aux_lemma =>
       rw [if_pos Hl]at H
       have Fn:=decide_eq_true Hl
       clear Hl
       obtain⟨Ru,H⟩:=qo H
       have Ii:decide (0≤Aa)=true:=decide_eq_true Ru
       clear Ru
       obtain⟨Rv,H⟩:=qo H
       have Ij:decide (Aa < (Ab.length:Int))=true:=decide_eq_true Rv
       clear Rv
       have Gt:=y0.mk H
       clear H
       have Dk:0≤(Aa:Int):=qd
       have Dl:Aa < (Ab.length:Int):=qd
       obtain⟨Bj,Aj,Ai,Pm,Ej,Ek,Ct,Cu,Cv⟩:=at_T33 (Kd.N_reads' Ax.out).2.2 Aa Dk Dl
       cases Pm
       obtain⟨Rw,Gu,Gv,Dm⟩:=Kd.N_get Ax.out z33 Aa Dk (by first|exact Dl|exact of_decide_eq_true qy0|(have e_:=(Kd.N_reads' Ax.out).1;omega))
       obtain⟨Mj,Ml,rfl,Ca,Cb⟩:=k33_openF Gv
       have Bs:=Dm 2 _ rfl
       rw [add_field _ _ 2 (by omega)]at Bs
       replace Bs:=Option.some.inj (Bs.symm.trans Ct)
       injection Bs with hva_ hvn_ hvc_
       rw [hva_]at Cb
       rw [hvc_]at Ca
       have At:=y0.mk (show Kd.V (Kd.int .i64) 3 _ w.heap.size _ _ ((y18 Ab Aa).f2)from Kd.V_mk Ca Cb)
       clear hva_ hvn_ hvc_ Cb Ca
       clear Dm Gu
       have Bt:=y0.mk Cv
       have Mm:=y0.mk Cu
       clear Cv Cu
       replace Dk:=eq_true Dk
       replace Dl:=eq_true Dl
       go_upto_region 18 with(first|((with_reducible refine y16 (N:=9) rfl ?_);(try(refine gate_guard (by rfl) ?_;dsimp only));refine qe 9 #[.int .i64 0,.string (⟨#[]⟩:ByteArray),.slice none 0 0] 33 ?_;intro Ac hg Ty hbox hb;replace Am:=y0.mk (Kd.R_below (qR Am.out) hb);replace Ax:=y0.mk (Kd.N_below (Kd.N_elderB (qN Ax.out) Ac (Nat.le_of_eq hg.symm)) hb);replace At:=y0.mk (Kd.V_below (Kd.V_elderB (qV At.out) Ac (Nat.le_of_eq hg.symm)) hb);replace Bt:=y0.mk (Kd.C_below (by repeat(first|(with_reducible exact Bt.out)|(with_reducible refine Kd.C_alloc ?_ _)|(with_reducible refine Kd.C_drewN ?_ _)|(with_reducible refine Kd.C_drew ?_)|exact Bt.out)) hb);have Ar:=y0.mk (hbox);have Rx:=y0.mk (qg (w:=w) hg);have Ry:=y0.mk (qg (w:=w) hg);replace HB:=y0.mk (y4 qb hb);have Ag:=y0.mk (qn Ah.out hg);have Au:=y0.mk (qm Ah.out hg);replace Ah:=y0.mk (qK Ah.out hb);clear hb hbox hg;have Rz:=Au.out;have Sa:=Ag.out;obtain⟨El,Em,En,Eo,Ep,Eq⟩:=qz3 Ar.out))
       (try simp only [Act.put,qS_,qZ_,qC_])
       go_cut [101] (fun Pn wc=>∃(kq:Nat) (Bu:Bool),Pn=.bool Bu∧y0 (z4_.j3 kq Bc Ab (Ab.length:Int) Aa Bu Af Be Bf Ba Bb ((y18 Ab Aa).f0) ((y18 Ab Aa).f1) ((y18 Ab Aa).f2)=some r)∧y0 (kq≤k2)∧y0 (Kd.R (Kd.int .i64) 3 wc w.heap.size (fun _=>True) Bh Bc)∧y0 (Kd.N k33 33 wc w.heap.size (fun k_=>some k_≠(Bh:Value).ownBlock∧k_≠Ay∧k_≠Ac) (.slice (some Bj) Ab.length Bv) Ab)∧y0 (Kd.V (Kd.int .i64) 3 wc w.heap.size (fun k_=>some k_≠(Bh:Value).ownBlock∧some k_≠((.slice (some Bj) Ab.length Bv):Value).ownBlock∧k_≠Ay∧k_≠Ac) (.slice Aj ((y18 Ab Aa).f2).length Ai) ((y18 Ab Aa).f2))∧y0 (wc.heap[Ay]?=some (.cells #[(.slice Bx Af.length Bk),.int .i64 Be,.string Bf,(.slice Bl Ba.length Bm),(.slice Bn Bb.length Bo)] 36 (0,0)))∧y0 (wc.heap[Ac]?=some (.cells #[.int .i64 ((y18 Ab Aa).f0),.string ((y18 Ab Aa).f1),(.slice Aj ((y18 Ab Aa).f2).length Ai)] 33 (0,0)))∧y0 (Kd.C (Kd.int .i64) wc Aj ((y18 Ab Aa).f2).length ((y18 Ab Aa).f2))∧y0 (Below w.heap.size w wc))
       case first =>
        have H:=Gt.out
        clear Gt
        by_cases Gw:Aa=0
        ·as_aux_lemma =>
         rw [if_pos Gw]at H
         have Ch:(Aa == 0)=true:=beq_iff_eq.mpr Gw
         have Ik:(Aa != 0)=false:=bne_eq_false_iff_eq.mpr Gw
         clear Gw
         (first|rw [Ch]|(simp only [i64_w,i32_w];rw [Ch])|skip)
         by_cases Gx:((y18 Ab Aa).f0)=1
         ·as_aux_lemma =>
          rw [if_pos Gx]at H
          have Il:(((y18 Ab Aa).f0) == 1)=true:=beq_iff_eq.mpr Gx
          have Im:(((y18 Ab Aa).f0) != 1)=false:=bne_eq_false_iff_eq.mpr Gx
          clear Gx
          obtain⟨Po,Pp,H⟩:=qB H
          by_cases Mn:Po=true
          ·subst Mn
           replace H:=qT H
           by_cases Gz:((y18 Ab Aa).f0)=3
           ·as_aux_lemma =>
            rw [if_pos Gz]at H
            have Io:(((y18 Ab Aa).f0) == 3)=true:=beq_iff_eq.mpr Gz
            have Ip:(((y18 Ab Aa).f0) != 3)=false:=bne_eq_false_iff_eq.mpr Gz
            clear Gz
            have H':=y0.mk H
            clear H
            have Sb:=Au.out
            have Sc:=Ag.out
            obtain⟨Mo,Mp,Mq,Mr,Ms,Mt⟩:=qz3 Ar.out
            go_wp2_with (first|(go_at_call 29;(with_reducible refine(impl_in.calls ((y18 Ab Aa).f0) 1 3 true _ Pp.out).mono ?_);rintro e w' ⟨rfl,⟨nd,rfl⟩⟩))
            go_meet
            exact⟨_,(((((y18 Ab Aa).f2).length:Int) != 2)),qy2,H',⟨by have:=Bz.out;have:=Bw.out;first|omega|exact Nat.le_refl _⟩,⟨qR (Kd.R_mono (qfR Ac (Kd.R_types Am.out Ar.out (by decide)) (.int .i64 ((y18 Ab Aa).f0)) (.string ((y18 Ab Aa).f1)) (.slice Aj ((y18 Ab Aa).f2).length Ai)) (fun _ hk=>trivial))⟩,⟨qN (Kd.N_mono (Kd.N_far (p:=⟨Ac,2,none⟩) (Kd.N_far (p:=⟨Ac,1,none⟩) (Kd.N_far (p:=⟨Ac,0,none⟩) (Kd.N_mono Ax.out (fun k_ hk=>(⟨hk,hk.2⟩:_∧k_≠Ac))) (fun _ hk=>hk.2) (.int .i64 ((y18 Ab Aa).f0))) (fun _ hk=>hk.2) (.string ((y18 Ab Aa).f1))) (fun _ hk=>hk.2) (.slice Aj ((y18 Ab Aa).f2).length Ai)) (fun _ hk=>⟨hk.1.1.1,⟨hk.1.1.2,hk.1.2⟩⟩))⟩,⟨qV (Kd.V_mono (qfV Ac (Kd.V_mono At.out (fun k_ hk=>(⟨hk,hk.2⟩:_∧k_≠Ac))) (.int .i64 ((y18 Ab Aa).f0)) (.string ((y18 Ab Aa).f1)) (.slice Aj ((y18 Ab Aa).f2).length Ai)) (fun _ hk=>⟨hk.1.1.1.1,⟨hk.1.1.2,⟨hk.1.1.1.2,hk.1.2⟩⟩⟩))⟩,⟨by(with_reducible repeat(first|refine y9 ?_ _|refine y8 ?_|refine y5 ?_ _));refine y10 ?_ Ag.out _;refine y10 ?_ Ag.out _;refine y10 ?_ Ag.out _;(with_reducible repeat(first|refine y9 ?_ _|refine y8 ?_|refine y5 ?_ _));exact Ah.out⟩,⟨by(with_reducible repeat(first|refine y9 ?_ _|refine y8 ?_|refine y5 ?_ _));refine y11 (cs:=#[.int .i64 ((y18 Ab Aa).f0),.string ((y18 Ab Aa).f1),.slice none 0 0]) ?_ 2 _ rfl;refine y11 (cs:=#[.int .i64 ((y18 Ab Aa).f0),.string (⟨#[]⟩:ByteArray),.slice none 0 0]) ?_ 1 _ rfl;refine y11 (cs:=#[.int .i64 0,.string (⟨#[]⟩:ByteArray),.slice none 0 0]) ?_ 0 _ rfl;(with_reducible repeat(first|refine y9 ?_ _|refine y8 ?_|refine y5 ?_ _));exact Ar.out⟩,⟨(Kd.V_reads' (qV ((Kd.V_mono (qfV Ac (Kd.V_mono At.out (fun k_ hk=>(⟨hk,hk.2⟩:_∧k_≠Ac))) (.int .i64 ((y18 Ab Aa).f0)) (.string ((y18 Ab Aa).f1)) (.slice Aj ((y18 Ab Aa).f2).length Ai)) (fun _ h_=>h_.1))))).2.2⟩,⟨qb⟩⟩
           ·as_aux_lemma =>
            rw [if_neg Gz]at H
            have Io:(((y18 Ab Aa).f0) == 3)=false:=beq_eq_false_iff_ne.mpr Gz
            have Ip:(((y18 Ab Aa).f0) != 3)=true:=bne_iff_ne.mpr Gz
            have H':=y0.mk H
            clear H
            have Sd:=Au.out
            have Se:=Ag.out
            obtain⟨Mu,Mv,Mw,Mx,My,Mz⟩:=qz3 Ar.out
            go_wp2_with (first|(go_at_call 29;(with_reducible refine(impl_in.calls ((y18 Ab Aa).f0) 1 3 true _ Pp.out).mono ?_);rintro e w' ⟨rfl,⟨nd,rfl⟩⟩))
            go_meet
            exact⟨_,(false),qy2,H',⟨by have:=Bz.out;have:=Bw.out;first|omega|exact Nat.le_refl _⟩,⟨qR (Kd.R_mono (qfR Ac (Kd.R_types Am.out Ar.out (by decide)) (.int .i64 ((y18 Ab Aa).f0)) (.string ((y18 Ab Aa).f1)) (.slice Aj ((y18 Ab Aa).f2).length Ai)) (fun _ hk=>trivial))⟩,⟨qN (Kd.N_mono (Kd.N_far (p:=⟨Ac,2,none⟩) (Kd.N_far (p:=⟨Ac,1,none⟩) (Kd.N_far (p:=⟨Ac,0,none⟩) (Kd.N_mono Ax.out (fun k_ hk=>(⟨hk,hk.2⟩:_∧k_≠Ac))) (fun _ hk=>hk.2) (.int .i64 ((y18 Ab Aa).f0))) (fun _ hk=>hk.2) (.string ((y18 Ab Aa).f1))) (fun _ hk=>hk.2) (.slice Aj ((y18 Ab Aa).f2).length Ai)) (fun _ hk=>⟨hk.1.1.1,⟨hk.1.1.2,hk.1.2⟩⟩))⟩,⟨qV (Kd.V_mono (qfV Ac (Kd.V_mono At.out (fun k_ hk=>(⟨hk,hk.2⟩:_∧k_≠Ac))) (.int .i64 ((y18 Ab Aa).f0)) (.string ((y18 Ab Aa).f1)) (.slice Aj ((y18 Ab Aa).f2).length Ai)) (fun _ hk=>⟨hk.1.1.1.1,⟨hk.1.1.2,⟨hk.1.1.1.2,hk.1.2⟩⟩⟩))⟩,⟨by(with_reducible repeat(first|refine y9 ?_ _|refine y8 ?_|refine y5 ?_ _));refine y10 ?_ Ag.out _;refine y10 ?_ Ag.out _;refine y10 ?_ Ag.out _;(with_reducible repeat(first|refine y9 ?_ _|refine y8 ?_|refine y5 ?_ _));exact Ah.out⟩,⟨by(with_reducible repeat(first|refine y9 ?_ _|refine y8 ?_|refine y5 ?_ _));refine y11 (cs:=#[.int .i64 ((y18 Ab Aa).f0),.string ((y18 Ab Aa).f1),.slice none 0 0]) ?_ 2 _ rfl;refine y11 (cs:=#[.int .i64 ((y18 Ab Aa).f0),.string (⟨#[]⟩:ByteArray),.slice none 0 0]) ?_ 1 _ rfl;refine y11 (cs:=#[.int .i64 0,.string (⟨#[]⟩:ByteArray),.slice none 0 0]) ?_ 0 _ rfl;(with_reducible repeat(first|refine y9 ?_ _|refine y8 ?_|refine y5 ?_ _));exact Ar.out⟩,⟨(Kd.V_reads' (qV ((Kd.V_mono (qfV Ac (Kd.V_mono At.out (fun k_ hk=>(⟨hk,hk.2⟩:_∧k_≠Ac))) (.int .i64 ((y18 Ab Aa).f0)) (.string ((y18 Ab Aa).f1)) (.slice Aj ((y18 Ab Aa).f2).length Ai)) (fun _ h_=>h_.1))))).2.2⟩,⟨qb⟩⟩
          ·replace Mn:=Bool.eq_false_iff.mpr Mn
           subst Mn
           replace H:=qF H
           have H':=y0.mk H
           clear H
           have Sf:=Au.out
           have Sg:=Ag.out
           obtain⟨Na,Nb,Nc,Nd,Nf,Ng⟩:=qz3 Ar.out
           go_wp2_with (first|(go_at_call 29;(with_reducible refine(impl_in.calls ((y18 Ab Aa).f0) 1 3 false _ Pp.out).mono ?_);rintro e w' ⟨rfl,⟨nd,rfl⟩⟩))
           go_meet
           exact⟨_,(true),qy2,H',⟨by have:=Bz.out;have:=Bw.out;first|omega|exact Nat.le_refl _⟩,⟨qR (Kd.R_mono (qfR Ac (Kd.R_types Am.out Ar.out (by decide)) (.int .i64 ((y18 Ab Aa).f0)) (.string ((y18 Ab Aa).f1)) (.slice Aj ((y18 Ab Aa).f2).length Ai)) (fun _ hk=>trivial))⟩,⟨qN (Kd.N_mono (Kd.N_far (p:=⟨Ac,2,none⟩) (Kd.N_far (p:=⟨Ac,1,none⟩) (Kd.N_far (p:=⟨Ac,0,none⟩) (Kd.N_mono Ax.out (fun k_ hk=>(⟨hk,hk.2⟩:_∧k_≠Ac))) (fun _ hk=>hk.2) (.int .i64 ((y18 Ab Aa).f0))) (fun _ hk=>hk.2) (.string ((y18 Ab Aa).f1))) (fun _ hk=>hk.2) (.slice Aj ((y18 Ab Aa).f2).length Ai)) (fun _ hk=>⟨hk.1.1.1,⟨hk.1.1.2,hk.1.2⟩⟩))⟩,⟨qV (Kd.V_mono (qfV Ac (Kd.V_mono At.out (fun k_ hk=>(⟨hk,hk.2⟩:_∧k_≠Ac))) (.int .i64 ((y18 Ab Aa).f0)) (.string ((y18 Ab Aa).f1)) (.slice Aj ((y18 Ab Aa).f2).length Ai)) (fun _ hk=>⟨hk.1.1.1.1,⟨hk.1.1.2,⟨hk.1.1.1.2,hk.1.2⟩⟩⟩))⟩,⟨by(with_reducible repeat(first|refine y9 ?_ _|refine y8 ?_|refine y5 ?_ _));refine y10 ?_ Ag.out _;refine y10 ?_ Ag.out _;refine y10 ?_ Ag.out _;(with_reducible repeat(first|refine y9 ?_ _|refine y8 ?_|refine y5 ?_ _));exact Ah.out⟩,⟨by(with_reducible repeat(first|refine y9 ?_ _|refine y8 ?_|refine y5 ?_ _));refine y11 (cs:=#[.int .i64 ((y18 Ab Aa).f0),.string ((y18 Ab Aa).f1),.slice none 0 0]) ?_ 2 _ rfl;refine y11 (cs:=#[.int .i64 ((y18 Ab Aa).f0),.string (⟨#[]⟩:ByteArray),.slice none 0 0]) ?_ 1 _ rfl;refine y11 (cs:=#[.int .i64 0,.string (⟨#[]⟩:ByteArray),.slice none 0 0]) ?_ 0 _ rfl;(with_reducible repeat(first|refine y9 ?_ _|refine y8 ?_|refine y5 ?_ _));exact Ar.out⟩,⟨(Kd.V_reads' (qV ((Kd.V_mono (qfV Ac (Kd.V_mono At.out (fun k_ hk=>(⟨hk,hk.2⟩:_∧k_≠Ac))) (.int .i64 ((y18 Ab Aa).f0)) (.string ((y18 Ab Aa).f1)) (.slice Aj ((y18 Ab Aa).f2).length Ai)) (fun _ h_=>h_.1))))).2.2⟩,⟨qb⟩⟩
         ·as_aux_lemma =>
          rw [if_neg Gx]at H
          have Il:(((y18 Ab Aa).f0) == 1)=false:=beq_eq_false_iff_ne.mpr Gx
          have Im:(((y18 Ab Aa).f0) != 1)=true:=bne_iff_ne.mpr Gx
          have H':=y0.mk H
          clear H
          have Sh:=Au.out
          have Si:=Ag.out
          obtain⟨Nh,Ni,Nj,Nk,Nl,Nm⟩:=qz3 Ar.out
          go_wp2
          go_meet
          exact⟨_,(true),qy2,H',⟨by have:=Bz.out;have:=Bw.out;first|omega|exact Nat.le_refl _⟩,⟨qR (Kd.R_mono (qfR Ac (Kd.R_types Am.out Ar.out (by decide)) (.int .i64 ((y18 Ab Aa).f0)) (.string ((y18 Ab Aa).f1)) (.slice Aj ((y18 Ab Aa).f2).length Ai)) (fun _ hk=>trivial))⟩,⟨qN (Kd.N_mono (Kd.N_far (p:=⟨Ac,2,none⟩) (Kd.N_far (p:=⟨Ac,1,none⟩) (Kd.N_far (p:=⟨Ac,0,none⟩) (Kd.N_mono Ax.out (fun k_ hk=>(⟨hk,hk.2⟩:_∧k_≠Ac))) (fun _ hk=>hk.2) (.int .i64 ((y18 Ab Aa).f0))) (fun _ hk=>hk.2) (.string ((y18 Ab Aa).f1))) (fun _ hk=>hk.2) (.slice Aj ((y18 Ab Aa).f2).length Ai)) (fun _ hk=>⟨hk.1.1.1,⟨hk.1.1.2,hk.1.2⟩⟩))⟩,⟨qV (Kd.V_mono (qfV Ac (Kd.V_mono At.out (fun k_ hk=>(⟨hk,hk.2⟩:_∧k_≠Ac))) (.int .i64 ((y18 Ab Aa).f0)) (.string ((y18 Ab Aa).f1)) (.slice Aj ((y18 Ab Aa).f2).length Ai)) (fun _ hk=>⟨hk.1.1.1.1,⟨hk.1.1.2,⟨hk.1.1.1.2,hk.1.2⟩⟩⟩))⟩,⟨by(with_reducible repeat(first|refine y9 ?_ _|refine y8 ?_|refine y5 ?_ _));refine y10 ?_ Ag.out _;refine y10 ?_ Ag.out _;refine y10 ?_ Ag.out _;(with_reducible repeat(first|refine y9 ?_ _|refine y8 ?_|refine y5 ?_ _));exact Ah.out⟩,⟨by(with_reducible repeat(first|refine y9 ?_ _|refine y8 ?_|refine y5 ?_ _));refine y11 (cs:=#[.int .i64 ((y18 Ab Aa).f0),.string ((y18 Ab Aa).f1),.slice none 0 0]) ?_ 2 _ rfl;refine y11 (cs:=#[.int .i64 ((y18 Ab Aa).f0),.string (⟨#[]⟩:ByteArray),.slice none 0 0]) ?_ 1 _ rfl;refine y11 (cs:=#[.int .i64 0,.string (⟨#[]⟩:ByteArray),.slice none 0 0]) ?_ 0 _ rfl;(with_reducible repeat(first|refine y9 ?_ _|refine y8 ?_|refine y5 ?_ _));exact Ar.out⟩,⟨(Kd.V_reads' (qV ((Kd.V_mono (qfV Ac (Kd.V_mono At.out (fun k_ hk=>(⟨hk,hk.2⟩:_∧k_≠Ac))) (.int .i64 ((y18 Ab Aa).f0)) (.string ((y18 Ab Aa).f1)) (.slice Aj ((y18 Ab Aa).f2).length Ai)) (fun _ h_=>h_.1))))).2.2⟩,⟨qb⟩⟩
        ·as_aux_lemma =>
         rw [if_neg Gw]at H
         have Ch:(Aa == 0)=false:=beq_eq_false_iff_ne.mpr Gw
         have Ik:(Aa != 0)=true:=bne_iff_ne.mpr Gw
         (first|rw [Ch]|(simp only [i64_w,i32_w];rw [Ch])|skip)
         obtain⟨Pq,Pr,H⟩:=qB H
         by_cases Nn:Pq=true
         ·subst Nn
          replace H:=qT H
          by_cases Ha:((y18 Ab Aa).f0)=3
          ·as_aux_lemma =>
           rw [if_pos Ha]at H
           have Iq:(((y18 Ab Aa).f0) == 3)=true:=beq_iff_eq.mpr Ha
           have Ir:(((y18 Ab Aa).f0) != 3)=false:=bne_eq_false_iff_eq.mpr Ha
           clear Ha
           have H':=y0.mk H
           clear H
           have Sj:=Au.out
           have Sk:=Ag.out
           obtain⟨Np,Nq,Nr,Ns,Nt,Nu⟩:=qz3 Ar.out
           go_wp2_with (first|(go_at_call 29;(with_reducible refine(impl_in.calls ((y18 Ab Aa).f0) 1 3 true _ Pr.out).mono ?_);rintro e w' ⟨rfl,⟨nd,rfl⟩⟩))
           go_meet
           exact⟨_,(((((y18 Ab Aa).f2).length:Int) != 2)),qy2,H',⟨by have:=Bz.out;have:=Bw.out;first|omega|exact Nat.le_refl _⟩,⟨qR (Kd.R_mono (qfR Ac (Kd.R_types Am.out Ar.out (by decide)) (.int .i64 ((y18 Ab Aa).f0)) (.string ((y18 Ab Aa).f1)) (.slice Aj ((y18 Ab Aa).f2).length Ai)) (fun _ hk=>trivial))⟩,⟨qN (Kd.N_mono (Kd.N_far (p:=⟨Ac,2,none⟩) (Kd.N_far (p:=⟨Ac,1,none⟩) (Kd.N_far (p:=⟨Ac,0,none⟩) (Kd.N_mono Ax.out (fun k_ hk=>(⟨hk,hk.2⟩:_∧k_≠Ac))) (fun _ hk=>hk.2) (.int .i64 ((y18 Ab Aa).f0))) (fun _ hk=>hk.2) (.string ((y18 Ab Aa).f1))) (fun _ hk=>hk.2) (.slice Aj ((y18 Ab Aa).f2).length Ai)) (fun _ hk=>⟨hk.1.1.1,⟨hk.1.1.2,hk.1.2⟩⟩))⟩,⟨qV (Kd.V_mono (qfV Ac (Kd.V_mono At.out (fun k_ hk=>(⟨hk,hk.2⟩:_∧k_≠Ac))) (.int .i64 ((y18 Ab Aa).f0)) (.string ((y18 Ab Aa).f1)) (.slice Aj ((y18 Ab Aa).f2).length Ai)) (fun _ hk=>⟨hk.1.1.1.1,⟨hk.1.1.2,⟨hk.1.1.1.2,hk.1.2⟩⟩⟩))⟩,⟨by(with_reducible repeat(first|refine y9 ?_ _|refine y8 ?_|refine y5 ?_ _));refine y10 ?_ Ag.out _;refine y10 ?_ Ag.out _;refine y10 ?_ Ag.out _;(with_reducible repeat(first|refine y9 ?_ _|refine y8 ?_|refine y5 ?_ _));exact Ah.out⟩,⟨by(with_reducible repeat(first|refine y9 ?_ _|refine y8 ?_|refine y5 ?_ _));refine y11 (cs:=#[.int .i64 ((y18 Ab Aa).f0),.string ((y18 Ab Aa).f1),.slice none 0 0]) ?_ 2 _ rfl;refine y11 (cs:=#[.int .i64 ((y18 Ab Aa).f0),.string (⟨#[]⟩:ByteArray),.slice none 0 0]) ?_ 1 _ rfl;refine y11 (cs:=#[.int .i64 0,.string (⟨#[]⟩:ByteArray),.slice none 0 0]) ?_ 0 _ rfl;(with_reducible repeat(first|refine y9 ?_ _|refine y8 ?_|refine y5 ?_ _));exact Ar.out⟩,⟨(Kd.V_reads' (qV ((Kd.V_mono (qfV Ac (Kd.V_mono At.out (fun k_ hk=>(⟨hk,hk.2⟩:_∧k_≠Ac))) (.int .i64 ((y18 Ab Aa).f0)) (.string ((y18 Ab Aa).f1)) (.slice Aj ((y18 Ab Aa).f2).length Ai)) (fun _ h_=>h_.1))))).2.2⟩,⟨qb⟩⟩
          ·as_aux_lemma =>
           rw [if_neg Ha]at H
           have Iq:(((y18 Ab Aa).f0) == 3)=false:=beq_eq_false_iff_ne.mpr Ha
           have Ir:(((y18 Ab Aa).f0) != 3)=true:=bne_iff_ne.mpr Ha
           have H':=y0.mk H
           clear H
           have Sl:=Au.out
           have Sm:=Ag.out
           obtain⟨Nv,Nw,Nx,Ny,Nz,Oa⟩:=qz3 Ar.out
           go_wp2_with (first|(go_at_call 29;(with_reducible refine(impl_in.calls ((y18 Ab Aa).f0) 1 3 true _ Pr.out).mono ?_);rintro e w' ⟨rfl,⟨nd,rfl⟩⟩))
           go_meet
           exact⟨_,(false),qy2,H',⟨by have:=Bz.out;have:=Bw.out;first|omega|exact Nat.le_refl _⟩,⟨qR (Kd.R_mono (qfR Ac (Kd.R_types Am.out Ar.out (by decide)) (.int .i64 ((y18 Ab Aa).f0)) (.string ((y18 Ab Aa).f1)) (.slice Aj ((y18 Ab Aa).f2).length Ai)) (fun _ hk=>trivial))⟩,⟨qN (Kd.N_mono (Kd.N_far (p:=⟨Ac,2,none⟩) (Kd.N_far (p:=⟨Ac,1,none⟩) (Kd.N_far (p:=⟨Ac,0,none⟩) (Kd.N_mono Ax.out (fun k_ hk=>(⟨hk,hk.2⟩:_∧k_≠Ac))) (fun _ hk=>hk.2) (.int .i64 ((y18 Ab Aa).f0))) (fun _ hk=>hk.2) (.string ((y18 Ab Aa).f1))) (fun _ hk=>hk.2) (.slice Aj ((y18 Ab Aa).f2).length Ai)) (fun _ hk=>⟨hk.1.1.1,⟨hk.1.1.2,hk.1.2⟩⟩))⟩,⟨qV (Kd.V_mono (qfV Ac (Kd.V_mono At.out (fun k_ hk=>(⟨hk,hk.2⟩:_∧k_≠Ac))) (.int .i64 ((y18 Ab Aa).f0)) (.string ((y18 Ab Aa).f1)) (.slice Aj ((y18 Ab Aa).f2).length Ai)) (fun _ hk=>⟨hk.1.1.1.1,⟨hk.1.1.2,⟨hk.1.1.1.2,hk.1.2⟩⟩⟩))⟩,⟨by(with_reducible repeat(first|refine y9 ?_ _|refine y8 ?_|refine y5 ?_ _));refine y10 ?_ Ag.out _;refine y10 ?_ Ag.out _;refine y10 ?_ Ag.out _;(with_reducible repeat(first|refine y9 ?_ _|refine y8 ?_|refine y5 ?_ _));exact Ah.out⟩,⟨by(with_reducible repeat(first|refine y9 ?_ _|refine y8 ?_|refine y5 ?_ _));refine y11 (cs:=#[.int .i64 ((y18 Ab Aa).f0),.string ((y18 Ab Aa).f1),.slice none 0 0]) ?_ 2 _ rfl;refine y11 (cs:=#[.int .i64 ((y18 Ab Aa).f0),.string (⟨#[]⟩:ByteArray),.slice none 0 0]) ?_ 1 _ rfl;refine y11 (cs:=#[.int .i64 0,.string (⟨#[]⟩:ByteArray),.slice none 0 0]) ?_ 0 _ rfl;(with_reducible repeat(first|refine y9 ?_ _|refine y8 ?_|refine y5 ?_ _));exact Ar.out⟩,⟨(Kd.V_reads' (qV ((Kd.V_mono (qfV Ac (Kd.V_mono At.out (fun k_ hk=>(⟨hk,hk.2⟩:_∧k_≠Ac))) (.int .i64 ((y18 Ab Aa).f0)) (.string ((y18 Ab Aa).f1)) (.slice Aj ((y18 Ab Aa).f2).length Ai)) (fun _ h_=>h_.1))))).2.2⟩,⟨qb⟩⟩
         ·replace Nn:=Bool.eq_false_iff.mpr Nn
          subst Nn
          replace H:=qF H
          have H':=y0.mk H
          clear H
          have Sn:=Au.out
          have So:=Ag.out
          obtain⟨Ob,Oc,Od,Oe,Of,Og⟩:=qz3 Ar.out
          go_wp2_with (first|(go_at_call 29;(with_reducible refine(impl_in.calls ((y18 Ab Aa).f0) 1 3 false _ Pr.out).mono ?_);rintro e w' ⟨rfl,⟨nd,rfl⟩⟩))
          go_meet
          exact⟨_,(true),qy2,H',⟨by have:=Bz.out;have:=Bw.out;first|omega|exact Nat.le_refl _⟩,⟨qR (Kd.R_mono (qfR Ac (Kd.R_types Am.out Ar.out (by decide)) (.int .i64 ((y18 Ab Aa).f0)) (.string ((y18 Ab Aa).f1)) (.slice Aj ((y18 Ab Aa).f2).length Ai)) (fun _ hk=>trivial))⟩,⟨qN (Kd.N_mono (Kd.N_far (p:=⟨Ac,2,none⟩) (Kd.N_far (p:=⟨Ac,1,none⟩) (Kd.N_far (p:=⟨Ac,0,none⟩) (Kd.N_mono Ax.out (fun k_ hk=>(⟨hk,hk.2⟩:_∧k_≠Ac))) (fun _ hk=>hk.2) (.int .i64 ((y18 Ab Aa).f0))) (fun _ hk=>hk.2) (.string ((y18 Ab Aa).f1))) (fun _ hk=>hk.2) (.slice Aj ((y18 Ab Aa).f2).length Ai)) (fun _ hk=>⟨hk.1.1.1,⟨hk.1.1.2,hk.1.2⟩⟩))⟩,⟨qV (Kd.V_mono (qfV Ac (Kd.V_mono At.out (fun k_ hk=>(⟨hk,hk.2⟩:_∧k_≠Ac))) (.int .i64 ((y18 Ab Aa).f0)) (.string ((y18 Ab Aa).f1)) (.slice Aj ((y18 Ab Aa).f2).length Ai)) (fun _ hk=>⟨hk.1.1.1.1,⟨hk.1.1.2,⟨hk.1.1.1.2,hk.1.2⟩⟩⟩))⟩,⟨by(with_reducible repeat(first|refine y9 ?_ _|refine y8 ?_|refine y5 ?_ _));refine y10 ?_ Ag.out _;refine y10 ?_ Ag.out _;refine y10 ?_ Ag.out _;(with_reducible repeat(first|refine y9 ?_ _|refine y8 ?_|refine y5 ?_ _));exact Ah.out⟩,⟨by(with_reducible repeat(first|refine y9 ?_ _|refine y8 ?_|refine y5 ?_ _));refine y11 (cs:=#[.int .i64 ((y18 Ab Aa).f0),.string ((y18 Ab Aa).f1),.slice none 0 0]) ?_ 2 _ rfl;refine y11 (cs:=#[.int .i64 ((y18 Ab Aa).f0),.string (⟨#[]⟩:ByteArray),.slice none 0 0]) ?_ 1 _ rfl;refine y11 (cs:=#[.int .i64 0,.string (⟨#[]⟩:ByteArray),.slice none 0 0]) ?_ 0 _ rfl;(with_reducible repeat(first|refine y9 ?_ _|refine y8 ?_|refine y5 ?_ _));exact Ar.out⟩,⟨(Kd.V_reads' (qV ((Kd.V_mono (qfV Ac (Kd.V_mono At.out (fun k_ hk=>(⟨hk,hk.2⟩:_∧k_≠Ac))) (.int .i64 ((y18 Ab Aa).f0)) (.string ((y18 Ab Aa).f1)) (.slice Aj ((y18 Ab Aa).f2).length Ai)) (fun _ h_=>h_.1))))).2.2⟩,⟨qb⟩⟩
       case rest =>
        clear Gt
        (try clear Fn Ii Ij El Em En Eo Ep Eq Ej Ek Ct Dk Dl)
        obtain⟨kq,Bu,rfl,HA,Er,Am,Ax,Aw,Ah,Ar,Bt,HB⟩:=hcut
        cases kq with
        | zero=>exact absurd HA.out (by simp [z4_.j3])
        | succ Is =>
         have H:=HA.out
         clear HA
         simp only [z4_.j3]at H
         by_cases Iu:Bu=true
         ·subst Iu
          replace H:=qT H
          obtain rfl:=Option.some.inj H
          go_wp2
          go_ret
          exact⟨qf,qb⟩
         ·replace Iu:=Bool.eq_false_iff.mpr Iu
          subst Iu
          replace H:=qF H
          have H':=y0.mk H
          clear H
          have Sp:=Au.out
          have Sq:=Ag.out
          obtain⟨Es,Et,Eu,Ew,Ex,Ey⟩:=qz3 Ar.out
          go_wp2
          go_loopg [105] Is (fun kq Ps w'=>∃(Bg:List Int) (Ak:Int),Ps=.int .i64 Ak∧y0 (z4_.l3 kq Bg Ab (Ab.length:Int) Aa ((y18 Ab Aa).f2) (((y18 Ab Aa).f2).length:Int) Ak Af Be Bf Ba Bb=some r)∧y0 (kq≤Is)∧y0 (Kd.R (Kd.int .i64) 3 w' w.heap.size (fun _=>True) Bh Bg)∧y0 (Kd.N k33 33 w' w.heap.size (fun k_=>some k_≠(Bh:Value).ownBlock∧k_≠Ay∧k_≠Ac) (.slice (some Bj) Ab.length Bv) Ab)∧y0 (Kd.V (Kd.int .i64) 3 w' w.heap.size (fun k_=>some k_≠(Bh:Value).ownBlock∧some k_≠((.slice (some Bj) Ab.length Bv):Value).ownBlock∧k_≠Ay∧k_≠Ac) (.slice Aj ((y18 Ab Aa).f2).length Ai) ((y18 Ab Aa).f2))∧y0 (Kd.V (Kd.int .i64) 3 w' w.heap.size (fun k_=>some k_≠(Bh:Value).ownBlock∧some k_≠((.slice (some Bj) Ab.length Bv):Value).ownBlock∧k_≠Ay∧k_≠Ac) (.slice Aj ((y18 Ab Aa).f2).length Ai) ((y18 Ab Aa).f2))∧y0 (w'.heap[Ay]?=some (.cells #[(.slice Bx Af.length Bk),.int .i64 Be,.string Bf,(.slice Bl Ba.length Bm),(.slice Bn Bb.length Bo)] 36 (0,0)))∧y0 (w'.heap[Ac]?=some (.cells #[.int .i64 ((y18 Ab Aa).f0),.string ((y18 Ab Aa).f1),(.slice Aj ((y18 Ab Aa).f2).length Ai)] 33 (0,0)))∧y0 (Below w.heap.size w w'))
          case atStart=>exact⟨(Bc),(0),qy2,H',⟨Nat.le_refl _⟩,⟨qR Am.out⟩,⟨qN Ax.out⟩,⟨qV Aw.out⟩,⟨qV Aw.out⟩,⟨qk Ah.out⟩,⟨qk Ar.out⟩,⟨qb⟩⟩
          case round =>
           clear H'
           (try clear Iu Es Et Eu Ew Ex Ey)
           obtain⟨Bg,Ak,rfl,HA,Oh,Am,Ax,Bi,Aw,Ah,Ar,HB⟩:=hrel
           cases gk with
           | zero=>exact absurd HA.out (by simp [z4_.l3])
           | succ k4 =>
            have H:=HA.out
            clear HA
            simp only [z4_.l3]at H
            by_cases Hm:Ak < (((y18 Ab Aa).f2).length:Int)
            ·as_aux_lemma =>
             rw [if_pos Hm]at H
             have Iv:=decide_eq_true Hm
             clear Hm
             obtain⟨Sr,H⟩:=qo H
             have Ss:decide (0≤Ak)=true:=decide_eq_true Sr
             clear Sr
             obtain⟨St,H⟩:=qo H
             have Su:decide (Ak < (((y18 Ab Aa).f2).length:Int))=true:=decide_eq_true St
             clear St
             obtain⟨Pt,Sv,H⟩:=qB H
             by_cases Oi:Pt=true
             ·subst Oi
              replace H:=qT H
              obtain⟨Sw,H⟩:=qo H
              have Sx:decide (0≤(rd ((y18 Ab Aa).f2) Ak))=true:=decide_eq_true Sw
              clear Sw
              obtain⟨Sy,H⟩:=qo H
              have Sz:decide ((rd ((y18 Ab Aa).f2) Ak) < (Bg.length:Int))=true:=decide_eq_true Sy
              clear Sy
              obtain⟨Hb,Ci⟩:∃ y_:List Int,y_=(Bg.set ((rd ((y18 Ab Aa).f2) Ak):Int).toNat (wrap64 ((rd Bg (rd ((y18 Ab Aa).f2) Ak)) + 1))):=⟨_,rfl⟩
              replace H:(z4_.l3 k4 Hb Ab (Ab.length:Int) Aa ((y18 Ab Aa).f2) (((y18 Ab Aa).f2).length:Int) (wrap64 (Ak + 1)) Af Be Bf Ba Bb)=some r:=by first|exact Ci ▸ H|exact Ci ▸ (Option.bind_some _ _).symm.trans H
              replace Ci:=y0.mk Ci
              have H':=y0.mk H
              clear H
              have Cm:0≤(Ak:Int):=qd
              have Cn:Ak < (((y18 Ab Aa).f2).length:Int):=qd
              obtain⟨Cw,Hc,Cc⟩:=Kd.at_int (Kd.V_reads' Bi.out).2.2 Ak Cm Cn
              cases Hc
              replace Cm:=eq_true Cm
              replace Cn:=eq_true Cn
              have Ta:=Ag.out
              have Tc:=Au.out
              obtain⟨Cx,Cy,Cz,Da,Db,Dc,Dd,De,Df,Dg⟩:=qz5 Ah.out
              go_wp2_with (first|((with_reducible refine y15 (f:=29) rfl ?_);refine y17 (some 114) rfl rfl Try.func29 (by kernel_rfl) rfl #[.int .i64 (rd ((y18 Ab Aa).f2) Ak),.int .i64 0,.int .i64 (wrap64 ((Af.length:Int) - 1))] rfl qy1 ?_;(with_reducible refine(impl_in.calls (rd ((y18 Ab Aa).f2) Ak) 0 (wrap64 ((Af.length:Int) - 1)) true _ Sv.out).mono ?_);rintro e w' ⟨rfl,⟨nd,rfl⟩⟩;refine⟨_,rfl, ?_⟩;(try(rw [drewN_self wr];have e1_:∀(n_:Nat) (a_:Addr),World.cell? wr a_=World.cell? (World.drewN wr n_) a_:=fun _ _=>rfl;have e2_:∀(n_:Nat) (a_:Addr),World.frozen? wr a_=World.frozen? (World.drewN wr n_) a_:=fun _ _=>rfl;generalize hq_:World.drewN wr _=wr;have e3_:=(fun a_=>(e1_ _ a_).trans (congrArg (fun w_=>World.cell? w_ a_) hq_));have e4_:=(fun a_=>(e2_ _ a_).trans (congrArg (fun w_=>World.frozen? w_ a_) hq_));clear e1_ e2_;(try replace Cc:=(e3_ _).symm.trans Cc);(try replace Cx:=(e3_ _).symm.trans Cx);(try replace Dc:=(e4_ _).symm.trans Dc);(try replace Cy:=(e3_ _).symm.trans Cy);(try replace Dd:=(e4_ _).symm.trans Dd);(try replace Cz:=(e3_ _).symm.trans Cz);(try replace De:=(e4_ _).symm.trans De);(try replace Da:=(e3_ _).symm.trans Da);(try replace Df:=(e4_ _).symm.trans Df);(try replace Db:=(e3_ _).symm.trans Db);(try replace Dg:=(e4_ _).symm.trans Dg);skip;clear e3_ e4_;have n0_:y0 (Kd.V (Kd.int .i64) 3 wr w.heap.size (fun k_=>some k_≠(Bh:Value).ownBlock∧some k_≠(.slice (some Bj) Ab.length Bv:Value).ownBlock∧k_≠Ay∧k_≠Ac) (.slice (some Cw) ((y18 Ab Aa).f2).length Ai) ((y18 Ab Aa).f2)):=⟨by rw [← hq_];exact(qV Bi.out)⟩;have n1_:y0 (Kd.R (Kd.int .i64) 3 wr w.heap.size (fun _=>True) Bh Bg):=⟨by rw [← hq_];exact(qR Am.out)⟩;have n2_:y0 (Kd.V (Kd.int .i64) 3 wr w.heap.size (fun k_=>some k_≠(Bh:Value).ownBlock∧some k_≠(.slice (some Bj) Ab.length Bv:Value).ownBlock∧k_≠Ay∧k_≠Ac) (.slice (some Cw) ((y18 Ab Aa).f2).length Ai) ((y18 Ab Aa).f2)):=⟨by rw [← hq_];exact(qV Aw.out)⟩;have n3_:y0 (Kd.N k33 33 wr w.heap.size (fun k_=>some k_≠(Bh:Value).ownBlock∧k_≠Ay∧k_≠Ac) (.slice (some Bj) Ab.length Bv) Ab):=⟨by rw [← hq_];exact(qN Ax.out)⟩;have n4_:y0 (wr.heap[Ay]?=some (.cells #[.slice Bx Af.length Bk,.int .i64 Be,.string Bf,.slice Bl Ba.length Bm,.slice Bn Bb.length Bo] 36 (0,0))):=⟨by rw [← hq_];exact(qk Ah.out)⟩;have n5_:y0 (wr.heap[Ac]?=some (.cells #[.int .i64 ((y18 Ab Aa).f0),.string ((y18 Ab Aa).f1),.slice (some Cw) ((y18 Ab Aa).f2).length Ai] 33 (0,0))):=⟨by rw [← hq_];exact(qk Ar.out)⟩;have n6_:y0 (Below w.heap.size w wr):=⟨by rw [← hq_];exact qb⟩;clear Bi Am Aw Ax Ah Ar HB hq_;have Bi:=n0_;have Am:=n1_;have Aw:=n2_;have Ax:=n3_;have Ah:=n4_;have Ar:=n5_;have HB:=n6_;clear n0_ n1_ n2_ n3_ n4_ n5_ n6_));obtain⟨Ts,Cp,Pu⟩:=Kd.R_slice Am.out;subst Pu;have Hd:0≤((rd ((y18 Ab Aa).f2) Ak):Int):=qd;have He:(rd ((y18 Ab Aa).f2) Ak) < (Bg.length:Int):=qd;obtain⟨Td,Pv,Ez⟩:=Kd.at_int (Kd.R_reads' Am.out).2.2 (rd ((y18 Ab Aa).f2) Ak) Hd He;cases Pv;replace Hd:=eq_true Hd;replace He:=eq_true He;have Px:0≤((rd ((y18 Ab Aa).f2) Ak):Int):=qd;have Py:((rd ((y18 Ab Aa).f2) Ak):Int) < ((Bg.length:Int):Int):=qd;obtain⟨Cd,Tt,Ix,Iy,Pz,Tu,Iz⟩:=Kd.R_form Am.out (by omega);(first|cases Ix|(injection Ix with ea_ en_ ec_;(first|subst ea_|(injection ea_ with ea_;subst ea_));subst ec_;clear en_));have Qa:=y0.mk Iy;have Tv:=y0.mk Iz;clear Iy Pz Iz;(first|simp only [add_plain]at Ez|skip);obtain⟨Qb,Qc⟩:=Kd.R_celln 0 Am.out ((rd ((y18 Ab Aa).f2) Ak):Int) Px Py;replace Px:=eq_true Px;replace Py:=eq_true Py;obtain⟨hy100_,hz100_⟩:=Kd.R_celln 0 Am.out ((rd ((y18 Ab Aa).f2) Ak):Int) (of_decide_eq_true qy0) (of_decide_eq_true qy0);have Do:=Kd.R_putg Am.out ((rd ((y18 Ab Aa).f2) Ak):Int) (wrap64 ((rd Bg (rd ((y18 Ab Aa).f2) Ak)) + 1)))|((with_reducible refine gate_store (t:=3) (p:=121) rfl ?_);refine store_event (t:=3) (p:=121) (v:=?vo_w101) (w1:=(wr.setCell ⟨Cd,((rd ((y18 Ab Aa).f2) Ak):Int).toNat,none⟩ (.int .i64 (wrap64 ((rd Bg (rd ((y18 Ab Aa).f2) Ak)) + 1))))) ?hg ?ho ?hn ?hr ?_;(case ho=>rfl);(case hg=>rfl);(case hn=>rfl);(case hr=>first|(go_simp;done)|(go_simp;rfl));intro Hf hw;have hg:wr.grownBy Hf (some Cd):=(by rw [hw];exact Do.2);have hp_:Kd.R (Kd.int .i64) 3 Hf w.heap.size (fun _=>True) (.slice (some ⟨Cd,0,none⟩) Bg.length Cp) Hb:=(by rw [hw,Ci.out];exact Do.1);clear Do;replace Ax:=y0.mk (Kd.N_afterv (v:=(.slice (some ⟨Cd,0,none⟩) Bg.length Cp)) (v1:=(.slice (some ⟨Cd,0,none⟩) Bg.length Cp)) (ok:=(fun k_=>k_≠Ay∧k_≠Ac)) (qN (Kd.N_mono Ax.out (fun _ hk=>⟨⟨hk.2.1,hk.2.2⟩,hk.1⟩))) hg (.inl rfl));replace Bi:=y0.mk (Kd.V_afterv (v:=(.slice (some ⟨Cd,0,none⟩) Bg.length Cp)) (v1:=(.slice (some ⟨Cd,0,none⟩) Bg.length Cp)) (ok:=(fun k_=>some k_≠(.slice (some Bj) Ab.length Bv:Value).ownBlock∧k_≠Ay∧k_≠Ac)) (qV (Kd.V_mono Bi.out (fun _ hk=>⟨⟨hk.2.1,⟨hk.2.2.1,hk.2.2.2⟩⟩,hk.1⟩))) hg (.inl rfl));replace Aw:=y0.mk (Kd.V_afterv (v:=(.slice (some ⟨Cd,0,none⟩) Bg.length Cp)) (v1:=(.slice (some ⟨Cd,0,none⟩) Bg.length Cp)) (ok:=(fun k_=>some k_≠(.slice (some Bj) Ab.length Bv:Value).ownBlock∧k_≠Ay∧k_≠Ac)) (qV (Kd.V_mono Aw.out (fun _ hk=>⟨⟨hk.2.1,⟨hk.2.2.1,hk.2.2.2⟩⟩,hk.1⟩))) hg (.inl rfl));replace Ah:=y0.mk (blk_grown (qk Ah.out) hg (Kd.R_ne Am.out Ah.out (by decide)));replace Ar:=y0.mk (blk_grown (qk Ar.out) hg (Kd.R_ne Am.out Ar.out (by decide)));replace Am:=y0.mk (hp_);replace HB:=y0.mk ((by rw [hw];exact below_set (HB.out) Qa.out:Below w.heap.size w Hf));clear hg hw hp_))
              go_roundg k4
              case measure=>have:=Bz.out;have:=Bw.out;have:=Er.out;have:=Oh.out;omega
              exact⟨(Hb),(wrap64 (Ak + 1)),qy2,H',⟨by have:=Bz.out;have:=Bw.out;have:=Er.out;have:=Oh.out;omega⟩,⟨qR Am.out⟩,⟨qN (Kd.N_mono Ax.out (fun _ hk=>⟨hk.2,⟨hk.1.1,hk.1.2⟩⟩))⟩,⟨qV (Kd.V_mono Bi.out (fun _ hk=>⟨hk.2,⟨hk.1.1,⟨hk.1.2.1,hk.1.2.2⟩⟩⟩))⟩,⟨qV (Kd.V_mono Aw.out (fun _ hk=>⟨hk.2,⟨hk.1.1,⟨hk.1.2.1,hk.1.2.2⟩⟩⟩))⟩,⟨qk Ah.out⟩,⟨qk Ar.out⟩,⟨qb⟩⟩
             ·replace Oi:=Bool.eq_false_iff.mpr Oi
              subst Oi
              replace H:=qF H
              obtain rfl:=Option.some.inj H
              have Cm:0≤(Ak:Int):=qd
              have Cn:Ak < (((y18 Ab Aa).f2).length:Int):=qd
              obtain⟨Cw,Hc,Cc⟩:=Kd.at_int (Kd.V_reads' Bi.out).2.2 Ak Cm Cn
              cases Hc
              replace Cm:=eq_true Cm
              replace Cn:=eq_true Cn
              have Qd:=Ag.out
              have Qe:=Au.out
              obtain⟨Ja,Jb,Jc,Jd,Je,Jf,Jg,Jh,Ji,Jj⟩:=qz5 Ah.out
              go_wp2_with (first|((with_reducible refine y15 (f:=29) rfl ?_);refine y17 (some 114) rfl rfl Try.func29 (by kernel_rfl) rfl #[.int .i64 (rd ((y18 Ab Aa).f2) Ak),.int .i64 0,.int .i64 (wrap64 ((Af.length:Int) - 1))] rfl qy1 ?_;(with_reducible refine(impl_in.calls (rd ((y18 Ab Aa).f2) Ak) 0 (wrap64 ((Af.length:Int) - 1)) false _ Sv.out).mono ?_);rintro e w' ⟨rfl,⟨nd,rfl⟩⟩;refine⟨_,rfl, ?_⟩))
              go_ret
              exact⟨qf,qb⟩
            ·as_aux_lemma =>
             rw [if_neg Hm]at H
             have Iv:=decide_eq_false Hm
             clear Hm
             have H':=y0.mk H
             clear H
             go_wp2
             go_roundg k4
             case measure=>have:=Bz.out;have:=Bw.out;have:=Er.out;have:=Oh.out;omega
             exact⟨(Bg),(wrap64 (Aa + 1)),qy2,H',⟨by have:=Bz.out;have:=Bw.out;have:=Er.out;have:=Oh.out;omega⟩,⟨qR Am.out⟩,⟨qN (Kd.N_mono Ax.out (fun _ hk=>⟨hk.1,hk.2.1⟩))⟩,⟨qk Ah.out⟩,⟨qb⟩⟩
      ·as_aux_lemma =>
       rw [if_neg Hl]at H
       have Fn:=decide_eq_false Hl
       clear Hl
       by_cases Dh:(Af.length:Int)≤60
       ·as_aux_lemma =>
        rw [if_pos Dh]at H
        have Hg:=decide_eq_true Dh
        have Hh:decide (Af.length≤60)=true:=decide_eq_true (by omega)
        clear Dh
        obtain⟨Qf,Qg,H⟩:=qB H
        obtain rfl:=Option.some.inj H
        obtain⟨Jk,Jl,Jm,Jn,Jo,Jp,Jq,Jr,Js,Jt⟩:=qz5 Ah.out
        obtain⟨Te,Tf,Ju⟩:=Kd.R_slice Am.out
        subst Ju
        go_wp2_with (first|(go_at_call 81;(with_reducible refine(slices_ContainsFunc_int_int_impl_isFormed_1.calls k2 _ _ Bc  Qf _ (qc ((Kd.R_reads' Am.out).2.2)) (by exact(Kd.R_reads' Am.out).2.1) Qg.out).mono ?_);rintro e w' ⟨rfl,⟨nd,rfl⟩⟩))
        go_ret
        exact⟨qf,qb⟩
       ·as_aux_lemma =>
        rw [if_neg Dh]at H
        have Hg:=decide_eq_false Dh
        have Hh:decide (Af.length≤60)=false:=decide_eq_false (by omega)
        clear Dh
        obtain rfl:=Option.some.inj H
        obtain⟨Jv,Jw,Jx,Jy,Jz,Ka,Kb,Ke,Kf,Kg⟩:=qz5 Ah.out
        go_wp2
        go_ret
        exact⟨qf,qb⟩
def strings_Join.f (l0:List ByteArray) (a1:ByteArray):Option ByteArray:=if(Lib.join (l0.map (·.data.toList)) a1.data.toList).length≤140737488355328 then if l0.length≤140737488355328 then some ⟨(Lib.join (l0.map (·.data.toList)) a1.data.toList).toArray⟩else none else none
theorem strings_Join.calls (A0:Option Addr) (c0:Nat) (l0:List ByteArray) (a1:ByteArray) (r:ByteArray) (w:World) (Ab:Kd.C Kd.string w A0 l0.length l0) (Ac:l0.length≤c0) (h:strings_Join.f l0 a1=some r) :
  Calls Try.prog 69 #[.slice A0 l0.length c0,.string a1] w fun e w'=>e=.returned (.string r)∧Below w.heap.size w w':=by
 unfold strings_Join.f at h
 by_cases h0:(Lib.join (l0.map (·.data.toList)) a1.data.toList).length≤140737488355328
 ·by_cases h1:l0.length≤140737488355328
  ·rw [if_pos h0,if_pos h1]at h
   obtain rfl:=Option.some.inj h
   cases l0 with
   | nil =>
    refine(Try.strings_Join_none A0 c0 a1 w).mono ?_
    rintro e w' ⟨rfl,rfl⟩
    exact⟨rfl,Below.refl _ _⟩
   | cons x xs =>
    obtain⟨⟨b,o,p⟩,rfl,hx⟩:=Ab.2.2 (by simp)
    have hcell:∀(j:Nat) y,(x :: xs)[j]?=some y→w.cell? ((⟨b,o,p⟩:Addr).add j)=some (.string y):=by
     intro j y hy
     obtain⟨c,hl,hK,hc⟩:=hx j y hy
     have e:c=[.string y]:=hK
     have:=hc 0 (.string y) (by rw [e];rfl)
     simpa [Kd.string,Kd.scalar] using this
    have hp:p=none:=by
     have Aa:=hcell 0 x rfl
     cases p with
     | none=>rfl
     | some q =>
      simp only [World.cell?,Addr.add]at Aa
      split at Aa <;> simp at Aa
    subst hp
    have hcell2:∀(j:Nat) y,(x :: xs)[j]?=some y→w.cell? ⟨b,o + j,none⟩=some (.string y):=by
     intro j y hy
     have:=hcell j y hy
     have e:(⟨b,o,none⟩:Addr).add j=⟨b,o + j,none⟩:=by
      unfold Addr.add
      split <;> simp_all
     rwa [e]at this
    exact Try.strings_Join b o c0 (x :: xs) a1 w hcell2 (World.block_lt_of_cell? w _ (hcell2 0 x rfl)) h1 Ac h0
  ·rw [if_pos h0,if_neg h1]at h
   cases h
 ·rw [if_neg h0]at h
  cases h
end Go.Proofs.Ytkdabljlfbmpdaa.Pw
end
