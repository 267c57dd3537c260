-- Cut by prune.py, a program of this session, out of the texts of this claim: Lean checks it.
import Derived.Test.YtkdabljlfbmpdaaVevPgx0
import Derived.Test.YtkdabljlfbmpdaaVevPgx4
section
namespace Go.Proofs.Ytkdabljlfbmpdaa.Pg
open Go.RowKit Go.Proofs.YtkdabljlfbmpdaaW.PrintWords Go.Proofs.YtkdabljlfbmpdaaW.PrintLast Go.Proofs.YtkdabljlfbmpdaaW.PrintMore
attribute [local go_sem] max2_int min2_int max_two min_two max_three min_three max_four min_four   -- for this text's walks alone
set_option linter.unusedVariables false
set_option linter.unusedSimpArgs false
mutual
def z3_.l0:Nat→List Int→List (S63)→Int→Int→List (S63)→Int→ByteArray→List Int→List (S33)→Option (Bool)
 | 0,_,_,_,_,_,_,_,_,_=>none
 | k + 1,x3,x17,x18,x19,x286000,x286001,x286002,x286003,x286004=>if x19 < x18 then(if 0≤x19 then(if x19 < (x17.length:Int)then(z3_.l1 k x3 x19 x17 x18 x19 ((y17 x17 x19).f2) (((y17 x17 x19).f2).length:Int) 0 x286000 x286001 x286002 x286003 x286004 ((y17 x17 x19).f0) ((y17 x17 x19).f1) ((y17 x17 x19).f2))else(none))else(none))else((impl_Rule_lits.f x286000 x286001 x286002 x286003 x286004).bind fun t299=>(z3_.l2 k x3 t299 (t299.length:Int) 0 x286000 x286001 x286002 x286003 x286004))
def z3_.l1:Nat→List Int→Int→List (S63)→Int→Int→List Int→Int→Int→List (S63)→Int→ByteArray→List Int→List (S33)→Int→ByteArray→List Int→Option (Bool)
 | 0,_,_,_,_,_,_,_,_,_,_,_,_,_,_,_,_=>none
 | k + 1,x3,x4,x17,x18,x19,x25,x26,x27,x286000,x286001,x286002,x286003,x286004,x291000,x291001,x291002=>if x27 < x26 then(if 0≤x27 then(if x27 < (x25.length:Int)then((impl_in.f (rd x25 x27) 0 (wrap64 (x4 - 1))).bind fun t292=>(if t292=true then(if 0≤(rd x25 x27)then(if(rd x25 x27) < (x3.length:Int)then(z3_.l1 k (x3.set ((rd x25 x27):Int).toNat (wrap64 ((rd x3 (rd x25 x27)) + 1))) x4 x17 x18 x19 x25 x26 (wrap64 (x27 + 1)) x286000 x286001 x286002 x286003 x286004 x291000 x291001 x291002)else(none))else(none))else(some false)))else(none))else(none))else((impl_in.f x291000 1 7).bind fun t295=>(if t295=true then((impl_isSum.f x291000).bind fun t296=>(if t296=true then(if(x291002.length:Int)=2 then((impl_in.f x291000 1 3).bind fun t297=>(if t297=true then(if(x291002.length:Int) > 0 then(some false)else(z3_.l0 k x3 x17 x18 (wrap64 (x19 + 1)) x286000 x286001 x286002 x286003 x286004))else(z3_.l0 k x3 x17 x18 (wrap64 (x19 + 1)) x286000 x286001 x286002 x286003 x286004)))else(some false))else((impl_in.f x291000 1 3).bind fun t298=>(if t298=true then(if(x291002.length:Int) > 0 then(some false)else(z3_.l0 k x3 x17 x18 (wrap64 (x19 + 1)) x286000 x286001 x286002 x286003 x286004))else(z3_.l0 k x3 x17 x18 (wrap64 (x19 + 1)) x286000 x286001 x286002 x286003 x286004)))))else(some false)))
def z3_.l2:Nat→List Int→List (S33)→Int→Int→List (S63)→Int→ByteArray→List Int→List (S33)→Option (Bool)
 | 0,_,_,_,_,_,_,_,_,_=>none
 | k + 1,x3,x71,x72,x73,x286000,x286001,x286002,x286003,x286004=>if x73 < x72 then(if 0≤x73 then(if x73 < (x71.length:Int)then(if x73=0 then(if((y16 x71 x73).f0)=1 then((impl_in.f ((y16 x71 x73).f0) 1 3).bind fun t305=>(if t305=true then(if((y16 x71 x73).f0)=3 then(z3_.j3 k x3 x71 x72 x73 ((((y16 x71 x73).f2).length:Int) != 2) x286000 x286001 x286002 x286003 x286004 ((y16 x71 x73).f0) ((y16 x71 x73).f1) ((y16 x71 x73).f2))else(z3_.j3 k x3 x71 x72 x73 false x286000 x286001 x286002 x286003 x286004 ((y16 x71 x73).f0) ((y16 x71 x73).f1) ((y16 x71 x73).f2)))else(z3_.j3 k x3 x71 x72 x73 true x286000 x286001 x286002 x286003 x286004 ((y16 x71 x73).f0) ((y16 x71 x73).f1) ((y16 x71 x73).f2))))else(z3_.j3 k x3 x71 x72 x73 true x286000 x286001 x286002 x286003 x286004 ((y16 x71 x73).f0) ((y16 x71 x73).f1) ((y16 x71 x73).f2)))else((impl_in.f ((y16 x71 x73).f0) 1 3).bind fun t306=>(if t306=true then(if((y16 x71 x73).f0)=3 then(z3_.j3 k x3 x71 x72 x73 ((((y16 x71 x73).f2).length:Int) != 2) x286000 x286001 x286002 x286003 x286004 ((y16 x71 x73).f0) ((y16 x71 x73).f1) ((y16 x71 x73).f2))else(z3_.j3 k x3 x71 x72 x73 false x286000 x286001 x286002 x286003 x286004 ((y16 x71 x73).f0) ((y16 x71 x73).f1) ((y16 x71 x73).f2)))else(z3_.j3 k x3 x71 x72 x73 true x286000 x286001 x286002 x286003 x286004 ((y16 x71 x73).f0) ((y16 x71 x73).f1) ((y16 x71 x73).f2)))))else(none))else(none))else(if(x286000.length:Int)≤60 then((slices_ContainsFunc_int_int_impl_isFormed_1.f k x3).bind fun t302=>(some (!t302)))else(some false))
def z3_.j3:Nat→List Int→List (S33)→Int→Int→Bool→List (S63)→Int→ByteArray→List Int→List (S33)→Int→ByteArray→List Int→Option (Bool)
 | 0,_,_,_,_,_,_,_,_,_,_,_,_,_=>none
 | k + 1,x3,x71,x72,x73,x101,x286000,x286001,x286002,x286003,x286004,x305000,x305001,x305002=>if x101=true then(some false)else(z3_.l3 k x3 x71 x72 x73 x305002 (x305002.length:Int) 0 x286000 x286001 x286002 x286003 x286004)
def z3_.l3:Nat→List Int→List (S33)→Int→Int→List Int→Int→Int→List (S63)→Int→ByteArray→List Int→List (S33)→Option (Bool)
 | 0,_,_,_,_,_,_,_,_,_,_,_,_=>none
 | k + 1,x3,x71,x72,x73,x103,x104,x105,x286000,x286001,x286002,x286003,x286004=>if x105 < x104 then(if 0≤x105 then(if x105 < (x103.length:Int)then((impl_in.f (rd x103 x105) 0 (wrap64 ((x286000.length:Int) - 1))).bind fun t308=>(if t308=true then(if 0≤(rd x103 x105)then(if(rd x103 x105) < (x3.length:Int)then(z3_.l3 k (x3.set ((rd x103 x105):Int).toNat (wrap64 ((rd x3 (rd x103 x105)) + 1))) x71 x72 x73 x103 x104 (wrap64 (x105 + 1)) x286000 x286001 x286002 x286003 x286004)else(none))else(none))else(some false)))else(none))else(none))else(z3_.l2 k x3 x71 x72 (wrap64 (x73 + 1)) x286000 x286001 x286002 x286003 x286004)
end
def z3_.f (k:Nat) (l0_0:List (S63)) (a0_1:Int) (a0_2:ByteArray) (l0_3:List Int) (l0_4:List (S33)):Option (Bool):=if 0≤(l0_0.length:Int)then(if((l0_0.length:Int):Int).toNat≤35184372088832 then(z3_.l0 k (List.replicate ((l0_0.length:Int):Int).toNat 0) l0_0 (l0_0.length:Int) 0 l0_0 a0_1 a0_2 l0_3 l0_4)else(none))else(none)
set_option maxHeartbeats 8000000 in
set_option maxRecDepth 100000 in
theorem z3_.calls (k:Nat) (Bu:Option Addr) (Bh:Nat) (Ae:List (S63)) (Bb:Int) (Bc:ByteArray) (Bi:Option Addr) (Bj:Nat) (Aw:List Int) (Bk:Option Addr) (Bl:Nat) (Ay:List (S33)) (r:Bool) (w:World) (Eu:Kd.C k63 w Bu Ae.length Ae) (Ew:Ae.length≤Bh) (Ex:Kd.C (Kd.int .i64) w Bi Aw.length Aw) (Ey:Aw.length≤Bj) (Ez:Kd.C k33 w Bk Ay.length Ay) (Fa:Ay.length≤Bl) (h:z3_.f k Ae Bb Bc Aw Ay=some r) :
  Calls Try.prog 67 #[.agg #[.slice Bu Ae.length Bh,.int .i64 Bb,.string Bc,.slice Bi Aw.length Bj,.slice Bk Ay.length Bl]] w fun e w'=>e=.returned (.bool r)∧Below w.heap.size w w':=by
 have Sw:=Try.underlying36
 have Sx:=Try.underlying63
 have Sy:=Try.underlying33
 have Fb:=y0.mk Eu
 have Hh:=y0.mk Ew
 clear Eu Ew
 have Hi:=y0.mk Ex
 have Hj:=y0.mk Ey
 clear Ex Ey
 have Hk:=y0.mk Ez
 have Hl:=y0.mk Fa
 clear Ez Fa
 have HB:=y0.mk (Below.refl w.heap.size w)
 have H:(if 0≤(Ae.length:Int)then(if((Ae.length:Int):Int).toNat≤35184372088832 then(z3_.l0 k (List.replicate ((Ae.length:Int):Int).toNat 0) Ae (Ae.length:Int) 0 Ae Bb Bc Aw Ay)else(none))else(none))=some r:=h
 clear h
 obtain⟨c2,H⟩:=qo H
 have Od:=eq_true c2
 have Oe:=decide_eq_true c2
 clear c2
 obtain⟨c3,H⟩:=qo H
 have Of:=eq_true c3
 have Og:=decide_eq_true c3
 clear c3
 obtain⟨Hm,Cb⟩:∃ y_:List Int,y_=(List.replicate ((Ae.length:Int):Int).toNat 0):=⟨_,rfl⟩
 replace H:(z3_.l0 k Hm Ae (Ae.length:Int) 0 Ae Bb Bc Aw Ay)=some r:=by first|(rw [Cb];with_reducible exact H)|(have H2_:=(Option.bind_some _ _).symm.trans H;rw [Cb];with_reducible exact H2_)|(have H2_:=(Option.bind_some _ _).symm.trans H;with_reducible exact H2_)|with_reducible exact H|(rw [Cb];exact H)|exact H
 have Fc:=y0.mk Cb
 clear Cb
 have H':=y0.mk H
 clear H
 go_enter Try.func67,Try.ntmps67
 go_wp2_with (first|((with_reducible refine y14 (N:=1) rfl ?_);(try(refine gate_guard (by rfl) ?_;dsimp only));refine qe 1 #[.slice Bu Ae.length Bh,.int .i64 Bb,.string Bc,.slice Bi Aw.length Bj,.slice Bk Ay.length Bl] 36 ?_;intro Au hg w4 hbox hb;have Ag:=y0.mk (hbox);have Fd:=y0.mk (qg (w:=w) hg);have Pz:=y0.mk (qg (w:=w) hg);replace HB:=y0.mk (y3 qb hb);clear hb hbox hg;obtain⟨Fj,Fk,Fl,Fm,Fn,Fo,Fp,Fq,Fr,Fs⟩:=qz5 Ag.out)|((with_reducible refine y14 (N:=15) rfl ?_);(try(refine gate_guard (by rfl) ?_;dsimp only));refine Kd.R_make (Kd.int .i64) _ 3 rfl (N:=15) rfl 23 _ _ rfl (Ae.length:Int) rfl rfl Try.underlying23 (.int .i64 0) 8 info3 rfl (by decide) (by omega) 0 (ok:=fun _=>True) (okp:=fun _=>True) rfl (fun _ hk=>hk) trivial (of_decide_eq_true qy0) (Nat.le_trans (Nat.mul_le_mul_right _ (of_decide_eq_true qy0:(Ae.length:Int).toNat≤35184372088832)) (by omega)) (Below.refl _ _) (Nat.le_refl _) ?_;intro Be w6 Hn hb hg_ hnew_;clear hg_ hnew_;(first|rw [← Fc.out]at Hn|(simp only [Int.reduceToNat]at Hn;rw [← Fc.out]at Hn));have Ho:=y0.mk (Kd.R_lower Hn (y2 qb));replace Ag:=y0.mk (qK Ag.out hb);replace HB:=y0.mk (y3 qb hb);clear hb Hn;obtain⟨Ft,Fu,Fv,Fx,Fy,Fz,Ga,Gb,Gc,Gd⟩:=qz5 Ag.out))
 go_loopg [19] k (fun kq Sz w'=>∃(De:List Int) (Ad:Int),Sz=.int .i64 Ad∧y0 (z3_.l0 kq De Ae (Ae.length:Int) Ad Ae Bb Bc Aw Ay=some r)∧y0 (kq≤k)∧y0 (Kd.R (Kd.int .i64) 3 w' w.heap.size (fun _=>True) Be De)∧y0 (w'.heap[Au]?=some (.cells #[(.slice Bu Ae.length Bh),.int .i64 Bb,.string Bc,(.slice Bi Aw.length Bj),(.slice Bk Ay.length Bl)] 36 (0,0)))∧y0 (Below w.heap.size w w'))
 case atStart=>exact⟨(Hm),(0),qy2,H',⟨Nat.le_refl _⟩,⟨qR Ho.out⟩,⟨qk Ag.out⟩,⟨qb⟩⟩
 case round =>
  clear H'
  (try clear Od Oe Of Og Fj Fk Fl Fm Fn Ft Fu Fv Fx Fy Fo Fp Fq Fr Fs Fz Ga Gb Gc Gd)
  obtain⟨De,Ad,rfl,HA,Bv,Ak,Ag,HB⟩:=hrel
  cases gk with
  | zero=>exact absurd HA.out (by simp [z3_.l0])
  | succ k1 =>
   have H:=HA.out
   clear HA
   simp only [z3_.l0]at H
   by_cases c9:Ad < (Ae.length:Int)
   ·as_aux_lemma =>
    rw [if_pos c9]at H
    have Ge:=decide_eq_true c9
    clear c9
    obtain⟨Qa,H⟩:=qo H
    have Hp:decide (0≤Ad)=true:=decide_eq_true Qa
    clear Qa
    obtain⟨Qb,H⟩:=qo H
    have Hq:decide (Ad < (Ae.length:Int))=true:=decide_eq_true Qb
    clear Qb
    have H':=y0.mk H
    clear H
    have Dk:0≤(Ad:Int):=of_decide_eq_true qy0
    have Dl:Ad < (Ae.length:Int):=of_decide_eq_true qy0
    obtain⟨Fe,Df,Cg,Oh,Bm,Bn,Bo,Cm,Cn⟩:=at_T63 Fb.out Ad Dk Dl
    cases Oh
    replace Bm:=(HB.out.cell (World.block_lt_of_cell? w _ Bm)).trans Bm
    replace Bn:=(HB.out.cell (World.block_lt_of_cell? w _ Bn)).trans Bn
    replace Bo:=(HB.out.cell (World.block_lt_of_cell? w _ Bo)).trans Bo
    have Co:=y0.mk Cn
    have Jz:=y0.mk Cm
    clear Cn Cm
    replace Dk:=eq_true Dk
    replace Dl:=eq_true Dl
    go_wp2_with (first|((with_reducible refine y14 (N:=5) rfl ?_);(try(refine gate_guard (by rfl) ?_;dsimp only));refine qe 5 #[.int .i64 0,.string (⟨#[]⟩:ByteArray),.slice none 0 0] 63 ?_;intro Cc hg Tn hbox hb;replace Ak:=y0.mk (Kd.R_below (qR Ak.out) hb);have Av:=y0.mk (hbox);have Qc:=y0.mk (qg (w:=w) hg);have Qd:=y0.mk (qg (w:=w) hg);replace HB:=y0.mk (y3 qb hb);have Ao:=y0.mk (qn Ag.out hg);have Ar:=y0.mk (qm Ag.out hg);replace Ag:=y0.mk (qK Ag.out hb);clear hb hbox hg;have Qe:=Ar.out;have Qf:=Ao.out;obtain⟨Dm,Do,Dp,Dq,Dr,Ds⟩:=qz3 Av.out))
    go_loopg [27] k1 (fun kq Ta w'=>∃(Az:List Int) (Al:Int),Ta=.int .i64 Al∧y0 (z3_.l1 kq Az Ad Ae (Ae.length:Int) Ad ((y17 Ae Ad).f2) (((y17 Ae Ad).f2).length:Int) Al Ae Bb Bc Aw Ay ((y17 Ae Ad).f0) ((y17 Ae Ad).f1) ((y17 Ae Ad).f2)=some r)∧y0 (kq≤k1)∧y0 (Kd.R (Kd.int .i64) 3 w' w.heap.size (fun _=>True) Be Az)∧y0 (w'.heap[Au]?=some (.cells #[(.slice (some Fe) Ae.length Bh),.int .i64 Bb,.string Bc,(.slice Bi Aw.length Bj),(.slice Bk Ay.length Bl)] 36 (0,0)))∧y0 (w'.heap[Cc]?=some (.cells #[.int .i64 ((y17 Ae Ad).f0),.string ((y17 Ae Ad).f1),(.slice Df ((y17 Ae Ad).f2).length Cg)] 63 (0,0)))∧y0 (Below w.heap.size w w'))
    case atStart=>exact⟨(De),(0),qy2,H',⟨Nat.le_refl _⟩,⟨qR (Kd.R_mono (Kd.R_far (p:=⟨Cc,2,none⟩) (Kd.R_far (p:=⟨Cc,1,none⟩) (Kd.R_far (p:=⟨Cc,0,none⟩) (Kd.R_types Ak.out Av.out (by decide)) (fun _ hk=>hk.2) (.int .i64 ((y17 Ae Ad).f0))) (fun _ hk=>hk.2) (.string ((y17 Ae Ad).f1))) (fun _ hk=>hk.2) (.slice Df ((y17 Ae Ad).f2).length Cg)) (fun _ hk=>trivial))⟩,⟨by(with_reducible repeat(first|refine y8 ?_ _|refine y7 ?_|refine y4 ?_ _));refine y9 ?_ Ao.out _;(with_reducible repeat(first|refine y8 ?_ _|refine y7 ?_|refine y4 ?_ _));refine y9 ?_ Ao.out _;(with_reducible repeat(first|refine y8 ?_ _|refine y7 ?_|refine y4 ?_ _));refine y9 ?_ Ao.out _;(with_reducible repeat(first|refine y8 ?_ _|refine y7 ?_|refine y4 ?_ _));exact Ag.out⟩,⟨by(with_reducible repeat(first|refine y8 ?_ _|refine y7 ?_|refine y4 ?_ _));refine blk_put (cs:=#[.int .i64 ((y17 Ae Ad).f0),.string ((y17 Ae Ad).f1),.slice none 0 0]) ?_ 2 _ rfl;(with_reducible repeat(first|refine y8 ?_ _|refine y7 ?_|refine y4 ?_ _));refine blk_put (cs:=#[.int .i64 ((y17 Ae Ad).f0),.string (⟨#[]⟩:ByteArray),.slice none 0 0]) ?_ 1 _ rfl;(with_reducible repeat(first|refine y8 ?_ _|refine y7 ?_|refine y4 ?_ _));refine blk_put (cs:=#[.int .i64 0,.string (⟨#[]⟩:ByteArray),.slice none 0 0]) ?_ 0 _ rfl;(with_reducible repeat(first|refine y8 ?_ _|refine y7 ?_|refine y4 ?_ _));exact Av.out⟩,⟨qb⟩⟩
    case round =>
     clear H'
     (try clear Ge Hp Hq Dm Do Dp Dq Dr Ds Bm Bn Bo Dk Dl)
     obtain⟨Az,Al,rfl,HA,Bt,Ak,Ag,Av,HB⟩:=hrel
     cases gk with
     | zero=>exact absurd HA.out (by simp [z3_.l1])
     | succ k2 =>
      have H:=HA.out
      clear HA
      simp only [z3_.l1]at H
      by_cases Hc:Al < (((y17 Ae Ad).f2).length:Int)
      ·as_aux_lemma =>
       rw [if_pos Hc]at H
       have Hr:=decide_eq_true Hc
       clear Hc
       obtain⟨Qg,H⟩:=qo H
       have Qh:decide (0≤Al)=true:=decide_eq_true Qg
       clear Qg
       obtain⟨Qi,H⟩:=qo H
       have Qj:decide (Al < (((y17 Ae Ad).f2).length:Int))=true:=decide_eq_true Qi
       clear Qi
       obtain⟨Oi,Qk,H⟩:=qB H
       by_cases Ka:Oi=true
       ·subst Ka
        replace H:=qT H
        obtain⟨Ql,H⟩:=qo H
        have Qm:decide (0≤(rd ((y17 Ae Ad).f2) Al))=true:=decide_eq_true Ql
        clear Ql
        obtain⟨Qn,H⟩:=qo H
        have Qo:decide ((rd ((y17 Ae Ad).f2) Al) < (Az.length:Int))=true:=decide_eq_true Qn
        clear Qn
        obtain⟨Gf,Cd⟩:∃ y_:List Int,y_=(Az.set ((rd ((y17 Ae Ad).f2) Al):Int).toNat (wrap64 ((rd Az (rd ((y17 Ae Ad).f2) Al)) + 1))):=⟨_,rfl⟩
        replace H:(z3_.l1 k2 Gf Ad Ae (Ae.length:Int) Ad ((y17 Ae Ad).f2) (((y17 Ae Ad).f2).length:Int) (wrap64 (Al + 1)) Ae Bb Bc Aw Ay ((y17 Ae Ad).f0) ((y17 Ae Ad).f1) ((y17 Ae Ad).f2))=some r:=by first|(rw [Cd];with_reducible exact H)|(have H2_:=(Option.bind_some _ _).symm.trans H;rw [Cd];with_reducible exact H2_)|(have H2_:=(Option.bind_some _ _).symm.trans H;with_reducible exact H2_)|with_reducible exact H|(rw [Cd];exact H)|exact H
        have Hs:=y0.mk Cd
        clear Cd
        have H':=y0.mk H
        clear H
        have Ch:0≤(Al:Int):=of_decide_eq_true qy0
        have Ci:Al < (((y17 Ae Ad).f2).length:Int):=of_decide_eq_true qy0
        obtain⟨Ff,Gg,Ba⟩:=Kd.at_int Co.out Al Ch Ci
        cases Gg
        replace Ba:=(HB.out.cell (World.block_lt_of_cell? w _ Ba)).trans Ba
        replace Ch:=eq_true Ch
        replace Ci:=eq_true Ci
        go_wp2_with (first|((with_reducible refine y13 (f:=29) rfl ?_);refine y15 (some 34) rfl rfl Try.func29 (by kernel_rfl) rfl #[.int .i64 (rd ((y17 Ae Ad).f2) Al),.int .i64 0,.int .i64 (wrap64 (Ad - 1))] rfl qy1 ?_;(with_reducible refine(impl_in.calls (rd ((y17 Ae Ad).f2) Al) 0 (wrap64 (Ad - 1)) true _ Qk.out).mono ?_);rintro e w' ⟨rfl,⟨nd,rfl⟩⟩;refine⟨_,rfl, ?_⟩;(try(rw [drewN_self wr];have e1_:∀(n_:Nat) (a_:Addr),World.cell? wr a_=World.cell? (World.drewN wr n_) a_:=fun _ _=>rfl;have e2_:∀(n_:Nat) (a_:Addr),World.frozen? wr a_=World.frozen? (World.drewN wr n_) a_:=fun _ _=>rfl;generalize hq_:World.drewN wr _=wr;have e3_:=(fun a_=>(e1_ _ a_).trans (congrArg (fun w_=>World.cell? w_ a_) hq_));have e4_:=(fun a_=>(e2_ _ a_).trans (congrArg (fun w_=>World.frozen? w_ a_) hq_));clear e1_ e2_;(try replace Ba:=(e3_ _).symm.trans Ba);skip;clear e3_ e4_;have n0_:y0 (Kd.R (Kd.int .i64) 3 wr w.heap.size (fun _=>True) Be Az):=⟨by rw [← hq_];exact(qR Ak.out)⟩;have n1_:y0 (wr.heap[Au]?=some (.cells #[.slice (some Fe) Ae.length Bh,.int .i64 Bb,.string Bc,.slice Bi Aw.length Bj,.slice Bk Ay.length Bl] 36 (0,0))):=⟨by rw [← hq_];exact(qk Ag.out)⟩;have n2_:y0 (wr.heap[Cc]?=some (.cells #[.int .i64 ((y17 Ae Ad).f0),.string ((y17 Ae Ad).f1),.slice (some Ff) ((y17 Ae Ad).f2).length Cg] 63 (0,0))):=⟨by rw [← hq_];exact(qk Av.out)⟩;have n3_:y0 (Below w.heap.size w wr):=⟨by rw [← hq_];exact qb⟩;clear Ak Ag Av HB hq_;have Ak:=n0_;have Ag:=n1_;have Av:=n2_;have HB:=n3_;clear n0_ n1_ n2_ n3_));obtain⟨Tc,Oj,Ok⟩:=Kd.R_slice Ak.out;subst Ok;have Gh:0≤((rd ((y17 Ae Ad).f2) Al):Int):=of_decide_eq_true qy0;have Gi:(rd ((y17 Ae Ad).f2) Al) < (Az.length:Int):=of_decide_eq_true qy0;obtain⟨Qp,Ol,Dt⟩:=Kd.at_int (Kd.R_reads' Ak.out).2.2 (rd ((y17 Ae Ad).f2) Al) Gh Gi;cases Ol;replace Gh:=eq_true Gh;replace Gi:=eq_true Gi;have Om:0≤((rd ((y17 Ae Ad).f2) Al):Int):=of_decide_eq_true qy0;have On:((rd ((y17 Ae Ad).f2) Al):Int) < ((Az.length:Int):Int):=of_decide_eq_true qy0;obtain⟨Gj,Td,Ht,Hu,Oo,Te,Hv⟩:=Kd.R_form Ak.out (by omega);(first|cases Ht|(injection Ht with ea_ en_ ec_;(first|subst ea_|(injection ea_ with ea_;subst ea_));subst ec_;clear en_));have Op:=y0.mk Hu;have Tf:=y0.mk Hv;clear Hu Oo Hv;(first|simp only [add_plain]at Dt|skip);obtain⟨Oq,Ot⟩:=Kd.R_celln 0 Ak.out ((rd ((y17 Ae Ad).f2) Al):Int) Om On;replace Om:=eq_true Om;replace On:=eq_true On;obtain⟨hy24_,hz24_⟩:=Kd.R_celln 0 Ak.out ((rd ((y17 Ae Ad).f2) Al):Int) (of_decide_eq_true qy0) (of_decide_eq_true qy0);have Gk:=Kd.R_putg Ak.out ((rd ((y17 Ae Ad).f2) Al):Int) (wrap64 ((rd Az (rd ((y17 Ae Ad).f2) Al)) + 1)))|((with_reducible refine gate_store (t:=3) (p:=41) rfl ?_);refine store_event (t:=3) (p:=41) (v:=?vo_w25) (w1:=(wr.setCell ⟨Gj,((rd ((y17 Ae Ad).f2) Al):Int).toNat,none⟩ (.int .i64 (wrap64 ((rd Az (rd ((y17 Ae Ad).f2) Al)) + 1))))) ?hg ?ho ?hn ?hr ?_;(case ho=>rfl);(case hg=>rfl);(case hn=>rfl);(case hr=>first|(go_simp;done)|(go_simp;rfl));intro Ou hw;have hg:wr.grownBy Ou (some Gj):=(by rw [hw];exact Gk.2);have hp_:Kd.R (Kd.int .i64) 3 Ou w.heap.size (fun _=>True) (.slice (some ⟨Gj,0,none⟩) Az.length Oj) Gf:=(by rw [hw,Hs.out];exact Gk.1);clear Gk;replace Ag:=y0.mk (blk_grown (qk Ag.out) hg (Kd.R_ne Ak.out Ag.out (by decide)));replace Av:=y0.mk (blk_grown (qk Av.out) hg (Kd.R_ne Ak.out Av.out (by decide)));replace Ak:=y0.mk (hp_);replace HB:=y0.mk ((by rw [hw];exact below_set (HB.out) Op.out:Below w.heap.size w Ou));clear hg hw hp_))
        go_roundg k2
        case measure=>have:=Bv.out;have:=Bt.out;omega
        exact⟨(Gf),(wrap64 (Al + 1)),qy2,H',⟨by have:=Bv.out;have:=Bt.out;omega⟩,⟨qR Ak.out⟩,⟨qk Ag.out⟩,⟨qk Av.out⟩,⟨qb⟩⟩
       ·replace Ka:=Bool.eq_false_iff.mpr Ka
        subst Ka
        replace H:=qF H
        obtain rfl:=Option.some.inj H
        have Ch:0≤(Al:Int):=of_decide_eq_true qy0
        have Ci:Al < (((y17 Ae Ad).f2).length:Int):=of_decide_eq_true qy0
        obtain⟨Ff,Gg,Ba⟩:=Kd.at_int Co.out Al Ch Ci
        cases Gg
        replace Ba:=(HB.out.cell (World.block_lt_of_cell? w _ Ba)).trans Ba
        replace Ch:=eq_true Ch
        replace Ci:=eq_true Ci
        go_wp2_with (first|((with_reducible refine y13 (f:=29) rfl ?_);refine y15 (some 34) rfl rfl Try.func29 (by kernel_rfl) rfl #[.int .i64 (rd ((y17 Ae Ad).f2) Al),.int .i64 0,.int .i64 (wrap64 (Ad - 1))] rfl qy1 ?_;(with_reducible refine(impl_in.calls (rd ((y17 Ae Ad).f2) Al) 0 (wrap64 (Ad - 1)) false _ Qk.out).mono ?_);rintro e w' ⟨rfl,⟨nd,rfl⟩⟩;refine⟨_,rfl, ?_⟩))
        go_ret
        exact⟨qf,qb⟩
      ·as_aux_lemma =>
       rw [if_neg Hc]at H
       have Hr:=decide_eq_false Hc
       clear Hc
       obtain⟨Ov,Fg,H⟩:=qB H
       by_cases Kb:Ov=true
       ·subst Kb
        replace H:=qT H
        obtain⟨Ow,Gl,H⟩:=qB H
        by_cases Ke:Ow=true
        ·subst Ke
         replace H:=qT H
         by_cases Gm:(((y17 Ae Ad).f2).length:Int)=2
         ·as_aux_lemma =>
          rw [if_pos Gm]at H
          have Hw:((((y17 Ae Ad).f2).length:Int) == 2)=true:=beq_iff_eq.mpr Gm
          have Hx:((((y17 Ae Ad).f2).length:Int) != 2)=false:=bne_eq_false_iff_eq.mpr Gm
          clear Gm
          obtain⟨Ox,Oy,H⟩:=qB H
          by_cases Kf:Ox=true
          ·subst Kf
           replace H:=qT H
           by_cases Hd:(((y17 Ae Ad).f2).length:Int) > 0
           ·as_aux_lemma =>
            rw [if_pos Hd]at H
            have Hy:decide (0 < (((y17 Ae Ad).f2).length:Int))=true:=decide_eq_true Hd
            have Hz:decide (0 < ((y17 Ae Ad).f2).length)=true:=decide_eq_true (by omega)
            clear Hd
            obtain rfl:=Option.some.inj H
            have Qq:=Ar.out
            have Qr:=Ao.out
            obtain⟨Kg,Kh,Ki,Kj,Kk,Kl⟩:=qz3 Av.out
            go_wp2_with (first|((with_reducible refine y13 (f:=29) rfl ?_);refine y15 (some 45) rfl rfl Try.func29 (by kernel_rfl) rfl #[.int .i64 ((y17 Ae Ad).f0),.int .i64 1,.int .i64 7] rfl qy1 ?_;(with_reducible refine(impl_in.calls ((y17 Ae Ad).f0) 1 7 true _ Fg.out).mono ?_);rintro e w' ⟨rfl,⟨nd,rfl⟩⟩;refine⟨_,rfl, ?_⟩)|(go_at_call 65;(with_reducible refine(impl_isSum.calls ((y17 Ae Ad).f0) true _ Gl.out).mono ?_);rintro e w' ⟨rfl,⟨nd,rfl⟩⟩)|(go_at_call 29;(with_reducible refine(impl_in.calls ((y17 Ae Ad).f0) 1 3 true _ Oy.out).mono ?_);rintro e w' ⟨rfl,⟨nd,rfl⟩⟩))
            go_ret
            exact⟨qf,qb⟩
           ·as_aux_lemma =>
            rw [if_neg Hd]at H
            have Hy:decide (0 < (((y17 Ae Ad).f2).length:Int))=false:=decide_eq_false Hd
            have Hz:decide (0 < ((y17 Ae Ad).f2).length)=false:=decide_eq_false (by omega)
            clear Hd
            have H':=y0.mk H
            clear H
            have Qs:=Ar.out
            have Qt:=Ao.out
            obtain⟨Km,Kn,Ko,Kp,Kq,Kr⟩:=qz3 Av.out
            go_wp2_with (first|((with_reducible refine y13 (f:=29) rfl ?_);refine y15 (some 45) rfl rfl Try.func29 (by kernel_rfl) rfl #[.int .i64 ((y17 Ae Ad).f0),.int .i64 1,.int .i64 7] rfl qy1 ?_;(with_reducible refine(impl_in.calls ((y17 Ae Ad).f0) 1 7 true _ Fg.out).mono ?_);rintro e w' ⟨rfl,⟨nd,rfl⟩⟩;refine⟨_,rfl, ?_⟩)|(go_at_call 65;(with_reducible refine(impl_isSum.calls ((y17 Ae Ad).f0) true _ Gl.out).mono ?_);rintro e w' ⟨rfl,⟨nd,rfl⟩⟩)|(go_at_call 29;(with_reducible refine(impl_in.calls ((y17 Ae Ad).f0) 1 3 true _ Oy.out).mono ?_);rintro e w' ⟨rfl,⟨nd,rfl⟩⟩))
            go_roundg k2
            case measure=>have:=Bv.out;have:=Bt.out;omega
            exact⟨(Az),(wrap64 (Ad + 1)),qy2,H',⟨by have:=Bv.out;have:=Bt.out;omega⟩,⟨qR Ak.out⟩,⟨qk Ag.out⟩,⟨qb⟩⟩
          ·replace Kf:=Bool.eq_false_iff.mpr Kf
           subst Kf
           replace H:=qF H
           have H':=y0.mk H
           clear H
           have Qu:=Ar.out
           have Qv:=Ao.out
           obtain⟨Ks,Kt,Ku,Kv,Kw,Kx⟩:=qz3 Av.out
           go_wp2_with (first|((with_reducible refine y13 (f:=29) rfl ?_);refine y15 (some 45) rfl rfl Try.func29 (by kernel_rfl) rfl #[.int .i64 ((y17 Ae Ad).f0),.int .i64 1,.int .i64 7] rfl qy1 ?_;(with_reducible refine(impl_in.calls ((y17 Ae Ad).f0) 1 7 true _ Fg.out).mono ?_);rintro e w' ⟨rfl,⟨nd,rfl⟩⟩;refine⟨_,rfl, ?_⟩)|(go_at_call 65;(with_reducible refine(impl_isSum.calls ((y17 Ae Ad).f0) true _ Gl.out).mono ?_);rintro e w' ⟨rfl,⟨nd,rfl⟩⟩)|(go_at_call 29;(with_reducible refine(impl_in.calls ((y17 Ae Ad).f0) 1 3 false _ Oy.out).mono ?_);rintro e w' ⟨rfl,⟨nd,rfl⟩⟩))
           go_roundg k2
           case measure=>have:=Bv.out;have:=Bt.out;omega
           exact⟨(Az),(wrap64 (Ad + 1)),qy2,H',⟨by have:=Bv.out;have:=Bt.out;omega⟩,⟨qR Ak.out⟩,⟨qk Ag.out⟩,⟨qb⟩⟩
         ·as_aux_lemma =>
          rw [if_neg Gm]at H
          have Hw:((((y17 Ae Ad).f2).length:Int) == 2)=false:=beq_eq_false_iff_ne.mpr Gm
          have Hx:((((y17 Ae Ad).f2).length:Int) != 2)=true:=bne_iff_ne.mpr Gm
          obtain rfl:=Option.some.inj H
          have Qw:=Ar.out
          have Qx:=Ao.out
          obtain⟨Ky,Kz,La,Lb,Lc,Ld⟩:=qz3 Av.out
          go_wp2_with (first|((with_reducible refine y13 (f:=29) rfl ?_);refine y15 (some 45) rfl rfl Try.func29 (by kernel_rfl) rfl #[.int .i64 ((y17 Ae Ad).f0),.int .i64 1,.int .i64 7] rfl qy1 ?_;(with_reducible refine(impl_in.calls ((y17 Ae Ad).f0) 1 7 true _ Fg.out).mono ?_);rintro e w' ⟨rfl,⟨nd,rfl⟩⟩;refine⟨_,rfl, ?_⟩)|(go_at_call 65;(with_reducible refine(impl_isSum.calls ((y17 Ae Ad).f0) true _ Gl.out).mono ?_);rintro e w' ⟨rfl,⟨nd,rfl⟩⟩))
          go_ret
          exact⟨qf,qb⟩
        ·replace Ke:=Bool.eq_false_iff.mpr Ke
         subst Ke
         replace H:=qF H
         obtain⟨Oz,Pa,H⟩:=qB H
         by_cases Le:Oz=true
         ·subst Le
          replace H:=qT H
          by_cases He:(((y17 Ae Ad).f2).length:Int) > 0
          ·as_aux_lemma =>
           rw [if_pos He]at H
           have Ia:decide (0 < (((y17 Ae Ad).f2).length:Int))=true:=decide_eq_true He
           have Ib:decide (0 < ((y17 Ae Ad).f2).length)=true:=decide_eq_true (by omega)
           clear He
           obtain rfl:=Option.some.inj H
           have Qy:=Ar.out
           have Qz:=Ao.out
           obtain⟨Lf,Lg,Lh,Li,Lj,Lk⟩:=qz3 Av.out
           go_wp2_with (first|((with_reducible refine y13 (f:=29) rfl ?_);refine y15 (some 45) rfl rfl Try.func29 (by kernel_rfl) rfl #[.int .i64 ((y17 Ae Ad).f0),.int .i64 1,.int .i64 7] rfl qy1 ?_;(with_reducible refine(impl_in.calls ((y17 Ae Ad).f0) 1 7 true _ Fg.out).mono ?_);rintro e w' ⟨rfl,⟨nd,rfl⟩⟩;refine⟨_,rfl, ?_⟩)|(go_at_call 65;(with_reducible refine(impl_isSum.calls ((y17 Ae Ad).f0) false _ Gl.out).mono ?_);rintro e w' ⟨rfl,⟨nd,rfl⟩⟩)|(go_at_call 29;(with_reducible refine(impl_in.calls ((y17 Ae Ad).f0) 1 3 true _ Pa.out).mono ?_);rintro e w' ⟨rfl,⟨nd,rfl⟩⟩))
           go_ret
           exact⟨qf,qb⟩
          ·as_aux_lemma =>
           rw [if_neg He]at H
           have Ia:decide (0 < (((y17 Ae Ad).f2).length:Int))=false:=decide_eq_false He
           have Ib:decide (0 < ((y17 Ae Ad).f2).length)=false:=decide_eq_false (by omega)
           clear He
           have H':=y0.mk H
           clear H
           have Ra:=Ar.out
           have Rb:=Ao.out
           obtain⟨Ll,Lm,Ln,Lo,Lp,Lq⟩:=qz3 Av.out
           go_wp2_with (first|((with_reducible refine y13 (f:=29) rfl ?_);refine y15 (some 45) rfl rfl Try.func29 (by kernel_rfl) rfl #[.int .i64 ((y17 Ae Ad).f0),.int .i64 1,.int .i64 7] rfl qy1 ?_;(with_reducible refine(impl_in.calls ((y17 Ae Ad).f0) 1 7 true _ Fg.out).mono ?_);rintro e w' ⟨rfl,⟨nd,rfl⟩⟩;refine⟨_,rfl, ?_⟩)|(go_at_call 65;(with_reducible refine(impl_isSum.calls ((y17 Ae Ad).f0) false _ Gl.out).mono ?_);rintro e w' ⟨rfl,⟨nd,rfl⟩⟩)|(go_at_call 29;(with_reducible refine(impl_in.calls ((y17 Ae Ad).f0) 1 3 true _ Pa.out).mono ?_);rintro e w' ⟨rfl,⟨nd,rfl⟩⟩))
           go_roundg k2
           case measure=>have:=Bv.out;have:=Bt.out;omega
           exact⟨(Az),(wrap64 (Ad + 1)),qy2,H',⟨by have:=Bv.out;have:=Bt.out;omega⟩,⟨qR Ak.out⟩,⟨qk Ag.out⟩,⟨qb⟩⟩
         ·replace Le:=Bool.eq_false_iff.mpr Le
          subst Le
          replace H:=qF H
          have H':=y0.mk H
          clear H
          have Rc:=Ar.out
          have Rf:=Ao.out
          obtain⟨Lr,Ls,Lt,Lu,Lv,Lw⟩:=qz3 Av.out
          go_wp2_with (first|((with_reducible refine y13 (f:=29) rfl ?_);refine y15 (some 45) rfl rfl Try.func29 (by kernel_rfl) rfl #[.int .i64 ((y17 Ae Ad).f0),.int .i64 1,.int .i64 7] rfl qy1 ?_;(with_reducible refine(impl_in.calls ((y17 Ae Ad).f0) 1 7 true _ Fg.out).mono ?_);rintro e w' ⟨rfl,⟨nd,rfl⟩⟩;refine⟨_,rfl, ?_⟩)|(go_at_call 65;(with_reducible refine(impl_isSum.calls ((y17 Ae Ad).f0) false _ Gl.out).mono ?_);rintro e w' ⟨rfl,⟨nd,rfl⟩⟩)|(go_at_call 29;(with_reducible refine(impl_in.calls ((y17 Ae Ad).f0) 1 3 false _ Pa.out).mono ?_);rintro e w' ⟨rfl,⟨nd,rfl⟩⟩))
          go_roundg k2
          case measure=>have:=Bv.out;have:=Bt.out;omega
          exact⟨(Az),(wrap64 (Ad + 1)),qy2,H',⟨by have:=Bv.out;have:=Bt.out;omega⟩,⟨qR Ak.out⟩,⟨qk Ag.out⟩,⟨qb⟩⟩
       ·replace Kb:=Bool.eq_false_iff.mpr Kb
        subst Kb
        replace H:=qF H
        obtain rfl:=Option.some.inj H
        have Rg:=Ar.out
        have Rh:=Ao.out
        obtain⟨Lx,Ly,Lz,Ma,Mb,Mc⟩:=qz3 Av.out
        go_wp2_with (first|((with_reducible refine y13 (f:=29) rfl ?_);refine y15 (some 45) rfl rfl Try.func29 (by kernel_rfl) rfl #[.int .i64 ((y17 Ae Ad).f0),.int .i64 1,.int .i64 7] rfl qy1 ?_;(with_reducible refine(impl_in.calls ((y17 Ae Ad).f0) 1 7 false _ Fg.out).mono ?_);rintro e w' ⟨rfl,⟨nd,rfl⟩⟩;refine⟨_,rfl, ?_⟩))
        go_ret
        exact⟨qf,qb⟩
   ·as_aux_lemma =>
    rw [if_neg c9]at H
    have Ge:=decide_eq_false c9
    clear c9
    obtain⟨Ab,Tg,H⟩:=qB H
    have H':=y0.mk H
    clear H
    obtain⟨Du,Dv,Dw,Dx,Dy,Dz,Ea,Eb,Ec,Ed⟩:=qz5 Ag.out
    go_wp2_with (first|((with_reducible refine y13 (f:=80) rfl ?_);refine y15 (some 71) rfl rfl Try.func80 (by kernel_rfl) rfl #[.agg #[.slice Bu Ae.length Bh,.int .i64 Bb,.string Bc,.slice Bi Aw.length Bj,.slice Bk Ay.length Bl]] rfl qy1 ?_;(with_reducible refine(impl_Rule_lits.calls _ _ Ae Bb Bc (fun k_=>k_ < w.heap.size) _ _ Aw (fun k_=>k_ < w.heap.size) _ _ Ay Ab _ (qc (Kd.C_below Fb.out HB.out)) Hh.out (by exact Kd.V_mk Hj.out (Kd.F_below (Kd.C_F (Kd.heap_int .i64) Hi.out) qb)) (by exact Kd.V_mk Hl.out (Kd.F_below (Kd.C_F k33_heap Hk.out) qb)) Tg.out).mono ?_);rintro e To ⟨Th,rfl,Ri,hb⟩;refine⟨_,rfl, ?_⟩;have Fh:=y0.mk (Kd.N_lower (Kd.N_mono (ok':=fun k_=>some k_≠(Be:Value).ownBlock∧k_≠Au) Ri (fun k_ hk_=>⟨Or.elim hk_ (fun hs_=>Or.elim hs_ (fun hs_=>fun e_=>Nat.not_le.2 hs_ (Kd.R_base Ak.out k_ e_.symm)) (fun hs_=>fun e_=>Nat.not_le.2 hs_ (Kd.R_base Ak.out k_ e_.symm))) (fun hn_=>(Kd.fresh' (Kd.R_lt (qR Ak.out)) k_ hn_)),Or.elim hk_ (fun hs_=>Or.elim hs_ (fun hs_=>fun e_=>Nat.not_le.2 hs_ (by rw [e_];exact Fd.out)) (fun hs_=>fun e_=>Nat.not_le.2 hs_ (by rw [e_];exact Fd.out))) (fun hn_=>(Kd.freshB (g:=Au) (o:=.cells #[.slice Bu Ae.length Bh,.int .i64 Bb,.string Bc,.slice Bi Aw.length Bj,.slice Bk Ay.length Bl] 36 (0,0)) (qk Ag.out) k_ hn_))⟩)) (y2 qb));replace Ak:=y0.mk (Kd.R_below (qR Ak.out) hb);replace Ag:=y0.mk (qK Ag.out hb);replace HB:=y0.mk (y3 qb hb);(try clear hb);(try clear Ri);obtain⟨Pb,Bs,Pc⟩:=Kd.N_slice Fh.out;subst Pc))
    go_loopg [73] k1 (fun kq Ti w'=>∃(Az:List Int) (Aa:Int),Ti=.int .i64 Aa∧y0 (z3_.l2 kq Az Ab (Ab.length:Int) Aa Ae Bb Bc Aw Ay=some r)∧y0 (kq≤k1)∧y0 (Kd.R (Kd.int .i64) 3 w' w.heap.size (fun _=>True) Be Az)∧y0 (Kd.N k33 33 w' w.heap.size (fun k_=>some k_≠(Be:Value).ownBlock∧k_≠Au) (.slice Pb Ab.length Bs) Ab)∧y0 (w'.heap[Au]?=some (.cells #[(.slice Bu Ae.length Bh),.int .i64 Bb,.string Bc,(.slice Bi Aw.length Bj),(.slice Bk Ay.length Bl)] 36 (0,0)))∧y0 (Below w.heap.size w w'))
    case atStart=>exact⟨(De),(0),qy2,H',⟨Nat.le_refl _⟩,⟨qR Ak.out⟩,⟨qN Fh.out⟩,⟨qk Ag.out⟩,⟨qb⟩⟩
    case round =>
     clear H'
     (try clear Ge Du Dv Dw Dx Dy Dz Ea Eb Ec Ed)
     obtain⟨Az,Aa,rfl,HA,Bt,Ak,At,Ag,HB⟩:=hrel
     cases gk with
     | zero=>exact absurd HA.out (by simp [z3_.l2])
     | succ k2 =>
      have H:=HA.out
      clear HA
      simp only [z3_.l2]at H
      by_cases Hf:Aa < (Ab.length:Int)
      ·as_aux_lemma =>
       rw [if_pos Hf]at H
       have Fi:=decide_eq_true Hf
       clear Hf
       obtain⟨Rj,H⟩:=qo H
       have Ic:decide (0≤Aa)=true:=decide_eq_true Rj
       clear Rj
       obtain⟨Rk,H⟩:=qo H
       have Id:decide (Aa < (Ab.length:Int))=true:=decide_eq_true Rk
       clear Rk
       have Gn:=y0.mk H
       clear H
       have Dg:0≤(Aa:Int):=of_decide_eq_true qy0
       have Dh:Aa < (Ab.length:Int):=of_decide_eq_true qy0
       obtain⟨Bg,Ai,Ah,Pd,Ee,Ef,Cp,Cq,Cr⟩:=at_T33 (Kd.N_reads' At.out).2.2 Aa Dg Dh
       cases Pd
       obtain⟨Rl,Gp,Gq,Di⟩:=Kd.N_get At.out z33 Aa Dg (by first|exact Dh|exact of_decide_eq_true qy0|(have e_:=(Kd.N_reads' At.out).1;omega))
       obtain⟨Md,Me,rfl,Bw,Bx⟩:=k33_openF Gq
       have Bp:=Di 2 _ rfl
       rw [add_field _ _ 2 (by omega)]at Bp
       replace Bp:=Option.some.inj (Bp.symm.trans Cp)
       injection Bp with hva_ hvn_ hvc_
       rw [hva_]at Bx
       rw [hvc_]at Bw
       have Ap:=y0.mk (show Kd.V (Kd.int .i64) 3 _ w.heap.size _ _ ((y16 Ab Aa).f2)from Kd.V_mk Bw Bx)
       clear hva_ hvn_ hvc_ Bx Bw
       clear Di Gp
       have Bq:=y0.mk Cr
       have Mf:=y0.mk Cq
       clear Cr Cq
       replace Dg:=eq_true Dg
       replace Dh:=eq_true Dh
       go_upto_region 18 with(first|((with_reducible refine y14 (N:=9) rfl ?_);(try(refine gate_guard (by rfl) ?_;dsimp only));refine qe 9 #[.int .i64 0,.string (⟨#[]⟩:ByteArray),.slice none 0 0] 33 ?_;intro Ac hg Tp hbox hb;replace Ak:=y0.mk (Kd.R_below (qR Ak.out) hb);replace At:=y0.mk (Kd.N_below (Kd.N_elderB (qN At.out) Ac (Nat.le_of_eq hg.symm)) hb);replace Ap:=y0.mk (Kd.V_below (Kd.V_elderB (qV Ap.out) Ac (Nat.le_of_eq hg.symm)) hb);replace Bq:=y0.mk (Kd.C_below (by repeat(first|(with_reducible exact Bq.out)|(with_reducible refine Kd.C_alloc ?_ _)|(with_reducible refine Kd.C_drewN ?_ _)|(with_reducible refine Kd.C_drew ?_)|exact Bq.out)) hb);have Am:=y0.mk (hbox);have Rn:=y0.mk (qg (w:=w) hg);have Ro:=y0.mk (qg (w:=w) hg);replace HB:=y0.mk (y3 qb hb);have Af:=y0.mk (qn Ag.out hg);have Aq:=y0.mk (qm Ag.out hg);replace Ag:=y0.mk (qK Ag.out hb);clear hb hbox hg;have Rp:=Aq.out;have Rq:=Af.out;obtain⟨Eg,Eh,Ei,Ej,Ek,El⟩:=qz3 Am.out))
       (try simp only [Act.put,qS_,qZ_,qC_])
       go_cut [101] (fun Pe wc=>∃(kq:Nat) (Br:Bool),Pe=.bool Br∧y0 (z3_.j3 kq Az Ab (Ab.length:Int) Aa Br Ae Bb Bc Aw Ay ((y16 Ab Aa).f0) ((y16 Ab Aa).f1) ((y16 Ab Aa).f2)=some r)∧y0 (kq≤k2)∧y0 (Kd.R (Kd.int .i64) 3 wc w.heap.size (fun _=>True) Be Az)∧y0 (Kd.N k33 33 wc w.heap.size (fun k_=>some k_≠(Be:Value).ownBlock∧k_≠Au∧k_≠Ac) (.slice (some Bg) Ab.length Bs) Ab)∧y0 (Kd.V (Kd.int .i64) 3 wc w.heap.size (fun k_=>some k_≠(Be:Value).ownBlock∧some k_≠((.slice (some Bg) Ab.length Bs):Value).ownBlock∧k_≠Au∧k_≠Ac) (.slice Ai ((y16 Ab Aa).f2).length Ah) ((y16 Ab Aa).f2))∧y0 (wc.heap[Au]?=some (.cells #[(.slice Bu Ae.length Bh),.int .i64 Bb,.string Bc,(.slice Bi Aw.length Bj),(.slice Bk Ay.length Bl)] 36 (0,0)))∧y0 (wc.heap[Ac]?=some (.cells #[.int .i64 ((y16 Ab Aa).f0),.string ((y16 Ab Aa).f1),(.slice Ai ((y16 Ab Aa).f2).length Ah)] 33 (0,0)))∧y0 (Kd.C (Kd.int .i64) wc Ai ((y16 Ab Aa).f2).length ((y16 Ab Aa).f2))∧y0 (Below w.heap.size w wc))
       case first =>
        have H:=Gn.out
        clear Gn
        by_cases Gr:Aa=0
        ·as_aux_lemma =>
         rw [if_pos Gr]at H
         have Ce:(Aa == 0)=true:=beq_iff_eq.mpr Gr
         have Ie:(Aa != 0)=false:=bne_eq_false_iff_eq.mpr Gr
         clear Gr
         (first|rw [Ce]|(simp only [i64_w,i32_w];rw [Ce])|skip)
         by_cases Gs:((y16 Ab Aa).f0)=1
         ·as_aux_lemma =>
          rw [if_pos Gs]at H
          have If:(((y16 Ab Aa).f0) == 1)=true:=beq_iff_eq.mpr Gs
          have Ig:(((y16 Ab Aa).f0) != 1)=false:=bne_eq_false_iff_eq.mpr Gs
          clear Gs
          obtain⟨Pf,Ph,H⟩:=qB H
          by_cases Mg:Pf=true
          ·subst Mg
           replace H:=qT H
           by_cases Gt:((y16 Ab Aa).f0)=3
           ·as_aux_lemma =>
            rw [if_pos Gt]at H
            have Ih:(((y16 Ab Aa).f0) == 3)=true:=beq_iff_eq.mpr Gt
            have Ii:(((y16 Ab Aa).f0) != 3)=false:=bne_eq_false_iff_eq.mpr Gt
            clear Gt
            have H':=y0.mk H
            clear H
            have Rs:=Aq.out
            have Rt:=Af.out
            obtain⟨Mh,Mi,Mj,Ml,Mm,Mn⟩:=qz3 Am.out
            go_wp2_with (first|(go_at_call 29;(with_reducible refine(impl_in.calls ((y16 Ab Aa).f0) 1 3 true _ Ph.out).mono ?_);rintro e w' ⟨rfl,⟨nd,rfl⟩⟩))
            go_meet
            exact⟨_,(((((y16 Ab Aa).f2).length:Int) != 2)),qy2,H',⟨by have:=Bv.out;have:=Bt.out;first|omega|exact Nat.le_refl _⟩,⟨qR (Kd.R_mono (Kd.R_far (p:=⟨Ac,2,none⟩) (Kd.R_far (p:=⟨Ac,1,none⟩) (Kd.R_far (p:=⟨Ac,0,none⟩) (Kd.R_types Ak.out Am.out (by decide)) (fun _ hk=>hk.2) (.int .i64 ((y16 Ab Aa).f0))) (fun _ hk=>hk.2) (.string ((y16 Ab Aa).f1))) (fun _ hk=>hk.2) (.slice Ai ((y16 Ab Aa).f2).length Ah)) (fun _ hk=>trivial))⟩,⟨qN (Kd.N_mono (Kd.N_far (p:=⟨Ac,2,none⟩) (Kd.N_far (p:=⟨Ac,1,none⟩) (Kd.N_far (p:=⟨Ac,0,none⟩) (Kd.N_mono At.out (fun k_ hk=>(⟨hk,hk.2⟩:_∧k_≠Ac))) (fun _ hk=>hk.2) (.int .i64 ((y16 Ab Aa).f0))) (fun _ hk=>hk.2) (.string ((y16 Ab Aa).f1))) (fun _ hk=>hk.2) (.slice Ai ((y16 Ab Aa).f2).length Ah)) (fun _ hk=>⟨hk.1.1.1,⟨hk.1.1.2,hk.1.2⟩⟩))⟩,⟨qV (Kd.V_mono (Kd.V_far (p:=⟨Ac,2,none⟩) (Kd.V_far (p:=⟨Ac,1,none⟩) (Kd.V_far (p:=⟨Ac,0,none⟩) (Kd.V_mono Ap.out (fun k_ hk=>(⟨hk,hk.2⟩:_∧k_≠Ac))) (fun _ hk=>hk.2) (.int .i64 ((y16 Ab Aa).f0))) (fun _ hk=>hk.2) (.string ((y16 Ab Aa).f1))) (fun _ hk=>hk.2) (.slice Ai ((y16 Ab Aa).f2).length Ah)) (fun _ hk=>⟨hk.1.1.1.1,⟨hk.1.1.2,⟨hk.1.1.1.2,hk.1.2⟩⟩⟩))⟩,⟨by(with_reducible repeat(first|refine y8 ?_ _|refine y7 ?_|refine y4 ?_ _));refine y9 ?_ Af.out _;(with_reducible repeat(first|refine y8 ?_ _|refine y7 ?_|refine y4 ?_ _));refine y9 ?_ Af.out _;(with_reducible repeat(first|refine y8 ?_ _|refine y7 ?_|refine y4 ?_ _));refine y9 ?_ Af.out _;(with_reducible repeat(first|refine y8 ?_ _|refine y7 ?_|refine y4 ?_ _));exact Ag.out⟩,⟨by(with_reducible repeat(first|refine y8 ?_ _|refine y7 ?_|refine y4 ?_ _));refine blk_put (cs:=#[.int .i64 ((y16 Ab Aa).f0),.string ((y16 Ab Aa).f1),.slice none 0 0]) ?_ 2 _ rfl;(with_reducible repeat(first|refine y8 ?_ _|refine y7 ?_|refine y4 ?_ _));refine blk_put (cs:=#[.int .i64 ((y16 Ab Aa).f0),.string (⟨#[]⟩:ByteArray),.slice none 0 0]) ?_ 1 _ rfl;(with_reducible repeat(first|refine y8 ?_ _|refine y7 ?_|refine y4 ?_ _));refine blk_put (cs:=#[.int .i64 0,.string (⟨#[]⟩:ByteArray),.slice none 0 0]) ?_ 0 _ rfl;(with_reducible repeat(first|refine y8 ?_ _|refine y7 ?_|refine y4 ?_ _));exact Am.out⟩,⟨(Kd.V_reads' (qV ((Kd.V_mono (Kd.V_far (p:=⟨Ac,2,none⟩) (Kd.V_far (p:=⟨Ac,1,none⟩) (Kd.V_far (p:=⟨Ac,0,none⟩) (Kd.V_mono Ap.out (fun k_ hk=>(⟨hk,hk.2⟩:_∧k_≠Ac))) (fun _ hk=>hk.2) (.int .i64 ((y16 Ab Aa).f0))) (fun _ hk=>hk.2) (.string ((y16 Ab Aa).f1))) (fun _ hk=>hk.2) (.slice Ai ((y16 Ab Aa).f2).length Ah)) (fun _ h_=>h_.1))))).2.2⟩,⟨qb⟩⟩
           ·as_aux_lemma =>
            rw [if_neg Gt]at H
            have Ih:(((y16 Ab Aa).f0) == 3)=false:=beq_eq_false_iff_ne.mpr Gt
            have Ii:(((y16 Ab Aa).f0) != 3)=true:=bne_iff_ne.mpr Gt
            have H':=y0.mk H
            clear H
            have Ru:=Aq.out
            have Rv:=Af.out
            obtain⟨Mo,Mp,Mq,Mr,Ms,Mt⟩:=qz3 Am.out
            go_wp2_with (first|(go_at_call 29;(with_reducible refine(impl_in.calls ((y16 Ab Aa).f0) 1 3 true _ Ph.out).mono ?_);rintro e w' ⟨rfl,⟨nd,rfl⟩⟩))
            go_meet
            exact⟨_,(false),qy2,H',⟨by have:=Bv.out;have:=Bt.out;first|omega|exact Nat.le_refl _⟩,⟨qR (Kd.R_mono (Kd.R_far (p:=⟨Ac,2,none⟩) (Kd.R_far (p:=⟨Ac,1,none⟩) (Kd.R_far (p:=⟨Ac,0,none⟩) (Kd.R_types Ak.out Am.out (by decide)) (fun _ hk=>hk.2) (.int .i64 ((y16 Ab Aa).f0))) (fun _ hk=>hk.2) (.string ((y16 Ab Aa).f1))) (fun _ hk=>hk.2) (.slice Ai ((y16 Ab Aa).f2).length Ah)) (fun _ hk=>trivial))⟩,⟨qN (Kd.N_mono (Kd.N_far (p:=⟨Ac,2,none⟩) (Kd.N_far (p:=⟨Ac,1,none⟩) (Kd.N_far (p:=⟨Ac,0,none⟩) (Kd.N_mono At.out (fun k_ hk=>(⟨hk,hk.2⟩:_∧k_≠Ac))) (fun _ hk=>hk.2) (.int .i64 ((y16 Ab Aa).f0))) (fun _ hk=>hk.2) (.string ((y16 Ab Aa).f1))) (fun _ hk=>hk.2) (.slice Ai ((y16 Ab Aa).f2).length Ah)) (fun _ hk=>⟨hk.1.1.1,⟨hk.1.1.2,hk.1.2⟩⟩))⟩,⟨qV (Kd.V_mono (Kd.V_far (p:=⟨Ac,2,none⟩) (Kd.V_far (p:=⟨Ac,1,none⟩) (Kd.V_far (p:=⟨Ac,0,none⟩) (Kd.V_mono Ap.out (fun k_ hk=>(⟨hk,hk.2⟩:_∧k_≠Ac))) (fun _ hk=>hk.2) (.int .i64 ((y16 Ab Aa).f0))) (fun _ hk=>hk.2) (.string ((y16 Ab Aa).f1))) (fun _ hk=>hk.2) (.slice Ai ((y16 Ab Aa).f2).length Ah)) (fun _ hk=>⟨hk.1.1.1.1,⟨hk.1.1.2,⟨hk.1.1.1.2,hk.1.2⟩⟩⟩))⟩,⟨by(with_reducible repeat(first|refine y8 ?_ _|refine y7 ?_|refine y4 ?_ _));refine y9 ?_ Af.out _;(with_reducible repeat(first|refine y8 ?_ _|refine y7 ?_|refine y4 ?_ _));refine y9 ?_ Af.out _;(with_reducible repeat(first|refine y8 ?_ _|refine y7 ?_|refine y4 ?_ _));refine y9 ?_ Af.out _;(with_reducible repeat(first|refine y8 ?_ _|refine y7 ?_|refine y4 ?_ _));exact Ag.out⟩,⟨by(with_reducible repeat(first|refine y8 ?_ _|refine y7 ?_|refine y4 ?_ _));refine blk_put (cs:=#[.int .i64 ((y16 Ab Aa).f0),.string ((y16 Ab Aa).f1),.slice none 0 0]) ?_ 2 _ rfl;(with_reducible repeat(first|refine y8 ?_ _|refine y7 ?_|refine y4 ?_ _));refine blk_put (cs:=#[.int .i64 ((y16 Ab Aa).f0),.string (⟨#[]⟩:ByteArray),.slice none 0 0]) ?_ 1 _ rfl;(with_reducible repeat(first|refine y8 ?_ _|refine y7 ?_|refine y4 ?_ _));refine blk_put (cs:=#[.int .i64 0,.string (⟨#[]⟩:ByteArray),.slice none 0 0]) ?_ 0 _ rfl;(with_reducible repeat(first|refine y8 ?_ _|refine y7 ?_|refine y4 ?_ _));exact Am.out⟩,⟨(Kd.V_reads' (qV ((Kd.V_mono (Kd.V_far (p:=⟨Ac,2,none⟩) (Kd.V_far (p:=⟨Ac,1,none⟩) (Kd.V_far (p:=⟨Ac,0,none⟩) (Kd.V_mono Ap.out (fun k_ hk=>(⟨hk,hk.2⟩:_∧k_≠Ac))) (fun _ hk=>hk.2) (.int .i64 ((y16 Ab Aa).f0))) (fun _ hk=>hk.2) (.string ((y16 Ab Aa).f1))) (fun _ hk=>hk.2) (.slice Ai ((y16 Ab Aa).f2).length Ah)) (fun _ h_=>h_.1))))).2.2⟩,⟨qb⟩⟩
          ·replace Mg:=Bool.eq_false_iff.mpr Mg
           subst Mg
           replace H:=qF H
           have H':=y0.mk H
           clear H
           have Rw:=Aq.out
           have Rx:=Af.out
           obtain⟨Mu,Mv,Mw,Mx,My,Mz⟩:=qz3 Am.out
           go_wp2_with (first|(go_at_call 29;(with_reducible refine(impl_in.calls ((y16 Ab Aa).f0) 1 3 false _ Ph.out).mono ?_);rintro e w' ⟨rfl,⟨nd,rfl⟩⟩))
           go_meet
           exact⟨_,(true),qy2,H',⟨by have:=Bv.out;have:=Bt.out;first|omega|exact Nat.le_refl _⟩,⟨qR (Kd.R_mono (Kd.R_far (p:=⟨Ac,2,none⟩) (Kd.R_far (p:=⟨Ac,1,none⟩) (Kd.R_far (p:=⟨Ac,0,none⟩) (Kd.R_types Ak.out Am.out (by decide)) (fun _ hk=>hk.2) (.int .i64 ((y16 Ab Aa).f0))) (fun _ hk=>hk.2) (.string ((y16 Ab Aa).f1))) (fun _ hk=>hk.2) (.slice Ai ((y16 Ab Aa).f2).length Ah)) (fun _ hk=>trivial))⟩,⟨qN (Kd.N_mono (Kd.N_far (p:=⟨Ac,2,none⟩) (Kd.N_far (p:=⟨Ac,1,none⟩) (Kd.N_far (p:=⟨Ac,0,none⟩) (Kd.N_mono At.out (fun k_ hk=>(⟨hk,hk.2⟩:_∧k_≠Ac))) (fun _ hk=>hk.2) (.int .i64 ((y16 Ab Aa).f0))) (fun _ hk=>hk.2) (.string ((y16 Ab Aa).f1))) (fun _ hk=>hk.2) (.slice Ai ((y16 Ab Aa).f2).length Ah)) (fun _ hk=>⟨hk.1.1.1,⟨hk.1.1.2,hk.1.2⟩⟩))⟩,⟨qV (Kd.V_mono (Kd.V_far (p:=⟨Ac,2,none⟩) (Kd.V_far (p:=⟨Ac,1,none⟩) (Kd.V_far (p:=⟨Ac,0,none⟩) (Kd.V_mono Ap.out (fun k_ hk=>(⟨hk,hk.2⟩:_∧k_≠Ac))) (fun _ hk=>hk.2) (.int .i64 ((y16 Ab Aa).f0))) (fun _ hk=>hk.2) (.string ((y16 Ab Aa).f1))) (fun _ hk=>hk.2) (.slice Ai ((y16 Ab Aa).f2).length Ah)) (fun _ hk=>⟨hk.1.1.1.1,⟨hk.1.1.2,⟨hk.1.1.1.2,hk.1.2⟩⟩⟩))⟩,⟨by(with_reducible repeat(first|refine y8 ?_ _|refine y7 ?_|refine y4 ?_ _));refine y9 ?_ Af.out _;(with_reducible repeat(first|refine y8 ?_ _|refine y7 ?_|refine y4 ?_ _));refine y9 ?_ Af.out _;(with_reducible repeat(first|refine y8 ?_ _|refine y7 ?_|refine y4 ?_ _));refine y9 ?_ Af.out _;(with_reducible repeat(first|refine y8 ?_ _|refine y7 ?_|refine y4 ?_ _));exact Ag.out⟩,⟨by(with_reducible repeat(first|refine y8 ?_ _|refine y7 ?_|refine y4 ?_ _));refine blk_put (cs:=#[.int .i64 ((y16 Ab Aa).f0),.string ((y16 Ab Aa).f1),.slice none 0 0]) ?_ 2 _ rfl;(with_reducible repeat(first|refine y8 ?_ _|refine y7 ?_|refine y4 ?_ _));refine blk_put (cs:=#[.int .i64 ((y16 Ab Aa).f0),.string (⟨#[]⟩:ByteArray),.slice none 0 0]) ?_ 1 _ rfl;(with_reducible repeat(first|refine y8 ?_ _|refine y7 ?_|refine y4 ?_ _));refine blk_put (cs:=#[.int .i64 0,.string (⟨#[]⟩:ByteArray),.slice none 0 0]) ?_ 0 _ rfl;(with_reducible repeat(first|refine y8 ?_ _|refine y7 ?_|refine y4 ?_ _));exact Am.out⟩,⟨(Kd.V_reads' (qV ((Kd.V_mono (Kd.V_far (p:=⟨Ac,2,none⟩) (Kd.V_far (p:=⟨Ac,1,none⟩) (Kd.V_far (p:=⟨Ac,0,none⟩) (Kd.V_mono Ap.out (fun k_ hk=>(⟨hk,hk.2⟩:_∧k_≠Ac))) (fun _ hk=>hk.2) (.int .i64 ((y16 Ab Aa).f0))) (fun _ hk=>hk.2) (.string ((y16 Ab Aa).f1))) (fun _ hk=>hk.2) (.slice Ai ((y16 Ab Aa).f2).length Ah)) (fun _ h_=>h_.1))))).2.2⟩,⟨qb⟩⟩
         ·as_aux_lemma =>
          rw [if_neg Gs]at H
          have If:(((y16 Ab Aa).f0) == 1)=false:=beq_eq_false_iff_ne.mpr Gs
          have Ig:(((y16 Ab Aa).f0) != 1)=true:=bne_iff_ne.mpr Gs
          have H':=y0.mk H
          clear H
          have Ry:=Aq.out
          have Rz:=Af.out
          obtain⟨Na,Nb,Nc,Nd,Nf,Ng⟩:=qz3 Am.out
          go_wp2
          go_meet
          exact⟨_,(true),qy2,H',⟨by have:=Bv.out;have:=Bt.out;first|omega|exact Nat.le_refl _⟩,⟨qR (Kd.R_mono (Kd.R_far (p:=⟨Ac,2,none⟩) (Kd.R_far (p:=⟨Ac,1,none⟩) (Kd.R_far (p:=⟨Ac,0,none⟩) (Kd.R_types Ak.out Am.out (by decide)) (fun _ hk=>hk.2) (.int .i64 ((y16 Ab Aa).f0))) (fun _ hk=>hk.2) (.string ((y16 Ab Aa).f1))) (fun _ hk=>hk.2) (.slice Ai ((y16 Ab Aa).f2).length Ah)) (fun _ hk=>trivial))⟩,⟨qN (Kd.N_mono (Kd.N_far (p:=⟨Ac,2,none⟩) (Kd.N_far (p:=⟨Ac,1,none⟩) (Kd.N_far (p:=⟨Ac,0,none⟩) (Kd.N_mono At.out (fun k_ hk=>(⟨hk,hk.2⟩:_∧k_≠Ac))) (fun _ hk=>hk.2) (.int .i64 ((y16 Ab Aa).f0))) (fun _ hk=>hk.2) (.string ((y16 Ab Aa).f1))) (fun _ hk=>hk.2) (.slice Ai ((y16 Ab Aa).f2).length Ah)) (fun _ hk=>⟨hk.1.1.1,⟨hk.1.1.2,hk.1.2⟩⟩))⟩,⟨qV (Kd.V_mono (Kd.V_far (p:=⟨Ac,2,none⟩) (Kd.V_far (p:=⟨Ac,1,none⟩) (Kd.V_far (p:=⟨Ac,0,none⟩) (Kd.V_mono Ap.out (fun k_ hk=>(⟨hk,hk.2⟩:_∧k_≠Ac))) (fun _ hk=>hk.2) (.int .i64 ((y16 Ab Aa).f0))) (fun _ hk=>hk.2) (.string ((y16 Ab Aa).f1))) (fun _ hk=>hk.2) (.slice Ai ((y16 Ab Aa).f2).length Ah)) (fun _ hk=>⟨hk.1.1.1.1,⟨hk.1.1.2,⟨hk.1.1.1.2,hk.1.2⟩⟩⟩))⟩,⟨by(with_reducible repeat(first|refine y8 ?_ _|refine y7 ?_|refine y4 ?_ _));refine y9 ?_ Af.out _;(with_reducible repeat(first|refine y8 ?_ _|refine y7 ?_|refine y4 ?_ _));refine y9 ?_ Af.out _;(with_reducible repeat(first|refine y8 ?_ _|refine y7 ?_|refine y4 ?_ _));refine y9 ?_ Af.out _;(with_reducible repeat(first|refine y8 ?_ _|refine y7 ?_|refine y4 ?_ _));exact Ag.out⟩,⟨by(with_reducible repeat(first|refine y8 ?_ _|refine y7 ?_|refine y4 ?_ _));refine blk_put (cs:=#[.int .i64 ((y16 Ab Aa).f0),.string ((y16 Ab Aa).f1),.slice none 0 0]) ?_ 2 _ rfl;(with_reducible repeat(first|refine y8 ?_ _|refine y7 ?_|refine y4 ?_ _));refine blk_put (cs:=#[.int .i64 ((y16 Ab Aa).f0),.string (⟨#[]⟩:ByteArray),.slice none 0 0]) ?_ 1 _ rfl;(with_reducible repeat(first|refine y8 ?_ _|refine y7 ?_|refine y4 ?_ _));refine blk_put (cs:=#[.int .i64 0,.string (⟨#[]⟩:ByteArray),.slice none 0 0]) ?_ 0 _ rfl;(with_reducible repeat(first|refine y8 ?_ _|refine y7 ?_|refine y4 ?_ _));exact Am.out⟩,⟨(Kd.V_reads' (qV ((Kd.V_mono (Kd.V_far (p:=⟨Ac,2,none⟩) (Kd.V_far (p:=⟨Ac,1,none⟩) (Kd.V_far (p:=⟨Ac,0,none⟩) (Kd.V_mono Ap.out (fun k_ hk=>(⟨hk,hk.2⟩:_∧k_≠Ac))) (fun _ hk=>hk.2) (.int .i64 ((y16 Ab Aa).f0))) (fun _ hk=>hk.2) (.string ((y16 Ab Aa).f1))) (fun _ hk=>hk.2) (.slice Ai ((y16 Ab Aa).f2).length Ah)) (fun _ h_=>h_.1))))).2.2⟩,⟨qb⟩⟩
        ·as_aux_lemma =>
         rw [if_neg Gr]at H
         have Ce:(Aa == 0)=false:=beq_eq_false_iff_ne.mpr Gr
         have Ie:(Aa != 0)=true:=bne_iff_ne.mpr Gr
         (first|rw [Ce]|(simp only [i64_w,i32_w];rw [Ce])|skip)
         obtain⟨Pi,Pj,H⟩:=qB H
         by_cases Nh:Pi=true
         ·subst Nh
          replace H:=qT H
          by_cases Gu:((y16 Ab Aa).f0)=3
          ·as_aux_lemma =>
           rw [if_pos Gu]at H
           have Ij:(((y16 Ab Aa).f0) == 3)=true:=beq_iff_eq.mpr Gu
           have Ik:(((y16 Ab Aa).f0) != 3)=false:=bne_eq_false_iff_eq.mpr Gu
           clear Gu
           have H':=y0.mk H
           clear H
           have Sa:=Aq.out
           have Sb:=Af.out
           obtain⟨Ni,Nj,Nk,Nl,Nm,Nn⟩:=qz3 Am.out
           go_wp2_with (first|(go_at_call 29;(with_reducible refine(impl_in.calls ((y16 Ab Aa).f0) 1 3 true _ Pj.out).mono ?_);rintro e w' ⟨rfl,⟨nd,rfl⟩⟩))
           go_meet
           exact⟨_,(((((y16 Ab Aa).f2).length:Int) != 2)),qy2,H',⟨by have:=Bv.out;have:=Bt.out;first|omega|exact Nat.le_refl _⟩,⟨qR (Kd.R_mono (Kd.R_far (p:=⟨Ac,2,none⟩) (Kd.R_far (p:=⟨Ac,1,none⟩) (Kd.R_far (p:=⟨Ac,0,none⟩) (Kd.R_types Ak.out Am.out (by decide)) (fun _ hk=>hk.2) (.int .i64 ((y16 Ab Aa).f0))) (fun _ hk=>hk.2) (.string ((y16 Ab Aa).f1))) (fun _ hk=>hk.2) (.slice Ai ((y16 Ab Aa).f2).length Ah)) (fun _ hk=>trivial))⟩,⟨qN (Kd.N_mono (Kd.N_far (p:=⟨Ac,2,none⟩) (Kd.N_far (p:=⟨Ac,1,none⟩) (Kd.N_far (p:=⟨Ac,0,none⟩) (Kd.N_mono At.out (fun k_ hk=>(⟨hk,hk.2⟩:_∧k_≠Ac))) (fun _ hk=>hk.2) (.int .i64 ((y16 Ab Aa).f0))) (fun _ hk=>hk.2) (.string ((y16 Ab Aa).f1))) (fun _ hk=>hk.2) (.slice Ai ((y16 Ab Aa).f2).length Ah)) (fun _ hk=>⟨hk.1.1.1,⟨hk.1.1.2,hk.1.2⟩⟩))⟩,⟨qV (Kd.V_mono (Kd.V_far (p:=⟨Ac,2,none⟩) (Kd.V_far (p:=⟨Ac,1,none⟩) (Kd.V_far (p:=⟨Ac,0,none⟩) (Kd.V_mono Ap.out (fun k_ hk=>(⟨hk,hk.2⟩:_∧k_≠Ac))) (fun _ hk=>hk.2) (.int .i64 ((y16 Ab Aa).f0))) (fun _ hk=>hk.2) (.string ((y16 Ab Aa).f1))) (fun _ hk=>hk.2) (.slice Ai ((y16 Ab Aa).f2).length Ah)) (fun _ hk=>⟨hk.1.1.1.1,⟨hk.1.1.2,⟨hk.1.1.1.2,hk.1.2⟩⟩⟩))⟩,⟨by(with_reducible repeat(first|refine y8 ?_ _|refine y7 ?_|refine y4 ?_ _));refine y9 ?_ Af.out _;(with_reducible repeat(first|refine y8 ?_ _|refine y7 ?_|refine y4 ?_ _));refine y9 ?_ Af.out _;(with_reducible repeat(first|refine y8 ?_ _|refine y7 ?_|refine y4 ?_ _));refine y9 ?_ Af.out _;(with_reducible repeat(first|refine y8 ?_ _|refine y7 ?_|refine y4 ?_ _));exact Ag.out⟩,⟨by(with_reducible repeat(first|refine y8 ?_ _|refine y7 ?_|refine y4 ?_ _));refine blk_put (cs:=#[.int .i64 ((y16 Ab Aa).f0),.string ((y16 Ab Aa).f1),.slice none 0 0]) ?_ 2 _ rfl;(with_reducible repeat(first|refine y8 ?_ _|refine y7 ?_|refine y4 ?_ _));refine blk_put (cs:=#[.int .i64 ((y16 Ab Aa).f0),.string (⟨#[]⟩:ByteArray),.slice none 0 0]) ?_ 1 _ rfl;(with_reducible repeat(first|refine y8 ?_ _|refine y7 ?_|refine y4 ?_ _));refine blk_put (cs:=#[.int .i64 0,.string (⟨#[]⟩:ByteArray),.slice none 0 0]) ?_ 0 _ rfl;(with_reducible repeat(first|refine y8 ?_ _|refine y7 ?_|refine y4 ?_ _));exact Am.out⟩,⟨(Kd.V_reads' (qV ((Kd.V_mono (Kd.V_far (p:=⟨Ac,2,none⟩) (Kd.V_far (p:=⟨Ac,1,none⟩) (Kd.V_far (p:=⟨Ac,0,none⟩) (Kd.V_mono Ap.out (fun k_ hk=>(⟨hk,hk.2⟩:_∧k_≠Ac))) (fun _ hk=>hk.2) (.int .i64 ((y16 Ab Aa).f0))) (fun _ hk=>hk.2) (.string ((y16 Ab Aa).f1))) (fun _ hk=>hk.2) (.slice Ai ((y16 Ab Aa).f2).length Ah)) (fun _ h_=>h_.1))))).2.2⟩,⟨qb⟩⟩
          ·as_aux_lemma =>
           rw [if_neg Gu]at H
           have Ij:(((y16 Ab Aa).f0) == 3)=false:=beq_eq_false_iff_ne.mpr Gu
           have Ik:(((y16 Ab Aa).f0) != 3)=true:=bne_iff_ne.mpr Gu
           have H':=y0.mk H
           clear H
           have Sc:=Aq.out
           have Sd:=Af.out
           obtain⟨Np,Nq,Nr,Ns,Nt,Nu⟩:=qz3 Am.out
           go_wp2_with (first|(go_at_call 29;(with_reducible refine(impl_in.calls ((y16 Ab Aa).f0) 1 3 true _ Pj.out).mono ?_);rintro e w' ⟨rfl,⟨nd,rfl⟩⟩))
           go_meet
           exact⟨_,(false),qy2,H',⟨by have:=Bv.out;have:=Bt.out;first|omega|exact Nat.le_refl _⟩,⟨qR (Kd.R_mono (Kd.R_far (p:=⟨Ac,2,none⟩) (Kd.R_far (p:=⟨Ac,1,none⟩) (Kd.R_far (p:=⟨Ac,0,none⟩) (Kd.R_types Ak.out Am.out (by decide)) (fun _ hk=>hk.2) (.int .i64 ((y16 Ab Aa).f0))) (fun _ hk=>hk.2) (.string ((y16 Ab Aa).f1))) (fun _ hk=>hk.2) (.slice Ai ((y16 Ab Aa).f2).length Ah)) (fun _ hk=>trivial))⟩,⟨qN (Kd.N_mono (Kd.N_far (p:=⟨Ac,2,none⟩) (Kd.N_far (p:=⟨Ac,1,none⟩) (Kd.N_far (p:=⟨Ac,0,none⟩) (Kd.N_mono At.out (fun k_ hk=>(⟨hk,hk.2⟩:_∧k_≠Ac))) (fun _ hk=>hk.2) (.int .i64 ((y16 Ab Aa).f0))) (fun _ hk=>hk.2) (.string ((y16 Ab Aa).f1))) (fun _ hk=>hk.2) (.slice Ai ((y16 Ab Aa).f2).length Ah)) (fun _ hk=>⟨hk.1.1.1,⟨hk.1.1.2,hk.1.2⟩⟩))⟩,⟨qV (Kd.V_mono (Kd.V_far (p:=⟨Ac,2,none⟩) (Kd.V_far (p:=⟨Ac,1,none⟩) (Kd.V_far (p:=⟨Ac,0,none⟩) (Kd.V_mono Ap.out (fun k_ hk=>(⟨hk,hk.2⟩:_∧k_≠Ac))) (fun _ hk=>hk.2) (.int .i64 ((y16 Ab Aa).f0))) (fun _ hk=>hk.2) (.string ((y16 Ab Aa).f1))) (fun _ hk=>hk.2) (.slice Ai ((y16 Ab Aa).f2).length Ah)) (fun _ hk=>⟨hk.1.1.1.1,⟨hk.1.1.2,⟨hk.1.1.1.2,hk.1.2⟩⟩⟩))⟩,⟨by(with_reducible repeat(first|refine y8 ?_ _|refine y7 ?_|refine y4 ?_ _));refine y9 ?_ Af.out _;(with_reducible repeat(first|refine y8 ?_ _|refine y7 ?_|refine y4 ?_ _));refine y9 ?_ Af.out _;(with_reducible repeat(first|refine y8 ?_ _|refine y7 ?_|refine y4 ?_ _));refine y9 ?_ Af.out _;(with_reducible repeat(first|refine y8 ?_ _|refine y7 ?_|refine y4 ?_ _));exact Ag.out⟩,⟨by(with_reducible repeat(first|refine y8 ?_ _|refine y7 ?_|refine y4 ?_ _));refine blk_put (cs:=#[.int .i64 ((y16 Ab Aa).f0),.string ((y16 Ab Aa).f1),.slice none 0 0]) ?_ 2 _ rfl;(with_reducible repeat(first|refine y8 ?_ _|refine y7 ?_|refine y4 ?_ _));refine blk_put (cs:=#[.int .i64 ((y16 Ab Aa).f0),.string (⟨#[]⟩:ByteArray),.slice none 0 0]) ?_ 1 _ rfl;(with_reducible repeat(first|refine y8 ?_ _|refine y7 ?_|refine y4 ?_ _));refine blk_put (cs:=#[.int .i64 0,.string (⟨#[]⟩:ByteArray),.slice none 0 0]) ?_ 0 _ rfl;(with_reducible repeat(first|refine y8 ?_ _|refine y7 ?_|refine y4 ?_ _));exact Am.out⟩,⟨(Kd.V_reads' (qV ((Kd.V_mono (Kd.V_far (p:=⟨Ac,2,none⟩) (Kd.V_far (p:=⟨Ac,1,none⟩) (Kd.V_far (p:=⟨Ac,0,none⟩) (Kd.V_mono Ap.out (fun k_ hk=>(⟨hk,hk.2⟩:_∧k_≠Ac))) (fun _ hk=>hk.2) (.int .i64 ((y16 Ab Aa).f0))) (fun _ hk=>hk.2) (.string ((y16 Ab Aa).f1))) (fun _ hk=>hk.2) (.slice Ai ((y16 Ab Aa).f2).length Ah)) (fun _ h_=>h_.1))))).2.2⟩,⟨qb⟩⟩
         ·replace Nh:=Bool.eq_false_iff.mpr Nh
          subst Nh
          replace H:=qF H
          have H':=y0.mk H
          clear H
          have Se:=Aq.out
          have Sf:=Af.out
          obtain⟨Nv,Nw,Nx,Ny,Nz,Oa⟩:=qz3 Am.out
          go_wp2_with (first|(go_at_call 29;(with_reducible refine(impl_in.calls ((y16 Ab Aa).f0) 1 3 false _ Pj.out).mono ?_);rintro e w' ⟨rfl,⟨nd,rfl⟩⟩))
          go_meet
          exact⟨_,(true),qy2,H',⟨by have:=Bv.out;have:=Bt.out;first|omega|exact Nat.le_refl _⟩,⟨qR (Kd.R_mono (Kd.R_far (p:=⟨Ac,2,none⟩) (Kd.R_far (p:=⟨Ac,1,none⟩) (Kd.R_far (p:=⟨Ac,0,none⟩) (Kd.R_types Ak.out Am.out (by decide)) (fun _ hk=>hk.2) (.int .i64 ((y16 Ab Aa).f0))) (fun _ hk=>hk.2) (.string ((y16 Ab Aa).f1))) (fun _ hk=>hk.2) (.slice Ai ((y16 Ab Aa).f2).length Ah)) (fun _ hk=>trivial))⟩,⟨qN (Kd.N_mono (Kd.N_far (p:=⟨Ac,2,none⟩) (Kd.N_far (p:=⟨Ac,1,none⟩) (Kd.N_far (p:=⟨Ac,0,none⟩) (Kd.N_mono At.out (fun k_ hk=>(⟨hk,hk.2⟩:_∧k_≠Ac))) (fun _ hk=>hk.2) (.int .i64 ((y16 Ab Aa).f0))) (fun _ hk=>hk.2) (.string ((y16 Ab Aa).f1))) (fun _ hk=>hk.2) (.slice Ai ((y16 Ab Aa).f2).length Ah)) (fun _ hk=>⟨hk.1.1.1,⟨hk.1.1.2,hk.1.2⟩⟩))⟩,⟨qV (Kd.V_mono (Kd.V_far (p:=⟨Ac,2,none⟩) (Kd.V_far (p:=⟨Ac,1,none⟩) (Kd.V_far (p:=⟨Ac,0,none⟩) (Kd.V_mono Ap.out (fun k_ hk=>(⟨hk,hk.2⟩:_∧k_≠Ac))) (fun _ hk=>hk.2) (.int .i64 ((y16 Ab Aa).f0))) (fun _ hk=>hk.2) (.string ((y16 Ab Aa).f1))) (fun _ hk=>hk.2) (.slice Ai ((y16 Ab Aa).f2).length Ah)) (fun _ hk=>⟨hk.1.1.1.1,⟨hk.1.1.2,⟨hk.1.1.1.2,hk.1.2⟩⟩⟩))⟩,⟨by(with_reducible repeat(first|refine y8 ?_ _|refine y7 ?_|refine y4 ?_ _));refine y9 ?_ Af.out _;(with_reducible repeat(first|refine y8 ?_ _|refine y7 ?_|refine y4 ?_ _));refine y9 ?_ Af.out _;(with_reducible repeat(first|refine y8 ?_ _|refine y7 ?_|refine y4 ?_ _));refine y9 ?_ Af.out _;(with_reducible repeat(first|refine y8 ?_ _|refine y7 ?_|refine y4 ?_ _));exact Ag.out⟩,⟨by(with_reducible repeat(first|refine y8 ?_ _|refine y7 ?_|refine y4 ?_ _));refine blk_put (cs:=#[.int .i64 ((y16 Ab Aa).f0),.string ((y16 Ab Aa).f1),.slice none 0 0]) ?_ 2 _ rfl;(with_reducible repeat(first|refine y8 ?_ _|refine y7 ?_|refine y4 ?_ _));refine blk_put (cs:=#[.int .i64 ((y16 Ab Aa).f0),.string (⟨#[]⟩:ByteArray),.slice none 0 0]) ?_ 1 _ rfl;(with_reducible repeat(first|refine y8 ?_ _|refine y7 ?_|refine y4 ?_ _));refine blk_put (cs:=#[.int .i64 0,.string (⟨#[]⟩:ByteArray),.slice none 0 0]) ?_ 0 _ rfl;(with_reducible repeat(first|refine y8 ?_ _|refine y7 ?_|refine y4 ?_ _));exact Am.out⟩,⟨(Kd.V_reads' (qV ((Kd.V_mono (Kd.V_far (p:=⟨Ac,2,none⟩) (Kd.V_far (p:=⟨Ac,1,none⟩) (Kd.V_far (p:=⟨Ac,0,none⟩) (Kd.V_mono Ap.out (fun k_ hk=>(⟨hk,hk.2⟩:_∧k_≠Ac))) (fun _ hk=>hk.2) (.int .i64 ((y16 Ab Aa).f0))) (fun _ hk=>hk.2) (.string ((y16 Ab Aa).f1))) (fun _ hk=>hk.2) (.slice Ai ((y16 Ab Aa).f2).length Ah)) (fun _ h_=>h_.1))))).2.2⟩,⟨qb⟩⟩
       case rest =>
        clear Gn
        (try clear Fi Ic Id Eg Eh Ei Ej Ek El Ee Ef Cp Dg Dh)
        obtain⟨kq,Br,rfl,HA,Em,Ak,At,As,Ag,Am,Bq,HB⟩:=hcut
        cases kq with
        | zero=>exact absurd HA.out (by simp [z3_.j3])
        | succ Il =>
         have H:=HA.out
         clear HA
         simp only [z3_.j3]at H
         by_cases Im:Br=true
         ·subst Im
          replace H:=qT H
          obtain rfl:=Option.some.inj H
          go_wp2
          go_ret
          exact⟨qf,qb⟩
         ·replace Im:=Bool.eq_false_iff.mpr Im
          subst Im
          replace H:=qF H
          have H':=y0.mk H
          clear H
          have Sg:=Aq.out
          have Sh:=Af.out
          obtain⟨En,Eo,Ep,Eq,Er,Es⟩:=qz3 Am.out
          go_wp2
          go_loopg [105] Il (fun kq Pk w'=>∃(Bd:List Int) (Aj:Int),Pk=.int .i64 Aj∧y0 (z3_.l3 kq Bd Ab (Ab.length:Int) Aa ((y16 Ab Aa).f2) (((y16 Ab Aa).f2).length:Int) Aj Ae Bb Bc Aw Ay=some r)∧y0 (kq≤Il)∧y0 (Kd.R (Kd.int .i64) 3 w' w.heap.size (fun _=>True) Be Bd)∧y0 (Kd.N k33 33 w' w.heap.size (fun k_=>some k_≠(Be:Value).ownBlock∧k_≠Au∧k_≠Ac) (.slice (some Bg) Ab.length Bs) Ab)∧y0 (Kd.V (Kd.int .i64) 3 w' w.heap.size (fun k_=>some k_≠(Be:Value).ownBlock∧some k_≠((.slice (some Bg) Ab.length Bs):Value).ownBlock∧k_≠Au∧k_≠Ac) (.slice Ai ((y16 Ab Aa).f2).length Ah) ((y16 Ab Aa).f2))∧y0 (Kd.V (Kd.int .i64) 3 w' w.heap.size (fun k_=>some k_≠(Be:Value).ownBlock∧some k_≠((.slice (some Bg) Ab.length Bs):Value).ownBlock∧k_≠Au∧k_≠Ac) (.slice Ai ((y16 Ab Aa).f2).length Ah) ((y16 Ab Aa).f2))∧y0 (w'.heap[Au]?=some (.cells #[(.slice Bu Ae.length Bh),.int .i64 Bb,.string Bc,(.slice Bi Aw.length Bj),(.slice Bk Ay.length Bl)] 36 (0,0)))∧y0 (w'.heap[Ac]?=some (.cells #[.int .i64 ((y16 Ab Aa).f0),.string ((y16 Ab Aa).f1),(.slice Ai ((y16 Ab Aa).f2).length Ah)] 33 (0,0)))∧y0 (Below w.heap.size w w'))
          case atStart=>exact⟨(Az),(0),qy2,H',⟨Nat.le_refl _⟩,⟨qR Ak.out⟩,⟨qN At.out⟩,⟨qV As.out⟩,⟨qV As.out⟩,⟨qk Ag.out⟩,⟨qk Am.out⟩,⟨qb⟩⟩
          case round =>
           clear H'
           (try clear Im En Eo Ep Eq Er Es)
           obtain⟨Bd,Aj,rfl,HA,Ob,Ak,At,Bf,As,Ag,Am,HB⟩:=hrel
           cases gk with
           | zero=>exact absurd HA.out (by simp [z3_.l3])
           | succ k4 =>
            have H:=HA.out
            clear HA
            simp only [z3_.l3]at H
            by_cases Hg:Aj < (((y16 Ab Aa).f2).length:Int)
            ·as_aux_lemma =>
             rw [if_pos Hg]at H
             have Io:=decide_eq_true Hg
             clear Hg
             obtain⟨Si,H⟩:=qo H
             have Sj:decide (0≤Aj)=true:=decide_eq_true Si
             clear Si
             obtain⟨Sk,H⟩:=qo H
             have Sl:decide (Aj < (((y16 Ab Aa).f2).length:Int))=true:=decide_eq_true Sk
             clear Sk
             obtain⟨Pm,Sm,H⟩:=qB H
             by_cases Oc:Pm=true
             ·subst Oc
              replace H:=qT H
              obtain⟨Sn,H⟩:=qo H
              have So:decide (0≤(rd ((y16 Ab Aa).f2) Aj))=true:=decide_eq_true Sn
              clear Sn
              obtain⟨Sp,H⟩:=qo H
              have Sq:decide ((rd ((y16 Ab Aa).f2) Aj) < (Bd.length:Int))=true:=decide_eq_true Sp
              clear Sp
              obtain⟨Gv,Cf⟩:∃ y_:List Int,y_=(Bd.set ((rd ((y16 Ab Aa).f2) Aj):Int).toNat (wrap64 ((rd Bd (rd ((y16 Ab Aa).f2) Aj)) + 1))):=⟨_,rfl⟩
              replace H:(z3_.l3 k4 Gv Ab (Ab.length:Int) Aa ((y16 Ab Aa).f2) (((y16 Ab Aa).f2).length:Int) (wrap64 (Aj + 1)) Ae Bb Bc Aw Ay)=some r:=by first|(rw [Cf];with_reducible exact H)|(have H2_:=(Option.bind_some _ _).symm.trans H;rw [Cf];with_reducible exact H2_)|(have H2_:=(Option.bind_some _ _).symm.trans H;with_reducible exact H2_)|with_reducible exact H|(rw [Cf];exact H)|exact H
              have Ip:=y0.mk Cf
              clear Cf
              have H':=y0.mk H
              clear H
              have Cj:0≤(Aj:Int):=of_decide_eq_true qy0
              have Ck:Aj < (((y16 Ab Aa).f2).length:Int):=of_decide_eq_true qy0
              obtain⟨Cs,Gw,Bz⟩:=Kd.at_int (Kd.V_reads' Bf.out).2.2 Aj Cj Ck
              cases Gw
              replace Cj:=eq_true Cj
              replace Ck:=eq_true Ck
              have Sr:=Af.out
              have Ss:=Aq.out
              obtain⟨Ct,Cu,Cv,Cw,Cx,Cy,Cz,Da,Db,Dc⟩:=qz5 Ag.out
              go_wp2_with (first|((with_reducible refine y13 (f:=29) rfl ?_);refine y15 (some 114) rfl rfl Try.func29 (by kernel_rfl) rfl #[.int .i64 (rd ((y16 Ab Aa).f2) Aj),.int .i64 0,.int .i64 (wrap64 ((Ae.length:Int) - 1))] rfl qy1 ?_;(with_reducible refine(impl_in.calls (rd ((y16 Ab Aa).f2) Aj) 0 (wrap64 ((Ae.length:Int) - 1)) true _ Sm.out).mono ?_);rintro e w' ⟨rfl,⟨nd,rfl⟩⟩;refine⟨_,rfl, ?_⟩;(try(rw [drewN_self wr];have e1_:∀(n_:Nat) (a_:Addr),World.cell? wr a_=World.cell? (World.drewN wr n_) a_:=fun _ _=>rfl;have e2_:∀(n_:Nat) (a_:Addr),World.frozen? wr a_=World.frozen? (World.drewN wr n_) a_:=fun _ _=>rfl;generalize hq_:World.drewN wr _=wr;have e3_:=(fun a_=>(e1_ _ a_).trans (congrArg (fun w_=>World.cell? w_ a_) hq_));have e4_:=(fun a_=>(e2_ _ a_).trans (congrArg (fun w_=>World.frozen? w_ a_) hq_));clear e1_ e2_;(try replace Bz:=(e3_ _).symm.trans Bz);(try replace Ct:=(e3_ _).symm.trans Ct);(try replace Cy:=(e4_ _).symm.trans Cy);(try replace Cu:=(e3_ _).symm.trans Cu);(try replace Cz:=(e4_ _).symm.trans Cz);(try replace Cv:=(e3_ _).symm.trans Cv);(try replace Da:=(e4_ _).symm.trans Da);(try replace Cw:=(e3_ _).symm.trans Cw);(try replace Db:=(e4_ _).symm.trans Db);(try replace Cx:=(e3_ _).symm.trans Cx);(try replace Dc:=(e4_ _).symm.trans Dc);skip;clear e3_ e4_;have n0_:y0 (Kd.V (Kd.int .i64) 3 wr w.heap.size (fun k_=>some k_≠(Be:Value).ownBlock∧some k_≠(.slice (some Bg) Ab.length Bs:Value).ownBlock∧k_≠Au∧k_≠Ac) (.slice (some Cs) ((y16 Ab Aa).f2).length Ah) ((y16 Ab Aa).f2)):=⟨by rw [← hq_];exact(qV Bf.out)⟩;have n1_:y0 (Kd.R (Kd.int .i64) 3 wr w.heap.size (fun _=>True) Be Bd):=⟨by rw [← hq_];exact(qR Ak.out)⟩;have n2_:y0 (Kd.V (Kd.int .i64) 3 wr w.heap.size (fun k_=>some k_≠(Be:Value).ownBlock∧some k_≠(.slice (some Bg) Ab.length Bs:Value).ownBlock∧k_≠Au∧k_≠Ac) (.slice (some Cs) ((y16 Ab Aa).f2).length Ah) ((y16 Ab Aa).f2)):=⟨by rw [← hq_];exact(qV As.out)⟩;have n3_:y0 (Kd.N k33 33 wr w.heap.size (fun k_=>some k_≠(Be:Value).ownBlock∧k_≠Au∧k_≠Ac) (.slice (some Bg) Ab.length Bs) Ab):=⟨by rw [← hq_];exact(qN At.out)⟩;have n4_:y0 (wr.heap[Au]?=some (.cells #[.slice Bu Ae.length Bh,.int .i64 Bb,.string Bc,.slice Bi Aw.length Bj,.slice Bk Ay.length Bl] 36 (0,0))):=⟨by rw [← hq_];exact(qk Ag.out)⟩;have n5_:y0 (wr.heap[Ac]?=some (.cells #[.int .i64 ((y16 Ab Aa).f0),.string ((y16 Ab Aa).f1),.slice (some Cs) ((y16 Ab Aa).f2).length Ah] 33 (0,0))):=⟨by rw [← hq_];exact(qk Am.out)⟩;have n6_:y0 (Below w.heap.size w wr):=⟨by rw [← hq_];exact qb⟩;clear Bf Ak As At Ag Am HB hq_;have Bf:=n0_;have Ak:=n1_;have As:=n2_;have At:=n3_;have Ag:=n4_;have Am:=n5_;have HB:=n6_;clear n0_ n1_ n2_ n3_ n4_ n5_ n6_));obtain⟨Tj,Cl,Pn⟩:=Kd.R_slice Ak.out;subst Pn;have Gx:0≤((rd ((y16 Ab Aa).f2) Aj):Int):=of_decide_eq_true qy0;have Gy:(rd ((y16 Ab Aa).f2) Aj) < (Bd.length:Int):=of_decide_eq_true qy0;obtain⟨St,Po,Et⟩:=Kd.at_int (Kd.R_reads' Ak.out).2.2 (rd ((y16 Ab Aa).f2) Aj) Gx Gy;cases Po;replace Gx:=eq_true Gx;replace Gy:=eq_true Gy;have Pp:0≤((rd ((y16 Ab Aa).f2) Aj):Int):=of_decide_eq_true qy0;have Pq:((rd ((y16 Ab Aa).f2) Aj):Int) < ((Bd.length:Int):Int):=of_decide_eq_true qy0;obtain⟨Ca,Tk,Iq,Ir,Pr,Tl,Is⟩:=Kd.R_form Ak.out (by omega);(first|cases Iq|(injection Iq with ea_ en_ ec_;(first|subst ea_|(injection ea_ with ea_;subst ea_));subst ec_;clear en_));have Ps:=y0.mk Ir;have Tm:=y0.mk Is;clear Ir Pr Is;(first|simp only [add_plain]at Et|skip);obtain⟨Pt,Pu⟩:=Kd.R_celln 0 Ak.out ((rd ((y16 Ab Aa).f2) Aj):Int) Pp Pq;replace Pp:=eq_true Pp;replace Pq:=eq_true Pq;obtain⟨hy100_,hz100_⟩:=Kd.R_celln 0 Ak.out ((rd ((y16 Ab Aa).f2) Aj):Int) (of_decide_eq_true qy0) (of_decide_eq_true qy0);have Dj:=Kd.R_putg Ak.out ((rd ((y16 Ab Aa).f2) Aj):Int) (wrap64 ((rd Bd (rd ((y16 Ab Aa).f2) Aj)) + 1)))|((with_reducible refine gate_store (t:=3) (p:=121) rfl ?_);refine store_event (t:=3) (p:=121) (v:=?vo_w101) (w1:=(wr.setCell ⟨Ca,((rd ((y16 Ab Aa).f2) Aj):Int).toNat,none⟩ (.int .i64 (wrap64 ((rd Bd (rd ((y16 Ab Aa).f2) Aj)) + 1))))) ?hg ?ho ?hn ?hr ?_;(case ho=>rfl);(case hg=>rfl);(case hn=>rfl);(case hr=>first|(go_simp;done)|(go_simp;rfl));intro Gz hw;have hg:wr.grownBy Gz (some Ca):=(by rw [hw];exact Dj.2);have hp_:Kd.R (Kd.int .i64) 3 Gz w.heap.size (fun _=>True) (.slice (some ⟨Ca,0,none⟩) Bd.length Cl) Gv:=(by rw [hw,Ip.out];exact Dj.1);clear Dj;replace At:=y0.mk (Kd.N_afterv (v:=(.slice (some ⟨Ca,0,none⟩) Bd.length Cl)) (v1:=(.slice (some ⟨Ca,0,none⟩) Bd.length Cl)) (ok:=(fun k_=>k_≠Au∧k_≠Ac)) (qN (Kd.N_mono At.out (fun _ hk=>⟨⟨hk.2.1,hk.2.2⟩,hk.1⟩))) hg (.inl rfl));replace Bf:=y0.mk (Kd.V_afterv (v:=(.slice (some ⟨Ca,0,none⟩) Bd.length Cl)) (v1:=(.slice (some ⟨Ca,0,none⟩) Bd.length Cl)) (ok:=(fun k_=>some k_≠(.slice (some Bg) Ab.length Bs:Value).ownBlock∧k_≠Au∧k_≠Ac)) (qV (Kd.V_mono Bf.out (fun _ hk=>⟨⟨hk.2.1,⟨hk.2.2.1,hk.2.2.2⟩⟩,hk.1⟩))) hg (.inl rfl));replace As:=y0.mk (Kd.V_afterv (v:=(.slice (some ⟨Ca,0,none⟩) Bd.length Cl)) (v1:=(.slice (some ⟨Ca,0,none⟩) Bd.length Cl)) (ok:=(fun k_=>some k_≠(.slice (some Bg) Ab.length Bs:Value).ownBlock∧k_≠Au∧k_≠Ac)) (qV (Kd.V_mono As.out (fun _ hk=>⟨⟨hk.2.1,⟨hk.2.2.1,hk.2.2.2⟩⟩,hk.1⟩))) hg (.inl rfl));replace Ag:=y0.mk (blk_grown (qk Ag.out) hg (Kd.R_ne Ak.out Ag.out (by decide)));replace Am:=y0.mk (blk_grown (qk Am.out) hg (Kd.R_ne Ak.out Am.out (by decide)));replace Ak:=y0.mk (hp_);replace HB:=y0.mk ((by rw [hw];exact below_set (HB.out) Ps.out:Below w.heap.size w Gz));clear hg hw hp_))
              go_roundg k4
              case measure=>have:=Bv.out;have:=Bt.out;have:=Em.out;have:=Ob.out;omega
              exact⟨(Gv),(wrap64 (Aj + 1)),qy2,H',⟨by have:=Bv.out;have:=Bt.out;have:=Em.out;have:=Ob.out;omega⟩,⟨qR Ak.out⟩,⟨qN (Kd.N_mono At.out (fun _ hk=>⟨hk.2,⟨hk.1.1,hk.1.2⟩⟩))⟩,⟨qV (Kd.V_mono Bf.out (fun _ hk=>⟨hk.2,⟨hk.1.1,⟨hk.1.2.1,hk.1.2.2⟩⟩⟩))⟩,⟨qV (Kd.V_mono As.out (fun _ hk=>⟨hk.2,⟨hk.1.1,⟨hk.1.2.1,hk.1.2.2⟩⟩⟩))⟩,⟨qk Ag.out⟩,⟨qk Am.out⟩,⟨qb⟩⟩
             ·replace Oc:=Bool.eq_false_iff.mpr Oc
              subst Oc
              replace H:=qF H
              obtain rfl:=Option.some.inj H
              have Cj:0≤(Aj:Int):=of_decide_eq_true qy0
              have Ck:Aj < (((y16 Ab Aa).f2).length:Int):=of_decide_eq_true qy0
              obtain⟨Cs,Gw,Bz⟩:=Kd.at_int (Kd.V_reads' Bf.out).2.2 Aj Cj Ck
              cases Gw
              replace Cj:=eq_true Cj
              replace Ck:=eq_true Ck
              have Pv:=Af.out
              have Pw:=Aq.out
              obtain⟨Iu,Iv,Iw,Ix,Iy,Iz,Ja,Jb,Jc,Jd⟩:=qz5 Ag.out
              go_wp2_with (first|((with_reducible refine y13 (f:=29) rfl ?_);refine y15 (some 114) rfl rfl Try.func29 (by kernel_rfl) rfl #[.int .i64 (rd ((y16 Ab Aa).f2) Aj),.int .i64 0,.int .i64 (wrap64 ((Ae.length:Int) - 1))] rfl qy1 ?_;(with_reducible refine(impl_in.calls (rd ((y16 Ab Aa).f2) Aj) 0 (wrap64 ((Ae.length:Int) - 1)) false _ Sm.out).mono ?_);rintro e w' ⟨rfl,⟨nd,rfl⟩⟩;refine⟨_,rfl, ?_⟩))
              go_ret
              exact⟨qf,qb⟩
            ·as_aux_lemma =>
             rw [if_neg Hg]at H
             have Io:=decide_eq_false Hg
             clear Hg
             have H':=y0.mk H
             clear H
             go_wp2
             go_roundg k4
             case measure=>have:=Bv.out;have:=Bt.out;have:=Em.out;have:=Ob.out;omega
             exact⟨(Bd),(wrap64 (Aa + 1)),qy2,H',⟨by have:=Bv.out;have:=Bt.out;have:=Em.out;have:=Ob.out;omega⟩,⟨qR Ak.out⟩,⟨qN (Kd.N_mono At.out (fun _ hk=>⟨hk.1,hk.2.1⟩))⟩,⟨qk Ag.out⟩,⟨qb⟩⟩
      ·as_aux_lemma =>
       rw [if_neg Hf]at H
       have Fi:=decide_eq_false Hf
       clear Hf
       by_cases Dd:(Ae.length:Int)≤60
       ·as_aux_lemma =>
        rw [if_pos Dd]at H
        have Ha:=decide_eq_true Dd
        have Hb:decide (Ae.length≤60)=true:=decide_eq_true (by omega)
        clear Dd
        obtain⟨Px,Py,H⟩:=qB H
        obtain rfl:=Option.some.inj H
        obtain⟨Je,Jf,Jg,Jh,Ji,Jj,Jk,Jl,Jm,Jn⟩:=qz5 Ag.out
        obtain⟨Su,Sv,Jo⟩:=Kd.R_slice Ak.out
        subst Jo
        go_wp2_with (first|(go_at_call 81;(with_reducible refine(slices_ContainsFunc_int_int_impl_isFormed_1.calls k2 _ _ Az  Px _ (qc ((Kd.R_reads' Ak.out).2.2)) (by exact(Kd.R_reads' Ak.out).2.1) Py.out).mono ?_);rintro e w' ⟨rfl,⟨nd,rfl⟩⟩))
        go_ret
        exact⟨qf,qb⟩
       ·as_aux_lemma =>
        rw [if_neg Dd]at H
        have Ha:=decide_eq_false Dd
        have Hb:decide (Ae.length≤60)=false:=decide_eq_false (by omega)
        clear Dd
        obtain rfl:=Option.some.inj H
        obtain⟨Jp,Jq,Jr,Js,Jt,Ju,Jv,Jw,Jx,Jy⟩:=qz5 Ag.out
        go_wp2
        go_ret
        exact⟨qf,qb⟩
end Go.Proofs.Ytkdabljlfbmpdaa.Pg
end
section
namespace Go.Proofs.Ytkdabljlfbmpdaa.Pg
open Go.RowKit Go.Proofs.YtkdabljlfbmpdaaW.PrintWords Go.Proofs.YtkdabljlfbmpdaaW.PrintLast Go.Proofs.YtkdabljlfbmpdaaW.PrintMore
attribute [local go_sem] max2_int min2_int max_two min_two max_three min_three max_four min_four   -- for this text's walks alone
set_option linter.unusedVariables false
set_option linter.unusedSimpArgs false
/-- strings.Join: a text within the model's room. -/
def strings_Join.f (l0:List ByteArray) (a1:ByteArray):Option ByteArray:=if(Lib.join (l0.map (·.data.toList)) a1.data.toList).length≤140737488355328 then if l0.length≤140737488355328 then some ⟨(Lib.join (l0.map (·.data.toList)) a1.data.toList).toArray⟩else none else none
theorem strings_Join.calls (A0:Option Addr) (c0:Nat) (l0:List ByteArray) (a1:ByteArray) (r:ByteArray) (w:World) (Ab:Kd.C Kd.string w A0 l0.length l0) (Ac:l0.length≤c0) (h:strings_Join.f l0 a1=some r) :
  Calls Try.prog 69 #[.slice A0 l0.length c0,.string a1] w fun e w'=>e=.returned (.string r)∧Below w.heap.size w w':=by
 unfold strings_Join.f at h
 by_cases h0:(Lib.join (l0.map (·.data.toList)) a1.data.toList).length≤140737488355328
 ·by_cases h1:l0.length≤140737488355328
  ·rw [if_pos h0,if_pos h1]at h
   obtain rfl:=Option.some.inj h
   cases l0 with
   | nil =>
    refine(Try.strings_Join_none A0 c0 a1 w).mono ?_
    rintro e w' ⟨rfl,rfl⟩
    exact⟨rfl,Below.refl _ _⟩
   | cons x xs =>
    obtain⟨⟨b,o,p⟩,rfl,hx⟩:=Ab.2.2 (by simp)
    have hcell:∀(j:Nat) y,(x :: xs)[j]?=some y→w.cell? ((⟨b,o,p⟩:Addr).add j)=some (.string y):=by
     intro j y hy
     obtain⟨c,hl,hK,hc⟩:=hx j y hy
     have e:c=[.string y]:=hK
     have:=hc 0 (.string y) (by rw [e];rfl)
     simpa [Kd.string,Kd.scalar] using this
    have hp:p=none:=by
     have Aa:=hcell 0 x rfl
     cases p with
     | none=>rfl
     | some q =>
      simp only [World.cell?,Addr.add]at Aa
      split at Aa <;> simp at Aa
    subst hp
    have hcell2:∀(j:Nat) y,(x :: xs)[j]?=some y→w.cell? ⟨b,o + j,none⟩=some (.string y):=by
     intro j y hy
     have:=hcell j y hy
     have e:(⟨b,o,none⟩:Addr).add j=⟨b,o + j,none⟩:=by
      unfold Addr.add
      split <;> simp_all
     rwa [e]at this
    exact Try.strings_Join b o c0 (x :: xs) a1 w hcell2 (World.block_lt_of_cell? w _ (hcell2 0 x rfl)) h1 Ac h0
  ·rw [if_pos h0,if_neg h1]at h
   cases h
 ·rw [if_neg h0]at h
  cases h
end Go.Proofs.Ytkdabljlfbmpdaa.Pg
end
