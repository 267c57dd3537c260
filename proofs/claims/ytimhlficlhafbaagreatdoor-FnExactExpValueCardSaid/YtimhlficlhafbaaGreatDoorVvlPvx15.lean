-- Cut by prune.py.
import Derived.Test.YtimhlficlhafbaaGreatDoorVvlPvx13
section
namespace Go.Proofs.YtimhlficlhafbaaGreatDoor.Pv
open RowKit YtimhlficlhafbaaGreatDoorW.PrintWords YtimhlficlhafbaaGreatDoorW.PrintLast YtimhlficlhafbaaGreatDoorW.PrintMore
set_option linter.unusedVariables false
set_option linter.unusedSimpArgs false
mutual
def z3_.l0:Nat→List Int→List (S67)→Int→Int→List (S67)→Int→ByteArray→List Int→List (S35)→Option (Bool)
 | 0,_,_,_,_,_,_,_,_,_=>none
 | k + 1,x3,An,Ea,Ae,Ao,By,Dd,De,Dz=>if Ae < Ea then(if 0≤Ae then(if Ae < (An.length:Int)then(z3_.l1 k x3 Ae An Ea Ae ((y23 An Ae).f2) (((y23 An Ae).f2).length:Int) 0 Ao By Dd De Dz ((y23 An Ae).f0) ((y23 An Ae).f1) ((y23 An Ae).f2))else(none))else(none))else((impl_Rule_lits.f Ao By Dd De Dz).bind fun Ec=>(z3_.l2 k x3 Ec (Ec.length:Int) 0 Ao By Dd De Dz))
def z3_.l1:Nat→List Int→Int→List (S67)→Int→Int→List Int→Int→Int→List (S67)→Int→ByteArray→List Int→List (S35)→Int→ByteArray→List Int→Option (Bool)
 | 0,_,_,_,_,_,_,_,_,_,_,_,_,_,_,_,_=>none
 | k + 1,x3,x4,Ao,By,Dd,An,Ez,Ae,De,Dz,Ea,Ec,Ee,Em,Fa,Ep=>if Ae < Ez then(if 0≤Ae then(if Ae < (An.length:Int)then((impl_in.f (rd An Ae) 0 (wrap64 (x4 - 1))).bind fun Fe=>(if Fe=true then(if 0≤(rd An Ae)then(if(rd An Ae) < (x3.length:Int)then(z3_.l1 k (x3.set ((rd An Ae):Int).toNat (wrap64 ((rd x3 (rd An Ae)) + 1))) x4 Ao By Dd An Ez (wrap64 (Ae + 1)) De Dz Ea Ec Ee Em Fa Ep)else(none))else(none))else(some false)))else(none))else(none))else((impl_in.f Em 1 7).bind fun Fg=>(if Fg=true then((impl_isSum.f Em).bind fun Fh=>(if Fh=true then(if(Ep.length:Int)=2 then((impl_in.f Em 1 3).bind fun Fn=>(if Fn=true then(if(Ep.length:Int) > 0 then(some false)else(z3_.l0 k x3 Ao By (wrap64 (Dd + 1)) De Dz Ea Ec Ee))else(z3_.l0 k x3 Ao By (wrap64 (Dd + 1)) De Dz Ea Ec Ee)))else(some false))else((impl_in.f Em 1 3).bind fun Fo=>(if Fo=true then(if(Ep.length:Int) > 0 then(some false)else(z3_.l0 k x3 Ao By (wrap64 (Dd + 1)) De Dz Ea Ec Ee))else(z3_.l0 k x3 Ao By (wrap64 (Dd + 1)) De Dz Ea Ec Ee)))))else(some false)))
def z3_.l2:Nat→List Int→List (S35)→Int→Int→List (S67)→Int→ByteArray→List Int→List (S35)→Option (Bool)
 | 0,_,_,_,_,_,_,_,_,_=>none
 | k + 1,x3,An,Ao,Ae,By,Dd,De,Dz,Ea=>if Ae < Ao then(if 0≤Ae then(if Ae < (An.length:Int)then(if Ae=0 then(if((y22 An Ae).f0)=1 then((impl_in.f ((y22 An Ae).f0) 1 3).bind fun Ec=>(if Ec=true then(if((y22 An Ae).f0)=3 then(z3_.j3 k x3 An Ao Ae ((((y22 An Ae).f2).length:Int) != 2) By Dd De Dz Ea ((y22 An Ae).f0) ((y22 An Ae).f1) ((y22 An Ae).f2))else(z3_.j3 k x3 An Ao Ae false By Dd De Dz Ea ((y22 An Ae).f0) ((y22 An Ae).f1) ((y22 An Ae).f2)))else(z3_.j3 k x3 An Ao Ae true By Dd De Dz Ea ((y22 An Ae).f0) ((y22 An Ae).f1) ((y22 An Ae).f2))))else(z3_.j3 k x3 An Ao Ae true By Dd De Dz Ea ((y22 An Ae).f0) ((y22 An Ae).f1) ((y22 An Ae).f2)))else((impl_in.f ((y22 An Ae).f0) 1 3).bind fun Ee=>(if Ee=true then(if((y22 An Ae).f0)=3 then(z3_.j3 k x3 An Ao Ae ((((y22 An Ae).f2).length:Int) != 2) By Dd De Dz Ea ((y22 An Ae).f0) ((y22 An Ae).f1) ((y22 An Ae).f2))else(z3_.j3 k x3 An Ao Ae false By Dd De Dz Ea ((y22 An Ae).f0) ((y22 An Ae).f1) ((y22 An Ae).f2)))else(z3_.j3 k x3 An Ao Ae true By Dd De Dz Ea ((y22 An Ae).f0) ((y22 An Ae).f1) ((y22 An Ae).f2)))))else(none))else(none))else(if(By.length:Int)≤60 then((slices_ContainsFunc_int_int_impl_isFormed_1.f k x3).bind fun Em=>(some (!Em)))else(some false))
def z3_.j3:Nat→List Int→List (S35)→Int→Int→Bool→List (S67)→Int→ByteArray→List Int→List (S35)→Int→ByteArray→List Int→Option (Bool)
 | 0,_,_,_,_,_,_,_,_,_,_,_,_,_=>none
 | k + 1,x3,An,Ao,By,Dd,De,Dz,Ea,Ec,Ee,x397000,x397001,Ae=>if Dd=true then(some false)else(z3_.l3 k x3 An Ao By Ae (Ae.length:Int) 0 De Dz Ea Ec Ee)
def z3_.l3:Nat→List Int→List (S35)→Int→Int→List Int→Int→Int→List (S67)→Int→ByteArray→List Int→List (S35)→Option (Bool)
 | 0,_,_,_,_,_,_,_,_,_,_,_,_=>none
 | k + 1,x3,By,Dd,De,An,Dz,Ae,Ao,Ea,Ec,Ee,Em=>if Ae < Dz then(if 0≤Ae then(if Ae < (An.length:Int)then((impl_in.f (rd An Ae) 0 (wrap64 ((Ao.length:Int) - 1))).bind fun Ep=>(if Ep=true then(if 0≤(rd An Ae)then(if(rd An Ae) < (x3.length:Int)then(z3_.l3 k (x3.set ((rd An Ae):Int).toNat (wrap64 ((rd x3 (rd An Ae)) + 1))) By Dd De An Dz (wrap64 (Ae + 1)) Ao Ea Ec Ee Em)else(none))else(none))else(some false)))else(none))else(none))else(z3_.l2 k x3 By Dd (wrap64 (De + 1)) Ao Ea Ec Ee Em)
end
def z3_.f (k:Nat) (Ae:List (S67)) (An:Int) (Ao:ByteArray) (By:List Int) (Dd:List (S35)):Option (Bool):=if 0≤(Ae.length:Int)then(if((Ae.length:Int):Int).toNat≤35184372088832 then(z3_.l0 k (List.replicate ((Ae.length:Int):Int).toNat 0) Ae (Ae.length:Int) 0 Ae An Ao By Dd)else(none))else(none)
set_option maxHeartbeats 8000000 in
set_option maxRecDepth 100000 in
theorem z3_.calls (k:Nat) (Bv:Option Addr) (Bi:Nat) (Af:List (S67)) (Bc:Int) (Bd:ByteArray) (Bj:Option Addr) (Bk:Nat) (Ay:List Int) (Bl:Option Addr) (Bm:Nat) (Az:List (S35)) (r:Bool) (w:World) (Ex:Kd.C k67 w Bv Af.length Af) (Ey:Af.length≤Bi) (Ez:Kd.C (Kd.int .i64) w Bj Ay.length Ay) (Fa:Ay.length≤Bk) (Fb:Kd.C k35 w Bl Az.length Az) (Fc:Az.length≤Bm) (h:z3_.f k Af Bc Bd Ay Az=some r) :
  Calls Tryz.prog 52 #[.agg #[.slice Bv Af.length Bi,.int .i64 Bc,.string Bd,.slice Bj Ay.length Bk,.slice Bl Az.length Bm]] w fun e w'=>e=.returned (.bool r)∧Below w.heap.size w w':=by
 have Td:=Tryz.underlying38
 have Te:=Tryz.underlying67
 have Tf:=Tryz.underlying35
 have Fd:=y0.mk Ex
 have Hj:=y0.mk Ey
 clear Ex Ey
 have Hk:=y0.mk Ez
 have Hl:=y0.mk Fa
 clear Ez Fa
 have Hm:=y0.mk Fb
 have Hn:=y0.mk Fc
 clear Fb Fc
 have HB:=y0.mk (Below.refl w.heap.size w)
 have H:(if 0≤(Af.length:Int)then(if((Af.length:Int):Int).toNat≤35184372088832 then(z3_.l0 k (List.replicate ((Af.length:Int):Int).toNat 0) Af (Af.length:Int) 0 Af Bc Bd Ay Az)else(none))else(none))=some r:=h
 clear h
 obtain⟨c2,H⟩:=qo H
 have Og:=eq_true c2
 have Oh:=decide_eq_true c2
 clear c2
 obtain⟨c3,H⟩:=qo H
 have Oi:=eq_true c3
 have Oj:=decide_eq_true c3
 clear c3
 obtain⟨Ho,Cc⟩:∃ y_:List Int,y_=(List.replicate ((Af.length:Int):Int).toNat 0):=⟨_,rfl⟩
 replace H:(z3_.l0 k Ho Af (Af.length:Int) 0 Af Bc Bd Ay Az)=some r:=by first|exact Cc ▸ H|exact Cc ▸ (Option.bind_some _ _).symm.trans H
 replace Cc:=y0.mk Cc
 have H':=y0.mk H
 clear H
 go_enter Tryz.func52,Tryz.ntmps52
 go_wp2_with (first|((with_reducible refine y19 (N:=1) rfl ?_);(try(refine y20 (by rfl) ?_;dsimp only));refine qe 1 #[.slice Bv Af.length Bi,.int .i64 Bc,.string Bd,.slice Bj Ay.length Bk,.slice Bl Az.length Bm] 38 ?_;intro Aw hg w4 hbox hb;have Ah:=y0.mk (hbox);have Ff:=y0.mk (qg (w:=w) hg);have Qe:=y0.mk (qg (w:=w) hg);replace HB:=y0.mk (y5 qb hb);clear hb hbox hg;obtain⟨Fl,Fm,Fn,Fo,Fp,Fq,Fr,Fs,Ft,Fu⟩:=qz5 Ah.out)|((with_reducible refine y19 (N:=15) rfl ?_);(try(refine y20 (by rfl) ?_;dsimp only));refine Kd.R_make (Kd.int .i64) _ 3 rfl (N:=15) rfl 23 _ _ rfl (Af.length:Int) rfl rfl Tryz.underlying23 (.int .i64 0) 8 info3 rfl (by decide) (by omega) 0 (ok:=fun _=>True) (okp:=fun _=>True) rfl (fun _ hk=>hk) trivial (of_decide_eq_true qy0) (Nat.le_trans (Nat.mul_le_mul_right _ (of_decide_eq_true qy0:(Af.length:Int).toNat≤35184372088832)) (by omega)) (Below.refl _ _) (Nat.le_refl _) ?_;intro Bf w6 Hp hb hg_ hnew_;clear hg_ hnew_;(first|rw [← Cc.out]at Hp|(simp only [Int.reduceToNat]at Hp;rw [← Cc.out]at Hp));have Hq:=y0.mk (Kd.R_lower Hp (y4 qb));replace Ah:=y0.mk (qK Ah.out hb);replace HB:=y0.mk (y5 qb hb);clear hb Hp;obtain⟨Fv,Fx,Fy,Fz,Ga,Gb,Gc,Gd,Ge,Gf⟩:=qz5 Ah.out))
 go_loopg [19] k (fun kq Tg w'=>∃(Df:List Int) (Ad:Int),Tg=.int .i64 Ad∧y0 (z3_.l0 kq Df Af (Af.length:Int) Ad Af Bc Bd Ay Az=some r)∧y0 (kq≤k)∧y0 (Kd.R (Kd.int .i64) 3 w' w.heap.size (fun _=>True) Bf Df)∧y0 (w'.heap[Aw]?=some (.cells #[(.slice Bv Af.length Bi),.int .i64 Bc,.string Bd,(.slice Bj Ay.length Bk),(.slice Bl Az.length Bm)] 38 (0,0)))∧y0 (Below w.heap.size w w'))
 case atStart=>exact⟨(Ho),(0),qy2,H',⟨Nat.le_refl _⟩,⟨qR Hq.out⟩,⟨qk Ah.out⟩,⟨qb⟩⟩
 case round =>
  clear H'
  (try clear Og Oh Oi Oj Fl Fm Fn Fo Fp Fv Fx Fy Fz Ga Fq Fr Fs Ft Fu Gb Gc Gd Ge Gf)
  obtain⟨Df,Ad,rfl,HA,Bw,Al,Ah,HB⟩:=hrel
  cases gk with
  | zero=>exact absurd HA.out (by simp [z3_.l0])
  | succ k1 =>
   have H:=HA.out
   clear HA
   simp only [z3_.l0]at H
   by_cases c9:Ad < (Af.length:Int)
   ·as_aux_lemma =>
    rw [if_pos c9]at H
    have Gg:=decide_eq_true c9
    clear c9
    obtain⟨Qf,H⟩:=qo H
    have Hr:decide (0≤Ad)=true:=decide_eq_true Qf
    clear Qf
    obtain⟨Qg,H⟩:=qo H
    have Hs:decide (Ad < (Af.length:Int))=true:=decide_eq_true Qg
    clear Qg
    have H':=y0.mk H
    clear H
    have Dl:0≤(Ad:Int):=qd
    have Dm:Ad < (Af.length:Int):=qd
    obtain⟨Fg,Dg,Ch,Ol,Bn,Bo,Bp,Cn,Co⟩:=at_T67 Fd.out Ad Dl Dm
    cases Ol
    replace Bn:=qC Bn HB
    replace Bo:=qC Bo HB
    replace Bp:=qC Bp HB
    have Cp:=y0.mk Co
    have Kb:=y0.mk Cn
    clear Co Cn
    replace Dl:=eq_true Dl
    replace Dm:=eq_true Dm
    go_wp2_with (first|((with_reducible refine y19 (N:=5) rfl ?_);(try(refine y20 (by rfl) ?_;dsimp only));refine qe 5 #[.int .i64 0,.string (⟨#[]⟩:ByteArray),.slice none 0 0] 67 ?_;intro Cd hg Tu hbox hb;replace Al:=y0.mk (Kd.R_below (qR Al.out) hb);have Ax:=y0.mk (hbox);have Qh:=y0.mk (qg (w:=w) hg);have Qi:=y0.mk (qg (w:=w) hg);replace HB:=y0.mk (y5 qb hb);have Aq:=y0.mk (qn Ah.out hg);have At:=y0.mk (qm Ah.out hg);replace Ah:=y0.mk (qK Ah.out hb);clear hb hbox hg;have Qj:=At.out;have Qk:=Aq.out;obtain⟨Do,Dp,Dq,Dr,Ds,Dt⟩:=qz3 Ax.out))
    go_loopg [27] k1 (fun kq Th w'=>∃(Ba:List Int) (Am:Int),Th=.int .i64 Am∧y0 (z3_.l1 kq Ba Ad Af (Af.length:Int) Ad ((y23 Af Ad).f2) (((y23 Af Ad).f2).length:Int) Am Af Bc Bd Ay Az ((y23 Af Ad).f0) ((y23 Af Ad).f1) ((y23 Af Ad).f2)=some r)∧y0 (kq≤k1)∧y0 (Kd.R (Kd.int .i64) 3 w' w.heap.size (fun _=>True) Bf Ba)∧y0 (w'.heap[Aw]?=some (.cells #[(.slice (some Fg) Af.length Bi),.int .i64 Bc,.string Bd,(.slice Bj Ay.length Bk),(.slice Bl Az.length Bm)] 38 (0,0)))∧y0 (w'.heap[Cd]?=some (.cells #[.int .i64 ((y23 Af Ad).f0),.string ((y23 Af Ad).f1),(.slice Dg ((y23 Af Ad).f2).length Ch)] 67 (0,0)))∧y0 (Below w.heap.size w w'))
    case atStart=>exact⟨(Df),(0),qy2,H',⟨Nat.le_refl _⟩,⟨qR (Kd.R_mono (qfR Cd (Kd.R_types Al.out Ax.out (by decide)) (.int .i64 ((y23 Af Ad).f0)) (.string ((y23 Af Ad).f1)) (.slice Dg ((y23 Af Ad).f2).length Ch)) (fun _ hk=>trivial))⟩,⟨by(with_reducible repeat(first|refine y10 ?_ _|refine y9 ?_|refine y6 ?_ _));refine y11 ?_ Aq.out _;refine y11 ?_ Aq.out _;refine y11 ?_ Aq.out _;(with_reducible repeat(first|refine y10 ?_ _|refine y9 ?_|refine y6 ?_ _));exact Ah.out⟩,⟨by(with_reducible repeat(first|refine y10 ?_ _|refine y9 ?_|refine y6 ?_ _));refine y13 (cs:=#[.int .i64 ((y23 Af Ad).f0),.string ((y23 Af Ad).f1),.slice none 0 0]) ?_ 2 _ rfl;refine y13 (cs:=#[.int .i64 ((y23 Af Ad).f0),.string (⟨#[]⟩:ByteArray),.slice none 0 0]) ?_ 1 _ rfl;refine y13 (cs:=#[.int .i64 0,.string (⟨#[]⟩:ByteArray),.slice none 0 0]) ?_ 0 _ rfl;(with_reducible repeat(first|refine y10 ?_ _|refine y9 ?_|refine y6 ?_ _));exact Ax.out⟩,⟨qb⟩⟩
    case round =>
     clear H'
     (try clear Gg Hr Hs Do Dp Dq Dr Ds Dt Bn Bo Bp Dl Dm)
     obtain⟨Ba,Am,rfl,HA,Bu,Al,Ah,Ax,HB⟩:=hrel
     cases gk with
     | zero=>exact absurd HA.out (by simp [z3_.l1])
     | succ k2 =>
      have H:=HA.out
      clear HA
      simp only [z3_.l1]at H
      by_cases He:Am < (((y23 Af Ad).f2).length:Int)
      ·as_aux_lemma =>
       rw [if_pos He]at H
       have Ht:=decide_eq_true He
       clear He
       obtain⟨Ql,H⟩:=qo H
       have Qm:decide (0≤Am)=true:=decide_eq_true Ql
       clear Ql
       obtain⟨Qn,H⟩:=qo H
       have Qo:decide (Am < (((y23 Af Ad).f2).length:Int))=true:=decide_eq_true Qn
       clear Qn
       obtain⟨Om,Qp,H⟩:=qB H
       by_cases Ke:Om=true
       ·subst Ke
        replace H:=qT H
        obtain⟨Qq,H⟩:=qo H
        have Qr:decide (0≤(rd ((y23 Af Ad).f2) Am))=true:=decide_eq_true Qq
        clear Qq
        obtain⟨Qs,H⟩:=qo H
        have Qt:decide ((rd ((y23 Af Ad).f2) Am) < (Ba.length:Int))=true:=decide_eq_true Qs
        clear Qs
        obtain⟨Gh,Ce⟩:∃ y_:List Int,y_=(Ba.set ((rd ((y23 Af Ad).f2) Am):Int).toNat (wrap64 ((rd Ba (rd ((y23 Af Ad).f2) Am)) + 1))):=⟨_,rfl⟩
        replace H:(z3_.l1 k2 Gh Ad Af (Af.length:Int) Ad ((y23 Af Ad).f2) (((y23 Af Ad).f2).length:Int) (wrap64 (Am + 1)) Af Bc Bd Ay Az ((y23 Af Ad).f0) ((y23 Af Ad).f1) ((y23 Af Ad).f2))=some r:=by first|exact Ce ▸ H|exact Ce ▸ (Option.bind_some _ _).symm.trans H
        replace Ce:=y0.mk Ce
        have H':=y0.mk H
        clear H
        have Ci:0≤(Am:Int):=qd
        have Cj:Am < (((y23 Af Ad).f2).length:Int):=qd
        obtain⟨Fh,Gi,Bb⟩:=Kd.at_int Cp.out Am Ci Cj
        cases Gi
        replace Bb:=qC Bb HB
        replace Ci:=eq_true Ci
        replace Cj:=eq_true Cj
        go_wp2_with (first|((with_reducible refine y18 (f:=22) rfl ?_);refine y21 (some 34) rfl rfl Tryz.func22 (by kernel_rfl) rfl #[.int .i64 (rd ((y23 Af Ad).f2) Am),.int .i64 0,.int .i64 (wrap64 (Ad - 1))] rfl qy1 ?_;(with_reducible refine(impl_in.calls (rd ((y23 Af Ad).f2) Am) 0 (wrap64 (Ad - 1)) true _ Qp.out).mono ?_);rintro e w' ⟨rfl,⟨nd,rfl⟩⟩;refine⟨_,rfl, ?_⟩;(try(rw [drewN_self wr];have e1_:∀(n_:Nat) (a_:Addr),World.cell? wr a_=World.cell? (World.drewN wr n_) a_:=fun _ _=>rfl;have e2_:∀(n_:Nat) (a_:Addr),World.frozen? wr a_=World.frozen? (World.drewN wr n_) a_:=fun _ _=>rfl;generalize hq_:World.drewN wr _=wr;have e3_:=(fun a_=>(e1_ _ a_).trans (congrArg (fun w_=>World.cell? w_ a_) hq_));have e4_:=(fun a_=>(e2_ _ a_).trans (congrArg (fun w_=>World.frozen? w_ a_) hq_));clear e1_ e2_;(try replace Bb:=(e3_ _).symm.trans Bb);skip;clear e3_ e4_;have n0_:y0 (Kd.R (Kd.int .i64) 3 wr w.heap.size (fun _=>True) Bf Ba):=⟨by rw [← hq_];exact(qR Al.out)⟩;have n1_:y0 (wr.heap[Aw]?=some (.cells #[.slice (some Fg) Af.length Bi,.int .i64 Bc,.string Bd,.slice Bj Ay.length Bk,.slice Bl Az.length Bm] 38 (0,0))):=⟨by rw [← hq_];exact(qk Ah.out)⟩;have n2_:y0 (wr.heap[Cd]?=some (.cells #[.int .i64 ((y23 Af Ad).f0),.string ((y23 Af Ad).f1),.slice (some Fh) ((y23 Af Ad).f2).length Ch] 67 (0,0))):=⟨by rw [← hq_];exact(qk Ax.out)⟩;have n3_:y0 (Below w.heap.size w wr):=⟨by rw [← hq_];exact qb⟩;clear Al Ah Ax HB hq_;have Al:=n0_;have Ah:=n1_;have Ax:=n2_;have HB:=n3_;clear n0_ n1_ n2_ n3_));obtain⟨Ti,On,Oo⟩:=Kd.R_slice Al.out;subst Oo;have Gj:0≤((rd ((y23 Af Ad).f2) Am):Int):=qd;have Gk:(rd ((y23 Af Ad).f2) Am) < (Ba.length:Int):=qd;obtain⟨Qu,Oq,Du⟩:=Kd.at_int (Kd.R_reads' Al.out).2.2 (rd ((y23 Af Ad).f2) Am) Gj Gk;cases Oq;replace Gj:=eq_true Gj;replace Gk:=eq_true Gk;have Ot:0≤((rd ((y23 Af Ad).f2) Am):Int):=qd;have Ou:((rd ((y23 Af Ad).f2) Am):Int) < ((Ba.length:Int):Int):=qd;obtain⟨Gl,Tj,Hv,Hw,Ov,Tk,Hx⟩:=Kd.R_form Al.out (by omega);(first|cases Hv|(injection Hv with ea_ en_ ec_;(first|subst ea_|(injection ea_ with ea_;subst ea_));subst ec_;clear en_));have Ow:=y0.mk Hw;have Tl:=y0.mk Hx;clear Hw Ov Hx;(first|simp only [add_plain]at Du|skip);obtain⟨Ox,Oy⟩:=Kd.R_celln 0 Al.out ((rd ((y23 Af Ad).f2) Am):Int) Ot Ou;replace Ot:=eq_true Ot;replace Ou:=eq_true Ou;obtain⟨hy24_,hz24_⟩:=Kd.R_celln 0 Al.out ((rd ((y23 Af Ad).f2) Am):Int) (of_decide_eq_true qy0) (of_decide_eq_true qy0);have Gm:=Kd.R_putg Al.out ((rd ((y23 Af Ad).f2) Am):Int) (wrap64 ((rd Ba (rd ((y23 Af Ad).f2) Am)) + 1)))|((with_reducible refine gate_store (t:=3) (p:=41) rfl ?_);refine store_event (t:=3) (p:=41) (v:=?vo_w25) (w1:=(wr.setCell ⟨Gl,((rd ((y23 Af Ad).f2) Am):Int).toNat,none⟩ (.int .i64 (wrap64 ((rd Ba (rd ((y23 Af Ad).f2) Am)) + 1))))) ?hg ?ho ?hn ?hr ?_;(case ho=>rfl);(case hg=>rfl);(case hn=>rfl);(case hr=>first|(go_simp;done)|(go_simp;rfl));intro Oz hw;have hg:wr.grownBy Oz (some Gl):=(by rw [hw];exact Gm.2);have hp_:Kd.R (Kd.int .i64) 3 Oz w.heap.size (fun _=>True) (.slice (some ⟨Gl,0,none⟩) Ba.length On) Gh:=(by rw [hw,Ce.out];exact Gm.1);clear Gm;replace Ah:=y0.mk (y12 (qk Ah.out) hg (Kd.R_ne Al.out Ah.out (by decide)));replace Ax:=y0.mk (y12 (qk Ax.out) hg (Kd.R_ne Al.out Ax.out (by decide)));replace Al:=y0.mk (hp_);replace HB:=y0.mk ((by rw [hw];exact below_set (HB.out) Ow.out:Below w.heap.size w Oz));clear hg hw hp_))
        go_roundg k2
        case measure=>have:=Bw.out;have:=Bu.out;omega
        exact⟨(Gh),(wrap64 (Am + 1)),qy2,H',⟨by have:=Bw.out;have:=Bu.out;omega⟩,⟨qR Al.out⟩,⟨qk Ah.out⟩,⟨qk Ax.out⟩,⟨qb⟩⟩
       ·replace Ke:=Bool.eq_false_iff.mpr Ke
        subst Ke
        replace H:=qF H
        obtain rfl:=Option.some.inj H
        have Ci:0≤(Am:Int):=qd
        have Cj:Am < (((y23 Af Ad).f2).length:Int):=qd
        obtain⟨Fh,Gi,Bb⟩:=Kd.at_int Cp.out Am Ci Cj
        cases Gi
        replace Bb:=qC Bb HB
        replace Ci:=eq_true Ci
        replace Cj:=eq_true Cj
        go_wp2_with (first|((with_reducible refine y18 (f:=22) rfl ?_);refine y21 (some 34) rfl rfl Tryz.func22 (by kernel_rfl) rfl #[.int .i64 (rd ((y23 Af Ad).f2) Am),.int .i64 0,.int .i64 (wrap64 (Ad - 1))] rfl qy1 ?_;(with_reducible refine(impl_in.calls (rd ((y23 Af Ad).f2) Am) 0 (wrap64 (Ad - 1)) false _ Qp.out).mono ?_);rintro e w' ⟨rfl,⟨nd,rfl⟩⟩;refine⟨_,rfl, ?_⟩))
        go_ret
        exact⟨qf,qb⟩
      ·as_aux_lemma =>
       rw [if_neg He]at H
       have Ht:=decide_eq_false He
       clear He
       obtain⟨Pa,Fi,H⟩:=qB H
       by_cases Kf:Pa=true
       ·subst Kf
        replace H:=qT H
        obtain⟨Pb,Gn,H⟩:=qB H
        by_cases Kg:Pb=true
        ·subst Kg
         replace H:=qT H
         by_cases Gp:(((y23 Af Ad).f2).length:Int)=2
         ·as_aux_lemma =>
          rw [if_pos Gp]at H
          have Hy:((((y23 Af Ad).f2).length:Int) == 2)=true:=beq_iff_eq.mpr Gp
          have Hz:((((y23 Af Ad).f2).length:Int) != 2)=false:=bne_eq_false_iff_eq.mpr Gp
          clear Gp
          obtain⟨Pc,Pd,H⟩:=qB H
          by_cases Kh:Pc=true
          ·subst Kh
           replace H:=qT H
           by_cases Hf:(((y23 Af Ad).f2).length:Int) > 0
           ·as_aux_lemma =>
            rw [if_pos Hf]at H
            have Ia:decide (0 < (((y23 Af Ad).f2).length:Int))=true:=decide_eq_true Hf
            have Ib:decide (0 < ((y23 Af Ad).f2).length)=true:=decide_eq_true (by omega)
            clear Hf
            obtain rfl:=Option.some.inj H
            have Qv:=At.out
            have Qw:=Aq.out
            obtain⟨Ki,Kj,Kk,Kl,Km,Kn⟩:=qz3 Ax.out
            go_wp2_with (first|((with_reducible refine y18 (f:=22) rfl ?_);refine y21 (some 45) rfl rfl Tryz.func22 (by kernel_rfl) rfl #[.int .i64 ((y23 Af Ad).f0),.int .i64 1,.int .i64 7] rfl qy1 ?_;(with_reducible refine(impl_in.calls ((y23 Af Ad).f0) 1 7 true _ Fi.out).mono ?_);rintro e w' ⟨rfl,⟨nd,rfl⟩⟩;refine⟨_,rfl, ?_⟩)|(go_at_call 65;(with_reducible refine(impl_isSum.calls ((y23 Af Ad).f0) true _ Gn.out).mono ?_);rintro e w' ⟨rfl,⟨nd,rfl⟩⟩)|(go_at_call 22;(with_reducible refine(impl_in.calls ((y23 Af Ad).f0) 1 3 true _ Pd.out).mono ?_);rintro e w' ⟨rfl,⟨nd,rfl⟩⟩))
            go_ret
            exact⟨qf,qb⟩
           ·as_aux_lemma =>
            rw [if_neg Hf]at H
            have Ia:decide (0 < (((y23 Af Ad).f2).length:Int))=false:=decide_eq_false Hf
            have Ib:decide (0 < ((y23 Af Ad).f2).length)=false:=decide_eq_false (by omega)
            clear Hf
            have H':=y0.mk H
            clear H
            have Qx:=At.out
            have Qy:=Aq.out
            obtain⟨Ko,Kp,Kq,Kr,Ks,Kt⟩:=qz3 Ax.out
            go_wp2_with (first|((with_reducible refine y18 (f:=22) rfl ?_);refine y21 (some 45) rfl rfl Tryz.func22 (by kernel_rfl) rfl #[.int .i64 ((y23 Af Ad).f0),.int .i64 1,.int .i64 7] rfl qy1 ?_;(with_reducible refine(impl_in.calls ((y23 Af Ad).f0) 1 7 true _ Fi.out).mono ?_);rintro e w' ⟨rfl,⟨nd,rfl⟩⟩;refine⟨_,rfl, ?_⟩)|(go_at_call 65;(with_reducible refine(impl_isSum.calls ((y23 Af Ad).f0) true _ Gn.out).mono ?_);rintro e w' ⟨rfl,⟨nd,rfl⟩⟩)|(go_at_call 22;(with_reducible refine(impl_in.calls ((y23 Af Ad).f0) 1 3 true _ Pd.out).mono ?_);rintro e w' ⟨rfl,⟨nd,rfl⟩⟩))
            go_roundg k2
            case measure=>have:=Bw.out;have:=Bu.out;omega
            exact⟨(Ba),(wrap64 (Ad + 1)),qy2,H',⟨by have:=Bw.out;have:=Bu.out;omega⟩,⟨qR Al.out⟩,⟨qk Ah.out⟩,⟨qb⟩⟩
          ·replace Kh:=Bool.eq_false_iff.mpr Kh
           subst Kh
           replace H:=qF H
           have H':=y0.mk H
           clear H
           have Qz:=At.out
           have Ra:=Aq.out
           obtain⟨Ku,Kv,Kw,Kx,Ky,Kz⟩:=qz3 Ax.out
           go_wp2_with (first|((with_reducible refine y18 (f:=22) rfl ?_);refine y21 (some 45) rfl rfl Tryz.func22 (by kernel_rfl) rfl #[.int .i64 ((y23 Af Ad).f0),.int .i64 1,.int .i64 7] rfl qy1 ?_;(with_reducible refine(impl_in.calls ((y23 Af Ad).f0) 1 7 true _ Fi.out).mono ?_);rintro e w' ⟨rfl,⟨nd,rfl⟩⟩;refine⟨_,rfl, ?_⟩)|(go_at_call 65;(with_reducible refine(impl_isSum.calls ((y23 Af Ad).f0) true _ Gn.out).mono ?_);rintro e w' ⟨rfl,⟨nd,rfl⟩⟩)|(go_at_call 22;(with_reducible refine(impl_in.calls ((y23 Af Ad).f0) 1 3 false _ Pd.out).mono ?_);rintro e w' ⟨rfl,⟨nd,rfl⟩⟩))
           go_roundg k2
           case measure=>have:=Bw.out;have:=Bu.out;omega
           exact⟨(Ba),(wrap64 (Ad + 1)),qy2,H',⟨by have:=Bw.out;have:=Bu.out;omega⟩,⟨qR Al.out⟩,⟨qk Ah.out⟩,⟨qb⟩⟩
         ·as_aux_lemma =>
          rw [if_neg Gp]at H
          have Hy:((((y23 Af Ad).f2).length:Int) == 2)=false:=beq_eq_false_iff_ne.mpr Gp
          have Hz:((((y23 Af Ad).f2).length:Int) != 2)=true:=bne_iff_ne.mpr Gp
          obtain rfl:=Option.some.inj H
          have Rb:=At.out
          have Rc:=Aq.out
          obtain⟨La,Lb,Lc,Ld,Le,Lf⟩:=qz3 Ax.out
          go_wp2_with (first|((with_reducible refine y18 (f:=22) rfl ?_);refine y21 (some 45) rfl rfl Tryz.func22 (by kernel_rfl) rfl #[.int .i64 ((y23 Af Ad).f0),.int .i64 1,.int .i64 7] rfl qy1 ?_;(with_reducible refine(impl_in.calls ((y23 Af Ad).f0) 1 7 true _ Fi.out).mono ?_);rintro e w' ⟨rfl,⟨nd,rfl⟩⟩;refine⟨_,rfl, ?_⟩)|(go_at_call 65;(with_reducible refine(impl_isSum.calls ((y23 Af Ad).f0) true _ Gn.out).mono ?_);rintro e w' ⟨rfl,⟨nd,rfl⟩⟩))
          go_ret
          exact⟨qf,qb⟩
        ·replace Kg:=Bool.eq_false_iff.mpr Kg
         subst Kg
         replace H:=qF H
         obtain⟨Pe,Pf,H⟩:=qB H
         by_cases Lg:Pe=true
         ·subst Lg
          replace H:=qT H
          by_cases Hg:(((y23 Af Ad).f2).length:Int) > 0
          ·as_aux_lemma =>
           rw [if_pos Hg]at H
           have Ic:decide (0 < (((y23 Af Ad).f2).length:Int))=true:=decide_eq_true Hg
           have Id:decide (0 < ((y23 Af Ad).f2).length)=true:=decide_eq_true (by omega)
           clear Hg
           obtain rfl:=Option.some.inj H
           have Rf:=At.out
           have Rg:=Aq.out
           obtain⟨Lh,Li,Lj,Lk,Ll,Lm⟩:=qz3 Ax.out
           go_wp2_with (first|((with_reducible refine y18 (f:=22) rfl ?_);refine y21 (some 45) rfl rfl Tryz.func22 (by kernel_rfl) rfl #[.int .i64 ((y23 Af Ad).f0),.int .i64 1,.int .i64 7] rfl qy1 ?_;(with_reducible refine(impl_in.calls ((y23 Af Ad).f0) 1 7 true _ Fi.out).mono ?_);rintro e w' ⟨rfl,⟨nd,rfl⟩⟩;refine⟨_,rfl, ?_⟩)|(go_at_call 65;(with_reducible refine(impl_isSum.calls ((y23 Af Ad).f0) false _ Gn.out).mono ?_);rintro e w' ⟨rfl,⟨nd,rfl⟩⟩)|(go_at_call 22;(with_reducible refine(impl_in.calls ((y23 Af Ad).f0) 1 3 true _ Pf.out).mono ?_);rintro e w' ⟨rfl,⟨nd,rfl⟩⟩))
           go_ret
           exact⟨qf,qb⟩
          ·as_aux_lemma =>
           rw [if_neg Hg]at H
           have Ic:decide (0 < (((y23 Af Ad).f2).length:Int))=false:=decide_eq_false Hg
           have Id:decide (0 < ((y23 Af Ad).f2).length)=false:=decide_eq_false (by omega)
           clear Hg
           have H':=y0.mk H
           clear H
           have Rh:=At.out
           have Ri:=Aq.out
           obtain⟨Ln,Lo,Lp,Lq,Lr,Ls⟩:=qz3 Ax.out
           go_wp2_with (first|((with_reducible refine y18 (f:=22) rfl ?_);refine y21 (some 45) rfl rfl Tryz.func22 (by kernel_rfl) rfl #[.int .i64 ((y23 Af Ad).f0),.int .i64 1,.int .i64 7] rfl qy1 ?_;(with_reducible refine(impl_in.calls ((y23 Af Ad).f0) 1 7 true _ Fi.out).mono ?_);rintro e w' ⟨rfl,⟨nd,rfl⟩⟩;refine⟨_,rfl, ?_⟩)|(go_at_call 65;(with_reducible refine(impl_isSum.calls ((y23 Af Ad).f0) false _ Gn.out).mono ?_);rintro e w' ⟨rfl,⟨nd,rfl⟩⟩)|(go_at_call 22;(with_reducible refine(impl_in.calls ((y23 Af Ad).f0) 1 3 true _ Pf.out).mono ?_);rintro e w' ⟨rfl,⟨nd,rfl⟩⟩))
           go_roundg k2
           case measure=>have:=Bw.out;have:=Bu.out;omega
           exact⟨(Ba),(wrap64 (Ad + 1)),qy2,H',⟨by have:=Bw.out;have:=Bu.out;omega⟩,⟨qR Al.out⟩,⟨qk Ah.out⟩,⟨qb⟩⟩
         ·replace Lg:=Bool.eq_false_iff.mpr Lg
          subst Lg
          replace H:=qF H
          have H':=y0.mk H
          clear H
          have Rj:=At.out
          have Rk:=Aq.out
          obtain⟨Lt,Lu,Lv,Lw,Lx,Ly⟩:=qz3 Ax.out
          go_wp2_with (first|((with_reducible refine y18 (f:=22) rfl ?_);refine y21 (some 45) rfl rfl Tryz.func22 (by kernel_rfl) rfl #[.int .i64 ((y23 Af Ad).f0),.int .i64 1,.int .i64 7] rfl qy1 ?_;(with_reducible refine(impl_in.calls ((y23 Af Ad).f0) 1 7 true _ Fi.out).mono ?_);rintro e w' ⟨rfl,⟨nd,rfl⟩⟩;refine⟨_,rfl, ?_⟩)|(go_at_call 65;(with_reducible refine(impl_isSum.calls ((y23 Af Ad).f0) false _ Gn.out).mono ?_);rintro e w' ⟨rfl,⟨nd,rfl⟩⟩)|(go_at_call 22;(with_reducible refine(impl_in.calls ((y23 Af Ad).f0) 1 3 false _ Pf.out).mono ?_);rintro e w' ⟨rfl,⟨nd,rfl⟩⟩))
          go_roundg k2
          case measure=>have:=Bw.out;have:=Bu.out;omega
          exact⟨(Ba),(wrap64 (Ad + 1)),qy2,H',⟨by have:=Bw.out;have:=Bu.out;omega⟩,⟨qR Al.out⟩,⟨qk Ah.out⟩,⟨qb⟩⟩
       ·replace Kf:=Bool.eq_false_iff.mpr Kf
        subst Kf
        replace H:=qF H
        obtain rfl:=Option.some.inj H
        have Rl:=At.out
        have Rn:=Aq.out
        obtain⟨Lz,Ma,Mb,Mc,Md,Me⟩:=qz3 Ax.out
        go_wp2_with (first|((with_reducible refine y18 (f:=22) rfl ?_);refine y21 (some 45) rfl rfl Tryz.func22 (by kernel_rfl) rfl #[.int .i64 ((y23 Af Ad).f0),.int .i64 1,.int .i64 7] rfl qy1 ?_;(with_reducible refine(impl_in.calls ((y23 Af Ad).f0) 1 7 false _ Fi.out).mono ?_);rintro e w' ⟨rfl,⟨nd,rfl⟩⟩;refine⟨_,rfl, ?_⟩))
        go_ret
        exact⟨qf,qb⟩
   ·as_aux_lemma =>
    rw [if_neg c9]at H
    have Gg:=decide_eq_false c9
    clear c9
    obtain⟨Ab,Tn,H⟩:=qB H
    have H':=y0.mk H
    clear H
    obtain⟨Dv,Dw,Dx,Dy,Dz,Ea,Eb,Ec,Ed,Ee⟩:=qz5 Ah.out
    go_wp2_with (first|((with_reducible refine y18 (f:=66) rfl ?_);refine y21 (some 71) rfl rfl Tryz.func66 (by kernel_rfl) rfl #[.agg #[.slice Bv Af.length Bi,.int .i64 Bc,.string Bd,.slice Bj Ay.length Bk,.slice Bl Az.length Bm]] rfl qy1 ?_;(with_reducible refine(impl_Rule_lits.calls _ _ Af Bc Bd (fun k_=>k_ < w.heap.size) _ _ Ay (fun k_=>k_ < w.heap.size) _ _ Az Ab _ (qc (Kd.C_below Fd.out HB.out)) Hj.out (by exact Kd.V_mk Hl.out (Kd.F_below (Kd.C_F (Kd.heap_int .i64) Hk.out) qb)) (by exact Kd.V_mk Hn.out (Kd.F_below (Kd.C_F k35_heap Hm.out) qb)) Tn.out).mono ?_);rintro e Tv ⟨To,rfl,Ro,hb⟩;refine⟨_,rfl, ?_⟩;have Fj:=y0.mk (Kd.N_lower (Kd.N_mono (ok':=fun k_=>some k_≠(Bf:Value).ownBlock∧k_≠Aw) Ro (fun k_ hk_=>⟨Or.elim hk_ (fun hs_=>Or.elim hs_ (fun hs_=>fun e_=>Nat.not_le.2 hs_ (Kd.R_base Al.out k_ e_.symm)) (fun hs_=>fun e_=>Nat.not_le.2 hs_ (Kd.R_base Al.out k_ e_.symm))) (fun hn_=>(Kd.fresh' (Kd.R_lt (qR Al.out)) k_ hn_)),Or.elim hk_ (fun hs_=>Or.elim hs_ (fun hs_=>fun e_=>Nat.not_le.2 hs_ (by rw [e_];exact Ff.out)) (fun hs_=>fun e_=>Nat.not_le.2 hs_ (by rw [e_];exact Ff.out))) (fun hn_=>(Kd.freshB (g:=Aw) (o:=.cells #[.slice Bv Af.length Bi,.int .i64 Bc,.string Bd,.slice Bj Ay.length Bk,.slice Bl Az.length Bm] 38 (0,0)) (qk Ah.out) k_ hn_))⟩)) (y4 qb));replace Al:=y0.mk (Kd.R_below (qR Al.out) hb);replace Ah:=y0.mk (qK Ah.out hb);replace HB:=y0.mk (y5 qb hb);(try clear hb);(try clear Ro);obtain⟨Pg,Bt,Ph⟩:=Kd.N_slice Fj.out;subst Ph))
    go_loopg [73] k1 (fun kq Tp w'=>∃(Ba:List Int) (Aa:Int),Tp=.int .i64 Aa∧y0 (z3_.l2 kq Ba Ab (Ab.length:Int) Aa Af Bc Bd Ay Az=some r)∧y0 (kq≤k1)∧y0 (Kd.R (Kd.int .i64) 3 w' w.heap.size (fun _=>True) Bf Ba)∧y0 (Kd.N k35 35 w' w.heap.size (fun k_=>some k_≠(Bf:Value).ownBlock∧k_≠Aw) (.slice Pg Ab.length Bt) Ab)∧y0 (w'.heap[Aw]?=some (.cells #[(.slice Bv Af.length Bi),.int .i64 Bc,.string Bd,(.slice Bj Ay.length Bk),(.slice Bl Az.length Bm)] 38 (0,0)))∧y0 (Below w.heap.size w w'))
    case atStart=>exact⟨(Df),(0),qy2,H',⟨Nat.le_refl _⟩,⟨qR Al.out⟩,⟨qN Fj.out⟩,⟨qk Ah.out⟩,⟨qb⟩⟩
    case round =>
     clear H'
     (try clear Gg Dv Dw Dx Dy Dz Ea Eb Ec Ed Ee)
     obtain⟨Ba,Aa,rfl,HA,Bu,Al,Av,Ah,HB⟩:=hrel
     cases gk with
     | zero=>exact absurd HA.out (by simp [z3_.l2])
     | succ k2 =>
      have H:=HA.out
      clear HA
      simp only [z3_.l2]at H
      by_cases Hh:Aa < (Ab.length:Int)
      ·as_aux_lemma =>
       rw [if_pos Hh]at H
       have Fk:=decide_eq_true Hh
       clear Hh
       obtain⟨Rp,H⟩:=qo H
       have Ie:decide (0≤Aa)=true:=decide_eq_true Rp
       clear Rp
       obtain⟨Rq,H⟩:=qo H
       have If:decide (Aa < (Ab.length:Int))=true:=decide_eq_true Rq
       clear Rq
       have Gq:=y0.mk H
       clear H
       have Dh:0≤(Aa:Int):=qd
       have Di:Aa < (Ab.length:Int):=qd
       obtain⟨Bh,Aj,Ai,Pi,Ef,Eg,Cq,Cr,Cs⟩:=at_T35 (Kd.N_reads' Av.out).2.2 Aa Dh Di
       cases Pi
       obtain⟨Rs,Gr,Gs,Dj⟩:=Kd.N_get Av.out z35 Aa Dh (by first|exact Di|exact of_decide_eq_true qy0|(have e_:=(Kd.N_reads' Av.out).1;omega))
       obtain⟨Mf,Mg,rfl,Bx,Bz⟩:=k35_openF Gs
       have Bq:=Dj 2 _ rfl
       rw [add_field _ _ 2 (by omega)]at Bq
       replace Bq:=Option.some.inj (Bq.symm.trans Cq)
       injection Bq with hva_ hvn_ hvc_
       rw [hva_]at Bz
       rw [hvc_]at Bx
       have Ar:=y0.mk (show Kd.V (Kd.int .i64) 3 _ w.heap.size _ _ ((y22 Ab Aa).f2)from Kd.V_mk Bx Bz)
       clear hva_ hvn_ hvc_ Bz Bx
       clear Dj Gr
       have Br:=y0.mk Cs
       have Mh:=y0.mk Cr
       clear Cs Cr
       replace Dh:=eq_true Dh
       replace Di:=eq_true Di
       go_upto_region 18 with(first|((with_reducible refine y19 (N:=9) rfl ?_);(try(refine y20 (by rfl) ?_;dsimp only));refine qe 9 #[.int .i64 0,.string (⟨#[]⟩:ByteArray),.slice none 0 0] 35 ?_;intro Ac hg Tw hbox hb;replace Al:=y0.mk (Kd.R_below (qR Al.out) hb);replace Av:=y0.mk (Kd.N_below (Kd.N_elderB (qN Av.out) Ac (Nat.le_of_eq hg.symm)) hb);replace Ar:=y0.mk (Kd.V_below (Kd.V_elderB (qV Ar.out) Ac (Nat.le_of_eq hg.symm)) hb);replace Br:=y0.mk (Kd.C_below (by repeat(first|(with_reducible exact Br.out)|(with_reducible refine Kd.C_alloc ?_ _)|(with_reducible refine Kd.C_drewN ?_ _)|(with_reducible refine Kd.C_drew ?_)|exact Br.out)) hb);have Ap:=y0.mk (hbox);have Rt:=y0.mk (qg (w:=w) hg);have Ru:=y0.mk (qg (w:=w) hg);replace HB:=y0.mk (y5 qb hb);have Ag:=y0.mk (qn Ah.out hg);have As:=y0.mk (qm Ah.out hg);replace Ah:=y0.mk (qK Ah.out hb);clear hb hbox hg;have Rv:=As.out;have Rw:=Ag.out;obtain⟨Eh,Ei,Ej,Ek,El,Em⟩:=qz3 Ap.out))
       (try simp only [Act.put,qS_,qZ_,qC_])
       go_cut [101] (fun Pj wc=>∃(kq:Nat) (Bs:Bool),Pj=.bool Bs∧y0 (z3_.j3 kq Ba Ab (Ab.length:Int) Aa Bs Af Bc Bd Ay Az ((y22 Ab Aa).f0) ((y22 Ab Aa).f1) ((y22 Ab Aa).f2)=some r)∧y0 (kq≤k2)∧y0 (Kd.R (Kd.int .i64) 3 wc w.heap.size (fun _=>True) Bf Ba)∧y0 (Kd.N k35 35 wc w.heap.size (fun k_=>some k_≠(Bf:Value).ownBlock∧k_≠Aw∧k_≠Ac) (.slice (some Bh) Ab.length Bt) Ab)∧y0 (Kd.V (Kd.int .i64) 3 wc w.heap.size (fun k_=>some k_≠(Bf:Value).ownBlock∧some k_≠((.slice (some Bh) Ab.length Bt):Value).ownBlock∧k_≠Aw∧k_≠Ac) (.slice Aj ((y22 Ab Aa).f2).length Ai) ((y22 Ab Aa).f2))∧y0 (wc.heap[Aw]?=some (.cells #[(.slice Bv Af.length Bi),.int .i64 Bc,.string Bd,(.slice Bj Ay.length Bk),(.slice Bl Az.length Bm)] 38 (0,0)))∧y0 (wc.heap[Ac]?=some (.cells #[.int .i64 ((y22 Ab Aa).f0),.string ((y22 Ab Aa).f1),(.slice Aj ((y22 Ab Aa).f2).length Ai)] 35 (0,0)))∧y0 (Kd.C (Kd.int .i64) wc Aj ((y22 Ab Aa).f2).length ((y22 Ab Aa).f2))∧y0 (Below w.heap.size w wc))
       case first =>
        have H:=Gq.out
        clear Gq
        by_cases Gt:Aa=0
        ·as_aux_lemma =>
         rw [if_pos Gt]at H
         have Cf:(Aa == 0)=true:=beq_iff_eq.mpr Gt
         have Ig:(Aa != 0)=false:=bne_eq_false_iff_eq.mpr Gt
         clear Gt
         (first|rw [Cf]|(simp only [i64_w,i32_w];rw [Cf])|skip)
         by_cases Gu:((y22 Ab Aa).f0)=1
         ·as_aux_lemma =>
          rw [if_pos Gu]at H
          have Ih:(((y22 Ab Aa).f0) == 1)=true:=beq_iff_eq.mpr Gu
          have Ii:(((y22 Ab Aa).f0) != 1)=false:=bne_eq_false_iff_eq.mpr Gu
          clear Gu
          obtain⟨Pk,Pm,H⟩:=qB H
          by_cases Mi:Pk=true
          ·subst Mi
           replace H:=qT H
           by_cases Gv:((y22 Ab Aa).f0)=3
           ·as_aux_lemma =>
            rw [if_pos Gv]at H
            have Ij:(((y22 Ab Aa).f0) == 3)=true:=beq_iff_eq.mpr Gv
            have Ik:(((y22 Ab Aa).f0) != 3)=false:=bne_eq_false_iff_eq.mpr Gv
            clear Gv
            have H':=y0.mk H
            clear H
            have Rx:=As.out
            have Ry:=Ag.out
            obtain⟨Mj,Ml,Mm,Mn,Mo,Mp⟩:=qz3 Ap.out
            go_wp2_with (first|(go_at_call 22;(with_reducible refine(impl_in.calls ((y22 Ab Aa).f0) 1 3 true _ Pm.out).mono ?_);rintro e w' ⟨rfl,⟨nd,rfl⟩⟩))
            go_meet
            exact⟨_,(((((y22 Ab Aa).f2).length:Int) != 2)),qy2,H',⟨by have:=Bw.out;have:=Bu.out;first|omega|exact Nat.le_refl _⟩,⟨qR (Kd.R_mono (qfR Ac (Kd.R_types Al.out Ap.out (by decide)) (.int .i64 ((y22 Ab Aa).f0)) (.string ((y22 Ab Aa).f1)) (.slice Aj ((y22 Ab Aa).f2).length Ai)) (fun _ hk=>trivial))⟩,⟨qN (Kd.N_mono (Kd.N_far (p:=⟨Ac,2,none⟩) (Kd.N_far (p:=⟨Ac,1,none⟩) (Kd.N_far (p:=⟨Ac,0,none⟩) (Kd.N_mono Av.out (fun k_ hk=>(⟨hk,hk.2⟩:_∧k_≠Ac))) (fun _ hk=>hk.2) (.int .i64 ((y22 Ab Aa).f0))) (fun _ hk=>hk.2) (.string ((y22 Ab Aa).f1))) (fun _ hk=>hk.2) (.slice Aj ((y22 Ab Aa).f2).length Ai)) (fun _ hk=>⟨hk.1.1.1,⟨hk.1.1.2,hk.1.2⟩⟩))⟩,⟨qV (Kd.V_mono (qfV Ac (Kd.V_mono Ar.out (fun k_ hk=>(⟨hk,hk.2⟩:_∧k_≠Ac))) (.int .i64 ((y22 Ab Aa).f0)) (.string ((y22 Ab Aa).f1)) (.slice Aj ((y22 Ab Aa).f2).length Ai)) (fun _ hk=>⟨hk.1.1.1.1,⟨hk.1.1.2,⟨hk.1.1.1.2,hk.1.2⟩⟩⟩))⟩,⟨by(with_reducible repeat(first|refine y10 ?_ _|refine y9 ?_|refine y6 ?_ _));refine y11 ?_ Ag.out _;refine y11 ?_ Ag.out _;refine y11 ?_ Ag.out _;(with_reducible repeat(first|refine y10 ?_ _|refine y9 ?_|refine y6 ?_ _));exact Ah.out⟩,⟨by(with_reducible repeat(first|refine y10 ?_ _|refine y9 ?_|refine y6 ?_ _));refine y13 (cs:=#[.int .i64 ((y22 Ab Aa).f0),.string ((y22 Ab Aa).f1),.slice none 0 0]) ?_ 2 _ rfl;refine y13 (cs:=#[.int .i64 ((y22 Ab Aa).f0),.string (⟨#[]⟩:ByteArray),.slice none 0 0]) ?_ 1 _ rfl;refine y13 (cs:=#[.int .i64 0,.string (⟨#[]⟩:ByteArray),.slice none 0 0]) ?_ 0 _ rfl;(with_reducible repeat(first|refine y10 ?_ _|refine y9 ?_|refine y6 ?_ _));exact Ap.out⟩,⟨(Kd.V_reads' (qV ((Kd.V_mono (qfV Ac (Kd.V_mono Ar.out (fun k_ hk=>(⟨hk,hk.2⟩:_∧k_≠Ac))) (.int .i64 ((y22 Ab Aa).f0)) (.string ((y22 Ab Aa).f1)) (.slice Aj ((y22 Ab Aa).f2).length Ai)) (fun _ h_=>h_.1))))).2.2⟩,⟨qb⟩⟩
           ·as_aux_lemma =>
            rw [if_neg Gv]at H
            have Ij:(((y22 Ab Aa).f0) == 3)=false:=beq_eq_false_iff_ne.mpr Gv
            have Ik:(((y22 Ab Aa).f0) != 3)=true:=bne_iff_ne.mpr Gv
            have H':=y0.mk H
            clear H
            have Rz:=As.out
            have Sa:=Ag.out
            obtain⟨Mq,Mr,Ms,Mt,Mu,Mv⟩:=qz3 Ap.out
            go_wp2_with (first|(go_at_call 22;(with_reducible refine(impl_in.calls ((y22 Ab Aa).f0) 1 3 true _ Pm.out).mono ?_);rintro e w' ⟨rfl,⟨nd,rfl⟩⟩))
            go_meet
            exact⟨_,(false),qy2,H',⟨by have:=Bw.out;have:=Bu.out;first|omega|exact Nat.le_refl _⟩,⟨qR (Kd.R_mono (qfR Ac (Kd.R_types Al.out Ap.out (by decide)) (.int .i64 ((y22 Ab Aa).f0)) (.string ((y22 Ab Aa).f1)) (.slice Aj ((y22 Ab Aa).f2).length Ai)) (fun _ hk=>trivial))⟩,⟨qN (Kd.N_mono (Kd.N_far (p:=⟨Ac,2,none⟩) (Kd.N_far (p:=⟨Ac,1,none⟩) (Kd.N_far (p:=⟨Ac,0,none⟩) (Kd.N_mono Av.out (fun k_ hk=>(⟨hk,hk.2⟩:_∧k_≠Ac))) (fun _ hk=>hk.2) (.int .i64 ((y22 Ab Aa).f0))) (fun _ hk=>hk.2) (.string ((y22 Ab Aa).f1))) (fun _ hk=>hk.2) (.slice Aj ((y22 Ab Aa).f2).length Ai)) (fun _ hk=>⟨hk.1.1.1,⟨hk.1.1.2,hk.1.2⟩⟩))⟩,⟨qV (Kd.V_mono (qfV Ac (Kd.V_mono Ar.out (fun k_ hk=>(⟨hk,hk.2⟩:_∧k_≠Ac))) (.int .i64 ((y22 Ab Aa).f0)) (.string ((y22 Ab Aa).f1)) (.slice Aj ((y22 Ab Aa).f2).length Ai)) (fun _ hk=>⟨hk.1.1.1.1,⟨hk.1.1.2,⟨hk.1.1.1.2,hk.1.2⟩⟩⟩))⟩,⟨by(with_reducible repeat(first|refine y10 ?_ _|refine y9 ?_|refine y6 ?_ _));refine y11 ?_ Ag.out _;refine y11 ?_ Ag.out _;refine y11 ?_ Ag.out _;(with_reducible repeat(first|refine y10 ?_ _|refine y9 ?_|refine y6 ?_ _));exact Ah.out⟩,⟨by(with_reducible repeat(first|refine y10 ?_ _|refine y9 ?_|refine y6 ?_ _));refine y13 (cs:=#[.int .i64 ((y22 Ab Aa).f0),.string ((y22 Ab Aa).f1),.slice none 0 0]) ?_ 2 _ rfl;refine y13 (cs:=#[.int .i64 ((y22 Ab Aa).f0),.string (⟨#[]⟩:ByteArray),.slice none 0 0]) ?_ 1 _ rfl;refine y13 (cs:=#[.int .i64 0,.string (⟨#[]⟩:ByteArray),.slice none 0 0]) ?_ 0 _ rfl;(with_reducible repeat(first|refine y10 ?_ _|refine y9 ?_|refine y6 ?_ _));exact Ap.out⟩,⟨(Kd.V_reads' (qV ((Kd.V_mono (qfV Ac (Kd.V_mono Ar.out (fun k_ hk=>(⟨hk,hk.2⟩:_∧k_≠Ac))) (.int .i64 ((y22 Ab Aa).f0)) (.string ((y22 Ab Aa).f1)) (.slice Aj ((y22 Ab Aa).f2).length Ai)) (fun _ h_=>h_.1))))).2.2⟩,⟨qb⟩⟩
          ·replace Mi:=Bool.eq_false_iff.mpr Mi
           subst Mi
           replace H:=qF H
           have H':=y0.mk H
           clear H
           have Sb:=As.out
           have Sc:=Ag.out
           obtain⟨Mw,Mx,My,Mz,Na,Nb⟩:=qz3 Ap.out
           go_wp2_with (first|(go_at_call 22;(with_reducible refine(impl_in.calls ((y22 Ab Aa).f0) 1 3 false _ Pm.out).mono ?_);rintro e w' ⟨rfl,⟨nd,rfl⟩⟩))
           go_meet
           exact⟨_,(true),qy2,H',⟨by have:=Bw.out;have:=Bu.out;first|omega|exact Nat.le_refl _⟩,⟨qR (Kd.R_mono (qfR Ac (Kd.R_types Al.out Ap.out (by decide)) (.int .i64 ((y22 Ab Aa).f0)) (.string ((y22 Ab Aa).f1)) (.slice Aj ((y22 Ab Aa).f2).length Ai)) (fun _ hk=>trivial))⟩,⟨qN (Kd.N_mono (Kd.N_far (p:=⟨Ac,2,none⟩) (Kd.N_far (p:=⟨Ac,1,none⟩) (Kd.N_far (p:=⟨Ac,0,none⟩) (Kd.N_mono Av.out (fun k_ hk=>(⟨hk,hk.2⟩:_∧k_≠Ac))) (fun _ hk=>hk.2) (.int .i64 ((y22 Ab Aa).f0))) (fun _ hk=>hk.2) (.string ((y22 Ab Aa).f1))) (fun _ hk=>hk.2) (.slice Aj ((y22 Ab Aa).f2).length Ai)) (fun _ hk=>⟨hk.1.1.1,⟨hk.1.1.2,hk.1.2⟩⟩))⟩,⟨qV (Kd.V_mono (qfV Ac (Kd.V_mono Ar.out (fun k_ hk=>(⟨hk,hk.2⟩:_∧k_≠Ac))) (.int .i64 ((y22 Ab Aa).f0)) (.string ((y22 Ab Aa).f1)) (.slice Aj ((y22 Ab Aa).f2).length Ai)) (fun _ hk=>⟨hk.1.1.1.1,⟨hk.1.1.2,⟨hk.1.1.1.2,hk.1.2⟩⟩⟩))⟩,⟨by(with_reducible repeat(first|refine y10 ?_ _|refine y9 ?_|refine y6 ?_ _));refine y11 ?_ Ag.out _;refine y11 ?_ Ag.out _;refine y11 ?_ Ag.out _;(with_reducible repeat(first|refine y10 ?_ _|refine y9 ?_|refine y6 ?_ _));exact Ah.out⟩,⟨by(with_reducible repeat(first|refine y10 ?_ _|refine y9 ?_|refine y6 ?_ _));refine y13 (cs:=#[.int .i64 ((y22 Ab Aa).f0),.string ((y22 Ab Aa).f1),.slice none 0 0]) ?_ 2 _ rfl;refine y13 (cs:=#[.int .i64 ((y22 Ab Aa).f0),.string (⟨#[]⟩:ByteArray),.slice none 0 0]) ?_ 1 _ rfl;refine y13 (cs:=#[.int .i64 0,.string (⟨#[]⟩:ByteArray),.slice none 0 0]) ?_ 0 _ rfl;(with_reducible repeat(first|refine y10 ?_ _|refine y9 ?_|refine y6 ?_ _));exact Ap.out⟩,⟨(Kd.V_reads' (qV ((Kd.V_mono (qfV Ac (Kd.V_mono Ar.out (fun k_ hk=>(⟨hk,hk.2⟩:_∧k_≠Ac))) (.int .i64 ((y22 Ab Aa).f0)) (.string ((y22 Ab Aa).f1)) (.slice Aj ((y22 Ab Aa).f2).length Ai)) (fun _ h_=>h_.1))))).2.2⟩,⟨qb⟩⟩
         ·as_aux_lemma =>
          rw [if_neg Gu]at H
          have Ih:(((y22 Ab Aa).f0) == 1)=false:=beq_eq_false_iff_ne.mpr Gu
          have Ii:(((y22 Ab Aa).f0) != 1)=true:=bne_iff_ne.mpr Gu
          have H':=y0.mk H
          clear H
          have Sd:=As.out
          have Se:=Ag.out
          obtain⟨Nc,Nd,Nf,Ng,Nh,Ni⟩:=qz3 Ap.out
          go_wp2
          go_meet
          exact⟨_,(true),qy2,H',⟨by have:=Bw.out;have:=Bu.out;first|omega|exact Nat.le_refl _⟩,⟨qR (Kd.R_mono (qfR Ac (Kd.R_types Al.out Ap.out (by decide)) (.int .i64 ((y22 Ab Aa).f0)) (.string ((y22 Ab Aa).f1)) (.slice Aj ((y22 Ab Aa).f2).length Ai)) (fun _ hk=>trivial))⟩,⟨qN (Kd.N_mono (Kd.N_far (p:=⟨Ac,2,none⟩) (Kd.N_far (p:=⟨Ac,1,none⟩) (Kd.N_far (p:=⟨Ac,0,none⟩) (Kd.N_mono Av.out (fun k_ hk=>(⟨hk,hk.2⟩:_∧k_≠Ac))) (fun _ hk=>hk.2) (.int .i64 ((y22 Ab Aa).f0))) (fun _ hk=>hk.2) (.string ((y22 Ab Aa).f1))) (fun _ hk=>hk.2) (.slice Aj ((y22 Ab Aa).f2).length Ai)) (fun _ hk=>⟨hk.1.1.1,⟨hk.1.1.2,hk.1.2⟩⟩))⟩,⟨qV (Kd.V_mono (qfV Ac (Kd.V_mono Ar.out (fun k_ hk=>(⟨hk,hk.2⟩:_∧k_≠Ac))) (.int .i64 ((y22 Ab Aa).f0)) (.string ((y22 Ab Aa).f1)) (.slice Aj ((y22 Ab Aa).f2).length Ai)) (fun _ hk=>⟨hk.1.1.1.1,⟨hk.1.1.2,⟨hk.1.1.1.2,hk.1.2⟩⟩⟩))⟩,⟨by(with_reducible repeat(first|refine y10 ?_ _|refine y9 ?_|refine y6 ?_ _));refine y11 ?_ Ag.out _;refine y11 ?_ Ag.out _;refine y11 ?_ Ag.out _;(with_reducible repeat(first|refine y10 ?_ _|refine y9 ?_|refine y6 ?_ _));exact Ah.out⟩,⟨by(with_reducible repeat(first|refine y10 ?_ _|refine y9 ?_|refine y6 ?_ _));refine y13 (cs:=#[.int .i64 ((y22 Ab Aa).f0),.string ((y22 Ab Aa).f1),.slice none 0 0]) ?_ 2 _ rfl;refine y13 (cs:=#[.int .i64 ((y22 Ab Aa).f0),.string (⟨#[]⟩:ByteArray),.slice none 0 0]) ?_ 1 _ rfl;refine y13 (cs:=#[.int .i64 0,.string (⟨#[]⟩:ByteArray),.slice none 0 0]) ?_ 0 _ rfl;(with_reducible repeat(first|refine y10 ?_ _|refine y9 ?_|refine y6 ?_ _));exact Ap.out⟩,⟨(Kd.V_reads' (qV ((Kd.V_mono (qfV Ac (Kd.V_mono Ar.out (fun k_ hk=>(⟨hk,hk.2⟩:_∧k_≠Ac))) (.int .i64 ((y22 Ab Aa).f0)) (.string ((y22 Ab Aa).f1)) (.slice Aj ((y22 Ab Aa).f2).length Ai)) (fun _ h_=>h_.1))))).2.2⟩,⟨qb⟩⟩
        ·as_aux_lemma =>
         rw [if_neg Gt]at H
         have Cf:(Aa == 0)=false:=beq_eq_false_iff_ne.mpr Gt
         have Ig:(Aa != 0)=true:=bne_iff_ne.mpr Gt
         (first|rw [Cf]|(simp only [i64_w,i32_w];rw [Cf])|skip)
         obtain⟨Pn,Po,H⟩:=qB H
         by_cases Nj:Pn=true
         ·subst Nj
          replace H:=qT H
          by_cases Gw:((y22 Ab Aa).f0)=3
          ·as_aux_lemma =>
           rw [if_pos Gw]at H
           have Il:(((y22 Ab Aa).f0) == 3)=true:=beq_iff_eq.mpr Gw
           have Im:(((y22 Ab Aa).f0) != 3)=false:=bne_eq_false_iff_eq.mpr Gw
           clear Gw
           have H':=y0.mk H
           clear H
           have Sf:=As.out
           have Sg:=Ag.out
           obtain⟨Nk,Nl,Nm,Nn,Np,Nq⟩:=qz3 Ap.out
           go_wp2_with (first|(go_at_call 22;(with_reducible refine(impl_in.calls ((y22 Ab Aa).f0) 1 3 true _ Po.out).mono ?_);rintro e w' ⟨rfl,⟨nd,rfl⟩⟩))
           go_meet
           exact⟨_,(((((y22 Ab Aa).f2).length:Int) != 2)),qy2,H',⟨by have:=Bw.out;have:=Bu.out;first|omega|exact Nat.le_refl _⟩,⟨qR (Kd.R_mono (qfR Ac (Kd.R_types Al.out Ap.out (by decide)) (.int .i64 ((y22 Ab Aa).f0)) (.string ((y22 Ab Aa).f1)) (.slice Aj ((y22 Ab Aa).f2).length Ai)) (fun _ hk=>trivial))⟩,⟨qN (Kd.N_mono (Kd.N_far (p:=⟨Ac,2,none⟩) (Kd.N_far (p:=⟨Ac,1,none⟩) (Kd.N_far (p:=⟨Ac,0,none⟩) (Kd.N_mono Av.out (fun k_ hk=>(⟨hk,hk.2⟩:_∧k_≠Ac))) (fun _ hk=>hk.2) (.int .i64 ((y22 Ab Aa).f0))) (fun _ hk=>hk.2) (.string ((y22 Ab Aa).f1))) (fun _ hk=>hk.2) (.slice Aj ((y22 Ab Aa).f2).length Ai)) (fun _ hk=>⟨hk.1.1.1,⟨hk.1.1.2,hk.1.2⟩⟩))⟩,⟨qV (Kd.V_mono (qfV Ac (Kd.V_mono Ar.out (fun k_ hk=>(⟨hk,hk.2⟩:_∧k_≠Ac))) (.int .i64 ((y22 Ab Aa).f0)) (.string ((y22 Ab Aa).f1)) (.slice Aj ((y22 Ab Aa).f2).length Ai)) (fun _ hk=>⟨hk.1.1.1.1,⟨hk.1.1.2,⟨hk.1.1.1.2,hk.1.2⟩⟩⟩))⟩,⟨by(with_reducible repeat(first|refine y10 ?_ _|refine y9 ?_|refine y6 ?_ _));refine y11 ?_ Ag.out _;refine y11 ?_ Ag.out _;refine y11 ?_ Ag.out _;(with_reducible repeat(first|refine y10 ?_ _|refine y9 ?_|refine y6 ?_ _));exact Ah.out⟩,⟨by(with_reducible repeat(first|refine y10 ?_ _|refine y9 ?_|refine y6 ?_ _));refine y13 (cs:=#[.int .i64 ((y22 Ab Aa).f0),.string ((y22 Ab Aa).f1),.slice none 0 0]) ?_ 2 _ rfl;refine y13 (cs:=#[.int .i64 ((y22 Ab Aa).f0),.string (⟨#[]⟩:ByteArray),.slice none 0 0]) ?_ 1 _ rfl;refine y13 (cs:=#[.int .i64 0,.string (⟨#[]⟩:ByteArray),.slice none 0 0]) ?_ 0 _ rfl;(with_reducible repeat(first|refine y10 ?_ _|refine y9 ?_|refine y6 ?_ _));exact Ap.out⟩,⟨(Kd.V_reads' (qV ((Kd.V_mono (qfV Ac (Kd.V_mono Ar.out (fun k_ hk=>(⟨hk,hk.2⟩:_∧k_≠Ac))) (.int .i64 ((y22 Ab Aa).f0)) (.string ((y22 Ab Aa).f1)) (.slice Aj ((y22 Ab Aa).f2).length Ai)) (fun _ h_=>h_.1))))).2.2⟩,⟨qb⟩⟩
          ·as_aux_lemma =>
           rw [if_neg Gw]at H
           have Il:(((y22 Ab Aa).f0) == 3)=false:=beq_eq_false_iff_ne.mpr Gw
           have Im:(((y22 Ab Aa).f0) != 3)=true:=bne_iff_ne.mpr Gw
           have H':=y0.mk H
           clear H
           have Sh:=As.out
           have Si:=Ag.out
           obtain⟨Nr,Ns,Nt,Nu,Nv,Nw⟩:=qz3 Ap.out
           go_wp2_with (first|(go_at_call 22;(with_reducible refine(impl_in.calls ((y22 Ab Aa).f0) 1 3 true _ Po.out).mono ?_);rintro e w' ⟨rfl,⟨nd,rfl⟩⟩))
           go_meet
           exact⟨_,(false),qy2,H',⟨by have:=Bw.out;have:=Bu.out;first|omega|exact Nat.le_refl _⟩,⟨qR (Kd.R_mono (qfR Ac (Kd.R_types Al.out Ap.out (by decide)) (.int .i64 ((y22 Ab Aa).f0)) (.string ((y22 Ab Aa).f1)) (.slice Aj ((y22 Ab Aa).f2).length Ai)) (fun _ hk=>trivial))⟩,⟨qN (Kd.N_mono (Kd.N_far (p:=⟨Ac,2,none⟩) (Kd.N_far (p:=⟨Ac,1,none⟩) (Kd.N_far (p:=⟨Ac,0,none⟩) (Kd.N_mono Av.out (fun k_ hk=>(⟨hk,hk.2⟩:_∧k_≠Ac))) (fun _ hk=>hk.2) (.int .i64 ((y22 Ab Aa).f0))) (fun _ hk=>hk.2) (.string ((y22 Ab Aa).f1))) (fun _ hk=>hk.2) (.slice Aj ((y22 Ab Aa).f2).length Ai)) (fun _ hk=>⟨hk.1.1.1,⟨hk.1.1.2,hk.1.2⟩⟩))⟩,⟨qV (Kd.V_mono (qfV Ac (Kd.V_mono Ar.out (fun k_ hk=>(⟨hk,hk.2⟩:_∧k_≠Ac))) (.int .i64 ((y22 Ab Aa).f0)) (.string ((y22 Ab Aa).f1)) (.slice Aj ((y22 Ab Aa).f2).length Ai)) (fun _ hk=>⟨hk.1.1.1.1,⟨hk.1.1.2,⟨hk.1.1.1.2,hk.1.2⟩⟩⟩))⟩,⟨by(with_reducible repeat(first|refine y10 ?_ _|refine y9 ?_|refine y6 ?_ _));refine y11 ?_ Ag.out _;refine y11 ?_ Ag.out _;refine y11 ?_ Ag.out _;(with_reducible repeat(first|refine y10 ?_ _|refine y9 ?_|refine y6 ?_ _));exact Ah.out⟩,⟨by(with_reducible repeat(first|refine y10 ?_ _|refine y9 ?_|refine y6 ?_ _));refine y13 (cs:=#[.int .i64 ((y22 Ab Aa).f0),.string ((y22 Ab Aa).f1),.slice none 0 0]) ?_ 2 _ rfl;refine y13 (cs:=#[.int .i64 ((y22 Ab Aa).f0),.string (⟨#[]⟩:ByteArray),.slice none 0 0]) ?_ 1 _ rfl;refine y13 (cs:=#[.int .i64 0,.string (⟨#[]⟩:ByteArray),.slice none 0 0]) ?_ 0 _ rfl;(with_reducible repeat(first|refine y10 ?_ _|refine y9 ?_|refine y6 ?_ _));exact Ap.out⟩,⟨(Kd.V_reads' (qV ((Kd.V_mono (qfV Ac (Kd.V_mono Ar.out (fun k_ hk=>(⟨hk,hk.2⟩:_∧k_≠Ac))) (.int .i64 ((y22 Ab Aa).f0)) (.string ((y22 Ab Aa).f1)) (.slice Aj ((y22 Ab Aa).f2).length Ai)) (fun _ h_=>h_.1))))).2.2⟩,⟨qb⟩⟩
         ·replace Nj:=Bool.eq_false_iff.mpr Nj
          subst Nj
          replace H:=qF H
          have H':=y0.mk H
          clear H
          have Sj:=As.out
          have Sk:=Ag.out
          obtain⟨Nx,Ny,Nz,Oa,Ob,Oc⟩:=qz3 Ap.out
          go_wp2_with (first|(go_at_call 22;(with_reducible refine(impl_in.calls ((y22 Ab Aa).f0) 1 3 false _ Po.out).mono ?_);rintro e w' ⟨rfl,⟨nd,rfl⟩⟩))
          go_meet
          exact⟨_,(true),qy2,H',⟨by have:=Bw.out;have:=Bu.out;first|omega|exact Nat.le_refl _⟩,⟨qR (Kd.R_mono (qfR Ac (Kd.R_types Al.out Ap.out (by decide)) (.int .i64 ((y22 Ab Aa).f0)) (.string ((y22 Ab Aa).f1)) (.slice Aj ((y22 Ab Aa).f2).length Ai)) (fun _ hk=>trivial))⟩,⟨qN (Kd.N_mono (Kd.N_far (p:=⟨Ac,2,none⟩) (Kd.N_far (p:=⟨Ac,1,none⟩) (Kd.N_far (p:=⟨Ac,0,none⟩) (Kd.N_mono Av.out (fun k_ hk=>(⟨hk,hk.2⟩:_∧k_≠Ac))) (fun _ hk=>hk.2) (.int .i64 ((y22 Ab Aa).f0))) (fun _ hk=>hk.2) (.string ((y22 Ab Aa).f1))) (fun _ hk=>hk.2) (.slice Aj ((y22 Ab Aa).f2).length Ai)) (fun _ hk=>⟨hk.1.1.1,⟨hk.1.1.2,hk.1.2⟩⟩))⟩,⟨qV (Kd.V_mono (qfV Ac (Kd.V_mono Ar.out (fun k_ hk=>(⟨hk,hk.2⟩:_∧k_≠Ac))) (.int .i64 ((y22 Ab Aa).f0)) (.string ((y22 Ab Aa).f1)) (.slice Aj ((y22 Ab Aa).f2).length Ai)) (fun _ hk=>⟨hk.1.1.1.1,⟨hk.1.1.2,⟨hk.1.1.1.2,hk.1.2⟩⟩⟩))⟩,⟨by(with_reducible repeat(first|refine y10 ?_ _|refine y9 ?_|refine y6 ?_ _));refine y11 ?_ Ag.out _;refine y11 ?_ Ag.out _;refine y11 ?_ Ag.out _;(with_reducible repeat(first|refine y10 ?_ _|refine y9 ?_|refine y6 ?_ _));exact Ah.out⟩,⟨by(with_reducible repeat(first|refine y10 ?_ _|refine y9 ?_|refine y6 ?_ _));refine y13 (cs:=#[.int .i64 ((y22 Ab Aa).f0),.string ((y22 Ab Aa).f1),.slice none 0 0]) ?_ 2 _ rfl;refine y13 (cs:=#[.int .i64 ((y22 Ab Aa).f0),.string (⟨#[]⟩:ByteArray),.slice none 0 0]) ?_ 1 _ rfl;refine y13 (cs:=#[.int .i64 0,.string (⟨#[]⟩:ByteArray),.slice none 0 0]) ?_ 0 _ rfl;(with_reducible repeat(first|refine y10 ?_ _|refine y9 ?_|refine y6 ?_ _));exact Ap.out⟩,⟨(Kd.V_reads' (qV ((Kd.V_mono (qfV Ac (Kd.V_mono Ar.out (fun k_ hk=>(⟨hk,hk.2⟩:_∧k_≠Ac))) (.int .i64 ((y22 Ab Aa).f0)) (.string ((y22 Ab Aa).f1)) (.slice Aj ((y22 Ab Aa).f2).length Ai)) (fun _ h_=>h_.1))))).2.2⟩,⟨qb⟩⟩
       case rest =>
        clear Gq
        (try clear Fk Ie If Eh Ei Ej Ek El Em Ef Eg Cq Dh Di)
        obtain⟨kq,Bs,rfl,HA,En,Al,Av,Au,Ah,Ap,Br,HB⟩:=hcut
        cases kq with
        | zero=>exact absurd HA.out (by simp [z3_.j3])
        | succ Io =>
         have H:=HA.out
         clear HA
         simp only [z3_.j3]at H
         by_cases Ip:Bs=true
         ·subst Ip
          replace H:=qT H
          obtain rfl:=Option.some.inj H
          go_wp2
          go_ret
          exact⟨qf,qb⟩
         ·replace Ip:=Bool.eq_false_iff.mpr Ip
          subst Ip
          replace H:=qF H
          have H':=y0.mk H
          clear H
          have Sl:=As.out
          have Sn:=Ag.out
          obtain⟨Eo,Ep,Er,Es,Et,Eu⟩:=qz3 Ap.out
          go_wp2
          go_loopg [105] Io (fun kq Pp w'=>∃(Be:List Int) (Ak:Int),Pp=.int .i64 Ak∧y0 (z3_.l3 kq Be Ab (Ab.length:Int) Aa ((y22 Ab Aa).f2) (((y22 Ab Aa).f2).length:Int) Ak Af Bc Bd Ay Az=some r)∧y0 (kq≤Io)∧y0 (Kd.R (Kd.int .i64) 3 w' w.heap.size (fun _=>True) Bf Be)∧y0 (Kd.N k35 35 w' w.heap.size (fun k_=>some k_≠(Bf:Value).ownBlock∧k_≠Aw∧k_≠Ac) (.slice (some Bh) Ab.length Bt) Ab)∧y0 (Kd.V (Kd.int .i64) 3 w' w.heap.size (fun k_=>some k_≠(Bf:Value).ownBlock∧some k_≠((.slice (some Bh) Ab.length Bt):Value).ownBlock∧k_≠Aw∧k_≠Ac) (.slice Aj ((y22 Ab Aa).f2).length Ai) ((y22 Ab Aa).f2))∧y0 (Kd.V (Kd.int .i64) 3 w' w.heap.size (fun k_=>some k_≠(Bf:Value).ownBlock∧some k_≠((.slice (some Bh) Ab.length Bt):Value).ownBlock∧k_≠Aw∧k_≠Ac) (.slice Aj ((y22 Ab Aa).f2).length Ai) ((y22 Ab Aa).f2))∧y0 (w'.heap[Aw]?=some (.cells #[(.slice Bv Af.length Bi),.int .i64 Bc,.string Bd,(.slice Bj Ay.length Bk),(.slice Bl Az.length Bm)] 38 (0,0)))∧y0 (w'.heap[Ac]?=some (.cells #[.int .i64 ((y22 Ab Aa).f0),.string ((y22 Ab Aa).f1),(.slice Aj ((y22 Ab Aa).f2).length Ai)] 35 (0,0)))∧y0 (Below w.heap.size w w'))
          case atStart=>exact⟨(Ba),(0),qy2,H',⟨Nat.le_refl _⟩,⟨qR Al.out⟩,⟨qN Av.out⟩,⟨qV Au.out⟩,⟨qV Au.out⟩,⟨qk Ah.out⟩,⟨qk Ap.out⟩,⟨qb⟩⟩
          case round =>
           clear H'
           (try clear Ip Eo Ep Er Es Et Eu)
           obtain⟨Be,Ak,rfl,HA,Od,Al,Av,Bg,Au,Ah,Ap,HB⟩:=hrel
           cases gk with
           | zero=>exact absurd HA.out (by simp [z3_.l3])
           | succ k4 =>
            have H:=HA.out
            clear HA
            simp only [z3_.l3]at H
            by_cases Hi:Ak < (((y22 Ab Aa).f2).length:Int)
            ·as_aux_lemma =>
             rw [if_pos Hi]at H
             have Iq:=decide_eq_true Hi
             clear Hi
             obtain⟨So,H⟩:=qo H
             have Sp:decide (0≤Ak)=true:=decide_eq_true So
             clear So
             obtain⟨Sq,H⟩:=qo H
             have Sr:decide (Ak < (((y22 Ab Aa).f2).length:Int))=true:=decide_eq_true Sq
             clear Sq
             obtain⟨Pq,Ss,H⟩:=qB H
             by_cases Oe:Pq=true
             ·subst Oe
              replace H:=qT H
              obtain⟨St,H⟩:=qo H
              have Su:decide (0≤(rd ((y22 Ab Aa).f2) Ak))=true:=decide_eq_true St
              clear St
              obtain⟨Sv,H⟩:=qo H
              have Sw:decide ((rd ((y22 Ab Aa).f2) Ak) < (Be.length:Int))=true:=decide_eq_true Sv
              clear Sv
              obtain⟨Gx,Cg⟩:∃ y_:List Int,y_=(Be.set ((rd ((y22 Ab Aa).f2) Ak):Int).toNat (wrap64 ((rd Be (rd ((y22 Ab Aa).f2) Ak)) + 1))):=⟨_,rfl⟩
              replace H:(z3_.l3 k4 Gx Ab (Ab.length:Int) Aa ((y22 Ab Aa).f2) (((y22 Ab Aa).f2).length:Int) (wrap64 (Ak + 1)) Af Bc Bd Ay Az)=some r:=by first|exact Cg ▸ H|exact Cg ▸ (Option.bind_some _ _).symm.trans H
              replace Cg:=y0.mk Cg
              have H':=y0.mk H
              clear H
              have Ck:0≤(Ak:Int):=qd
              have Cl:Ak < (((y22 Ab Aa).f2).length:Int):=qd
              obtain⟨Ct,Gy,Ca⟩:=Kd.at_int (Kd.V_reads' Bg.out).2.2 Ak Ck Cl
              cases Gy
              replace Ck:=eq_true Ck
              replace Cl:=eq_true Cl
              have Sx:=Ag.out
              have Sy:=As.out
              obtain⟨Cu,Cv,Cw,Cx,Cy,Cz,Da,Db,Dc,Dd⟩:=qz5 Ah.out
              go_wp2_with (first|((with_reducible refine y18 (f:=22) rfl ?_);refine y21 (some 114) rfl rfl Tryz.func22 (by kernel_rfl) rfl #[.int .i64 (rd ((y22 Ab Aa).f2) Ak),.int .i64 0,.int .i64 (wrap64 ((Af.length:Int) - 1))] rfl qy1 ?_;(with_reducible refine(impl_in.calls (rd ((y22 Ab Aa).f2) Ak) 0 (wrap64 ((Af.length:Int) - 1)) true _ Ss.out).mono ?_);rintro e w' ⟨rfl,⟨nd,rfl⟩⟩;refine⟨_,rfl, ?_⟩;(try(rw [drewN_self wr];have e1_:∀(n_:Nat) (a_:Addr),World.cell? wr a_=World.cell? (World.drewN wr n_) a_:=fun _ _=>rfl;have e2_:∀(n_:Nat) (a_:Addr),World.frozen? wr a_=World.frozen? (World.drewN wr n_) a_:=fun _ _=>rfl;generalize hq_:World.drewN wr _=wr;have e3_:=(fun a_=>(e1_ _ a_).trans (congrArg (fun w_=>World.cell? w_ a_) hq_));have e4_:=(fun a_=>(e2_ _ a_).trans (congrArg (fun w_=>World.frozen? w_ a_) hq_));clear e1_ e2_;(try replace Ca:=(e3_ _).symm.trans Ca);(try replace Cu:=(e3_ _).symm.trans Cu);(try replace Cz:=(e4_ _).symm.trans Cz);(try replace Cv:=(e3_ _).symm.trans Cv);(try replace Da:=(e4_ _).symm.trans Da);(try replace Cw:=(e3_ _).symm.trans Cw);(try replace Db:=(e4_ _).symm.trans Db);(try replace Cx:=(e3_ _).symm.trans Cx);(try replace Dc:=(e4_ _).symm.trans Dc);(try replace Cy:=(e3_ _).symm.trans Cy);(try replace Dd:=(e4_ _).symm.trans Dd);skip;clear e3_ e4_;have n0_:y0 (Kd.V (Kd.int .i64) 3 wr w.heap.size (fun k_=>some k_≠(Bf:Value).ownBlock∧some k_≠(.slice (some Bh) Ab.length Bt:Value).ownBlock∧k_≠Aw∧k_≠Ac) (.slice (some Ct) ((y22 Ab Aa).f2).length Ai) ((y22 Ab Aa).f2)):=⟨by rw [← hq_];exact(qV Bg.out)⟩;have n1_:y0 (Kd.R (Kd.int .i64) 3 wr w.heap.size (fun _=>True) Bf Be):=⟨by rw [← hq_];exact(qR Al.out)⟩;have n2_:y0 (Kd.V (Kd.int .i64) 3 wr w.heap.size (fun k_=>some k_≠(Bf:Value).ownBlock∧some k_≠(.slice (some Bh) Ab.length Bt:Value).ownBlock∧k_≠Aw∧k_≠Ac) (.slice (some Ct) ((y22 Ab Aa).f2).length Ai) ((y22 Ab Aa).f2)):=⟨by rw [← hq_];exact(qV Au.out)⟩;have n3_:y0 (Kd.N k35 35 wr w.heap.size (fun k_=>some k_≠(Bf:Value).ownBlock∧k_≠Aw∧k_≠Ac) (.slice (some Bh) Ab.length Bt) Ab):=⟨by rw [← hq_];exact(qN Av.out)⟩;have n4_:y0 (wr.heap[Aw]?=some (.cells #[.slice Bv Af.length Bi,.int .i64 Bc,.string Bd,.slice Bj Ay.length Bk,.slice Bl Az.length Bm] 38 (0,0))):=⟨by rw [← hq_];exact(qk Ah.out)⟩;have n5_:y0 (wr.heap[Ac]?=some (.cells #[.int .i64 ((y22 Ab Aa).f0),.string ((y22 Ab Aa).f1),.slice (some Ct) ((y22 Ab Aa).f2).length Ai] 35 (0,0))):=⟨by rw [← hq_];exact(qk Ap.out)⟩;have n6_:y0 (Below w.heap.size w wr):=⟨by rw [← hq_];exact qb⟩;clear Bg Al Au Av Ah Ap HB hq_;have Bg:=n0_;have Al:=n1_;have Au:=n2_;have Av:=n3_;have Ah:=n4_;have Ap:=n5_;have HB:=n6_;clear n0_ n1_ n2_ n3_ n4_ n5_ n6_));obtain⟨Tq,Cm,Pr⟩:=Kd.R_slice Al.out;subst Pr;have Gz:0≤((rd ((y22 Ab Aa).f2) Ak):Int):=qd;have Ha:(rd ((y22 Ab Aa).f2) Ak) < (Be.length:Int):=qd;obtain⟨Sz,Ps,Ew⟩:=Kd.at_int (Kd.R_reads' Al.out).2.2 (rd ((y22 Ab Aa).f2) Ak) Gz Ha;cases Ps;replace Gz:=eq_true Gz;replace Ha:=eq_true Ha;have Pt:0≤((rd ((y22 Ab Aa).f2) Ak):Int):=qd;have Pu:((rd ((y22 Ab Aa).f2) Ak):Int) < ((Be.length:Int):Int):=qd;obtain⟨Cb,Tr,Is,Iu,Pw,Ts,Iv⟩:=Kd.R_form Al.out (by omega);(first|cases Is|(injection Is with ea_ en_ ec_;(first|subst ea_|(injection ea_ with ea_;subst ea_));subst ec_;clear en_));have Px:=y0.mk Iu;have Tt:=y0.mk Iv;clear Iu Pw Iv;(first|simp only [add_plain]at Ew|skip);obtain⟨Py,Pz⟩:=Kd.R_celln 0 Al.out ((rd ((y22 Ab Aa).f2) Ak):Int) Pt Pu;replace Pt:=eq_true Pt;replace Pu:=eq_true Pu;obtain⟨hy100_,hz100_⟩:=Kd.R_celln 0 Al.out ((rd ((y22 Ab Aa).f2) Ak):Int) (of_decide_eq_true qy0) (of_decide_eq_true qy0);have Dk:=Kd.R_putg Al.out ((rd ((y22 Ab Aa).f2) Ak):Int) (wrap64 ((rd Be (rd ((y22 Ab Aa).f2) Ak)) + 1)))|((with_reducible refine gate_store (t:=3) (p:=121) rfl ?_);refine store_event (t:=3) (p:=121) (v:=?vo_w101) (w1:=(wr.setCell ⟨Cb,((rd ((y22 Ab Aa).f2) Ak):Int).toNat,none⟩ (.int .i64 (wrap64 ((rd Be (rd ((y22 Ab Aa).f2) Ak)) + 1))))) ?hg ?ho ?hn ?hr ?_;(case ho=>rfl);(case hg=>rfl);(case hn=>rfl);(case hr=>first|(go_simp;done)|(go_simp;rfl));intro Hb hw;have hg:wr.grownBy Hb (some Cb):=(by rw [hw];exact Dk.2);have hp_:Kd.R (Kd.int .i64) 3 Hb w.heap.size (fun _=>True) (.slice (some ⟨Cb,0,none⟩) Be.length Cm) Gx:=(by rw [hw,Cg.out];exact Dk.1);clear Dk;replace Av:=y0.mk (Kd.N_afterv (v:=(.slice (some ⟨Cb,0,none⟩) Be.length Cm)) (v1:=(.slice (some ⟨Cb,0,none⟩) Be.length Cm)) (ok:=(fun k_=>k_≠Aw∧k_≠Ac)) (qN (Kd.N_mono Av.out (fun _ hk=>⟨⟨hk.2.1,hk.2.2⟩,hk.1⟩))) hg (.inl rfl));replace Bg:=y0.mk (Kd.V_afterv (v:=(.slice (some ⟨Cb,0,none⟩) Be.length Cm)) (v1:=(.slice (some ⟨Cb,0,none⟩) Be.length Cm)) (ok:=(fun k_=>some k_≠(.slice (some Bh) Ab.length Bt:Value).ownBlock∧k_≠Aw∧k_≠Ac)) (qV (Kd.V_mono Bg.out (fun _ hk=>⟨⟨hk.2.1,⟨hk.2.2.1,hk.2.2.2⟩⟩,hk.1⟩))) hg (.inl rfl));replace Au:=y0.mk (Kd.V_afterv (v:=(.slice (some ⟨Cb,0,none⟩) Be.length Cm)) (v1:=(.slice (some ⟨Cb,0,none⟩) Be.length Cm)) (ok:=(fun k_=>some k_≠(.slice (some Bh) Ab.length Bt:Value).ownBlock∧k_≠Aw∧k_≠Ac)) (qV (Kd.V_mono Au.out (fun _ hk=>⟨⟨hk.2.1,⟨hk.2.2.1,hk.2.2.2⟩⟩,hk.1⟩))) hg (.inl rfl));replace Ah:=y0.mk (y12 (qk Ah.out) hg (Kd.R_ne Al.out Ah.out (by decide)));replace Ap:=y0.mk (y12 (qk Ap.out) hg (Kd.R_ne Al.out Ap.out (by decide)));replace Al:=y0.mk (hp_);replace HB:=y0.mk ((by rw [hw];exact below_set (HB.out) Px.out:Below w.heap.size w Hb));clear hg hw hp_))
              go_roundg k4
              case measure=>have:=Bw.out;have:=Bu.out;have:=En.out;have:=Od.out;omega
              exact⟨(Gx),(wrap64 (Ak + 1)),qy2,H',⟨by have:=Bw.out;have:=Bu.out;have:=En.out;have:=Od.out;omega⟩,⟨qR Al.out⟩,⟨qN (Kd.N_mono Av.out (fun _ hk=>⟨hk.2,⟨hk.1.1,hk.1.2⟩⟩))⟩,⟨qV (Kd.V_mono Bg.out (fun _ hk=>⟨hk.2,⟨hk.1.1,⟨hk.1.2.1,hk.1.2.2⟩⟩⟩))⟩,⟨qV (Kd.V_mono Au.out (fun _ hk=>⟨hk.2,⟨hk.1.1,⟨hk.1.2.1,hk.1.2.2⟩⟩⟩))⟩,⟨qk Ah.out⟩,⟨qk Ap.out⟩,⟨qb⟩⟩
             ·replace Oe:=Bool.eq_false_iff.mpr Oe
              subst Oe
              replace H:=qF H
              obtain rfl:=Option.some.inj H
              have Ck:0≤(Ak:Int):=qd
              have Cl:Ak < (((y22 Ab Aa).f2).length:Int):=qd
              obtain⟨Ct,Gy,Ca⟩:=Kd.at_int (Kd.V_reads' Bg.out).2.2 Ak Ck Cl
              cases Gy
              replace Ck:=eq_true Ck
              replace Cl:=eq_true Cl
              have Qa:=Ag.out
              have Qb:=As.out
              obtain⟨Iw,Ix,Iy,Iz,Ja,Jb,Jc,Jd,Je,Jf⟩:=qz5 Ah.out
              go_wp2_with (first|((with_reducible refine y18 (f:=22) rfl ?_);refine y21 (some 114) rfl rfl Tryz.func22 (by kernel_rfl) rfl #[.int .i64 (rd ((y22 Ab Aa).f2) Ak),.int .i64 0,.int .i64 (wrap64 ((Af.length:Int) - 1))] rfl qy1 ?_;(with_reducible refine(impl_in.calls (rd ((y22 Ab Aa).f2) Ak) 0 (wrap64 ((Af.length:Int) - 1)) false _ Ss.out).mono ?_);rintro e w' ⟨rfl,⟨nd,rfl⟩⟩;refine⟨_,rfl, ?_⟩))
              go_ret
              exact⟨qf,qb⟩
            ·as_aux_lemma =>
             rw [if_neg Hi]at H
             have Iq:=decide_eq_false Hi
             clear Hi
             have H':=y0.mk H
             clear H
             go_wp2
             go_roundg k4
             case measure=>have:=Bw.out;have:=Bu.out;have:=En.out;have:=Od.out;omega
             exact⟨(Be),(wrap64 (Aa + 1)),qy2,H',⟨by have:=Bw.out;have:=Bu.out;have:=En.out;have:=Od.out;omega⟩,⟨qR Al.out⟩,⟨qN (Kd.N_mono Av.out (fun _ hk=>⟨hk.1,hk.2.1⟩))⟩,⟨qk Ah.out⟩,⟨qb⟩⟩
      ·as_aux_lemma =>
       rw [if_neg Hh]at H
       have Fk:=decide_eq_false Hh
       clear Hh
       by_cases De:(Af.length:Int)≤60
       ·as_aux_lemma =>
        rw [if_pos De]at H
        have Hc:=decide_eq_true De
        have Hd:decide (Af.length≤60)=true:=decide_eq_true (by omega)
        clear De
        obtain⟨Qc,Qd,H⟩:=qB H
        obtain rfl:=Option.some.inj H
        obtain⟨Jg,Jh,Ji,Jj,Jk,Jl,Jm,Jn,Jo,Jp⟩:=qz5 Ah.out
        obtain⟨Ta,Tc,Jq⟩:=Kd.R_slice Al.out
        subst Jq
        go_wp2_with (first|(go_at_call 67;(with_reducible refine(slices_ContainsFunc_int_int_impl_isFormed_1.calls k2 _ _ Ba  Qc _ (qc ((Kd.R_reads' Al.out).2.2)) (by exact(Kd.R_reads' Al.out).2.1) Qd.out).mono ?_);rintro e w' ⟨rfl,⟨nd,rfl⟩⟩))
        go_ret
        exact⟨qf,qb⟩
       ·as_aux_lemma =>
        rw [if_neg De]at H
        have Hc:=decide_eq_false De
        have Hd:decide (Af.length≤60)=false:=decide_eq_false (by omega)
        clear De
        obtain rfl:=Option.some.inj H
        obtain⟨Jr,Js,Jt,Ju,Jv,Jw,Jx,Jy,Jz,Ka⟩:=qz5 Ah.out
        go_wp2
        go_ret
        exact⟨qf,qb⟩
def strings_Join.f (l0:List ByteArray) (a1:ByteArray):Option ByteArray:=if(Lib.join (l0.map (·.data.toList)) a1.data.toList).length≤140737488355328 then if l0.length≤140737488355328 then some ⟨(Lib.join (l0.map (·.data.toList)) a1.data.toList).toArray⟩else none else none
theorem strings_Join.calls (A0:Option Addr) (c0:Nat) (l0:List ByteArray) (a1:ByteArray) (r:ByteArray) (w:World) (Ab:Kd.C Kd.string w A0 l0.length l0) (Ac:l0.length≤c0) (h:strings_Join.f l0 a1=some r) :
  Calls Tryz.prog 54 #[.slice A0 l0.length c0,.string a1] w fun e w'=>e=.returned (.string r)∧Below w.heap.size w w':=by
 unfold strings_Join.f at h
 by_cases h0:(Lib.join (l0.map (·.data.toList)) a1.data.toList).length≤140737488355328
 ·by_cases h1:l0.length≤140737488355328
  ·rw [if_pos h0,if_pos h1]at h
   obtain rfl:=Option.some.inj h
   cases l0 with
   | nil =>
    refine(Tryz.strings_Join_none A0 c0 a1 w).mono ?_
    rintro e w' ⟨rfl,rfl⟩
    exact⟨rfl,Below.refl _ _⟩
   | cons x xs =>
    obtain⟨⟨b,o,p⟩,rfl,hx⟩:=Ab.2.2 (by simp)
    have hcell:∀(j:Nat) y,(x :: xs)[j]?=some y→w.cell? ((⟨b,o,p⟩:Addr).add j)=some (.string y):=by
     intro j y hy
     obtain⟨c,hl,hK,hc⟩:=hx j y hy
     have e:c=[.string y]:=hK
     have:=hc 0 (.string y) (by rw [e];rfl)
     simpa [Kd.string,Kd.scalar] using this
    have hp:p=none:=by
     have Aa:=hcell 0 x rfl
     cases p with
     | none=>rfl
     | some q =>
      simp only [World.cell?,Addr.add]at Aa
      split at Aa <;> simp at Aa
    subst hp
    have hcell2:∀(j:Nat) y,(x :: xs)[j]?=some y→w.cell? ⟨b,o + j,none⟩=some (.string y):=by
     intro j y hy
     have:=hcell j y hy
     have e:(⟨b,o,none⟩:Addr).add j=⟨b,o + j,none⟩:=by
      unfold Addr.add
      split <;> simp_all
     rwa [e]at this
    exact Tryz.strings_Join b o c0 (x :: xs) a1 w hcell2 (World.block_lt_of_cell? w _ (hcell2 0 x rfl)) h1 Ac h0
  ·rw [if_pos h0,if_neg h1]at h
   cases h
 ·rw [if_neg h0]at h
  cases h
end Go.Proofs.YtimhlficlhafbaaGreatDoor.Pv
end
