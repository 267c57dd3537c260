-- Cut by prune.py, a program of this session, out of the texts of this claim: Lean checks it.
import Derived.Test.YtkajecadkkgfmaaGreatDoorVkqPnx0
import Derived.Test.YtkajecadkkgfmaaGreatDoorVkqPnx7
section
namespace Go.Proofs.YtkajecadkkgfmaaGreatDoor.Pn
open Go.RowKit Go.Proofs.YtkajecadkkgfmaaGreatDoorW.PrintWords Go.Proofs.YtkajecadkkgfmaaGreatDoorW.PrintLast Go.Proofs.YtkajecadkkgfmaaGreatDoorW.PrintMore
attribute [local go_sem] max2_int min2_int max_two min_two max_three min_three max_four min_four   -- for this text's walks alone
set_option linter.unusedVariables false
set_option linter.unusedSimpArgs false
mutual
def spec_RelOk.j0:Nat→Bool→Int→List (S36)→Option (Bool)
 | 0,_,_,_=>none
 | k + 1,x13,x238000,x238001=>if x13=true then(some false)else(spec_RelOk.l0 k 0 x238000 x238001)
def spec_RelOk.l0:Nat→Int→Int→List (S36)→Option (Bool)
 | 0,_,_,_=>none
 | k + 1,x3,x238000,x238001=>if x3 < (x238001.length:Int)then(if 0≤x3 then(if(((y24 x238001 x3).f0).length:Int)=x238000 then((spec_TupleOk.f k ((y24 x238001 x3).f0)).bind fun t241=>(if t241=true then(if x3 > 0 then(if 0≤(wrap64 (x3 - 1))then(if(wrap64 (x3 - 1)) < (x238001.length:Int)then((spec_l02Cmp.f k ((y24 x238001 (wrap64 (x3 - 1))).f0) ((y24 x238001 x3).f0)).bind fun t244=>(if t244≥0 then(some false)else(spec_RelOk.l0 k (wrap64 (x3 + 1)) x238000 x238001)))else(none))else(none))else(spec_RelOk.l0 k (wrap64 (x3 + 1)) x238000 x238001))else(some false)))else(some false))else(none))else(some true)
end
def spec_RelOk.f (k:Nat) (a0_0:Int) (l0_1:List (S36)):Option (Bool):=(spec_l01Between.f a0_0 0 6).bind fun t238=>(if t238=true then(spec_RelOk.j0 k (decide ((l0_1.length:Int) > 400)) a0_0 l0_1)else(spec_RelOk.j0 k true a0_0 l0_1))
def spec_RelOk.T6:Bool×List (List Nat×List Nat):=(true,[([],[]),([0],[0]),([],[]),([1,2],[1,2]),([3],[3]),([4],[4]),([5],[5]),([],[]),([7],[7]),([6,8],[6,8]),([9],[9]),([10],[10]),([11,10],[10,11]),([10],[10]),([12,13,10],[10,12,13]),([14,10],[10,14]),([15,10,10],[10,15]),([16,10],[10,16]),([10,17],[10,17]),([18,16],[18]),([19],[19]),([20,19],[19,20]),([21,19,19],[19,21]),([22],[22]),([23,22],[22,23]),([22],[22]),([25,22],[22,25]),([24,26,22],[22,24,26]),([27,22],[22,27]),([22],[22]),([29,22],[22,29]),([22],[22]),([30,31,22],[22,30,31]),([32,22],[22,32]),([28,33,22,22],[22,28,33]),([34,22],[22,34]),([22,35,19],[19,22,35]),([19,36],[19,36])])
def spec_RelOk.B6:List Nat:=[0,1,0,7,15,31,63,0,128,511,1023,2047,4095,2047,16383,32767,65535,131071,262143,524287,1048575,2097151,4194303,8388607,16777215,8388607,41943039,134217727,268435455,8388607,545259519,8388607,3766484991,8061452287,17179869183,34359738367,68719476735,137438953471]
theorem spec_RelOk.tab6:rtab .any (opsOf Tryz.f22 6)=spec_RelOk.T6:=by kernel_rfl
theorem spec_RelOk.bits6:waitsOk spec_RelOk.T6.2 spec_RelOk.B6=true:=by kernel_rfl
set_option maxHeartbeats 8000000 in
set_option maxRecDepth 100000 in
theorem spec_RelOk.calls (k:Nat) (Au:Int) (Ce:Option Addr) (Bl:Nat) (Ae:List (S36)) (r:Bool) (w:World) (Ci:Kd.C k36 w Ce Ae.length Ae) (Cj:Ae.length≤Bl) (h:spec_RelOk.f k Au Ae=some r) :
  Calls Tryz.prog 22 #[.agg #[.int .i64 Au,.slice Ce Ae.length Bl]] w fun e w'=>e=.returned (.bool r)∧Below w.heap.size w w':=by
 have Ew:=Tryz.underlying32
 have Ex:=Tryz.underlying36
 have Bg:=y0.mk Ci
 have Ej:=y0.mk Cj
 clear Ci Cj
 have HB:=y0.mk (Below.refl w.heap.size w)
 have H:((spec_l01Between.f Au 0 6).bind fun Ck=>(if Ck=true then(spec_RelOk.j0 k (decide ((Ae.length:Int) > 400)) Au Ae)else(spec_RelOk.j0 k true Au Ae)))=some r:=h
 clear h
 have Dw:=y0.mk H
 clear H
 go_enter Tryz.func22,Tryz.ntmps22
 go_upto_region 1 with(first|((with_reducible refine y20 (N:=1) rfl ?_);(try(refine y21 (by rfl) ?_;dsimp only));refine qe 1 #[.int .i64 Au,.slice Ce Ae.length Bl] 32 ?_;intro Bc hg w3 hbox hb;have Aa:=y0.mk (hbox);have Ek:=y0.mk (qg (w:=w) hg);have El:=y0.mk (qg (w:=w) hg);replace HB:=y0.mk (y8 qb hb);clear hb hbox hg))
 (try simp only [Act.put,qS_,qZ_,qC_])
 go_cut [13] (fun Ey wc=>∃(kq:Nat) (Bw:Bool),Ey=.bool Bw∧y0 (spec_RelOk.j0 kq Bw Au Ae=some r)∧y0 (kq≤k)∧y0 (wc.heap[Bc]?=some (.cells #[.int .i64 Au,(.slice Ce Ae.length Bl)] 32 (0,0)))∧y0 (Below w.heap.size w wc))
 case first =>
  have H:=Dw.out
  clear Dw
  obtain⟨Ck,A4,H⟩:=qB H
  by_cases c5:Ck=true
  ·subst c5
   replace H:=qT H
   have H':=y0.mk H
   clear H
   obtain⟨Dx,Dy,Dz,Ea⟩:=qz2 Aa.out
   go_wp2_with (first|((with_reducible refine y19 (f:=56) rfl ?_);refine y22 (some 6) rfl rfl Tryz.func56 (by kernel_rfl) rfl #[.int .i64 Au,.int .i64 0,.int .i64 6] rfl qy0 ?_;(with_reducible refine(spec_l01Between.calls Au 0 6 true _ A4.out).mono ?_);rintro e w' ⟨rfl,⟨nd,rfl⟩⟩;refine⟨_,rfl, ?_⟩))
   go_meet
   exact⟨_,(decide ((Ae.length:Int) > 400)),qy2,H',⟨by first|omega|exact Nat.le_refl _⟩,⟨qk Aa.out⟩,⟨qb⟩⟩
  ·replace c5:=Bool.eq_false_iff.mpr c5
   subst c5
   replace H:=qF H
   have H':=y0.mk H
   clear H
   obtain⟨Eb,Ec,Ed,Ee⟩:=qz2 Aa.out
   go_wp2_with (first|((with_reducible refine y19 (f:=56) rfl ?_);refine y22 (some 6) rfl rfl Tryz.func56 (by kernel_rfl) rfl #[.int .i64 Au,.int .i64 0,.int .i64 6] rfl qy0 ?_;(with_reducible refine(spec_l01Between.calls Au 0 6 false _ A4.out).mono ?_);rintro e w' ⟨rfl,⟨nd,rfl⟩⟩;refine⟨_,rfl, ?_⟩))
   go_meet
   exact⟨_,(true),qy2,H',⟨by first|omega|exact Nat.le_refl _⟩,⟨qk Aa.out⟩,⟨qb⟩⟩
 case rest =>
  clear Dw
  obtain⟨kq,Bw,rfl,HA,Cz,Aa,HB⟩:=hcut
  cases kq with
  | zero=>exact absurd HA.out (by simp [spec_RelOk.j0])
  | succ Em =>
   have H:=HA.out
   clear HA
   simp only [spec_RelOk.j0]at H
   by_cases c8:Bw=true
   ·subst c8
    replace H:=qT H
    obtain rfl:=Option.some.inj H
    go_wp2
    go_ret
    exact⟨qf,qb⟩
   ·replace c8:=Bool.eq_false_iff.mpr c8
    subst c8
    replace H:=qF H
    have H':=y0.mk H
    clear H
    go_wp2
    go_loopg [3] Em (fun kq v3 w'=>∃(Ad:Int),v3=.int .i64 Ad∧y0 (spec_RelOk.l0 kq Ad Au Ae=some r)∧y0 (kq≤Em)∧y0 (w'.heap[Bc]?=some (.cells #[.int .i64 Au,(.slice Ce Ae.length Bl)] 32 (0,0)))∧y0 (Below w.heap.size w w'))
    case atStart=>exact⟨(0),qy2,H',⟨Nat.le_refl _⟩,⟨qk Aa.out⟩,⟨qb⟩⟩
    case round =>
     clear H'
     (try clear c8)
     obtain⟨Ad,rfl,HA,Da,Aa,HB⟩:=hrel
     cases gk with
     | zero=>exact absurd HA.out (by simp [spec_RelOk.l0])
     | succ k2 =>
      have H:=HA.out
      clear HA
      simp only [spec_RelOk.l0]at H
      by_cases c9:Ad < (Ae.length:Int)
      ·as_aux_lemma =>
       rw [if_pos c9]at H
       have Ef:=decide_eq_true c9
       clear c9
       obtain⟨En,H⟩:=qo H
       have Eo:decide (0≤Ad)=true:=decide_eq_true En
       clear En
       by_cases Cl:(((y24 Ae Ad).f0).length:Int)=Au
       ·as_aux_lemma =>
        rw [if_pos Cl]at H
        have Cs:((((y24 Ae Ad).f0).length:Int) == Au)=true:=beq_iff_eq.mpr Cl
        have Ct:((((y24 Ae Ad).f0).length:Int) != Au)=false:=bne_eq_false_iff_eq.mpr Cl
        clear Cl
        obtain⟨Eg,Cu,H⟩:=qB H
        by_cases Db:Eg=true
        ·subst Db
         replace H:=qT H
         by_cases Cq:Ad > 0
         ·as_aux_lemma =>
          rw [if_pos Cq]at H
          have Cv:decide (0 < Ad)=true:=decide_eq_true Cq
          clear Cq
          obtain⟨Bd,Bi⟩:∃ j_:Int,(wrap64 (Ad - 1))=j_:=⟨_,rfl⟩
          replace H:(if 0≤(Bd)then(if(Bd) < (Ae.length:Int)then((spec_l02Cmp.f k2 ((y24 Ae (Bd)).f0) ((y24 Ae Ad).f0)).bind fun Bq=>(if Bq≥0 then(some false)else(spec_RelOk.l0 k2 (wrap64 (Ad + 1)) Au Ae)))else(none))else(none))=some r:=by first|(rw [Bi]at H;exact H)|(simp only [Bi]at H ⊢;exact H)
          (try rw [Bi]at Cu)
          have hji15w:(IntKind.i64.wrap (Ad - 1))=Bd:=(i64_w _).trans Bi
          obtain⟨Ep,H⟩:=qo H
          have Er:decide (0≤(Bd))=true:=decide_eq_true Ep
          clear Ep
          obtain⟨Es,H⟩:=qo H
          have Et:decide ((Bd) < (Ae.length:Int))=true:=decide_eq_true Es
          clear Es
          obtain⟨Bq,Eu,H⟩:=qB H
          obtain⟨Dc,Dd,De,Df⟩:=qz2 Aa.out
          try go_wp2
          replace Aa:=y0.mk (y12 Aa.out)
          replace HB:=y0.mk (y5 HB.out)
          have Be:0≤(Ad:Int):=of_decide_eq_true qy1
          have Bf:Ad < (Ae.length:Int):=of_decide_eq_true qy1
          obtain⟨Ai,Aj,Ak,Br,Ac,Al,Am⟩:=at_T36 Bg.out Ad Be Bf
          have Af:=Ac
          cases Br
          replace Ac:=(HB.out.cell (World.block_lt_of_cell? w _ Ac)).trans Ac
          have Az:=y0.mk Am
          have Bm:=y0.mk Al
          clear Am Al
          replace Be:=eq_true Be
          replace Bf:=eq_true Bf
          have Bj:0≤(Ad:Int):=of_decide_eq_true qy1
          have Bk:Ad < (Ae.length:Int):=of_decide_eq_true qy1
          obtain⟨Bp,Cf,Cg,Ch,Ag,Aw,Ay⟩:=at_T36 Bg.out Ad Bj Bk
          have Ah:=Ag
          obtain rfl:Ai=Bp:=(by injection Ch)
          replace Ag:=(HB.out.cell (World.block_lt_of_cell? w _ Ag)).trans Ag
          have Av:=y0.mk Ay
          have Bb:=y0.mk Aw
          clear Ay Aw
          replace Bj:=eq_true Bj
          replace Bk:=eq_true Bk
          have ea_:=Option.some.inj (Ac.symm.trans Ag)
          injection ea_ with ea_ en_ ec_
          subst ea_
          subst ec_
          clear en_
          have Cm:0≤((Bd):Int):=of_decide_eq_true qy1
          have Cn:(Bd) < (Ae.length:Int):=of_decide_eq_true qy1
          obtain⟨Cw,Bs,Bt,Eh,Bh,Bx,Bz⟩:=at_T36 Bg.out (Bd) Cm Cn
          have Ap:=Bh
          obtain rfl:Ai=Cw:=(by injection Eh)
          replace Bh:=(HB.out.cell (World.block_lt_of_cell? w _ Bh)).trans Bh
          have Bn:=y0.mk Bz
          have Ca:=y0.mk Bx
          clear Bz Bx
          replace Cm:=eq_true Cm
          replace Cn:=eq_true Cn
          have Co:0≤(Ad:Int):=of_decide_eq_true qy1
          have Cp:Ad < (Ae.length:Int):=of_decide_eq_true qy1
          obtain⟨Cx,Bu,Bv,Ei,Ba,Cb,Cc⟩:=at_T36 Bg.out Ad Co Cp
          have Aq:=Ba
          obtain rfl:Ai=Cx:=(by injection Ei)
          replace Ba:=(HB.out.cell (World.block_lt_of_cell? w _ Ba)).trans Ba
          have Bo:=y0.mk Cc
          have Cd:=y0.mk Cb
          clear Cc Cb
          replace Co:=eq_true Co
          replace Cp:=eq_true Cp
          refine start_ (n:=38) (S:=fun w'=>w'.cell? ⟨Bc,0,none⟩=some (.int .i64 Au)∧w'.cell? ⟨Bc,1,none⟩=some (.slice (some Ai) Ae.length Bl)∧w'.cell? (Ai.add (Ad).toNat)=some (.slice Aj ((y24 Ae Ad).f0).length Ak)∧w'.cell? (Ai.add (Ad).toNat)=some (.slice Aj ((y24 Ae Ad).f0).length Ak)∧w'.cell? (Ai.add ((Bd)).toNat)=some (.slice Bs ((y24 Ae (Bd)).f0).length Bt)∧w'.cell? (Ai.add (Ad).toNat)=some (.slice Bu ((y24 Ae Ad).f0).length Bv)) (ds:=[]) (fl_ 38 0) (by kernel_rfl) rfl rfl ⟨(y11 Aa.out 0).trans rfl,(y11 Aa.out 1).trans rfl,((HB.out.cell (World.block_lt_of_cell? w _ Af)).trans Af),((HB.out.cell (World.block_lt_of_cell? w _ Ah)).trans Ah),((HB.out.cell (World.block_lt_of_cell? w _ Ap)).trans Ap),((HB.out.cell (World.block_lt_of_cell? w _ Aq)).trans Aq)⟩ (fun hHeld=>?_);refine with_tabW spec_RelOk.tab6 spec_RelOk.bits6 (fun HT_ HW_=>?_)
          generalize wr.drew=Ez at Aa HB Az Av Bn Bo Ac Ag Bh Ba hHeld ⊢
          by_cases Cr:Bq≥0
          ·as_aux_lemma =>
           rw [if_pos Cr]at H
           have Cy:decide (0≤Bq)=true:=decide_eq_true Cr
           clear Cr
           obtain rfl:=Option.some.inj H
           refine qp 0 21 (fl_ 38 1) ?_
           refine qp 2 23 (fl_ 38 5) ?_
           refine qp 7 28 (fl_ 38 133) ?_
           refine qt 1 22 (fl_ 38 135) hHeld ?_
           refine qp 3 24 (fl_ 38 143) ?_
           refine qp 4 25 (fl_ 38 159) ?_
           refine qt 5 26 (fl_ 38 191) hHeld ?_
           refine qp 6 27 (fl_ 38 255) ?_
           refine qt 8 29 (fl_ 38 511) hHeld ?_
           refine qp3 9 30 38 ?_
           refine qp 13 34 (fl_ 38 12287) ?_
           refine qt 12 33 (fl_ 38 16383) hHeld ?_
           refine qp 14 35 (fl_ 38 32767) ?_
           refine qt 15 36 (fl_ 38 65535) hHeld ?_
           refine qO 16 37 (fl_ 38 131071) (fun K hK=>?_)
           refine goes_ Tryz.func35 (by kernel_rfl) rfl #[.agg #[.slice Aj ((y24 Ae Ad).f0).length Ak]] (by rfl) rfl rfl qy0 ?_
           with_reducible refine(spec_TupleOk.calls k2 _ _ ((y24 Ae Ad).f0) true _ (qc (Kd.C_below Av.out HB.out)) Bb.out Cu.out).mono ?_
           rintro e Fa ⟨rfl,hb⟩
           refine⟨_,rfl, ?_⟩
           replace Aa:=y0.mk (qK Aa.out hb)
           replace HB:=y0.mk (y8 qb hb)
           (try clear hb)
           refine hK.out _ _ ⟨(y11 Aa.out 0).trans rfl,(y11 Aa.out 1).trans rfl,((HB.out.cell (World.block_lt_of_cell? w _ Af)).trans Af),((HB.out.cell (World.block_lt_of_cell? w _ Ah)).trans Ah),((HB.out.cell (World.block_lt_of_cell? w _ Ap)).trans Ap),((HB.out.cell (World.block_lt_of_cell? w _ Aq)).trans Aq)⟩ (fun hHeld=>?_)
           clear hK K
           refine qx 37 ?_
           refine qp6 17 38 38 ?_
           refine qp 23 44 (fl_ 38 16777215) ?_
           refine qp 25 46 (fl_ 38 50331647) ?_
           refine qp 26 47 (fl_ 38 117440511) ?_
           refine qp 29 50 (fl_ 38 654311423) ?_
           refine qp 31 52 (fl_ 38 2801795071) ?_
           refine qt 24 45 (fl_ 38 2818572287) hHeld ?_
           refine qp 27 48 (fl_ 38 2952790015) ?_
           refine qt 28 49 (fl_ 38 3221225471) hHeld ?_
           refine qt 30 51 (fl_ 38 4294967295) hHeld ?_
           refine qp 32 53 (fl_ 38 8589934591) ?_
           refine qt 33 54 (fl_ 38 17179869183) hHeld ?_
           refine qO 34 55 (fl_ 38 34359738367) (fun K hK=>?_)
           refine goes_ Tryz.func57 (by kernel_rfl) rfl #[.agg #[.slice Bs ((y24 Ae (Bd)).f0).length Bt],.agg #[.slice Bu ((y24 Ae Ad).f0).length Bv]] (by rfl) rfl rfl (by(try simp only [qM_,List.map_cons,List.map_nil]);first|done|(have e9_:=Ac.symm.trans Ba;simp only [Option.some.injEq,Value.slice.injEq]at e9_;obtain⟨e1_,_,e2_⟩:=e9_;subst e1_;subst e2_;rfl)|(simp only [Bi];rfl)|rfl|(simp only [qD_,qT_];rfl)) ?_
           with_reducible refine(spec_l02Cmp.calls k2 _ _ ((y24 Ae (Bd)).f0) _ _ ((y24 Ae Ad).f0) Bq _ (qc (Kd.C_below Bn.out HB.out)) Ca.out (qc (Kd.C_below Bo.out HB.out)) Cd.out Eu.out).mono ?_
           rintro e Fb ⟨rfl,hb⟩
           refine⟨_,rfl, ?_⟩
           replace Aa:=y0.mk (qK Aa.out hb)
           replace HB:=y0.mk (y8 qb hb)
           (try clear hb)
           refine hK.out _ _ ⟨(y11 Aa.out 0).trans rfl,(y11 Aa.out 1).trans rfl,((HB.out.cell (World.block_lt_of_cell? w _ Af)).trans Af),((HB.out.cell (World.block_lt_of_cell? w _ Ah)).trans Ah),((HB.out.cell (World.block_lt_of_cell? w _ Ap)).trans Ap),((HB.out.cell (World.block_lt_of_cell? w _ Aq)).trans Aq)⟩ (fun hHeld=>?_)
           clear hK K
           refine qx 55 ?_
           refine qp3 35 56 38 ?_
           refine done_ (done_of HT_.out (by kernel_rfl)) ?_
           try go_wp2
           go_ret
           exact⟨by first|rfl|(simp [y17,y18] <;> rfl)|(simp only [← Bi];first|rfl|(simp [y17,y18] <;> rfl))|(simp [*,y17,y18] <;> rfl),qb⟩
          ·as_aux_lemma =>
           rw [if_neg Cr]at H
           have Cy:decide (0≤Bq)=false:=decide_eq_false Cr
           clear Cr
           have H':=y0.mk H
           clear H
           refine qp 0 21 (fl_ 38 1) ?_
           refine qp 2 23 (fl_ 38 5) ?_
           refine qp 7 28 (fl_ 38 133) ?_
           refine qt 1 22 (fl_ 38 135) hHeld ?_
           refine qp 3 24 (fl_ 38 143) ?_
           refine qp 4 25 (fl_ 38 159) ?_
           refine qt 5 26 (fl_ 38 191) hHeld ?_
           refine qp 6 27 (fl_ 38 255) ?_
           refine qt 8 29 (fl_ 38 511) hHeld ?_
           refine qp3 9 30 38 ?_
           refine qp 13 34 (fl_ 38 12287) ?_
           refine qt 12 33 (fl_ 38 16383) hHeld ?_
           refine qp 14 35 (fl_ 38 32767) ?_
           refine qt 15 36 (fl_ 38 65535) hHeld ?_
           refine qO 16 37 (fl_ 38 131071) (fun K hK=>?_)
           refine goes_ Tryz.func35 (by kernel_rfl) rfl #[.agg #[.slice Aj ((y24 Ae Ad).f0).length Ak]] (by rfl) rfl rfl qy0 ?_
           with_reducible refine(spec_TupleOk.calls k2 _ _ ((y24 Ae Ad).f0) true _ (qc (Kd.C_below Av.out HB.out)) Bb.out Cu.out).mono ?_
           rintro e Fc ⟨rfl,hb⟩
           refine⟨_,rfl, ?_⟩
           replace Aa:=y0.mk (qK Aa.out hb)
           replace HB:=y0.mk (y8 qb hb)
           (try clear hb)
           refine hK.out _ _ ⟨(y11 Aa.out 0).trans rfl,(y11 Aa.out 1).trans rfl,((HB.out.cell (World.block_lt_of_cell? w _ Af)).trans Af),((HB.out.cell (World.block_lt_of_cell? w _ Ah)).trans Ah),((HB.out.cell (World.block_lt_of_cell? w _ Ap)).trans Ap),((HB.out.cell (World.block_lt_of_cell? w _ Aq)).trans Aq)⟩ (fun hHeld=>?_)
           clear hK K
           refine qx 37 ?_
           refine qp6 17 38 38 ?_
           refine qp 23 44 (fl_ 38 16777215) ?_
           refine qp 25 46 (fl_ 38 50331647) ?_
           refine qp 26 47 (fl_ 38 117440511) ?_
           refine qp 29 50 (fl_ 38 654311423) ?_
           refine qp 31 52 (fl_ 38 2801795071) ?_
           refine qt 24 45 (fl_ 38 2818572287) hHeld ?_
           refine qp 27 48 (fl_ 38 2952790015) ?_
           refine qt 28 49 (fl_ 38 3221225471) hHeld ?_
           refine qt 30 51 (fl_ 38 4294967295) hHeld ?_
           refine qp 32 53 (fl_ 38 8589934591) ?_
           refine qt 33 54 (fl_ 38 17179869183) hHeld ?_
           refine qO 34 55 (fl_ 38 34359738367) (fun K hK=>?_)
           refine goes_ Tryz.func57 (by kernel_rfl) rfl #[.agg #[.slice Bs ((y24 Ae (Bd)).f0).length Bt],.agg #[.slice Bu ((y24 Ae Ad).f0).length Bv]] (by rfl) rfl rfl (by(try simp only [qM_,List.map_cons,List.map_nil]);first|done|(have e9_:=Ac.symm.trans Ba;simp only [Option.some.injEq,Value.slice.injEq]at e9_;obtain⟨e1_,_,e2_⟩:=e9_;subst e1_;subst e2_;rfl)|(simp only [Bi];rfl)|rfl|(simp only [qD_,qT_];rfl)) ?_
           with_reducible refine(spec_l02Cmp.calls k2 _ _ ((y24 Ae (Bd)).f0) _ _ ((y24 Ae Ad).f0) Bq _ (qc (Kd.C_below Bn.out HB.out)) Ca.out (qc (Kd.C_below Bo.out HB.out)) Cd.out Eu.out).mono ?_
           rintro e Fd ⟨rfl,hb⟩
           refine⟨_,rfl, ?_⟩
           replace Aa:=y0.mk (qK Aa.out hb)
           replace HB:=y0.mk (y8 qb hb)
           (try clear hb)
           refine hK.out _ _ ⟨(y11 Aa.out 0).trans rfl,(y11 Aa.out 1).trans rfl,((HB.out.cell (World.block_lt_of_cell? w _ Af)).trans Af),((HB.out.cell (World.block_lt_of_cell? w _ Ah)).trans Ah),((HB.out.cell (World.block_lt_of_cell? w _ Ap)).trans Ap),((HB.out.cell (World.block_lt_of_cell? w _ Aq)).trans Aq)⟩ (fun hHeld=>?_)
           clear hK K
           refine qx 55 ?_
           refine qp3 35 56 38 ?_
           refine done_ (done_of HT_.out (by kernel_rfl)) ?_
           try go_wp2
           go_roundg k2
           case measure=>have:=Cz.out;have:=Da.out;omega
           exact⟨(wrap64 (Ad + 1)),qy2,H',⟨by have:=Cz.out;have:=Da.out;omega⟩,⟨qk Aa.out⟩,⟨qb⟩⟩
         ·as_aux_lemma =>
          rw [if_neg Cq]at H
          have Cv:decide (0 < Ad)=false:=decide_eq_false Cq
          clear Cq
          have H':=y0.mk H
          clear H
          obtain⟨Dg,Dh,Di,Dj⟩:=qz2 Aa.out
          try go_wp2
          replace Aa:=y0.mk (y12 Aa.out)
          replace HB:=y0.mk (y5 HB.out)
          have Be:0≤(Ad:Int):=of_decide_eq_true qy1
          have Bf:Ad < (Ae.length:Int):=of_decide_eq_true qy1
          obtain⟨Ai,Aj,Ak,Br,Ac,Al,Am⟩:=at_T36 Bg.out Ad Be Bf
          have Af:=Ac
          cases Br
          replace Ac:=(HB.out.cell (World.block_lt_of_cell? w _ Ac)).trans Ac
          have Az:=y0.mk Am
          have Bm:=y0.mk Al
          clear Am Al
          replace Be:=eq_true Be
          replace Bf:=eq_true Bf
          have Bj:0≤(Ad:Int):=of_decide_eq_true qy1
          have Bk:Ad < (Ae.length:Int):=of_decide_eq_true qy1
          obtain⟨Bp,Cf,Cg,Ch,Ag,Aw,Ay⟩:=at_T36 Bg.out Ad Bj Bk
          have Ah:=Ag
          obtain rfl:Ai=Bp:=(by injection Ch)
          replace Ag:=(HB.out.cell (World.block_lt_of_cell? w _ Ag)).trans Ag
          have Av:=y0.mk Ay
          have Bb:=y0.mk Aw
          clear Ay Aw
          replace Bj:=eq_true Bj
          replace Bk:=eq_true Bk
          have ea_:=Option.some.inj (Ac.symm.trans Ag)
          injection ea_ with ea_ en_ ec_
          subst ea_
          subst ec_
          clear en_
          refine start_ (n:=38) (S:=fun w'=>w'.cell? ⟨Bc,0,none⟩=some (.int .i64 Au)∧w'.cell? ⟨Bc,1,none⟩=some (.slice (some Ai) Ae.length Bl)∧w'.cell? (Ai.add (Ad).toNat)=some (.slice Aj ((y24 Ae Ad).f0).length Ak)∧w'.cell? (Ai.add (Ad).toNat)=some (.slice Aj ((y24 Ae Ad).f0).length Ak)) (ds:=[]) (fl_ 38 0) (by kernel_rfl) rfl rfl ⟨(y11 Aa.out 0).trans rfl,(y11 Aa.out 1).trans rfl,((HB.out.cell (World.block_lt_of_cell? w _ Af)).trans Af),((HB.out.cell (World.block_lt_of_cell? w _ Ah)).trans Ah)⟩ (fun hHeld=>?_);refine with_tabW spec_RelOk.tab6 spec_RelOk.bits6 (fun HT_ HW_=>?_)
          generalize wr.drew=Fe at Aa HB Az Av Ac Ag hHeld ⊢
          refine qp 0 21 (fl_ 38 1) ?_
          refine qp 2 23 (fl_ 38 5) ?_
          refine qp 7 28 (fl_ 38 133) ?_
          refine qt 1 22 (fl_ 38 135) hHeld ?_
          refine qp 3 24 (fl_ 38 143) ?_
          refine qp 4 25 (fl_ 38 159) ?_
          refine qt 5 26 (fl_ 38 191) hHeld ?_
          refine qp 6 27 (fl_ 38 255) ?_
          refine qt 8 29 (fl_ 38 511) hHeld ?_
          refine qp3 9 30 38 ?_
          refine qp 13 34 (fl_ 38 12287) ?_
          refine qt 12 33 (fl_ 38 16383) hHeld ?_
          refine qp 14 35 (fl_ 38 32767) ?_
          refine qt 15 36 (fl_ 38 65535) hHeld ?_
          refine qO 16 37 (fl_ 38 131071) (fun K hK=>?_)
          refine goes_ Tryz.func35 (by kernel_rfl) rfl #[.agg #[.slice Aj ((y24 Ae Ad).f0).length Ak]] (by rfl) rfl rfl qy0 ?_
          with_reducible refine(spec_TupleOk.calls k2 _ _ ((y24 Ae Ad).f0) true _ (qc (Kd.C_below Av.out HB.out)) Bb.out Cu.out).mono ?_
          rintro e Ff ⟨rfl,hb⟩
          refine⟨_,rfl, ?_⟩
          replace Aa:=y0.mk (qK Aa.out hb)
          replace HB:=y0.mk (y8 qb hb)
          (try clear hb)
          refine hK.out _ _ ⟨(y11 Aa.out 0).trans rfl,(y11 Aa.out 1).trans rfl,((HB.out.cell (World.block_lt_of_cell? w _ Af)).trans Af),((HB.out.cell (World.block_lt_of_cell? w _ Ah)).trans Ah)⟩ (fun hHeld=>?_)
          clear hK K
          refine qx 37 ?_
          refine qp10 17 38 38 ?_
          refine qp10 27 48 38 ?_
          refine qp 37 58 (fl_ 38 274877906943) ?_
          refine done_ (done_of HT_.out (by kernel_rfl)) ?_
          try go_wp2
          go_roundg k2
          case measure=>have:=Cz.out;have:=Da.out;omega
          exact⟨(wrap64 (Ad + 1)),qy2,H',⟨by have:=Cz.out;have:=Da.out;omega⟩,⟨qk Aa.out⟩,⟨qb⟩⟩
        ·replace Db:=Bool.eq_false_iff.mpr Db
         subst Db
         replace H:=qF H
         obtain rfl:=Option.some.inj H
         obtain⟨Dk,Dl,Dm,Dn⟩:=qz2 Aa.out
         try go_wp2
         replace Aa:=y0.mk (y12 Aa.out)
         replace HB:=y0.mk (y5 HB.out)
         have Be:0≤(Ad:Int):=of_decide_eq_true qy1
         have Bf:Ad < (Ae.length:Int):=of_decide_eq_true qy1
         obtain⟨Ai,Aj,Ak,Br,Ac,Al,Am⟩:=at_T36 Bg.out Ad Be Bf
         have Af:=Ac
         cases Br
         replace Ac:=(HB.out.cell (World.block_lt_of_cell? w _ Ac)).trans Ac
         have Az:=y0.mk Am
         have Bm:=y0.mk Al
         clear Am Al
         replace Be:=eq_true Be
         replace Bf:=eq_true Bf
         have Bj:0≤(Ad:Int):=of_decide_eq_true qy1
         have Bk:Ad < (Ae.length:Int):=of_decide_eq_true qy1
         obtain⟨Bp,Cf,Cg,Ch,Ag,Aw,Ay⟩:=at_T36 Bg.out Ad Bj Bk
         have Ah:=Ag
         obtain rfl:Ai=Bp:=(by injection Ch)
         replace Ag:=(HB.out.cell (World.block_lt_of_cell? w _ Ag)).trans Ag
         have Av:=y0.mk Ay
         have Bb:=y0.mk Aw
         clear Ay Aw
         replace Bj:=eq_true Bj
         replace Bk:=eq_true Bk
         have ea_:=Option.some.inj (Ac.symm.trans Ag)
         injection ea_ with ea_ en_ ec_
         subst ea_
         subst ec_
         clear en_
         refine start_ (n:=38) (S:=fun w'=>w'.cell? ⟨Bc,0,none⟩=some (.int .i64 Au)∧w'.cell? ⟨Bc,1,none⟩=some (.slice (some Ai) Ae.length Bl)∧w'.cell? (Ai.add (Ad).toNat)=some (.slice Aj ((y24 Ae Ad).f0).length Ak)∧w'.cell? (Ai.add (Ad).toNat)=some (.slice Aj ((y24 Ae Ad).f0).length Ak)) (ds:=[]) (fl_ 38 0) (by kernel_rfl) rfl rfl ⟨(y11 Aa.out 0).trans rfl,(y11 Aa.out 1).trans rfl,((HB.out.cell (World.block_lt_of_cell? w _ Af)).trans Af),((HB.out.cell (World.block_lt_of_cell? w _ Ah)).trans Ah)⟩ (fun hHeld=>?_);refine with_tabW spec_RelOk.tab6 spec_RelOk.bits6 (fun HT_ HW_=>?_)
         generalize wr.drew=Fg at Aa HB Az Av Ac Ag hHeld ⊢
         refine qp 0 21 (fl_ 38 1) ?_
         refine qp 2 23 (fl_ 38 5) ?_
         refine qp 7 28 (fl_ 38 133) ?_
         refine qt 1 22 (fl_ 38 135) hHeld ?_
         refine qp 3 24 (fl_ 38 143) ?_
         refine qp 4 25 (fl_ 38 159) ?_
         refine qt 5 26 (fl_ 38 191) hHeld ?_
         refine qp 6 27 (fl_ 38 255) ?_
         refine qt 8 29 (fl_ 38 511) hHeld ?_
         refine qp3 9 30 38 ?_
         refine qp 13 34 (fl_ 38 12287) ?_
         refine qt 12 33 (fl_ 38 16383) hHeld ?_
         refine qp 14 35 (fl_ 38 32767) ?_
         refine qt 15 36 (fl_ 38 65535) hHeld ?_
         refine qO 16 37 (fl_ 38 131071) (fun K hK=>?_)
         refine goes_ Tryz.func35 (by kernel_rfl) rfl #[.agg #[.slice Aj ((y24 Ae Ad).f0).length Ak]] (by rfl) rfl rfl qy0 ?_
         with_reducible refine(spec_TupleOk.calls k2 _ _ ((y24 Ae Ad).f0) false _ (qc (Kd.C_below Av.out HB.out)) Bb.out Cu.out).mono ?_
         rintro e Fh ⟨rfl,hb⟩
         refine⟨_,rfl, ?_⟩
         replace Aa:=y0.mk (qK Aa.out hb)
         replace HB:=y0.mk (y8 qb hb)
         (try clear hb)
         refine hK.out _ _ ⟨(y11 Aa.out 0).trans rfl,(y11 Aa.out 1).trans rfl,((HB.out.cell (World.block_lt_of_cell? w _ Af)).trans Af),((HB.out.cell (World.block_lt_of_cell? w _ Ah)).trans Ah)⟩ (fun hHeld=>?_)
         clear hK K
         refine qx 37 ?_
         refine qp10 17 38 38 ?_
         refine qp10 27 48 38 ?_
         refine qp 37 58 (fl_ 38 274877906943) ?_
         refine done_ (done_of HT_.out (by kernel_rfl)) ?_
         try go_wp2
         go_ret
         exact⟨qf,qb⟩
       ·as_aux_lemma =>
        rw [if_neg Cl]at H
        have Cs:((((y24 Ae Ad).f0).length:Int) == Au)=false:=beq_eq_false_iff_ne.mpr Cl
        have Ct:((((y24 Ae Ad).f0).length:Int) != Au)=true:=bne_iff_ne.mpr Cl
        obtain rfl:=Option.some.inj H
        obtain⟨Do,Dp,Dq,Dr⟩:=qz2 Aa.out
        try go_wp2
        replace Aa:=y0.mk (y12 Aa.out)
        replace HB:=y0.mk (y5 HB.out)
        have Be:0≤(Ad:Int):=of_decide_eq_true qy1
        have Bf:Ad < (Ae.length:Int):=of_decide_eq_true qy1
        obtain⟨Ai,Aj,Ak,Br,Ac,Al,Am⟩:=at_T36 Bg.out Ad Be Bf
        have Af:=Ac
        cases Br
        replace Ac:=(HB.out.cell (World.block_lt_of_cell? w _ Ac)).trans Ac
        have Az:=y0.mk Am
        have Bm:=y0.mk Al
        clear Am Al
        replace Be:=eq_true Be
        replace Bf:=eq_true Bf
        refine start_ (n:=38) (S:=fun w'=>w'.cell? ⟨Bc,0,none⟩=some (.int .i64 Au)∧w'.cell? ⟨Bc,1,none⟩=some (.slice (some Ai) Ae.length Bl)∧w'.cell? (Ai.add (Ad).toNat)=some (.slice Aj ((y24 Ae Ad).f0).length Ak)) (ds:=[]) (fl_ 38 0) (by kernel_rfl) rfl rfl ⟨(y11 Aa.out 0).trans rfl,(y11 Aa.out 1).trans rfl,((HB.out.cell (World.block_lt_of_cell? w _ Af)).trans Af)⟩ (fun hHeld=>?_);refine with_tabW spec_RelOk.tab6 spec_RelOk.bits6 (fun HT_ HW_=>?_)
        generalize wr.drew=Fi at Aa HB Az Ac hHeld ⊢
        refine qp 0 21 (fl_ 38 1) ?_
        refine qp 2 23 (fl_ 38 5) ?_
        refine qp 7 28 (fl_ 38 133) ?_
        refine qt 1 22 (fl_ 38 135) hHeld ?_
        refine qp 3 24 (fl_ 38 143) ?_
        refine qp 4 25 (fl_ 38 159) ?_
        refine qt 5 26 (fl_ 38 191) hHeld ?_
        refine qp 6 27 (fl_ 38 255) ?_
        refine qt 8 29 (fl_ 38 511) hHeld ?_
        refine qp10 9 30 38 ?_
        refine qp10 19 40 38 ?_
        refine qp6 29 50 38 ?_
        refine qp3 35 56 38 ?_
        refine done_ (done_of HT_.out (by kernel_rfl)) ?_
        try go_wp2
        go_ret
        exact⟨qf,qb⟩
      ·as_aux_lemma =>
       rw [if_neg c9]at H
       have Ef:=decide_eq_false c9
       clear c9
       obtain rfl:=Option.some.inj H
       obtain⟨Ds,Dt,Du,Dv⟩:=qz2 Aa.out
       go_wp2
       go_ret
       exact⟨qf,qb⟩
end Go.Proofs.YtkajecadkkgfmaaGreatDoor.Pn
end
section
namespace Go.Proofs.YtkajecadkkgfmaaGreatDoor.Pn
open Go.RowKit Go.Proofs.YtkajecadkkgfmaaGreatDoorW.PrintWords Go.Proofs.YtkajecadkkgfmaaGreatDoorW.PrintLast Go.Proofs.YtkajecadkkgfmaaGreatDoorW.PrintMore
attribute [local go_sem] max2_int min2_int max_two min_two max_three min_three max_four min_four   -- for this text's walks alone
set_option linter.unusedVariables false
set_option linter.unusedSimpArgs false
def spec_l02Tuple.f (l0_0:List ByteArray):Option (List ByteArray):=(some (([]:List ByteArray):List ByteArray)).bind fun y247=>(if y247.length + l0_0.length < 8796093022208 then(some (y247 ++ l0_0))else(none))
set_option maxHeartbeats 8000000 in
set_option maxRecDepth 100000 in
theorem spec_l02Tuple.calls (Au:Option Addr) (Av:Nat) (Ad:List ByteArray) (r:List ByteArray) (w:World) (Ak:Kd.C Kd.string w Au Ad.length Ad) (Al:Ad.length≤Av) (h:spec_l02Tuple.f Ad=some r) :
  Calls Tryz.prog 58 #[.agg #[.slice Au Ad.length Av]] w fun e w'=>∃ v0_:Value,e=.returned (.agg #[v0_])∧Kd.R Kd.string 9 w' w.heap.size (fun _=>True) v0_ r∧Below w.heap.size w w':=by
 have Bq:=Tryz.underlying36
 have Ay:=y0.mk Ak
 have Bk:=y0.mk Al
 clear Ak Al
 have HB:=y0.mk (Below.refl w.heap.size w)
 have H:((some (([]:List ByteArray):List ByteArray)).bind fun Ag=>(if Ag.length + Ad.length < 8796093022208 then(some (Ag ++ Ad))else(none)))=some r:=h
 clear h
 obtain⟨Ag,Ae⟩:∃ y_:List ByteArray,y_=(([]:List ByteArray)):=⟨_,rfl⟩
 replace H:(if Ag.length + Ad.length < 8796093022208 then(some (Ag ++ Ad))else(none))=some r:=by first|(rw [Ae];with_reducible exact H)|(have H2_:=(Option.bind_some _ _).symm.trans H;rw [Ae];with_reducible exact H2_)|(have H2_:=(Option.bind_some _ _).symm.trans H;with_reducible exact H2_)|with_reducible exact H|(rw [Ae];exact H)|exact H
 have Am:=y0.mk Ae
 clear Ae
 obtain⟨c2,H⟩:=qo H
 have Bf:=y0.mk c2
 clear c2
 obtain⟨Aw,Af⟩:∃ y_:List ByteArray,y_=(Ag ++ Ad):=⟨_,rfl⟩
 replace H:(some Aw)=some r:=by first|(rw [Af];with_reducible exact H)|(have H2_:=(Option.bind_some _ _).symm.trans H;rw [Af];with_reducible exact H2_)|(have H2_:=(Option.bind_some _ _).symm.trans H;with_reducible exact H2_)|with_reducible exact H|(rw [Af];exact H)|exact H
 have Az:=y0.mk Af
 clear Af
 obtain rfl:=Option.some.inj H
 go_enter Tryz.func58,Tryz.ntmps58
 go_wp2_with (first|((with_reducible refine y20 (N:=1) rfl ?_);refine qe 1 #[.slice Au Ad.length Av] 36 ?_;intro Bl hg w3 hbox hb;have Aa:=y0.mk (hbox);have Bm:=y0.mk (qg (w:=w) hg);have Bn:=y0.mk (qg (w:=w) hg);replace HB:=y0.mk (y8 qb hb);clear hb hbox hg)|((with_reducible refine y20 (N:=2) rfl ?_);refine qe 2 #[.slice none 0 0] 36 ?_;intro Ap hg w4 hbox hb;have Ac:=y0.mk (hbox);have Bo:=y0.mk (qg (w:=w) hg);have Bp:=y0.mk (qg (w:=w) hg);replace HB:=y0.mk (y8 qb hb);have Ai:=y0.mk (qn Aa.out hg);have Aj:=y0.mk (qm Aa.out hg);replace Aa:=y0.mk (qK Aa.out hb);clear hb hbox hg)|((with_reducible refine y20 (N:=3) rfl ?_);refine qL Kd.string 9 3 ([]:List ByteArray) ?_;intro Bg w5 Ba hb hg_ hnew_;clear hg_ hnew_;(first|rw [← Am.out]at Ba|(simp only [Int.reduceToNat]at Ba;rw [← Am.out]at Ba));have Ah:=y0.mk (Kd.R_lower Ba (y7 qb));replace Aa:=y0.mk (qK Aa.out hb);replace Ac:=y0.mk (qK Ac.out hb);replace HB:=y0.mk (y8 qb hb);clear hb Ba;have Br:=Ai.out;have Bs:=Aj.out;obtain⟨Bh,Bi⟩:=qz1 Aa.out)|((with_reducible refine gate_builtin (b:=.append) (xs:=#[.tmp 3,.tmp 5]) rfl ?_);at_builtin;refine Kd.R_append_rows Kd.string (w0:=w) w.heap.size rfl (.tmp 3) (.tmp 5) 25 9 (.string ⟨#[]⟩) 16 rfl Tryz.underlying25 info9 rfl (by decide) (by omega) Bg Ag Ad _ _ _ (fun _=>True) (fun _=>False) rfl rfl ?aO ?aR (fun _ _ h=>h) (fun _ h=>h.elim) ?aF ?aB ?aS ?aL ?_;(case aR=>repeat(first|exact(Kd.C_below Ay.out HB.out)|(with_reducible refine Kd.C_alloc ?_ _)|(with_reducible refine Kd.C_drewN ?_ _)|(with_reducible refine Kd.C_drew ?_)));(case aB=>exact qb);(case aF=>exact(fun _ _=>trivial));(case aO=>exact(qR Ah.out));(case aS=>exact(y7 qb));(case aL=>have:=Bf.out;omega);intro Bt w9 ho hb hg hat;rw [← Az.out]at ho;replace Aa:=y0.mk (blk_grown (qk Aa.out) hg (Kd.R_ne Ah.out Aa.out (by decide)));replace Ac:=y0.mk (blk_grown (qk Ac.out) hg (Kd.R_ne Ah.out Ac.out (by decide)));replace HB:=y0.mk (hb);have Aq:=y0.mk (ho);clear Ah;clear ho hb hg hat;obtain⟨Bb,Bc,Bj⟩:=Kd.R_slice Aq.out;subst Bj;obtain⟨Bd,Be⟩:=qz1 Ac.out))
 refine bodyPost_ret (results_cell_row rfl _ _ Ap 36 #[.slice Bb Aw.length Bc] (0,0) _ rfl (by(with_reducible repeat(first|refine y13 ?_ _|refine y12 ?_|refine y9 ?_ _));refine y16 (cs:=#[.slice none 0 0]) ?_ 0 _ rfl;(with_reducible repeat(first|refine y13 ?_ _|refine y12 ?_|refine y9 ?_ _));exact Ac.out) Tryz.underlying36 rfl (by kernel_rfl)) rfl ?_
 exact⟨_,by first|rfl|(simp [y17,y18] <;> rfl)|(simp [*,y17,y18] <;> rfl),by(with_reducible repeat(first|apply Kd.R_alloc|apply Kd.R_drewN|apply Kd.R_drew));exact Kd.R_mono (Kd.R_far (p:=⟨Ap,0,none⟩) (Kd.R_types Aq.out Ac.out (by decide)) (fun _ hk=>hk.2) (.slice Bb Aw.length Bc)) (fun _ hk=>trivial),qb⟩
def spec_l02Copy.l0:Nat→Int→Int→List (S36)→Int→List (S36)→Option (Int×(List (S36)))
 | 0,_,_,_,_,_=>none
 | k + 1,x4,x254000,x254001,x256000,x256001=>if x4 < (x254001.length:Int)then(if 0≤x4 then((spec_l02Tuple.f ((y24 x254001 x4).f0)).bind fun t257=>(if x256001.length < 5864062014805 then(spec_l02Copy.l0 k (wrap64 (x4 + 1)) x254000 x254001 x256000 (x256001 ++ [(⟨t257⟩:S36)]))else(none)))else(none))else(some (x256000,x256001))
def spec_l02Copy.f (k:Nat) (a0_0:Int) (l0_1:List (S36)):Option (Int×(List (S36))):=spec_l02Copy.l0 k 0 a0_0 l0_1 a0_0 ([]:List (S36))
def spec_l02Copy.T5:Bool×List (List Nat×List Nat):=(true,[([],[]),([0],[0]),([],[]),([2],[2]),([],[]),([3,4],[3,4]),([5],[5]),([6],[6]),([7],[7]),([1,8,7],[1,8]),([0,1,2,3,4,5,6,7,8,9],[]),([10,9,9,0,1,2,3,4,5,6,7,8,9],[9,10])])
def spec_l02Copy.B5:List Nat:=[0,1,0,4,0,28,60,124,252,511,1023,2047]
theorem spec_l02Copy.tab5:rtab .any (opsOf Tryz.f36 5)=spec_l02Copy.T5:=by kernel_rfl
theorem spec_l02Copy.bits5:waitsOk spec_l02Copy.T5.2 spec_l02Copy.B5=true:=by kernel_rfl
set_option maxHeartbeats 8000000 in
set_option maxRecDepth 100000 in
theorem spec_l02Copy.calls (k:Nat) (Ak:Int) (Bk:Option Addr) (Bg:Nat) (Am:List (S36)) (r1:Int) (r2:List (S36)) (w:World) (Bn:Kd.C k36 w Bk Am.length Am) (Bo:Am.length≤Bg) (h:spec_l02Copy.f k Ak Am=some (r1,r2)) :
  Calls Tryz.prog 36 #[.agg #[.int .i64 Ak,.slice Bk Am.length Bg]] w fun e w'=>∃ v1_:Value,e=.returned (.agg #[.int .i64 r1,v1_])∧Kd.S k36 36 w' w.heap.size (fun _=>True) v1_ r2∧Below w.heap.size w w':=by
 have Ei:=Tryz.underlying32
 have Ej:=Tryz.underlying36
 have Cd:=y0.mk Bn
 have Dm:=y0.mk Bo
 clear Bn Bo
 have HB:=y0.mk (Below.refl w.heap.size w)
 have H:(spec_l02Copy.l0 k 0 Ak Am Ak ([]:List (S36)))=some (r1,r2):=h
 clear h
 have H':=y0.mk H
 clear H
 go_enter Tryz.func36,Tryz.ntmps36
 go_wp2_with (first|((with_reducible refine y20 (N:=1) rfl ?_);refine qe 1 #[.int .i64 Ak,.slice Bk Am.length Bg] 32 ?_;intro Bh hg w2 hbox hb;have Ac:=y0.mk (hbox);have Dn:=y0.mk (qg (w:=w) hg);have Do:=y0.mk (qg (w:=w) hg);replace HB:=y0.mk (y8 qb hb);clear hb hbox hg)|((with_reducible refine y20 (N:=2) rfl ?_);refine qe 2 #[.int .i64 0,.slice none 0 0] 32 ?_;intro Ba hg w3 hbox hb;have Ae:=y0.mk (hbox);have Dp:=y0.mk (qg (w:=w) hg);have Dq:=y0.mk (qg (w:=w) hg);replace HB:=y0.mk (y8 qb hb);have Au:=y0.mk (qn Ac.out hg);have Av:=y0.mk (qm Ac.out hg);replace Ac:=y0.mk (qK Ac.out hb);clear hb hbox hg;have Ek:=Au.out;have El:=Av.out;obtain⟨Br,Bs,Bt,Bu⟩:=qz2 Ac.out)|((with_reducible refine y20 (N:=3) rfl ?_);refine qe 3 #[.int .i64 0,.slice none 0 0] 32 ?_;intro Ay hg w6 hbox hb;have Ad:=y0.mk (hbox);have Dr:=y0.mk (qg (w:=w) hg);have Ds:=y0.mk (qg (w:=w) hg);replace HB:=y0.mk (y8 qb hb);have Af:=y0.mk (qn Ac.out hg);have Al:=y0.mk (qm Ac.out hg);replace Ac:=y0.mk (qK Ac.out hb);have Aj:=y0.mk (qn Ae.out hg);have Aw:=y0.mk (qm Ae.out hg);replace Ae:=y0.mk (qK Ae.out hb);clear hb hbox hg;have Em:=Al.out;have En:=Af.out;have Eo:=Aw.out;have Ep:=Aj.out;obtain⟨Bv,Bw,Bx,Bz⟩:=qz2 Ad.out))
 go_loopg [4] k (fun kq v4 w'=>∃(Ap:Int) (Ag:List (S36)) (Ai:Value),v4=.int .i64 Ap∧y0 (spec_l02Copy.l0 kq Ap Ak Am Ak Ag=some (r1,r2))∧y0 (kq≤k)∧y0 (Kd.S k36 36 w' w.heap.size (fun _=>True) Ai Ag)∧y0 (w'.heap[Bh]?=some (.cells #[.int .i64 Ak,(.slice Bk Am.length Bg)] 32 (0,0)))∧y0 (w'.heap[Ba]?=some (.cells #[.int .i64 0,(.slice none 0 0)] 32 (0,0)))∧y0 (w'.heap[Ay]?=some (.cells #[.int .i64 Ak,Ai] 32 (0,0)))∧y0 (Below w.heap.size w w'))
 case atStart=>exact⟨(0),(([]:List (S36))),(.slice none 0 0),qy2,H',⟨Nat.le_refl _⟩,⟨by first|exact Kd.S_nil _ _ _ _ _|exact Kd.N_nil _ _ _ _ _|exact Kd.V_nil _ _ _ _ _|exact Kd.Q_nil _ _ _ _ _|exact Kd.R_nil _ _ _ _ _⟩,⟨by(with_reducible repeat(first|refine y13 ?_ _|refine y12 ?_|refine y9 ?_ _));refine y14 ?_ Af.out _;(with_reducible repeat(first|refine y13 ?_ _|refine y12 ?_|refine y9 ?_ _));refine y14 ?_ Af.out _;(with_reducible repeat(first|refine y13 ?_ _|refine y12 ?_|refine y9 ?_ _));exact Ac.out⟩,⟨by(with_reducible repeat(first|refine y13 ?_ _|refine y12 ?_|refine y9 ?_ _));refine y14 ?_ Aj.out _;(with_reducible repeat(first|refine y13 ?_ _|refine y12 ?_|refine y9 ?_ _));refine y14 ?_ Aj.out _;(with_reducible repeat(first|refine y13 ?_ _|refine y12 ?_|refine y9 ?_ _));exact Ae.out⟩,⟨by(with_reducible repeat(first|refine y13 ?_ _|refine y12 ?_|refine y9 ?_ _));refine y16 (cs:=#[.int .i64 Ak,.slice none 0 0]) ?_ 1 _ rfl;(with_reducible repeat(first|refine y13 ?_ _|refine y12 ?_|refine y9 ?_ _));refine y16 (cs:=#[.int .i64 0,.slice none 0 0]) ?_ 0 _ rfl;(with_reducible repeat(first|refine y13 ?_ _|refine y12 ?_|refine y9 ?_ _));exact Ad.out⟩,⟨qb⟩⟩
 case round =>
  clear H'
  (try clear Br Bs Bv Bw Bt Bu Bx Bz)
  obtain⟨Ap,Ag,Ai,rfl,HA,Dt,Aa,Ac,Ae,Ad,HB⟩:=hrel
  cases gk with
  | zero=>exact absurd HA.out (by simp [spec_l02Copy.l0])
  | succ k1 =>
   have H:=HA.out
   clear HA
   simp only [spec_l02Copy.l0]at H
   by_cases Cc:Ap < (Am.length:Int)
   ·rw [if_pos Cc]at H
    have Ce:=decide_eq_true Cc
    clear Cc
    obtain⟨Du,H⟩:=qo H
    have Dv:decide (0≤Ap)=true:=decide_eq_true Du
    clear Du
    obtain⟨Bf,Er,H⟩:=qB H
    obtain⟨Dw,H⟩:=qo H
    have Cf:=y0.mk Dw
    clear Dw
    obtain⟨Bl,Az⟩:∃ y_:List (S36),y_=(Ag ++ [(⟨Bf⟩:S36)]):=⟨_,rfl⟩
    replace H:(spec_l02Copy.l0 k1 (wrap64 (Ap + 1)) Ak Am Ak Bl)=some (r1,r2):=by first|(rw [Az];with_reducible exact H)|(have H2_:=(Option.bind_some _ _).symm.trans H;rw [Az];with_reducible exact H2_)|(have H2_:=(Option.bind_some _ _).symm.trans H;with_reducible exact H2_)|with_reducible exact H|(rw [Az];exact H)|exact H
    have Cg:=y0.mk Az
    clear Az
    have H':=y0.mk H
    clear H
    have Dx:=Au.out
    have Dy:=Av.out
    have Dz:=Af.out
    have Ea:=Al.out
    obtain⟨Cp,Cq,Cr,Cs⟩:=qz2 Ac.out
    try go_wp2
    replace Aa:=y0.mk (Kd.S_drew Aa.out)
    replace Ac:=y0.mk (y12 Ac.out)
    replace Ae:=y0.mk (y12 Ae.out)
    replace Ad:=y0.mk (y12 Ad.out)
    replace HB:=y0.mk (y5 HB.out)
    have Ca:0≤(Ap:Int):=of_decide_eq_true qy1
    have Cb:Ap < (Am.length:Int):=of_decide_eq_true qy1
    obtain⟨Bp,Bi,Bj,Dj,Aq,Bb,Bc⟩:=at_T36 Cd.out Ap Ca Cb
    have Ah:=Aq
    cases Dj
    replace Aq:=(HB.out.cell (World.block_lt_of_cell? w _ Aq)).trans Aq
    have Bd:=y0.mk Bc
    have Bm:=y0.mk Bb
    clear Bc Bb
    replace Ca:=eq_true Ca
    replace Cb:=eq_true Cb
    refine start_ (n:=12) (S:=fun w'=>w'.cell? ⟨Ay,0,none⟩=some (.int .i64 Ak)∧w'.cell? ⟨Ay,1,none⟩=some (Ai)∧w'.cell? ⟨Bh,0,none⟩=some (.int .i64 Ak)∧w'.cell? ⟨Bh,1,none⟩=some (.slice (some Bp) Am.length Bg)∧w'.cell? (Bp.add (Ap).toNat)=some (.slice Bi ((y24 Am Ap).f0).length Bj)) (ds:=[11]) (fl_ 12 0) (by kernel_rfl) rfl rfl ⟨(y11 Ad.out 0).trans rfl,(y11 Ad.out 1).trans rfl,(y11 Ac.out 0).trans rfl,(y11 Ac.out 1).trans rfl,((HB.out.cell (World.block_lt_of_cell? w _ Ah)).trans Ah)⟩ (fun hHeld=>?_);refine with_tabW spec_l02Copy.tab5 spec_l02Copy.bits5 (fun HT_ HW_=>?_)
    generalize wr.drew=Ex at Aa Ac Ae Ad HB Bd Aq hHeld ⊢
    refine qp 0 15 (fl_ 12 1) ?_
    refine qp 2 17 (fl_ 12 5) ?_
    refine qp 4 19 (fl_ 12 21) ?_
    refine qt 1 16 (fl_ 12 23) hHeld ?_
    refine qt 3 18 (fl_ 12 31) hHeld ?_
    refine qp 5 20 (fl_ 12 63) ?_
    refine qt 6 21 (fl_ 12 127) hHeld ?_
    refine qO 7 22 (fl_ 12 255) (fun K hK=>?_)
    refine goes_ Tryz.func58 (by kernel_rfl) rfl #[.agg #[.slice Bi ((y24 Am Ap).f0).length Bj]] (by rfl) rfl rfl qy0 ?_
    with_reducible refine(spec_l02Tuple.calls _ _ ((y24 Am Ap).f0) Bf _ (qc (Kd.C_below Bd.out HB.out)) Bm.out Er.out).mono ?_
    rintro e Ey ⟨Es,rfl,Dk,hb⟩
    refine⟨_,rfl, ?_⟩
    replace Aa:=y0.mk (Kd.S_elder' (qS Aa.out) (Kd.R_base Dk) hb)
    have Be:=y0.mk (Kd.R_lower Dk (y7 qb))
    replace Ac:=y0.mk (qK Ac.out hb)
    replace Ae:=y0.mk (qK Ae.out hb)
    replace Ad:=y0.mk (qK Ad.out hb)
    replace HB:=y0.mk (y8 qb hb)
    (try clear hb)
    (try clear Dk)
    obtain⟨Ch,Ci,Cj⟩:=Kd.R_slice Be.out
    (first|subst Cj|(injection Cj with f1_ f2_ f3_;have f4_:=f1_.symm;have f5_:=f3_.symm;clear f1_ f2_ f3_;subst f4_;subst f5_))
    refine hK.out _ _ ⟨(y11 Ad.out 0).trans rfl,(y11 Ad.out 1).trans rfl,(y11 Ac.out 0).trans rfl,(y11 Ac.out 1).trans rfl,((HB.out.cell (World.block_lt_of_cell? w _ Ah)).trans Ah)⟩ (fun hHeld=>?_)
    clear hK K
    refine qx 22 ?_
    refine qO 8 23 (fl_ 12 511) (fun K hK=>?_)
    refine value_ (w1:=?_) (v:=?_) (by rfl) rfl ?_ ?_
    rotate_left 2
    ·go_simp
     constructor
     ·rfl
     ·rfl
    refine hK.out _ _ ⟨(y11 (y9 Ad.out _) 0).trans rfl,(y11 (y9 Ad.out _) 1).trans rfl,(y11 (y9 Ac.out _) 0).trans rfl,(y11 (y9 Ac.out _) 1).trans rfl,(World.cell?_alloc_lt _ _ _ (World.block_lt_of_cell? _ _ (((HB.out.cell (World.block_lt_of_cell? w _ Ah)).trans Ah)))).trans (((HB.out.cell (World.block_lt_of_cell? w _ Ah)).trans Ah))⟩ (fun hHeld=>?_)
    clear hK K
    refine qx 23 ?_
    refine qO 9 24 (fl_ 12 1023) (fun K hK=>?_)
    refine Kd.S_append_step k36 (w0:=w) w.heap.size (by rfl) (.tmp 16) (.tmp 23) 30 36 (.agg #[(.slice none 0 0)]) 24 rfl Tryz.underlying30 info36 rfl (by decide) (by omega) Ai Ag (⟨Bf⟩:S36) [.slice Ch Bf.length Ci] (fun _=>True) (fun k_=>some k_=(.slice Ch Bf.length Ci:Value).ownBlock) rfl rfl ?aP (fun k_ hk_=>((Kd.R_mono (ok':=fun k_=>((fun _=>True)) k_∧some k_≠(Ai:Value).ownBlock) (Kd.R_apart' (Be.out) (Kd.S_typed Aa.out) (by decide)) (fun k_ hk=>⟨trivial,hk.2⟩))).1 k_ hk_.symm) ?aF ?aO ?aB ?aS ?aL ?_
    (case aP=>exact k36_mkM _ _ _ (⟨Bf⟩:S36) (Kd.R_mono (Kd.R_tight rfl (Kd.R_mono (ok':=fun k_=>((fun _=>True)) k_∧some k_≠(Ai:Value).ownBlock) (Kd.R_apart' (Be.out) (Kd.S_typed Aa.out) (by decide)) (fun k_ hk=>⟨trivial,hk.2⟩))) (fun _ h_=>h_)))
    (case aB=>exact qb)
    (case aF=>exact(fun _ _=>trivial))
    (case aO=>exact(qS (Kd.S_mono Aa.out (fun k_ hk=>⟨trivial,fun e_=>hk.2 e_⟩))))
    (case aS=>exact(y7 qb))
    (case aL=>have:=Cf.out;omega)
    intro Et Eu ho hb hg hat
    rw [← Cg.out]at ho
    replace Ac:=y0.mk (blk_grown (qk Ac.out) hg (Kd.S_ne Aa.out Ac.out (by decide)))
    replace Ae:=y0.mk (blk_grown (qk Ae.out) hg (Kd.S_ne Aa.out Ae.out (by decide)))
    replace Ad:=y0.mk (blk_grown (qk Ad.out) hg (Kd.S_ne Aa.out Ad.out (by decide)))
    replace HB:=y0.mk (hb)
    have Bq:=y0.mk (ho)
    clear Aa Be
    clear ho hb hg hat
    obtain⟨Ck,Cl,Cm⟩:=Kd.S_slice Bq.out
    (first|subst Cm|(injection Cm with f1_ f2_ f3_;have f4_:=f1_.symm;have f5_:=f3_.symm;clear f1_ f2_ f3_;subst f4_;subst f5_))
    refine hK.out _ _ ⟨(y11 Ad.out 0).trans rfl,(y11 Ad.out 1).trans rfl,(y11 Ac.out 0).trans rfl,(y11 Ac.out 1).trans rfl,((HB.out.cell (World.block_lt_of_cell? w _ Ah)).trans Ah)⟩ (fun hHeld=>?_)
    clear hK K
    refine qx 24 ?_
    refine qp 10 25 (fl_ 12 2047) ?_
    refine last_ (i:=11) (N:=none) (fl_ 12 4095) rfl rfl (one_of HT_.out (by kernel_rfl)) (by decide) (fun K hK=>?_)
    have Ew:Eu.cell? ⟨Ay,1,none⟩=some (Ai):=(y11 Ad.out 1).trans rfl
    have Eb:=y15 Ad.out 1
    have Ct:=Af.out
    have Cu:=Aj.out
    have Cv:=Al.out
    have Cw:=Aw.out
    refine skip_ (w1:=?_) (by rfl) rfl ?_ ?_
    rotate_left
    ·go_simp
     rfl
    refine hK.out _ _ ?_
    clear hK K
    refine done_ (done_of HT_.out (by kernel_rfl)) ?_
    try go_wp2
    go_roundg k1
    case measure=>have:=Dt.out;omega
    exact⟨(wrap64 (Ap + 1)),(Bl),(.slice Ck Bl.length Cl),qy2,H',⟨by have:=Dt.out;omega⟩,⟨qS (Kd.S_mono (Kd.S_far (p:=⟨Ay,1,none⟩) (Kd.S_types Bq.out Ad.out (by decide)) (fun _ hk=>hk.2) (.slice Ck Bl.length Cl)) (fun _ hk=>trivial))⟩,⟨by(with_reducible repeat(first|refine y13 ?_ _|refine y12 ?_|refine y9 ?_ _));refine y14 ?_ Af.out _;(with_reducible repeat(first|refine y13 ?_ _|refine y12 ?_|refine y9 ?_ _));exact Ac.out⟩,⟨by(with_reducible repeat(first|refine y13 ?_ _|refine y12 ?_|refine y9 ?_ _));refine y14 ?_ Aj.out _;(with_reducible repeat(first|refine y13 ?_ _|refine y12 ?_|refine y9 ?_ _));exact Ae.out⟩,⟨by(with_reducible repeat(first|refine y13 ?_ _|refine y12 ?_|refine y9 ?_ _));refine y16 (cs:=#[.int .i64 Ak,Ai]) ?_ 1 _ rfl;(with_reducible repeat(first|refine y13 ?_ _|refine y12 ?_|refine y9 ?_ _));exact Ad.out⟩,⟨qb⟩⟩
   ·rw [if_neg Cc]at H
    have Ce:=decide_eq_false Cc
    clear Cc
    simp only [Option.some.injEq,Prod.mk.injEq]at H
    obtain⟨rfl,rfl⟩:=H
    have Ec:=Au.out
    have Ed:=Av.out
    have Ee:=Af.out
    have Ef:=Al.out
    obtain⟨Cx,Cy,Cz,Da⟩:=qz2 Ac.out
    have Eg:=Aw.out
    have Eh:=Aj.out
    obtain⟨Db,Dc,Dd,De⟩:=qz2 Ad.out
    obtain⟨Df,Dg,Dh,Di⟩:=qz2 Ae.out
    obtain⟨Cn,Co,Dl⟩:=Kd.S_slice Aa.out
    subst Dl
    go_wp2
    refine bodyPost_ret (results_cell_row rfl _ _ Ba 32 #[.int .i64 Ak,.slice Cn Ag.length Co] (0,0) _ rfl (by(with_reducible repeat(first|refine y13 ?_ _|refine y12 ?_|refine y9 ?_ _));refine y16 (cs:=#[.int .i64 Ak,.slice none 0 0]) ?_ 1 _ rfl;(with_reducible repeat(first|refine y13 ?_ _|refine y12 ?_|refine y9 ?_ _));refine y16 (cs:=#[.int .i64 0,.slice none 0 0]) ?_ 0 _ rfl;(with_reducible repeat(first|refine y13 ?_ _|refine y12 ?_|refine y9 ?_ _));exact Ae.out) Tryz.underlying32 rfl (by kernel_rfl)) rfl ?_
    exact⟨_,by first|rfl|(simp [y17,y18] <;> rfl)|(simp [*,y17,y18] <;> rfl),by(with_reducible repeat(first|apply Kd.S_alloc|apply Kd.S_drewN|apply Kd.S_drew));exact Kd.S_mono (Kd.S_far (p:=⟨Ba,1,none⟩) (Kd.S_far (p:=⟨Ba,0,none⟩) (Kd.S_types Aa.out Ae.out (by decide)) (fun _ hk=>hk.2) (.int .i64 Ak)) (fun _ hk=>hk.2) (.slice Cn Ag.length Co)) (fun _ hk=>trivial),qb⟩
end Go.Proofs.YtkajecadkkgfmaaGreatDoor.Pn
end
