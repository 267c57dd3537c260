-- Cut by prune.py, a program of this session, out of the texts of this claim: Lean checks it.
import Derived.Test.YtkajecadkkgfmaaGreatDoorVsqPnx0
import Derived.Test.YtkajecadkkgfmaaGreatDoorVsqPnx7
section
namespace Go.Proofs.YtkajecadkkgfmaaGreatDoor.Pn
open Go.RowKit Go.Proofs.YtkajecadkkgfmaaGreatDoorW.PrintWords Go.Proofs.YtkajecadkkgfmaaGreatDoorW.PrintLast Go.Proofs.YtkajecadkkgfmaaGreatDoorW.PrintMore
attribute [local go_sem] max2_int min2_int max_two min_two max_three min_three max_four min_four   -- for this text's walks alone
set_option linter.unusedVariables false
set_option linter.unusedSimpArgs false
mutual
def spec_RelOk.j0:Nat→Bool→Int→List (S36)→Option (Bool)
 | 0,_,_,_=>none
 | k + 1,x13,x238000,x238001=>if x13=true then(some false)else(spec_RelOk.l0 k 0 x238000 x238001)
def spec_RelOk.l0:Nat→Int→Int→List (S36)→Option (Bool)
 | 0,_,_,_=>none
 | k + 1,x3,x238000,x238001=>if x3 < (x238001.length:Int)then(if 0≤x3 then(if(((y20 x238001 x3).f0).length:Int)=x238000 then((spec_TupleOk.f k ((y20 x238001 x3).f0)).bind fun t241=>(if t241=true then(if x3 > 0 then(if 0≤(wrap64 (x3 - 1))then(if(wrap64 (x3 - 1)) < (x238001.length:Int)then((spec_l02Cmp.f k ((y20 x238001 (wrap64 (x3 - 1))).f0) ((y20 x238001 x3).f0)).bind fun t244=>(if t244≥0 then(some false)else(spec_RelOk.l0 k (wrap64 (x3 + 1)) x238000 x238001)))else(none))else(none))else(spec_RelOk.l0 k (wrap64 (x3 + 1)) x238000 x238001))else(some false)))else(some false))else(none))else(some true)
end
def spec_RelOk.f (k:Nat) (a0_0:Int) (l0_1:List (S36)):Option (Bool):=(spec_l01Between.f a0_0 0 6).bind fun t238=>(if t238=true then(spec_RelOk.j0 k (decide ((l0_1.length:Int) > 400)) a0_0 l0_1)else(spec_RelOk.j0 k true a0_0 l0_1))
def spec_RelOk.T6:Bool×List (List Nat×List Nat):=(true,[([],[]),([0],[0]),([],[]),([1,2],[1,2]),([3],[3]),([4],[4]),([5],[5]),([],[]),([7],[7]),([6,8],[6,8]),([9],[9]),([10],[10]),([11,10],[10,11]),([10],[10]),([12,13,10],[10,12,13]),([14,10],[10,14]),([15,10,10],[10,15]),([16,10],[10,16]),([10,17],[10,17]),([18,16],[18]),([19],[19]),([20,19],[19,20]),([21,19,19],[19,21]),([22],[22]),([23,22],[22,23]),([22],[22]),([25,22],[22,25]),([24,26,22],[22,24,26]),([27,22],[22,27]),([22],[22]),([29,22],[22,29]),([22],[22]),([30,31,22],[22,30,31]),([32,22],[22,32]),([28,33,22,22],[22,28,33]),([34,22],[22,34]),([22,35,19],[19,22,35]),([19,36],[19,36])])
def spec_RelOk.B6:List Nat:=[0,1,0,7,15,31,63,0,128,511,1023,2047,4095,2047,16383,32767,65535,131071,262143,524287,1048575,2097151,4194303,8388607,16777215,8388607,41943039,134217727,268435455,8388607,545259519,8388607,3766484991,8061452287,17179869183,34359738367,68719476735,137438953471]
theorem spec_RelOk.tab6:rtab .any (opsOf Tryz.f22 6)=spec_RelOk.T6:=by kernel_rfl
theorem spec_RelOk.bits6:waitsOk spec_RelOk.T6.2 spec_RelOk.B6=true:=by kernel_rfl
set_option maxHeartbeats 8000000 in
set_option maxRecDepth 100000 in
theorem spec_RelOk.calls (k:Nat) (Ap:Int) (Bz:Option Addr) (Bg:Nat) (Ad:List (S36)) (r:Bool) (w:World) (Cd:Kd.C k36 w Bz Ad.length Ad) (Ce:Ad.length≤Bg) (h:spec_RelOk.f k Ap Ad=some r) :
  Calls Tryz.prog 22 #[.agg #[.int .i64 Ap,.slice Bz Ad.length Bg]] w fun e w'=>e=.returned (.bool r)∧Below w.heap.size w w':=by
 have Ep:=Tryz.underlying32
 have Er:=Tryz.underlying36
 have Bb:=y0.mk Cd
 have Ee:=y0.mk Ce
 clear Cd Ce
 have HB:=y0.mk (Below.refl w.heap.size w)
 have H:((spec_l01Between.f Ap 0 6).bind fun Cf=>(if Cf=true then(spec_RelOk.j0 k (decide ((Ad.length:Int) > 400)) Ap Ad)else(spec_RelOk.j0 k true Ap Ad)))=some r:=h
 clear h
 have Dr:=y0.mk H
 clear H
 go_enter Tryz.func22,Tryz.ntmps22
 go_upto_region 1 with(first|((with_reducible refine y17 (N:=1) rfl ?_);(try(refine gate_guard (by rfl) ?_;dsimp only));refine qe 1 #[.int .i64 Ap,.slice Bz Ad.length Bg] 32 ?_;intro Ax hg w3 hbox hb;have Aa:=y0.mk (hbox);have Ef:=y0.mk (qg (w:=w) hg);have Eg:=y0.mk (qg (w:=w) hg);replace HB:=y0.mk (y8 qb hb);clear hb hbox hg))
 (try simp only [Act.put,qS_,qZ_,qC_])
 go_cut [13] (fun Es wc=>∃(kq:Nat) (Br:Bool),Es=.bool Br∧y0 (spec_RelOk.j0 kq Br Ap Ad=some r)∧y0 (kq≤k)∧y0 (wc.heap[Ax]?=some (.cells #[.int .i64 Ap,(.slice Bz Ad.length Bg)] 32 (0,0)))∧y0 (Below w.heap.size w wc))
 case first =>
  have H:=Dr.out
  clear Dr
  obtain⟨Cf,A4,H⟩:=qB H
  by_cases c5:Cf=true
  ·subst c5
   replace H:=qT H
   have H':=y0.mk H
   clear H
   obtain⟨Ds,Dt,Du,Dv⟩:=qz2 Aa.out
   go_wp2_with (first|((with_reducible refine y16 (f:=56) rfl ?_);refine y18 (some 6) rfl rfl Tryz.func56 (by kernel_rfl) rfl #[.int .i64 Ap,.int .i64 0,.int .i64 6] rfl qy0 ?_;(with_reducible refine(spec_l01Between.calls Ap 0 6 true _ A4.out).mono ?_);rintro e w' ⟨rfl,⟨nd,rfl⟩⟩;refine⟨_,rfl, ?_⟩))
   go_meet
   exact⟨_,(decide ((Ad.length:Int) > 400)),qy2,H',⟨by first|omega|exact Nat.le_refl _⟩,⟨qk Aa.out⟩,⟨qb⟩⟩
  ·replace c5:=Bool.eq_false_iff.mpr c5
   subst c5
   replace H:=qF H
   have H':=y0.mk H
   clear H
   obtain⟨Dw,Dx,Dy,Dz⟩:=qz2 Aa.out
   go_wp2_with (first|((with_reducible refine y16 (f:=56) rfl ?_);refine y18 (some 6) rfl rfl Tryz.func56 (by kernel_rfl) rfl #[.int .i64 Ap,.int .i64 0,.int .i64 6] rfl qy0 ?_;(with_reducible refine(spec_l01Between.calls Ap 0 6 false _ A4.out).mono ?_);rintro e w' ⟨rfl,⟨nd,rfl⟩⟩;refine⟨_,rfl, ?_⟩))
   go_meet
   exact⟨_,(true),qy2,H',⟨by first|omega|exact Nat.le_refl _⟩,⟨qk Aa.out⟩,⟨qb⟩⟩
 case rest =>
  clear Dr
  obtain⟨kq,Br,rfl,HA,Cu,Aa,HB⟩:=hcut
  cases kq with
  | zero=>exact absurd HA.out (by simp [spec_RelOk.j0])
  | succ Eh =>
   have H:=HA.out
   clear HA
   simp only [spec_RelOk.j0]at H
   by_cases c8:Br=true
   ·subst c8
    replace H:=qT H
    obtain rfl:=Option.some.inj H
    go_wp2
    go_ret
    exact⟨qf,qb⟩
   ·replace c8:=Bool.eq_false_iff.mpr c8
    subst c8
    replace H:=qF H
    have H':=y0.mk H
    clear H
    go_wp2
    go_loopg [3] Eh (fun kq v3 w'=>∃(Ac:Int),v3=.int .i64 Ac∧y0 (spec_RelOk.l0 kq Ac Ap Ad=some r)∧y0 (kq≤Eh)∧y0 (w'.heap[Ax]?=some (.cells #[.int .i64 Ap,(.slice Bz Ad.length Bg)] 32 (0,0)))∧y0 (Below w.heap.size w w'))
    case atStart=>exact⟨(0),qy2,H',⟨Nat.le_refl _⟩,⟨qk Aa.out⟩,⟨qb⟩⟩
    case round =>
     clear H'
     (try clear c8)
     obtain⟨Ac,rfl,HA,Cv,Aa,HB⟩:=hrel
     cases gk with
     | zero=>exact absurd HA.out (by simp [spec_RelOk.l0])
     | succ k2 =>
      have H:=HA.out
      clear HA
      simp only [spec_RelOk.l0]at H
      by_cases c9:Ac < (Ad.length:Int)
      ·as_aux_lemma =>
       rw [if_pos c9]at H
       have Ea:=decide_eq_true c9
       clear c9
       obtain⟨Ei,H⟩:=qo H
       have Ej:decide (0≤Ac)=true:=decide_eq_true Ei
       clear Ei
       by_cases Cg:(((y20 Ad Ac).f0).length:Int)=Ap
       ·as_aux_lemma =>
        rw [if_pos Cg]at H
        have Cn:((((y20 Ad Ac).f0).length:Int) == Ap)=true:=beq_iff_eq.mpr Cg
        have Co:((((y20 Ad Ac).f0).length:Int) != Ap)=false:=bne_eq_false_iff_eq.mpr Cg
        clear Cg
        obtain⟨Eb,Cp,H⟩:=qB H
        by_cases Cw:Eb=true
        ·subst Cw
         replace H:=qT H
         by_cases Cl:Ac > 0
         ·as_aux_lemma =>
          rw [if_pos Cl]at H
          have Cq:decide (0 < Ac)=true:=decide_eq_true Cl
          clear Cl
          obtain⟨Ay,Bd⟩:∃ j_:Int,(wrap64 (Ac - 1))=j_:=⟨_,rfl⟩
          replace H:(if 0≤(Ay)then(if(Ay) < (Ad.length:Int)then((spec_l02Cmp.f k2 ((y20 Ad (Ay)).f0) ((y20 Ad Ac).f0)).bind fun Bl=>(if Bl≥0 then(some false)else(spec_RelOk.l0 k2 (wrap64 (Ac + 1)) Ap Ad)))else(none))else(none))=some r:=by first|(rw [Bd]at H;exact H)|(simp only [Bd]at H ⊢;exact H)
          (try rw [Bd]at Cp)
          have hji15w:(IntKind.i64.wrap (Ac - 1))=Ay:=(i64_w _).trans Bd
          obtain⟨Ek,H⟩:=qo H
          have El:decide (0≤(Ay))=true:=decide_eq_true Ek
          clear Ek
          obtain⟨Em,H⟩:=qo H
          have En:decide ((Ay) < (Ad.length:Int))=true:=decide_eq_true Em
          clear Em
          obtain⟨Bl,Eo,H⟩:=qB H
          obtain⟨Cx,Cy,Cz,Da⟩:=qz2 Aa.out
          try go_wp2
          replace Aa:=y0.mk (y11 Aa.out)
          replace HB:=y0.mk (y5 HB.out)
          have Az:0≤(Ac:Int):=of_decide_eq_true qy1
          have Ba:Ac < (Ad.length:Int):=of_decide_eq_true qy1
          obtain⟨Ah,Ai,Aj,Bm,Ab,Ak,Al⟩:=at_T36 Bb.out Ac Az Ba
          have Ae:=Ab
          cases Bm
          replace Ab:=(HB.out.cell (World.block_lt_of_cell? w _ Ab)).trans Ab
          have Au:=y0.mk Al
          have Bh:=y0.mk Ak
          clear Al Ak
          replace Az:=eq_true Az
          replace Ba:=eq_true Ba
          have Be:0≤(Ac:Int):=of_decide_eq_true qy1
          have Bf:Ac < (Ad.length:Int):=of_decide_eq_true qy1
          obtain⟨Bk,Ca,Cb,Cc,Af,As,At⟩:=at_T36 Bb.out Ac Be Bf
          have Ag:=Af
          obtain rfl:Ah=Bk:=(by injection Cc)
          replace Af:=(HB.out.cell (World.block_lt_of_cell? w _ Af)).trans Af
          have Aq:=y0.mk At
          have Aw:=y0.mk As
          clear At As
          replace Be:=eq_true Be
          replace Bf:=eq_true Bf
          have ea_:=Option.some.inj (Ab.symm.trans Af)
          injection ea_ with ea_ en_ ec_
          subst ea_
          subst ec_
          clear en_
          have Ch:0≤((Ay):Int):=of_decide_eq_true qy1
          have Ci:(Ay) < (Ad.length:Int):=of_decide_eq_true qy1
          obtain⟨Cr,Bn,Bo,Ec,Bc,Bs,Bt⟩:=at_T36 Bb.out (Ay) Ch Ci
          have Am:=Bc
          obtain rfl:Ah=Cr:=(by injection Ec)
          replace Bc:=(HB.out.cell (World.block_lt_of_cell? w _ Bc)).trans Bc
          have Bi:=y0.mk Bt
          have Bu:=y0.mk Bs
          clear Bt Bs
          replace Ch:=eq_true Ch
          replace Ci:=eq_true Ci
          have Cj:0≤(Ac:Int):=of_decide_eq_true qy1
          have Ck:Ac < (Ad.length:Int):=of_decide_eq_true qy1
          obtain⟨Cs,Bp,Bq,Ed,Av,Bv,Bw⟩:=at_T36 Bb.out Ac Cj Ck
          have Ao:=Av
          obtain rfl:Ah=Cs:=(by injection Ed)
          replace Av:=(HB.out.cell (World.block_lt_of_cell? w _ Av)).trans Av
          have Bj:=y0.mk Bw
          have Bx:=y0.mk Bv
          clear Bw Bv
          replace Cj:=eq_true Cj
          replace Ck:=eq_true Ck
          refine start_ (n:=38) (S:=fun w'=>w'.cell? ⟨Ax,0,none⟩=some (.int .i64 Ap)∧w'.cell? ⟨Ax,1,none⟩=some (.slice (some Ah) Ad.length Bg)∧w'.cell? (Ah.add (Ac).toNat)=some (.slice Ai ((y20 Ad Ac).f0).length Aj)∧w'.cell? (Ah.add (Ac).toNat)=some (.slice Ai ((y20 Ad Ac).f0).length Aj)∧w'.cell? (Ah.add ((Ay)).toNat)=some (.slice Bn ((y20 Ad (Ay)).f0).length Bo)∧w'.cell? (Ah.add (Ac).toNat)=some (.slice Bp ((y20 Ad Ac).f0).length Bq)) (ds:=[]) (fl_ 38 0) (by kernel_rfl) rfl rfl ⟨(y10 Aa.out 0).trans rfl,(y10 Aa.out 1).trans rfl,((HB.out.cell (World.block_lt_of_cell? w _ Ae)).trans Ae),((HB.out.cell (World.block_lt_of_cell? w _ Ag)).trans Ag),((HB.out.cell (World.block_lt_of_cell? w _ Am)).trans Am),((HB.out.cell (World.block_lt_of_cell? w _ Ao)).trans Ao)⟩ (fun hHeld=>?_);refine with_tabW spec_RelOk.tab6 spec_RelOk.bits6 (fun HT_ HW_=>?_)
          generalize wr.drew=Et at Aa HB Au Aq Bi Bj Ab Af Bc Av hHeld ⊢
          by_cases Cm:Bl≥0
          ·as_aux_lemma =>
           rw [if_pos Cm]at H
           have Ct:decide (0≤Bl)=true:=decide_eq_true Cm
           clear Cm
           obtain rfl:=Option.some.inj H
           refine qp 0 21 (fl_ 38 1) ?_
           refine qp 2 23 (fl_ 38 5) ?_
           refine qp 7 28 (fl_ 38 133) ?_
           refine qt 1 22 (fl_ 38 135) hHeld ?_
           refine qp 3 24 (fl_ 38 143) ?_
           refine qp 4 25 (fl_ 38 159) ?_
           refine qt 5 26 (fl_ 38 191) hHeld ?_
           refine qp 6 27 (fl_ 38 255) ?_
           refine qt 8 29 (fl_ 38 511) hHeld ?_
           refine qp3 9 30 38 ?_
           refine qp 13 34 (fl_ 38 12287) ?_
           refine qt 12 33 (fl_ 38 16383) hHeld ?_
           refine qp 14 35 (fl_ 38 32767) ?_
           refine qt 15 36 (fl_ 38 65535) hHeld ?_
           refine qO 16 37 (fl_ 38 131071) (fun K hK=>?_)
           refine goes_ Tryz.func35 (by kernel_rfl) rfl #[.agg #[.slice Ai ((y20 Ad Ac).f0).length Aj]] (by rfl) rfl rfl qy0 ?_
           with_reducible refine(spec_TupleOk.calls k2 _ _ ((y20 Ad Ac).f0) true _ (qc (Kd.C_below Aq.out HB.out)) Aw.out Cp.out).mono ?_
           rintro e Eu ⟨rfl,hb⟩
           refine⟨_,rfl, ?_⟩
           replace Aa:=y0.mk (qK Aa.out hb)
           replace HB:=y0.mk (y8 qb hb)
           (try clear hb)
           refine hK.out _ _ ⟨(y10 Aa.out 0).trans rfl,(y10 Aa.out 1).trans rfl,((HB.out.cell (World.block_lt_of_cell? w _ Ae)).trans Ae),((HB.out.cell (World.block_lt_of_cell? w _ Ag)).trans Ag),((HB.out.cell (World.block_lt_of_cell? w _ Am)).trans Am),((HB.out.cell (World.block_lt_of_cell? w _ Ao)).trans Ao)⟩ (fun hHeld=>?_)
           clear hK K
           refine qx 37 ?_
           refine qp6 17 38 38 ?_
           refine qp 23 44 (fl_ 38 16777215) ?_
           refine qp 25 46 (fl_ 38 50331647) ?_
           refine qp 26 47 (fl_ 38 117440511) ?_
           refine qp 29 50 (fl_ 38 654311423) ?_
           refine qp 31 52 (fl_ 38 2801795071) ?_
           refine qt 24 45 (fl_ 38 2818572287) hHeld ?_
           refine qp 27 48 (fl_ 38 2952790015) ?_
           refine qt 28 49 (fl_ 38 3221225471) hHeld ?_
           refine qt 30 51 (fl_ 38 4294967295) hHeld ?_
           refine qp 32 53 (fl_ 38 8589934591) ?_
           refine qt 33 54 (fl_ 38 17179869183) hHeld ?_
           refine qO 34 55 (fl_ 38 34359738367) (fun K hK=>?_)
           refine goes_ Tryz.func57 (by kernel_rfl) rfl #[.agg #[.slice Bn ((y20 Ad (Ay)).f0).length Bo],.agg #[.slice Bp ((y20 Ad Ac).f0).length Bq]] (by rfl) rfl rfl (by(try simp only [qM_,List.map_cons,List.map_nil]);first|done|(have e9_:=Ab.symm.trans Av;simp only [Option.some.injEq,Value.slice.injEq]at e9_;obtain⟨e1_,_,e2_⟩:=e9_;subst e1_;subst e2_;rfl)|(simp only [Bd];rfl)|rfl|(simp only [qD_,qT_];rfl)) ?_
           with_reducible refine(spec_l02Cmp.calls k2 _ _ ((y20 Ad (Ay)).f0) _ _ ((y20 Ad Ac).f0) Bl _ (qc (Kd.C_below Bi.out HB.out)) Bu.out (qc (Kd.C_below Bj.out HB.out)) Bx.out Eo.out).mono ?_
           rintro e Ew ⟨rfl,hb⟩
           refine⟨_,rfl, ?_⟩
           replace Aa:=y0.mk (qK Aa.out hb)
           replace HB:=y0.mk (y8 qb hb)
           (try clear hb)
           refine hK.out _ _ ⟨(y10 Aa.out 0).trans rfl,(y10 Aa.out 1).trans rfl,((HB.out.cell (World.block_lt_of_cell? w _ Ae)).trans Ae),((HB.out.cell (World.block_lt_of_cell? w _ Ag)).trans Ag),((HB.out.cell (World.block_lt_of_cell? w _ Am)).trans Am),((HB.out.cell (World.block_lt_of_cell? w _ Ao)).trans Ao)⟩ (fun hHeld=>?_)
           clear hK K
           refine qx 55 ?_
           refine qp3 35 56 38 ?_
           refine done_ (done_of HT_.out (by kernel_rfl)) ?_
           try go_wp2
           go_ret
           exact⟨by first|rfl|(simp [y14,y15] <;> rfl)|(simp only [← Bd];first|rfl|(simp [y14,y15] <;> rfl))|(simp [*,y14,y15] <;> rfl),qb⟩
          ·as_aux_lemma =>
           rw [if_neg Cm]at H
           have Ct:decide (0≤Bl)=false:=decide_eq_false Cm
           clear Cm
           have H':=y0.mk H
           clear H
           refine qp 0 21 (fl_ 38 1) ?_
           refine qp 2 23 (fl_ 38 5) ?_
           refine qp 7 28 (fl_ 38 133) ?_
           refine qt 1 22 (fl_ 38 135) hHeld ?_
           refine qp 3 24 (fl_ 38 143) ?_
           refine qp 4 25 (fl_ 38 159) ?_
           refine qt 5 26 (fl_ 38 191) hHeld ?_
           refine qp 6 27 (fl_ 38 255) ?_
           refine qt 8 29 (fl_ 38 511) hHeld ?_
           refine qp3 9 30 38 ?_
           refine qp 13 34 (fl_ 38 12287) ?_
           refine qt 12 33 (fl_ 38 16383) hHeld ?_
           refine qp 14 35 (fl_ 38 32767) ?_
           refine qt 15 36 (fl_ 38 65535) hHeld ?_
           refine qO 16 37 (fl_ 38 131071) (fun K hK=>?_)
           refine goes_ Tryz.func35 (by kernel_rfl) rfl #[.agg #[.slice Ai ((y20 Ad Ac).f0).length Aj]] (by rfl) rfl rfl qy0 ?_
           with_reducible refine(spec_TupleOk.calls k2 _ _ ((y20 Ad Ac).f0) true _ (qc (Kd.C_below Aq.out HB.out)) Aw.out Cp.out).mono ?_
           rintro e Ex ⟨rfl,hb⟩
           refine⟨_,rfl, ?_⟩
           replace Aa:=y0.mk (qK Aa.out hb)
           replace HB:=y0.mk (y8 qb hb)
           (try clear hb)
           refine hK.out _ _ ⟨(y10 Aa.out 0).trans rfl,(y10 Aa.out 1).trans rfl,((HB.out.cell (World.block_lt_of_cell? w _ Ae)).trans Ae),((HB.out.cell (World.block_lt_of_cell? w _ Ag)).trans Ag),((HB.out.cell (World.block_lt_of_cell? w _ Am)).trans Am),((HB.out.cell (World.block_lt_of_cell? w _ Ao)).trans Ao)⟩ (fun hHeld=>?_)
           clear hK K
           refine qx 37 ?_
           refine qp6 17 38 38 ?_
           refine qp 23 44 (fl_ 38 16777215) ?_
           refine qp 25 46 (fl_ 38 50331647) ?_
           refine qp 26 47 (fl_ 38 117440511) ?_
           refine qp 29 50 (fl_ 38 654311423) ?_
           refine qp 31 52 (fl_ 38 2801795071) ?_
           refine qt 24 45 (fl_ 38 2818572287) hHeld ?_
           refine qp 27 48 (fl_ 38 2952790015) ?_
           refine qt 28 49 (fl_ 38 3221225471) hHeld ?_
           refine qt 30 51 (fl_ 38 4294967295) hHeld ?_
           refine qp 32 53 (fl_ 38 8589934591) ?_
           refine qt 33 54 (fl_ 38 17179869183) hHeld ?_
           refine qO 34 55 (fl_ 38 34359738367) (fun K hK=>?_)
           refine goes_ Tryz.func57 (by kernel_rfl) rfl #[.agg #[.slice Bn ((y20 Ad (Ay)).f0).length Bo],.agg #[.slice Bp ((y20 Ad Ac).f0).length Bq]] (by rfl) rfl rfl (by(try simp only [qM_,List.map_cons,List.map_nil]);first|done|(have e9_:=Ab.symm.trans Av;simp only [Option.some.injEq,Value.slice.injEq]at e9_;obtain⟨e1_,_,e2_⟩:=e9_;subst e1_;subst e2_;rfl)|(simp only [Bd];rfl)|rfl|(simp only [qD_,qT_];rfl)) ?_
           with_reducible refine(spec_l02Cmp.calls k2 _ _ ((y20 Ad (Ay)).f0) _ _ ((y20 Ad Ac).f0) Bl _ (qc (Kd.C_below Bi.out HB.out)) Bu.out (qc (Kd.C_below Bj.out HB.out)) Bx.out Eo.out).mono ?_
           rintro e Ey ⟨rfl,hb⟩
           refine⟨_,rfl, ?_⟩
           replace Aa:=y0.mk (qK Aa.out hb)
           replace HB:=y0.mk (y8 qb hb)
           (try clear hb)
           refine hK.out _ _ ⟨(y10 Aa.out 0).trans rfl,(y10 Aa.out 1).trans rfl,((HB.out.cell (World.block_lt_of_cell? w _ Ae)).trans Ae),((HB.out.cell (World.block_lt_of_cell? w _ Ag)).trans Ag),((HB.out.cell (World.block_lt_of_cell? w _ Am)).trans Am),((HB.out.cell (World.block_lt_of_cell? w _ Ao)).trans Ao)⟩ (fun hHeld=>?_)
           clear hK K
           refine qx 55 ?_
           refine qp3 35 56 38 ?_
           refine done_ (done_of HT_.out (by kernel_rfl)) ?_
           try go_wp2
           go_roundg k2
           case measure=>have:=Cu.out;have:=Cv.out;omega
           exact⟨(wrap64 (Ac + 1)),qy2,H',⟨by have:=Cu.out;have:=Cv.out;omega⟩,⟨qk Aa.out⟩,⟨qb⟩⟩
         ·as_aux_lemma =>
          rw [if_neg Cl]at H
          have Cq:decide (0 < Ac)=false:=decide_eq_false Cl
          clear Cl
          have H':=y0.mk H
          clear H
          obtain⟨Db,Dc,Dd,De⟩:=qz2 Aa.out
          try go_wp2
          replace Aa:=y0.mk (y11 Aa.out)
          replace HB:=y0.mk (y5 HB.out)
          have Az:0≤(Ac:Int):=of_decide_eq_true qy1
          have Ba:Ac < (Ad.length:Int):=of_decide_eq_true qy1
          obtain⟨Ah,Ai,Aj,Bm,Ab,Ak,Al⟩:=at_T36 Bb.out Ac Az Ba
          have Ae:=Ab
          cases Bm
          replace Ab:=(HB.out.cell (World.block_lt_of_cell? w _ Ab)).trans Ab
          have Au:=y0.mk Al
          have Bh:=y0.mk Ak
          clear Al Ak
          replace Az:=eq_true Az
          replace Ba:=eq_true Ba
          have Be:0≤(Ac:Int):=of_decide_eq_true qy1
          have Bf:Ac < (Ad.length:Int):=of_decide_eq_true qy1
          obtain⟨Bk,Ca,Cb,Cc,Af,As,At⟩:=at_T36 Bb.out Ac Be Bf
          have Ag:=Af
          obtain rfl:Ah=Bk:=(by injection Cc)
          replace Af:=(HB.out.cell (World.block_lt_of_cell? w _ Af)).trans Af
          have Aq:=y0.mk At
          have Aw:=y0.mk As
          clear At As
          replace Be:=eq_true Be
          replace Bf:=eq_true Bf
          have ea_:=Option.some.inj (Ab.symm.trans Af)
          injection ea_ with ea_ en_ ec_
          subst ea_
          subst ec_
          clear en_
          refine start_ (n:=38) (S:=fun w'=>w'.cell? ⟨Ax,0,none⟩=some (.int .i64 Ap)∧w'.cell? ⟨Ax,1,none⟩=some (.slice (some Ah) Ad.length Bg)∧w'.cell? (Ah.add (Ac).toNat)=some (.slice Ai ((y20 Ad Ac).f0).length Aj)∧w'.cell? (Ah.add (Ac).toNat)=some (.slice Ai ((y20 Ad Ac).f0).length Aj)) (ds:=[]) (fl_ 38 0) (by kernel_rfl) rfl rfl ⟨(y10 Aa.out 0).trans rfl,(y10 Aa.out 1).trans rfl,((HB.out.cell (World.block_lt_of_cell? w _ Ae)).trans Ae),((HB.out.cell (World.block_lt_of_cell? w _ Ag)).trans Ag)⟩ (fun hHeld=>?_);refine with_tabW spec_RelOk.tab6 spec_RelOk.bits6 (fun HT_ HW_=>?_)
          generalize wr.drew=Ez at Aa HB Au Aq Ab Af hHeld ⊢
          refine qp 0 21 (fl_ 38 1) ?_
          refine qp 2 23 (fl_ 38 5) ?_
          refine qp 7 28 (fl_ 38 133) ?_
          refine qt 1 22 (fl_ 38 135) hHeld ?_
          refine qp 3 24 (fl_ 38 143) ?_
          refine qp 4 25 (fl_ 38 159) ?_
          refine qt 5 26 (fl_ 38 191) hHeld ?_
          refine qp 6 27 (fl_ 38 255) ?_
          refine qt 8 29 (fl_ 38 511) hHeld ?_
          refine qp3 9 30 38 ?_
          refine qp 13 34 (fl_ 38 12287) ?_
          refine qt 12 33 (fl_ 38 16383) hHeld ?_
          refine qp 14 35 (fl_ 38 32767) ?_
          refine qt 15 36 (fl_ 38 65535) hHeld ?_
          refine qO 16 37 (fl_ 38 131071) (fun K hK=>?_)
          refine goes_ Tryz.func35 (by kernel_rfl) rfl #[.agg #[.slice Ai ((y20 Ad Ac).f0).length Aj]] (by rfl) rfl rfl qy0 ?_
          with_reducible refine(spec_TupleOk.calls k2 _ _ ((y20 Ad Ac).f0) true _ (qc (Kd.C_below Aq.out HB.out)) Aw.out Cp.out).mono ?_
          rintro e Fa ⟨rfl,hb⟩
          refine⟨_,rfl, ?_⟩
          replace Aa:=y0.mk (qK Aa.out hb)
          replace HB:=y0.mk (y8 qb hb)
          (try clear hb)
          refine hK.out _ _ ⟨(y10 Aa.out 0).trans rfl,(y10 Aa.out 1).trans rfl,((HB.out.cell (World.block_lt_of_cell? w _ Ae)).trans Ae),((HB.out.cell (World.block_lt_of_cell? w _ Ag)).trans Ag)⟩ (fun hHeld=>?_)
          clear hK K
          refine qx 37 ?_
          refine qp10 17 38 38 ?_
          refine qp10 27 48 38 ?_
          refine qp 37 58 (fl_ 38 274877906943) ?_
          refine done_ (done_of HT_.out (by kernel_rfl)) ?_
          try go_wp2
          go_roundg k2
          case measure=>have:=Cu.out;have:=Cv.out;omega
          exact⟨(wrap64 (Ac + 1)),qy2,H',⟨by have:=Cu.out;have:=Cv.out;omega⟩,⟨qk Aa.out⟩,⟨qb⟩⟩
        ·replace Cw:=Bool.eq_false_iff.mpr Cw
         subst Cw
         replace H:=qF H
         obtain rfl:=Option.some.inj H
         obtain⟨Df,Dg,Dh,Di⟩:=qz2 Aa.out
         try go_wp2
         replace Aa:=y0.mk (y11 Aa.out)
         replace HB:=y0.mk (y5 HB.out)
         have Az:0≤(Ac:Int):=of_decide_eq_true qy1
         have Ba:Ac < (Ad.length:Int):=of_decide_eq_true qy1
         obtain⟨Ah,Ai,Aj,Bm,Ab,Ak,Al⟩:=at_T36 Bb.out Ac Az Ba
         have Ae:=Ab
         cases Bm
         replace Ab:=(HB.out.cell (World.block_lt_of_cell? w _ Ab)).trans Ab
         have Au:=y0.mk Al
         have Bh:=y0.mk Ak
         clear Al Ak
         replace Az:=eq_true Az
         replace Ba:=eq_true Ba
         have Be:0≤(Ac:Int):=of_decide_eq_true qy1
         have Bf:Ac < (Ad.length:Int):=of_decide_eq_true qy1
         obtain⟨Bk,Ca,Cb,Cc,Af,As,At⟩:=at_T36 Bb.out Ac Be Bf
         have Ag:=Af
         obtain rfl:Ah=Bk:=(by injection Cc)
         replace Af:=(HB.out.cell (World.block_lt_of_cell? w _ Af)).trans Af
         have Aq:=y0.mk At
         have Aw:=y0.mk As
         clear At As
         replace Be:=eq_true Be
         replace Bf:=eq_true Bf
         have ea_:=Option.some.inj (Ab.symm.trans Af)
         injection ea_ with ea_ en_ ec_
         subst ea_
         subst ec_
         clear en_
         refine start_ (n:=38) (S:=fun w'=>w'.cell? ⟨Ax,0,none⟩=some (.int .i64 Ap)∧w'.cell? ⟨Ax,1,none⟩=some (.slice (some Ah) Ad.length Bg)∧w'.cell? (Ah.add (Ac).toNat)=some (.slice Ai ((y20 Ad Ac).f0).length Aj)∧w'.cell? (Ah.add (Ac).toNat)=some (.slice Ai ((y20 Ad Ac).f0).length Aj)) (ds:=[]) (fl_ 38 0) (by kernel_rfl) rfl rfl ⟨(y10 Aa.out 0).trans rfl,(y10 Aa.out 1).trans rfl,((HB.out.cell (World.block_lt_of_cell? w _ Ae)).trans Ae),((HB.out.cell (World.block_lt_of_cell? w _ Ag)).trans Ag)⟩ (fun hHeld=>?_);refine with_tabW spec_RelOk.tab6 spec_RelOk.bits6 (fun HT_ HW_=>?_)
         generalize wr.drew=Fb at Aa HB Au Aq Ab Af hHeld ⊢
         refine qp 0 21 (fl_ 38 1) ?_
         refine qp 2 23 (fl_ 38 5) ?_
         refine qp 7 28 (fl_ 38 133) ?_
         refine qt 1 22 (fl_ 38 135) hHeld ?_
         refine qp 3 24 (fl_ 38 143) ?_
         refine qp 4 25 (fl_ 38 159) ?_
         refine qt 5 26 (fl_ 38 191) hHeld ?_
         refine qp 6 27 (fl_ 38 255) ?_
         refine qt 8 29 (fl_ 38 511) hHeld ?_
         refine qp3 9 30 38 ?_
         refine qp 13 34 (fl_ 38 12287) ?_
         refine qt 12 33 (fl_ 38 16383) hHeld ?_
         refine qp 14 35 (fl_ 38 32767) ?_
         refine qt 15 36 (fl_ 38 65535) hHeld ?_
         refine qO 16 37 (fl_ 38 131071) (fun K hK=>?_)
         refine goes_ Tryz.func35 (by kernel_rfl) rfl #[.agg #[.slice Ai ((y20 Ad Ac).f0).length Aj]] (by rfl) rfl rfl qy0 ?_
         with_reducible refine(spec_TupleOk.calls k2 _ _ ((y20 Ad Ac).f0) false _ (qc (Kd.C_below Aq.out HB.out)) Aw.out Cp.out).mono ?_
         rintro e Fc ⟨rfl,hb⟩
         refine⟨_,rfl, ?_⟩
         replace Aa:=y0.mk (qK Aa.out hb)
         replace HB:=y0.mk (y8 qb hb)
         (try clear hb)
         refine hK.out _ _ ⟨(y10 Aa.out 0).trans rfl,(y10 Aa.out 1).trans rfl,((HB.out.cell (World.block_lt_of_cell? w _ Ae)).trans Ae),((HB.out.cell (World.block_lt_of_cell? w _ Ag)).trans Ag)⟩ (fun hHeld=>?_)
         clear hK K
         refine qx 37 ?_
         refine qp10 17 38 38 ?_
         refine qp10 27 48 38 ?_
         refine qp 37 58 (fl_ 38 274877906943) ?_
         refine done_ (done_of HT_.out (by kernel_rfl)) ?_
         try go_wp2
         go_ret
         exact⟨qf,qb⟩
       ·as_aux_lemma =>
        rw [if_neg Cg]at H
        have Cn:((((y20 Ad Ac).f0).length:Int) == Ap)=false:=beq_eq_false_iff_ne.mpr Cg
        have Co:((((y20 Ad Ac).f0).length:Int) != Ap)=true:=bne_iff_ne.mpr Cg
        obtain rfl:=Option.some.inj H
        obtain⟨Dj,Dk,Dl,Dm⟩:=qz2 Aa.out
        try go_wp2
        replace Aa:=y0.mk (y11 Aa.out)
        replace HB:=y0.mk (y5 HB.out)
        have Az:0≤(Ac:Int):=of_decide_eq_true qy1
        have Ba:Ac < (Ad.length:Int):=of_decide_eq_true qy1
        obtain⟨Ah,Ai,Aj,Bm,Ab,Ak,Al⟩:=at_T36 Bb.out Ac Az Ba
        have Ae:=Ab
        cases Bm
        replace Ab:=(HB.out.cell (World.block_lt_of_cell? w _ Ab)).trans Ab
        have Au:=y0.mk Al
        have Bh:=y0.mk Ak
        clear Al Ak
        replace Az:=eq_true Az
        replace Ba:=eq_true Ba
        refine start_ (n:=38) (S:=fun w'=>w'.cell? ⟨Ax,0,none⟩=some (.int .i64 Ap)∧w'.cell? ⟨Ax,1,none⟩=some (.slice (some Ah) Ad.length Bg)∧w'.cell? (Ah.add (Ac).toNat)=some (.slice Ai ((y20 Ad Ac).f0).length Aj)) (ds:=[]) (fl_ 38 0) (by kernel_rfl) rfl rfl ⟨(y10 Aa.out 0).trans rfl,(y10 Aa.out 1).trans rfl,((HB.out.cell (World.block_lt_of_cell? w _ Ae)).trans Ae)⟩ (fun hHeld=>?_);refine with_tabW spec_RelOk.tab6 spec_RelOk.bits6 (fun HT_ HW_=>?_)
        generalize wr.drew=Fd at Aa HB Au Ab hHeld ⊢
        refine qp 0 21 (fl_ 38 1) ?_
        refine qp 2 23 (fl_ 38 5) ?_
        refine qp 7 28 (fl_ 38 133) ?_
        refine qt 1 22 (fl_ 38 135) hHeld ?_
        refine qp 3 24 (fl_ 38 143) ?_
        refine qp 4 25 (fl_ 38 159) ?_
        refine qt 5 26 (fl_ 38 191) hHeld ?_
        refine qp 6 27 (fl_ 38 255) ?_
        refine qt 8 29 (fl_ 38 511) hHeld ?_
        refine qp10 9 30 38 ?_
        refine qp10 19 40 38 ?_
        refine qp6 29 50 38 ?_
        refine qp3 35 56 38 ?_
        refine done_ (done_of HT_.out (by kernel_rfl)) ?_
        try go_wp2
        go_ret
        exact⟨qf,qb⟩
      ·as_aux_lemma =>
       rw [if_neg c9]at H
       have Ea:=decide_eq_false c9
       clear c9
       obtain rfl:=Option.some.inj H
       obtain⟨Dn,Do,Dp,Dq⟩:=qz2 Aa.out
       go_wp2
       go_ret
       exact⟨qf,qb⟩
end Go.Proofs.YtkajecadkkgfmaaGreatDoor.Pn
end
section
namespace Go.Proofs.YtkajecadkkgfmaaGreatDoor.Pn
open Go.RowKit Go.Proofs.YtkajecadkkgfmaaGreatDoorW.PrintWords Go.Proofs.YtkajecadkkgfmaaGreatDoorW.PrintLast Go.Proofs.YtkajecadkkgfmaaGreatDoorW.PrintMore
attribute [local go_sem] max2_int min2_int max_two min_two max_three min_three max_four min_four   -- for this text's walks alone
set_option linter.unusedVariables false
set_option linter.unusedSimpArgs false
def laws_big.f (l0:List Int):Option (Bool):=some (decide ((l0.length:Int) > 1048576))
set_option maxHeartbeats 8000000 in
set_option maxRecDepth 100000 in
theorem laws_big.calls (A0:Option Addr) (c0:Nat) (l0:List Int) (r:Bool) (w:World) (hr0:Kd.C (Kd.int .u8) w A0 l0.length l0) (hc0:l0.length≤c0) (h:laws_big.f l0=some r) :
  Calls Tryz.prog 19 #[.slice A0 l0.length c0] w fun e w'=>e=.returned (.bool r)∧y1 w w':=by
 have HR0:=y0.mk hr0
 have HC0:=y0.mk hc0
 clear hr0 hc0
 have H:(some (decide ((l0.length:Int) > 1048576)))=some r:=h
 clear h
 obtain rfl:=Option.some.inj H
 go_enter Tryz.func19,Tryz.ntmps19
 go_wp2
 go_ret
 exact qf2
/-- A state of type 93 at block g of W; what its slices lead to came in by w0. -/
def y2 (w0 W:World) (g:Nat) (f0:List Int) (f1:Int) (f2:Int):Prop:=∃ A0 c0,W.heap[g]?=some (.cells #[.slice A0 f0.length c0,.int .i64 f1,.int .i64 f2] 93 (0,0))∧w0.heap.size≤g∧Kd.C (Kd.int .u8) w0 A0 f0.length f0
theorem y2.grown {w0 W:World} {g:Nat} {f0:List Int} {f1:Int} {f2:Int} {W1:World} {row:Option Nat} (h:y2 w0 W g f0 f1 f2) (hw:W.grownBy W1 row) (hne:some g≠row):y2 w0 W1 g f0 f1 f2:=by
 obtain⟨A0,c0,hb,hg,hr0⟩:=h
 exact⟨A0,c0,blk_grown hb hw hne,hg,hr0⟩
theorem y2.own_neN {w0 W:World} {g:Nat} {f0:List Int} {f1:Int} {f2:Int} {α:Type} {d:Kd α} {e:Nat} {base:Nat} {ok:Nat→Prop} {v:Value} {xs:List α} (h:y2 w0 W g f0 f1 f2) (ho:Kd.N d e W base ok v xs) (ht:e≠93):some g≠v.ownBlock:=by
 obtain⟨A0,c0,hb,hg,hr0⟩:=h
 exact Kd.N_ne ho hb ht
theorem y2.fresh {w0 W:World} {g:Nat} {f0:List Int} {f1:Int} {f2:Int} (h:y2 w0 W g f0 f1 f2):∀ k,W.heap.size≤k→k≠g:=by
 obtain⟨A0,c0,hb,hg,hr0⟩:=h
 exact Kd.freshB hb
theorem y2.kept {w0 W:World} {g:Nat} {f0:List Int} {f1:Int} {f2:Int} {W1:World} {S:Nat→Prop} (h:y2 w0 W g f0 f1 f2) (hk:Kept W W1 S) (hne:¬ S g):y2 w0 W1 g f0 f1 f2:=by
 obtain⟨A0,c0,hb,hg,hr0⟩:=h
 exact⟨A0,c0,blk_kept hb hk hne,hg,hr0⟩
theorem y2.below {w0 W:World} {g:Nat} {f0:List Int} {f1:Int} {f2:Int} {W1:World} (h:y2 w0 W g f0 f1 f2) (hw:Below W.heap.size W W1):y2 w0 W1 g f0 f1 f2:=h.grown (grown_of_below hw none) (by simp)
theorem y2.alloc {w0 W:World} {g:Nat} {f0:List Int} {f1:Int} {f2:Int} (h:y2 w0 W g f0 f1 f2) (o:Obj):y2 w0 (W.alloc o) g f0 f1 f2:=h.below (y4 (Below.refl _ _) o)
theorem y2.drewN {w0 W:World} {g:Nat} {f0:List Int} {f1:Int} {f2:Int} (h:y2 w0 W g f0 f1 f2) (m:Nat):y2 w0 (W.drewN m) g f0 f1 f2:=h
theorem y2.drew {w0 W:World} {g:Nat} {f0:List Int} {f1:Int} {f2:Int} (h:y2 w0 W g f0 f1 f2):y2 w0 W.drew g f0 f1 f2:=h
theorem y2.at_ {w0 W:World} {g:Nat} {f0:List Int} {f1:Int} {f2:Int} {w':World} {m:Nat} (hq:W.drewN m=w') (h:y2 w0 W g f0 f1 f2):y2 w0 w' g f0 f1 f2:=by subst hq;exact y2.drewN h m
theorem y2.apart {w0 W:World} {g:Nat} {f0:List Int} {f1:Int} {f2:Int} {α:Type} {d:Kd α} {e:Nat} {base:Nat} {ok:Nat→Prop} {v:Value} {xs:List α} (h:y2 w0 W g f0 f1 f2) (ho:d.R e W base ok v xs) (ht:∀ q,q∈e :: d.E→q≠93):d.R e W base (fun k=>ok k∧k≠g) v xs:=by
 obtain⟨A0,c0,hb,hg,hr0⟩:=h
 exact Kd.R_types ho hb ht
theorem y2.own_ne {w0 W:World} {g:Nat} {f0:List Int} {f1:Int} {f2:Int} {α:Type} {d:Kd α} {e:Nat} {base:Nat} {ok:Nat→Prop} {v:Value} {xs:List α} (h:y2 w0 W g f0 f1 f2) (ho:d.R e W base ok v xs) (ht:e≠93):some g≠v.ownBlock:=by
 obtain⟨A0,c0,hb,hg,hr0⟩:=h
 exact Kd.R_ne ho hb ht
theorem y2.lt {w0 W:World} {g:Nat} {f0:List Int} {f1:Int} {f2:Int} (h:y2 w0 W g f0 f1 f2):g < W.heap.size:=by
 obtain⟨A0,c0,hb,hg,hr0⟩:=h
 exact blk_lt hb
theorem y2.ge {w0 W:World} {g:Nat} {f0:List Int} {f1:Int} {f2:Int} (h:y2 w0 W g f0 f1 f2):w0.heap.size≤g:=by
 obtain⟨A0,c0,hb,hg,hr0⟩:=h
 exact hg
theorem y2.ne_blk {w0 W:World} {g:Nat} {f0:List Int} {f1:Int} {f2:Int} {a:Nat} {cs:Array Value} {t:TypeId} {fr:Nat×Nat} (h:y2 w0 W g f0 f1 f2) (hb2:W.heap[a]?=some (.cells cs t fr)) (ht:t≠93):g≠a:=by
 obtain⟨A0,c0,hb,hg,hr0⟩:=h
 rintro rfl
 rw [hb]at hb2
 injection hb2 with hb2
 injection hb2 with _ ht2
 exact ht ht2.symm
theorem y2.far {w0 W:World} {g:Nat} {f0:List Int} {f1:Int} {f2:Int} {p:Addr} (h:y2 w0 W g f0 f1 f2) (hne:g≠p.block) (u:Value):y2 w0 (W.setCell p u) g f0 f1 f2:=by
 obtain⟨A0,c0,hb,hg,hr0⟩:=h
 exact⟨A0,c0,blk_far hb hne u,hg,hr0⟩
theorem cellS93_0 {W:World} {g:Nat} {A0:Option Addr} {c0:Nat} {f0:List Int} {f1:Int} {f2:Int} (h:W.heap[g]?=some (.cells #[.slice A0 f0.length c0,.int .i64 f1,.int .i64 f2] 93 (0,0))):W.cell? ⟨g,0,none⟩=some (.slice A0 f0.length c0):=(y10 h 0).trans rfl
theorem cellS93_1 {W:World} {g:Nat} {A0:Option Addr} {c0:Nat} {f0:List Int} {f1:Int} {f2:Int} (h:W.heap[g]?=some (.cells #[.slice A0 f0.length c0,.int .i64 f1,.int .i64 f2] 93 (0,0))):W.cell? ⟨g,1,none⟩=some (.int .i64 f1):=(y10 h 1).trans rfl
theorem y2.set_1 {w0 W:World} {g:Nat} {f0:List Int} {f1:Int} {f2:Int} (h:y2 w0 W g f0 f1 f2) (x:Int):y2 w0 (W.setCell ⟨g,1,none⟩ (.int .i64 x)) g f0 x f2:=by
 obtain⟨A0,c0,hb,hg,hr0⟩:=h
 exact⟨A0,c0,by simpa using blk_set hb 1 (.int .i64 x),hg,hr0⟩
theorem cellS93_2 {W:World} {g:Nat} {A0:Option Addr} {c0:Nat} {f0:List Int} {f1:Int} {f2:Int} (h:W.heap[g]?=some (.cells #[.slice A0 f0.length c0,.int .i64 f1,.int .i64 f2] 93 (0,0))):W.cell? ⟨g,2,none⟩=some (.int .i64 f2):=(y10 h 2).trans rfl
theorem y2.set_2 {w0 W:World} {g:Nat} {f0:List Int} {f1:Int} {f2:Int} (h:y2 w0 W g f0 f1 f2) (x:Int):y2 w0 (W.setCell ⟨g,2,none⟩ (.int .i64 x)) g f0 f1 x:=by
 obtain⟨A0,c0,hb,hg,hr0⟩:=h
 exact⟨A0,c0,by simpa using blk_set hb 2 (.int .i64 x),hg,hr0⟩
theorem y2.qj {w0 W:World} {g:Nat} {f0:List Int} {f1:Int} {f2:Int} (h:y2 w0 W g f0 f1 f2:=by repeat(first|(with_reducible first|exact HI0.out|apply y2.alloc|apply y2.drewN|apply y2.drew|apply y2.set_1|apply y2.set_2|refine y2.far ?_ (y0.out (by with_reducible assumption)) _)|exact HI0.out)):y2 w0 W g f0 f1 f2:=h
theorem y2.qbI {w0 W:World} (h:Below w0.heap.size w0 W:=by repeat(first|(with_reducible first|exact HB.out|apply y4|apply y19|apply y5|refine y6 ?_ (y2.ge HI0.out)|refine y6 ?_ (y0.out (by with_reducible assumption)))|exact HB.out)):Below w0.heap.size w0 W:=h
def spec_l01Open.f (l0:List Int):Option (List Int×Int×Int):=some (l0,0,61 + ((l0.length:Int) % 1000))
set_option maxHeartbeats 8000000 in
set_option maxRecDepth 100000 in
theorem spec_l01Open.calls (A0:Option Addr) (c0:Nat) (l0:List Int) (r1:List Int) (r2:Int) (r3:Int) (w0 w:World) (hB:Below w0.heap.size w0 w) (Ae:Kd.C (Kd.int .u8) w0 A0 l0.length l0) (Af:l0.length≤c0) (h:spec_l01Open.f l0=some (r1,r2,r3)) :
  Calls Tryz.prog 52 #[.slice A0 l0.length c0] w fun e w'=>∃ g_:Nat,e=.returned (.pointer (some ⟨g_,0,none⟩))∧y2 w0 w' g_ r1 r2 r3∧Below w0.heap.size w0 w'∧Below w.heap.size w w':=by
 have Ag:=Tryz.underlying93
 have Ah:=y0.mk Ae
 have Aj:=y0.mk Af
 clear Ae Af
 have HBW:=y0.mk (Below.refl w.heap.size w)
 have Ai:=y0.mk hB.size
 have HB:=y0.mk hB
 clear hB
 have H:(some (l0,0,61 + ((l0.length:Int) % 1000)))=some (r1,r2,r3):=h
 clear h
 simp only [Option.some.injEq,Prod.mk.injEq]at H
 obtain⟨rfl,rfl,rfl⟩:=H
 go_enter Tryz.func52,Tryz.ntmps52
 go_wp2_with (first|((with_reducible refine y17 (N:=9) rfl ?_);refine qe 9 #[.slice A0 l0.length c0,.int .i64 0,.int .i64 (61 + ((l0.length:Int) % 1000))] 93 ?_;intro Aa hg w2 hbox hb;replace HB:=y0.mk (y8 qb hb);have Ab:=y0.mk (hbox);have Ac:=y0.mk ((by rw [hg];exact(y7 (by repeat(first|(with_reducible first|exact HBW.out|apply y4|apply y19|apply y5)|exact HBW.out))):w.heap.size≤Aa));have Ad:=y0.mk ((Nat.le_trans Ai.out (by rw [hg];exact(y7 (by repeat(first|(with_reducible first|exact HBW.out|apply y4|apply y19|apply y5)|exact HBW.out))):w.heap.size≤Aa):w0.heap.size≤Aa));replace HBW:=y0.mk (y8 HBW.out hb);clear hb hbox hg))
 go_ret
 exact⟨_,rfl,(show y2 w0 _ Aa l0 0 (61 + ((l0.length:Int) % 1000))from⟨_,_,by(with_reducible repeat(first|refine y12 ?_ _|refine y11 ?_|refine y9 ?_ _));exact Ab.out,Ad.out,Ah.out⟩),qb,by repeat(first|(with_reducible first|exact HBW.out|apply y4|apply y19|apply y5|refine y6 ?_ Ac.out)|exact HBW.out)⟩
def z6_.f (s0_0:List Int) (s0_1:Int) (s0_2:Int) (a1:Int):Option (Int×Int×Int):=if a1 < 2 then(some (0,s0_1,s0_2))else(if s0_1 < (s0_0.length:Int)then(if 0≤s0_1 then(if a1=0 then(none)else(some (Int.tmod (wrap64 (rd s0_0 s0_1)) a1,wrap64 (s0_1 + 1),s0_2)))else(none))else(if(s0_0.length:Int) > 0 then(if(s0_0.length:Int)=0 then(none)else(if 0≤(Int.tmod s0_1 (s0_0.length:Int))then(if(Int.tmod s0_1 (s0_0.length:Int)) < (s0_0.length:Int)then(if a1=0 then(none)else(some (Int.tmod (wrap64 ((wrap64 (Int.tdiv (Int.tmod (wrap64 ((wrap64 (s0_2 * 1103)) + 12345)) 65521) 7)) + (wrap64 (rd s0_0 (Int.tmod s0_1 (s0_0.length:Int)))))) a1,wrap64 (s0_1 + 1),Int.tmod (wrap64 ((wrap64 (s0_2 * 1103)) + 12345)) 65521)))else(none))else(none)))else(if a1=0 then(none)else(some ((0:Int) % a1,wrap64 (s0_1 + 1),Int.tmod (wrap64 ((wrap64 (s0_2 * 1103)) + 12345)) 65521)))))
set_option maxHeartbeats 8000000 in
set_option maxRecDepth 100000 in
theorem z6_.calls (g:Nat) (Aa:List Int) (Ab:Int) (Ae:Int) (a1:Int) (r1:Int) (r2:Int) (r3:Int) (w0 w:World) (hI:y2 w0 w g Aa Ab Ae) (hB:Below w0.heap.size w0 w) (h:z6_.f Aa Ab Ae a1=some (r1,r2,r3)) :
  Calls Tryz.prog 54 #[.pointer (some ⟨g,0,none⟩),.int .i64 a1] w fun e w'=>e=.returned (.int .i64 r1)∧y2 w0 w' g Aa r2 r3∧Below w0.heap.size w0 w'∧y3 w w' g none:=by
 have HI0:=y0.mk hI
 have HK:=y0.mk (y3.refl w g none)
 have HL:=y0.mk hB.size
 clear hI
 have Cs:=y0.mk hB.size
 have HB:=y0.mk hB
 clear hB
 have H:(if a1 < 2 then(some (0,Ab,Ae))else(if Ab < (Aa.length:Int)then(if 0≤Ab then(if a1=0 then(none)else(some (Int.tmod (wrap64 (rd Aa Ab)) a1,wrap64 (Ab + 1),Ae)))else(none))else(if(Aa.length:Int) > 0 then(if(Aa.length:Int)=0 then(none)else(if 0≤(Int.tmod Ab (Aa.length:Int))then(if(Int.tmod Ab (Aa.length:Int)) < (Aa.length:Int)then(if a1=0 then(none)else(some (Int.tmod (wrap64 ((wrap64 (Int.tdiv (Int.tmod (wrap64 ((wrap64 (Ae * 1103)) + 12345)) 65521) 7)) + (wrap64 (rd Aa (Int.tmod Ab (Aa.length:Int)))))) a1,wrap64 (Ab + 1),Int.tmod (wrap64 ((wrap64 (Ae * 1103)) + 12345)) 65521)))else(none))else(none)))else(if a1=0 then(none)else(some ((0:Int) % a1,wrap64 (Ab + 1),Int.tmod (wrap64 ((wrap64 (Ae * 1103)) + 12345)) 65521))))))=some (r1,r2,r3):=h
 clear h
 by_cases c3:a1 < 2
 ·rw [if_pos c3]at H
  have Bm:=decide_eq_true c3
  clear c3
  simp only [Option.some.injEq,Prod.mk.injEq]at H
  obtain⟨rfl,rfl,rfl⟩:=H
  go_enter Tryz.func54,Tryz.ntmps54
  go_wp2
  repeat(go_quiet (fail);try go_wp2)
  go_ret
  exact⟨qf,(y2.qj (w0:=w0) (g:=g)),y2.qbI,(qh (w:=w) (g:=g))⟩
 ·rw [if_neg c3]at H
  have Bm:=decide_eq_false c3
  clear c3
  by_cases c4:Ab < (Aa.length:Int)
  ·rw [if_pos c4]at H
   have Bn:=decide_eq_true c4
   clear c4
   obtain⟨c5,H⟩:=qo H
   have Cm:decide (0≤Ab)=true:=decide_eq_true c5
   clear c5
   obtain⟨c6,H⟩:=qi H
   have Cn:(a1 == 0)=false:=beq_eq_false_iff_ne.mpr c6
   have Co:(a1 != 0)=true:=bne_iff_ne.mpr c6
   simp only [Option.some.injEq,Prod.mk.injEq]at H
   obtain⟨rfl,rfl,rfl⟩:=H
   obtain⟨Bo,Bp,Aj,Bq,Am⟩:=HI0.out
   have Br:=cellS93_0 Aj
   have Bs:=cellS93_1 Aj
   have Bt:=cellS93_2 Aj
   have Bu:=blk_frozen Aj 1
   have Bv:=blk_frozen Aj 2
   clear Aj Bq
   have Ao:0≤(Ab:Int):=of_decide_eq_true qy1
   have Ap:Ab < (Aa.length:Int):=of_decide_eq_true qy1
   obtain⟨Cb,Bw,Ai⟩:=Kd.at_int Am Ab Ao Ap
   cases Bw
   replace Ai:=pw_cell_below HB.out Ai
   replace Ao:=eq_true Ao
   replace Ap:=eq_true Ap
   go_enter Tryz.func54,Tryz.ntmps54
   go_wp2
   repeat(go_quiet (fail);try go_wp2)
   go_ret
   exact⟨qf,(y2.qj (w0:=w0) (g:=g)),y2.qbI,(qh (w:=w) (g:=g))⟩
  ·rw [if_neg c4]at H
   have Bn:=decide_eq_false c4
   clear c4
   by_cases c8:(Aa.length:Int) > 0
   ·rw [if_pos c8]at H
    have Bx:decide (0 < (Aa.length:Int))=true:=decide_eq_true c8
    have Bz:decide (0 < Aa.length)=true:=decide_eq_true (by omega)
    clear c8
    obtain⟨c9,H⟩:=qi H
    have Cp:((Aa.length:Int) == 0)=false:=beq_eq_false_iff_ne.mpr c9
    have Cq:((Aa.length:Int) != 0)=true:=bne_iff_ne.mpr c9
    have Cr:¬(Aa=[]):=fun h_=>c9 (by rw [h_];rfl)
    obtain⟨Ah,Ak⟩:∃ j_:Int,(Int.tmod Ab (Aa.length:Int))=j_:=⟨_,rfl⟩
    replace H:(if 0≤(Ah)then(if(Ah) < (Aa.length:Int)then(if a1=0 then(none)else(some (Int.tmod (wrap64 ((wrap64 (Int.tdiv (Int.tmod (wrap64 ((wrap64 (Ae * 1103)) + 12345)) 65521) 7)) + (wrap64 (rd Aa (Ah))))) a1,wrap64 (Ab + 1),Int.tmod (wrap64 ((wrap64 (Ae * 1103)) + 12345)) 65521)))else(none))else(none))=some (r1,r2,r3):=by first|(rw [Ak]at H;exact H)|(simp only [Ak]at H ⊢;exact H)
    obtain⟨Cc,H⟩:=qo H
    have Cd:decide (0≤(Ah))=true:=decide_eq_true Cc
    clear Cc
    obtain⟨Ce,H⟩:=qo H
    have Cf:decide ((Ah) < (Aa.length:Int))=true:=decide_eq_true Ce
    clear Ce
    obtain⟨Cg,H⟩:=qi H
    have Ch:(a1 == 0)=false:=beq_eq_false_iff_ne.mpr Cg
    have Ci:(a1 != 0)=true:=bne_iff_ne.mpr Cg
    simp only [Option.some.injEq,Prod.mk.injEq]at H
    obtain⟨rfl,rfl,rfl⟩:=H
    obtain⟨Aw,Ax,Af,At,Al⟩:=HI0.out
    have Ay:=cellS93_0 Af
    have Az:=cellS93_1 Af
    have Ba:=cellS93_2 Af
    have Bb:=blk_frozen Af 1
    have Bc:=blk_frozen Af 2
    clear Af At
    have Aq:0≤((Ah):Int):=of_decide_eq_true qy1
    have As:(Ah) < (Aa.length:Int):=of_decide_eq_true qy1
    obtain⟨Au,Ca,Ac⟩:=Kd.at_int Al (Ah) Aq As
    cases Ca
    have Ad:Au.block≠g:=Nat.ne_of_lt (Nat.lt_of_lt_of_le (by have:=World.block_lt_of_cell? _ _ Ac;first|rwa [add_block]at this|exact this) (y2.ge HI0.out))
    replace Ac:=pw_cell_below HB.out Ac
    replace Ac:=(cell_far (p:=⟨g,2,none⟩) (by first|(rw [add_block];exact Ad)|(show(Addr.add _ _).block≠_;rw [add_block];exact Ad)|exact Ad) (.int .i64 (Int.tmod (wrap64 ((wrap64 (Ae * 1103)) + 12345)) 65521))).trans Ac
    (try have Bd:=fun(n_:Nat)=>(show(((w.drewN n_).setCell ⟨g,2,none⟩ (.int .i64 (Int.tmod (wrap64 ((wrap64 (Ae * 1103)) + 12345)) 65521)))).cell? _=some _ from Ac))
    clear Ad
    replace Aq:=eq_true Aq
    replace As:=eq_true As
    go_enter Tryz.func54,Tryz.ntmps54
    go_wp2
    repeat(go_quiet (fail);try go_wp2)
    go_ret
    exact⟨by first|rfl|(simp [y14,y15] <;> rfl)|(simp only [← Ak];first|rfl|(simp [y14,y15] <;> rfl))|(simp [*,y14,y15] <;> rfl),(y2.qj (w0:=w0) (g:=g)),y2.qbI,(qh (w:=w) (g:=g))⟩
   ·rw [if_neg c8]at H
    have Bx:decide (0 < (Aa.length:Int))=false:=decide_eq_false c8
    have Bz:decide (0 < Aa.length)=false:=decide_eq_false (by omega)
    clear c8
    obtain⟨Cj,H⟩:=qi H
    have Ck:(a1 == 0)=false:=beq_eq_false_iff_ne.mpr Cj
    have Cl:(a1 != 0)=true:=bne_iff_ne.mpr Cj
    simp only [Option.some.injEq,Prod.mk.injEq]at H
    obtain⟨rfl,rfl,rfl⟩:=H
    obtain⟨Be,Bf,Ag,Av,Bg⟩:=HI0.out
    have Bh:=cellS93_0 Ag
    have Bi:=cellS93_1 Ag
    have Bj:=cellS93_2 Ag
    have Bk:=blk_frozen Ag 1
    have Bl:=blk_frozen Ag 2
    clear Ag Av
    go_enter Tryz.func54,Tryz.ntmps54
    go_wp2
    repeat(go_quiet (fail);try go_wp2)
    go_ret
    exact⟨qf,(y2.qj (w0:=w0) (g:=g)),y2.qbI,(qh (w:=w) (g:=g))⟩
def spec_l01Cur_once.f (s0_0:List Int) (s0_1:Int) (s0_2:Int) (a1:Int):Option (Bool×Int×Int):=(z6_.f s0_0 s0_1 s0_2 a1).bind fun bt407=>(some ((bt407.1 == (wrap64 (a1 - 1))),bt407.2.1,bt407.2.2))
set_option maxHeartbeats 8000000 in
set_option maxRecDepth 100000 in
theorem spec_l01Cur_once.calls (g:Nat) (Aa:List Int) (Ac:Int) (Ad:Int) (a1:Int) (r1:Bool) (r2:Int) (r3:Int) (w0 w:World) (hI:y2 w0 w g Aa Ac Ad) (hB:Below w0.heap.size w0 w) (h:spec_l01Cur_once.f Aa Ac Ad a1=some (r1,r2,r3)) :
  Calls Tryz.prog 67 #[.pointer (some ⟨g,0,none⟩),.int .i64 a1] w fun e w'=>e=.returned (.bool r1)∧y2 w0 w' g Aa r2 r3∧Below w0.heap.size w0 w'∧y3 w w' g none:=by
 have HI0:=y0.mk hI
 have HK:=y0.mk (y3.refl w g none)
 have HL:=y0.mk hB.size
 clear hI
 have Ah:=y0.mk hB.size
 have HB:=y0.mk hB
 clear hB
 have H:((z6_.f Aa Ac Ad a1).bind fun Ab=>(some ((Ab.1 == (wrap64 (a1 - 1))),Ab.2.1,Ab.2.2)))=some (r1,r2,r3):=h
 clear h
 obtain⟨⟨Ae,Af,Ag⟩,A3,H⟩:=qB H
 replace H:(some ((Ae == (wrap64 (a1 - 1))),Af,Ag))=some (r1,r2,r3):=H
 simp only [Option.some.injEq,Prod.mk.injEq]at H
 obtain⟨rfl,rfl,rfl⟩:=H
 go_enter Tryz.func67,Tryz.ntmps67
 go_wp2_with (first|((with_reducible refine y16 (f:=54) rfl ?_);refine y18 (some 7) rfl rfl Tryz.func54 (by kernel_rfl) rfl #[.pointer (some ⟨g,0,none⟩),.int .i64 a1] rfl qy0 ?_;(with_reducible refine(z6_.calls g Aa Ac Ad a1 Ae Af Ag w0 _ (by repeat(first|(with_reducible first|exact HI0.out|apply y2.alloc|apply y2.drewN|apply y2.drew|apply y2.set_1|apply y2.set_2)|exact HI0.out)) (by repeat(first|(with_reducible first|exact HB.out|apply y4|apply y19|apply y5|refine y6 ?_ (y2.ge HI0.out))|exact HB.out)) A3.out).mono ?_);rintro e w4 ⟨rfl,hi,hb,hk⟩;refine⟨_,rfl, ?_⟩;replace HK:=y0.mk (y3.trans (qh (w:=w) (g:=g)) hk (.inl rfl));replace HB:=y0.mk (hb);replace HI0:=y0.mk (hi);(try clear hb hk hi)))
 go_ret
 exact⟨qf,(y2.qj (w0:=w0) (g:=g)),y2.qbI,(qh (w:=w) (g:=g))⟩
end Go.Proofs.YtkajecadkkgfmaaGreatDoor.Pn
end
section
namespace Go.Proofs.YtkajecadkkgfmaaGreatDoor.Pn
open Go.RowKit Go.Proofs.YtkajecadkkgfmaaGreatDoorW.PrintWords Go.Proofs.YtkajecadkkgfmaaGreatDoorW.PrintLast Go.Proofs.YtkajecadkkgfmaaGreatDoorW.PrintMore
attribute [local go_sem] max2_int min2_int max_two min_two max_three min_three max_four min_four   -- for this text's walks alone
set_option linter.unusedVariables false
set_option linter.unusedSimpArgs false
def spec_l02Tuple.f (l0_0:List ByteArray):Option (List ByteArray):=(some (([]:List ByteArray):List ByteArray)).bind fun y247=>(if y247.length + l0_0.length < 8796093022208 then(some (y247 ++ l0_0))else(none))
set_option maxHeartbeats 8000000 in
set_option maxRecDepth 100000 in
theorem spec_l02Tuple.calls (Ap:Option Addr) (Aq:Nat) (Ac:List ByteArray) (r:List ByteArray) (w:World) (Aj:Kd.C Kd.string w Ap Ac.length Ac) (Ak:Ac.length≤Aq) (h:spec_l02Tuple.f Ac=some r) :
  Calls Tryz.prog 58 #[.agg #[.slice Ap Ac.length Aq]] w fun e w'=>∃ v0_:Value,e=.returned (.agg #[v0_])∧Kd.R Kd.string 9 w' w.heap.size (fun _=>True) v0_ r∧Below w.heap.size w w':=by
 have Bl:=Tryz.underlying36
 have At:=y0.mk Aj
 have Bf:=y0.mk Ak
 clear Aj Ak
 have HB:=y0.mk (Below.refl w.heap.size w)
 have H:((some (([]:List ByteArray):List ByteArray)).bind fun Af=>(if Af.length + Ac.length < 8796093022208 then(some (Af ++ Ac))else(none)))=some r:=h
 clear h
 obtain⟨Af,Ad⟩:∃ y_:List ByteArray,y_=(([]:List ByteArray)):=⟨_,rfl⟩
 replace H:(if Af.length + Ac.length < 8796093022208 then(some (Af ++ Ac))else(none))=some r:=by first|(rw [Ad];with_reducible exact H)|(have H2_:=(Option.bind_some _ _).symm.trans H;rw [Ad];with_reducible exact H2_)|(have H2_:=(Option.bind_some _ _).symm.trans H;with_reducible exact H2_)|with_reducible exact H|(rw [Ad];exact H)|exact H
 have Al:=y0.mk Ad
 clear Ad
 obtain⟨c2,H⟩:=qo H
 have Ba:=y0.mk c2
 clear c2
 obtain⟨As,Ae⟩:∃ y_:List ByteArray,y_=(Af ++ Ac):=⟨_,rfl⟩
 replace H:(some As)=some r:=by first|(rw [Ae];with_reducible exact H)|(have H2_:=(Option.bind_some _ _).symm.trans H;rw [Ae];with_reducible exact H2_)|(have H2_:=(Option.bind_some _ _).symm.trans H;with_reducible exact H2_)|with_reducible exact H|(rw [Ae];exact H)|exact H
 have Au:=y0.mk Ae
 clear Ae
 obtain rfl:=Option.some.inj H
 go_enter Tryz.func58,Tryz.ntmps58
 go_wp2_with (first|((with_reducible refine y17 (N:=1) rfl ?_);refine qe 1 #[.slice Ap Ac.length Aq] 36 ?_;intro Bg hg w3 hbox hb;have Aa:=y0.mk (hbox);have Bh:=y0.mk (qg (w:=w) hg);have Bi:=y0.mk (qg (w:=w) hg);replace HB:=y0.mk (y8 qb hb);clear hb hbox hg)|((with_reducible refine y17 (N:=2) rfl ?_);refine qe 2 #[.slice none 0 0] 36 ?_;intro Am hg w4 hbox hb;have Ab:=y0.mk (hbox);have Bj:=y0.mk (qg (w:=w) hg);have Bk:=y0.mk (qg (w:=w) hg);replace HB:=y0.mk (y8 qb hb);have Ah:=y0.mk (qn Aa.out hg);have Ai:=y0.mk (qm Aa.out hg);replace Aa:=y0.mk (qK Aa.out hb);clear hb hbox hg)|((with_reducible refine y17 (N:=3) rfl ?_);refine qL Kd.string 9 3 ([]:List ByteArray) ?_;intro Bb w5 Av hb hg_ hnew_;clear hg_ hnew_;(first|rw [← Al.out]at Av|(simp only [Int.reduceToNat]at Av;rw [← Al.out]at Av));have Ag:=y0.mk (Kd.R_lower Av (y7 qb));replace Aa:=y0.mk (qK Aa.out hb);replace Ab:=y0.mk (qK Ab.out hb);replace HB:=y0.mk (y8 qb hb);clear hb Av;have Bm:=Ah.out;have Bn:=Ai.out;obtain⟨Bc,Bd⟩:=qz1 Aa.out)|((with_reducible refine gate_builtin (b:=.append) (xs:=#[.tmp 3,.tmp 5]) rfl ?_);at_builtin;refine Kd.R_append_rows Kd.string (w0:=w) w.heap.size rfl (.tmp 3) (.tmp 5) 25 9 (.string ⟨#[]⟩) 16 rfl Tryz.underlying25 info9 rfl (by decide) (by omega) Bb Af Ac _ _ _ (fun _=>True) (fun _=>False) rfl rfl ?aO ?aR (fun _ _ h=>h) (fun _ h=>h.elim) ?aF ?aB ?aS ?aL ?_;(case aR=>repeat(first|exact(Kd.C_below At.out HB.out)|(with_reducible refine Kd.C_alloc ?_ _)|(with_reducible refine Kd.C_drewN ?_ _)|(with_reducible refine Kd.C_drew ?_)));(case aB=>exact qb);(case aF=>exact(fun _ _=>trivial));(case aO=>exact(qR Ag.out));(case aS=>exact(y7 qb));(case aL=>have:=Ba.out;omega);intro Bo w9 ho hb hg hat;rw [← Au.out]at ho;replace Aa:=y0.mk (blk_grown (qk Aa.out) hg (Kd.R_ne Ag.out Aa.out (by decide)));replace Ab:=y0.mk (blk_grown (qk Ab.out) hg (Kd.R_ne Ag.out Ab.out (by decide)));replace HB:=y0.mk (hb);have Ao:=y0.mk (ho);clear Ag;clear ho hb hg hat;obtain⟨Aw,Ax,Be⟩:=Kd.R_slice Ao.out;subst Be;obtain⟨Ay,Az⟩:=qz1 Ab.out))
 refine bodyPost_ret (results_cell_row rfl _ _ Am 36 #[.slice Aw As.length Ax] (0,0) _ rfl (by(with_reducible repeat(first|refine y12 ?_ _|refine y11 ?_|refine y9 ?_ _));refine y13 (cs:=#[.slice none 0 0]) ?_ 0 _ rfl;(with_reducible repeat(first|refine y12 ?_ _|refine y11 ?_|refine y9 ?_ _));exact Ab.out) Tryz.underlying36 rfl (by kernel_rfl)) rfl ?_
 exact⟨_,by first|rfl|(simp [y14,y15] <;> rfl)|(simp [*,y14,y15] <;> rfl),by(with_reducible repeat(first|apply Kd.R_alloc|apply Kd.R_drewN|apply Kd.R_drew));exact Kd.R_mono (Kd.R_far (p:=⟨Am,0,none⟩) (Kd.R_types Ao.out Ab.out (by decide)) (fun _ hk=>hk.2) (.slice Aw As.length Ax)) (fun _ hk=>trivial),qb⟩
end Go.Proofs.YtkajecadkkgfmaaGreatDoor.Pn
end
