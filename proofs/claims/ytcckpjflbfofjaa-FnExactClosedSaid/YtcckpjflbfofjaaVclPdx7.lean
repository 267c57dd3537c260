-- Cut by prune.py, a program of this session, out of the texts of this claim: Lean checks it.
import Derived.Test.YtcckpjflbfofjaaVclPdx0
import Derived.Test.YtcckpjflbfofjaaVclPdx4
namespace Go.Proofs.Ytcckpjflbfofjaa.Pd
open Go.RowKit Go.Proofs.YtcckpjflbfofjaaW.PrintWords Go.Proofs.YtcckpjflbfofjaaW.PrintLast Go.Proofs.YtcckpjflbfofjaaW.PrintMore
attribute [local go_sem] max2_int min2_int max_two min_two max_three min_three max_four min_four   -- for this text's walks alone
set_option linter.unusedVariables false
set_option linter.unusedSimpArgs false
def impl_isGraph.l0:Nat→List (S53)→Int→Int→Int→Int→List (S53)→Option (Bool)
 | 0,_,_,_,_,_,_=>none
 | k + 1,x6,x7,x8,x179000,x179001,x179002=>if x8 < x7 then(if 0≤x8 then(if x8 < (x6.length:Int)then((impl_in.f ((y15 x6 x8).f0) 0 5).bind fun t181=>(if t181=true then((impl_in.f ((y15 x6 x8).f1) 0 5).bind fun t182=>(if t182=true then(if x8 > 0 then(if 0≤(wrap64 (x8 - 1))then(if(wrap64 (x8 - 1)) < (x179002.length:Int)then((impl_compareArcs.f k ((y15 x179002 (wrap64 (x8 - 1))).f0) ((y15 x179002 (wrap64 (x8 - 1))).f1) ((y15 x179002 (wrap64 (x8 - 1))).f2) ((y15 x6 x8).f0) ((y15 x6 x8).f1) ((y15 x6 x8).f2)).bind fun t184=>(if t184≥0 then(some false)else(impl_isGraph.l0 k x6 x7 (wrap64 (x8 + 1)) x179000 x179001 x179002)))else(none))else(none))else(impl_isGraph.l0 k x6 x7 (wrap64 (x8 + 1)) x179000 x179001 x179002))else(some false)))else(some false)))else(none))else(none))else(some true)
def impl_isGraph.f (k:Nat) (a0_0:Int) (a0_1:Int) (l0_2:List (S53)):Option (Bool):=impl_isGraph.l0 k l0_2 (l0_2.length:Int) 0 a0_0 a0_1 l0_2
def impl_isGraph.T4:Bool×List (List Nat×List Nat):=(true,[([],[]),([0],[0]),([1],[1]),([2],[2]),([3,2],[3]),([4],[4]),([5,4],[4,5]),([6,4,4],[4,6]),([7,4],[4,7]),([4,8],[4,8]),([9,7],[9]),([10],[10]),([11,10],[10,11]),([12,10,10],[10,12]),([13],[13]),([14,13],[13,14]),([13],[13]),([16,13],[13,16]),([15,17,13],[13,15,17]),([18,13],[13,18]),([13],[13]),([19,20,13,13],[13,19,20]),([21,13],[13,21]),([13,22,10],[10,13,22]),([10,23],[10,23])])
def impl_isGraph.B4:List Nat:=[0,1,3,7,15,31,63,127,255,511,1023,2047,4095,8191,16383,32767,16383,81919,262143,524287,16383,2097151,4194303,8388607,16777215]
theorem impl_isGraph.tab4:rtab .any (opsOf Try.f29 4)=impl_isGraph.T4:=by kernel_rfl
theorem impl_isGraph.bits4:waitsOk impl_isGraph.T4.2 impl_isGraph.B4=true:=by kernel_rfl
set_option maxHeartbeats 8000000 in
set_option maxRecDepth 100000 in
theorem impl_isGraph.calls (k:Nat) (Bb:Int) (Bc:Int) (Bj:Option Addr) (Bd:Nat) (Aa:List (S53)) (r:Bool) (w:World) (Bk:Kd.C k53 w Bj Aa.length Aa) (Bl:Aa.length≤Bd) (h:impl_isGraph.f k Bb Bc Aa=some r) :
  Calls Try.prog 29 #[.agg #[.int .i64 Bb,.int .i64 Bc,.slice Bj Aa.length Bd]] w fun e w'=>e=.returned (.bool r)∧Below w.heap.size w w':=by
 have Dy:=Try.underlying28
 have Dz:=Try.underlying53
 have Be:=y0.mk Bk
 have Di:=y0.mk Bl
 clear Bk Bl
 have HB:=y0.mk (Below.refl w.heap.size w)
 have H:(impl_isGraph.l0 k Aa (Aa.length:Int) 0 Bb Bc Aa)=some r:=h
 clear h
 have H':=y0.mk H
 clear H
 go_enter Try.func29,Try.ntmps29
 go_wp2_with (first|((with_reducible refine y12 (N:=1) rfl ?_);refine qe 1 #[.int .i64 Bb,.int .i64 Bc,.slice Bj Aa.length Bd] 28 ?_;intro Az hg w2 hbox hb;have Ad:=y0.mk (hbox);have Dj:=y0.mk (qg (w:=w) hg);have Dk:=y0.mk (qg (w:=w) hg);replace HB:=y0.mk (y4 qb hb);clear hb hbox hg;obtain⟨Bm,Bn,Bo,Bp,Bq,Br⟩:=qz3 Ad.out))
 go_loopg [8] k (fun kq v8 w'=>∃(Ab:Int),v8=.int .i64 Ab∧y0 (impl_isGraph.l0 kq Aa (Aa.length:Int) Ab Bb Bc Aa=some r)∧y0 (kq≤k)∧y0 (w'.heap[Az]?=some (.cells #[.int .i64 Bb,.int .i64 Bc,(.slice Bj Aa.length Bd)] 28 (0,0)))∧y0 (Below w.heap.size w w'))
 case atStart=>exact⟨(0),qy2,H',⟨Nat.le_refl _⟩,⟨qk Ad.out⟩,⟨qb⟩⟩
 case round =>
  clear H'
  (try clear Bm Bn Bo Bp Bq Br)
  obtain⟨Ab,rfl,HA,Ca,Ad,HB⟩:=hrel
  cases gk with
  | zero=>exact absurd HA.out (by simp [impl_isGraph.l0])
  | succ k1 =>
   have H:=HA.out
   clear HA
   simp only [impl_isGraph.l0]at H
   by_cases c4:Ab < (Aa.length:Int)
   ·rw [if_pos c4]at H
    have De:=decide_eq_true c4
    clear c4
    obtain⟨c5,H⟩:=qo H
    have Ea:decide (0≤Ab)=true:=decide_eq_true c5
    clear c5
    obtain⟨c6,H⟩:=qo H
    have Eb:decide (Ab < (Aa.length:Int))=true:=decide_eq_true c6
    clear c6
    obtain⟨Df,A7,H⟩:=qB H
    by_cases c8:Df=true
    ·subst c8
     replace H:=qT H
     obtain⟨Dg,A9,H⟩:=qB H
     by_cases Cb:Dg=true
     ·subst Cb
      replace H:=qT H
      by_cases Bu:Ab > 0
      ·rw [if_pos Bu]at H
       have Bw:decide (0 < Ab)=true:=decide_eq_true Bu
       clear Bu
       obtain⟨Ap,Ba⟩:∃ j_:Int,(wrap64 (Ab - 1))=j_:=⟨_,rfl⟩
       replace H:(if 0≤(Ap)then(if(Ap) < (Aa.length:Int)then((impl_compareArcs.f k1 ((y15 Aa (Ap)).f0) ((y15 Aa (Ap)).f1) ((y15 Aa (Ap)).f2) ((y15 Aa Ab).f0) ((y15 Aa Ab).f1) ((y15 Aa Ab).f2)).bind fun Bf=>(if Bf≥0 then(some false)else(impl_isGraph.l0 k1 Aa (Aa.length:Int) (wrap64 (Ab + 1)) Bb Bc Aa)))else(none))else(none))=some r:=by first|(rw [Ba]at H;exact H)|(simp only [Ba]at H ⊢;exact H)
       (try rw [Ba]at A7)
       (try rw [Ba]at A9)
       have hji12w:(IntKind.i64.wrap (Ab - 1))=Ap:=(i64_w _).trans Ba
       obtain⟨Dl,H⟩:=qo H
       have Dm:decide (0≤(Ap))=true:=decide_eq_true Dl
       clear Dl
       obtain⟨Dn,H⟩:=qo H
       have Do:decide ((Ap) < (Aa.length:Int))=true:=decide_eq_true Dn
       clear Dn
       obtain⟨Bf,Dp,H⟩:=qB H
       have As:0≤(Ab:Int):=of_decide_eq_true qy0
       have At:Ab < (Aa.length:Int):=of_decide_eq_true qy0
       obtain⟨Ar,Bg,Ai,Aj,Ak⟩:=at_T53 Be.out Ab As At
       cases Bg
       replace Ai:=(HB.out.cell (World.block_lt_of_cell? w _ Ai)).trans Ai
       replace Aj:=(HB.out.cell (World.block_lt_of_cell? w _ Aj)).trans Aj
       replace Ak:=(HB.out.cell (World.block_lt_of_cell? w _ Ak)).trans Ak
       replace As:=eq_true As
       replace At:=eq_true At
       try go_wp2_with (first|((with_reducible refine y12 (N:=4) rfl ?_);refine qe 4 #[.int .i64 0,.int .i64 0,.bool false] 53 ?_;intro Ae hg Cc hbox hb;have Ac:=y0.mk (hbox);have Bh:=y0.mk (qg (w:=w) hg);have Bi:=y0.mk (qg (w:=w) hg);replace HB:=y0.mk (y4 qb hb);have Af:=y0.mk (qn Ad.out hg);have Aq:=y0.mk (qm Ad.out hg);replace Ad:=y0.mk (qK Ad.out hb);clear hb hbox hg;have Dq:=Aq.out;have Dr:=Af.out;obtain⟨Cd,Ce,Cf,Cg,Ch,Ci⟩:=qz3 Ac.out))
       have n0_:y0 ((((Cc.setCell ⟨Ae,0,none⟩ (.int .i64 ((y15 Aa Ab).f0))).setCell ⟨Ae,1,none⟩ (.int .i64 ((y15 Aa Ab).f1))).setCell ⟨Ae,2,none⟩ (.bool ((y15 Aa Ab).f2))).heap[Az]?=some (.cells #[.int .i64 Bb,.int .i64 Bc,.slice (some Ar) Aa.length Bd] 28 (0,0))):=⟨by(with_reducible repeat(first|refine y9 ?_ _|refine y8 ?_|refine y5 ?_ _));refine blk_far ?_ Af.out _;(with_reducible repeat(first|refine y9 ?_ _|refine y8 ?_|refine y5 ?_ _));refine blk_far ?_ Af.out _;(with_reducible repeat(first|refine y9 ?_ _|refine y8 ?_|refine y5 ?_ _));refine blk_far ?_ Af.out _;(with_reducible repeat(first|refine y9 ?_ _|refine y8 ?_|refine y5 ?_ _));exact Ad.out⟩
       have n1_:y0 ((((Cc.setCell ⟨Ae,0,none⟩ (.int .i64 ((y15 Aa Ab).f0))).setCell ⟨Ae,1,none⟩ (.int .i64 ((y15 Aa Ab).f1))).setCell ⟨Ae,2,none⟩ (.bool ((y15 Aa Ab).f2))).heap[Ae]?=some (.cells #[.int .i64 ((y15 Aa Ab).f0),.int .i64 ((y15 Aa Ab).f1),.bool ((y15 Aa Ab).f2)] 53 (0,0))):=⟨by(with_reducible repeat(first|refine y9 ?_ _|refine y8 ?_|refine y5 ?_ _));refine blk_put (cs:=#[.int .i64 ((y15 Aa Ab).f0),.int .i64 ((y15 Aa Ab).f1),.bool false]) ?_ 2 _ rfl;(with_reducible repeat(first|refine y9 ?_ _|refine y8 ?_|refine y5 ?_ _));refine blk_put (cs:=#[.int .i64 ((y15 Aa Ab).f0),.int .i64 0,.bool false]) ?_ 1 _ rfl;(with_reducible repeat(first|refine y9 ?_ _|refine y8 ?_|refine y5 ?_ _));refine blk_put (cs:=#[.int .i64 0,.int .i64 0,.bool false]) ?_ 0 _ rfl;(with_reducible repeat(first|refine y9 ?_ _|refine y8 ?_|refine y5 ?_ _));exact Ac.out⟩
       have n2_:y0 (Below w.heap.size w (((Cc.setCell ⟨Ae,0,none⟩ (.int .i64 ((y15 Aa Ab).f0))).setCell ⟨Ae,1,none⟩ (.int .i64 ((y15 Aa Ab).f1))).setCell ⟨Ae,2,none⟩ (.bool ((y15 Aa Ab).f2)))):=⟨qb⟩
       (try clear Ad)
       (try clear Ac)
       (try clear HB)
       generalize (((Cc.setCell ⟨Ae,0,none⟩ (.int .i64 ((y15 Aa Ab).f0))).setCell ⟨Ae,1,none⟩ (.int .i64 ((y15 Aa Ab).f1))).setCell ⟨Ae,2,none⟩ (.bool ((y15 Aa Ab).f2)))=Ec at n0_ n1_ n2_ ⊢
       have Ad:=n0_
       have Ac:=n1_
       have HB:=n2_
       clear n0_ n1_ n2_
       replace Ad:=y0.mk (y8 Ad.out)
       replace Ac:=y0.mk (y8 Ac.out)
       replace HB:=y0.mk (y2 HB.out)
       have Bs:0≤((Ap):Int):=of_decide_eq_true qy0
       have Bt:(Ap) < (Aa.length:Int):=of_decide_eq_true qy0
       obtain⟨Bx,Dh,Au,Aw,Ay⟩:=at_T53 Be.out (Ap) Bs Bt
       have Al:=Ay
       have Am:=Aw
       have Ao:=Au
       obtain rfl:Ar=Bx:=(by injection Dh)
       replace Au:=(HB.out.cell (World.block_lt_of_cell? w _ Au)).trans Au
       replace Aw:=(HB.out.cell (World.block_lt_of_cell? w _ Aw)).trans Aw
       replace Ay:=(HB.out.cell (World.block_lt_of_cell? w _ Ay)).trans Ay
       replace Bs:=eq_true Bs
       replace Bt:=eq_true Bt
       refine start_ (n:=25) (S:=fun w'=>w'.cell? ⟨Ae,0,none⟩=some (.int .i64 ((y15 Aa Ab).f0))∧w'.cell? ⟨Ae,1,none⟩=some (.int .i64 ((y15 Aa Ab).f1))∧w'.cell? ⟨Ae,2,none⟩=some (.bool ((y15 Aa Ab).f2))∧w'.cell? ⟨Az,0,none⟩=some (.int .i64 Bb)∧w'.cell? ⟨Az,1,none⟩=some (.int .i64 Bc)∧w'.cell? ⟨Az,2,none⟩=some (.slice (some Ar) Aa.length Bd)∧w'.cell? (Ar.add (((Ap)).toNat * 3))=some (.int .i64 ((y15 Aa (Ap)).f0))∧w'.cell? ⟨(Ar.add (((Ap)).toNat * 3)).block,(Ar.add (((Ap)).toNat * 3)).off + 1,none⟩=some (.int .i64 ((y15 Aa (Ap)).f1))∧w'.cell? ⟨(Ar.add (((Ap)).toNat * 3)).block,(Ar.add (((Ap)).toNat * 3)).off + 2,none⟩=some (.bool ((y15 Aa (Ap)).f2))) (ds:=[]) (fl_ 25 0) (by kernel_rfl) rfl rfl ⟨(y7 Ac.out 0).trans rfl,(y7 Ac.out 1).trans rfl,(y7 Ac.out 2).trans rfl,(y7 Ad.out 0).trans rfl,(y7 Ad.out 1).trans rfl,(y7 Ad.out 2).trans rfl,((HB.out.cell (World.block_lt_of_cell? w _ Ao)).trans Ao),((HB.out.cell (World.block_lt_of_cell? w _ Am)).trans Am),((HB.out.cell (World.block_lt_of_cell? w _ Al)).trans Al)⟩ (fun hHeld=>?_);refine with_tabW impl_isGraph.tab4 impl_isGraph.bits4 (fun HT_ HW_=>?_)
       generalize Ec.drew=Eg at Ad Ac HB Au Aw Ay hHeld ⊢
       by_cases Bv:Bf≥0
       ·rw [if_pos Bv]at H
        have Bz:decide (0≤Bf)=true:=decide_eq_true Bv
        clear Bv
        obtain rfl:=Option.some.inj H
        refine qp 0 13 (fl_ 25 1) ?_
        refine qt 1 14 (fl_ 25 3) hHeld ?_
        refine qO 2 15 (fl_ 25 7) (fun K hK=>?_)
        refine goes_ Try.func42 (by kernel_rfl) rfl #[.int .i64 ((y15 Aa Ab).f0),.int .i64 0,.int .i64 5] (by rfl) rfl rfl qy1 ?_
        with_reducible refine(impl_in.calls ((y15 Aa Ab).f0) 0 5 true _ A7.out).mono ?_
        rintro e w' ⟨rfl,⟨nd,rfl⟩⟩
        refine⟨_,rfl, ?_⟩
        refine hK.out _ _ ⟨(y7 Ac.out 0).trans rfl,(y7 Ac.out 1).trans rfl,(y7 Ac.out 2).trans rfl,(y7 Ad.out 0).trans rfl,(y7 Ad.out 1).trans rfl,(y7 Ad.out 2).trans rfl,((HB.out.cell (World.block_lt_of_cell? w _ Ao)).trans Ao),((HB.out.cell (World.block_lt_of_cell? w _ Am)).trans Am),((HB.out.cell (World.block_lt_of_cell? w _ Al)).trans Al)⟩ (fun hHeld=>?_)
        clear hK K
        refine qx 15 ?_
        refine qp3 3 16 25 ?_
        refine qt 6 19 (fl_ 25 127) hHeld ?_
        refine qO 7 20 (fl_ 25 255) (fun K hK=>?_)
        refine goes_ Try.func42 (by kernel_rfl) rfl #[.int .i64 ((y15 Aa Ab).f1),.int .i64 0,.int .i64 5] (by rfl) rfl rfl qy1 ?_
        with_reducible refine(impl_in.calls ((y15 Aa Ab).f1) 0 5 true _ A9.out).mono ?_
        rintro e w' ⟨rfl,⟨nd,rfl⟩⟩
        refine⟨_,rfl, ?_⟩
        refine hK.out _ _ ⟨(y7 Ac.out 0).trans rfl,(y7 Ac.out 1).trans rfl,(y7 Ac.out 2).trans rfl,(y7 Ad.out 0).trans rfl,(y7 Ad.out 1).trans rfl,(y7 Ad.out 2).trans rfl,((HB.out.cell (World.block_lt_of_cell? w _ Ao)).trans Ao),((HB.out.cell (World.block_lt_of_cell? w _ Am)).trans Am),((HB.out.cell (World.block_lt_of_cell? w _ Al)).trans Al)⟩ (fun hHeld=>?_)
        clear hK K
        refine qx 20 ?_
        refine qp6 8 21 25 ?_
        refine qp 14 27 (fl_ 25 32767) ?_
        refine qp 16 29 (fl_ 25 98303) ?_
        refine qp 17 30 (fl_ 25 229375) ?_
        refine qt 15 28 (fl_ 25 262143) hHeld ?_
        refine qp 18 31 (fl_ 25 524287) ?_
        refine qt 19 32 (fl_ 25 1048575) hHeld ?_
        refine qt 20 33 (fl_ 25 2097151) hHeld ?_
        refine qO 21 34 (fl_ 25 4194303) (fun K hK=>?_)
        refine goes_ Try.func43 (by kernel_rfl) rfl #[.agg #[.int .i64 ((y15 Aa (Ap)).f0),.int .i64 ((y15 Aa (Ap)).f1),.bool ((y15 Aa (Ap)).f2)],.agg #[.int .i64 ((y15 Aa Ab).f0),.int .i64 ((y15 Aa Ab).f1),.bool ((y15 Aa Ab).f2)]] (by rfl) rfl rfl (by(try simp only [qM_,List.map_cons,List.map_nil]);first|done|(simp only [Ba];rfl)|rfl|(simp only [qD_,qT_];rfl)) ?_
        with_reducible refine(impl_compareArcs.calls k1 ((y15 Aa (Ap)).f0) ((y15 Aa (Ap)).f1) ((y15 Aa (Ap)).f2) ((y15 Aa Ab).f0) ((y15 Aa Ab).f1) ((y15 Aa Ab).f2) Bf _ Dp.out).mono ?_
        rintro e Eh ⟨rfl,hb⟩
        refine⟨_,rfl, ?_⟩
        replace Ad:=y0.mk (qK Ad.out hb)
        replace Ac:=y0.mk (qK Ac.out hb)
        replace HB:=y0.mk (y4 qb hb)
        (try clear hb)
        refine hK.out _ _ ⟨(y7 Ac.out 0).trans rfl,(y7 Ac.out 1).trans rfl,(y7 Ac.out 2).trans rfl,(y7 Ad.out 0).trans rfl,(y7 Ad.out 1).trans rfl,(y7 Ad.out 2).trans rfl,((HB.out.cell (World.block_lt_of_cell? w _ Ao)).trans Ao),((HB.out.cell (World.block_lt_of_cell? w _ Am)).trans Am),((HB.out.cell (World.block_lt_of_cell? w _ Al)).trans Al)⟩ (fun hHeld=>?_)
        clear hK K
        refine qx 34 ?_
        refine qp3 22 35 25 ?_
        refine done_ (done_of HT_.out (by kernel_rfl)) ?_
        try go_wp2
        go_ret
        exact⟨by first|rfl|(simp [errW_none,errW_some] <;> rfl)|(simp only [← Ba];first|rfl|(simp [errW_none,errW_some] <;> rfl))|(simp [*,errW_none,errW_some] <;> rfl),qb⟩
       ·rw [if_neg Bv]at H
        have Bz:decide (0≤Bf)=false:=decide_eq_false Bv
        clear Bv
        have H':=y0.mk H
        clear H
        refine qp 0 13 (fl_ 25 1) ?_
        refine qt 1 14 (fl_ 25 3) hHeld ?_
        refine qO 2 15 (fl_ 25 7) (fun K hK=>?_)
        refine goes_ Try.func42 (by kernel_rfl) rfl #[.int .i64 ((y15 Aa Ab).f0),.int .i64 0,.int .i64 5] (by rfl) rfl rfl qy1 ?_
        with_reducible refine(impl_in.calls ((y15 Aa Ab).f0) 0 5 true _ A7.out).mono ?_
        rintro e w' ⟨rfl,⟨nd,rfl⟩⟩
        refine⟨_,rfl, ?_⟩
        refine hK.out _ _ ⟨(y7 Ac.out 0).trans rfl,(y7 Ac.out 1).trans rfl,(y7 Ac.out 2).trans rfl,(y7 Ad.out 0).trans rfl,(y7 Ad.out 1).trans rfl,(y7 Ad.out 2).trans rfl,((HB.out.cell (World.block_lt_of_cell? w _ Ao)).trans Ao),((HB.out.cell (World.block_lt_of_cell? w _ Am)).trans Am),((HB.out.cell (World.block_lt_of_cell? w _ Al)).trans Al)⟩ (fun hHeld=>?_)
        clear hK K
        refine qx 15 ?_
        refine qp3 3 16 25 ?_
        refine qt 6 19 (fl_ 25 127) hHeld ?_
        refine qO 7 20 (fl_ 25 255) (fun K hK=>?_)
        refine goes_ Try.func42 (by kernel_rfl) rfl #[.int .i64 ((y15 Aa Ab).f1),.int .i64 0,.int .i64 5] (by rfl) rfl rfl qy1 ?_
        with_reducible refine(impl_in.calls ((y15 Aa Ab).f1) 0 5 true _ A9.out).mono ?_
        rintro e w' ⟨rfl,⟨nd,rfl⟩⟩
        refine⟨_,rfl, ?_⟩
        refine hK.out _ _ ⟨(y7 Ac.out 0).trans rfl,(y7 Ac.out 1).trans rfl,(y7 Ac.out 2).trans rfl,(y7 Ad.out 0).trans rfl,(y7 Ad.out 1).trans rfl,(y7 Ad.out 2).trans rfl,((HB.out.cell (World.block_lt_of_cell? w _ Ao)).trans Ao),((HB.out.cell (World.block_lt_of_cell? w _ Am)).trans Am),((HB.out.cell (World.block_lt_of_cell? w _ Al)).trans Al)⟩ (fun hHeld=>?_)
        clear hK K
        refine qx 20 ?_
        refine qp6 8 21 25 ?_
        refine qp 14 27 (fl_ 25 32767) ?_
        refine qp 16 29 (fl_ 25 98303) ?_
        refine qp 17 30 (fl_ 25 229375) ?_
        refine qt 15 28 (fl_ 25 262143) hHeld ?_
        refine qp 18 31 (fl_ 25 524287) ?_
        refine qt 19 32 (fl_ 25 1048575) hHeld ?_
        refine qt 20 33 (fl_ 25 2097151) hHeld ?_
        refine qO 21 34 (fl_ 25 4194303) (fun K hK=>?_)
        refine goes_ Try.func43 (by kernel_rfl) rfl #[.agg #[.int .i64 ((y15 Aa (Ap)).f0),.int .i64 ((y15 Aa (Ap)).f1),.bool ((y15 Aa (Ap)).f2)],.agg #[.int .i64 ((y15 Aa Ab).f0),.int .i64 ((y15 Aa Ab).f1),.bool ((y15 Aa Ab).f2)]] (by rfl) rfl rfl (by(try simp only [qM_,List.map_cons,List.map_nil]);first|done|(simp only [Ba];rfl)|rfl|(simp only [qD_,qT_];rfl)) ?_
        with_reducible refine(impl_compareArcs.calls k1 ((y15 Aa (Ap)).f0) ((y15 Aa (Ap)).f1) ((y15 Aa (Ap)).f2) ((y15 Aa Ab).f0) ((y15 Aa Ab).f1) ((y15 Aa Ab).f2) Bf _ Dp.out).mono ?_
        rintro e Ei ⟨rfl,hb⟩
        refine⟨_,rfl, ?_⟩
        replace Ad:=y0.mk (qK Ad.out hb)
        replace Ac:=y0.mk (qK Ac.out hb)
        replace HB:=y0.mk (y4 qb hb)
        (try clear hb)
        refine hK.out _ _ ⟨(y7 Ac.out 0).trans rfl,(y7 Ac.out 1).trans rfl,(y7 Ac.out 2).trans rfl,(y7 Ad.out 0).trans rfl,(y7 Ad.out 1).trans rfl,(y7 Ad.out 2).trans rfl,((HB.out.cell (World.block_lt_of_cell? w _ Ao)).trans Ao),((HB.out.cell (World.block_lt_of_cell? w _ Am)).trans Am),((HB.out.cell (World.block_lt_of_cell? w _ Al)).trans Al)⟩ (fun hHeld=>?_)
        clear hK K
        refine qx 34 ?_
        refine qp3 22 35 25 ?_
        refine done_ (done_of HT_.out (by kernel_rfl)) ?_
        try go_wp2
        go_roundg k1
        case measure=>have:=Ca.out;omega
        exact⟨(wrap64 (Ab + 1)),qy2,H',⟨by have:=Ca.out;omega⟩,⟨qk Ad.out⟩,⟨qb⟩⟩
      ·rw [if_neg Bu]at H
       have Bw:decide (0 < Ab)=false:=decide_eq_false Bu
       clear Bu
       have H':=y0.mk H
       clear H
       have As:0≤(Ab:Int):=of_decide_eq_true qy0
       have At:Ab < (Aa.length:Int):=of_decide_eq_true qy0
       obtain⟨Ar,Bg,Ai,Aj,Ak⟩:=at_T53 Be.out Ab As At
       cases Bg
       replace Ai:=(HB.out.cell (World.block_lt_of_cell? w _ Ai)).trans Ai
       replace Aj:=(HB.out.cell (World.block_lt_of_cell? w _ Aj)).trans Aj
       replace Ak:=(HB.out.cell (World.block_lt_of_cell? w _ Ak)).trans Ak
       replace As:=eq_true As
       replace At:=eq_true At
       try go_wp2_with (first|((with_reducible refine y12 (N:=4) rfl ?_);refine qe 4 #[.int .i64 0,.int .i64 0,.bool false] 53 ?_;intro Ae hg Cj hbox hb;have Ac:=y0.mk (hbox);have Bh:=y0.mk (qg (w:=w) hg);have Bi:=y0.mk (qg (w:=w) hg);replace HB:=y0.mk (y4 qb hb);have Af:=y0.mk (qn Ad.out hg);have Aq:=y0.mk (qm Ad.out hg);replace Ad:=y0.mk (qK Ad.out hb);clear hb hbox hg;have Ds:=Aq.out;have Dt:=Af.out;obtain⟨Ck,Cl,Cm,Cn,Co,Cp⟩:=qz3 Ac.out))
       have n0_:y0 ((((Cj.setCell ⟨Ae,0,none⟩ (.int .i64 ((y15 Aa Ab).f0))).setCell ⟨Ae,1,none⟩ (.int .i64 ((y15 Aa Ab).f1))).setCell ⟨Ae,2,none⟩ (.bool ((y15 Aa Ab).f2))).heap[Az]?=some (.cells #[.int .i64 Bb,.int .i64 Bc,.slice (some Ar) Aa.length Bd] 28 (0,0))):=⟨by(with_reducible repeat(first|refine y9 ?_ _|refine y8 ?_|refine y5 ?_ _));refine blk_far ?_ Af.out _;(with_reducible repeat(first|refine y9 ?_ _|refine y8 ?_|refine y5 ?_ _));refine blk_far ?_ Af.out _;(with_reducible repeat(first|refine y9 ?_ _|refine y8 ?_|refine y5 ?_ _));refine blk_far ?_ Af.out _;(with_reducible repeat(first|refine y9 ?_ _|refine y8 ?_|refine y5 ?_ _));exact Ad.out⟩
       have n1_:y0 ((((Cj.setCell ⟨Ae,0,none⟩ (.int .i64 ((y15 Aa Ab).f0))).setCell ⟨Ae,1,none⟩ (.int .i64 ((y15 Aa Ab).f1))).setCell ⟨Ae,2,none⟩ (.bool ((y15 Aa Ab).f2))).heap[Ae]?=some (.cells #[.int .i64 ((y15 Aa Ab).f0),.int .i64 ((y15 Aa Ab).f1),.bool ((y15 Aa Ab).f2)] 53 (0,0))):=⟨by(with_reducible repeat(first|refine y9 ?_ _|refine y8 ?_|refine y5 ?_ _));refine blk_put (cs:=#[.int .i64 ((y15 Aa Ab).f0),.int .i64 ((y15 Aa Ab).f1),.bool false]) ?_ 2 _ rfl;(with_reducible repeat(first|refine y9 ?_ _|refine y8 ?_|refine y5 ?_ _));refine blk_put (cs:=#[.int .i64 ((y15 Aa Ab).f0),.int .i64 0,.bool false]) ?_ 1 _ rfl;(with_reducible repeat(first|refine y9 ?_ _|refine y8 ?_|refine y5 ?_ _));refine blk_put (cs:=#[.int .i64 0,.int .i64 0,.bool false]) ?_ 0 _ rfl;(with_reducible repeat(first|refine y9 ?_ _|refine y8 ?_|refine y5 ?_ _));exact Ac.out⟩
       have n2_:y0 (Below w.heap.size w (((Cj.setCell ⟨Ae,0,none⟩ (.int .i64 ((y15 Aa Ab).f0))).setCell ⟨Ae,1,none⟩ (.int .i64 ((y15 Aa Ab).f1))).setCell ⟨Ae,2,none⟩ (.bool ((y15 Aa Ab).f2)))):=⟨qb⟩
       (try clear Ad)
       (try clear Ac)
       (try clear HB)
       generalize (((Cj.setCell ⟨Ae,0,none⟩ (.int .i64 ((y15 Aa Ab).f0))).setCell ⟨Ae,1,none⟩ (.int .i64 ((y15 Aa Ab).f1))).setCell ⟨Ae,2,none⟩ (.bool ((y15 Aa Ab).f2)))=Ed at n0_ n1_ n2_ ⊢
       have Ad:=n0_
       have Ac:=n1_
       have HB:=n2_
       clear n0_ n1_ n2_
       replace Ad:=y0.mk (y8 Ad.out)
       replace Ac:=y0.mk (y8 Ac.out)
       replace HB:=y0.mk (y2 HB.out)
       refine start_ (n:=25) (S:=fun w'=>w'.cell? ⟨Ae,0,none⟩=some (.int .i64 ((y15 Aa Ab).f0))∧w'.cell? ⟨Ae,1,none⟩=some (.int .i64 ((y15 Aa Ab).f1))∧w'.cell? ⟨Ae,2,none⟩=some (.bool ((y15 Aa Ab).f2))) (ds:=[]) (fl_ 25 0) (by kernel_rfl) rfl rfl ⟨(y7 Ac.out 0).trans rfl,(y7 Ac.out 1).trans rfl,(y7 Ac.out 2).trans rfl⟩ (fun hHeld=>?_);refine with_tabW impl_isGraph.tab4 impl_isGraph.bits4 (fun HT_ HW_=>?_)
       generalize Ed.drew=Ej at Ad Ac HB hHeld ⊢
       refine qp 0 13 (fl_ 25 1) ?_
       refine qt 1 14 (fl_ 25 3) hHeld ?_
       refine qO 2 15 (fl_ 25 7) (fun K hK=>?_)
       refine goes_ Try.func42 (by kernel_rfl) rfl #[.int .i64 ((y15 Aa Ab).f0),.int .i64 0,.int .i64 5] (by rfl) rfl rfl qy1 ?_
       with_reducible refine(impl_in.calls ((y15 Aa Ab).f0) 0 5 true _ A7.out).mono ?_
       rintro e w' ⟨rfl,⟨nd,rfl⟩⟩
       refine⟨_,rfl, ?_⟩
       refine hK.out _ _ ⟨(y7 Ac.out 0).trans rfl,(y7 Ac.out 1).trans rfl,(y7 Ac.out 2).trans rfl⟩ (fun hHeld=>?_)
       clear hK K
       refine qx 15 ?_
       refine qp3 3 16 25 ?_
       refine qt 6 19 (fl_ 25 127) hHeld ?_
       refine qO 7 20 (fl_ 25 255) (fun K hK=>?_)
       refine goes_ Try.func42 (by kernel_rfl) rfl #[.int .i64 ((y15 Aa Ab).f1),.int .i64 0,.int .i64 5] (by rfl) rfl rfl qy1 ?_
       with_reducible refine(impl_in.calls ((y15 Aa Ab).f1) 0 5 true _ A9.out).mono ?_
       rintro e w' ⟨rfl,⟨nd,rfl⟩⟩
       refine⟨_,rfl, ?_⟩
       refine hK.out _ _ ⟨(y7 Ac.out 0).trans rfl,(y7 Ac.out 1).trans rfl,(y7 Ac.out 2).trans rfl⟩ (fun hHeld=>?_)
       clear hK K
       refine qx 20 ?_
       refine qp10 8 21 25 ?_
       refine qp6 18 31 25 ?_
       refine qp 24 37 (fl_ 25 33554431) ?_
       refine done_ (done_of HT_.out (by kernel_rfl)) ?_
       try go_wp2
       go_roundg k1
       case measure=>have:=Ca.out;omega
       exact⟨(wrap64 (Ab + 1)),qy2,H',⟨by have:=Ca.out;omega⟩,⟨qk Ad.out⟩,⟨qb⟩⟩
     ·replace Cb:=Bool.eq_false_iff.mpr Cb
      subst Cb
      replace H:=qF H
      obtain rfl:=Option.some.inj H
      have As:0≤(Ab:Int):=of_decide_eq_true qy0
      have At:Ab < (Aa.length:Int):=of_decide_eq_true qy0
      obtain⟨Ar,Bg,Ai,Aj,Ak⟩:=at_T53 Be.out Ab As At
      cases Bg
      replace Ai:=(HB.out.cell (World.block_lt_of_cell? w _ Ai)).trans Ai
      replace Aj:=(HB.out.cell (World.block_lt_of_cell? w _ Aj)).trans Aj
      replace Ak:=(HB.out.cell (World.block_lt_of_cell? w _ Ak)).trans Ak
      replace As:=eq_true As
      replace At:=eq_true At
      try go_wp2_with (first|((with_reducible refine y12 (N:=4) rfl ?_);refine qe 4 #[.int .i64 0,.int .i64 0,.bool false] 53 ?_;intro Ae hg Cq hbox hb;have Ac:=y0.mk (hbox);have Bh:=y0.mk (qg (w:=w) hg);have Bi:=y0.mk (qg (w:=w) hg);replace HB:=y0.mk (y4 qb hb);have Af:=y0.mk (qn Ad.out hg);have Aq:=y0.mk (qm Ad.out hg);replace Ad:=y0.mk (qK Ad.out hb);clear hb hbox hg;have Du:=Aq.out;have Dv:=Af.out;obtain⟨Cr,Cs,Ct,Cu,Cv,Cw⟩:=qz3 Ac.out))
      have n0_:y0 ((((Cq.setCell ⟨Ae,0,none⟩ (.int .i64 ((y15 Aa Ab).f0))).setCell ⟨Ae,1,none⟩ (.int .i64 ((y15 Aa Ab).f1))).setCell ⟨Ae,2,none⟩ (.bool ((y15 Aa Ab).f2))).heap[Az]?=some (.cells #[.int .i64 Bb,.int .i64 Bc,.slice (some Ar) Aa.length Bd] 28 (0,0))):=⟨by(with_reducible repeat(first|refine y9 ?_ _|refine y8 ?_|refine y5 ?_ _));refine blk_far ?_ Af.out _;(with_reducible repeat(first|refine y9 ?_ _|refine y8 ?_|refine y5 ?_ _));refine blk_far ?_ Af.out _;(with_reducible repeat(first|refine y9 ?_ _|refine y8 ?_|refine y5 ?_ _));refine blk_far ?_ Af.out _;(with_reducible repeat(first|refine y9 ?_ _|refine y8 ?_|refine y5 ?_ _));exact Ad.out⟩
      have n1_:y0 ((((Cq.setCell ⟨Ae,0,none⟩ (.int .i64 ((y15 Aa Ab).f0))).setCell ⟨Ae,1,none⟩ (.int .i64 ((y15 Aa Ab).f1))).setCell ⟨Ae,2,none⟩ (.bool ((y15 Aa Ab).f2))).heap[Ae]?=some (.cells #[.int .i64 ((y15 Aa Ab).f0),.int .i64 ((y15 Aa Ab).f1),.bool ((y15 Aa Ab).f2)] 53 (0,0))):=⟨by(with_reducible repeat(first|refine y9 ?_ _|refine y8 ?_|refine y5 ?_ _));refine blk_put (cs:=#[.int .i64 ((y15 Aa Ab).f0),.int .i64 ((y15 Aa Ab).f1),.bool false]) ?_ 2 _ rfl;(with_reducible repeat(first|refine y9 ?_ _|refine y8 ?_|refine y5 ?_ _));refine blk_put (cs:=#[.int .i64 ((y15 Aa Ab).f0),.int .i64 0,.bool false]) ?_ 1 _ rfl;(with_reducible repeat(first|refine y9 ?_ _|refine y8 ?_|refine y5 ?_ _));refine blk_put (cs:=#[.int .i64 0,.int .i64 0,.bool false]) ?_ 0 _ rfl;(with_reducible repeat(first|refine y9 ?_ _|refine y8 ?_|refine y5 ?_ _));exact Ac.out⟩
      have n2_:y0 (Below w.heap.size w (((Cq.setCell ⟨Ae,0,none⟩ (.int .i64 ((y15 Aa Ab).f0))).setCell ⟨Ae,1,none⟩ (.int .i64 ((y15 Aa Ab).f1))).setCell ⟨Ae,2,none⟩ (.bool ((y15 Aa Ab).f2)))):=⟨qb⟩
      (try clear Ad)
      (try clear Ac)
      (try clear HB)
      generalize (((Cq.setCell ⟨Ae,0,none⟩ (.int .i64 ((y15 Aa Ab).f0))).setCell ⟨Ae,1,none⟩ (.int .i64 ((y15 Aa Ab).f1))).setCell ⟨Ae,2,none⟩ (.bool ((y15 Aa Ab).f2)))=Ee at n0_ n1_ n2_ ⊢
      have Ad:=n0_
      have Ac:=n1_
      have HB:=n2_
      clear n0_ n1_ n2_
      replace Ad:=y0.mk (y8 Ad.out)
      replace Ac:=y0.mk (y8 Ac.out)
      replace HB:=y0.mk (y2 HB.out)
      refine start_ (n:=25) (S:=fun w'=>w'.cell? ⟨Ae,0,none⟩=some (.int .i64 ((y15 Aa Ab).f0))∧w'.cell? ⟨Ae,1,none⟩=some (.int .i64 ((y15 Aa Ab).f1))∧w'.cell? ⟨Ae,2,none⟩=some (.bool ((y15 Aa Ab).f2))) (ds:=[]) (fl_ 25 0) (by kernel_rfl) rfl rfl ⟨(y7 Ac.out 0).trans rfl,(y7 Ac.out 1).trans rfl,(y7 Ac.out 2).trans rfl⟩ (fun hHeld=>?_);refine with_tabW impl_isGraph.tab4 impl_isGraph.bits4 (fun HT_ HW_=>?_)
      generalize Ee.drew=Ek at Ad Ac HB hHeld ⊢
      refine qp 0 13 (fl_ 25 1) ?_
      refine qt 1 14 (fl_ 25 3) hHeld ?_
      refine qO 2 15 (fl_ 25 7) (fun K hK=>?_)
      refine goes_ Try.func42 (by kernel_rfl) rfl #[.int .i64 ((y15 Aa Ab).f0),.int .i64 0,.int .i64 5] (by rfl) rfl rfl qy1 ?_
      with_reducible refine(impl_in.calls ((y15 Aa Ab).f0) 0 5 true _ A7.out).mono ?_
      rintro e w' ⟨rfl,⟨nd,rfl⟩⟩
      refine⟨_,rfl, ?_⟩
      refine hK.out _ _ ⟨(y7 Ac.out 0).trans rfl,(y7 Ac.out 1).trans rfl,(y7 Ac.out 2).trans rfl⟩ (fun hHeld=>?_)
      clear hK K
      refine qx 15 ?_
      refine qp3 3 16 25 ?_
      refine qt 6 19 (fl_ 25 127) hHeld ?_
      refine qO 7 20 (fl_ 25 255) (fun K hK=>?_)
      refine goes_ Try.func42 (by kernel_rfl) rfl #[.int .i64 ((y15 Aa Ab).f1),.int .i64 0,.int .i64 5] (by rfl) rfl rfl qy1 ?_
      with_reducible refine(impl_in.calls ((y15 Aa Ab).f1) 0 5 false _ A9.out).mono ?_
      rintro e w' ⟨rfl,⟨nd,rfl⟩⟩
      refine⟨_,rfl, ?_⟩
      refine hK.out _ _ ⟨(y7 Ac.out 0).trans rfl,(y7 Ac.out 1).trans rfl,(y7 Ac.out 2).trans rfl⟩ (fun hHeld=>?_)
      clear hK K
      refine qx 20 ?_
      refine qp10 8 21 25 ?_
      refine qp6 18 31 25 ?_
      refine qp 24 37 (fl_ 25 33554431) ?_
      refine done_ (done_of HT_.out (by kernel_rfl)) ?_
      try go_wp2
      go_ret
      exact⟨qf,qb⟩
    ·replace c8:=Bool.eq_false_iff.mpr c8
     subst c8
     replace H:=qF H
     obtain rfl:=Option.some.inj H
     have As:0≤(Ab:Int):=of_decide_eq_true qy0
     have At:Ab < (Aa.length:Int):=of_decide_eq_true qy0
     obtain⟨Ar,Bg,Ai,Aj,Ak⟩:=at_T53 Be.out Ab As At
     cases Bg
     replace Ai:=(HB.out.cell (World.block_lt_of_cell? w _ Ai)).trans Ai
     replace Aj:=(HB.out.cell (World.block_lt_of_cell? w _ Aj)).trans Aj
     replace Ak:=(HB.out.cell (World.block_lt_of_cell? w _ Ak)).trans Ak
     replace As:=eq_true As
     replace At:=eq_true At
     try go_wp2_with (first|((with_reducible refine y12 (N:=4) rfl ?_);refine qe 4 #[.int .i64 0,.int .i64 0,.bool false] 53 ?_;intro Ae hg Cx hbox hb;have Ac:=y0.mk (hbox);have Bh:=y0.mk (qg (w:=w) hg);have Bi:=y0.mk (qg (w:=w) hg);replace HB:=y0.mk (y4 qb hb);have Af:=y0.mk (qn Ad.out hg);have Aq:=y0.mk (qm Ad.out hg);replace Ad:=y0.mk (qK Ad.out hb);clear hb hbox hg;have Dw:=Aq.out;have Dx:=Af.out;obtain⟨Cy,Cz,Da,Db,Dc,Dd⟩:=qz3 Ac.out))
     have n0_:y0 ((((Cx.setCell ⟨Ae,0,none⟩ (.int .i64 ((y15 Aa Ab).f0))).setCell ⟨Ae,1,none⟩ (.int .i64 ((y15 Aa Ab).f1))).setCell ⟨Ae,2,none⟩ (.bool ((y15 Aa Ab).f2))).heap[Az]?=some (.cells #[.int .i64 Bb,.int .i64 Bc,.slice (some Ar) Aa.length Bd] 28 (0,0))):=⟨by(with_reducible repeat(first|refine y9 ?_ _|refine y8 ?_|refine y5 ?_ _));refine blk_far ?_ Af.out _;(with_reducible repeat(first|refine y9 ?_ _|refine y8 ?_|refine y5 ?_ _));refine blk_far ?_ Af.out _;(with_reducible repeat(first|refine y9 ?_ _|refine y8 ?_|refine y5 ?_ _));refine blk_far ?_ Af.out _;(with_reducible repeat(first|refine y9 ?_ _|refine y8 ?_|refine y5 ?_ _));exact Ad.out⟩
     have n1_:y0 ((((Cx.setCell ⟨Ae,0,none⟩ (.int .i64 ((y15 Aa Ab).f0))).setCell ⟨Ae,1,none⟩ (.int .i64 ((y15 Aa Ab).f1))).setCell ⟨Ae,2,none⟩ (.bool ((y15 Aa Ab).f2))).heap[Ae]?=some (.cells #[.int .i64 ((y15 Aa Ab).f0),.int .i64 ((y15 Aa Ab).f1),.bool ((y15 Aa Ab).f2)] 53 (0,0))):=⟨by(with_reducible repeat(first|refine y9 ?_ _|refine y8 ?_|refine y5 ?_ _));refine blk_put (cs:=#[.int .i64 ((y15 Aa Ab).f0),.int .i64 ((y15 Aa Ab).f1),.bool false]) ?_ 2 _ rfl;(with_reducible repeat(first|refine y9 ?_ _|refine y8 ?_|refine y5 ?_ _));refine blk_put (cs:=#[.int .i64 ((y15 Aa Ab).f0),.int .i64 0,.bool false]) ?_ 1 _ rfl;(with_reducible repeat(first|refine y9 ?_ _|refine y8 ?_|refine y5 ?_ _));refine blk_put (cs:=#[.int .i64 0,.int .i64 0,.bool false]) ?_ 0 _ rfl;(with_reducible repeat(first|refine y9 ?_ _|refine y8 ?_|refine y5 ?_ _));exact Ac.out⟩
     have n2_:y0 (Below w.heap.size w (((Cx.setCell ⟨Ae,0,none⟩ (.int .i64 ((y15 Aa Ab).f0))).setCell ⟨Ae,1,none⟩ (.int .i64 ((y15 Aa Ab).f1))).setCell ⟨Ae,2,none⟩ (.bool ((y15 Aa Ab).f2)))):=⟨qb⟩
     (try clear Ad)
     (try clear Ac)
     (try clear HB)
     generalize (((Cx.setCell ⟨Ae,0,none⟩ (.int .i64 ((y15 Aa Ab).f0))).setCell ⟨Ae,1,none⟩ (.int .i64 ((y15 Aa Ab).f1))).setCell ⟨Ae,2,none⟩ (.bool ((y15 Aa Ab).f2)))=Ef at n0_ n1_ n2_ ⊢
     have Ad:=n0_
     have Ac:=n1_
     have HB:=n2_
     clear n0_ n1_ n2_
     replace Ad:=y0.mk (y8 Ad.out)
     replace Ac:=y0.mk (y8 Ac.out)
     replace HB:=y0.mk (y2 HB.out)
     refine start_ (n:=25) (S:=fun w'=>w'.cell? ⟨Ae,0,none⟩=some (.int .i64 ((y15 Aa Ab).f0))∧w'.cell? ⟨Ae,1,none⟩=some (.int .i64 ((y15 Aa Ab).f1))∧w'.cell? ⟨Ae,2,none⟩=some (.bool ((y15 Aa Ab).f2))) (ds:=[]) (fl_ 25 0) (by kernel_rfl) rfl rfl ⟨(y7 Ac.out 0).trans rfl,(y7 Ac.out 1).trans rfl,(y7 Ac.out 2).trans rfl⟩ (fun hHeld=>?_);refine with_tabW impl_isGraph.tab4 impl_isGraph.bits4 (fun HT_ HW_=>?_)
     generalize Ef.drew=El at Ad Ac HB hHeld ⊢
     refine qp 0 13 (fl_ 25 1) ?_
     refine qt 1 14 (fl_ 25 3) hHeld ?_
     refine qO 2 15 (fl_ 25 7) (fun K hK=>?_)
     refine goes_ Try.func42 (by kernel_rfl) rfl #[.int .i64 ((y15 Aa Ab).f0),.int .i64 0,.int .i64 5] (by rfl) rfl rfl qy1 ?_
     with_reducible refine(impl_in.calls ((y15 Aa Ab).f0) 0 5 false _ A7.out).mono ?_
     rintro e w' ⟨rfl,⟨nd,rfl⟩⟩
     refine⟨_,rfl, ?_⟩
     refine hK.out _ _ ⟨(y7 Ac.out 0).trans rfl,(y7 Ac.out 1).trans rfl,(y7 Ac.out 2).trans rfl⟩ (fun hHeld=>?_)
     clear hK K
     refine qx 15 ?_
     refine qp10 3 16 25 ?_
     refine qp10 13 26 25 ?_
     refine qp2 23 36 25 ?_
     refine done_ (done_of HT_.out (by kernel_rfl)) ?_
     try go_wp2
     go_ret
     exact⟨qf,qb⟩
   ·rw [if_neg c4]at H
    have De:=decide_eq_false c4
    clear c4
    obtain rfl:=Option.some.inj H
    go_wp2
    go_ret
    exact⟨qf,qb⟩
end Go.Proofs.Ytcckpjflbfofjaa.Pd
