-- Cut by prune.py, a program of this session, out of the texts of this claim: Lean checks it.
import Derived.Test.YtkdabljlfbmpdaaGreatVbdPbx0
import Derived.Test.YtkdabljlfbmpdaaGreatVbdPbx14
import Derived.Test.YtkdabljlfbmpdaaGreatVbdPbx11
section
namespace Go.Proofs.YtkdabljlfbmpdaaGreat.Pb
open Go.RowKit Go.Proofs.YtkdabljlfbmpdaaGreatW.PrintWords Go.Proofs.YtkdabljlfbmpdaaGreatW.PrintLast Go.Proofs.YtkdabljlfbmpdaaGreatW.PrintMore
attribute [local go_sem] max2_int min2_int max_two min_two max_three min_three max_four min_four   -- for this text's walks alone
set_option linter.unusedVariables false
set_option linter.unusedSimpArgs false
def z3_.f (k:Nat) (l0_0:List (S48)) (a0_1:Int) (a0_2:ByteArray) (l0_3:List Int) (l0_4:List (S33)) (a1_0:Int) (a1_1:ByteArray) (l1_2:List Int):Option (ByteArray):=if a1_0=3 then(if 0 < (l1_2.length:Int)then((z0_.f k l0_0 a0_1 a0_2 l0_3 l0_4 (rd l1_2 0)).bind fun t409=>(if t409.size + 1≤9223372036854775807 then(if(t409 ++ (⟨#[32]⟩:ByteArray)).size + a1_1.size≤9223372036854775807 then(if((t409 ++ (⟨#[32]⟩:ByteArray)) ++ a1_1).size + 1≤9223372036854775807 then(if 1 < (l1_2.length:Int)then((z0_.f k l0_0 a0_1 a0_2 l0_3 l0_4 (rd l1_2 1)).bind fun t411=>(if(((t409 ++ (⟨#[32]⟩:ByteArray)) ++ a1_1) ++ (⟨#[32]⟩:ByteArray)).size + t411.size≤9223372036854775807 then(some ((((t409 ++ (⟨#[32]⟩:ByteArray)) ++ a1_1) ++ (⟨#[32]⟩:ByteArray)) ++ t411))else(none)))else(none))else(none))else(none))else(none)))else(none))else(if a1_0=2 then(if 1 + a1_1.size≤9223372036854775807 then(if((⟨#[33]⟩:ByteArray) ++ a1_1).size + 1≤9223372036854775807 then((z1_.f k l0_0 a0_1 a0_2 l0_3 l0_4 l1_2).bind fun t412=>(if(((⟨#[33]⟩:ByteArray) ++ a1_1) ++ (⟨#[40]⟩:ByteArray)).size + t412.size≤9223372036854775807 then(if((((⟨#[33]⟩:ByteArray) ++ a1_1) ++ (⟨#[40]⟩:ByteArray)) ++ t412).size + 1≤9223372036854775807 then(some (((((⟨#[33]⟩:ByteArray) ++ a1_1) ++ (⟨#[40]⟩:ByteArray)) ++ t412) ++ (⟨#[41]⟩:ByteArray)))else(none))else(none)))else(none))else(none))else(if a1_1.size + 1≤9223372036854775807 then((z1_.f k l0_0 a0_1 a0_2 l0_3 l0_4 l1_2).bind fun t413=>(if(a1_1 ++ (⟨#[40]⟩:ByteArray)).size + t413.size≤9223372036854775807 then(if((a1_1 ++ (⟨#[40]⟩:ByteArray)) ++ t413).size + 1≤9223372036854775807 then(some (((a1_1 ++ (⟨#[40]⟩:ByteArray)) ++ t413) ++ (⟨#[41]⟩:ByteArray)))else(none))else(none)))else(none)))
def z3_.T3:Bool×List (List Nat×List Nat):=(true,[([],[]),([],[]),([1],[1]),([2],[2]),([3],[3]),([0,4],[0,4]),([5],[5]),([],[]),([7],[7]),([6,8],[6,8]),([9],[9]),([],[]),([],[]),([12],[12]),([13],[13]),([14],[14]),([11,15,5],[11,15]),([10,16],[10,16]),([17,16,0,1,2,3,4,5,6,7,8,9,10,11,12,13,14,15,16,17],[17])])
def z3_.B3:List Nat:=[0,0,2,6,14,31,63,0,128,511,1023,0,0,4096,12288,28672,63551,131071,262143]
theorem z3_.tab3:rtab .any (opsOf Tryz.f56 3)=z3_.T3:=by kernel_rfl
theorem z3_.bits3:waitsOk z3_.T3.2 z3_.B3=true:=by kernel_rfl
def z3_.T5:Bool×List (List Nat×List Nat):=(true,[([],[]),([0],[0]),([1],[1]),([2],[2]),([],[]),([],[]),([5],[5]),([4,6],[4,6]),([3,7],[3,7]),([8],[8]),([9,7,0,1,2,3,4,5,6,7,8,9],[9])])
def z3_.B5:List Nat:=[0,1,3,7,0,0,32,112,255,511,1023]
theorem z3_.tab5:rtab .any (opsOf Tryz.f56 5)=z3_.T5:=by kernel_rfl
theorem z3_.bits5:waitsOk z3_.T5.2 z3_.B5=true:=by kernel_rfl
def z3_.T6:Bool×List (List Nat×List Nat):=(true,[([],[]),([0],[0]),([1],[1]),([],[]),([],[]),([4],[4]),([3,5],[3,5]),([2,6],[2,6]),([7],[7]),([8,6,0,1,2,3,4,5,6,7,8],[8])])
def z3_.B6:List Nat:=[0,1,3,0,0,16,56,127,255,511]
theorem z3_.tab6:rtab .any (opsOf Tryz.f56 6)=z3_.T6:=by kernel_rfl
theorem z3_.bits6:waitsOk z3_.T6.2 z3_.B6=true:=by kernel_rfl
set_option maxHeartbeats 8000000 in
set_option maxRecDepth 100000 in
theorem z3_.calls (k:Nat) (Ay:Option Addr) (Az:Nat) (Ai:List (S48)) (Am:Int) (Ap:ByteArray) (Ba:Option Addr) (Bb:Nat) (Aj:List Int) (Bc:Option Addr) (Bd:Nat) (Ak:List (S33)) (Ar:Int) (Ad:ByteArray) (Bg:Option Addr) (Be:Nat) (Ac:List Int) (r:ByteArray) (w:World) (Bs:Kd.C k48 w Ay Ai.length Ai) (Bt:Ai.length≤Az) (Bu:Kd.C (Kd.int .i64) w Ba Aj.length Aj) (Bv:Aj.length≤Bb) (Bw:Kd.C k33 w Bc Ak.length Ak) (Bx:Ak.length≤Bd) (Bz:Kd.C (Kd.int .i64) w Bg Ac.length Ac) (Ca:Ac.length≤Be) (h:z3_.f k Ai Am Ap Aj Ak Ar Ad Ac=some r) :
  Calls Tryz.prog 56 #[.agg #[.slice Ay Ai.length Az,.int .i64 Am,.string Ap,.slice Ba Aj.length Bb,.slice Bc Ak.length Bd],.agg #[.int .i64 Ar,.string Ad,.slice Bg Ac.length Be]] w fun e w'=>e=.returned (.string r)∧Below w.heap.size w w':=by
 have Fj:=Tryz.underlying36
 have Fk:=Tryz.underlying33
 have Bk:=y0.mk Bs
 have Bl:=y0.mk Bt
 clear Bs Bt
 have Bm:=y0.mk Bu
 have Bn:=y0.mk Bv
 clear Bu Bv
 have Bo:=y0.mk Bw
 have Bp:=y0.mk Bx
 clear Bw Bx
 have Bq:=y0.mk Bz
 have Cb:=y0.mk Ca
 clear Bz Ca
 have HB:=y0.mk (Below.refl w.heap.size w)
 have H:(if Ar=3 then(if 0 < (Ac.length:Int)then((z0_.f k Ai Am Ap Aj Ak (rd Ac 0)).bind fun Bf=>(if Bf.size + 1≤9223372036854775807 then(if(Bf ++ (⟨#[32]⟩:ByteArray)).size + Ad.size≤9223372036854775807 then(if((Bf ++ (⟨#[32]⟩:ByteArray)) ++ Ad).size + 1≤9223372036854775807 then(if 1 < (Ac.length:Int)then((z0_.f k Ai Am Ap Aj Ak (rd Ac 1)).bind fun Br=>(if(((Bf ++ (⟨#[32]⟩:ByteArray)) ++ Ad) ++ (⟨#[32]⟩:ByteArray)).size + Br.size≤9223372036854775807 then(some ((((Bf ++ (⟨#[32]⟩:ByteArray)) ++ Ad) ++ (⟨#[32]⟩:ByteArray)) ++ Br))else(none)))else(none))else(none))else(none))else(none)))else(none))else(if Ar=2 then(if 1 + Ad.size≤9223372036854775807 then(if((⟨#[33]⟩:ByteArray) ++ Ad).size + 1≤9223372036854775807 then((z1_.f k Ai Am Ap Aj Ak Ac).bind fun Bi=>(if(((⟨#[33]⟩:ByteArray) ++ Ad) ++ (⟨#[40]⟩:ByteArray)).size + Bi.size≤9223372036854775807 then(if((((⟨#[33]⟩:ByteArray) ++ Ad) ++ (⟨#[40]⟩:ByteArray)) ++ Bi).size + 1≤9223372036854775807 then(some (((((⟨#[33]⟩:ByteArray) ++ Ad) ++ (⟨#[40]⟩:ByteArray)) ++ Bi) ++ (⟨#[41]⟩:ByteArray)))else(none))else(none)))else(none))else(none))else(if Ad.size + 1≤9223372036854775807 then((z1_.f k Ai Am Ap Aj Ak Ac).bind fun Bj=>(if(Ad ++ (⟨#[40]⟩:ByteArray)).size + Bj.size≤9223372036854775807 then(if((Ad ++ (⟨#[40]⟩:ByteArray)) ++ Bj).size + 1≤9223372036854775807 then(some (((Ad ++ (⟨#[40]⟩:ByteArray)) ++ Bj) ++ (⟨#[41]⟩:ByteArray)))else(none))else(none)))else(none))))=some r:=h
 clear h
 by_cases c3:Ar=3
 ·rw [if_pos c3]at H
  have Dm:(Ar == 3)=true:=beq_iff_eq.mpr c3
  have Do:(Ar != 3)=false:=bne_eq_false_iff_eq.mpr c3
  clear c3
  obtain⟨c4,H⟩:=qo H
  have Fl:decide (0 < (Ac.length:Int))=true:=decide_eq_true c4
  have Fm:decide (0 < Ac.length)=true:=decide_eq_true (by omega)
  clear c4
  obtain⟨Bf,A5,H⟩:=qB H
  obtain⟨c6,H⟩:=qo H
  have Fn:=eq_true c6
  have Fo:=decide_eq_true c6
  have Fp:=eq_false (Nat.not_lt.2 c6)
  obtain⟨c7,H⟩:=qo H
  have Fq:=eq_true c7
  have Fr:=decide_eq_true c7
  have Dp:=eq_false (Nat.not_lt.2 c7)
  have Fs:(9223372036854775807 < Bf.size + 1 + Ad.size)=False:=qs Dp
  obtain⟨c8,H⟩:=qo H
  have Ft:=eq_true c8
  have Fu:=decide_eq_true c8
  have Dq:=eq_false (Nat.not_lt.2 c8)
  have Fv:(9223372036854775807 < Bf.size + 1 + Ad.size + 1)=False:=qs Dq
  obtain⟨c9,H⟩:=qo H
  have Fx:decide (1 < (Ac.length:Int))=true:=decide_eq_true c9
  have Fy:decide (1 < Ac.length)=true:=decide_eq_true (by omega)
  clear c9
  obtain⟨Br,Fz,H⟩:=qB H
  obtain⟨Dr,H⟩:=qo H
  have Ec:=eq_true Dr
  have Ed:=decide_eq_true Dr
  have Cl:=eq_false (Nat.not_lt.2 Dr)
  have Ee:(9223372036854775807 < Bf.size + 1 + Ad.size + 1 + Br.size)=False:=qs Cl
  obtain rfl:=Option.some.inj H
  go_enter Tryz.func56,Tryz.ntmps56
  try go_wp2_with (first|((with_reducible refine y16 (N:=2) rfl ?_);refine qe 2 #[.slice Ay Ai.length Az,.int .i64 Am,.string Ap,.slice Ba Aj.length Bb,.slice Bc Ak.length Bd] 36 ?_;intro Af hg Gf hbox hb;have Aa:=y0.mk (hbox);have Cc:=y0.mk (qg (w:=w) hg);have Cd:=y0.mk (qg (w:=w) hg);replace HB:=y0.mk (y5 qb hb);clear hb hbox hg)|((with_reducible refine y16 (N:=3) rfl ?_);refine qe 3 #[.int .i64 Ar,.string Ad,.slice Bg Ac.length Be] 33 ?_;intro Aw hg Ga hbox hb;have Ab:=y0.mk (hbox);have Ce:=y0.mk (qg (w:=w) hg);have Cf:=y0.mk (qg (w:=w) hg);replace HB:=y0.mk (y5 qb hb);have As:=y0.mk (qn Aa.out hg);have At:=y0.mk (qm Aa.out hg);replace Aa:=y0.mk (qK Aa.out hb);clear hb hbox hg;have Ef:=At.out;have Eg:=As.out;obtain⟨Cu,Cv,Cw,Cx,Cy,Cz⟩:=qz3 Ab.out))
  replace Aa:=y0.mk (y9 Aa.out)
  replace Ab:=y0.mk (y9 Ab.out)
  replace HB:=y0.mk (y2 HB.out)
  have Cg:0≤(0:Int):=(by omega)
  have Ch:0 < (Ac.length:Int):=of_decide_eq_true qy0
  obtain⟨Bh,Ds,Au⟩:=Kd.at_int Bq.out 0 Cg Ch
  have Ag:=Au
  (try rw [show((0:Int)).toNat=0 from rfl]at Ag)
  (try rw [show 0 * 1=0 from rfl]at Ag)
  (try rw [Addr.add_zero']at Ag)
  cases Ds
  have Eh:(0 < Ac.length)=True:=eq_true (by omega)
  (try rw [show((0:Int)).toNat=0 from rfl]at Au)
  (try rw [Addr.add_zero']at Au)
  replace Au:=(HB.out.cell (World.block_lt_of_cell? w _ Au)).trans Au
  replace Cg:=eq_true Cg
  replace Ch:=eq_true Ch
  have Ci:0≤(1:Int):=(by omega)
  have Cj:1 < (Ac.length:Int):=of_decide_eq_true qy0
  obtain⟨Cm,Dt,Av⟩:=Kd.at_int Bq.out 1 Ci Cj
  have Ah:=Av
  (try rw [show((1:Int)).toNat=1 from rfl]at Ah)
  (try rw [show 1 * 1=1 from rfl]at Ah)
  (try simp only [Nat.reduceMul,Nat.reduceEqDiff,Go.Addr.add,↓reduceIte]at Ah)
  obtain rfl:Bh=Cm:=(by injection Dt)
  (try simp only [show(1:Int).toNat=1 from rfl,Nat.reduceMul,Nat.reduceEqDiff,Go.Addr.add,↓reduceIte]at Av)
  have Ei:(1 < Ac.length)=True:=eq_true (by omega)
  (try rw [show((1:Int)).toNat=1 from rfl]at Av)
  replace Av:=(HB.out.cell (World.block_lt_of_cell? w _ Av)).trans Av
  replace Ci:=eq_true Ci
  replace Cj:=eq_true Cj
  refine start_ (n:=19) (S:=fun w'=>w'.cell? ⟨Af,0,none⟩=some (.slice Ay Ai.length Az)∧w'.cell? ⟨Af,1,none⟩=some (.int .i64 Am)∧w'.cell? ⟨Af,2,none⟩=some (.string Ap)∧w'.cell? ⟨Af,3,none⟩=some (.slice Ba Aj.length Bb)∧w'.cell? ⟨Af,4,none⟩=some (.slice Bc Ak.length Bd)∧w'.cell? ⟨Aw,0,none⟩=some (.int .i64 Ar)∧w'.cell? ⟨Aw,1,none⟩=some (.string Ad)∧w'.cell? ⟨Aw,2,none⟩=some (.slice (some Bh) Ac.length Be)∧w'.cell? Bh=some (.int .i64 (rd Ac 0))∧w'.cell? ⟨Bh.block,Bh.off + 1,none⟩=some (.int .i64 (rd Ac 1))) (ds:=[]) (fl_ 19 0) (by kernel_rfl) rfl rfl ⟨(y8 Aa.out 0).trans rfl,(y8 Aa.out 1).trans rfl,(y8 Aa.out 2).trans rfl,(y8 Aa.out 3).trans rfl,(y8 Aa.out 4).trans rfl,(y8 Ab.out 0).trans rfl,(y8 Ab.out 1).trans rfl,(y8 Ab.out 2).trans rfl,((HB.out.cell (World.block_lt_of_cell? w _ Ag)).trans Ag),((HB.out.cell (World.block_lt_of_cell? w _ Ah)).trans Ah)⟩ (fun hHeld=>?_);refine with_tabW z3_.tab3 z3_.bits3 (fun HT_ HW_=>?_)
  generalize Ga.drew=Gg at Aa Ab HB Au Av hHeld ⊢
  refine qp 1 10 (fl_ 19 2) ?_
  refine qp 7 16 (fl_ 19 130) ?_
  refine qp 12 21 (fl_ 19 4226) ?_
  refine qt 0 9 (fl_ 19 4227) hHeld ?_
  refine qt 2 11 (fl_ 19 4231) hHeld ?_
  refine qp 3 12 (fl_ 19 4239) ?_
  refine qt 4 13 (fl_ 19 4255) hHeld ?_
  refine qt 8 17 (fl_ 19 4511) hHeld ?_
  refine qt 11 20 (fl_ 19 6559) hHeld ?_
  refine qt 13 22 (fl_ 19 14751) hHeld ?_
  refine qp 14 23 (fl_ 19 31135) ?_
  refine qt 15 24 (fl_ 19 63903) hHeld ?_
  refine qO 5 14 (fl_ 19 63935) (fun K hK=>?_)
  refine goes_ Tryz.func70 (by kernel_rfl) rfl #[.agg #[.slice Ay Ai.length Az,.int .i64 Am,.string Ap,.slice Ba Aj.length Bb,.slice Bc Ak.length Bd],.int .i64 (rd Ac 0)] (by rfl) rfl rfl qy1 ?_
  with_reducible refine(z0_.calls k _ _ Ai Am Ap _ _ Aj _ _ Ak (rd Ac 0) Bf _ (qc (Kd.C_below Bk.out HB.out)) Bl.out (qc (Kd.C_below Bm.out HB.out)) Bn.out (qc (Kd.C_below Bo.out HB.out)) Bp.out A5.out).mono ?_
  rintro e Gh ⟨rfl,hb⟩
  refine⟨_,rfl, ?_⟩
  replace Aa:=y0.mk (qK Aa.out hb)
  replace Ab:=y0.mk (qK Ab.out hb)
  replace HB:=y0.mk (y5 qb hb)
  (try clear hb)
  refine hK.out _ _ ⟨(y8 Aa.out 0).trans rfl,(y8 Aa.out 1).trans rfl,(y8 Aa.out 2).trans rfl,(y8 Aa.out 3).trans rfl,(y8 Aa.out 4).trans rfl,(y8 Ab.out 0).trans rfl,(y8 Ab.out 1).trans rfl,(y8 Ab.out 2).trans rfl,((HB.out.cell (World.block_lt_of_cell? w _ Ag)).trans Ag),((HB.out.cell (World.block_lt_of_cell? w _ Ah)).trans Ah)⟩ (fun hHeld=>?_)
  clear hK K
  refine qx 14 ?_
  refine qp 6 15 (fl_ 19 63999) ?_
  refine qp 9 18 (fl_ 19 64511) ?_
  refine qp 10 19 (fl_ 19 65535) ?_
  refine qO 16 25 (fl_ 19 131071) (fun K hK=>?_)
  refine goes_ Tryz.func70 (by kernel_rfl) rfl #[.agg #[.slice Ay Ai.length Az,.int .i64 Am,.string Ap,.slice Ba Aj.length Bb,.slice Bc Ak.length Bd],.int .i64 (rd Ac 1)] (by rfl) rfl rfl qy1 ?_
  with_reducible refine(z0_.calls k _ _ Ai Am Ap _ _ Aj _ _ Ak (rd Ac 1) Br _ (qc (Kd.C_below Bk.out HB.out)) Bl.out (qc (Kd.C_below Bm.out HB.out)) Bn.out (qc (Kd.C_below Bo.out HB.out)) Bp.out Fz.out).mono ?_
  rintro e Gi ⟨rfl,hb⟩
  refine⟨_,rfl, ?_⟩
  replace Aa:=y0.mk (qK Aa.out hb)
  replace Ab:=y0.mk (qK Ab.out hb)
  replace HB:=y0.mk (y5 qb hb)
  (try clear hb)
  refine hK.out _ _ ⟨(y8 Aa.out 0).trans rfl,(y8 Aa.out 1).trans rfl,(y8 Aa.out 2).trans rfl,(y8 Aa.out 3).trans rfl,(y8 Aa.out 4).trans rfl,(y8 Ab.out 0).trans rfl,(y8 Ab.out 1).trans rfl,(y8 Ab.out 2).trans rfl,((HB.out.cell (World.block_lt_of_cell? w _ Ag)).trans Ag),((HB.out.cell (World.block_lt_of_cell? w _ Ah)).trans Ah)⟩ (fun hHeld=>?_)
  clear hK K
  refine qx 25 ?_
  refine qp 17 26 (fl_ 19 262143) ?_
  refine qp 18 4 (fl_ 19 524287) ?_
  refine done_ (done_of HT_.out (by kernel_rfl)) ?_
  try go_wp2
  go_ret
  exact⟨qf,qb⟩
 ·rw [if_neg c3]at H
  have Dm:(Ar == 3)=false:=beq_eq_false_iff_ne.mpr c3
  have Do:(Ar != 3)=true:=bne_iff_ne.mpr c3
  by_cases Ck:Ar=2
  ·rw [if_pos Ck]at H
   have Cn:(Ar == 2)=true:=beq_iff_eq.mpr Ck
   have Co:(Ar != 2)=false:=bne_eq_false_iff_eq.mpr Ck
   clear Ck
   obtain⟨Du,H⟩:=qo H
   have Ej:=eq_true Du
   have Ek:=decide_eq_true Du
   have El:=eq_false (Nat.not_lt.2 Du)
   obtain⟨Dw,H⟩:=qo H
   have Em:=eq_true Dw
   have En:=decide_eq_true Dw
   have Cp:=eq_false (Nat.not_lt.2 Dw)
   have Eo:(9223372036854775807 < 1 + Ad.size + 1)=False:=qs Cp
   obtain⟨Bi,Gb,H⟩:=qB H
   obtain⟨Dx,H⟩:=qo H
   have Ep:=eq_true Dx
   have Eq:=decide_eq_true Dx
   have Cq:=eq_false (Nat.not_lt.2 Dx)
   have Er:(9223372036854775807 < 1 + Ad.size + 1 + Bi.size)=False:=qs Cq
   obtain⟨Dy,H⟩:=qo H
   have Es:=eq_true Dy
   have Et:=decide_eq_true Dy
   have Cr:=eq_false (Nat.not_lt.2 Dy)
   have Eu:(9223372036854775807 < 1 + Ad.size + 1 + Bi.size + 1)=False:=qs Cr
   obtain rfl:=Option.some.inj H
   go_enter Tryz.func56,Tryz.ntmps56
   try go_wp2_with (first|((with_reducible refine y16 (N:=2) rfl ?_);refine qe 2 #[.slice Ay Ai.length Az,.int .i64 Am,.string Ap,.slice Ba Aj.length Bb,.slice Bc Ak.length Bd] 36 ?_;intro Af hg Gj hbox hb;have Aa:=y0.mk (hbox);have Cc:=y0.mk (qg (w:=w) hg);have Cd:=y0.mk (qg (w:=w) hg);replace HB:=y0.mk (y5 qb hb);clear hb hbox hg)|((with_reducible refine y16 (N:=3) rfl ?_);refine qe 3 #[.int .i64 Ar,.string Ad,.slice Bg Ac.length Be] 33 ?_;intro Aw hg Gc hbox hb;have Ab:=y0.mk (hbox);have Ce:=y0.mk (qg (w:=w) hg);have Cf:=y0.mk (qg (w:=w) hg);replace HB:=y0.mk (y5 qb hb);have As:=y0.mk (qn Aa.out hg);have At:=y0.mk (qm Aa.out hg);replace Aa:=y0.mk (qK Aa.out hb);clear hb hbox hg;have Ew:=At.out;have Ex:=As.out;obtain⟨Da,Db,Dc,Dd,De,Df⟩:=qz3 Ab.out))
   replace Aa:=y0.mk (y9 Aa.out)
   replace Ab:=y0.mk (y9 Ab.out)
   replace HB:=y0.mk (y2 HB.out)
   refine start_ (n:=11) (S:=fun w'=>w'.cell? ⟨Aw,0,none⟩=some (.int .i64 Ar)∧w'.cell? ⟨Aw,1,none⟩=some (.string Ad)∧w'.cell? ⟨Aw,2,none⟩=some (.slice Bg Ac.length Be)∧w'.cell? ⟨Af,0,none⟩=some (.slice Ay Ai.length Az)∧w'.cell? ⟨Af,1,none⟩=some (.int .i64 Am)∧w'.cell? ⟨Af,2,none⟩=some (.string Ap)∧w'.cell? ⟨Af,3,none⟩=some (.slice Ba Aj.length Bb)∧w'.cell? ⟨Af,4,none⟩=some (.slice Bc Ak.length Bd)) (ds:=[]) (fl_ 11 0) (by kernel_rfl) rfl rfl ⟨(y8 Ab.out 0).trans rfl,(y8 Ab.out 1).trans rfl,(y8 Ab.out 2).trans rfl,(y8 Aa.out 0).trans rfl,(y8 Aa.out 1).trans rfl,(y8 Aa.out 2).trans rfl,(y8 Aa.out 3).trans rfl,(y8 Aa.out 4).trans rfl⟩ (fun hHeld=>?_);refine with_tabW z3_.tab5 z3_.bits5 (fun HT_ HW_=>?_)
   generalize Gc.drew=Gk at Aa Ab HB hHeld ⊢
   refine qp 0 29 (fl_ 11 1) ?_
   refine qp 5 34 (fl_ 11 33) ?_
   refine qt 1 30 (fl_ 11 35) hHeld ?_
   refine qp 2 31 (fl_ 11 39) ?_
   refine qp 3 32 (fl_ 11 47) ?_
   refine qt 4 33 (fl_ 11 63) hHeld ?_
   refine qt 6 35 (fl_ 11 127) hHeld ?_
   refine qO 7 36 (fl_ 11 255) (fun K hK=>?_)
   refine goes_ Tryz.func71 (by kernel_rfl) rfl #[.agg #[.slice Ay Ai.length Az,.int .i64 Am,.string Ap,.slice Ba Aj.length Bb,.slice Bc Ak.length Bd],.slice Bg Ac.length Be] (by rfl) rfl rfl qy1 ?_
   with_reducible refine(z1_.calls k _ _ Ai Am Ap _ _ Aj _ _ Ak _ _ Ac Bi _ (qc (Kd.C_below Bk.out HB.out)) Bl.out (qc (Kd.C_below Bm.out HB.out)) Bn.out (qc (Kd.C_below Bo.out HB.out)) Bp.out (qc (Kd.C_below Bq.out HB.out)) Cb.out Gb.out).mono ?_
   rintro e Gl ⟨rfl,hb⟩
   refine⟨_,rfl, ?_⟩
   replace Aa:=y0.mk (qK Aa.out hb)
   replace Ab:=y0.mk (qK Ab.out hb)
   replace HB:=y0.mk (y5 qb hb)
   (try clear hb)
   refine hK.out _ _ ⟨(y8 Ab.out 0).trans rfl,(y8 Ab.out 1).trans rfl,(y8 Ab.out 2).trans rfl,(y8 Aa.out 0).trans rfl,(y8 Aa.out 1).trans rfl,(y8 Aa.out 2).trans rfl,(y8 Aa.out 3).trans rfl,(y8 Aa.out 4).trans rfl⟩ (fun hHeld=>?_)
   clear hK K
   refine qx 36 ?_
   refine qp2 8 37 11 ?_
   refine qp 10 4 (fl_ 11 2047) ?_
   refine done_ (done_of HT_.out (by kernel_rfl)) ?_
   try go_wp2
   go_ret
   exact⟨qf,qb⟩
  ·rw [if_neg Ck]at H
   have Cn:(Ar == 2)=false:=beq_eq_false_iff_ne.mpr Ck
   have Co:(Ar != 2)=true:=bne_iff_ne.mpr Ck
   obtain⟨Dz,H⟩:=qo H
   have Ey:=eq_true Dz
   have Ez:=decide_eq_true Dz
   have Fa:=eq_false (Nat.not_lt.2 Dz)
   obtain⟨Bj,Gd,H⟩:=qB H
   obtain⟨Ea,H⟩:=qo H
   have Fb:=eq_true Ea
   have Fc:=decide_eq_true Ea
   have Cs:=eq_false (Nat.not_lt.2 Ea)
   have Fd:(9223372036854775807 < Ad.size + 1 + Bj.size)=False:=qs Cs
   obtain⟨Eb,H⟩:=qo H
   have Fe:=eq_true Eb
   have Ff:=decide_eq_true Eb
   have Ct:=eq_false (Nat.not_lt.2 Eb)
   have Fg:(9223372036854775807 < Ad.size + 1 + Bj.size + 1)=False:=qs Ct
   obtain rfl:=Option.some.inj H
   go_enter Tryz.func56,Tryz.ntmps56
   try go_wp2_with (first|((with_reducible refine y16 (N:=2) rfl ?_);refine qe 2 #[.slice Ay Ai.length Az,.int .i64 Am,.string Ap,.slice Ba Aj.length Bb,.slice Bc Ak.length Bd] 36 ?_;intro Af hg Gm hbox hb;have Aa:=y0.mk (hbox);have Cc:=y0.mk (qg (w:=w) hg);have Cd:=y0.mk (qg (w:=w) hg);replace HB:=y0.mk (y5 qb hb);clear hb hbox hg)|((with_reducible refine y16 (N:=3) rfl ?_);refine qe 3 #[.int .i64 Ar,.string Ad,.slice Bg Ac.length Be] 33 ?_;intro Aw hg Ge hbox hb;have Ab:=y0.mk (hbox);have Ce:=y0.mk (qg (w:=w) hg);have Cf:=y0.mk (qg (w:=w) hg);replace HB:=y0.mk (y5 qb hb);have As:=y0.mk (qn Aa.out hg);have At:=y0.mk (qm Aa.out hg);replace Aa:=y0.mk (qK Aa.out hb);clear hb hbox hg;have Fh:=At.out;have Fi:=As.out;obtain⟨Dg,Dh,Di,Dj,Dk,Dl⟩:=qz3 Ab.out))
   replace Aa:=y0.mk (y9 Aa.out)
   replace Ab:=y0.mk (y9 Ab.out)
   replace HB:=y0.mk (y2 HB.out)
   refine start_ (n:=10) (S:=fun w'=>w'.cell? ⟨Aw,0,none⟩=some (.int .i64 Ar)∧w'.cell? ⟨Aw,1,none⟩=some (.string Ad)∧w'.cell? ⟨Aw,2,none⟩=some (.slice Bg Ac.length Be)∧w'.cell? ⟨Af,0,none⟩=some (.slice Ay Ai.length Az)∧w'.cell? ⟨Af,1,none⟩=some (.int .i64 Am)∧w'.cell? ⟨Af,2,none⟩=some (.string Ap)∧w'.cell? ⟨Af,3,none⟩=some (.slice Ba Aj.length Bb)∧w'.cell? ⟨Af,4,none⟩=some (.slice Bc Ak.length Bd)) (ds:=[]) (fl_ 10 0) (by kernel_rfl) rfl rfl ⟨(y8 Ab.out 0).trans rfl,(y8 Ab.out 1).trans rfl,(y8 Ab.out 2).trans rfl,(y8 Aa.out 0).trans rfl,(y8 Aa.out 1).trans rfl,(y8 Aa.out 2).trans rfl,(y8 Aa.out 3).trans rfl,(y8 Aa.out 4).trans rfl⟩ (fun hHeld=>?_);refine with_tabW z3_.tab6 z3_.bits6 (fun HT_ HW_=>?_)
   generalize Ge.drew=Gn at Aa Ab HB hHeld ⊢
   refine qp 0 39 (fl_ 10 1) ?_
   refine qp 4 43 (fl_ 10 17) ?_
   refine qt 1 40 (fl_ 10 19) hHeld ?_
   refine qp 2 41 (fl_ 10 23) ?_
   refine qt 3 42 (fl_ 10 31) hHeld ?_
   refine qt 5 44 (fl_ 10 63) hHeld ?_
   refine qO 6 45 (fl_ 10 127) (fun K hK=>?_)
   refine goes_ Tryz.func71 (by kernel_rfl) rfl #[.agg #[.slice Ay Ai.length Az,.int .i64 Am,.string Ap,.slice Ba Aj.length Bb,.slice Bc Ak.length Bd],.slice Bg Ac.length Be] (by rfl) rfl rfl qy1 ?_
   with_reducible refine(z1_.calls k _ _ Ai Am Ap _ _ Aj _ _ Ak _ _ Ac Bj _ (qc (Kd.C_below Bk.out HB.out)) Bl.out (qc (Kd.C_below Bm.out HB.out)) Bn.out (qc (Kd.C_below Bo.out HB.out)) Bp.out (qc (Kd.C_below Bq.out HB.out)) Cb.out Gd.out).mono ?_
   rintro e Gp ⟨rfl,hb⟩
   refine⟨_,rfl, ?_⟩
   replace Aa:=y0.mk (qK Aa.out hb)
   replace Ab:=y0.mk (qK Ab.out hb)
   replace HB:=y0.mk (y5 qb hb)
   (try clear hb)
   refine hK.out _ _ ⟨(y8 Ab.out 0).trans rfl,(y8 Ab.out 1).trans rfl,(y8 Ab.out 2).trans rfl,(y8 Aa.out 0).trans rfl,(y8 Aa.out 1).trans rfl,(y8 Aa.out 2).trans rfl,(y8 Aa.out 3).trans rfl,(y8 Aa.out 4).trans rfl⟩ (fun hHeld=>?_)
   clear hK K
   refine qx 45 ?_
   refine qp2 7 46 10 ?_
   refine qp 9 4 (fl_ 10 1023) ?_
   refine done_ (done_of HT_.out (by kernel_rfl)) ?_
   try go_wp2
   go_ret
   exact⟨qf,qb⟩
end Go.Proofs.YtkdabljlfbmpdaaGreat.Pb
end
section
namespace Go.Proofs.YtkdabljlfbmpdaaGreat.Pb
open Go.RowKit Go.Proofs.YtkdabljlfbmpdaaGreatW.PrintWords Go.Proofs.YtkdabljlfbmpdaaGreatW.PrintLast Go.Proofs.YtkdabljlfbmpdaaGreatW.PrintMore
attribute [local go_sem] max2_int min2_int max_two min_two max_three min_three max_four min_four   -- for this text's walks alone
set_option linter.unusedVariables false
set_option linter.unusedSimpArgs false
def impl_ruleText.l0:Nat→ByteArray→List ByteArray→List (S33)→Int→Int→List (S48)→Int→ByteArray→List Int→List (S33)→Option (ByteArray)
 | 0,_,_,_,_,_,_,_,_,_,_=>none
 | k + 1,x3,x4,x16,x17,x18,x415000,x415001,x415002,x415003,x415004=>if x18 < x17 then(if 0≤x18 then(if x18 < (x16.length:Int)then((z3_.f k x415000 x415001 x415002 x415003 x415004 ((y19 x16 x18).f0) ((y19 x16 x18).f1) ((y19 x16 x18).f2)).bind fun t422=>(if x4.length < 8796093022208 then(impl_ruleText.l0 k x3 (x4 ++ [t422]) x16 x17 (wrap64 (x18 + 1)) x415000 x415001 x415002 x415003 x415004)else(none)))else(none))else(none))else(if(x4.length:Int) > 0 then((strings_Join.f x4 (⟨#[44,32]⟩:ByteArray)).bind fun t426=>(if 4 + t426.size≤9223372036854775807 then(if x3.size + ((⟨#[32,58,45,32]⟩:ByteArray) ++ t426).size≤9223372036854775807 then(if(x3 ++ ((⟨#[32,58,45,32]⟩:ByteArray) ++ t426)).size + 1≤9223372036854775807 then(if(((x3 ++ ((⟨#[32,58,45,32]⟩:ByteArray) ++ t426)) ++ (⟨#[46]⟩:ByteArray)).size:Int) > 3000 then(some (⟨#[]⟩:ByteArray))else(some ((x3 ++ ((⟨#[32,58,45,32]⟩:ByteArray) ++ t426)) ++ (⟨#[46]⟩:ByteArray))))else(none))else(none))else(none)))else(if x3.size + 1≤9223372036854775807 then(if((x3 ++ (⟨#[46]⟩:ByteArray)).size:Int) > 3000 then(some (⟨#[]⟩:ByteArray))else(some (x3 ++ (⟨#[46]⟩:ByteArray))))else(none)))
def impl_ruleText.f (k:Nat) (l0_0:List (S48)) (a0_1:Int) (a0_2:ByteArray) (l0_3:List Int) (l0_4:List (S33)):Option (ByteArray):=(z4_.f k l0_0 a0_1 a0_2 l0_3 l0_4).bind fun t415=>(if t415=true then((z3_.f k l0_0 a0_1 a0_2 l0_3 l0_4 a0_1 a0_2 l0_3).bind fun t416=>(impl_ruleText.l0 k t416 (([]:List ByteArray)) l0_4 (l0_4.length:Int) 0 l0_0 a0_1 a0_2 l0_3 l0_4))else(some (⟨#[]⟩:ByteArray)))
set_option maxHeartbeats 8000000 in
set_option maxRecDepth 100000 in
theorem impl_ruleText.calls (k:Nat) (Au:Option Addr) (Av:Nat) (Ag:List (S48)) (Ah:Int) (Ai:ByteArray) (Ar:Option Addr) (As:Nat) (Af:List Int) (Bb:Option Addr) (Aw:Nat) (Aa:List (S33)) (r:ByteArray) (w:World) (Ch:Kd.C k48 w Au Ag.length Ag) (Ci:Ag.length≤Av) (Cj:Kd.C (Kd.int .i64) w Ar Af.length Af) (Ck:Af.length≤As) (Cl:Kd.C k33 w Bb Aa.length Aa) (Cm:Aa.length≤Aw) (h:impl_ruleText.f k Ag Ah Ai Af Aa=some r) :
  Calls Tryz.prog 42 #[.agg #[.slice Au Ag.length Av,.int .i64 Ah,.string Ai,.slice Ar Af.length As,.slice Bb Aa.length Aw]] w fun e w'=>e=.returned (.string r)∧Below w.heap.size w w':=by
 have Ha:=Tryz.underlying36
 have Hb:=Tryz.underlying33
 have Bj:=y0.mk Ch
 have Bk:=y0.mk Ci
 clear Ch Ci
 have Bc:=y0.mk Cj
 have Bd:=y0.mk Ck
 clear Cj Ck
 have Be:=y0.mk Cl
 have Bl:=y0.mk Cm
 clear Cl Cm
 have HB:=y0.mk (Below.refl w.heap.size w)
 have H:((z4_.f k Ag Ah Ai Af Aa).bind fun Cs=>(if Cs=true then((z3_.f k Ag Ah Ai Af Aa Ah Ai Af).bind fun Ad=>(impl_ruleText.l0 k Ad (([]:List ByteArray)) Aa (Aa.length:Int) 0 Ag Ah Ai Af Aa))else(some (⟨#[]⟩:ByteArray))))=some r:=h
 clear h
 obtain⟨Cs,A2,H⟩:=qB H
 by_cases c3:Cs=true
 ·subst c3
  replace H:=qT H
  obtain⟨Ad,A4,H⟩:=qB H
  obtain⟨Ds,Bf⟩:∃ y_:List ByteArray,y_=(([]:List ByteArray)):=⟨_,rfl⟩
  replace H:(impl_ruleText.l0 k Ad Ds Aa (Aa.length:Int) 0 Ag Ah Ai Af Aa)=some r:=by first|(rw [Bf];with_reducible exact H)|(have H2_:=(Option.bind_some _ _).symm.trans H;rw [Bf];with_reducible exact H2_)|(have H2_:=(Option.bind_some _ _).symm.trans H;with_reducible exact H2_)|with_reducible exact H|(rw [Bf];exact H)|exact H
  have Cn:=y0.mk Bf
  clear Bf
  have H':=y0.mk H
  clear H
  go_enter Tryz.func42,Tryz.ntmps42
  go_wp2_with (first|((with_reducible refine y16 (N:=1) rfl ?_);refine qe 1 #[.slice Au Ag.length Av,.int .i64 Ah,.string Ai,.slice Ar Af.length As,.slice Bb Aa.length Aw] 36 ?_;intro Bq hg w5 hbox hb;have Ab:=y0.mk (hbox);have Dt:=y0.mk (qg (w:=w) hg);have Du:=y0.mk (qg (w:=w) hg);replace HB:=y0.mk (y5 qb hb);clear hb hbox hg;obtain⟨Ct,Cu,Cv,Cw,Cx,Cy,Cz,Da,Db,Dc⟩:=qz5 Ab.out)|((with_reducible refine y15 (f:=55) rfl ?_);refine y17 (some 8) rfl rfl Tryz.func55 (by kernel_rfl) rfl #[.agg #[.slice Au Ag.length Av,.int .i64 Ah,.string Ai,.slice Ar Af.length As,.slice Bb Aa.length Aw]] rfl qy1 ?_;(with_reducible refine(z4_.calls k _ _ Ag Ah Ai _ _ Af _ _ Aa true _ (qc (Kd.C_below Bj.out HB.out)) Bk.out (qc (Kd.C_below Bc.out HB.out)) Bd.out (qc (Kd.C_below Be.out HB.out)) Bl.out A2.out).mono ?_);rintro e w7 ⟨rfl,hb⟩;refine⟨_,rfl, ?_⟩;replace Ab:=y0.mk (qK Ab.out hb);replace HB:=y0.mk (y5 qb hb);(try clear hb);obtain⟨Dd,De,Df,Dg,Dh,Di,Dj,Dk,Dl,Dm⟩:=qz5 Ab.out)|((with_reducible refine y15 (f:=56) rfl ?_);refine y17 (some 13) rfl rfl Tryz.func56 (by kernel_rfl) rfl #[.agg #[.slice Au Ag.length Av,.int .i64 Ah,.string Ai,.slice Ar Af.length As,.slice Bb Aa.length Aw],.agg #[.int .i64 Ah,.string Ai,.slice Ar Af.length As]] rfl qy1 ?_;(with_reducible refine(z3_.calls k _ _ Ag Ah Ai _ _ Af _ _ Aa Ah Ai _ _ Af Ad _ (qc (Kd.C_below Bj.out HB.out)) Bk.out (qc (Kd.C_below Bc.out HB.out)) Bd.out (qc (Kd.C_below Be.out HB.out)) Bl.out (qc (Kd.C_below Bc.out HB.out)) Bd.out A4.out).mono ?_);rintro e w9 ⟨rfl,hb⟩;refine⟨_,rfl, ?_⟩;replace Ab:=y0.mk (qK Ab.out hb);replace HB:=y0.mk (y5 qb hb);(try clear hb))|((with_reducible refine y16 (N:=14) rfl ?_);refine qL Kd.string 9 14 ([]:List ByteArray) ?_;intro Hc Hk Br hb hg_ hnew_;clear hg_ hnew_;(first|rw [← Cn.out]at Br|(simp only [Int.reduceToNat]at Br;rw [← Cn.out]at Br));have Dw:=y0.mk (Kd.R_lower Br (y4 qb));replace Ab:=y0.mk (qK Ab.out hb);replace HB:=y0.mk (y5 qb hb);clear hb Br;obtain⟨Bt,Bu,Bv,Bw,Bx,Bz,Ca,Cb,Cc,Cd⟩:=qz5 Ab.out))
  go_loopg [4,18] k (fun kq v4 Hd w'=>∃(Ap:List ByteArray) (Ac:Int),Hd=.int .i64 Ac∧y0 (impl_ruleText.l0 kq Ad Ap Aa (Aa.length:Int) Ac Ag Ah Ai Af Aa=some r)∧y0 (kq≤k)∧y0 (Kd.R Kd.string 9 w' w.heap.size (fun _=>True) v4 Ap)∧y0 (w'.heap[Bq]?=some (.cells #[(.slice Au Ag.length Av),.int .i64 Ah,.string Ai,(.slice Ar Af.length As),(.slice Bb Aa.length Aw)] 36 (0,0)))∧y0 (Below w.heap.size w w'))
  case atStart=>exact⟨(Ds),(0),qy2,H',⟨Nat.le_refl _⟩,⟨qR Dw.out⟩,⟨qk Ab.out⟩,⟨qb⟩⟩
  case round =>
   clear H'
   (try clear c3 Bt Bu Bv Bw Bx Ct Cu Cv Cw Cx Dd De Df Dg Dh Bz Ca Cb Cc Cd Cy Cz Da Db Dc Di Dj Dk Dl Dm)
   obtain⟨Ap,Ac,rfl,HA,Fz,Aj,Ab,HB⟩:=hrel
   cases gk with
   | zero=>exact absurd HA.out (by simp [impl_ruleText.l0])
   | succ k1 =>
    have H:=HA.out
    clear HA
    simp only [impl_ruleText.l0]at H
    by_cases Dq:Ac < (Aa.length:Int)
    ·rw [if_pos Dq]at H
     have Dx:=decide_eq_true Dq
     clear Dq
     obtain⟨Ga,H⟩:=qo H
     have Gb:decide (0≤Ac)=true:=decide_eq_true Ga
     clear Ga
     obtain⟨Gc,H⟩:=qo H
     have Gd:decide (Ac < (Aa.length:Int))=true:=decide_eq_true Gc
     clear Gc
     obtain⟨Ce,He,H⟩:=qB H
     obtain⟨Ge,H⟩:=qo H
     have Dy:=y0.mk Ge
     clear Ge
     obtain⟨Dz,Bg⟩:∃ y_:List ByteArray,y_=(Ap ++ [Ce]):=⟨_,rfl⟩
     replace H:(impl_ruleText.l0 k1 Ad Dz Aa (Aa.length:Int) (wrap64 (Ac + 1)) Ag Ah Ai Af Aa)=some r:=by first|(rw [Bg];with_reducible exact H)|(have H2_:=(Option.bind_some _ _).symm.trans H;rw [Bg];with_reducible exact H2_)|(have H2_:=(Option.bind_some _ _).symm.trans H;with_reducible exact H2_)|with_reducible exact H|(rw [Bg];exact H)|exact H
     have Ea:=y0.mk Bg
     clear Bg
     have H':=y0.mk H
     clear H
     have Do:0≤(Ac:Int):=of_decide_eq_true qy0
     have Dp:Ac < (Aa.length:Int):=of_decide_eq_true qy0
     obtain⟨Co,Bh,Bi,Fl,Ay,Az,Ba,Bm,Bn⟩:=at_T33 Be.out Ac Do Dp
     cases Fl
     replace Ay:=(HB.out.cell (World.block_lt_of_cell? w _ Ay)).trans Ay
     replace Az:=(HB.out.cell (World.block_lt_of_cell? w _ Az)).trans Az
     replace Ba:=(HB.out.cell (World.block_lt_of_cell? w _ Ba)).trans Ba
     have Cf:=y0.mk Bn
     have Cg:=y0.mk Bm
     clear Bn Bm
     replace Do:=eq_true Do
     replace Dp:=eq_true Dp
     go_wp2_with (first|((with_reducible refine y16 (N:=6) rfl ?_);refine qe 6 #[.int .i64 0,.string (⟨#[]⟩:ByteArray),.slice none 0 0] 33 ?_;intro Bo hg Hl hbox hb;replace Aj:=y0.mk (Kd.R_below (qR Aj.out) hb);have At:=y0.mk (hbox);have Gf:=y0.mk (qg (w:=w) hg);have Gg:=y0.mk (qg (w:=w) hg);replace HB:=y0.mk (y5 qb hb);have Am:=y0.mk (qn Ab.out hg);have Bp:=y0.mk (qm Ab.out hg);replace Ab:=y0.mk (qK Ab.out hb);clear hb hbox hg;have Gh:=Bp.out;have Gi:=Am.out;obtain⟨Ek,El,Em,En,Eo,Ep⟩:=qz3 At.out;obtain⟨Eq,Er,Es,Et,Eu,Ew,Ex,Ey,Ez,Fa⟩:=qz5 Ab.out)|((with_reducible refine y15 (f:=56) rfl ?_);refine y17 (some 25) rfl rfl Tryz.func56 (by kernel_rfl) rfl #[.agg #[.slice Au Ag.length Av,.int .i64 Ah,.string Ai,.slice Ar Af.length As,.slice (some Co) Aa.length Aw],.agg #[.int .i64 ((y19 Aa Ac).f0),.string ((y19 Aa Ac).f1),.slice Bh ((y19 Aa Ac).f2).length Bi]] rfl qy1 ?_;(with_reducible refine(z3_.calls k1 _ _ Ag Ah Ai _ _ Af _ _ Aa ((y19 Aa Ac).f0) ((y19 Aa Ac).f1) _ _ ((y19 Aa Ac).f2) Ce _ (by exact Kd.C_below Bj.out qb) Bk.out (by exact Kd.C_below Bc.out qb) Bd.out (by exact Kd.C_below Be.out qb) Bl.out (by exact Kd.C_below Cf.out qb) Cg.out He.out).mono ?_);rintro e Hm ⟨rfl,hb⟩;refine⟨_,rfl, ?_⟩;replace Aj:=y0.mk (Kd.R_below (qR ((Kd.R_mono (Kd.R_far (p:=⟨Bo,2,none⟩) (Kd.R_far (p:=⟨Bo,1,none⟩) (Kd.R_far (p:=⟨Bo,0,none⟩) (Kd.R_types Aj.out At.out (by decide)) (fun _ hk=>hk.2) (.int .i64 ((y19 Aa Ac).f0))) (fun _ hk=>hk.2) (.string ((y19 Aa Ac).f1))) (fun _ hk=>hk.2) (.slice Bh ((y19 Aa Ac).f2).length Bi)) (fun _ h_=>h_.1)))) hb);replace Ab:=y0.mk (y7 (g:=Bq) (o:=.cells #[.slice Au Ag.length Av,.int .i64 Ah,.string Ai,.slice Ar Af.length As,.slice (some Co) Aa.length Aw] 36 (0,0)) (by(with_reducible repeat(first|refine y10 ?_ _|refine y9 ?_|refine y6 ?_ _));refine y11 ?_ Am.out _;(with_reducible repeat(first|refine y10 ?_ _|refine y9 ?_|refine y6 ?_ _));refine y11 ?_ Am.out _;(with_reducible repeat(first|refine y10 ?_ _|refine y9 ?_|refine y6 ?_ _));refine y11 ?_ Am.out _;(with_reducible repeat(first|refine y10 ?_ _|refine y9 ?_|refine y6 ?_ _));exact Ab.out) hb);replace At:=y0.mk (y7 (g:=Bo) (o:=.cells #[.int .i64 ((y19 Aa Ac).f0),.string ((y19 Aa Ac).f1),.slice Bh ((y19 Aa Ac).f2).length Bi] 33 (0,0)) (by(with_reducible repeat(first|refine y10 ?_ _|refine y9 ?_|refine y6 ?_ _));refine blk_put (cs:=#[.int .i64 ((y19 Aa Ac).f0),.string ((y19 Aa Ac).f1),.slice none 0 0]) ?_ 2 _ rfl;(with_reducible repeat(first|refine y10 ?_ _|refine y9 ?_|refine y6 ?_ _));refine blk_put (cs:=#[.int .i64 ((y19 Aa Ac).f0),.string (⟨#[]⟩:ByteArray),.slice none 0 0]) ?_ 1 _ rfl;(with_reducible repeat(first|refine y10 ?_ _|refine y9 ?_|refine y6 ?_ _));refine blk_put (cs:=#[.int .i64 0,.string (⟨#[]⟩:ByteArray),.slice none 0 0]) ?_ 0 _ rfl;(with_reducible repeat(first|refine y10 ?_ _|refine y9 ?_|refine y6 ?_ _));exact At.out) hb);replace HB:=y0.mk (y5 qb hb);(try clear hb))|((with_reducible refine gate_builtin (b:=.append) (xs:=#[.tmp 22,.tmp 26]) rfl ?_);at_builtin;refine Kd.R_append Kd.string (w0:=w) w.heap.size rfl (.tmp 22) (.tmp 26) 30 9 (.string ⟨#[]⟩) 16 rfl Tryz.underlying30 info9 rfl (by decide) (by omega) u4 Ap Ce [.string Ce] (fun _=>True) (fun _=>False) rfl rfl ?aP (fun _ hk=>hk.elim) ?aF ?aO ?aB ?aS ?aL ?_;(case aP=>exact rfl);(case aB=>exact qb);(case aF=>exact(fun _ _=>trivial));(case aO=>exact(qR Aj.out));(case aS=>exact(y4 qb));(case aL=>have:=Dy.out;omega);intro Hf Hn ho hb hg hat;rw [← Ea.out]at ho;replace Ab:=y0.mk (blk_grown (qk Ab.out) hg (Kd.R_ne Aj.out Ab.out (by decide)));replace At:=y0.mk (blk_grown (qk At.out) hg (Kd.R_ne Aj.out At.out (by decide)));replace HB:=y0.mk (hb);have Eb:=y0.mk (ho);clear Aj;clear ho hb hg hat))
     go_roundg k1
     case measure=>have:=Fz.out;omega
     exact⟨(Dz),(wrap64 (Ac + 1)),qy2,H',⟨by have:=Fz.out;omega⟩,⟨qR Eb.out⟩,⟨qk Ab.out⟩,⟨qb⟩⟩
    ·rw [if_neg Dq]at H
     have Dx:=decide_eq_false Dq
     clear Dq
     by_cases Dr:(Ap.length:Int) > 0
     ·rw [if_pos Dr]at H
      have Ec:decide (0 < (Ap.length:Int))=true:=decide_eq_true Dr
      have Ed:decide (0 < Ap.length)=true:=decide_eq_true (by omega)
      clear Dr
      obtain⟨Ak,Gj,H⟩:=qB H
      obtain⟨Fm,H⟩:=qo H
      have Gk:=eq_true Fm
      have Gl:=decide_eq_true Fm
      have Gm:=eq_false (Nat.not_lt.2 Fm)
      obtain⟨Fn,H⟩:=qo H
      have Gn:=eq_true Fn
      have Gp:=decide_eq_true Fn
      have Bs:=eq_false (Nat.not_lt.2 Fn)
      have Gq:(9223372036854775807 < Ad.size + 4 + Ak.size)=False:=qs Bs
      have Gr:(9223372036854775807 < Ad.size + (4 + Ak.size))=False:=qs Bs
      have Gs:(9223372036854775807 < Ad.size + (4 + Ak.size))=False:=qs Bs
      obtain⟨Fo,H⟩:=qo H
      have Gt:=eq_true Fo
      have Gu:=decide_eq_true Fo
      have Cp:=eq_false (Nat.not_lt.2 Fo)
      have Gv:(9223372036854775807 < Ad.size + 4 + Ak.size + 1)=False:=qs Cp
      have Gw:(9223372036854775807 < Ad.size + (4 + Ak.size) + 1)=False:=qs Cp
      by_cases Cq:(((Ad ++ ((⟨#[32,58,45,32]⟩:ByteArray) ++ Ak)) ++ (⟨#[46]⟩:ByteArray)).size:Int) > 3000
      ·rw [if_pos Cq]at H
       have Ee:(3000 < (Ad.size:Int) + (4 + (Ak.size:Int)) + 1)=True:=eq_true (by have h_:=Cq;rw [show((Ad ++ ((⟨#[32,58,45,32]⟩:ByteArray) ++ Ak)) ++ (⟨#[46]⟩:ByteArray)).size=Ad.size + (4 + Ak.size) + 1 from by(simp only [ByteArray.size_append];rfl)]at h_;omega)
       have Ef:decide (3000 < (((Ad ++ ((⟨#[32,58,45,32]⟩:ByteArray) ++ Ak)) ++ (⟨#[46]⟩:ByteArray)).size:Int))=true:=decide_eq_true Cq
       have Eg:decide (3000 < ((Ad ++ ((⟨#[32,58,45,32]⟩:ByteArray) ++ Ak)) ++ (⟨#[46]⟩:ByteArray)).size)=true:=decide_eq_true (by omega)
       clear Cq
       obtain rfl:=Option.some.inj H
       obtain⟨Fp,Fq,Fr⟩:=Kd.R_slice Aj.out
       subst Fr
       go_wp2_with (first|((with_reducible refine y15 (f:=57) rfl ?_);refine y17 (some 34) rfl rfl Tryz.func57 (by kernel_rfl) rfl #[.slice Fp Ap.length Fq,.string (⟨#[44,32]⟩:ByteArray)] rfl qy1 ?_;(with_reducible refine(strings_Join.calls _ _ Ap (⟨#[44,32]⟩:ByteArray) Ak _ (qc ((Kd.R_reads' Aj.out).2.2)) (by exact(Kd.R_reads' Aj.out).2.1) Gj.out).mono ?_);rintro e Ho ⟨rfl,hb⟩;refine⟨_,rfl, ?_⟩;replace Aj:=y0.mk (Kd.R_below (qR Aj.out) hb);replace Ab:=y0.mk (qK Ab.out hb);replace HB:=y0.mk (y5 qb hb);(try clear hb)))
       go_ret
       exact⟨qf,qb⟩
      ·rw [if_neg Cq]at H
       have Ee:(3000 < (Ad.size:Int) + (4 + (Ak.size:Int)) + 1)=False:=eq_false (by have h_:=Cq;rw [show((Ad ++ ((⟨#[32,58,45,32]⟩:ByteArray) ++ Ak)) ++ (⟨#[46]⟩:ByteArray)).size=Ad.size + (4 + Ak.size) + 1 from by(simp only [ByteArray.size_append];rfl)]at h_;omega)
       have Ef:decide (3000 < (((Ad ++ ((⟨#[32,58,45,32]⟩:ByteArray) ++ Ak)) ++ (⟨#[46]⟩:ByteArray)).size:Int))=false:=decide_eq_false Cq
       have Eg:decide (3000 < ((Ad ++ ((⟨#[32,58,45,32]⟩:ByteArray) ++ Ak)) ++ (⟨#[46]⟩:ByteArray)).size)=false:=decide_eq_false (by omega)
       clear Cq
       obtain rfl:=Option.some.inj H
       obtain⟨Fs,Ft,Fu⟩:=Kd.R_slice Aj.out
       subst Fu
       go_wp2_with (first|((with_reducible refine y15 (f:=57) rfl ?_);refine y17 (some 34) rfl rfl Tryz.func57 (by kernel_rfl) rfl #[.slice Fs Ap.length Ft,.string (⟨#[44,32]⟩:ByteArray)] rfl qy1 ?_;(with_reducible refine(strings_Join.calls _ _ Ap (⟨#[44,32]⟩:ByteArray) Ak _ (qc ((Kd.R_reads' Aj.out).2.2)) (by exact(Kd.R_reads' Aj.out).2.1) Gj.out).mono ?_);rintro e Hp ⟨rfl,hb⟩;refine⟨_,rfl, ?_⟩;replace Aj:=y0.mk (Kd.R_below (qR Aj.out) hb);replace Ab:=y0.mk (qK Ab.out hb);replace HB:=y0.mk (y5 qb hb);(try clear hb)))
       go_ret
       exact⟨qf,qb⟩
     ·rw [if_neg Dr]at H
      have Ec:decide (0 < (Ap.length:Int))=false:=decide_eq_false Dr
      have Ed:decide (0 < Ap.length)=false:=decide_eq_false (by omega)
      clear Dr
      obtain⟨Fv,H⟩:=qo H
      have Gx:=eq_true Fv
      have Gy:=decide_eq_true Fv
      have Gz:=eq_false (Nat.not_lt.2 Fv)
      by_cases Cr:((Ad ++ (⟨#[46]⟩:ByteArray)).size:Int) > 3000
      ·rw [if_pos Cr]at H
       have Eh:(3000 < (Ad.size:Int) + 1)=True:=eq_true (by have h_:=Cr;rw [show(Ad ++ (⟨#[46]⟩:ByteArray)).size=Ad.size + 1 from by(simp only [ByteArray.size_append];rfl)]at h_;omega)
       have Ei:decide (3000 < ((Ad ++ (⟨#[46]⟩:ByteArray)).size:Int))=true:=decide_eq_true Cr
       have Ej:decide (3000 < (Ad ++ (⟨#[46]⟩:ByteArray)).size)=true:=decide_eq_true (by omega)
       clear Cr
       obtain rfl:=Option.some.inj H
       obtain⟨Hg,Hh,Fx⟩:=Kd.R_slice Aj.out
       subst Fx
       go_wp2
       go_ret
       exact⟨qf,qb⟩
      ·rw [if_neg Cr]at H
       have Eh:(3000 < (Ad.size:Int) + 1)=False:=eq_false (by have h_:=Cr;rw [show(Ad ++ (⟨#[46]⟩:ByteArray)).size=Ad.size + 1 from by(simp only [ByteArray.size_append];rfl)]at h_;omega)
       have Ei:decide (3000 < ((Ad ++ (⟨#[46]⟩:ByteArray)).size:Int))=false:=decide_eq_false Cr
       have Ej:decide (3000 < (Ad ++ (⟨#[46]⟩:ByteArray)).size)=false:=decide_eq_false (by omega)
       clear Cr
       obtain rfl:=Option.some.inj H
       obtain⟨Hi,Hj,Fy⟩:=Kd.R_slice Aj.out
       subst Fy
       go_wp2
       go_ret
       exact⟨qf,qb⟩
 ·replace c3:=Bool.eq_false_iff.mpr c3
  subst c3
  replace H:=qF H
  obtain rfl:=Option.some.inj H
  go_enter Tryz.func42,Tryz.ntmps42
  go_wp2_with (first|((with_reducible refine y16 (N:=1) rfl ?_);refine qe 1 #[.slice Au Ag.length Av,.int .i64 Ah,.string Ai,.slice Ar Af.length As,.slice Bb Aa.length Aw] 36 ?_;intro Bq hg Hq hbox hb;have Ab:=y0.mk (hbox);have Dt:=y0.mk (qg (w:=w) hg);have Du:=y0.mk (qg (w:=w) hg);replace HB:=y0.mk (y5 qb hb);clear hb hbox hg;obtain⟨Fb,Fc,Fd,Fe,Ff,Fg,Fh,Fi,Fj,Fk⟩:=qz5 Ab.out)|((with_reducible refine y15 (f:=55) rfl ?_);refine y17 (some 8) rfl rfl Tryz.func55 (by kernel_rfl) rfl #[.agg #[.slice Au Ag.length Av,.int .i64 Ah,.string Ai,.slice Ar Af.length As,.slice Bb Aa.length Aw]] rfl qy1 ?_;(with_reducible refine(z4_.calls k _ _ Ag Ah Ai _ _ Af _ _ Aa false _ (qc (Kd.C_below Bj.out HB.out)) Bk.out (qc (Kd.C_below Bc.out HB.out)) Bd.out (qc (Kd.C_below Be.out HB.out)) Bl.out A2.out).mono ?_);rintro e Hr ⟨rfl,hb⟩;refine⟨_,rfl, ?_⟩;replace Ab:=y0.mk (qK Ab.out hb);replace HB:=y0.mk (y5 qb hb);(try clear hb)))
  go_ret
  exact⟨qf,qb⟩
def impl_hasForm.f (k:Nat) (l0_0:List (S48)) (a0_1:Int) (a0_2:ByteArray) (l0_3:List Int) (l0_4:List (S33)):Option (Bool):=(impl_ruleText.f k l0_0 a0_1 a0_2 l0_3 l0_4).bind fun t428=>(some (t428.toList != ([]:List UInt8)))
set_option maxHeartbeats 8000000 in
set_option maxRecDepth 100000 in
theorem impl_hasForm.calls (k:Nat) (Ah:Option Addr) (Ai:Nat) (Aa:List (S48)) (Ad:Int) (Af:ByteArray) (Aj:Option Addr) (Ak:Nat) (Ab:List Int) (Am:Option Addr) (Ap:Nat) (Ac:List (S33)) (r:Bool) (w:World) (Ar:Kd.C k48 w Ah Aa.length Aa) (As:Aa.length≤Ai) (At:Kd.C (Kd.int .i64) w Aj Ab.length Ab) (Au:Ab.length≤Ak) (Av:Kd.C k33 w Am Ac.length Ac) (Aw:Ac.length≤Ap) (h:impl_hasForm.f k Aa Ad Af Ab Ac=some r) :
  Calls Tryz.prog 22 #[.agg #[.slice Ah Aa.length Ai,.int .i64 Ad,.string Af,.slice Aj Ab.length Ak,.slice Am Ac.length Ap]] w fun e w'=>e=.returned (.bool r)∧Below w.heap.size w w':=by
 have Bs:=Tryz.underlying36
 have Az:=y0.mk Ar
 have Ba:=y0.mk As
 clear Ar As
 have Bb:=y0.mk At
 have Bc:=y0.mk Au
 clear At Au
 have Bd:=y0.mk Av
 have Be:=y0.mk Aw
 clear Av Aw
 have HB:=y0.mk (Below.refl w.heap.size w)
 have H:((impl_ruleText.f k Aa Ad Af Ab Ac).bind fun Ay=>(some (Ay.toList != ([]:List UInt8))))=some r:=h
 clear h
 obtain⟨Ay,A2,H⟩:=qB H
 obtain rfl:=Option.some.inj H
 go_enter Tryz.func22,Tryz.ntmps22
 go_wp2_with (first|((with_reducible refine y16 (N:=1) rfl ?_);refine qe 1 #[.slice Ah Aa.length Ai,.int .i64 Ad,.string Af,.slice Aj Ab.length Ak,.slice Am Ac.length Ap] 36 ?_;intro Bp hg w3 hbox hb;have Ag:=y0.mk (hbox);have Bq:=y0.mk (qg (w:=w) hg);have Br:=y0.mk (qg (w:=w) hg);replace HB:=y0.mk (y5 qb hb);clear hb hbox hg;obtain⟨Bf,Bg,Bh,Bi,Bj,Bk,Bl,Bm,Bn,Bo⟩:=qz5 Ag.out)|((with_reducible refine y15 (f:=42) rfl ?_);refine y17 (some 4) rfl rfl Tryz.func42 (by kernel_rfl) rfl #[.agg #[.slice Ah Aa.length Ai,.int .i64 Ad,.string Af,.slice Aj Ab.length Ak,.slice Am Ac.length Ap]] rfl qy1 ?_;(with_reducible refine(impl_ruleText.calls k _ _ Aa Ad Af _ _ Ab _ _ Ac Ay _ (qc (Kd.C_below Az.out HB.out)) Ba.out (qc (Kd.C_below Bb.out HB.out)) Bc.out (qc (Kd.C_below Bd.out HB.out)) Be.out A2.out).mono ?_);rintro e w5 ⟨rfl,hb⟩;refine⟨_,rfl, ?_⟩;replace Ag:=y0.mk (qK Ag.out hb);replace HB:=y0.mk (y5 qb hb);(try clear hb)))
 go_ret
 have hform_:∀ l:List UInt8,l.isEmpty=!(l != []):=fun l=>by cases l <;> rfl
 exact⟨by(simp [y12,y13];exact hform_ _),qb⟩
def slices_Sort_int_int.f (l0:List Int):Option (List Int):=if l0.length < 4611686018427387904 then some (l0.mergeSort fun x y=>decide (x≤y))else none
open Go.Sort Go.Shelf in
theorem slices_Sort_int_int.calls (P0_:Nat→Prop) (u9000_:Value) (l0:List Int) (r1:List Int) (w0 w:World) (hB:Below w0.heap.size w0 w) (Aa:Kd.R (Kd.int .i64) 3 w w0.heap.size P0_ u9000_ l0) (h:slices_Sort_int_int.f l0=some r1) :
  Calls Tryz.prog 75 #[u9000_] w fun e w'=>e=.returned (.tuple #[])∧Kd.R (Kd.int .i64) 3 w' w0.heap.size (fun k_=>(P0_ k_∨w.heap.size≤k_)) u9000_ r1∧Below w0.heap.size w0 w'∧Kept w w' (fun k_=>P0_ k_):=by
 unfold slices_Sort_int_int.f at h
 by_cases hd:l0.length < 4611686018427387904
 case neg=>rw [if_neg hd]at h;cases h
 rw [if_pos hd]at h
 injection h with h
 subst h
 obtain⟨h0,inner,ho,hr⟩:=Aa
 rcases ho.2 with⟨rfl,hn⟩|⟨g,cap,cur,rfl,hbase,hb,h1,h2,h3,h4⟩
 ·have Ab:l0=[]:=List.length_eq_zero_iff.1 hn
  subst Ab
  refine(Tryz.slices_Sort_int_none none 0 w).mono ?_
  rintro e w' ⟨rfl,rfl⟩
  rw [show(([]:List Int).mergeSort fun x y=>decide (x≤y))=[]from by simp]
  exact⟨rfl,Kd.R_nil _ _ _ _ _,hB,Kept.refl _ _⟩
 ·have hsz:(Kd.int .i64).sz=1:=rfl
  rw [hsz]at h3 h4
  have hil:inner.length=l0.length:=by have:=hr.1;rw [hsz]at this;omega
  have hin:inner=l0.map (Value.int .i64):=by
   apply List.ext_getElem?
   intro j
   by_cases hj:j < l0.length
   ·have h5:=hr.2 j l0[j] (List.getElem?_eq_getElem hj)
    rw [hsz,Nat.mul_one]at h5
    have h6:(inner.drop j).take 1=[Value.int .i64 l0[j]]:=h5
    have h7:=congrArg (fun l=>l[0]?) h6
    simp only [List.getElem?_take_of_lt Nat.one_pos,List.getElem?_drop,Nat.add_zero]at h7
    rw [h7,List.getElem?_map,List.getElem?_eq_getElem hj]
    rfl
   ·rw [List.getElem?_eq_none (by omega),List.getElem?_eq_none (by rw [List.length_map];omega)]
  have hcur:∀ j,j < l0.length→cur[j]?=some (Value.int .i64 (l0.toArray[j]!)):=fun j hj=>by
   have h8:cur.toList[j]?=(l0.map (Value.int .i64))[j]?:=by
    rw [← hin,← h4,Nat.mul_one,List.getElem?_take_of_lt hj]
   rw [← Array.getElem?_toList,h8,List.getElem?_map,List.getElem?_eq_getElem hj]
   have:l0.toArray[j]! = l0[j]:=by rw [getElem!_pos l0.toArray j (by simpa using hj)];simp
   rw [this]
   rfl
  have hH:Holds (Value.int .i64) w g 0 l0.toArray:=by
   intro j hj
   have Ac:j < l0.length:=by simpa using hj
   refine⟨?_,by simp [World.frozen?,hb]⟩
   simp only [World.cell?,hb,Nat.zero_add,Option.isSome_none,Bool.false_eq_true,if_false,id]
   rw [hcur j Ac]
  refine(Tryz.slices_Sort_int g 0 cap l0 w hH (Array.getElem?_eq_some_iff.1 hb).1 hd).mono ?_
  rintro e w' ⟨rfl,n,os,rfl⟩
  have hl:(l0.mergeSort fun x y=>decide (x≤y)).length=l0.length:=List.length_mergeSort l0
  generalize (l0.mergeSort fun x y=>decide (x≤y))=zs at hl ⊢
  have hg:g < w.heap.size:=(Array.getElem?_eq_some_iff.1 hb).1
  have hheap:(grow (putRow (Value.int .i64) (Sort.ahead w n) g 0 zs.toArray) os).heap[g]?=some (.cells (putCells (Value.int .i64) 0 zs.toArray cur) 3 (0,0)):=by
   rw [heap_grow_old _ _ (by simpa using hg)]
   simp [putRow,mapBlock,Sort.ahead,Array.getElem?_modify,hb,onCells]
  have hgr:w.grownBy (grow (putRow (Value.int .i64) (Sort.ahead w n) g 0 zs.toArray) os) (some g):=by
   refine⟨rfl,rfl,rfl,by simp,fun k hk hne=>?_⟩
   rw [heap_grow_old _ _ (by simpa using hk)]
   have:g≠k:=fun e=>hne (by rw [e])
   simp [putRow,mapBlock,Sort.ahead,Array.getElem?_modify,this]
  have htk:(putCells (Value.int .i64) 0 zs.toArray cur).toList.take zs.length=zs.map (Value.int .i64):=by
   apply List.ext_getElem?
   intro j
   by_cases hj:j < zs.length
   ·rw [List.getElem?_take_of_lt hj,Array.getElem?_toList,List.getElem?_map,List.getElem?_eq_getElem hj]
    have:j < cur.size:=by rw [h3];omega
    simp [putCells,hj,this]
   ·rw [List.getElem?_take_eq_none (by omega),List.getElem?_eq_none (by rw [List.length_map];omega)]
  refine⟨rfl,⟨fun k hk=>.inl (h0 k hk),zs.map (Value.int .i64),⟨by simp [hsz],Or.inr ⟨g,cap,putCells (Value.int .i64) 0 zs.toArray cur, ?_,hbase,hheap,by simp [hl,h1],h2,by simp [putCells,h3,hsz], ?_⟩⟩,by simp [hsz],fun i p hi=>?_⟩,Below.grown hB hgr (by omega) (fun k e=>by cases e;exact hbase),Kept.of_grown hgr (Kept.refl _ _) (fun k e=>.inl (h0 k (by rw [← e];simp [Value.ownBlock])))⟩
  ·simp [hl]
  ·rw [hsz,Nat.mul_one]
   exact htk
  ·rw [hsz,Nat.mul_one]
   have Ad:=(List.getElem?_eq_some_iff.1 hi)
   obtain⟨Af,Ag⟩:=Ad
   show((zs.map (Value.int .i64)).drop i).take 1=[Value.int .i64 p]
   rw [List.drop_eq_getElem_cons (by simpa using Af)]
   simp [Ag]
mutual
def impl_Rule_plain.l0:Nat→List Int→List Int→Int→Int→List (S48)→Int→ByteArray→List Int→List (S33)→Option (List Int)
 | 0,_,_,_,_,_,_,_,_,_=>none
 | k + 1,x5,x23,x24,x25,x430000,x430001,x430002,x430003,x430004=>if x25 < x24 then(if 0≤x25 then(if x25 < (x23.length:Int)then((impl_Rule_plain.f k x430000 x430001 x430002 x430003 x430004 (rd x23 x25)).bind fun t438=>(if x5.length + t438.length < 17592186044416 then(impl_Rule_plain.l0 k (x5 ++ t438) x23 x24 (wrap64 (x25 + 1)) x430000 x430001 x430002 x430003 x430004)else(none)))else(none))else(none))else((slices_Sort_int_int.f x5).bind fun t444=>(some t444))
def impl_Rule_plain.f:Nat→List (S48)→Int→ByteArray→List Int→List (S33)→Int→Option (List Int)
 | 0,_,_,_,_,_,_=>none
 | k + 1,l0_0,a0_1,a0_2,l0_3,l0_4,a1=>(some (([a1]:List Int):List Int)).bind fun y430=>(if 0≤a1 then(if a1 < (l0_0.length:Int)then((impl_isSum.f ((y20 l0_0 a1).f0)).bind fun t434=>(if t434=true then((slices_Sort_int_int.f y430).bind fun t435=>(some t435))else(impl_Rule_plain.l0 k y430 ((y20 l0_0 a1).f2) (((y20 l0_0 a1).f2).length:Int) 0 l0_0 a0_1 a0_2 l0_3 l0_4)))else(none))else(none))
end
set_option maxHeartbeats 8000000 in
set_option maxRecDepth 100000 in
theorem impl_Rule_plain.calls (k:Nat):∀(Bp:Option Addr) (Bf:Nat) (Aa:List (S48)) (Ar:Int) (As:ByteArray) (Bg:Option Addr) (Bh:Nat) (Ah:List Int) (Bi:Option Addr) (Bj:Nat) (Ai:List (S33)) (a1:Int) (r:List Int) (w:World) (Bq:Kd.C k48 w Bp Aa.length Aa) (Br:Aa.length≤Bf) (Bs:Kd.C (Kd.int .i64) w Bg Ah.length Ah) (Bt:Ah.length≤Bh) (Bu:Kd.C k33 w Bi Ai.length Ai) (Bv:Ai.length≤Bj) (h:impl_Rule_plain.f k Aa Ar As Ah Ai a1=some r),
  Calls Tryz.prog 58 #[.agg #[.slice Bp Aa.length Bf,.int .i64 Ar,.string As,.slice Bg Ah.length Bh,.slice Bi Ai.length Bj],.int .i64 a1] w fun e w'=>∃ v0_:Value,e=.returned (v0_)∧Kd.R (Kd.int .i64) 3 w' w.heap.size (fun _=>True) v0_ r∧Below w.heap.size w w':=by
 induction k using Nat.strongRecOn with
 | _ k ih =>
 intro Bp Bf Aa Ar As Bg Bh Ah Bi Bj Ai a1 r w Bq Br Bs Bt Bu Bv h
 cases k with
 | zero=>exact absurd h (by simp [impl_Rule_plain.f])
 | succ k =>
 simp only [impl_Rule_plain.f]at h
 have Fj:=Tryz.underlying36
 have Bk:=y0.mk Bq
 have Dd:=y0.mk Br
 clear Bq Br
 have De:=y0.mk Bs
 have Df:=y0.mk Bt
 clear Bs Bt
 have Dg:=y0.mk Bu
 have Dh:=y0.mk Bv
 clear Bu Bv
 have HB:=y0.mk (Below.refl w.heap.size w)
 have H:((some (([a1]:List Int):List Int)).bind fun Aw=>(if 0≤a1 then(if a1 < (Aa.length:Int)then((impl_isSum.f ((y20 Aa a1).f0)).bind fun Bw=>(if Bw=true then((slices_Sort_int_int.f Aw).bind fun Bx=>(some Bx))else(impl_Rule_plain.l0 k Aw ((y20 Aa a1).f2) (((y20 Aa a1).f2).length:Int) 0 Aa Ar As Ah Ai)))else(none))else(none)))=some r:=h
 clear h
 obtain⟨Aw,Ba⟩:∃ y_:List Int,y_=(([a1]:List Int)):=⟨_,rfl⟩
 replace H:(if 0≤a1 then(if a1 < (Aa.length:Int)then((impl_isSum.f ((y20 Aa a1).f0)).bind fun Bw=>(if Bw=true then((slices_Sort_int_int.f Aw).bind fun Bx=>(some Bx))else(impl_Rule_plain.l0 k Aw ((y20 Aa a1).f2) (((y20 Aa a1).f2).length:Int) 0 Aa Ar As Ah Ai)))else(none))else(none))=some r:=by first|(rw [Ba];with_reducible exact H)|(have H2_:=(Option.bind_some _ _).symm.trans H;rw [Ba];with_reducible exact H2_)|(have H2_:=(Option.bind_some _ _).symm.trans H;with_reducible exact H2_)|with_reducible exact H|(rw [Ba];exact H)|exact H
 have Bl:=y0.mk Ba
 clear Ba
 obtain⟨c3,H⟩:=qo H
 have En:decide (0≤a1)=true:=decide_eq_true c3
 clear c3
 obtain⟨c4,H⟩:=qo H
 have Eo:decide (a1 < (Aa.length:Int))=true:=decide_eq_true c4
 clear c4
 obtain⟨Bw,A5,H⟩:=qB H
 by_cases c6:Bw=true
 ·subst c6
  replace H:=qT H
  obtain⟨Bx,A7,H⟩:=qB H
  obtain rfl:=Option.some.inj H
  go_enter Tryz.func58,Tryz.ntmps58
  go_wp2_with (first|((with_reducible refine y16 (N:=2) rfl ?_);refine qe 2 #[.slice Bp Aa.length Bf,.int .i64 Ar,.string As,.slice Bg Ah.length Bh,.slice Bi Ai.length Bj] 36 ?_;intro Cs hg w8 hbox hb;have Ab:=y0.mk (hbox);have Di:=y0.mk (qg (w:=w) hg);have Bz:=y0.mk (qg (w:=w) hg);replace HB:=y0.mk (y5 qb hb);clear hb hbox hg)|((with_reducible refine y16 (N:=9) rfl ?_);refine qL (Kd.int .i64) 3 9 ([a1]:List Int) ?_;intro Ep w9 Ca hb hg_ hnew_;clear hg_ hnew_;(first|rw [← Bl.out]at Ca|(simp only [Int.reduceToNat]at Ca;rw [← Bl.out]at Ca));have Ap:=y0.mk (Kd.R_lower Ca (y4 qb));replace Ab:=y0.mk (qK Ab.out hb);replace HB:=y0.mk (y5 qb hb);clear hb Ca;obtain⟨Dr,Ds,Dt,Du,Dw,Dx,Dy,Dz,Ea,Eb⟩:=qz5 Ab.out;have Bb:0≤(a1:Int):=of_decide_eq_true qy0;have Bc:a1 < (Aa.length:Int):=of_decide_eq_true qy0;obtain⟨Bm,Ct,Cu,Cv,Ad,Af,Ac,Aj,Ak⟩:=at_T48 Bk.out a1 Bb Bc;cases Cv;replace Ad:=(HB.out.cell (World.block_lt_of_cell? w _ Ad)).trans Ad;replace Af:=(HB.out.cell (World.block_lt_of_cell? w _ Af)).trans Af;replace Ac:=(HB.out.cell (World.block_lt_of_cell? w _ Ac)).trans Ac;have Cc:=y0.mk Ak;have Cd:=y0.mk Aj;clear Ak Aj;replace Bb:=eq_true Bb;replace Bc:=eq_true Bc)|((with_reducible refine y15 (f:=67) rfl ?_);refine y17 (some 16) rfl rfl Tryz.func67 (by kernel_rfl) rfl #[.int .i64 ((y20 Aa a1).f0)] rfl qy1 ?_;(with_reducible refine(impl_isSum.calls ((y20 Aa a1).f0) true _ A5.out).mono ?_);rintro e w' ⟨rfl,⟨nd,rfl⟩⟩;refine⟨_,rfl, ?_⟩;obtain⟨Cw,Cx,Eq⟩:=Kd.R_slice Ap.out;subst Eq)|((with_reducible refine y15 (f:=75) rfl ?_);refine y17 (some 36) rfl rfl Tryz.func75 (by kernel_rfl) rfl #[.slice Cw Aw.length Cx] rfl qy1 ?_;(with_reducible refine(slices_Sort_int_int.calls (fun k_=>some k_=(.slice Cw Aw.length Cx:Value).ownBlock) (.slice Cw Aw.length Cx) Aw Bx w _ (by repeat(first|(with_reducible first|exact HB.out|apply below_alloc|apply y18|apply y2|refine y3 ?_ Bz.out)|exact HB.out)) (by exact Kd.R_tight rfl (qR Ap.out)) A7.out).mono ?_);rintro e Fp ⟨rfl,Dj,hb,hkp⟩;refine⟨_,rfl, ?_⟩;replace Ab:=y0.mk (blk_kept (qk Ab.out) hkp (fun hs_=>(fun e_=>(Kd.R_ne Ap.out Ab.out (by decide)) e_) hs_));replace Ap:=y0.mk (Kd.R_reok rfl Dj (fun k_ e_=>Ap.out.1 k_ e_));replace HB:=y0.mk (hb);(try clear hb);(try clear hkp);(try clear Dj)))
  go_ret
  exact⟨_,by first|rfl|(simp [y12,y13] <;> rfl)|(simp [*,y12,y13] <;> rfl),by(with_reducible repeat(first|apply Kd.R_alloc|apply Kd.R_drewN|apply Kd.R_drew));exact Ap.out,qb⟩
 ·replace c6:=Bool.eq_false_iff.mpr c6
  subst c6
  replace H:=qF H
  have H':=y0.mk H
  clear H
  go_enter Tryz.func58,Tryz.ntmps58
  go_wp2_with (first|((with_reducible refine y16 (N:=2) rfl ?_);refine qe 2 #[.slice Bp Aa.length Bf,.int .i64 Ar,.string As,.slice Bg Ah.length Bh,.slice Bi Ai.length Bj] 36 ?_;intro Cs hg Fq hbox hb;have Ab:=y0.mk (hbox);have Di:=y0.mk (qg (w:=w) hg);have Bz:=y0.mk (qg (w:=w) hg);replace HB:=y0.mk (y5 qb hb);clear hb hbox hg)|((with_reducible refine y16 (N:=9) rfl ?_);refine qL (Kd.int .i64) 3 9 ([a1]:List Int) ?_;intro Ep Fr Cb hb hg_ hnew_;clear hg_ hnew_;(first|rw [← Bl.out]at Cb|(simp only [Int.reduceToNat]at Cb;rw [← Bl.out]at Cb));have Ap:=y0.mk (Kd.R_lower Cb (y4 qb));replace Ab:=y0.mk (qK Ab.out hb);replace HB:=y0.mk (y5 qb hb);clear hb Cb;obtain⟨Ce,Cf,Cg,Ch,Ci,Cj,Ck,Cl,Cm,Cn⟩:=qz5 Ab.out;have Bb:0≤(a1:Int):=of_decide_eq_true qy0;have Bc:a1 < (Aa.length:Int):=of_decide_eq_true qy0;obtain⟨Bm,Ct,Cu,Cv,Ad,Af,Ac,Aj,Ak⟩:=at_T48 Bk.out a1 Bb Bc;cases Cv;replace Ad:=(HB.out.cell (World.block_lt_of_cell? w _ Ad)).trans Ad;replace Af:=(HB.out.cell (World.block_lt_of_cell? w _ Af)).trans Af;replace Ac:=(HB.out.cell (World.block_lt_of_cell? w _ Ac)).trans Ac;have Cc:=y0.mk Ak;have Cd:=y0.mk Aj;clear Ak Aj;replace Bb:=eq_true Bb;replace Bc:=eq_true Bc)|((with_reducible refine y15 (f:=67) rfl ?_);refine y17 (some 16) rfl rfl Tryz.func67 (by kernel_rfl) rfl #[.int .i64 ((y20 Aa a1).f0)] rfl qy1 ?_;(with_reducible refine(impl_isSum.calls ((y20 Aa a1).f0) false _ A5.out).mono ?_);rintro e w' ⟨rfl,⟨nd,rfl⟩⟩;refine⟨_,rfl, ?_⟩;have Co:0≤(a1:Int):=of_decide_eq_true qy0;have Cp:a1 < (Aa.length:Int):=of_decide_eq_true qy0;obtain⟨Dk,Er,Es,Et,Au,Av,Am,Bn,Bo⟩:=at_T48 Bk.out a1 Co Cp;obtain rfl:Bm=Dk:=(by injection Et);replace Au:=(HB.out.cell (World.block_lt_of_cell? w _ Au)).trans Au;replace Av:=(HB.out.cell (World.block_lt_of_cell? w _ Av)).trans Av;replace Am:=(HB.out.cell (World.block_lt_of_cell? w _ Am)).trans Am;have Cq:=y0.mk Bo;have Ec:=y0.mk Bn;clear Bo Bn;replace Co:=eq_true Co;replace Cp:=eq_true Cp;have ea_:=Option.some.inj (Ac.symm.trans Am);injection ea_ with ea_ en_ ec_;subst ea_;subst ec_;clear en_))
  go_loopg [5,25] k (fun kq v5 Fk w'=>∃(Ay:List Int) (Ag:Int),Fk=.int .i64 Ag∧y0 (impl_Rule_plain.l0 kq Ay ((y20 Aa a1).f2) (((y20 Aa a1).f2).length:Int) Ag Aa Ar As Ah Ai=some r)∧y0 (kq≤k)∧y0 (Kd.R (Kd.int .i64) 3 w' w.heap.size (fun _=>True) v5 Ay)∧y0 (w'.heap[Cs]?=some (.cells #[(.slice (some Bm) Aa.length Bf),.int .i64 Ar,.string As,(.slice Bg Ah.length Bh),(.slice Bi Ai.length Bj)] 36 (0,0)))∧y0 (Below w.heap.size w w'))
  case atStart=>exact⟨(Aw),(0),qy2,H',⟨Nat.le_refl _⟩,⟨qR Ap.out⟩,⟨qk Ab.out⟩,⟨qb⟩⟩
  case round =>
   clear H'
   (try clear En Eo c6 Ce Cf Cg Ch Ci Cj Ck Cl Cm Cn Ad Af Ac Au Av Am Bb Co Bc Cp)
   obtain⟨Ay,Ag,rfl,HA,Eu,At,Ab,HB⟩:=hrel
   cases gk with
   | zero=>exact absurd HA.out (by simp [impl_Rule_plain.l0])
   | succ k1 =>
    have H:=HA.out
    clear HA
    simp only [impl_Rule_plain.l0]at H
    by_cases Dc:Ag < (((y20 Aa a1).f2).length:Int)
    ·rw [if_pos Dc]at H
     have Dl:=decide_eq_true Dc
     clear Dc
     obtain⟨Fd,H⟩:=qo H
     have Fe:decide (0≤Ag)=true:=decide_eq_true Fd
     clear Fd
     obtain⟨Ff,H⟩:=qo H
     have Fg:=decide_eq_true Ff
     clear Ff
     obtain⟨Cr,Fl,H⟩:=qB H
     obtain⟨Fh,H⟩:=qo H
     have Dm:=y0.mk Fh
     clear Fh
     obtain⟨Do,Bd⟩:∃ y_:List Int,y_=(Ay ++ Cr):=⟨_,rfl⟩
     replace H:(impl_Rule_plain.l0 k1 Do ((y20 Aa a1).f2) (((y20 Aa a1).f2).length:Int) (wrap64 (Ag + 1)) Aa Ar As Ah Ai)=some r:=by first|(rw [Bd];with_reducible exact H)|(have H2_:=(Option.bind_some _ _).symm.trans H;rw [Bd];with_reducible exact H2_)|(have H2_:=(Option.bind_some _ _).symm.trans H;with_reducible exact H2_)|with_reducible exact H|(rw [Bd];exact H)|exact H
     have Dp:=y0.mk Bd
     clear Bd
     have H':=y0.mk H
     clear H
     have Cy:0≤(Ag:Int):=of_decide_eq_true qy0
     have Cz:Ag < (((y20 Aa a1).f2).length:Int):=of_decide_eq_true qy0
     obtain⟨Fi,Ew,Az⟩:=Kd.at_int Cq.out Ag Cy Cz
     cases Ew
     replace Az:=(HB.out.cell (World.block_lt_of_cell? w _ Az)).trans Az
     replace Cy:=eq_true Cy
     replace Cz:=eq_true Cz
     obtain⟨Ed,Ee,Ef,Eg,Eh,Ei,Ej,Ek,El,Em⟩:=qz5 Ab.out
     go_wp2_with (first|((with_reducible refine y15 (f:=58) rfl ?_);refine y17 (some 32) rfl rfl Tryz.func58 (by kernel_rfl) rfl #[.agg #[.slice (some Bm) Aa.length Bf,.int .i64 Ar,.string As,.slice Bg Ah.length Bh,.slice Bi Ai.length Bj],.int .i64 (rd ((y20 Aa a1).f2) Ag)] rfl qy1 ?_;(with_reducible refine(ih k1 (by have:=Eu.out;omega) _ _ Aa Ar As _ _ Ah _ _ Ai (rd ((y20 Aa a1).f2) Ag) Cr _ (qc (Kd.C_below Bk.out HB.out)) Dd.out (qc (Kd.C_below De.out HB.out)) Df.out (qc (Kd.C_below Dg.out HB.out)) Dh.out Fl.out).mono ?_);rintro e Fs ⟨Fm,rfl,Ex,hb⟩;refine⟨_,rfl, ?_⟩;have Be:=y0.mk (Kd.R_lower (Kd.R_new' Ex (Kd.R_lt (qR At.out))) (y4 qb));replace At:=y0.mk (Kd.R_elder' (qR At.out) (Kd.R_base Ex) hb);replace Ab:=y0.mk (qK Ab.out hb);replace HB:=y0.mk (y5 qb hb);(try clear hb);(try clear Ex);obtain⟨Ey,Ez,Fa⟩:=Kd.R_slice Be.out;subst Fa)|((with_reducible refine gate_builtin (b:=.append) (xs:=#[.tmp 29,.tmp 32]) rfl ?_);at_builtin;refine Kd.R_append_rows (Kd.int .i64) (w0:=w) w.heap.size rfl (.tmp 29) (.tmp 32) 23 3 (.int .i64 0) 8 rfl Tryz.underlying23 info3 rfl (by decide) (by omega) u5 Ay Cr _ _ _ (fun k_=>some k_≠(.slice Ey Cr.length Ez:Value).ownBlock) (fun _=>False) rfl rfl ?aO ?aR (fun _ _ h=>h) (fun _ h=>h.elim) ?aF ?aB ?aS ?aL ?_;(case aR=>repeat(first|exact(Kd.R_reads' Be.out).2.2|(with_reducible refine Kd.C_alloc ?_ _)|(with_reducible refine Kd.C_drewN ?_ _)|(with_reducible refine Kd.C_drew ?_)));(case aB=>exact qb);(case aF=>exact(fun k_ hk=>Kd.fresh' (Kd.R_lt (qR Be.out)) k_ hk));(case aO=>exact(qR (Kd.R_mono At.out (fun _ hk=>hk.2))));(case aS=>exact(y4 qb));(case aL=>have:=Dm.out;omega);intro Fn Ft ho hb hg hat;rw [← Dp.out]at ho;replace Ab:=y0.mk (blk_grown (qk Ab.out) hg (Kd.R_ne At.out Ab.out (by decide)));replace Be:=y0.mk (Kd.R_after (ok:=(fun _=>True)) (qR Be.out) hg hat);replace HB:=y0.mk (hb);have Dq:=y0.mk (ho);clear At;clear ho hb hg hat))
     go_roundg k1
     case measure=>have:=Eu.out;omega
     exact⟨(Do),(wrap64 (Ag + 1)),qy2,H',⟨by have:=Eu.out;omega⟩,⟨qR (Kd.R_mono Dq.out (fun _ hk=>trivial))⟩,⟨qk Ab.out⟩,⟨qb⟩⟩
    ·rw [if_neg Dc]at H
     have Dl:=decide_eq_false Dc
     clear Dc
     obtain⟨Fb,Fo,H⟩:=qB H
     obtain rfl:=Option.some.inj H
     obtain⟨Da,Db,Fc⟩:=Kd.R_slice At.out
     subst Fc
     go_wp2_with (first|((with_reducible refine y15 (f:=75) rfl ?_);refine y17 (some 36) rfl rfl Tryz.func75 (by kernel_rfl) rfl #[.slice Da Ay.length Db] rfl qy1 ?_;(with_reducible refine(slices_Sort_int_int.calls (fun k_=>some k_=(.slice Da Ay.length Db:Value).ownBlock) (.slice Da Ay.length Db) Ay Fb w _ (by repeat(first|(with_reducible first|exact HB.out|apply below_alloc|apply y18|apply y2|refine y3 ?_ Bz.out)|exact HB.out)) (by exact Kd.R_tight rfl (qR At.out)) Fo.out).mono ?_);rintro e Fu ⟨rfl,Dj,hb,hkp⟩;refine⟨_,rfl, ?_⟩;replace Ab:=y0.mk (blk_kept (qk Ab.out) hkp (fun hs_=>(fun e_=>(Kd.R_ne At.out Ab.out (by decide)) e_) hs_));replace At:=y0.mk (Kd.R_reok rfl Dj (fun k_ e_=>At.out.1 k_ e_));replace HB:=y0.mk (hb);(try clear hb);(try clear hkp);(try clear Dj)))
     go_ret
     exact⟨_,by first|rfl|(simp [y12,y13] <;> rfl)|(simp [*,y12,y13] <;> rfl),by(with_reducible repeat(first|apply Kd.R_alloc|apply Kd.R_drewN|apply Kd.R_drew));exact At.out,qb⟩
end Go.Proofs.YtkdabljlfbmpdaaGreat.Pb
end
section
namespace Go.Proofs.YtkdabljlfbmpdaaGreat.Pb
open Go.RowKit Go.Proofs.YtkdabljlfbmpdaaGreatW.PrintWords Go.Proofs.YtkdabljlfbmpdaaGreatW.PrintLast Go.Proofs.YtkdabljlfbmpdaaGreatW.PrintMore
attribute [local go_sem] max2_int min2_int max_two min_two max_three min_three max_four min_four   -- for this text's walks alone
set_option linter.unusedVariables false
set_option linter.unusedSimpArgs false
mutual
def impl_Rule_within.l0:Nat→Int→List Int→List Int→Int→Int→List (S48)→Int→ByteArray→List Int→List (S33)→Option (List Int)
 | 0,_,_,_,_,_,_,_,_,_,_=>none
 | k + 1,x1,x5,x14,x15,x16,x446000,x446001,x446002,x446003,x446004=>if x16 < x15 then(if 0≤x16 then(if x16 < (x14.length:Int)then((impl_Rule_within.f k x446000 x446001 x446002 x446003 x446004 (rd x14 x16)).bind fun t451=>(if x5.length + t451.length < 17592186044416 then(impl_Rule_within.l0 k x1 (x5 ++ t451) x14 x15 (wrap64 (x16 + 1)) x446000 x446001 x446002 x446003 x446004)else(none)))else(none))else(none))else(if x5.length < 17592186044416 then((slices_Sort_int_int.f (x5 ++ [x1])).bind fun t460=>(some t460))else(none))
def impl_Rule_within.f:Nat→List (S48)→Int→ByteArray→List Int→List (S33)→Int→Option (List Int)
 | 0,_,_,_,_,_,_=>none
 | k + 1,l0_0,a0_1,a0_2,l0_3,l0_4,a1=>if 0≤a1 then(if a1 < (l0_0.length:Int)then(impl_Rule_within.l0 k a1 (([]:List Int)) ((y20 l0_0 a1).f2) (((y20 l0_0 a1).f2).length:Int) 0 l0_0 a0_1 a0_2 l0_3 l0_4)else(none))else(none)
end
set_option maxHeartbeats 8000000 in
set_option maxRecDepth 100000 in
theorem impl_Rule_within.calls (k:Nat):∀(Bm:Option Addr) (Ba:Nat) (Aa:List (S48)) (Aj:Int) (Ak:ByteArray) (Bb:Option Addr) (Bc:Nat) (Ad:List Int) (Bd:Option Addr) (Be:Nat) (Af:List (S33)) (a1:Int) (r:List Int) (w:World) (Bf:Kd.C k48 w Bm Aa.length Aa) (Bg:Aa.length≤Ba) (Bh:Kd.C (Kd.int .i64) w Bb Ad.length Ad) (Bi:Ad.length≤Bc) (Bj:Kd.C k33 w Bd Af.length Af) (Bk:Af.length≤Be) (h:impl_Rule_within.f k Aa Aj Ak Ad Af a1=some r),
  Calls Tryz.prog 62 #[.agg #[.slice Bm Aa.length Ba,.int .i64 Aj,.string Ak,.slice Bb Ad.length Bc,.slice Bd Af.length Be],.int .i64 a1] w fun e w'=>∃ v0_:Value,e=.returned (v0_)∧Kd.R (Kd.int .i64) 3 w' w.heap.size (fun _=>True) v0_ r∧Below w.heap.size w w':=by
 induction k using Nat.strongRecOn with
 | _ k ih =>
 intro Bm Ba Aa Aj Ak Bb Bc Ad Bd Be Af a1 r w Bf Bg Bh Bi Bj Bk h
 cases k with
 | zero=>exact absurd h (by simp [impl_Rule_within.f])
 | succ k =>
 simp only [impl_Rule_within.f]at h
 have Ej:=Tryz.underlying36
 have Br:=y0.mk Bf
 have Ck:=y0.mk Bg
 clear Bf Bg
 have Cl:=y0.mk Bh
 have Cm:=y0.mk Bi
 clear Bh Bi
 have Cn:=y0.mk Bj
 have Co:=y0.mk Bk
 clear Bj Bk
 have HB:=y0.mk (Below.refl w.heap.size w)
 have H:(if 0≤a1 then(if a1 < (Aa.length:Int)then(impl_Rule_within.l0 k a1 (([]:List Int)) ((y20 Aa a1).f2) (((y20 Aa a1).f2).length:Int) 0 Aa Aj Ak Ad Af)else(none))else(none))=some r:=h
 clear h
 obtain⟨Cp,As⟩:∃ y_:List Int,y_=(([]:List Int)):=⟨_,rfl⟩
 replace H:(if 0≤a1 then(if a1 < (Aa.length:Int)then(impl_Rule_within.l0 k a1 Cp ((y20 Aa a1).f2) (((y20 Aa a1).f2).length:Int) 0 Aa Aj Ak Ad Af)else(none))else(none))=some r:=by first|(rw [As];with_reducible exact H)|(have H2_:=(Option.bind_some _ _).symm.trans H;rw [As];with_reducible exact H2_)|(have H2_:=(Option.bind_some _ _).symm.trans H;with_reducible exact H2_)|with_reducible exact H|(rw [As];exact H)|exact H
 have Bs:=y0.mk As
 clear As
 obtain⟨c3,H⟩:=qo H
 have Dl:decide (0≤a1)=true:=decide_eq_true c3
 clear c3
 obtain⟨c4,H⟩:=qo H
 have Dm:decide (a1 < (Aa.length:Int))=true:=decide_eq_true c4
 clear c4
 have H':=y0.mk H
 clear H
 go_enter Tryz.func62,Tryz.ntmps62
 go_wp2_with (first|((with_reducible refine y16 (N:=2) rfl ?_);refine qe 2 #[.slice Bm Aa.length Ba,.int .i64 Aj,.string Ak,.slice Bb Ad.length Bc,.slice Bd Af.length Be] 36 ?_;intro Cq hg w5 hbox hb;have Ab:=y0.mk (hbox);have Ea:=y0.mk (qg (w:=w) hg);have Cr:=y0.mk (qg (w:=w) hg);replace HB:=y0.mk (y5 qb hb);clear hb hbox hg)|((with_reducible refine y16 (N:=8) rfl ?_);refine qL (Kd.int .i64) 3 8 ([]:List Int) ?_;intro Ek w6 Cs hb hg_ hnew_;clear hg_ hnew_;(first|rw [← Bs.out]at Cs|(simp only [Int.reduceToNat]at Cs;rw [← Bs.out]at Cs));have Ct:=y0.mk (Kd.R_lower Cs (y4 qb));replace Ab:=y0.mk (qK Ab.out hb);replace HB:=y0.mk (y5 qb hb);clear hb Cs;obtain⟨Bu,Bv,Bw,Bx,Bz,Ca,Cb,Cc,Cd,Ce⟩:=qz5 Ab.out;have Bn:0≤(a1:Int):=of_decide_eq_true qy0;have Bo:a1 < (Aa.length:Int):=of_decide_eq_true qy0;obtain⟨Bt,Do,Dp,Dq,Ag,Ah,Ai,Ay,Az⟩:=at_T48 Br.out a1 Bn Bo;cases Dq;replace Ag:=(HB.out.cell (World.block_lt_of_cell? w _ Ag)).trans Ag;replace Ah:=(HB.out.cell (World.block_lt_of_cell? w _ Ah)).trans Ah;replace Ai:=(HB.out.cell (World.block_lt_of_cell? w _ Ai)).trans Ai;have Bp:=y0.mk Az;have Da:=y0.mk Ay;clear Az Ay;replace Bn:=eq_true Bn;replace Bo:=eq_true Bo))
 go_loopg [5,16] k (fun kq v5 El w'=>∃(Aw:List Int) (Ac:Int),El=.int .i64 Ac∧y0 (impl_Rule_within.l0 kq a1 Aw ((y20 Aa a1).f2) (((y20 Aa a1).f2).length:Int) Ac Aa Aj Ak Ad Af=some r)∧y0 (kq≤k)∧y0 (Kd.R (Kd.int .i64) 3 w' w.heap.size (fun _=>True) v5 Aw)∧y0 (w'.heap[Cq]?=some (.cells #[(.slice (some Bt) Aa.length Ba),.int .i64 Aj,.string Ak,(.slice Bb Ad.length Bc),(.slice Bd Af.length Be)] 36 (0,0)))∧y0 (Below w.heap.size w w'))
 case atStart=>exact⟨(Cp),(0),qy2,H',⟨Nat.le_refl _⟩,⟨qR Ct.out⟩,⟨qk Ab.out⟩,⟨qb⟩⟩
 case round =>
  clear H'
  (try clear Dl Dm Bu Bv Bw Bx Bz Ca Cb Cc Cd Ce Ag Ah Ai Bn Bo)
  obtain⟨Aw,Ac,rfl,HA,Dr,Ap,Ab,HB⟩:=hrel
  cases gk with
  | zero=>exact absurd HA.out (by simp [impl_Rule_within.l0])
  | succ k1 =>
   have H:=HA.out
   clear HA
   simp only [impl_Rule_within.l0]at H
   by_cases c9:Ac < (((y20 Aa a1).f2).length:Int)
   ·rw [if_pos c9]at H
    have Ds:=decide_eq_true c9
    clear c9
    obtain⟨Eb,H⟩:=qo H
    have Ec:decide (0≤Ac)=true:=decide_eq_true Eb
    clear Eb
    obtain⟨Ed,H⟩:=qo H
    have Ee:=decide_eq_true Ed
    clear Ed
    obtain⟨Bq,Em,H⟩:=qB H
    obtain⟨Ef,H⟩:=qo H
    have Cu:=y0.mk Ef
    clear Ef
    obtain⟨Cv,At⟩:∃ y_:List Int,y_=(Aw ++ Bq):=⟨_,rfl⟩
    replace H:(impl_Rule_within.l0 k1 a1 Cv ((y20 Aa a1).f2) (((y20 Aa a1).f2).length:Int) (wrap64 (Ac + 1)) Aa Aj Ak Ad Af)=some r:=by first|(rw [At];with_reducible exact H)|(have H2_:=(Option.bind_some _ _).symm.trans H;rw [At];with_reducible exact H2_)|(have H2_:=(Option.bind_some _ _).symm.trans H;with_reducible exact H2_)|with_reducible exact H|(rw [At];exact H)|exact H
    have Cw:=y0.mk At
    clear At
    have H':=y0.mk H
    clear H
    have Cf:0≤(Ac:Int):=of_decide_eq_true qy0
    have Cg:Ac < (((y20 Aa a1).f2).length:Int):=of_decide_eq_true qy0
    obtain⟨Eg,Dt,Ar⟩:=Kd.at_int Bp.out Ac Cf Cg
    cases Dt
    replace Ar:=(HB.out.cell (World.block_lt_of_cell? w _ Ar)).trans Ar
    replace Cf:=eq_true Cf
    replace Cg:=eq_true Cg
    obtain⟨Db,Dc,Dd,De,Df,Dg,Dh,Di,Dj,Dk⟩:=qz5 Ab.out
    go_wp2_with (first|((with_reducible refine y15 (f:=62) rfl ?_);refine y17 (some 23) rfl rfl Tryz.func62 (by kernel_rfl) rfl #[.agg #[.slice (some Bt) Aa.length Ba,.int .i64 Aj,.string Ak,.slice Bb Ad.length Bc,.slice Bd Af.length Be],.int .i64 (rd ((y20 Aa a1).f2) Ac)] rfl qy1 ?_;(with_reducible refine(ih k1 (by have:=Dr.out;omega) _ _ Aa Aj Ak _ _ Ad _ _ Af (rd ((y20 Aa a1).f2) Ac) Bq _ (qc (Kd.C_below Br.out HB.out)) Ck.out (qc (Kd.C_below Cl.out HB.out)) Cm.out (qc (Kd.C_below Cn.out HB.out)) Co.out Em.out).mono ?_);rintro e Er ⟨En,rfl,Du,hb⟩;refine⟨_,rfl, ?_⟩;have Au:=y0.mk (Kd.R_lower (Kd.R_new' Du (Kd.R_lt (qR Ap.out))) (y4 qb));replace Ap:=y0.mk (Kd.R_elder' (qR Ap.out) (Kd.R_base Du) hb);replace Ab:=y0.mk (qK Ab.out hb);replace HB:=y0.mk (y5 qb hb);(try clear hb);(try clear Du);obtain⟨Dw,Dx,Dy⟩:=Kd.R_slice Au.out;subst Dy)|((with_reducible refine gate_builtin (b:=.append) (xs:=#[.tmp 20,.tmp 23]) rfl ?_);at_builtin;refine Kd.R_append_rows (Kd.int .i64) (w0:=w) w.heap.size rfl (.tmp 20) (.tmp 23) 23 3 (.int .i64 0) 8 rfl Tryz.underlying23 info3 rfl (by decide) (by omega) u5 Aw Bq _ _ _ (fun k_=>some k_≠(.slice Dw Bq.length Dx:Value).ownBlock) (fun _=>False) rfl rfl ?aO ?aR (fun _ _ h=>h) (fun _ h=>h.elim) ?aF ?aB ?aS ?aL ?_;(case aR=>repeat(first|exact(Kd.R_reads' Au.out).2.2|(with_reducible refine Kd.C_alloc ?_ _)|(with_reducible refine Kd.C_drewN ?_ _)|(with_reducible refine Kd.C_drew ?_)));(case aB=>exact qb);(case aF=>exact(fun k_ hk=>Kd.fresh' (Kd.R_lt (qR Au.out)) k_ hk));(case aO=>exact(qR (Kd.R_mono Ap.out (fun _ hk=>hk.2))));(case aS=>exact(y4 qb));(case aL=>have:=Cu.out;omega);intro Eo Es ho hb hg hat;rw [← Cw.out]at ho;replace Ab:=y0.mk (blk_grown (qk Ab.out) hg (Kd.R_ne Ap.out Ab.out (by decide)));replace Au:=y0.mk (Kd.R_after (ok:=(fun _=>True)) (qR Au.out) hg hat);replace HB:=y0.mk (hb);have Cx:=y0.mk (ho);clear Ap;clear ho hb hg hat))
    go_roundg k1
    case measure=>have:=Dr.out;omega
    exact⟨(Cv),(wrap64 (Ac + 1)),qy2,H',⟨by have:=Dr.out;omega⟩,⟨qR (Kd.R_mono Cx.out (fun _ hk=>trivial))⟩,⟨qk Ab.out⟩,⟨qb⟩⟩
   ·rw [if_neg c9]at H
    have Ds:=decide_eq_false c9
    clear c9
    obtain⟨Eh,H⟩:=qo H
    have Cy:=y0.mk Eh
    clear Eh
    obtain⟨Bl,Av⟩:∃ y_:List Int,y_=(Aw ++ [a1]):=⟨_,rfl⟩
    replace H:((slices_Sort_int_int.f Bl).bind fun Ch=>(some Ch))=some r:=by first|(rw [Av];with_reducible exact H)|(have H2_:=(Option.bind_some _ _).symm.trans H;rw [Av];with_reducible exact H2_)|(have H2_:=(Option.bind_some _ _).symm.trans H;with_reducible exact H2_)|with_reducible exact H|(rw [Av];exact H)|exact H
    have Cz:=y0.mk Av
    clear Av
    obtain⟨Ch,Ep,H⟩:=qB H
    obtain rfl:=Option.some.inj H
    go_wp2_with (first|((with_reducible refine gate_builtin (b:=.append) (xs:=#[.tmp 26,.tmp 28]) rfl ?_);at_builtin;refine Kd.R_append (Kd.int .i64) (w0:=w) w.heap.size rfl (.tmp 26) (.tmp 28) 23 3 (.int .i64 0) 8 rfl Tryz.underlying23 info3 rfl (by decide) (by omega) u5 Aw a1 [.int .i64 a1] (fun _=>True) (fun _=>False) rfl rfl ?aP (fun _ hk=>hk.elim) ?aF ?aO ?aB ?aS ?aL ?_;(case aP=>exact rfl);(case aB=>exact qb);(case aF=>exact(fun _ _=>trivial));(case aO=>exact(qR Ap.out));(case aS=>exact(y4 qb));(case aL=>have:=Cy.out;omega);intro Eq Et ho hb hg hat;rw [← Cz.out]at ho;replace Ab:=y0.mk (blk_grown (qk Ab.out) hg (Kd.R_ne Ap.out Ab.out (by decide)));replace HB:=y0.mk (hb);have Am:=y0.mk (ho);clear Ap;clear ho hb hg hat;obtain⟨Ci,Cj,Dz⟩:=Kd.R_slice Am.out;subst Dz)|((with_reducible refine y15 (f:=75) rfl ?_);refine y17 (some 31) rfl rfl Tryz.func75 (by kernel_rfl) rfl #[.slice Ci Bl.length Cj] rfl qy1 ?_;(with_reducible refine(slices_Sort_int_int.calls (fun k_=>some k_=(.slice Ci Bl.length Cj:Value).ownBlock) (.slice Ci Bl.length Cj) Bl Ch w _ (by repeat(first|(with_reducible first|exact HB.out|apply below_alloc|apply y18|apply y2|refine y3 ?_ Cr.out)|exact HB.out)) (by exact Kd.R_tight rfl (qR Am.out)) Ep.out).mono ?_);rintro e Eu ⟨rfl,Ei,hb,hkp⟩;refine⟨_,rfl, ?_⟩;replace Ab:=y0.mk (blk_kept (qk Ab.out) hkp (fun hs_=>(fun e_=>(Kd.R_ne Am.out Ab.out (by decide)) e_) hs_));replace Am:=y0.mk (Kd.R_reok rfl Ei (fun k_ e_=>Am.out.1 k_ e_));replace HB:=y0.mk (hb);(try clear hb);(try clear hkp);(try clear Ei)))
    go_ret
    exact⟨_,by first|rfl|(simp [y12,y13] <;> rfl)|(simp [*,y12,y13] <;> rfl),by(with_reducible repeat(first|apply Kd.R_alloc|apply Kd.R_drewN|apply Kd.R_drew));exact Am.out,qb⟩
def z6_.l0:Nat→List ByteArray→ByteArray→Int→Int→Option (Int)
 | 0,_,_,_,_=>none
 | k + 1,x0,x1,x7,x8=>if x8 < x7 then(if 0≤x8 then(if x8 < (x0.length:Int)then(if x1.toList=(rdOf ByteArray.empty x0 x8).toList then(some x8)else(z6_.l0 k x0 x1 x7 (wrap64 (x8 + 1))))else(none))else(none))else(some (-1))
def z6_.f (k:Nat) (l0:List ByteArray) (a1:ByteArray):Option (Int):=z6_.l0 k l0 a1 (l0.length:Int) 0
set_option maxHeartbeats 8000000 in
set_option maxRecDepth 100000 in
theorem z6_.calls (k:Nat) (A0:Option Addr) (c0:Nat) (l0:List ByteArray) (a1:ByteArray) (r:Int) (w:World) (Aj:Kd.C Kd.string w A0 l0.length l0) (Ak:l0.length≤c0) (h:z6_.f k l0 a1=some r) :
  Calls Tryz.prog 78 #[.slice A0 l0.length c0,.string a1] w fun e w'=>e=.returned (.int .i64 r)∧Drawn0 w w':=by
 have Ar:=y0.mk Aj
 have Au:=y0.mk Ak
 clear Aj Ak
 have H:(z6_.l0 k l0 a1 (l0.length:Int) 0)=some r:=h
 clear h
 have H':=y0.mk H
 clear H
 go_enter Tryz.func78,Tryz.ntmps78
 go_wp2
 go_loopg [8] k (fun kq v8 w'=>∃(Aa:Int),v8=.int .i64 Aa∧y0 (z6_.l0 kq l0 a1 (l0.length:Int) Aa=some r)∧y0 (kq≤k)∧Drawn0 w w')
 case atStart=>exact⟨(0),qy2,H',⟨Nat.le_refl _⟩,by repeat(first|exact Drawn0.refl _|apply Drawn0.step)⟩
 case round =>
  clear H'
  obtain⟨Aa,rfl,HA,Am,⟨m1,rfl⟩⟩:=hrel
  cases gk with
  | zero=>exact absurd HA.out (by simp [z6_.l0])
  | succ k1 =>
   have H:=HA.out
   clear HA
   simp only [z6_.l0]at H
   by_cases c3:Aa < (l0.length:Int)
   ·rw [if_pos c3]at H
    have Af:=decide_eq_true c3
    clear c3
    obtain⟨c4,H⟩:=qo H
    have As:decide (0≤Aa)=true:=decide_eq_true c4
    clear c4
    obtain⟨c5,H⟩:=qo H
    have At:decide (Aa < (l0.length:Int))=true:=decide_eq_true c5
    clear c5
    have Ab:0≤(Aa:Int):=of_decide_eq_true qy0
    have Ac:Aa < (l0.length:Int):=of_decide_eq_true qy0
    obtain⟨Ap,Ag,Ad⟩:=Kd.at_string Ar.out Aa Ab Ac
    cases Ag
    replace Ab:=eq_true Ab
    replace Ac:=eq_true Ac
    by_cases c6:a1.toList=(rdOf ByteArray.empty l0 Aa).toList
    ·rw [if_pos c6]at H
     have Ah:(a1.toList == (rdOf ByteArray.empty l0 Aa).toList)=true:=beq_iff_eq.mpr c6
     have Ai:(a1.toList != (rdOf ByteArray.empty l0 Aa).toList)=false:=bne_eq_false_iff_eq.mpr c6
     clear c6
     obtain rfl:=Option.some.inj H
     go_wp2
     go_ret
     exact qf2
    ·rw [if_neg c6]at H
     have Ah:(a1.toList == (rdOf ByteArray.empty l0 Aa).toList)=false:=beq_eq_false_iff_ne.mpr c6
     have Ai:(a1.toList != (rdOf ByteArray.empty l0 Aa).toList)=true:=bne_iff_ne.mpr c6
     have H':=y0.mk H
     clear H
     go_wp2
     go_roundg k1
     case measure=>have:=Am.out;omega
     exact⟨(wrap64 (Aa + 1)),qy2,H',⟨by have:=Am.out;omega⟩,by repeat(first|exact Drawn0.refl _|apply Drawn0.step)⟩
   ·rw [if_neg c3]at H
    have Af:=decide_eq_false c3
    clear c3
    obtain rfl:=Option.some.inj H
    go_wp2
    go_ret
    exact qf2
def slices_Contains_string_string.f (k:Nat) (l0:List ByteArray) (a1:ByteArray):Option (Bool):=(z6_.f k l0 a1).bind fun t462=>(some (decide (t462≥0)))
set_option maxHeartbeats 8000000 in
set_option maxRecDepth 100000 in
theorem slices_Contains_string_string.calls (k:Nat) (A0:Option Addr) (c0:Nat) (l0:List ByteArray) (a1:ByteArray) (r:Bool) (w:World) (hr0:Kd.C Kd.string w A0 l0.length l0) (hc0:l0.length≤c0) (h:slices_Contains_string_string.f k l0 a1=some r) :
  Calls Tryz.prog 65 #[.slice A0 l0.length c0,.string a1] w fun e w'=>e=.returned (.bool r)∧Drawn0 w w':=by
 have HR0:=y0.mk hr0
 have HC0:=y0.mk hc0
 clear hr0 hc0
 have H:((z6_.f k l0 a1).bind fun t462=>(some (decide (t462≥0))))=some r:=h
 clear h
 obtain⟨t462,A3,H⟩:=qB H
 obtain rfl:=Option.some.inj H
 go_enter Tryz.func65,Tryz.ntmps65
 go_wp2_with (first|((with_reducible refine y15 (f:=78) rfl ?_);refine y17 (some 7) rfl rfl Tryz.func78 (by kernel_rfl) rfl #[.slice A0 l0.length c0,.string a1] rfl qy1 ?_;(with_reducible refine(z6_.calls k _ _ l0 a1 t462 _ (qc HR0.out) HC0.out A3.out).mono ?_);rintro e w' ⟨rfl,⟨nd,rfl⟩⟩;refine⟨_,rfl, ?_⟩))
 go_ret
 exact qf2
def impl_Rule_vars.l0:Nat→List ByteArray→List Int→Int→Int→List (S48)→Int→ByteArray→List Int→List (S33)→Option (List ByteArray)
 | 0,_,_,_,_,_,_,_,_,_=>none
 | k + 1,x5,x12,x13,x14,x464000,x464001,x464002,x464003,x464004=>if x14 < x13 then(if 0≤x14 then(if x14 < (x12.length:Int)then(if 0≤(rd x12 x14)then(if(rd x12 x14) < (x464000.length:Int)then(if((y20 x464000 (rd x12 x14)).f0)=1 then((slices_Contains_string_string.f k x5 ((y20 x464000 (rd x12 x14)).f1)).bind fun t473=>(if t473=true then(impl_Rule_vars.l0 k x5 x12 x13 (wrap64 (x14 + 1)) x464000 x464001 x464002 x464003 x464004)else(if x5.length < 8796093022208 then(impl_Rule_vars.l0 k (x5 ++ [(y20 x464000 (rd x12 x14)).f1]) x12 x13 (wrap64 (x14 + 1)) x464000 x464001 x464002 x464003 x464004)else(none))))else(impl_Rule_vars.l0 k x5 x12 x13 (wrap64 (x14 + 1)) x464000 x464001 x464002 x464003 x464004))else(none))else(none))else(none))else(none))else(some x5)
def impl_Rule_vars.f (k:Nat) (l0_0:List (S48)) (a0_1:Int) (a0_2:ByteArray) (l0_3:List Int) (l0_4:List (S33)) (a1:Int):Option (List ByteArray):=(impl_Rule_within.f k l0_0 a0_1 a0_2 l0_3 l0_4 a1).bind fun t467=>(impl_Rule_vars.l0 k (([]:List ByteArray)) t467 (t467.length:Int) 0 l0_0 a0_1 a0_2 l0_3 l0_4)
set_option maxHeartbeats 8000000 in
set_option maxRecDepth 100000 in
theorem impl_Rule_vars.calls (k:Nat) (Br:Option Addr) (Bm:Nat) (Ac:List (S48)) (Az:Int) (Ba:ByteArray) (Bn:Option Addr) (Bo:Nat) (Aw:List Int) (Bp:Option Addr) (Bq:Nat) (Ay:List (S33)) (a1:Int) (r:List ByteArray) (w:World) (Bw:Kd.C k48 w Br Ac.length Ac) (Bx:Ac.length≤Bm) (Bz:Kd.C (Kd.int .i64) w Bn Aw.length Aw) (Ca:Aw.length≤Bo) (Cb:Kd.C k33 w Bp Ay.length Ay) (Cc:Ay.length≤Bq) (h:impl_Rule_vars.f k Ac Az Ba Aw Ay a1=some r) :
  Calls Tryz.prog 47 #[.agg #[.slice Br Ac.length Bm,.int .i64 Az,.string Ba,.slice Bn Aw.length Bo,.slice Bp Ay.length Bq],.int .i64 a1] w fun e w'=>∃ v0_:Value,e=.returned (v0_)∧Kd.R Kd.string 9 w' w.heap.size (fun _=>True) v0_ r∧Below w.heap.size w w':=by
 have Gk:=Tryz.underlying36
 have Gl:=Tryz.underlying48
 have Bi:=y0.mk Bw
 have Cw:=y0.mk Bx
 clear Bw Bx
 have Cx:=y0.mk Bz
 have Cy:=y0.mk Ca
 clear Bz Ca
 have Cz:=y0.mk Cb
 have Da:=y0.mk Cc
 clear Cb Cc
 have HB:=y0.mk (Below.refl w.heap.size w)
 have H:((impl_Rule_within.f k Ac Az Ba Aw Ay a1).bind fun Ab=>(impl_Rule_vars.l0 k (([]:List ByteArray)) Ab (Ab.length:Int) 0 Ac Az Ba Aw Ay))=some r:=h
 clear h
 obtain⟨Db,Bg⟩:∃ y_:List ByteArray,y_=(([]:List ByteArray)):=⟨_,rfl⟩
 replace H:((impl_Rule_within.f k Ac Az Ba Aw Ay a1).bind fun Ab=>(impl_Rule_vars.l0 k Db Ab (Ab.length:Int) 0 Ac Az Ba Aw Ay))=some r:=by first|(rw [Bg];with_reducible exact H)|(have H2_:=(Option.bind_some _ _).symm.trans H;rw [Bg];with_reducible exact H2_)|(have H2_:=(Option.bind_some _ _).symm.trans H;with_reducible exact H2_)|with_reducible exact H|(rw [Bg];exact H)|exact H
 have Cd:=y0.mk Bg
 clear Bg
 obtain⟨Ab,A3,H⟩:=qB H
 have H':=y0.mk H
 clear H
 go_enter Tryz.func47,Tryz.ntmps47
 go_wp2_with (first|((with_reducible refine y16 (N:=2) rfl ?_);refine qe 2 #[.slice Br Ac.length Bm,.int .i64 Az,.string Ba,.slice Bn Aw.length Bo,.slice Bp Ay.length Bq] 36 ?_;intro Ce hg w4 hbox hb;have Ag:=y0.mk (hbox);have Fq:=y0.mk (qg (w:=w) hg);have Fr:=y0.mk (qg (w:=w) hg);replace HB:=y0.mk (y5 qb hb);clear hb hbox hg)|((with_reducible refine y16 (N:=9) rfl ?_);refine qL Kd.string 9 9 ([]:List ByteArray) ?_;intro Gm w5 Dc hb hg_ hnew_;clear hg_ hnew_;(first|rw [← Cd.out]at Dc|(simp only [Int.reduceToNat]at Dc;rw [← Cd.out]at Dc));have Bs:=y0.mk (Kd.R_lower Dc (y4 qb));replace Ag:=y0.mk (qK Ag.out hb);replace HB:=y0.mk (y5 qb hb);clear hb Dc;obtain⟨Cj,Ck,Cl,Cm,Cn,Co,Cp,Cq,Cr,Cs⟩:=qz5 Ag.out)|((with_reducible refine y15 (f:=62) rfl ?_);refine y17 (some 12) rfl rfl Tryz.func62 (by kernel_rfl) rfl #[.agg #[.slice Br Ac.length Bm,.int .i64 Az,.string Ba,.slice Bn Aw.length Bo,.slice Bp Ay.length Bq],.int .i64 a1] rfl qy1 ?_;(with_reducible refine(impl_Rule_within.calls k _ _ Ac Az Ba _ _ Aw _ _ Ay a1 Ab _ (qc (Kd.C_below Bi.out HB.out)) Cw.out (qc (Kd.C_below Cx.out HB.out)) Cy.out (qc (Kd.C_below Cz.out HB.out)) Da.out A3.out).mono ?_);rintro e w8 ⟨Gn,rfl,Fs,hb⟩;refine⟨_,rfl, ?_⟩;replace Bs:=y0.mk (Kd.R_below (qR Bs.out) hb);have Cf:=y0.mk (Kd.R_lower Fs (y4 qb));replace Ag:=y0.mk (qK Ag.out hb);replace HB:=y0.mk (y5 qb hb);(try clear hb);(try clear Fs);obtain⟨Gp,Gq,Gr⟩:=Kd.R_slice Cf.out;subst Gr))
 go_loopg [5,14] k (fun kq v5 Gs w'=>∃(Bb:List ByteArray) (Aa:Int),Gs=.int .i64 Aa∧y0 (impl_Rule_vars.l0 kq Bb Ab (Ab.length:Int) Aa Ac Az Ba Aw Ay=some r)∧y0 (kq≤k)∧y0 (Kd.R Kd.string 9 w' w.heap.size (fun _=>True) v5 Bb)∧y0 (Kd.R (Kd.int .i64) 3 w' w.heap.size (fun _=>True) (.slice Gp Ab.length Gq) Ab)∧y0 (w'.heap[Ce]?=some (.cells #[(.slice Br Ac.length Bm),.int .i64 Az,.string Ba,(.slice Bn Aw.length Bo),(.slice Bp Ay.length Bq)] 36 (0,0)))∧y0 (Below w.heap.size w w'))
 case atStart=>exact⟨(Db),(0),qy2,H',⟨Nat.le_refl _⟩,⟨qR Bs.out⟩,⟨qR Cf.out⟩,⟨qk Ag.out⟩,⟨qb⟩⟩
 case round =>
  clear H'
  (try clear Cj Ck Cl Cm Cn Co Cp Cq Cr Cs)
  obtain⟨Bb,Aa,rfl,HA,Cu,Au,Ar,Ag,HB⟩:=hrel
  cases gk with
  | zero=>exact absurd HA.out (by simp [impl_Rule_vars.l0])
  | succ k1 =>
   have H:=HA.out
   clear HA
   simp only [impl_Rule_vars.l0]at H
   by_cases Cv:Aa < (Ab.length:Int)
   ·rw [if_pos Cv]at H
    have Dd:=decide_eq_true Cv
    clear Cv
    obtain⟨Ft,H⟩:=qo H
    have Fu:=decide_eq_true Ft
    clear Ft
    obtain⟨Fv,H⟩:=qo H
    have Fx:decide (Aa < (Ab.length:Int))=true:=decide_eq_true Fv
    clear Fv
    obtain⟨Fy,H⟩:=qo H
    have Fz:decide (0≤(rd Ab Aa))=true:=decide_eq_true Fy
    clear Fy
    obtain⟨Ga,H⟩:=qo H
    have Gb:decide ((rd Ab Aa) < (Ac.length:Int))=true:=decide_eq_true Ga
    clear Ga
    by_cases Ct:((y20 Ac (rd Ab Aa)).f0)=1
    ·rw [if_pos Ct]at H
     have De:(((y20 Ac (rd Ab Aa)).f0) == 1)=true:=beq_iff_eq.mpr Ct
     have Df:(((y20 Ac (rd Ab Aa)).f0) != 1)=false:=bne_eq_false_iff_eq.mpr Ct
     clear Ct
     obtain⟨Fl,Gc,H⟩:=qB H
     by_cases Dl:Fl=true
     ·subst Dl
      replace H:=qT H
      have H':=y0.mk H
      clear H
      have Bc:0≤(Aa:Int):=of_decide_eq_true qy0
      have Bd:Aa < (Ab.length:Int):=of_decide_eq_true qy0
      obtain⟨Cg,Bt,Bj⟩:=Kd.at_int (Kd.R_reads' Ar.out).2.2 Aa Bc Bd
      cases Bt
      replace Bc:=eq_true Bc
      replace Bd:=eq_true Bd
      obtain⟨Dm,Do,Dp,Dq,Dr,Ds,Dt,Du,Dw,Dx⟩:=qz5 Ag.out
      have Be:0≤((rd Ab Aa):Int):=of_decide_eq_true qy0
      have Bf:(rd Ab Aa) < (Ac.length:Int):=of_decide_eq_true qy0
      obtain⟨Bu,Am,Ap,Bv,Ah,Ai,Aj,As,At⟩:=at_T48 Bi.out (rd Ab Aa) Be Bf
      cases Bv
      replace Ah:=(HB.out.cell (World.block_lt_of_cell? w _ Ah)).trans Ah
      replace Ai:=(HB.out.cell (World.block_lt_of_cell? w _ Ai)).trans Ai
      replace Aj:=(HB.out.cell (World.block_lt_of_cell? w _ Aj)).trans Aj
      have Bk:=y0.mk At
      have Bl:=y0.mk As
      clear At As
      replace Be:=eq_true Be
      replace Bf:=eq_true Bf
      go_wp2_with (first|((with_reducible refine y16 (N:=8) rfl ?_);refine qe 8 #[.int .i64 0,.string (⟨#[]⟩:ByteArray),.slice none 0 0] 48 ?_;intro Af hg Gv hbox hb;replace Au:=y0.mk (Kd.R_below (qR Au.out) hb);replace Ar:=y0.mk (Kd.R_below (qR Ar.out) hb);have Ak:=y0.mk (hbox);have Ch:=y0.mk (qg (w:=w) hg);have Ci:=y0.mk (qg (w:=w) hg);replace HB:=y0.mk (y5 qb hb);have Ad:=y0.mk (qn Ag.out hg);have Av:=y0.mk (qm Ag.out hg);replace Ag:=y0.mk (qK Ag.out hb);clear hb hbox hg;have Gd:=Av.out;have Ge:=Ad.out;obtain⟨Dy,Dz,Ea,Eb,Ec,Ed⟩:=qz3 Ak.out;obtain⟨Gt,Fm,Fn⟩:=Kd.R_slice Au.out;subst Fn)|(go_at_call 65;(with_reducible refine(slices_Contains_string_string.calls k1 _ _ Bb ((y20 Ac (rd Ab Aa)).f1) true _ (by refine(Kd.R_reads' (e:=9) (base:=w.heap.size) (ok:=fun k_=>True) (n:=Bb.length) (c:=Fm) ?_).2.2;exact(qR ((Kd.R_mono (Kd.R_far (p:=⟨Af,2,none⟩) (Kd.R_far (p:=⟨Af,1,none⟩) (Kd.R_far (p:=⟨Af,0,none⟩) (Kd.R_types Au.out Ak.out (by decide)) (fun _ hk=>hk.2) (.int .i64 ((y20 Ac (rd Ab Aa)).f0))) (fun _ hk=>hk.2) (.string ((y20 Ac (rd Ab Aa)).f1))) (fun _ hk=>hk.2) (.slice Am ((y20 Ac (rd Ab Aa)).f2).length Ap)) (fun _ h_=>h_.1))))) (by exact(Kd.R_reads' Au.out).2.1) Gc.out).mono ?_);rintro e w' ⟨rfl,⟨nd,rfl⟩⟩))
      go_roundg k1
      case measure=>have:=Cu.out;omega
      exact⟨(Bb),(wrap64 (Aa + 1)),qy2,H',⟨by have:=Cu.out;omega⟩,⟨qR (Kd.R_mono (Kd.R_far (p:=⟨Af,2,none⟩) (Kd.R_far (p:=⟨Af,1,none⟩) (Kd.R_far (p:=⟨Af,0,none⟩) (Kd.R_types Au.out Ak.out (by decide)) (fun _ hk=>hk.2) (.int .i64 ((y20 Ac (rd Ab Aa)).f0))) (fun _ hk=>hk.2) (.string ((y20 Ac (rd Ab Aa)).f1))) (fun _ hk=>hk.2) (.slice Am ((y20 Ac (rd Ab Aa)).f2).length Ap)) (fun _ hk=>trivial))⟩,⟨qR (Kd.R_mono (Kd.R_far (p:=⟨Af,2,none⟩) (Kd.R_far (p:=⟨Af,1,none⟩) (Kd.R_far (p:=⟨Af,0,none⟩) (Kd.R_types Ar.out Ak.out (by decide)) (fun _ hk=>hk.2) (.int .i64 ((y20 Ac (rd Ab Aa)).f0))) (fun _ hk=>hk.2) (.string ((y20 Ac (rd Ab Aa)).f1))) (fun _ hk=>hk.2) (.slice Am ((y20 Ac (rd Ab Aa)).f2).length Ap)) (fun _ hk=>trivial))⟩,⟨by(with_reducible repeat(first|refine y10 ?_ _|refine y9 ?_|refine y6 ?_ _));refine y11 ?_ Ad.out _;(with_reducible repeat(first|refine y10 ?_ _|refine y9 ?_|refine y6 ?_ _));refine y11 ?_ Ad.out _;(with_reducible repeat(first|refine y10 ?_ _|refine y9 ?_|refine y6 ?_ _));refine y11 ?_ Ad.out _;(with_reducible repeat(first|refine y10 ?_ _|refine y9 ?_|refine y6 ?_ _));exact Ag.out⟩,⟨qb⟩⟩
     ·replace Dl:=Bool.eq_false_iff.mpr Dl
      subst Dl
      replace H:=qF H
      obtain⟨Gf,H⟩:=qo H
      have Dg:=y0.mk Gf
      clear Gf
      obtain⟨Dh,Bh⟩:∃ y_:List ByteArray,y_=(Bb ++ [(y20 Ac (rd Ab Aa)).f1]):=⟨_,rfl⟩
      replace H:(impl_Rule_vars.l0 k1 Dh Ab (Ab.length:Int) (wrap64 (Aa + 1)) Ac Az Ba Aw Ay)=some r:=by first|(rw [Bh];with_reducible exact H)|(have H2_:=(Option.bind_some _ _).symm.trans H;rw [Bh];with_reducible exact H2_)|(have H2_:=(Option.bind_some _ _).symm.trans H;with_reducible exact H2_)|with_reducible exact H|(rw [Bh];exact H)|exact H
      have Di:=y0.mk Bh
      clear Bh
      have H':=y0.mk H
      clear H
      have Bc:0≤(Aa:Int):=of_decide_eq_true qy0
      have Bd:Aa < (Ab.length:Int):=of_decide_eq_true qy0
      obtain⟨Cg,Bt,Bj⟩:=Kd.at_int (Kd.R_reads' Ar.out).2.2 Aa Bc Bd
      cases Bt
      replace Bc:=eq_true Bc
      replace Bd:=eq_true Bd
      obtain⟨Ee,Ef,Eg,Eh,Ei,Ej,Ek,El,Em,En⟩:=qz5 Ag.out
      have Be:0≤((rd Ab Aa):Int):=of_decide_eq_true qy0
      have Bf:(rd Ab Aa) < (Ac.length:Int):=of_decide_eq_true qy0
      obtain⟨Bu,Am,Ap,Bv,Ah,Ai,Aj,As,At⟩:=at_T48 Bi.out (rd Ab Aa) Be Bf
      cases Bv
      replace Ah:=(HB.out.cell (World.block_lt_of_cell? w _ Ah)).trans Ah
      replace Ai:=(HB.out.cell (World.block_lt_of_cell? w _ Ai)).trans Ai
      replace Aj:=(HB.out.cell (World.block_lt_of_cell? w _ Aj)).trans Aj
      have Bk:=y0.mk At
      have Bl:=y0.mk As
      clear At As
      replace Be:=eq_true Be
      replace Bf:=eq_true Bf
      go_wp2_with (first|((with_reducible refine y16 (N:=8) rfl ?_);refine qe 8 #[.int .i64 0,.string (⟨#[]⟩:ByteArray),.slice none 0 0] 48 ?_;intro Af hg Gw hbox hb;replace Au:=y0.mk (Kd.R_below (qR Au.out) hb);replace Ar:=y0.mk (Kd.R_below (qR Ar.out) hb);have Ak:=y0.mk (hbox);have Ch:=y0.mk (qg (w:=w) hg);have Ci:=y0.mk (qg (w:=w) hg);replace HB:=y0.mk (y5 qb hb);have Ad:=y0.mk (qn Ag.out hg);have Av:=y0.mk (qm Ag.out hg);replace Ag:=y0.mk (qK Ag.out hb);clear hb hbox hg;have Gg:=Av.out;have Gh:=Ad.out;obtain⟨Eo,Ep,Eq,Er,Es,Et⟩:=qz3 Ak.out;obtain⟨Fo,Dj,Fp⟩:=Kd.R_slice Au.out;subst Fp)|(go_at_call 65;(with_reducible refine(slices_Contains_string_string.calls k1 _ _ Bb ((y20 Ac (rd Ab Aa)).f1) false _ (by refine(Kd.R_reads' (e:=9) (base:=w.heap.size) (ok:=fun k_=>True) (n:=Bb.length) (c:=Dj) ?_).2.2;exact(qR ((Kd.R_mono (Kd.R_far (p:=⟨Af,2,none⟩) (Kd.R_far (p:=⟨Af,1,none⟩) (Kd.R_far (p:=⟨Af,0,none⟩) (Kd.R_types Au.out Ak.out (by decide)) (fun _ hk=>hk.2) (.int .i64 ((y20 Ac (rd Ab Aa)).f0))) (fun _ hk=>hk.2) (.string ((y20 Ac (rd Ab Aa)).f1))) (fun _ hk=>hk.2) (.slice Am ((y20 Ac (rd Ab Aa)).f2).length Ap)) (fun _ h_=>h_.1))))) (by exact(Kd.R_reads' Au.out).2.1) Gc.out).mono ?_);rintro e w' ⟨rfl,⟨nd,rfl⟩⟩)|((with_reducible refine gate_builtin (b:=.append) (xs:=#[.tmp 33,.tmp 36]) rfl ?_);at_builtin;refine Kd.R_append Kd.string (w0:=w) w.heap.size rfl (.tmp 33) (.tmp 36) 30 9 (.string ⟨#[]⟩) 16 rfl Tryz.underlying30 info9 rfl (by decide) (by omega) (.slice Fo Bb.length Dj) Bb ((y20 Ac (rd Ab Aa)).f1) [.string ((y20 Ac (rd Ab Aa)).f1)] (fun _=>True) (fun _=>False) rfl (by first|(go_simp;done)|(go_simp;rfl)) ?aP (fun _ hk=>hk.elim) ?aF ?aO ?aB ?aS ?aL ?_;(case aP=>exact rfl);(case aB=>exact qb);(case aF=>exact(fun _ _=>trivial));(case aO=>exact(qR (Kd.R_mono (Kd.R_far (p:=⟨Af,2,none⟩) (Kd.R_far (p:=⟨Af,1,none⟩) (Kd.R_far (p:=⟨Af,0,none⟩) (Kd.R_types Au.out Ak.out (by decide)) (fun _ hk=>hk.2) (.int .i64 ((y20 Ac (rd Ab Aa)).f0))) (fun _ hk=>hk.2) (.string ((y20 Ac (rd Ab Aa)).f1))) (fun _ hk=>hk.2) (.slice Am ((y20 Ac (rd Ab Aa)).f2).length Ap)) (fun _ hk=>trivial))));(case aS=>exact(y4 qb));(case aL=>have:=Dg.out;omega);intro Gu Gx ho hb hg hat;rw [← Di.out]at ho;replace Ar:=y0.mk (Kd.R_over' (qR ((Kd.R_mono (Kd.R_far (p:=⟨Af,2,none⟩) (Kd.R_far (p:=⟨Af,1,none⟩) (Kd.R_far (p:=⟨Af,0,none⟩) (Kd.R_types Ar.out Ak.out (by decide)) (fun _ hk=>hk.2) (.int .i64 ((y20 Ac (rd Ab Aa)).f0))) (fun _ hk=>hk.2) (.string ((y20 Ac (rd Ab Aa)).f1))) (fun _ hk=>hk.2) (.slice Am ((y20 Ac (rd Ab Aa)).f2).length Ap)) (fun _ h_=>h_.1)))) (Kd.R_typed (qR ((Kd.R_mono (Kd.R_far (p:=⟨Af,2,none⟩) (Kd.R_far (p:=⟨Af,1,none⟩) (Kd.R_far (p:=⟨Af,0,none⟩) (Kd.R_types Au.out Ak.out (by decide)) (fun _ hk=>hk.2) (.int .i64 ((y20 Ac (rd Ab Aa)).f0))) (fun _ hk=>hk.2) (.string ((y20 Ac (rd Ab Aa)).f1))) (fun _ hk=>hk.2) (.slice Am ((y20 Ac (rd Ab Aa)).f2).length Ap)) (fun _ h_=>h_.1))))) (by decide) hg);replace Ag:=y0.mk (blk_grown (g:=Ce) (o:=.cells #[.slice (some Bu) Ac.length Bm,.int .i64 Az,.string Ba,.slice Bn Aw.length Bo,.slice Bp Ay.length Bq] 36 (0,0)) (by(with_reducible repeat(first|refine y10 ?_ _|refine y9 ?_|refine y6 ?_ _));refine y11 ?_ Ad.out _;(with_reducible repeat(first|refine y10 ?_ _|refine y9 ?_|refine y6 ?_ _));refine y11 ?_ Ad.out _;(with_reducible repeat(first|refine y10 ?_ _|refine y9 ?_|refine y6 ?_ _));refine y11 ?_ Ad.out _;(with_reducible repeat(first|refine y10 ?_ _|refine y9 ?_|refine y6 ?_ _));exact Ag.out) hg (Kd.R_ne Au.out Ag.out (by decide)));replace Ak:=y0.mk (blk_grown (g:=Af) (o:=.cells #[.int .i64 ((y20 Ac (rd Ab Aa)).f0),.string ((y20 Ac (rd Ab Aa)).f1),.slice Am ((y20 Ac (rd Ab Aa)).f2).length Ap] 48 (0,0)) (by(with_reducible repeat(first|refine y10 ?_ _|refine y9 ?_|refine y6 ?_ _));refine blk_put (cs:=#[.int .i64 ((y20 Ac (rd Ab Aa)).f0),.string ((y20 Ac (rd Ab Aa)).f1),.slice none 0 0]) ?_ 2 _ rfl;(with_reducible repeat(first|refine y10 ?_ _|refine y9 ?_|refine y6 ?_ _));refine blk_put (cs:=#[.int .i64 ((y20 Ac (rd Ab Aa)).f0),.string (⟨#[]⟩:ByteArray),.slice none 0 0]) ?_ 1 _ rfl;(with_reducible repeat(first|refine y10 ?_ _|refine y9 ?_|refine y6 ?_ _));refine blk_put (cs:=#[.int .i64 0,.string (⟨#[]⟩:ByteArray),.slice none 0 0]) ?_ 0 _ rfl;(with_reducible repeat(first|refine y10 ?_ _|refine y9 ?_|refine y6 ?_ _));exact Ak.out) hg (Kd.R_ne Au.out Ak.out (by decide)));replace HB:=y0.mk (hb);have Dk:=y0.mk (ho);clear Au;clear ho hb hg hat))
      go_roundg k1
      case measure=>have:=Cu.out;omega
      exact⟨(Dh),(wrap64 (Aa + 1)),qy2,H',⟨by have:=Cu.out;omega⟩,⟨qR Dk.out⟩,⟨qR Ar.out⟩,⟨qk Ag.out⟩,⟨qb⟩⟩
    ·rw [if_neg Ct]at H
     have De:(((y20 Ac (rd Ab Aa)).f0) == 1)=false:=beq_eq_false_iff_ne.mpr Ct
     have Df:(((y20 Ac (rd Ab Aa)).f0) != 1)=true:=bne_iff_ne.mpr Ct
     have H':=y0.mk H
     clear H
     have Bc:0≤(Aa:Int):=of_decide_eq_true qy0
     have Bd:Aa < (Ab.length:Int):=of_decide_eq_true qy0
     obtain⟨Cg,Bt,Bj⟩:=Kd.at_int (Kd.R_reads' Ar.out).2.2 Aa Bc Bd
     cases Bt
     replace Bc:=eq_true Bc
     replace Bd:=eq_true Bd
     obtain⟨Eu,Ew,Ex,Ey,Ez,Fa,Fb,Fc,Fd,Fe⟩:=qz5 Ag.out
     have Be:0≤((rd Ab Aa):Int):=of_decide_eq_true qy0
     have Bf:(rd Ab Aa) < (Ac.length:Int):=of_decide_eq_true qy0
     obtain⟨Bu,Am,Ap,Bv,Ah,Ai,Aj,As,At⟩:=at_T48 Bi.out (rd Ab Aa) Be Bf
     cases Bv
     replace Ah:=(HB.out.cell (World.block_lt_of_cell? w _ Ah)).trans Ah
     replace Ai:=(HB.out.cell (World.block_lt_of_cell? w _ Ai)).trans Ai
     replace Aj:=(HB.out.cell (World.block_lt_of_cell? w _ Aj)).trans Aj
     have Bk:=y0.mk At
     have Bl:=y0.mk As
     clear At As
     replace Be:=eq_true Be
     replace Bf:=eq_true Bf
     go_wp2_with (first|((with_reducible refine y16 (N:=8) rfl ?_);refine qe 8 #[.int .i64 0,.string (⟨#[]⟩:ByteArray),.slice none 0 0] 48 ?_;intro Af hg Gy hbox hb;replace Au:=y0.mk (Kd.R_below (qR Au.out) hb);replace Ar:=y0.mk (Kd.R_below (qR Ar.out) hb);have Ak:=y0.mk (hbox);have Ch:=y0.mk (qg (w:=w) hg);have Ci:=y0.mk (qg (w:=w) hg);replace HB:=y0.mk (y5 qb hb);have Ad:=y0.mk (qn Ag.out hg);have Av:=y0.mk (qm Ag.out hg);replace Ag:=y0.mk (qK Ag.out hb);clear hb hbox hg;have Gi:=Av.out;have Gj:=Ad.out;obtain⟨Ff,Fg,Fh,Fi,Fj,Fk⟩:=qz3 Ak.out))
     go_roundg k1
     case measure=>have:=Cu.out;omega
     exact⟨(Bb),(wrap64 (Aa + 1)),qy2,H',⟨by have:=Cu.out;omega⟩,⟨qR (Kd.R_mono (Kd.R_far (p:=⟨Af,2,none⟩) (Kd.R_far (p:=⟨Af,1,none⟩) (Kd.R_far (p:=⟨Af,0,none⟩) (Kd.R_types Au.out Ak.out (by decide)) (fun _ hk=>hk.2) (.int .i64 ((y20 Ac (rd Ab Aa)).f0))) (fun _ hk=>hk.2) (.string ((y20 Ac (rd Ab Aa)).f1))) (fun _ hk=>hk.2) (.slice Am ((y20 Ac (rd Ab Aa)).f2).length Ap)) (fun _ hk=>trivial))⟩,⟨qR (Kd.R_mono (Kd.R_far (p:=⟨Af,2,none⟩) (Kd.R_far (p:=⟨Af,1,none⟩) (Kd.R_far (p:=⟨Af,0,none⟩) (Kd.R_types Ar.out Ak.out (by decide)) (fun _ hk=>hk.2) (.int .i64 ((y20 Ac (rd Ab Aa)).f0))) (fun _ hk=>hk.2) (.string ((y20 Ac (rd Ab Aa)).f1))) (fun _ hk=>hk.2) (.slice Am ((y20 Ac (rd Ab Aa)).f2).length Ap)) (fun _ hk=>trivial))⟩,⟨by(with_reducible repeat(first|refine y10 ?_ _|refine y9 ?_|refine y6 ?_ _));refine y11 ?_ Ad.out _;(with_reducible repeat(first|refine y10 ?_ _|refine y9 ?_|refine y6 ?_ _));refine y11 ?_ Ad.out _;(with_reducible repeat(first|refine y10 ?_ _|refine y9 ?_|refine y6 ?_ _));refine y11 ?_ Ad.out _;(with_reducible repeat(first|refine y10 ?_ _|refine y9 ?_|refine y6 ?_ _));exact Ag.out⟩,⟨qb⟩⟩
   ·rw [if_neg Cv]at H
    have Dd:=decide_eq_false Cv
    clear Cv
    obtain rfl:=Option.some.inj H
    go_wp2
    go_ret
    exact⟨_,by first|rfl|(simp [y12,y13] <;> rfl)|(simp [*,y12,y13] <;> rfl),by(with_reducible repeat(first|apply Kd.R_alloc|apply Kd.R_drewN|apply Kd.R_drew));exact Au.out,qb⟩
def impl_Rule_isPattern_1.f (a0:Int) (l1_0:List (S48)) (a1_1:Int) (a1_2:ByteArray) (l1_3:List Int) (l1_4:List (S33)):Option (Bool):=if 0≤a0 then(if a0 < (l1_0.length:Int)then((impl_isSum.f ((y20 l1_0 a0).f0)).bind fun t478=>(some t478))else(none))else(none)
set_option maxHeartbeats 8000000 in
set_option maxRecDepth 100000 in
theorem impl_Rule_isPattern_1.calls (a0:Int) (At:Option Addr) (Au:Nat) (Aa:List (S48)) (Av:Int) (Aw:ByteArray) (Ay:Option Addr) (Az:Nat) (Ad:List Int) (Ba:Option Addr) (Bb:Nat) (Af:List (S33)) (g1:Nat) (r:Bool) (w:World) (Ag:Kd.C k48 w At Aa.length Aa) (Ah:Aa.length≤Au) (Ai:Kd.C (Kd.int .i64) w Ay Ad.length Ad) (Aj:Ad.length≤Az) (Ak:Kd.C k33 w Ba Af.length Af) (Am:Af.length≤Bb) (Bc:w.heap[g1]?=some (.cells #[.slice At Aa.length Au,.int .i64 Av,.string Aw,.slice Ay Ad.length Az,.slice Ba Af.length Bb] 36 (0,0))) (h:impl_Rule_isPattern_1.f a0 Aa Av Aw Ad Af=some r) :
  Calls Tryz.prog 76 #[.int .i64 a0,.pointer (some ⟨g1,0,none⟩)] w fun e w'=>e=.returned (.bool r)∧Drawn0 w w':=by
 have Bd:=y0.mk Ag
 have Bw:=y0.mk Ah
 clear Ag Ah
 have Bx:=y0.mk Ai
 have Bz:=y0.mk Aj
 clear Ai Aj
 have Ca:=y0.mk Ak
 have Cb:=y0.mk Am
 clear Ak Am
 have Cd:=y0.mk Bc
 clear Bc
 have H:(if 0≤a0 then(if a0 < (Aa.length:Int)then((impl_isSum.f ((y20 Aa a0).f0)).bind fun Ap=>(some Ap))else(none))else(none))=some r:=h
 clear h
 obtain⟨c3,H⟩:=qo H
 have Ce:decide (0≤a0)=true:=decide_eq_true c3
 clear c3
 obtain⟨c4,H⟩:=qo H
 have Cf:decide (a0 < (Aa.length:Int))=true:=decide_eq_true c4
 clear c4
 obtain⟨Ap,A5,H⟩:=qB H
 obtain rfl:=Option.some.inj H
 obtain⟨Bj,Bk,Bl,Bm,Bn,Bo,Bp,Bq,Br,Bs⟩:=qz5 Cd.out
 have Ar:0≤(a0:Int):=of_decide_eq_true qy0
 have As:a0 < (Aa.length:Int):=of_decide_eq_true qy0
 obtain⟨Cc,Bt,Bu,Bv,Be,Bf,Bg,Ab,Ac⟩:=at_T48 Bd.out a0 Ar As
 cases Bv
 have Bh:=y0.mk Ac
 have Bi:=y0.mk Ab
 clear Ac Ab
 replace Ar:=eq_true Ar
 replace As:=eq_true As
 go_enter Tryz.func76,Tryz.ntmps76
 go_wp2_with (first|((with_reducible refine y15 (f:=67) rfl ?_);refine y17 (some 10) rfl rfl Tryz.func67 (by kernel_rfl) rfl #[.int .i64 ((y20 Aa a0).f0)] rfl qy1 ?_;(with_reducible refine(impl_isSum.calls ((y20 Aa a0).f0) Ap _ A5.out).mono ?_);rintro e w' ⟨rfl,⟨nd,rfl⟩⟩;refine⟨_,rfl, ?_⟩))
 go_ret
 exact qf2
end Go.Proofs.YtkdabljlfbmpdaaGreat.Pb
end
