-- Cut by prune.py, a program of this session, out of the texts of this claim: Lean checks it.
import Derived.Test.YtkdabljlfbmpdaaVolPox0
import Derived.Test.YtkdabljlfbmpdaaVolPox13
import Derived.Test.YtkdabljlfbmpdaaVolPox10
section
namespace Go.Proofs.Ytkdabljlfbmpdaa.Po
open Go.RowKit Go.Proofs.YtkdabljlfbmpdaaW.PrintWords Go.Proofs.YtkdabljlfbmpdaaW.PrintLast Go.Proofs.YtkdabljlfbmpdaaW.PrintMore
attribute [local go_sem] max2_int min2_int max_two min_two max_three min_three max_four min_four   -- for this text's walks alone
set_option linter.unusedVariables false
set_option linter.unusedSimpArgs false
def z3_.f (k:Nat) (l0_0:List (S63)) (a0_1:Int) (a0_2:ByteArray) (l0_3:List Int) (l0_4:List (S33)) (a1_0:Int) (a1_1:ByteArray) (l1_2:List Int):Option (ByteArray):=if a1_0=3 then(if 0 < (l1_2.length:Int)then((z0_.f k l0_0 a0_1 a0_2 l0_3 l0_4 (rd l1_2 0)).bind fun t403=>(if t403.size + 1≤9223372036854775807 then(if(t403 ++ (⟨#[32]⟩:ByteArray)).size + a1_1.size≤9223372036854775807 then(if((t403 ++ (⟨#[32]⟩:ByteArray)) ++ a1_1).size + 1≤9223372036854775807 then(if 1 < (l1_2.length:Int)then((z0_.f k l0_0 a0_1 a0_2 l0_3 l0_4 (rd l1_2 1)).bind fun t405=>(if(((t403 ++ (⟨#[32]⟩:ByteArray)) ++ a1_1) ++ (⟨#[32]⟩:ByteArray)).size + t405.size≤9223372036854775807 then(some ((((t403 ++ (⟨#[32]⟩:ByteArray)) ++ a1_1) ++ (⟨#[32]⟩:ByteArray)) ++ t405))else(none)))else(none))else(none))else(none))else(none)))else(none))else(if a1_0=2 then(if 1 + a1_1.size≤9223372036854775807 then(if((⟨#[33]⟩:ByteArray) ++ a1_1).size + 1≤9223372036854775807 then((z1_.f k l0_0 a0_1 a0_2 l0_3 l0_4 l1_2).bind fun t406=>(if(((⟨#[33]⟩:ByteArray) ++ a1_1) ++ (⟨#[40]⟩:ByteArray)).size + t406.size≤9223372036854775807 then(if((((⟨#[33]⟩:ByteArray) ++ a1_1) ++ (⟨#[40]⟩:ByteArray)) ++ t406).size + 1≤9223372036854775807 then(some (((((⟨#[33]⟩:ByteArray) ++ a1_1) ++ (⟨#[40]⟩:ByteArray)) ++ t406) ++ (⟨#[41]⟩:ByteArray)))else(none))else(none)))else(none))else(none))else(if a1_1.size + 1≤9223372036854775807 then((z1_.f k l0_0 a0_1 a0_2 l0_3 l0_4 l1_2).bind fun t407=>(if(a1_1 ++ (⟨#[40]⟩:ByteArray)).size + t407.size≤9223372036854775807 then(if((a1_1 ++ (⟨#[40]⟩:ByteArray)) ++ t407).size + 1≤9223372036854775807 then(some (((a1_1 ++ (⟨#[40]⟩:ByteArray)) ++ t407) ++ (⟨#[41]⟩:ByteArray)))else(none))else(none)))else(none)))
def z3_.T3:Bool×List (List Nat×List Nat):=(true,[([],[]),([],[]),([1],[1]),([2],[2]),([3],[3]),([0,4],[0,4]),([5],[5]),([],[]),([7],[7]),([6,8],[6,8]),([9],[9]),([],[]),([],[]),([12],[12]),([13],[13]),([14],[14]),([11,15,5],[11,15]),([10,16],[10,16]),([17,16,0,1,2,3,4,5,6,7,8,9,10,11,12,13,14,15,16,17],[17])])
def z3_.B3:List Nat:=[0,0,2,6,14,31,63,0,128,511,1023,0,0,4096,12288,28672,63551,131071,262143]
theorem z3_.tab3:rtab .any (opsOf Try.f68 3)=z3_.T3:=by kernel_rfl
theorem z3_.bits3:waitsOk z3_.T3.2 z3_.B3=true:=by kernel_rfl
def z3_.T5:Bool×List (List Nat×List Nat):=(true,[([],[]),([0],[0]),([1],[1]),([2],[2]),([],[]),([],[]),([5],[5]),([4,6],[4,6]),([3,7],[3,7]),([8],[8]),([9,7,0,1,2,3,4,5,6,7,8,9],[9])])
def z3_.B5:List Nat:=[0,1,3,7,0,0,32,112,255,511,1023]
theorem z3_.tab5:rtab .any (opsOf Try.f68 5)=z3_.T5:=by kernel_rfl
theorem z3_.bits5:waitsOk z3_.T5.2 z3_.B5=true:=by kernel_rfl
def z3_.T6:Bool×List (List Nat×List Nat):=(true,[([],[]),([0],[0]),([1],[1]),([],[]),([],[]),([4],[4]),([3,5],[3,5]),([2,6],[2,6]),([7],[7]),([8,6,0,1,2,3,4,5,6,7,8],[8])])
def z3_.B6:List Nat:=[0,1,3,0,0,16,56,127,255,511]
theorem z3_.tab6:rtab .any (opsOf Try.f68 6)=z3_.T6:=by kernel_rfl
theorem z3_.bits6:waitsOk z3_.T6.2 z3_.B6=true:=by kernel_rfl
set_option maxHeartbeats 8000000 in
set_option maxRecDepth 100000 in
theorem z3_.calls (k:Nat) (Ay:Option Addr) (Az:Nat) (Ai:List (S63)) (Am:Int) (Ap:ByteArray) (Ba:Option Addr) (Bb:Nat) (Aj:List Int) (Bc:Option Addr) (Bd:Nat) (Ak:List (S33)) (Ar:Int) (Ad:ByteArray) (Bg:Option Addr) (Be:Nat) (Ac:List Int) (r:ByteArray) (w:World) (Bs:Kd.C k63 w Ay Ai.length Ai) (Bt:Ai.length≤Az) (Bu:Kd.C (Kd.int .i64) w Ba Aj.length Aj) (Bv:Aj.length≤Bb) (Bw:Kd.C k33 w Bc Ak.length Ak) (Bx:Ak.length≤Bd) (Bz:Kd.C (Kd.int .i64) w Bg Ac.length Ac) (Ca:Ac.length≤Be) (h:z3_.f k Ai Am Ap Aj Ak Ar Ad Ac=some r) :
  Calls Try.prog 68 #[.agg #[.slice Ay Ai.length Az,.int .i64 Am,.string Ap,.slice Ba Aj.length Bb,.slice Bc Ak.length Bd],.agg #[.int .i64 Ar,.string Ad,.slice Bg Ac.length Be]] w fun e w'=>e=.returned (.string r)∧Below w.heap.size w w':=by
 have Fk:=Try.underlying36
 have Fl:=Try.underlying33
 have Bk:=y0.mk Bs
 have Bl:=y0.mk Bt
 clear Bs Bt
 have Bm:=y0.mk Bu
 have Bn:=y0.mk Bv
 clear Bu Bv
 have Bo:=y0.mk Bw
 have Bp:=y0.mk Bx
 clear Bw Bx
 have Bq:=y0.mk Bz
 have Cb:=y0.mk Ca
 clear Bz Ca
 have HB:=y0.mk (Below.refl w.heap.size w)
 have H:(if Ar=3 then(if 0 < (Ac.length:Int)then((z0_.f k Ai Am Ap Aj Ak (rd Ac 0)).bind fun Bf=>(if Bf.size + 1≤9223372036854775807 then(if(Bf ++ (⟨#[32]⟩:ByteArray)).size + Ad.size≤9223372036854775807 then(if((Bf ++ (⟨#[32]⟩:ByteArray)) ++ Ad).size + 1≤9223372036854775807 then(if 1 < (Ac.length:Int)then((z0_.f k Ai Am Ap Aj Ak (rd Ac 1)).bind fun Br=>(if(((Bf ++ (⟨#[32]⟩:ByteArray)) ++ Ad) ++ (⟨#[32]⟩:ByteArray)).size + Br.size≤9223372036854775807 then(some ((((Bf ++ (⟨#[32]⟩:ByteArray)) ++ Ad) ++ (⟨#[32]⟩:ByteArray)) ++ Br))else(none)))else(none))else(none))else(none))else(none)))else(none))else(if Ar=2 then(if 1 + Ad.size≤9223372036854775807 then(if((⟨#[33]⟩:ByteArray) ++ Ad).size + 1≤9223372036854775807 then((z1_.f k Ai Am Ap Aj Ak Ac).bind fun Bi=>(if(((⟨#[33]⟩:ByteArray) ++ Ad) ++ (⟨#[40]⟩:ByteArray)).size + Bi.size≤9223372036854775807 then(if((((⟨#[33]⟩:ByteArray) ++ Ad) ++ (⟨#[40]⟩:ByteArray)) ++ Bi).size + 1≤9223372036854775807 then(some (((((⟨#[33]⟩:ByteArray) ++ Ad) ++ (⟨#[40]⟩:ByteArray)) ++ Bi) ++ (⟨#[41]⟩:ByteArray)))else(none))else(none)))else(none))else(none))else(if Ad.size + 1≤9223372036854775807 then((z1_.f k Ai Am Ap Aj Ak Ac).bind fun Bj=>(if(Ad ++ (⟨#[40]⟩:ByteArray)).size + Bj.size≤9223372036854775807 then(if((Ad ++ (⟨#[40]⟩:ByteArray)) ++ Bj).size + 1≤9223372036854775807 then(some (((Ad ++ (⟨#[40]⟩:ByteArray)) ++ Bj) ++ (⟨#[41]⟩:ByteArray)))else(none))else(none)))else(none))))=some r:=h
 clear h
 by_cases c3:Ar=3
 ·rw [if_pos c3]at H
  have Do:(Ar == 3)=true:=beq_iff_eq.mpr c3
  have Dp:(Ar != 3)=false:=bne_eq_false_iff_eq.mpr c3
  clear c3
  obtain⟨c4,H⟩:=qo H
  have Fm:decide (0 < (Ac.length:Int))=true:=decide_eq_true c4
  have Fn:decide (0 < Ac.length)=true:=decide_eq_true (by omega)
  clear c4
  obtain⟨Bf,A5,H⟩:=qB H
  obtain⟨c6,H⟩:=qo H
  have Fo:=eq_true c6
  have Fp:=decide_eq_true c6
  have Fq:=eq_false (Nat.not_lt.2 c6)
  obtain⟨c7,H⟩:=qo H
  have Fr:=eq_true c7
  have Fs:=decide_eq_true c7
  have Dq:=eq_false (Nat.not_lt.2 c7)
  have Ft:(9223372036854775807 < Bf.size + 1 + Ad.size)=False:=qs Dq
  obtain⟨c8,H⟩:=qo H
  have Fu:=eq_true c8
  have Fv:=decide_eq_true c8
  have Dr:=eq_false (Nat.not_lt.2 c8)
  have Fx:(9223372036854775807 < Bf.size + 1 + Ad.size + 1)=False:=qs Dr
  obtain⟨c9,H⟩:=qo H
  have Fy:decide (1 < (Ac.length:Int))=true:=decide_eq_true c9
  have Fz:decide (1 < Ac.length)=true:=decide_eq_true (by omega)
  clear c9
  obtain⟨Br,Ga,H⟩:=qB H
  obtain⟨Ds,H⟩:=qo H
  have Ed:=eq_true Ds
  have Ee:=decide_eq_true Ds
  have Cl:=eq_false (Nat.not_lt.2 Ds)
  have Ef:(9223372036854775807 < Bf.size + 1 + Ad.size + 1 + Br.size)=False:=qs Cl
  obtain rfl:=Option.some.inj H
  go_enter Try.func68,Try.ntmps68
  try go_wp2_with (first|((with_reducible refine y17 (N:=2) rfl ?_);refine qe 2 #[.slice Ay Ai.length Az,.int .i64 Am,.string Ap,.slice Ba Aj.length Bb,.slice Bc Ak.length Bd] 36 ?_;intro Af hg Gg hbox hb;have Aa:=y0.mk (hbox);have Cc:=y0.mk (qg (w:=w) hg);have Cd:=y0.mk (qg (w:=w) hg);replace HB:=y0.mk (y5 qb hb);clear hb hbox hg)|((with_reducible refine y17 (N:=3) rfl ?_);refine qe 3 #[.int .i64 Ar,.string Ad,.slice Bg Ac.length Be] 33 ?_;intro Aw hg Gb hbox hb;have Ab:=y0.mk (hbox);have Ce:=y0.mk (qg (w:=w) hg);have Cf:=y0.mk (qg (w:=w) hg);replace HB:=y0.mk (y5 qb hb);have As:=y0.mk (qn Aa.out hg);have At:=y0.mk (qm Aa.out hg);replace Aa:=y0.mk (qK Aa.out hb);clear hb hbox hg;have Eg:=At.out;have Eh:=As.out;obtain⟨Cv,Cw,Cx,Cy,Cz,Da⟩:=qz3 Ab.out))
  replace Aa:=y0.mk (y9 Aa.out)
  replace Ab:=y0.mk (y9 Ab.out)
  replace HB:=y0.mk (y2 HB.out)
  have Cg:0≤(0:Int):=(by omega)
  have Ch:0 < (Ac.length:Int):=of_decide_eq_true qy0
  obtain⟨Bh,Dt,Au⟩:=Kd.at_int Bq.out 0 Cg Ch
  have Ag:=Au
  (try rw [show((0:Int)).toNat=0 from rfl]at Ag)
  (try rw [show 0 * 1=0 from rfl]at Ag)
  (try rw [Addr.add_zero']at Ag)
  cases Dt
  have Ei:(0 < Ac.length)=True:=eq_true (by omega)
  (try rw [show((0:Int)).toNat=0 from rfl]at Au)
  (try rw [Addr.add_zero']at Au)
  replace Au:=(HB.out.cell (World.block_lt_of_cell? w _ Au)).trans Au
  replace Cg:=eq_true Cg
  replace Ch:=eq_true Ch
  have Ci:0≤(1:Int):=(by omega)
  have Cj:1 < (Ac.length:Int):=of_decide_eq_true qy0
  obtain⟨Cm,Du,Av⟩:=Kd.at_int Bq.out 1 Ci Cj
  have Ah:=Av
  (try rw [show((1:Int)).toNat=1 from rfl]at Ah)
  (try rw [show 1 * 1=1 from rfl]at Ah)
  (try simp only [Nat.reduceMul,Nat.reduceEqDiff,Go.Addr.add,↓reduceIte]at Ah)
  obtain rfl:Bh=Cm:=(by injection Du)
  (try simp only [show(1:Int).toNat=1 from rfl,Nat.reduceMul,Nat.reduceEqDiff,Go.Addr.add,↓reduceIte]at Av)
  have Ej:(1 < Ac.length)=True:=eq_true (by omega)
  (try rw [show((1:Int)).toNat=1 from rfl]at Av)
  replace Av:=(HB.out.cell (World.block_lt_of_cell? w _ Av)).trans Av
  replace Ci:=eq_true Ci
  replace Cj:=eq_true Cj
  refine start_ (n:=19) (S:=fun w'=>w'.cell? ⟨Af,0,none⟩=some (.slice Ay Ai.length Az)∧w'.cell? ⟨Af,1,none⟩=some (.int .i64 Am)∧w'.cell? ⟨Af,2,none⟩=some (.string Ap)∧w'.cell? ⟨Af,3,none⟩=some (.slice Ba Aj.length Bb)∧w'.cell? ⟨Af,4,none⟩=some (.slice Bc Ak.length Bd)∧w'.cell? ⟨Aw,0,none⟩=some (.int .i64 Ar)∧w'.cell? ⟨Aw,1,none⟩=some (.string Ad)∧w'.cell? ⟨Aw,2,none⟩=some (.slice (some Bh) Ac.length Be)∧w'.cell? Bh=some (.int .i64 (rd Ac 0))∧w'.cell? ⟨Bh.block,Bh.off + 1,none⟩=some (.int .i64 (rd Ac 1))) (ds:=[]) (fl_ 19 0) (by kernel_rfl) rfl rfl ⟨(y8 Aa.out 0).trans rfl,(y8 Aa.out 1).trans rfl,(y8 Aa.out 2).trans rfl,(y8 Aa.out 3).trans rfl,(y8 Aa.out 4).trans rfl,(y8 Ab.out 0).trans rfl,(y8 Ab.out 1).trans rfl,(y8 Ab.out 2).trans rfl,((HB.out.cell (World.block_lt_of_cell? w _ Ag)).trans Ag),((HB.out.cell (World.block_lt_of_cell? w _ Ah)).trans Ah)⟩ (fun hHeld=>?_);refine with_tabW z3_.tab3 z3_.bits3 (fun HT_ HW_=>?_)
  generalize Gb.drew=Gh at Aa Ab HB Au Av hHeld ⊢
  refine qp 1 10 (fl_ 19 2) ?_
  refine qp 7 16 (fl_ 19 130) ?_
  refine qp 12 21 (fl_ 19 4226) ?_
  refine qt 0 9 (fl_ 19 4227) hHeld ?_
  refine qt 2 11 (fl_ 19 4231) hHeld ?_
  refine qp 3 12 (fl_ 19 4239) ?_
  refine qt 4 13 (fl_ 19 4255) hHeld ?_
  refine qt 8 17 (fl_ 19 4511) hHeld ?_
  refine qt 11 20 (fl_ 19 6559) hHeld ?_
  refine qt 13 22 (fl_ 19 14751) hHeld ?_
  refine qp 14 23 (fl_ 19 31135) ?_
  refine qt 15 24 (fl_ 19 63903) hHeld ?_
  refine qO 5 14 (fl_ 19 63935) (fun K hK=>?_)
  refine goes_ Try.func83 (by kernel_rfl) rfl #[.agg #[.slice Ay Ai.length Az,.int .i64 Am,.string Ap,.slice Ba Aj.length Bb,.slice Bc Ak.length Bd],.int .i64 (rd Ac 0)] (by rfl) rfl rfl qy1 ?_
  with_reducible refine(z0_.calls k _ _ Ai Am Ap _ _ Aj _ _ Ak (rd Ac 0) Bf _ (qc (Kd.C_below Bk.out HB.out)) Bl.out (qc (Kd.C_below Bm.out HB.out)) Bn.out (qc (Kd.C_below Bo.out HB.out)) Bp.out A5.out).mono ?_
  rintro e Gi ⟨rfl,hb⟩
  refine⟨_,rfl, ?_⟩
  replace Aa:=y0.mk (qK Aa.out hb)
  replace Ab:=y0.mk (qK Ab.out hb)
  replace HB:=y0.mk (y5 qb hb)
  (try clear hb)
  refine hK.out _ _ ⟨(y8 Aa.out 0).trans rfl,(y8 Aa.out 1).trans rfl,(y8 Aa.out 2).trans rfl,(y8 Aa.out 3).trans rfl,(y8 Aa.out 4).trans rfl,(y8 Ab.out 0).trans rfl,(y8 Ab.out 1).trans rfl,(y8 Ab.out 2).trans rfl,((HB.out.cell (World.block_lt_of_cell? w _ Ag)).trans Ag),((HB.out.cell (World.block_lt_of_cell? w _ Ah)).trans Ah)⟩ (fun hHeld=>?_)
  clear hK K
  refine qx 14 ?_
  refine qp 6 15 (fl_ 19 63999) ?_
  refine qp 9 18 (fl_ 19 64511) ?_
  refine qp 10 19 (fl_ 19 65535) ?_
  refine qO 16 25 (fl_ 19 131071) (fun K hK=>?_)
  refine goes_ Try.func83 (by kernel_rfl) rfl #[.agg #[.slice Ay Ai.length Az,.int .i64 Am,.string Ap,.slice Ba Aj.length Bb,.slice Bc Ak.length Bd],.int .i64 (rd Ac 1)] (by rfl) rfl rfl qy1 ?_
  with_reducible refine(z0_.calls k _ _ Ai Am Ap _ _ Aj _ _ Ak (rd Ac 1) Br _ (qc (Kd.C_below Bk.out HB.out)) Bl.out (qc (Kd.C_below Bm.out HB.out)) Bn.out (qc (Kd.C_below Bo.out HB.out)) Bp.out Ga.out).mono ?_
  rintro e Gj ⟨rfl,hb⟩
  refine⟨_,rfl, ?_⟩
  replace Aa:=y0.mk (qK Aa.out hb)
  replace Ab:=y0.mk (qK Ab.out hb)
  replace HB:=y0.mk (y5 qb hb)
  (try clear hb)
  refine hK.out _ _ ⟨(y8 Aa.out 0).trans rfl,(y8 Aa.out 1).trans rfl,(y8 Aa.out 2).trans rfl,(y8 Aa.out 3).trans rfl,(y8 Aa.out 4).trans rfl,(y8 Ab.out 0).trans rfl,(y8 Ab.out 1).trans rfl,(y8 Ab.out 2).trans rfl,((HB.out.cell (World.block_lt_of_cell? w _ Ag)).trans Ag),((HB.out.cell (World.block_lt_of_cell? w _ Ah)).trans Ah)⟩ (fun hHeld=>?_)
  clear hK K
  refine qx 25 ?_
  refine qp 17 26 (fl_ 19 262143) ?_
  refine qp 18 4 (fl_ 19 524287) ?_
  refine done_ (done_of HT_.out (by kernel_rfl)) ?_
  try go_wp2
  go_ret
  exact⟨qf,qb⟩
 ·rw [if_neg c3]at H
  have Do:(Ar == 3)=false:=beq_eq_false_iff_ne.mpr c3
  have Dp:(Ar != 3)=true:=bne_iff_ne.mpr c3
  by_cases Ck:Ar=2
  ·rw [if_pos Ck]at H
   have Cn:(Ar == 2)=true:=beq_iff_eq.mpr Ck
   have Cp:(Ar != 2)=false:=bne_eq_false_iff_eq.mpr Ck
   clear Ck
   obtain⟨Dw,H⟩:=qo H
   have Ek:=eq_true Dw
   have El:=decide_eq_true Dw
   have Em:=eq_false (Nat.not_lt.2 Dw)
   obtain⟨Dx,H⟩:=qo H
   have En:=eq_true Dx
   have Eo:=decide_eq_true Dx
   have Cq:=eq_false (Nat.not_lt.2 Dx)
   have Ep:(9223372036854775807 < 1 + Ad.size + 1)=False:=qs Cq
   obtain⟨Bi,Gc,H⟩:=qB H
   obtain⟨Dy,H⟩:=qo H
   have Eq:=eq_true Dy
   have Er:=decide_eq_true Dy
   have Cr:=eq_false (Nat.not_lt.2 Dy)
   have Es:(9223372036854775807 < 1 + Ad.size + 1 + Bi.size)=False:=qs Cr
   obtain⟨Dz,H⟩:=qo H
   have Et:=eq_true Dz
   have Eu:=decide_eq_true Dz
   have Cs:=eq_false (Nat.not_lt.2 Dz)
   have Ew:(9223372036854775807 < 1 + Ad.size + 1 + Bi.size + 1)=False:=qs Cs
   obtain rfl:=Option.some.inj H
   go_enter Try.func68,Try.ntmps68
   try go_wp2_with (first|((with_reducible refine y17 (N:=2) rfl ?_);refine qe 2 #[.slice Ay Ai.length Az,.int .i64 Am,.string Ap,.slice Ba Aj.length Bb,.slice Bc Ak.length Bd] 36 ?_;intro Af hg Gk hbox hb;have Aa:=y0.mk (hbox);have Cc:=y0.mk (qg (w:=w) hg);have Cd:=y0.mk (qg (w:=w) hg);replace HB:=y0.mk (y5 qb hb);clear hb hbox hg)|((with_reducible refine y17 (N:=3) rfl ?_);refine qe 3 #[.int .i64 Ar,.string Ad,.slice Bg Ac.length Be] 33 ?_;intro Aw hg Gd hbox hb;have Ab:=y0.mk (hbox);have Ce:=y0.mk (qg (w:=w) hg);have Cf:=y0.mk (qg (w:=w) hg);replace HB:=y0.mk (y5 qb hb);have As:=y0.mk (qn Aa.out hg);have At:=y0.mk (qm Aa.out hg);replace Aa:=y0.mk (qK Aa.out hb);clear hb hbox hg;have Ex:=At.out;have Ey:=As.out;obtain⟨Db,Dc,Dd,De,Df,Dg⟩:=qz3 Ab.out))
   replace Aa:=y0.mk (y9 Aa.out)
   replace Ab:=y0.mk (y9 Ab.out)
   replace HB:=y0.mk (y2 HB.out)
   refine start_ (n:=11) (S:=fun w'=>w'.cell? ⟨Aw,0,none⟩=some (.int .i64 Ar)∧w'.cell? ⟨Aw,1,none⟩=some (.string Ad)∧w'.cell? ⟨Aw,2,none⟩=some (.slice Bg Ac.length Be)∧w'.cell? ⟨Af,0,none⟩=some (.slice Ay Ai.length Az)∧w'.cell? ⟨Af,1,none⟩=some (.int .i64 Am)∧w'.cell? ⟨Af,2,none⟩=some (.string Ap)∧w'.cell? ⟨Af,3,none⟩=some (.slice Ba Aj.length Bb)∧w'.cell? ⟨Af,4,none⟩=some (.slice Bc Ak.length Bd)) (ds:=[]) (fl_ 11 0) (by kernel_rfl) rfl rfl ⟨(y8 Ab.out 0).trans rfl,(y8 Ab.out 1).trans rfl,(y8 Ab.out 2).trans rfl,(y8 Aa.out 0).trans rfl,(y8 Aa.out 1).trans rfl,(y8 Aa.out 2).trans rfl,(y8 Aa.out 3).trans rfl,(y8 Aa.out 4).trans rfl⟩ (fun hHeld=>?_);refine with_tabW z3_.tab5 z3_.bits5 (fun HT_ HW_=>?_)
   generalize Gd.drew=Gl at Aa Ab HB hHeld ⊢
   refine qp 0 29 (fl_ 11 1) ?_
   refine qp 5 34 (fl_ 11 33) ?_
   refine qt 1 30 (fl_ 11 35) hHeld ?_
   refine qp 2 31 (fl_ 11 39) ?_
   refine qp 3 32 (fl_ 11 47) ?_
   refine qt 4 33 (fl_ 11 63) hHeld ?_
   refine qt 6 35 (fl_ 11 127) hHeld ?_
   refine qO 7 36 (fl_ 11 255) (fun K hK=>?_)
   refine goes_ Try.func84 (by kernel_rfl) rfl #[.agg #[.slice Ay Ai.length Az,.int .i64 Am,.string Ap,.slice Ba Aj.length Bb,.slice Bc Ak.length Bd],.slice Bg Ac.length Be] (by rfl) rfl rfl qy1 ?_
   with_reducible refine(z1_.calls k _ _ Ai Am Ap _ _ Aj _ _ Ak _ _ Ac Bi _ (qc (Kd.C_below Bk.out HB.out)) Bl.out (qc (Kd.C_below Bm.out HB.out)) Bn.out (qc (Kd.C_below Bo.out HB.out)) Bp.out (qc (Kd.C_below Bq.out HB.out)) Cb.out Gc.out).mono ?_
   rintro e Gm ⟨rfl,hb⟩
   refine⟨_,rfl, ?_⟩
   replace Aa:=y0.mk (qK Aa.out hb)
   replace Ab:=y0.mk (qK Ab.out hb)
   replace HB:=y0.mk (y5 qb hb)
   (try clear hb)
   refine hK.out _ _ ⟨(y8 Ab.out 0).trans rfl,(y8 Ab.out 1).trans rfl,(y8 Ab.out 2).trans rfl,(y8 Aa.out 0).trans rfl,(y8 Aa.out 1).trans rfl,(y8 Aa.out 2).trans rfl,(y8 Aa.out 3).trans rfl,(y8 Aa.out 4).trans rfl⟩ (fun hHeld=>?_)
   clear hK K
   refine qx 36 ?_
   refine qp2 8 37 11 ?_
   refine qp 10 4 (fl_ 11 2047) ?_
   refine done_ (done_of HT_.out (by kernel_rfl)) ?_
   try go_wp2
   go_ret
   exact⟨qf,qb⟩
  ·rw [if_neg Ck]at H
   have Cn:(Ar == 2)=false:=beq_eq_false_iff_ne.mpr Ck
   have Cp:(Ar != 2)=true:=bne_iff_ne.mpr Ck
   obtain⟨Ea,H⟩:=qo H
   have Ez:=eq_true Ea
   have Fa:=decide_eq_true Ea
   have Fb:=eq_false (Nat.not_lt.2 Ea)
   obtain⟨Bj,Ge,H⟩:=qB H
   obtain⟨Eb,H⟩:=qo H
   have Fc:=eq_true Eb
   have Fd:=decide_eq_true Eb
   have Ct:=eq_false (Nat.not_lt.2 Eb)
   have Fe:(9223372036854775807 < Ad.size + 1 + Bj.size)=False:=qs Ct
   obtain⟨Ec,H⟩:=qo H
   have Ff:=eq_true Ec
   have Fg:=decide_eq_true Ec
   have Cu:=eq_false (Nat.not_lt.2 Ec)
   have Fh:(9223372036854775807 < Ad.size + 1 + Bj.size + 1)=False:=qs Cu
   obtain rfl:=Option.some.inj H
   go_enter Try.func68,Try.ntmps68
   try go_wp2_with (first|((with_reducible refine y17 (N:=2) rfl ?_);refine qe 2 #[.slice Ay Ai.length Az,.int .i64 Am,.string Ap,.slice Ba Aj.length Bb,.slice Bc Ak.length Bd] 36 ?_;intro Af hg Gn hbox hb;have Aa:=y0.mk (hbox);have Cc:=y0.mk (qg (w:=w) hg);have Cd:=y0.mk (qg (w:=w) hg);replace HB:=y0.mk (y5 qb hb);clear hb hbox hg)|((with_reducible refine y17 (N:=3) rfl ?_);refine qe 3 #[.int .i64 Ar,.string Ad,.slice Bg Ac.length Be] 33 ?_;intro Aw hg Gf hbox hb;have Ab:=y0.mk (hbox);have Ce:=y0.mk (qg (w:=w) hg);have Cf:=y0.mk (qg (w:=w) hg);replace HB:=y0.mk (y5 qb hb);have As:=y0.mk (qn Aa.out hg);have At:=y0.mk (qm Aa.out hg);replace Aa:=y0.mk (qK Aa.out hb);clear hb hbox hg;have Fi:=At.out;have Fj:=As.out;obtain⟨Dh,Di,Dj,Dk,Dl,Dm⟩:=qz3 Ab.out))
   replace Aa:=y0.mk (y9 Aa.out)
   replace Ab:=y0.mk (y9 Ab.out)
   replace HB:=y0.mk (y2 HB.out)
   refine start_ (n:=10) (S:=fun w'=>w'.cell? ⟨Aw,0,none⟩=some (.int .i64 Ar)∧w'.cell? ⟨Aw,1,none⟩=some (.string Ad)∧w'.cell? ⟨Aw,2,none⟩=some (.slice Bg Ac.length Be)∧w'.cell? ⟨Af,0,none⟩=some (.slice Ay Ai.length Az)∧w'.cell? ⟨Af,1,none⟩=some (.int .i64 Am)∧w'.cell? ⟨Af,2,none⟩=some (.string Ap)∧w'.cell? ⟨Af,3,none⟩=some (.slice Ba Aj.length Bb)∧w'.cell? ⟨Af,4,none⟩=some (.slice Bc Ak.length Bd)) (ds:=[]) (fl_ 10 0) (by kernel_rfl) rfl rfl ⟨(y8 Ab.out 0).trans rfl,(y8 Ab.out 1).trans rfl,(y8 Ab.out 2).trans rfl,(y8 Aa.out 0).trans rfl,(y8 Aa.out 1).trans rfl,(y8 Aa.out 2).trans rfl,(y8 Aa.out 3).trans rfl,(y8 Aa.out 4).trans rfl⟩ (fun hHeld=>?_);refine with_tabW z3_.tab6 z3_.bits6 (fun HT_ HW_=>?_)
   generalize Gf.drew=Gp at Aa Ab HB hHeld ⊢
   refine qp 0 39 (fl_ 10 1) ?_
   refine qp 4 43 (fl_ 10 17) ?_
   refine qt 1 40 (fl_ 10 19) hHeld ?_
   refine qp 2 41 (fl_ 10 23) ?_
   refine qt 3 42 (fl_ 10 31) hHeld ?_
   refine qt 5 44 (fl_ 10 63) hHeld ?_
   refine qO 6 45 (fl_ 10 127) (fun K hK=>?_)
   refine goes_ Try.func84 (by kernel_rfl) rfl #[.agg #[.slice Ay Ai.length Az,.int .i64 Am,.string Ap,.slice Ba Aj.length Bb,.slice Bc Ak.length Bd],.slice Bg Ac.length Be] (by rfl) rfl rfl qy1 ?_
   with_reducible refine(z1_.calls k _ _ Ai Am Ap _ _ Aj _ _ Ak _ _ Ac Bj _ (qc (Kd.C_below Bk.out HB.out)) Bl.out (qc (Kd.C_below Bm.out HB.out)) Bn.out (qc (Kd.C_below Bo.out HB.out)) Bp.out (qc (Kd.C_below Bq.out HB.out)) Cb.out Ge.out).mono ?_
   rintro e Gq ⟨rfl,hb⟩
   refine⟨_,rfl, ?_⟩
   replace Aa:=y0.mk (qK Aa.out hb)
   replace Ab:=y0.mk (qK Ab.out hb)
   replace HB:=y0.mk (y5 qb hb)
   (try clear hb)
   refine hK.out _ _ ⟨(y8 Ab.out 0).trans rfl,(y8 Ab.out 1).trans rfl,(y8 Ab.out 2).trans rfl,(y8 Aa.out 0).trans rfl,(y8 Aa.out 1).trans rfl,(y8 Aa.out 2).trans rfl,(y8 Aa.out 3).trans rfl,(y8 Aa.out 4).trans rfl⟩ (fun hHeld=>?_)
   clear hK K
   refine qx 45 ?_
   refine qp2 7 46 10 ?_
   refine qp 9 4 (fl_ 10 1023) ?_
   refine done_ (done_of HT_.out (by kernel_rfl)) ?_
   try go_wp2
   go_ret
   exact⟨qf,qb⟩
end Go.Proofs.Ytkdabljlfbmpdaa.Po
end
section
namespace Go.Proofs.Ytkdabljlfbmpdaa.Po
open Go.RowKit Go.Proofs.YtkdabljlfbmpdaaW.PrintWords Go.Proofs.YtkdabljlfbmpdaaW.PrintLast Go.Proofs.YtkdabljlfbmpdaaW.PrintMore
attribute [local go_sem] max2_int min2_int max_two min_two max_three min_three max_four min_four   -- for this text's walks alone
set_option linter.unusedVariables false
set_option linter.unusedSimpArgs false
def impl_ruleText.l0:Nat→ByteArray→List ByteArray→List (S33)→Int→Int→List (S63)→Int→ByteArray→List Int→List (S33)→Option (ByteArray)
 | 0,_,_,_,_,_,_,_,_,_,_=>none
 | k + 1,x3,x4,x16,x17,x18,x409000,x409001,x409002,x409003,x409004=>if x18 < x17 then(if 0≤x18 then(if x18 < (x16.length:Int)then((z3_.f k x409000 x409001 x409002 x409003 x409004 ((y20 x16 x18).f0) ((y20 x16 x18).f1) ((y20 x16 x18).f2)).bind fun t416=>(if x4.length < 8796093022208 then(impl_ruleText.l0 k x3 (x4 ++ [t416]) x16 x17 (wrap64 (x18 + 1)) x409000 x409001 x409002 x409003 x409004)else(none)))else(none))else(none))else(if(x4.length:Int) > 0 then((strings_Join.f x4 (⟨#[44,32]⟩:ByteArray)).bind fun t420=>(if 4 + t420.size≤9223372036854775807 then(if x3.size + ((⟨#[32,58,45,32]⟩:ByteArray) ++ t420).size≤9223372036854775807 then(if(x3 ++ ((⟨#[32,58,45,32]⟩:ByteArray) ++ t420)).size + 1≤9223372036854775807 then(if(((x3 ++ ((⟨#[32,58,45,32]⟩:ByteArray) ++ t420)) ++ (⟨#[46]⟩:ByteArray)).size:Int) > 3000 then(some (⟨#[]⟩:ByteArray))else(some ((x3 ++ ((⟨#[32,58,45,32]⟩:ByteArray) ++ t420)) ++ (⟨#[46]⟩:ByteArray))))else(none))else(none))else(none)))else(if x3.size + 1≤9223372036854775807 then(if((x3 ++ (⟨#[46]⟩:ByteArray)).size:Int) > 3000 then(some (⟨#[]⟩:ByteArray))else(some (x3 ++ (⟨#[46]⟩:ByteArray))))else(none)))
def impl_ruleText.f (k:Nat) (l0_0:List (S63)) (a0_1:Int) (a0_2:ByteArray) (l0_3:List Int) (l0_4:List (S33)):Option (ByteArray):=(z4_.f k l0_0 a0_1 a0_2 l0_3 l0_4).bind fun t409=>(if t409=true then((z3_.f k l0_0 a0_1 a0_2 l0_3 l0_4 a0_1 a0_2 l0_3).bind fun t410=>(impl_ruleText.l0 k t410 (([]:List ByteArray)) l0_4 (l0_4.length:Int) 0 l0_0 a0_1 a0_2 l0_3 l0_4))else(some (⟨#[]⟩:ByteArray)))
set_option maxHeartbeats 8000000 in
set_option maxRecDepth 100000 in
theorem impl_ruleText.calls (k:Nat) (Au:Option Addr) (Av:Nat) (Ag:List (S63)) (Ah:Int) (Ai:ByteArray) (Ar:Option Addr) (As:Nat) (Af:List Int) (Bb:Option Addr) (Aw:Nat) (Aa:List (S33)) (r:ByteArray) (w:World) (Ch:Kd.C k63 w Au Ag.length Ag) (Ci:Ag.length≤Av) (Cj:Kd.C (Kd.int .i64) w Ar Af.length Af) (Ck:Af.length≤As) (Cl:Kd.C k33 w Bb Aa.length Aa) (Cm:Aa.length≤Aw) (h:impl_ruleText.f k Ag Ah Ai Af Aa=some r) :
  Calls Try.prog 52 #[.agg #[.slice Au Ag.length Av,.int .i64 Ah,.string Ai,.slice Ar Af.length As,.slice Bb Aa.length Aw]] w fun e w'=>e=.returned (.string r)∧Below w.heap.size w w':=by
 have Hb:=Try.underlying36
 have Hc:=Try.underlying33
 have Bj:=y0.mk Ch
 have Bk:=y0.mk Ci
 clear Ch Ci
 have Bc:=y0.mk Cj
 have Bd:=y0.mk Ck
 clear Cj Ck
 have Be:=y0.mk Cl
 have Bl:=y0.mk Cm
 clear Cl Cm
 have HB:=y0.mk (Below.refl w.heap.size w)
 have H:((z4_.f k Ag Ah Ai Af Aa).bind fun Ct=>(if Ct=true then((z3_.f k Ag Ah Ai Af Aa Ah Ai Af).bind fun Ad=>(impl_ruleText.l0 k Ad (([]:List ByteArray)) Aa (Aa.length:Int) 0 Ag Ah Ai Af Aa))else(some (⟨#[]⟩:ByteArray))))=some r:=h
 clear h
 obtain⟨Ct,A2,H⟩:=qB H
 by_cases c3:Ct=true
 ·subst c3
  replace H:=qT H
  obtain⟨Ad,A4,H⟩:=qB H
  obtain⟨Dt,Bf⟩:∃ y_:List ByteArray,y_=(([]:List ByteArray)):=⟨_,rfl⟩
  replace H:(impl_ruleText.l0 k Ad Dt Aa (Aa.length:Int) 0 Ag Ah Ai Af Aa)=some r:=by first|(rw [Bf];with_reducible exact H)|(have H2_:=(Option.bind_some _ _).symm.trans H;rw [Bf];with_reducible exact H2_)|(have H2_:=(Option.bind_some _ _).symm.trans H;with_reducible exact H2_)|with_reducible exact H|(rw [Bf];exact H)|exact H
  have Cn:=y0.mk Bf
  clear Bf
  have H':=y0.mk H
  clear H
  go_enter Try.func52,Try.ntmps52
  go_wp2_with (first|((with_reducible refine y17 (N:=1) rfl ?_);refine qe 1 #[.slice Au Ag.length Av,.int .i64 Ah,.string Ai,.slice Ar Af.length As,.slice Bb Aa.length Aw] 36 ?_;intro Bq hg w5 hbox hb;have Ab:=y0.mk (hbox);have Du:=y0.mk (qg (w:=w) hg);have Dw:=y0.mk (qg (w:=w) hg);replace HB:=y0.mk (y5 qb hb);clear hb hbox hg;obtain⟨Cu,Cv,Cw,Cx,Cy,Cz,Da,Db,Dc,Dd⟩:=qz5 Ab.out)|((with_reducible refine y16 (f:=67) rfl ?_);refine y18 (some 8) rfl rfl Try.func67 (by kernel_rfl) rfl #[.agg #[.slice Au Ag.length Av,.int .i64 Ah,.string Ai,.slice Ar Af.length As,.slice Bb Aa.length Aw]] rfl qy1 ?_;(with_reducible refine(z4_.calls k _ _ Ag Ah Ai _ _ Af _ _ Aa true _ (qc (Kd.C_below Bj.out HB.out)) Bk.out (qc (Kd.C_below Bc.out HB.out)) Bd.out (qc (Kd.C_below Be.out HB.out)) Bl.out A2.out).mono ?_);rintro e w7 ⟨rfl,hb⟩;refine⟨_,rfl, ?_⟩;replace Ab:=y0.mk (qK Ab.out hb);replace HB:=y0.mk (y5 qb hb);(try clear hb);obtain⟨De,Df,Dg,Dh,Di,Dj,Dk,Dl,Dm,Do⟩:=qz5 Ab.out)|((with_reducible refine y16 (f:=68) rfl ?_);refine y18 (some 13) rfl rfl Try.func68 (by kernel_rfl) rfl #[.agg #[.slice Au Ag.length Av,.int .i64 Ah,.string Ai,.slice Ar Af.length As,.slice Bb Aa.length Aw],.agg #[.int .i64 Ah,.string Ai,.slice Ar Af.length As]] rfl qy1 ?_;(with_reducible refine(z3_.calls k _ _ Ag Ah Ai _ _ Af _ _ Aa Ah Ai _ _ Af Ad _ (qc (Kd.C_below Bj.out HB.out)) Bk.out (qc (Kd.C_below Bc.out HB.out)) Bd.out (qc (Kd.C_below Be.out HB.out)) Bl.out (qc (Kd.C_below Bc.out HB.out)) Bd.out A4.out).mono ?_);rintro e w9 ⟨rfl,hb⟩;refine⟨_,rfl, ?_⟩;replace Ab:=y0.mk (qK Ab.out hb);replace HB:=y0.mk (y5 qb hb);(try clear hb))|((with_reducible refine y17 (N:=14) rfl ?_);refine qL Kd.string 9 14 ([]:List ByteArray) ?_;intro Hd Hl Br hb hg_ hnew_;clear hg_ hnew_;(first|rw [← Cn.out]at Br|(simp only [Int.reduceToNat]at Br;rw [← Cn.out]at Br));have Dx:=y0.mk (Kd.R_lower Br (y4 qb));replace Ab:=y0.mk (qK Ab.out hb);replace HB:=y0.mk (y5 qb hb);clear hb Br;obtain⟨Bt,Bu,Bv,Bw,Bx,Bz,Ca,Cb,Cc,Cd⟩:=qz5 Ab.out))
  go_loopg [4,18] k (fun kq v4 He w'=>∃(Ap:List ByteArray) (Ac:Int),He=.int .i64 Ac∧y0 (impl_ruleText.l0 kq Ad Ap Aa (Aa.length:Int) Ac Ag Ah Ai Af Aa=some r)∧y0 (kq≤k)∧y0 (Kd.R Kd.string 9 w' w.heap.size (fun _=>True) v4 Ap)∧y0 (w'.heap[Bq]?=some (.cells #[(.slice Au Ag.length Av),.int .i64 Ah,.string Ai,(.slice Ar Af.length As),(.slice Bb Aa.length Aw)] 36 (0,0)))∧y0 (Below w.heap.size w w'))
  case atStart=>exact⟨(Dt),(0),qy2,H',⟨Nat.le_refl _⟩,⟨qR Dx.out⟩,⟨qk Ab.out⟩,⟨qb⟩⟩
  case round =>
   clear H'
   (try clear c3 Bt Bu Bv Bw Bx Cu Cv Cw Cx Cy De Df Dg Dh Di Bz Ca Cb Cc Cd Cz Da Db Dc Dd Dj Dk Dl Dm Do)
   obtain⟨Ap,Ac,rfl,HA,Ga,Aj,Ab,HB⟩:=hrel
   cases gk with
   | zero=>exact absurd HA.out (by simp [impl_ruleText.l0])
   | succ k1 =>
    have H:=HA.out
    clear HA
    simp only [impl_ruleText.l0]at H
    by_cases Dr:Ac < (Aa.length:Int)
    ·rw [if_pos Dr]at H
     have Dy:=decide_eq_true Dr
     clear Dr
     obtain⟨Gb,H⟩:=qo H
     have Gc:decide (0≤Ac)=true:=decide_eq_true Gb
     clear Gb
     obtain⟨Gd,H⟩:=qo H
     have Ge:decide (Ac < (Aa.length:Int))=true:=decide_eq_true Gd
     clear Gd
     obtain⟨Ce,Hf,H⟩:=qB H
     obtain⟨Gf,H⟩:=qo H
     have Dz:=y0.mk Gf
     clear Gf
     obtain⟨Ea,Bg⟩:∃ y_:List ByteArray,y_=(Ap ++ [Ce]):=⟨_,rfl⟩
     replace H:(impl_ruleText.l0 k1 Ad Ea Aa (Aa.length:Int) (wrap64 (Ac + 1)) Ag Ah Ai Af Aa)=some r:=by first|(rw [Bg];with_reducible exact H)|(have H2_:=(Option.bind_some _ _).symm.trans H;rw [Bg];with_reducible exact H2_)|(have H2_:=(Option.bind_some _ _).symm.trans H;with_reducible exact H2_)|with_reducible exact H|(rw [Bg];exact H)|exact H
     have Eb:=y0.mk Bg
     clear Bg
     have H':=y0.mk H
     clear H
     have Dp:0≤(Ac:Int):=of_decide_eq_true qy0
     have Dq:Ac < (Aa.length:Int):=of_decide_eq_true qy0
     obtain⟨Cp,Bh,Bi,Fm,Ay,Az,Ba,Bm,Bn⟩:=at_T33 Be.out Ac Dp Dq
     cases Fm
     replace Ay:=(HB.out.cell (World.block_lt_of_cell? w _ Ay)).trans Ay
     replace Az:=(HB.out.cell (World.block_lt_of_cell? w _ Az)).trans Az
     replace Ba:=(HB.out.cell (World.block_lt_of_cell? w _ Ba)).trans Ba
     have Cf:=y0.mk Bn
     have Cg:=y0.mk Bm
     clear Bn Bm
     replace Dp:=eq_true Dp
     replace Dq:=eq_true Dq
     go_wp2_with (first|((with_reducible refine y17 (N:=6) rfl ?_);refine qe 6 #[.int .i64 0,.string (⟨#[]⟩:ByteArray),.slice none 0 0] 33 ?_;intro Bo hg Hm hbox hb;replace Aj:=y0.mk (Kd.R_below (qR Aj.out) hb);have At:=y0.mk (hbox);have Gg:=y0.mk (qg (w:=w) hg);have Gh:=y0.mk (qg (w:=w) hg);replace HB:=y0.mk (y5 qb hb);have Am:=y0.mk (qn Ab.out hg);have Bp:=y0.mk (qm Ab.out hg);replace Ab:=y0.mk (qK Ab.out hb);clear hb hbox hg;have Gi:=Bp.out;have Gj:=Am.out;obtain⟨El,Em,En,Eo,Ep,Eq⟩:=qz3 At.out;obtain⟨Er,Es,Et,Eu,Ew,Ex,Ey,Ez,Fa,Fb⟩:=qz5 Ab.out)|((with_reducible refine y16 (f:=68) rfl ?_);refine y18 (some 25) rfl rfl Try.func68 (by kernel_rfl) rfl #[.agg #[.slice Au Ag.length Av,.int .i64 Ah,.string Ai,.slice Ar Af.length As,.slice (some Cp) Aa.length Aw],.agg #[.int .i64 ((y20 Aa Ac).f0),.string ((y20 Aa Ac).f1),.slice Bh ((y20 Aa Ac).f2).length Bi]] rfl qy1 ?_;(with_reducible refine(z3_.calls k1 _ _ Ag Ah Ai _ _ Af _ _ Aa ((y20 Aa Ac).f0) ((y20 Aa Ac).f1) _ _ ((y20 Aa Ac).f2) Ce _ (by exact Kd.C_below Bj.out qb) Bk.out (by exact Kd.C_below Bc.out qb) Bd.out (by exact Kd.C_below Be.out qb) Bl.out (by exact Kd.C_below Cf.out qb) Cg.out Hf.out).mono ?_);rintro e Hn ⟨rfl,hb⟩;refine⟨_,rfl, ?_⟩;replace Aj:=y0.mk (Kd.R_below (qR ((Kd.R_mono (Kd.R_far (p:=⟨Bo,2,none⟩) (Kd.R_far (p:=⟨Bo,1,none⟩) (Kd.R_far (p:=⟨Bo,0,none⟩) (Kd.R_types Aj.out At.out (by decide)) (fun _ hk=>hk.2) (.int .i64 ((y20 Aa Ac).f0))) (fun _ hk=>hk.2) (.string ((y20 Aa Ac).f1))) (fun _ hk=>hk.2) (.slice Bh ((y20 Aa Ac).f2).length Bi)) (fun _ h_=>h_.1)))) hb);replace Ab:=y0.mk (y7 (g:=Bq) (o:=.cells #[.slice Au Ag.length Av,.int .i64 Ah,.string Ai,.slice Ar Af.length As,.slice (some Cp) Aa.length Aw] 36 (0,0)) (by(with_reducible repeat(first|refine y10 ?_ _|refine y9 ?_|refine y6 ?_ _));refine y11 ?_ Am.out _;(with_reducible repeat(first|refine y10 ?_ _|refine y9 ?_|refine y6 ?_ _));refine y11 ?_ Am.out _;(with_reducible repeat(first|refine y10 ?_ _|refine y9 ?_|refine y6 ?_ _));refine y11 ?_ Am.out _;(with_reducible repeat(first|refine y10 ?_ _|refine y9 ?_|refine y6 ?_ _));exact Ab.out) hb);replace At:=y0.mk (y7 (g:=Bo) (o:=.cells #[.int .i64 ((y20 Aa Ac).f0),.string ((y20 Aa Ac).f1),.slice Bh ((y20 Aa Ac).f2).length Bi] 33 (0,0)) (by(with_reducible repeat(first|refine y10 ?_ _|refine y9 ?_|refine y6 ?_ _));refine blk_put (cs:=#[.int .i64 ((y20 Aa Ac).f0),.string ((y20 Aa Ac).f1),.slice none 0 0]) ?_ 2 _ rfl;(with_reducible repeat(first|refine y10 ?_ _|refine y9 ?_|refine y6 ?_ _));refine blk_put (cs:=#[.int .i64 ((y20 Aa Ac).f0),.string (⟨#[]⟩:ByteArray),.slice none 0 0]) ?_ 1 _ rfl;(with_reducible repeat(first|refine y10 ?_ _|refine y9 ?_|refine y6 ?_ _));refine blk_put (cs:=#[.int .i64 0,.string (⟨#[]⟩:ByteArray),.slice none 0 0]) ?_ 0 _ rfl;(with_reducible repeat(first|refine y10 ?_ _|refine y9 ?_|refine y6 ?_ _));exact At.out) hb);replace HB:=y0.mk (y5 qb hb);(try clear hb))|((with_reducible refine gate_builtin (b:=.append) (xs:=#[.tmp 22,.tmp 26]) rfl ?_);at_builtin;refine Kd.R_append Kd.string (w0:=w) w.heap.size rfl (.tmp 22) (.tmp 26) 30 9 (.string ⟨#[]⟩) 16 rfl Try.underlying30 info9 rfl (by decide) (by omega) u4 Ap Ce [.string Ce] (fun _=>True) (fun _=>False) rfl rfl ?aP (fun _ hk=>hk.elim) ?aF ?aO ?aB ?aS ?aL ?_;(case aP=>exact rfl);(case aB=>exact qb);(case aF=>exact(fun _ _=>trivial));(case aO=>exact(qR Aj.out));(case aS=>exact(y4 qb));(case aL=>have:=Dz.out;omega);intro Hg Ho ho hb hg hat;rw [← Eb.out]at ho;replace Ab:=y0.mk (blk_grown (qk Ab.out) hg (Kd.R_ne Aj.out Ab.out (by decide)));replace At:=y0.mk (blk_grown (qk At.out) hg (Kd.R_ne Aj.out At.out (by decide)));replace HB:=y0.mk (hb);have Ec:=y0.mk (ho);clear Aj;clear ho hb hg hat))
     go_roundg k1
     case measure=>have:=Ga.out;omega
     exact⟨(Ea),(wrap64 (Ac + 1)),qy2,H',⟨by have:=Ga.out;omega⟩,⟨qR Ec.out⟩,⟨qk Ab.out⟩,⟨qb⟩⟩
    ·rw [if_neg Dr]at H
     have Dy:=decide_eq_false Dr
     clear Dr
     by_cases Ds:(Ap.length:Int) > 0
     ·rw [if_pos Ds]at H
      have Ed:decide (0 < (Ap.length:Int))=true:=decide_eq_true Ds
      have Ee:decide (0 < Ap.length)=true:=decide_eq_true (by omega)
      clear Ds
      obtain⟨Ak,Gk,H⟩:=qB H
      obtain⟨Fn,H⟩:=qo H
      have Gl:=eq_true Fn
      have Gm:=decide_eq_true Fn
      have Gn:=eq_false (Nat.not_lt.2 Fn)
      obtain⟨Fo,H⟩:=qo H
      have Gp:=eq_true Fo
      have Gq:=decide_eq_true Fo
      have Bs:=eq_false (Nat.not_lt.2 Fo)
      have Gr:(9223372036854775807 < Ad.size + 4 + Ak.size)=False:=qs Bs
      have Gs:(9223372036854775807 < Ad.size + (4 + Ak.size))=False:=qs Bs
      have Gt:(9223372036854775807 < Ad.size + (4 + Ak.size))=False:=qs Bs
      obtain⟨Fp,H⟩:=qo H
      have Gu:=eq_true Fp
      have Gv:=decide_eq_true Fp
      have Cq:=eq_false (Nat.not_lt.2 Fp)
      have Gw:(9223372036854775807 < Ad.size + 4 + Ak.size + 1)=False:=qs Cq
      have Gx:(9223372036854775807 < Ad.size + (4 + Ak.size) + 1)=False:=qs Cq
      by_cases Cr:(((Ad ++ ((⟨#[32,58,45,32]⟩:ByteArray) ++ Ak)) ++ (⟨#[46]⟩:ByteArray)).size:Int) > 3000
      ·rw [if_pos Cr]at H
       have Ef:(3000 < (Ad.size:Int) + (4 + (Ak.size:Int)) + 1)=True:=eq_true (by have h_:=Cr;rw [show((Ad ++ ((⟨#[32,58,45,32]⟩:ByteArray) ++ Ak)) ++ (⟨#[46]⟩:ByteArray)).size=Ad.size + (4 + Ak.size) + 1 from by(simp only [ByteArray.size_append];rfl)]at h_;omega)
       have Eg:decide (3000 < (((Ad ++ ((⟨#[32,58,45,32]⟩:ByteArray) ++ Ak)) ++ (⟨#[46]⟩:ByteArray)).size:Int))=true:=decide_eq_true Cr
       have Eh:decide (3000 < ((Ad ++ ((⟨#[32,58,45,32]⟩:ByteArray) ++ Ak)) ++ (⟨#[46]⟩:ByteArray)).size)=true:=decide_eq_true (by omega)
       clear Cr
       obtain rfl:=Option.some.inj H
       obtain⟨Fq,Fr,Fs⟩:=Kd.R_slice Aj.out
       subst Fs
       go_wp2_with (first|((with_reducible refine y16 (f:=69) rfl ?_);refine y18 (some 34) rfl rfl Try.func69 (by kernel_rfl) rfl #[.slice Fq Ap.length Fr,.string (⟨#[44,32]⟩:ByteArray)] rfl qy1 ?_;(with_reducible refine(strings_Join.calls _ _ Ap (⟨#[44,32]⟩:ByteArray) Ak _ (qc ((Kd.R_reads' Aj.out).2.2)) (by exact(Kd.R_reads' Aj.out).2.1) Gk.out).mono ?_);rintro e Hp ⟨rfl,hb⟩;refine⟨_,rfl, ?_⟩;replace Aj:=y0.mk (Kd.R_below (qR Aj.out) hb);replace Ab:=y0.mk (qK Ab.out hb);replace HB:=y0.mk (y5 qb hb);(try clear hb)))
       go_ret
       exact⟨qf,qb⟩
      ·rw [if_neg Cr]at H
       have Ef:(3000 < (Ad.size:Int) + (4 + (Ak.size:Int)) + 1)=False:=eq_false (by have h_:=Cr;rw [show((Ad ++ ((⟨#[32,58,45,32]⟩:ByteArray) ++ Ak)) ++ (⟨#[46]⟩:ByteArray)).size=Ad.size + (4 + Ak.size) + 1 from by(simp only [ByteArray.size_append];rfl)]at h_;omega)
       have Eg:decide (3000 < (((Ad ++ ((⟨#[32,58,45,32]⟩:ByteArray) ++ Ak)) ++ (⟨#[46]⟩:ByteArray)).size:Int))=false:=decide_eq_false Cr
       have Eh:decide (3000 < ((Ad ++ ((⟨#[32,58,45,32]⟩:ByteArray) ++ Ak)) ++ (⟨#[46]⟩:ByteArray)).size)=false:=decide_eq_false (by omega)
       clear Cr
       obtain rfl:=Option.some.inj H
       obtain⟨Ft,Fu,Fv⟩:=Kd.R_slice Aj.out
       subst Fv
       go_wp2_with (first|((with_reducible refine y16 (f:=69) rfl ?_);refine y18 (some 34) rfl rfl Try.func69 (by kernel_rfl) rfl #[.slice Ft Ap.length Fu,.string (⟨#[44,32]⟩:ByteArray)] rfl qy1 ?_;(with_reducible refine(strings_Join.calls _ _ Ap (⟨#[44,32]⟩:ByteArray) Ak _ (qc ((Kd.R_reads' Aj.out).2.2)) (by exact(Kd.R_reads' Aj.out).2.1) Gk.out).mono ?_);rintro e Hq ⟨rfl,hb⟩;refine⟨_,rfl, ?_⟩;replace Aj:=y0.mk (Kd.R_below (qR Aj.out) hb);replace Ab:=y0.mk (qK Ab.out hb);replace HB:=y0.mk (y5 qb hb);(try clear hb)))
       go_ret
       exact⟨qf,qb⟩
     ·rw [if_neg Ds]at H
      have Ed:decide (0 < (Ap.length:Int))=false:=decide_eq_false Ds
      have Ee:decide (0 < Ap.length)=false:=decide_eq_false (by omega)
      clear Ds
      obtain⟨Fx,H⟩:=qo H
      have Gy:=eq_true Fx
      have Gz:=decide_eq_true Fx
      have Ha:=eq_false (Nat.not_lt.2 Fx)
      by_cases Cs:((Ad ++ (⟨#[46]⟩:ByteArray)).size:Int) > 3000
      ·rw [if_pos Cs]at H
       have Ei:(3000 < (Ad.size:Int) + 1)=True:=eq_true (by have h_:=Cs;rw [show(Ad ++ (⟨#[46]⟩:ByteArray)).size=Ad.size + 1 from by(simp only [ByteArray.size_append];rfl)]at h_;omega)
       have Ej:decide (3000 < ((Ad ++ (⟨#[46]⟩:ByteArray)).size:Int))=true:=decide_eq_true Cs
       have Ek:decide (3000 < (Ad ++ (⟨#[46]⟩:ByteArray)).size)=true:=decide_eq_true (by omega)
       clear Cs
       obtain rfl:=Option.some.inj H
       obtain⟨Hh,Hi,Fy⟩:=Kd.R_slice Aj.out
       subst Fy
       go_wp2
       go_ret
       exact⟨qf,qb⟩
      ·rw [if_neg Cs]at H
       have Ei:(3000 < (Ad.size:Int) + 1)=False:=eq_false (by have h_:=Cs;rw [show(Ad ++ (⟨#[46]⟩:ByteArray)).size=Ad.size + 1 from by(simp only [ByteArray.size_append];rfl)]at h_;omega)
       have Ej:decide (3000 < ((Ad ++ (⟨#[46]⟩:ByteArray)).size:Int))=false:=decide_eq_false Cs
       have Ek:decide (3000 < (Ad ++ (⟨#[46]⟩:ByteArray)).size)=false:=decide_eq_false (by omega)
       clear Cs
       obtain rfl:=Option.some.inj H
       obtain⟨Hj,Hk,Fz⟩:=Kd.R_slice Aj.out
       subst Fz
       go_wp2
       go_ret
       exact⟨qf,qb⟩
 ·replace c3:=Bool.eq_false_iff.mpr c3
  subst c3
  replace H:=qF H
  obtain rfl:=Option.some.inj H
  go_enter Try.func52,Try.ntmps52
  go_wp2_with (first|((with_reducible refine y17 (N:=1) rfl ?_);refine qe 1 #[.slice Au Ag.length Av,.int .i64 Ah,.string Ai,.slice Ar Af.length As,.slice Bb Aa.length Aw] 36 ?_;intro Bq hg Hr hbox hb;have Ab:=y0.mk (hbox);have Du:=y0.mk (qg (w:=w) hg);have Dw:=y0.mk (qg (w:=w) hg);replace HB:=y0.mk (y5 qb hb);clear hb hbox hg;obtain⟨Fc,Fd,Fe,Ff,Fg,Fh,Fi,Fj,Fk,Fl⟩:=qz5 Ab.out)|((with_reducible refine y16 (f:=67) rfl ?_);refine y18 (some 8) rfl rfl Try.func67 (by kernel_rfl) rfl #[.agg #[.slice Au Ag.length Av,.int .i64 Ah,.string Ai,.slice Ar Af.length As,.slice Bb Aa.length Aw]] rfl qy1 ?_;(with_reducible refine(z4_.calls k _ _ Ag Ah Ai _ _ Af _ _ Aa false _ (qc (Kd.C_below Bj.out HB.out)) Bk.out (qc (Kd.C_below Bc.out HB.out)) Bd.out (qc (Kd.C_below Be.out HB.out)) Bl.out A2.out).mono ?_);rintro e Hs ⟨rfl,hb⟩;refine⟨_,rfl, ?_⟩;replace Ab:=y0.mk (qK Ab.out hb);replace HB:=y0.mk (y5 qb hb);(try clear hb)))
  go_ret
  exact⟨qf,qb⟩
def impl_hasForm.f (k:Nat) (l0_0:List (S63)) (a0_1:Int) (a0_2:ByteArray) (l0_3:List Int) (l0_4:List (S33)):Option (Bool):=(impl_ruleText.f k l0_0 a0_1 a0_2 l0_3 l0_4).bind fun t422=>(some (t422.toList != ([]:List UInt8)))
set_option maxHeartbeats 8000000 in
set_option maxRecDepth 100000 in
theorem impl_hasForm.calls (k:Nat) (Ah:Option Addr) (Ai:Nat) (Aa:List (S63)) (Ad:Int) (Af:ByteArray) (Aj:Option Addr) (Ak:Nat) (Ab:List Int) (Am:Option Addr) (Ap:Nat) (Ac:List (S33)) (r:Bool) (w:World) (Ar:Kd.C k63 w Ah Aa.length Aa) (As:Aa.length≤Ai) (At:Kd.C (Kd.int .i64) w Aj Ab.length Ab) (Au:Ab.length≤Ak) (Av:Kd.C k33 w Am Ac.length Ac) (Aw:Ac.length≤Ap) (h:impl_hasForm.f k Aa Ad Af Ab Ac=some r) :
  Calls Try.prog 28 #[.agg #[.slice Ah Aa.length Ai,.int .i64 Ad,.string Af,.slice Aj Ab.length Ak,.slice Am Ac.length Ap]] w fun e w'=>e=.returned (.bool r)∧Below w.heap.size w w':=by
 have Bs:=Try.underlying36
 have Az:=y0.mk Ar
 have Ba:=y0.mk As
 clear Ar As
 have Bb:=y0.mk At
 have Bc:=y0.mk Au
 clear At Au
 have Bd:=y0.mk Av
 have Be:=y0.mk Aw
 clear Av Aw
 have HB:=y0.mk (Below.refl w.heap.size w)
 have H:((impl_ruleText.f k Aa Ad Af Ab Ac).bind fun Ay=>(some (Ay.toList != ([]:List UInt8))))=some r:=h
 clear h
 obtain⟨Ay,A2,H⟩:=qB H
 obtain rfl:=Option.some.inj H
 go_enter Try.func28,Try.ntmps28
 go_wp2_with (first|((with_reducible refine y17 (N:=1) rfl ?_);refine qe 1 #[.slice Ah Aa.length Ai,.int .i64 Ad,.string Af,.slice Aj Ab.length Ak,.slice Am Ac.length Ap] 36 ?_;intro Bp hg w3 hbox hb;have Ag:=y0.mk (hbox);have Bq:=y0.mk (qg (w:=w) hg);have Br:=y0.mk (qg (w:=w) hg);replace HB:=y0.mk (y5 qb hb);clear hb hbox hg;obtain⟨Bf,Bg,Bh,Bi,Bj,Bk,Bl,Bm,Bn,Bo⟩:=qz5 Ag.out)|((with_reducible refine y16 (f:=52) rfl ?_);refine y18 (some 4) rfl rfl Try.func52 (by kernel_rfl) rfl #[.agg #[.slice Ah Aa.length Ai,.int .i64 Ad,.string Af,.slice Aj Ab.length Ak,.slice Am Ac.length Ap]] rfl qy1 ?_;(with_reducible refine(impl_ruleText.calls k _ _ Aa Ad Af _ _ Ab _ _ Ac Ay _ (qc (Kd.C_below Az.out HB.out)) Ba.out (qc (Kd.C_below Bb.out HB.out)) Bc.out (qc (Kd.C_below Bd.out HB.out)) Be.out A2.out).mono ?_);rintro e w5 ⟨rfl,hb⟩;refine⟨_,rfl, ?_⟩;replace Ag:=y0.mk (qK Ag.out hb);replace HB:=y0.mk (y5 qb hb);(try clear hb)))
 go_ret
 -- fixform
 have hform_:∀ l:List UInt8,l.isEmpty=!(l != []):=fun l=>by cases l <;> rfl
 exact⟨by(simp [y13,y14];exact hform_ _),qb⟩
/-- slices.Sort of whole numbers: they rise. -/
def slices_Sort_int_int.f (l0:List Int):Option (List Int):=if l0.length < 4611686018427387904 then some (l0.mergeSort fun x y=>decide (x≤y))else none
open Go.Sort Go.Shelf in
theorem slices_Sort_int_int.calls (P0_:Nat→Prop) (u9000_:Value) (l0:List Int) (r1:List Int) (w0 w:World) (hB:Below w0.heap.size w0 w) (Aa:Kd.R (Kd.int .i64) 3 w w0.heap.size P0_ u9000_ l0) (h:slices_Sort_int_int.f l0=some r1) :
  Calls Try.prog 70 #[u9000_] w fun e w'=>e=.returned (.tuple #[])∧Kd.R (Kd.int .i64) 3 w' w0.heap.size (fun k_=>(P0_ k_∨w.heap.size≤k_)) u9000_ r1∧Below w0.heap.size w0 w'∧Kept w w' (fun k_=>P0_ k_):=by
 unfold slices_Sort_int_int.f at h
 by_cases hd:l0.length < 4611686018427387904
 case neg=>rw [if_neg hd]at h;cases h
 rw [if_pos hd]at h
 injection h with h
 subst h
 obtain⟨h0,inner,ho,hr⟩:=Aa
 rcases ho.2 with⟨rfl,hn⟩|⟨g,cap,cur,rfl,hbase,hb,h1,h2,h3,h4⟩
 ·have Ab:l0=[]:=List.length_eq_zero_iff.1 hn
  subst Ab
  refine(Try.slices_Sort_int_none none 0 w).mono ?_
  rintro e w' ⟨rfl,rfl⟩
  rw [show(([]:List Int).mergeSort fun x y=>decide (x≤y))=[]from by simp]
  exact⟨rfl,Kd.R_nil _ _ _ _ _,hB,Kept.refl _ _⟩
 ·have hsz:(Kd.int .i64).sz=1:=rfl
  rw [hsz]at h3 h4
  have hil:inner.length=l0.length:=by have:=hr.1;rw [hsz]at this;omega
  have hin:inner=l0.map (Value.int .i64):=by
   apply List.ext_getElem?
   intro j
   by_cases hj:j < l0.length
   ·have h5:=hr.2 j l0[j] (List.getElem?_eq_getElem hj)
    rw [hsz,Nat.mul_one]at h5
    have h6:(inner.drop j).take 1=[Value.int .i64 l0[j]]:=h5
    have h7:=congrArg (fun l=>l[0]?) h6
    simp only [List.getElem?_take_of_lt Nat.one_pos,List.getElem?_drop,Nat.add_zero]at h7
    rw [h7,List.getElem?_map,List.getElem?_eq_getElem hj]
    rfl
   ·rw [List.getElem?_eq_none (by omega),List.getElem?_eq_none (by rw [List.length_map];omega)]
  have hcur:∀ j,j < l0.length→cur[j]?=some (Value.int .i64 (l0.toArray[j]!)):=fun j hj=>by
   have h8:cur.toList[j]?=(l0.map (Value.int .i64))[j]?:=by
    rw [← hin,← h4,Nat.mul_one,List.getElem?_take_of_lt hj]
   rw [← Array.getElem?_toList,h8,List.getElem?_map,List.getElem?_eq_getElem hj]
   have:l0.toArray[j]! = l0[j]:=by rw [getElem!_pos l0.toArray j (by simpa using hj)];simp
   rw [this]
   rfl
  have hH:Holds (Value.int .i64) w g 0 l0.toArray:=by
   intro j hj
   have Ac:j < l0.length:=by simpa using hj
   refine⟨?_,by simp [World.frozen?,hb]⟩
   simp only [World.cell?,hb,Nat.zero_add,Option.isSome_none,Bool.false_eq_true,if_false,id]
   rw [hcur j Ac]
  refine(Try.slices_Sort_int g 0 cap l0 w hH (Array.getElem?_eq_some_iff.1 hb).1 hd).mono ?_
  rintro e w' ⟨rfl,n,os,rfl⟩
  have hl:(l0.mergeSort fun x y=>decide (x≤y)).length=l0.length:=List.length_mergeSort l0
  generalize (l0.mergeSort fun x y=>decide (x≤y))=zs at hl ⊢
  have hg:g < w.heap.size:=(Array.getElem?_eq_some_iff.1 hb).1
  have hheap:(grow (putRow (Value.int .i64) (Sort.ahead w n) g 0 zs.toArray) os).heap[g]?=some (.cells (putCells (Value.int .i64) 0 zs.toArray cur) 3 (0,0)):=by
   rw [heap_grow_old _ _ (by simpa using hg)]
   simp [putRow,mapBlock,Sort.ahead,Array.getElem?_modify,hb,onCells]
  have hgr:w.grownBy (grow (putRow (Value.int .i64) (Sort.ahead w n) g 0 zs.toArray) os) (some g):=by
   refine⟨rfl,rfl,rfl,by simp,fun k hk hne=>?_⟩
   rw [heap_grow_old _ _ (by simpa using hk)]
   have:g≠k:=fun e=>hne (by rw [e])
   simp [putRow,mapBlock,Sort.ahead,Array.getElem?_modify,this]
  have htk:(putCells (Value.int .i64) 0 zs.toArray cur).toList.take zs.length=zs.map (Value.int .i64):=by
   apply List.ext_getElem?
   intro j
   by_cases hj:j < zs.length
   ·rw [List.getElem?_take_of_lt hj,Array.getElem?_toList,List.getElem?_map,List.getElem?_eq_getElem hj]
    have:j < cur.size:=by rw [h3];omega
    simp [putCells,hj,this]
   ·rw [List.getElem?_take_eq_none (by omega),List.getElem?_eq_none (by rw [List.length_map];omega)]
  refine⟨rfl,⟨fun k hk=>.inl (h0 k hk),zs.map (Value.int .i64),⟨by simp [hsz],Or.inr ⟨g,cap,putCells (Value.int .i64) 0 zs.toArray cur, ?_,hbase,hheap,by simp [hl,h1],h2,by simp [putCells,h3,hsz], ?_⟩⟩,by simp [hsz],fun i p hi=>?_⟩,Below.grown hB hgr (by omega) (fun k e=>by cases e;exact hbase),Kept.of_grown hgr (Kept.refl _ _) (fun k e=>.inl (h0 k (by rw [← e];simp [Value.ownBlock])))⟩
  ·simp [hl]
  ·rw [hsz,Nat.mul_one]
   exact htk
  ·rw [hsz,Nat.mul_one]
   have Ad:=(List.getElem?_eq_some_iff.1 hi)
   obtain⟨Af,Ag⟩:=Ad
   show((zs.map (Value.int .i64)).drop i).take 1=[Value.int .i64 p]
   rw [List.drop_eq_getElem_cons (by simpa using Af)]
   simp [Ag]
mutual
def impl_Rule_plain.l0:Nat→List Int→List Int→Int→Int→List (S63)→Int→ByteArray→List Int→List (S33)→Option (List Int)
 | 0,_,_,_,_,_,_,_,_,_=>none
 | k + 1,x5,x23,x24,x25,x424000,x424001,x424002,x424003,x424004=>if x25 < x24 then(if 0≤x25 then(if x25 < (x23.length:Int)then((impl_Rule_plain.f k x424000 x424001 x424002 x424003 x424004 (rd x23 x25)).bind fun t432=>(if x5.length + t432.length < 17592186044416 then(impl_Rule_plain.l0 k (x5 ++ t432) x23 x24 (wrap64 (x25 + 1)) x424000 x424001 x424002 x424003 x424004)else(none)))else(none))else(none))else((slices_Sort_int_int.f x5).bind fun t438=>(some t438))
def impl_Rule_plain.f:Nat→List (S63)→Int→ByteArray→List Int→List (S33)→Int→Option (List Int)
 | 0,_,_,_,_,_,_=>none
 | k + 1,l0_0,a0_1,a0_2,l0_3,l0_4,a1=>(some (([a1]:List Int):List Int)).bind fun y424=>(if 0≤a1 then(if a1 < (l0_0.length:Int)then((impl_isSum.f ((y21 l0_0 a1).f0)).bind fun t428=>(if t428=true then((slices_Sort_int_int.f y424).bind fun t429=>(some t429))else(impl_Rule_plain.l0 k y424 ((y21 l0_0 a1).f2) (((y21 l0_0 a1).f2).length:Int) 0 l0_0 a0_1 a0_2 l0_3 l0_4)))else(none))else(none))
end
set_option maxHeartbeats 8000000 in
set_option maxRecDepth 100000 in
theorem impl_Rule_plain.calls (k:Nat):∀(Bp:Option Addr) (Bf:Nat) (Aa:List (S63)) (Ar:Int) (As:ByteArray) (Bg:Option Addr) (Bh:Nat) (Ah:List Int) (Bi:Option Addr) (Bj:Nat) (Ai:List (S33)) (a1:Int) (r:List Int) (w:World) (Bq:Kd.C k63 w Bp Aa.length Aa) (Br:Aa.length≤Bf) (Bs:Kd.C (Kd.int .i64) w Bg Ah.length Ah) (Bt:Ah.length≤Bh) (Bu:Kd.C k33 w Bi Ai.length Ai) (Bv:Ai.length≤Bj) (h:impl_Rule_plain.f k Aa Ar As Ah Ai a1=some r),
  Calls Try.prog 73 #[.agg #[.slice Bp Aa.length Bf,.int .i64 Ar,.string As,.slice Bg Ah.length Bh,.slice Bi Ai.length Bj],.int .i64 a1] w fun e w'=>∃ v0_:Value,e=.returned (v0_)∧Kd.R (Kd.int .i64) 3 w' w.heap.size (fun _=>True) v0_ r∧Below w.heap.size w w':=by
 induction k using Nat.strongRecOn with
 | _ k ih =>
 intro Bp Bf Aa Ar As Bg Bh Ah Bi Bj Ai a1 r w Bq Br Bs Bt Bu Bv h
 cases k with
 | zero=>exact absurd h (by simp [impl_Rule_plain.f])
 | succ k =>
 simp only [impl_Rule_plain.f]at h
 have Fk:=Try.underlying36
 have Bk:=y0.mk Bq
 have De:=y0.mk Br
 clear Bq Br
 have Df:=y0.mk Bs
 have Dg:=y0.mk Bt
 clear Bs Bt
 have Dh:=y0.mk Bu
 have Di:=y0.mk Bv
 clear Bu Bv
 have HB:=y0.mk (Below.refl w.heap.size w)
 have H:((some (([a1]:List Int):List Int)).bind fun Aw=>(if 0≤a1 then(if a1 < (Aa.length:Int)then((impl_isSum.f ((y21 Aa a1).f0)).bind fun Bw=>(if Bw=true then((slices_Sort_int_int.f Aw).bind fun Bx=>(some Bx))else(impl_Rule_plain.l0 k Aw ((y21 Aa a1).f2) (((y21 Aa a1).f2).length:Int) 0 Aa Ar As Ah Ai)))else(none))else(none)))=some r:=h
 clear h
 obtain⟨Aw,Ba⟩:∃ y_:List Int,y_=(([a1]:List Int)):=⟨_,rfl⟩
 replace H:(if 0≤a1 then(if a1 < (Aa.length:Int)then((impl_isSum.f ((y21 Aa a1).f0)).bind fun Bw=>(if Bw=true then((slices_Sort_int_int.f Aw).bind fun Bx=>(some Bx))else(impl_Rule_plain.l0 k Aw ((y21 Aa a1).f2) (((y21 Aa a1).f2).length:Int) 0 Aa Ar As Ah Ai)))else(none))else(none))=some r:=by first|(rw [Ba];with_reducible exact H)|(have H2_:=(Option.bind_some _ _).symm.trans H;rw [Ba];with_reducible exact H2_)|(have H2_:=(Option.bind_some _ _).symm.trans H;with_reducible exact H2_)|with_reducible exact H|(rw [Ba];exact H)|exact H
 have Bl:=y0.mk Ba
 clear Ba
 obtain⟨c3,H⟩:=qo H
 have Eo:decide (0≤a1)=true:=decide_eq_true c3
 clear c3
 obtain⟨c4,H⟩:=qo H
 have Ep:decide (a1 < (Aa.length:Int))=true:=decide_eq_true c4
 clear c4
 obtain⟨Bw,A5,H⟩:=qB H
 by_cases c6:Bw=true
 ·subst c6
  replace H:=qT H
  obtain⟨Bx,A7,H⟩:=qB H
  obtain rfl:=Option.some.inj H
  go_enter Try.func73,Try.ntmps73
  go_wp2_with (first|((with_reducible refine y17 (N:=2) rfl ?_);refine qe 2 #[.slice Bp Aa.length Bf,.int .i64 Ar,.string As,.slice Bg Ah.length Bh,.slice Bi Ai.length Bj] 36 ?_;intro Ct hg w8 hbox hb;have Ab:=y0.mk (hbox);have Dj:=y0.mk (qg (w:=w) hg);have Bz:=y0.mk (qg (w:=w) hg);replace HB:=y0.mk (y5 qb hb);clear hb hbox hg)|((with_reducible refine y17 (N:=9) rfl ?_);refine qL (Kd.int .i64) 3 9 ([a1]:List Int) ?_;intro Eq w9 Ca hb hg_ hnew_;clear hg_ hnew_;(first|rw [← Bl.out]at Ca|(simp only [Int.reduceToNat]at Ca;rw [← Bl.out]at Ca));have Ap:=y0.mk (Kd.R_lower Ca (y4 qb));replace Ab:=y0.mk (qK Ab.out hb);replace HB:=y0.mk (y5 qb hb);clear hb Ca;obtain⟨Ds,Dt,Du,Dw,Dx,Dy,Dz,Ea,Eb,Ec⟩:=qz5 Ab.out;have Bb:0≤(a1:Int):=of_decide_eq_true qy0;have Bc:a1 < (Aa.length:Int):=of_decide_eq_true qy0;obtain⟨Bm,Cu,Cv,Cw,Ad,Af,Ac,Aj,Ak⟩:=at_T63 Bk.out a1 Bb Bc;cases Cw;replace Ad:=(HB.out.cell (World.block_lt_of_cell? w _ Ad)).trans Ad;replace Af:=(HB.out.cell (World.block_lt_of_cell? w _ Af)).trans Af;replace Ac:=(HB.out.cell (World.block_lt_of_cell? w _ Ac)).trans Ac;have Cc:=y0.mk Ak;have Cd:=y0.mk Aj;clear Ak Aj;replace Bb:=eq_true Bb;replace Bc:=eq_true Bc)|((with_reducible refine y16 (f:=65) rfl ?_);refine y18 (some 16) rfl rfl Try.func65 (by kernel_rfl) rfl #[.int .i64 ((y21 Aa a1).f0)] rfl qy1 ?_;(with_reducible refine(impl_isSum.calls ((y21 Aa a1).f0) true _ A5.out).mono ?_);rintro e w' ⟨rfl,⟨nd,rfl⟩⟩;refine⟨_,rfl, ?_⟩;obtain⟨Cx,Cy,Er⟩:=Kd.R_slice Ap.out;subst Er)|((with_reducible refine y16 (f:=70) rfl ?_);refine y18 (some 36) rfl rfl Try.func70 (by kernel_rfl) rfl #[.slice Cx Aw.length Cy] rfl qy1 ?_;(with_reducible refine(slices_Sort_int_int.calls (fun k_=>some k_=(.slice Cx Aw.length Cy:Value).ownBlock) (.slice Cx Aw.length Cy) Aw Bx w _ (by repeat(first|(with_reducible first|exact HB.out|apply below_alloc|apply y19|apply y2|refine y3 ?_ Bz.out)|exact HB.out)) (by exact Kd.R_tight rfl (qR Ap.out)) A7.out).mono ?_);rintro e Fq ⟨rfl,Dk,hb,hkp⟩;refine⟨_,rfl, ?_⟩;replace Ab:=y0.mk (blk_kept (qk Ab.out) hkp (fun hs_=>(fun e_=>(Kd.R_ne Ap.out Ab.out (by decide)) e_) hs_));replace Ap:=y0.mk (Kd.R_reok rfl Dk (fun k_ e_=>Ap.out.1 k_ e_));replace HB:=y0.mk (hb);(try clear hb);(try clear hkp);(try clear Dk)))
  go_ret
  exact⟨_,by first|rfl|(simp [y13,y14] <;> rfl)|(simp [*,y13,y14] <;> rfl),by(with_reducible repeat(first|apply Kd.R_alloc|apply Kd.R_drewN|apply Kd.R_drew));exact Ap.out,qb⟩
 ·replace c6:=Bool.eq_false_iff.mpr c6
  subst c6
  replace H:=qF H
  have H':=y0.mk H
  clear H
  go_enter Try.func73,Try.ntmps73
  go_wp2_with (first|((with_reducible refine y17 (N:=2) rfl ?_);refine qe 2 #[.slice Bp Aa.length Bf,.int .i64 Ar,.string As,.slice Bg Ah.length Bh,.slice Bi Ai.length Bj] 36 ?_;intro Ct hg Fr hbox hb;have Ab:=y0.mk (hbox);have Dj:=y0.mk (qg (w:=w) hg);have Bz:=y0.mk (qg (w:=w) hg);replace HB:=y0.mk (y5 qb hb);clear hb hbox hg)|((with_reducible refine y17 (N:=9) rfl ?_);refine qL (Kd.int .i64) 3 9 ([a1]:List Int) ?_;intro Eq Fs Cb hb hg_ hnew_;clear hg_ hnew_;(first|rw [← Bl.out]at Cb|(simp only [Int.reduceToNat]at Cb;rw [← Bl.out]at Cb));have Ap:=y0.mk (Kd.R_lower Cb (y4 qb));replace Ab:=y0.mk (qK Ab.out hb);replace HB:=y0.mk (y5 qb hb);clear hb Cb;obtain⟨Ce,Cf,Cg,Ch,Ci,Cj,Ck,Cl,Cm,Cn⟩:=qz5 Ab.out;have Bb:0≤(a1:Int):=of_decide_eq_true qy0;have Bc:a1 < (Aa.length:Int):=of_decide_eq_true qy0;obtain⟨Bm,Cu,Cv,Cw,Ad,Af,Ac,Aj,Ak⟩:=at_T63 Bk.out a1 Bb Bc;cases Cw;replace Ad:=(HB.out.cell (World.block_lt_of_cell? w _ Ad)).trans Ad;replace Af:=(HB.out.cell (World.block_lt_of_cell? w _ Af)).trans Af;replace Ac:=(HB.out.cell (World.block_lt_of_cell? w _ Ac)).trans Ac;have Cc:=y0.mk Ak;have Cd:=y0.mk Aj;clear Ak Aj;replace Bb:=eq_true Bb;replace Bc:=eq_true Bc)|((with_reducible refine y16 (f:=65) rfl ?_);refine y18 (some 16) rfl rfl Try.func65 (by kernel_rfl) rfl #[.int .i64 ((y21 Aa a1).f0)] rfl qy1 ?_;(with_reducible refine(impl_isSum.calls ((y21 Aa a1).f0) false _ A5.out).mono ?_);rintro e w' ⟨rfl,⟨nd,rfl⟩⟩;refine⟨_,rfl, ?_⟩;have Cp:0≤(a1:Int):=of_decide_eq_true qy0;have Cq:a1 < (Aa.length:Int):=of_decide_eq_true qy0;obtain⟨Dl,Es,Et,Eu,Au,Av,Am,Bn,Bo⟩:=at_T63 Bk.out a1 Cp Cq;obtain rfl:Bm=Dl:=(by injection Eu);replace Au:=(HB.out.cell (World.block_lt_of_cell? w _ Au)).trans Au;replace Av:=(HB.out.cell (World.block_lt_of_cell? w _ Av)).trans Av;replace Am:=(HB.out.cell (World.block_lt_of_cell? w _ Am)).trans Am;have Cr:=y0.mk Bo;have Ed:=y0.mk Bn;clear Bo Bn;replace Cp:=eq_true Cp;replace Cq:=eq_true Cq;have ea_:=Option.some.inj (Ac.symm.trans Am);injection ea_ with ea_ en_ ec_;subst ea_;subst ec_;clear en_))
  go_loopg [5,25] k (fun kq v5 Fl w'=>∃(Ay:List Int) (Ag:Int),Fl=.int .i64 Ag∧y0 (impl_Rule_plain.l0 kq Ay ((y21 Aa a1).f2) (((y21 Aa a1).f2).length:Int) Ag Aa Ar As Ah Ai=some r)∧y0 (kq≤k)∧y0 (Kd.R (Kd.int .i64) 3 w' w.heap.size (fun _=>True) v5 Ay)∧y0 (w'.heap[Ct]?=some (.cells #[(.slice (some Bm) Aa.length Bf),.int .i64 Ar,.string As,(.slice Bg Ah.length Bh),(.slice Bi Ai.length Bj)] 36 (0,0)))∧y0 (Below w.heap.size w w'))
  case atStart=>exact⟨(Aw),(0),qy2,H',⟨Nat.le_refl _⟩,⟨qR Ap.out⟩,⟨qk Ab.out⟩,⟨qb⟩⟩
  case round =>
   clear H'
   (try clear Eo Ep c6 Ce Cf Cg Ch Ci Cj Ck Cl Cm Cn Ad Af Ac Au Av Am Bb Cp Bc Cq)
   obtain⟨Ay,Ag,rfl,HA,Ew,At,Ab,HB⟩:=hrel
   cases gk with
   | zero=>exact absurd HA.out (by simp [impl_Rule_plain.l0])
   | succ k1 =>
    have H:=HA.out
    clear HA
    simp only [impl_Rule_plain.l0]at H
    by_cases Dd:Ag < (((y21 Aa a1).f2).length:Int)
    ·rw [if_pos Dd]at H
     have Dm:=decide_eq_true Dd
     clear Dd
     obtain⟨Fe,H⟩:=qo H
     have Ff:decide (0≤Ag)=true:=decide_eq_true Fe
     clear Fe
     obtain⟨Fg,H⟩:=qo H
     have Fh:=decide_eq_true Fg
     clear Fg
     obtain⟨Cs,Fm,H⟩:=qB H
     obtain⟨Fi,H⟩:=qo H
     have Do:=y0.mk Fi
     clear Fi
     obtain⟨Dp,Bd⟩:∃ y_:List Int,y_=(Ay ++ Cs):=⟨_,rfl⟩
     replace H:(impl_Rule_plain.l0 k1 Dp ((y21 Aa a1).f2) (((y21 Aa a1).f2).length:Int) (wrap64 (Ag + 1)) Aa Ar As Ah Ai)=some r:=by first|(rw [Bd];with_reducible exact H)|(have H2_:=(Option.bind_some _ _).symm.trans H;rw [Bd];with_reducible exact H2_)|(have H2_:=(Option.bind_some _ _).symm.trans H;with_reducible exact H2_)|with_reducible exact H|(rw [Bd];exact H)|exact H
     have Dq:=y0.mk Bd
     clear Bd
     have H':=y0.mk H
     clear H
     have Cz:0≤(Ag:Int):=of_decide_eq_true qy0
     have Da:Ag < (((y21 Aa a1).f2).length:Int):=of_decide_eq_true qy0
     obtain⟨Fj,Ex,Az⟩:=Kd.at_int Cr.out Ag Cz Da
     cases Ex
     replace Az:=(HB.out.cell (World.block_lt_of_cell? w _ Az)).trans Az
     replace Cz:=eq_true Cz
     replace Da:=eq_true Da
     obtain⟨Ee,Ef,Eg,Eh,Ei,Ej,Ek,El,Em,En⟩:=qz5 Ab.out
     go_wp2_with (first|((with_reducible refine y16 (f:=73) rfl ?_);refine y18 (some 32) rfl rfl Try.func73 (by kernel_rfl) rfl #[.agg #[.slice (some Bm) Aa.length Bf,.int .i64 Ar,.string As,.slice Bg Ah.length Bh,.slice Bi Ai.length Bj],.int .i64 (rd ((y21 Aa a1).f2) Ag)] rfl qy1 ?_;(with_reducible refine(ih k1 (by have:=Ew.out;omega) _ _ Aa Ar As _ _ Ah _ _ Ai (rd ((y21 Aa a1).f2) Ag) Cs _ (qc (Kd.C_below Bk.out HB.out)) De.out (qc (Kd.C_below Df.out HB.out)) Dg.out (qc (Kd.C_below Dh.out HB.out)) Di.out Fm.out).mono ?_);rintro e Ft ⟨Fn,rfl,Ey,hb⟩;refine⟨_,rfl, ?_⟩;have Be:=y0.mk (Kd.R_lower (Kd.R_new' Ey (Kd.R_lt (qR At.out))) (y4 qb));replace At:=y0.mk (Kd.R_elder' (qR At.out) (Kd.R_base Ey) hb);replace Ab:=y0.mk (qK Ab.out hb);replace HB:=y0.mk (y5 qb hb);(try clear hb);(try clear Ey);obtain⟨Ez,Fa,Fb⟩:=Kd.R_slice Be.out;subst Fb)|((with_reducible refine gate_builtin (b:=.append) (xs:=#[.tmp 29,.tmp 32]) rfl ?_);at_builtin;refine Kd.R_append_rows (Kd.int .i64) (w0:=w) w.heap.size rfl (.tmp 29) (.tmp 32) 23 3 (.int .i64 0) 8 rfl Try.underlying23 info3 rfl (by decide) (by omega) u5 Ay Cs _ _ _ (fun k_=>some k_≠(.slice Ez Cs.length Fa:Value).ownBlock) (fun _=>False) rfl rfl ?aO ?aR (fun _ _ h=>h) (fun _ h=>h.elim) ?aF ?aB ?aS ?aL ?_;(case aR=>repeat(first|exact(Kd.R_reads' Be.out).2.2|(with_reducible refine Kd.C_alloc ?_ _)|(with_reducible refine Kd.C_drewN ?_ _)|(with_reducible refine Kd.C_drew ?_)));(case aB=>exact qb);(case aF=>exact(fun k_ hk=>Kd.fresh' (Kd.R_lt (qR Be.out)) k_ hk));(case aO=>exact(qR (Kd.R_mono At.out (fun _ hk=>hk.2))));(case aS=>exact(y4 qb));(case aL=>have:=Do.out;omega);intro Fo Fu ho hb hg hat;rw [← Dq.out]at ho;replace Ab:=y0.mk (blk_grown (qk Ab.out) hg (Kd.R_ne At.out Ab.out (by decide)));replace Be:=y0.mk (Kd.R_after (ok:=(fun _=>True)) (qR Be.out) hg hat);replace HB:=y0.mk (hb);have Dr:=y0.mk (ho);clear At;clear ho hb hg hat))
     go_roundg k1
     case measure=>have:=Ew.out;omega
     exact⟨(Dp),(wrap64 (Ag + 1)),qy2,H',⟨by have:=Ew.out;omega⟩,⟨qR (Kd.R_mono Dr.out (fun _ hk=>trivial))⟩,⟨qk Ab.out⟩,⟨qb⟩⟩
    ·rw [if_neg Dd]at H
     have Dm:=decide_eq_false Dd
     clear Dd
     obtain⟨Fc,Fp,H⟩:=qB H
     obtain rfl:=Option.some.inj H
     obtain⟨Db,Dc,Fd⟩:=Kd.R_slice At.out
     subst Fd
     go_wp2_with (first|((with_reducible refine y16 (f:=70) rfl ?_);refine y18 (some 36) rfl rfl Try.func70 (by kernel_rfl) rfl #[.slice Db Ay.length Dc] rfl qy1 ?_;(with_reducible refine(slices_Sort_int_int.calls (fun k_=>some k_=(.slice Db Ay.length Dc:Value).ownBlock) (.slice Db Ay.length Dc) Ay Fc w _ (by repeat(first|(with_reducible first|exact HB.out|apply below_alloc|apply y19|apply y2|refine y3 ?_ Bz.out)|exact HB.out)) (by exact Kd.R_tight rfl (qR At.out)) Fp.out).mono ?_);rintro e Fv ⟨rfl,Dk,hb,hkp⟩;refine⟨_,rfl, ?_⟩;replace Ab:=y0.mk (blk_kept (qk Ab.out) hkp (fun hs_=>(fun e_=>(Kd.R_ne At.out Ab.out (by decide)) e_) hs_));replace At:=y0.mk (Kd.R_reok rfl Dk (fun k_ e_=>At.out.1 k_ e_));replace HB:=y0.mk (hb);(try clear hb);(try clear hkp);(try clear Dk)))
     go_ret
     exact⟨_,by first|rfl|(simp [y13,y14] <;> rfl)|(simp [*,y13,y14] <;> rfl),by(with_reducible repeat(first|apply Kd.R_alloc|apply Kd.R_drewN|apply Kd.R_drew));exact At.out,qb⟩
end Go.Proofs.Ytkdabljlfbmpdaa.Po
end
section
namespace Go.Proofs.Ytkdabljlfbmpdaa.Po
open Go.RowKit Go.Proofs.YtkdabljlfbmpdaaW.PrintWords Go.Proofs.YtkdabljlfbmpdaaW.PrintLast Go.Proofs.YtkdabljlfbmpdaaW.PrintMore
attribute [local go_sem] max2_int min2_int max_two min_two max_three min_three max_four min_four   -- for this text's walks alone
set_option linter.unusedVariables false
set_option linter.unusedSimpArgs false
mutual
def impl_Rule_within.l0:Nat→Int→List Int→List Int→Int→Int→List (S63)→Int→ByteArray→List Int→List (S33)→Option (List Int)
 | 0,_,_,_,_,_,_,_,_,_,_=>none
 | k + 1,x1,x5,x14,x15,x16,x440000,x440001,x440002,x440003,x440004=>if x16 < x15 then(if 0≤x16 then(if x16 < (x14.length:Int)then((impl_Rule_within.f k x440000 x440001 x440002 x440003 x440004 (rd x14 x16)).bind fun t445=>(if x5.length + t445.length < 17592186044416 then(impl_Rule_within.l0 k x1 (x5 ++ t445) x14 x15 (wrap64 (x16 + 1)) x440000 x440001 x440002 x440003 x440004)else(none)))else(none))else(none))else(if x5.length < 17592186044416 then((slices_Sort_int_int.f (x5 ++ [x1])).bind fun t454=>(some t454))else(none))
def impl_Rule_within.f:Nat→List (S63)→Int→ByteArray→List Int→List (S33)→Int→Option (List Int)
 | 0,_,_,_,_,_,_=>none
 | k + 1,l0_0,a0_1,a0_2,l0_3,l0_4,a1=>if 0≤a1 then(if a1 < (l0_0.length:Int)then(impl_Rule_within.l0 k a1 (([]:List Int)) ((y21 l0_0 a1).f2) (((y21 l0_0 a1).f2).length:Int) 0 l0_0 a0_1 a0_2 l0_3 l0_4)else(none))else(none)
end
set_option maxHeartbeats 8000000 in
set_option maxRecDepth 100000 in
theorem impl_Rule_within.calls (k:Nat):∀(Bm:Option Addr) (Ba:Nat) (Aa:List (S63)) (Aj:Int) (Ak:ByteArray) (Bb:Option Addr) (Bc:Nat) (Ad:List Int) (Bd:Option Addr) (Be:Nat) (Af:List (S33)) (a1:Int) (r:List Int) (w:World) (Bf:Kd.C k63 w Bm Aa.length Aa) (Bg:Aa.length≤Ba) (Bh:Kd.C (Kd.int .i64) w Bb Ad.length Ad) (Bi:Ad.length≤Bc) (Bj:Kd.C k33 w Bd Af.length Af) (Bk:Af.length≤Be) (h:impl_Rule_within.f k Aa Aj Ak Ad Af a1=some r),
  Calls Try.prog 53 #[.agg #[.slice Bm Aa.length Ba,.int .i64 Aj,.string Ak,.slice Bb Ad.length Bc,.slice Bd Af.length Be],.int .i64 a1] w fun e w'=>∃ v0_:Value,e=.returned (v0_)∧Kd.R (Kd.int .i64) 3 w' w.heap.size (fun _=>True) v0_ r∧Below w.heap.size w w':=by
 induction k using Nat.strongRecOn with
 | _ k ih =>
 intro Bm Ba Aa Aj Ak Bb Bc Ad Bd Be Af a1 r w Bf Bg Bh Bi Bj Bk h
 cases k with
 | zero=>exact absurd h (by simp [impl_Rule_within.f])
 | succ k =>
 simp only [impl_Rule_within.f]at h
 have Ek:=Try.underlying36
 have Br:=y0.mk Bf
 have Ck:=y0.mk Bg
 clear Bf Bg
 have Cl:=y0.mk Bh
 have Cm:=y0.mk Bi
 clear Bh Bi
 have Cn:=y0.mk Bj
 have Cp:=y0.mk Bk
 clear Bj Bk
 have HB:=y0.mk (Below.refl w.heap.size w)
 have H:(if 0≤a1 then(if a1 < (Aa.length:Int)then(impl_Rule_within.l0 k a1 (([]:List Int)) ((y21 Aa a1).f2) (((y21 Aa a1).f2).length:Int) 0 Aa Aj Ak Ad Af)else(none))else(none))=some r:=h
 clear h
 obtain⟨Cq,As⟩:∃ y_:List Int,y_=(([]:List Int)):=⟨_,rfl⟩
 replace H:(if 0≤a1 then(if a1 < (Aa.length:Int)then(impl_Rule_within.l0 k a1 Cq ((y21 Aa a1).f2) (((y21 Aa a1).f2).length:Int) 0 Aa Aj Ak Ad Af)else(none))else(none))=some r:=by first|(rw [As];with_reducible exact H)|(have H2_:=(Option.bind_some _ _).symm.trans H;rw [As];with_reducible exact H2_)|(have H2_:=(Option.bind_some _ _).symm.trans H;with_reducible exact H2_)|with_reducible exact H|(rw [As];exact H)|exact H
 have Bs:=y0.mk As
 clear As
 obtain⟨c3,H⟩:=qo H
 have Dm:decide (0≤a1)=true:=decide_eq_true c3
 clear c3
 obtain⟨c4,H⟩:=qo H
 have Do:decide (a1 < (Aa.length:Int))=true:=decide_eq_true c4
 clear c4
 have H':=y0.mk H
 clear H
 go_enter Try.func53,Try.ntmps53
 go_wp2_with (first|((with_reducible refine y17 (N:=2) rfl ?_);refine qe 2 #[.slice Bm Aa.length Ba,.int .i64 Aj,.string Ak,.slice Bb Ad.length Bc,.slice Bd Af.length Be] 36 ?_;intro Cr hg w5 hbox hb;have Ab:=y0.mk (hbox);have Eb:=y0.mk (qg (w:=w) hg);have Cs:=y0.mk (qg (w:=w) hg);replace HB:=y0.mk (y5 qb hb);clear hb hbox hg)|((with_reducible refine y17 (N:=8) rfl ?_);refine qL (Kd.int .i64) 3 8 ([]:List Int) ?_;intro El w6 Ct hb hg_ hnew_;clear hg_ hnew_;(first|rw [← Bs.out]at Ct|(simp only [Int.reduceToNat]at Ct;rw [← Bs.out]at Ct));have Cu:=y0.mk (Kd.R_lower Ct (y4 qb));replace Ab:=y0.mk (qK Ab.out hb);replace HB:=y0.mk (y5 qb hb);clear hb Ct;obtain⟨Bu,Bv,Bw,Bx,Bz,Ca,Cb,Cc,Cd,Ce⟩:=qz5 Ab.out;have Bn:0≤(a1:Int):=of_decide_eq_true qy0;have Bo:a1 < (Aa.length:Int):=of_decide_eq_true qy0;obtain⟨Bt,Dp,Dq,Dr,Ag,Ah,Ai,Ay,Az⟩:=at_T63 Br.out a1 Bn Bo;cases Dr;replace Ag:=(HB.out.cell (World.block_lt_of_cell? w _ Ag)).trans Ag;replace Ah:=(HB.out.cell (World.block_lt_of_cell? w _ Ah)).trans Ah;replace Ai:=(HB.out.cell (World.block_lt_of_cell? w _ Ai)).trans Ai;have Bp:=y0.mk Az;have Db:=y0.mk Ay;clear Az Ay;replace Bn:=eq_true Bn;replace Bo:=eq_true Bo))
 go_loopg [5,16] k (fun kq v5 Em w'=>∃(Aw:List Int) (Ac:Int),Em=.int .i64 Ac∧y0 (impl_Rule_within.l0 kq a1 Aw ((y21 Aa a1).f2) (((y21 Aa a1).f2).length:Int) Ac Aa Aj Ak Ad Af=some r)∧y0 (kq≤k)∧y0 (Kd.R (Kd.int .i64) 3 w' w.heap.size (fun _=>True) v5 Aw)∧y0 (w'.heap[Cr]?=some (.cells #[(.slice (some Bt) Aa.length Ba),.int .i64 Aj,.string Ak,(.slice Bb Ad.length Bc),(.slice Bd Af.length Be)] 36 (0,0)))∧y0 (Below w.heap.size w w'))
 case atStart=>exact⟨(Cq),(0),qy2,H',⟨Nat.le_refl _⟩,⟨qR Cu.out⟩,⟨qk Ab.out⟩,⟨qb⟩⟩
 case round =>
  clear H'
  (try clear Dm Do Bu Bv Bw Bx Bz Ca Cb Cc Cd Ce Ag Ah Ai Bn Bo)
  obtain⟨Aw,Ac,rfl,HA,Ds,Ap,Ab,HB⟩:=hrel
  cases gk with
  | zero=>exact absurd HA.out (by simp [impl_Rule_within.l0])
  | succ k1 =>
   have H:=HA.out
   clear HA
   simp only [impl_Rule_within.l0]at H
   by_cases c9:Ac < (((y21 Aa a1).f2).length:Int)
   ·rw [if_pos c9]at H
    have Dt:=decide_eq_true c9
    clear c9
    obtain⟨Ec,H⟩:=qo H
    have Ed:decide (0≤Ac)=true:=decide_eq_true Ec
    clear Ec
    obtain⟨Ee,H⟩:=qo H
    have Ef:=decide_eq_true Ee
    clear Ee
    obtain⟨Bq,En,H⟩:=qB H
    obtain⟨Eg,H⟩:=qo H
    have Cv:=y0.mk Eg
    clear Eg
    obtain⟨Cw,At⟩:∃ y_:List Int,y_=(Aw ++ Bq):=⟨_,rfl⟩
    replace H:(impl_Rule_within.l0 k1 a1 Cw ((y21 Aa a1).f2) (((y21 Aa a1).f2).length:Int) (wrap64 (Ac + 1)) Aa Aj Ak Ad Af)=some r:=by first|(rw [At];with_reducible exact H)|(have H2_:=(Option.bind_some _ _).symm.trans H;rw [At];with_reducible exact H2_)|(have H2_:=(Option.bind_some _ _).symm.trans H;with_reducible exact H2_)|with_reducible exact H|(rw [At];exact H)|exact H
    have Cx:=y0.mk At
    clear At
    have H':=y0.mk H
    clear H
    have Cf:0≤(Ac:Int):=of_decide_eq_true qy0
    have Cg:Ac < (((y21 Aa a1).f2).length:Int):=of_decide_eq_true qy0
    obtain⟨Eh,Du,Ar⟩:=Kd.at_int Bp.out Ac Cf Cg
    cases Du
    replace Ar:=(HB.out.cell (World.block_lt_of_cell? w _ Ar)).trans Ar
    replace Cf:=eq_true Cf
    replace Cg:=eq_true Cg
    obtain⟨Dc,Dd,De,Df,Dg,Dh,Di,Dj,Dk,Dl⟩:=qz5 Ab.out
    go_wp2_with (first|((with_reducible refine y16 (f:=53) rfl ?_);refine y18 (some 23) rfl rfl Try.func53 (by kernel_rfl) rfl #[.agg #[.slice (some Bt) Aa.length Ba,.int .i64 Aj,.string Ak,.slice Bb Ad.length Bc,.slice Bd Af.length Be],.int .i64 (rd ((y21 Aa a1).f2) Ac)] rfl qy1 ?_;(with_reducible refine(ih k1 (by have:=Ds.out;omega) _ _ Aa Aj Ak _ _ Ad _ _ Af (rd ((y21 Aa a1).f2) Ac) Bq _ (qc (Kd.C_below Br.out HB.out)) Ck.out (qc (Kd.C_below Cl.out HB.out)) Cm.out (qc (Kd.C_below Cn.out HB.out)) Cp.out En.out).mono ?_);rintro e Es ⟨Eo,rfl,Dw,hb⟩;refine⟨_,rfl, ?_⟩;have Au:=y0.mk (Kd.R_lower (Kd.R_new' Dw (Kd.R_lt (qR Ap.out))) (y4 qb));replace Ap:=y0.mk (Kd.R_elder' (qR Ap.out) (Kd.R_base Dw) hb);replace Ab:=y0.mk (qK Ab.out hb);replace HB:=y0.mk (y5 qb hb);(try clear hb);(try clear Dw);obtain⟨Dx,Dy,Dz⟩:=Kd.R_slice Au.out;subst Dz)|((with_reducible refine gate_builtin (b:=.append) (xs:=#[.tmp 20,.tmp 23]) rfl ?_);at_builtin;refine Kd.R_append_rows (Kd.int .i64) (w0:=w) w.heap.size rfl (.tmp 20) (.tmp 23) 23 3 (.int .i64 0) 8 rfl Try.underlying23 info3 rfl (by decide) (by omega) u5 Aw Bq _ _ _ (fun k_=>some k_≠(.slice Dx Bq.length Dy:Value).ownBlock) (fun _=>False) rfl rfl ?aO ?aR (fun _ _ h=>h) (fun _ h=>h.elim) ?aF ?aB ?aS ?aL ?_;(case aR=>repeat(first|exact(Kd.R_reads' Au.out).2.2|(with_reducible refine Kd.C_alloc ?_ _)|(with_reducible refine Kd.C_drewN ?_ _)|(with_reducible refine Kd.C_drew ?_)));(case aB=>exact qb);(case aF=>exact(fun k_ hk=>Kd.fresh' (Kd.R_lt (qR Au.out)) k_ hk));(case aO=>exact(qR (Kd.R_mono Ap.out (fun _ hk=>hk.2))));(case aS=>exact(y4 qb));(case aL=>have:=Cv.out;omega);intro Ep Et ho hb hg hat;rw [← Cx.out]at ho;replace Ab:=y0.mk (blk_grown (qk Ab.out) hg (Kd.R_ne Ap.out Ab.out (by decide)));replace Au:=y0.mk (Kd.R_after (ok:=(fun _=>True)) (qR Au.out) hg hat);replace HB:=y0.mk (hb);have Cy:=y0.mk (ho);clear Ap;clear ho hb hg hat))
    go_roundg k1
    case measure=>have:=Ds.out;omega
    exact⟨(Cw),(wrap64 (Ac + 1)),qy2,H',⟨by have:=Ds.out;omega⟩,⟨qR (Kd.R_mono Cy.out (fun _ hk=>trivial))⟩,⟨qk Ab.out⟩,⟨qb⟩⟩
   ·rw [if_neg c9]at H
    have Dt:=decide_eq_false c9
    clear c9
    obtain⟨Ei,H⟩:=qo H
    have Cz:=y0.mk Ei
    clear Ei
    obtain⟨Bl,Av⟩:∃ y_:List Int,y_=(Aw ++ [a1]):=⟨_,rfl⟩
    replace H:((slices_Sort_int_int.f Bl).bind fun Ch=>(some Ch))=some r:=by first|(rw [Av];with_reducible exact H)|(have H2_:=(Option.bind_some _ _).symm.trans H;rw [Av];with_reducible exact H2_)|(have H2_:=(Option.bind_some _ _).symm.trans H;with_reducible exact H2_)|with_reducible exact H|(rw [Av];exact H)|exact H
    have Da:=y0.mk Av
    clear Av
    obtain⟨Ch,Eq,H⟩:=qB H
    obtain rfl:=Option.some.inj H
    go_wp2_with (first|((with_reducible refine gate_builtin (b:=.append) (xs:=#[.tmp 26,.tmp 28]) rfl ?_);at_builtin;refine Kd.R_append (Kd.int .i64) (w0:=w) w.heap.size rfl (.tmp 26) (.tmp 28) 23 3 (.int .i64 0) 8 rfl Try.underlying23 info3 rfl (by decide) (by omega) u5 Aw a1 [.int .i64 a1] (fun _=>True) (fun _=>False) rfl rfl ?aP (fun _ hk=>hk.elim) ?aF ?aO ?aB ?aS ?aL ?_;(case aP=>exact rfl);(case aB=>exact qb);(case aF=>exact(fun _ _=>trivial));(case aO=>exact(qR Ap.out));(case aS=>exact(y4 qb));(case aL=>have:=Cz.out;omega);intro Er Eu ho hb hg hat;rw [← Da.out]at ho;replace Ab:=y0.mk (blk_grown (qk Ab.out) hg (Kd.R_ne Ap.out Ab.out (by decide)));replace HB:=y0.mk (hb);have Am:=y0.mk (ho);clear Ap;clear ho hb hg hat;obtain⟨Ci,Cj,Ea⟩:=Kd.R_slice Am.out;subst Ea)|((with_reducible refine y16 (f:=70) rfl ?_);refine y18 (some 31) rfl rfl Try.func70 (by kernel_rfl) rfl #[.slice Ci Bl.length Cj] rfl qy1 ?_;(with_reducible refine(slices_Sort_int_int.calls (fun k_=>some k_=(.slice Ci Bl.length Cj:Value).ownBlock) (.slice Ci Bl.length Cj) Bl Ch w _ (by repeat(first|(with_reducible first|exact HB.out|apply below_alloc|apply y19|apply y2|refine y3 ?_ Cs.out)|exact HB.out)) (by exact Kd.R_tight rfl (qR Am.out)) Eq.out).mono ?_);rintro e Ew ⟨rfl,Ej,hb,hkp⟩;refine⟨_,rfl, ?_⟩;replace Ab:=y0.mk (blk_kept (qk Ab.out) hkp (fun hs_=>(fun e_=>(Kd.R_ne Am.out Ab.out (by decide)) e_) hs_));replace Am:=y0.mk (Kd.R_reok rfl Ej (fun k_ e_=>Am.out.1 k_ e_));replace HB:=y0.mk (hb);(try clear hb);(try clear hkp);(try clear Ej)))
    go_ret
    exact⟨_,by first|rfl|(simp [y13,y14] <;> rfl)|(simp [*,y13,y14] <;> rfl),by(with_reducible repeat(first|apply Kd.R_alloc|apply Kd.R_drewN|apply Kd.R_drew));exact Am.out,qb⟩
def z6_.l0:Nat→List ByteArray→ByteArray→Int→Int→Option (Int)
 | 0,_,_,_,_=>none
 | k + 1,x0,x1,x7,x8=>if x8 < x7 then(if 0≤x8 then(if x8 < (x0.length:Int)then(if x1.toList=(rdOf ByteArray.empty x0 x8).toList then(some x8)else(z6_.l0 k x0 x1 x7 (wrap64 (x8 + 1))))else(none))else(none))else(some (-1))
def z6_.f (k:Nat) (l0:List ByteArray) (a1:ByteArray):Option (Int):=z6_.l0 k l0 a1 (l0.length:Int) 0
set_option maxHeartbeats 8000000 in
set_option maxRecDepth 100000 in
theorem z6_.calls (k:Nat) (A0:Option Addr) (c0:Nat) (l0:List ByteArray) (a1:ByteArray) (r:Int) (w:World) (Aj:Kd.C Kd.string w A0 l0.length l0) (Ak:l0.length≤c0) (h:z6_.f k l0 a1=some r) :
  Calls Try.prog 71 #[.slice A0 l0.length c0,.string a1] w fun e w'=>e=.returned (.int .i64 r)∧Drawn0 w w':=by
 have Ar:=y0.mk Aj
 have Au:=y0.mk Ak
 clear Aj Ak
 have H:(z6_.l0 k l0 a1 (l0.length:Int) 0)=some r:=h
 clear h
 have H':=y0.mk H
 clear H
 go_enter Try.func71,Try.ntmps71
 go_wp2
 go_loopg [8] k (fun kq v8 w'=>∃(Aa:Int),v8=.int .i64 Aa∧y0 (z6_.l0 kq l0 a1 (l0.length:Int) Aa=some r)∧y0 (kq≤k)∧Drawn0 w w')
 case atStart=>exact⟨(0),qy2,H',⟨Nat.le_refl _⟩,by repeat(first|exact Drawn0.refl _|apply Drawn0.step)⟩
 case round =>
  clear H'
  obtain⟨Aa,rfl,HA,Am,⟨m1,rfl⟩⟩:=hrel
  cases gk with
  | zero=>exact absurd HA.out (by simp [z6_.l0])
  | succ k1 =>
   have H:=HA.out
   clear HA
   simp only [z6_.l0]at H
   by_cases c3:Aa < (l0.length:Int)
   ·rw [if_pos c3]at H
    have Af:=decide_eq_true c3
    clear c3
    obtain⟨c4,H⟩:=qo H
    have As:decide (0≤Aa)=true:=decide_eq_true c4
    clear c4
    obtain⟨c5,H⟩:=qo H
    have At:decide (Aa < (l0.length:Int))=true:=decide_eq_true c5
    clear c5
    have Ab:0≤(Aa:Int):=of_decide_eq_true qy0
    have Ac:Aa < (l0.length:Int):=of_decide_eq_true qy0
    obtain⟨Ap,Ag,Ad⟩:=Kd.at_string Ar.out Aa Ab Ac
    cases Ag
    replace Ab:=eq_true Ab
    replace Ac:=eq_true Ac
    by_cases c6:a1.toList=(rdOf ByteArray.empty l0 Aa).toList
    ·rw [if_pos c6]at H
     have Ah:(a1.toList == (rdOf ByteArray.empty l0 Aa).toList)=true:=beq_iff_eq.mpr c6
     have Ai:(a1.toList != (rdOf ByteArray.empty l0 Aa).toList)=false:=bne_eq_false_iff_eq.mpr c6
     clear c6
     obtain rfl:=Option.some.inj H
     go_wp2
     go_ret
     exact qf2
    ·rw [if_neg c6]at H
     have Ah:(a1.toList == (rdOf ByteArray.empty l0 Aa).toList)=false:=beq_eq_false_iff_ne.mpr c6
     have Ai:(a1.toList != (rdOf ByteArray.empty l0 Aa).toList)=true:=bne_iff_ne.mpr c6
     have H':=y0.mk H
     clear H
     go_wp2
     go_roundg k1
     case measure=>have:=Am.out;omega
     exact⟨(wrap64 (Aa + 1)),qy2,H',⟨by have:=Am.out;omega⟩,by repeat(first|exact Drawn0.refl _|apply Drawn0.step)⟩
   ·rw [if_neg c3]at H
    have Af:=decide_eq_false c3
    clear c3
    obtain rfl:=Option.some.inj H
    go_wp2
    go_ret
    exact qf2
def slices_Contains_string_string.f (k:Nat) (l0:List ByteArray) (a1:ByteArray):Option (Bool):=(z6_.f k l0 a1).bind fun t456=>(some (decide (t456≥0)))
set_option maxHeartbeats 8000000 in
set_option maxRecDepth 100000 in
theorem slices_Contains_string_string.calls (k:Nat) (A0:Option Addr) (c0:Nat) (l0:List ByteArray) (a1:ByteArray) (r:Bool) (w:World) (hr0:Kd.C Kd.string w A0 l0.length l0) (hc0:l0.length≤c0) (h:slices_Contains_string_string.f k l0 a1=some r) :
  Calls Try.prog 54 #[.slice A0 l0.length c0,.string a1] w fun e w'=>e=.returned (.bool r)∧Drawn0 w w':=by
 have HR0:=y0.mk hr0
 have HC0:=y0.mk hc0
 clear hr0 hc0
 have H:((z6_.f k l0 a1).bind fun t456=>(some (decide (t456≥0))))=some r:=h
 clear h
 obtain⟨t456,A3,H⟩:=qB H
 obtain rfl:=Option.some.inj H
 go_enter Try.func54,Try.ntmps54
 go_wp2_with (first|((with_reducible refine y16 (f:=71) rfl ?_);refine y18 (some 7) rfl rfl Try.func71 (by kernel_rfl) rfl #[.slice A0 l0.length c0,.string a1] rfl qy1 ?_;(with_reducible refine(z6_.calls k _ _ l0 a1 t456 _ (qc HR0.out) HC0.out A3.out).mono ?_);rintro e w' ⟨rfl,⟨nd,rfl⟩⟩;refine⟨_,rfl, ?_⟩))
 go_ret
 exact qf2
def impl_Rule_vars.l0:Nat→List ByteArray→List Int→Int→Int→List (S63)→Int→ByteArray→List Int→List (S33)→Option (List ByteArray)
 | 0,_,_,_,_,_,_,_,_,_=>none
 | k + 1,x5,x12,x13,x14,x458000,x458001,x458002,x458003,x458004=>if x14 < x13 then(if 0≤x14 then(if x14 < (x12.length:Int)then(if 0≤(rd x12 x14)then(if(rd x12 x14) < (x458000.length:Int)then(if((y21 x458000 (rd x12 x14)).f0)=1 then((slices_Contains_string_string.f k x5 ((y21 x458000 (rd x12 x14)).f1)).bind fun t467=>(if t467=true then(impl_Rule_vars.l0 k x5 x12 x13 (wrap64 (x14 + 1)) x458000 x458001 x458002 x458003 x458004)else(if x5.length < 8796093022208 then(impl_Rule_vars.l0 k (x5 ++ [(y21 x458000 (rd x12 x14)).f1]) x12 x13 (wrap64 (x14 + 1)) x458000 x458001 x458002 x458003 x458004)else(none))))else(impl_Rule_vars.l0 k x5 x12 x13 (wrap64 (x14 + 1)) x458000 x458001 x458002 x458003 x458004))else(none))else(none))else(none))else(none))else(some x5)
def impl_Rule_vars.f (k:Nat) (l0_0:List (S63)) (a0_1:Int) (a0_2:ByteArray) (l0_3:List Int) (l0_4:List (S33)) (a1:Int):Option (List ByteArray):=(impl_Rule_within.f k l0_0 a0_1 a0_2 l0_3 l0_4 a1).bind fun t461=>(impl_Rule_vars.l0 k (([]:List ByteArray)) t461 (t461.length:Int) 0 l0_0 a0_1 a0_2 l0_3 l0_4)
set_option maxHeartbeats 8000000 in
set_option maxRecDepth 100000 in
theorem impl_Rule_vars.calls (k:Nat) (Br:Option Addr) (Bm:Nat) (Ac:List (S63)) (Az:Int) (Ba:ByteArray) (Bn:Option Addr) (Bo:Nat) (Aw:List Int) (Bp:Option Addr) (Bq:Nat) (Ay:List (S33)) (a1:Int) (r:List ByteArray) (w:World) (Bw:Kd.C k63 w Br Ac.length Ac) (Bx:Ac.length≤Bm) (Bz:Kd.C (Kd.int .i64) w Bn Aw.length Aw) (Ca:Aw.length≤Bo) (Cb:Kd.C k33 w Bp Ay.length Ay) (Cc:Ay.length≤Bq) (h:impl_Rule_vars.f k Ac Az Ba Aw Ay a1=some r) :
  Calls Try.prog 30 #[.agg #[.slice Br Ac.length Bm,.int .i64 Az,.string Ba,.slice Bn Aw.length Bo,.slice Bp Ay.length Bq],.int .i64 a1] w fun e w'=>∃ v0_:Value,e=.returned (v0_)∧Kd.R Kd.string 9 w' w.heap.size (fun _=>True) v0_ r∧Below w.heap.size w w':=by
 have Gl:=Try.underlying36
 have Gm:=Try.underlying63
 have Bi:=y0.mk Bw
 have Cx:=y0.mk Bx
 clear Bw Bx
 have Cy:=y0.mk Bz
 have Cz:=y0.mk Ca
 clear Bz Ca
 have Da:=y0.mk Cb
 have Db:=y0.mk Cc
 clear Cb Cc
 have HB:=y0.mk (Below.refl w.heap.size w)
 have H:((impl_Rule_within.f k Ac Az Ba Aw Ay a1).bind fun Ab=>(impl_Rule_vars.l0 k (([]:List ByteArray)) Ab (Ab.length:Int) 0 Ac Az Ba Aw Ay))=some r:=h
 clear h
 obtain⟨Dc,Bg⟩:∃ y_:List ByteArray,y_=(([]:List ByteArray)):=⟨_,rfl⟩
 replace H:((impl_Rule_within.f k Ac Az Ba Aw Ay a1).bind fun Ab=>(impl_Rule_vars.l0 k Dc Ab (Ab.length:Int) 0 Ac Az Ba Aw Ay))=some r:=by first|(rw [Bg];with_reducible exact H)|(have H2_:=(Option.bind_some _ _).symm.trans H;rw [Bg];with_reducible exact H2_)|(have H2_:=(Option.bind_some _ _).symm.trans H;with_reducible exact H2_)|with_reducible exact H|(rw [Bg];exact H)|exact H
 have Cd:=y0.mk Bg
 clear Bg
 obtain⟨Ab,A3,H⟩:=qB H
 have H':=y0.mk H
 clear H
 go_enter Try.func30,Try.ntmps30
 go_wp2_with (first|((with_reducible refine y17 (N:=2) rfl ?_);refine qe 2 #[.slice Br Ac.length Bm,.int .i64 Az,.string Ba,.slice Bn Aw.length Bo,.slice Bp Ay.length Bq] 36 ?_;intro Ce hg w4 hbox hb;have Ag:=y0.mk (hbox);have Fr:=y0.mk (qg (w:=w) hg);have Fs:=y0.mk (qg (w:=w) hg);replace HB:=y0.mk (y5 qb hb);clear hb hbox hg)|((with_reducible refine y17 (N:=9) rfl ?_);refine qL Kd.string 9 9 ([]:List ByteArray) ?_;intro Gn w5 Dd hb hg_ hnew_;clear hg_ hnew_;(first|rw [← Cd.out]at Dd|(simp only [Int.reduceToNat]at Dd;rw [← Cd.out]at Dd));have Bs:=y0.mk (Kd.R_lower Dd (y4 qb));replace Ag:=y0.mk (qK Ag.out hb);replace HB:=y0.mk (y5 qb hb);clear hb Dd;obtain⟨Cj,Ck,Cl,Cm,Cn,Cp,Cq,Cr,Cs,Ct⟩:=qz5 Ag.out)|((with_reducible refine y16 (f:=53) rfl ?_);refine y18 (some 12) rfl rfl Try.func53 (by kernel_rfl) rfl #[.agg #[.slice Br Ac.length Bm,.int .i64 Az,.string Ba,.slice Bn Aw.length Bo,.slice Bp Ay.length Bq],.int .i64 a1] rfl qy1 ?_;(with_reducible refine(impl_Rule_within.calls k _ _ Ac Az Ba _ _ Aw _ _ Ay a1 Ab _ (qc (Kd.C_below Bi.out HB.out)) Cx.out (qc (Kd.C_below Cy.out HB.out)) Cz.out (qc (Kd.C_below Da.out HB.out)) Db.out A3.out).mono ?_);rintro e w8 ⟨Gp,rfl,Ft,hb⟩;refine⟨_,rfl, ?_⟩;replace Bs:=y0.mk (Kd.R_below (qR Bs.out) hb);have Cf:=y0.mk (Kd.R_lower Ft (y4 qb));replace Ag:=y0.mk (qK Ag.out hb);replace HB:=y0.mk (y5 qb hb);(try clear hb);(try clear Ft);obtain⟨Gq,Gr,Gs⟩:=Kd.R_slice Cf.out;subst Gs))
 go_loopg [5,14] k (fun kq v5 Gt w'=>∃(Bb:List ByteArray) (Aa:Int),Gt=.int .i64 Aa∧y0 (impl_Rule_vars.l0 kq Bb Ab (Ab.length:Int) Aa Ac Az Ba Aw Ay=some r)∧y0 (kq≤k)∧y0 (Kd.R Kd.string 9 w' w.heap.size (fun _=>True) v5 Bb)∧y0 (Kd.R (Kd.int .i64) 3 w' w.heap.size (fun _=>True) (.slice Gq Ab.length Gr) Ab)∧y0 (w'.heap[Ce]?=some (.cells #[(.slice Br Ac.length Bm),.int .i64 Az,.string Ba,(.slice Bn Aw.length Bo),(.slice Bp Ay.length Bq)] 36 (0,0)))∧y0 (Below w.heap.size w w'))
 case atStart=>exact⟨(Dc),(0),qy2,H',⟨Nat.le_refl _⟩,⟨qR Bs.out⟩,⟨qR Cf.out⟩,⟨qk Ag.out⟩,⟨qb⟩⟩
 case round =>
  clear H'
  (try clear Cj Ck Cl Cm Cn Cp Cq Cr Cs Ct)
  obtain⟨Bb,Aa,rfl,HA,Cv,Au,Ar,Ag,HB⟩:=hrel
  cases gk with
  | zero=>exact absurd HA.out (by simp [impl_Rule_vars.l0])
  | succ k1 =>
   have H:=HA.out
   clear HA
   simp only [impl_Rule_vars.l0]at H
   by_cases Cw:Aa < (Ab.length:Int)
   ·rw [if_pos Cw]at H
    have De:=decide_eq_true Cw
    clear Cw
    obtain⟨Fu,H⟩:=qo H
    have Fv:=decide_eq_true Fu
    clear Fu
    obtain⟨Fx,H⟩:=qo H
    have Fy:decide (Aa < (Ab.length:Int))=true:=decide_eq_true Fx
    clear Fx
    obtain⟨Fz,H⟩:=qo H
    have Ga:decide (0≤(rd Ab Aa))=true:=decide_eq_true Fz
    clear Fz
    obtain⟨Gb,H⟩:=qo H
    have Gc:decide ((rd Ab Aa) < (Ac.length:Int))=true:=decide_eq_true Gb
    clear Gb
    by_cases Cu:((y21 Ac (rd Ab Aa)).f0)=1
    ·rw [if_pos Cu]at H
     have Df:(((y21 Ac (rd Ab Aa)).f0) == 1)=true:=beq_iff_eq.mpr Cu
     have Dg:(((y21 Ac (rd Ab Aa)).f0) != 1)=false:=bne_eq_false_iff_eq.mpr Cu
     clear Cu
     obtain⟨Fm,Gd,H⟩:=qB H
     by_cases Dm:Fm=true
     ·subst Dm
      replace H:=qT H
      have H':=y0.mk H
      clear H
      have Bc:0≤(Aa:Int):=of_decide_eq_true qy0
      have Bd:Aa < (Ab.length:Int):=of_decide_eq_true qy0
      obtain⟨Cg,Bt,Bj⟩:=Kd.at_int (Kd.R_reads' Ar.out).2.2 Aa Bc Bd
      cases Bt
      replace Bc:=eq_true Bc
      replace Bd:=eq_true Bd
      obtain⟨Do,Dp,Dq,Dr,Ds,Dt,Du,Dw,Dx,Dy⟩:=qz5 Ag.out
      have Be:0≤((rd Ab Aa):Int):=of_decide_eq_true qy0
      have Bf:(rd Ab Aa) < (Ac.length:Int):=of_decide_eq_true qy0
      obtain⟨Bu,Am,Ap,Bv,Ah,Ai,Aj,As,At⟩:=at_T63 Bi.out (rd Ab Aa) Be Bf
      cases Bv
      replace Ah:=(HB.out.cell (World.block_lt_of_cell? w _ Ah)).trans Ah
      replace Ai:=(HB.out.cell (World.block_lt_of_cell? w _ Ai)).trans Ai
      replace Aj:=(HB.out.cell (World.block_lt_of_cell? w _ Aj)).trans Aj
      have Bk:=y0.mk At
      have Bl:=y0.mk As
      clear At As
      replace Be:=eq_true Be
      replace Bf:=eq_true Bf
      go_wp2_with (first|((with_reducible refine y17 (N:=8) rfl ?_);refine qe 8 #[.int .i64 0,.string (⟨#[]⟩:ByteArray),.slice none 0 0] 63 ?_;intro Af hg Gw hbox hb;replace Au:=y0.mk (Kd.R_below (qR Au.out) hb);replace Ar:=y0.mk (Kd.R_below (qR Ar.out) hb);have Ak:=y0.mk (hbox);have Ch:=y0.mk (qg (w:=w) hg);have Ci:=y0.mk (qg (w:=w) hg);replace HB:=y0.mk (y5 qb hb);have Ad:=y0.mk (qn Ag.out hg);have Av:=y0.mk (qm Ag.out hg);replace Ag:=y0.mk (qK Ag.out hb);clear hb hbox hg;have Ge:=Av.out;have Gf:=Ad.out;obtain⟨Dz,Ea,Eb,Ec,Ed,Ee⟩:=qz3 Ak.out;obtain⟨Gu,Fn,Fo⟩:=Kd.R_slice Au.out;subst Fo)|(go_at_call 54;(with_reducible refine(slices_Contains_string_string.calls k1 _ _ Bb ((y21 Ac (rd Ab Aa)).f1) true _ (by refine(Kd.R_reads' (e:=9) (base:=w.heap.size) (ok:=fun k_=>True) (n:=Bb.length) (c:=Fn) ?_).2.2;exact(qR ((Kd.R_mono (Kd.R_far (p:=⟨Af,2,none⟩) (Kd.R_far (p:=⟨Af,1,none⟩) (Kd.R_far (p:=⟨Af,0,none⟩) (Kd.R_types Au.out Ak.out (by decide)) (fun _ hk=>hk.2) (.int .i64 ((y21 Ac (rd Ab Aa)).f0))) (fun _ hk=>hk.2) (.string ((y21 Ac (rd Ab Aa)).f1))) (fun _ hk=>hk.2) (.slice Am ((y21 Ac (rd Ab Aa)).f2).length Ap)) (fun _ h_=>h_.1))))) (by exact(Kd.R_reads' Au.out).2.1) Gd.out).mono ?_);rintro e w' ⟨rfl,⟨nd,rfl⟩⟩))
      go_roundg k1
      case measure=>have:=Cv.out;omega
      exact⟨(Bb),(wrap64 (Aa + 1)),qy2,H',⟨by have:=Cv.out;omega⟩,⟨qR (Kd.R_mono (Kd.R_far (p:=⟨Af,2,none⟩) (Kd.R_far (p:=⟨Af,1,none⟩) (Kd.R_far (p:=⟨Af,0,none⟩) (Kd.R_types Au.out Ak.out (by decide)) (fun _ hk=>hk.2) (.int .i64 ((y21 Ac (rd Ab Aa)).f0))) (fun _ hk=>hk.2) (.string ((y21 Ac (rd Ab Aa)).f1))) (fun _ hk=>hk.2) (.slice Am ((y21 Ac (rd Ab Aa)).f2).length Ap)) (fun _ hk=>trivial))⟩,⟨qR (Kd.R_mono (Kd.R_far (p:=⟨Af,2,none⟩) (Kd.R_far (p:=⟨Af,1,none⟩) (Kd.R_far (p:=⟨Af,0,none⟩) (Kd.R_types Ar.out Ak.out (by decide)) (fun _ hk=>hk.2) (.int .i64 ((y21 Ac (rd Ab Aa)).f0))) (fun _ hk=>hk.2) (.string ((y21 Ac (rd Ab Aa)).f1))) (fun _ hk=>hk.2) (.slice Am ((y21 Ac (rd Ab Aa)).f2).length Ap)) (fun _ hk=>trivial))⟩,⟨by(with_reducible repeat(first|refine y10 ?_ _|refine y9 ?_|refine y6 ?_ _));refine y11 ?_ Ad.out _;(with_reducible repeat(first|refine y10 ?_ _|refine y9 ?_|refine y6 ?_ _));refine y11 ?_ Ad.out _;(with_reducible repeat(first|refine y10 ?_ _|refine y9 ?_|refine y6 ?_ _));refine y11 ?_ Ad.out _;(with_reducible repeat(first|refine y10 ?_ _|refine y9 ?_|refine y6 ?_ _));exact Ag.out⟩,⟨qb⟩⟩
     ·replace Dm:=Bool.eq_false_iff.mpr Dm
      subst Dm
      replace H:=qF H
      obtain⟨Gg,H⟩:=qo H
      have Dh:=y0.mk Gg
      clear Gg
      obtain⟨Di,Bh⟩:∃ y_:List ByteArray,y_=(Bb ++ [(y21 Ac (rd Ab Aa)).f1]):=⟨_,rfl⟩
      replace H:(impl_Rule_vars.l0 k1 Di Ab (Ab.length:Int) (wrap64 (Aa + 1)) Ac Az Ba Aw Ay)=some r:=by first|(rw [Bh];with_reducible exact H)|(have H2_:=(Option.bind_some _ _).symm.trans H;rw [Bh];with_reducible exact H2_)|(have H2_:=(Option.bind_some _ _).symm.trans H;with_reducible exact H2_)|with_reducible exact H|(rw [Bh];exact H)|exact H
      have Dj:=y0.mk Bh
      clear Bh
      have H':=y0.mk H
      clear H
      have Bc:0≤(Aa:Int):=of_decide_eq_true qy0
      have Bd:Aa < (Ab.length:Int):=of_decide_eq_true qy0
      obtain⟨Cg,Bt,Bj⟩:=Kd.at_int (Kd.R_reads' Ar.out).2.2 Aa Bc Bd
      cases Bt
      replace Bc:=eq_true Bc
      replace Bd:=eq_true Bd
      obtain⟨Ef,Eg,Eh,Ei,Ej,Ek,El,Em,En,Eo⟩:=qz5 Ag.out
      have Be:0≤((rd Ab Aa):Int):=of_decide_eq_true qy0
      have Bf:(rd Ab Aa) < (Ac.length:Int):=of_decide_eq_true qy0
      obtain⟨Bu,Am,Ap,Bv,Ah,Ai,Aj,As,At⟩:=at_T63 Bi.out (rd Ab Aa) Be Bf
      cases Bv
      replace Ah:=(HB.out.cell (World.block_lt_of_cell? w _ Ah)).trans Ah
      replace Ai:=(HB.out.cell (World.block_lt_of_cell? w _ Ai)).trans Ai
      replace Aj:=(HB.out.cell (World.block_lt_of_cell? w _ Aj)).trans Aj
      have Bk:=y0.mk At
      have Bl:=y0.mk As
      clear At As
      replace Be:=eq_true Be
      replace Bf:=eq_true Bf
      go_wp2_with (first|((with_reducible refine y17 (N:=8) rfl ?_);refine qe 8 #[.int .i64 0,.string (⟨#[]⟩:ByteArray),.slice none 0 0] 63 ?_;intro Af hg Gx hbox hb;replace Au:=y0.mk (Kd.R_below (qR Au.out) hb);replace Ar:=y0.mk (Kd.R_below (qR Ar.out) hb);have Ak:=y0.mk (hbox);have Ch:=y0.mk (qg (w:=w) hg);have Ci:=y0.mk (qg (w:=w) hg);replace HB:=y0.mk (y5 qb hb);have Ad:=y0.mk (qn Ag.out hg);have Av:=y0.mk (qm Ag.out hg);replace Ag:=y0.mk (qK Ag.out hb);clear hb hbox hg;have Gh:=Av.out;have Gi:=Ad.out;obtain⟨Ep,Eq,Er,Es,Et,Eu⟩:=qz3 Ak.out;obtain⟨Fp,Dk,Fq⟩:=Kd.R_slice Au.out;subst Fq)|(go_at_call 54;(with_reducible refine(slices_Contains_string_string.calls k1 _ _ Bb ((y21 Ac (rd Ab Aa)).f1) false _ (by refine(Kd.R_reads' (e:=9) (base:=w.heap.size) (ok:=fun k_=>True) (n:=Bb.length) (c:=Dk) ?_).2.2;exact(qR ((Kd.R_mono (Kd.R_far (p:=⟨Af,2,none⟩) (Kd.R_far (p:=⟨Af,1,none⟩) (Kd.R_far (p:=⟨Af,0,none⟩) (Kd.R_types Au.out Ak.out (by decide)) (fun _ hk=>hk.2) (.int .i64 ((y21 Ac (rd Ab Aa)).f0))) (fun _ hk=>hk.2) (.string ((y21 Ac (rd Ab Aa)).f1))) (fun _ hk=>hk.2) (.slice Am ((y21 Ac (rd Ab Aa)).f2).length Ap)) (fun _ h_=>h_.1))))) (by exact(Kd.R_reads' Au.out).2.1) Gd.out).mono ?_);rintro e w' ⟨rfl,⟨nd,rfl⟩⟩)|((with_reducible refine gate_builtin (b:=.append) (xs:=#[.tmp 33,.tmp 36]) rfl ?_);at_builtin;refine Kd.R_append Kd.string (w0:=w) w.heap.size rfl (.tmp 33) (.tmp 36) 30 9 (.string ⟨#[]⟩) 16 rfl Try.underlying30 info9 rfl (by decide) (by omega) (.slice Fp Bb.length Dk) Bb ((y21 Ac (rd Ab Aa)).f1) [.string ((y21 Ac (rd Ab Aa)).f1)] (fun _=>True) (fun _=>False) rfl (by first|(go_simp;done)|(go_simp;rfl)) ?aP (fun _ hk=>hk.elim) ?aF ?aO ?aB ?aS ?aL ?_;(case aP=>exact rfl);(case aB=>exact qb);(case aF=>exact(fun _ _=>trivial));(case aO=>exact(qR (Kd.R_mono (Kd.R_far (p:=⟨Af,2,none⟩) (Kd.R_far (p:=⟨Af,1,none⟩) (Kd.R_far (p:=⟨Af,0,none⟩) (Kd.R_types Au.out Ak.out (by decide)) (fun _ hk=>hk.2) (.int .i64 ((y21 Ac (rd Ab Aa)).f0))) (fun _ hk=>hk.2) (.string ((y21 Ac (rd Ab Aa)).f1))) (fun _ hk=>hk.2) (.slice Am ((y21 Ac (rd Ab Aa)).f2).length Ap)) (fun _ hk=>trivial))));(case aS=>exact(y4 qb));(case aL=>have:=Dh.out;omega);intro Gv Gy ho hb hg hat;rw [← Dj.out]at ho;replace Ar:=y0.mk (Kd.R_over' (qR ((Kd.R_mono (Kd.R_far (p:=⟨Af,2,none⟩) (Kd.R_far (p:=⟨Af,1,none⟩) (Kd.R_far (p:=⟨Af,0,none⟩) (Kd.R_types Ar.out Ak.out (by decide)) (fun _ hk=>hk.2) (.int .i64 ((y21 Ac (rd Ab Aa)).f0))) (fun _ hk=>hk.2) (.string ((y21 Ac (rd Ab Aa)).f1))) (fun _ hk=>hk.2) (.slice Am ((y21 Ac (rd Ab Aa)).f2).length Ap)) (fun _ h_=>h_.1)))) (Kd.R_typed (qR ((Kd.R_mono (Kd.R_far (p:=⟨Af,2,none⟩) (Kd.R_far (p:=⟨Af,1,none⟩) (Kd.R_far (p:=⟨Af,0,none⟩) (Kd.R_types Au.out Ak.out (by decide)) (fun _ hk=>hk.2) (.int .i64 ((y21 Ac (rd Ab Aa)).f0))) (fun _ hk=>hk.2) (.string ((y21 Ac (rd Ab Aa)).f1))) (fun _ hk=>hk.2) (.slice Am ((y21 Ac (rd Ab Aa)).f2).length Ap)) (fun _ h_=>h_.1))))) (by decide) hg);replace Ag:=y0.mk (blk_grown (g:=Ce) (o:=.cells #[.slice (some Bu) Ac.length Bm,.int .i64 Az,.string Ba,.slice Bn Aw.length Bo,.slice Bp Ay.length Bq] 36 (0,0)) (by(with_reducible repeat(first|refine y10 ?_ _|refine y9 ?_|refine y6 ?_ _));refine y11 ?_ Ad.out _;(with_reducible repeat(first|refine y10 ?_ _|refine y9 ?_|refine y6 ?_ _));refine y11 ?_ Ad.out _;(with_reducible repeat(first|refine y10 ?_ _|refine y9 ?_|refine y6 ?_ _));refine y11 ?_ Ad.out _;(with_reducible repeat(first|refine y10 ?_ _|refine y9 ?_|refine y6 ?_ _));exact Ag.out) hg (Kd.R_ne Au.out Ag.out (by decide)));replace Ak:=y0.mk (blk_grown (g:=Af) (o:=.cells #[.int .i64 ((y21 Ac (rd Ab Aa)).f0),.string ((y21 Ac (rd Ab Aa)).f1),.slice Am ((y21 Ac (rd Ab Aa)).f2).length Ap] 63 (0,0)) (by(with_reducible repeat(first|refine y10 ?_ _|refine y9 ?_|refine y6 ?_ _));refine blk_put (cs:=#[.int .i64 ((y21 Ac (rd Ab Aa)).f0),.string ((y21 Ac (rd Ab Aa)).f1),.slice none 0 0]) ?_ 2 _ rfl;(with_reducible repeat(first|refine y10 ?_ _|refine y9 ?_|refine y6 ?_ _));refine blk_put (cs:=#[.int .i64 ((y21 Ac (rd Ab Aa)).f0),.string (⟨#[]⟩:ByteArray),.slice none 0 0]) ?_ 1 _ rfl;(with_reducible repeat(first|refine y10 ?_ _|refine y9 ?_|refine y6 ?_ _));refine blk_put (cs:=#[.int .i64 0,.string (⟨#[]⟩:ByteArray),.slice none 0 0]) ?_ 0 _ rfl;(with_reducible repeat(first|refine y10 ?_ _|refine y9 ?_|refine y6 ?_ _));exact Ak.out) hg (Kd.R_ne Au.out Ak.out (by decide)));replace HB:=y0.mk (hb);have Dl:=y0.mk (ho);clear Au;clear ho hb hg hat))
      go_roundg k1
      case measure=>have:=Cv.out;omega
      exact⟨(Di),(wrap64 (Aa + 1)),qy2,H',⟨by have:=Cv.out;omega⟩,⟨qR Dl.out⟩,⟨qR Ar.out⟩,⟨qk Ag.out⟩,⟨qb⟩⟩
    ·rw [if_neg Cu]at H
     have Df:(((y21 Ac (rd Ab Aa)).f0) == 1)=false:=beq_eq_false_iff_ne.mpr Cu
     have Dg:(((y21 Ac (rd Ab Aa)).f0) != 1)=true:=bne_iff_ne.mpr Cu
     have H':=y0.mk H
     clear H
     have Bc:0≤(Aa:Int):=of_decide_eq_true qy0
     have Bd:Aa < (Ab.length:Int):=of_decide_eq_true qy0
     obtain⟨Cg,Bt,Bj⟩:=Kd.at_int (Kd.R_reads' Ar.out).2.2 Aa Bc Bd
     cases Bt
     replace Bc:=eq_true Bc
     replace Bd:=eq_true Bd
     obtain⟨Ew,Ex,Ey,Ez,Fa,Fb,Fc,Fd,Fe,Ff⟩:=qz5 Ag.out
     have Be:0≤((rd Ab Aa):Int):=of_decide_eq_true qy0
     have Bf:(rd Ab Aa) < (Ac.length:Int):=of_decide_eq_true qy0
     obtain⟨Bu,Am,Ap,Bv,Ah,Ai,Aj,As,At⟩:=at_T63 Bi.out (rd Ab Aa) Be Bf
     cases Bv
     replace Ah:=(HB.out.cell (World.block_lt_of_cell? w _ Ah)).trans Ah
     replace Ai:=(HB.out.cell (World.block_lt_of_cell? w _ Ai)).trans Ai
     replace Aj:=(HB.out.cell (World.block_lt_of_cell? w _ Aj)).trans Aj
     have Bk:=y0.mk At
     have Bl:=y0.mk As
     clear At As
     replace Be:=eq_true Be
     replace Bf:=eq_true Bf
     go_wp2_with (first|((with_reducible refine y17 (N:=8) rfl ?_);refine qe 8 #[.int .i64 0,.string (⟨#[]⟩:ByteArray),.slice none 0 0] 63 ?_;intro Af hg Gz hbox hb;replace Au:=y0.mk (Kd.R_below (qR Au.out) hb);replace Ar:=y0.mk (Kd.R_below (qR Ar.out) hb);have Ak:=y0.mk (hbox);have Ch:=y0.mk (qg (w:=w) hg);have Ci:=y0.mk (qg (w:=w) hg);replace HB:=y0.mk (y5 qb hb);have Ad:=y0.mk (qn Ag.out hg);have Av:=y0.mk (qm Ag.out hg);replace Ag:=y0.mk (qK Ag.out hb);clear hb hbox hg;have Gj:=Av.out;have Gk:=Ad.out;obtain⟨Fg,Fh,Fi,Fj,Fk,Fl⟩:=qz3 Ak.out))
     go_roundg k1
     case measure=>have:=Cv.out;omega
     exact⟨(Bb),(wrap64 (Aa + 1)),qy2,H',⟨by have:=Cv.out;omega⟩,⟨qR (Kd.R_mono (Kd.R_far (p:=⟨Af,2,none⟩) (Kd.R_far (p:=⟨Af,1,none⟩) (Kd.R_far (p:=⟨Af,0,none⟩) (Kd.R_types Au.out Ak.out (by decide)) (fun _ hk=>hk.2) (.int .i64 ((y21 Ac (rd Ab Aa)).f0))) (fun _ hk=>hk.2) (.string ((y21 Ac (rd Ab Aa)).f1))) (fun _ hk=>hk.2) (.slice Am ((y21 Ac (rd Ab Aa)).f2).length Ap)) (fun _ hk=>trivial))⟩,⟨qR (Kd.R_mono (Kd.R_far (p:=⟨Af,2,none⟩) (Kd.R_far (p:=⟨Af,1,none⟩) (Kd.R_far (p:=⟨Af,0,none⟩) (Kd.R_types Ar.out Ak.out (by decide)) (fun _ hk=>hk.2) (.int .i64 ((y21 Ac (rd Ab Aa)).f0))) (fun _ hk=>hk.2) (.string ((y21 Ac (rd Ab Aa)).f1))) (fun _ hk=>hk.2) (.slice Am ((y21 Ac (rd Ab Aa)).f2).length Ap)) (fun _ hk=>trivial))⟩,⟨by(with_reducible repeat(first|refine y10 ?_ _|refine y9 ?_|refine y6 ?_ _));refine y11 ?_ Ad.out _;(with_reducible repeat(first|refine y10 ?_ _|refine y9 ?_|refine y6 ?_ _));refine y11 ?_ Ad.out _;(with_reducible repeat(first|refine y10 ?_ _|refine y9 ?_|refine y6 ?_ _));refine y11 ?_ Ad.out _;(with_reducible repeat(first|refine y10 ?_ _|refine y9 ?_|refine y6 ?_ _));exact Ag.out⟩,⟨qb⟩⟩
   ·rw [if_neg Cw]at H
    have De:=decide_eq_false Cw
    clear Cw
    obtain rfl:=Option.some.inj H
    go_wp2
    go_ret
    exact⟨_,by first|rfl|(simp [y13,y14] <;> rfl)|(simp [*,y13,y14] <;> rfl),by(with_reducible repeat(first|apply Kd.R_alloc|apply Kd.R_drewN|apply Kd.R_drew));exact Au.out,qb⟩
def impl_Rule_isPattern_1.f (a0:Int) (l1_0:List (S63)) (a1_1:Int) (a1_2:ByteArray) (l1_3:List Int) (l1_4:List (S33)):Option (Bool):=if 0≤a0 then(if a0 < (l1_0.length:Int)then((impl_isSum.f ((y21 l1_0 a0).f0)).bind fun t472=>(some t472))else(none))else(none)
set_option maxHeartbeats 8000000 in
set_option maxRecDepth 100000 in
theorem impl_Rule_isPattern_1.calls (a0:Int) (At:Option Addr) (Au:Nat) (Aa:List (S63)) (Av:Int) (Aw:ByteArray) (Ay:Option Addr) (Az:Nat) (Ad:List Int) (Ba:Option Addr) (Bb:Nat) (Af:List (S33)) (g1:Nat) (r:Bool) (w:World) (Ag:Kd.C k63 w At Aa.length Aa) (Ah:Aa.length≤Au) (Ai:Kd.C (Kd.int .i64) w Ay Ad.length Ad) (Aj:Ad.length≤Az) (Ak:Kd.C k33 w Ba Af.length Af) (Am:Af.length≤Bb) (Bc:w.heap[g1]?=some (.cells #[.slice At Aa.length Au,.int .i64 Av,.string Aw,.slice Ay Ad.length Az,.slice Ba Af.length Bb] 36 (0,0))) (h:impl_Rule_isPattern_1.f a0 Aa Av Aw Ad Af=some r) :
  Calls Try.prog 90 #[.int .i64 a0,.pointer (some ⟨g1,0,none⟩)] w fun e w'=>e=.returned (.bool r)∧Drawn0 w w':=by
 have Bd:=y0.mk Ag
 have Bw:=y0.mk Ah
 clear Ag Ah
 have Bx:=y0.mk Ai
 have Bz:=y0.mk Aj
 clear Ai Aj
 have Ca:=y0.mk Ak
 have Cb:=y0.mk Am
 clear Ak Am
 have Cd:=y0.mk Bc
 clear Bc
 have H:(if 0≤a0 then(if a0 < (Aa.length:Int)then((impl_isSum.f ((y21 Aa a0).f0)).bind fun Ap=>(some Ap))else(none))else(none))=some r:=h
 clear h
 obtain⟨c3,H⟩:=qo H
 have Ce:decide (0≤a0)=true:=decide_eq_true c3
 clear c3
 obtain⟨c4,H⟩:=qo H
 have Cf:decide (a0 < (Aa.length:Int))=true:=decide_eq_true c4
 clear c4
 obtain⟨Ap,A5,H⟩:=qB H
 obtain rfl:=Option.some.inj H
 obtain⟨Bj,Bk,Bl,Bm,Bn,Bo,Bp,Bq,Br,Bs⟩:=qz5 Cd.out
 have Ar:0≤(a0:Int):=of_decide_eq_true qy0
 have As:a0 < (Aa.length:Int):=of_decide_eq_true qy0
 obtain⟨Cc,Bt,Bu,Bv,Be,Bf,Bg,Ab,Ac⟩:=at_T63 Bd.out a0 Ar As
 cases Bv
 have Bh:=y0.mk Ac
 have Bi:=y0.mk Ab
 clear Ac Ab
 replace Ar:=eq_true Ar
 replace As:=eq_true As
 go_enter Try.func90,Try.ntmps90
 go_wp2_with (first|((with_reducible refine y16 (f:=65) rfl ?_);refine y18 (some 10) rfl rfl Try.func65 (by kernel_rfl) rfl #[.int .i64 ((y21 Aa a0).f0)] rfl qy1 ?_;(with_reducible refine(impl_isSum.calls ((y21 Aa a0).f0) Ap _ A5.out).mono ?_);rintro e w' ⟨rfl,⟨nd,rfl⟩⟩;refine⟨_,rfl, ?_⟩))
 go_ret
 exact qf2
end Go.Proofs.Ytkdabljlfbmpdaa.Po
end
section
namespace Go.Proofs.Ytkdabljlfbmpdaa.Po
open Go.RowKit Go.Proofs.YtkdabljlfbmpdaaW.PrintWords Go.Proofs.YtkdabljlfbmpdaaW.PrintLast Go.Proofs.YtkdabljlfbmpdaaW.PrintMore
attribute [local go_sem] max2_int min2_int max_two min_two max_three min_three max_four min_four   -- for this text's walks alone
set_option linter.unusedVariables false
set_option linter.unusedSimpArgs false
/-- What (impl.Rule).isPattern comes to. -/
def z2_.g (l0_0:List (S63)) (a0_1:Int) (a0_2:ByteArray) (l0_3:List Int) (l0_4:List (S33)) (x:Int):Bool:=(impl_Rule_isPattern_1.f x l0_0 a0_1 a0_2 l0_3 l0_4).getD false
def z2_.f (k:Nat) (l0_0:List (S63)) (a0_1:Int) (a0_2:ByteArray) (l0_3:List Int) (l0_4:List (S33)) (a1:Int):Option Bool :=
 (impl_Rule_within.f k l0_0 a0_1 a0_2 l0_3 l0_4 a1).bind fun xs=>if xs.length≤1099511627776∧(xs.all fun x=>(impl_Rule_isPattern_1.f x l0_0 a0_1 a0_2 l0_3 l0_4).isSome)=true then some (!(xs.any (z2_.g l0_0 a0_1 a0_2 l0_3 l0_4)))else none
set_option maxHeartbeats 8000000 in
set_option maxRecDepth 100000 in
theorem slices_IndexFunc_isPattern.calls (A0:Option Addr) (c0:Nat) (l0:List Int) (Ap:Option Addr) (Ar:Nat) (Aa:List (S63)) (Ad:Int) (Af:ByteArray) (As:Option Addr) (At:Nat) (Ab:List Int) (Au:Option Addr) (Av:Nat) (Ac:List (S33)) (g1:Nat) (w:World) (Bg:Kd.C (Kd.int .i64) w A0 l0.length l0) (Bj:l0.length≤c0) (Ag:Kd.C k63 w Ap Aa.length Aa) (Ah:Aa.length≤Ar) (Ai:Kd.C (Kd.int .i64) w As Ab.length Ab) (Aj:Ab.length≤At) (Ak:Kd.C k33 w Au Ac.length Ac) (Am:Ac.length≤Av) (Aw:w.heap[g1]?=some (.cells #[.slice Ap Aa.length Ar,.int .i64 Ad,.string Af,.slice As Ab.length At,.slice Au Ac.length Av] 36 (0,0)))
  (hn:l0.length≤1099511627776) (hg:∀ x∈l0,(impl_Rule_isPattern_1.f x Aa Ad Af Ab Ac).isSome=true) :
  Calls Try.prog 92 #[.slice A0 l0.length c0,.func (.func 90) #[] #[.pointer (some ⟨g1,0,none⟩)]] w fun e w'=>∃ r:Int,e=.returned (.int .i64 r)∧decide (r≥0)=l0.any (z2_.g Aa Ad Af Ab Ac)∧Below w.heap.size w w':=by
 have hlt:=(Array.getElem?_eq_some_iff.1 Aw).1
 have Bk:=y0.mk Bg
 clear Bg
 have Ay:=y0.mk Ag
 clear Ag
 have Az:=y0.mk Ah
 clear Ah
 have Ba:=y0.mk Ai
 clear Ai
 have Bb:=y0.mk Aj
 clear Aj
 have Bc:=y0.mk Ak
 clear Ak
 have Bd:=y0.mk Am
 clear Am
 have HBX:=y0.mk Aw
 clear Aw
 have HN:=y0.mk hn
 have HG:=y0.mk hg
 clear hn hg Bj
 have HB:=y0.mk (Below.refl w.heap.size w)
 go_enter Try.func92,Try.ntmps92
 go_wp2
 go_loopg [8] l0.length (fun kq v8 w'=>∃(xi:Int) (i:Nat),v8=.int .i64 xi∧y0 (xi=(i:Int))∧y0 (kq + i=l0.length)∧y0 (l0.any (z2_.g Aa Ad Af Ab Ac)=(l0.drop i).any (z2_.g Aa Ad Af Ab Ac))∧y0 (Below w.heap.size w w'))
 case atStart=>exact⟨0,0,rfl,⟨rfl⟩,⟨Nat.add_zero _⟩,⟨by rw [List.drop_zero]⟩,⟨qb⟩⟩
 case round =>
  obtain⟨xi,i,rfl,HXI,HK,HD,HB⟩:=hrel
  by_cases c3:xi < (l0.length:Int)
  ·have Be:decide (xi < (l0.length:Int))=true:=decide_eq_true c3
   have hi:i < l0.length:=by have:=HXI.out;omega
   have p1:0≤xi:=by have:=HXI.out;omega
   have rg:rd l0 xi=l0[i]:=by rw [HXI.out];unfold rd;rw [show((i:Int)).toNat=i from rfl,List.getD_eq_getElem?_getD,List.getElem?_eq_getElem hi];rfl
   obtain⟨ad,e1,hx⟩:=Kd.at_int Bk.out xi p1 c3
   cases e1
   rw [rg]at hx
   replace hx:=(HB.out.cell (World.block_lt_of_cell? w _ hx)).trans hx
   obtain⟨b,Bf⟩:=Option.isSome_iff_exists.1 (HG.out _ (List.getElem_mem hi))
   have Bh:z2_.g Aa Ad Af Ab Ac l0[i]=b:=by unfold z2_.g;rw [Bf];rfl
   have HDn:y0 (l0.any (z2_.g Aa Ad Af Ab Ac)=(b || (l0.drop (i + 1)).any (z2_.g Aa Ad Af Ab Ac))):=⟨by rw [HD.out,List.drop_eq_getElem_cons hi,List.any_cons,Bh]⟩
   have Bi:=y0.mk Bf
   have HI:=y0.mk hi
   clear Bf Bh rg HD
   generalize l0[i]=x0 at hx Bi
   clear hi
   replace p1:=eq_true p1
   replace c3:=eq_true c3
   have step:∀(w1:World),Below w.heap.size w w1→Calls Try.prog 90 #[.int .i64 x0,.pointer (some ⟨g1,0,none⟩)] w1 fun e w'=>e=.returned (.bool b)∧Below w1.heap.size w1 w':=by
    intro w1 hb
    refine(impl_Rule_isPattern_1.calls x0 Ap Ar Aa Ad Af As At Ab Au Av Ac g1 b w1 (Kd.C_below Ay.out hb) Az.out (Kd.C_below Ba.out hb) Bb.out (Kd.C_below Bc.out hb) Bd.out ((hb.block g1 hlt).trans HBX.out) Bi.out).mono ?_
    rintro e w2 ⟨rfl,hd⟩
    exact⟨rfl,hd.below⟩
   have HSt:=y0.mk step
   clear step
   cases b with
   | true =>
    go_wp2_with (first|(go_at_call 90;(with_reducible refine(HSt.out _ qb).mono ?_);rintro e w8 ⟨rfl,hb⟩;have n0_:=y0.mk (y5 qb hb);clear HB hb;have HB:=n0_;clear n0_))
    go_ret
    exact⟨xi,by first|rfl|(simp [y13,y14] <;> rfl),by rw [HDn.out,Bool.true_or];exact decide_eq_true (by have:=HXI.out;omega),qb⟩
   | false =>
    go_wp2_with (first|(go_at_call 90;(with_reducible refine(HSt.out _ qb).mono ?_);rintro e w9 ⟨rfl,hb⟩;have n0_:=y0.mk (y5 qb hb);clear HB hb;have HB:=n0_;clear n0_))
    go_roundg (l0.length - i - 1)
    case measure=>have:=HK.out;have:=HI.out;omega
    exact⟨wrap64 (xi + 1),i + 1,qy2,⟨by rw [HXI.out];exact QIv.step_u (by have:=HN.out;have:=HI.out;omega)⟩,⟨by have:=HI.out;omega⟩,⟨by rw [HDn.out,Bool.false_or]⟩,⟨qb⟩⟩
  ·have Be:decide (xi < (l0.length:Int))=false:=decide_eq_false c3
   have hd:l0.drop i=[]:=List.drop_of_length_le (by have:=HXI.out;have:=HK.out;omega)
   have HE:y0 (l0.any (z2_.g Aa Ad Af Ab Ac)=false):=⟨by rw [HD.out,hd];rfl⟩
   clear hd
   go_wp2
   go_ret
   exact⟨-1,by first|rfl|(simp [y13,y14] <;> rfl),by rw [HE.out];rfl,qb⟩
set_option maxHeartbeats 8000000 in
set_option maxRecDepth 100000 in
theorem slices_ContainsFunc_isPattern.calls (A0:Option Addr) (c0:Nat) (l0:List Int) (Aj:Option Addr) (Ak:Nat) (Aa:List (S63)) (Ad:Int) (Af:ByteArray) (Am:Option Addr) (Ap:Nat) (Ab:List Int) (Ar:Option Addr) (As:Nat) (Ac:List (S33)) (g1:Nat) (w:World) (Ay:Kd.C (Kd.int .i64) w A0 l0.length l0) (Az:l0.length≤c0) (Ag:Kd.C k63 w Aj Aa.length Aa) (At:Aa.length≤Ak) (Ah:Kd.C (Kd.int .i64) w Am Ab.length Ab) (Au:Ab.length≤Ap) (Ai:Kd.C k33 w Ar Ac.length Ac) (Av:Ac.length≤As) (Aw:w.heap[g1]?=some (.cells #[.slice Aj Aa.length Ak,.int .i64 Ad,.string Af,.slice Am Ab.length Ap,.slice Ar Ac.length As] 36 (0,0)))
  (hn:l0.length≤1099511627776) (hg:∀ x∈l0,(impl_Rule_isPattern_1.f x Aa Ad Af Ab Ac).isSome=true) :
  Calls Try.prog 81 #[.slice A0 l0.length c0,.func (.func 90) #[] #[.pointer (some ⟨g1,0,none⟩)]] w fun e w'=>e=.returned (.bool (l0.any (z2_.g Aa Ad Af Ab Ac)))∧Below w.heap.size w w':=by
 have HC:=y0.mk (slices_IndexFunc_isPattern.calls A0 c0 l0 Aj Ak Aa Ad Af Am Ap Ab Ar As Ac g1 w Ay Az Ag At Ah Au Ai Av Aw hn hg)
 have HB:=y0.mk (Below.refl w.heap.size w)
 clear hn hg Aw Ay Ag Ah Ai
 go_enter Try.func81,Try.ntmps81
 go_wp2_with (first|(go_at_call 92;(with_reducible refine HC.out.mono ?_);rintro e w8 ⟨r,rfl,hr,hb⟩;have HR:=y0.mk hr;have n0_:=y0.mk (y5 qb hb);clear HB hb hr;have HB:=n0_;clear n0_))
 go_ret
 exact⟨by rw [← HR.out];first|rfl|(simp [y13,y14] <;> rfl),qb⟩
set_option maxHeartbeats 8000000 in
set_option maxRecDepth 100000 in
theorem z2_.calls (k:Nat) (Ag:Option Addr) (Ah:Nat) (Aa:List (S63)) (Ad:Int) (Af:ByteArray) (Ai:Option Addr) (Aj:Nat) (Ab:List Int) (Ak:Option Addr) (Am:Nat) (Ac:List (S33)) (a1:Int) (r:Bool) (w:World) (Bb:Kd.C k63 w Ag Aa.length Aa) (Bc:Aa.length≤Ah) (Bd:Kd.C (Kd.int .i64) w Ai Ab.length Ab) (Be:Ab.length≤Aj) (Bf:Kd.C k33 w Ak Ac.length Ac) (Bg:Ac.length≤Am) (h:z2_.f k Aa Ad Af Ab Ac a1=some r) :
  Calls Try.prog 74 #[.agg #[.slice Ag Aa.length Ah,.int .i64 Ad,.string Af,.slice Ai Ab.length Aj,.slice Ak Ac.length Am],.int .i64 a1] w fun e w'=>e=.returned (.bool r)∧Below w.heap.size w w':=by
 unfold z2_.f at h
 obtain⟨xs,E1,h⟩:=Option.bind_eq_some_iff.1 h
 by_cases hc:xs.length≤1099511627776∧(xs.all fun x=>(impl_Rule_isPattern_1.f x Aa Ad Af Ab Ac).isSome)=true
 case neg=>rw [if_neg hc]at h;cases h
 rw [if_pos hc]at h
 obtain rfl:=Option.some.inj h
 clear h
 have HLN:=y0.mk hc.1
 have HAL:=y0.mk (List.all_eq_true.1 hc.2)
 clear hc
 replace E1:=y0.mk E1
 have Bh:=y0.mk Bb
 clear Bb
 have Bi:=y0.mk Bc
 clear Bc
 have Bj:=y0.mk Bd
 clear Bd
 have Bk:=y0.mk Be
 clear Be
 have Bl:=y0.mk Bf
 clear Bf
 have Bm:=y0.mk Bg
 clear Bg
 have HB:=y0.mk (Below.refl w.heap.size w)
 have Bn:=Try.underlying36
 go_enter Try.func74,Try.ntmps74
 go_wp2_with (first
  | ((with_reducible refine y17 (N:=2) rfl ?_);refine qe 2 #[.slice Ag Aa.length Ah,.int .i64 Ad,.string Af,.slice Ai Ab.length Aj,.slice Ak Ac.length Am] 36 ?_;intro gr hg w1 hbox hb;have BKr:=y0.mk (hbox);have GEr:=y0.mk ((by rw [hg];exact HB.out.size:w.heap.size≤gr));replace HB:=y0.mk (y5 HB.out hb);clear hb hg hbox;obtain⟨Ap,Ar,As,At,Au,Av,Aw,Ay,Az,Ba⟩:=QIv.box5 BKr.out)
  | (go_at_call 53;(with_reducible refine(impl_Rule_within.calls k _ _ Aa Ad Af _ _ Ab _ _ Ac a1 xs _ (Kd.C_below Bh.out HB.out) Bi.out (Kd.C_below Bj.out HB.out) Bk.out (Kd.C_below Bl.out HB.out) Bm.out E1.out).mono ?_);rintro e w2 ⟨v_,rfl,ho,hb⟩;obtain⟨loX,hiX,hlo_,hhi_,hOX_⟩:=QIv.OR.new ho;obtain⟨AX,cX,eA_⟩:=hOX_.slice;subst eA_;(repeat first|clear Ap|clear Ar|clear As|clear At|clear Au|clear Av|clear Aw|clear Ay|clear Az|clear Ba);have OX:=y0.mk (hOX_);have LX:=y0.mk ((by rw [hhi_];exact Nat.le_refl _:hiX≤_));have BX:=y0.mk ((by rw [hlo_];exact HB.out.size:w.heap.size≤loX));have IX:=y0.mk ((by rw [hlo_,hhi_];exact hb.size:loX≤hiX));have Er_X:=y0.mk ((by rw [hlo_];exact QIv.ki_lt BKr.out:gr < loX));replace BKr:=y0.mk (y7 (g:=gr) (o:=(.cells #[.slice Ag Aa.length Ah,.int .i64 Ad,.string Af,.slice Ai Ab.length Aj,.slice Ak Ac.length Am] 36 (0,0))) BKr.out hb);replace HB:=y0.mk (y5 HB.out hb);(try clear hb);(try clear ho);(try clear hlo_);(try clear hhi_);obtain⟨Ap,Ar,As,At,Au,Av,Aw,Ay,Az,Ba⟩:=QIv.box5 BKr.out)
  | (go_at_call 81;(with_reducible refine(slices_ContainsFunc_isPattern.calls _ _ xs _ _ Aa Ad Af _ _ Ab _ _ Ac gr _ OX.out.C OX.out.le (Kd.C_below Bh.out HB.out) Bi.out (Kd.C_below Bj.out HB.out) Bk.out (Kd.C_below Bl.out HB.out) Bm.out BKr.out HLN.out HAL.out).mono ?_);rintro e w3 ⟨rfl,hb⟩;(repeat first|clear Ap|clear Ar|clear As|clear At|clear Au|clear Av|clear Aw|clear Ay|clear Az|clear Ba);replace OX:=y0.mk (OX.out.below hb);replace LX:=y0.mk (Nat.le_trans LX.out hb.size);replace BKr:=y0.mk (y7 (g:=gr) (o:=(.cells #[.slice Ag Aa.length Ah,.int .i64 Ad,.string Af,.slice Ai Ab.length Aj,.slice Ak Ac.length Am] 36 (0,0))) BKr.out hb);replace HB:=y0.mk (y5 HB.out hb);(try clear hb);obtain⟨Ap,Ar,As,At,Au,Av,Aw,Ay,Az,Ba⟩:=QIv.box5 BKr.out))
 go_ret
 exact⟨by first|rfl|(simp [y13,y14] <;> rfl),HB.out⟩
end Go.Proofs.Ytkdabljlfbmpdaa.Po
end
