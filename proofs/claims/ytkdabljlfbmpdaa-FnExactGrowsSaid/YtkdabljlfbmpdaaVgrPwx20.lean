-- Cut by prune.py.
import Derived.Test.YtkdabljlfbmpdaaVgrPwx19
set_option maxHeartbeats 8000000
set_option maxRecDepth 100000
section
namespace Go.Proofs.Ytkdabljlfbmpdaa.Pw
open RowKit YtkdabljlfbmpdaaW.PrintWords YtkdabljlfbmpdaaW.PrintLast YtkdabljlfbmpdaaW.PrintMore
set_option linter.unusedVariables false
set_option linter.unusedSimpArgs false
def z3_.f (k:Nat) (Ao:List (S63)) (Aq:Int) (By:ByteArray) (Di:List Int) (Du:List (S33)) (Ff:Int) (Ae:ByteArray) (Al:List Int):Option (ByteArray):=if Ff=3 then(if 0 < (Al.length:Int)then((z0_.f k Ao Aq By Di Du (rd Al 0)).bind fun An=>(if An.size + 1≤9223372036854775807 then(if(An ++ (⟨#[32]⟩:ByteArray)).size + Ae.size≤9223372036854775807 then(if((An ++ (⟨#[32]⟩:ByteArray)) ++ Ae).size + 1≤9223372036854775807 then(if 1 < (Al.length:Int)then((z0_.f k Ao Aq By Di Du (rd Al 1)).bind fun Fj=>(if(((An ++ (⟨#[32]⟩:ByteArray)) ++ Ae) ++ (⟨#[32]⟩:ByteArray)).size + Fj.size≤9223372036854775807 then(some ((((An ++ (⟨#[32]⟩:ByteArray)) ++ Ae) ++ (⟨#[32]⟩:ByteArray)) ++ Fj))else(none)))else(none))else(none))else(none))else(none)))else(none))else(if Ff=2 then(if 1 + Ae.size≤9223372036854775807 then(if((⟨#[33]⟩:ByteArray) ++ Ae).size + 1≤9223372036854775807 then((z1_.f k Ao Aq By Di Du Al).bind fun Ea=>(if(((⟨#[33]⟩:ByteArray) ++ Ae) ++ (⟨#[40]⟩:ByteArray)).size + Ea.size≤9223372036854775807 then(if((((⟨#[33]⟩:ByteArray) ++ Ae) ++ (⟨#[40]⟩:ByteArray)) ++ Ea).size + 1≤9223372036854775807 then(some (((((⟨#[33]⟩:ByteArray) ++ Ae) ++ (⟨#[40]⟩:ByteArray)) ++ Ea) ++ (⟨#[41]⟩:ByteArray)))else(none))else(none)))else(none))else(none))else(if Ae.size + 1≤9223372036854775807 then((z1_.f k Ao Aq By Di Du Al).bind fun Fd=>(if(Ae ++ (⟨#[40]⟩:ByteArray)).size + Fd.size≤9223372036854775807 then(if((Ae ++ (⟨#[40]⟩:ByteArray)) ++ Fd).size + 1≤9223372036854775807 then(some (((Ae ++ (⟨#[40]⟩:ByteArray)) ++ Fd) ++ (⟨#[41]⟩:ByteArray)))else(none))else(none)))else(none)))
def z3_.T3:Bool×List (List Nat×List Nat):=(true,[([],[]),([],[]),([1],[1]),([2],[2]),([3],[3]),([0,4],[0,4]),([5],[5]),([],[]),([7],[7]),([6,8],[6,8]),([9],[9]),([],[]),([],[]),([12],[12]),([13],[13]),([14],[14]),([11,15,5],[11,15]),([10,16],[10,16]),([17,16,0,1,2,3,4,5,6,7,8,9,10,11,12,13,14,15,16,17],[17])])
def z3_.B3:List Nat:=[0,0,2,6,14,31,63,0,128,511,1023,0,0,4096,12288,28672,63551,131071,262143]
theorem z3_.tab3:rtab .any (opsOf Try.f68 3)=z3_.T3:=by kernel_rfl
theorem z3_.bits3:waitsOk z3_.T3.2 z3_.B3=true:=by kernel_rfl
def z3_.T5:Bool×List (List Nat×List Nat):=(true,[([],[]),([0],[0]),([1],[1]),([2],[2]),([],[]),([],[]),([5],[5]),([4,6],[4,6]),([3,7],[3,7]),([8],[8]),([9,7,0,1,2,3,4,5,6,7,8,9],[9])])
def z3_.B5:List Nat:=[0,1,3,7,0,0,32,112,255,511,1023]
theorem z3_.tab5:rtab .any (opsOf Try.f68 5)=z3_.T5:=by kernel_rfl
theorem z3_.bits5:waitsOk z3_.T5.2 z3_.B5=true:=by kernel_rfl
def z3_.T6:Bool×List (List Nat×List Nat):=(true,[([],[]),([0],[0]),([1],[1]),([],[]),([],[]),([4],[4]),([3,5],[3,5]),([2,6],[2,6]),([7],[7]),([8,6,0,1,2,3,4,5,6,7,8],[8])])
def z3_.B6:List Nat:=[0,1,3,0,0,16,56,127,255,511]
theorem z3_.tab6:rtab .any (opsOf Try.f68 6)=z3_.T6:=by kernel_rfl
theorem z3_.bits6:waitsOk z3_.T6.2 z3_.B6=true:=by kernel_rfl
theorem z3_.calls (k:Nat) (Ax:Option Addr) (Ay:Nat) (Ai:List (S63)) (Am:Int) (Ap:ByteArray) (Az:Option Addr) (Ba:Nat) (Aj:List Int) (Bb:Option Addr) (Bc:Nat) (Ak:List (S33)) (Ar:Int) (Ad:ByteArray) (Bf:Option Addr) (Bd:Nat) (Ac:List Int) (r:ByteArray) (w:World) (Br:Kd.C k63 w Ax Ai.length Ai) (Bs:Ai.length≤Ay) (Bt:Kd.C (Kd.int .i64) w Az Aj.length Aj) (Bu:Aj.length≤Ba) (Bv:Kd.C k33 w Bb Ak.length Ak) (Bw:Ak.length≤Bc) (Bx:Kd.C (Kd.int .i64) w Bf Ac.length Ac) (Bz:Ac.length≤Bd) (h:z3_.f k Ai Am Ap Aj Ak Ar Ad Ac=some r) :
  Calls Try.prog 68 #[.agg #[.slice Ax Ai.length Ay,.int .i64 Am,.string Ap,.slice Az Aj.length Ba,.slice Bb Ak.length Bc],.agg #[.int .i64 Ar,.string Ad,.slice Bf Ac.length Bd]] w fun e w'=>e=.returned (.string r)∧Below w.heap.size w w':=by
 have Fj:=Try.underlying36
 have Fk:=Try.underlying33
 have Bj:=y0.mk Br
 have Bk:=y0.mk Bs
 clear Br Bs
 have Bl:=y0.mk Bt
 have Bm:=y0.mk Bu
 clear Bt Bu
 have Bn:=y0.mk Bv
 have Bo:=y0.mk Bw
 clear Bv Bw
 have Bp:=y0.mk Bx
 have Ca:=y0.mk Bz
 clear Bx Bz
 have HB:=y0.mk (Below.refl w.heap.size w)
 have H:(if Ar=3 then(if 0 < (Ac.length:Int)then((z0_.f k Ai Am Ap Aj Ak (rd Ac 0)).bind fun Be=>(if Be.size + 1≤9223372036854775807 then(if(Be ++ (⟨#[32]⟩:ByteArray)).size + Ad.size≤9223372036854775807 then(if((Be ++ (⟨#[32]⟩:ByteArray)) ++ Ad).size + 1≤9223372036854775807 then(if 1 < (Ac.length:Int)then((z0_.f k Ai Am Ap Aj Ak (rd Ac 1)).bind fun Bq=>(if(((Be ++ (⟨#[32]⟩:ByteArray)) ++ Ad) ++ (⟨#[32]⟩:ByteArray)).size + Bq.size≤9223372036854775807 then(some ((((Be ++ (⟨#[32]⟩:ByteArray)) ++ Ad) ++ (⟨#[32]⟩:ByteArray)) ++ Bq))else(none)))else(none))else(none))else(none))else(none)))else(none))else(if Ar=2 then(if 1 + Ad.size≤9223372036854775807 then(if((⟨#[33]⟩:ByteArray) ++ Ad).size + 1≤9223372036854775807 then((z1_.f k Ai Am Ap Aj Ak Ac).bind fun Bh=>(if(((⟨#[33]⟩:ByteArray) ++ Ad) ++ (⟨#[40]⟩:ByteArray)).size + Bh.size≤9223372036854775807 then(if((((⟨#[33]⟩:ByteArray) ++ Ad) ++ (⟨#[40]⟩:ByteArray)) ++ Bh).size + 1≤9223372036854775807 then(some (((((⟨#[33]⟩:ByteArray) ++ Ad) ++ (⟨#[40]⟩:ByteArray)) ++ Bh) ++ (⟨#[41]⟩:ByteArray)))else(none))else(none)))else(none))else(none))else(if Ad.size + 1≤9223372036854775807 then((z1_.f k Ai Am Ap Aj Ak Ac).bind fun Bi=>(if(Ad ++ (⟨#[40]⟩:ByteArray)).size + Bi.size≤9223372036854775807 then(if((Ad ++ (⟨#[40]⟩:ByteArray)) ++ Bi).size + 1≤9223372036854775807 then(some (((Ad ++ (⟨#[40]⟩:ByteArray)) ++ Bi) ++ (⟨#[41]⟩:ByteArray)))else(none))else(none)))else(none))))=some r:=h
 clear h
 by_cases c3:Ar=3
 ·rw [if_pos c3]at H
  have Dm:(Ar == 3)=true:=beq_iff_eq.mpr c3
  have Do:(Ar != 3)=false:=bne_eq_false_iff_eq.mpr c3
  clear c3
  obtain⟨c4,H⟩:=qo H
  have Fl:decide (0 < (Ac.length:Int))=true:=decide_eq_true c4
  have Fm:decide (0 < Ac.length)=true:=decide_eq_true (by omega)
  clear c4
  obtain⟨Be,A5,H⟩:=qB H
  obtain⟨c6,H⟩:=qo H
  have Fn:=eq_true c6
  have Fo:=decide_eq_true c6
  have Fp:=eq_false (Nat.not_lt.2 c6)
  obtain⟨c7,H⟩:=qo H
  have Fq:=eq_true c7
  have Fr:=decide_eq_true c7
  have Dp:=eq_false (Nat.not_lt.2 c7)
  have Fs:(9223372036854775807 < Be.size + 1 + Ad.size)=False:=qs Dp
  obtain⟨c8,H⟩:=qo H
  have Ft:=eq_true c8
  have Fu:=decide_eq_true c8
  have Dq:=eq_false (Nat.not_lt.2 c8)
  have Fv:(9223372036854775807 < Be.size + 1 + Ad.size + 1)=False:=qs Dq
  obtain⟨c9,H⟩:=qo H
  have Fx:decide (1 < (Ac.length:Int))=true:=decide_eq_true c9
  have Fy:decide (1 < Ac.length)=true:=decide_eq_true (by omega)
  clear c9
  obtain⟨Bq,Fz,H⟩:=qB H
  obtain⟨Dr,H⟩:=qo H
  have Ec:=eq_true Dr
  have Ed:=decide_eq_true Dr
  have Ck:=eq_false (Nat.not_lt.2 Dr)
  have Ee:(9223372036854775807 < Be.size + 1 + Ad.size + 1 + Bq.size)=False:=qs Ck
  obtain rfl:=Option.some.inj H
  go_enter Try.func68,Try.ntmps68
  try go_wp2_with (first|((with_reducible refine y16 (N:=2) rfl ?_);refine qe 2 #[.slice Ax Ai.length Ay,.int .i64 Am,.string Ap,.slice Az Aj.length Ba,.slice Bb Ak.length Bc] 36 ?_;intro Af hg Gf hbox hb;have Aa:=y0.mk (hbox);have Cb:=y0.mk (qg (w:=w) hg);have Cc:=y0.mk (qg (w:=w) hg);replace HB:=y0.mk (y4 qb hb);clear hb hbox hg)|((with_reducible refine y16 (N:=3) rfl ?_);refine qe 3 #[.int .i64 Ar,.string Ad,.slice Bf Ac.length Bd] 33 ?_;intro Aw hg Ga hbox hb;have Ab:=y0.mk (hbox);have Cd:=y0.mk (qg (w:=w) hg);have Ce:=y0.mk (qg (w:=w) hg);replace HB:=y0.mk (y4 qb hb);have As:=y0.mk (qn Aa.out hg);have At:=y0.mk (qm Aa.out hg);replace Aa:=y0.mk (qK Aa.out hb);clear hb hbox hg;have Ef:=At.out;have Eg:=As.out;obtain⟨Cu,Cv,Cw,Cx,Cy,Cz⟩:=qz3 Ab.out))
  replace Aa:=y0.mk (y8 Aa.out)
  replace Ab:=y0.mk (y8 Ab.out)
  replace HB:=y0.mk (y2 HB.out)
  have Cf:0≤(0:Int):=(by omega)
  have Cg:0 < (Ac.length:Int):=qd
  obtain⟨Bg,Ds,Au⟩:=Kd.at_int Bp.out 0 Cf Cg
  have Ag:=Au
  (try rw [show((0:Int)).toNat=0 from rfl]at Ag)
  (try rw [show 0 * 1=0 from rfl]at Ag)
  (try rw [Addr.add_zero']at Ag)
  cases Ds
  have Eh:(0 < Ac.length)=True:=eq_true (by omega)
  (try rw [show((0:Int)).toNat=0 from rfl]at Au)
  (try rw [Addr.add_zero']at Au)
  replace Au:=qC Au HB
  replace Cf:=eq_true Cf
  replace Cg:=eq_true Cg
  have Ch:0≤(1:Int):=(by omega)
  have Ci:1 < (Ac.length:Int):=qd
  obtain⟨Cl,Dt,Av⟩:=Kd.at_int Bp.out 1 Ch Ci
  have Ah:=Av
  (try rw [show((1:Int)).toNat=1 from rfl]at Ah)
  (try rw [show 1 * 1=1 from rfl]at Ah)
  (try simp only [Nat.reduceMul,Nat.reduceEqDiff,Go.Addr.add,↓reduceIte]at Ah)
  obtain rfl:Bg=Cl:=(by injection Dt)
  (try simp only [show(1:Int).toNat=1 from rfl,Nat.reduceMul,Nat.reduceEqDiff,Go.Addr.add,↓reduceIte]at Av)
  have Ei:(1 < Ac.length)=True:=eq_true (by omega)
  (try rw [show((1:Int)).toNat=1 from rfl]at Av)
  replace Av:=qC Av HB
  replace Ch:=eq_true Ch
  replace Ci:=eq_true Ci
  refine start_ (n:=19) (S:=fun w'=>w'.cell? ⟨Af,0,none⟩=some (.slice Ax Ai.length Ay)∧w'.cell? ⟨Af,1,none⟩=some (.int .i64 Am)∧w'.cell? ⟨Af,2,none⟩=some (.string Ap)∧w'.cell? ⟨Af,3,none⟩=some (.slice Az Aj.length Ba)∧w'.cell? ⟨Af,4,none⟩=some (.slice Bb Ak.length Bc)∧w'.cell? ⟨Aw,0,none⟩=some (.int .i64 Ar)∧w'.cell? ⟨Aw,1,none⟩=some (.string Ad)∧w'.cell? ⟨Aw,2,none⟩=some (.slice (some Bg) Ac.length Bd)∧w'.cell? Bg=some (.int .i64 (rd Ac 0))∧w'.cell? ⟨Bg.block,Bg.off + 1,none⟩=some (.int .i64 (rd Ac 1))) (ds:=[]) (fl_ 19 0) (by kernel_rfl) rfl rfl ⟨(y7 Aa.out 0).trans rfl,(y7 Aa.out 1).trans rfl,(y7 Aa.out 2).trans rfl,(y7 Aa.out 3).trans rfl,(y7 Aa.out 4).trans rfl,(y7 Ab.out 0).trans rfl,(y7 Ab.out 1).trans rfl,(y7 Ab.out 2).trans rfl,(qC Ag HB),(qC Ah HB)⟩ (fun hHeld=>?_);refine with_tabW z3_.tab3 z3_.bits3 (fun HT_ HW_=>?_)
  generalize Ga.drew=Gg at Aa Ab HB Au Av hHeld ⊢
  refine qp 1 10 (fl_ 19 2) ?_
  refine qp 7 16 (fl_ 19 130) ?_
  refine qp 12 21 (fl_ 19 4226) ?_
  refine qt 0 9 (fl_ 19 4227) hHeld ?_
  refine qt 2 11 (fl_ 19 4231) hHeld ?_
  refine qp 3 12 (fl_ 19 4239) ?_
  refine qt 4 13 (fl_ 19 4255) hHeld ?_
  refine qt 8 17 (fl_ 19 4511) hHeld ?_
  refine qt 11 20 (fl_ 19 6559) hHeld ?_
  refine qt 13 22 (fl_ 19 14751) hHeld ?_
  refine qp 14 23 (fl_ 19 31135) ?_
  refine qt 15 24 (fl_ 19 63903) hHeld ?_
  refine qO 5 14 (fl_ 19 63935) (fun K hK=>?_)
  refine goes_ Try.func83 (by kernel_rfl) rfl #[.agg #[.slice Ax Ai.length Ay,.int .i64 Am,.string Ap,.slice Az Aj.length Ba,.slice Bb Ak.length Bc],.int .i64 (rd Ac 0)] (by rfl) rfl rfl qy1 ?_
  with_reducible refine(z0_.calls k _ _ Ai Am Ap _ _ Aj _ _ Ak (rd Ac 0) Be _ (qc (Kd.C_below Bj.out HB.out)) Bk.out (qc (Kd.C_below Bl.out HB.out)) Bm.out (qc (Kd.C_below Bn.out HB.out)) Bo.out A5.out).mono ?_
  rintro e Gh ⟨rfl,hb⟩
  refine⟨_,rfl, ?_⟩
  replace Aa:=y0.mk (qK Aa.out hb)
  replace Ab:=y0.mk (qK Ab.out hb)
  replace HB:=y0.mk (y4 qb hb)
  (try clear hb)
  refine hK.out _ _ ⟨(y7 Aa.out 0).trans rfl,(y7 Aa.out 1).trans rfl,(y7 Aa.out 2).trans rfl,(y7 Aa.out 3).trans rfl,(y7 Aa.out 4).trans rfl,(y7 Ab.out 0).trans rfl,(y7 Ab.out 1).trans rfl,(y7 Ab.out 2).trans rfl,(qC Ag HB),(qC Ah HB)⟩ (fun hHeld=>?_)
  clear hK K
  refine qx 14 ?_
  refine qp 6 15 (fl_ 19 63999) ?_
  refine qp 9 18 (fl_ 19 64511) ?_
  refine qp 10 19 (fl_ 19 65535) ?_
  refine qO 16 25 (fl_ 19 131071) (fun K hK=>?_)
  refine goes_ Try.func83 (by kernel_rfl) rfl #[.agg #[.slice Ax Ai.length Ay,.int .i64 Am,.string Ap,.slice Az Aj.length Ba,.slice Bb Ak.length Bc],.int .i64 (rd Ac 1)] (by rfl) rfl rfl qy1 ?_
  with_reducible refine(z0_.calls k _ _ Ai Am Ap _ _ Aj _ _ Ak (rd Ac 1) Bq _ (qc (Kd.C_below Bj.out HB.out)) Bk.out (qc (Kd.C_below Bl.out HB.out)) Bm.out (qc (Kd.C_below Bn.out HB.out)) Bo.out Fz.out).mono ?_
  rintro e Gi ⟨rfl,hb⟩
  refine⟨_,rfl, ?_⟩
  replace Aa:=y0.mk (qK Aa.out hb)
  replace Ab:=y0.mk (qK Ab.out hb)
  replace HB:=y0.mk (y4 qb hb)
  (try clear hb)
  refine hK.out _ _ ⟨(y7 Aa.out 0).trans rfl,(y7 Aa.out 1).trans rfl,(y7 Aa.out 2).trans rfl,(y7 Aa.out 3).trans rfl,(y7 Aa.out 4).trans rfl,(y7 Ab.out 0).trans rfl,(y7 Ab.out 1).trans rfl,(y7 Ab.out 2).trans rfl,(qC Ag HB),(qC Ah HB)⟩ (fun hHeld=>?_)
  clear hK K
  refine qx 25 ?_
  refine qp 17 26 (fl_ 19 262143) ?_
  refine qp 18 4 (fl_ 19 524287) ?_
  refine done_ (done_of HT_.out (by kernel_rfl)) ?_
  try go_wp2
  go_ret
  exact⟨qf,qb⟩
 ·rw [if_neg c3]at H
  have Dm:(Ar == 3)=false:=beq_eq_false_iff_ne.mpr c3
  have Do:(Ar != 3)=true:=bne_iff_ne.mpr c3
  by_cases Cj:Ar=2
  ·rw [if_pos Cj]at H
   have Cm:(Ar == 2)=true:=beq_iff_eq.mpr Cj
   have Cn:(Ar != 2)=false:=bne_eq_false_iff_eq.mpr Cj
   clear Cj
   obtain⟨Du,H⟩:=qo H
   have Ej:=eq_true Du
   have Ek:=decide_eq_true Du
   have El:=eq_false (Nat.not_lt.2 Du)
   obtain⟨Dw,H⟩:=qo H
   have Em:=eq_true Dw
   have En:=decide_eq_true Dw
   have Cp:=eq_false (Nat.not_lt.2 Dw)
   have Eo:(9223372036854775807 < 1 + Ad.size + 1)=False:=qs Cp
   obtain⟨Bh,Gb,H⟩:=qB H
   obtain⟨Dx,H⟩:=qo H
   have Ep:=eq_true Dx
   have Eq:=decide_eq_true Dx
   have Cq:=eq_false (Nat.not_lt.2 Dx)
   have Er:(9223372036854775807 < 1 + Ad.size + 1 + Bh.size)=False:=qs Cq
   obtain⟨Dy,H⟩:=qo H
   have Es:=eq_true Dy
   have Et:=decide_eq_true Dy
   have Cr:=eq_false (Nat.not_lt.2 Dy)
   have Eu:(9223372036854775807 < 1 + Ad.size + 1 + Bh.size + 1)=False:=qs Cr
   obtain rfl:=Option.some.inj H
   go_enter Try.func68,Try.ntmps68
   try go_wp2_with (first|((with_reducible refine y16 (N:=2) rfl ?_);refine qe 2 #[.slice Ax Ai.length Ay,.int .i64 Am,.string Ap,.slice Az Aj.length Ba,.slice Bb Ak.length Bc] 36 ?_;intro Af hg Gj hbox hb;have Aa:=y0.mk (hbox);have Cb:=y0.mk (qg (w:=w) hg);have Cc:=y0.mk (qg (w:=w) hg);replace HB:=y0.mk (y4 qb hb);clear hb hbox hg)|((with_reducible refine y16 (N:=3) rfl ?_);refine qe 3 #[.int .i64 Ar,.string Ad,.slice Bf Ac.length Bd] 33 ?_;intro Aw hg Gc hbox hb;have Ab:=y0.mk (hbox);have Cd:=y0.mk (qg (w:=w) hg);have Ce:=y0.mk (qg (w:=w) hg);replace HB:=y0.mk (y4 qb hb);have As:=y0.mk (qn Aa.out hg);have At:=y0.mk (qm Aa.out hg);replace Aa:=y0.mk (qK Aa.out hb);clear hb hbox hg;have Ew:=At.out;have Ex:=As.out;obtain⟨Da,Db,Dc,Dd,De,Df⟩:=qz3 Ab.out))
   replace Aa:=y0.mk (y8 Aa.out)
   replace Ab:=y0.mk (y8 Ab.out)
   replace HB:=y0.mk (y2 HB.out)
   refine start_ (n:=11) (S:=fun w'=>w'.cell? ⟨Aw,0,none⟩=some (.int .i64 Ar)∧w'.cell? ⟨Aw,1,none⟩=some (.string Ad)∧w'.cell? ⟨Aw,2,none⟩=some (.slice Bf Ac.length Bd)∧w'.cell? ⟨Af,0,none⟩=some (.slice Ax Ai.length Ay)∧w'.cell? ⟨Af,1,none⟩=some (.int .i64 Am)∧w'.cell? ⟨Af,2,none⟩=some (.string Ap)∧w'.cell? ⟨Af,3,none⟩=some (.slice Az Aj.length Ba)∧w'.cell? ⟨Af,4,none⟩=some (.slice Bb Ak.length Bc)) (ds:=[]) (fl_ 11 0) (by kernel_rfl) rfl rfl ⟨(y7 Ab.out 0).trans rfl,(y7 Ab.out 1).trans rfl,(y7 Ab.out 2).trans rfl,(y7 Aa.out 0).trans rfl,(y7 Aa.out 1).trans rfl,(y7 Aa.out 2).trans rfl,(y7 Aa.out 3).trans rfl,(y7 Aa.out 4).trans rfl⟩ (fun hHeld=>?_);refine with_tabW z3_.tab5 z3_.bits5 (fun HT_ HW_=>?_)
   generalize Gc.drew=Gk at Aa Ab HB hHeld ⊢
   refine qp 0 29 (fl_ 11 1) ?_
   refine qp 5 34 (fl_ 11 33) ?_
   refine qt 1 30 (fl_ 11 35) hHeld ?_
   refine qp 2 31 (fl_ 11 39) ?_
   refine qp 3 32 (fl_ 11 47) ?_
   refine qt 4 33 (fl_ 11 63) hHeld ?_
   refine qt 6 35 (fl_ 11 127) hHeld ?_
   refine qO 7 36 (fl_ 11 255) (fun K hK=>?_)
   refine goes_ Try.func84 (by kernel_rfl) rfl #[.agg #[.slice Ax Ai.length Ay,.int .i64 Am,.string Ap,.slice Az Aj.length Ba,.slice Bb Ak.length Bc],.slice Bf Ac.length Bd] (by rfl) rfl rfl qy1 ?_
   with_reducible refine(z1_.calls k _ _ Ai Am Ap _ _ Aj _ _ Ak _ _ Ac Bh _ (qc (Kd.C_below Bj.out HB.out)) Bk.out (qc (Kd.C_below Bl.out HB.out)) Bm.out (qc (Kd.C_below Bn.out HB.out)) Bo.out (qc (Kd.C_below Bp.out HB.out)) Ca.out Gb.out).mono ?_
   rintro e Gl ⟨rfl,hb⟩
   refine⟨_,rfl, ?_⟩
   replace Aa:=y0.mk (qK Aa.out hb)
   replace Ab:=y0.mk (qK Ab.out hb)
   replace HB:=y0.mk (y4 qb hb)
   (try clear hb)
   refine hK.out _ _ ⟨(y7 Ab.out 0).trans rfl,(y7 Ab.out 1).trans rfl,(y7 Ab.out 2).trans rfl,(y7 Aa.out 0).trans rfl,(y7 Aa.out 1).trans rfl,(y7 Aa.out 2).trans rfl,(y7 Aa.out 3).trans rfl,(y7 Aa.out 4).trans rfl⟩ (fun hHeld=>?_)
   clear hK K
   refine qx 36 ?_
   refine qp2 8 37 11 ?_
   refine qp 10 4 (fl_ 11 2047) ?_
   refine done_ (done_of HT_.out (by kernel_rfl)) ?_
   try go_wp2
   go_ret
   exact⟨qf,qb⟩
  ·rw [if_neg Cj]at H
   have Cm:(Ar == 2)=false:=beq_eq_false_iff_ne.mpr Cj
   have Cn:(Ar != 2)=true:=bne_iff_ne.mpr Cj
   obtain⟨Dz,H⟩:=qo H
   have Ey:=eq_true Dz
   have Ez:=decide_eq_true Dz
   have Fa:=eq_false (Nat.not_lt.2 Dz)
   obtain⟨Bi,Gd,H⟩:=qB H
   obtain⟨Ea,H⟩:=qo H
   have Fb:=eq_true Ea
   have Fc:=decide_eq_true Ea
   have Cs:=eq_false (Nat.not_lt.2 Ea)
   have Fd:(9223372036854775807 < Ad.size + 1 + Bi.size)=False:=qs Cs
   obtain⟨Eb,H⟩:=qo H
   have Fe:=eq_true Eb
   have Ff:=decide_eq_true Eb
   have Ct:=eq_false (Nat.not_lt.2 Eb)
   have Fg:(9223372036854775807 < Ad.size + 1 + Bi.size + 1)=False:=qs Ct
   obtain rfl:=Option.some.inj H
   go_enter Try.func68,Try.ntmps68
   try go_wp2_with (first|((with_reducible refine y16 (N:=2) rfl ?_);refine qe 2 #[.slice Ax Ai.length Ay,.int .i64 Am,.string Ap,.slice Az Aj.length Ba,.slice Bb Ak.length Bc] 36 ?_;intro Af hg Gm hbox hb;have Aa:=y0.mk (hbox);have Cb:=y0.mk (qg (w:=w) hg);have Cc:=y0.mk (qg (w:=w) hg);replace HB:=y0.mk (y4 qb hb);clear hb hbox hg)|((with_reducible refine y16 (N:=3) rfl ?_);refine qe 3 #[.int .i64 Ar,.string Ad,.slice Bf Ac.length Bd] 33 ?_;intro Aw hg Ge hbox hb;have Ab:=y0.mk (hbox);have Cd:=y0.mk (qg (w:=w) hg);have Ce:=y0.mk (qg (w:=w) hg);replace HB:=y0.mk (y4 qb hb);have As:=y0.mk (qn Aa.out hg);have At:=y0.mk (qm Aa.out hg);replace Aa:=y0.mk (qK Aa.out hb);clear hb hbox hg;have Fh:=At.out;have Fi:=As.out;obtain⟨Dg,Dh,Di,Dj,Dk,Dl⟩:=qz3 Ab.out))
   replace Aa:=y0.mk (y8 Aa.out)
   replace Ab:=y0.mk (y8 Ab.out)
   replace HB:=y0.mk (y2 HB.out)
   refine start_ (n:=10) (S:=fun w'=>w'.cell? ⟨Aw,0,none⟩=some (.int .i64 Ar)∧w'.cell? ⟨Aw,1,none⟩=some (.string Ad)∧w'.cell? ⟨Aw,2,none⟩=some (.slice Bf Ac.length Bd)∧w'.cell? ⟨Af,0,none⟩=some (.slice Ax Ai.length Ay)∧w'.cell? ⟨Af,1,none⟩=some (.int .i64 Am)∧w'.cell? ⟨Af,2,none⟩=some (.string Ap)∧w'.cell? ⟨Af,3,none⟩=some (.slice Az Aj.length Ba)∧w'.cell? ⟨Af,4,none⟩=some (.slice Bb Ak.length Bc)) (ds:=[]) (fl_ 10 0) (by kernel_rfl) rfl rfl ⟨(y7 Ab.out 0).trans rfl,(y7 Ab.out 1).trans rfl,(y7 Ab.out 2).trans rfl,(y7 Aa.out 0).trans rfl,(y7 Aa.out 1).trans rfl,(y7 Aa.out 2).trans rfl,(y7 Aa.out 3).trans rfl,(y7 Aa.out 4).trans rfl⟩ (fun hHeld=>?_);refine with_tabW z3_.tab6 z3_.bits6 (fun HT_ HW_=>?_)
   generalize Ge.drew=Gn at Aa Ab HB hHeld ⊢
   refine qp 0 39 (fl_ 10 1) ?_
   refine qp 4 43 (fl_ 10 17) ?_
   refine qt 1 40 (fl_ 10 19) hHeld ?_
   refine qp 2 41 (fl_ 10 23) ?_
   refine qt 3 42 (fl_ 10 31) hHeld ?_
   refine qt 5 44 (fl_ 10 63) hHeld ?_
   refine qO 6 45 (fl_ 10 127) (fun K hK=>?_)
   refine goes_ Try.func84 (by kernel_rfl) rfl #[.agg #[.slice Ax Ai.length Ay,.int .i64 Am,.string Ap,.slice Az Aj.length Ba,.slice Bb Ak.length Bc],.slice Bf Ac.length Bd] (by rfl) rfl rfl qy1 ?_
   with_reducible refine(z1_.calls k _ _ Ai Am Ap _ _ Aj _ _ Ak _ _ Ac Bi _ (qc (Kd.C_below Bj.out HB.out)) Bk.out (qc (Kd.C_below Bl.out HB.out)) Bm.out (qc (Kd.C_below Bn.out HB.out)) Bo.out (qc (Kd.C_below Bp.out HB.out)) Ca.out Gd.out).mono ?_
   rintro e Gp ⟨rfl,hb⟩
   refine⟨_,rfl, ?_⟩
   replace Aa:=y0.mk (qK Aa.out hb)
   replace Ab:=y0.mk (qK Ab.out hb)
   replace HB:=y0.mk (y4 qb hb)
   (try clear hb)
   refine hK.out _ _ ⟨(y7 Ab.out 0).trans rfl,(y7 Ab.out 1).trans rfl,(y7 Ab.out 2).trans rfl,(y7 Aa.out 0).trans rfl,(y7 Aa.out 1).trans rfl,(y7 Aa.out 2).trans rfl,(y7 Aa.out 3).trans rfl,(y7 Aa.out 4).trans rfl⟩ (fun hHeld=>?_)
   clear hK K
   refine qx 45 ?_
   refine qp2 7 46 10 ?_
   refine qp 9 4 (fl_ 10 1023) ?_
   refine done_ (done_of HT_.out (by kernel_rfl)) ?_
   try go_wp2
   go_ret
   exact⟨qf,qb⟩
def impl_ruleText.l0:Nat→ByteArray→List ByteArray→List (S33)→Int→Int→List (S63)→Int→ByteArray→List Int→List (S33)→Option (ByteArray)
 | 0,_,_,_,_,_,_,_,_,_,_=>none
 | k + 1,x3,x4,Al,Ao,Ae,Aq,By,Di,Du,Ea=>if Ae < Ao then(if 0≤Ae then(if Ae < (Al.length:Int)then((z3_.f k Aq By Di Du Ea ((y18 Al Ae).f0) ((y18 Al Ae).f1) ((y18 Al Ae).f2)).bind fun Fd=>(if x4.length < 8796093022208 then(impl_ruleText.l0 k x3 (x4 ++ [Fd]) Al Ao (wrap64 (Ae + 1)) Aq By Di Du Ea)else(none)))else(none))else(none))else(if(x4.length:Int) > 0 then((strings_Join.f x4 (⟨#[44,32]⟩:ByteArray)).bind fun An=>(if 4 + An.size≤9223372036854775807 then(if x3.size + ((⟨#[32,58,45,32]⟩:ByteArray) ++ An).size≤9223372036854775807 then(if(x3 ++ ((⟨#[32,58,45,32]⟩:ByteArray) ++ An)).size + 1≤9223372036854775807 then(if(((x3 ++ ((⟨#[32,58,45,32]⟩:ByteArray) ++ An)) ++ (⟨#[46]⟩:ByteArray)).size:Int) > 3000 then(some (⟨#[]⟩:ByteArray))else(some ((x3 ++ ((⟨#[32,58,45,32]⟩:ByteArray) ++ An)) ++ (⟨#[46]⟩:ByteArray))))else(none))else(none))else(none)))else(if x3.size + 1≤9223372036854775807 then(if((x3 ++ (⟨#[46]⟩:ByteArray)).size:Int) > 3000 then(some (⟨#[]⟩:ByteArray))else(some (x3 ++ (⟨#[46]⟩:ByteArray))))else(none)))
def impl_ruleText.f (k:Nat) (Aq:List (S63)) (Al:Int) (An:ByteArray) (Ao:List Int) (Ae:List (S33)):Option (ByteArray):=(z4_.f k Aq Al An Ao Ae).bind fun By=>(if By=true then((z3_.f k Aq Al An Ao Ae Al An Ao).bind fun Di=>(impl_ruleText.l0 k Di (([]:List ByteArray)) Ae (Ae.length:Int) 0 Aq Al An Ao Ae))else(some (⟨#[]⟩:ByteArray)))
theorem impl_ruleText.calls (k:Nat) (Au:Option Addr) (Av:Nat) (Ag:List (S63)) (Ah:Int) (Ai:ByteArray) (Ar:Option Addr) (As:Nat) (Af:List Int) (Ba:Option Addr) (Aw:Nat) (Aa:List (S33)) (r:ByteArray) (w:World) (Cg:Kd.C k63 w Au Ag.length Ag) (Ch:Ag.length≤Av) (Ci:Kd.C (Kd.int .i64) w Ar Af.length Af) (Cj:Af.length≤As) (Ck:Kd.C k33 w Ba Aa.length Aa) (Cl:Aa.length≤Aw) (h:impl_ruleText.f k Ag Ah Ai Af Aa=some r) :
  Calls Try.prog 52 #[.agg #[.slice Au Ag.length Av,.int .i64 Ah,.string Ai,.slice Ar Af.length As,.slice Ba Aa.length Aw]] w fun e w'=>e=.returned (.string r)∧Below w.heap.size w w':=by
 have Hb:=Try.underlying36
 have Hc:=Try.underlying33
 have Bi:=y0.mk Cg
 have Bj:=y0.mk Ch
 clear Cg Ch
 have Bb:=y0.mk Ci
 have Bc:=y0.mk Cj
 clear Ci Cj
 have Bd:=y0.mk Ck
 have Bk:=y0.mk Cl
 clear Ck Cl
 have HB:=y0.mk (Below.refl w.heap.size w)
 have H:((z4_.f k Ag Ah Ai Af Aa).bind fun Cs=>(if Cs=true then((z3_.f k Ag Ah Ai Af Aa Ah Ai Af).bind fun Ad=>(impl_ruleText.l0 k Ad (([]:List ByteArray)) Aa (Aa.length:Int) 0 Ag Ah Ai Af Aa))else(some (⟨#[]⟩:ByteArray))))=some r:=h
 clear h
 obtain⟨Cs,A2,H⟩:=qB H
 by_cases c3:Cs=true
 ·subst c3
  replace H:=qT H
  obtain⟨Ad,A4,H⟩:=qB H
  obtain⟨Ds,Be⟩:∃ y_:List ByteArray,y_=(([]:List ByteArray)):=⟨_,rfl⟩
  replace H:(impl_ruleText.l0 k Ad Ds Aa (Aa.length:Int) 0 Ag Ah Ai Af Aa)=some r:=by first|exact Be ▸ H|exact Be ▸ (Option.bind_some _ _).symm.trans H
  replace Be:=y0.mk Be
  have H':=y0.mk H
  clear H
  go_enter Try.func52,Try.ntmps52
  go_wp2_with (first|((with_reducible refine y16 (N:=1) rfl ?_);refine qe 1 #[.slice Au Ag.length Av,.int .i64 Ah,.string Ai,.slice Ar Af.length As,.slice Ba Aa.length Aw] 36 ?_;intro Bp hg w5 hbox hb;have Ab:=y0.mk (hbox);have Dt:=y0.mk (qg (w:=w) hg);have Du:=y0.mk (qg (w:=w) hg);replace HB:=y0.mk (y4 qb hb);clear hb hbox hg;obtain⟨Ct,Cu,Cv,Cw,Cx,Cy,Cz,Da,Db,Dc⟩:=qz5 Ab.out)|((with_reducible refine y15 (f:=67) rfl ?_);refine y17 (some 8) rfl rfl Try.func67 (by kernel_rfl) rfl #[.agg #[.slice Au Ag.length Av,.int .i64 Ah,.string Ai,.slice Ar Af.length As,.slice Ba Aa.length Aw]] rfl qy1 ?_;(with_reducible refine(z4_.calls k _ _ Ag Ah Ai _ _ Af _ _ Aa true _ (qc (Kd.C_below Bi.out HB.out)) Bj.out (qc (Kd.C_below Bb.out HB.out)) Bc.out (qc (Kd.C_below Bd.out HB.out)) Bk.out A2.out).mono ?_);rintro e w7 ⟨rfl,hb⟩;refine⟨_,rfl, ?_⟩;replace Ab:=y0.mk (qK Ab.out hb);replace HB:=y0.mk (y4 qb hb);(try clear hb);obtain⟨Dd,De,Df,Dg,Dh,Di,Dj,Dk,Dl,Dm⟩:=qz5 Ab.out)|((with_reducible refine y15 (f:=68) rfl ?_);refine y17 (some 13) rfl rfl Try.func68 (by kernel_rfl) rfl #[.agg #[.slice Au Ag.length Av,.int .i64 Ah,.string Ai,.slice Ar Af.length As,.slice Ba Aa.length Aw],.agg #[.int .i64 Ah,.string Ai,.slice Ar Af.length As]] rfl qy1 ?_;(with_reducible refine(z3_.calls k _ _ Ag Ah Ai _ _ Af _ _ Aa Ah Ai _ _ Af Ad _ (qc (Kd.C_below Bi.out HB.out)) Bj.out (qc (Kd.C_below Bb.out HB.out)) Bc.out (qc (Kd.C_below Bd.out HB.out)) Bk.out (qc (Kd.C_below Bb.out HB.out)) Bc.out A4.out).mono ?_);rintro e w9 ⟨rfl,hb⟩;refine⟨_,rfl, ?_⟩;replace Ab:=y0.mk (qK Ab.out hb);replace HB:=y0.mk (y4 qb hb);(try clear hb))|((with_reducible refine y16 (N:=14) rfl ?_);refine qL Kd.string 9 14 ([]:List ByteArray) ?_;intro Hd Hl Bq hb hg_ hnew_;clear hg_ hnew_;(first|rw [← Be.out]at Bq|(simp only [Int.reduceToNat]at Bq;rw [← Be.out]at Bq));have Dw:=y0.mk (Kd.R_lower Bq (y3 qb));replace Ab:=y0.mk (qK Ab.out hb);replace HB:=y0.mk (y4 qb hb);clear hb Bq;obtain⟨Bs,Bt,Bu,Bv,Bw,Bx,Bz,Ca,Cb,Cc⟩:=qz5 Ab.out))
  go_loopg [4,18] k (fun kq v4 He w'=>∃(Ap:List ByteArray) (Ac:Int),He=.int .i64 Ac∧y0 (impl_ruleText.l0 kq Ad Ap Aa (Aa.length:Int) Ac Ag Ah Ai Af Aa=some r)∧y0 (kq≤k)∧y0 (Kd.R Kd.string 9 w' w.heap.size (fun _=>True) v4 Ap)∧y0 (w'.heap[Bp]?=some (.cells #[(.slice Au Ag.length Av),.int .i64 Ah,.string Ai,(.slice Ar Af.length As),(.slice Ba Aa.length Aw)] 36 (0,0)))∧y0 (Below w.heap.size w w'))
  case atStart=>exact⟨(Ds),(0),qy2,H',⟨Nat.le_refl _⟩,⟨qR Dw.out⟩,⟨qk Ab.out⟩,⟨qb⟩⟩
  case round =>
   clear H'
   (try clear c3 Bs Bt Bu Bv Bw Ct Cu Cv Cw Cx Dd De Df Dg Dh Bx Bz Ca Cb Cc Cy Cz Da Db Dc Di Dj Dk Dl Dm)
   obtain⟨Ap,Ac,rfl,HA,Fz,Aj,Ab,HB⟩:=hrel
   cases gk with
   | zero=>exact absurd HA.out (by simp [impl_ruleText.l0])
   | succ k1 =>
    have H:=HA.out
    clear HA
    simp only [impl_ruleText.l0]at H
    by_cases Dq:Ac < (Aa.length:Int)
    ·rw [if_pos Dq]at H
     have Dx:=decide_eq_true Dq
     clear Dq
     obtain⟨Ga,H⟩:=qo H
     have Gb:decide (0≤Ac)=true:=decide_eq_true Ga
     clear Ga
     obtain⟨Gc,H⟩:=qo H
     have Gd:decide (Ac < (Aa.length:Int))=true:=decide_eq_true Gc
     clear Gc
     obtain⟨Cd,Hf,H⟩:=qB H
     obtain⟨Ge,H⟩:=qo H
     replace Ge:=y0.mk Ge
     obtain⟨Dz,Bf⟩:∃ y_:List ByteArray,y_=(Ap ++ [Cd]):=⟨_,rfl⟩
     replace H:(impl_ruleText.l0 k1 Ad Dz Aa (Aa.length:Int) (wrap64 (Ac + 1)) Ag Ah Ai Af Aa)=some r:=by first|exact Bf ▸ H|exact Bf ▸ (Option.bind_some _ _).symm.trans H
     replace Bf:=y0.mk Bf
     have H':=y0.mk H
     clear H
     have Do:0≤(Ac:Int):=qd
     have Dp:Ac < (Aa.length:Int):=qd
     obtain⟨Cn,Bg,Bh,Fl,Ax,Ay,Az,Bl,Bm⟩:=at_T33 Bd.out Ac Do Dp
     cases Fl
     replace Ax:=qC Ax HB
     replace Ay:=qC Ay HB
     replace Az:=qC Az HB
     have Ce:=y0.mk Bm
     have Cf:=y0.mk Bl
     clear Bm Bl
     replace Do:=eq_true Do
     replace Dp:=eq_true Dp
     go_wp2_with (first|((with_reducible refine y16 (N:=6) rfl ?_);refine qe 6 #[.int .i64 0,.string (⟨#[]⟩:ByteArray),.slice none 0 0] 33 ?_;intro Bn hg Hm hbox hb;replace Aj:=y0.mk (Kd.R_below (qR Aj.out) hb);have At:=y0.mk (hbox);have Gf:=y0.mk (qg (w:=w) hg);have Gg:=y0.mk (qg (w:=w) hg);replace HB:=y0.mk (y4 qb hb);have Am:=y0.mk (qn Ab.out hg);have Bo:=y0.mk (qm Ab.out hg);replace Ab:=y0.mk (qK Ab.out hb);clear hb hbox hg;have Gh:=Bo.out;have Gi:=Am.out;obtain⟨Ek,El,Em,En,Eo,Ep⟩:=qz3 At.out;obtain⟨Eq,Er,Es,Et,Eu,Ew,Ex,Ey,Ez,Fa⟩:=qz5 Ab.out)|((with_reducible refine y15 (f:=68) rfl ?_);refine y17 (some 25) rfl rfl Try.func68 (by kernel_rfl) rfl #[.agg #[.slice Au Ag.length Av,.int .i64 Ah,.string Ai,.slice Ar Af.length As,.slice (some Cn) Aa.length Aw],.agg #[.int .i64 ((y18 Aa Ac).f0),.string ((y18 Aa Ac).f1),.slice Bg ((y18 Aa Ac).f2).length Bh]] rfl qy1 ?_;(with_reducible refine(z3_.calls k1 _ _ Ag Ah Ai _ _ Af _ _ Aa ((y18 Aa Ac).f0) ((y18 Aa Ac).f1) _ _ ((y18 Aa Ac).f2) Cd _ (by exact Kd.C_below Bi.out qb) Bj.out (by exact Kd.C_below Bb.out qb) Bc.out (by exact Kd.C_below Bd.out qb) Bk.out (by exact Kd.C_below Ce.out qb) Cf.out Hf.out).mono ?_);rintro e Hn ⟨rfl,hb⟩;refine⟨_,rfl, ?_⟩;replace Aj:=y0.mk (Kd.R_below (qR ((Kd.R_mono (qfR Bn (Kd.R_types Aj.out At.out (by decide)) (.int .i64 ((y18 Aa Ac).f0)) (.string ((y18 Aa Ac).f1)) (.slice Bg ((y18 Aa Ac).f2).length Bh)) (fun _ h_=>h_.1)))) hb);replace Ab:=y0.mk (y6 (g:=Bp) (o:=.cells #[.slice Au Ag.length Av,.int .i64 Ah,.string Ai,.slice Ar Af.length As,.slice (some Cn) Aa.length Aw] 36 (0,0)) (by(with_reducible repeat(first|refine y9 ?_ _|refine y8 ?_|refine y5 ?_ _));refine y10 ?_ Am.out _;refine y10 ?_ Am.out _;refine y10 ?_ Am.out _;(with_reducible repeat(first|refine y9 ?_ _|refine y8 ?_|refine y5 ?_ _));exact Ab.out) hb);replace At:=y0.mk (y6 (g:=Bn) (o:=.cells #[.int .i64 ((y18 Aa Ac).f0),.string ((y18 Aa Ac).f1),.slice Bg ((y18 Aa Ac).f2).length Bh] 33 (0,0)) (by(with_reducible repeat(first|refine y9 ?_ _|refine y8 ?_|refine y5 ?_ _));refine y11 (cs:=#[.int .i64 ((y18 Aa Ac).f0),.string ((y18 Aa Ac).f1),.slice none 0 0]) ?_ 2 _ rfl;refine y11 (cs:=#[.int .i64 ((y18 Aa Ac).f0),.string (⟨#[]⟩:ByteArray),.slice none 0 0]) ?_ 1 _ rfl;refine y11 (cs:=#[.int .i64 0,.string (⟨#[]⟩:ByteArray),.slice none 0 0]) ?_ 0 _ rfl;(with_reducible repeat(first|refine y9 ?_ _|refine y8 ?_|refine y5 ?_ _));exact At.out) hb);replace HB:=y0.mk (y4 qb hb);(try clear hb))|((with_reducible refine gate_builtin (b:=.append) (xs:=#[.tmp 22,.tmp 26]) rfl ?_);at_builtin;refine Kd.R_append Kd.string (w0:=w) w.heap.size rfl (.tmp 22) (.tmp 26) 30 9 (.string ⟨#[]⟩) 16 rfl Try.underlying30 info9 rfl (by decide) (by omega) u4 Ap Cd [.string Cd] (fun _=>True) (fun _=>False) rfl rfl ?aP (fun _ hk=>hk.elim) ?aF ?aO ?aB ?aS ?aL ?_;(case aP=>exact rfl);(case aB=>exact qb);(case aF=>exact(fun _ _=>trivial));(case aO=>exact(qR Aj.out));(case aS=>exact(y3 qb));(case aL=>have:=Ge.out;omega);intro Hg Ho ho hb hg hat;rw [← Bf.out]at ho;replace Ab:=y0.mk (blk_grown (qk Ab.out) hg (Kd.R_ne Aj.out Ab.out (by decide)));replace At:=y0.mk (blk_grown (qk At.out) hg (Kd.R_ne Aj.out At.out (by decide)));replace HB:=y0.mk (hb);have Eb:=y0.mk (ho);clear Aj;clear ho hb hg hat))
     go_roundg k1
     case measure=>have:=Fz.out;omega
     exact⟨(Dz),(wrap64 (Ac + 1)),qy2,H',⟨by have:=Fz.out;omega⟩,⟨qR Eb.out⟩,⟨qk Ab.out⟩,⟨qb⟩⟩
    ·rw [if_neg Dq]at H
     have Dx:=decide_eq_false Dq
     clear Dq
     by_cases Dr:(Ap.length:Int) > 0
     ·rw [if_pos Dr]at H
      have Ec:decide (0 < (Ap.length:Int))=true:=decide_eq_true Dr
      have Ed:decide (0 < Ap.length)=true:=decide_eq_true (by omega)
      clear Dr
      obtain⟨Ak,Gj,H⟩:=qB H
      obtain⟨Fm,H⟩:=qo H
      have Gk:=eq_true Fm
      have Gl:=decide_eq_true Fm
      have Gm:=eq_false (Nat.not_lt.2 Fm)
      obtain⟨Fn,H⟩:=qo H
      have Gn:=eq_true Fn
      have Gp:=decide_eq_true Fn
      have Br:=eq_false (Nat.not_lt.2 Fn)
      have Gq:(9223372036854775807 < Ad.size + 4 + Ak.size)=False:=qs Br
      have Gr:(9223372036854775807 < Ad.size + (4 + Ak.size))=False:=qs Br
      have Gs:(9223372036854775807 < Ad.size + (4 + Ak.size))=False:=qs Br
      obtain⟨Fo,H⟩:=qo H
      have Gt:=eq_true Fo
      have Gu:=decide_eq_true Fo
      have Cp:=eq_false (Nat.not_lt.2 Fo)
      have Gv:(9223372036854775807 < Ad.size + 4 + Ak.size + 1)=False:=qs Cp
      have Gw:(9223372036854775807 < Ad.size + (4 + Ak.size) + 1)=False:=qs Cp
      by_cases Cq:(((Ad ++ ((⟨#[32,58,45,32]⟩:ByteArray) ++ Ak)) ++ (⟨#[46]⟩:ByteArray)).size:Int) > 3000
      ·rw [if_pos Cq]at H
       have Ee:(3000 < (Ad.size:Int) + (4 + (Ak.size:Int)) + 1)=True:=eq_true (by have h_:=Cq;rw [show((Ad ++ ((⟨#[32,58,45,32]⟩:ByteArray) ++ Ak)) ++ (⟨#[46]⟩:ByteArray)).size=Ad.size + (4 + Ak.size) + 1 from by(simp only [ByteArray.size_append];rfl)]at h_;omega)
       have Ef:decide (3000 < (((Ad ++ ((⟨#[32,58,45,32]⟩:ByteArray) ++ Ak)) ++ (⟨#[46]⟩:ByteArray)).size:Int))=true:=decide_eq_true Cq
       have Eg:decide (3000 < ((Ad ++ ((⟨#[32,58,45,32]⟩:ByteArray) ++ Ak)) ++ (⟨#[46]⟩:ByteArray)).size)=true:=decide_eq_true (by omega)
       clear Cq
       obtain rfl:=Option.some.inj H
       obtain⟨Fp,Fq,Fr⟩:=Kd.R_slice Aj.out
       subst Fr
       go_wp2_with (first|((with_reducible refine y15 (f:=69) rfl ?_);refine y17 (some 34) rfl rfl Try.func69 (by kernel_rfl) rfl #[.slice Fp Ap.length Fq,.string (⟨#[44,32]⟩:ByteArray)] rfl qy1 ?_;(with_reducible refine(strings_Join.calls _ _ Ap (⟨#[44,32]⟩:ByteArray) Ak _ (qc ((Kd.R_reads' Aj.out).2.2)) (by exact(Kd.R_reads' Aj.out).2.1) Gj.out).mono ?_);rintro e Hp ⟨rfl,hb⟩;refine⟨_,rfl, ?_⟩;replace Aj:=y0.mk (Kd.R_below (qR Aj.out) hb);replace Ab:=y0.mk (qK Ab.out hb);replace HB:=y0.mk (y4 qb hb);(try clear hb)))
       go_ret
       exact⟨qf,qb⟩
      ·rw [if_neg Cq]at H
       have Ee:(3000 < (Ad.size:Int) + (4 + (Ak.size:Int)) + 1)=False:=eq_false (by have h_:=Cq;rw [show((Ad ++ ((⟨#[32,58,45,32]⟩:ByteArray) ++ Ak)) ++ (⟨#[46]⟩:ByteArray)).size=Ad.size + (4 + Ak.size) + 1 from by(simp only [ByteArray.size_append];rfl)]at h_;omega)
       have Ef:decide (3000 < (((Ad ++ ((⟨#[32,58,45,32]⟩:ByteArray) ++ Ak)) ++ (⟨#[46]⟩:ByteArray)).size:Int))=false:=decide_eq_false Cq
       have Eg:decide (3000 < ((Ad ++ ((⟨#[32,58,45,32]⟩:ByteArray) ++ Ak)) ++ (⟨#[46]⟩:ByteArray)).size)=false:=decide_eq_false (by omega)
       clear Cq
       obtain rfl:=Option.some.inj H
       obtain⟨Fs,Ft,Fu⟩:=Kd.R_slice Aj.out
       subst Fu
       go_wp2_with (first|((with_reducible refine y15 (f:=69) rfl ?_);refine y17 (some 34) rfl rfl Try.func69 (by kernel_rfl) rfl #[.slice Fs Ap.length Ft,.string (⟨#[44,32]⟩:ByteArray)] rfl qy1 ?_;(with_reducible refine(strings_Join.calls _ _ Ap (⟨#[44,32]⟩:ByteArray) Ak _ (qc ((Kd.R_reads' Aj.out).2.2)) (by exact(Kd.R_reads' Aj.out).2.1) Gj.out).mono ?_);rintro e Hq ⟨rfl,hb⟩;refine⟨_,rfl, ?_⟩;replace Aj:=y0.mk (Kd.R_below (qR Aj.out) hb);replace Ab:=y0.mk (qK Ab.out hb);replace HB:=y0.mk (y4 qb hb);(try clear hb)))
       go_ret
       exact⟨qf,qb⟩
     ·rw [if_neg Dr]at H
      have Ec:decide (0 < (Ap.length:Int))=false:=decide_eq_false Dr
      have Ed:decide (0 < Ap.length)=false:=decide_eq_false (by omega)
      clear Dr
      obtain⟨Fv,H⟩:=qo H
      have Gx:=eq_true Fv
      have Gz:=decide_eq_true Fv
      have Ha:=eq_false (Nat.not_lt.2 Fv)
      by_cases Cr:((Ad ++ (⟨#[46]⟩:ByteArray)).size:Int) > 3000
      ·rw [if_pos Cr]at H
       have Eh:(3000 < (Ad.size:Int) + 1)=True:=eq_true (by have h_:=Cr;rw [show(Ad ++ (⟨#[46]⟩:ByteArray)).size=Ad.size + 1 from by(simp only [ByteArray.size_append];rfl)]at h_;omega)
       have Ei:decide (3000 < ((Ad ++ (⟨#[46]⟩:ByteArray)).size:Int))=true:=decide_eq_true Cr
       have Ej:decide (3000 < (Ad ++ (⟨#[46]⟩:ByteArray)).size)=true:=decide_eq_true (by omega)
       clear Cr
       obtain rfl:=Option.some.inj H
       obtain⟨Hh,Hi,Fx⟩:=Kd.R_slice Aj.out
       subst Fx
       go_wp2
       go_ret
       exact⟨qf,qb⟩
      ·rw [if_neg Cr]at H
       have Eh:(3000 < (Ad.size:Int) + 1)=False:=eq_false (by have h_:=Cr;rw [show(Ad ++ (⟨#[46]⟩:ByteArray)).size=Ad.size + 1 from by(simp only [ByteArray.size_append];rfl)]at h_;omega)
       have Ei:decide (3000 < ((Ad ++ (⟨#[46]⟩:ByteArray)).size:Int))=false:=decide_eq_false Cr
       have Ej:decide (3000 < (Ad ++ (⟨#[46]⟩:ByteArray)).size)=false:=decide_eq_false (by omega)
       clear Cr
       obtain rfl:=Option.some.inj H
       obtain⟨Hj,Hk,Fy⟩:=Kd.R_slice Aj.out
       subst Fy
       go_wp2
       go_ret
       exact⟨qf,qb⟩
 ·replace c3:=Bool.eq_false_iff.mpr c3
  subst c3
  replace H:=qF H
  obtain rfl:=Option.some.inj H
  go_enter Try.func52,Try.ntmps52
  go_wp2_with (first|((with_reducible refine y16 (N:=1) rfl ?_);refine qe 1 #[.slice Au Ag.length Av,.int .i64 Ah,.string Ai,.slice Ar Af.length As,.slice Ba Aa.length Aw] 36 ?_;intro Bp hg Hr hbox hb;have Ab:=y0.mk (hbox);have Dt:=y0.mk (qg (w:=w) hg);have Du:=y0.mk (qg (w:=w) hg);replace HB:=y0.mk (y4 qb hb);clear hb hbox hg;obtain⟨Fb,Fc,Fd,Fe,Ff,Fg,Fh,Fi,Fj,Fk⟩:=qz5 Ab.out)|((with_reducible refine y15 (f:=67) rfl ?_);refine y17 (some 8) rfl rfl Try.func67 (by kernel_rfl) rfl #[.agg #[.slice Au Ag.length Av,.int .i64 Ah,.string Ai,.slice Ar Af.length As,.slice Ba Aa.length Aw]] rfl qy1 ?_;(with_reducible refine(z4_.calls k _ _ Ag Ah Ai _ _ Af _ _ Aa false _ (qc (Kd.C_below Bi.out HB.out)) Bj.out (qc (Kd.C_below Bb.out HB.out)) Bc.out (qc (Kd.C_below Bd.out HB.out)) Bk.out A2.out).mono ?_);rintro e Hs ⟨rfl,hb⟩;refine⟨_,rfl, ?_⟩;replace Ab:=y0.mk (qK Ab.out hb);replace HB:=y0.mk (y4 qb hb);(try clear hb)))
  go_ret
  exact⟨qf,qb⟩
def impl_hasForm.f (k:Nat) (Ae:List (S63)) (Al:Int) (An:ByteArray) (Ao:List Int) (Aq:List (S33)):Option (Bool):=(impl_ruleText.f k Ae Al An Ao Aq).bind fun By=>(some (By.toList != ([]:List UInt8)))
theorem impl_hasForm.calls (k:Nat) (Ah:Option Addr) (Ai:Nat) (Aa:List (S63)) (Ad:Int) (Af:ByteArray) (Aj:Option Addr) (Ak:Nat) (Ab:List Int) (Am:Option Addr) (Ap:Nat) (Ac:List (S33)) (r:Bool) (w:World) (Ar:Kd.C k63 w Ah Aa.length Aa) (As:Aa.length≤Ai) (At:Kd.C (Kd.int .i64) w Aj Ab.length Ab) (Au:Ab.length≤Ak) (Av:Kd.C k33 w Am Ac.length Ac) (Aw:Ac.length≤Ap) (h:impl_hasForm.f k Aa Ad Af Ab Ac=some r) :
  Calls Try.prog 28 #[.agg #[.slice Ah Aa.length Ai,.int .i64 Ad,.string Af,.slice Aj Ab.length Ak,.slice Am Ac.length Ap]] w fun e w'=>e=.returned (.bool r)∧Below w.heap.size w w':=by
 have Br:=Try.underlying36
 have Ay:=y0.mk Ar
 have Az:=y0.mk As
 clear Ar As
 have Ba:=y0.mk At
 have Bb:=y0.mk Au
 clear At Au
 have Bc:=y0.mk Av
 have Bd:=y0.mk Aw
 clear Av Aw
 have HB:=y0.mk (Below.refl w.heap.size w)
 have H:((impl_ruleText.f k Aa Ad Af Ab Ac).bind fun Ax=>(some (Ax.toList != ([]:List UInt8))))=some r:=h
 clear h
 obtain⟨Ax,A2,H⟩:=qB H
 obtain rfl:=Option.some.inj H
 go_enter Try.func28,Try.ntmps28
 go_wp2_with (first|((with_reducible refine y16 (N:=1) rfl ?_);refine qe 1 #[.slice Ah Aa.length Ai,.int .i64 Ad,.string Af,.slice Aj Ab.length Ak,.slice Am Ac.length Ap] 36 ?_;intro Bo hg w3 hbox hb;have Ag:=y0.mk (hbox);have Bp:=y0.mk (qg (w:=w) hg);have Bq:=y0.mk (qg (w:=w) hg);replace HB:=y0.mk (y4 qb hb);clear hb hbox hg;obtain⟨Be,Bf,Bg,Bh,Bi,Bj,Bk,Bl,Bm,Bn⟩:=qz5 Ag.out)|((with_reducible refine y15 (f:=52) rfl ?_);refine y17 (some 4) rfl rfl Try.func52 (by kernel_rfl) rfl #[.agg #[.slice Ah Aa.length Ai,.int .i64 Ad,.string Af,.slice Aj Ab.length Ak,.slice Am Ac.length Ap]] rfl qy1 ?_;(with_reducible refine(impl_ruleText.calls k _ _ Aa Ad Af _ _ Ab _ _ Ac Ax _ (qc (Kd.C_below Ay.out HB.out)) Az.out (qc (Kd.C_below Ba.out HB.out)) Bb.out (qc (Kd.C_below Bc.out HB.out)) Bd.out A2.out).mono ?_);rintro e w5 ⟨rfl,hb⟩;refine⟨_,rfl, ?_⟩;replace Ag:=y0.mk (qK Ag.out hb);replace HB:=y0.mk (y4 qb hb);(try clear hb)))
 go_ret
 have hform_:∀ l:List UInt8,l.isEmpty=!(l != []):=fun l=>by cases l <;> rfl
 exact⟨by(simp [y12,y13];exact hform_ _),qb⟩
def slices_Sort_int_int.f (l0:List Int):Option (List Int):=if l0.length < 4611686018427387904 then some (l0.mergeSort fun x y=>decide (x≤y))else none
open Go.Sort Go.Shelf in
theorem slices_Sort_int_int.calls (P0_:Nat→Prop) (u9000_:Value) (l0:List Int) (r1:List Int) (w0 w:World) (hB:Below w0.heap.size w0 w) (Aa:Kd.R (Kd.int .i64) 3 w w0.heap.size P0_ u9000_ l0) (h:slices_Sort_int_int.f l0=some r1) :
  Calls Try.prog 70 #[u9000_] w fun e w'=>e=.returned (.tuple #[])∧Kd.R (Kd.int .i64) 3 w' w0.heap.size (fun k_=>(P0_ k_∨w.heap.size≤k_)) u9000_ r1∧Below w0.heap.size w0 w'∧Kept w w' (fun k_=>P0_ k_):=by
 unfold slices_Sort_int_int.f at h
 by_cases hd:l0.length < 4611686018427387904
 case neg=>rw [if_neg hd]at h;cases h
 rw [if_pos hd]at h
 injection h with h
 subst h
 obtain⟨h0,inner,ho,hr⟩:=Aa
 rcases ho.2 with⟨rfl,hn⟩|⟨g,cap,cur,rfl,hbase,hb,h1,h2,h3,h4⟩
 ·have Ab:l0=[]:=List.length_eq_zero_iff.1 hn
  subst Ab
  refine(Try.slices_Sort_int_none none 0 w).mono ?_
  rintro e w' ⟨rfl,rfl⟩
  rw [show(([]:List Int).mergeSort fun x y=>decide (x≤y))=[]from by simp]
  exact⟨rfl,Kd.R_nil _ _ _ _ _,hB,Kept.refl _ _⟩
 ·have hsz:(Kd.int .i64).sz=1:=rfl
  rw [hsz]at h3 h4
  have hil:inner.length=l0.length:=by have:=hr.1;rw [hsz]at this;omega
  have hin:inner=l0.map (Value.int .i64):=by
   apply List.ext_getElem?
   intro j
   by_cases hj:j < l0.length
   ·have h5:=hr.2 j l0[j] (List.getElem?_eq_getElem hj)
    rw [hsz,Nat.mul_one]at h5
    have h6:(inner.drop j).take 1=[Value.int .i64 l0[j]]:=h5
    have h7:=congrArg (fun l=>l[0]?) h6
    simp only [List.getElem?_take_of_lt Nat.one_pos,List.getElem?_drop,Nat.add_zero]at h7
    rw [h7,List.getElem?_map,List.getElem?_eq_getElem hj]
    rfl
   ·rw [List.getElem?_eq_none (by omega),List.getElem?_eq_none (by rw [List.length_map];omega)]
  have hcur:∀ j,j < l0.length→cur[j]?=some (Value.int .i64 (l0.toArray[j]!)):=fun j hj=>by
   have h8:cur.toList[j]?=(l0.map (Value.int .i64))[j]?:=by
    rw [← hin,← h4,Nat.mul_one,List.getElem?_take_of_lt hj]
   rw [← Array.getElem?_toList,h8,List.getElem?_map,List.getElem?_eq_getElem hj]
   have:l0.toArray[j]! = l0[j]:=by rw [getElem!_pos l0.toArray j (by simpa using hj)];simp
   rw [this]
   rfl
  have hH:Holds (Value.int .i64) w g 0 l0.toArray:=by
   intro j hj
   have Ac:j < l0.length:=by simpa using hj
   refine⟨?_,by simp [World.frozen?,hb]⟩
   simp only [World.cell?,hb,Nat.zero_add,Option.isSome_none,Bool.false_eq_true,if_false,id]
   rw [hcur j Ac]
  refine(Try.slices_Sort_int g 0 cap l0 w hH (Array.getElem?_eq_some_iff.1 hb).1 hd).mono ?_
  rintro e w' ⟨rfl,n,os,rfl⟩
  have hl:(l0.mergeSort fun x y=>decide (x≤y)).length=l0.length:=List.length_mergeSort l0
  generalize (l0.mergeSort fun x y=>decide (x≤y))=zs at hl ⊢
  have hg:g < w.heap.size:=(Array.getElem?_eq_some_iff.1 hb).1
  have hheap:(grow (putRow (Value.int .i64) (Sort.ahead w n) g 0 zs.toArray) os).heap[g]?=some (.cells (putCells (Value.int .i64) 0 zs.toArray cur) 3 (0,0)):=by
   rw [heap_grow_old _ _ (by simpa using hg)]
   simp [putRow,mapBlock,Sort.ahead,Array.getElem?_modify,hb,onCells]
  have hgr:w.grownBy (grow (putRow (Value.int .i64) (Sort.ahead w n) g 0 zs.toArray) os) (some g):=by
   refine⟨rfl,rfl,rfl,by simp,fun k hk hne=>?_⟩
   rw [heap_grow_old _ _ (by simpa using hk)]
   have:g≠k:=fun e=>hne (by rw [e])
   simp [putRow,mapBlock,Sort.ahead,Array.getElem?_modify,this]
  have htk:(putCells (Value.int .i64) 0 zs.toArray cur).toList.take zs.length=zs.map (Value.int .i64):=by
   apply List.ext_getElem?
   intro j
   by_cases hj:j < zs.length
   ·rw [List.getElem?_take_of_lt hj,Array.getElem?_toList,List.getElem?_map,List.getElem?_eq_getElem hj]
    have:j < cur.size:=by rw [h3];omega
    simp [putCells,hj,this]
   ·rw [List.getElem?_take_eq_none (by omega),List.getElem?_eq_none (by rw [List.length_map];omega)]
  refine⟨rfl,⟨fun k hk=>.inl (h0 k hk),zs.map (Value.int .i64),⟨by simp [hsz],Or.inr ⟨g,cap,putCells (Value.int .i64) 0 zs.toArray cur, ?_,hbase,hheap,by simp [hl,h1],h2,by simp [putCells,h3,hsz], ?_⟩⟩,by simp [hsz],fun i p hi=>?_⟩,Below.grown hB hgr (by omega) (fun k e=>by cases e;exact hbase),Kept.of_grown hgr (Kept.refl _ _) (fun k e=>.inl (h0 k (by rw [← e];simp [Value.ownBlock])))⟩
  ·simp [hl]
  ·rw [hsz,Nat.mul_one]
   exact htk
  ·rw [hsz,Nat.mul_one]
   have Ad:=(List.getElem?_eq_some_iff.1 hi)
   obtain⟨Af,Ag⟩:=Ad
   show((zs.map (Value.int .i64)).drop i).take 1=[Value.int .i64 p]
   rw [List.drop_eq_getElem_cons (by simpa using Af)]
   simp [Ag]
mutual
def impl_Rule_within.l0:Nat→Int→List Int→List Int→Int→Int→List (S63)→Int→ByteArray→List Int→List (S33)→Option (List Int)
 | 0,_,_,_,_,_,_,_,_,_,_=>none
 | k + 1,x1,x5,Al,An,Ae,Ao,Aq,By,Di,Du=>if Ae < An then(if 0≤Ae then(if Ae < (Al.length:Int)then((impl_Rule_within.f k Ao Aq By Di Du (rd Al Ae)).bind fun Ea=>(if x5.length + Ea.length < 17592186044416 then(impl_Rule_within.l0 k x1 (x5 ++ Ea) Al An (wrap64 (Ae + 1)) Ao Aq By Di Du)else(none)))else(none))else(none))else(if x5.length < 17592186044416 then((slices_Sort_int_int.f (x5 ++ [x1])).bind fun Fd=>(some Fd))else(none))
def impl_Rule_within.f:Nat→List (S63)→Int→ByteArray→List Int→List (S33)→Int→Option (List Int)
 | 0,_,_,_,_,_,_=>none
 | k + 1,Ae,Al,An,Ao,Aq,a1=>if 0≤a1 then(if a1 < (Ae.length:Int)then(impl_Rule_within.l0 k a1 (([]:List Int)) ((y19 Ae a1).f2) (((y19 Ae a1).f2).length:Int) 0 Ae Al An Ao Aq)else(none))else(none)
end
theorem impl_Rule_within.calls (k:Nat):∀(Bl:Option Addr) (Az:Nat) (Aa:List (S63)) (Aj:Int) (Ak:ByteArray) (Ba:Option Addr) (Bb:Nat) (Ad:List Int) (Bc:Option Addr) (Bd:Nat) (Af:List (S33)) (a1:Int) (r:List Int) (w:World) (Be:Kd.C k63 w Bl Aa.length Aa) (Bf:Aa.length≤Az) (Bg:Kd.C (Kd.int .i64) w Ba Ad.length Ad) (Bh:Ad.length≤Bb) (Bi:Kd.C k33 w Bc Af.length Af) (Bj:Af.length≤Bd) (h:impl_Rule_within.f k Aa Aj Ak Ad Af a1=some r),
  Calls Try.prog 53 #[.agg #[.slice Bl Aa.length Az,.int .i64 Aj,.string Ak,.slice Ba Ad.length Bb,.slice Bc Af.length Bd],.int .i64 a1] w fun e w'=>∃ v0_:Value,e=.returned (v0_)∧Kd.R (Kd.int .i64) 3 w' w.heap.size (fun _=>True) v0_ r∧Below w.heap.size w w':=by
 induction k using Nat.strongRecOn with
 | _ k ih =>
 intro Bl Az Aa Aj Ak Ba Bb Ad Bc Bd Af a1 r w Be Bf Bg Bh Bi Bj h
 cases k with
 | zero=>exact absurd h (by simp [impl_Rule_within.f])
 | succ k =>
 simp only [impl_Rule_within.f]at h
 have Ej:=Try.underlying36
 have Bq:=y0.mk Be
 have Cj:=y0.mk Bf
 clear Be Bf
 have Ck:=y0.mk Bg
 have Cl:=y0.mk Bh
 clear Bg Bh
 have Cm:=y0.mk Bi
 have Cn:=y0.mk Bj
 clear Bi Bj
 have HB:=y0.mk (Below.refl w.heap.size w)
 have H:(if 0≤a1 then(if a1 < (Aa.length:Int)then(impl_Rule_within.l0 k a1 (([]:List Int)) ((y19 Aa a1).f2) (((y19 Aa a1).f2).length:Int) 0 Aa Aj Ak Ad Af)else(none))else(none))=some r:=h
 clear h
 obtain⟨Cp,As⟩:∃ y_:List Int,y_=(([]:List Int)):=⟨_,rfl⟩
 replace H:(if 0≤a1 then(if a1 < (Aa.length:Int)then(impl_Rule_within.l0 k a1 Cp ((y19 Aa a1).f2) (((y19 Aa a1).f2).length:Int) 0 Aa Aj Ak Ad Af)else(none))else(none))=some r:=by first|exact As ▸ H|exact As ▸ (Option.bind_some _ _).symm.trans H
 replace As:=y0.mk As
 obtain⟨c3,H⟩:=qo H
 have Dl:decide (0≤a1)=true:=decide_eq_true c3
 clear c3
 obtain⟨c4,H⟩:=qo H
 have Dm:decide (a1 < (Aa.length:Int))=true:=decide_eq_true c4
 clear c4
 have H':=y0.mk H
 clear H
 go_enter Try.func53,Try.ntmps53
 go_wp2_with (first|((with_reducible refine y16 (N:=2) rfl ?_);refine qe 2 #[.slice Bl Aa.length Az,.int .i64 Aj,.string Ak,.slice Ba Ad.length Bb,.slice Bc Af.length Bd] 36 ?_;intro Cq hg w5 hbox hb;have Ab:=y0.mk (hbox);have Ea:=y0.mk (qg (w:=w) hg);have Cr:=y0.mk (qg (w:=w) hg);replace HB:=y0.mk (y4 qb hb);clear hb hbox hg)|((with_reducible refine y16 (N:=8) rfl ?_);refine qL (Kd.int .i64) 3 8 ([]:List Int) ?_;intro Ek w6 Cs hb hg_ hnew_;clear hg_ hnew_;(first|rw [← As.out]at Cs|(simp only [Int.reduceToNat]at Cs;rw [← As.out]at Cs));have Ct:=y0.mk (Kd.R_lower Cs (y3 qb));replace Ab:=y0.mk (qK Ab.out hb);replace HB:=y0.mk (y4 qb hb);clear hb Cs;obtain⟨Bt,Bu,Bv,Bw,Bx,Bz,Ca,Cb,Cc,Cd⟩:=qz5 Ab.out;have Bm:0≤(a1:Int):=qd;have Bn:a1 < (Aa.length:Int):=qd;obtain⟨Bs,Do,Dp,Dq,Ag,Ah,Ai,Ax,Ay⟩:=at_T63 Bq.out a1 Bm Bn;cases Dq;replace Ag:=qC Ag HB;replace Ah:=qC Ah HB;replace Ai:=qC Ai HB;have Bo:=y0.mk Ay;have Da:=y0.mk Ax;clear Ay Ax;replace Bm:=eq_true Bm;replace Bn:=eq_true Bn))
 go_loopg [5,16] k (fun kq v5 El w'=>∃(Aw:List Int) (Ac:Int),El=.int .i64 Ac∧y0 (impl_Rule_within.l0 kq a1 Aw ((y19 Aa a1).f2) (((y19 Aa a1).f2).length:Int) Ac Aa Aj Ak Ad Af=some r)∧y0 (kq≤k)∧y0 (Kd.R (Kd.int .i64) 3 w' w.heap.size (fun _=>True) v5 Aw)∧y0 (w'.heap[Cq]?=some (.cells #[(.slice (some Bs) Aa.length Az),.int .i64 Aj,.string Ak,(.slice Ba Ad.length Bb),(.slice Bc Af.length Bd)] 36 (0,0)))∧y0 (Below w.heap.size w w'))
 case atStart=>exact⟨(Cp),(0),qy2,H',⟨Nat.le_refl _⟩,⟨qR Ct.out⟩,⟨qk Ab.out⟩,⟨qb⟩⟩
 case round =>
  clear H'
  (try clear Dl Dm Bt Bu Bv Bw Bx Bz Ca Cb Cc Cd Ag Ah Ai Bm Bn)
  obtain⟨Aw,Ac,rfl,HA,Dr,Ap,Ab,HB⟩:=hrel
  cases gk with
  | zero=>exact absurd HA.out (by simp [impl_Rule_within.l0])
  | succ k1 =>
   have H:=HA.out
   clear HA
   simp only [impl_Rule_within.l0]at H
   by_cases c9:Ac < (((y19 Aa a1).f2).length:Int)
   ·rw [if_pos c9]at H
    have Ds:=decide_eq_true c9
    clear c9
    obtain⟨Eb,H⟩:=qo H
    have Ec:decide (0≤Ac)=true:=decide_eq_true Eb
    clear Eb
    obtain⟨Ed,H⟩:=qo H
    have Ee:=decide_eq_true Ed
    clear Ed
    obtain⟨Bp,Em,H⟩:=qB H
    obtain⟨Ef,H⟩:=qo H
    replace Ef:=y0.mk Ef
    obtain⟨Cv,At⟩:∃ y_:List Int,y_=(Aw ++ Bp):=⟨_,rfl⟩
    replace H:(impl_Rule_within.l0 k1 a1 Cv ((y19 Aa a1).f2) (((y19 Aa a1).f2).length:Int) (wrap64 (Ac + 1)) Aa Aj Ak Ad Af)=some r:=by first|exact At ▸ H|exact At ▸ (Option.bind_some _ _).symm.trans H
    replace At:=y0.mk At
    have H':=y0.mk H
    clear H
    have Ce:0≤(Ac:Int):=qd
    have Cf:Ac < (((y19 Aa a1).f2).length:Int):=qd
    obtain⟨Eg,Dt,Ar⟩:=Kd.at_int Bo.out Ac Ce Cf
    cases Dt
    replace Ar:=qC Ar HB
    replace Ce:=eq_true Ce
    replace Cf:=eq_true Cf
    obtain⟨Db,Dc,Dd,De,Df,Dg,Dh,Di,Dj,Dk⟩:=qz5 Ab.out
    go_wp2_with (first|((with_reducible refine y15 (f:=53) rfl ?_);refine y17 (some 23) rfl rfl Try.func53 (by kernel_rfl) rfl #[.agg #[.slice (some Bs) Aa.length Az,.int .i64 Aj,.string Ak,.slice Ba Ad.length Bb,.slice Bc Af.length Bd],.int .i64 (rd ((y19 Aa a1).f2) Ac)] rfl qy1 ?_;(with_reducible refine(ih k1 (by have:=Dr.out;omega) _ _ Aa Aj Ak _ _ Ad _ _ Af (rd ((y19 Aa a1).f2) Ac) Bp _ (qc (Kd.C_below Bq.out HB.out)) Cj.out (qc (Kd.C_below Ck.out HB.out)) Cl.out (qc (Kd.C_below Cm.out HB.out)) Cn.out Em.out).mono ?_);rintro e Er ⟨En,rfl,Du,hb⟩;refine⟨_,rfl, ?_⟩;have Au:=y0.mk (Kd.R_lower (Kd.R_new' Du (Kd.R_lt (qR Ap.out))) (y3 qb));replace Ap:=y0.mk (Kd.R_elder' (qR Ap.out) (Kd.R_base Du) hb);replace Ab:=y0.mk (qK Ab.out hb);replace HB:=y0.mk (y4 qb hb);(try clear hb);(try clear Du);obtain⟨Dw,Dx,Dy⟩:=Kd.R_slice Au.out;subst Dy)|((with_reducible refine gate_builtin (b:=.append) (xs:=#[.tmp 20,.tmp 23]) rfl ?_);at_builtin;refine Kd.R_append_rows (Kd.int .i64) (w0:=w) w.heap.size rfl (.tmp 20) (.tmp 23) 23 3 (.int .i64 0) 8 rfl Try.underlying23 info3 rfl (by decide) (by omega) u5 Aw Bp _ _ _ (fun k_=>some k_≠(.slice Dw Bp.length Dx:Value).ownBlock) (fun _=>False) rfl rfl ?aO ?aR (fun _ _ h=>h) (fun _ h=>h.elim) ?aF ?aB ?aS ?aL ?_;(case aR=>repeat(first|exact(Kd.R_reads' Au.out).2.2|(with_reducible refine Kd.C_alloc ?_ _)|(with_reducible refine Kd.C_drewN ?_ _)|(with_reducible refine Kd.C_drew ?_)));(case aB=>exact qb);(case aF=>exact(fun k_ hk=>Kd.fresh' (Kd.R_lt (qR Au.out)) k_ hk));(case aO=>exact(qR (Kd.R_mono Ap.out (fun _ hk=>hk.2))));(case aS=>exact(y3 qb));(case aL=>have:=Ef.out;omega);intro Eo Es ho hb hg hat;rw [← At.out]at ho;replace Ab:=y0.mk (blk_grown (qk Ab.out) hg (Kd.R_ne Ap.out Ab.out (by decide)));replace Au:=y0.mk (Kd.R_after (ok:=(fun _=>True)) (qR Au.out) hg hat);replace HB:=y0.mk (hb);have Cx:=y0.mk (ho);clear Ap;clear ho hb hg hat))
    go_roundg k1
    case measure=>have:=Dr.out;omega
    exact⟨(Cv),(wrap64 (Ac + 1)),qy2,H',⟨by have:=Dr.out;omega⟩,⟨qR (Kd.R_mono Cx.out (fun _ hk=>trivial))⟩,⟨qk Ab.out⟩,⟨qb⟩⟩
   ·rw [if_neg c9]at H
    have Ds:=decide_eq_false c9
    clear c9
    obtain⟨Eh,H⟩:=qo H
    replace Eh:=y0.mk Eh
    obtain⟨Bk,Av⟩:∃ y_:List Int,y_=(Aw ++ [a1]):=⟨_,rfl⟩
    replace H:((slices_Sort_int_int.f Bk).bind fun Cg=>(some Cg))=some r:=by first|exact Av ▸ H|exact Av ▸ (Option.bind_some _ _).symm.trans H
    replace Av:=y0.mk Av
    obtain⟨Cg,Ep,H⟩:=qB H
    obtain rfl:=Option.some.inj H
    go_wp2_with (first|((with_reducible refine gate_builtin (b:=.append) (xs:=#[.tmp 26,.tmp 28]) rfl ?_);at_builtin;refine Kd.R_append (Kd.int .i64) (w0:=w) w.heap.size rfl (.tmp 26) (.tmp 28) 23 3 (.int .i64 0) 8 rfl Try.underlying23 info3 rfl (by decide) (by omega) u5 Aw a1 [.int .i64 a1] (fun _=>True) (fun _=>False) rfl rfl ?aP (fun _ hk=>hk.elim) ?aF ?aO ?aB ?aS ?aL ?_;(case aP=>exact rfl);(case aB=>exact qb);(case aF=>exact(fun _ _=>trivial));(case aO=>exact(qR Ap.out));(case aS=>exact(y3 qb));(case aL=>have:=Eh.out;omega);intro Eq Et ho hb hg hat;rw [← Av.out]at ho;replace Ab:=y0.mk (blk_grown (qk Ab.out) hg (Kd.R_ne Ap.out Ab.out (by decide)));replace HB:=y0.mk (hb);have Am:=y0.mk (ho);clear Ap;clear ho hb hg hat;obtain⟨Ch,Ci,Dz⟩:=Kd.R_slice Am.out;subst Dz)|((with_reducible refine y15 (f:=70) rfl ?_);refine y17 (some 31) rfl rfl Try.func70 (by kernel_rfl) rfl #[.slice Ch Bk.length Ci] rfl qy1 ?_;(with_reducible refine(slices_Sort_int_int.calls (fun k_=>some k_=(.slice Ch Bk.length Ci:Value).ownBlock) (.slice Ch Bk.length Ci) Bk Cg w _ (by repeat(first|(with_reducible first|exact HB.out|apply below_alloc|apply pw_below_drewN|apply y2|refine below_set ?_ Cr.out)|exact HB.out)) (by exact Kd.R_tight rfl (qR Am.out)) Ep.out).mono ?_);rintro e Eu ⟨rfl,Ei,hb,hkp⟩;refine⟨_,rfl, ?_⟩;replace Ab:=y0.mk (blk_kept (qk Ab.out) hkp (fun hs_=>(fun e_=>(Kd.R_ne Am.out Ab.out (by decide)) e_) hs_));replace Am:=y0.mk (Kd.R_reok rfl Ei (fun k_ e_=>Am.out.1 k_ e_));replace HB:=y0.mk (hb);(try clear hb);(try clear hkp);(try clear Ei)))
    go_ret
    exact⟨_,by first|rfl|(simp [y12,y13] <;> rfl)|(simp [*,y12,y13] <;> rfl),by(with_reducible repeat(first|apply Kd.R_alloc|apply Kd.R_drewN|apply Kd.R_drew));exact Am.out,qb⟩
def z6_.l0:Nat→List ByteArray→ByteArray→Int→Int→Option (Int)
 | 0,_,_,_,_=>none
 | k + 1,x0,x1,x7,x8=>if x8 < x7 then(if 0≤x8 then(if x8 < (x0.length:Int)then(if x1.toList=(rdOf ByteArray.empty x0 x8).toList then(some x8)else(z6_.l0 k x0 x1 x7 (wrap64 (x8 + 1))))else(none))else(none))else(some (-1))
def z6_.f (k:Nat) (l0:List ByteArray) (a1:ByteArray):Option (Int):=z6_.l0 k l0 a1 (l0.length:Int) 0
theorem z6_.calls (k:Nat) (A0:Option Addr) (c0:Nat) (l0:List ByteArray) (a1:ByteArray) (r:Int) (w:World) (Aj:Kd.C Kd.string w A0 l0.length l0) (Ak:l0.length≤c0) (h:z6_.f k l0 a1=some r) :
  Calls Try.prog 71 #[.slice A0 l0.length c0,.string a1] w fun e w'=>e=.returned (.int .i64 r)∧Drawn0 w w':=by
 have Ar:=y0.mk Aj
 have Au:=y0.mk Ak
 clear Aj Ak
 have H:(z6_.l0 k l0 a1 (l0.length:Int) 0)=some r:=h
 clear h
 have H':=y0.mk H
 clear H
 go_enter Try.func71,Try.ntmps71
 go_wp2
 go_loopg [8] k (fun kq v8 w'=>∃(Aa:Int),v8=.int .i64 Aa∧y0 (z6_.l0 kq l0 a1 (l0.length:Int) Aa=some r)∧y0 (kq≤k)∧Drawn0 w w')
 case atStart=>exact⟨(0),qy2,H',⟨Nat.le_refl _⟩,by repeat(first|exact Drawn0.refl _|apply Drawn0.step)⟩
 case round =>
  clear H'
  obtain⟨Aa,rfl,HA,Am,⟨m1,rfl⟩⟩:=hrel
  cases gk with
  | zero=>exact absurd HA.out (by simp [z6_.l0])
  | succ k1 =>
   have H:=HA.out
   clear HA
   simp only [z6_.l0]at H
   by_cases c3:Aa < (l0.length:Int)
   ·rw [if_pos c3]at H
    have Af:=decide_eq_true c3
    clear c3
    obtain⟨c4,H⟩:=qo H
    have As:decide (0≤Aa)=true:=decide_eq_true c4
    clear c4
    obtain⟨c5,H⟩:=qo H
    have At:decide (Aa < (l0.length:Int))=true:=decide_eq_true c5
    clear c5
    have Ab:0≤(Aa:Int):=qd
    have Ac:Aa < (l0.length:Int):=qd
    obtain⟨Ap,Ag,Ad⟩:=Kd.at_string Ar.out Aa Ab Ac
    cases Ag
    replace Ab:=eq_true Ab
    replace Ac:=eq_true Ac
    by_cases c6:a1.toList=(rdOf ByteArray.empty l0 Aa).toList
    ·rw [if_pos c6]at H
     have Ah:(a1.toList == (rdOf ByteArray.empty l0 Aa).toList)=true:=beq_iff_eq.mpr c6
     have Ai:(a1.toList != (rdOf ByteArray.empty l0 Aa).toList)=false:=bne_eq_false_iff_eq.mpr c6
     clear c6
     obtain rfl:=Option.some.inj H
     go_wp2
     go_ret
     exact qf2
    ·rw [if_neg c6]at H
     have Ah:(a1.toList == (rdOf ByteArray.empty l0 Aa).toList)=false:=beq_eq_false_iff_ne.mpr c6
     have Ai:(a1.toList != (rdOf ByteArray.empty l0 Aa).toList)=true:=bne_iff_ne.mpr c6
     have H':=y0.mk H
     clear H
     go_wp2
     go_roundg k1
     case measure=>have:=Am.out;omega
     exact⟨(wrap64 (Aa + 1)),qy2,H',⟨by have:=Am.out;omega⟩,by repeat(first|exact Drawn0.refl _|apply Drawn0.step)⟩
   ·rw [if_neg c3]at H
    have Af:=decide_eq_false c3
    clear c3
    obtain rfl:=Option.some.inj H
    go_wp2
    go_ret
    exact qf2
def slices_Contains_string_string.f (k:Nat) (l0:List ByteArray) (a1:ByteArray):Option (Bool):=(z6_.f k l0 a1).bind fun Ae=>(some (decide (Ae≥0)))
theorem slices_Contains_string_string.calls (k:Nat) (A0:Option Addr) (c0:Nat) (l0:List ByteArray) (a1:ByteArray) (r:Bool) (w:World) (hr0:Kd.C Kd.string w A0 l0.length l0) (hc0:l0.length≤c0) (h:slices_Contains_string_string.f k l0 a1=some r) :
  Calls Try.prog 54 #[.slice A0 l0.length c0,.string a1] w fun e w'=>e=.returned (.bool r)∧Drawn0 w w':=by
 have HR0:=y0.mk hr0
 have HC0:=y0.mk hc0
 clear hr0 hc0
 have H:((z6_.f k l0 a1).bind fun t535=>(some (decide (t535≥0))))=some r:=h
 clear h
 obtain⟨t535,A3,H⟩:=qB H
 obtain rfl:=Option.some.inj H
 go_enter Try.func54,Try.ntmps54
 go_wp2_with (first|((with_reducible refine y15 (f:=71) rfl ?_);refine y17 (some 7) rfl rfl Try.func71 (by kernel_rfl) rfl #[.slice A0 l0.length c0,.string a1] rfl qy1 ?_;(with_reducible refine(z6_.calls k _ _ l0 a1 t535 _ (qc HR0.out) HC0.out A3.out).mono ?_);rintro e w' ⟨rfl,⟨nd,rfl⟩⟩;refine⟨_,rfl, ?_⟩))
 go_ret
 exact qf2
def impl_Rule_vars.l0:Nat→List ByteArray→List Int→Int→Int→List (S63)→Int→ByteArray→List Int→List (S33)→Option (List ByteArray)
 | 0,_,_,_,_,_,_,_,_,_=>none
 | k + 1,x5,Al,Ao,Ae,An,Aq,By,Di,Du=>if Ae < Ao then(if 0≤Ae then(if Ae < (Al.length:Int)then(if 0≤(rd Al Ae)then(if(rd Al Ae) < (An.length:Int)then(if((y19 An (rd Al Ae)).f0)=1 then((slices_Contains_string_string.f k x5 ((y19 An (rd Al Ae)).f1)).bind fun Ea=>(if Ea=true then(impl_Rule_vars.l0 k x5 Al Ao (wrap64 (Ae + 1)) An Aq By Di Du)else(if x5.length < 8796093022208 then(impl_Rule_vars.l0 k (x5 ++ [(y19 An (rd Al Ae)).f1]) Al Ao (wrap64 (Ae + 1)) An Aq By Di Du)else(none))))else(impl_Rule_vars.l0 k x5 Al Ao (wrap64 (Ae + 1)) An Aq By Di Du))else(none))else(none))else(none))else(none))else(some x5)
def impl_Rule_vars.f (k:Nat) (Ae:List (S63)) (Al:Int) (An:ByteArray) (Ao:List Int) (Aq:List (S33)) (a1:Int):Option (List ByteArray):=(impl_Rule_within.f k Ae Al An Ao Aq a1).bind fun By=>(impl_Rule_vars.l0 k (([]:List ByteArray)) By (By.length:Int) 0 Ae Al An Ao Aq)
theorem impl_Rule_vars.calls (k:Nat) (Bq:Option Addr) (Bl:Nat) (Ac:List (S63)) (Ay:Int) (Az:ByteArray) (Bm:Option Addr) (Bn:Nat) (Aw:List Int) (Bo:Option Addr) (Bp:Nat) (Ax:List (S33)) (a1:Int) (r:List ByteArray) (w:World) (Bv:Kd.C k63 w Bq Ac.length Ac) (Bw:Ac.length≤Bl) (Bx:Kd.C (Kd.int .i64) w Bm Aw.length Aw) (Bz:Aw.length≤Bn) (Ca:Kd.C k33 w Bo Ax.length Ax) (Cb:Ax.length≤Bp) (h:impl_Rule_vars.f k Ac Ay Az Aw Ax a1=some r) :
  Calls Try.prog 30 #[.agg #[.slice Bq Ac.length Bl,.int .i64 Ay,.string Az,.slice Bm Aw.length Bn,.slice Bo Ax.length Bp],.int .i64 a1] w fun e w'=>∃ v0_:Value,e=.returned (v0_)∧Kd.R Kd.string 9 w' w.heap.size (fun _=>True) v0_ r∧Below w.heap.size w w':=by
 have Gk:=Try.underlying36
 have Gl:=Try.underlying63
 have Bh:=y0.mk Bv
 have Cw:=y0.mk Bw
 clear Bv Bw
 have Cx:=y0.mk Bx
 have Cy:=y0.mk Bz
 clear Bx Bz
 have Cz:=y0.mk Ca
 have Da:=y0.mk Cb
 clear Ca Cb
 have HB:=y0.mk (Below.refl w.heap.size w)
 have H:((impl_Rule_within.f k Ac Ay Az Aw Ax a1).bind fun Ab=>(impl_Rule_vars.l0 k (([]:List ByteArray)) Ab (Ab.length:Int) 0 Ac Ay Az Aw Ax))=some r:=h
 clear h
 obtain⟨Db,Bf⟩:∃ y_:List ByteArray,y_=(([]:List ByteArray)):=⟨_,rfl⟩
 replace H:((impl_Rule_within.f k Ac Ay Az Aw Ax a1).bind fun Ab=>(impl_Rule_vars.l0 k Db Ab (Ab.length:Int) 0 Ac Ay Az Aw Ax))=some r:=by first|exact Bf ▸ H|exact Bf ▸ (Option.bind_some _ _).symm.trans H
 replace Bf:=y0.mk Bf
 obtain⟨Ab,A3,H⟩:=qB H
 have H':=y0.mk H
 clear H
 go_enter Try.func30,Try.ntmps30
 go_wp2_with (first|((with_reducible refine y16 (N:=2) rfl ?_);refine qe 2 #[.slice Bq Ac.length Bl,.int .i64 Ay,.string Az,.slice Bm Aw.length Bn,.slice Bo Ax.length Bp] 36 ?_;intro Cd hg w4 hbox hb;have Ag:=y0.mk (hbox);have Fq:=y0.mk (qg (w:=w) hg);have Fr:=y0.mk (qg (w:=w) hg);replace HB:=y0.mk (y4 qb hb);clear hb hbox hg)|((with_reducible refine y16 (N:=9) rfl ?_);refine qL Kd.string 9 9 ([]:List ByteArray) ?_;intro Gm w5 Dc hb hg_ hnew_;clear hg_ hnew_;(first|rw [← Bf.out]at Dc|(simp only [Int.reduceToNat]at Dc;rw [← Bf.out]at Dc));have Br:=y0.mk (Kd.R_lower Dc (y3 qb));replace Ag:=y0.mk (qK Ag.out hb);replace HB:=y0.mk (y4 qb hb);clear hb Dc;obtain⟨Ci,Cj,Ck,Cl,Cm,Cn,Cp,Cq,Cr,Cs⟩:=qz5 Ag.out)|((with_reducible refine y15 (f:=53) rfl ?_);refine y17 (some 12) rfl rfl Try.func53 (by kernel_rfl) rfl #[.agg #[.slice Bq Ac.length Bl,.int .i64 Ay,.string Az,.slice Bm Aw.length Bn,.slice Bo Ax.length Bp],.int .i64 a1] rfl qy1 ?_;(with_reducible refine(impl_Rule_within.calls k _ _ Ac Ay Az _ _ Aw _ _ Ax a1 Ab _ (qc (Kd.C_below Bh.out HB.out)) Cw.out (qc (Kd.C_below Cx.out HB.out)) Cy.out (qc (Kd.C_below Cz.out HB.out)) Da.out A3.out).mono ?_);rintro e w8 ⟨Gn,rfl,Fs,hb⟩;refine⟨_,rfl, ?_⟩;replace Br:=y0.mk (Kd.R_below (qR Br.out) hb);have Ce:=y0.mk (Kd.R_lower Fs (y3 qb));replace Ag:=y0.mk (qK Ag.out hb);replace HB:=y0.mk (y4 qb hb);(try clear hb);(try clear Fs);obtain⟨Gp,Gq,Gr⟩:=Kd.R_slice Ce.out;subst Gr))
 go_loopg [5,14] k (fun kq v5 Gs w'=>∃(Ba:List ByteArray) (Aa:Int),Gs=.int .i64 Aa∧y0 (impl_Rule_vars.l0 kq Ba Ab (Ab.length:Int) Aa Ac Ay Az Aw Ax=some r)∧y0 (kq≤k)∧y0 (Kd.R Kd.string 9 w' w.heap.size (fun _=>True) v5 Ba)∧y0 (Kd.R (Kd.int .i64) 3 w' w.heap.size (fun _=>True) (.slice Gp Ab.length Gq) Ab)∧y0 (w'.heap[Cd]?=some (.cells #[(.slice Bq Ac.length Bl),.int .i64 Ay,.string Az,(.slice Bm Aw.length Bn),(.slice Bo Ax.length Bp)] 36 (0,0)))∧y0 (Below w.heap.size w w'))
 case atStart=>exact⟨(Db),(0),qy2,H',⟨Nat.le_refl _⟩,⟨qR Br.out⟩,⟨qR Ce.out⟩,⟨qk Ag.out⟩,⟨qb⟩⟩
 case round =>
  clear H'
  (try clear Ci Cj Ck Cl Cm Cn Cp Cq Cr Cs)
  obtain⟨Ba,Aa,rfl,HA,Cu,Au,Ar,Ag,HB⟩:=hrel
  cases gk with
  | zero=>exact absurd HA.out (by simp [impl_Rule_vars.l0])
  | succ k1 =>
   have H:=HA.out
   clear HA
   simp only [impl_Rule_vars.l0]at H
   by_cases Cv:Aa < (Ab.length:Int)
   ·rw [if_pos Cv]at H
    have Dd:=decide_eq_true Cv
    clear Cv
    obtain⟨Ft,H⟩:=qo H
    have Fu:=decide_eq_true Ft
    clear Ft
    obtain⟨Fv,H⟩:=qo H
    have Fx:decide (Aa < (Ab.length:Int))=true:=decide_eq_true Fv
    clear Fv
    obtain⟨Fy,H⟩:=qo H
    have Fz:decide (0≤(rd Ab Aa))=true:=decide_eq_true Fy
    clear Fy
    obtain⟨Ga,H⟩:=qo H
    have Gb:decide ((rd Ab Aa) < (Ac.length:Int))=true:=decide_eq_true Ga
    clear Ga
    by_cases Ct:((y19 Ac (rd Ab Aa)).f0)=1
    ·rw [if_pos Ct]at H
     have De:(((y19 Ac (rd Ab Aa)).f0) == 1)=true:=beq_iff_eq.mpr Ct
     have Df:(((y19 Ac (rd Ab Aa)).f0) != 1)=false:=bne_eq_false_iff_eq.mpr Ct
     clear Ct
     obtain⟨Fl,Gc,H⟩:=qB H
     by_cases Dl:Fl=true
     ·subst Dl
      replace H:=qT H
      have H':=y0.mk H
      clear H
      have Bb:0≤(Aa:Int):=qd
      have Bc:Aa < (Ab.length:Int):=qd
      obtain⟨Cf,Bs,Bi⟩:=Kd.at_int (Kd.R_reads' Ar.out).2.2 Aa Bb Bc
      cases Bs
      replace Bb:=eq_true Bb
      replace Bc:=eq_true Bc
      obtain⟨Dm,Do,Dp,Dq,Dr,Ds,Dt,Du,Dw,Dx⟩:=qz5 Ag.out
      have Bd:0≤((rd Ab Aa):Int):=qd
      have Be:(rd Ab Aa) < (Ac.length:Int):=qd
      obtain⟨Bt,Am,Ap,Bu,Ah,Ai,Aj,As,At⟩:=at_T63 Bh.out (rd Ab Aa) Bd Be
      cases Bu
      replace Ah:=qC Ah HB
      replace Ai:=qC Ai HB
      replace Aj:=qC Aj HB
      have Bj:=y0.mk At
      have Bk:=y0.mk As
      clear At As
      replace Bd:=eq_true Bd
      replace Be:=eq_true Be
      go_wp2_with (first|((with_reducible refine y16 (N:=8) rfl ?_);refine qe 8 #[.int .i64 0,.string (⟨#[]⟩:ByteArray),.slice none 0 0] 63 ?_;intro Af hg Gv hbox hb;replace Au:=y0.mk (Kd.R_below (qR Au.out) hb);replace Ar:=y0.mk (Kd.R_below (qR Ar.out) hb);have Ak:=y0.mk (hbox);have Cg:=y0.mk (qg (w:=w) hg);have Ch:=y0.mk (qg (w:=w) hg);replace HB:=y0.mk (y4 qb hb);have Ad:=y0.mk (qn Ag.out hg);have Av:=y0.mk (qm Ag.out hg);replace Ag:=y0.mk (qK Ag.out hb);clear hb hbox hg;have Gd:=Av.out;have Ge:=Ad.out;obtain⟨Dy,Dz,Ea,Eb,Ec,Ed⟩:=qz3 Ak.out;obtain⟨Gt,Fm,Fn⟩:=Kd.R_slice Au.out;subst Fn)|(go_at_call 54;(with_reducible refine(slices_Contains_string_string.calls k1 _ _ Ba ((y19 Ac (rd Ab Aa)).f1) true _ (by refine(Kd.R_reads' (e:=9) (base:=w.heap.size) (ok:=fun k_=>True) (n:=Ba.length) (c:=Fm) ?_).2.2;exact(qR ((Kd.R_mono (qfR Af (Kd.R_types Au.out Ak.out (by decide)) (.int .i64 ((y19 Ac (rd Ab Aa)).f0)) (.string ((y19 Ac (rd Ab Aa)).f1)) (.slice Am ((y19 Ac (rd Ab Aa)).f2).length Ap)) (fun _ h_=>h_.1))))) (by exact(Kd.R_reads' Au.out).2.1) Gc.out).mono ?_);rintro e w' ⟨rfl,⟨nd,rfl⟩⟩))
      go_roundg k1
      case measure=>have:=Cu.out;omega
      exact⟨(Ba),(wrap64 (Aa + 1)),qy2,H',⟨by have:=Cu.out;omega⟩,⟨qR (Kd.R_mono (qfR Af (Kd.R_types Au.out Ak.out (by decide)) (.int .i64 ((y19 Ac (rd Ab Aa)).f0)) (.string ((y19 Ac (rd Ab Aa)).f1)) (.slice Am ((y19 Ac (rd Ab Aa)).f2).length Ap)) (fun _ hk=>trivial))⟩,⟨qR (Kd.R_mono (qfR Af (Kd.R_types Ar.out Ak.out (by decide)) (.int .i64 ((y19 Ac (rd Ab Aa)).f0)) (.string ((y19 Ac (rd Ab Aa)).f1)) (.slice Am ((y19 Ac (rd Ab Aa)).f2).length Ap)) (fun _ hk=>trivial))⟩,⟨by(with_reducible repeat(first|refine y9 ?_ _|refine y8 ?_|refine y5 ?_ _));refine y10 ?_ Ad.out _;refine y10 ?_ Ad.out _;refine y10 ?_ Ad.out _;(with_reducible repeat(first|refine y9 ?_ _|refine y8 ?_|refine y5 ?_ _));exact Ag.out⟩,⟨qb⟩⟩
     ·replace Dl:=Bool.eq_false_iff.mpr Dl
      subst Dl
      replace H:=qF H
      obtain⟨Gf,H⟩:=qo H
      replace Gf:=y0.mk Gf
      obtain⟨Dh,Bg⟩:∃ y_:List ByteArray,y_=(Ba ++ [(y19 Ac (rd Ab Aa)).f1]):=⟨_,rfl⟩
      replace H:(impl_Rule_vars.l0 k1 Dh Ab (Ab.length:Int) (wrap64 (Aa + 1)) Ac Ay Az Aw Ax)=some r:=by first|exact Bg ▸ H|exact Bg ▸ (Option.bind_some _ _).symm.trans H
      replace Bg:=y0.mk Bg
      have H':=y0.mk H
      clear H
      have Bb:0≤(Aa:Int):=qd
      have Bc:Aa < (Ab.length:Int):=qd
      obtain⟨Cf,Bs,Bi⟩:=Kd.at_int (Kd.R_reads' Ar.out).2.2 Aa Bb Bc
      cases Bs
      replace Bb:=eq_true Bb
      replace Bc:=eq_true Bc
      obtain⟨Ee,Ef,Eg,Eh,Ei,Ej,Ek,El,Em,En⟩:=qz5 Ag.out
      have Bd:0≤((rd Ab Aa):Int):=qd
      have Be:(rd Ab Aa) < (Ac.length:Int):=qd
      obtain⟨Bt,Am,Ap,Bu,Ah,Ai,Aj,As,At⟩:=at_T63 Bh.out (rd Ab Aa) Bd Be
      cases Bu
      replace Ah:=qC Ah HB
      replace Ai:=qC Ai HB
      replace Aj:=qC Aj HB
      have Bj:=y0.mk At
      have Bk:=y0.mk As
      clear At As
      replace Bd:=eq_true Bd
      replace Be:=eq_true Be
      go_wp2_with (first|((with_reducible refine y16 (N:=8) rfl ?_);refine qe 8 #[.int .i64 0,.string (⟨#[]⟩:ByteArray),.slice none 0 0] 63 ?_;intro Af hg Gw hbox hb;replace Au:=y0.mk (Kd.R_below (qR Au.out) hb);replace Ar:=y0.mk (Kd.R_below (qR Ar.out) hb);have Ak:=y0.mk (hbox);have Cg:=y0.mk (qg (w:=w) hg);have Ch:=y0.mk (qg (w:=w) hg);replace HB:=y0.mk (y4 qb hb);have Ad:=y0.mk (qn Ag.out hg);have Av:=y0.mk (qm Ag.out hg);replace Ag:=y0.mk (qK Ag.out hb);clear hb hbox hg;have Gg:=Av.out;have Gh:=Ad.out;obtain⟨Eo,Ep,Eq,Er,Es,Et⟩:=qz3 Ak.out;obtain⟨Fo,Dj,Fp⟩:=Kd.R_slice Au.out;subst Fp)|(go_at_call 54;(with_reducible refine(slices_Contains_string_string.calls k1 _ _ Ba ((y19 Ac (rd Ab Aa)).f1) false _ (by refine(Kd.R_reads' (e:=9) (base:=w.heap.size) (ok:=fun k_=>True) (n:=Ba.length) (c:=Dj) ?_).2.2;exact(qR ((Kd.R_mono (qfR Af (Kd.R_types Au.out Ak.out (by decide)) (.int .i64 ((y19 Ac (rd Ab Aa)).f0)) (.string ((y19 Ac (rd Ab Aa)).f1)) (.slice Am ((y19 Ac (rd Ab Aa)).f2).length Ap)) (fun _ h_=>h_.1))))) (by exact(Kd.R_reads' Au.out).2.1) Gc.out).mono ?_);rintro e w' ⟨rfl,⟨nd,rfl⟩⟩)|((with_reducible refine gate_builtin (b:=.append) (xs:=#[.tmp 33,.tmp 36]) rfl ?_);at_builtin;refine Kd.R_append Kd.string (w0:=w) w.heap.size rfl (.tmp 33) (.tmp 36) 30 9 (.string ⟨#[]⟩) 16 rfl Try.underlying30 info9 rfl (by decide) (by omega) (.slice Fo Ba.length Dj) Ba ((y19 Ac (rd Ab Aa)).f1) [.string ((y19 Ac (rd Ab Aa)).f1)] (fun _=>True) (fun _=>False) rfl (by first|(go_simp;done)|(go_simp;rfl)) ?aP (fun _ hk=>hk.elim) ?aF ?aO ?aB ?aS ?aL ?_;(case aP=>exact rfl);(case aB=>exact qb);(case aF=>exact(fun _ _=>trivial));(case aO=>exact(qR (Kd.R_mono (qfR Af (Kd.R_types Au.out Ak.out (by decide)) (.int .i64 ((y19 Ac (rd Ab Aa)).f0)) (.string ((y19 Ac (rd Ab Aa)).f1)) (.slice Am ((y19 Ac (rd Ab Aa)).f2).length Ap)) (fun _ hk=>trivial))));(case aS=>exact(y3 qb));(case aL=>have:=Gf.out;omega);intro Gu Gx ho hb hg hat;rw [← Bg.out]at ho;replace Ar:=y0.mk (Kd.R_over' (qR ((Kd.R_mono (qfR Af (Kd.R_types Ar.out Ak.out (by decide)) (.int .i64 ((y19 Ac (rd Ab Aa)).f0)) (.string ((y19 Ac (rd Ab Aa)).f1)) (.slice Am ((y19 Ac (rd Ab Aa)).f2).length Ap)) (fun _ h_=>h_.1)))) (Kd.R_typed (qR ((Kd.R_mono (qfR Af (Kd.R_types Au.out Ak.out (by decide)) (.int .i64 ((y19 Ac (rd Ab Aa)).f0)) (.string ((y19 Ac (rd Ab Aa)).f1)) (.slice Am ((y19 Ac (rd Ab Aa)).f2).length Ap)) (fun _ h_=>h_.1))))) (by decide) hg);replace Ag:=y0.mk (blk_grown (g:=Cd) (o:=.cells #[.slice (some Bt) Ac.length Bl,.int .i64 Ay,.string Az,.slice Bm Aw.length Bn,.slice Bo Ax.length Bp] 36 (0,0)) (by(with_reducible repeat(first|refine y9 ?_ _|refine y8 ?_|refine y5 ?_ _));refine y10 ?_ Ad.out _;refine y10 ?_ Ad.out _;refine y10 ?_ Ad.out _;(with_reducible repeat(first|refine y9 ?_ _|refine y8 ?_|refine y5 ?_ _));exact Ag.out) hg (Kd.R_ne Au.out Ag.out (by decide)));replace Ak:=y0.mk (blk_grown (g:=Af) (o:=.cells #[.int .i64 ((y19 Ac (rd Ab Aa)).f0),.string ((y19 Ac (rd Ab Aa)).f1),.slice Am ((y19 Ac (rd Ab Aa)).f2).length Ap] 63 (0,0)) (by(with_reducible repeat(first|refine y9 ?_ _|refine y8 ?_|refine y5 ?_ _));refine y11 (cs:=#[.int .i64 ((y19 Ac (rd Ab Aa)).f0),.string ((y19 Ac (rd Ab Aa)).f1),.slice none 0 0]) ?_ 2 _ rfl;refine y11 (cs:=#[.int .i64 ((y19 Ac (rd Ab Aa)).f0),.string (⟨#[]⟩:ByteArray),.slice none 0 0]) ?_ 1 _ rfl;refine y11 (cs:=#[.int .i64 0,.string (⟨#[]⟩:ByteArray),.slice none 0 0]) ?_ 0 _ rfl;(with_reducible repeat(first|refine y9 ?_ _|refine y8 ?_|refine y5 ?_ _));exact Ak.out) hg (Kd.R_ne Au.out Ak.out (by decide)));replace HB:=y0.mk (hb);have Dk:=y0.mk (ho);clear Au;clear ho hb hg hat))
      go_roundg k1
      case measure=>have:=Cu.out;omega
      exact⟨(Dh),(wrap64 (Aa + 1)),qy2,H',⟨by have:=Cu.out;omega⟩,⟨qR Dk.out⟩,⟨qR Ar.out⟩,⟨qk Ag.out⟩,⟨qb⟩⟩
    ·rw [if_neg Ct]at H
     have De:(((y19 Ac (rd Ab Aa)).f0) == 1)=false:=beq_eq_false_iff_ne.mpr Ct
     have Df:(((y19 Ac (rd Ab Aa)).f0) != 1)=true:=bne_iff_ne.mpr Ct
     have H':=y0.mk H
     clear H
     have Bb:0≤(Aa:Int):=qd
     have Bc:Aa < (Ab.length:Int):=qd
     obtain⟨Cf,Bs,Bi⟩:=Kd.at_int (Kd.R_reads' Ar.out).2.2 Aa Bb Bc
     cases Bs
     replace Bb:=eq_true Bb
     replace Bc:=eq_true Bc
     obtain⟨Eu,Ew,Ex,Ey,Ez,Fa,Fb,Fc,Fd,Fe⟩:=qz5 Ag.out
     have Bd:0≤((rd Ab Aa):Int):=qd
     have Be:(rd Ab Aa) < (Ac.length:Int):=qd
     obtain⟨Bt,Am,Ap,Bu,Ah,Ai,Aj,As,At⟩:=at_T63 Bh.out (rd Ab Aa) Bd Be
     cases Bu
     replace Ah:=qC Ah HB
     replace Ai:=qC Ai HB
     replace Aj:=qC Aj HB
     have Bj:=y0.mk At
     have Bk:=y0.mk As
     clear At As
     replace Bd:=eq_true Bd
     replace Be:=eq_true Be
     go_wp2_with (first|((with_reducible refine y16 (N:=8) rfl ?_);refine qe 8 #[.int .i64 0,.string (⟨#[]⟩:ByteArray),.slice none 0 0] 63 ?_;intro Af hg Gz hbox hb;replace Au:=y0.mk (Kd.R_below (qR Au.out) hb);replace Ar:=y0.mk (Kd.R_below (qR Ar.out) hb);have Ak:=y0.mk (hbox);have Cg:=y0.mk (qg (w:=w) hg);have Ch:=y0.mk (qg (w:=w) hg);replace HB:=y0.mk (y4 qb hb);have Ad:=y0.mk (qn Ag.out hg);have Av:=y0.mk (qm Ag.out hg);replace Ag:=y0.mk (qK Ag.out hb);clear hb hbox hg;have Gi:=Av.out;have Gj:=Ad.out;obtain⟨Ff,Fg,Fh,Fi,Fj,Fk⟩:=qz3 Ak.out))
     go_roundg k1
     case measure=>have:=Cu.out;omega
     exact⟨(Ba),(wrap64 (Aa + 1)),qy2,H',⟨by have:=Cu.out;omega⟩,⟨qR (Kd.R_mono (qfR Af (Kd.R_types Au.out Ak.out (by decide)) (.int .i64 ((y19 Ac (rd Ab Aa)).f0)) (.string ((y19 Ac (rd Ab Aa)).f1)) (.slice Am ((y19 Ac (rd Ab Aa)).f2).length Ap)) (fun _ hk=>trivial))⟩,⟨qR (Kd.R_mono (qfR Af (Kd.R_types Ar.out Ak.out (by decide)) (.int .i64 ((y19 Ac (rd Ab Aa)).f0)) (.string ((y19 Ac (rd Ab Aa)).f1)) (.slice Am ((y19 Ac (rd Ab Aa)).f2).length Ap)) (fun _ hk=>trivial))⟩,⟨by(with_reducible repeat(first|refine y9 ?_ _|refine y8 ?_|refine y5 ?_ _));refine y10 ?_ Ad.out _;refine y10 ?_ Ad.out _;refine y10 ?_ Ad.out _;(with_reducible repeat(first|refine y9 ?_ _|refine y8 ?_|refine y5 ?_ _));exact Ag.out⟩,⟨qb⟩⟩
   ·rw [if_neg Cv]at H
    have Dd:=decide_eq_false Cv
    clear Cv
    obtain rfl:=Option.some.inj H
    go_wp2
    go_ret
    exact⟨_,by first|rfl|(simp [y12,y13] <;> rfl)|(simp [*,y12,y13] <;> rfl),by(with_reducible repeat(first|apply Kd.R_alloc|apply Kd.R_drewN|apply Kd.R_drew));exact Au.out,qb⟩
mutual
def impl_Rule_plain.l0:Nat→List Int→List Int→Int→Int→List (S63)→Int→ByteArray→List Int→List (S33)→Option (List Int)
 | 0,_,_,_,_,_,_,_,_,_=>none
 | k + 1,x5,Al,An,Ae,Ao,Aq,By,Di,Du=>if Ae < An then(if 0≤Ae then(if Ae < (Al.length:Int)then((impl_Rule_plain.f k Ao Aq By Di Du (rd Al Ae)).bind fun Ea=>(if x5.length + Ea.length < 17592186044416 then(impl_Rule_plain.l0 k (x5 ++ Ea) Al An (wrap64 (Ae + 1)) Ao Aq By Di Du)else(none)))else(none))else(none))else((slices_Sort_int_int.f x5).bind fun Fd=>(some Fd))
def impl_Rule_plain.f:Nat→List (S63)→Int→ByteArray→List Int→List (S33)→Int→Option (List Int)
 | 0,_,_,_,_,_,_=>none
 | k + 1,Ae,Al,An,Ao,Aq,a1=>(some (([a1]:List Int):List Int)).bind fun y551=>(if 0≤a1 then(if a1 < (Ae.length:Int)then((impl_isSum.f ((y19 Ae a1).f0)).bind fun By=>(if By=true then((slices_Sort_int_int.f y551).bind fun Di=>(some Di))else(impl_Rule_plain.l0 k y551 ((y19 Ae a1).f2) (((y19 Ae a1).f2).length:Int) 0 Ae Al An Ao Aq)))else(none))else(none))
end
theorem impl_Rule_plain.calls (k:Nat):∀(Bo:Option Addr) (Be:Nat) (Aa:List (S63)) (Ar:Int) (As:ByteArray) (Bf:Option Addr) (Bg:Nat) (Ah:List Int) (Bh:Option Addr) (Bi:Nat) (Ai:List (S33)) (a1:Int) (r:List Int) (w:World) (Bp:Kd.C k63 w Bo Aa.length Aa) (Bq:Aa.length≤Be) (Br:Kd.C (Kd.int .i64) w Bf Ah.length Ah) (Bs:Ah.length≤Bg) (Bt:Kd.C k33 w Bh Ai.length Ai) (Bu:Ai.length≤Bi) (h:impl_Rule_plain.f k Aa Ar As Ah Ai a1=some r),
  Calls Try.prog 73 #[.agg #[.slice Bo Aa.length Be,.int .i64 Ar,.string As,.slice Bf Ah.length Bg,.slice Bh Ai.length Bi],.int .i64 a1] w fun e w'=>∃ v0_:Value,e=.returned (v0_)∧Kd.R (Kd.int .i64) 3 w' w.heap.size (fun _=>True) v0_ r∧Below w.heap.size w w':=by
 induction k using Nat.strongRecOn with
 | _ k ih =>
 intro Bo Be Aa Ar As Bf Bg Ah Bh Bi Ai a1 r w Bp Bq Br Bs Bt Bu h
 cases k with
 | zero=>exact absurd h (by simp [impl_Rule_plain.f])
 | succ k =>
 simp only [impl_Rule_plain.f]at h
 have Fj:=Try.underlying36
 have Bj:=y0.mk Bp
 have Dd:=y0.mk Bq
 clear Bp Bq
 have De:=y0.mk Br
 have Df:=y0.mk Bs
 clear Br Bs
 have Dg:=y0.mk Bt
 have Dh:=y0.mk Bu
 clear Bt Bu
 have HB:=y0.mk (Below.refl w.heap.size w)
 have H:((some (([a1]:List Int):List Int)).bind fun Aw=>(if 0≤a1 then(if a1 < (Aa.length:Int)then((impl_isSum.f ((y19 Aa a1).f0)).bind fun Bv=>(if Bv=true then((slices_Sort_int_int.f Aw).bind fun Bw=>(some Bw))else(impl_Rule_plain.l0 k Aw ((y19 Aa a1).f2) (((y19 Aa a1).f2).length:Int) 0 Aa Ar As Ah Ai)))else(none))else(none)))=some r:=h
 clear h
 obtain⟨Aw,Az⟩:∃ y_:List Int,y_=(([a1]:List Int)):=⟨_,rfl⟩
 replace H:(if 0≤a1 then(if a1 < (Aa.length:Int)then((impl_isSum.f ((y19 Aa a1).f0)).bind fun Bv=>(if Bv=true then((slices_Sort_int_int.f Aw).bind fun Bw=>(some Bw))else(impl_Rule_plain.l0 k Aw ((y19 Aa a1).f2) (((y19 Aa a1).f2).length:Int) 0 Aa Ar As Ah Ai)))else(none))else(none))=some r:=by first|exact Az ▸ H|exact Az ▸ (Option.bind_some _ _).symm.trans H
 replace Az:=y0.mk Az
 obtain⟨c3,H⟩:=qo H
 have En:decide (0≤a1)=true:=decide_eq_true c3
 clear c3
 obtain⟨c4,H⟩:=qo H
 have Eo:decide (a1 < (Aa.length:Int))=true:=decide_eq_true c4
 clear c4
 obtain⟨Bv,A5,H⟩:=qB H
 by_cases c6:Bv=true
 ·subst c6
  replace H:=qT H
  obtain⟨Bw,A7,H⟩:=qB H
  obtain rfl:=Option.some.inj H
  go_enter Try.func73,Try.ntmps73
  go_wp2_with (first|((with_reducible refine y16 (N:=2) rfl ?_);refine qe 2 #[.slice Bo Aa.length Be,.int .i64 Ar,.string As,.slice Bf Ah.length Bg,.slice Bh Ai.length Bi] 36 ?_;intro Cs hg w8 hbox hb;have Ab:=y0.mk (hbox);have Di:=y0.mk (qg (w:=w) hg);have Bx:=y0.mk (qg (w:=w) hg);replace HB:=y0.mk (y4 qb hb);clear hb hbox hg)|((with_reducible refine y16 (N:=9) rfl ?_);refine qL (Kd.int .i64) 3 9 ([a1]:List Int) ?_;intro Ep w9 Bz hb hg_ hnew_;clear hg_ hnew_;(first|rw [← Az.out]at Bz|(simp only [Int.reduceToNat]at Bz;rw [← Az.out]at Bz));have Ap:=y0.mk (Kd.R_lower Bz (y3 qb));replace Ab:=y0.mk (qK Ab.out hb);replace HB:=y0.mk (y4 qb hb);clear hb Bz;obtain⟨Dr,Ds,Dt,Du,Dw,Dx,Dy,Dz,Ea,Eb⟩:=qz5 Ab.out;have Ba:0≤(a1:Int):=qd;have Bb:a1 < (Aa.length:Int):=qd;obtain⟨Bl,Ct,Cu,Cv,Ad,Af,Ac,Aj,Ak⟩:=at_T63 Bj.out a1 Ba Bb;cases Cv;replace Ad:=qC Ad HB;replace Af:=qC Af HB;replace Ac:=qC Ac HB;have Cb:=y0.mk Ak;have Cc:=y0.mk Aj;clear Ak Aj;replace Ba:=eq_true Ba;replace Bb:=eq_true Bb)|((with_reducible refine y15 (f:=65) rfl ?_);refine y17 (some 16) rfl rfl Try.func65 (by kernel_rfl) rfl #[.int .i64 ((y19 Aa a1).f0)] rfl qy1 ?_;(with_reducible refine(impl_isSum.calls ((y19 Aa a1).f0) true _ A5.out).mono ?_);rintro e w' ⟨rfl,⟨nd,rfl⟩⟩;refine⟨_,rfl, ?_⟩;obtain⟨Cw,Cx,Eq⟩:=Kd.R_slice Ap.out;subst Eq)|((with_reducible refine y15 (f:=70) rfl ?_);refine y17 (some 36) rfl rfl Try.func70 (by kernel_rfl) rfl #[.slice Cw Aw.length Cx] rfl qy1 ?_;(with_reducible refine(slices_Sort_int_int.calls (fun k_=>some k_=(.slice Cw Aw.length Cx:Value).ownBlock) (.slice Cw Aw.length Cx) Aw Bw w _ (by repeat(first|(with_reducible first|exact HB.out|apply below_alloc|apply pw_below_drewN|apply y2|refine below_set ?_ Bx.out)|exact HB.out)) (by exact Kd.R_tight rfl (qR Ap.out)) A7.out).mono ?_);rintro e Fp ⟨rfl,Dj,hb,hkp⟩;refine⟨_,rfl, ?_⟩;replace Ab:=y0.mk (blk_kept (qk Ab.out) hkp (fun hs_=>(fun e_=>(Kd.R_ne Ap.out Ab.out (by decide)) e_) hs_));replace Ap:=y0.mk (Kd.R_reok rfl Dj (fun k_ e_=>Ap.out.1 k_ e_));replace HB:=y0.mk (hb);(try clear hb);(try clear hkp);(try clear Dj)))
  go_ret
  exact⟨_,by first|rfl|(simp [y12,y13] <;> rfl)|(simp [*,y12,y13] <;> rfl),by(with_reducible repeat(first|apply Kd.R_alloc|apply Kd.R_drewN|apply Kd.R_drew));exact Ap.out,qb⟩
 ·replace c6:=Bool.eq_false_iff.mpr c6
  subst c6
  replace H:=qF H
  have H':=y0.mk H
  clear H
  go_enter Try.func73,Try.ntmps73
  go_wp2_with (first|((with_reducible refine y16 (N:=2) rfl ?_);refine qe 2 #[.slice Bo Aa.length Be,.int .i64 Ar,.string As,.slice Bf Ah.length Bg,.slice Bh Ai.length Bi] 36 ?_;intro Cs hg Fq hbox hb;have Ab:=y0.mk (hbox);have Di:=y0.mk (qg (w:=w) hg);have Bx:=y0.mk (qg (w:=w) hg);replace HB:=y0.mk (y4 qb hb);clear hb hbox hg)|((with_reducible refine y16 (N:=9) rfl ?_);refine qL (Kd.int .i64) 3 9 ([a1]:List Int) ?_;intro Ep Fr Ca hb hg_ hnew_;clear hg_ hnew_;(first|rw [← Az.out]at Ca|(simp only [Int.reduceToNat]at Ca;rw [← Az.out]at Ca));have Ap:=y0.mk (Kd.R_lower Ca (y3 qb));replace Ab:=y0.mk (qK Ab.out hb);replace HB:=y0.mk (y4 qb hb);clear hb Ca;obtain⟨Cd,Ce,Cf,Cg,Ch,Ci,Cj,Ck,Cl,Cm⟩:=qz5 Ab.out;have Ba:0≤(a1:Int):=qd;have Bb:a1 < (Aa.length:Int):=qd;obtain⟨Bl,Ct,Cu,Cv,Ad,Af,Ac,Aj,Ak⟩:=at_T63 Bj.out a1 Ba Bb;cases Cv;replace Ad:=qC Ad HB;replace Af:=qC Af HB;replace Ac:=qC Ac HB;have Cb:=y0.mk Ak;have Cc:=y0.mk Aj;clear Ak Aj;replace Ba:=eq_true Ba;replace Bb:=eq_true Bb)|((with_reducible refine y15 (f:=65) rfl ?_);refine y17 (some 16) rfl rfl Try.func65 (by kernel_rfl) rfl #[.int .i64 ((y19 Aa a1).f0)] rfl qy1 ?_;(with_reducible refine(impl_isSum.calls ((y19 Aa a1).f0) false _ A5.out).mono ?_);rintro e w' ⟨rfl,⟨nd,rfl⟩⟩;refine⟨_,rfl, ?_⟩;have Cn:0≤(a1:Int):=qd;have Cp:a1 < (Aa.length:Int):=qd;obtain⟨Dk,Er,Es,Et,Au,Av,Am,Bm,Bn⟩:=at_T63 Bj.out a1 Cn Cp;obtain rfl:Bl=Dk:=(by injection Et);replace Au:=qC Au HB;replace Av:=qC Av HB;replace Am:=qC Am HB;have Cq:=y0.mk Bn;have Ec:=y0.mk Bm;clear Bn Bm;replace Cn:=eq_true Cn;replace Cp:=eq_true Cp;have ea_:=Option.some.inj (Ac.symm.trans Am);injection ea_ with ea_ en_ ec_;subst ea_;subst ec_;clear en_))
  go_loopg [5,25] k (fun kq v5 Fk w'=>∃(Ax:List Int) (Ag:Int),Fk=.int .i64 Ag∧y0 (impl_Rule_plain.l0 kq Ax ((y19 Aa a1).f2) (((y19 Aa a1).f2).length:Int) Ag Aa Ar As Ah Ai=some r)∧y0 (kq≤k)∧y0 (Kd.R (Kd.int .i64) 3 w' w.heap.size (fun _=>True) v5 Ax)∧y0 (w'.heap[Cs]?=some (.cells #[(.slice (some Bl) Aa.length Be),.int .i64 Ar,.string As,(.slice Bf Ah.length Bg),(.slice Bh Ai.length Bi)] 36 (0,0)))∧y0 (Below w.heap.size w w'))
  case atStart=>exact⟨(Aw),(0),qy2,H',⟨Nat.le_refl _⟩,⟨qR Ap.out⟩,⟨qk Ab.out⟩,⟨qb⟩⟩
  case round =>
   clear H'
   (try clear En Eo c6 Cd Ce Cf Cg Ch Ci Cj Ck Cl Cm Ad Af Ac Au Av Am Ba Cn Bb Cp)
   obtain⟨Ax,Ag,rfl,HA,Eu,At,Ab,HB⟩:=hrel
   cases gk with
   | zero=>exact absurd HA.out (by simp [impl_Rule_plain.l0])
   | succ k1 =>
    have H:=HA.out
    clear HA
    simp only [impl_Rule_plain.l0]at H
    by_cases Dc:Ag < (((y19 Aa a1).f2).length:Int)
    ·rw [if_pos Dc]at H
     have Dl:=decide_eq_true Dc
     clear Dc
     obtain⟨Fd,H⟩:=qo H
     have Fe:decide (0≤Ag)=true:=decide_eq_true Fd
     clear Fd
     obtain⟨Ff,H⟩:=qo H
     have Fg:=decide_eq_true Ff
     clear Ff
     obtain⟨Cr,Fl,H⟩:=qB H
     obtain⟨Fh,H⟩:=qo H
     replace Fh:=y0.mk Fh
     obtain⟨Do,Bc⟩:∃ y_:List Int,y_=(Ax ++ Cr):=⟨_,rfl⟩
     replace H:(impl_Rule_plain.l0 k1 Do ((y19 Aa a1).f2) (((y19 Aa a1).f2).length:Int) (wrap64 (Ag + 1)) Aa Ar As Ah Ai)=some r:=by first|exact Bc ▸ H|exact Bc ▸ (Option.bind_some _ _).symm.trans H
     replace Bc:=y0.mk Bc
     have H':=y0.mk H
     clear H
     have Cy:0≤(Ag:Int):=qd
     have Cz:Ag < (((y19 Aa a1).f2).length:Int):=qd
     obtain⟨Fi,Ew,Ay⟩:=Kd.at_int Cq.out Ag Cy Cz
     cases Ew
     replace Ay:=qC Ay HB
     replace Cy:=eq_true Cy
     replace Cz:=eq_true Cz
     obtain⟨Ed,Ee,Ef,Eg,Eh,Ei,Ej,Ek,El,Em⟩:=qz5 Ab.out
     go_wp2_with (first|((with_reducible refine y15 (f:=73) rfl ?_);refine y17 (some 32) rfl rfl Try.func73 (by kernel_rfl) rfl #[.agg #[.slice (some Bl) Aa.length Be,.int .i64 Ar,.string As,.slice Bf Ah.length Bg,.slice Bh Ai.length Bi],.int .i64 (rd ((y19 Aa a1).f2) Ag)] rfl qy1 ?_;(with_reducible refine(ih k1 (by have:=Eu.out;omega) _ _ Aa Ar As _ _ Ah _ _ Ai (rd ((y19 Aa a1).f2) Ag) Cr _ (qc (Kd.C_below Bj.out HB.out)) Dd.out (qc (Kd.C_below De.out HB.out)) Df.out (qc (Kd.C_below Dg.out HB.out)) Dh.out Fl.out).mono ?_);rintro e Fs ⟨Fm,rfl,Ex,hb⟩;refine⟨_,rfl, ?_⟩;have Bd:=y0.mk (Kd.R_lower (Kd.R_new' Ex (Kd.R_lt (qR At.out))) (y3 qb));replace At:=y0.mk (Kd.R_elder' (qR At.out) (Kd.R_base Ex) hb);replace Ab:=y0.mk (qK Ab.out hb);replace HB:=y0.mk (y4 qb hb);(try clear hb);(try clear Ex);obtain⟨Ey,Ez,Fa⟩:=Kd.R_slice Bd.out;subst Fa)|((with_reducible refine gate_builtin (b:=.append) (xs:=#[.tmp 29,.tmp 32]) rfl ?_);at_builtin;refine Kd.R_append_rows (Kd.int .i64) (w0:=w) w.heap.size rfl (.tmp 29) (.tmp 32) 23 3 (.int .i64 0) 8 rfl Try.underlying23 info3 rfl (by decide) (by omega) u5 Ax Cr _ _ _ (fun k_=>some k_≠(.slice Ey Cr.length Ez:Value).ownBlock) (fun _=>False) rfl rfl ?aO ?aR (fun _ _ h=>h) (fun _ h=>h.elim) ?aF ?aB ?aS ?aL ?_;(case aR=>repeat(first|exact(Kd.R_reads' Bd.out).2.2|(with_reducible refine Kd.C_alloc ?_ _)|(with_reducible refine Kd.C_drewN ?_ _)|(with_reducible refine Kd.C_drew ?_)));(case aB=>exact qb);(case aF=>exact(fun k_ hk=>Kd.fresh' (Kd.R_lt (qR Bd.out)) k_ hk));(case aO=>exact(qR (Kd.R_mono At.out (fun _ hk=>hk.2))));(case aS=>exact(y3 qb));(case aL=>have:=Fh.out;omega);intro Fn Ft ho hb hg hat;rw [← Bc.out]at ho;replace Ab:=y0.mk (blk_grown (qk Ab.out) hg (Kd.R_ne At.out Ab.out (by decide)));replace Bd:=y0.mk (Kd.R_after (ok:=(fun _=>True)) (qR Bd.out) hg hat);replace HB:=y0.mk (hb);have Dq:=y0.mk (ho);clear At;clear ho hb hg hat))
     go_roundg k1
     case measure=>have:=Eu.out;omega
     exact⟨(Do),(wrap64 (Ag + 1)),qy2,H',⟨by have:=Eu.out;omega⟩,⟨qR (Kd.R_mono Dq.out (fun _ hk=>trivial))⟩,⟨qk Ab.out⟩,⟨qb⟩⟩
    ·rw [if_neg Dc]at H
     have Dl:=decide_eq_false Dc
     clear Dc
     obtain⟨Fb,Fo,H⟩:=qB H
     obtain rfl:=Option.some.inj H
     obtain⟨Da,Db,Fc⟩:=Kd.R_slice At.out
     subst Fc
     go_wp2_with (first|((with_reducible refine y15 (f:=70) rfl ?_);refine y17 (some 36) rfl rfl Try.func70 (by kernel_rfl) rfl #[.slice Da Ax.length Db] rfl qy1 ?_;(with_reducible refine(slices_Sort_int_int.calls (fun k_=>some k_=(.slice Da Ax.length Db:Value).ownBlock) (.slice Da Ax.length Db) Ax Fb w _ (by repeat(first|(with_reducible first|exact HB.out|apply below_alloc|apply pw_below_drewN|apply y2|refine below_set ?_ Bx.out)|exact HB.out)) (by exact Kd.R_tight rfl (qR At.out)) Fo.out).mono ?_);rintro e Fu ⟨rfl,Dj,hb,hkp⟩;refine⟨_,rfl, ?_⟩;replace Ab:=y0.mk (blk_kept (qk Ab.out) hkp (fun hs_=>(fun e_=>(Kd.R_ne At.out Ab.out (by decide)) e_) hs_));replace At:=y0.mk (Kd.R_reok rfl Dj (fun k_ e_=>At.out.1 k_ e_));replace HB:=y0.mk (hb);(try clear hb);(try clear hkp);(try clear Dj)))
     go_ret
     exact⟨_,by first|rfl|(simp [y12,y13] <;> rfl)|(simp [*,y12,y13] <;> rfl),by(with_reducible repeat(first|apply Kd.R_alloc|apply Kd.R_drewN|apply Kd.R_drew));exact At.out,qb⟩
def impl_Rule_isPattern_1.f (a0:Int) (Ae:List (S63)) (a1_1:Int) (a1_2:ByteArray) (l1_3:List Int) (l1_4:List (S33)):Option (Bool):=if 0≤a0 then(if a0 < (Ae.length:Int)then((impl_isSum.f ((y19 Ae a0).f0)).bind fun Al=>(some Al))else(none))else(none)
theorem impl_Rule_isPattern_1.calls (a0:Int) (At:Option Addr) (Au:Nat) (Aa:List (S63)) (Av:Int) (Aw:ByteArray) (Ax:Option Addr) (Ay:Nat) (Ad:List Int) (Az:Option Addr) (Ba:Nat) (Af:List (S33)) (g1:Nat) (r:Bool) (w:World) (Ag:Kd.C k63 w At Aa.length Aa) (Ah:Aa.length≤Au) (Ai:Kd.C (Kd.int .i64) w Ax Ad.length Ad) (Aj:Ad.length≤Ay) (Ak:Kd.C k33 w Az Af.length Af) (Am:Af.length≤Ba) (Bb:w.heap[g1]?=some (.cells #[.slice At Aa.length Au,.int .i64 Av,.string Aw,.slice Ax Ad.length Ay,.slice Az Af.length Ba] 36 (0,0))) (h:impl_Rule_isPattern_1.f a0 Aa Av Aw Ad Af=some r) :
  Calls Try.prog 90 #[.int .i64 a0,.pointer (some ⟨g1,0,none⟩)] w fun e w'=>e=.returned (.bool r)∧Drawn0 w w':=by
 have Bc:=y0.mk Ag
 have Bv:=y0.mk Ah
 clear Ag Ah
 have Bw:=y0.mk Ai
 have Bx:=y0.mk Aj
 clear Ai Aj
 have Bz:=y0.mk Ak
 have Ca:=y0.mk Am
 clear Ak Am
 replace Bb:=y0.mk Bb
 have H:(if 0≤a0 then(if a0 < (Aa.length:Int)then((impl_isSum.f ((y19 Aa a0).f0)).bind fun Ap=>(some Ap))else(none))else(none))=some r:=h
 clear h
 obtain⟨c3,H⟩:=qo H
 have Cd:decide (0≤a0)=true:=decide_eq_true c3
 clear c3
 obtain⟨c4,H⟩:=qo H
 have Ce:decide (a0 < (Aa.length:Int))=true:=decide_eq_true c4
 clear c4
 obtain⟨Ap,A5,H⟩:=qB H
 obtain rfl:=Option.some.inj H
 obtain⟨Bi,Bj,Bk,Bl,Bm,Bn,Bo,Bp,Bq,Br⟩:=qz5 Bb.out
 have Ar:0≤(a0:Int):=qd
 have As:a0 < (Aa.length:Int):=qd
 obtain⟨Cb,Bs,Bt,Bu,Bd,Be,Bf,Ab,Ac⟩:=at_T63 Bc.out a0 Ar As
 cases Bu
 have Bg:=y0.mk Ac
 have Bh:=y0.mk Ab
 clear Ac Ab
 replace Ar:=eq_true Ar
 replace As:=eq_true As
 go_enter Try.func90,Try.ntmps90
 go_wp2_with (first|((with_reducible refine y15 (f:=65) rfl ?_);refine y17 (some 10) rfl rfl Try.func65 (by kernel_rfl) rfl #[.int .i64 ((y19 Aa a0).f0)] rfl qy1 ?_;(with_reducible refine(impl_isSum.calls ((y19 Aa a0).f0) Ap _ A5.out).mono ?_);rintro e w' ⟨rfl,⟨nd,rfl⟩⟩;refine⟨_,rfl, ?_⟩))
 go_ret
 exact qf2
def z2_.g (Ae:List (S63)) (Al:Int) (An:ByteArray) (Ao:List Int) (Aq:List (S33)) (x:Int):Bool:=(impl_Rule_isPattern_1.f x Ae Al An Ao Aq).getD false
def z2_.f (k:Nat) (Ae:List (S63)) (Al:Int) (An:ByteArray) (Ao:List Int) (Aq:List (S33)) (a1:Int):Option Bool :=
 (impl_Rule_within.f k Ae Al An Ao Aq a1).bind fun xs=>if xs.length≤1099511627776∧(xs.all fun x=>(impl_Rule_isPattern_1.f x Ae Al An Ao Aq).isSome)=true then some (!(xs.any (z2_.g Ae Al An Ao Aq)))else none
theorem slices_IndexFunc_isPattern.calls (A0:Option Addr) (c0:Nat) (l0:List Int) (Ap:Option Addr) (Ar:Nat) (Aa:List (S63)) (Ad:Int) (Af:ByteArray) (As:Option Addr) (At:Nat) (Ab:List Int) (Au:Option Addr) (Av:Nat) (Ac:List (S33)) (g1:Nat) (w:World) (Bf:Kd.C (Kd.int .i64) w A0 l0.length l0) (Bi:l0.length≤c0) (Ag:Kd.C k63 w Ap Aa.length Aa) (Ah:Aa.length≤Ar) (Ai:Kd.C (Kd.int .i64) w As Ab.length Ab) (Aj:Ab.length≤At) (Ak:Kd.C k33 w Au Ac.length Ac) (Am:Ac.length≤Av) (Aw:w.heap[g1]?=some (.cells #[.slice Ap Aa.length Ar,.int .i64 Ad,.string Af,.slice As Ab.length At,.slice Au Ac.length Av] 36 (0,0)))
  (hn:l0.length≤1099511627776) (hg:∀ x∈l0,(impl_Rule_isPattern_1.f x Aa Ad Af Ab Ac).isSome=true) :
  Calls Try.prog 92 #[.slice A0 l0.length c0,.func (.func 90) #[] #[.pointer (some ⟨g1,0,none⟩)]] w fun e w'=>∃ r:Int,e=.returned (.int .i64 r)∧decide (r≥0)=l0.any (z2_.g Aa Ad Af Ab Ac)∧Below w.heap.size w w':=by
 have hlt:=(Array.getElem?_eq_some_iff.1 Aw).1
 replace Bf:=y0.mk Bf
 replace Ag:=y0.mk Ag
 replace Ah:=y0.mk Ah
 replace Ai:=y0.mk Ai
 replace Aj:=y0.mk Aj
 replace Ak:=y0.mk Ak
 replace Am:=y0.mk Am
 replace Aw:=y0.mk Aw
 have HN:=y0.mk hn
 have HG:=y0.mk hg
 clear hn hg Bi
 have HB:=y0.mk (Below.refl w.heap.size w)
 go_enter Try.func92,Try.ntmps92
 go_wp2
 go_loopg [8] l0.length (fun kq v8 w'=>∃(xi:Int) (i:Nat),v8=.int .i64 xi∧y0 (xi=(i:Int))∧y0 (kq + i=l0.length)∧y0 (l0.any (z2_.g Aa Ad Af Ab Ac)=(l0.drop i).any (z2_.g Aa Ad Af Ab Ac))∧y0 (Below w.heap.size w w'))
 case atStart=>exact⟨0,0,rfl,⟨rfl⟩,⟨Nat.add_zero _⟩,⟨by rw [List.drop_zero]⟩,⟨qb⟩⟩
 case round =>
  obtain⟨xi,i,rfl,HXI,HK,HD,HB⟩:=hrel
  by_cases c3:xi < (l0.length:Int)
  ·have Bd:decide (xi < (l0.length:Int))=true:=decide_eq_true c3
   have hi:i < l0.length:=by have:=HXI.out;omega
   have p1:0≤xi:=by have:=HXI.out;omega
   have rg:rd l0 xi=l0[i]:=by rw [HXI.out];unfold rd;rw [show((i:Int)).toNat=i from rfl,List.getD_eq_getElem?_getD,List.getElem?_eq_getElem hi];rfl
   obtain⟨ad,e1,hx⟩:=Kd.at_int Bf.out xi p1 c3
   cases e1
   rw [rg]at hx
   replace hx:=qC hx HB
   obtain⟨b,Be⟩:=Option.isSome_iff_exists.1 (HG.out _ (List.getElem_mem hi))
   have Bg:z2_.g Aa Ad Af Ab Ac l0[i]=b:=by unfold z2_.g;rw [Be];rfl
   have HDn:y0 (l0.any (z2_.g Aa Ad Af Ab Ac)=(b || (l0.drop (i + 1)).any (z2_.g Aa Ad Af Ab Ac))):=⟨by rw [HD.out,List.drop_eq_getElem_cons hi,List.any_cons,Bg]⟩
   have Bh:=y0.mk Be
   have HI:=y0.mk hi
   clear Be Bg rg HD
   generalize l0[i]=x0 at hx Bh
   clear hi
   replace p1:=eq_true p1
   replace c3:=eq_true c3
   have step:∀(w1:World),Below w.heap.size w w1→Calls Try.prog 90 #[.int .i64 x0,.pointer (some ⟨g1,0,none⟩)] w1 fun e w'=>e=.returned (.bool b)∧Below w1.heap.size w1 w':=by
    intro w1 hb
    refine(impl_Rule_isPattern_1.calls x0 Ap Ar Aa Ad Af As At Ab Au Av Ac g1 b w1 (Kd.C_below Ag.out hb) Ah.out (Kd.C_below Ai.out hb) Aj.out (Kd.C_below Ak.out hb) Am.out ((hb.block g1 hlt).trans Aw.out) Bh.out).mono ?_
    rintro e w2 ⟨rfl,hd⟩
    exact⟨rfl,hd.below⟩
   replace step:=y0.mk step
   cases b with
   | true =>
    go_wp2_with (first|(go_at_call 90;(with_reducible refine(step.out _ qb).mono ?_);rintro e w8 ⟨rfl,hb⟩;have n0_:=y0.mk (y4 qb hb);clear HB hb;have HB:=n0_;clear n0_))
    go_ret
    exact⟨xi,by first|rfl|(simp [y12,y13] <;> rfl),by rw [HDn.out,Bool.true_or];exact decide_eq_true (by have:=HXI.out;omega),qb⟩
   | false =>
    go_wp2_with (first|(go_at_call 90;(with_reducible refine(step.out _ qb).mono ?_);rintro e w9 ⟨rfl,hb⟩;have n0_:=y0.mk (y4 qb hb);clear HB hb;have HB:=n0_;clear n0_))
    go_roundg (l0.length - i - 1)
    case measure=>have:=HK.out;have:=HI.out;omega
    exact⟨wrap64 (xi + 1),i + 1,qy2,⟨by rw [HXI.out];exact QIv.step_u (by have:=HN.out;have:=HI.out;omega)⟩,⟨by have:=HI.out;omega⟩,⟨by rw [HDn.out,Bool.false_or]⟩,⟨qb⟩⟩
  ·have Bd:decide (xi < (l0.length:Int))=false:=decide_eq_false c3
   have hd:l0.drop i=[]:=List.drop_of_length_le (by have:=HXI.out;have:=HK.out;omega)
   have HE:y0 (l0.any (z2_.g Aa Ad Af Ab Ac)=false):=⟨by rw [HD.out,hd];rfl⟩
   clear hd
   go_wp2
   go_ret
   exact⟨-1,by first|rfl|(simp [y12,y13] <;> rfl),by rw [HE.out];rfl,qb⟩
theorem slices_ContainsFunc_isPattern.calls (A0:Option Addr) (c0:Nat) (l0:List Int) (Aj:Option Addr) (Ak:Nat) (Aa:List (S63)) (Ad:Int) (Af:ByteArray) (Am:Option Addr) (Ap:Nat) (Ab:List Int) (Ar:Option Addr) (As:Nat) (Ac:List (S33)) (g1:Nat) (w:World) (Ax:Kd.C (Kd.int .i64) w A0 l0.length l0) (Ay:l0.length≤c0) (Ag:Kd.C k63 w Aj Aa.length Aa) (At:Aa.length≤Ak) (Ah:Kd.C (Kd.int .i64) w Am Ab.length Ab) (Au:Ab.length≤Ap) (Ai:Kd.C k33 w Ar Ac.length Ac) (Av:Ac.length≤As) (Aw:w.heap[g1]?=some (.cells #[.slice Aj Aa.length Ak,.int .i64 Ad,.string Af,.slice Am Ab.length Ap,.slice Ar Ac.length As] 36 (0,0)))
  (hn:l0.length≤1099511627776) (hg:∀ x∈l0,(impl_Rule_isPattern_1.f x Aa Ad Af Ab Ac).isSome=true) :
  Calls Try.prog 81 #[.slice A0 l0.length c0,.func (.func 90) #[] #[.pointer (some ⟨g1,0,none⟩)]] w fun e w'=>e=.returned (.bool (l0.any (z2_.g Aa Ad Af Ab Ac)))∧Below w.heap.size w w':=by
 have HC:=y0.mk (slices_IndexFunc_isPattern.calls A0 c0 l0 Aj Ak Aa Ad Af Am Ap Ab Ar As Ac g1 w Ax Ay Ag At Ah Au Ai Av Aw hn hg)
 have HB:=y0.mk (Below.refl w.heap.size w)
 clear hn hg Aw Ax Ag Ah Ai
 go_enter Try.func81,Try.ntmps81
 go_wp2_with (first|(go_at_call 92;(with_reducible refine HC.out.mono ?_);rintro e w8 ⟨r,rfl,hr,hb⟩;have HR:=y0.mk hr;have n0_:=y0.mk (y4 qb hb);clear HB hb hr;have HB:=n0_;clear n0_))
 go_ret
 exact⟨by rw [← HR.out];first|rfl|(simp [y12,y13] <;> rfl),qb⟩
theorem z2_.calls (k:Nat) (Ag:Option Addr) (Ah:Nat) (Aa:List (S63)) (Ad:Int) (Af:ByteArray) (Ai:Option Addr) (Aj:Nat) (Ab:List Int) (Ak:Option Addr) (Am:Nat) (Ac:List (S33)) (a1:Int) (r:Bool) (w:World) (Ba:Kd.C k63 w Ag Aa.length Aa) (Bb:Aa.length≤Ah) (Bc:Kd.C (Kd.int .i64) w Ai Ab.length Ab) (Bd:Ab.length≤Aj) (Be:Kd.C k33 w Ak Ac.length Ac) (Bf:Ac.length≤Am) (h:z2_.f k Aa Ad Af Ab Ac a1=some r) :
  Calls Try.prog 74 #[.agg #[.slice Ag Aa.length Ah,.int .i64 Ad,.string Af,.slice Ai Ab.length Aj,.slice Ak Ac.length Am],.int .i64 a1] w fun e w'=>e=.returned (.bool r)∧Below w.heap.size w w':=by
 unfold z2_.f at h
 obtain⟨xs,E1,h⟩:=Option.bind_eq_some_iff.1 h
 by_cases hc:xs.length≤1099511627776∧(xs.all fun x=>(impl_Rule_isPattern_1.f x Aa Ad Af Ab Ac).isSome)=true
 case neg=>rw [if_neg hc]at h;cases h
 rw [if_pos hc]at h
 obtain rfl:=Option.some.inj h
 clear h
 have HLN:=y0.mk hc.1
 have HAL:=y0.mk (List.all_eq_true.1 hc.2)
 clear hc
 replace E1:=y0.mk E1
 replace Ba:=y0.mk Ba
 replace Bb:=y0.mk Bb
 replace Bc:=y0.mk Bc
 replace Bd:=y0.mk Bd
 replace Be:=y0.mk Be
 replace Bf:=y0.mk Bf
 have HB:=y0.mk (Below.refl w.heap.size w)
 have Bm:=Try.underlying36
 go_enter Try.func74,Try.ntmps74
 go_wp2_with (first
  | ((with_reducible refine y16 (N:=2) rfl ?_);refine qe 2 #[.slice Ag Aa.length Ah,.int .i64 Ad,.string Af,.slice Ai Ab.length Aj,.slice Ak Ac.length Am] 36 ?_;intro gr hg w1 hbox hb;have BKr:=y0.mk (hbox);have GEr:=y0.mk ((by rw [hg];exact HB.out.size:w.heap.size≤gr));replace HB:=y0.mk (y4 HB.out hb);clear hb hg hbox;obtain⟨Ap,Ar,As,At,Au,Av,Aw,Ax,Ay,Az⟩:=QIv.box5 BKr.out)
  | (go_at_call 53;(with_reducible refine(impl_Rule_within.calls k _ _ Aa Ad Af _ _ Ab _ _ Ac a1 xs _ (Kd.C_below Ba.out HB.out) Bb.out (Kd.C_below Bc.out HB.out) Bd.out (Kd.C_below Be.out HB.out) Bf.out E1.out).mono ?_);rintro e w2 ⟨v_,rfl,ho,hb⟩;obtain⟨loX,hiX,hlo_,hhi_,hOX_⟩:=QIv.OR.new ho;obtain⟨AX,cX,eA_⟩:=hOX_.slice;subst eA_;(repeat first|clear Ap|clear Ar|clear As|clear At|clear Au|clear Av|clear Aw|clear Ax|clear Ay|clear Az);have OX:=y0.mk (hOX_);have LX:=y0.mk ((by rw [hhi_];exact Nat.le_refl _:hiX≤_));have BX:=y0.mk ((by rw [hlo_];exact HB.out.size:w.heap.size≤loX));have IX:=y0.mk ((by rw [hlo_,hhi_];exact hb.size:loX≤hiX));have Er_X:=y0.mk ((by rw [hlo_];exact QIv.ki_lt BKr.out:gr < loX));replace BKr:=y0.mk (y6 (g:=gr) (o:=(.cells #[.slice Ag Aa.length Ah,.int .i64 Ad,.string Af,.slice Ai Ab.length Aj,.slice Ak Ac.length Am] 36 (0,0))) BKr.out hb);replace HB:=y0.mk (y4 HB.out hb);(try clear hb);(try clear ho);(try clear hlo_);(try clear hhi_);obtain⟨Ap,Ar,As,At,Au,Av,Aw,Ax,Ay,Az⟩:=QIv.box5 BKr.out)
  | (go_at_call 81;(with_reducible refine(slices_ContainsFunc_isPattern.calls _ _ xs _ _ Aa Ad Af _ _ Ab _ _ Ac gr _ OX.out.C OX.out.le (Kd.C_below Ba.out HB.out) Bb.out (Kd.C_below Bc.out HB.out) Bd.out (Kd.C_below Be.out HB.out) Bf.out BKr.out HLN.out HAL.out).mono ?_);rintro e w3 ⟨rfl,hb⟩;(repeat first|clear Ap|clear Ar|clear As|clear At|clear Au|clear Av|clear Aw|clear Ax|clear Ay|clear Az);replace OX:=y0.mk (OX.out.below hb);replace LX:=y0.mk (Nat.le_trans LX.out hb.size);replace BKr:=y0.mk (y6 (g:=gr) (o:=(.cells #[.slice Ag Aa.length Ah,.int .i64 Ad,.string Af,.slice Ai Ab.length Aj,.slice Ak Ac.length Am] 36 (0,0))) BKr.out hb);replace HB:=y0.mk (y4 HB.out hb);(try clear hb);obtain⟨Ap,Ar,As,At,Au,Av,Aw,Ax,Ay,Az⟩:=QIv.box5 BKr.out))
 go_ret
 exact⟨by first|rfl|(simp [y12,y13] <;> rfl),HB.out⟩
end Go.Proofs.Ytkdabljlfbmpdaa.Pw
end
