-- Cut by prune.py.
import Derived.Test.YtimhlficlhafbaaGreatDoorVvlPvx17
set_option maxHeartbeats 8000000
set_option maxRecDepth 100000
section
namespace Go.Proofs.YtimhlficlhafbaaGreatDoor.Pv
open RowKit YtimhlficlhafbaaGreatDoorW.PrintWords YtimhlficlhafbaaGreatDoorW.PrintLast YtimhlficlhafbaaGreatDoorW.PrintMore
set_option linter.unusedVariables false
set_option linter.unusedSimpArgs false
def z2_.f (k:Nat) (By:List (S67)) (Dd:Int) (De:ByteArray) (Dz:List Int) (Ea:List (S35)) (Em:Int) (Ae:ByteArray) (An:List Int):Option (ByteArray):=if Em=3 then(if 0 < (An.length:Int)then((z0_.f k By Dd De Dz Ea (rd An 0)).bind fun Ao=>(if Ao.size + 1≤9223372036854775807 then(if(Ao ++ (⟨#[32]⟩:ByteArray)).size + Ae.size≤9223372036854775807 then(if((Ao ++ (⟨#[32]⟩:ByteArray)) ++ Ae).size + 1≤9223372036854775807 then(if 1 < (An.length:Int)then((z0_.f k By Dd De Dz Ea (rd An 1)).bind fun Ep=>(if(((Ao ++ (⟨#[32]⟩:ByteArray)) ++ Ae) ++ (⟨#[32]⟩:ByteArray)).size + Ep.size≤9223372036854775807 then(some ((((Ao ++ (⟨#[32]⟩:ByteArray)) ++ Ae) ++ (⟨#[32]⟩:ByteArray)) ++ Ep))else(none)))else(none))else(none))else(none))else(none)))else(none))else(if Em=2 then(if 1 + Ae.size≤9223372036854775807 then(if((⟨#[33]⟩:ByteArray) ++ Ae).size + 1≤9223372036854775807 then((z1_.f k By Dd De Dz Ea An).bind fun Ec=>(if(((⟨#[33]⟩:ByteArray) ++ Ae) ++ (⟨#[40]⟩:ByteArray)).size + Ec.size≤9223372036854775807 then(if((((⟨#[33]⟩:ByteArray) ++ Ae) ++ (⟨#[40]⟩:ByteArray)) ++ Ec).size + 1≤9223372036854775807 then(some (((((⟨#[33]⟩:ByteArray) ++ Ae) ++ (⟨#[40]⟩:ByteArray)) ++ Ec) ++ (⟨#[41]⟩:ByteArray)))else(none))else(none)))else(none))else(none))else(if Ae.size + 1≤9223372036854775807 then((z1_.f k By Dd De Dz Ea An).bind fun Ee=>(if(Ae ++ (⟨#[40]⟩:ByteArray)).size + Ee.size≤9223372036854775807 then(if((Ae ++ (⟨#[40]⟩:ByteArray)) ++ Ee).size + 1≤9223372036854775807 then(some (((Ae ++ (⟨#[40]⟩:ByteArray)) ++ Ee) ++ (⟨#[41]⟩:ByteArray)))else(none))else(none)))else(none)))
def z2_.T3:Bool×List (List Nat×List Nat):=(true,[([],[]),([],[]),([1],[1]),([2],[2]),([3],[3]),([0,4],[0,4]),([5],[5]),([],[]),([7],[7]),([6,8],[6,8]),([9],[9]),([],[]),([],[]),([12],[12]),([13],[13]),([14],[14]),([11,15,5],[11,15]),([10,16],[10,16]),([17,16,0,1,2,3,4,5,6,7,8,9,10,11,12,13,14,15,16,17],[17])])
def z2_.B3:List Nat:=[0,0,2,6,14,31,63,0,128,511,1023,0,0,4096,12288,28672,63551,131071,262143]
theorem z2_.tab3:rtab .any (opsOf Tryz.f53 3)=z2_.T3:=by kernel_rfl
theorem z2_.bits3:waitsOk z2_.T3.2 z2_.B3=true:=by kernel_rfl
def z2_.T5:Bool×List (List Nat×List Nat):=(true,[([],[]),([0],[0]),([1],[1]),([2],[2]),([],[]),([],[]),([5],[5]),([4,6],[4,6]),([3,7],[3,7]),([8],[8]),([9,7,0,1,2,3,4,5,6,7,8,9],[9])])
def z2_.B5:List Nat:=[0,1,3,7,0,0,32,112,255,511,1023]
theorem z2_.tab5:rtab .any (opsOf Tryz.f53 5)=z2_.T5:=by kernel_rfl
theorem z2_.bits5:waitsOk z2_.T5.2 z2_.B5=true:=by kernel_rfl
def z2_.T6:Bool×List (List Nat×List Nat):=(true,[([],[]),([0],[0]),([1],[1]),([],[]),([],[]),([4],[4]),([3,5],[3,5]),([2,6],[2,6]),([7],[7]),([8,6,0,1,2,3,4,5,6,7,8],[8])])
def z2_.B6:List Nat:=[0,1,3,0,0,16,56,127,255,511]
theorem z2_.tab6:rtab .any (opsOf Tryz.f53 6)=z2_.T6:=by kernel_rfl
theorem z2_.bits6:waitsOk z2_.T6.2 z2_.B6=true:=by kernel_rfl
theorem z2_.calls (k:Nat) (Av:Option Addr) (Aw:Nat) (Ai:List (S67)) (Al:Int) (Am:ByteArray) (Ax:Option Addr) (Ay:Nat) (Aj:List Int) (Az:Option Addr) (Ba:Nat) (Ak:List (S35)) (Ap:Int) (Ad:ByteArray) (Bd:Option Addr) (Bb:Nat) (Ac:List Int) (r:ByteArray) (w:World) (Bp:Kd.C k67 w Av Ai.length Ai) (Bq:Ai.length≤Aw) (Br:Kd.C (Kd.int .i64) w Ax Aj.length Aj) (Bs:Aj.length≤Ay) (Bt:Kd.C k35 w Az Ak.length Ak) (Bu:Ak.length≤Ba) (Bv:Kd.C (Kd.int .i64) w Bd Ac.length Ac) (Bw:Ac.length≤Bb) (h:z2_.f k Ai Al Am Aj Ak Ap Ad Ac=some r) :
  Calls Tryz.prog 53 #[.agg #[.slice Av Ai.length Aw,.int .i64 Al,.string Am,.slice Ax Aj.length Ay,.slice Az Ak.length Ba],.agg #[.int .i64 Ap,.string Ad,.slice Bd Ac.length Bb]] w fun e w'=>e=.returned (.string r)∧Below w.heap.size w w':=by
 have Fg:=Tryz.underlying38
 have Fh:=Tryz.underlying35
 have Bh:=y0.mk Bp
 have Bi:=y0.mk Bq
 clear Bp Bq
 have Bj:=y0.mk Br
 have Bk:=y0.mk Bs
 clear Br Bs
 have Bl:=y0.mk Bt
 have Bm:=y0.mk Bu
 clear Bt Bu
 have Bn:=y0.mk Bv
 have Bx:=y0.mk Bw
 clear Bv Bw
 have HB:=y0.mk (Below.refl w.heap.size w)
 have H:(if Ap=3 then(if 0 < (Ac.length:Int)then((z0_.f k Ai Al Am Aj Ak (rd Ac 0)).bind fun Bc=>(if Bc.size + 1≤9223372036854775807 then(if(Bc ++ (⟨#[32]⟩:ByteArray)).size + Ad.size≤9223372036854775807 then(if((Bc ++ (⟨#[32]⟩:ByteArray)) ++ Ad).size + 1≤9223372036854775807 then(if 1 < (Ac.length:Int)then((z0_.f k Ai Al Am Aj Ak (rd Ac 1)).bind fun Bo=>(if(((Bc ++ (⟨#[32]⟩:ByteArray)) ++ Ad) ++ (⟨#[32]⟩:ByteArray)).size + Bo.size≤9223372036854775807 then(some ((((Bc ++ (⟨#[32]⟩:ByteArray)) ++ Ad) ++ (⟨#[32]⟩:ByteArray)) ++ Bo))else(none)))else(none))else(none))else(none))else(none)))else(none))else(if Ap=2 then(if 1 + Ad.size≤9223372036854775807 then(if((⟨#[33]⟩:ByteArray) ++ Ad).size + 1≤9223372036854775807 then((z1_.f k Ai Al Am Aj Ak Ac).bind fun Bf=>(if(((⟨#[33]⟩:ByteArray) ++ Ad) ++ (⟨#[40]⟩:ByteArray)).size + Bf.size≤9223372036854775807 then(if((((⟨#[33]⟩:ByteArray) ++ Ad) ++ (⟨#[40]⟩:ByteArray)) ++ Bf).size + 1≤9223372036854775807 then(some (((((⟨#[33]⟩:ByteArray) ++ Ad) ++ (⟨#[40]⟩:ByteArray)) ++ Bf) ++ (⟨#[41]⟩:ByteArray)))else(none))else(none)))else(none))else(none))else(if Ad.size + 1≤9223372036854775807 then((z1_.f k Ai Al Am Aj Ak Ac).bind fun Bg=>(if(Ad ++ (⟨#[40]⟩:ByteArray)).size + Bg.size≤9223372036854775807 then(if((Ad ++ (⟨#[40]⟩:ByteArray)) ++ Bg).size + 1≤9223372036854775807 then(some (((Ad ++ (⟨#[40]⟩:ByteArray)) ++ Bg) ++ (⟨#[41]⟩:ByteArray)))else(none))else(none)))else(none))))=some r:=h
 clear h
 by_cases c3:Ap=3
 ·rw [if_pos c3]at H
  have Dj:(Ap == 3)=true:=beq_iff_eq.mpr c3
  have Dk:(Ap != 3)=false:=bne_eq_false_iff_eq.mpr c3
  clear c3
  obtain⟨c4,H⟩:=qo H
  have Fi:decide (0 < (Ac.length:Int))=true:=decide_eq_true c4
  have Fj:decide (0 < Ac.length)=true:=decide_eq_true (by omega)
  clear c4
  obtain⟨Bc,A5,H⟩:=qB H
  obtain⟨c6,H⟩:=qo H
  have Fk:=eq_true c6
  have Fl:=decide_eq_true c6
  have Fm:=eq_false (Nat.not_lt.2 c6)
  obtain⟨c7,H⟩:=qo H
  have Fn:=eq_true c7
  have Fo:=decide_eq_true c7
  have Dl:=eq_false (Nat.not_lt.2 c7)
  have Fp:(9223372036854775807 < Bc.size + 1 + Ad.size)=False:=qs Dl
  obtain⟨c8,H⟩:=qo H
  have Fq:=eq_true c8
  have Fr:=decide_eq_true c8
  have Dm:=eq_false (Nat.not_lt.2 c8)
  have Fs:(9223372036854775807 < Bc.size + 1 + Ad.size + 1)=False:=qs Dm
  obtain⟨c9,H⟩:=qo H
  have Ft:decide (1 < (Ac.length:Int))=true:=decide_eq_true c9
  have Fu:decide (1 < Ac.length)=true:=decide_eq_true (by omega)
  clear c9
  obtain⟨Bo,Fv,H⟩:=qB H
  obtain⟨Do,H⟩:=qo H
  have Dy:=eq_true Do
  have Dz:=decide_eq_true Do
  have Ci:=eq_false (Nat.not_lt.2 Do)
  have Ea:(9223372036854775807 < Bc.size + 1 + Ad.size + 1 + Bo.size)=False:=qs Ci
  obtain rfl:=Option.some.inj H
  go_enter Tryz.func53,Tryz.ntmps53
  try go_wp2_with (first|((with_reducible refine y19 (N:=2) rfl ?_);refine qe 2 #[.slice Av Ai.length Aw,.int .i64 Al,.string Am,.slice Ax Aj.length Ay,.slice Az Ak.length Ba] 38 ?_;intro Af hg Gc hbox hb;have Aa:=y0.mk (hbox);have Bz:=y0.mk (qg (w:=w) hg);have Ca:=y0.mk (qg (w:=w) hg);replace HB:=y0.mk (y5 qb hb);clear hb hbox hg)|((with_reducible refine y19 (N:=3) rfl ?_);refine qe 3 #[.int .i64 Ap,.string Ad,.slice Bd Ac.length Bb] 35 ?_;intro Au hg Fx hbox hb;have Ab:=y0.mk (hbox);have Cb:=y0.mk (qg (w:=w) hg);have Cc:=y0.mk (qg (w:=w) hg);replace HB:=y0.mk (y5 qb hb);have Aq:=y0.mk (qn Aa.out hg);have Ar:=y0.mk (qm Aa.out hg);replace Aa:=y0.mk (qK Aa.out hb);clear hb hbox hg;have Eb:=Ar.out;have Ec:=Aq.out;obtain⟨Cr,Cs,Ct,Cu,Cv,Cw⟩:=qz3 Ab.out))
  replace Aa:=y0.mk (y9 Aa.out)
  replace Ab:=y0.mk (y9 Ab.out)
  replace HB:=y0.mk (below_drew1 HB.out)
  have Cd:0≤(0:Int):=(by omega)
  have Ce:0 < (Ac.length:Int):=qd
  obtain⟨Be,Dp,As⟩:=Kd.at_int Bn.out 0 Cd Ce
  have Ag:=As
  (try rw [show((0:Int)).toNat=0 from rfl]at Ag)
  (try rw [show 0 * 1=0 from rfl]at Ag)
  (try rw [Addr.add_zero']at Ag)
  cases Dp
  have Ed:(0 < Ac.length)=True:=eq_true (by omega)
  (try rw [show((0:Int)).toNat=0 from rfl]at As)
  (try rw [Addr.add_zero']at As)
  replace As:=qC As HB
  replace Cd:=eq_true Cd
  replace Ce:=eq_true Ce
  have Cf:0≤(1:Int):=(by omega)
  have Cg:1 < (Ac.length:Int):=qd
  obtain⟨Cj,Dq,At⟩:=Kd.at_int Bn.out 1 Cf Cg
  have Ah:=At
  (try rw [show((1:Int)).toNat=1 from rfl]at Ah)
  (try rw [show 1 * 1=1 from rfl]at Ah)
  (try simp only [Nat.reduceMul,Nat.reduceEqDiff,Go.Addr.add,↓reduceIte]at Ah)
  obtain rfl:Be=Cj:=(by injection Dq)
  (try simp only [show(1:Int).toNat=1 from rfl,Nat.reduceMul,Nat.reduceEqDiff,Go.Addr.add,↓reduceIte]at At)
  have Ee:(1 < Ac.length)=True:=eq_true (by omega)
  (try rw [show((1:Int)).toNat=1 from rfl]at At)
  replace At:=qC At HB
  replace Cf:=eq_true Cf
  replace Cg:=eq_true Cg
  refine start_ (n:=19) (S:=fun w'=>w'.cell? ⟨Af,0,none⟩=some (.slice Av Ai.length Aw)∧w'.cell? ⟨Af,1,none⟩=some (.int .i64 Al)∧w'.cell? ⟨Af,2,none⟩=some (.string Am)∧w'.cell? ⟨Af,3,none⟩=some (.slice Ax Aj.length Ay)∧w'.cell? ⟨Af,4,none⟩=some (.slice Az Ak.length Ba)∧w'.cell? ⟨Au,0,none⟩=some (.int .i64 Ap)∧w'.cell? ⟨Au,1,none⟩=some (.string Ad)∧w'.cell? ⟨Au,2,none⟩=some (.slice (some Be) Ac.length Bb)∧w'.cell? Be=some (.int .i64 (rd Ac 0))∧w'.cell? ⟨Be.block,Be.off + 1,none⟩=some (.int .i64 (rd Ac 1))) (ds:=[]) (fl_ 19 0) (by kernel_rfl) rfl rfl ⟨(y8 Aa.out 0).trans rfl,(y8 Aa.out 1).trans rfl,(y8 Aa.out 2).trans rfl,(y8 Aa.out 3).trans rfl,(y8 Aa.out 4).trans rfl,(y8 Ab.out 0).trans rfl,(y8 Ab.out 1).trans rfl,(y8 Ab.out 2).trans rfl,(qC Ag HB),(qC Ah HB)⟩ (fun hHeld=>?_);refine with_tabW z2_.tab3 z2_.bits3 (fun HT_ HW_=>?_)
  generalize Fx.drew=Gd at Aa Ab HB As At hHeld ⊢
  refine qp 1 10 (fl_ 19 2) ?_
  refine qp 7 16 (fl_ 19 130) ?_
  refine qp 12 21 (fl_ 19 4226) ?_
  refine qt 0 9 (fl_ 19 4227) hHeld ?_
  refine qt 2 11 (fl_ 19 4231) hHeld ?_
  refine qp 3 12 (fl_ 19 4239) ?_
  refine qt 4 13 (fl_ 19 4255) hHeld ?_
  refine qt 8 17 (fl_ 19 4511) hHeld ?_
  refine qt 11 20 (fl_ 19 6559) hHeld ?_
  refine qt 13 22 (fl_ 19 14751) hHeld ?_
  refine qp 14 23 (fl_ 19 31135) ?_
  refine qt 15 24 (fl_ 19 63903) hHeld ?_
  refine qO 5 14 (fl_ 19 63935) (fun K hK=>?_)
  refine goes_ Tryz.func69 (by kernel_rfl) rfl #[.agg #[.slice Av Ai.length Aw,.int .i64 Al,.string Am,.slice Ax Aj.length Ay,.slice Az Ak.length Ba],.int .i64 (rd Ac 0)] (by rfl) rfl rfl qy1 ?_
  with_reducible refine(z0_.calls k _ _ Ai Al Am _ _ Aj _ _ Ak (rd Ac 0) Bc _ (qc (Kd.C_below Bh.out HB.out)) Bi.out (qc (Kd.C_below Bj.out HB.out)) Bk.out (qc (Kd.C_below Bl.out HB.out)) Bm.out A5.out).mono ?_
  rintro e Ge ⟨rfl,hb⟩
  refine⟨_,rfl, ?_⟩
  replace Aa:=y0.mk (qK Aa.out hb)
  replace Ab:=y0.mk (qK Ab.out hb)
  replace HB:=y0.mk (y5 qb hb)
  (try clear hb)
  refine hK.out _ _ ⟨(y8 Aa.out 0).trans rfl,(y8 Aa.out 1).trans rfl,(y8 Aa.out 2).trans rfl,(y8 Aa.out 3).trans rfl,(y8 Aa.out 4).trans rfl,(y8 Ab.out 0).trans rfl,(y8 Ab.out 1).trans rfl,(y8 Ab.out 2).trans rfl,(qC Ag HB),(qC Ah HB)⟩ (fun hHeld=>?_)
  clear hK K
  refine qx 14 ?_
  refine qp 6 15 (fl_ 19 63999) ?_
  refine qp 9 18 (fl_ 19 64511) ?_
  refine qp 10 19 (fl_ 19 65535) ?_
  refine qO 16 25 (fl_ 19 131071) (fun K hK=>?_)
  refine goes_ Tryz.func69 (by kernel_rfl) rfl #[.agg #[.slice Av Ai.length Aw,.int .i64 Al,.string Am,.slice Ax Aj.length Ay,.slice Az Ak.length Ba],.int .i64 (rd Ac 1)] (by rfl) rfl rfl qy1 ?_
  with_reducible refine(z0_.calls k _ _ Ai Al Am _ _ Aj _ _ Ak (rd Ac 1) Bo _ (qc (Kd.C_below Bh.out HB.out)) Bi.out (qc (Kd.C_below Bj.out HB.out)) Bk.out (qc (Kd.C_below Bl.out HB.out)) Bm.out Fv.out).mono ?_
  rintro e Gf ⟨rfl,hb⟩
  refine⟨_,rfl, ?_⟩
  replace Aa:=y0.mk (qK Aa.out hb)
  replace Ab:=y0.mk (qK Ab.out hb)
  replace HB:=y0.mk (y5 qb hb)
  (try clear hb)
  refine hK.out _ _ ⟨(y8 Aa.out 0).trans rfl,(y8 Aa.out 1).trans rfl,(y8 Aa.out 2).trans rfl,(y8 Aa.out 3).trans rfl,(y8 Aa.out 4).trans rfl,(y8 Ab.out 0).trans rfl,(y8 Ab.out 1).trans rfl,(y8 Ab.out 2).trans rfl,(qC Ag HB),(qC Ah HB)⟩ (fun hHeld=>?_)
  clear hK K
  refine qx 25 ?_
  refine qp 17 26 (fl_ 19 262143) ?_
  refine qp 18 4 (fl_ 19 524287) ?_
  refine done_ (done_of HT_.out (by kernel_rfl)) ?_
  try go_wp2
  go_ret
  exact⟨qf,qb⟩
 ·rw [if_neg c3]at H
  have Dj:(Ap == 3)=false:=beq_eq_false_iff_ne.mpr c3
  have Dk:(Ap != 3)=true:=bne_iff_ne.mpr c3
  by_cases Ch:Ap=2
  ·rw [if_pos Ch]at H
   have Ck:(Ap == 2)=true:=beq_iff_eq.mpr Ch
   have Cl:(Ap != 2)=false:=bne_eq_false_iff_eq.mpr Ch
   clear Ch
   obtain⟨Dr,H⟩:=qo H
   have Ef:=eq_true Dr
   have Eg:=decide_eq_true Dr
   have Eh:=eq_false (Nat.not_lt.2 Dr)
   obtain⟨Ds,H⟩:=qo H
   have Ei:=eq_true Ds
   have Ej:=decide_eq_true Ds
   have Cm:=eq_false (Nat.not_lt.2 Ds)
   have Ek:(9223372036854775807 < 1 + Ad.size + 1)=False:=qs Cm
   obtain⟨Bf,Fy,H⟩:=qB H
   obtain⟨Dt,H⟩:=qo H
   have El:=eq_true Dt
   have Em:=decide_eq_true Dt
   have Cn:=eq_false (Nat.not_lt.2 Dt)
   have En:(9223372036854775807 < 1 + Ad.size + 1 + Bf.size)=False:=qs Cn
   obtain⟨Du,H⟩:=qo H
   have Eo:=eq_true Du
   have Ep:=decide_eq_true Du
   have Co:=eq_false (Nat.not_lt.2 Du)
   have Er:(9223372036854775807 < 1 + Ad.size + 1 + Bf.size + 1)=False:=qs Co
   obtain rfl:=Option.some.inj H
   go_enter Tryz.func53,Tryz.ntmps53
   try go_wp2_with (first|((with_reducible refine y19 (N:=2) rfl ?_);refine qe 2 #[.slice Av Ai.length Aw,.int .i64 Al,.string Am,.slice Ax Aj.length Ay,.slice Az Ak.length Ba] 38 ?_;intro Af hg Gg hbox hb;have Aa:=y0.mk (hbox);have Bz:=y0.mk (qg (w:=w) hg);have Ca:=y0.mk (qg (w:=w) hg);replace HB:=y0.mk (y5 qb hb);clear hb hbox hg)|((with_reducible refine y19 (N:=3) rfl ?_);refine qe 3 #[.int .i64 Ap,.string Ad,.slice Bd Ac.length Bb] 35 ?_;intro Au hg Fz hbox hb;have Ab:=y0.mk (hbox);have Cb:=y0.mk (qg (w:=w) hg);have Cc:=y0.mk (qg (w:=w) hg);replace HB:=y0.mk (y5 qb hb);have Aq:=y0.mk (qn Aa.out hg);have Ar:=y0.mk (qm Aa.out hg);replace Aa:=y0.mk (qK Aa.out hb);clear hb hbox hg;have Es:=Ar.out;have Et:=Aq.out;obtain⟨Cx,Cy,Cz,Da,Db,Dc⟩:=qz3 Ab.out))
   replace Aa:=y0.mk (y9 Aa.out)
   replace Ab:=y0.mk (y9 Ab.out)
   replace HB:=y0.mk (below_drew1 HB.out)
   refine start_ (n:=11) (S:=fun w'=>w'.cell? ⟨Au,0,none⟩=some (.int .i64 Ap)∧w'.cell? ⟨Au,1,none⟩=some (.string Ad)∧w'.cell? ⟨Au,2,none⟩=some (.slice Bd Ac.length Bb)∧w'.cell? ⟨Af,0,none⟩=some (.slice Av Ai.length Aw)∧w'.cell? ⟨Af,1,none⟩=some (.int .i64 Al)∧w'.cell? ⟨Af,2,none⟩=some (.string Am)∧w'.cell? ⟨Af,3,none⟩=some (.slice Ax Aj.length Ay)∧w'.cell? ⟨Af,4,none⟩=some (.slice Az Ak.length Ba)) (ds:=[]) (fl_ 11 0) (by kernel_rfl) rfl rfl ⟨(y8 Ab.out 0).trans rfl,(y8 Ab.out 1).trans rfl,(y8 Ab.out 2).trans rfl,(y8 Aa.out 0).trans rfl,(y8 Aa.out 1).trans rfl,(y8 Aa.out 2).trans rfl,(y8 Aa.out 3).trans rfl,(y8 Aa.out 4).trans rfl⟩ (fun hHeld=>?_);refine with_tabW z2_.tab5 z2_.bits5 (fun HT_ HW_=>?_)
   generalize Fz.drew=Gh at Aa Ab HB hHeld ⊢
   refine qp 0 29 (fl_ 11 1) ?_
   refine qp 5 34 (fl_ 11 33) ?_
   refine qt 1 30 (fl_ 11 35) hHeld ?_
   refine qp 2 31 (fl_ 11 39) ?_
   refine qp 3 32 (fl_ 11 47) ?_
   refine qt 4 33 (fl_ 11 63) hHeld ?_
   refine qt 6 35 (fl_ 11 127) hHeld ?_
   refine qO 7 36 (fl_ 11 255) (fun K hK=>?_)
   refine goes_ Tryz.func70 (by kernel_rfl) rfl #[.agg #[.slice Av Ai.length Aw,.int .i64 Al,.string Am,.slice Ax Aj.length Ay,.slice Az Ak.length Ba],.slice Bd Ac.length Bb] (by rfl) rfl rfl qy1 ?_
   with_reducible refine(z1_.calls k _ _ Ai Al Am _ _ Aj _ _ Ak _ _ Ac Bf _ (qc (Kd.C_below Bh.out HB.out)) Bi.out (qc (Kd.C_below Bj.out HB.out)) Bk.out (qc (Kd.C_below Bl.out HB.out)) Bm.out (qc (Kd.C_below Bn.out HB.out)) Bx.out Fy.out).mono ?_
   rintro e Gi ⟨rfl,hb⟩
   refine⟨_,rfl, ?_⟩
   replace Aa:=y0.mk (qK Aa.out hb)
   replace Ab:=y0.mk (qK Ab.out hb)
   replace HB:=y0.mk (y5 qb hb)
   (try clear hb)
   refine hK.out _ _ ⟨(y8 Ab.out 0).trans rfl,(y8 Ab.out 1).trans rfl,(y8 Ab.out 2).trans rfl,(y8 Aa.out 0).trans rfl,(y8 Aa.out 1).trans rfl,(y8 Aa.out 2).trans rfl,(y8 Aa.out 3).trans rfl,(y8 Aa.out 4).trans rfl⟩ (fun hHeld=>?_)
   clear hK K
   refine qx 36 ?_
   refine qp2 8 37 11 ?_
   refine qp 10 4 (fl_ 11 2047) ?_
   refine done_ (done_of HT_.out (by kernel_rfl)) ?_
   try go_wp2
   go_ret
   exact⟨qf,qb⟩
  ·rw [if_neg Ch]at H
   have Ck:(Ap == 2)=false:=beq_eq_false_iff_ne.mpr Ch
   have Cl:(Ap != 2)=true:=bne_iff_ne.mpr Ch
   obtain⟨Dv,H⟩:=qo H
   have Eu:=eq_true Dv
   have Ew:=decide_eq_true Dv
   have Ex:=eq_false (Nat.not_lt.2 Dv)
   obtain⟨Bg,Ga,H⟩:=qB H
   obtain⟨Dw,H⟩:=qo H
   have Ey:=eq_true Dw
   have Ez:=decide_eq_true Dw
   have Cp:=eq_false (Nat.not_lt.2 Dw)
   have Fa:(9223372036854775807 < Ad.size + 1 + Bg.size)=False:=qs Cp
   obtain⟨Dx,H⟩:=qo H
   have Fb:=eq_true Dx
   have Fc:=decide_eq_true Dx
   have Cq:=eq_false (Nat.not_lt.2 Dx)
   have Fd:(9223372036854775807 < Ad.size + 1 + Bg.size + 1)=False:=qs Cq
   obtain rfl:=Option.some.inj H
   go_enter Tryz.func53,Tryz.ntmps53
   try go_wp2_with (first|((with_reducible refine y19 (N:=2) rfl ?_);refine qe 2 #[.slice Av Ai.length Aw,.int .i64 Al,.string Am,.slice Ax Aj.length Ay,.slice Az Ak.length Ba] 38 ?_;intro Af hg Gj hbox hb;have Aa:=y0.mk (hbox);have Bz:=y0.mk (qg (w:=w) hg);have Ca:=y0.mk (qg (w:=w) hg);replace HB:=y0.mk (y5 qb hb);clear hb hbox hg)|((with_reducible refine y19 (N:=3) rfl ?_);refine qe 3 #[.int .i64 Ap,.string Ad,.slice Bd Ac.length Bb] 35 ?_;intro Au hg Gb hbox hb;have Ab:=y0.mk (hbox);have Cb:=y0.mk (qg (w:=w) hg);have Cc:=y0.mk (qg (w:=w) hg);replace HB:=y0.mk (y5 qb hb);have Aq:=y0.mk (qn Aa.out hg);have Ar:=y0.mk (qm Aa.out hg);replace Aa:=y0.mk (qK Aa.out hb);clear hb hbox hg;have Fe:=Ar.out;have Ff:=Aq.out;obtain⟨Dd,De,Df,Dg,Dh,Di⟩:=qz3 Ab.out))
   replace Aa:=y0.mk (y9 Aa.out)
   replace Ab:=y0.mk (y9 Ab.out)
   replace HB:=y0.mk (below_drew1 HB.out)
   refine start_ (n:=10) (S:=fun w'=>w'.cell? ⟨Au,0,none⟩=some (.int .i64 Ap)∧w'.cell? ⟨Au,1,none⟩=some (.string Ad)∧w'.cell? ⟨Au,2,none⟩=some (.slice Bd Ac.length Bb)∧w'.cell? ⟨Af,0,none⟩=some (.slice Av Ai.length Aw)∧w'.cell? ⟨Af,1,none⟩=some (.int .i64 Al)∧w'.cell? ⟨Af,2,none⟩=some (.string Am)∧w'.cell? ⟨Af,3,none⟩=some (.slice Ax Aj.length Ay)∧w'.cell? ⟨Af,4,none⟩=some (.slice Az Ak.length Ba)) (ds:=[]) (fl_ 10 0) (by kernel_rfl) rfl rfl ⟨(y8 Ab.out 0).trans rfl,(y8 Ab.out 1).trans rfl,(y8 Ab.out 2).trans rfl,(y8 Aa.out 0).trans rfl,(y8 Aa.out 1).trans rfl,(y8 Aa.out 2).trans rfl,(y8 Aa.out 3).trans rfl,(y8 Aa.out 4).trans rfl⟩ (fun hHeld=>?_);refine with_tabW z2_.tab6 z2_.bits6 (fun HT_ HW_=>?_)
   generalize Gb.drew=Gk at Aa Ab HB hHeld ⊢
   refine qp 0 39 (fl_ 10 1) ?_
   refine qp 4 43 (fl_ 10 17) ?_
   refine qt 1 40 (fl_ 10 19) hHeld ?_
   refine qp 2 41 (fl_ 10 23) ?_
   refine qt 3 42 (fl_ 10 31) hHeld ?_
   refine qt 5 44 (fl_ 10 63) hHeld ?_
   refine qO 6 45 (fl_ 10 127) (fun K hK=>?_)
   refine goes_ Tryz.func70 (by kernel_rfl) rfl #[.agg #[.slice Av Ai.length Aw,.int .i64 Al,.string Am,.slice Ax Aj.length Ay,.slice Az Ak.length Ba],.slice Bd Ac.length Bb] (by rfl) rfl rfl qy1 ?_
   with_reducible refine(z1_.calls k _ _ Ai Al Am _ _ Aj _ _ Ak _ _ Ac Bg _ (qc (Kd.C_below Bh.out HB.out)) Bi.out (qc (Kd.C_below Bj.out HB.out)) Bk.out (qc (Kd.C_below Bl.out HB.out)) Bm.out (qc (Kd.C_below Bn.out HB.out)) Bx.out Ga.out).mono ?_
   rintro e Gl ⟨rfl,hb⟩
   refine⟨_,rfl, ?_⟩
   replace Aa:=y0.mk (qK Aa.out hb)
   replace Ab:=y0.mk (qK Ab.out hb)
   replace HB:=y0.mk (y5 qb hb)
   (try clear hb)
   refine hK.out _ _ ⟨(y8 Ab.out 0).trans rfl,(y8 Ab.out 1).trans rfl,(y8 Ab.out 2).trans rfl,(y8 Aa.out 0).trans rfl,(y8 Aa.out 1).trans rfl,(y8 Aa.out 2).trans rfl,(y8 Aa.out 3).trans rfl,(y8 Aa.out 4).trans rfl⟩ (fun hHeld=>?_)
   clear hK K
   refine qx 45 ?_
   refine qp2 7 46 10 ?_
   refine qp 9 4 (fl_ 10 1023) ?_
   refine done_ (done_of HT_.out (by kernel_rfl)) ?_
   try go_wp2
   go_ret
   exact⟨qf,qb⟩
def impl_ruleText.l0:Nat→ByteArray→List ByteArray→List (S35)→Int→Int→List (S67)→Int→ByteArray→List Int→List (S35)→Option (ByteArray)
 | 0,_,_,_,_,_,_,_,_,_,_=>none
 | k + 1,x3,x4,An,By,Ae,Dd,De,Dz,Ea,Ec=>if Ae < By then(if 0≤Ae then(if Ae < (An.length:Int)then((z2_.f k Dd De Dz Ea Ec ((y22 An Ae).f0) ((y22 An Ae).f1) ((y22 An Ae).f2)).bind fun Ee=>(if x4.length < 8796093022208 then(impl_ruleText.l0 k x3 (x4 ++ [Ee]) An By (wrap64 (Ae + 1)) Dd De Dz Ea Ec)else(none)))else(none))else(none))else(if(x4.length:Int) > 0 then((strings_Join.f x4 (⟨#[44,32]⟩:ByteArray)).bind fun Ao=>(if 4 + Ao.size≤9223372036854775807 then(if x3.size + ((⟨#[32,58,45,32]⟩:ByteArray) ++ Ao).size≤9223372036854775807 then(if(x3 ++ ((⟨#[32,58,45,32]⟩:ByteArray) ++ Ao)).size + 1≤9223372036854775807 then(if(((x3 ++ ((⟨#[32,58,45,32]⟩:ByteArray) ++ Ao)) ++ (⟨#[46]⟩:ByteArray)).size:Int) > 3000 then(some (⟨#[]⟩:ByteArray))else(some ((x3 ++ ((⟨#[32,58,45,32]⟩:ByteArray) ++ Ao)) ++ (⟨#[46]⟩:ByteArray))))else(none))else(none))else(none)))else(if x3.size + 1≤9223372036854775807 then(if((x3 ++ (⟨#[46]⟩:ByteArray)).size:Int) > 3000 then(some (⟨#[]⟩:ByteArray))else(some (x3 ++ (⟨#[46]⟩:ByteArray))))else(none)))
def impl_ruleText.f (k:Nat) (Dd:List (S67)) (An:Int) (Ao:ByteArray) (By:List Int) (Ae:List (S35)):Option (ByteArray):=(z3_.f k Dd An Ao By Ae).bind fun De=>(if De=true then((z2_.f k Dd An Ao By Ae An Ao By).bind fun Dz=>(impl_ruleText.l0 k Dz (([]:List ByteArray)) Ae (Ae.length:Int) 0 Dd An Ao By Ae))else(some (⟨#[]⟩:ByteArray)))
theorem impl_ruleText.calls (k:Nat) (As:Option Addr) (At:Nat) (Ag:List (S67)) (Ah:Int) (Ai:ByteArray) (Ap:Option Addr) (Aq:Nat) (Af:List Int) (Ay:Option Addr) (Au:Nat) (Aa:List (S35)) (r:ByteArray) (w:World) (Ce:Kd.C k67 w As Ag.length Ag) (Cf:Ag.length≤At) (Cg:Kd.C (Kd.int .i64) w Ap Af.length Af) (Ch:Af.length≤Aq) (Ci:Kd.C k35 w Ay Aa.length Aa) (Cj:Aa.length≤Au) (h:impl_ruleText.f k Ag Ah Ai Af Aa=some r) :
  Calls Tryz.prog 38 #[.agg #[.slice As Ag.length At,.int .i64 Ah,.string Ai,.slice Ap Af.length Aq,.slice Ay Aa.length Au]] w fun e w'=>e=.returned (.string r)∧Below w.heap.size w w':=by
 have Gx:=Tryz.underlying38
 have Gy:=Tryz.underlying35
 have Bg:=y0.mk Ce
 have Bh:=y0.mk Cf
 clear Ce Cf
 have Az:=y0.mk Cg
 have Ba:=y0.mk Ch
 clear Cg Ch
 have Bb:=y0.mk Ci
 have Bi:=y0.mk Cj
 clear Ci Cj
 have HB:=y0.mk (Below.refl w.heap.size w)
 have H:((z3_.f k Ag Ah Ai Af Aa).bind fun Cp=>(if Cp=true then((z2_.f k Ag Ah Ai Af Aa Ah Ai Af).bind fun Ad=>(impl_ruleText.l0 k Ad (([]:List ByteArray)) Aa (Aa.length:Int) 0 Ag Ah Ai Af Aa))else(some (⟨#[]⟩:ByteArray))))=some r:=h
 clear h
 obtain⟨Cp,A2,H⟩:=qB H
 by_cases c3:Cp=true
 ·subst c3
  replace H:=qT H
  obtain⟨Ad,A4,H⟩:=qB H
  obtain⟨Dp,Bc⟩:∃ y_:List ByteArray,y_=(([]:List ByteArray)):=⟨_,rfl⟩
  replace H:(impl_ruleText.l0 k Ad Dp Aa (Aa.length:Int) 0 Ag Ah Ai Af Aa)=some r:=by first|exact Bc ▸ H|exact Bc ▸ (Option.bind_some _ _).symm.trans H
  replace Bc:=y0.mk Bc
  have H':=y0.mk H
  clear H
  go_enter Tryz.func38,Tryz.ntmps38
  go_wp2_with (first|((with_reducible refine y19 (N:=1) rfl ?_);refine qe 1 #[.slice As Ag.length At,.int .i64 Ah,.string Ai,.slice Ap Af.length Aq,.slice Ay Aa.length Au] 38 ?_;intro Bn hg w5 hbox hb;have Ab:=y0.mk (hbox);have Dq:=y0.mk (qg (w:=w) hg);have Dr:=y0.mk (qg (w:=w) hg);replace HB:=y0.mk (y5 qb hb);clear hb hbox hg;obtain⟨Cq,Cr,Cs,Ct,Cu,Cv,Cw,Cx,Cy,Cz⟩:=qz5 Ab.out)|((with_reducible refine y18 (f:=52) rfl ?_);refine y21 (some 8) rfl rfl Tryz.func52 (by kernel_rfl) rfl #[.agg #[.slice As Ag.length At,.int .i64 Ah,.string Ai,.slice Ap Af.length Aq,.slice Ay Aa.length Au]] rfl qy1 ?_;(with_reducible refine(z3_.calls k _ _ Ag Ah Ai _ _ Af _ _ Aa true _ (qc (Kd.C_below Bg.out HB.out)) Bh.out (qc (Kd.C_below Az.out HB.out)) Ba.out (qc (Kd.C_below Bb.out HB.out)) Bi.out A2.out).mono ?_);rintro e w7 ⟨rfl,hb⟩;refine⟨_,rfl, ?_⟩;replace Ab:=y0.mk (qK Ab.out hb);replace HB:=y0.mk (y5 qb hb);(try clear hb);obtain⟨Da,Db,Dc,Dd,De,Df,Dg,Dh,Di,Dj⟩:=qz5 Ab.out)|((with_reducible refine y18 (f:=53) rfl ?_);refine y21 (some 13) rfl rfl Tryz.func53 (by kernel_rfl) rfl #[.agg #[.slice As Ag.length At,.int .i64 Ah,.string Ai,.slice Ap Af.length Aq,.slice Ay Aa.length Au],.agg #[.int .i64 Ah,.string Ai,.slice Ap Af.length Aq]] rfl qy1 ?_;(with_reducible refine(z2_.calls k _ _ Ag Ah Ai _ _ Af _ _ Aa Ah Ai _ _ Af Ad _ (qc (Kd.C_below Bg.out HB.out)) Bh.out (qc (Kd.C_below Az.out HB.out)) Ba.out (qc (Kd.C_below Bb.out HB.out)) Bi.out (qc (Kd.C_below Az.out HB.out)) Ba.out A4.out).mono ?_);rintro e w9 ⟨rfl,hb⟩;refine⟨_,rfl, ?_⟩;replace Ab:=y0.mk (qK Ab.out hb);replace HB:=y0.mk (y5 qb hb);(try clear hb))|((with_reducible refine y19 (N:=14) rfl ?_);refine qL Kd.string 9 14 ([]:List ByteArray) ?_;intro Gz Hh Bo hb hg_ hnew_;clear hg_ hnew_;(first|rw [← Bc.out]at Bo|(simp only [Int.reduceToNat]at Bo;rw [← Bc.out]at Bo));have Ds:=y0.mk (Kd.R_lower Bo (y4 qb));replace Ab:=y0.mk (qK Ab.out hb);replace HB:=y0.mk (y5 qb hb);clear hb Bo;obtain⟨Bq,Br,Bs,Bt,Bu,Bv,Bw,Bx,Bz,Ca⟩:=qz5 Ab.out))
  go_loopg [4,18] k (fun kq v4 Ha w'=>∃(Am:List ByteArray) (Ac:Int),Ha=.int .i64 Ac∧y0 (impl_ruleText.l0 kq Ad Am Aa (Aa.length:Int) Ac Ag Ah Ai Af Aa=some r)∧y0 (kq≤k)∧y0 (Kd.R Kd.string 9 w' w.heap.size (fun _=>True) v4 Am)∧y0 (w'.heap[Bn]?=some (.cells #[(.slice As Ag.length At),.int .i64 Ah,.string Ai,(.slice Ap Af.length Aq),(.slice Ay Aa.length Au)] 38 (0,0)))∧y0 (Below w.heap.size w w'))
  case atStart=>exact⟨(Dp),(0),qy2,H',⟨Nat.le_refl _⟩,⟨qR Ds.out⟩,⟨qk Ab.out⟩,⟨qb⟩⟩
  case round =>
   clear H'
   (try clear c3 Bq Br Bs Bt Bu Cq Cr Cs Ct Cu Da Db Dc Dd De Bv Bw Bx Bz Ca Cv Cw Cx Cy Cz Df Dg Dh Di Dj)
   obtain⟨Am,Ac,rfl,HA,Fv,Aj,Ab,HB⟩:=hrel
   cases gk with
   | zero=>exact absurd HA.out (by simp [impl_ruleText.l0])
   | succ k1 =>
    have H:=HA.out
    clear HA
    simp only [impl_ruleText.l0]at H
    by_cases Dm:Ac < (Aa.length:Int)
    ·rw [if_pos Dm]at H
     have Dt:=decide_eq_true Dm
     clear Dm
     obtain⟨Fx,H⟩:=qo H
     have Fy:decide (0≤Ac)=true:=decide_eq_true Fx
     clear Fx
     obtain⟨Fz,H⟩:=qo H
     have Ga:decide (Ac < (Aa.length:Int))=true:=decide_eq_true Fz
     clear Fz
     obtain⟨Cb,Hb,H⟩:=qB H
     obtain⟨Gb,H⟩:=qo H
     replace Gb:=y0.mk Gb
     obtain⟨Dv,Bd⟩:∃ y_:List ByteArray,y_=(Am ++ [Cb]):=⟨_,rfl⟩
     replace H:(impl_ruleText.l0 k1 Ad Dv Aa (Aa.length:Int) (wrap64 (Ac + 1)) Ag Ah Ai Af Aa)=some r:=by first|exact Bd ▸ H|exact Bd ▸ (Option.bind_some _ _).symm.trans H
     replace Bd:=y0.mk Bd
     have H':=y0.mk H
     clear H
     have Dk:0≤(Ac:Int):=qd
     have Dl:Ac < (Aa.length:Int):=qd
     obtain⟨Cl,Be,Bf,Fi,Av,Aw,Ax,Bj,Bk⟩:=at_T35 Bb.out Ac Dk Dl
     cases Fi
     replace Av:=qC Av HB
     replace Aw:=qC Aw HB
     replace Ax:=qC Ax HB
     have Cc:=y0.mk Bk
     have Cd:=y0.mk Bj
     clear Bk Bj
     replace Dk:=eq_true Dk
     replace Dl:=eq_true Dl
     go_wp2_with (first|((with_reducible refine y19 (N:=6) rfl ?_);refine qe 6 #[.int .i64 0,.string (⟨#[]⟩:ByteArray),.slice none 0 0] 35 ?_;intro Bl hg Hi hbox hb;replace Aj:=y0.mk (Kd.R_below (qR Aj.out) hb);have Ar:=y0.mk (hbox);have Gc:=y0.mk (qg (w:=w) hg);have Gd:=y0.mk (qg (w:=w) hg);replace HB:=y0.mk (y5 qb hb);have Al:=y0.mk (qn Ab.out hg);have Bm:=y0.mk (qm Ab.out hg);replace Ab:=y0.mk (qK Ab.out hb);clear hb hbox hg;have Ge:=Bm.out;have Gf:=Al.out;obtain⟨Eg,Eh,Ei,Ej,Ek,El⟩:=qz3 Ar.out;obtain⟨Em,En,Eo,Ep,Er,Es,Et,Eu,Ew,Ex⟩:=qz5 Ab.out)|((with_reducible refine y18 (f:=53) rfl ?_);refine y21 (some 25) rfl rfl Tryz.func53 (by kernel_rfl) rfl #[.agg #[.slice As Ag.length At,.int .i64 Ah,.string Ai,.slice Ap Af.length Aq,.slice (some Cl) Aa.length Au],.agg #[.int .i64 ((y22 Aa Ac).f0),.string ((y22 Aa Ac).f1),.slice Be ((y22 Aa Ac).f2).length Bf]] rfl qy1 ?_;(with_reducible refine(z2_.calls k1 _ _ Ag Ah Ai _ _ Af _ _ Aa ((y22 Aa Ac).f0) ((y22 Aa Ac).f1) _ _ ((y22 Aa Ac).f2) Cb _ (by exact Kd.C_below Bg.out qb) Bh.out (by exact Kd.C_below Az.out qb) Ba.out (by exact Kd.C_below Bb.out qb) Bi.out (by exact Kd.C_below Cc.out qb) Cd.out Hb.out).mono ?_);rintro e Hj ⟨rfl,hb⟩;refine⟨_,rfl, ?_⟩;replace Aj:=y0.mk (Kd.R_below (qR ((Kd.R_mono (qfR Bl (Kd.R_types Aj.out Ar.out (by decide)) (.int .i64 ((y22 Aa Ac).f0)) (.string ((y22 Aa Ac).f1)) (.slice Be ((y22 Aa Ac).f2).length Bf)) (fun _ h_=>h_.1)))) hb);replace Ab:=y0.mk (y7 (g:=Bn) (o:=.cells #[.slice As Ag.length At,.int .i64 Ah,.string Ai,.slice Ap Af.length Aq,.slice (some Cl) Aa.length Au] 38 (0,0)) (by(with_reducible repeat(first|refine y10 ?_ _|refine y9 ?_|refine y6 ?_ _));refine y11 ?_ Al.out _;refine y11 ?_ Al.out _;refine y11 ?_ Al.out _;(with_reducible repeat(first|refine y10 ?_ _|refine y9 ?_|refine y6 ?_ _));exact Ab.out) hb);replace Ar:=y0.mk (y7 (g:=Bl) (o:=.cells #[.int .i64 ((y22 Aa Ac).f0),.string ((y22 Aa Ac).f1),.slice Be ((y22 Aa Ac).f2).length Bf] 35 (0,0)) (by(with_reducible repeat(first|refine y10 ?_ _|refine y9 ?_|refine y6 ?_ _));refine y13 (cs:=#[.int .i64 ((y22 Aa Ac).f0),.string ((y22 Aa Ac).f1),.slice none 0 0]) ?_ 2 _ rfl;refine y13 (cs:=#[.int .i64 ((y22 Aa Ac).f0),.string (⟨#[]⟩:ByteArray),.slice none 0 0]) ?_ 1 _ rfl;refine y13 (cs:=#[.int .i64 0,.string (⟨#[]⟩:ByteArray),.slice none 0 0]) ?_ 0 _ rfl;(with_reducible repeat(first|refine y10 ?_ _|refine y9 ?_|refine y6 ?_ _));exact Ar.out) hb);replace HB:=y0.mk (y5 qb hb);(try clear hb))|((with_reducible refine gate_builtin (b:=.append) (xs:=#[.tmp 22,.tmp 26]) rfl ?_);at_builtin;refine Kd.R_append Kd.string (w0:=w) w.heap.size rfl (.tmp 22) (.tmp 26) 29 9 (.string ⟨#[]⟩) 16 rfl Tryz.underlying29 info9 rfl (by decide) (by omega) u4 Am Cb [.string Cb] (fun _=>True) (fun _=>False) rfl rfl ?aP (fun _ hk=>hk.elim) ?aF ?aO ?aB ?aS ?aL ?_;(case aP=>exact rfl);(case aB=>exact qb);(case aF=>exact(fun _ _=>trivial));(case aO=>exact(qR Aj.out));(case aS=>exact(y4 qb));(case aL=>have:=Gb.out;omega);intro Hc Hk ho hb hg hat;rw [← Bd.out]at ho;replace Ab:=y0.mk (y12 (qk Ab.out) hg (Kd.R_ne Aj.out Ab.out (by decide)));replace Ar:=y0.mk (y12 (qk Ar.out) hg (Kd.R_ne Aj.out Ar.out (by decide)));replace HB:=y0.mk (hb);have Dx:=y0.mk (ho);clear Aj;clear ho hb hg hat))
     go_roundg k1
     case measure=>have:=Fv.out;omega
     exact⟨(Dv),(wrap64 (Ac + 1)),qy2,H',⟨by have:=Fv.out;omega⟩,⟨qR Dx.out⟩,⟨qk Ab.out⟩,⟨qb⟩⟩
    ·rw [if_neg Dm]at H
     have Dt:=decide_eq_false Dm
     clear Dm
     by_cases Do:(Am.length:Int) > 0
     ·rw [if_pos Do]at H
      have Dy:decide (0 < (Am.length:Int))=true:=decide_eq_true Do
      have Dz:decide (0 < Am.length)=true:=decide_eq_true (by omega)
      clear Do
      obtain⟨Ak,Gg,H⟩:=qB H
      obtain⟨Fj,H⟩:=qo H
      have Gh:=eq_true Fj
      have Gi:=decide_eq_true Fj
      have Gj:=eq_false (Nat.not_lt.2 Fj)
      obtain⟨Fk,H⟩:=qo H
      have Gk:=eq_true Fk
      have Gl:=decide_eq_true Fk
      have Bp:=eq_false (Nat.not_lt.2 Fk)
      have Gm:(9223372036854775807 < Ad.size + 4 + Ak.size)=False:=qs Bp
      have Gn:(9223372036854775807 < Ad.size + (4 + Ak.size))=False:=qs Bp
      have Gp:(9223372036854775807 < Ad.size + (4 + Ak.size))=False:=qs Bp
      obtain⟨Fl,H⟩:=qo H
      have Gq:=eq_true Fl
      have Gr:=decide_eq_true Fl
      have Cm:=eq_false (Nat.not_lt.2 Fl)
      have Gs:(9223372036854775807 < Ad.size + 4 + Ak.size + 1)=False:=qs Cm
      have Gt:(9223372036854775807 < Ad.size + (4 + Ak.size) + 1)=False:=qs Cm
      by_cases Cn:(((Ad ++ ((⟨#[32,58,45,32]⟩:ByteArray) ++ Ak)) ++ (⟨#[46]⟩:ByteArray)).size:Int) > 3000
      ·rw [if_pos Cn]at H
       have Ea:(3000 < (Ad.size:Int) + (4 + (Ak.size:Int)) + 1)=True:=eq_true (by have h_:=Cn;rw [show((Ad ++ ((⟨#[32,58,45,32]⟩:ByteArray) ++ Ak)) ++ (⟨#[46]⟩:ByteArray)).size=Ad.size + (4 + Ak.size) + 1 from by(simp only [ByteArray.size_append];rfl)]at h_;omega)
       have Eb:decide (3000 < (((Ad ++ ((⟨#[32,58,45,32]⟩:ByteArray) ++ Ak)) ++ (⟨#[46]⟩:ByteArray)).size:Int))=true:=decide_eq_true Cn
       have Ec:decide (3000 < ((Ad ++ ((⟨#[32,58,45,32]⟩:ByteArray) ++ Ak)) ++ (⟨#[46]⟩:ByteArray)).size)=true:=decide_eq_true (by omega)
       clear Cn
       obtain rfl:=Option.some.inj H
       obtain⟨Fm,Fn,Fo⟩:=Kd.R_slice Aj.out
       subst Fo
       go_wp2_with (first|((with_reducible refine y18 (f:=54) rfl ?_);refine y21 (some 34) rfl rfl Tryz.func54 (by kernel_rfl) rfl #[.slice Fm Am.length Fn,.string (⟨#[44,32]⟩:ByteArray)] rfl qy1 ?_;(with_reducible refine(strings_Join.calls _ _ Am (⟨#[44,32]⟩:ByteArray) Ak _ (qc ((Kd.R_reads' Aj.out).2.2)) (by exact(Kd.R_reads' Aj.out).2.1) Gg.out).mono ?_);rintro e Hl ⟨rfl,hb⟩;refine⟨_,rfl, ?_⟩;replace Aj:=y0.mk (Kd.R_below (qR Aj.out) hb);replace Ab:=y0.mk (qK Ab.out hb);replace HB:=y0.mk (y5 qb hb);(try clear hb)))
       go_ret
       exact⟨qf,qb⟩
      ·rw [if_neg Cn]at H
       have Ea:(3000 < (Ad.size:Int) + (4 + (Ak.size:Int)) + 1)=False:=eq_false (by have h_:=Cn;rw [show((Ad ++ ((⟨#[32,58,45,32]⟩:ByteArray) ++ Ak)) ++ (⟨#[46]⟩:ByteArray)).size=Ad.size + (4 + Ak.size) + 1 from by(simp only [ByteArray.size_append];rfl)]at h_;omega)
       have Eb:decide (3000 < (((Ad ++ ((⟨#[32,58,45,32]⟩:ByteArray) ++ Ak)) ++ (⟨#[46]⟩:ByteArray)).size:Int))=false:=decide_eq_false Cn
       have Ec:decide (3000 < ((Ad ++ ((⟨#[32,58,45,32]⟩:ByteArray) ++ Ak)) ++ (⟨#[46]⟩:ByteArray)).size)=false:=decide_eq_false (by omega)
       clear Cn
       obtain rfl:=Option.some.inj H
       obtain⟨Fp,Fq,Fr⟩:=Kd.R_slice Aj.out
       subst Fr
       go_wp2_with (first|((with_reducible refine y18 (f:=54) rfl ?_);refine y21 (some 34) rfl rfl Tryz.func54 (by kernel_rfl) rfl #[.slice Fp Am.length Fq,.string (⟨#[44,32]⟩:ByteArray)] rfl qy1 ?_;(with_reducible refine(strings_Join.calls _ _ Am (⟨#[44,32]⟩:ByteArray) Ak _ (qc ((Kd.R_reads' Aj.out).2.2)) (by exact(Kd.R_reads' Aj.out).2.1) Gg.out).mono ?_);rintro e Hm ⟨rfl,hb⟩;refine⟨_,rfl, ?_⟩;replace Aj:=y0.mk (Kd.R_below (qR Aj.out) hb);replace Ab:=y0.mk (qK Ab.out hb);replace HB:=y0.mk (y5 qb hb);(try clear hb)))
       go_ret
       exact⟨qf,qb⟩
     ·rw [if_neg Do]at H
      have Dy:decide (0 < (Am.length:Int))=false:=decide_eq_false Do
      have Dz:decide (0 < Am.length)=false:=decide_eq_false (by omega)
      clear Do
      obtain⟨Fs,H⟩:=qo H
      have Gu:=eq_true Fs
      have Gv:=decide_eq_true Fs
      have Gw:=eq_false (Nat.not_lt.2 Fs)
      by_cases Co:((Ad ++ (⟨#[46]⟩:ByteArray)).size:Int) > 3000
      ·rw [if_pos Co]at H
       have Ed:(3000 < (Ad.size:Int) + 1)=True:=eq_true (by have h_:=Co;rw [show(Ad ++ (⟨#[46]⟩:ByteArray)).size=Ad.size + 1 from by(simp only [ByteArray.size_append];rfl)]at h_;omega)
       have Ee:decide (3000 < ((Ad ++ (⟨#[46]⟩:ByteArray)).size:Int))=true:=decide_eq_true Co
       have Ef:decide (3000 < (Ad ++ (⟨#[46]⟩:ByteArray)).size)=true:=decide_eq_true (by omega)
       clear Co
       obtain rfl:=Option.some.inj H
       obtain⟨Hd,He,Ft⟩:=Kd.R_slice Aj.out
       subst Ft
       go_wp2
       go_ret
       exact⟨qf,qb⟩
      ·rw [if_neg Co]at H
       have Ed:(3000 < (Ad.size:Int) + 1)=False:=eq_false (by have h_:=Co;rw [show(Ad ++ (⟨#[46]⟩:ByteArray)).size=Ad.size + 1 from by(simp only [ByteArray.size_append];rfl)]at h_;omega)
       have Ee:decide (3000 < ((Ad ++ (⟨#[46]⟩:ByteArray)).size:Int))=false:=decide_eq_false Co
       have Ef:decide (3000 < (Ad ++ (⟨#[46]⟩:ByteArray)).size)=false:=decide_eq_false (by omega)
       clear Co
       obtain rfl:=Option.some.inj H
       obtain⟨Hf,Hg,Fu⟩:=Kd.R_slice Aj.out
       subst Fu
       go_wp2
       go_ret
       exact⟨qf,qb⟩
 ·replace c3:=Bool.eq_false_iff.mpr c3
  subst c3
  replace H:=qF H
  obtain rfl:=Option.some.inj H
  go_enter Tryz.func38,Tryz.ntmps38
  go_wp2_with (first|((with_reducible refine y19 (N:=1) rfl ?_);refine qe 1 #[.slice As Ag.length At,.int .i64 Ah,.string Ai,.slice Ap Af.length Aq,.slice Ay Aa.length Au] 38 ?_;intro Bn hg Hn hbox hb;have Ab:=y0.mk (hbox);have Dq:=y0.mk (qg (w:=w) hg);have Dr:=y0.mk (qg (w:=w) hg);replace HB:=y0.mk (y5 qb hb);clear hb hbox hg;obtain⟨Ey,Ez,Fa,Fb,Fc,Fd,Fe,Ff,Fg,Fh⟩:=qz5 Ab.out)|((with_reducible refine y18 (f:=52) rfl ?_);refine y21 (some 8) rfl rfl Tryz.func52 (by kernel_rfl) rfl #[.agg #[.slice As Ag.length At,.int .i64 Ah,.string Ai,.slice Ap Af.length Aq,.slice Ay Aa.length Au]] rfl qy1 ?_;(with_reducible refine(z3_.calls k _ _ Ag Ah Ai _ _ Af _ _ Aa false _ (qc (Kd.C_below Bg.out HB.out)) Bh.out (qc (Kd.C_below Az.out HB.out)) Ba.out (qc (Kd.C_below Bb.out HB.out)) Bi.out A2.out).mono ?_);rintro e Ho ⟨rfl,hb⟩;refine⟨_,rfl, ?_⟩;replace Ab:=y0.mk (qK Ab.out hb);replace HB:=y0.mk (y5 qb hb);(try clear hb)))
  go_ret
  exact⟨qf,qb⟩
def impl_hasForm.f (k:Nat) (Ae:List (S67)) (An:Int) (Ao:ByteArray) (By:List Int) (Dd:List (S35)):Option (Bool):=(impl_ruleText.f k Ae An Ao By Dd).bind fun De=>(some (De.toList != ([]:List UInt8)))
theorem impl_hasForm.calls (k:Nat) (Ah:Option Addr) (Ai:Nat) (Aa:List (S67)) (Ad:Int) (Af:ByteArray) (Aj:Option Addr) (Ak:Nat) (Ab:List Int) (Al:Option Addr) (Am:Nat) (Ac:List (S35)) (r:Bool) (w:World) (Ap:Kd.C k67 w Ah Aa.length Aa) (Aq:Aa.length≤Ai) (Ar:Kd.C (Kd.int .i64) w Aj Ab.length Ab) (As:Ab.length≤Ak) (At:Kd.C k35 w Al Ac.length Ac) (Au:Ac.length≤Am) (h:impl_hasForm.f k Aa Ad Af Ab Ac=some r) :
  Calls Tryz.prog 21 #[.agg #[.slice Ah Aa.length Ai,.int .i64 Ad,.string Af,.slice Aj Ab.length Ak,.slice Al Ac.length Am]] w fun e w'=>e=.returned (.bool r)∧Below w.heap.size w w':=by
 have Bp:=Tryz.underlying38
 have Aw:=y0.mk Ap
 have Ax:=y0.mk Aq
 clear Ap Aq
 have Ay:=y0.mk Ar
 have Az:=y0.mk As
 clear Ar As
 have Ba:=y0.mk At
 have Bb:=y0.mk Au
 clear At Au
 have HB:=y0.mk (Below.refl w.heap.size w)
 have H:((impl_ruleText.f k Aa Ad Af Ab Ac).bind fun Av=>(some (Av.toList != ([]:List UInt8))))=some r:=h
 clear h
 obtain⟨Av,A2,H⟩:=qB H
 obtain rfl:=Option.some.inj H
 go_enter Tryz.func21,Tryz.ntmps21
 go_wp2_with (first|((with_reducible refine y19 (N:=1) rfl ?_);refine qe 1 #[.slice Ah Aa.length Ai,.int .i64 Ad,.string Af,.slice Aj Ab.length Ak,.slice Al Ac.length Am] 38 ?_;intro Bm hg w3 hbox hb;have Ag:=y0.mk (hbox);have Bn:=y0.mk (qg (w:=w) hg);have Bo:=y0.mk (qg (w:=w) hg);replace HB:=y0.mk (y5 qb hb);clear hb hbox hg;obtain⟨Bc,Bd,Be,Bf,Bg,Bh,Bi,Bj,Bk,Bl⟩:=qz5 Ag.out)|((with_reducible refine y18 (f:=38) rfl ?_);refine y21 (some 4) rfl rfl Tryz.func38 (by kernel_rfl) rfl #[.agg #[.slice Ah Aa.length Ai,.int .i64 Ad,.string Af,.slice Aj Ab.length Ak,.slice Al Ac.length Am]] rfl qy1 ?_;(with_reducible refine(impl_ruleText.calls k _ _ Aa Ad Af _ _ Ab _ _ Ac Av _ (qc (Kd.C_below Aw.out HB.out)) Ax.out (qc (Kd.C_below Ay.out HB.out)) Az.out (qc (Kd.C_below Ba.out HB.out)) Bb.out A2.out).mono ?_);rintro e w5 ⟨rfl,hb⟩;refine⟨_,rfl, ?_⟩;replace Ag:=y0.mk (qK Ag.out hb);replace HB:=y0.mk (y5 qb hb);(try clear hb)))
 go_ret
 have hform_:∀ l:List UInt8,l.isEmpty=!(l != []):=fun l=>by cases l <;> rfl
 exact⟨by(simp [y15,y16];exact hform_ _),qb⟩
def slices_Sort_int_int.f (l0:List Int):Option (List Int):=if l0.length < 4611686018427387904 then some (l0.mergeSort fun x y=>decide (x≤y))else none
open Go.Sort Go.Shelf in
theorem slices_Sort_int_int.calls (P0_:Nat→Prop) (u9000_:Value) (l0:List Int) (r1:List Int) (w0 w:World) (hB:Below w0.heap.size w0 w) (Aa:Kd.R (Kd.int .i64) 3 w w0.heap.size P0_ u9000_ l0) (h:slices_Sort_int_int.f l0=some r1) :
  Calls Tryz.prog 55 #[u9000_] w fun e w'=>e=.returned (.tuple #[])∧Kd.R (Kd.int .i64) 3 w' w0.heap.size (fun k_=>(P0_ k_∨w.heap.size≤k_)) u9000_ r1∧Below w0.heap.size w0 w'∧Kept w w' (fun k_=>P0_ k_):=by
 unfold slices_Sort_int_int.f at h
 by_cases hd:l0.length < 4611686018427387904
 case neg=>rw [if_neg hd]at h;cases h
 rw [if_pos hd]at h
 injection h with h
 subst h
 obtain⟨h0,inner,ho,hr⟩:=Aa
 rcases ho.2 with⟨rfl,hn⟩|⟨g,cap,cur,rfl,hbase,hb,h1,h2,h3,h4⟩
 ·have Ab:l0=[]:=List.length_eq_zero_iff.1 hn
  subst Ab
  refine(Tryz.slices_Sort_int_none none 0 w).mono ?_
  rintro e w' ⟨rfl,rfl⟩
  rw [show(([]:List Int).mergeSort fun x y=>decide (x≤y))=[]from by simp]
  exact⟨rfl,Kd.R_nil _ _ _ _ _,hB,Kept.refl _ _⟩
 ·have hsz:(Kd.int .i64).sz=1:=rfl
  rw [hsz]at h3 h4
  have hil:inner.length=l0.length:=by have:=hr.1;rw [hsz]at this;omega
  have hin:inner=l0.map (Value.int .i64):=by
   apply List.ext_getElem?
   intro j
   by_cases hj:j < l0.length
   ·have h5:=hr.2 j l0[j] (List.getElem?_eq_getElem hj)
    rw [hsz,Nat.mul_one]at h5
    have h6:(inner.drop j).take 1=[Value.int .i64 l0[j]]:=h5
    have h7:=congrArg (fun l=>l[0]?) h6
    simp only [List.getElem?_take_of_lt Nat.one_pos,List.getElem?_drop,Nat.add_zero]at h7
    rw [h7,List.getElem?_map,List.getElem?_eq_getElem hj]
    rfl
   ·rw [List.getElem?_eq_none (by omega),List.getElem?_eq_none (by rw [List.length_map];omega)]
  have hcur:∀ j,j < l0.length→cur[j]?=some (Value.int .i64 (l0.toArray[j]!)):=fun j hj=>by
   have h8:cur.toList[j]?=(l0.map (Value.int .i64))[j]?:=by
    rw [← hin,← h4,Nat.mul_one,List.getElem?_take_of_lt hj]
   rw [← Array.getElem?_toList,h8,List.getElem?_map,List.getElem?_eq_getElem hj]
   have:l0.toArray[j]! = l0[j]:=by rw [getElem!_pos l0.toArray j (by simpa using hj)];simp
   rw [this]
   rfl
  have hH:Holds (Value.int .i64) w g 0 l0.toArray:=by
   intro j hj
   have Ac:j < l0.length:=by simpa using hj
   refine⟨?_,by simp [World.frozen?,hb]⟩
   simp only [World.cell?,hb,Nat.zero_add,Option.isSome_none,Bool.false_eq_true,if_false,id]
   rw [hcur j Ac]
  refine(Tryz.slices_Sort_int g 0 cap l0 w hH (Array.getElem?_eq_some_iff.1 hb).1 hd).mono ?_
  rintro e w' ⟨rfl,n,os,rfl⟩
  have hl:(l0.mergeSort fun x y=>decide (x≤y)).length=l0.length:=List.length_mergeSort l0
  generalize (l0.mergeSort fun x y=>decide (x≤y))=zs at hl ⊢
  have hg:g < w.heap.size:=(Array.getElem?_eq_some_iff.1 hb).1
  have hheap:(grow (putRow (Value.int .i64) (Sort.ahead w n) g 0 zs.toArray) os).heap[g]?=some (.cells (putCells (Value.int .i64) 0 zs.toArray cur) 3 (0,0)):=by
   rw [heap_grow_old _ _ (by simpa using hg)]
   simp [putRow,mapBlock,Sort.ahead,Array.getElem?_modify,hb,onCells]
  have hgr:w.grownBy (grow (putRow (Value.int .i64) (Sort.ahead w n) g 0 zs.toArray) os) (some g):=by
   refine⟨rfl,rfl,rfl,by simp,fun k hk hne=>?_⟩
   rw [heap_grow_old _ _ (by simpa using hk)]
   have:g≠k:=fun e=>hne (by rw [e])
   simp [putRow,mapBlock,Sort.ahead,Array.getElem?_modify,this]
  have htk:(putCells (Value.int .i64) 0 zs.toArray cur).toList.take zs.length=zs.map (Value.int .i64):=by
   apply List.ext_getElem?
   intro j
   by_cases hj:j < zs.length
   ·rw [List.getElem?_take_of_lt hj,Array.getElem?_toList,List.getElem?_map,List.getElem?_eq_getElem hj]
    have:j < cur.size:=by rw [h3];omega
    simp [putCells,hj,this]
   ·rw [List.getElem?_take_eq_none (by omega),List.getElem?_eq_none (by rw [List.length_map];omega)]
  refine⟨rfl,⟨fun k hk=>.inl (h0 k hk),zs.map (Value.int .i64),⟨by simp [hsz],Or.inr ⟨g,cap,putCells (Value.int .i64) 0 zs.toArray cur, ?_,hbase,hheap,by simp [hl,h1],h2,by simp [putCells,h3,hsz], ?_⟩⟩,by simp [hsz],fun i p hi=>?_⟩,Below.grown hB hgr (by omega) (fun k e=>by cases e;exact hbase),Kept.of_grown hgr (Kept.refl _ _) (fun k e=>.inl (h0 k (by rw [← e];simp [Value.ownBlock])))⟩
  ·simp [hl]
  ·rw [hsz,Nat.mul_one]
   exact htk
  ·rw [hsz,Nat.mul_one]
   have Ad:=(List.getElem?_eq_some_iff.1 hi)
   obtain⟨Af,Ag⟩:=Ad
   show((zs.map (Value.int .i64)).drop i).take 1=[Value.int .i64 p]
   rw [List.drop_eq_getElem_cons (by simpa using Af)]
   simp [Ag]
mutual
def impl_Rule_within.l0:Nat→Int→List Int→List Int→Int→Int→List (S67)→Int→ByteArray→List Int→List (S35)→Option (List Int)
 | 0,_,_,_,_,_,_,_,_,_,_=>none
 | k + 1,x1,x5,An,Ao,Ae,By,Dd,De,Dz,Ea=>if Ae < Ao then(if 0≤Ae then(if Ae < (An.length:Int)then((impl_Rule_within.f k By Dd De Dz Ea (rd An Ae)).bind fun Ec=>(if x5.length + Ec.length < 17592186044416 then(impl_Rule_within.l0 k x1 (x5 ++ Ec) An Ao (wrap64 (Ae + 1)) By Dd De Dz Ea)else(none)))else(none))else(none))else(if x5.length < 17592186044416 then((slices_Sort_int_int.f (x5 ++ [x1])).bind fun Ee=>(some Ee))else(none))
def impl_Rule_within.f:Nat→List (S67)→Int→ByteArray→List Int→List (S35)→Int→Option (List Int)
 | 0,_,_,_,_,_,_=>none
 | k + 1,Ae,An,Ao,By,Dd,a1=>if 0≤a1 then(if a1 < (Ae.length:Int)then(impl_Rule_within.l0 k a1 (([]:List Int)) ((y23 Ae a1).f2) (((y23 Ae a1).f2).length:Int) 0 Ae An Ao By Dd)else(none))else(none)
end
theorem impl_Rule_within.calls (k:Nat):∀(Bj:Option Addr) (Ax:Nat) (Aa:List (S67)) (Aj:Int) (Ak:ByteArray) (Ay:Option Addr) (Az:Nat) (Ad:List Int) (Ba:Option Addr) (Bb:Nat) (Af:List (S35)) (a1:Int) (r:List Int) (w:World) (Bc:Kd.C k67 w Bj Aa.length Aa) (Bd:Aa.length≤Ax) (Be:Kd.C (Kd.int .i64) w Ay Ad.length Ad) (Bf:Ad.length≤Az) (Bg:Kd.C k35 w Ba Af.length Af) (Bh:Af.length≤Bb) (h:impl_Rule_within.f k Aa Aj Ak Ad Af a1=some r),
  Calls Tryz.prog 39 #[.agg #[.slice Bj Aa.length Ax,.int .i64 Aj,.string Ak,.slice Ay Ad.length Az,.slice Ba Af.length Bb],.int .i64 a1] w fun e w'=>∃ v0_:Value,e=.returned (v0_)∧Kd.R (Kd.int .i64) 3 w' w.heap.size (fun _=>True) v0_ r∧Below w.heap.size w w':=by
 induction k using Nat.strongRecOn with
 | _ k ih =>
 intro Bj Ax Aa Aj Ak Ay Az Ad Ba Bb Af a1 r w Bc Bd Be Bf Bg Bh h
 cases k with
 | zero=>exact absurd h (by simp [impl_Rule_within.f])
 | succ k =>
 simp only [impl_Rule_within.f]at h
 have Ef:=Tryz.underlying38
 have Bo:=y0.mk Bc
 have Ch:=y0.mk Bd
 clear Bc Bd
 have Ci:=y0.mk Be
 have Cj:=y0.mk Bf
 clear Be Bf
 have Ck:=y0.mk Bg
 have Cl:=y0.mk Bh
 clear Bg Bh
 have HB:=y0.mk (Below.refl w.heap.size w)
 have H:(if 0≤a1 then(if a1 < (Aa.length:Int)then(impl_Rule_within.l0 k a1 (([]:List Int)) ((y23 Aa a1).f2) (((y23 Aa a1).f2).length:Int) 0 Aa Aj Ak Ad Af)else(none))else(none))=some r:=h
 clear h
 obtain⟨Cm,Aq⟩:∃ y_:List Int,y_=(([]:List Int)):=⟨_,rfl⟩
 replace H:(if 0≤a1 then(if a1 < (Aa.length:Int)then(impl_Rule_within.l0 k a1 Cm ((y23 Aa a1).f2) (((y23 Aa a1).f2).length:Int) 0 Aa Aj Ak Ad Af)else(none))else(none))=some r:=by first|exact Aq ▸ H|exact Aq ▸ (Option.bind_some _ _).symm.trans H
 replace Aq:=y0.mk Aq
 obtain⟨c3,H⟩:=qo H
 have Di:decide (0≤a1)=true:=decide_eq_true c3
 clear c3
 obtain⟨c4,H⟩:=qo H
 have Dj:decide (a1 < (Aa.length:Int))=true:=decide_eq_true c4
 clear c4
 have H':=y0.mk H
 clear H
 go_enter Tryz.func39,Tryz.ntmps39
 go_wp2_with (first|((with_reducible refine y19 (N:=2) rfl ?_);refine qe 2 #[.slice Bj Aa.length Ax,.int .i64 Aj,.string Ak,.slice Ay Ad.length Az,.slice Ba Af.length Bb] 38 ?_;intro Cn hg w5 hbox hb;have Ab:=y0.mk (hbox);have Dw:=y0.mk (qg (w:=w) hg);have Co:=y0.mk (qg (w:=w) hg);replace HB:=y0.mk (y5 qb hb);clear hb hbox hg)|((with_reducible refine y19 (N:=8) rfl ?_);refine qL (Kd.int .i64) 3 8 ([]:List Int) ?_;intro Eg w6 Cp hb hg_ hnew_;clear hg_ hnew_;(first|rw [← Aq.out]at Cp|(simp only [Int.reduceToNat]at Cp;rw [← Aq.out]at Cp));have Cq:=y0.mk (Kd.R_lower Cp (y4 qb));replace Ab:=y0.mk (qK Ab.out hb);replace HB:=y0.mk (y5 qb hb);clear hb Cp;obtain⟨Br,Bs,Bt,Bu,Bv,Bw,Bx,Bz,Ca,Cb⟩:=qz5 Ab.out;have Bk:0≤(a1:Int):=qd;have Bl:a1 < (Aa.length:Int):=qd;obtain⟨Bq,Dk,Dl,Dm,Ag,Ah,Ai,Av,Aw⟩:=at_T67 Bo.out a1 Bk Bl;cases Dm;replace Ag:=qC Ag HB;replace Ah:=qC Ah HB;replace Ai:=qC Ai HB;have Bm:=y0.mk Aw;have Cx:=y0.mk Av;clear Aw Av;replace Bk:=eq_true Bk;replace Bl:=eq_true Bl))
 go_loopg [5,16] k (fun kq v5 Eh w'=>∃(Au:List Int) (Ac:Int),Eh=.int .i64 Ac∧y0 (impl_Rule_within.l0 kq a1 Au ((y23 Aa a1).f2) (((y23 Aa a1).f2).length:Int) Ac Aa Aj Ak Ad Af=some r)∧y0 (kq≤k)∧y0 (Kd.R (Kd.int .i64) 3 w' w.heap.size (fun _=>True) v5 Au)∧y0 (w'.heap[Cn]?=some (.cells #[(.slice (some Bq) Aa.length Ax),.int .i64 Aj,.string Ak,(.slice Ay Ad.length Az),(.slice Ba Af.length Bb)] 38 (0,0)))∧y0 (Below w.heap.size w w'))
 case atStart=>exact⟨(Cm),(0),qy2,H',⟨Nat.le_refl _⟩,⟨qR Cq.out⟩,⟨qk Ab.out⟩,⟨qb⟩⟩
 case round =>
  clear H'
  (try clear Di Dj Br Bs Bt Bu Bv Bw Bx Bz Ca Cb Ag Ah Ai Bk Bl)
  obtain⟨Au,Ac,rfl,HA,Do,Am,Ab,HB⟩:=hrel
  cases gk with
  | zero=>exact absurd HA.out (by simp [impl_Rule_within.l0])
  | succ k1 =>
   have H:=HA.out
   clear HA
   simp only [impl_Rule_within.l0]at H
   by_cases c9:Ac < (((y23 Aa a1).f2).length:Int)
   ·rw [if_pos c9]at H
    have Dp:=decide_eq_true c9
    clear c9
    obtain⟨Dx,H⟩:=qo H
    have Dy:decide (0≤Ac)=true:=decide_eq_true Dx
    clear Dx
    obtain⟨Dz,H⟩:=qo H
    have Ea:=decide_eq_true Dz
    clear Dz
    obtain⟨Bn,Ei,H⟩:=qB H
    obtain⟨Eb,H⟩:=qo H
    replace Eb:=y0.mk Eb
    obtain⟨Cs,Ar⟩:∃ y_:List Int,y_=(Au ++ Bn):=⟨_,rfl⟩
    replace H:(impl_Rule_within.l0 k1 a1 Cs ((y23 Aa a1).f2) (((y23 Aa a1).f2).length:Int) (wrap64 (Ac + 1)) Aa Aj Ak Ad Af)=some r:=by first|exact Ar ▸ H|exact Ar ▸ (Option.bind_some _ _).symm.trans H
    replace Ar:=y0.mk Ar
    have H':=y0.mk H
    clear H
    have Cc:0≤(Ac:Int):=qd
    have Cd:Ac < (((y23 Aa a1).f2).length:Int):=qd
    obtain⟨Ec,Dq,Ap⟩:=Kd.at_int Bm.out Ac Cc Cd
    cases Dq
    replace Ap:=qC Ap HB
    replace Cc:=eq_true Cc
    replace Cd:=eq_true Cd
    obtain⟨Cy,Cz,Da,Db,Dc,Dd,De,Df,Dg,Dh⟩:=qz5 Ab.out
    go_wp2_with (first|((with_reducible refine y18 (f:=39) rfl ?_);refine y21 (some 23) rfl rfl Tryz.func39 (by kernel_rfl) rfl #[.agg #[.slice (some Bq) Aa.length Ax,.int .i64 Aj,.string Ak,.slice Ay Ad.length Az,.slice Ba Af.length Bb],.int .i64 (rd ((y23 Aa a1).f2) Ac)] rfl qy1 ?_;(with_reducible refine(ih k1 (by have:=Do.out;omega) _ _ Aa Aj Ak _ _ Ad _ _ Af (rd ((y23 Aa a1).f2) Ac) Bn _ (qc (Kd.C_below Bo.out HB.out)) Ch.out (qc (Kd.C_below Ci.out HB.out)) Cj.out (qc (Kd.C_below Ck.out HB.out)) Cl.out Ei.out).mono ?_);rintro e En ⟨Ej,rfl,Dr,hb⟩;refine⟨_,rfl, ?_⟩;have As:=y0.mk (Kd.R_lower (Kd.R_new' Dr (Kd.R_lt (qR Am.out))) (y4 qb));replace Am:=y0.mk (Kd.R_elder' (qR Am.out) (Kd.R_base Dr) hb);replace Ab:=y0.mk (qK Ab.out hb);replace HB:=y0.mk (y5 qb hb);(try clear hb);(try clear Dr);obtain⟨Ds,Dt,Du⟩:=Kd.R_slice As.out;subst Du)|((with_reducible refine gate_builtin (b:=.append) (xs:=#[.tmp 20,.tmp 23]) rfl ?_);at_builtin;refine Kd.R_append_rows (Kd.int .i64) (w0:=w) w.heap.size rfl (.tmp 20) (.tmp 23) 23 3 (.int .i64 0) 8 rfl Tryz.underlying23 info3 rfl (by decide) (by omega) u5 Au Bn _ _ _ (fun k_=>some k_≠(.slice Ds Bn.length Dt:Value).ownBlock) (fun _=>False) rfl rfl ?aO ?aR (fun _ _ h=>h) (fun _ h=>h.elim) ?aF ?aB ?aS ?aL ?_;(case aR=>repeat(first|exact(Kd.R_reads' As.out).2.2|(with_reducible refine Kd.C_alloc ?_ _)|(with_reducible refine Kd.C_drewN ?_ _)|(with_reducible refine Kd.C_drew ?_)));(case aB=>exact qb);(case aF=>exact(fun k_ hk=>Kd.fresh' (Kd.R_lt (qR As.out)) k_ hk));(case aO=>exact(qR (Kd.R_mono Am.out (fun _ hk=>hk.2))));(case aS=>exact(y4 qb));(case aL=>have:=Eb.out;omega);intro Ek Eo ho hb hg hat;rw [← Ar.out]at ho;replace Ab:=y0.mk (y12 (qk Ab.out) hg (Kd.R_ne Am.out Ab.out (by decide)));replace As:=y0.mk (Kd.R_after (ok:=(fun _=>True)) (qR As.out) hg hat);replace HB:=y0.mk (hb);have Cu:=y0.mk (ho);clear Am;clear ho hb hg hat))
    go_roundg k1
    case measure=>have:=Do.out;omega
    exact⟨(Cs),(wrap64 (Ac + 1)),qy2,H',⟨by have:=Do.out;omega⟩,⟨qR (Kd.R_mono Cu.out (fun _ hk=>trivial))⟩,⟨qk Ab.out⟩,⟨qb⟩⟩
   ·rw [if_neg c9]at H
    have Dp:=decide_eq_false c9
    clear c9
    obtain⟨Ed,H⟩:=qo H
    replace Ed:=y0.mk Ed
    obtain⟨Bi,At⟩:∃ y_:List Int,y_=(Au ++ [a1]):=⟨_,rfl⟩
    replace H:((slices_Sort_int_int.f Bi).bind fun Ce=>(some Ce))=some r:=by first|exact At ▸ H|exact At ▸ (Option.bind_some _ _).symm.trans H
    replace At:=y0.mk At
    obtain⟨Ce,El,H⟩:=qB H
    obtain rfl:=Option.some.inj H
    go_wp2_with (first|((with_reducible refine gate_builtin (b:=.append) (xs:=#[.tmp 26,.tmp 28]) rfl ?_);at_builtin;refine Kd.R_append (Kd.int .i64) (w0:=w) w.heap.size rfl (.tmp 26) (.tmp 28) 23 3 (.int .i64 0) 8 rfl Tryz.underlying23 info3 rfl (by decide) (by omega) u5 Au a1 [.int .i64 a1] (fun _=>True) (fun _=>False) rfl rfl ?aP (fun _ hk=>hk.elim) ?aF ?aO ?aB ?aS ?aL ?_;(case aP=>exact rfl);(case aB=>exact qb);(case aF=>exact(fun _ _=>trivial));(case aO=>exact(qR Am.out));(case aS=>exact(y4 qb));(case aL=>have:=Ed.out;omega);intro Em Ep ho hb hg hat;rw [← At.out]at ho;replace Ab:=y0.mk (y12 (qk Ab.out) hg (Kd.R_ne Am.out Ab.out (by decide)));replace HB:=y0.mk (hb);have Al:=y0.mk (ho);clear Am;clear ho hb hg hat;obtain⟨Cf,Cg,Dv⟩:=Kd.R_slice Al.out;subst Dv)|((with_reducible refine y18 (f:=55) rfl ?_);refine y21 (some 31) rfl rfl Tryz.func55 (by kernel_rfl) rfl #[.slice Cf Bi.length Cg] rfl qy1 ?_;(with_reducible refine(slices_Sort_int_int.calls (fun k_=>some k_=(.slice Cf Bi.length Cg:Value).ownBlock) (.slice Cf Bi.length Cg) Bi Ce w _ (by repeat(first|(with_reducible first|exact HB.out|apply below_alloc|apply pw_below_drewN|apply below_drew1|refine below_set ?_ Co.out)|exact HB.out)) (by exact Kd.R_tight rfl (qR Al.out)) El.out).mono ?_);rintro e Er ⟨rfl,Ee,hb,hkp⟩;refine⟨_,rfl, ?_⟩;replace Ab:=y0.mk (blk_kept (qk Ab.out) hkp (fun hs_=>(fun e_=>(Kd.R_ne Al.out Ab.out (by decide)) e_) hs_));replace Al:=y0.mk (Kd.R_reok rfl Ee (fun k_ e_=>Al.out.1 k_ e_));replace HB:=y0.mk (hb);(try clear hb);(try clear hkp);(try clear Ee)))
    go_ret
    exact⟨_,by first|rfl|(simp [y15,y16] <;> rfl)|(simp [*,y15,y16] <;> rfl),by(with_reducible repeat(first|apply Kd.R_alloc|apply Kd.R_drewN|apply Kd.R_drew));exact Al.out,qb⟩
def slices_Index_string_string.l0:Nat→List ByteArray→ByteArray→Int→Int→Option (Int)
 | 0,_,_,_,_=>none
 | k + 1,x0,x1,x7,x8=>if x8 < x7 then(if 0≤x8 then(if x8 < (x0.length:Int)then(if x1.toList=(rdOf ByteArray.empty x0 x8).toList then(some x8)else(slices_Index_string_string.l0 k x0 x1 x7 (wrap64 (x8 + 1))))else(none))else(none))else(some (-1))
def slices_Index_string_string.f (k:Nat) (l0:List ByteArray) (a1:ByteArray):Option (Int):=slices_Index_string_string.l0 k l0 a1 (l0.length:Int) 0
theorem slices_Index_string_string.calls (k:Nat) (A0:Option Addr) (c0:Nat) (l0:List ByteArray) (a1:ByteArray) (r:Int) (w:World) (Aj:Kd.C Kd.string w A0 l0.length l0) (Ak:l0.length≤c0) (h:slices_Index_string_string.f k l0 a1=some r) :
  Calls Tryz.prog 40 #[.slice A0 l0.length c0,.string a1] w fun e w'=>e=.returned (.int .i64 r)∧y1 w w':=by
 have Ap:=y0.mk Aj
 have As:=y0.mk Ak
 clear Aj Ak
 have H:(slices_Index_string_string.l0 k l0 a1 (l0.length:Int) 0)=some r:=h
 clear h
 have H':=y0.mk H
 clear H
 go_enter Tryz.func40,Tryz.ntmps40
 go_wp2
 go_loopg [8] k (fun kq v8 w'=>∃(Aa:Int),v8=.int .i64 Aa∧y0 (slices_Index_string_string.l0 kq l0 a1 (l0.length:Int) Aa=some r)∧y0 (kq≤k)∧y1 w w')
 case atStart=>exact⟨(0),qy2,H',⟨Nat.le_refl _⟩,by repeat(first|exact y1.refl _|apply y1.step)⟩
 case round =>
  clear H'
  obtain⟨Aa,rfl,HA,Al,⟨m1,rfl⟩⟩:=hrel
  cases gk with
  | zero=>exact absurd HA.out (by simp [slices_Index_string_string.l0])
  | succ k1 =>
   have H:=HA.out
   clear HA
   simp only [slices_Index_string_string.l0]at H
   by_cases c3:Aa < (l0.length:Int)
   ·rw [if_pos c3]at H
    have Af:=decide_eq_true c3
    clear c3
    obtain⟨c4,H⟩:=qo H
    have Aq:decide (0≤Aa)=true:=decide_eq_true c4
    clear c4
    obtain⟨c5,H⟩:=qo H
    have Ar:decide (Aa < (l0.length:Int))=true:=decide_eq_true c5
    clear c5
    have Ab:0≤(Aa:Int):=qd
    have Ac:Aa < (l0.length:Int):=qd
    obtain⟨Am,Ag,Ad⟩:=Kd.at_string Ap.out Aa Ab Ac
    cases Ag
    replace Ab:=eq_true Ab
    replace Ac:=eq_true Ac
    by_cases c6:a1.toList=(rdOf ByteArray.empty l0 Aa).toList
    ·rw [if_pos c6]at H
     have Ah:(a1.toList == (rdOf ByteArray.empty l0 Aa).toList)=true:=beq_iff_eq.mpr c6
     have Ai:(a1.toList != (rdOf ByteArray.empty l0 Aa).toList)=false:=bne_eq_false_iff_eq.mpr c6
     clear c6
     obtain rfl:=Option.some.inj H
     go_wp2
     go_ret
     exact qf2
    ·rw [if_neg c6]at H
     have Ah:(a1.toList == (rdOf ByteArray.empty l0 Aa).toList)=false:=beq_eq_false_iff_ne.mpr c6
     have Ai:(a1.toList != (rdOf ByteArray.empty l0 Aa).toList)=true:=bne_iff_ne.mpr c6
     have H':=y0.mk H
     clear H
     go_wp2
     go_roundg k1
     case measure=>have:=Al.out;omega
     exact⟨(wrap64 (Aa + 1)),qy2,H',⟨by have:=Al.out;omega⟩,by repeat(first|exact y1.refl _|apply y1.step)⟩
   ·rw [if_neg c3]at H
    have Af:=decide_eq_false c3
    clear c3
    obtain rfl:=Option.some.inj H
    go_wp2
    go_ret
    exact qf2
def strconv_Itoa.f (a0:Int):Option ByteArray:=if -9223372036854775808≤a0 then if a0≤9223372036854775807 then some ⟨(Lib.itoa a0).toArray⟩else none else none
theorem strconv_Itoa.calls (a0:Int) (r:ByteArray) (w:World) (hT:Tb w) (h:strconv_Itoa.f a0=some r) :
  Calls Tryz.prog 59 #[.int .i64 a0] w fun e w'=>e=.returned (.string r)∧Below w.heap.size w w':=by
 unfold strconv_Itoa.f at h
 by_cases h0:-9223372036854775808≤a0
 ·by_cases h1:a0≤9223372036854775807
  ·rw [if_pos h0,if_pos h1]at h
   obtain rfl:=Option.some.inj h
   refine(Tryz.strconv_Itoa a0 h0 h1 w hT.pow).mono ?_
   rintro e w' ⟨rfl,k,os,rfl⟩
   exact⟨rfl,QRead.below_grow_drewN w k os⟩
  ·rw [if_pos h0,if_neg h1]at h
   cases h
 ·rw [if_neg h0]at h
  cases h
def ErrIs:Option Int→Value→Prop
 | none,ev=>ev=.nilIface
 | some _,ev=>∃ te pe,ev=.iface te pe
theorem errIs_none {ev:Value} (h:ErrIs none ev):ev=.nilIface:=h
theorem errIs_some {q:Int} {ev:Value} (h:ErrIs (some q) ev):∃ te pe,ev=.iface te pe:=h
def strconv_Atoi.f (a0:ByteArray):Option (Int×Option Int) :=
 if a0.size≤281474976710656 then(match Lib.atoiAll a0.data.toList with
  | .ok v=>some (v,none)
  | .range=>some (Lib.atoiSat a0.data.toList,some 1)
  | _=>some (0,some 0))else none
theorem strconv_Atoi.calls (a0:ByteArray) (r1:Int) (r2:Option Int) (w:World) (hT:Tb w) (h:strconv_Atoi.f a0=some (r1,r2)) :
  Calls Tryz.prog 60 #[.string a0] w fun e w'=>∃ ev,e=.returned (.tuple #[.int .i64 r1,ev])∧ErrIs r2 ev∧Below w.heap.size w w':=by
 unfold strconv_Atoi.f at h
 by_cases h0:a0.size≤281474976710656
 ·rw [if_pos h0]at h
  rcases hn:Lib.atoiAll a0.data.toList with v|_|_
  ·
   simp only [hn,Option.some.injEq,Prod.mk.injEq]at h
   obtain⟨rfl,rfl⟩:=h
   refine(Tryz.strconv_Atoi_ok a0 (by omega) v hn w).mono ?_
   rintro e w' ⟨rfl,hw⟩
   refine⟨_,rfl,rfl, ?_⟩
   rcases hw with rfl|⟨t,rfl⟩
   ·exact Below.refl _ _
   ·exact bytes_below (Below.refl _ _) (Nat.le_refl _) _ _
  ·
   simp only [hn,Option.some.injEq,Prod.mk.injEq]at h
   obtain⟨rfl,rfl⟩:=h
   obtain⟨ev,h1,h2⟩:=hT.es
   refine(Tryz.strconv_Atoi_syntax a0 h0 hn ev w h1 h2).mono ?_
   rintro e w' ⟨n,rfl,_,_,hb⟩
   exact⟨_,rfl,⟨_,_,rfl⟩,hb⟩
  ·
   simp only [hn,Option.some.injEq,Prod.mk.injEq]at h
   obtain⟨rfl,rfl⟩:=h
   obtain⟨ev,h1,h2⟩:=hT.er
   refine(Tryz.strconv_Atoi_range a0 h0 hn ev w h1 h2).mono ?_
   rintro e w' ⟨n,rfl,_,_,hb⟩
   exact⟨_,rfl,⟨_,_,rfl⟩,hb⟩
 ·rw [if_neg h0]at h
  cases h
def impl_isDigit.f (a0:Int):Option (Bool):=if a0≥48 then(some (decide (a0≤57)))else(some false)
theorem impl_isDigit.calls (a0:Int) (r:Bool) (w:World) (h:impl_isDigit.f a0=some r) :
  Calls Tryz.prog 78 #[.int .u8 a0] w fun e w'=>e=.returned (.bool r)∧y1 w w':=by
 have H:(if a0≥48 then(some (decide (a0≤57)))else(some false))=some r:=h
 clear h
 by_cases c2:a0≥48
 ·rw [if_pos c2]at H
  have c2b0:decide (48≤a0)=true:=decide_eq_true c2
  clear c2
  obtain rfl:=Option.some.inj H
  go_enter Tryz.func78,Tryz.ntmps78
  go_wp2
  go_ret
  exact qf2
 ·rw [if_neg c2]at H
  have c2b0:decide (48≤a0)=false:=decide_eq_false c2
  clear c2
  obtain rfl:=Option.some.inj H
  go_enter Tryz.func78,Tryz.ntmps78
  go_wp2
  go_ret
  exact qf2
def impl_isLetter.f (a0:Int):Option (Bool):=if a0≥97 then(if a0≤122 then(some true)else(if a0≥65 then(some (decide (a0≤90)))else(some false)))else(if a0≥65 then(some (decide (a0≤90)))else(some false))
theorem impl_isLetter.calls (a0:Int) (r:Bool) (w:World) (h:impl_isLetter.f a0=some r) :
  Calls Tryz.prog 98 #[.int .u8 a0] w fun e w'=>e=.returned (.bool r)∧y1 w w':=by
 have H:(if a0≥97 then(if a0≤122 then(some true)else(if a0≥65 then(some (decide (a0≤90)))else(some false)))else(if a0≥65 then(some (decide (a0≤90)))else(some false)))=some r:=h
 clear h
 by_cases c2:a0≥97
 ·rw [if_pos c2]at H
  have Aa:decide (97≤a0)=true:=decide_eq_true c2
  clear c2
  by_cases c3:a0≤122
  ·rw [if_pos c3]at H
   have Ab:=decide_eq_true c3
   clear c3
   obtain rfl:=Option.some.inj H
   go_enter Tryz.func98,Tryz.ntmps98
   go_wp2
   go_ret
   exact qf2
  ·rw [if_neg c3]at H
   have Ab:=decide_eq_false c3
   clear c3
   by_cases c4:a0≥65
   ·rw [if_pos c4]at H
    have Ac:decide (65≤a0)=true:=decide_eq_true c4
    clear c4
    obtain rfl:=Option.some.inj H
    go_enter Tryz.func98,Tryz.ntmps98
    go_wp2
    go_ret
    exact qf2
   ·rw [if_neg c4]at H
    have Ac:decide (65≤a0)=false:=decide_eq_false c4
    clear c4
    obtain rfl:=Option.some.inj H
    go_enter Tryz.func98,Tryz.ntmps98
    go_wp2
    go_ret
    exact qf2
 ·rw [if_neg c2]at H
  have Aa:decide (97≤a0)=false:=decide_eq_false c2
  clear c2
  by_cases c5:a0≥65
  ·rw [if_pos c5]at H
   have Ad:decide (65≤a0)=true:=decide_eq_true c5
   clear c5
   obtain rfl:=Option.some.inj H
   go_enter Tryz.func98,Tryz.ntmps98
   go_wp2
   go_ret
   exact qf2
  ·rw [if_neg c5]at H
   have Ad:decide (65≤a0)=false:=decide_eq_false c5
   clear c5
   obtain rfl:=Option.some.inj H
   go_enter Tryz.func98,Tryz.ntmps98
   go_wp2
   go_ret
   exact qf2
def impl_isWordByte.f (a0:Int):Option (Bool):=(impl_isLetter.f a0).bind fun Ae=>(if Ae=true then(some true)else((impl_isDigit.f a0).bind fun An=>(if An=true then(some true)else(some (a0 == 95)))))
theorem impl_isWordByte.calls (a0:Int) (r:Bool) (w:World) (h:impl_isWordByte.f a0=some r) :
  Calls Tryz.prog 97 #[.int .u8 a0] w fun e w'=>e=.returned (.bool r)∧y1 w w':=by
 have H:((impl_isLetter.f a0).bind fun Aa=>(if Aa=true then(some true)else((impl_isDigit.f a0).bind fun Ab=>(if Ab=true then(some true)else(some (a0 == 95))))))=some r:=h
 clear h
 obtain⟨Aa,A2,H⟩:=qB H
 by_cases c3:Aa=true
 ·subst c3
  replace H:=qT H
  obtain rfl:=Option.some.inj H
  go_enter Tryz.func97,Tryz.ntmps97
  go_wp2_with (first|((with_reducible refine y18 (f:=98) rfl ?_);refine y21 (some 4) rfl rfl Tryz.func98 (by kernel_rfl) rfl #[.int .u8 a0] rfl qy1 ?_;(with_reducible refine(impl_isLetter.calls a0 true _ A2.out).mono ?_);rintro e w' ⟨rfl,⟨nd,rfl⟩⟩;refine⟨_,rfl, ?_⟩))
  go_ret
  exact qf2
 ·replace c3:=Bool.eq_false_iff.mpr c3
  subst c3
  replace H:=qF H
  obtain⟨Ab,A4,H⟩:=qB H
  by_cases c5:Ab=true
  ·subst c5
   replace H:=qT H
   obtain rfl:=Option.some.inj H
   go_enter Tryz.func97,Tryz.ntmps97
   go_wp2_with (first|((with_reducible refine y18 (f:=98) rfl ?_);refine y21 (some 4) rfl rfl Tryz.func98 (by kernel_rfl) rfl #[.int .u8 a0] rfl qy1 ?_;(with_reducible refine(impl_isLetter.calls a0 false _ A2.out).mono ?_);rintro e w' ⟨rfl,⟨nd,rfl⟩⟩;refine⟨_,rfl, ?_⟩)|(go_at_call 78;(with_reducible refine(impl_isDigit.calls a0 true _ A4.out).mono ?_);rintro e w' ⟨rfl,⟨nd,rfl⟩⟩))
   go_ret
   exact qf2
  ·replace c5:=Bool.eq_false_iff.mpr c5
   subst c5
   replace H:=qF H
   obtain rfl:=Option.some.inj H
   go_enter Tryz.func97,Tryz.ntmps97
   go_wp2_with (first|((with_reducible refine y18 (f:=98) rfl ?_);refine y21 (some 4) rfl rfl Tryz.func98 (by kernel_rfl) rfl #[.int .u8 a0] rfl qy1 ?_;(with_reducible refine(impl_isLetter.calls a0 false _ A2.out).mono ?_);rintro e w' ⟨rfl,⟨nd,rfl⟩⟩;refine⟨_,rfl, ?_⟩)|(go_at_call 78;(with_reducible refine(impl_isDigit.calls a0 false _ A4.out).mono ?_);rintro e w' ⟨rfl,⟨nd,rfl⟩⟩))
   go_ret
   exact qf2
def impl_nameLong.l0:Nat→ByteArray→Int→Option (Int)
 | 0,_,_=>none
 | k + 1,x0,x3=>if x3 < (x0.size:Int)then(if 0≤x3 then((impl_isWordByte.f (bt x0 x3)).bind fun Ae=>(if Ae=true then(if x3 > 0 then(impl_nameLong.l0 k x0 (wrap64 (x3 + 1)))else(if 0 < (x0.size:Int)then((impl_isLetter.f (bt x0 0)).bind fun An=>(if An=true then(impl_nameLong.l0 k x0 (wrap64 (x3 + 1)))else(some x3)))else(none)))else(some x3)))else(none))else(some x3)
def impl_nameLong.f (k:Nat) (a0:ByteArray):Option (Int):=impl_nameLong.l0 k a0 0
theorem impl_nameLong.calls (k:Nat) (a0:ByteArray) (r:Int) (w:World) (h:impl_nameLong.f k a0=some r) :
  Calls Tryz.prog 76 #[.string a0] w fun e w'=>e=.returned (.int .i64 r)∧y1 w w':=by
 have H:(impl_nameLong.l0 k a0 0)=some r:=h
 clear h
 have H':=y0.mk H
 clear H
 go_enter Tryz.func76,Tryz.ntmps76
 go_wp2
 go_loopg [3] k (fun kq v3 w'=>∃(Aa:Int),v3=.int .i64 Aa∧y0 (impl_nameLong.l0 kq a0 Aa=some r)∧y0 (kq≤k)∧y1 w w')
 case atStart=>exact⟨(0),qy2,H',⟨Nat.le_refl _⟩,by repeat(first|exact y1.refl _|apply y1.step)⟩
 case round =>
  clear H'
  obtain⟨Aa,rfl,HA,Ab,⟨m1,rfl⟩⟩:=hrel
  cases gk with
  | zero=>exact absurd HA.out (by simp [impl_nameLong.l0])
  | succ k1 =>
   have H:=HA.out
   clear HA
   simp only [impl_nameLong.l0]at H
   by_cases c2:Aa < (a0.size:Int)
   ·rw [if_pos c2]at H
    have Ad:=decide_eq_true c2
    clear c2
    obtain⟨c3,H⟩:=qo H
    have Ak:decide (0≤Aa)=true:=decide_eq_true c3
    clear c3
    obtain⟨Af,A5,H⟩:=qB H
    by_cases c6:Af=true
    ·subst c6
     replace H:=qT H
     by_cases c7:Aa > 0
     ·rw [if_pos c7]at H
      have Ag:decide (0 < Aa)=true:=decide_eq_true c7
      clear c7
      have H':=y0.mk H
      clear H
      have p4:0≤(Aa:Int):=qd
      have q4:Aa < (a0.size:Int):=qd
      have Ah:=bt_at a0 Aa
      replace p4:=eq_true p4
      replace q4:=eq_true q4
      go_wp2_with (first|(go_at_call 97;(with_reducible refine(impl_isWordByte.calls (bt a0 Aa) true _ A5.out).mono ?_);rintro e w' ⟨rfl,⟨nd,rfl⟩⟩))
      go_roundg k1
      case measure=>have:=Ab.out;omega
      exact⟨(wrap64 (Aa + 1)),qy2,H',⟨by have:=Ab.out;omega⟩,by repeat(first|exact y1.refl _|apply y1.step)⟩
     ·rw [if_neg c7]at H
      have Ag:decide (0 < Aa)=false:=decide_eq_false c7
      clear c7
      obtain⟨c8,H⟩:=qo H
      have Al:=decide_eq_true c8
      have Am:decide (0 < a0.size)=true:=decide_eq_true (by omega)
      clear c8
      obtain⟨Ai,Aj,H⟩:=qB H
      by_cases Ac:Ai=true
      ·subst Ac
       replace H:=qT H
       have H':=y0.mk H
       clear H
       have p4:0≤(Aa:Int):=qd
       have q4:Aa < (a0.size:Int):=qd
       have Ah:=bt_at a0 Aa
       replace p4:=eq_true p4
       replace q4:=eq_true q4
       go_wp2_with (first|(go_at_call 97;(with_reducible refine(impl_isWordByte.calls (bt a0 Aa) true _ A5.out).mono ?_);rintro e w' ⟨rfl,⟨nd,rfl⟩⟩;have p9:0≤(0:Int):=(by omega);have q9:0 < a0.size:=qy3;have Ap:∀ h:0 < a0.size,((a0[0]'h).toNat:Int)=bt a0 0:=bt_at a0 0;clear p9;have Aq:(0 < (a0.size:Int))=True:=eq_true (of_decide_eq_true qy0);replace q9:=eq_true q9)|(go_at_call 98;(with_reducible refine(impl_isLetter.calls (bt a0 0) true _ Aj.out).mono ?_);rintro e w' ⟨rfl,⟨nd,rfl⟩⟩))
       go_roundg k1
       case measure=>have:=Ab.out;omega
       exact⟨(wrap64 (Aa + 1)),qy2,H',⟨by have:=Ab.out;omega⟩,by repeat(first|exact y1.refl _|apply y1.step)⟩
      ·replace Ac:=Bool.eq_false_iff.mpr Ac
       subst Ac
       replace H:=qF H
       obtain rfl:=Option.some.inj H
       have p4:0≤(Aa:Int):=qd
       have q4:Aa < (a0.size:Int):=qd
       have Ah:=bt_at a0 Aa
       replace p4:=eq_true p4
       replace q4:=eq_true q4
       go_wp2_with (first|(go_at_call 97;(with_reducible refine(impl_isWordByte.calls (bt a0 Aa) true _ A5.out).mono ?_);rintro e w' ⟨rfl,⟨nd,rfl⟩⟩;have p9:0≤(0:Int):=(by omega);have q9:0 < a0.size:=qy3;have Ap:∀ h:0 < a0.size,((a0[0]'h).toNat:Int)=bt a0 0:=bt_at a0 0;clear p9;have Aq:(0 < (a0.size:Int))=True:=eq_true (of_decide_eq_true qy0);replace q9:=eq_true q9)|(go_at_call 98;(with_reducible refine(impl_isLetter.calls (bt a0 0) false _ Aj.out).mono ?_);rintro e w' ⟨rfl,⟨nd,rfl⟩⟩))
       go_ret
       exact qf2
    ·replace c6:=Bool.eq_false_iff.mpr c6
     subst c6
     replace H:=qF H
     obtain rfl:=Option.some.inj H
     have p4:0≤(Aa:Int):=qd
     have q4:Aa < (a0.size:Int):=qd
     have Ah:=bt_at a0 Aa
     replace p4:=eq_true p4
     replace q4:=eq_true q4
     go_wp2_with (first|(go_at_call 97;(with_reducible refine(impl_isWordByte.calls (bt a0 Aa) false _ A5.out).mono ?_);rintro e w' ⟨rfl,⟨nd,rfl⟩⟩))
     go_ret
     exact qf2
   ·rw [if_neg c2]at H
    have Ad:=decide_eq_false c2
    clear c2
    obtain rfl:=Option.some.inj H
    go_wp2
    go_ret
    exact qf2
mutual
def impl_symbolLong.l0:Nat→ByteArray→Int→Option (Int)
 | 0,_,_=>none
 | k + 1,x0,x3=>if x3 < (x0.size:Int)then(impl_symbolLong.j1 k x0 x3 (decide (x3≤21)))else(impl_symbolLong.j1 k x0 x3 false)
def impl_symbolLong.j1:Nat→ByteArray→Int→Bool→Option (Int)
 | 0,_,_,_=>none
 | k + 1,x0,x3,Ae=>if Ae=true then(if 0≤x3 then(if x3 < (x0.size:Int)then(if(bt x0 x3)=34 then(some (wrap64 (x3 + 1)))else(if(bt x0 x3) < 32 then(some 0)else(if(bt x0 x3) > 126 then(some 0)else(if(bt x0 x3)=92 then(some 0)else(impl_symbolLong.l0 k x0 (wrap64 (x3 + 1)))))))else(none))else(none))else(some 0)
end
def impl_symbolLong.f (k:Nat) (a0:ByteArray):Option (Int):=impl_symbolLong.l0 k a0 1
theorem impl_symbolLong.calls (k:Nat) (a0:ByteArray) (r:Int) (w:World) (h:impl_symbolLong.f k a0=some r) :
  Calls Tryz.prog 77 #[.string a0] w fun e w'=>e=.returned (.int .i64 r)∧y1 w w':=by
 have H:(impl_symbolLong.l0 k a0 1)=some r:=h
 clear h
 have H':=y0.mk H
 clear H
 go_enter Tryz.func77,Tryz.ntmps77
 go_wp2
 go_loopg [3] k (fun kq v3 w'=>∃(Aa:Int),v3=.int .i64 Aa∧y0 (impl_symbolLong.l0 kq a0 Aa=some r)∧y0 (kq≤k)∧y1 w w')
 case atStart=>exact⟨(1),qy2,H',⟨Nat.le_refl _⟩,by repeat(first|exact y1.refl _|apply y1.step)⟩
 case round =>
  clear H'
  obtain⟨Aa,rfl,HA,Al,⟨m1,rfl⟩⟩:=hrel
  cases gk with
  | zero=>exact absurd HA.out (by simp [impl_symbolLong.l0])
  | succ k1 =>
   have H:=HA.out
   clear HA
   simp only [impl_symbolLong.l0]at H
   have Am:=y0.mk H
   clear H
   go_upto_region 2 with(fail)
   go_cut [11] (fun Aw wc=>∃(kq:Nat) (Ab:Bool),Aw=.bool Ab∧y0 (impl_symbolLong.j1 kq a0 Aa Ab=some r)∧y0 (kq≤k1)∧y1 w wc)
   case first =>
    have H:=Am.out
    clear Am
    by_cases c3:Aa < (a0.size:Int)
    ·rw [if_pos c3]at H
     have Ac:=decide_eq_true c3
     clear c3
     (first|rw [Ac]|(simp only [i64_w,i32_w];rw [Ac])|skip)
     have H':=y0.mk H
     clear H
     go_wp2
     go_meet
     exact⟨_,(decide (Aa≤21)),qy2,H',⟨by have:=Al.out;first|omega|exact Nat.le_refl _⟩,by repeat(first|exact y1.refl _|apply y1.step)⟩
    ·rw [if_neg c3]at H
     have Ac:=decide_eq_false c3
     clear c3
     (first|rw [Ac]|(simp only [i64_w,i32_w];rw [Ac])|skip)
     have H':=y0.mk H
     clear H
     go_wp2
     go_meet
     exact⟨_,(false),qy2,H',⟨by have:=Al.out;first|omega|exact Nat.le_refl _⟩,by repeat(first|exact y1.refl _|apply y1.step)⟩
   case rest =>
    clear Am
    obtain⟨kq,Ab,rfl,HA,Ar,⟨Bd,rfl⟩⟩:=hcut
    cases kq with
    | zero=>exact absurd HA.out (by simp [impl_symbolLong.j1])
    | succ Ax =>
     have H:=HA.out
     clear HA
     simp only [impl_symbolLong.j1]at H
     by_cases c4:Ab=true
     ·subst c4
      replace H:=qT H
      obtain⟨c5,H⟩:=qo H
      have Ay:decide (0≤Aa)=true:=decide_eq_true c5
      clear c5
      obtain⟨c6,H⟩:=qo H
      have Az:decide (Aa < (a0.size:Int))=true:=decide_eq_true c6
      clear c6
      by_cases c8:(bt a0 Aa)=34
      ·rw [if_pos c8]at H
       have Ap:((bt a0 Aa) == 34)=true:=beq_iff_eq.mpr c8
       have Aq:((bt a0 Aa) != 34)=false:=bne_eq_false_iff_eq.mpr c8
       clear c8
       obtain rfl:=Option.some.inj H
       have p7:0≤(Aa:Int):=qd
       have q7:Aa < (a0.size:Int):=qd
       have Ba:=bt_at a0 Aa
       replace p7:=eq_true p7
       replace q7:=eq_true q7
       go_wp2
       go_ret
       exact qf2
      ·rw [if_neg c8]at H
       have Ap:((bt a0 Aa) == 34)=false:=beq_eq_false_iff_ne.mpr c8
       have Aq:((bt a0 Aa) != 34)=true:=bne_iff_ne.mpr c8
       have p7:0≤(Aa:Int):=qd
       have q7:Aa < (a0.size:Int):=qd
       have Ba:=bt_at a0 Aa
       replace p7:=eq_true p7
       replace q7:=eq_true q7
       have p9:0≤(Aa:Int):=qd
       have q9:Aa < (a0.size:Int):=qd
       have Be:=bt_at a0 Aa
       replace p9:=eq_true p9
       replace q9:=eq_true q9
       by_cases Af:(bt a0 Aa) < 32
       ·rw [if_pos Af]at H
        have Ah:=decide_eq_true Af
        clear Af
        obtain rfl:=Option.some.inj H
        go_wp2
        go_ret
        exact qf2
       ·rw [if_neg Af]at H
        have Ah:=decide_eq_false Af
        clear Af
        have As:0≤(Aa:Int):=qd
        have At:Aa < (a0.size:Int):=qd
        have Bb:=bt_at a0 Aa
        replace As:=eq_true As
        replace At:=eq_true At
        by_cases Ag:(bt a0 Aa) > 126
        ·rw [if_pos Ag]at H
         have Ai:decide (126 < (bt a0 Aa))=true:=decide_eq_true Ag
         clear Ag
         obtain rfl:=Option.some.inj H
         go_wp2
         go_ret
         exact qf2
        ·rw [if_neg Ag]at H
         have Ai:decide (126 < (bt a0 Aa))=false:=decide_eq_false Ag
         clear Ag
         have Au:0≤(Aa:Int):=qd
         have Av:Aa < (a0.size:Int):=qd
         have Bc:=bt_at a0 Aa
         replace Au:=eq_true Au
         replace Av:=eq_true Av
         by_cases Ad:(bt a0 Aa)=92
         ·rw [if_pos Ad]at H
          have Aj:((bt a0 Aa) == 92)=true:=beq_iff_eq.mpr Ad
          have Ak:((bt a0 Aa) != 92)=false:=bne_eq_false_iff_eq.mpr Ad
          clear Ad
          obtain rfl:=Option.some.inj H
          go_wp2
          go_ret
          exact qf2
         ·rw [if_neg Ad]at H
          have Aj:((bt a0 Aa) == 92)=false:=beq_eq_false_iff_ne.mpr Ad
          have Ak:((bt a0 Aa) != 92)=true:=bne_iff_ne.mpr Ad
          have H':=y0.mk H
          clear H
          go_wp2
          go_roundg Ax
          case measure=>have:=Al.out;have:=Ar.out;omega
          exact⟨(wrap64 (Aa + 1)),qy2,H',⟨by have:=Al.out;have:=Ar.out;omega⟩,by repeat(first|exact y1.refl _|apply y1.step)⟩
     ·replace c4:=Bool.eq_false_iff.mpr c4
      subst c4
      replace H:=qF H
      obtain rfl:=Option.some.inj H
      go_wp2
      go_ret
      exact qf2
end Go.Proofs.YtimhlficlhafbaaGreatDoor.Pv
end
