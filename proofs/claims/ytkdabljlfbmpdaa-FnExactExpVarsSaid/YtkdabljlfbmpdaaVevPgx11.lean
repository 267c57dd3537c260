-- Cut by prune.py, a program of this session, out of the texts of this claim: Lean checks it.
import Derived.Test.YtkdabljlfbmpdaaVevPgx0
import Derived.Test.YtkdabljlfbmpdaaVevPgx10
import Derived.Test.YtkdabljlfbmpdaaVevPgx8
import Derived.Test.YtkdabljlfbmpdaaVevPgx4
section
namespace Go.Proofs.Ytkdabljlfbmpdaa.Pg
open Go.RowKit Go.Proofs.YtkdabljlfbmpdaaW.PrintWords Go.Proofs.YtkdabljlfbmpdaaW.PrintLast Go.Proofs.YtkdabljlfbmpdaaW.PrintMore
attribute [local go_sem] max2_int min2_int max_two min_two max_three min_three max_four min_four   -- for this text's walks alone
set_option linter.unusedVariables false
set_option linter.unusedSimpArgs false
def z2_.f (k:Nat) (l0_0:List (S63)) (a0_1:Int) (a0_2:ByteArray) (l0_3:List Int) (l0_4:List (S33)) (a1_0:Int) (a1_1:ByteArray) (l1_2:List Int):Option (ByteArray):=if a1_0=3 then(if 0 < (l1_2.length:Int)then((z0_.f k l0_0 a0_1 a0_2 l0_3 l0_4 (rd l1_2 0)).bind fun t340=>(if t340.size + 1≤9223372036854775807 then(if(t340 ++ (⟨#[32]⟩:ByteArray)).size + a1_1.size≤9223372036854775807 then(if((t340 ++ (⟨#[32]⟩:ByteArray)) ++ a1_1).size + 1≤9223372036854775807 then(if 1 < (l1_2.length:Int)then((z0_.f k l0_0 a0_1 a0_2 l0_3 l0_4 (rd l1_2 1)).bind fun t342=>(if(((t340 ++ (⟨#[32]⟩:ByteArray)) ++ a1_1) ++ (⟨#[32]⟩:ByteArray)).size + t342.size≤9223372036854775807 then(some ((((t340 ++ (⟨#[32]⟩:ByteArray)) ++ a1_1) ++ (⟨#[32]⟩:ByteArray)) ++ t342))else(none)))else(none))else(none))else(none))else(none)))else(none))else(if a1_0=2 then(if 1 + a1_1.size≤9223372036854775807 then(if((⟨#[33]⟩:ByteArray) ++ a1_1).size + 1≤9223372036854775807 then((z1_.f k l0_0 a0_1 a0_2 l0_3 l0_4 l1_2).bind fun t343=>(if(((⟨#[33]⟩:ByteArray) ++ a1_1) ++ (⟨#[40]⟩:ByteArray)).size + t343.size≤9223372036854775807 then(if((((⟨#[33]⟩:ByteArray) ++ a1_1) ++ (⟨#[40]⟩:ByteArray)) ++ t343).size + 1≤9223372036854775807 then(some (((((⟨#[33]⟩:ByteArray) ++ a1_1) ++ (⟨#[40]⟩:ByteArray)) ++ t343) ++ (⟨#[41]⟩:ByteArray)))else(none))else(none)))else(none))else(none))else(if a1_1.size + 1≤9223372036854775807 then((z1_.f k l0_0 a0_1 a0_2 l0_3 l0_4 l1_2).bind fun t344=>(if(a1_1 ++ (⟨#[40]⟩:ByteArray)).size + t344.size≤9223372036854775807 then(if((a1_1 ++ (⟨#[40]⟩:ByteArray)) ++ t344).size + 1≤9223372036854775807 then(some (((a1_1 ++ (⟨#[40]⟩:ByteArray)) ++ t344) ++ (⟨#[41]⟩:ByteArray)))else(none))else(none)))else(none)))
def z2_.T3:Bool×List (List Nat×List Nat):=(true,[([],[]),([],[]),([1],[1]),([2],[2]),([3],[3]),([0,4],[0,4]),([5],[5]),([],[]),([7],[7]),([6,8],[6,8]),([9],[9]),([],[]),([],[]),([12],[12]),([13],[13]),([14],[14]),([11,15,5],[11,15]),([10,16],[10,16]),([17,16,0,1,2,3,4,5,6,7,8,9,10,11,12,13,14,15,16,17],[17])])
def z2_.B3:List Nat:=[0,0,2,6,14,31,63,0,128,511,1023,0,0,4096,12288,28672,63551,131071,262143]
theorem z2_.tab3:rtab .any (opsOf Try.f68 3)=z2_.T3:=by kernel_rfl
theorem z2_.bits3:waitsOk z2_.T3.2 z2_.B3=true:=by kernel_rfl
def z2_.T5:Bool×List (List Nat×List Nat):=(true,[([],[]),([0],[0]),([1],[1]),([2],[2]),([],[]),([],[]),([5],[5]),([4,6],[4,6]),([3,7],[3,7]),([8],[8]),([9,7,0,1,2,3,4,5,6,7,8,9],[9])])
def z2_.B5:List Nat:=[0,1,3,7,0,0,32,112,255,511,1023]
theorem z2_.tab5:rtab .any (opsOf Try.f68 5)=z2_.T5:=by kernel_rfl
theorem z2_.bits5:waitsOk z2_.T5.2 z2_.B5=true:=by kernel_rfl
def z2_.T6:Bool×List (List Nat×List Nat):=(true,[([],[]),([0],[0]),([1],[1]),([],[]),([],[]),([4],[4]),([3,5],[3,5]),([2,6],[2,6]),([7],[7]),([8,6,0,1,2,3,4,5,6,7,8],[8])])
def z2_.B6:List Nat:=[0,1,3,0,0,16,56,127,255,511]
theorem z2_.tab6:rtab .any (opsOf Try.f68 6)=z2_.T6:=by kernel_rfl
theorem z2_.bits6:waitsOk z2_.T6.2 z2_.B6=true:=by kernel_rfl
set_option maxHeartbeats 8000000 in
set_option maxRecDepth 100000 in
theorem z2_.calls (k:Nat) (At:Option Addr) (Au:Nat) (Ah:List (S63)) (Ak:Int) (Al:ByteArray) (Av:Option Addr) (Aw:Nat) (Ai:List Int) (Ay:Option Addr) (Az:Nat) (Aj:List (S33)) (Am:Int) (Ad:ByteArray) (Bc:Option Addr) (Ba:Nat) (Ac:List Int) (r:ByteArray) (w:World) (Bo:Kd.C k63 w At Ah.length Ah) (Bp:Ah.length≤Au) (Bq:Kd.C (Kd.int .i64) w Av Ai.length Ai) (Br:Ai.length≤Aw) (Bs:Kd.C k33 w Ay Aj.length Aj) (Bt:Aj.length≤Az) (Bu:Kd.C (Kd.int .i64) w Bc Ac.length Ac) (Bv:Ac.length≤Ba) (h:z2_.f k Ah Ak Al Ai Aj Am Ad Ac=some r) :
  Calls Try.prog 68 #[.agg #[.slice At Ah.length Au,.int .i64 Ak,.string Al,.slice Av Ai.length Aw,.slice Ay Aj.length Az],.agg #[.int .i64 Am,.string Ad,.slice Bc Ac.length Ba]] w fun e w'=>e=.returned (.string r)∧Below w.heap.size w w':=by
 have Fe:=Try.underlying36
 have Ff:=Try.underlying33
 have Bg:=y0.mk Bo
 have Bh:=y0.mk Bp
 clear Bo Bp
 have Bi:=y0.mk Bq
 have Bj:=y0.mk Br
 clear Bq Br
 have Bk:=y0.mk Bs
 have Bl:=y0.mk Bt
 clear Bs Bt
 have Bm:=y0.mk Bu
 have Bw:=y0.mk Bv
 clear Bu Bv
 have HB:=y0.mk (Below.refl w.heap.size w)
 have H:(if Am=3 then(if 0 < (Ac.length:Int)then((z0_.f k Ah Ak Al Ai Aj (rd Ac 0)).bind fun Bb=>(if Bb.size + 1≤9223372036854775807 then(if(Bb ++ (⟨#[32]⟩:ByteArray)).size + Ad.size≤9223372036854775807 then(if((Bb ++ (⟨#[32]⟩:ByteArray)) ++ Ad).size + 1≤9223372036854775807 then(if 1 < (Ac.length:Int)then((z0_.f k Ah Ak Al Ai Aj (rd Ac 1)).bind fun Bn=>(if(((Bb ++ (⟨#[32]⟩:ByteArray)) ++ Ad) ++ (⟨#[32]⟩:ByteArray)).size + Bn.size≤9223372036854775807 then(some ((((Bb ++ (⟨#[32]⟩:ByteArray)) ++ Ad) ++ (⟨#[32]⟩:ByteArray)) ++ Bn))else(none)))else(none))else(none))else(none))else(none)))else(none))else(if Am=2 then(if 1 + Ad.size≤9223372036854775807 then(if((⟨#[33]⟩:ByteArray) ++ Ad).size + 1≤9223372036854775807 then((z1_.f k Ah Ak Al Ai Aj Ac).bind fun Be=>(if(((⟨#[33]⟩:ByteArray) ++ Ad) ++ (⟨#[40]⟩:ByteArray)).size + Be.size≤9223372036854775807 then(if((((⟨#[33]⟩:ByteArray) ++ Ad) ++ (⟨#[40]⟩:ByteArray)) ++ Be).size + 1≤9223372036854775807 then(some (((((⟨#[33]⟩:ByteArray) ++ Ad) ++ (⟨#[40]⟩:ByteArray)) ++ Be) ++ (⟨#[41]⟩:ByteArray)))else(none))else(none)))else(none))else(none))else(if Ad.size + 1≤9223372036854775807 then((z1_.f k Ah Ak Al Ai Aj Ac).bind fun Bf=>(if(Ad ++ (⟨#[40]⟩:ByteArray)).size + Bf.size≤9223372036854775807 then(if((Ad ++ (⟨#[40]⟩:ByteArray)) ++ Bf).size + 1≤9223372036854775807 then(some (((Ad ++ (⟨#[40]⟩:ByteArray)) ++ Bf) ++ (⟨#[41]⟩:ByteArray)))else(none))else(none)))else(none))))=some r:=h
 clear h
 by_cases c3:Am=3
 ·rw [if_pos c3]at H
  have Di:(Am == 3)=true:=beq_iff_eq.mpr c3
  have Dj:(Am != 3)=false:=bne_eq_false_iff_eq.mpr c3
  clear c3
  obtain⟨c4,H⟩:=qo H
  have Fg:decide (0 < (Ac.length:Int))=true:=decide_eq_true c4
  have Fh:decide (0 < Ac.length)=true:=decide_eq_true (by omega)
  clear c4
  obtain⟨Bb,A5,H⟩:=qB H
  obtain⟨c6,H⟩:=qo H
  have Fi:=eq_true c6
  have Fj:=decide_eq_true c6
  have Fk:=eq_false (Nat.not_lt.2 c6)
  obtain⟨c7,H⟩:=qo H
  have Fl:=eq_true c7
  have Fm:=decide_eq_true c7
  have Dk:=eq_false (Nat.not_lt.2 c7)
  have Fn:(9223372036854775807 < Bb.size + 1 + Ad.size)=False:=qs Dk
  obtain⟨c8,H⟩:=qo H
  have Fo:=eq_true c8
  have Fp:=decide_eq_true c8
  have Dl:=eq_false (Nat.not_lt.2 c8)
  have Fq:(9223372036854775807 < Bb.size + 1 + Ad.size + 1)=False:=qs Dl
  obtain⟨c9,H⟩:=qo H
  have Fr:decide (1 < (Ac.length:Int))=true:=decide_eq_true c9
  have Fs:decide (1 < Ac.length)=true:=decide_eq_true (by omega)
  clear c9
  obtain⟨Bn,Ft,H⟩:=qB H
  obtain⟨Dm,H⟩:=qo H
  have Dx:=eq_true Dm
  have Dy:=decide_eq_true Dm
  have Ch:=eq_false (Nat.not_lt.2 Dm)
  have Dz:(9223372036854775807 < Bb.size + 1 + Ad.size + 1 + Bn.size)=False:=qs Ch
  obtain rfl:=Option.some.inj H
  go_enter Try.func68,Try.ntmps68
  try go_wp2_with (first|((with_reducible refine y14 (N:=2) rfl ?_);refine qe 2 #[.slice At Ah.length Au,.int .i64 Ak,.string Al,.slice Av Ai.length Aw,.slice Ay Aj.length Az] 36 ?_;intro Ae hg Ga hbox hb;have Aa:=y0.mk (hbox);have Bx:=y0.mk (qg (w:=w) hg);have Bz:=y0.mk (qg (w:=w) hg);replace HB:=y0.mk (y3 qb hb);clear hb hbox hg)|((with_reducible refine y14 (N:=3) rfl ?_);refine qe 3 #[.int .i64 Am,.string Ad,.slice Bc Ac.length Ba] 33 ?_;intro As hg Fu hbox hb;have Ab:=y0.mk (hbox);have Ca:=y0.mk (qg (w:=w) hg);have Cb:=y0.mk (qg (w:=w) hg);replace HB:=y0.mk (y3 qb hb);have Ao:=y0.mk (qn Aa.out hg);have Ap:=y0.mk (qm Aa.out hg);replace Aa:=y0.mk (qK Aa.out hb);clear hb hbox hg;have Ea:=Ap.out;have Eb:=Ao.out;obtain⟨Cq,Cr,Cs,Ct,Cu,Cv⟩:=qz3 Ab.out))
  replace Aa:=y0.mk (y7 Aa.out)
  replace Ab:=y0.mk (y7 Ab.out)
  replace HB:=y0.mk (below_drew1 HB.out)
  have Cc:0≤(0:Int):=(by omega)
  have Cd:0 < (Ac.length:Int):=of_decide_eq_true qy0
  obtain⟨Bd,Do,Aq⟩:=Kd.at_int Bm.out 0 Cc Cd
  have Af:=Aq
  (try rw [show((0:Int)).toNat=0 from rfl]at Af)
  (try rw [show 0 * 1=0 from rfl]at Af)
  (try rw [Addr.add_zero']at Af)
  cases Do
  have Ec:(0 < Ac.length)=True:=eq_true (by omega)
  (try rw [show((0:Int)).toNat=0 from rfl]at Aq)
  (try rw [Addr.add_zero']at Aq)
  replace Aq:=(HB.out.cell (World.block_lt_of_cell? w _ Aq)).trans Aq
  replace Cc:=eq_true Cc
  replace Cd:=eq_true Cd
  have Ce:0≤(1:Int):=(by omega)
  have Cf:1 < (Ac.length:Int):=of_decide_eq_true qy0
  obtain⟨Ci,Dp,Ar⟩:=Kd.at_int Bm.out 1 Ce Cf
  have Ag:=Ar
  (try rw [show((1:Int)).toNat=1 from rfl]at Ag)
  (try rw [show 1 * 1=1 from rfl]at Ag)
  (try simp only [Nat.reduceMul,Nat.reduceEqDiff,Go.Addr.add,↓reduceIte]at Ag)
  obtain rfl:Bd=Ci:=(by injection Dp)
  (try simp only [show(1:Int).toNat=1 from rfl,Nat.reduceMul,Nat.reduceEqDiff,Go.Addr.add,↓reduceIte]at Ar)
  have Ed:(1 < Ac.length)=True:=eq_true (by omega)
  (try rw [show((1:Int)).toNat=1 from rfl]at Ar)
  replace Ar:=(HB.out.cell (World.block_lt_of_cell? w _ Ar)).trans Ar
  replace Ce:=eq_true Ce
  replace Cf:=eq_true Cf
  refine start_ (n:=19) (S:=fun w'=>w'.cell? ⟨Ae,0,none⟩=some (.slice At Ah.length Au)∧w'.cell? ⟨Ae,1,none⟩=some (.int .i64 Ak)∧w'.cell? ⟨Ae,2,none⟩=some (.string Al)∧w'.cell? ⟨Ae,3,none⟩=some (.slice Av Ai.length Aw)∧w'.cell? ⟨Ae,4,none⟩=some (.slice Ay Aj.length Az)∧w'.cell? ⟨As,0,none⟩=some (.int .i64 Am)∧w'.cell? ⟨As,1,none⟩=some (.string Ad)∧w'.cell? ⟨As,2,none⟩=some (.slice (some Bd) Ac.length Ba)∧w'.cell? Bd=some (.int .i64 (rd Ac 0))∧w'.cell? ⟨Bd.block,Bd.off + 1,none⟩=some (.int .i64 (rd Ac 1))) (ds:=[]) (fl_ 19 0) (by kernel_rfl) rfl rfl ⟨(y6 Aa.out 0).trans rfl,(y6 Aa.out 1).trans rfl,(y6 Aa.out 2).trans rfl,(y6 Aa.out 3).trans rfl,(y6 Aa.out 4).trans rfl,(y6 Ab.out 0).trans rfl,(y6 Ab.out 1).trans rfl,(y6 Ab.out 2).trans rfl,((HB.out.cell (World.block_lt_of_cell? w _ Af)).trans Af),((HB.out.cell (World.block_lt_of_cell? w _ Ag)).trans Ag)⟩ (fun hHeld=>?_);refine with_tabW z2_.tab3 z2_.bits3 (fun HT_ HW_=>?_)
  generalize Fu.drew=Gb at Aa Ab HB Aq Ar hHeld ⊢
  refine qp 1 10 (fl_ 19 2) ?_
  refine qp 7 16 (fl_ 19 130) ?_
  refine qp 12 21 (fl_ 19 4226) ?_
  refine qt 0 9 (fl_ 19 4227) hHeld ?_
  refine qt 2 11 (fl_ 19 4231) hHeld ?_
  refine qp 3 12 (fl_ 19 4239) ?_
  refine qt 4 13 (fl_ 19 4255) hHeld ?_
  refine qt 8 17 (fl_ 19 4511) hHeld ?_
  refine qt 11 20 (fl_ 19 6559) hHeld ?_
  refine qt 13 22 (fl_ 19 14751) hHeld ?_
  refine qp 14 23 (fl_ 19 31135) ?_
  refine qt 15 24 (fl_ 19 63903) hHeld ?_
  refine qO 5 14 (fl_ 19 63935) (fun K hK=>?_)
  refine goes_ Try.func83 (by kernel_rfl) rfl #[.agg #[.slice At Ah.length Au,.int .i64 Ak,.string Al,.slice Av Ai.length Aw,.slice Ay Aj.length Az],.int .i64 (rd Ac 0)] (by rfl) rfl rfl qy1 ?_
  with_reducible refine(z0_.calls k _ _ Ah Ak Al _ _ Ai _ _ Aj (rd Ac 0) Bb _ (qc (Kd.C_below Bg.out HB.out)) Bh.out (qc (Kd.C_below Bi.out HB.out)) Bj.out (qc (Kd.C_below Bk.out HB.out)) Bl.out A5.out).mono ?_
  rintro e Gc ⟨rfl,hb⟩
  refine⟨_,rfl, ?_⟩
  replace Aa:=y0.mk (qK Aa.out hb)
  replace Ab:=y0.mk (qK Ab.out hb)
  replace HB:=y0.mk (y3 qb hb)
  (try clear hb)
  refine hK.out _ _ ⟨(y6 Aa.out 0).trans rfl,(y6 Aa.out 1).trans rfl,(y6 Aa.out 2).trans rfl,(y6 Aa.out 3).trans rfl,(y6 Aa.out 4).trans rfl,(y6 Ab.out 0).trans rfl,(y6 Ab.out 1).trans rfl,(y6 Ab.out 2).trans rfl,((HB.out.cell (World.block_lt_of_cell? w _ Af)).trans Af),((HB.out.cell (World.block_lt_of_cell? w _ Ag)).trans Ag)⟩ (fun hHeld=>?_)
  clear hK K
  refine qx 14 ?_
  refine qp 6 15 (fl_ 19 63999) ?_
  refine qp 9 18 (fl_ 19 64511) ?_
  refine qp 10 19 (fl_ 19 65535) ?_
  refine qO 16 25 (fl_ 19 131071) (fun K hK=>?_)
  refine goes_ Try.func83 (by kernel_rfl) rfl #[.agg #[.slice At Ah.length Au,.int .i64 Ak,.string Al,.slice Av Ai.length Aw,.slice Ay Aj.length Az],.int .i64 (rd Ac 1)] (by rfl) rfl rfl qy1 ?_
  with_reducible refine(z0_.calls k _ _ Ah Ak Al _ _ Ai _ _ Aj (rd Ac 1) Bn _ (qc (Kd.C_below Bg.out HB.out)) Bh.out (qc (Kd.C_below Bi.out HB.out)) Bj.out (qc (Kd.C_below Bk.out HB.out)) Bl.out Ft.out).mono ?_
  rintro e Gd ⟨rfl,hb⟩
  refine⟨_,rfl, ?_⟩
  replace Aa:=y0.mk (qK Aa.out hb)
  replace Ab:=y0.mk (qK Ab.out hb)
  replace HB:=y0.mk (y3 qb hb)
  (try clear hb)
  refine hK.out _ _ ⟨(y6 Aa.out 0).trans rfl,(y6 Aa.out 1).trans rfl,(y6 Aa.out 2).trans rfl,(y6 Aa.out 3).trans rfl,(y6 Aa.out 4).trans rfl,(y6 Ab.out 0).trans rfl,(y6 Ab.out 1).trans rfl,(y6 Ab.out 2).trans rfl,((HB.out.cell (World.block_lt_of_cell? w _ Af)).trans Af),((HB.out.cell (World.block_lt_of_cell? w _ Ag)).trans Ag)⟩ (fun hHeld=>?_)
  clear hK K
  refine qx 25 ?_
  refine qp 17 26 (fl_ 19 262143) ?_
  refine qp 18 4 (fl_ 19 524287) ?_
  refine done_ (done_of HT_.out (by kernel_rfl)) ?_
  try go_wp2
  go_ret
  exact⟨qf,qb⟩
 ·rw [if_neg c3]at H
  have Di:(Am == 3)=false:=beq_eq_false_iff_ne.mpr c3
  have Dj:(Am != 3)=true:=bne_iff_ne.mpr c3
  by_cases Cg:Am=2
  ·rw [if_pos Cg]at H
   have Cj:(Am == 2)=true:=beq_iff_eq.mpr Cg
   have Ck:(Am != 2)=false:=bne_eq_false_iff_eq.mpr Cg
   clear Cg
   obtain⟨Dq,H⟩:=qo H
   have Ee:=eq_true Dq
   have Ef:=decide_eq_true Dq
   have Eg:=eq_false (Nat.not_lt.2 Dq)
   obtain⟨Dr,H⟩:=qo H
   have Eh:=eq_true Dr
   have Ei:=decide_eq_true Dr
   have Cl:=eq_false (Nat.not_lt.2 Dr)
   have Ej:(9223372036854775807 < 1 + Ad.size + 1)=False:=qs Cl
   obtain⟨Be,Fv,H⟩:=qB H
   obtain⟨Ds,H⟩:=qo H
   have Ek:=eq_true Ds
   have El:=decide_eq_true Ds
   have Cm:=eq_false (Nat.not_lt.2 Ds)
   have Em:(9223372036854775807 < 1 + Ad.size + 1 + Be.size)=False:=qs Cm
   obtain⟨Dt,H⟩:=qo H
   have En:=eq_true Dt
   have Eo:=decide_eq_true Dt
   have Cn:=eq_false (Nat.not_lt.2 Dt)
   have Ep:(9223372036854775807 < 1 + Ad.size + 1 + Be.size + 1)=False:=qs Cn
   obtain rfl:=Option.some.inj H
   go_enter Try.func68,Try.ntmps68
   try go_wp2_with (first|((with_reducible refine y14 (N:=2) rfl ?_);refine qe 2 #[.slice At Ah.length Au,.int .i64 Ak,.string Al,.slice Av Ai.length Aw,.slice Ay Aj.length Az] 36 ?_;intro Ae hg Ge hbox hb;have Aa:=y0.mk (hbox);have Bx:=y0.mk (qg (w:=w) hg);have Bz:=y0.mk (qg (w:=w) hg);replace HB:=y0.mk (y3 qb hb);clear hb hbox hg)|((with_reducible refine y14 (N:=3) rfl ?_);refine qe 3 #[.int .i64 Am,.string Ad,.slice Bc Ac.length Ba] 33 ?_;intro As hg Fx hbox hb;have Ab:=y0.mk (hbox);have Ca:=y0.mk (qg (w:=w) hg);have Cb:=y0.mk (qg (w:=w) hg);replace HB:=y0.mk (y3 qb hb);have Ao:=y0.mk (qn Aa.out hg);have Ap:=y0.mk (qm Aa.out hg);replace Aa:=y0.mk (qK Aa.out hb);clear hb hbox hg;have Eq:=Ap.out;have Er:=Ao.out;obtain⟨Cw,Cx,Cy,Cz,Da,Db⟩:=qz3 Ab.out))
   replace Aa:=y0.mk (y7 Aa.out)
   replace Ab:=y0.mk (y7 Ab.out)
   replace HB:=y0.mk (below_drew1 HB.out)
   refine start_ (n:=11) (S:=fun w'=>w'.cell? ⟨As,0,none⟩=some (.int .i64 Am)∧w'.cell? ⟨As,1,none⟩=some (.string Ad)∧w'.cell? ⟨As,2,none⟩=some (.slice Bc Ac.length Ba)∧w'.cell? ⟨Ae,0,none⟩=some (.slice At Ah.length Au)∧w'.cell? ⟨Ae,1,none⟩=some (.int .i64 Ak)∧w'.cell? ⟨Ae,2,none⟩=some (.string Al)∧w'.cell? ⟨Ae,3,none⟩=some (.slice Av Ai.length Aw)∧w'.cell? ⟨Ae,4,none⟩=some (.slice Ay Aj.length Az)) (ds:=[]) (fl_ 11 0) (by kernel_rfl) rfl rfl ⟨(y6 Ab.out 0).trans rfl,(y6 Ab.out 1).trans rfl,(y6 Ab.out 2).trans rfl,(y6 Aa.out 0).trans rfl,(y6 Aa.out 1).trans rfl,(y6 Aa.out 2).trans rfl,(y6 Aa.out 3).trans rfl,(y6 Aa.out 4).trans rfl⟩ (fun hHeld=>?_);refine with_tabW z2_.tab5 z2_.bits5 (fun HT_ HW_=>?_)
   generalize Fx.drew=Gf at Aa Ab HB hHeld ⊢
   refine qp 0 29 (fl_ 11 1) ?_
   refine qp 5 34 (fl_ 11 33) ?_
   refine qt 1 30 (fl_ 11 35) hHeld ?_
   refine qp 2 31 (fl_ 11 39) ?_
   refine qp 3 32 (fl_ 11 47) ?_
   refine qt 4 33 (fl_ 11 63) hHeld ?_
   refine qt 6 35 (fl_ 11 127) hHeld ?_
   refine qO 7 36 (fl_ 11 255) (fun K hK=>?_)
   refine goes_ Try.func84 (by kernel_rfl) rfl #[.agg #[.slice At Ah.length Au,.int .i64 Ak,.string Al,.slice Av Ai.length Aw,.slice Ay Aj.length Az],.slice Bc Ac.length Ba] (by rfl) rfl rfl qy1 ?_
   with_reducible refine(z1_.calls k _ _ Ah Ak Al _ _ Ai _ _ Aj _ _ Ac Be _ (qc (Kd.C_below Bg.out HB.out)) Bh.out (qc (Kd.C_below Bi.out HB.out)) Bj.out (qc (Kd.C_below Bk.out HB.out)) Bl.out (qc (Kd.C_below Bm.out HB.out)) Bw.out Fv.out).mono ?_
   rintro e Gg ⟨rfl,hb⟩
   refine⟨_,rfl, ?_⟩
   replace Aa:=y0.mk (qK Aa.out hb)
   replace Ab:=y0.mk (qK Ab.out hb)
   replace HB:=y0.mk (y3 qb hb)
   (try clear hb)
   refine hK.out _ _ ⟨(y6 Ab.out 0).trans rfl,(y6 Ab.out 1).trans rfl,(y6 Ab.out 2).trans rfl,(y6 Aa.out 0).trans rfl,(y6 Aa.out 1).trans rfl,(y6 Aa.out 2).trans rfl,(y6 Aa.out 3).trans rfl,(y6 Aa.out 4).trans rfl⟩ (fun hHeld=>?_)
   clear hK K
   refine qx 36 ?_
   refine qp2 8 37 11 ?_
   refine qp 10 4 (fl_ 11 2047) ?_
   refine done_ (done_of HT_.out (by kernel_rfl)) ?_
   try go_wp2
   go_ret
   exact⟨qf,qb⟩
  ·rw [if_neg Cg]at H
   have Cj:(Am == 2)=false:=beq_eq_false_iff_ne.mpr Cg
   have Ck:(Am != 2)=true:=bne_iff_ne.mpr Cg
   obtain⟨Du,H⟩:=qo H
   have Es:=eq_true Du
   have Et:=decide_eq_true Du
   have Eu:=eq_false (Nat.not_lt.2 Du)
   obtain⟨Bf,Fy,H⟩:=qB H
   obtain⟨Dv,H⟩:=qo H
   have Ew:=eq_true Dv
   have Ex:=decide_eq_true Dv
   have Co:=eq_false (Nat.not_lt.2 Dv)
   have Ey:(9223372036854775807 < Ad.size + 1 + Bf.size)=False:=qs Co
   obtain⟨Dw,H⟩:=qo H
   have Ez:=eq_true Dw
   have Fa:=decide_eq_true Dw
   have Cp:=eq_false (Nat.not_lt.2 Dw)
   have Fb:(9223372036854775807 < Ad.size + 1 + Bf.size + 1)=False:=qs Cp
   obtain rfl:=Option.some.inj H
   go_enter Try.func68,Try.ntmps68
   try go_wp2_with (first|((with_reducible refine y14 (N:=2) rfl ?_);refine qe 2 #[.slice At Ah.length Au,.int .i64 Ak,.string Al,.slice Av Ai.length Aw,.slice Ay Aj.length Az] 36 ?_;intro Ae hg Gh hbox hb;have Aa:=y0.mk (hbox);have Bx:=y0.mk (qg (w:=w) hg);have Bz:=y0.mk (qg (w:=w) hg);replace HB:=y0.mk (y3 qb hb);clear hb hbox hg)|((with_reducible refine y14 (N:=3) rfl ?_);refine qe 3 #[.int .i64 Am,.string Ad,.slice Bc Ac.length Ba] 33 ?_;intro As hg Fz hbox hb;have Ab:=y0.mk (hbox);have Ca:=y0.mk (qg (w:=w) hg);have Cb:=y0.mk (qg (w:=w) hg);replace HB:=y0.mk (y3 qb hb);have Ao:=y0.mk (qn Aa.out hg);have Ap:=y0.mk (qm Aa.out hg);replace Aa:=y0.mk (qK Aa.out hb);clear hb hbox hg;have Fc:=Ap.out;have Fd:=Ao.out;obtain⟨Dc,Dd,De,Df,Dg,Dh⟩:=qz3 Ab.out))
   replace Aa:=y0.mk (y7 Aa.out)
   replace Ab:=y0.mk (y7 Ab.out)
   replace HB:=y0.mk (below_drew1 HB.out)
   refine start_ (n:=10) (S:=fun w'=>w'.cell? ⟨As,0,none⟩=some (.int .i64 Am)∧w'.cell? ⟨As,1,none⟩=some (.string Ad)∧w'.cell? ⟨As,2,none⟩=some (.slice Bc Ac.length Ba)∧w'.cell? ⟨Ae,0,none⟩=some (.slice At Ah.length Au)∧w'.cell? ⟨Ae,1,none⟩=some (.int .i64 Ak)∧w'.cell? ⟨Ae,2,none⟩=some (.string Al)∧w'.cell? ⟨Ae,3,none⟩=some (.slice Av Ai.length Aw)∧w'.cell? ⟨Ae,4,none⟩=some (.slice Ay Aj.length Az)) (ds:=[]) (fl_ 10 0) (by kernel_rfl) rfl rfl ⟨(y6 Ab.out 0).trans rfl,(y6 Ab.out 1).trans rfl,(y6 Ab.out 2).trans rfl,(y6 Aa.out 0).trans rfl,(y6 Aa.out 1).trans rfl,(y6 Aa.out 2).trans rfl,(y6 Aa.out 3).trans rfl,(y6 Aa.out 4).trans rfl⟩ (fun hHeld=>?_);refine with_tabW z2_.tab6 z2_.bits6 (fun HT_ HW_=>?_)
   generalize Fz.drew=Gi at Aa Ab HB hHeld ⊢
   refine qp 0 39 (fl_ 10 1) ?_
   refine qp 4 43 (fl_ 10 17) ?_
   refine qt 1 40 (fl_ 10 19) hHeld ?_
   refine qp 2 41 (fl_ 10 23) ?_
   refine qt 3 42 (fl_ 10 31) hHeld ?_
   refine qt 5 44 (fl_ 10 63) hHeld ?_
   refine qO 6 45 (fl_ 10 127) (fun K hK=>?_)
   refine goes_ Try.func84 (by kernel_rfl) rfl #[.agg #[.slice At Ah.length Au,.int .i64 Ak,.string Al,.slice Av Ai.length Aw,.slice Ay Aj.length Az],.slice Bc Ac.length Ba] (by rfl) rfl rfl qy1 ?_
   with_reducible refine(z1_.calls k _ _ Ah Ak Al _ _ Ai _ _ Aj _ _ Ac Bf _ (qc (Kd.C_below Bg.out HB.out)) Bh.out (qc (Kd.C_below Bi.out HB.out)) Bj.out (qc (Kd.C_below Bk.out HB.out)) Bl.out (qc (Kd.C_below Bm.out HB.out)) Bw.out Fy.out).mono ?_
   rintro e Gj ⟨rfl,hb⟩
   refine⟨_,rfl, ?_⟩
   replace Aa:=y0.mk (qK Aa.out hb)
   replace Ab:=y0.mk (qK Ab.out hb)
   replace HB:=y0.mk (y3 qb hb)
   (try clear hb)
   refine hK.out _ _ ⟨(y6 Ab.out 0).trans rfl,(y6 Ab.out 1).trans rfl,(y6 Ab.out 2).trans rfl,(y6 Aa.out 0).trans rfl,(y6 Aa.out 1).trans rfl,(y6 Aa.out 2).trans rfl,(y6 Aa.out 3).trans rfl,(y6 Aa.out 4).trans rfl⟩ (fun hHeld=>?_)
   clear hK K
   refine qx 45 ?_
   refine qp2 7 46 10 ?_
   refine qp 9 4 (fl_ 10 1023) ?_
   refine done_ (done_of HT_.out (by kernel_rfl)) ?_
   try go_wp2
   go_ret
   exact⟨qf,qb⟩
end Go.Proofs.Ytkdabljlfbmpdaa.Pg
end
section
namespace Go.Proofs.Ytkdabljlfbmpdaa.Pg
open Go.RowKit Go.Proofs.YtkdabljlfbmpdaaW.PrintWords Go.Proofs.YtkdabljlfbmpdaaW.PrintLast Go.Proofs.YtkdabljlfbmpdaaW.PrintMore
attribute [local go_sem] max2_int min2_int max_two min_two max_three min_three max_four min_four   -- for this text's walks alone
set_option linter.unusedVariables false
set_option linter.unusedSimpArgs false
def impl_ruleText.l0:Nat→ByteArray→List ByteArray→List (S33)→Int→Int→List (S63)→Int→ByteArray→List Int→List (S33)→Option (ByteArray)
 | 0,_,_,_,_,_,_,_,_,_,_=>none
 | k + 1,x3,x4,x16,x17,x18,x346000,x346001,x346002,x346003,x346004=>if x18 < x17 then(if 0≤x18 then(if x18 < (x16.length:Int)then((z2_.f k x346000 x346001 x346002 x346003 x346004 ((y16 x16 x18).f0) ((y16 x16 x18).f1) ((y16 x16 x18).f2)).bind fun t353=>(if x4.length < 8796093022208 then(impl_ruleText.l0 k x3 (x4 ++ [t353]) x16 x17 (wrap64 (x18 + 1)) x346000 x346001 x346002 x346003 x346004)else(none)))else(none))else(none))else(if(x4.length:Int) > 0 then((strings_Join.f x4 (⟨#[44,32]⟩:ByteArray)).bind fun t357=>(if 4 + t357.size≤9223372036854775807 then(if x3.size + ((⟨#[32,58,45,32]⟩:ByteArray) ++ t357).size≤9223372036854775807 then(if(x3 ++ ((⟨#[32,58,45,32]⟩:ByteArray) ++ t357)).size + 1≤9223372036854775807 then(if(((x3 ++ ((⟨#[32,58,45,32]⟩:ByteArray) ++ t357)) ++ (⟨#[46]⟩:ByteArray)).size:Int) > 3000 then(some (⟨#[]⟩:ByteArray))else(some ((x3 ++ ((⟨#[32,58,45,32]⟩:ByteArray) ++ t357)) ++ (⟨#[46]⟩:ByteArray))))else(none))else(none))else(none)))else(if x3.size + 1≤9223372036854775807 then(if((x3 ++ (⟨#[46]⟩:ByteArray)).size:Int) > 3000 then(some (⟨#[]⟩:ByteArray))else(some (x3 ++ (⟨#[46]⟩:ByteArray))))else(none)))
def impl_ruleText.f (k:Nat) (l0_0:List (S63)) (a0_1:Int) (a0_2:ByteArray) (l0_3:List Int) (l0_4:List (S33)):Option (ByteArray):=(z3_.f k l0_0 a0_1 a0_2 l0_3 l0_4).bind fun t346=>(if t346=true then((z2_.f k l0_0 a0_1 a0_2 l0_3 l0_4 a0_1 a0_2 l0_3).bind fun t347=>(impl_ruleText.l0 k t347 (([]:List ByteArray)) l0_4 (l0_4.length:Int) 0 l0_0 a0_1 a0_2 l0_3 l0_4))else(some (⟨#[]⟩:ByteArray)))
set_option maxHeartbeats 8000000 in
set_option maxRecDepth 100000 in
theorem impl_ruleText.calls (k:Nat) (Aq:Option Addr) (Ar:Nat) (Af:List (S63)) (Ag:Int) (Ah:ByteArray) (Am:Option Addr) (Ao:Nat) (Ae:List Int) (Aw:Option Addr) (As:Nat) (Aa:List (S33)) (r:ByteArray) (w:World) (Cd:Kd.C k63 w Aq Af.length Af) (Ce:Af.length≤Ar) (Cf:Kd.C (Kd.int .i64) w Am Ae.length Ae) (Cg:Ae.length≤Ao) (Ch:Kd.C k33 w Aw Aa.length Aa) (Ci:Aa.length≤As) (h:impl_ruleText.f k Af Ag Ah Ae Aa=some r) :
  Calls Try.prog 52 #[.agg #[.slice Aq Af.length Ar,.int .i64 Ag,.string Ah,.slice Am Ae.length Ao,.slice Aw Aa.length As]] w fun e w'=>e=.returned (.string r)∧Below w.heap.size w w':=by
 have Gv:=Try.underlying36
 have Gw:=Try.underlying33
 have Bf:=y0.mk Cd
 have Bg:=y0.mk Ce
 clear Cd Ce
 have Ay:=y0.mk Cf
 have Az:=y0.mk Cg
 clear Cf Cg
 have Ba:=y0.mk Ch
 have Bh:=y0.mk Ci
 clear Ch Ci
 have HB:=y0.mk (Below.refl w.heap.size w)
 have H:((z3_.f k Af Ag Ah Ae Aa).bind fun Co=>(if Co=true then((z2_.f k Af Ag Ah Ae Aa Ag Ah Ae).bind fun Ad=>(impl_ruleText.l0 k Ad (([]:List ByteArray)) Aa (Aa.length:Int) 0 Af Ag Ah Ae Aa))else(some (⟨#[]⟩:ByteArray))))=some r:=h
 clear h
 obtain⟨Co,A2,H⟩:=qB H
 by_cases c3:Co=true
 ·subst c3
  replace H:=qT H
  obtain⟨Ad,A4,H⟩:=qB H
  obtain⟨Do,Bb⟩:∃ y_:List ByteArray,y_=(([]:List ByteArray)):=⟨_,rfl⟩
  replace H:(impl_ruleText.l0 k Ad Do Aa (Aa.length:Int) 0 Af Ag Ah Ae Aa)=some r:=by first|(rw [Bb];with_reducible exact H)|(have H2_:=(Option.bind_some _ _).symm.trans H;rw [Bb];with_reducible exact H2_)|(have H2_:=(Option.bind_some _ _).symm.trans H;with_reducible exact H2_)|with_reducible exact H|(rw [Bb];exact H)|exact H
  have Cj:=y0.mk Bb
  clear Bb
  have H':=y0.mk H
  clear H
  go_enter Try.func52,Try.ntmps52
  go_wp2_with (first|((with_reducible refine y14 (N:=1) rfl ?_);refine qe 1 #[.slice Aq Af.length Ar,.int .i64 Ag,.string Ah,.slice Am Ae.length Ao,.slice Aw Aa.length As] 36 ?_;intro Bm hg w5 hbox hb;have Ab:=y0.mk (hbox);have Dp:=y0.mk (qg (w:=w) hg);have Dq:=y0.mk (qg (w:=w) hg);replace HB:=y0.mk (y3 qb hb);clear hb hbox hg;obtain⟨Cp,Cq,Cr,Cs,Ct,Cu,Cv,Cw,Cx,Cy⟩:=qz5 Ab.out)|((with_reducible refine y13 (f:=67) rfl ?_);refine y15 (some 8) rfl rfl Try.func67 (by kernel_rfl) rfl #[.agg #[.slice Aq Af.length Ar,.int .i64 Ag,.string Ah,.slice Am Ae.length Ao,.slice Aw Aa.length As]] rfl qy1 ?_;(with_reducible refine(z3_.calls k _ _ Af Ag Ah _ _ Ae _ _ Aa true _ (qc (Kd.C_below Bf.out HB.out)) Bg.out (qc (Kd.C_below Ay.out HB.out)) Az.out (qc (Kd.C_below Ba.out HB.out)) Bh.out A2.out).mono ?_);rintro e w7 ⟨rfl,hb⟩;refine⟨_,rfl, ?_⟩;replace Ab:=y0.mk (qK Ab.out hb);replace HB:=y0.mk (y3 qb hb);(try clear hb);obtain⟨Cz,Da,Db,Dc,Dd,De,Df,Dg,Dh,Di⟩:=qz5 Ab.out)|((with_reducible refine y13 (f:=68) rfl ?_);refine y15 (some 13) rfl rfl Try.func68 (by kernel_rfl) rfl #[.agg #[.slice Aq Af.length Ar,.int .i64 Ag,.string Ah,.slice Am Ae.length Ao,.slice Aw Aa.length As],.agg #[.int .i64 Ag,.string Ah,.slice Am Ae.length Ao]] rfl qy1 ?_;(with_reducible refine(z2_.calls k _ _ Af Ag Ah _ _ Ae _ _ Aa Ag Ah _ _ Ae Ad _ (qc (Kd.C_below Bf.out HB.out)) Bg.out (qc (Kd.C_below Ay.out HB.out)) Az.out (qc (Kd.C_below Ba.out HB.out)) Bh.out (qc (Kd.C_below Ay.out HB.out)) Az.out A4.out).mono ?_);rintro e w9 ⟨rfl,hb⟩;refine⟨_,rfl, ?_⟩;replace Ab:=y0.mk (qK Ab.out hb);replace HB:=y0.mk (y3 qb hb);(try clear hb))|((with_reducible refine y14 (N:=14) rfl ?_);refine qL Kd.string 9 14 ([]:List ByteArray) ?_;intro Gx Hf Bn hb hg_ hnew_;clear hg_ hnew_;(first|rw [← Cj.out]at Bn|(simp only [Int.reduceToNat]at Bn;rw [← Cj.out]at Bn));have Dr:=y0.mk (Kd.R_lower Bn (y2 qb));replace Ab:=y0.mk (qK Ab.out hb);replace HB:=y0.mk (y3 qb hb);clear hb Bn;obtain⟨Bp,Bq,Br,Bs,Bt,Bu,Bv,Bw,Bx,Bz⟩:=qz5 Ab.out))
  go_loopg [4,18] k (fun kq v4 Gy w'=>∃(Al:List ByteArray) (Ac:Int),Gy=.int .i64 Ac∧y0 (impl_ruleText.l0 kq Ad Al Aa (Aa.length:Int) Ac Af Ag Ah Ae Aa=some r)∧y0 (kq≤k)∧y0 (Kd.R Kd.string 9 w' w.heap.size (fun _=>True) v4 Al)∧y0 (w'.heap[Bm]?=some (.cells #[(.slice Aq Af.length Ar),.int .i64 Ag,.string Ah,(.slice Am Ae.length Ao),(.slice Aw Aa.length As)] 36 (0,0)))∧y0 (Below w.heap.size w w'))
  case atStart=>exact⟨(Do),(0),qy2,H',⟨Nat.le_refl _⟩,⟨qR Dr.out⟩,⟨qk Ab.out⟩,⟨qb⟩⟩
  case round =>
   clear H'
   (try clear c3 Bp Bq Br Bs Bt Cp Cq Cr Cs Ct Cz Da Db Dc Dd Bu Bv Bw Bx Bz Cu Cv Cw Cx Cy De Df Dg Dh Di)
   obtain⟨Al,Ac,rfl,HA,Ft,Ai,Ab,HB⟩:=hrel
   cases gk with
   | zero=>exact absurd HA.out (by simp [impl_ruleText.l0])
   | succ k1 =>
    have H:=HA.out
    clear HA
    simp only [impl_ruleText.l0]at H
    by_cases Dl:Ac < (Aa.length:Int)
    ·rw [if_pos Dl]at H
     have Ds:=decide_eq_true Dl
     clear Dl
     obtain⟨Fu,H⟩:=qo H
     have Fv:decide (0≤Ac)=true:=decide_eq_true Fu
     clear Fu
     obtain⟨Fx,H⟩:=qo H
     have Fy:decide (Ac < (Aa.length:Int))=true:=decide_eq_true Fx
     clear Fx
     obtain⟨Ca,Gz,H⟩:=qB H
     obtain⟨Fz,H⟩:=qo H
     have Dt:=y0.mk Fz
     clear Fz
     obtain⟨Du,Bc⟩:∃ y_:List ByteArray,y_=(Al ++ [Ca]):=⟨_,rfl⟩
     replace H:(impl_ruleText.l0 k1 Ad Du Aa (Aa.length:Int) (wrap64 (Ac + 1)) Af Ag Ah Ae Aa)=some r:=by first|(rw [Bc];with_reducible exact H)|(have H2_:=(Option.bind_some _ _).symm.trans H;rw [Bc];with_reducible exact H2_)|(have H2_:=(Option.bind_some _ _).symm.trans H;with_reducible exact H2_)|with_reducible exact H|(rw [Bc];exact H)|exact H
     have Dv:=y0.mk Bc
     clear Bc
     have H':=y0.mk H
     clear H
     have Dj:0≤(Ac:Int):=of_decide_eq_true qy0
     have Dk:Ac < (Aa.length:Int):=of_decide_eq_true qy0
     obtain⟨Ck,Bd,Be,Fg,At,Au,Av,Bi,Bj⟩:=at_T33 Ba.out Ac Dj Dk
     cases Fg
     replace At:=(HB.out.cell (World.block_lt_of_cell? w _ At)).trans At
     replace Au:=(HB.out.cell (World.block_lt_of_cell? w _ Au)).trans Au
     replace Av:=(HB.out.cell (World.block_lt_of_cell? w _ Av)).trans Av
     have Cb:=y0.mk Bj
     have Cc:=y0.mk Bi
     clear Bj Bi
     replace Dj:=eq_true Dj
     replace Dk:=eq_true Dk
     go_wp2_with (first|((with_reducible refine y14 (N:=6) rfl ?_);refine qe 6 #[.int .i64 0,.string (⟨#[]⟩:ByteArray),.slice none 0 0] 33 ?_;intro Bk hg Hg hbox hb;replace Ai:=y0.mk (Kd.R_below (qR Ai.out) hb);have Ap:=y0.mk (hbox);have Ga:=y0.mk (qg (w:=w) hg);have Gb:=y0.mk (qg (w:=w) hg);replace HB:=y0.mk (y3 qb hb);have Ak:=y0.mk (qn Ab.out hg);have Bl:=y0.mk (qm Ab.out hg);replace Ab:=y0.mk (qK Ab.out hb);clear hb hbox hg;have Gc:=Bl.out;have Gd:=Ak.out;obtain⟨Ef,Eg,Eh,Ei,Ej,Ek⟩:=qz3 Ap.out;obtain⟨El,Em,En,Eo,Ep,Eq,Er,Es,Et,Eu⟩:=qz5 Ab.out)|((with_reducible refine y13 (f:=68) rfl ?_);refine y15 (some 25) rfl rfl Try.func68 (by kernel_rfl) rfl #[.agg #[.slice Aq Af.length Ar,.int .i64 Ag,.string Ah,.slice Am Ae.length Ao,.slice (some Ck) Aa.length As],.agg #[.int .i64 ((y16 Aa Ac).f0),.string ((y16 Aa Ac).f1),.slice Bd ((y16 Aa Ac).f2).length Be]] rfl qy1 ?_;(with_reducible refine(z2_.calls k1 _ _ Af Ag Ah _ _ Ae _ _ Aa ((y16 Aa Ac).f0) ((y16 Aa Ac).f1) _ _ ((y16 Aa Ac).f2) Ca _ (by exact Kd.C_below Bf.out qb) Bg.out (by exact Kd.C_below Ay.out qb) Az.out (by exact Kd.C_below Ba.out qb) Bh.out (by exact Kd.C_below Cb.out qb) Cc.out Gz.out).mono ?_);rintro e Hh ⟨rfl,hb⟩;refine⟨_,rfl, ?_⟩;replace Ai:=y0.mk (Kd.R_below (qR ((Kd.R_mono (Kd.R_far (p:=⟨Bk,2,none⟩) (Kd.R_far (p:=⟨Bk,1,none⟩) (Kd.R_far (p:=⟨Bk,0,none⟩) (Kd.R_types Ai.out Ap.out (by decide)) (fun _ hk=>hk.2) (.int .i64 ((y16 Aa Ac).f0))) (fun _ hk=>hk.2) (.string ((y16 Aa Ac).f1))) (fun _ hk=>hk.2) (.slice Bd ((y16 Aa Ac).f2).length Be)) (fun _ h_=>h_.1)))) hb);replace Ab:=y0.mk (y5 (g:=Bm) (o:=.cells #[.slice Aq Af.length Ar,.int .i64 Ag,.string Ah,.slice Am Ae.length Ao,.slice (some Ck) Aa.length As] 36 (0,0)) (by(with_reducible repeat(first|refine y8 ?_ _|refine y7 ?_|refine y4 ?_ _));refine y9 ?_ Ak.out _;(with_reducible repeat(first|refine y8 ?_ _|refine y7 ?_|refine y4 ?_ _));refine y9 ?_ Ak.out _;(with_reducible repeat(first|refine y8 ?_ _|refine y7 ?_|refine y4 ?_ _));refine y9 ?_ Ak.out _;(with_reducible repeat(first|refine y8 ?_ _|refine y7 ?_|refine y4 ?_ _));exact Ab.out) hb);replace Ap:=y0.mk (y5 (g:=Bk) (o:=.cells #[.int .i64 ((y16 Aa Ac).f0),.string ((y16 Aa Ac).f1),.slice Bd ((y16 Aa Ac).f2).length Be] 33 (0,0)) (by(with_reducible repeat(first|refine y8 ?_ _|refine y7 ?_|refine y4 ?_ _));refine blk_put (cs:=#[.int .i64 ((y16 Aa Ac).f0),.string ((y16 Aa Ac).f1),.slice none 0 0]) ?_ 2 _ rfl;(with_reducible repeat(first|refine y8 ?_ _|refine y7 ?_|refine y4 ?_ _));refine blk_put (cs:=#[.int .i64 ((y16 Aa Ac).f0),.string (⟨#[]⟩:ByteArray),.slice none 0 0]) ?_ 1 _ rfl;(with_reducible repeat(first|refine y8 ?_ _|refine y7 ?_|refine y4 ?_ _));refine blk_put (cs:=#[.int .i64 0,.string (⟨#[]⟩:ByteArray),.slice none 0 0]) ?_ 0 _ rfl;(with_reducible repeat(first|refine y8 ?_ _|refine y7 ?_|refine y4 ?_ _));exact Ap.out) hb);replace HB:=y0.mk (y3 qb hb);(try clear hb))|((with_reducible refine gate_builtin (b:=.append) (xs:=#[.tmp 22,.tmp 26]) rfl ?_);at_builtin;refine Kd.R_append Kd.string (w0:=w) w.heap.size rfl (.tmp 22) (.tmp 26) 30 9 (.string ⟨#[]⟩) 16 rfl Try.underlying30 info9 rfl (by decide) (by omega) u4 Al Ca [.string Ca] (fun _=>True) (fun _=>False) rfl rfl ?aP (fun _ hk=>hk.elim) ?aF ?aO ?aB ?aS ?aL ?_;(case aP=>exact rfl);(case aB=>exact qb);(case aF=>exact(fun _ _=>trivial));(case aO=>exact(qR Ai.out));(case aS=>exact(y2 qb));(case aL=>have:=Dt.out;omega);intro Ha Hi ho hb hg hat;rw [← Dv.out]at ho;replace Ab:=y0.mk (blk_grown (qk Ab.out) hg (Kd.R_ne Ai.out Ab.out (by decide)));replace Ap:=y0.mk (blk_grown (qk Ap.out) hg (Kd.R_ne Ai.out Ap.out (by decide)));replace HB:=y0.mk (hb);have Dw:=y0.mk (ho);clear Ai;clear ho hb hg hat))
     go_roundg k1
     case measure=>have:=Ft.out;omega
     exact⟨(Du),(wrap64 (Ac + 1)),qy2,H',⟨by have:=Ft.out;omega⟩,⟨qR Dw.out⟩,⟨qk Ab.out⟩,⟨qb⟩⟩
    ·rw [if_neg Dl]at H
     have Ds:=decide_eq_false Dl
     clear Dl
     by_cases Dm:(Al.length:Int) > 0
     ·rw [if_pos Dm]at H
      have Dx:decide (0 < (Al.length:Int))=true:=decide_eq_true Dm
      have Dy:decide (0 < Al.length)=true:=decide_eq_true (by omega)
      clear Dm
      obtain⟨Aj,Ge,H⟩:=qB H
      obtain⟨Fh,H⟩:=qo H
      have Gf:=eq_true Fh
      have Gg:=decide_eq_true Fh
      have Gh:=eq_false (Nat.not_lt.2 Fh)
      obtain⟨Fi,H⟩:=qo H
      have Gi:=eq_true Fi
      have Gj:=decide_eq_true Fi
      have Bo:=eq_false (Nat.not_lt.2 Fi)
      have Gk:(9223372036854775807 < Ad.size + 4 + Aj.size)=False:=qs Bo
      have Gl:(9223372036854775807 < Ad.size + (4 + Aj.size))=False:=qs Bo
      have Gm:(9223372036854775807 < Ad.size + (4 + Aj.size))=False:=qs Bo
      obtain⟨Fj,H⟩:=qo H
      have Gn:=eq_true Fj
      have Gp:=decide_eq_true Fj
      have Cl:=eq_false (Nat.not_lt.2 Fj)
      have Gq:(9223372036854775807 < Ad.size + 4 + Aj.size + 1)=False:=qs Cl
      have Gr:(9223372036854775807 < Ad.size + (4 + Aj.size) + 1)=False:=qs Cl
      by_cases Cm:(((Ad ++ ((⟨#[32,58,45,32]⟩:ByteArray) ++ Aj)) ++ (⟨#[46]⟩:ByteArray)).size:Int) > 3000
      ·rw [if_pos Cm]at H
       have Dz:(3000 < (Ad.size:Int) + (4 + (Aj.size:Int)) + 1)=True:=eq_true (by have h_:=Cm;rw [show((Ad ++ ((⟨#[32,58,45,32]⟩:ByteArray) ++ Aj)) ++ (⟨#[46]⟩:ByteArray)).size=Ad.size + (4 + Aj.size) + 1 from by(simp only [ByteArray.size_append];rfl)]at h_;omega)
       have Ea:decide (3000 < (((Ad ++ ((⟨#[32,58,45,32]⟩:ByteArray) ++ Aj)) ++ (⟨#[46]⟩:ByteArray)).size:Int))=true:=decide_eq_true Cm
       have Eb:decide (3000 < ((Ad ++ ((⟨#[32,58,45,32]⟩:ByteArray) ++ Aj)) ++ (⟨#[46]⟩:ByteArray)).size)=true:=decide_eq_true (by omega)
       clear Cm
       obtain rfl:=Option.some.inj H
       obtain⟨Fk,Fl,Fm⟩:=Kd.R_slice Ai.out
       subst Fm
       go_wp2_with (first|((with_reducible refine y13 (f:=69) rfl ?_);refine y15 (some 34) rfl rfl Try.func69 (by kernel_rfl) rfl #[.slice Fk Al.length Fl,.string (⟨#[44,32]⟩:ByteArray)] rfl qy1 ?_;(with_reducible refine(strings_Join.calls _ _ Al (⟨#[44,32]⟩:ByteArray) Aj _ (qc ((Kd.R_reads' Ai.out).2.2)) (by exact(Kd.R_reads' Ai.out).2.1) Ge.out).mono ?_);rintro e Hj ⟨rfl,hb⟩;refine⟨_,rfl, ?_⟩;replace Ai:=y0.mk (Kd.R_below (qR Ai.out) hb);replace Ab:=y0.mk (qK Ab.out hb);replace HB:=y0.mk (y3 qb hb);(try clear hb)))
       go_ret
       exact⟨qf,qb⟩
      ·rw [if_neg Cm]at H
       have Dz:(3000 < (Ad.size:Int) + (4 + (Aj.size:Int)) + 1)=False:=eq_false (by have h_:=Cm;rw [show((Ad ++ ((⟨#[32,58,45,32]⟩:ByteArray) ++ Aj)) ++ (⟨#[46]⟩:ByteArray)).size=Ad.size + (4 + Aj.size) + 1 from by(simp only [ByteArray.size_append];rfl)]at h_;omega)
       have Ea:decide (3000 < (((Ad ++ ((⟨#[32,58,45,32]⟩:ByteArray) ++ Aj)) ++ (⟨#[46]⟩:ByteArray)).size:Int))=false:=decide_eq_false Cm
       have Eb:decide (3000 < ((Ad ++ ((⟨#[32,58,45,32]⟩:ByteArray) ++ Aj)) ++ (⟨#[46]⟩:ByteArray)).size)=false:=decide_eq_false (by omega)
       clear Cm
       obtain rfl:=Option.some.inj H
       obtain⟨Fn,Fo,Fp⟩:=Kd.R_slice Ai.out
       subst Fp
       go_wp2_with (first|((with_reducible refine y13 (f:=69) rfl ?_);refine y15 (some 34) rfl rfl Try.func69 (by kernel_rfl) rfl #[.slice Fn Al.length Fo,.string (⟨#[44,32]⟩:ByteArray)] rfl qy1 ?_;(with_reducible refine(strings_Join.calls _ _ Al (⟨#[44,32]⟩:ByteArray) Aj _ (qc ((Kd.R_reads' Ai.out).2.2)) (by exact(Kd.R_reads' Ai.out).2.1) Ge.out).mono ?_);rintro e Hk ⟨rfl,hb⟩;refine⟨_,rfl, ?_⟩;replace Ai:=y0.mk (Kd.R_below (qR Ai.out) hb);replace Ab:=y0.mk (qK Ab.out hb);replace HB:=y0.mk (y3 qb hb);(try clear hb)))
       go_ret
       exact⟨qf,qb⟩
     ·rw [if_neg Dm]at H
      have Dx:decide (0 < (Al.length:Int))=false:=decide_eq_false Dm
      have Dy:decide (0 < Al.length)=false:=decide_eq_false (by omega)
      clear Dm
      obtain⟨Fq,H⟩:=qo H
      have Gs:=eq_true Fq
      have Gt:=decide_eq_true Fq
      have Gu:=eq_false (Nat.not_lt.2 Fq)
      by_cases Cn:((Ad ++ (⟨#[46]⟩:ByteArray)).size:Int) > 3000
      ·rw [if_pos Cn]at H
       have Ec:(3000 < (Ad.size:Int) + 1)=True:=eq_true (by have h_:=Cn;rw [show(Ad ++ (⟨#[46]⟩:ByteArray)).size=Ad.size + 1 from by(simp only [ByteArray.size_append];rfl)]at h_;omega)
       have Ed:decide (3000 < ((Ad ++ (⟨#[46]⟩:ByteArray)).size:Int))=true:=decide_eq_true Cn
       have Ee:decide (3000 < (Ad ++ (⟨#[46]⟩:ByteArray)).size)=true:=decide_eq_true (by omega)
       clear Cn
       obtain rfl:=Option.some.inj H
       obtain⟨Hb,Hc,Fr⟩:=Kd.R_slice Ai.out
       subst Fr
       go_wp2
       go_ret
       exact⟨qf,qb⟩
      ·rw [if_neg Cn]at H
       have Ec:(3000 < (Ad.size:Int) + 1)=False:=eq_false (by have h_:=Cn;rw [show(Ad ++ (⟨#[46]⟩:ByteArray)).size=Ad.size + 1 from by(simp only [ByteArray.size_append];rfl)]at h_;omega)
       have Ed:decide (3000 < ((Ad ++ (⟨#[46]⟩:ByteArray)).size:Int))=false:=decide_eq_false Cn
       have Ee:decide (3000 < (Ad ++ (⟨#[46]⟩:ByteArray)).size)=false:=decide_eq_false (by omega)
       clear Cn
       obtain rfl:=Option.some.inj H
       obtain⟨Hd,He,Fs⟩:=Kd.R_slice Ai.out
       subst Fs
       go_wp2
       go_ret
       exact⟨qf,qb⟩
 ·replace c3:=Bool.eq_false_iff.mpr c3
  subst c3
  replace H:=qF H
  obtain rfl:=Option.some.inj H
  go_enter Try.func52,Try.ntmps52
  go_wp2_with (first|((with_reducible refine y14 (N:=1) rfl ?_);refine qe 1 #[.slice Aq Af.length Ar,.int .i64 Ag,.string Ah,.slice Am Ae.length Ao,.slice Aw Aa.length As] 36 ?_;intro Bm hg Hl hbox hb;have Ab:=y0.mk (hbox);have Dp:=y0.mk (qg (w:=w) hg);have Dq:=y0.mk (qg (w:=w) hg);replace HB:=y0.mk (y3 qb hb);clear hb hbox hg;obtain⟨Ew,Ex,Ey,Ez,Fa,Fb,Fc,Fd,Fe,Ff⟩:=qz5 Ab.out)|((with_reducible refine y13 (f:=67) rfl ?_);refine y15 (some 8) rfl rfl Try.func67 (by kernel_rfl) rfl #[.agg #[.slice Aq Af.length Ar,.int .i64 Ag,.string Ah,.slice Am Ae.length Ao,.slice Aw Aa.length As]] rfl qy1 ?_;(with_reducible refine(z3_.calls k _ _ Af Ag Ah _ _ Ae _ _ Aa false _ (qc (Kd.C_below Bf.out HB.out)) Bg.out (qc (Kd.C_below Ay.out HB.out)) Az.out (qc (Kd.C_below Ba.out HB.out)) Bh.out A2.out).mono ?_);rintro e Hm ⟨rfl,hb⟩;refine⟨_,rfl, ?_⟩;replace Ab:=y0.mk (qK Ab.out hb);replace HB:=y0.mk (y3 qb hb);(try clear hb)))
  go_ret
  exact⟨qf,qb⟩
def impl_hasForm.f (k:Nat) (l0_0:List (S63)) (a0_1:Int) (a0_2:ByteArray) (l0_3:List Int) (l0_4:List (S33)):Option (Bool):=(impl_ruleText.f k l0_0 a0_1 a0_2 l0_3 l0_4).bind fun t359=>(some (t359.toList != ([]:List UInt8)))
set_option maxHeartbeats 8000000 in
set_option maxRecDepth 100000 in
theorem impl_hasForm.calls (k:Nat) (Ag:Option Addr) (Ah:Nat) (Aa:List (S63)) (Ad:Int) (Ae:ByteArray) (Ai:Option Addr) (Aj:Nat) (Ab:List Int) (Ak:Option Addr) (Al:Nat) (Ac:List (S33)) (r:Bool) (w:World) (Am:Kd.C k63 w Ag Aa.length Aa) (Ao:Aa.length≤Ah) (Ap:Kd.C (Kd.int .i64) w Ai Ab.length Ab) (Aq:Ab.length≤Aj) (Ar:Kd.C k33 w Ak Ac.length Ac) (As:Ac.length≤Al) (h:impl_hasForm.f k Aa Ad Ae Ab Ac=some r) :
  Calls Try.prog 28 #[.agg #[.slice Ag Aa.length Ah,.int .i64 Ad,.string Ae,.slice Ai Ab.length Aj,.slice Ak Ac.length Al]] w fun e w'=>e=.returned (.bool r)∧Below w.heap.size w w':=by
 have Bo:=Try.underlying36
 have Au:=y0.mk Am
 have Av:=y0.mk Ao
 clear Am Ao
 have Aw:=y0.mk Ap
 have Ay:=y0.mk Aq
 clear Ap Aq
 have Az:=y0.mk Ar
 have Ba:=y0.mk As
 clear Ar As
 have HB:=y0.mk (Below.refl w.heap.size w)
 have H:((impl_ruleText.f k Aa Ad Ae Ab Ac).bind fun At=>(some (At.toList != ([]:List UInt8))))=some r:=h
 clear h
 obtain⟨At,A2,H⟩:=qB H
 obtain rfl:=Option.some.inj H
 go_enter Try.func28,Try.ntmps28
 go_wp2_with (first|((with_reducible refine y14 (N:=1) rfl ?_);refine qe 1 #[.slice Ag Aa.length Ah,.int .i64 Ad,.string Ae,.slice Ai Ab.length Aj,.slice Ak Ac.length Al] 36 ?_;intro Bl hg w3 hbox hb;have Af:=y0.mk (hbox);have Bm:=y0.mk (qg (w:=w) hg);have Bn:=y0.mk (qg (w:=w) hg);replace HB:=y0.mk (y3 qb hb);clear hb hbox hg;obtain⟨Bb,Bc,Bd,Be,Bf,Bg,Bh,Bi,Bj,Bk⟩:=qz5 Af.out)|((with_reducible refine y13 (f:=52) rfl ?_);refine y15 (some 4) rfl rfl Try.func52 (by kernel_rfl) rfl #[.agg #[.slice Ag Aa.length Ah,.int .i64 Ad,.string Ae,.slice Ai Ab.length Aj,.slice Ak Ac.length Al]] rfl qy1 ?_;(with_reducible refine(impl_ruleText.calls k _ _ Aa Ad Ae _ _ Ab _ _ Ac At _ (qc (Kd.C_below Au.out HB.out)) Av.out (qc (Kd.C_below Aw.out HB.out)) Ay.out (qc (Kd.C_below Az.out HB.out)) Ba.out A2.out).mono ?_);rintro e w5 ⟨rfl,hb⟩;refine⟨_,rfl, ?_⟩;replace Af:=y0.mk (qK Af.out hb);replace HB:=y0.mk (y3 qb hb);(try clear hb)))
 go_ret
 -- fixform
 have hform_:∀ l:List UInt8,l.isEmpty=!(l != []):=fun l=>by cases l <;> rfl
 exact⟨by(simp [y10,y11];exact hform_ _),qb⟩
/-- slices.Sort of whole numbers: they rise. -/
def slices_Sort_int_int.f (l0:List Int):Option (List Int):=if l0.length < 4611686018427387904 then some (l0.mergeSort fun x y=>decide (x≤y))else none
open Go.Sort Go.Shelf in
theorem slices_Sort_int_int.calls (P0_:Nat→Prop) (u9000_:Value) (l0:List Int) (r1:List Int) (w0 w:World) (hB:Below w0.heap.size w0 w) (Aa:Kd.R (Kd.int .i64) 3 w w0.heap.size P0_ u9000_ l0) (h:slices_Sort_int_int.f l0=some r1) :
  Calls Try.prog 70 #[u9000_] w fun e w'=>e=.returned (.tuple #[])∧Kd.R (Kd.int .i64) 3 w' w0.heap.size (fun k_=>(P0_ k_∨w.heap.size≤k_)) u9000_ r1∧Below w0.heap.size w0 w'∧Kept w w' (fun k_=>P0_ k_):=by
 unfold slices_Sort_int_int.f at h
 by_cases hd:l0.length < 4611686018427387904
 case neg=>rw [if_neg hd]at h;cases h
 rw [if_pos hd]at h
 injection h with h
 subst h
 obtain⟨h0,inner,ho,hr⟩:=Aa
 rcases ho.2 with⟨rfl,hn⟩|⟨g,cap,cur,rfl,hbase,hb,h1,h2,h3,h4⟩
 ·have Ab:l0=[]:=List.length_eq_zero_iff.1 hn
  subst Ab
  refine(Try.slices_Sort_int_none none 0 w).mono ?_
  rintro e w' ⟨rfl,rfl⟩
  rw [show(([]:List Int).mergeSort fun x y=>decide (x≤y))=[]from by simp]
  exact⟨rfl,Kd.R_nil _ _ _ _ _,hB,Kept.refl _ _⟩
 ·have hsz:(Kd.int .i64).sz=1:=rfl
  rw [hsz]at h3 h4
  have hil:inner.length=l0.length:=by have:=hr.1;rw [hsz]at this;omega
  have hin:inner=l0.map (Value.int .i64):=by
   apply List.ext_getElem?
   intro j
   by_cases hj:j < l0.length
   ·have h5:=hr.2 j l0[j] (List.getElem?_eq_getElem hj)
    rw [hsz,Nat.mul_one]at h5
    have h6:(inner.drop j).take 1=[Value.int .i64 l0[j]]:=h5
    have h7:=congrArg (fun l=>l[0]?) h6
    simp only [List.getElem?_take_of_lt Nat.one_pos,List.getElem?_drop,Nat.add_zero]at h7
    rw [h7,List.getElem?_map,List.getElem?_eq_getElem hj]
    rfl
   ·rw [List.getElem?_eq_none (by omega),List.getElem?_eq_none (by rw [List.length_map];omega)]
  have hcur:∀ j,j < l0.length→cur[j]?=some (Value.int .i64 (l0.toArray[j]!)):=fun j hj=>by
   have h8:cur.toList[j]?=(l0.map (Value.int .i64))[j]?:=by
    rw [← hin,← h4,Nat.mul_one,List.getElem?_take_of_lt hj]
   rw [← Array.getElem?_toList,h8,List.getElem?_map,List.getElem?_eq_getElem hj]
   have:l0.toArray[j]! = l0[j]:=by rw [getElem!_pos l0.toArray j (by simpa using hj)];simp
   rw [this]
   rfl
  have hH:Holds (Value.int .i64) w g 0 l0.toArray:=by
   intro j hj
   have Ac:j < l0.length:=by simpa using hj
   refine⟨?_,by simp [World.frozen?,hb]⟩
   simp only [World.cell?,hb,Nat.zero_add,Option.isSome_none,Bool.false_eq_true,if_false,id]
   rw [hcur j Ac]
  refine(Try.slices_Sort_int g 0 cap l0 w hH (Array.getElem?_eq_some_iff.1 hb).1 hd).mono ?_
  rintro e w' ⟨rfl,n,os,rfl⟩
  have hl:(l0.mergeSort fun x y=>decide (x≤y)).length=l0.length:=List.length_mergeSort l0
  generalize (l0.mergeSort fun x y=>decide (x≤y))=zs at hl ⊢
  have hg:g < w.heap.size:=(Array.getElem?_eq_some_iff.1 hb).1
  have hheap:(grow (putRow (Value.int .i64) (Sort.ahead w n) g 0 zs.toArray) os).heap[g]?=some (.cells (putCells (Value.int .i64) 0 zs.toArray cur) 3 (0,0)):=by
   rw [heap_grow_old _ _ (by simpa using hg)]
   simp [putRow,mapBlock,Sort.ahead,Array.getElem?_modify,hb,onCells]
  have hgr:w.grownBy (grow (putRow (Value.int .i64) (Sort.ahead w n) g 0 zs.toArray) os) (some g):=by
   refine⟨rfl,rfl,rfl,by simp,fun k hk hne=>?_⟩
   rw [heap_grow_old _ _ (by simpa using hk)]
   have:g≠k:=fun e=>hne (by rw [e])
   simp [putRow,mapBlock,Sort.ahead,Array.getElem?_modify,this]
  have htk:(putCells (Value.int .i64) 0 zs.toArray cur).toList.take zs.length=zs.map (Value.int .i64):=by
   apply List.ext_getElem?
   intro j
   by_cases hj:j < zs.length
   ·rw [List.getElem?_take_of_lt hj,Array.getElem?_toList,List.getElem?_map,List.getElem?_eq_getElem hj]
    have:j < cur.size:=by rw [h3];omega
    simp [putCells,hj,this]
   ·rw [List.getElem?_take_eq_none (by omega),List.getElem?_eq_none (by rw [List.length_map];omega)]
  refine⟨rfl,⟨fun k hk=>.inl (h0 k hk),zs.map (Value.int .i64),⟨by simp [hsz],Or.inr ⟨g,cap,putCells (Value.int .i64) 0 zs.toArray cur, ?_,hbase,hheap,by simp [hl,h1],h2,by simp [putCells,h3,hsz], ?_⟩⟩,by simp [hsz],fun i p hi=>?_⟩,Below.grown hB hgr (by omega) (fun k e=>by cases e;exact hbase),Kept.of_grown hgr (Kept.refl _ _) (fun k e=>.inl (h0 k (by rw [← e];simp [Value.ownBlock])))⟩
  ·simp [hl]
  ·rw [hsz,Nat.mul_one]
   exact htk
  ·rw [hsz,Nat.mul_one]
   have Ad:=(List.getElem?_eq_some_iff.1 hi)
   obtain⟨Ae,Af⟩:=Ad
   show((zs.map (Value.int .i64)).drop i).take 1=[Value.int .i64 p]
   rw [List.drop_eq_getElem_cons (by simpa using Ae)]
   simp [Af]
mutual
def impl_Rule_within.l0:Nat→Int→List Int→List Int→Int→Int→List (S63)→Int→ByteArray→List Int→List (S33)→Option (List Int)
 | 0,_,_,_,_,_,_,_,_,_,_=>none
 | k + 1,x1,x5,x14,x15,x16,x361000,x361001,x361002,x361003,x361004=>if x16 < x15 then(if 0≤x16 then(if x16 < (x14.length:Int)then((impl_Rule_within.f k x361000 x361001 x361002 x361003 x361004 (rd x14 x16)).bind fun t366=>(if x5.length + t366.length < 17592186044416 then(impl_Rule_within.l0 k x1 (x5 ++ t366) x14 x15 (wrap64 (x16 + 1)) x361000 x361001 x361002 x361003 x361004)else(none)))else(none))else(none))else(if x5.length < 17592186044416 then((slices_Sort_int_int.f (x5 ++ [x1])).bind fun t375=>(some t375))else(none))
def impl_Rule_within.f:Nat→List (S63)→Int→ByteArray→List Int→List (S33)→Int→Option (List Int)
 | 0,_,_,_,_,_,_=>none
 | k + 1,l0_0,a0_1,a0_2,l0_3,l0_4,a1=>if 0≤a1 then(if a1 < (l0_0.length:Int)then(impl_Rule_within.l0 k a1 (([]:List Int)) ((y17 l0_0 a1).f2) (((y17 l0_0 a1).f2).length:Int) 0 l0_0 a0_1 a0_2 l0_3 l0_4)else(none))else(none)
end
set_option maxHeartbeats 8000000 in
set_option maxRecDepth 100000 in
theorem impl_Rule_within.calls (k:Nat):∀(Bi:Option Addr) (Av:Nat) (Aa:List (S63)) (Ai:Int) (Aj:ByteArray) (Aw:Option Addr) (Ay:Nat) (Ad:List Int) (Az:Option Addr) (Ba:Nat) (Ae:List (S33)) (a1:Int) (r:List Int) (w:World) (Bb:Kd.C k63 w Bi Aa.length Aa) (Bc:Aa.length≤Av) (Bd:Kd.C (Kd.int .i64) w Aw Ad.length Ad) (Be:Ad.length≤Ay) (Bf:Kd.C k33 w Az Ae.length Ae) (Bg:Ae.length≤Ba) (h:impl_Rule_within.f k Aa Ai Aj Ad Ae a1=some r),
  Calls Try.prog 53 #[.agg #[.slice Bi Aa.length Av,.int .i64 Ai,.string Aj,.slice Aw Ad.length Ay,.slice Az Ae.length Ba],.int .i64 a1] w fun e w'=>∃ v0_:Value,e=.returned (v0_)∧Kd.R (Kd.int .i64) 3 w' w.heap.size (fun _=>True) v0_ r∧Below w.heap.size w w':=by
 induction k using Nat.strongRecOn with
 | _ k ih =>
 intro Bi Av Aa Ai Aj Aw Ay Ad Az Ba Ae a1 r w Bb Bc Bd Be Bf Bg h
 cases k with
 | zero=>exact absurd h (by simp [impl_Rule_within.f])
 | succ k =>
 simp only [impl_Rule_within.f]at h
 have Ee:=Try.underlying36
 have Bn:=y0.mk Bb
 have Cg:=y0.mk Bc
 clear Bb Bc
 have Ch:=y0.mk Bd
 have Ci:=y0.mk Be
 clear Bd Be
 have Cj:=y0.mk Bf
 have Ck:=y0.mk Bg
 clear Bf Bg
 have HB:=y0.mk (Below.refl w.heap.size w)
 have H:(if 0≤a1 then(if a1 < (Aa.length:Int)then(impl_Rule_within.l0 k a1 (([]:List Int)) ((y17 Aa a1).f2) (((y17 Aa a1).f2).length:Int) 0 Aa Ai Aj Ad Ae)else(none))else(none))=some r:=h
 clear h
 obtain⟨Cl,Ao⟩:∃ y_:List Int,y_=(([]:List Int)):=⟨_,rfl⟩
 replace H:(if 0≤a1 then(if a1 < (Aa.length:Int)then(impl_Rule_within.l0 k a1 Cl ((y17 Aa a1).f2) (((y17 Aa a1).f2).length:Int) 0 Aa Ai Aj Ad Ae)else(none))else(none))=some r:=by first|(rw [Ao];with_reducible exact H)|(have H2_:=(Option.bind_some _ _).symm.trans H;rw [Ao];with_reducible exact H2_)|(have H2_:=(Option.bind_some _ _).symm.trans H;with_reducible exact H2_)|with_reducible exact H|(rw [Ao];exact H)|exact H
 have Bo:=y0.mk Ao
 clear Ao
 obtain⟨c3,H⟩:=qo H
 have Dh:decide (0≤a1)=true:=decide_eq_true c3
 clear c3
 obtain⟨c4,H⟩:=qo H
 have Di:decide (a1 < (Aa.length:Int))=true:=decide_eq_true c4
 clear c4
 have H':=y0.mk H
 clear H
 go_enter Try.func53,Try.ntmps53
 go_wp2_with (first|((with_reducible refine y14 (N:=2) rfl ?_);refine qe 2 #[.slice Bi Aa.length Av,.int .i64 Ai,.string Aj,.slice Aw Ad.length Ay,.slice Az Ae.length Ba] 36 ?_;intro Cm hg w5 hbox hb;have Ab:=y0.mk (hbox);have Dv:=y0.mk (qg (w:=w) hg);have Cn:=y0.mk (qg (w:=w) hg);replace HB:=y0.mk (y3 qb hb);clear hb hbox hg)|((with_reducible refine y14 (N:=8) rfl ?_);refine qL (Kd.int .i64) 3 8 ([]:List Int) ?_;intro Ef w6 Co hb hg_ hnew_;clear hg_ hnew_;(first|rw [← Bo.out]at Co|(simp only [Int.reduceToNat]at Co;rw [← Bo.out]at Co));have Cp:=y0.mk (Kd.R_lower Co (y2 qb));replace Ab:=y0.mk (qK Ab.out hb);replace HB:=y0.mk (y3 qb hb);clear hb Co;obtain⟨Bq,Br,Bs,Bt,Bu,Bv,Bw,Bx,Bz,Ca⟩:=qz5 Ab.out;have Bj:0≤(a1:Int):=of_decide_eq_true qy0;have Bk:a1 < (Aa.length:Int):=of_decide_eq_true qy0;obtain⟨Bp,Dj,Dk,Dl,Af,Ag,Ah,At,Au⟩:=at_T63 Bn.out a1 Bj Bk;cases Dl;replace Af:=(HB.out.cell (World.block_lt_of_cell? w _ Af)).trans Af;replace Ag:=(HB.out.cell (World.block_lt_of_cell? w _ Ag)).trans Ag;replace Ah:=(HB.out.cell (World.block_lt_of_cell? w _ Ah)).trans Ah;have Bl:=y0.mk Au;have Cw:=y0.mk At;clear Au At;replace Bj:=eq_true Bj;replace Bk:=eq_true Bk))
 go_loopg [5,16] k (fun kq v5 Eg w'=>∃(As:List Int) (Ac:Int),Eg=.int .i64 Ac∧y0 (impl_Rule_within.l0 kq a1 As ((y17 Aa a1).f2) (((y17 Aa a1).f2).length:Int) Ac Aa Ai Aj Ad Ae=some r)∧y0 (kq≤k)∧y0 (Kd.R (Kd.int .i64) 3 w' w.heap.size (fun _=>True) v5 As)∧y0 (w'.heap[Cm]?=some (.cells #[(.slice (some Bp) Aa.length Av),.int .i64 Ai,.string Aj,(.slice Aw Ad.length Ay),(.slice Az Ae.length Ba)] 36 (0,0)))∧y0 (Below w.heap.size w w'))
 case atStart=>exact⟨(Cl),(0),qy2,H',⟨Nat.le_refl _⟩,⟨qR Cp.out⟩,⟨qk Ab.out⟩,⟨qb⟩⟩
 case round =>
  clear H'
  (try clear Dh Di Bq Br Bs Bt Bu Bv Bw Bx Bz Ca Af Ag Ah Bj Bk)
  obtain⟨As,Ac,rfl,HA,Dm,Al,Ab,HB⟩:=hrel
  cases gk with
  | zero=>exact absurd HA.out (by simp [impl_Rule_within.l0])
  | succ k1 =>
   have H:=HA.out
   clear HA
   simp only [impl_Rule_within.l0]at H
   by_cases c9:Ac < (((y17 Aa a1).f2).length:Int)
   ·rw [if_pos c9]at H
    have Do:=decide_eq_true c9
    clear c9
    obtain⟨Dw,H⟩:=qo H
    have Dx:decide (0≤Ac)=true:=decide_eq_true Dw
    clear Dw
    obtain⟨Dy,H⟩:=qo H
    have Dz:=decide_eq_true Dy
    clear Dy
    obtain⟨Bm,Eh,H⟩:=qB H
    obtain⟨Ea,H⟩:=qo H
    have Cq:=y0.mk Ea
    clear Ea
    obtain⟨Cr,Ap⟩:∃ y_:List Int,y_=(As ++ Bm):=⟨_,rfl⟩
    replace H:(impl_Rule_within.l0 k1 a1 Cr ((y17 Aa a1).f2) (((y17 Aa a1).f2).length:Int) (wrap64 (Ac + 1)) Aa Ai Aj Ad Ae)=some r:=by first|(rw [Ap];with_reducible exact H)|(have H2_:=(Option.bind_some _ _).symm.trans H;rw [Ap];with_reducible exact H2_)|(have H2_:=(Option.bind_some _ _).symm.trans H;with_reducible exact H2_)|with_reducible exact H|(rw [Ap];exact H)|exact H
    have Cs:=y0.mk Ap
    clear Ap
    have H':=y0.mk H
    clear H
    have Cb:0≤(Ac:Int):=of_decide_eq_true qy0
    have Cc:Ac < (((y17 Aa a1).f2).length:Int):=of_decide_eq_true qy0
    obtain⟨Eb,Dp,Am⟩:=Kd.at_int Bl.out Ac Cb Cc
    cases Dp
    replace Am:=(HB.out.cell (World.block_lt_of_cell? w _ Am)).trans Am
    replace Cb:=eq_true Cb
    replace Cc:=eq_true Cc
    obtain⟨Cx,Cy,Cz,Da,Db,Dc,Dd,De,Df,Dg⟩:=qz5 Ab.out
    go_wp2_with (first|((with_reducible refine y13 (f:=53) rfl ?_);refine y15 (some 23) rfl rfl Try.func53 (by kernel_rfl) rfl #[.agg #[.slice (some Bp) Aa.length Av,.int .i64 Ai,.string Aj,.slice Aw Ad.length Ay,.slice Az Ae.length Ba],.int .i64 (rd ((y17 Aa a1).f2) Ac)] rfl qy1 ?_;(with_reducible refine(ih k1 (by have:=Dm.out;omega) _ _ Aa Ai Aj _ _ Ad _ _ Ae (rd ((y17 Aa a1).f2) Ac) Bm _ (qc (Kd.C_below Bn.out HB.out)) Cg.out (qc (Kd.C_below Ch.out HB.out)) Ci.out (qc (Kd.C_below Cj.out HB.out)) Ck.out Eh.out).mono ?_);rintro e Em ⟨Ei,rfl,Dq,hb⟩;refine⟨_,rfl, ?_⟩;have Aq:=y0.mk (Kd.R_lower (Kd.R_new' Dq (Kd.R_lt (qR Al.out))) (y2 qb));replace Al:=y0.mk (Kd.R_elder' (qR Al.out) (Kd.R_base Dq) hb);replace Ab:=y0.mk (qK Ab.out hb);replace HB:=y0.mk (y3 qb hb);(try clear hb);(try clear Dq);obtain⟨Dr,Ds,Dt⟩:=Kd.R_slice Aq.out;subst Dt)|((with_reducible refine gate_builtin (b:=.append) (xs:=#[.tmp 20,.tmp 23]) rfl ?_);at_builtin;refine Kd.R_append_rows (Kd.int .i64) (w0:=w) w.heap.size rfl (.tmp 20) (.tmp 23) 23 3 (.int .i64 0) 8 rfl Try.underlying23 info3 rfl (by decide) (by omega) u5 As Bm _ _ _ (fun k_=>some k_≠(.slice Dr Bm.length Ds:Value).ownBlock) (fun _=>False) rfl rfl ?aO ?aR (fun _ _ h=>h) (fun _ h=>h.elim) ?aF ?aB ?aS ?aL ?_;(case aR=>repeat(first|exact(Kd.R_reads' Aq.out).2.2|(with_reducible refine Kd.C_alloc ?_ _)|(with_reducible refine Kd.C_drewN ?_ _)|(with_reducible refine Kd.C_drew ?_)));(case aB=>exact qb);(case aF=>exact(fun k_ hk=>Kd.fresh' (Kd.R_lt (qR Aq.out)) k_ hk));(case aO=>exact(qR (Kd.R_mono Al.out (fun _ hk=>hk.2))));(case aS=>exact(y2 qb));(case aL=>have:=Cq.out;omega);intro Ej En ho hb hg hat;rw [← Cs.out]at ho;replace Ab:=y0.mk (blk_grown (qk Ab.out) hg (Kd.R_ne Al.out Ab.out (by decide)));replace Aq:=y0.mk (Kd.R_after (ok:=(fun _=>True)) (qR Aq.out) hg hat);replace HB:=y0.mk (hb);have Ct:=y0.mk (ho);clear Al;clear ho hb hg hat))
    go_roundg k1
    case measure=>have:=Dm.out;omega
    exact⟨(Cr),(wrap64 (Ac + 1)),qy2,H',⟨by have:=Dm.out;omega⟩,⟨qR (Kd.R_mono Ct.out (fun _ hk=>trivial))⟩,⟨qk Ab.out⟩,⟨qb⟩⟩
   ·rw [if_neg c9]at H
    have Do:=decide_eq_false c9
    clear c9
    obtain⟨Ec,H⟩:=qo H
    have Cu:=y0.mk Ec
    clear Ec
    obtain⟨Bh,Ar⟩:∃ y_:List Int,y_=(As ++ [a1]):=⟨_,rfl⟩
    replace H:((slices_Sort_int_int.f Bh).bind fun Cd=>(some Cd))=some r:=by first|(rw [Ar];with_reducible exact H)|(have H2_:=(Option.bind_some _ _).symm.trans H;rw [Ar];with_reducible exact H2_)|(have H2_:=(Option.bind_some _ _).symm.trans H;with_reducible exact H2_)|with_reducible exact H|(rw [Ar];exact H)|exact H
    have Cv:=y0.mk Ar
    clear Ar
    obtain⟨Cd,Ek,H⟩:=qB H
    obtain rfl:=Option.some.inj H
    go_wp2_with (first|((with_reducible refine gate_builtin (b:=.append) (xs:=#[.tmp 26,.tmp 28]) rfl ?_);at_builtin;refine Kd.R_append (Kd.int .i64) (w0:=w) w.heap.size rfl (.tmp 26) (.tmp 28) 23 3 (.int .i64 0) 8 rfl Try.underlying23 info3 rfl (by decide) (by omega) u5 As a1 [.int .i64 a1] (fun _=>True) (fun _=>False) rfl rfl ?aP (fun _ hk=>hk.elim) ?aF ?aO ?aB ?aS ?aL ?_;(case aP=>exact rfl);(case aB=>exact qb);(case aF=>exact(fun _ _=>trivial));(case aO=>exact(qR Al.out));(case aS=>exact(y2 qb));(case aL=>have:=Cu.out;omega);intro El Eo ho hb hg hat;rw [← Cv.out]at ho;replace Ab:=y0.mk (blk_grown (qk Ab.out) hg (Kd.R_ne Al.out Ab.out (by decide)));replace HB:=y0.mk (hb);have Ak:=y0.mk (ho);clear Al;clear ho hb hg hat;obtain⟨Ce,Cf,Du⟩:=Kd.R_slice Ak.out;subst Du)|((with_reducible refine y13 (f:=70) rfl ?_);refine y15 (some 31) rfl rfl Try.func70 (by kernel_rfl) rfl #[.slice Ce Bh.length Cf] rfl qy1 ?_;(with_reducible refine(slices_Sort_int_int.calls (fun k_=>some k_=(.slice Ce Bh.length Cf:Value).ownBlock) (.slice Ce Bh.length Cf) Bh Cd w _ (by repeat(first|(with_reducible first|exact HB.out|apply below_alloc|apply pw_below_drewN|apply below_drew1|refine below_set ?_ Cn.out)|exact HB.out)) (by exact Kd.R_tight rfl Ak.out) Ek.out).mono ?_);rintro e Ep ⟨rfl,Ed,hb,hkp⟩;refine⟨_,rfl, ?_⟩;replace Ab:=y0.mk (blk_kept (qk Ab.out) hkp (fun hs_=>(fun e_=>(Kd.R_ne Ak.out Ab.out (by decide)) e_) hs_));replace Ak:=y0.mk (Kd.R_reok rfl Ed (fun k_ e_=>Ak.out.1 k_ e_));replace HB:=y0.mk (hb);(try clear hb);(try clear hkp);(try clear Ed)))
    go_ret
    exact⟨_,by first|rfl|(simp [y10,y11] <;> rfl)|(simp [*,y10,y11] <;> rfl),by(with_reducible repeat(first|apply Kd.R_alloc|apply Kd.R_drewN|apply Kd.R_drew));exact Ak.out,qb⟩
end Go.Proofs.Ytkdabljlfbmpdaa.Pg
end
section
namespace Go.Proofs.Ytkdabljlfbmpdaa.Pg
open Go.RowKit Go.Proofs.YtkdabljlfbmpdaaW.PrintWords Go.Proofs.YtkdabljlfbmpdaaW.PrintLast Go.Proofs.YtkdabljlfbmpdaaW.PrintMore
attribute [local go_sem] max2_int min2_int max_two min_two max_three min_three max_four min_four   -- for this text's walks alone
set_option linter.unusedVariables false
set_option linter.unusedSimpArgs false
def slices_Index_string_string.l0:Nat→List ByteArray→ByteArray→Int→Int→Option (Int)
 | 0,_,_,_,_=>none
 | k + 1,x0,x1,x7,x8=>if x8 < x7 then(if 0≤x8 then(if x8 < (x0.length:Int)then(if x1.toList=(rdOf ByteArray.empty x0 x8).toList then(some x8)else(slices_Index_string_string.l0 k x0 x1 x7 (wrap64 (x8 + 1))))else(none))else(none))else(some (-1))
def slices_Index_string_string.f (k:Nat) (l0:List ByteArray) (a1:ByteArray):Option (Int):=slices_Index_string_string.l0 k l0 a1 (l0.length:Int) 0
set_option maxHeartbeats 8000000 in
set_option maxRecDepth 100000 in
theorem slices_Index_string_string.calls (k:Nat) (A0:Option Addr) (c0:Nat) (l0:List ByteArray) (a1:ByteArray) (r:Int) (w:World) (Ai:Kd.C Kd.string w A0 l0.length l0) (Aj:l0.length≤c0) (h:slices_Index_string_string.f k l0 a1=some r) :
  Calls Try.prog 71 #[.slice A0 l0.length c0,.string a1] w fun e w'=>e=.returned (.int .i64 r)∧Drawn0 w w':=by
 have Am:=y0.mk Ai
 have Aq:=y0.mk Aj
 clear Ai Aj
 have H:(slices_Index_string_string.l0 k l0 a1 (l0.length:Int) 0)=some r:=h
 clear h
 have H':=y0.mk H
 clear H
 go_enter Try.func71,Try.ntmps71
 go_wp2
 go_loopg [8] k (fun kq v8 w'=>∃(Aa:Int),v8=.int .i64 Aa∧y0 (slices_Index_string_string.l0 kq l0 a1 (l0.length:Int) Aa=some r)∧y0 (kq≤k)∧Drawn0 w w')
 case atStart=>exact⟨(0),qy2,H',⟨Nat.le_refl _⟩,by repeat(first|exact Drawn0.refl _|apply Drawn0.step)⟩
 case round =>
  clear H'
  obtain⟨Aa,rfl,HA,Ak,⟨m1,rfl⟩⟩:=hrel
  cases gk with
  | zero=>exact absurd HA.out (by simp [slices_Index_string_string.l0])
  | succ k1 =>
   have H:=HA.out
   clear HA
   simp only [slices_Index_string_string.l0]at H
   by_cases c3:Aa < (l0.length:Int)
   ·rw [if_pos c3]at H
    have Ae:=decide_eq_true c3
    clear c3
    obtain⟨c4,H⟩:=qo H
    have Ao:decide (0≤Aa)=true:=decide_eq_true c4
    clear c4
    obtain⟨c5,H⟩:=qo H
    have Ap:decide (Aa < (l0.length:Int))=true:=decide_eq_true c5
    clear c5
    have Ab:0≤(Aa:Int):=of_decide_eq_true qy0
    have Ac:Aa < (l0.length:Int):=of_decide_eq_true qy0
    obtain⟨Al,Af,Ad⟩:=Kd.at_string Am.out Aa Ab Ac
    cases Af
    replace Ab:=eq_true Ab
    replace Ac:=eq_true Ac
    by_cases c6:a1.toList=(rdOf ByteArray.empty l0 Aa).toList
    ·rw [if_pos c6]at H
     have Ag:(a1.toList == (rdOf ByteArray.empty l0 Aa).toList)=true:=beq_iff_eq.mpr c6
     have Ah:(a1.toList != (rdOf ByteArray.empty l0 Aa).toList)=false:=bne_eq_false_iff_eq.mpr c6
     clear c6
     obtain rfl:=Option.some.inj H
     go_wp2
     go_ret
     exact qf2
    ·rw [if_neg c6]at H
     have Ag:(a1.toList == (rdOf ByteArray.empty l0 Aa).toList)=false:=beq_eq_false_iff_ne.mpr c6
     have Ah:(a1.toList != (rdOf ByteArray.empty l0 Aa).toList)=true:=bne_iff_ne.mpr c6
     have H':=y0.mk H
     clear H
     go_wp2
     go_roundg k1
     case measure=>have:=Ak.out;omega
     exact⟨(wrap64 (Aa + 1)),qy2,H',⟨by have:=Ak.out;omega⟩,by repeat(first|exact Drawn0.refl _|apply Drawn0.step)⟩
   ·rw [if_neg c3]at H
    have Ae:=decide_eq_false c3
    clear c3
    obtain rfl:=Option.some.inj H
    go_wp2
    go_ret
    exact qf2
def slices_Contains_string_string.f (k:Nat) (l0:List ByteArray) (a1:ByteArray):Option (Bool):=(slices_Index_string_string.f k l0 a1).bind fun t377=>(some (decide (t377≥0)))
set_option maxHeartbeats 8000000 in
set_option maxRecDepth 100000 in
theorem slices_Contains_string_string.calls (k:Nat) (A0:Option Addr) (c0:Nat) (l0:List ByteArray) (a1:ByteArray) (r:Bool) (w:World) (hr0:Kd.C Kd.string w A0 l0.length l0) (hc0:l0.length≤c0) (h:slices_Contains_string_string.f k l0 a1=some r) :
  Calls Try.prog 54 #[.slice A0 l0.length c0,.string a1] w fun e w'=>e=.returned (.bool r)∧Drawn0 w w':=by
 have HR0:=y0.mk hr0
 have HC0:=y0.mk hc0
 clear hr0 hc0
 have H:((slices_Index_string_string.f k l0 a1).bind fun t377=>(some (decide (t377≥0))))=some r:=h
 clear h
 obtain⟨t377,A3,H⟩:=qB H
 obtain rfl:=Option.some.inj H
 go_enter Try.func54,Try.ntmps54
 go_wp2_with (first|((with_reducible refine y13 (f:=71) rfl ?_);refine y15 (some 7) rfl rfl Try.func71 (by kernel_rfl) rfl #[.slice A0 l0.length c0,.string a1] rfl qy1 ?_;(with_reducible refine(slices_Index_string_string.calls k _ _ l0 a1 t377 _ (qc HR0.out) HC0.out A3.out).mono ?_);rintro e w' ⟨rfl,⟨nd,rfl⟩⟩;refine⟨_,rfl, ?_⟩))
 go_ret
 exact qf2
def impl_Rule_vars.l0:Nat→List ByteArray→List Int→Int→Int→List (S63)→Int→ByteArray→List Int→List (S33)→Option (List ByteArray)
 | 0,_,_,_,_,_,_,_,_,_=>none
 | k + 1,x5,x12,x13,x14,x379000,x379001,x379002,x379003,x379004=>if x14 < x13 then(if 0≤x14 then(if x14 < (x12.length:Int)then(if 0≤(rd x12 x14)then(if(rd x12 x14) < (x379000.length:Int)then(if((y17 x379000 (rd x12 x14)).f0)=1 then((slices_Contains_string_string.f k x5 ((y17 x379000 (rd x12 x14)).f1)).bind fun t388=>(if t388=true then(impl_Rule_vars.l0 k x5 x12 x13 (wrap64 (x14 + 1)) x379000 x379001 x379002 x379003 x379004)else(if x5.length < 8796093022208 then(impl_Rule_vars.l0 k (x5 ++ [(y17 x379000 (rd x12 x14)).f1]) x12 x13 (wrap64 (x14 + 1)) x379000 x379001 x379002 x379003 x379004)else(none))))else(impl_Rule_vars.l0 k x5 x12 x13 (wrap64 (x14 + 1)) x379000 x379001 x379002 x379003 x379004))else(none))else(none))else(none))else(none))else(some x5)
def impl_Rule_vars.f (k:Nat) (l0_0:List (S63)) (a0_1:Int) (a0_2:ByteArray) (l0_3:List Int) (l0_4:List (S33)) (a1:Int):Option (List ByteArray):=(impl_Rule_within.f k l0_0 a0_1 a0_2 l0_3 l0_4 a1).bind fun t382=>(impl_Rule_vars.l0 k (([]:List ByteArray)) t382 (t382.length:Int) 0 l0_0 a0_1 a0_2 l0_3 l0_4)
set_option maxHeartbeats 8000000 in
set_option maxRecDepth 100000 in
theorem impl_Rule_vars.calls (k:Nat) (Bn:Option Addr) (Bi:Nat) (Ac:List (S63)) (Au:Int) (Av:ByteArray) (Bj:Option Addr) (Bk:Nat) (As:List Int) (Bl:Option Addr) (Bm:Nat) (At:List (S33)) (a1:Int) (r:List ByteArray) (w:World) (Bs:Kd.C k63 w Bn Ac.length Ac) (Bt:Ac.length≤Bi) (Bu:Kd.C (Kd.int .i64) w Bj As.length As) (Bv:As.length≤Bk) (Bw:Kd.C k33 w Bl At.length At) (Bx:At.length≤Bm) (h:impl_Rule_vars.f k Ac Au Av As At a1=some r) :
  Calls Try.prog 30 #[.agg #[.slice Bn Ac.length Bi,.int .i64 Au,.string Av,.slice Bj As.length Bk,.slice Bl At.length Bm],.int .i64 a1] w fun e w'=>∃ v0_:Value,e=.returned (v0_)∧Kd.R Kd.string 9 w' w.heap.size (fun _=>True) v0_ r∧Below w.heap.size w w':=by
 have Gf:=Try.underlying36
 have Gg:=Try.underlying63
 have Be:=y0.mk Bs
 have Cs:=y0.mk Bt
 clear Bs Bt
 have Ct:=y0.mk Bu
 have Cu:=y0.mk Bv
 clear Bu Bv
 have Cv:=y0.mk Bw
 have Cw:=y0.mk Bx
 clear Bw Bx
 have HB:=y0.mk (Below.refl w.heap.size w)
 have H:((impl_Rule_within.f k Ac Au Av As At a1).bind fun Ab=>(impl_Rule_vars.l0 k (([]:List ByteArray)) Ab (Ab.length:Int) 0 Ac Au Av As At))=some r:=h
 clear h
 obtain⟨Cx,Bc⟩:∃ y_:List ByteArray,y_=(([]:List ByteArray)):=⟨_,rfl⟩
 replace H:((impl_Rule_within.f k Ac Au Av As At a1).bind fun Ab=>(impl_Rule_vars.l0 k Cx Ab (Ab.length:Int) 0 Ac Au Av As At))=some r:=by first|(rw [Bc];with_reducible exact H)|(have H2_:=(Option.bind_some _ _).symm.trans H;rw [Bc];with_reducible exact H2_)|(have H2_:=(Option.bind_some _ _).symm.trans H;with_reducible exact H2_)|with_reducible exact H|(rw [Bc];exact H)|exact H
 have Bz:=y0.mk Bc
 clear Bc
 obtain⟨Ab,A3,H⟩:=qB H
 have H':=y0.mk H
 clear H
 go_enter Try.func30,Try.ntmps30
 go_wp2_with (first|((with_reducible refine y14 (N:=2) rfl ?_);refine qe 2 #[.slice Bn Ac.length Bi,.int .i64 Au,.string Av,.slice Bj As.length Bk,.slice Bl At.length Bm] 36 ?_;intro Ca hg w4 hbox hb;have Af:=y0.mk (hbox);have Fl:=y0.mk (qg (w:=w) hg);have Fm:=y0.mk (qg (w:=w) hg);replace HB:=y0.mk (y3 qb hb);clear hb hbox hg)|((with_reducible refine y14 (N:=9) rfl ?_);refine qL Kd.string 9 9 ([]:List ByteArray) ?_;intro Gh w5 Cy hb hg_ hnew_;clear hg_ hnew_;(first|rw [← Bz.out]at Cy|(simp only [Int.reduceToNat]at Cy;rw [← Bz.out]at Cy));have Bo:=y0.mk (Kd.R_lower Cy (y2 qb));replace Af:=y0.mk (qK Af.out hb);replace HB:=y0.mk (y3 qb hb);clear hb Cy;obtain⟨Cf,Cg,Ch,Ci,Cj,Ck,Cl,Cm,Cn,Co⟩:=qz5 Af.out)|((with_reducible refine y13 (f:=53) rfl ?_);refine y15 (some 12) rfl rfl Try.func53 (by kernel_rfl) rfl #[.agg #[.slice Bn Ac.length Bi,.int .i64 Au,.string Av,.slice Bj As.length Bk,.slice Bl At.length Bm],.int .i64 a1] rfl qy1 ?_;(with_reducible refine(impl_Rule_within.calls k _ _ Ac Au Av _ _ As _ _ At a1 Ab _ (qc (Kd.C_below Be.out HB.out)) Cs.out (qc (Kd.C_below Ct.out HB.out)) Cu.out (qc (Kd.C_below Cv.out HB.out)) Cw.out A3.out).mono ?_);rintro e w8 ⟨Gi,rfl,Fn,hb⟩;refine⟨_,rfl, ?_⟩;replace Bo:=y0.mk (Kd.R_below (qR Bo.out) hb);have Cb:=y0.mk (Kd.R_lower Fn (y2 qb));replace Af:=y0.mk (qK Af.out hb);replace HB:=y0.mk (y3 qb hb);(try clear hb);(try clear Fn);obtain⟨Gj,Gk,Gl⟩:=Kd.R_slice Cb.out;subst Gl))
 go_loopg [5,14] k (fun kq v5 Gm w'=>∃(Aw:List ByteArray) (Aa:Int),Gm=.int .i64 Aa∧y0 (impl_Rule_vars.l0 kq Aw Ab (Ab.length:Int) Aa Ac Au Av As At=some r)∧y0 (kq≤k)∧y0 (Kd.R Kd.string 9 w' w.heap.size (fun _=>True) v5 Aw)∧y0 (Kd.R (Kd.int .i64) 3 w' w.heap.size (fun _=>True) (.slice Gj Ab.length Gk) Ab)∧y0 (w'.heap[Ca]?=some (.cells #[(.slice Bn Ac.length Bi),.int .i64 Au,.string Av,(.slice Bj As.length Bk),(.slice Bl At.length Bm)] 36 (0,0)))∧y0 (Below w.heap.size w w'))
 case atStart=>exact⟨(Cx),(0),qy2,H',⟨Nat.le_refl _⟩,⟨qR Bo.out⟩,⟨qR Cb.out⟩,⟨qk Af.out⟩,⟨qb⟩⟩
 case round =>
  clear H'
  (try clear Cf Cg Ch Ci Cj Ck Cl Cm Cn Co)
  obtain⟨Aw,Aa,rfl,HA,Cq,Aq,Am,Af,HB⟩:=hrel
  cases gk with
  | zero=>exact absurd HA.out (by simp [impl_Rule_vars.l0])
  | succ k1 =>
   have H:=HA.out
   clear HA
   simp only [impl_Rule_vars.l0]at H
   by_cases Cr:Aa < (Ab.length:Int)
   ·rw [if_pos Cr]at H
    have Cz:=decide_eq_true Cr
    clear Cr
    obtain⟨Fo,H⟩:=qo H
    have Fp:=decide_eq_true Fo
    clear Fo
    obtain⟨Fq,H⟩:=qo H
    have Fr:decide (Aa < (Ab.length:Int))=true:=decide_eq_true Fq
    clear Fq
    obtain⟨Fs,H⟩:=qo H
    have Ft:decide (0≤(rd Ab Aa))=true:=decide_eq_true Fs
    clear Fs
    obtain⟨Fu,H⟩:=qo H
    have Fv:decide ((rd Ab Aa) < (Ac.length:Int))=true:=decide_eq_true Fu
    clear Fu
    by_cases Cp:((y17 Ac (rd Ab Aa)).f0)=1
    ·rw [if_pos Cp]at H
     have Da:(((y17 Ac (rd Ab Aa)).f0) == 1)=true:=beq_iff_eq.mpr Cp
     have Db:(((y17 Ac (rd Ab Aa)).f0) != 1)=false:=bne_eq_false_iff_eq.mpr Cp
     clear Cp
     obtain⟨Fg,Fx,H⟩:=qB H
     by_cases Dh:Fg=true
     ·subst Dh
      replace H:=qT H
      have H':=y0.mk H
      clear H
      have Ay:0≤(Aa:Int):=of_decide_eq_true qy0
      have Az:Aa < (Ab.length:Int):=of_decide_eq_true qy0
      obtain⟨Cc,Bp,Bf⟩:=Kd.at_int (Kd.R_reads' Am.out).2.2 Aa Ay Az
      cases Bp
      replace Ay:=eq_true Ay
      replace Az:=eq_true Az
      obtain⟨Di,Dj,Dk,Dl,Dm,Do,Dp,Dq,Dr,Ds⟩:=qz5 Af.out
      have Ba:0≤((rd Ab Aa):Int):=of_decide_eq_true qy0
      have Bb:(rd Ab Aa) < (Ac.length:Int):=of_decide_eq_true qy0
      obtain⟨Bq,Ak,Al,Br,Ag,Ah,Ai,Ao,Ap⟩:=at_T63 Be.out (rd Ab Aa) Ba Bb
      cases Br
      replace Ag:=(HB.out.cell (World.block_lt_of_cell? w _ Ag)).trans Ag
      replace Ah:=(HB.out.cell (World.block_lt_of_cell? w _ Ah)).trans Ah
      replace Ai:=(HB.out.cell (World.block_lt_of_cell? w _ Ai)).trans Ai
      have Bg:=y0.mk Ap
      have Bh:=y0.mk Ao
      clear Ap Ao
      replace Ba:=eq_true Ba
      replace Bb:=eq_true Bb
      go_wp2_with (first|((with_reducible refine y14 (N:=8) rfl ?_);refine qe 8 #[.int .i64 0,.string (⟨#[]⟩:ByteArray),.slice none 0 0] 63 ?_;intro Ae hg Gq hbox hb;replace Aq:=y0.mk (Kd.R_below (qR Aq.out) hb);replace Am:=y0.mk (Kd.R_below (qR Am.out) hb);have Aj:=y0.mk (hbox);have Cd:=y0.mk (qg (w:=w) hg);have Ce:=y0.mk (qg (w:=w) hg);replace HB:=y0.mk (y3 qb hb);have Ad:=y0.mk (qn Af.out hg);have Ar:=y0.mk (qm Af.out hg);replace Af:=y0.mk (qK Af.out hb);clear hb hbox hg;have Fy:=Ar.out;have Fz:=Ad.out;obtain⟨Dt,Du,Dv,Dw,Dx,Dy⟩:=qz3 Aj.out;obtain⟨Gn,Fh,Fi⟩:=Kd.R_slice Aq.out;subst Fi)|(go_at_call 54;(with_reducible refine(slices_Contains_string_string.calls k1 _ _ Aw ((y17 Ac (rd Ab Aa)).f1) true _ (by refine(Kd.R_reads' (e:=9) (base:=w.heap.size) (ok:=fun k_=>True) (n:=Aw.length) (c:=Fh) ?_).2.2;exact(qR ((Kd.R_mono (Kd.R_far (p:=⟨Ae,2,none⟩) (Kd.R_far (p:=⟨Ae,1,none⟩) (Kd.R_far (p:=⟨Ae,0,none⟩) (Kd.R_types Aq.out Aj.out (by decide)) (fun _ hk=>hk.2) (.int .i64 ((y17 Ac (rd Ab Aa)).f0))) (fun _ hk=>hk.2) (.string ((y17 Ac (rd Ab Aa)).f1))) (fun _ hk=>hk.2) (.slice Ak ((y17 Ac (rd Ab Aa)).f2).length Al)) (fun _ h_=>h_.1))))) (by exact(Kd.R_reads' Aq.out).2.1) Fx.out).mono ?_);rintro e w' ⟨rfl,⟨nd,rfl⟩⟩))
      go_roundg k1
      case measure=>have:=Cq.out;omega
      exact⟨(Aw),(wrap64 (Aa + 1)),qy2,H',⟨by have:=Cq.out;omega⟩,⟨qR (Kd.R_mono (Kd.R_far (p:=⟨Ae,2,none⟩) (Kd.R_far (p:=⟨Ae,1,none⟩) (Kd.R_far (p:=⟨Ae,0,none⟩) (Kd.R_types Aq.out Aj.out (by decide)) (fun _ hk=>hk.2) (.int .i64 ((y17 Ac (rd Ab Aa)).f0))) (fun _ hk=>hk.2) (.string ((y17 Ac (rd Ab Aa)).f1))) (fun _ hk=>hk.2) (.slice Ak ((y17 Ac (rd Ab Aa)).f2).length Al)) (fun _ hk=>trivial))⟩,⟨qR (Kd.R_mono (Kd.R_far (p:=⟨Ae,2,none⟩) (Kd.R_far (p:=⟨Ae,1,none⟩) (Kd.R_far (p:=⟨Ae,0,none⟩) (Kd.R_types Am.out Aj.out (by decide)) (fun _ hk=>hk.2) (.int .i64 ((y17 Ac (rd Ab Aa)).f0))) (fun _ hk=>hk.2) (.string ((y17 Ac (rd Ab Aa)).f1))) (fun _ hk=>hk.2) (.slice Ak ((y17 Ac (rd Ab Aa)).f2).length Al)) (fun _ hk=>trivial))⟩,⟨by(with_reducible repeat(first|refine y8 ?_ _|refine y7 ?_|refine y4 ?_ _));refine y9 ?_ Ad.out _;(with_reducible repeat(first|refine y8 ?_ _|refine y7 ?_|refine y4 ?_ _));refine y9 ?_ Ad.out _;(with_reducible repeat(first|refine y8 ?_ _|refine y7 ?_|refine y4 ?_ _));refine y9 ?_ Ad.out _;(with_reducible repeat(first|refine y8 ?_ _|refine y7 ?_|refine y4 ?_ _));exact Af.out⟩,⟨qb⟩⟩
     ·replace Dh:=Bool.eq_false_iff.mpr Dh
      subst Dh
      replace H:=qF H
      obtain⟨Ga,H⟩:=qo H
      have Dc:=y0.mk Ga
      clear Ga
      obtain⟨Dd,Bd⟩:∃ y_:List ByteArray,y_=(Aw ++ [(y17 Ac (rd Ab Aa)).f1]):=⟨_,rfl⟩
      replace H:(impl_Rule_vars.l0 k1 Dd Ab (Ab.length:Int) (wrap64 (Aa + 1)) Ac Au Av As At)=some r:=by first|(rw [Bd];with_reducible exact H)|(have H2_:=(Option.bind_some _ _).symm.trans H;rw [Bd];with_reducible exact H2_)|(have H2_:=(Option.bind_some _ _).symm.trans H;with_reducible exact H2_)|with_reducible exact H|(rw [Bd];exact H)|exact H
      have De:=y0.mk Bd
      clear Bd
      have H':=y0.mk H
      clear H
      have Ay:0≤(Aa:Int):=of_decide_eq_true qy0
      have Az:Aa < (Ab.length:Int):=of_decide_eq_true qy0
      obtain⟨Cc,Bp,Bf⟩:=Kd.at_int (Kd.R_reads' Am.out).2.2 Aa Ay Az
      cases Bp
      replace Ay:=eq_true Ay
      replace Az:=eq_true Az
      obtain⟨Dz,Ea,Eb,Ec,Ed,Ee,Ef,Eg,Eh,Ei⟩:=qz5 Af.out
      have Ba:0≤((rd Ab Aa):Int):=of_decide_eq_true qy0
      have Bb:(rd Ab Aa) < (Ac.length:Int):=of_decide_eq_true qy0
      obtain⟨Bq,Ak,Al,Br,Ag,Ah,Ai,Ao,Ap⟩:=at_T63 Be.out (rd Ab Aa) Ba Bb
      cases Br
      replace Ag:=(HB.out.cell (World.block_lt_of_cell? w _ Ag)).trans Ag
      replace Ah:=(HB.out.cell (World.block_lt_of_cell? w _ Ah)).trans Ah
      replace Ai:=(HB.out.cell (World.block_lt_of_cell? w _ Ai)).trans Ai
      have Bg:=y0.mk Ap
      have Bh:=y0.mk Ao
      clear Ap Ao
      replace Ba:=eq_true Ba
      replace Bb:=eq_true Bb
      go_wp2_with (first|((with_reducible refine y14 (N:=8) rfl ?_);refine qe 8 #[.int .i64 0,.string (⟨#[]⟩:ByteArray),.slice none 0 0] 63 ?_;intro Ae hg Gr hbox hb;replace Aq:=y0.mk (Kd.R_below (qR Aq.out) hb);replace Am:=y0.mk (Kd.R_below (qR Am.out) hb);have Aj:=y0.mk (hbox);have Cd:=y0.mk (qg (w:=w) hg);have Ce:=y0.mk (qg (w:=w) hg);replace HB:=y0.mk (y3 qb hb);have Ad:=y0.mk (qn Af.out hg);have Ar:=y0.mk (qm Af.out hg);replace Af:=y0.mk (qK Af.out hb);clear hb hbox hg;have Gb:=Ar.out;have Gc:=Ad.out;obtain⟨Ej,Ek,El,Em,En,Eo⟩:=qz3 Aj.out;obtain⟨Fj,Df,Fk⟩:=Kd.R_slice Aq.out;subst Fk)|(go_at_call 54;(with_reducible refine(slices_Contains_string_string.calls k1 _ _ Aw ((y17 Ac (rd Ab Aa)).f1) false _ (by refine(Kd.R_reads' (e:=9) (base:=w.heap.size) (ok:=fun k_=>True) (n:=Aw.length) (c:=Df) ?_).2.2;exact(qR ((Kd.R_mono (Kd.R_far (p:=⟨Ae,2,none⟩) (Kd.R_far (p:=⟨Ae,1,none⟩) (Kd.R_far (p:=⟨Ae,0,none⟩) (Kd.R_types Aq.out Aj.out (by decide)) (fun _ hk=>hk.2) (.int .i64 ((y17 Ac (rd Ab Aa)).f0))) (fun _ hk=>hk.2) (.string ((y17 Ac (rd Ab Aa)).f1))) (fun _ hk=>hk.2) (.slice Ak ((y17 Ac (rd Ab Aa)).f2).length Al)) (fun _ h_=>h_.1))))) (by exact(Kd.R_reads' Aq.out).2.1) Fx.out).mono ?_);rintro e w' ⟨rfl,⟨nd,rfl⟩⟩)|((with_reducible refine gate_builtin (b:=.append) (xs:=#[.tmp 33,.tmp 36]) rfl ?_);at_builtin;refine Kd.R_append Kd.string (w0:=w) w.heap.size rfl (.tmp 33) (.tmp 36) 30 9 (.string ⟨#[]⟩) 16 rfl Try.underlying30 info9 rfl (by decide) (by omega) (.slice Fj Aw.length Df) Aw ((y17 Ac (rd Ab Aa)).f1) [.string ((y17 Ac (rd Ab Aa)).f1)] (fun _=>True) (fun _=>False) rfl (by first|(go_simp;done)|(go_simp;rfl)) ?aP (fun _ hk=>hk.elim) ?aF ?aO ?aB ?aS ?aL ?_;(case aP=>exact rfl);(case aB=>exact qb);(case aF=>exact(fun _ _=>trivial));(case aO=>exact(qR (Kd.R_mono (Kd.R_far (p:=⟨Ae,2,none⟩) (Kd.R_far (p:=⟨Ae,1,none⟩) (Kd.R_far (p:=⟨Ae,0,none⟩) (Kd.R_types Aq.out Aj.out (by decide)) (fun _ hk=>hk.2) (.int .i64 ((y17 Ac (rd Ab Aa)).f0))) (fun _ hk=>hk.2) (.string ((y17 Ac (rd Ab Aa)).f1))) (fun _ hk=>hk.2) (.slice Ak ((y17 Ac (rd Ab Aa)).f2).length Al)) (fun _ hk=>trivial))));(case aS=>exact(y2 qb));(case aL=>have:=Dc.out;omega);intro Gp Gs ho hb hg hat;rw [← De.out]at ho;replace Am:=y0.mk (Kd.R_over' (qR ((Kd.R_mono (Kd.R_far (p:=⟨Ae,2,none⟩) (Kd.R_far (p:=⟨Ae,1,none⟩) (Kd.R_far (p:=⟨Ae,0,none⟩) (Kd.R_types Am.out Aj.out (by decide)) (fun _ hk=>hk.2) (.int .i64 ((y17 Ac (rd Ab Aa)).f0))) (fun _ hk=>hk.2) (.string ((y17 Ac (rd Ab Aa)).f1))) (fun _ hk=>hk.2) (.slice Ak ((y17 Ac (rd Ab Aa)).f2).length Al)) (fun _ h_=>h_.1)))) (Kd.R_typed (qR ((Kd.R_mono (Kd.R_far (p:=⟨Ae,2,none⟩) (Kd.R_far (p:=⟨Ae,1,none⟩) (Kd.R_far (p:=⟨Ae,0,none⟩) (Kd.R_types Aq.out Aj.out (by decide)) (fun _ hk=>hk.2) (.int .i64 ((y17 Ac (rd Ab Aa)).f0))) (fun _ hk=>hk.2) (.string ((y17 Ac (rd Ab Aa)).f1))) (fun _ hk=>hk.2) (.slice Ak ((y17 Ac (rd Ab Aa)).f2).length Al)) (fun _ h_=>h_.1))))) (by decide) hg);replace Af:=y0.mk (blk_grown (g:=Ca) (o:=.cells #[.slice (some Bq) Ac.length Bi,.int .i64 Au,.string Av,.slice Bj As.length Bk,.slice Bl At.length Bm] 36 (0,0)) (by(with_reducible repeat(first|refine y8 ?_ _|refine y7 ?_|refine y4 ?_ _));refine y9 ?_ Ad.out _;(with_reducible repeat(first|refine y8 ?_ _|refine y7 ?_|refine y4 ?_ _));refine y9 ?_ Ad.out _;(with_reducible repeat(first|refine y8 ?_ _|refine y7 ?_|refine y4 ?_ _));refine y9 ?_ Ad.out _;(with_reducible repeat(first|refine y8 ?_ _|refine y7 ?_|refine y4 ?_ _));exact Af.out) hg (Kd.R_ne Aq.out Af.out (by decide)));replace Aj:=y0.mk (blk_grown (g:=Ae) (o:=.cells #[.int .i64 ((y17 Ac (rd Ab Aa)).f0),.string ((y17 Ac (rd Ab Aa)).f1),.slice Ak ((y17 Ac (rd Ab Aa)).f2).length Al] 63 (0,0)) (by(with_reducible repeat(first|refine y8 ?_ _|refine y7 ?_|refine y4 ?_ _));refine blk_put (cs:=#[.int .i64 ((y17 Ac (rd Ab Aa)).f0),.string ((y17 Ac (rd Ab Aa)).f1),.slice none 0 0]) ?_ 2 _ rfl;(with_reducible repeat(first|refine y8 ?_ _|refine y7 ?_|refine y4 ?_ _));refine blk_put (cs:=#[.int .i64 ((y17 Ac (rd Ab Aa)).f0),.string (⟨#[]⟩:ByteArray),.slice none 0 0]) ?_ 1 _ rfl;(with_reducible repeat(first|refine y8 ?_ _|refine y7 ?_|refine y4 ?_ _));refine blk_put (cs:=#[.int .i64 0,.string (⟨#[]⟩:ByteArray),.slice none 0 0]) ?_ 0 _ rfl;(with_reducible repeat(first|refine y8 ?_ _|refine y7 ?_|refine y4 ?_ _));exact Aj.out) hg (Kd.R_ne Aq.out Aj.out (by decide)));replace HB:=y0.mk (hb);have Dg:=y0.mk (ho);clear Aq;clear ho hb hg hat))
      go_roundg k1
      case measure=>have:=Cq.out;omega
      exact⟨(Dd),(wrap64 (Aa + 1)),qy2,H',⟨by have:=Cq.out;omega⟩,⟨qR Dg.out⟩,⟨qR Am.out⟩,⟨qk Af.out⟩,⟨qb⟩⟩
    ·rw [if_neg Cp]at H
     have Da:(((y17 Ac (rd Ab Aa)).f0) == 1)=false:=beq_eq_false_iff_ne.mpr Cp
     have Db:(((y17 Ac (rd Ab Aa)).f0) != 1)=true:=bne_iff_ne.mpr Cp
     have H':=y0.mk H
     clear H
     have Ay:0≤(Aa:Int):=of_decide_eq_true qy0
     have Az:Aa < (Ab.length:Int):=of_decide_eq_true qy0
     obtain⟨Cc,Bp,Bf⟩:=Kd.at_int (Kd.R_reads' Am.out).2.2 Aa Ay Az
     cases Bp
     replace Ay:=eq_true Ay
     replace Az:=eq_true Az
     obtain⟨Ep,Eq,Er,Es,Et,Eu,Ew,Ex,Ey,Ez⟩:=qz5 Af.out
     have Ba:0≤((rd Ab Aa):Int):=of_decide_eq_true qy0
     have Bb:(rd Ab Aa) < (Ac.length:Int):=of_decide_eq_true qy0
     obtain⟨Bq,Ak,Al,Br,Ag,Ah,Ai,Ao,Ap⟩:=at_T63 Be.out (rd Ab Aa) Ba Bb
     cases Br
     replace Ag:=(HB.out.cell (World.block_lt_of_cell? w _ Ag)).trans Ag
     replace Ah:=(HB.out.cell (World.block_lt_of_cell? w _ Ah)).trans Ah
     replace Ai:=(HB.out.cell (World.block_lt_of_cell? w _ Ai)).trans Ai
     have Bg:=y0.mk Ap
     have Bh:=y0.mk Ao
     clear Ap Ao
     replace Ba:=eq_true Ba
     replace Bb:=eq_true Bb
     go_wp2_with (first|((with_reducible refine y14 (N:=8) rfl ?_);refine qe 8 #[.int .i64 0,.string (⟨#[]⟩:ByteArray),.slice none 0 0] 63 ?_;intro Ae hg Gt hbox hb;replace Aq:=y0.mk (Kd.R_below (qR Aq.out) hb);replace Am:=y0.mk (Kd.R_below (qR Am.out) hb);have Aj:=y0.mk (hbox);have Cd:=y0.mk (qg (w:=w) hg);have Ce:=y0.mk (qg (w:=w) hg);replace HB:=y0.mk (y3 qb hb);have Ad:=y0.mk (qn Af.out hg);have Ar:=y0.mk (qm Af.out hg);replace Af:=y0.mk (qK Af.out hb);clear hb hbox hg;have Gd:=Ar.out;have Ge:=Ad.out;obtain⟨Fa,Fb,Fc,Fd,Fe,Ff⟩:=qz3 Aj.out))
     go_roundg k1
     case measure=>have:=Cq.out;omega
     exact⟨(Aw),(wrap64 (Aa + 1)),qy2,H',⟨by have:=Cq.out;omega⟩,⟨qR (Kd.R_mono (Kd.R_far (p:=⟨Ae,2,none⟩) (Kd.R_far (p:=⟨Ae,1,none⟩) (Kd.R_far (p:=⟨Ae,0,none⟩) (Kd.R_types Aq.out Aj.out (by decide)) (fun _ hk=>hk.2) (.int .i64 ((y17 Ac (rd Ab Aa)).f0))) (fun _ hk=>hk.2) (.string ((y17 Ac (rd Ab Aa)).f1))) (fun _ hk=>hk.2) (.slice Ak ((y17 Ac (rd Ab Aa)).f2).length Al)) (fun _ hk=>trivial))⟩,⟨qR (Kd.R_mono (Kd.R_far (p:=⟨Ae,2,none⟩) (Kd.R_far (p:=⟨Ae,1,none⟩) (Kd.R_far (p:=⟨Ae,0,none⟩) (Kd.R_types Am.out Aj.out (by decide)) (fun _ hk=>hk.2) (.int .i64 ((y17 Ac (rd Ab Aa)).f0))) (fun _ hk=>hk.2) (.string ((y17 Ac (rd Ab Aa)).f1))) (fun _ hk=>hk.2) (.slice Ak ((y17 Ac (rd Ab Aa)).f2).length Al)) (fun _ hk=>trivial))⟩,⟨by(with_reducible repeat(first|refine y8 ?_ _|refine y7 ?_|refine y4 ?_ _));refine y9 ?_ Ad.out _;(with_reducible repeat(first|refine y8 ?_ _|refine y7 ?_|refine y4 ?_ _));refine y9 ?_ Ad.out _;(with_reducible repeat(first|refine y8 ?_ _|refine y7 ?_|refine y4 ?_ _));refine y9 ?_ Ad.out _;(with_reducible repeat(first|refine y8 ?_ _|refine y7 ?_|refine y4 ?_ _));exact Af.out⟩,⟨qb⟩⟩
   ·rw [if_neg Cr]at H
    have Cz:=decide_eq_false Cr
    clear Cr
    obtain rfl:=Option.some.inj H
    go_wp2
    go_ret
    exact⟨_,by first|rfl|(simp [y10,y11] <;> rfl)|(simp [*,y10,y11] <;> rfl),by(with_reducible repeat(first|apply Kd.R_alloc|apply Kd.R_drewN|apply Kd.R_drew));exact Aq.out,qb⟩
def impl_ExpVars.f (k:Nat) (l0_0:List (S63)) (a0_1:Int) (a0_2:ByteArray) (l0_3:List Int) (l0_4:List (S33)) (a1:Int):Option (List ByteArray):=(impl_hasForm.f k l0_0 a0_1 a0_2 l0_3 l0_4).bind fun t393=>(if t393=true then((impl_in.f a1 0 (wrap64 ((l0_0.length:Int) - 1))).bind fun t394=>(if t394=true then((impl_Rule_vars.f k l0_0 a0_1 a0_2 l0_3 l0_4 a1).bind fun t395=>(some t395))else(some ([]:List ByteArray))))else(some ([]:List ByteArray)))
set_option maxHeartbeats 8000000 in
set_option maxRecDepth 100000 in
theorem impl_ExpVars.calls (k:Nat) (Ag:Option Addr) (Ah:Nat) (Ab:List (S63)) (Ae:Int) (Af:ByteArray) (Ai:Option Addr) (Aj:Nat) (Ac:List Int) (Ak:Option Addr) (Al:Nat) (Ad:List (S33)) (a1:Int) (r:List ByteArray) (w:World) (At:Kd.C k63 w Ag Ab.length Ab) (Au:Ab.length≤Ah) (Av:Kd.C (Kd.int .i64) w Ai Ac.length Ac) (Aw:Ac.length≤Aj) (Ay:Kd.C k33 w Ak Ad.length Ad) (Az:Ad.length≤Al) (h:impl_ExpVars.f k Ab Ae Af Ac Ad a1=some r) :
  Calls Try.prog 9 #[.agg #[.slice Ag Ab.length Ah,.int .i64 Ae,.string Af,.slice Ai Ac.length Aj,.slice Ak Ad.length Al],.int .i64 a1] w fun e w'=>∃ v0_:Value,e=.returned (v0_)∧Kd.R Kd.string 9 w' w.heap.size (fun _=>True) v0_ r∧Below w.heap.size w w':=by
 have Dh:=Try.underlying36
 have Am:=y0.mk At
 have Ao:=y0.mk Au
 clear At Au
 have Ap:=y0.mk Av
 have Aq:=y0.mk Aw
 clear Av Aw
 have Ar:=y0.mk Ay
 have As:=y0.mk Az
 clear Ay Az
 have HB:=y0.mk (Below.refl w.heap.size w)
 have H:((impl_hasForm.f k Ab Ae Af Ac Ad).bind fun Bd=>(if Bd=true then((impl_in.f a1 0 (wrap64 ((Ab.length:Int) - 1))).bind fun Be=>(if Be=true then((impl_Rule_vars.f k Ab Ae Af Ac Ad a1).bind fun Bf=>(some Bf))else(some ([]:List ByteArray))))else(some ([]:List ByteArray))))=some r:=h
 clear h
 obtain⟨Bd,A3,H⟩:=qB H
 by_cases c4:Bd=true
 ·subst c4
  replace H:=qT H
  obtain⟨Be,A5,H⟩:=qB H
  by_cases c6:Be=true
  ·subst c6
   replace H:=qT H
   obtain⟨Bf,A7,H⟩:=qB H
   obtain rfl:=Option.some.inj H
   go_enter Try.func9,Try.ntmps9
   go_wp2_with (first|((with_reducible refine y14 (N:=2) rfl ?_);(try(refine gate_guard (by rfl) ?_;dsimp only));refine qe 2 #[.slice Ag Ab.length Ah,.int .i64 Ae,.string Af,.slice Ai Ac.length Aj,.slice Ak Ad.length Al] 36 ?_;intro Ba hg w8 hbox hb;have Aa:=y0.mk (hbox);have Bb:=y0.mk (qg (w:=w) hg);have Bc:=y0.mk (qg (w:=w) hg);replace HB:=y0.mk (y3 qb hb);clear hb hbox hg;obtain⟨Cw,Cx,Cy,Cz,Da,Db,Dc,Dd,De,Df⟩:=qz5 Aa.out)|((with_reducible refine y13 (f:=28) rfl ?_);refine y15 (some 6) rfl rfl Try.func28 (by kernel_rfl) rfl #[.agg #[.slice Ag Ab.length Ah,.int .i64 Ae,.string Af,.slice Ai Ac.length Aj,.slice Ak Ad.length Al]] rfl qy1 ?_;(with_reducible refine(impl_hasForm.calls k _ _ Ab Ae Af _ _ Ac _ _ Ad true _ (qc (Kd.C_below Am.out HB.out)) Ao.out (qc (Kd.C_below Ap.out HB.out)) Aq.out (qc (Kd.C_below Ar.out HB.out)) As.out A3.out).mono ?_);rintro e Dj ⟨rfl,hb⟩;refine⟨_,rfl, ?_⟩;replace Aa:=y0.mk (qK Aa.out hb);replace HB:=y0.mk (y3 qb hb);(try clear hb);obtain⟨Bh,Bi,Bj,Bk,Bl,Bm,Bn,Bo,Bp,Bq⟩:=qz5 Aa.out)|(go_at_call 29;(with_reducible refine(impl_in.calls a1 0 (wrap64 ((Ab.length:Int) - 1)) true _ A5.out).mono ?_);rintro e w' ⟨rfl,⟨nd,rfl⟩⟩)|((with_reducible refine y13 (f:=30) rfl ?_);refine y15 (some 19) rfl rfl Try.func30 (by kernel_rfl) rfl #[.agg #[.slice Ag Ab.length Ah,.int .i64 Ae,.string Af,.slice Ai Ac.length Aj,.slice Ak Ad.length Al],.int .i64 a1] rfl qy1 ?_;(with_reducible refine(impl_Rule_vars.calls k _ _ Ab Ae Af _ _ Ac _ _ Ad a1 Bf _ (qc (Kd.C_below Am.out qb)) Ao.out (qc (Kd.C_below Ap.out qb)) Aq.out (qc (Kd.C_below Ar.out qb)) As.out A7.out).mono ?_);rintro e Dk ⟨Di,rfl,Dg,hb⟩;refine⟨_,rfl, ?_⟩;have Bg:=y0.mk (Kd.R_lower Dg (y2 qb));replace Aa:=y0.mk (qK Aa.out hb);replace HB:=y0.mk (y3 qb hb);(try clear hb);(try clear Dg)))
   go_ret
   exact⟨_,by first|rfl|(simp [y10,y11] <;> rfl)|(simp [*,y10,y11] <;> rfl),by(with_reducible repeat(first|apply Kd.R_alloc|apply Kd.R_drewN|apply Kd.R_drew));exact Bg.out,qb⟩
  ·replace c6:=Bool.eq_false_iff.mpr c6
   subst c6
   replace H:=qF H
   obtain rfl:=Option.some.inj H
   go_enter Try.func9,Try.ntmps9
   go_wp2_with (first|((with_reducible refine y14 (N:=2) rfl ?_);(try(refine gate_guard (by rfl) ?_;dsimp only));refine qe 2 #[.slice Ag Ab.length Ah,.int .i64 Ae,.string Af,.slice Ai Ac.length Aj,.slice Ak Ad.length Al] 36 ?_;intro Ba hg Dl hbox hb;have Aa:=y0.mk (hbox);have Bb:=y0.mk (qg (w:=w) hg);have Bc:=y0.mk (qg (w:=w) hg);replace HB:=y0.mk (y3 qb hb);clear hb hbox hg;obtain⟨Br,Bs,Bt,Bu,Bv,Bw,Bx,Bz,Ca,Cb⟩:=qz5 Aa.out)|((with_reducible refine y13 (f:=28) rfl ?_);refine y15 (some 6) rfl rfl Try.func28 (by kernel_rfl) rfl #[.agg #[.slice Ag Ab.length Ah,.int .i64 Ae,.string Af,.slice Ai Ac.length Aj,.slice Ak Ad.length Al]] rfl qy1 ?_;(with_reducible refine(impl_hasForm.calls k _ _ Ab Ae Af _ _ Ac _ _ Ad true _ (qc (Kd.C_below Am.out HB.out)) Ao.out (qc (Kd.C_below Ap.out HB.out)) Aq.out (qc (Kd.C_below Ar.out HB.out)) As.out A3.out).mono ?_);rintro e Dm ⟨rfl,hb⟩;refine⟨_,rfl, ?_⟩;replace Aa:=y0.mk (qK Aa.out hb);replace HB:=y0.mk (y3 qb hb);(try clear hb);obtain⟨Cc,Cd,Ce,Cf,Cg,Ch,Ci,Cj,Ck,Cl⟩:=qz5 Aa.out)|(go_at_call 29;(with_reducible refine(impl_in.calls a1 0 (wrap64 ((Ab.length:Int) - 1)) false _ A5.out).mono ?_);rintro e w' ⟨rfl,⟨nd,rfl⟩⟩))
   go_ret
   exact⟨_,by first|rfl|(simp [y10,y11] <;> rfl)|(simp [*,y10,y11] <;> rfl),by first|exact Kd.R_nil _ _ _ _ _|exact Kd.N_nil _ _ _ _ _|exact Kd.V_nil _ _ _ _ _|exact Kd.Q_nil _ _ _ _ _|exact Kd.S_nil _ _ _ _ _,qb⟩
 ·replace c4:=Bool.eq_false_iff.mpr c4
  subst c4
  replace H:=qF H
  obtain rfl:=Option.some.inj H
  go_enter Try.func9,Try.ntmps9
  go_wp2_with (first|((with_reducible refine y14 (N:=2) rfl ?_);(try(refine gate_guard (by rfl) ?_;dsimp only));refine qe 2 #[.slice Ag Ab.length Ah,.int .i64 Ae,.string Af,.slice Ai Ac.length Aj,.slice Ak Ad.length Al] 36 ?_;intro Ba hg Do hbox hb;have Aa:=y0.mk (hbox);have Bb:=y0.mk (qg (w:=w) hg);have Bc:=y0.mk (qg (w:=w) hg);replace HB:=y0.mk (y3 qb hb);clear hb hbox hg;obtain⟨Cm,Cn,Co,Cp,Cq,Cr,Cs,Ct,Cu,Cv⟩:=qz5 Aa.out)|((with_reducible refine y13 (f:=28) rfl ?_);refine y15 (some 6) rfl rfl Try.func28 (by kernel_rfl) rfl #[.agg #[.slice Ag Ab.length Ah,.int .i64 Ae,.string Af,.slice Ai Ac.length Aj,.slice Ak Ad.length Al]] rfl qy1 ?_;(with_reducible refine(impl_hasForm.calls k _ _ Ab Ae Af _ _ Ac _ _ Ad false _ (qc (Kd.C_below Am.out HB.out)) Ao.out (qc (Kd.C_below Ap.out HB.out)) Aq.out (qc (Kd.C_below Ar.out HB.out)) As.out A3.out).mono ?_);rintro e Dp ⟨rfl,hb⟩;refine⟨_,rfl, ?_⟩;replace Aa:=y0.mk (qK Aa.out hb);replace HB:=y0.mk (y3 qb hb);(try clear hb)))
  go_ret
  exact⟨_,by first|rfl|(simp [y10,y11] <;> rfl)|(simp [*,y10,y11] <;> rfl),by first|exact Kd.R_nil _ _ _ _ _|exact Kd.N_nil _ _ _ _ _|exact Kd.V_nil _ _ _ _ _|exact Kd.Q_nil _ _ _ _ _|exact Kd.S_nil _ _ _ _ _,qb⟩
def laws_eqStringS.l0:Nat→List ByteArray→List ByteArray→Int→Option (Bool)
 | 0,_,_,_=>none
 | k + 1,x0,x1,x5=>if x5 < (x0.length:Int)then(if 0≤x5 then(if x5 < (x1.length:Int)then(if(rdOf ByteArray.empty x0 x5).toList=(rdOf ByteArray.empty x1 x5).toList then(laws_eqStringS.l0 k x0 x1 (wrap64 (x5 + 1)))else(some false))else(none))else(none))else(some true)
def laws_eqStringS.f (k:Nat) (l0:List ByteArray) (l1:List ByteArray):Option (Bool):=if(l0.length:Int)=(l1.length:Int)then(laws_eqStringS.l0 k l0 l1 0)else(some false)
set_option maxHeartbeats 8000000 in
set_option maxRecDepth 100000 in
theorem laws_eqStringS.calls (k:Nat) (A0:Option Addr) (c0:Nat) (l0:List ByteArray) (A1:Option Addr) (c1:Nat) (l1:List ByteArray) (r:Bool) (w:World) (Aq:Kd.C Kd.string w A0 l0.length l0) (Ar:l0.length≤c0) (As:Kd.C Kd.string w A1 l1.length l1) (At:l1.length≤c1) (h:laws_eqStringS.f k l0 l1=some r) :
  Calls Try.prog 10 #[.slice A0 l0.length c0,.slice A1 l1.length c1] w fun e w'=>e=.returned (.bool r)∧Drawn0 w w':=by
 have Ay:=y0.mk Aq
 have Bc:=y0.mk Ar
 clear Aq Ar
 have Az:=y0.mk As
 have Bd:=y0.mk At
 clear As At
 have H:(if(l0.length:Int)=(l1.length:Int)then(laws_eqStringS.l0 k l0 l1 0)else(some false))=some r:=h
 clear h
 by_cases c3:(l0.length:Int)=(l1.length:Int)
 ·rw [if_pos c3]at H
  have Af:((l0.length:Int) == (l1.length:Int))=true:=beq_iff_eq.mpr c3
  have Ag:((l0.length:Int) != (l1.length:Int))=false:=bne_eq_false_iff_eq.mpr c3
  have Ah:(l0.length == l1.length)=true:=by first|simpa using c3|(simp at c3 ⊢;omega)
  clear c3
  have H':=y0.mk H
  clear H
  go_enter Try.func10,Try.ntmps10
  go_wp2
  repeat(go_quiet (fail);try go_wp2)
  go_loopg [5] k (fun kq v5 w'=>∃(Aa:Int),v5=.int .i64 Aa∧y0 (laws_eqStringS.l0 kq l0 l1 Aa=some r)∧y0 (kq≤k)∧Drawn0 w w')
  case atStart=>exact⟨(0),qy2,H',⟨Nat.le_refl _⟩,by repeat(first|exact Drawn0.refl _|apply Drawn0.step)⟩
  case round =>
   clear H'
   (try clear Af Ag Ah)
   obtain⟨Aa,rfl,HA,Au,⟨m1,rfl⟩⟩:=hrel
   cases gk with
   | zero=>exact absurd HA.out (by simp [laws_eqStringS.l0])
   | succ k1 =>
    have H:=HA.out
    clear HA
    simp only [laws_eqStringS.l0]at H
    by_cases c4:Aa < (l0.length:Int)
    ·rw [if_pos c4]at H
     have Ak:=decide_eq_true c4
     clear c4
     obtain⟨c5,H⟩:=qo H
     have Ba:decide (0≤Aa)=true:=decide_eq_true c5
     clear c5
     obtain⟨c6,H⟩:=qo H
     have Bb:decide (Aa < (l1.length:Int))=true:=decide_eq_true c6
     clear c6
     have Ab:0≤(Aa:Int):=of_decide_eq_true qy0
     have Ac:Aa < (l0.length:Int):=of_decide_eq_true qy0
     obtain⟨Av,Al,Ai⟩:=Kd.at_string Ay.out Aa Ab Ac
     cases Al
     replace Ab:=eq_true Ab
     replace Ac:=eq_true Ac
     have Ad:0≤(Aa:Int):=of_decide_eq_true qy0
     have Ae:Aa < (l1.length:Int):=of_decide_eq_true qy0
     obtain⟨Aw,Am,Aj⟩:=Kd.at_string Az.out Aa Ad Ae
     cases Am
     replace Ad:=eq_true Ad
     replace Ae:=eq_true Ae
     by_cases c7:(rdOf ByteArray.empty l0 Aa).toList=(rdOf ByteArray.empty l1 Aa).toList
     ·rw [if_pos c7]at H
      have Ao:((rdOf ByteArray.empty l0 Aa).toList == (rdOf ByteArray.empty l1 Aa).toList)=true:=beq_iff_eq.mpr c7
      have Ap:((rdOf ByteArray.empty l0 Aa).toList != (rdOf ByteArray.empty l1 Aa).toList)=false:=bne_eq_false_iff_eq.mpr c7
      clear c7
      have H':=y0.mk H
      clear H
      go_wp2
      repeat(go_quiet (fail);try go_wp2)
      go_roundg k1
      case measure=>have:=Au.out;omega
      exact⟨(wrap64 (Aa + 1)),qy2,H',⟨by have:=Au.out;omega⟩,by repeat(first|exact Drawn0.refl _|apply Drawn0.step)⟩
     ·rw [if_neg c7]at H
      have Ao:((rdOf ByteArray.empty l0 Aa).toList == (rdOf ByteArray.empty l1 Aa).toList)=false:=beq_eq_false_iff_ne.mpr c7
      have Ap:((rdOf ByteArray.empty l0 Aa).toList != (rdOf ByteArray.empty l1 Aa).toList)=true:=bne_iff_ne.mpr c7
      obtain rfl:=Option.some.inj H
      go_wp2
      repeat(go_quiet (fail);try go_wp2)
      go_ret
      exact qf2
    ·rw [if_neg c4]at H
     have Ak:=decide_eq_false c4
     clear c4
     obtain rfl:=Option.some.inj H
     go_wp2
     repeat(go_quiet (fail);try go_wp2)
     go_ret
     exact qf2
 ·rw [if_neg c3]at H
  have Af:((l0.length:Int) == (l1.length:Int))=false:=beq_eq_false_iff_ne.mpr c3
  have Ag:((l0.length:Int) != (l1.length:Int))=true:=bne_iff_ne.mpr c3
  have Ah:(l0.length == l1.length)=false:=by first|simpa using c3|(simp at c3 ⊢;omega)
  obtain rfl:=Option.some.inj H
  go_enter Try.func10,Try.ntmps10
  go_wp2
  repeat(go_quiet (fail);try go_wp2)
  go_ret
  exact qf2
end Go.Proofs.Ytkdabljlfbmpdaa.Pg
end
