-- Cut by prune.py, a program of this session, out of the texts of this claim: Lean checks it.
import Derived.Test.YtkdabljlfbmpdaaVevPgx0
import Derived.Test.YtkdabljlfbmpdaaVevPgx3
section
namespace Go.Proofs.Ytkdabljlfbmpdaa.Pg
open Go.RowKit Go.Proofs.YtkdabljlfbmpdaaW.PrintWords Go.Proofs.YtkdabljlfbmpdaaW.PrintLast Go.Proofs.YtkdabljlfbmpdaaW.PrintMore
attribute [local go_sem] max2_int min2_int max_two min_two max_three min_three max_four min_four   -- for this text's walks alone
set_option linter.unusedVariables false
set_option linter.unusedSimpArgs false
mutual
def spec_l04Lit.j0:Nat→List ByteArray→ByteArray→Int→ByteArray→List Int→Option (ByteArray×Bool)
 | 0,_,_,_,_,_=>none
 | k + 1,x1,x6,x215000,x215001,x215002=>spec_l04Lit.l0 k x1 x6 0 x215000 x215001 x215002
def spec_l04Lit.l0:Nat→List ByteArray→ByteArray→Int→Int→ByteArray→List Int→Option (ByteArray×Bool)
 | 0,_,_,_,_,_,_=>none
 | k + 1,x1,x6,x7,x215000,x215001,x215002=>if x7 < (x215002.length:Int)then(if x7 > 0 then(if x6.size + 2≤9223372036854775807 then(if 0≤x7 then(if 0≤(rd x215002 x7)then(if(rd x215002 x7) < (x1.length:Int)then(if(x6 ++ (⟨#[44,32]⟩:ByteArray)).size + (rdOf ByteArray.empty x1 (rd x215002 x7)).size≤9223372036854775807 then(spec_l04Lit.l0 k x1 ((x6 ++ (⟨#[44,32]⟩:ByteArray)) ++ (rdOf ByteArray.empty x1 (rd x215002 x7))) (wrap64 (x7 + 1)) x215000 x215001 x215002)else(none))else(none))else(none))else(none))else(none))else(if 0≤x7 then(if 0≤(rd x215002 x7)then(if(rd x215002 x7) < (x1.length:Int)then(if x6.size + (rdOf ByteArray.empty x1 (rd x215002 x7)).size≤9223372036854775807 then(spec_l04Lit.l0 k x1 (x6 ++ (rdOf ByteArray.empty x1 (rd x215002 x7))) (wrap64 (x7 + 1)) x215000 x215001 x215002)else(none))else(none))else(none))else(none)))else(if x6.size + 1≤9223372036854775807 then(if x215000=1 then(some (x6 ++ (⟨#[41]⟩:ByteArray),true))else(some (x6 ++ (⟨#[41]⟩:ByteArray),(x215000 == 2))))else(none))
end
def spec_l04Lit.f (k:Nat) (a0_0:Int) (a0_1:ByteArray) (l0_2:List Int) (l1:List ByteArray):Option (ByteArray×Bool):=if a0_0=3 then(if(l0_2.length:Int)=2 then(if 0 < (l0_2.length:Int)then(if 0≤(rd l0_2 0)then(if(rd l0_2 0) < (l1.length:Int)then(if(rdOf ByteArray.empty l1 (rd l0_2 0)).size + 1≤9223372036854775807 then(if((rdOf ByteArray.empty l1 (rd l0_2 0)) ++ (⟨#[32]⟩:ByteArray)).size + a0_1.size≤9223372036854775807 then(if(((rdOf ByteArray.empty l1 (rd l0_2 0)) ++ (⟨#[32]⟩:ByteArray)) ++ a0_1).size + 1≤9223372036854775807 then(if 1 < (l0_2.length:Int)then(if 0≤(rd l0_2 1)then(if(rd l0_2 1) < (l1.length:Int)then(if((((rdOf ByteArray.empty l1 (rd l0_2 0)) ++ (⟨#[32]⟩:ByteArray)) ++ a0_1) ++ (⟨#[32]⟩:ByteArray)).size + (rdOf ByteArray.empty l1 (rd l0_2 1)).size≤9223372036854775807 then(some (((((rdOf ByteArray.empty l1 (rd l0_2 0)) ++ (⟨#[32]⟩:ByteArray)) ++ a0_1) ++ (⟨#[32]⟩:ByteArray)) ++ (rdOf ByteArray.empty l1 (rd l0_2 1)),true))else(none))else(none))else(none))else(none))else(none))else(none))else(none))else(none))else(none))else(none))else(some ((⟨#[]⟩:ByteArray),false)))else(if a0_1.size + 1≤9223372036854775807 then(if a0_0=2 then(if 1 + (a0_1 ++ (⟨#[40]⟩:ByteArray)).size≤9223372036854775807 then(spec_l04Lit.j0 k l1 ((⟨#[33]⟩:ByteArray) ++ (a0_1 ++ (⟨#[40]⟩:ByteArray))) a0_0 a0_1 l0_2)else(none))else(spec_l04Lit.j0 k l1 (a0_1 ++ (⟨#[40]⟩:ByteArray)) a0_0 a0_1 l0_2))else(none))
set_option maxHeartbeats 8000000 in
set_option maxRecDepth 100000 in
theorem spec_l04Lit.calls (k:Nat) (Ae:Int) (Af:ByteArray) (Ak:Option Addr) (Al:Nat) (Aa:List Int) (A1:Option Addr) (c1:Nat) (l1:List ByteArray) (r1:ByteArray) (r2:Bool) (w:World) (Cj:Kd.C (Kd.int .i64) w Ak Aa.length Aa) (Ck:Aa.length≤Al) (Ff:Kd.C Kd.string w A1 l1.length l1) (Fg:l1.length≤c1) (h:spec_l04Lit.f k Ae Af Aa l1=some (r1,r2)) :
  Calls Try.prog 48 #[.agg #[.int .i64 Ae,.string Af,.slice Ak Aa.length Al],.slice A1 l1.length c1] w fun e w'=>e=.returned (.tuple #[.string r1,.bool r2])∧Below w.heap.size w w':=by
 have Hh:=Try.underlying33
 have Am:=y0.mk Cj
 have Fh:=y0.mk Ck
 clear Cj Ck
 have Cl:=y0.mk Ff
 have Hs:=y0.mk Fg
 clear Ff Fg
 have HB:=y0.mk (Below.refl w.heap.size w)
 have H:(if Ae=3 then(if(Aa.length:Int)=2 then(if 0 < (Aa.length:Int)then(if 0≤(rd Aa 0)then(if(rd Aa 0) < (l1.length:Int)then(if(rdOf ByteArray.empty l1 (rd Aa 0)).size + 1≤9223372036854775807 then(if((rdOf ByteArray.empty l1 (rd Aa 0)) ++ (⟨#[32]⟩:ByteArray)).size + Af.size≤9223372036854775807 then(if(((rdOf ByteArray.empty l1 (rd Aa 0)) ++ (⟨#[32]⟩:ByteArray)) ++ Af).size + 1≤9223372036854775807 then(if 1 < (Aa.length:Int)then(if 0≤(rd Aa 1)then(if(rd Aa 1) < (l1.length:Int)then(if((((rdOf ByteArray.empty l1 (rd Aa 0)) ++ (⟨#[32]⟩:ByteArray)) ++ Af) ++ (⟨#[32]⟩:ByteArray)).size + (rdOf ByteArray.empty l1 (rd Aa 1)).size≤9223372036854775807 then(some (((((rdOf ByteArray.empty l1 (rd Aa 0)) ++ (⟨#[32]⟩:ByteArray)) ++ Af) ++ (⟨#[32]⟩:ByteArray)) ++ (rdOf ByteArray.empty l1 (rd Aa 1)),true))else(none))else(none))else(none))else(none))else(none))else(none))else(none))else(none))else(none))else(none))else(some ((⟨#[]⟩:ByteArray),false)))else(if Af.size + 1≤9223372036854775807 then(if Ae=2 then(if 1 + (Af ++ (⟨#[40]⟩:ByteArray)).size≤9223372036854775807 then(spec_l04Lit.j0 k l1 ((⟨#[33]⟩:ByteArray) ++ (Af ++ (⟨#[40]⟩:ByteArray))) Ae Af Aa)else(none))else(spec_l04Lit.j0 k l1 (Af ++ (⟨#[40]⟩:ByteArray)) Ae Af Aa))else(none)))=some (r1,r2):=h
 clear h
 by_cases c3:Ae=3
 ·rw [if_pos c3]at H
  have Db:(Ae == 3)=true:=beq_iff_eq.mpr c3
  have Dc:(Ae != 3)=false:=bne_eq_false_iff_eq.mpr c3
  clear c3
  by_cases c4:(Aa.length:Int)=2
  ·rw [if_pos c4]at H
   have Eq:((Aa.length:Int) == 2)=true:=beq_iff_eq.mpr c4
   have Er:((Aa.length:Int) != 2)=false:=bne_eq_false_iff_eq.mpr c4
   clear c4
   obtain⟨c5,H⟩:=qo H
   have Hi:decide (0 < (Aa.length:Int))=true:=decide_eq_true c5
   have Hj:decide (0 < Aa.length)=true:=decide_eq_true (by omega)
   clear c5
   obtain⟨c6,H⟩:=qo H
   have Hk:decide (0≤(rd Aa 0))=true:=decide_eq_true c6
   clear c6
   obtain⟨c7,H⟩:=qo H
   have Hl:decide ((rd Aa 0) < (l1.length:Int))=true:=decide_eq_true c7
   clear c7
   obtain⟨c8,H⟩:=qo H
   have Hm:=eq_true c8
   have Hn:=decide_eq_true c8
   have Ho:=eq_false (Nat.not_lt.2 c8)
   obtain⟨c9,H⟩:=qo H
   have Hp:=eq_true c9
   have Hq:=decide_eq_true c9
   have Es:=eq_false (Nat.not_lt.2 c9)
   have Hr:(9223372036854775807 < (rdOf ByteArray.empty l1 (rd Aa 0)).size + 1 + Af.size)=False:=qs Es
   obtain⟨Et,H⟩:=qo H
   have Fi:=eq_true Et
   have Fj:=decide_eq_true Et
   have Dd:=eq_false (Nat.not_lt.2 Et)
   have Fk:(9223372036854775807 < (rdOf ByteArray.empty l1 (rd Aa 0)).size + 1 + Af.size + 1)=False:=qs Dd
   obtain⟨Fl,H⟩:=qo H
   have Fm:decide (1 < (Aa.length:Int))=true:=decide_eq_true Fl
   have Fn:decide (1 < Aa.length)=true:=decide_eq_true (by omega)
   clear Fl
   obtain⟨Fo,H⟩:=qo H
   have Fp:decide (0≤(rd Aa 1))=true:=decide_eq_true Fo
   clear Fo
   obtain⟨Fq,H⟩:=qo H
   have Fr:decide ((rd Aa 1) < (l1.length:Int))=true:=decide_eq_true Fq
   clear Fq
   obtain⟨Eu,H⟩:=qo H
   have Fs:=eq_true Eu
   have Ft:=decide_eq_true Eu
   have De:=eq_false (Nat.not_lt.2 Eu)
   have Fu:(9223372036854775807 < (rdOf ByteArray.empty l1 (rd Aa 0)).size + 1 + Af.size + 1 + (rdOf ByteArray.empty l1 (rd Aa 1)).size)=False:=qs De
   simp only [Option.some.injEq,Prod.mk.injEq]at H
   obtain⟨rfl,rfl⟩:=H
   go_enter Try.func48,Try.ntmps48
   go_wp2_with (first|((with_reducible refine y14 (N:=2) rfl ?_);refine qe 2 #[.int .i64 Ae,.string Af,.slice Ak Aa.length Al] 33 ?_;intro Aj hg Fv hbox hb;have Ad:=y0.mk (hbox);have Ao:=y0.mk (qg (w:=w) hg);have Ap:=y0.mk (qg (w:=w) hg);replace HB:=y0.mk (y3 qb hb);clear hb hbox hg;obtain⟨Bo,Bp,Bq,Br,Bs,Bt⟩:=qz3 Ad.out;have Aq:0≤(0:Int):=(by omega);have Ar:0 < (Aa.length:Int):=of_decide_eq_true qy0;obtain⟨Bj,Cd,Ab⟩:=Kd.at_int Am.out 0 Aq Ar;cases Cd;have Cm:(0 < Aa.length)=True:=eq_true (by omega);(try rw [show((0:Int)).toNat=0 from rfl]at Ab);(try rw [Addr.add_zero']at Ab);replace Ab:=(HB.out.cell (World.block_lt_of_cell? w _ Ab)).trans Ab;replace Aq:=eq_true Aq;replace Ar:=eq_true Ar;have As:0≤((rd Aa 0):Int):=of_decide_eq_true qy0;have At:(rd Aa 0) < (l1.length:Int):=of_decide_eq_true qy0;obtain⟨Bk,Ce,Ah⟩:=Kd.at_string Cl.out (rd Aa 0) As At;cases Ce;replace Ah:=(HB.out.cell (World.block_lt_of_cell? w _ Ah)).trans Ah;replace As:=eq_true As;replace At:=eq_true At;have Au:0≤(1:Int):=(by omega);have Av:1 < (Aa.length:Int):=of_decide_eq_true qy0;obtain⟨Bl,Cf,Ac⟩:=Kd.at_int Am.out 1 Au Av;obtain rfl:Bj=Bl:=(by injection Cf);(try simp only [show(1:Int).toNat=1 from rfl,Nat.reduceMul,Nat.reduceEqDiff,Go.Addr.add,↓reduceIte]at Ac);have Cn:(1 < Aa.length)=True:=eq_true (by omega);(try rw [show((1:Int)).toNat=1 from rfl]at Ac);replace Ac:=(HB.out.cell (World.block_lt_of_cell? w _ Ac)).trans Ac;replace Au:=eq_true Au;replace Av:=eq_true Av;have Aw:0≤((rd Aa 1):Int):=of_decide_eq_true qy0;have Ay:(rd Aa 1) < (l1.length:Int):=of_decide_eq_true qy0;obtain⟨Bm,Cg,Ai⟩:=Kd.at_string Cl.out (rd Aa 1) Aw Ay;obtain rfl:Bk=Bm:=(by injection Cg);replace Ai:=(HB.out.cell (World.block_lt_of_cell? w _ Ai)).trans Ai;replace Aw:=eq_true Aw;replace Ay:=eq_true Ay))
   repeat(go_quiet (first|((with_reducible refine y14 (N:=2) rfl ?_);refine qe 2 #[.int .i64 Ae,.string Af,.slice Ak Aa.length Al] 33 ?_;intro Aj hg Fv hbox hb;have Ad:=y0.mk (hbox);have Ao:=y0.mk (qg (w:=w) hg);have Ap:=y0.mk (qg (w:=w) hg);replace HB:=y0.mk (y3 qb hb);clear hb hbox hg;obtain⟨Bo,Bp,Bq,Br,Bs,Bt⟩:=qz3 Ad.out;have Aq:0≤(0:Int):=(by omega);have Ar:0 < (Aa.length:Int):=of_decide_eq_true qy0;obtain⟨Bj,Cd,Ab⟩:=Kd.at_int Am.out 0 Aq Ar;cases Cd;have Cm:(0 < Aa.length)=True:=eq_true (by omega);(try rw [show((0:Int)).toNat=0 from rfl]at Ab);(try rw [Addr.add_zero']at Ab);replace Ab:=(HB.out.cell (World.block_lt_of_cell? w _ Ab)).trans Ab;replace Aq:=eq_true Aq;replace Ar:=eq_true Ar;have As:0≤((rd Aa 0):Int):=of_decide_eq_true qy0;have At:(rd Aa 0) < (l1.length:Int):=of_decide_eq_true qy0;obtain⟨Bk,Ce,Ah⟩:=Kd.at_string Cl.out (rd Aa 0) As At;cases Ce;replace Ah:=(HB.out.cell (World.block_lt_of_cell? w _ Ah)).trans Ah;replace As:=eq_true As;replace At:=eq_true At;have Au:0≤(1:Int):=(by omega);have Av:1 < (Aa.length:Int):=of_decide_eq_true qy0;obtain⟨Bl,Cf,Ac⟩:=Kd.at_int Am.out 1 Au Av;obtain rfl:Bj=Bl:=(by injection Cf);(try simp only [show(1:Int).toNat=1 from rfl,Nat.reduceMul,Nat.reduceEqDiff,Go.Addr.add,↓reduceIte]at Ac);have Cn:(1 < Aa.length)=True:=eq_true (by omega);(try rw [show((1:Int)).toNat=1 from rfl]at Ac);replace Ac:=(HB.out.cell (World.block_lt_of_cell? w _ Ac)).trans Ac;replace Au:=eq_true Au;replace Av:=eq_true Av;have Aw:0≤((rd Aa 1):Int):=of_decide_eq_true qy0;have Ay:(rd Aa 1) < (l1.length:Int):=of_decide_eq_true qy0;obtain⟨Bm,Cg,Ai⟩:=Kd.at_string Cl.out (rd Aa 1) Aw Ay;obtain rfl:Bk=Bm:=(by injection Cg);replace Ai:=(HB.out.cell (World.block_lt_of_cell? w _ Ai)).trans Ai;replace Aw:=eq_true Aw;replace Ay:=eq_true Ay));try go_wp2_with (first|((with_reducible refine y14 (N:=2) rfl ?_);refine qe 2 #[.int .i64 Ae,.string Af,.slice Ak Aa.length Al] 33 ?_;intro Aj hg Fv hbox hb;have Ad:=y0.mk (hbox);have Ao:=y0.mk (qg (w:=w) hg);have Ap:=y0.mk (qg (w:=w) hg);replace HB:=y0.mk (y3 qb hb);clear hb hbox hg;obtain⟨Bo,Bp,Bq,Br,Bs,Bt⟩:=qz3 Ad.out;have Aq:0≤(0:Int):=(by omega);have Ar:0 < (Aa.length:Int):=of_decide_eq_true qy0;obtain⟨Bj,Cd,Ab⟩:=Kd.at_int Am.out 0 Aq Ar;cases Cd;have Cm:(0 < Aa.length)=True:=eq_true (by omega);(try rw [show((0:Int)).toNat=0 from rfl]at Ab);(try rw [Addr.add_zero']at Ab);replace Ab:=(HB.out.cell (World.block_lt_of_cell? w _ Ab)).trans Ab;replace Aq:=eq_true Aq;replace Ar:=eq_true Ar;have As:0≤((rd Aa 0):Int):=of_decide_eq_true qy0;have At:(rd Aa 0) < (l1.length:Int):=of_decide_eq_true qy0;obtain⟨Bk,Ce,Ah⟩:=Kd.at_string Cl.out (rd Aa 0) As At;cases Ce;replace Ah:=(HB.out.cell (World.block_lt_of_cell? w _ Ah)).trans Ah;replace As:=eq_true As;replace At:=eq_true At;have Au:0≤(1:Int):=(by omega);have Av:1 < (Aa.length:Int):=of_decide_eq_true qy0;obtain⟨Bl,Cf,Ac⟩:=Kd.at_int Am.out 1 Au Av;obtain rfl:Bj=Bl:=(by injection Cf);(try simp only [show(1:Int).toNat=1 from rfl,Nat.reduceMul,Nat.reduceEqDiff,Go.Addr.add,↓reduceIte]at Ac);have Cn:(1 < Aa.length)=True:=eq_true (by omega);(try rw [show((1:Int)).toNat=1 from rfl]at Ac);replace Ac:=(HB.out.cell (World.block_lt_of_cell? w _ Ac)).trans Ac;replace Au:=eq_true Au;replace Av:=eq_true Av;have Aw:0≤((rd Aa 1):Int):=of_decide_eq_true qy0;have Ay:(rd Aa 1) < (l1.length:Int):=of_decide_eq_true qy0;obtain⟨Bm,Cg,Ai⟩:=Kd.at_string Cl.out (rd Aa 1) Aw Ay;obtain rfl:Bk=Bm:=(by injection Cg);replace Ai:=(HB.out.cell (World.block_lt_of_cell? w _ Ai)).trans Ai;replace Aw:=eq_true Aw;replace Ay:=eq_true Ay)))
   go_ret2
   exact⟨qf,qb⟩
  ·rw [if_neg c4]at H
   have Eq:((Aa.length:Int) == 2)=false:=beq_eq_false_iff_ne.mpr c4
   have Er:((Aa.length:Int) != 2)=true:=bne_iff_ne.mpr c4
   simp only [Option.some.injEq,Prod.mk.injEq]at H
   obtain⟨rfl,rfl⟩:=H
   go_enter Try.func48,Try.ntmps48
   go_wp2_with (first|((with_reducible refine y14 (N:=2) rfl ?_);refine qe 2 #[.int .i64 Ae,.string Af,.slice Ak Aa.length Al] 33 ?_;intro Aj hg Fx hbox hb;have Ad:=y0.mk (hbox);have Ao:=y0.mk (qg (w:=w) hg);have Ap:=y0.mk (qg (w:=w) hg);replace HB:=y0.mk (y3 qb hb);clear hb hbox hg;obtain⟨Bu,Bv,Bw,Bx,Bz,Ca⟩:=qz3 Ad.out))
   repeat(go_quiet (first|((with_reducible refine y14 (N:=2) rfl ?_);refine qe 2 #[.int .i64 Ae,.string Af,.slice Ak Aa.length Al] 33 ?_;intro Aj hg Fx hbox hb;have Ad:=y0.mk (hbox);have Ao:=y0.mk (qg (w:=w) hg);have Ap:=y0.mk (qg (w:=w) hg);replace HB:=y0.mk (y3 qb hb);clear hb hbox hg;obtain⟨Bu,Bv,Bw,Bx,Bz,Ca⟩:=qz3 Ad.out));try go_wp2_with (first|((with_reducible refine y14 (N:=2) rfl ?_);refine qe 2 #[.int .i64 Ae,.string Af,.slice Ak Aa.length Al] 33 ?_;intro Aj hg Fx hbox hb;have Ad:=y0.mk (hbox);have Ao:=y0.mk (qg (w:=w) hg);have Ap:=y0.mk (qg (w:=w) hg);replace HB:=y0.mk (y3 qb hb);clear hb hbox hg;obtain⟨Bu,Bv,Bw,Bx,Bz,Ca⟩:=qz3 Ad.out)))
   go_ret2
   exact⟨qf,qb⟩
 ·rw [if_neg c3]at H
  have Db:(Ae == 3)=false:=beq_eq_false_iff_ne.mpr c3
  have Dc:(Ae != 3)=true:=bne_iff_ne.mpr c3
  obtain⟨Dq,H⟩:=qo H
  have Df:=eq_true Dq
  have Dg:=decide_eq_true Dq
  have Dh:=eq_false (Nat.not_lt.2 Dq)
  have Co:=y0.mk H
  clear H
  go_enter Try.func48,Try.ntmps48
  go_upto_if 40 with(first|((with_reducible refine y14 (N:=2) rfl ?_);refine qe 2 #[.int .i64 Ae,.string Af,.slice Ak Aa.length Al] 33 ?_;intro Aj hg Fy hbox hb;have Ad:=y0.mk (hbox);have Ao:=y0.mk (qg (w:=w) hg);have Ap:=y0.mk (qg (w:=w) hg);replace HB:=y0.mk (y3 qb hb);clear hb hbox hg;obtain⟨Az,Ba,Bb,Bc,Bd,Be⟩:=qz3 Ad.out))
  repeat(go_quiet (first|((with_reducible refine y14 (N:=2) rfl ?_);refine qe 2 #[.int .i64 Ae,.string Af,.slice Ak Aa.length Al] 33 ?_;intro Aj hg Fy hbox hb;have Ad:=y0.mk (hbox);have Ao:=y0.mk (qg (w:=w) hg);have Ap:=y0.mk (qg (w:=w) hg);replace HB:=y0.mk (y3 qb hb);clear hb hbox hg;obtain⟨Az,Ba,Bb,Bc,Bd,Be⟩:=qz3 Ad.out));go_upto_if 40 with(first|((with_reducible refine y14 (N:=2) rfl ?_);refine qe 2 #[.int .i64 Ae,.string Af,.slice Ak Aa.length Al] 33 ?_;intro Aj hg Fy hbox hb;have Ad:=y0.mk (hbox);have Ao:=y0.mk (qg (w:=w) hg);have Ap:=y0.mk (qg (w:=w) hg);replace HB:=y0.mk (y3 qb hb);clear hb hbox hg;obtain⟨Az,Ba,Bb,Bc,Bd,Be⟩:=qz3 Ad.out)))
  (try simp only [Act.put,qS_,qZ_,qC_])
  go_cut [6] (fun v6 wc=>∃(kq:Nat) (Cb:ByteArray),v6=.string Cb∧y0 (spec_l04Lit.j0 kq l1 Cb Ae Af Aa=some (r1,r2))∧y0 (kq≤k)∧y0 (wc.heap[Aj]?=some (.cells #[.int .i64 Ae,.string Af,(.slice Ak Aa.length Al)] 33 (0,0)))∧y0 (Below w.heap.size w wc))
  case first =>
   have H:=Co.out
   clear Co
   by_cases Cp:Ae=2
   ·rw [if_pos Cp]at H
    have Bn:(Ae == 2)=true:=beq_iff_eq.mpr Cp
    have Di:(Ae != 2)=false:=bne_eq_false_iff_eq.mpr Cp
    clear Cp
    (first|rw [Bn]|(simp only [i64_w,i32_w];rw [Bn])|skip)
    obtain⟨Ew,H⟩:=qo H
    have Fz:=eq_true Ew
    have Ga:=decide_eq_true Ew
    have Ch:=eq_false (Nat.not_lt.2 Ew)
    have Gb:(9223372036854775807 < 1 + Af.size + 1)=False:=qs Ch
    have Gc:(9223372036854775807 < 1 + (Af.size + 1))=False:=qs Ch
    have Gd:(9223372036854775807 < 1 + (Af.size + 1))=False:=qs Ch
    have H':=y0.mk H
    clear H
    go_wp2
    repeat(go_quiet (fail);try go_wp2)
    go_meet
    exact⟨_,((⟨#[33]⟩:ByteArray) ++ (Af ++ (⟨#[40]⟩:ByteArray))),qy2,H',⟨by first|omega|exact Nat.le_refl _⟩,⟨qk Ad.out⟩,⟨qb⟩⟩
   ·rw [if_neg Cp]at H
    have Bn:(Ae == 2)=false:=beq_eq_false_iff_ne.mpr Cp
    have Di:(Ae != 2)=true:=bne_iff_ne.mpr Cp
    (first|rw [Bn]|(simp only [i64_w,i32_w];rw [Bn])|skip)
    have H':=y0.mk H
    clear H
    go_wp2
    repeat(go_quiet (fail);try go_wp2)
    go_meet
    exact⟨_,(Af ++ (⟨#[40]⟩:ByteArray)),qy2,H',⟨by first|omega|exact Nat.le_refl _⟩,⟨qk Ad.out⟩,⟨qb⟩⟩
  case rest =>
   clear Co
   (try clear Db Dc Dq Df Dg Dh Az Ba Bb Bc Bd Be)
   obtain⟨kq,Cb,rfl,HA,Ci,Ad,HB⟩:=hcut
   cases kq with
   | zero=>exact absurd HA.out (by simp [spec_l04Lit.j0])
   | succ Dj =>
    have H:=HA.out
    clear HA
    simp only [spec_l04Lit.j0]at H
    have H':=y0.mk H
    clear H
    go_wp2
    repeat(go_quiet (fail);try go_wp2)
    go_loopg [6,7] Dj (fun kq v6 v7 w'=>∃(Cc:ByteArray) (Ag:Int),v6=.string Cc∧v7=.int .i64 Ag∧y0 (spec_l04Lit.l0 kq l1 Cc Ag Ae Af Aa=some (r1,r2))∧y0 (kq≤Dj)∧y0 (w'.heap[Aj]?=some (.cells #[.int .i64 Ae,.string Af,(.slice Ak Aa.length Al)] 33 (0,0)))∧y0 (Below w.heap.size w w'))
    case atStart=>exact⟨(Cb),(0),qy2,qy2,H',⟨Nat.le_refl _⟩,⟨qk Ad.out⟩,⟨qb⟩⟩
    case round =>
     clear H'
     obtain⟨Cc,Ag,rfl,rfl,HA,Dr,Ad,HB⟩:=hrel
     cases gk with
     | zero=>exact absurd HA.out (by simp [spec_l04Lit.l0])
     | succ k2 =>
      have H:=HA.out
      clear HA
      simp only [spec_l04Lit.l0]at H
      by_cases Cz:Ag < (Aa.length:Int)
      ·rw [if_pos Cz]at H
       have Dk:=decide_eq_true Cz
       clear Cz
       by_cases Da:Ag > 0
       ·rw [if_pos Da]at H
        have Dl:decide (0 < Ag)=true:=decide_eq_true Da
        clear Da
        obtain⟨Ex,H⟩:=qo H
        have Ge:=eq_true Ex
        have Gf:=decide_eq_true Ex
        have Gg:=eq_false (Nat.not_lt.2 Ex)
        obtain⟨Gh,H⟩:=qo H
        have Gi:decide (0≤Ag)=true:=decide_eq_true Gh
        clear Gh
        obtain⟨Gj,H⟩:=qo H
        have Gk:decide (0≤(rd Aa Ag))=true:=decide_eq_true Gj
        clear Gj
        obtain⟨Gl,H⟩:=qo H
        have Gm:decide ((rd Aa Ag) < (l1.length:Int))=true:=decide_eq_true Gl
        clear Gl
        obtain⟨Ey,H⟩:=qo H
        have Gn:=eq_true Ey
        have Gp:=decide_eq_true Ey
        have Dm:=eq_false (Nat.not_lt.2 Ey)
        have Gq:(9223372036854775807 < Cc.size + 2 + (rdOf ByteArray.empty l1 (rd Aa Ag)).size)=False:=qs Dm
        have H':=y0.mk H
        clear H
        obtain⟨Ds,Dt,Du,Dv,Dw,Dx⟩:=qz3 Ad.out
        have Cq:0≤(Ag:Int):=of_decide_eq_true qy0
        have Cr:Ag < (Aa.length:Int):=of_decide_eq_true qy0
        obtain⟨Gr,Ez,Bf⟩:=Kd.at_int Am.out Ag Cq Cr
        cases Ez
        replace Bf:=(HB.out.cell (World.block_lt_of_cell? w _ Bf)).trans Bf
        replace Cq:=eq_true Cq
        replace Cr:=eq_true Cr
        have Cs:0≤((rd Aa Ag):Int):=of_decide_eq_true qy0
        have Ct:(rd Aa Ag) < (l1.length:Int):=of_decide_eq_true qy0
        obtain⟨Gs,Fa,Bg⟩:=Kd.at_string Cl.out (rd Aa Ag) Cs Ct
        cases Fa
        replace Bg:=(HB.out.cell (World.block_lt_of_cell? w _ Bg)).trans Bg
        replace Cs:=eq_true Cs
        replace Ct:=eq_true Ct
        go_wp2
        repeat(go_quiet (fail);try go_wp2)
        go_roundg k2
        case measure=>have:=Ci.out;have:=Dr.out;omega
        exact⟨((Cc ++ (⟨#[44,32]⟩:ByteArray)) ++ (rdOf ByteArray.empty l1 (rd Aa Ag))),(wrap64 (Ag + 1)),qy2,qy2,H',⟨by have:=Ci.out;have:=Dr.out;omega⟩,⟨qk Ad.out⟩,⟨qb⟩⟩
       ·rw [if_neg Da]at H
        have Dl:decide (0 < Ag)=false:=decide_eq_false Da
        clear Da
        obtain⟨Gt,H⟩:=qo H
        have Gu:decide (0≤Ag)=true:=decide_eq_true Gt
        clear Gt
        obtain⟨Gv,H⟩:=qo H
        have Gw:decide (0≤(rd Aa Ag))=true:=decide_eq_true Gv
        clear Gv
        obtain⟨Gx,H⟩:=qo H
        have Gy:decide ((rd Aa Ag) < (l1.length:Int))=true:=decide_eq_true Gx
        clear Gx
        obtain⟨Fb,H⟩:=qo H
        have Gz:=eq_true Fb
        have Ha:=decide_eq_true Fb
        have Hb:=eq_false (Nat.not_lt.2 Fb)
        have H':=y0.mk H
        clear H
        obtain⟨Dy,Dz,Ea,Eb,Ec,Ed⟩:=qz3 Ad.out
        have Cu:0≤(Ag:Int):=of_decide_eq_true qy0
        have Cv:Ag < (Aa.length:Int):=of_decide_eq_true qy0
        obtain⟨Hc,Fc,Bh⟩:=Kd.at_int Am.out Ag Cu Cv
        cases Fc
        replace Bh:=(HB.out.cell (World.block_lt_of_cell? w _ Bh)).trans Bh
        replace Cu:=eq_true Cu
        replace Cv:=eq_true Cv
        have Cw:0≤((rd Aa Ag):Int):=of_decide_eq_true qy0
        have Cx:(rd Aa Ag) < (l1.length:Int):=of_decide_eq_true qy0
        obtain⟨Hd,Fd,Bi⟩:=Kd.at_string Cl.out (rd Aa Ag) Cw Cx
        cases Fd
        replace Bi:=(HB.out.cell (World.block_lt_of_cell? w _ Bi)).trans Bi
        replace Cw:=eq_true Cw
        replace Cx:=eq_true Cx
        go_wp2
        repeat(go_quiet (fail);try go_wp2)
        go_roundg k2
        case measure=>have:=Ci.out;have:=Dr.out;omega
        exact⟨(Cc ++ (rdOf ByteArray.empty l1 (rd Aa Ag))),(wrap64 (Ag + 1)),qy2,qy2,H',⟨by have:=Ci.out;have:=Dr.out;omega⟩,⟨qk Ad.out⟩,⟨qb⟩⟩
      ·rw [if_neg Cz]at H
       have Dk:=decide_eq_false Cz
       clear Cz
       obtain⟨Fe,H⟩:=qo H
       have He:=eq_true Fe
       have Hf:=decide_eq_true Fe
       have Hg:=eq_false (Nat.not_lt.2 Fe)
       by_cases Cy:Ae=1
       ·rw [if_pos Cy]at H
        have Do:(Ae == 1)=true:=beq_iff_eq.mpr Cy
        have Dp:(Ae != 1)=false:=bne_eq_false_iff_eq.mpr Cy
        clear Cy
        simp only [Option.some.injEq,Prod.mk.injEq]at H
        obtain⟨rfl,rfl⟩:=H
        obtain⟨Ee,Ef,Eg,Eh,Ei,Ej⟩:=qz3 Ad.out
        go_wp2
        repeat(go_quiet (fail);try go_wp2)
        go_ret2
        exact⟨qf,qb⟩
       ·rw [if_neg Cy]at H
        have Do:(Ae == 1)=false:=beq_eq_false_iff_ne.mpr Cy
        have Dp:(Ae != 1)=true:=bne_iff_ne.mpr Cy
        simp only [Option.some.injEq,Prod.mk.injEq]at H
        obtain⟨rfl,rfl⟩:=H
        obtain⟨Ek,El,Em,En,Eo,Ep⟩:=qz3 Ad.out
        go_wp2
        repeat(go_quiet (fail);try go_wp2)
        go_ret2
        exact⟨qf,qb⟩
end Go.Proofs.Ytkdabljlfbmpdaa.Pg
end
section
namespace Go.Proofs.Ytkdabljlfbmpdaa.Pg
open Go.RowKit Go.Proofs.YtkdabljlfbmpdaaW.PrintWords Go.Proofs.YtkdabljlfbmpdaaW.PrintLast Go.Proofs.YtkdabljlfbmpdaaW.PrintMore
attribute [local go_sem] max2_int min2_int max_two min_two max_three min_three max_four min_four   -- for this text's walks alone
set_option linter.unusedVariables false
set_option linter.unusedSimpArgs false
mutual
def z5_.j0:Nat→List ByteArray→ByteArray→Bool→List (S63)→Int→ByteArray→List Int→List (S33)→Option (ByteArray)
 | 0,_,_,_,_,_,_,_,_=>none
 | k + 1,x3,x5,x34,x224000,x224001,x224002,x224003,x224004=>if x34=true then(some (⟨#[]⟩:ByteArray))else(z5_.l0 k x3 x5 0 x224000 x224001 x224002 x224003 x224004)
def z5_.l0:Nat→List ByteArray→ByteArray→Int→List (S63)→Int→ByteArray→List Int→List (S33)→Option (ByteArray)
 | 0,_,_,_,_,_,_,_,_=>none
 | k + 1,x3,x5,x6,x224000,x224001,x224002,x224003,x224004=>if x6 < (x224004.length:Int)then(z5_.j2 k x3 x5 x6 (decide ((x5.size:Int)≤3000)) x224000 x224001 x224002 x224003 x224004)else(z5_.j2 k x3 x5 x6 false x224000 x224001 x224002 x224003 x224004)
def z5_.j2:Nat→List ByteArray→ByteArray→Int→Bool→List (S63)→Int→ByteArray→List Int→List (S33)→Option (ByteArray)
 | 0,_,_,_,_,_,_,_,_,_=>none
 | k + 1,x3,x5,x6,x44,x224000,x224001,x224002,x224003,x224004=>if x44=true then(if x6=0 then(if x5.size + 4≤9223372036854775807 then(if 0≤x6 then(if x6 < (x224004.length:Int)then((spec_l04Lit.f k ((y16 x224004 x6).f0) ((y16 x224004 x6).f1) ((y16 x224004 x6).f2) x3).bind fun bt231=>(if bt231.2=true then(if(x5 ++ (⟨#[32,58,45,32]⟩:ByteArray)).size + bt231.1.size≤9223372036854775807 then(z5_.l0 k x3 ((x5 ++ (⟨#[32,58,45,32]⟩:ByteArray)) ++ bt231.1) (wrap64 (x6 + 1)) x224000 x224001 x224002 x224003 x224004)else(none))else(some (⟨#[]⟩:ByteArray))))else(none))else(none))else(none))else(if x5.size + 2≤9223372036854775807 then(if 0≤x6 then(if x6 < (x224004.length:Int)then((spec_l04Lit.f k ((y16 x224004 x6).f0) ((y16 x224004 x6).f1) ((y16 x224004 x6).f2) x3).bind fun bt234=>(if bt234.2=true then(if(x5 ++ (⟨#[44,32]⟩:ByteArray)).size + bt234.1.size≤9223372036854775807 then(z5_.l0 k x3 ((x5 ++ (⟨#[44,32]⟩:ByteArray)) ++ bt234.1) (wrap64 (x6 + 1)) x224000 x224001 x224002 x224003 x224004)else(none))else(some (⟨#[]⟩:ByteArray))))else(none))else(none))else(none)))else(if x5.size + 1≤9223372036854775807 then(if((x5 ++ (⟨#[46]⟩:ByteArray)).size:Int) > 3000 then(some (⟨#[]⟩:ByteArray))else(some (x5 ++ (⟨#[46]⟩:ByteArray))))else(none))
end
def z5_.f (k:Nat) (l0_0:List (S63)) (a0_1:Int) (a0_2:ByteArray) (l0_3:List Int) (l0_4:List (S33)):Option (ByteArray):=if(l0_4.length:Int) > 3000 then(some (⟨#[]⟩:ByteArray))else((z6_.f k l0_0 a0_1 a0_2 l0_3 l0_4).bind fun bt224=>(if bt224.2=true then((spec_l04Lit.f k a0_1 a0_2 l0_3 bt224.1).bind fun bt228=>(if bt228.2=true then(z5_.j0 k bt224.1 bt228.1 (a0_1 != 1) l0_0 a0_1 a0_2 l0_3 l0_4)else(z5_.j0 k bt224.1 bt228.1 true l0_0 a0_1 a0_2 l0_3 l0_4)))else(some (⟨#[]⟩:ByteArray))))
set_option maxHeartbeats 8000000 in
set_option maxRecDepth 100000 in
theorem z5_.calls (k:Nat) (Az:Option Addr) (Ba:Nat) (Af:List (S63)) (Ad:Int) (Ag:ByteArray) (Aw:Option Addr) (Ay:Nat) (Ae:List Int) (Bb:Option Addr) (Bc:Nat) (Aa:List (S33)) (r:ByteArray) (w:World) (Da:Kd.C k63 w Az Af.length Af) (Db:Af.length≤Ba) (Dc:Kd.C (Kd.int .i64) w Aw Ae.length Ae) (Dd:Ae.length≤Ay) (De:Kd.C k33 w Bb Aa.length Aa) (Df:Aa.length≤Bc) (h:z5_.f k Af Ad Ag Ae Aa=some r) :
  Calls Try.prog 22 #[.agg #[.slice Az Af.length Ba,.int .i64 Ad,.string Ag,.slice Aw Ae.length Ay,.slice Bb Aa.length Bc]] w fun e w'=>e=.returned (.string r)∧Below w.heap.size w w':=by
 have Jo:=Try.underlying36
 have Jp:=Try.underlying33
 have Dg:=y0.mk Da
 have Dh:=y0.mk Db
 clear Da Db
 have Bz:=y0.mk Dc
 have Ca:=y0.mk Dd
 clear Dc Dd
 have Bd:=y0.mk De
 have Di:=y0.mk Df
 clear De Df
 have HB:=y0.mk (Below.refl w.heap.size w)
 have H:(if(Aa.length:Int) > 3000 then(some (⟨#[]⟩:ByteArray))else((z6_.f k Af Ad Ag Ae Aa).bind fun Bv=>(if Bv.2=true then((spec_l04Lit.f k Ad Ag Ae Bv.1).bind fun Cb=>(if Cb.2=true then(z5_.j0 k Bv.1 Cb.1 (Ad != 1) Af Ad Ag Ae Aa)else(z5_.j0 k Bv.1 Cb.1 true Af Ad Ag Ae Aa)))else(some (⟨#[]⟩:ByteArray)))))=some r:=h
 clear h
 by_cases c2:(Aa.length:Int) > 3000
 ·rw [if_pos c2]at H
  have Dv:decide (3000 < (Aa.length:Int))=true:=decide_eq_true c2
  have Dw:decide (3000 < Aa.length)=true:=decide_eq_true (by omega)
  clear c2
  obtain rfl:=Option.some.inj H
  go_enter Try.func22,Try.ntmps22
  go_wp2_with (first|((with_reducible refine y14 (N:=1) rfl ?_);(try(refine gate_guard (by rfl) ?_;dsimp only));refine qe 1 #[.slice Az Af.length Ba,.int .i64 Ad,.string Ag,.slice Aw Ae.length Ay,.slice Bb Aa.length Bc] 36 ?_;intro Bj hg w3 hbox hb;have Ab:=y0.mk (hbox);have Dj:=y0.mk (qg (w:=w) hg);have Dk:=y0.mk (qg (w:=w) hg);replace HB:=y0.mk (y3 qb hb);clear hb hbox hg;obtain⟨Hr,Hs,Ht,Hu,Hv,Hw,Hx,Hy,Hz,Ia⟩:=qz5 Ab.out))
  go_ret
  exact⟨qf,qb⟩
 ·rw [if_neg c2]at H
  have Dv:decide (3000 < (Aa.length:Int))=false:=decide_eq_false c2
  have Dw:decide (3000 < Aa.length)=false:=decide_eq_false (by omega)
  clear c2
  obtain⟨⟨Ah,Ib⟩,A5,H⟩:=qB H
  dsimp only at H
  by_cases c6:Ib=true
  ·subst c6
   replace H:=qT H
   obtain⟨⟨Cc,Dm⟩,A7,H⟩:=qB H
   replace H:(if Dm=true then(z5_.j0 k Ah Cc (Ad != 1) Af Ad Ag Ae Aa)else(z5_.j0 k Ah Cc true Af Ad Ag Ae Aa))=some r:=H
   have Ic:=y0.mk H
   clear H
   go_enter Try.func22,Try.ntmps22
   go_upto_region 7 with(first|((with_reducible refine y14 (N:=1) rfl ?_);(try(refine gate_guard (by rfl) ?_;dsimp only));refine qe 1 #[.slice Az Af.length Ba,.int .i64 Ad,.string Ag,.slice Aw Ae.length Ay,.slice Bb Aa.length Bc] 36 ?_;intro Bj hg w9 hbox hb;have Ab:=y0.mk (hbox);have Dj:=y0.mk (qg (w:=w) hg);have Dk:=y0.mk (qg (w:=w) hg);replace HB:=y0.mk (y3 qb hb);clear hb hbox hg;obtain⟨Cd,Ce,Cf,Cg,Ch,Ci,Cj,Ck,Cl,Cm⟩:=qz5 Ab.out)|((with_reducible refine y13 (f:=47) rfl ?_);refine y15 (some 15) rfl rfl Try.func47 (by kernel_rfl) rfl #[.agg #[.slice Az Af.length Ba,.int .i64 Ad,.string Ag,.slice Aw Ae.length Ay,.slice Bb Aa.length Bc]] rfl qy1 ?_;(with_reducible refine(z6_.calls k _ _ Af Ad Ag (fun k_=>k_ < w.heap.size) _ _ Ae (fun k_=>k_ < w.heap.size) _ _ Aa Ah true _ (qc (Kd.C_below Dg.out HB.out)) Dh.out (by exact Kd.V_mk Ca.out (Kd.F_below (Kd.C_F (Kd.heap_int .i64) Bz.out) qb)) (by exact Kd.V_mk Di.out (Kd.F_below (Kd.C_F k33_heap Bd.out) qb)) A5.out).mono ?_);rintro e Js ⟨Id,rfl,Dx,hb⟩;refine⟨_,rfl, ?_⟩;have Av:=y0.mk (Kd.R_lower (Kd.R_mono (ok':=fun k_=>True) Dx (fun _ hk_=>trivial)) (y2 qb));replace Ab:=y0.mk (qK Ab.out hb);replace HB:=y0.mk (y3 qb hb);(try clear hb);(try clear Dx);obtain⟨Cn,Co,Cp,Cq,Cr,Cs,Ct,Cu,Cv,Cw⟩:=qz5 Ab.out;obtain⟨Bk,Bl,Ie⟩:=Kd.R_slice Av.out;subst Ie)|((with_reducible refine y13 (f:=48) rfl ?_);refine y15 (some 24) rfl rfl Try.func48 (by kernel_rfl) rfl #[.agg #[.int .i64 Ad,.string Ag,.slice Aw Ae.length Ay],.slice Bk Ah.length Bl] rfl qy1 ?_;(with_reducible refine(spec_l04Lit.calls k Ad Ag _ _ Ae _ _ Ah Cc Dm _ (qc (Kd.C_below Bz.out HB.out)) Ca.out (qc ((Kd.R_reads' Av.out).2.2)) (by exact(Kd.R_reads' Av.out).2.1) A7.out).mono ?_);rintro e Jt ⟨rfl,hb⟩;refine⟨_,rfl, ?_⟩;replace Av:=y0.mk (Kd.R_below (qR Av.out) hb);replace Ab:=y0.mk (qK Ab.out hb);replace HB:=y0.mk (y3 qb hb);(try clear hb)))
   (try simp only [Act.put,qS_,qZ_,qC_])
   go_cut [34] (fun Jq wc=>∃(kq:Nat) (Bw:Bool),Jq=.bool Bw∧y0 (z5_.j0 kq Ah Cc Bw Af Ad Ag Ae Aa=some r)∧y0 (kq≤k)∧y0 (Kd.R Kd.string 9 wc w.heap.size (fun _=>True) (.slice Bk Ah.length Bl) Ah)∧y0 (wc.heap[Bj]?=some (.cells #[(.slice Az Af.length Ba),.int .i64 Ad,.string Ag,(.slice Aw Ae.length Ay),(.slice Bb Aa.length Bc)] 36 (0,0)))∧y0 (Below w.heap.size w wc))
   case first =>
    have H:=Ic.out
    clear Ic
    by_cases Ei:Dm=true
    ·subst Ei
     replace H:=qT H
     have H':=y0.mk H
     clear H
     obtain⟨Ej,Ek,El,Em,En,Eo,Ep,Eq,Er,Es⟩:=qz5 Ab.out
     go_wp2
     go_meet
     exact⟨_,((Ad != 1)),qy2,H',⟨by first|omega|exact Nat.le_refl _⟩,⟨qR Av.out⟩,⟨qk Ab.out⟩,⟨qb⟩⟩
    ·replace Ei:=Bool.eq_false_iff.mpr Ei
     subst Ei
     replace H:=qF H
     have H':=y0.mk H
     clear H
     go_wp2
     go_meet
     exact⟨_,(true),qy2,H',⟨by first|omega|exact Nat.le_refl _⟩,⟨qR Av.out⟩,⟨qk Ab.out⟩,⟨qb⟩⟩
   case rest =>
    clear Ic
    (try clear Dv Dw c6 Cd Ce Cf Cg Ch Cn Co Cp Cq Cr Ci Cj Ck Cl Cm Cs Ct Cu Cv Cw)
    obtain⟨kq,Bw,rfl,HA,Ds,Ai,Ab,HB⟩:=hcut
    cases kq with
    | zero=>exact absurd HA.out (by simp [z5_.j0])
    | succ Im =>
     have H:=HA.out
     clear HA
     simp only [z5_.j0]at H
     by_cases Dy:Bw=true
     ·subst Dy
      replace H:=qT H
      obtain rfl:=Option.some.inj H
      go_wp2
      go_ret
      exact⟨qf,qb⟩
     ·replace Dy:=Bool.eq_false_iff.mpr Dy
      subst Dy
      replace H:=qF H
      have H':=y0.mk H
      clear H
      go_wp2
      go_loopg [5,6] Im (fun kq v5 v6 w'=>∃(Aj:ByteArray) (Ac:Int),v5=.string Aj∧v6=.int .i64 Ac∧y0 (z5_.l0 kq Ah Aj Ac Af Ad Ag Ae Aa=some r)∧y0 (kq≤Im)∧y0 (Kd.R Kd.string 9 w' w.heap.size (fun _=>True) (.slice Bk Ah.length Bl) Ah)∧y0 (w'.heap[Bj]?=some (.cells #[(.slice Az Af.length Ba),.int .i64 Ad,.string Ag,(.slice Aw Ae.length Ay),(.slice Bb Aa.length Bc)] 36 (0,0)))∧y0 (Below w.heap.size w w'))
      case atStart=>exact⟨(Cc),(0),qy2,qy2,H',⟨Nat.le_refl _⟩,⟨qR Ai.out⟩,⟨qk Ab.out⟩,⟨qb⟩⟩
      case round =>
       clear H'
       (try clear Dy)
       obtain⟨Aj,Ac,rfl,rfl,HA,Dt,Ai,Ab,HB⟩:=hrel
       cases gk with
       | zero=>exact absurd HA.out (by simp [z5_.l0])
       | succ k2 =>
        have H:=HA.out
        clear HA
        simp only [z5_.l0]at H
        have Do:=y0.mk H
        clear H
        go_upto_region 10 with(fail)
        go_cut [44] (fun Jr wc=>∃(kq:Nat) (Be:Bool),Jr=.bool Be∧y0 (z5_.j2 kq Ah Aj Ac Be Af Ad Ag Ae Aa=some r)∧y0 (kq≤k2)∧y0 (Kd.R Kd.string 9 wc w.heap.size (fun _=>True) (.slice Bk Ah.length Bl) Ah)∧y0 (wc.heap[Bj]?=some (.cells #[(.slice Az Af.length Ba),.int .i64 Ad,.string Ag,(.slice Aw Ae.length Ay),(.slice Bb Aa.length Bc)] 36 (0,0)))∧y0 (Below w.heap.size w wc))
        case first =>
         have H:=Do.out
         clear Do
         by_cases Du:Ac < (Aa.length:Int)
         ·rw [if_pos Du]at H
          have Bm:=decide_eq_true Du
          clear Du
          (first|rw [Bm]|(simp only [i64_w,i32_w];rw [Bm])|skip)
          have H':=y0.mk H
          clear H
          obtain⟨Et,Eu,Ew,Ex,Ey,Ez,Fa,Fb,Fc,Fd⟩:=qz5 Ab.out
          go_wp2
          go_meet
          exact⟨_,(decide ((Aj.size:Int)≤3000)),qy2,H',⟨by have:=Ds.out;have:=Dt.out;first|omega|exact Nat.le_refl _⟩,⟨qR Ai.out⟩,⟨qk Ab.out⟩,⟨qb⟩⟩
         ·rw [if_neg Du]at H
          have Bm:=decide_eq_false Du
          clear Du
          (first|rw [Bm]|(simp only [i64_w,i32_w];rw [Bm])|skip)
          have H':=y0.mk H
          clear H
          obtain⟨Fe,Ff,Fg,Fh,Fi,Fj,Fk,Fl,Fm,Fn⟩:=qz5 Ab.out
          go_wp2
          go_meet
          exact⟨_,(false),qy2,H',⟨by have:=Ds.out;have:=Dt.out;first|omega|exact Nat.le_refl _⟩,⟨qR Ai.out⟩,⟨qk Ab.out⟩,⟨qb⟩⟩
        case rest =>
         clear Do
         obtain⟨kq,Be,rfl,HA,Cx,Ai,Ab,HB⟩:=hcut
         cases kq with
         | zero=>exact absurd HA.out (by simp [z5_.j2])
         | succ Bx =>
          have H:=HA.out
          clear HA
          simp only [z5_.j2]at H
          by_cases Fo:Be=true
          ·subst Fo
           replace H:=qT H
           by_cases Dp:Ac=0
           ·rw [if_pos Dp]at H
            have Dz:(Ac == 0)=true:=beq_iff_eq.mpr Dp
            have Ea:(Ac != 0)=false:=bne_eq_false_iff_eq.mpr Dp
            clear Dp
            obtain⟨If,H⟩:=qo H
            have Io:=eq_true If
            have Ip:=decide_eq_true If
            have Iq:=eq_false (Nat.not_lt.2 If)
            obtain⟨Ir,H⟩:=qo H
            have Is:decide (0≤Ac)=true:=decide_eq_true Ir
            clear Ir
            obtain⟨Iu,H⟩:=qo H
            have Iv:decide (Ac < (Aa.length:Int))=true:=decide_eq_true Iu
            clear Iu
            obtain⟨⟨Cy,Ig⟩,Iw,H⟩:=qB H
            dsimp only at H
            by_cases Fp:Ig=true
            ·subst Fp
             replace H:=qT H
             obtain⟨Ih,H⟩:=qo H
             have Ix:=eq_true Ih
             have Iy:=decide_eq_true Ih
             have Eb:=eq_false (Nat.not_lt.2 Ih)
             have Iz:(9223372036854775807 < Aj.size + 4 + Cy.size)=False:=qs Eb
             have H':=y0.mk H
             clear H
             obtain⟨Fq,Fr,Fs,Ft,Fu,Fv,Fx,Fy,Fz,Ga⟩:=qz5 Ab.out
             have Bn:0≤(Ac:Int):=of_decide_eq_true qy0
             have Bo:Ac < (Aa.length:Int):=of_decide_eq_true qy0
             obtain⟨Ec,Bp,Bq,Dq,Ak,Al,Am,Ar,As⟩:=at_T33 Bd.out Ac Bn Bo
             cases Dq
             replace Ak:=(HB.out.cell (World.block_lt_of_cell? w _ Ak)).trans Ak
             replace Al:=(HB.out.cell (World.block_lt_of_cell? w _ Al)).trans Al
             replace Am:=(HB.out.cell (World.block_lt_of_cell? w _ Am)).trans Am
             have Bf:=y0.mk As
             have Bg:=y0.mk Ar
             clear As Ar
             replace Bn:=eq_true Bn
             replace Bo:=eq_true Bo
             go_wp2_with (first|((with_reducible refine y13 (f:=48) rfl ?_);refine y15 (some 60) rfl rfl Try.func48 (by kernel_rfl) rfl #[.agg #[.int .i64 ((y16 Aa Ac).f0),.string ((y16 Aa Ac).f1),.slice Bp ((y16 Aa Ac).f2).length Bq],.slice Bk Ah.length Bl] rfl qy1 ?_;(with_reducible refine(spec_l04Lit.calls Bx ((y16 Aa Ac).f0) ((y16 Aa Ac).f1) _ _ ((y16 Aa Ac).f2) _ _ Ah Cy true _ (qc (Kd.C_below Bf.out HB.out)) Bg.out (qc ((Kd.R_reads' Ai.out).2.2)) (by exact(Kd.R_reads' Ai.out).2.1) Iw.out).mono ?_);rintro e Ju ⟨rfl,hb⟩;refine⟨_,rfl, ?_⟩;replace Ai:=y0.mk (Kd.R_below (qR Ai.out) hb);replace Ab:=y0.mk (qK Ab.out hb);replace HB:=y0.mk (y3 qb hb);(try clear hb)))
             go_roundg Bx
             case measure=>have:=Ds.out;have:=Dt.out;have:=Cx.out;omega
             exact⟨((Aj ++ (⟨#[32,58,45,32]⟩:ByteArray)) ++ Cy),(wrap64 (Ac + 1)),qy2,qy2,H',⟨by have:=Ds.out;have:=Dt.out;have:=Cx.out;omega⟩,⟨qR Ai.out⟩,⟨qk Ab.out⟩,⟨qb⟩⟩
            ·replace Fp:=Bool.eq_false_iff.mpr Fp
             subst Fp
             replace H:=qF H
             obtain rfl:=Option.some.inj H
             obtain⟨Gb,Gc,Gd,Ge,Gf,Gg,Gh,Gi,Gj,Gk⟩:=qz5 Ab.out
             have Bn:0≤(Ac:Int):=of_decide_eq_true qy0
             have Bo:Ac < (Aa.length:Int):=of_decide_eq_true qy0
             obtain⟨Ec,Bp,Bq,Dq,Ak,Al,Am,Ar,As⟩:=at_T33 Bd.out Ac Bn Bo
             cases Dq
             replace Ak:=(HB.out.cell (World.block_lt_of_cell? w _ Ak)).trans Ak
             replace Al:=(HB.out.cell (World.block_lt_of_cell? w _ Al)).trans Al
             replace Am:=(HB.out.cell (World.block_lt_of_cell? w _ Am)).trans Am
             have Bf:=y0.mk As
             have Bg:=y0.mk Ar
             clear As Ar
             replace Bn:=eq_true Bn
             replace Bo:=eq_true Bo
             go_wp2_with (first|((with_reducible refine y13 (f:=48) rfl ?_);refine y15 (some 60) rfl rfl Try.func48 (by kernel_rfl) rfl #[.agg #[.int .i64 ((y16 Aa Ac).f0),.string ((y16 Aa Ac).f1),.slice Bp ((y16 Aa Ac).f2).length Bq],.slice Bk Ah.length Bl] rfl qy1 ?_;(with_reducible refine(spec_l04Lit.calls Bx ((y16 Aa Ac).f0) ((y16 Aa Ac).f1) _ _ ((y16 Aa Ac).f2) _ _ Ah Cy false _ (qc (Kd.C_below Bf.out HB.out)) Bg.out (qc ((Kd.R_reads' Ai.out).2.2)) (by exact(Kd.R_reads' Ai.out).2.1) Iw.out).mono ?_);rintro e Jv ⟨rfl,hb⟩;refine⟨_,rfl, ?_⟩;replace Ai:=y0.mk (Kd.R_below (qR Ai.out) hb);replace Ab:=y0.mk (qK Ab.out hb);replace HB:=y0.mk (y3 qb hb);(try clear hb)))
             go_ret
             exact⟨qf,qb⟩
           ·rw [if_neg Dp]at H
            have Dz:(Ac == 0)=false:=beq_eq_false_iff_ne.mpr Dp
            have Ea:(Ac != 0)=true:=bne_iff_ne.mpr Dp
            obtain⟨Ii,H⟩:=qo H
            have Ja:=eq_true Ii
            have Jb:=decide_eq_true Ii
            have Jc:=eq_false (Nat.not_lt.2 Ii)
            obtain⟨Jd,H⟩:=qo H
            have Je:decide (0≤Ac)=true:=decide_eq_true Jd
            clear Jd
            obtain⟨Jf,H⟩:=qo H
            have Jg:=decide_eq_true Jf
            clear Jf
            obtain⟨⟨Cz,Ij⟩,Jh,H⟩:=qB H
            dsimp only at H
            by_cases Gl:Ij=true
            ·subst Gl
             replace H:=qT H
             obtain⟨Ik,H⟩:=qo H
             have Ji:=eq_true Ik
             have Jj:=decide_eq_true Ik
             have Ed:=eq_false (Nat.not_lt.2 Ik)
             have Jk:(9223372036854775807 < Aj.size + 2 + Cz.size)=False:=qs Ed
             have H':=y0.mk H
             clear H
             obtain⟨Gm,Gn,Gp,Gq,Gr,Gs,Gt,Gu,Gv,Gw⟩:=qz5 Ab.out
             have Br:0≤(Ac:Int):=of_decide_eq_true qy0
             have Bs:Ac < (Aa.length:Int):=of_decide_eq_true qy0
             obtain⟨Ee,Bt,Bu,Dr,Ao,Ap,Aq,At,Au⟩:=at_T33 Bd.out Ac Br Bs
             cases Dr
             replace Ao:=(HB.out.cell (World.block_lt_of_cell? w _ Ao)).trans Ao
             replace Ap:=(HB.out.cell (World.block_lt_of_cell? w _ Ap)).trans Ap
             replace Aq:=(HB.out.cell (World.block_lt_of_cell? w _ Aq)).trans Aq
             have Bh:=y0.mk Au
             have Bi:=y0.mk At
             clear Au At
             replace Br:=eq_true Br
             replace Bs:=eq_true Bs
             go_wp2_with (first|((with_reducible refine y13 (f:=48) rfl ?_);refine y15 (some 60) rfl rfl Try.func48 (by kernel_rfl) rfl #[.agg #[.int .i64 ((y16 Aa Ac).f0),.string ((y16 Aa Ac).f1),.slice Bt ((y16 Aa Ac).f2).length Bu],.slice Bk Ah.length Bl] rfl qy1 ?_;(with_reducible refine(spec_l04Lit.calls Bx ((y16 Aa Ac).f0) ((y16 Aa Ac).f1) _ _ ((y16 Aa Ac).f2) _ _ Ah Cz true _ (qc (Kd.C_below Bh.out HB.out)) Bi.out (qc ((Kd.R_reads' Ai.out).2.2)) (by exact(Kd.R_reads' Ai.out).2.1) Jh.out).mono ?_);rintro e Jw ⟨rfl,hb⟩;refine⟨_,rfl, ?_⟩;replace Ai:=y0.mk (Kd.R_below (qR Ai.out) hb);replace Ab:=y0.mk (qK Ab.out hb);replace HB:=y0.mk (y3 qb hb);(try clear hb)))
             go_roundg Bx
             case measure=>have:=Ds.out;have:=Dt.out;have:=Cx.out;omega
             exact⟨((Aj ++ (⟨#[44,32]⟩:ByteArray)) ++ Cz),(wrap64 (Ac + 1)),qy2,qy2,H',⟨by have:=Ds.out;have:=Dt.out;have:=Cx.out;omega⟩,⟨qR Ai.out⟩,⟨qk Ab.out⟩,⟨qb⟩⟩
            ·replace Gl:=Bool.eq_false_iff.mpr Gl
             subst Gl
             replace H:=qF H
             obtain rfl:=Option.some.inj H
             obtain⟨Gx,Gy,Gz,Ha,Hb,Hc,Hd,He,Hf,Hg⟩:=qz5 Ab.out
             have Br:0≤(Ac:Int):=of_decide_eq_true qy0
             have Bs:Ac < (Aa.length:Int):=of_decide_eq_true qy0
             obtain⟨Ee,Bt,Bu,Dr,Ao,Ap,Aq,At,Au⟩:=at_T33 Bd.out Ac Br Bs
             cases Dr
             replace Ao:=(HB.out.cell (World.block_lt_of_cell? w _ Ao)).trans Ao
             replace Ap:=(HB.out.cell (World.block_lt_of_cell? w _ Ap)).trans Ap
             replace Aq:=(HB.out.cell (World.block_lt_of_cell? w _ Aq)).trans Aq
             have Bh:=y0.mk Au
             have Bi:=y0.mk At
             clear Au At
             replace Br:=eq_true Br
             replace Bs:=eq_true Bs
             go_wp2_with (first|((with_reducible refine y13 (f:=48) rfl ?_);refine y15 (some 60) rfl rfl Try.func48 (by kernel_rfl) rfl #[.agg #[.int .i64 ((y16 Aa Ac).f0),.string ((y16 Aa Ac).f1),.slice Bt ((y16 Aa Ac).f2).length Bu],.slice Bk Ah.length Bl] rfl qy1 ?_;(with_reducible refine(spec_l04Lit.calls Bx ((y16 Aa Ac).f0) ((y16 Aa Ac).f1) _ _ ((y16 Aa Ac).f2) _ _ Ah Cz false _ (qc (Kd.C_below Bh.out HB.out)) Bi.out (qc ((Kd.R_reads' Ai.out).2.2)) (by exact(Kd.R_reads' Ai.out).2.1) Jh.out).mono ?_);rintro e Jx ⟨rfl,hb⟩;refine⟨_,rfl, ?_⟩;replace Ai:=y0.mk (Kd.R_below (qR Ai.out) hb);replace Ab:=y0.mk (qK Ab.out hb);replace HB:=y0.mk (y3 qb hb);(try clear hb)))
             go_ret
             exact⟨qf,qb⟩
          ·replace Fo:=Bool.eq_false_iff.mpr Fo
           subst Fo
           replace H:=qF H
           obtain⟨Il,H⟩:=qo H
           have Jl:=eq_true Il
           have Jm:=decide_eq_true Il
           have Jn:=eq_false (Nat.not_lt.2 Il)
           by_cases Dl:((Aj ++ (⟨#[46]⟩:ByteArray)).size:Int) > 3000
           ·rw [if_pos Dl]at H
            have Ef:(3000 < (Aj.size:Int) + 1)=True:=eq_true (by have h_:=Dl;rw [show(Aj ++ (⟨#[46]⟩:ByteArray)).size=Aj.size + 1 from by(simp only [ByteArray.size_append];rfl)]at h_;omega)
            have Eg:decide (3000 < ((Aj ++ (⟨#[46]⟩:ByteArray)).size:Int))=true:=decide_eq_true Dl
            have Eh:decide (3000 < (Aj ++ (⟨#[46]⟩:ByteArray)).size)=true:=decide_eq_true (by omega)
            clear Dl
            obtain rfl:=Option.some.inj H
            go_wp2
            go_ret
            exact⟨qf,qb⟩
           ·rw [if_neg Dl]at H
            have Ef:(3000 < (Aj.size:Int) + 1)=False:=eq_false (by have h_:=Dl;rw [show(Aj ++ (⟨#[46]⟩:ByteArray)).size=Aj.size + 1 from by(simp only [ByteArray.size_append];rfl)]at h_;omega)
            have Eg:decide (3000 < ((Aj ++ (⟨#[46]⟩:ByteArray)).size:Int))=false:=decide_eq_false Dl
            have Eh:decide (3000 < (Aj ++ (⟨#[46]⟩:ByteArray)).size)=false:=decide_eq_false (by omega)
            clear Dl
            obtain rfl:=Option.some.inj H
            go_wp2
            go_ret
            exact⟨qf,qb⟩
  ·replace c6:=Bool.eq_false_iff.mpr c6
   subst c6
   replace H:=qF H
   obtain rfl:=Option.some.inj H
   go_enter Try.func22,Try.ntmps22
   go_wp2_with (first|((with_reducible refine y14 (N:=1) rfl ?_);(try(refine gate_guard (by rfl) ?_;dsimp only));refine qe 1 #[.slice Az Af.length Ba,.int .i64 Ad,.string Ag,.slice Aw Ae.length Ay,.slice Bb Aa.length Bc] 36 ?_;intro Bj hg Jy hbox hb;have Ab:=y0.mk (hbox);have Dj:=y0.mk (qg (w:=w) hg);have Dk:=y0.mk (qg (w:=w) hg);replace HB:=y0.mk (y3 qb hb);clear hb hbox hg;obtain⟨Hh,Hi,Hj,Hk,Hl,Hm,Hn,Ho,Hp,Hq⟩:=qz5 Ab.out)|((with_reducible refine y13 (f:=47) rfl ?_);refine y15 (some 15) rfl rfl Try.func47 (by kernel_rfl) rfl #[.agg #[.slice Az Af.length Ba,.int .i64 Ad,.string Ag,.slice Aw Ae.length Ay,.slice Bb Aa.length Bc]] rfl qy1 ?_;(with_reducible refine(z6_.calls k _ _ Af Ad Ag (fun k_=>k_ < w.heap.size) _ _ Ae (fun k_=>k_ < w.heap.size) _ _ Aa Ah false _ (qc (Kd.C_below Dg.out HB.out)) Dh.out (by exact Kd.V_mk Ca.out (Kd.F_below (Kd.C_F (Kd.heap_int .i64) Bz.out) qb)) (by exact Kd.V_mk Di.out (Kd.F_below (Kd.C_F k33_heap Bd.out) qb)) A5.out).mono ?_);rintro e Jz ⟨Id,rfl,Dx,hb⟩;refine⟨_,rfl, ?_⟩;have Av:=y0.mk (Kd.R_lower (Kd.R_mono (ok':=fun k_=>True) Dx (fun _ hk_=>trivial)) (y2 qb));replace Ab:=y0.mk (qK Ab.out hb);replace HB:=y0.mk (y3 qb hb);(try clear hb);(try clear Dx)))
   go_ret
   exact⟨qf,qb⟩
end Go.Proofs.Ytkdabljlfbmpdaa.Pg
end
section
namespace Go.Proofs.Ytkdabljlfbmpdaa.Pg
open Go.RowKit Go.Proofs.YtkdabljlfbmpdaaW.PrintWords Go.Proofs.YtkdabljlfbmpdaaW.PrintLast Go.Proofs.YtkdabljlfbmpdaaW.PrintMore
attribute [local go_sem] max2_int min2_int max_two min_two max_three min_three max_four min_four   -- for this text's walks alone
set_option linter.unusedVariables false
set_option linter.unusedSimpArgs false
def spec_l05In.l0:Nat→List ByteArray→ByteArray→Int→Option (Bool)
 | 0,_,_,_=>none
 | k + 1,x0,x1,x5=>if x5 < (x0.length:Int)then(if 0≤x5 then(if(rdOf ByteArray.empty x0 x5).toList=x1.toList then(some true)else(spec_l05In.l0 k x0 x1 (wrap64 (x5 + 1))))else(none))else(some false)
def spec_l05In.f (k:Nat) (l0:List ByteArray) (a1:ByteArray):Option (Bool):=spec_l05In.l0 k l0 a1 0
set_option maxHeartbeats 8000000 in
set_option maxRecDepth 100000 in
theorem spec_l05In.calls (k:Nat) (A0:Option Addr) (c0:Nat) (l0:List ByteArray) (a1:ByteArray) (r:Bool) (w:World) (Ai:Kd.C Kd.string w A0 l0.length l0) (Aj:l0.length≤c0) (h:spec_l05In.f k l0 a1=some r) :
  Calls Try.prog 39 #[.slice A0 l0.length c0,.string a1] w fun e w'=>e=.returned (.bool r)∧Drawn0 w w':=by
 have Am:=y0.mk Ai
 have Ap:=y0.mk Aj
 clear Ai Aj
 have H:(spec_l05In.l0 k l0 a1 0)=some r:=h
 clear h
 have H':=y0.mk H
 clear H
 go_enter Try.func39,Try.ntmps39
 go_wp2
 go_loopg [5] k (fun kq v5 w'=>∃(Aa:Int),v5=.int .i64 Aa∧y0 (spec_l05In.l0 kq l0 a1 Aa=some r)∧y0 (kq≤k)∧Drawn0 w w')
 case atStart=>exact⟨(0),qy2,H',⟨Nat.le_refl _⟩,by repeat(first|exact Drawn0.refl _|apply Drawn0.step)⟩
 case round =>
  clear H'
  obtain⟨Aa,rfl,HA,Ak,⟨m1,rfl⟩⟩:=hrel
  cases gk with
  | zero=>exact absurd HA.out (by simp [spec_l05In.l0])
  | succ k1 =>
   have H:=HA.out
   clear HA
   simp only [spec_l05In.l0]at H
   by_cases c3:Aa < (l0.length:Int)
   ·rw [if_pos c3]at H
    have Ae:=decide_eq_true c3
    clear c3
    obtain⟨c4,H⟩:=qo H
    have Ao:decide (0≤Aa)=true:=decide_eq_true c4
    clear c4
    have Ab:0≤(Aa:Int):=of_decide_eq_true qy0
    have Ac:Aa < (l0.length:Int):=of_decide_eq_true qy0
    obtain⟨Al,Af,Ad⟩:=Kd.at_string Am.out Aa Ab Ac
    cases Af
    replace Ab:=eq_true Ab
    replace Ac:=eq_true Ac
    by_cases c5:(rdOf ByteArray.empty l0 Aa).toList=a1.toList
    ·rw [if_pos c5]at H
     have Ag:((rdOf ByteArray.empty l0 Aa).toList == a1.toList)=true:=beq_iff_eq.mpr c5
     have Ah:((rdOf ByteArray.empty l0 Aa).toList != a1.toList)=false:=bne_eq_false_iff_eq.mpr c5
     clear c5
     obtain rfl:=Option.some.inj H
     go_wp2
     go_ret
     exact qf2
    ·rw [if_neg c5]at H
     have Ag:((rdOf ByteArray.empty l0 Aa).toList == a1.toList)=false:=beq_eq_false_iff_ne.mpr c5
     have Ah:((rdOf ByteArray.empty l0 Aa).toList != a1.toList)=true:=bne_iff_ne.mpr c5
     have H':=y0.mk H
     clear H
     go_wp2
     go_roundg k1
     case measure=>have:=Ak.out;omega
     exact⟨(wrap64 (Aa + 1)),qy2,H',⟨by have:=Ak.out;omega⟩,by repeat(first|exact Drawn0.refl _|apply Drawn0.step)⟩
   ·rw [if_neg c3]at H
    have Ae:=decide_eq_false c3
    clear c3
    obtain rfl:=Option.some.inj H
    go_wp2
    go_ret
    exact qf2
mutual
def spec_l06Within.l0:Nat→List Bool→Int→List (S63)→Int→ByteArray→List Int→List (S33)→Option (List Bool)
 | 0,_,_,_,_,_,_,_=>none
 | k + 1,x5,x6,x238000,x238001,x238002,x238003,x238004=>if x6≥0 then(spec_l06Within.l1 k x5 x6 0 x238000 x238001 x238002 x238003 x238004)else(some x5)
def spec_l06Within.l1:Nat→List Bool→Int→Int→List (S63)→Int→ByteArray→List Int→List (S33)→Option (List Bool)
 | 0,_,_,_,_,_,_,_,_=>none
 | k + 1,x5,x6,x7,x238000,x238001,x238002,x238003,x238004=>if 0≤x6 then(if x6 < (x238000.length:Int)then(if x7 < (((y17 x238000 x6).f2).length:Int)then(if x6 < (x5.length:Int)then(if rdOf false x5 x6=true then(if 0≤x7 then(if 0≤(rd ((y17 x238000 x6).f2) x7)then(if(rd ((y17 x238000 x6).f2) x7) < (x5.length:Int)then(spec_l06Within.l1 k (x5.set ((rd ((y17 x238000 x6).f2) x7):Int).toNat true) x6 (wrap64 (x7 + 1)) x238000 x238001 x238002 x238003 x238004)else(none))else(none))else(none))else(spec_l06Within.l0 k x5 (wrap64 (x6 - 1)) x238000 x238001 x238002 x238003 x238004))else(none))else(spec_l06Within.l0 k x5 (wrap64 (x6 - 1)) x238000 x238001 x238002 x238003 x238004))else(none))else(none)
end
def spec_l06Within.f (k:Nat) (l0_0:List (S63)) (a0_1:Int) (a0_2:ByteArray) (l0_3:List Int) (l0_4:List (S33)) (a1:Int):Option (List Bool):=if 0≤(l0_0.length:Int)then(if((l0_0.length:Int):Int).toNat≤281474976710656 then((some (List.replicate ((l0_0.length:Int):Int).toNat false:List Bool)).bind fun y238=>(if 0≤a1 then(if a1 < (y238.length:Int)then(spec_l06Within.l0 k (y238.set (a1:Int).toNat true) a1 l0_0 a0_1 a0_2 l0_3 l0_4)else(none))else(none)))else(none))else(none)
set_option maxHeartbeats 8000000 in
set_option maxRecDepth 100000 in
theorem spec_l06Within.calls (k:Nat) (Bm:Option Addr) (Bn:Nat) (Ab:List (S63)) (As:Int) (At:ByteArray) (Bo:Option Addr) (Bp:Nat) (Am:List Int) (Bq:Option Addr) (Br:Nat) (Ao:List (S33)) (a1:Int) (r:List Bool) (w:World) (Cd:Kd.C k63 w Bm Ab.length Ab) (Ce:Ab.length≤Bn) (Cf:Kd.C (Kd.int .i64) w Bo Am.length Am) (Cg:Am.length≤Bp) (Ch:Kd.C k33 w Bq Ao.length Ao) (Ci:Ao.length≤Br) (h:spec_l06Within.f k Ab As At Am Ao a1=some r) :
  Calls Try.prog 49 #[.agg #[.slice Bm Ab.length Bn,.int .i64 As,.string At,.slice Bo Am.length Bp,.slice Bq Ao.length Br],.int .i64 a1] w fun e w'=>∃ v0_:Value,e=.returned (v0_)∧Kd.R Kd.bool 4 w' w.heap.size (fun _=>True) v0_ r∧Below w.heap.size w w':=by
 have Gr:=Try.underlying36
 have Bh:=y0.mk Cd
 have Fp:=y0.mk Ce
 clear Cd Ce
 have Fq:=y0.mk Cf
 have Fr:=y0.mk Cg
 clear Cf Cg
 have Fs:=y0.mk Ch
 have Ft:=y0.mk Ci
 clear Ch Ci
 have HB:=y0.mk (Below.refl w.heap.size w)
 have H:(if 0≤(Ab.length:Int)then(if((Ab.length:Int):Int).toNat≤281474976710656 then((some (List.replicate ((Ab.length:Int):Int).toNat false:List Bool)).bind fun Ay=>(if 0≤a1 then(if a1 < (Ay.length:Int)then(spec_l06Within.l0 k (Ay.set (a1:Int).toNat true) a1 Ab As At Am Ao)else(none))else(none)))else(none))else(none))=some r:=h
 clear h
 obtain⟨c3,H⟩:=qo H
 have Ez:=eq_true c3
 have Fa:=decide_eq_true c3
 clear c3
 obtain⟨c4,H⟩:=qo H
 have Fb:=eq_true c4
 have Fc:=decide_eq_true c4
 clear c4
 obtain⟨Ay,Bc⟩:∃ y_:List Bool,y_=(List.replicate ((Ab.length:Int):Int).toNat false):=⟨_,rfl⟩
 replace H:(if 0≤a1 then(if a1 < (Ay.length:Int)then(spec_l06Within.l0 k (Ay.set (a1:Int).toNat true) a1 Ab As At Am Ao)else(none))else(none))=some r:=by first|(rw [Bc];with_reducible exact H)|(have H2_:=(Option.bind_some _ _).symm.trans H;rw [Bc];with_reducible exact H2_)|(have H2_:=(Option.bind_some _ _).symm.trans H;with_reducible exact H2_)|with_reducible exact H|(rw [Bc];exact H)|exact H
 have Cj:=y0.mk Bc
 clear Bc
 obtain⟨c5,H⟩:=qo H
 have Fd:decide (0≤a1)=true:=decide_eq_true c5
 clear c5
 obtain⟨c6,H⟩:=qo H
 have Fe:decide (a1 < (Ay.length:Int))=true:=decide_eq_true c6
 clear c6
 obtain⟨Cn,Bd⟩:∃ y_:List Bool,y_=(Ay.set (a1:Int).toNat true):=⟨_,rfl⟩
 replace H:(spec_l06Within.l0 k Cn a1 Ab As At Am Ao)=some r:=by first|(rw [Bd];with_reducible exact H)|(have H2_:=(Option.bind_some _ _).symm.trans H;rw [Bd];with_reducible exact H2_)|(have H2_:=(Option.bind_some _ _).symm.trans H;with_reducible exact H2_)|with_reducible exact H|(rw [Bd];exact H)|exact H
 have Dk:=y0.mk Bd
 clear Bd
 have H':=y0.mk H
 clear H
 go_enter Try.func49,Try.ntmps49
 go_wp2_with (first|((with_reducible refine y14 (N:=2) rfl ?_);refine qe 2 #[.slice Bm Ab.length Bn,.int .i64 As,.string At,.slice Bo Am.length Bp,.slice Bq Ao.length Br] 36 ?_;intro Ck hg w8 hbox hb;have Ac:=y0.mk (hbox);have Fu:=y0.mk (qg (w:=w) hg);have Fv:=y0.mk (qg (w:=w) hg);replace HB:=y0.mk (y3 qb hb);clear hb hbox hg;obtain⟨Co,Cp,Cq,Cr,Cs,Ct,Cu,Cv,Cw,Cx⟩:=qz5 Ac.out)|((with_reducible refine y14 (N:=11) rfl ?_);refine Kd.R_make Kd.bool _ 4 rfl (N:=11) rfl 75 _ _ rfl (Ab.length:Int) rfl rfl Try.underlying75 (.bool false) 1 info4 rfl (by decide) (by omega) false (ok:=fun _=>True) (okp:=fun _=>True) rfl (fun _ hk=>hk) trivial (of_decide_eq_true qy0) (Nat.le_trans (Nat.mul_le_mul_right _ (of_decide_eq_true qy0:(Ab.length:Int).toNat≤281474976710656)) (by omega)) (Below.refl _ _) (Nat.le_refl _) ?_;intro Gs Fx Bs hb hg_ hnew_;clear hg_ hnew_;(first|rw [← Cj.out]at Bs|(simp only [Int.reduceToNat]at Bs;rw [← Cj.out]at Bs));have Ar:=y0.mk (Kd.R_lower Bs (y2 qb));replace Ac:=y0.mk (qK Ac.out hb);replace HB:=y0.mk (y3 qb hb);clear hb Bs;have p7:0≤(a1:Int):=of_decide_eq_true qy0;have q7:(a1:Int) < ((Ay.length:Int):Int):=of_decide_eq_true qy0;obtain⟨Cb,Dr,Fy,Fz,Gt,Gu,Ga⟩:=Kd.R_form Ar.out (by omega);(first|cases Fy|(injection Fy with ea_ en_ ec_;(first|subst ea_|(injection ea_ with ea_;subst ea_));subst ec_;clear en_));have Gb:=y0.mk Fz;have Gv:=y0.mk Ga;clear Fz Gt Ga;obtain⟨Dl,Gc⟩:=Kd.R_celln false Ar.out (a1:Int) p7 q7;replace p7:=eq_true p7;replace q7:=eq_true q7;obtain⟨hy12_,hz12_⟩:=Kd.R_celln false Ar.out (a1:Int) (of_decide_eq_true qy0) (of_decide_eq_true qy0);have Cy:=Kd.R_putg Ar.out (a1:Int) true)|((with_reducible refine gate_store (t:=4) (p:=14) rfl ?_);refine store_event (t:=4) (p:=14) (v:=?vo_w13) (w1:=(Fx.setCell ⟨Cb,(a1:Int).toNat,none⟩ (.bool true))) ?hg ?ho ?hn ?hr ?_;(case ho=>rfl);(case hg=>rfl);(case hn=>rfl);(case hr=>(first|(obtain⟨_,_,eo_⟩:=Kd.R_slice Ar.out;subst eo_)|(obtain⟨_,_,eo_⟩:=Kd.S_slice Ar.out;subst eo_)|(obtain⟨_,_,eo_⟩:=Kd.N_slice Ar.out;subst eo_)|skip);first|(go_simp;done)|(go_simp;rfl));intro Ff hw;have hg:Fx.grownBy Ff (some Cb):=(by rw [hw];exact Cy.2);have hp_:Kd.R Kd.bool 4 Ff w.heap.size (fun _=>True) (.slice (some ⟨Cb,0,none⟩) Ay.length Dr) Cn:=(by rw [hw,Dk.out];exact Cy.1);clear Cy;replace Ac:=y0.mk (blk_grown (qk Ac.out) hg (Kd.R_ne Ar.out Ac.out (by decide)));replace Ar:=y0.mk (hp_);replace HB:=y0.mk ((by rw [hw];exact below_set (HB.out) Gb.out:Below w.heap.size w Ff));clear hg hw hp_))
 go_loopg [6] k (fun kq v6 w'=>∃(Bt:List Bool) (Aa:Int),v6=.int .i64 Aa∧y0 (spec_l06Within.l0 kq Bt Aa Ab As At Am Ao=some r)∧y0 (kq≤k)∧y0 (Kd.R Kd.bool 4 w' w.heap.size (fun _=>True) (.slice (some ⟨Cb,0,none⟩) Ay.length Dr) Bt)∧y0 (w'.heap[Ck]?=some (.cells #[(.slice Bm Ab.length Bn),.int .i64 As,.string At,(.slice Bo Am.length Bp),(.slice Bq Ao.length Br)] 36 (0,0)))∧y0 (Below w.heap.size w w'))
 case atStart=>exact⟨(Cn),(a1),qy2,H',⟨Nat.le_refl _⟩,⟨qR Ar.out⟩,⟨qk Ac.out⟩,⟨qb⟩⟩
 case round =>
  clear H'
  (try clear Ez Fa Fb Fc Fd Fe p7 q7 Co Cp Cq Cr Cs Ct Cu Cv Cw Cx Dl p7 q7)
  obtain⟨Bt,Aa,rfl,HA,Dg,Ap,Ac,HB⟩:=hrel
  have Ak:=(Kd.R_reads' Ap.out).1
  rw [Ak]at Ap
  (try simp only [Ak])
  (try simp only [Ak]at Ac)
  cases gk with
  | zero=>exact absurd HA.out (by simp [spec_l06Within.l0])
  | succ k1 =>
   have H:=HA.out
   clear HA
   simp only [spec_l06Within.l0]at H
   by_cases Dh:Aa≥0
   ·rw [if_pos Dh]at H
    have Cl:decide (0≤Aa)=true:=decide_eq_true Dh
    clear Dh
    have H':=y0.mk H
    clear H
    go_wp2
    go_loopg [7] k1 (fun kq v7 w'=>∃(Aq:List Bool) (Ah:Int),v7=.int .i64 Ah∧y0 (spec_l06Within.l1 kq Aq Aa Ah Ab As At Am Ao=some r)∧y0 (kq≤k1)∧y0 (Kd.R Kd.bool 4 w' w.heap.size (fun _=>True) (.slice (some ⟨Cb,0,none⟩) Bt.length Dr) Aq)∧y0 (w'.heap[Ck]?=some (.cells #[(.slice Bm Ab.length Bn),.int .i64 As,.string At,(.slice Bo Am.length Bp),(.slice Bq Ao.length Br)] 36 (0,0)))∧y0 (Below w.heap.size w w'))
    case atStart=>exact⟨(Bt),(0),qy2,H',⟨Nat.le_refl _⟩,⟨by(try simp only [Ak]);(with_reducible repeat(first|apply Kd.R_alloc|apply Kd.R_drewN|apply Kd.R_drew));exact Ap.out⟩,⟨by(try simp only [Ak]);(with_reducible repeat(first|refine y8 ?_ _|refine y7 ?_|refine y4 ?_ _));exact Ac.out⟩,⟨qb⟩⟩
    case round =>
     clear H'
     (try clear Cl)
     obtain⟨Aq,Ah,rfl,HA,Di,Ap,Ac,HB⟩:=hrel
     have Al:=(Kd.R_reads' Ap.out).1
     rw [Al]at Ap
     (try simp only [Al])
     (try simp only [Al]at Ac)
     cases gk with
     | zero=>exact absurd HA.out (by simp [spec_l06Within.l1])
     | succ k2 =>
      have H:=HA.out
      clear HA
      simp only [spec_l06Within.l1]at H
      obtain⟨Gd,H⟩:=qo H
      have Ge:decide (0≤Aa)=true:=decide_eq_true Gd
      clear Gd
      obtain⟨Gf,H⟩:=qo H
      have Gg:decide (Aa < (Ab.length:Int))=true:=decide_eq_true Gf
      clear Gf
      by_cases Dj:Ah < (((y17 Ab Aa).f2).length:Int)
      ·rw [if_pos Dj]at H
       have Dm:=decide_eq_true Dj
       clear Dj
       obtain⟨Gh,H⟩:=qo H
       have Gi:decide (Aa < (Aq.length:Int))=true:=decide_eq_true Gh
       clear Gh
       obtain⟨Do,Bu⟩:∃ b_:Bool,b_=(rdOf false Aq Aa):=⟨_,rfl⟩
       replace H:(if Do=true then(if 0≤Ah then(if 0≤(rd ((y17 Ab Aa).f2) Ah)then(if(rd ((y17 Ab Aa).f2) Ah) < (Aq.length:Int)then(spec_l06Within.l1 k2 (Aq.set ((rd ((y17 Ab Aa).f2) Ah):Int).toNat true) Aa (wrap64 (Ah + 1)) Ab As At Am Ao)else(none))else(none))else(none))else(spec_l06Within.l0 k2 Aq (wrap64 (Aa - 1)) Ab As At Am Ao))=some r:=by rw [← Bu]at H;exact H
       have Cm:=y0.mk Bu
       clear Bu
       by_cases Ds:Do=true
       ·subst Ds
        replace H:=qT H
        obtain⟨Gj,H⟩:=qo H
        have Gk:decide (0≤Ah)=true:=decide_eq_true Gj
        clear Gj
        obtain⟨Gl,H⟩:=qo H
        have Gm:decide (0≤(rd ((y17 Ab Aa).f2) Ah))=true:=decide_eq_true Gl
        clear Gl
        obtain⟨Gn,H⟩:=qo H
        have Gp:decide ((rd ((y17 Ab Aa).f2) Ah) < (Aq.length:Int))=true:=decide_eq_true Gn
        clear Gn
        obtain⟨Cz,Be⟩:∃ y_:List Bool,y_=(Aq.set ((rd ((y17 Ab Aa).f2) Ah):Int).toNat true):=⟨_,rfl⟩
        replace H:(spec_l06Within.l1 k2 Cz Aa (wrap64 (Ah + 1)) Ab As At Am Ao)=some r:=by first|(rw [Be];with_reducible exact H)|(have H2_:=(Option.bind_some _ _).symm.trans H;rw [Be];with_reducible exact H2_)|(have H2_:=(Option.bind_some _ _).symm.trans H;with_reducible exact H2_)|with_reducible exact H|(rw [Be];exact H)|exact H
        have Dp:=y0.mk Be
        clear Be
        have H':=y0.mk H
        clear H
        obtain⟨Dt,Du,Dv,Dw,Dx,Dy,Dz,Ea,Eb,Ec⟩:=qz5 Ac.out
        have Av:0≤(Aa:Int):=of_decide_eq_true qy0
        have Aw:Aa < (Ab.length:Int):=of_decide_eq_true qy0
        obtain⟨Bv,Bw,Bx,Bz,Ae,Af,Ad,Ai,Aj⟩:=at_T63 Bh.out Aa Av Aw
        cases Bz
        replace Ae:=(HB.out.cell (World.block_lt_of_cell? w _ Ae)).trans Ae
        replace Af:=(HB.out.cell (World.block_lt_of_cell? w _ Af)).trans Af
        replace Ad:=(HB.out.cell (World.block_lt_of_cell? w _ Ad)).trans Ad
        have Bi:=y0.mk Aj
        have Bj:=y0.mk Ai
        clear Aj Ai
        replace Av:=eq_true Av
        replace Aw:=eq_true Aw
        have Bf:0≤(Aa:Int):=of_decide_eq_true qy0
        have Bg:Aa < (Aq.length:Int):=of_decide_eq_true qy0
        obtain⟨Ca,Da,Ag⟩:=Kd.at_bool (Kd.R_reads' Ap.out).2.2 Aa Bf Bg
        (try rw [← Cm.out]at Ag)
        obtain rfl:(⟨Cb,0,none⟩:Addr)=Ca:=(by injection Da)
        (first|simp only [add_plain]at Ag|simp only [add_at]at Ag|simp only [Addr.add,Nat.zero_add]at Ag|skip)
        replace Bf:=eq_true Bf
        replace Bg:=eq_true Bg
        have Db:0≤(Aa:Int):=of_decide_eq_true qy0
        have Dc:Aa < (Ab.length:Int):=of_decide_eq_true qy0
        obtain⟨Dq,Fg,Fh,Fi,Az,Ba,Au,Bk,Bl⟩:=at_T63 Bh.out Aa Db Dc
        obtain rfl:Bv=Dq:=(by injection Fi)
        replace Az:=(HB.out.cell (World.block_lt_of_cell? w _ Az)).trans Az
        replace Ba:=(HB.out.cell (World.block_lt_of_cell? w _ Ba)).trans Ba
        replace Au:=(HB.out.cell (World.block_lt_of_cell? w _ Au)).trans Au
        have Cc:=y0.mk Bl
        have Ed:=y0.mk Bk
        clear Bl Bk
        replace Db:=eq_true Db
        replace Dc:=eq_true Dc
        have ea_:=Option.some.inj (Ad.symm.trans Au)
        injection ea_ with ea_ en_ ec_
        subst ea_
        subst ec_
        clear en_
        have Dd:0≤(Ah:Int):=of_decide_eq_true qy0
        have De:Ah < (((y17 Ab Aa).f2).length:Int):=of_decide_eq_true qy0
        obtain⟨Gq,Fj,Bb⟩:=Kd.at_int Cc.out Ah Dd De
        cases Fj
        replace Bb:=(HB.out.cell (World.block_lt_of_cell? w _ Bb)).trans Bb
        replace Dd:=eq_true Dd
        replace De:=eq_true De
        have Fk:0≤((rd ((y17 Ab Aa).f2) Ah):Int):=of_decide_eq_true qy0
        have Fl:((rd ((y17 Ab Aa).f2) Ah):Int) < ((Aq.length:Int):Int):=of_decide_eq_true qy0
        obtain⟨Fm,Fn⟩:=Kd.R_celln false Ap.out ((rd ((y17 Ab Aa).f2) Ah):Int) Fk Fl
        replace Fk:=eq_true Fk
        replace Fl:=eq_true Fl
        have Df:=Kd.R_putg Ap.out ((rd ((y17 Ab Aa).f2) Ah):Int) true
        go_wp2_with (first|((with_reducible refine gate_store (t:=4) (p:=47) rfl ?_);refine store_event (t:=4) (p:=47) (v:=?vo_w27) (w1:=(wr.setCell ⟨Cb,((rd ((y17 Ab Aa).f2) Ah):Int).toNat,none⟩ (.bool true))) ?hg ?ho ?hn ?hr ?_;(case ho=>rfl);(case hg=>rfl);(case hn=>rfl);(case hr=>first|(go_simp;done)|(go_simp;rfl));intro Fo hw;have hg:wr.grownBy Fo (some Cb):=(by rw [hw];exact Df.2);have hp_:Kd.R Kd.bool 4 Fo w.heap.size (fun _=>True) (.slice (some ⟨Cb,0,none⟩) Aq.length Dr) Cz:=(by rw [hw,Dp.out];exact Df.1);clear Df;replace Ac:=y0.mk (blk_grown (qk Ac.out) hg (Kd.R_ne Ap.out Ac.out (by decide)));replace Ap:=y0.mk (hp_);replace HB:=y0.mk ((by rw [hw];exact below_set (HB.out) Gb.out:Below w.heap.size w Fo));clear hg hw hp_))
        (try simp only [← Al])
        go_roundg k2
        case measure=>have:=Dg.out;have:=Di.out;omega
        exact⟨(Cz),(wrap64 (Ah + 1)),qy2,H',⟨by have:=Dg.out;have:=Di.out;omega⟩,⟨by(try simp only [Ak]);(try simp only [Al]);(with_reducible repeat(first|apply Kd.R_alloc|apply Kd.R_drewN|apply Kd.R_drew));exact Ap.out⟩,⟨by(try simp only [Ak]);(try simp only [Al]);(with_reducible repeat(first|refine y8 ?_ _|refine y7 ?_|refine y4 ?_ _));exact Ac.out⟩,⟨qb⟩⟩
       ·replace Ds:=Bool.eq_false_iff.mpr Ds
        subst Ds
        replace H:=qF H
        have H':=y0.mk H
        clear H
        obtain⟨Ee,Ef,Eg,Eh,Ei,Ej,Ek,El,Em,En⟩:=qz5 Ac.out
        have Av:0≤(Aa:Int):=of_decide_eq_true qy0
        have Aw:Aa < (Ab.length:Int):=of_decide_eq_true qy0
        obtain⟨Bv,Bw,Bx,Bz,Ae,Af,Ad,Ai,Aj⟩:=at_T63 Bh.out Aa Av Aw
        cases Bz
        replace Ae:=(HB.out.cell (World.block_lt_of_cell? w _ Ae)).trans Ae
        replace Af:=(HB.out.cell (World.block_lt_of_cell? w _ Af)).trans Af
        replace Ad:=(HB.out.cell (World.block_lt_of_cell? w _ Ad)).trans Ad
        have Bi:=y0.mk Aj
        have Bj:=y0.mk Ai
        clear Aj Ai
        replace Av:=eq_true Av
        replace Aw:=eq_true Aw
        have Bf:0≤(Aa:Int):=of_decide_eq_true qy0
        have Bg:Aa < (Aq.length:Int):=of_decide_eq_true qy0
        obtain⟨Ca,Da,Ag⟩:=Kd.at_bool (Kd.R_reads' Ap.out).2.2 Aa Bf Bg
        (try rw [← Cm.out]at Ag)
        obtain rfl:(⟨Cb,0,none⟩:Addr)=Ca:=(by injection Da)
        (first|simp only [add_plain]at Ag|simp only [add_at]at Ag|simp only [Addr.add,Nat.zero_add]at Ag|skip)
        replace Bf:=eq_true Bf
        replace Bg:=eq_true Bg
        go_wp2
        (try simp only [← Ak,← Al])
        go_roundg k2
        case measure=>have:=Dg.out;have:=Di.out;omega
        exact⟨(Aq),(wrap64 (Aa - 1)),qy2,H',⟨by have:=Dg.out;have:=Di.out;omega⟩,⟨by(try simp only [Ak]);(try simp only [Al]);(with_reducible repeat(first|apply Kd.R_alloc|apply Kd.R_drewN|apply Kd.R_drew));exact Ap.out⟩,⟨by(try simp only [Ak]);(try simp only [Al]);(with_reducible repeat(first|refine y8 ?_ _|refine y7 ?_|refine y4 ?_ _));exact Ac.out⟩,⟨qb⟩⟩
      ·rw [if_neg Dj]at H
       have Dm:=decide_eq_false Dj
       clear Dj
       have H':=y0.mk H
       clear H
       obtain⟨Eo,Ep,Eq,Er,Es,Et,Eu,Ew,Ex,Ey⟩:=qz5 Ac.out
       have Av:0≤(Aa:Int):=of_decide_eq_true qy0
       have Aw:Aa < (Ab.length:Int):=of_decide_eq_true qy0
       obtain⟨Bv,Bw,Bx,Bz,Ae,Af,Ad,Ai,Aj⟩:=at_T63 Bh.out Aa Av Aw
       cases Bz
       replace Ae:=(HB.out.cell (World.block_lt_of_cell? w _ Ae)).trans Ae
       replace Af:=(HB.out.cell (World.block_lt_of_cell? w _ Af)).trans Af
       replace Ad:=(HB.out.cell (World.block_lt_of_cell? w _ Ad)).trans Ad
       have Bi:=y0.mk Aj
       have Bj:=y0.mk Ai
       clear Aj Ai
       replace Av:=eq_true Av
       replace Aw:=eq_true Aw
       go_wp2
       (try simp only [← Ak,← Al])
       go_roundg k2
       case measure=>have:=Dg.out;have:=Di.out;omega
       exact⟨(Aq),(wrap64 (Aa - 1)),qy2,H',⟨by have:=Dg.out;have:=Di.out;omega⟩,⟨by(try simp only [Ak]);(try simp only [Al]);(with_reducible repeat(first|apply Kd.R_alloc|apply Kd.R_drewN|apply Kd.R_drew));exact Ap.out⟩,⟨by(try simp only [Ak]);(try simp only [Al]);(with_reducible repeat(first|refine y8 ?_ _|refine y7 ?_|refine y4 ?_ _));exact Ac.out⟩,⟨qb⟩⟩
   ·rw [if_neg Dh]at H
    have Cl:decide (0≤Aa)=false:=decide_eq_false Dh
    clear Dh
    obtain rfl:=Option.some.inj H
    go_wp2
    go_ret
    exact⟨_,by first|rfl|(simp [y10,y11] <;> rfl)|(simp [*,y10,y11] <;> rfl),by(with_reducible repeat(first|apply Kd.R_alloc|apply Kd.R_drewN|apply Kd.R_drew));exact Ap.out,qb⟩
end Go.Proofs.Ytkdabljlfbmpdaa.Pg
end
section
namespace Go.Proofs.Ytkdabljlfbmpdaa.Pg
open Go.RowKit Go.Proofs.YtkdabljlfbmpdaaW.PrintWords Go.Proofs.YtkdabljlfbmpdaaW.PrintLast Go.Proofs.YtkdabljlfbmpdaaW.PrintMore
attribute [local go_sem] max2_int min2_int max_two min_two max_three min_three max_four min_four   -- for this text's walks alone
set_option linter.unusedVariables false
set_option linter.unusedSimpArgs false
def spec_l06Vars.l0:Nat→Int→List ByteArray→List Bool→Int→List (S63)→Int→ByteArray→List Int→List (S33)→Option (List ByteArray)
 | 0,_,_,_,_,_,_,_,_,_=>none
 | k + 1,x1,x5,x6,x7,x248000,x248001,x248002,x248003,x248004=>if x7≤x1 then(if 0≤x7 then(if x7 < (x6.length:Int)then(if rdOf false x6 x7=true then(if x7 < (x248000.length:Int)then(if((y17 x248000 x7).f0)=1 then((spec_l05In.f k x5 ((y17 x248000 x7).f1)).bind fun t257=>(if t257=true then(spec_l06Vars.l0 k x1 x5 x6 (wrap64 (x7 + 1)) x248000 x248001 x248002 x248003 x248004)else(if x5.length < 8796093022208 then(spec_l06Vars.l0 k x1 (x5 ++ [(y17 x248000 x7).f1]) x6 (wrap64 (x7 + 1)) x248000 x248001 x248002 x248003 x248004)else(none))))else(spec_l06Vars.l0 k x1 x5 x6 (wrap64 (x7 + 1)) x248000 x248001 x248002 x248003 x248004))else(none))else(spec_l06Vars.l0 k x1 x5 x6 (wrap64 (x7 + 1)) x248000 x248001 x248002 x248003 x248004))else(none))else(none))else(some x5)
def spec_l06Vars.f (k:Nat) (l0_0:List (S63)) (a0_1:Int) (a0_2:ByteArray) (l0_3:List Int) (l0_4:List (S33)) (a1:Int):Option (List ByteArray):=(spec_l06Within.f k l0_0 a0_1 a0_2 l0_3 l0_4 a1).bind fun t251=>(spec_l06Vars.l0 k a1 (([]:List ByteArray)) t251 0 l0_0 a0_1 a0_2 l0_3 l0_4)
set_option maxHeartbeats 8000000 in
set_option maxRecDepth 100000 in
theorem spec_l06Vars.calls (k:Nat) (Br:Option Addr) (Bs:Nat) (Ab:List (S63)) (Ar:Int) (As:ByteArray) (Bt:Option Addr) (Bu:Nat) (Aj:List Int) (Bv:Option Addr) (Bw:Nat) (Ak:List (S33)) (a1:Int) (r:List ByteArray) (w:World) (Ch:Kd.C k63 w Br Ab.length Ab) (Ci:Ab.length≤Bs) (Cj:Kd.C (Kd.int .i64) w Bt Aj.length Aj) (Ck:Aj.length≤Bu) (Cl:Kd.C k33 w Bv Ak.length Ak) (Cm:Ak.length≤Bw) (h:spec_l06Vars.f k Ab Ar As Aj Ak a1=some r) :
  Calls Try.prog 24 #[.agg #[.slice Br Ab.length Bs,.int .i64 Ar,.string As,.slice Bt Aj.length Bu,.slice Bv Ak.length Bw],.int .i64 a1] w fun e w'=>∃ v0_:Value,e=.returned (v0_)∧Kd.R Kd.string 9 w' w.heap.size (fun _=>True) v0_ r∧Below w.heap.size w w':=by
 have Gg:=Try.underlying36
 have Bb:=y0.mk Ch
 have Dg:=y0.mk Ci
 clear Ch Ci
 have Dh:=y0.mk Cj
 have Di:=y0.mk Ck
 clear Cj Ck
 have Dj:=y0.mk Cl
 have Dk:=y0.mk Cm
 clear Cl Cm
 have HB:=y0.mk (Below.refl w.heap.size w)
 have H:((spec_l06Within.f k Ab Ar As Aj Ak a1).bind fun Ap=>(spec_l06Vars.l0 k a1 (([]:List ByteArray)) Ap 0 Ab Ar As Aj Ak))=some r:=h
 clear h
 obtain⟨Dl,Bg⟩:∃ y_:List ByteArray,y_=(([]:List ByteArray)):=⟨_,rfl⟩
 replace H:((spec_l06Within.f k Ab Ar As Aj Ak a1).bind fun Ap=>(spec_l06Vars.l0 k a1 Dl Ap 0 Ab Ar As Aj Ak))=some r:=by first|(rw [Bg];with_reducible exact H)|(have H2_:=(Option.bind_some _ _).symm.trans H;rw [Bg];with_reducible exact H2_)|(have H2_:=(Option.bind_some _ _).symm.trans H;with_reducible exact H2_)|with_reducible exact H|(rw [Bg];exact H)|exact H
 have Cn:=y0.mk Bg
 clear Bg
 obtain⟨Ap,A3,H⟩:=qB H
 have H':=y0.mk H
 clear H
 go_enter Try.func24,Try.ntmps24
 go_wp2_with (first|((with_reducible refine y14 (N:=2) rfl ?_);refine qe 2 #[.slice Br Ab.length Bs,.int .i64 Ar,.string As,.slice Bt Aj.length Bu,.slice Bv Ak.length Bw] 36 ?_;intro Dm hg w4 hbox hb;have Af:=y0.mk (hbox);have Fu:=y0.mk (qg (w:=w) hg);have Fv:=y0.mk (qg (w:=w) hg);replace HB:=y0.mk (y3 qb hb);clear hb hbox hg)|((with_reducible refine y14 (N:=8) rfl ?_);refine qL Kd.string 9 8 ([]:List ByteArray) ?_;intro Gh w5 Do hb hg_ hnew_;clear hg_ hnew_;(first|rw [← Cn.out]at Do|(simp only [Int.reduceToNat]at Do;rw [← Cn.out]at Do));have Bx:=y0.mk (Kd.R_lower Do (y2 qb));replace Af:=y0.mk (qK Af.out hb);replace HB:=y0.mk (y3 qb hb);clear hb Do;obtain⟨Cp,Cq,Cr,Cs,Ct,Cu,Cv,Cw,Cx,Cy⟩:=qz5 Af.out)|((with_reducible refine y13 (f:=49) rfl ?_);refine y15 (some 11) rfl rfl Try.func49 (by kernel_rfl) rfl #[.agg #[.slice Br Ab.length Bs,.int .i64 Ar,.string As,.slice Bt Aj.length Bu,.slice Bv Ak.length Bw],.int .i64 a1] rfl qy1 ?_;(with_reducible refine(spec_l06Within.calls k _ _ Ab Ar As _ _ Aj _ _ Ak a1 Ap _ (qc (Kd.C_below Bb.out HB.out)) Dg.out (qc (Kd.C_below Dh.out HB.out)) Di.out (qc (Kd.C_below Dj.out HB.out)) Dk.out A3.out).mono ?_);rintro e w8 ⟨Fh,rfl,Fx,hb⟩;refine⟨_,rfl, ?_⟩;replace Bx:=y0.mk (Kd.R_below (qR Bx.out) hb);have Dp:=y0.mk (Kd.R_lower Fx (y2 qb));replace Af:=y0.mk (qK Af.out hb);replace HB:=y0.mk (y3 qb hb);(try clear hb);(try clear Fx)))
 go_loopg [5,7] k (fun kq v5 v7 w'=>∃(Aq:List ByteArray) (Aa:Int),v7=.int .i64 Aa∧y0 (spec_l06Vars.l0 kq a1 Aq Ap Aa Ab Ar As Aj Ak=some r)∧y0 (kq≤k)∧y0 (Kd.R Kd.string 9 w' w.heap.size (fun _=>True) v5 Aq)∧y0 (Kd.R Kd.bool 4 w' w.heap.size (fun _=>True) Fh Ap)∧y0 (w'.heap[Dm]?=some (.cells #[(.slice Br Ab.length Bs),.int .i64 Ar,.string As,(.slice Bt Aj.length Bu),(.slice Bv Ak.length Bw)] 36 (0,0)))∧y0 (Below w.heap.size w w'))
 case atStart=>exact⟨(Dl),(0),qy2,H',⟨Nat.le_refl _⟩,⟨qR Bx.out⟩,⟨qR Dp.out⟩,⟨qk Af.out⟩,⟨qb⟩⟩
 case round =>
  clear H'
  (try clear Cp Cq Cr Cs Ct Cu Cv Cw Cx Cy)
  obtain⟨Aq,Aa,rfl,HA,Co,Av,Aw,Af,HB⟩:=hrel
  cases gk with
  | zero=>exact absurd HA.out (by simp [spec_l06Vars.l0])
  | succ k1 =>
   have H:=HA.out
   clear HA
   simp only [spec_l06Vars.l0]at H
   by_cases c9:Aa≤a1
   ·rw [if_pos c9]at H
    have Fi:=decide_eq_true c9
    clear c9
    obtain⟨Fy,H⟩:=qo H
    have Fz:=decide_eq_true Fy
    clear Fy
    obtain⟨Ga,H⟩:=qo H
    have Gb:decide (Aa < (Ap.length:Int))=true:=decide_eq_true Ga
    clear Ga
    obtain⟨Dq,Bz⟩:∃ b_:Bool,b_=(rdOf false Ap Aa):=⟨_,rfl⟩
    replace H:(if Dq=true then(if Aa < (Ab.length:Int)then(if((y17 Ab Aa).f0)=1 then((spec_l05In.f k1 Aq ((y17 Ab Aa).f1)).bind fun Cz=>(if Cz=true then(spec_l06Vars.l0 k1 a1 Aq Ap (wrap64 (Aa + 1)) Ab Ar As Aj Ak)else(if Aq.length < 8796093022208 then(spec_l06Vars.l0 k1 a1 (Aq ++ [(y17 Ab Aa).f1]) Ap (wrap64 (Aa + 1)) Ab Ar As Aj Ak)else(none))))else(spec_l06Vars.l0 k1 a1 Aq Ap (wrap64 (Aa + 1)) Ab Ar As Aj Ak))else(none))else(spec_l06Vars.l0 k1 a1 Aq Ap (wrap64 (Aa + 1)) Ab Ar As Aj Ak))=some r:=by rw [← Bz]at H;exact H
    have Bm:=y0.mk Bz
    clear Bz
    by_cases Dy:Dq=true
    ·subst Dy
     replace H:=qT H
     obtain⟨Gc,H⟩:=qo H
     have Gd:decide (Aa < (Ab.length:Int))=true:=decide_eq_true Gc
     clear Gc
     by_cases Da:((y17 Ab Aa).f0)=1
     ·rw [if_pos Da]at H
      have Dr:(((y17 Ab Aa).f0) == 1)=true:=beq_iff_eq.mpr Da
      have Ds:(((y17 Ab Aa).f0) != 1)=false:=bne_eq_false_iff_eq.mpr Da
      clear Da
      obtain⟨Cz,Ge,H⟩:=qB H
      by_cases Dz:Cz=true
      ·subst Dz
       replace H:=qT H
       have H':=y0.mk H
       clear H
       obtain⟨Gi,Gj,Fj⟩:=Kd.R_slice Aw.out
       subst Fj
       have At:0≤(Aa:Int):=of_decide_eq_true qy0
       have Au:Aa < (Ap.length:Int):=of_decide_eq_true qy0
       obtain⟨Ca,Bj,Al⟩:=Kd.at_bool (Kd.R_reads' Aw.out).2.2 Aa At Au
       (try rw [← Bm.out]at Al)
       cases Bj
       replace At:=eq_true At
       replace Au:=eq_true Au
       obtain⟨Ea,Eb,Ec,Ed,Ee,Ef,Eg,Eh,Ei,Ej⟩:=qz5 Af.out
       have Bc:0≤(Aa:Int):=of_decide_eq_true qy0
       have Bd:Aa < (Ab.length:Int):=of_decide_eq_true qy0
       obtain⟨Bh,Cb,Cc,Cd,Ad,Ae,Ac,Ah,Ai⟩:=at_T63 Bb.out Aa Bc Bd
       cases Cd
       replace Ad:=(HB.out.cell (World.block_lt_of_cell? w _ Ad)).trans Ad
       replace Ae:=(HB.out.cell (World.block_lt_of_cell? w _ Ae)).trans Ae
       replace Ac:=(HB.out.cell (World.block_lt_of_cell? w _ Ac)).trans Ac
       have Bn:=y0.mk Ai
       have Bo:=y0.mk Ah
       clear Ai Ah
       replace Bc:=eq_true Bc
       replace Bd:=eq_true Bd
       have Bk:0≤(Aa:Int):=of_decide_eq_true qy0
       have Bl:Aa < (Ab.length:Int):=of_decide_eq_true qy0
       obtain⟨Ce,Db,Dc,Dd,Am,Ao,Ag,Ay,Az⟩:=at_T63 Bb.out Aa Bk Bl
       obtain rfl:Bh=Ce:=(by injection Dd)
       replace Am:=(HB.out.cell (World.block_lt_of_cell? w _ Am)).trans Am
       replace Ao:=(HB.out.cell (World.block_lt_of_cell? w _ Ao)).trans Ao
       replace Ag:=(HB.out.cell (World.block_lt_of_cell? w _ Ag)).trans Ag
       have Cf:=y0.mk Az
       have Cg:=y0.mk Ay
       clear Az Ay
       replace Bk:=eq_true Bk
       replace Bl:=eq_true Bl
       have ea_:=Option.some.inj (Ac.symm.trans Ag)
       injection ea_ with ea_ en_ ec_
       subst ea_
       subst ec_
       clear en_
       obtain⟨Gk,Gl,Fk⟩:=Kd.R_slice Av.out
       subst Fk
       go_wp2_with (first|(go_at_call 39;(with_reducible refine(spec_l05In.calls k1 _ _ Aq ((y17 Ab Aa).f1) true _ (qc ((Kd.R_reads' Av.out).2.2)) (by exact(Kd.R_reads' Av.out).2.1) Ge.out).mono ?_);rintro e w' ⟨rfl,⟨nd,rfl⟩⟩))
       go_roundg k1
       case measure=>have:=Co.out;omega
       exact⟨(Aq),(wrap64 (Aa + 1)),qy2,H',⟨by have:=Co.out;omega⟩,⟨qR Av.out⟩,⟨qR Aw.out⟩,⟨qk Af.out⟩,⟨qb⟩⟩
      ·replace Dz:=Bool.eq_false_iff.mpr Dz
       subst Dz
       replace H:=qF H
       obtain⟨Gf,H⟩:=qo H
       have Dt:=y0.mk Gf
       clear Gf
       obtain⟨Du,Bi⟩:∃ y_:List ByteArray,y_=(Aq ++ [(y17 Ab Aa).f1]):=⟨_,rfl⟩
       replace H:(spec_l06Vars.l0 k1 a1 Du Ap (wrap64 (Aa + 1)) Ab Ar As Aj Ak)=some r:=by first|(rw [Bi];with_reducible exact H)|(have H2_:=(Option.bind_some _ _).symm.trans H;rw [Bi];with_reducible exact H2_)|(have H2_:=(Option.bind_some _ _).symm.trans H;with_reducible exact H2_)|with_reducible exact H|(rw [Bi];exact H)|exact H
       have Dv:=y0.mk Bi
       clear Bi
       have H':=y0.mk H
       clear H
       obtain⟨Gm,Gn,Fl⟩:=Kd.R_slice Aw.out
       subst Fl
       have At:0≤(Aa:Int):=of_decide_eq_true qy0
       have Au:Aa < (Ap.length:Int):=of_decide_eq_true qy0
       obtain⟨Ca,Bj,Al⟩:=Kd.at_bool (Kd.R_reads' Aw.out).2.2 Aa At Au
       (try rw [← Bm.out]at Al)
       cases Bj
       replace At:=eq_true At
       replace Au:=eq_true Au
       obtain⟨Ek,El,Em,En,Eo,Ep,Eq,Er,Es,Et⟩:=qz5 Af.out
       have Bc:0≤(Aa:Int):=of_decide_eq_true qy0
       have Bd:Aa < (Ab.length:Int):=of_decide_eq_true qy0
       obtain⟨Bh,Cb,Cc,Cd,Ad,Ae,Ac,Ah,Ai⟩:=at_T63 Bb.out Aa Bc Bd
       cases Cd
       replace Ad:=(HB.out.cell (World.block_lt_of_cell? w _ Ad)).trans Ad
       replace Ae:=(HB.out.cell (World.block_lt_of_cell? w _ Ae)).trans Ae
       replace Ac:=(HB.out.cell (World.block_lt_of_cell? w _ Ac)).trans Ac
       have Bn:=y0.mk Ai
       have Bo:=y0.mk Ah
       clear Ai Ah
       replace Bc:=eq_true Bc
       replace Bd:=eq_true Bd
       have Bk:0≤(Aa:Int):=of_decide_eq_true qy0
       have Bl:Aa < (Ab.length:Int):=of_decide_eq_true qy0
       obtain⟨Ce,Db,Dc,Dd,Am,Ao,Ag,Ay,Az⟩:=at_T63 Bb.out Aa Bk Bl
       obtain rfl:Bh=Ce:=(by injection Dd)
       replace Am:=(HB.out.cell (World.block_lt_of_cell? w _ Am)).trans Am
       replace Ao:=(HB.out.cell (World.block_lt_of_cell? w _ Ao)).trans Ao
       replace Ag:=(HB.out.cell (World.block_lt_of_cell? w _ Ag)).trans Ag
       have Cf:=y0.mk Az
       have Cg:=y0.mk Ay
       clear Az Ay
       replace Bk:=eq_true Bk
       replace Bl:=eq_true Bl
       have ea_:=Option.some.inj (Ac.symm.trans Ag)
       injection ea_ with ea_ en_ ec_
       subst ea_
       subst ec_
       clear en_
       obtain⟨Fm,Fn,Fo⟩:=Kd.R_slice Av.out
       subst Fo
       go_wp2_with (first|(go_at_call 39;(with_reducible refine(spec_l05In.calls k1 _ _ Aq ((y17 Ab Aa).f1) false _ (qc ((Kd.R_reads' Av.out).2.2)) (by exact(Kd.R_reads' Av.out).2.1) Ge.out).mono ?_);rintro e w' ⟨rfl,⟨nd,rfl⟩⟩;have De:0≤(Aa:Int):=of_decide_eq_true qy0;have Df:Aa < (Ab.length:Int):=of_decide_eq_true qy0;obtain⟨Dw,Fp,Fq,Fr,Be,Bf,Ba,Bp,Bq⟩:=at_T63 Bb.out Aa De Df;obtain rfl:Bh=Dw:=(by injection Fr);replace Be:=(HB.out.cell (World.block_lt_of_cell? w _ Be)).trans Be;replace Bf:=(HB.out.cell (World.block_lt_of_cell? w _ Bf)).trans Bf;replace Ba:=(HB.out.cell (World.block_lt_of_cell? w _ Ba)).trans Ba;have Eu:=y0.mk Bq;have Ew:=y0.mk Bp;clear Bq Bp;replace De:=eq_true De;replace Df:=eq_true Df;have ea_:=Option.some.inj (Ac.symm.trans Ba);injection ea_ with ea_ en_ ec_;subst ea_;subst ec_;clear en_)|((with_reducible refine gate_builtin (b:=.append) (xs:=#[.tmp 41,.tmp 48]) rfl ?_);at_builtin;refine Kd.R_append Kd.string (w0:=w) w.heap.size rfl (.tmp 41) (.tmp 48) 30 9 (.string ⟨#[]⟩) 16 rfl Try.underlying30 info9 rfl (by decide) (by omega) (.slice Fm Aq.length Fn) Aq ((y17 Ab Aa).f1) [.string ((y17 Ab Aa).f1)] (fun _=>True) (fun _=>False) rfl rfl ?aP (fun _ hk=>hk.elim) ?aF ?aO ?aB ?aS ?aL ?_;(case aP=>exact rfl);(case aB=>exact qb);(case aF=>exact(fun _ _=>trivial));(case aO=>exact(qR Av.out));(case aS=>exact(y2 qb));(case aL=>have:=Dt.out;omega);intro Gp Gu ho hb hg hat;rw [← Dv.out]at ho;replace Aw:=y0.mk (Kd.R_over' (qR Aw.out) (Kd.R_typed (qR Av.out)) (by decide) hg);replace Af:=y0.mk (blk_grown (qk Af.out) hg (Kd.R_ne Av.out Af.out (by decide)));replace HB:=y0.mk (hb);have Dx:=y0.mk (ho);clear Av;clear ho hb hg hat))
       go_roundg k1
       case measure=>have:=Co.out;omega
       exact⟨(Du),(wrap64 (Aa + 1)),qy2,H',⟨by have:=Co.out;omega⟩,⟨qR Dx.out⟩,⟨qR Aw.out⟩,⟨qk Af.out⟩,⟨qb⟩⟩
     ·rw [if_neg Da]at H
      have Dr:(((y17 Ab Aa).f0) == 1)=false:=beq_eq_false_iff_ne.mpr Da
      have Ds:(((y17 Ab Aa).f0) != 1)=true:=bne_iff_ne.mpr Da
      have H':=y0.mk H
      clear H
      obtain⟨Gq,Gr,Fs⟩:=Kd.R_slice Aw.out
      subst Fs
      have At:0≤(Aa:Int):=of_decide_eq_true qy0
      have Au:Aa < (Ap.length:Int):=of_decide_eq_true qy0
      obtain⟨Ca,Bj,Al⟩:=Kd.at_bool (Kd.R_reads' Aw.out).2.2 Aa At Au
      (try rw [← Bm.out]at Al)
      cases Bj
      replace At:=eq_true At
      replace Au:=eq_true Au
      obtain⟨Ex,Ey,Ez,Fa,Fb,Fc,Fd,Fe,Ff,Fg⟩:=qz5 Af.out
      have Bc:0≤(Aa:Int):=of_decide_eq_true qy0
      have Bd:Aa < (Ab.length:Int):=of_decide_eq_true qy0
      obtain⟨Bh,Cb,Cc,Cd,Ad,Ae,Ac,Ah,Ai⟩:=at_T63 Bb.out Aa Bc Bd
      cases Cd
      replace Ad:=(HB.out.cell (World.block_lt_of_cell? w _ Ad)).trans Ad
      replace Ae:=(HB.out.cell (World.block_lt_of_cell? w _ Ae)).trans Ae
      replace Ac:=(HB.out.cell (World.block_lt_of_cell? w _ Ac)).trans Ac
      have Bn:=y0.mk Ai
      have Bo:=y0.mk Ah
      clear Ai Ah
      replace Bc:=eq_true Bc
      replace Bd:=eq_true Bd
      go_wp2
      go_roundg k1
      case measure=>have:=Co.out;omega
      exact⟨(Aq),(wrap64 (Aa + 1)),qy2,H',⟨by have:=Co.out;omega⟩,⟨qR Av.out⟩,⟨qR Aw.out⟩,⟨qk Af.out⟩,⟨qb⟩⟩
    ·replace Dy:=Bool.eq_false_iff.mpr Dy
     subst Dy
     replace H:=qF H
     have H':=y0.mk H
     clear H
     obtain⟨Gs,Gt,Ft⟩:=Kd.R_slice Aw.out
     subst Ft
     have At:0≤(Aa:Int):=of_decide_eq_true qy0
     have Au:Aa < (Ap.length:Int):=of_decide_eq_true qy0
     obtain⟨Ca,Bj,Al⟩:=Kd.at_bool (Kd.R_reads' Aw.out).2.2 Aa At Au
     (try rw [← Bm.out]at Al)
     cases Bj
     replace At:=eq_true At
     replace Au:=eq_true Au
     go_wp2
     go_roundg k1
     case measure=>have:=Co.out;omega
     exact⟨(Aq),(wrap64 (Aa + 1)),qy2,H',⟨by have:=Co.out;omega⟩,⟨qR Av.out⟩,⟨qR Aw.out⟩,⟨qk Af.out⟩,⟨qb⟩⟩
   ·rw [if_neg c9]at H
    have Fi:=decide_eq_false c9
    clear c9
    obtain rfl:=Option.some.inj H
    go_wp2
    go_ret
    exact⟨_,by first|rfl|(simp [y10,y11] <;> rfl)|(simp [*,y10,y11] <;> rfl),by(with_reducible repeat(first|apply Kd.R_alloc|apply Kd.R_drewN|apply Kd.R_drew));exact Av.out,qb⟩
def spec_ExpVars.f (k:Nat) (l0_0:List (S63)) (a0_1:Int) (a0_2:ByteArray) (l0_3:List Int) (l0_4:List (S33)) (a1:Int):Option (List ByteArray):=(z5_.f k l0_0 a0_1 a0_2 l0_3 l0_4).bind fun t263=>(if t263.toList=([]:List UInt8)then(some (([]:List ByteArray)))else((spec_l01Between.f a1 0 (wrap64 ((l0_0.length:Int) - 1))).bind fun t267=>(if t267=true then((spec_l06Vars.f k l0_0 a0_1 a0_2 l0_3 l0_4 a1).bind fun t268=>(some t268))else(some (([]:List ByteArray))))))
set_option maxHeartbeats 8000000 in
set_option maxRecDepth 100000 in
theorem spec_ExpVars.calls (k:Nat) (Ah:Option Addr) (Ai:Nat) (Ab:List (S63)) (Ae:Int) (Af:ByteArray) (Aj:Option Addr) (Ak:Nat) (Ac:List Int) (Al:Option Addr) (Am:Nat) (Ad:List (S33)) (a1:Int) (r:List ByteArray) (w:World) (Ay:Kd.C k63 w Ah Ab.length Ab) (Az:Ab.length≤Ai) (Ba:Kd.C (Kd.int .i64) w Aj Ac.length Ac) (Bb:Ac.length≤Ak) (Bc:Kd.C k33 w Al Ad.length Ad) (Bd:Ad.length≤Am) (h:spec_ExpVars.f k Ab Ae Af Ac Ad a1=some r) :
  Calls Try.prog 7 #[.agg #[.slice Ah Ab.length Ai,.int .i64 Ae,.string Af,.slice Aj Ac.length Ak,.slice Al Ad.length Am],.int .i64 a1] w fun e w'=>∃ v0_:Value,e=.returned (v0_)∧Kd.R Kd.string 9 w' w.heap.size (fun _=>True) v0_ r∧Below w.heap.size w w':=by
 have Dw:=Try.underlying36
 have Aq:=y0.mk Ay
 have Ar:=y0.mk Az
 clear Ay Az
 have As:=y0.mk Ba
 have At:=y0.mk Bb
 clear Ba Bb
 have Au:=y0.mk Bc
 have Av:=y0.mk Bd
 clear Bc Bd
 have HB:=y0.mk (Below.refl w.heap.size w)
 have H:((z5_.f k Ab Ae Af Ac Ad).bind fun Ag=>(if Ag.toList=([]:List UInt8)then(some (([]:List ByteArray)))else((spec_l01Between.f a1 0 (wrap64 ((Ab.length:Int) - 1))).bind fun Bj=>(if Bj=true then((spec_l06Vars.f k Ab Ae Af Ac Ad a1).bind fun Bk=>(some Bk))else(some (([]:List ByteArray)))))))=some r:=h
 clear h
 obtain⟨Ag,A3,H⟩:=qB H
 by_cases c4:Ag.toList=([]:List UInt8)
 ·rw [if_pos c4]at H
  have Df:(Ag.toList == ([]:List UInt8))=true:=beq_iff_eq.mpr c4
  have Dg:(Ag.toList != ([]:List UInt8))=false:=bne_eq_false_iff_eq.mpr c4
  clear c4
  obtain⟨Dh,Ao⟩:∃ y_:List ByteArray,y_=(([]:List ByteArray)):=⟨_,rfl⟩
  replace H:(some Dh)=some r:=by first|(rw [Ao];with_reducible exact H)|(have H2_:=(Option.bind_some _ _).symm.trans H;rw [Ao];with_reducible exact H2_)|(have H2_:=(Option.bind_some _ _).symm.trans H;with_reducible exact H2_)|with_reducible exact H|(rw [Ao];exact H)|exact H
  have Be:=y0.mk Ao
  clear Ao
  obtain rfl:=Option.some.inj H
  go_enter Try.func7,Try.ntmps7
  go_wp2_with (first|((with_reducible refine y14 (N:=2) rfl ?_);(try(refine gate_guard (by rfl) ?_;dsimp only));refine qe 2 #[.slice Ah Ab.length Ai,.int .i64 Ae,.string Af,.slice Aj Ac.length Ak,.slice Al Ad.length Am] 36 ?_;intro Bf hg w5 hbox hb;have Aa:=y0.mk (hbox);have Bg:=y0.mk (qg (w:=w) hg);have Bh:=y0.mk (qg (w:=w) hg);replace HB:=y0.mk (y3 qb hb);clear hb hbox hg;obtain⟨Di,Dj,Dk,Dl,Dm,Do,Dp,Dq,Dr,Ds⟩:=qz5 Aa.out)|((with_reducible refine y13 (f:=22) rfl ?_);refine y15 (some 6) rfl rfl Try.func22 (by kernel_rfl) rfl #[.agg #[.slice Ah Ab.length Ai,.int .i64 Ae,.string Af,.slice Aj Ac.length Ak,.slice Al Ad.length Am]] rfl qy1 ?_;(with_reducible refine(z5_.calls k _ _ Ab Ae Af _ _ Ac _ _ Ad Ag _ (qc (Kd.C_below Aq.out HB.out)) Ar.out (qc (Kd.C_below As.out HB.out)) At.out (qc (Kd.C_below Au.out HB.out)) Av.out A3.out).mono ?_);rintro e w7 ⟨rfl,hb⟩;refine⟨_,rfl, ?_⟩;replace Aa:=y0.mk (qK Aa.out hb);replace HB:=y0.mk (y3 qb hb);(try clear hb))|((with_reducible refine y14 (N:=17) rfl ?_);(try(refine gate_guard (by rfl) ?_;dsimp only));refine qL Kd.string 9 17 ([]:List ByteArray) ?_;intro Dx w8 Bl hb hg_ hnew_;clear hg_ hnew_;(first|rw [← Be.out]at Bl|(simp only [Int.reduceToNat]at Bl;rw [← Be.out]at Bl));have Bm:=y0.mk (Kd.R_lower Bl (y2 qb));replace Aa:=y0.mk (qK Aa.out hb);replace HB:=y0.mk (y3 qb hb);clear hb Bl))
  go_ret
  exact⟨_,by first|rfl|(simp [y10,y11] <;> rfl)|(simp [*,y10,y11] <;> rfl),by(with_reducible repeat(first|apply Kd.R_alloc|apply Kd.R_drewN|apply Kd.R_drew));exact Bm.out,qb⟩
 ·rw [if_neg c4]at H
  have Df:(Ag.toList == ([]:List UInt8))=false:=beq_eq_false_iff_ne.mpr c4
  have Dg:(Ag.toList != ([]:List UInt8))=true:=bne_iff_ne.mpr c4
  obtain⟨Bj,Du,H⟩:=qB H
  by_cases Bp:Bj=true
  ·subst Bp
   replace H:=qT H
   obtain⟨Bk,Dy,H⟩:=qB H
   obtain rfl:=Option.some.inj H
   go_enter Try.func7,Try.ntmps7
   go_wp2_with (first|((with_reducible refine y14 (N:=2) rfl ?_);(try(refine gate_guard (by rfl) ?_;dsimp only));refine qe 2 #[.slice Ah Ab.length Ai,.int .i64 Ae,.string Af,.slice Aj Ac.length Ak,.slice Al Ad.length Am] 36 ?_;intro Bf hg Eb hbox hb;have Aa:=y0.mk (hbox);have Bg:=y0.mk (qg (w:=w) hg);have Bh:=y0.mk (qg (w:=w) hg);replace HB:=y0.mk (y3 qb hb);clear hb hbox hg;obtain⟨Bq,Br,Bs,Bt,Bu,Bv,Bw,Bx,Bz,Ca⟩:=qz5 Aa.out)|((with_reducible refine y13 (f:=22) rfl ?_);refine y15 (some 6) rfl rfl Try.func22 (by kernel_rfl) rfl #[.agg #[.slice Ah Ab.length Ai,.int .i64 Ae,.string Af,.slice Aj Ac.length Ak,.slice Al Ad.length Am]] rfl qy1 ?_;(with_reducible refine(z5_.calls k _ _ Ab Ae Af _ _ Ac _ _ Ad Ag _ (qc (Kd.C_below Aq.out HB.out)) Ar.out (qc (Kd.C_below As.out HB.out)) At.out (qc (Kd.C_below Au.out HB.out)) Av.out A3.out).mono ?_);rintro e Ec ⟨rfl,hb⟩;refine⟨_,rfl, ?_⟩;replace Aa:=y0.mk (qK Aa.out hb);replace HB:=y0.mk (y3 qb hb);(try clear hb);obtain⟨Cb,Cc,Cd,Ce,Cf,Cg,Ch,Ci,Cj,Ck⟩:=qz5 Aa.out)|(go_at_call 23;(with_reducible refine(spec_l01Between.calls a1 0 (wrap64 ((Ab.length:Int) - 1)) true _ Du.out).mono ?_);rintro e w' ⟨rfl,⟨nd,rfl⟩⟩)|((with_reducible refine y13 (f:=24) rfl ?_);refine y15 (some 20) rfl rfl Try.func24 (by kernel_rfl) rfl #[.agg #[.slice Ah Ab.length Ai,.int .i64 Ae,.string Af,.slice Aj Ac.length Ak,.slice Al Ad.length Am],.int .i64 a1] rfl qy1 ?_;(with_reducible refine(spec_l06Vars.calls k _ _ Ab Ae Af _ _ Ac _ _ Ad a1 Bk _ (qc (Kd.C_below Aq.out qb)) Ar.out (qc (Kd.C_below As.out qb)) At.out (qc (Kd.C_below Au.out qb)) Av.out Dy.out).mono ?_);rintro e Ed ⟨Dz,rfl,Dv,hb⟩;refine⟨_,rfl, ?_⟩;have Bn:=y0.mk (Kd.R_lower Dv (y2 qb));replace Aa:=y0.mk (qK Aa.out hb);replace HB:=y0.mk (y3 qb hb);(try clear hb);(try clear Dv)))
   go_ret
   exact⟨_,by first|rfl|(simp [y10,y11] <;> rfl)|(simp [*,y10,y11] <;> rfl),by(with_reducible repeat(first|apply Kd.R_alloc|apply Kd.R_drewN|apply Kd.R_drew));exact Bn.out,qb⟩
  ·replace Bp:=Bool.eq_false_iff.mpr Bp
   subst Bp
   replace H:=qF H
   obtain⟨Dt,Ap⟩:∃ y_:List ByteArray,y_=(([]:List ByteArray)):=⟨_,rfl⟩
   replace H:(some Dt)=some r:=by first|(rw [Ap];with_reducible exact H)|(have H2_:=(Option.bind_some _ _).symm.trans H;rw [Ap];with_reducible exact H2_)|(have H2_:=(Option.bind_some _ _).symm.trans H;with_reducible exact H2_)|with_reducible exact H|(rw [Ap];exact H)|exact H
   have Bi:=y0.mk Ap
   clear Ap
   obtain rfl:=Option.some.inj H
   go_enter Try.func7,Try.ntmps7
   go_wp2_with (first|((with_reducible refine y14 (N:=2) rfl ?_);(try(refine gate_guard (by rfl) ?_;dsimp only));refine qe 2 #[.slice Ah Ab.length Ai,.int .i64 Ae,.string Af,.slice Aj Ac.length Ak,.slice Al Ad.length Am] 36 ?_;intro Bf hg Ee hbox hb;have Aa:=y0.mk (hbox);have Bg:=y0.mk (qg (w:=w) hg);have Bh:=y0.mk (qg (w:=w) hg);replace HB:=y0.mk (y3 qb hb);clear hb hbox hg;obtain⟨Cl,Cm,Cn,Co,Cp,Cq,Cr,Cs,Ct,Cu⟩:=qz5 Aa.out)|((with_reducible refine y13 (f:=22) rfl ?_);refine y15 (some 6) rfl rfl Try.func22 (by kernel_rfl) rfl #[.agg #[.slice Ah Ab.length Ai,.int .i64 Ae,.string Af,.slice Aj Ac.length Ak,.slice Al Ad.length Am]] rfl qy1 ?_;(with_reducible refine(z5_.calls k _ _ Ab Ae Af _ _ Ac _ _ Ad Ag _ (qc (Kd.C_below Aq.out HB.out)) Ar.out (qc (Kd.C_below As.out HB.out)) At.out (qc (Kd.C_below Au.out HB.out)) Av.out A3.out).mono ?_);rintro e Ef ⟨rfl,hb⟩;refine⟨_,rfl, ?_⟩;replace Aa:=y0.mk (qK Aa.out hb);replace HB:=y0.mk (y3 qb hb);(try clear hb);obtain⟨Cv,Cw,Cx,Cy,Cz,Da,Db,Dc,Dd,De⟩:=qz5 Aa.out)|(go_at_call 23;(with_reducible refine(spec_l01Between.calls a1 0 (wrap64 ((Ab.length:Int) - 1)) false _ Du.out).mono ?_);rintro e w' ⟨rfl,⟨nd,rfl⟩⟩)|((with_reducible refine y14 (N:=17) rfl ?_);(try(refine gate_guard (by rfl) ?_;dsimp only));refine qL Kd.string 9 17 ([]:List ByteArray) ?_;intro Ea Eg Aw hb hg_ hnew_;clear hg_ hnew_;(first|rw [← Bi.out]at Aw|(simp only [Int.reduceToNat]at Aw;rw [← Bi.out]at Aw));have Bo:=y0.mk (Kd.R_lower Aw (y2 qb));replace Aa:=y0.mk (qK Aa.out hb);replace HB:=y0.mk (y3 qb hb);clear hb Aw))
   go_ret
   exact⟨_,by first|rfl|(simp [y10,y11] <;> rfl)|(simp [*,y10,y11] <;> rfl),by(with_reducible repeat(first|apply Kd.R_alloc|apply Kd.R_drewN|apply Kd.R_drew));exact Bo.out,qb⟩
def impl_in.f (a0:Int) (a1:Int) (a2:Int):Option (Bool):=if a0≥a1 then(some (decide (a0≤a2)))else(some false)
set_option maxHeartbeats 8000000 in
set_option maxRecDepth 100000 in
theorem impl_in.calls (a0:Int) (a1:Int) (a2:Int) (r:Bool) (w:World) (h:impl_in.f a0 a1 a2=some r) :
  Calls Try.prog 29 #[.int .i64 a0,.int .i64 a1,.int .i64 a2] w fun e w'=>e=.returned (.bool r)∧Drawn0 w w':=by
 have H:(if a0≥a1 then(some (decide (a0≤a2)))else(some false))=some r:=h
 clear h
 by_cases c4:a0≥a1
 ·rw [if_pos c4]at H
  have c4b0:decide (a1≤a0)=true:=decide_eq_true c4
  clear c4
  obtain rfl:=Option.some.inj H
  go_enter Try.func29,Try.ntmps29
  go_wp2
  go_ret
  exact qf2
 ·rw [if_neg c4]at H
  have c4b0:decide (a1≤a0)=false:=decide_eq_false c4
  clear c4
  obtain rfl:=Option.some.inj H
  go_enter Try.func29,Try.ntmps29
  go_wp2
  go_ret
  exact qf2
def impl_isSum.f (a0:Int):Option (Bool):=(impl_in.f a0 5 7).bind fun t274=>(some t274)
set_option maxHeartbeats 8000000 in
set_option maxRecDepth 100000 in
theorem impl_isSum.calls (a0:Int) (r:Bool) (w:World) (h:impl_isSum.f a0=some r) :
  Calls Try.prog 65 #[.int .i64 a0] w fun e w'=>e=.returned (.bool r)∧Drawn0 w w':=by
 have H:((impl_in.f a0 5 7).bind fun t274=>(some t274))=some r:=h
 clear h
 obtain⟨t274,A2,H⟩:=qB H
 obtain rfl:=Option.some.inj H
 go_enter Try.func65,Try.ntmps65
 go_wp2_with (first|((with_reducible refine y13 (f:=29) rfl ?_);refine y15 (some 4) rfl rfl Try.func29 (by kernel_rfl) rfl #[.int .i64 a0,.int .i64 5,.int .i64 7] rfl qy1 ?_;(with_reducible refine(impl_in.calls a0 5 7 t274 _ A2.out).mono ?_);rintro e w' ⟨rfl,⟨nd,rfl⟩⟩;refine⟨_,rfl, ?_⟩))
 go_ret
 exact qf2
def impl_Rule_lits.f (l0_0:List (S63)) (a0_1:Int) (a0_2:ByteArray) (l0_3:List Int) (l0_4:List (S33)):Option ((List (S33))):=(some (([(⟨a0_1,a0_2,l0_3⟩:S33)]:List (S33)):List (S33))).bind fun y276=>(if y276.length + l0_4.length < 2932031007402 then(some (y276 ++ l0_4))else(none))
set_option maxHeartbeats 8000000 in
set_option maxRecDepth 100000 in
theorem impl_Rule_lits.calls (Ar:Option Addr) (As:Nat) (Ai:List (S63)) (Af:Int) (Ag:ByteArray) (P0_3_:Nat→Prop) (Aj:Option Addr) (Ak:Nat) (Ab:List Int) (P0_4_:Nat→Prop) (Ap:Option Addr) (Aq:Nat) (Ac:List (S33)) (r:List (S33)) (w:World) (Au:Kd.C k63 w Ar Ai.length Ai) (Av:Ai.length≤As) (Ba:Kd.V (Kd.int .i64) 3 w w.heap.size (fun k_=>P0_3_ k_) (.slice Aj Ab.length Ak) Ab) (Bb:Kd.V k33 33 w w.heap.size (fun k_=>P0_4_ k_) (.slice Ap Ac.length Aq) Ac) (h:impl_Rule_lits.f Ai Af Ag Ab Ac=some r) :
  Calls Try.prog 80 #[.agg #[.slice Ar Ai.length As,.int .i64 Af,.string Ag,.slice Aj Ab.length Ak,.slice Ap Ac.length Aq]] w fun e w'=>∃ v0_:Value,e=.returned (v0_)∧Kd.N k33 33 w' w.heap.size (fun k_=>((P0_3_ k_∨P0_4_ k_)∨w.heap.size≤k_)) v0_ r∧Below w.heap.size w w':=by
 have Cf:=Try.underlying36
 have Cg:=Try.underlying33
 have Cb:=y0.mk Au
 have Cc:=y0.mk Av
 clear Au Av
 have Ae:=y0.mk (show Kd.V (Kd.int .i64) 3 w w.heap.size (fun k_=>((P0_3_ k_∨P0_4_ k_)∨w.heap.size≤k_)) (.slice Aj Ab.length Ak) Ab from Kd.V_mono Ba (fun k_ hk=>.inl (.inl hk)))
 have Ah:=y0.mk (show Kd.V k33 33 w w.heap.size (fun k_=>((P0_3_ k_∨P0_4_ k_)∨w.heap.size≤k_)) (.slice Ap Ac.length Aq) Ac from Kd.V_mono Bb (fun k_ hk=>.inl (.inr hk)))
 have HB:=y0.mk (Below.refl w.heap.size w)
 have H:((some (([(⟨Af,Ag,Ab⟩:S33)]:List (S33)):List (S33))).bind fun Ao=>(if Ao.length + Ac.length < 2932031007402 then(some (Ao ++ Ac))else(none)))=some r:=h
 clear h
 obtain⟨Ao,Al⟩:∃ y_:List (S33),y_=(([(⟨Af,Ag,Ab⟩:S33)]:List (S33))):=⟨_,rfl⟩
 replace H:(if Ao.length + Ac.length < 2932031007402 then(some (Ao ++ Ac))else(none))=some r:=by first|(rw [Al];with_reducible exact H)|(have H2_:=(Option.bind_some _ _).symm.trans H;rw [Al];with_reducible exact H2_)|(have H2_:=(Option.bind_some _ _).symm.trans H;with_reducible exact H2_)|with_reducible exact H|(rw [Al];exact H)|exact H
 have Aw:=y0.mk Al
 clear Al
 obtain⟨c2,H⟩:=qo H
 have Be:=y0.mk c2
 clear c2
 obtain⟨Bf,Am⟩:∃ y_:List (S33),y_=(Ao ++ Ac):=⟨_,rfl⟩
 replace H:(some Bf)=some r:=by first|(rw [Am];with_reducible exact H)|(have H2_:=(Option.bind_some _ _).symm.trans H;rw [Am];with_reducible exact H2_)|(have H2_:=(Option.bind_some _ _).symm.trans H;with_reducible exact H2_)|with_reducible exact H|(rw [Am];exact H)|exact H
 have Bc:=y0.mk Am
 clear Am
 obtain rfl:=Option.some.inj H
 go_enter Try.func80,Try.ntmps80
 go_wp2_with (first|((with_reducible refine y14 (N:=1) rfl ?_);refine qe 1 #[.slice Ar Ai.length As,.int .i64 Af,.string Ag,.slice Aj Ab.length Ak,.slice Ap Ac.length Aq] 36 ?_;intro Aa hg w3 hbox hb;replace Ae:=y0.mk (Kd.V_below (Kd.V_elderB (qV Ae.out) Aa (Nat.le_of_eq hg.symm)) hb);replace Ah:=y0.mk (Kd.V_below (Kd.V_elderB (qV Ah.out) Aa (Nat.le_of_eq hg.symm)) hb);have Ad:=y0.mk (hbox);have Cd:=y0.mk (qg (w:=w) hg);have Ce:=y0.mk (qg (w:=w) hg);replace HB:=y0.mk (y3 qb hb);clear hb hbox hg;obtain⟨Bg,Bh,Bi,Bj,Bk,Bl,Bm,Bn,Bo,Bp⟩:=qz5 Ad.out)|((with_reducible refine y14 (N:=5) rfl ?_);refine Kd.N_lit k33 _ 33 ?hg (N':=5) ?hd (xs:=([(⟨Af,Ag,Ab⟩:S33)]:List (S33))) (inner:=[.int .i64 Af,.string Ag,.slice Aj Ab.length Ak]) (ok:=(fun k_=>((P0_3_ k_∨P0_4_ k_)∨w.heap.size≤k_)∧k_≠Aa)) (okp:=(fun k_=>((P0_3_ k_∨P0_4_ k_)∨w.heap.size≤k_)∧k_≠Aa)) ?hr ?hp (fun _ hk=>hk) ((show ∀ k_,w3.heap.size≤k_→(fun k_=>((P0_3_ k_∨P0_4_ k_)∨w.heap.size≤k_)∧k_≠Aa) k_ from fun k_ hk=>⟨(.inr (Nat.le_trans (y2 qb) hk)),Kd.freshB (g:=Aa) (o:=.cells #[.slice Ar Ai.length As,.int .i64 Af,.string Ag,.slice Aj Ab.length Ak,.slice Ap Ac.length Aq] 36 (0,0)) (qk Ad.out) k_ hk⟩) _ (Nat.le_refl _)) (Below.refl _ _) (Nat.le_refl _) (by simp) ?_;(case hd=>rfl);(case hg=>rfl);(case hr=>first|(go_simp;done)|(go_simp;rfl));(case hp=>exact(Reps.c3 (show Kd.FK k33 _ _ (⟨Af,Ag,Ab⟩:S33) [.int .i64 Af,.string Ag,.slice Aj Ab.length Ak]from(k33_mkF _ _ (⟨Af,Ag,Ab⟩:S33) (Kd.V_reads' (Kd.V_mono (ok':=(fun k_=>((P0_3_ k_∨P0_4_ k_)∨w.heap.size≤k_)∧k_≠Aa)) (Ae.out) (fun k_ hk=>⟨hk.1,hk.2⟩))).2.1 (Kd.V_F (Kd.V_mono (ok':=(fun k_=>((P0_3_ k_∨P0_4_ k_)∨w.heap.size≤k_)∧k_≠Aa)) (Ae.out) (fun k_ hk=>⟨hk.1,hk.2⟩))))) (Reps.none _ _)));intro Ay w5 Az hb hg_ hnew_;clear hg_ hnew_;(first|rw [← Aw.out]at Az|(simp only [Int.reduceToNat]at Az;rw [← Aw.out]at Az));replace Ae:=y0.mk (Kd.V_elder' (qV Ae.out) (Kd.N_base Az) hb);replace Ah:=y0.mk (Kd.V_elder' (qV Ah.out) (Kd.N_base Az) hb);have At:=y0.mk (Kd.N_lower Az (y2 qb));replace Ad:=y0.mk (qK Ad.out hb);replace HB:=y0.mk (y3 qb hb);clear hb Az;obtain⟨Bq,Br,Bs,Bt,Bu,Bv,Bw,Bx,Bz,Ca⟩:=qz5 Ad.out)|((with_reducible refine gate_builtin (b:=.append) (xs:=#[.tmp 5,.tmp 7]) rfl ?_);at_builtin;refine Kd.N_append_rows k33 (w0:=w) w.heap.size rfl (.tmp 5) (.tmp 7) 34 33 (.agg #[(.int .i64 0),(.string ⟨#[]⟩),(.slice none 0 0)]) 48 rfl Try.underlying34 info33 rfl (by decide) (by omega) Ay Ao Ac _ _ _ (fun k_=>((P0_3_ k_∨P0_4_ k_)∨w.heap.size≤k_)∧k_≠Aa) (fun k_=>((fun k_=>((P0_3_ k_∨P0_4_ k_)∨w.heap.size≤k_)∧k_≠Aa)) k_∧some k_≠(Ay:Value).ownBlock) rfl rfl ?aO ?aR (fun _ hk=>hk) ?aF ?aB ?aS ?aL ?_;(case aR=>exact(by skip;exact Kd.V_F (Kd.V_mono (ok':=(fun k_=>((fun k_=>((P0_3_ k_∨P0_4_ k_)∨w.heap.size≤k_)∧k_≠Aa)) k_∧some k_≠(Ay:Value).ownBlock)) (Ah.out) (fun k_ hk=>⟨⟨hk.1.1,hk.1.2⟩,hk.2⟩))));(case aB=>exact qb);(case aF=>exact(fun k_ hk=>⟨(.inr (Nat.le_trans (y2 qb) hk)),Kd.freshB (g:=Aa) (o:=.cells #[.slice Ar Ai.length As,.int .i64 Af,.string Ag,.slice Aj Ab.length Ak,.slice Ap Ac.length Aq] 36 (0,0)) (qk Ad.out) k_ hk⟩));(case aO=>exact(qN At.out));(case aS=>exact(y2 qb));(case aL=>have:=Be.out;omega);intro Ch w8 ho hb hg hat;rw [← Bc.out]at ho;replace Ae:=y0.mk (Kd.V_afterv (ok:=(fun k_=>((P0_3_ k_∨P0_4_ k_)∨w.heap.size≤k_)∧k_≠Aa)) (qV Ae.out) hg hat);replace Ah:=y0.mk (Kd.V_afterv (ok:=(fun k_=>((P0_3_ k_∨P0_4_ k_)∨w.heap.size≤k_)∧k_≠Aa)) (qV Ah.out) hg hat);replace Ad:=y0.mk (blk_grown (qk Ad.out) hg (Kd.N_ne At.out Ad.out (by decide)));replace HB:=y0.mk (hb);have Bd:=y0.mk (ho);clear At;clear ho hb hg hat))
 go_ret
 exact⟨_,by first|rfl|(simp [y10,y11] <;> rfl)|(simp [*,y10,y11] <;> rfl),by(with_reducible repeat(first|apply Kd.N_alloc|apply Kd.N_drewN|apply Kd.N_drew));exact Kd.N_mono Bd.out (fun _ hk=>hk.1),qb⟩
def impl_isFormed_1.f (a0:Int):Option (Bool):=some (a0 != 1)
set_option maxHeartbeats 8000000 in
set_option maxRecDepth 100000 in
theorem impl_isFormed_1.calls (a0:Int) (r:Bool) (w:World) (h:impl_isFormed_1.f a0=some r) :
  Calls Try.prog 82 #[.int .i64 a0] w fun e w'=>e=.returned (.bool r)∧Drawn0 w w':=by
 have H:(some (a0 != 1))=some r:=h
 clear h
 obtain rfl:=Option.some.inj H
 go_enter Try.func82,Try.ntmps82
 go_wp2
 go_ret
 exact qf2
def z4_.l0:Nat→List Int→Int→Int→Option (Int)
 | 0,_,_,_=>none
 | k + 1,x0,x7,x8=>if x8 < x7 then(if 0≤x8 then(if x8 < (x0.length:Int)then((impl_isFormed_1.f (rd x0 x8)).bind fun t283=>(if t283=true then(some x8)else(z4_.l0 k x0 x7 (wrap64 (x8 + 1)))))else(none))else(none))else(some (-1))
def z4_.f (k:Nat) (l0:List Int) :Option (Int):=z4_.l0 k l0 (l0.length:Int) 0
set_option maxHeartbeats 8000000 in
set_option maxRecDepth 100000 in
theorem z4_.calls (k:Nat) (A0:Option Addr) (c0:Nat) (l0:List Int)  (r:Int) (w:World) (Ah:Kd.C (Kd.int .i64) w A0 l0.length l0) (Ai:l0.length≤c0) (h:z4_.f k l0=some r) :
  Calls Try.prog 92 #[.slice A0 l0.length c0,.func (.func 82) #[] #[]] w fun e w'=>e=.returned (.int .i64 r)∧Drawn0 w w':=by
 have Al:=y0.mk Ah
 have Ap:=y0.mk Ai
 clear Ah Ai
 have H:(z4_.l0 k l0 (l0.length:Int) 0)=some r:=h
 clear h
 have H':=y0.mk H
 clear H
 go_enter Try.func92,Try.ntmps92
 go_wp2
 go_loopg [8] k (fun kq v8 w'=>∃(Aa:Int),v8=.int .i64 Aa∧y0 (z4_.l0 kq l0 (l0.length:Int) Aa=some r)∧y0 (kq≤k)∧Drawn0 w w')
 case atStart=>exact⟨(0),qy2,H',⟨Nat.le_refl _⟩,by repeat(first|exact Drawn0.refl _|apply Drawn0.step)⟩
 case round =>
  clear H'
  obtain⟨Aa,rfl,HA,Aj,⟨m1,rfl⟩⟩:=hrel
  cases gk with
  | zero=>exact absurd HA.out (by simp [z4_.l0])
  | succ k1 =>
   have H:=HA.out
   clear HA
   simp only [z4_.l0]at H
   by_cases c3:Aa < (l0.length:Int)
   ·rw [if_pos c3]at H
    have Ae:=decide_eq_true c3
    clear c3
    obtain⟨c4,H⟩:=qo H
    have Am:decide (0≤Aa)=true:=decide_eq_true c4
    clear c4
    obtain⟨c5,H⟩:=qo H
    have Ao:decide (Aa < (l0.length:Int))=true:=decide_eq_true c5
    clear c5
    obtain⟨Af,A6,H⟩:=qB H
    have Ab:0≤(Aa:Int):=of_decide_eq_true qy0
    have Ac:Aa < (l0.length:Int):=of_decide_eq_true qy0
    obtain⟨Ak,Ag,Ad⟩:=Kd.at_int Al.out Aa Ab Ac
    cases Ag
    replace Ab:=eq_true Ab
    replace Ac:=eq_true Ac
    by_cases c7:Af=true
    ·subst c7
     replace H:=qT H
     obtain rfl:=Option.some.inj H
     go_wp2_with (first|(go_at_call 82;(with_reducible refine(impl_isFormed_1.calls (rd l0 Aa) true _ A6.out).mono ?_);rintro e w' ⟨rfl,⟨nd,rfl⟩⟩))
     go_ret
     exact qf2
    ·replace c7:=Bool.eq_false_iff.mpr c7
     subst c7
     replace H:=qF H
     have H':=y0.mk H
     clear H
     go_wp2_with (first|(go_at_call 82;(with_reducible refine(impl_isFormed_1.calls (rd l0 Aa) false _ A6.out).mono ?_);rintro e w' ⟨rfl,⟨nd,rfl⟩⟩))
     go_roundg k1
     case measure=>have:=Aj.out;omega
     exact⟨(wrap64 (Aa + 1)),qy2,H',⟨by have:=Aj.out;omega⟩,by repeat(first|exact Drawn0.refl _|apply Drawn0.step)⟩
   ·rw [if_neg c3]at H
    have Ae:=decide_eq_false c3
    clear c3
    obtain rfl:=Option.some.inj H
    go_wp2
    go_ret
    exact qf2
def slices_ContainsFunc_int_int_impl_isFormed_1.f (k:Nat) (l0:List Int) :Option (Bool):=(z4_.f k l0).bind fun t284=>(some (decide (t284≥0)))
set_option maxHeartbeats 8000000 in
set_option maxRecDepth 100000 in
theorem slices_ContainsFunc_int_int_impl_isFormed_1.calls (k:Nat) (A0:Option Addr) (c0:Nat) (l0:List Int)  (r:Bool) (w:World) (hr0:Kd.C (Kd.int .i64) w A0 l0.length l0) (hc0:l0.length≤c0) (h:slices_ContainsFunc_int_int_impl_isFormed_1.f k l0=some r) :
  Calls Try.prog 81 #[.slice A0 l0.length c0,.func (.func 82) #[] #[]] w fun e w'=>e=.returned (.bool r)∧Drawn0 w w':=by
 have HR0:=y0.mk hr0
 have HC0:=y0.mk hc0
 clear hr0 hc0
 have H:((z4_.f k l0).bind fun t284=>(some (decide (t284≥0))))=some r:=h
 clear h
 obtain⟨t284,A3,H⟩:=qB H
 obtain rfl:=Option.some.inj H
 go_enter Try.func81,Try.ntmps81
 go_wp2_with (first|((with_reducible refine y13 (f:=92) rfl ?_);refine y15 (some 7) rfl rfl Try.func92 (by kernel_rfl) rfl #[.slice A0 l0.length c0,.func (.func 82) #[] #[]] rfl qy1 ?_;(with_reducible refine(z4_.calls k _ _ l0  t284 _ (qc HR0.out) HC0.out A3.out).mono ?_);rintro e w' ⟨rfl,⟨nd,rfl⟩⟩;refine⟨_,rfl, ?_⟩))
 go_ret
 exact qf2
end Go.Proofs.Ytkdabljlfbmpdaa.Pg
end
