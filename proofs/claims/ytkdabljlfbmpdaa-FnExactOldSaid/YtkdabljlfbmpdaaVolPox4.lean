-- Cut by prune.py, a program of this session, out of the texts of this claim: Lean checks it.
import Derived.Test.YtkdabljlfbmpdaaVolPox0
import Derived.Test.YtkdabljlfbmpdaaVolPox3
section
namespace Go.Proofs.Ytkdabljlfbmpdaa.Po
open Go.RowKit Go.Proofs.YtkdabljlfbmpdaaW.PrintWords Go.Proofs.YtkdabljlfbmpdaaW.PrintLast Go.Proofs.YtkdabljlfbmpdaaW.PrintMore
attribute [local go_sem] max2_int min2_int max_two min_two max_three min_three max_four min_four   -- for this text's walks alone
set_option linter.unusedVariables false
set_option linter.unusedSimpArgs false
mutual
def spec_l04Lit.j0:Nat→List ByteArray→ByteArray→Int→ByteArray→List Int→Option (ByteArray×Bool)
 | 0,_,_,_,_,_=>none
 | k + 1,x1,x6,x215000,x215001,x215002=>spec_l04Lit.l0 k x1 x6 0 x215000 x215001 x215002
def spec_l04Lit.l0:Nat→List ByteArray→ByteArray→Int→Int→ByteArray→List Int→Option (ByteArray×Bool)
 | 0,_,_,_,_,_,_=>none
 | k + 1,x1,x6,x7,x215000,x215001,x215002=>if x7 < (x215002.length:Int)then(if x7 > 0 then(if x6.size + 2≤9223372036854775807 then(if 0≤x7 then(if 0≤(rd x215002 x7)then(if(rd x215002 x7) < (x1.length:Int)then(if(x6 ++ (⟨#[44,32]⟩:ByteArray)).size + (rdOf ByteArray.empty x1 (rd x215002 x7)).size≤9223372036854775807 then(spec_l04Lit.l0 k x1 ((x6 ++ (⟨#[44,32]⟩:ByteArray)) ++ (rdOf ByteArray.empty x1 (rd x215002 x7))) (wrap64 (x7 + 1)) x215000 x215001 x215002)else(none))else(none))else(none))else(none))else(none))else(if 0≤x7 then(if 0≤(rd x215002 x7)then(if(rd x215002 x7) < (x1.length:Int)then(if x6.size + (rdOf ByteArray.empty x1 (rd x215002 x7)).size≤9223372036854775807 then(spec_l04Lit.l0 k x1 (x6 ++ (rdOf ByteArray.empty x1 (rd x215002 x7))) (wrap64 (x7 + 1)) x215000 x215001 x215002)else(none))else(none))else(none))else(none)))else(if x6.size + 1≤9223372036854775807 then(if x215000=1 then(some (x6 ++ (⟨#[41]⟩:ByteArray),true))else(some (x6 ++ (⟨#[41]⟩:ByteArray),(x215000 == 2))))else(none))
end
def spec_l04Lit.f (k:Nat) (a0_0:Int) (a0_1:ByteArray) (l0_2:List Int) (l1:List ByteArray):Option (ByteArray×Bool):=if a0_0=3 then(if(l0_2.length:Int)=2 then(if 0 < (l0_2.length:Int)then(if 0≤(rd l0_2 0)then(if(rd l0_2 0) < (l1.length:Int)then(if(rdOf ByteArray.empty l1 (rd l0_2 0)).size + 1≤9223372036854775807 then(if((rdOf ByteArray.empty l1 (rd l0_2 0)) ++ (⟨#[32]⟩:ByteArray)).size + a0_1.size≤9223372036854775807 then(if(((rdOf ByteArray.empty l1 (rd l0_2 0)) ++ (⟨#[32]⟩:ByteArray)) ++ a0_1).size + 1≤9223372036854775807 then(if 1 < (l0_2.length:Int)then(if 0≤(rd l0_2 1)then(if(rd l0_2 1) < (l1.length:Int)then(if((((rdOf ByteArray.empty l1 (rd l0_2 0)) ++ (⟨#[32]⟩:ByteArray)) ++ a0_1) ++ (⟨#[32]⟩:ByteArray)).size + (rdOf ByteArray.empty l1 (rd l0_2 1)).size≤9223372036854775807 then(some (((((rdOf ByteArray.empty l1 (rd l0_2 0)) ++ (⟨#[32]⟩:ByteArray)) ++ a0_1) ++ (⟨#[32]⟩:ByteArray)) ++ (rdOf ByteArray.empty l1 (rd l0_2 1)),true))else(none))else(none))else(none))else(none))else(none))else(none))else(none))else(none))else(none))else(none))else(some ((⟨#[]⟩:ByteArray),false)))else(if a0_1.size + 1≤9223372036854775807 then(if a0_0=2 then(if 1 + (a0_1 ++ (⟨#[40]⟩:ByteArray)).size≤9223372036854775807 then(spec_l04Lit.j0 k l1 ((⟨#[33]⟩:ByteArray) ++ (a0_1 ++ (⟨#[40]⟩:ByteArray))) a0_0 a0_1 l0_2)else(none))else(spec_l04Lit.j0 k l1 (a0_1 ++ (⟨#[40]⟩:ByteArray)) a0_0 a0_1 l0_2))else(none))
set_option maxHeartbeats 8000000 in
set_option maxRecDepth 100000 in
theorem spec_l04Lit.calls (k:Nat) (Af:Int) (Ag:ByteArray) (Am:Option Addr) (Ap:Nat) (Aa:List Int) (A1:Option Addr) (c1:Nat) (l1:List ByteArray) (r1:ByteArray) (r2:Bool) (w:World) (Cn:Kd.C (Kd.int .i64) w Am Aa.length Aa) (Cp:Aa.length≤Ap) (Fl:Kd.C Kd.string w A1 l1.length l1) (Fm:l1.length≤c1) (h:spec_l04Lit.f k Af Ag Aa l1=some (r1,r2)) :
  Calls Try.prog 48 #[.agg #[.int .i64 Af,.string Ag,.slice Am Aa.length Ap],.slice A1 l1.length c1] w fun e w'=>e=.returned (.tuple #[.string r1,.bool r2])∧Below w.heap.size w w':=by
 have Hn:=Try.underlying33
 have Ar:=y0.mk Cn
 have Fn:=y0.mk Cp
 clear Cn Cp
 have Cq:=y0.mk Fl
 have Hy:=y0.mk Fm
 clear Fl Fm
 have HB:=y0.mk (Below.refl w.heap.size w)
 have H:(if Af=3 then(if(Aa.length:Int)=2 then(if 0 < (Aa.length:Int)then(if 0≤(rd Aa 0)then(if(rd Aa 0) < (l1.length:Int)then(if(rdOf ByteArray.empty l1 (rd Aa 0)).size + 1≤9223372036854775807 then(if((rdOf ByteArray.empty l1 (rd Aa 0)) ++ (⟨#[32]⟩:ByteArray)).size + Ag.size≤9223372036854775807 then(if(((rdOf ByteArray.empty l1 (rd Aa 0)) ++ (⟨#[32]⟩:ByteArray)) ++ Ag).size + 1≤9223372036854775807 then(if 1 < (Aa.length:Int)then(if 0≤(rd Aa 1)then(if(rd Aa 1) < (l1.length:Int)then(if((((rdOf ByteArray.empty l1 (rd Aa 0)) ++ (⟨#[32]⟩:ByteArray)) ++ Ag) ++ (⟨#[32]⟩:ByteArray)).size + (rdOf ByteArray.empty l1 (rd Aa 1)).size≤9223372036854775807 then(some (((((rdOf ByteArray.empty l1 (rd Aa 0)) ++ (⟨#[32]⟩:ByteArray)) ++ Ag) ++ (⟨#[32]⟩:ByteArray)) ++ (rdOf ByteArray.empty l1 (rd Aa 1)),true))else(none))else(none))else(none))else(none))else(none))else(none))else(none))else(none))else(none))else(none))else(some ((⟨#[]⟩:ByteArray),false)))else(if Ag.size + 1≤9223372036854775807 then(if Af=2 then(if 1 + (Ag ++ (⟨#[40]⟩:ByteArray)).size≤9223372036854775807 then(spec_l04Lit.j0 k l1 ((⟨#[33]⟩:ByteArray) ++ (Ag ++ (⟨#[40]⟩:ByteArray))) Af Ag Aa)else(none))else(spec_l04Lit.j0 k l1 (Ag ++ (⟨#[40]⟩:ByteArray)) Af Ag Aa))else(none)))=some (r1,r2):=h
 clear h
 by_cases c3:Af=3
 ·rw [if_pos c3]at H
  have Dg:(Af == 3)=true:=beq_iff_eq.mpr c3
  have Dh:(Af != 3)=false:=bne_eq_false_iff_eq.mpr c3
  clear c3
  by_cases c4:(Aa.length:Int)=2
  ·rw [if_pos c4]at H
   have Ex:((Aa.length:Int) == 2)=true:=beq_iff_eq.mpr c4
   have Ey:((Aa.length:Int) != 2)=false:=bne_eq_false_iff_eq.mpr c4
   clear c4
   obtain⟨c5,H⟩:=qo H
   have Ho:decide (0 < (Aa.length:Int))=true:=decide_eq_true c5
   have Hp:decide (0 < Aa.length)=true:=decide_eq_true (by omega)
   clear c5
   obtain⟨c6,H⟩:=qo H
   have Hq:decide (0≤(rd Aa 0))=true:=decide_eq_true c6
   clear c6
   obtain⟨c7,H⟩:=qo H
   have Hr:decide ((rd Aa 0) < (l1.length:Int))=true:=decide_eq_true c7
   clear c7
   obtain⟨c8,H⟩:=qo H
   have Hs:=eq_true c8
   have Ht:=decide_eq_true c8
   have Hu:=eq_false (Nat.not_lt.2 c8)
   obtain⟨c9,H⟩:=qo H
   have Hv:=eq_true c9
   have Hw:=decide_eq_true c9
   have Ez:=eq_false (Nat.not_lt.2 c9)
   have Hx:(9223372036854775807 < (rdOf ByteArray.empty l1 (rd Aa 0)).size + 1 + Ag.size)=False:=qs Ez
   obtain⟨Fa,H⟩:=qo H
   have Fo:=eq_true Fa
   have Fp:=decide_eq_true Fa
   have Di:=eq_false (Nat.not_lt.2 Fa)
   have Fq:(9223372036854775807 < (rdOf ByteArray.empty l1 (rd Aa 0)).size + 1 + Ag.size + 1)=False:=qs Di
   obtain⟨Fr,H⟩:=qo H
   have Fs:decide (1 < (Aa.length:Int))=true:=decide_eq_true Fr
   have Ft:decide (1 < Aa.length)=true:=decide_eq_true (by omega)
   clear Fr
   obtain⟨Fu,H⟩:=qo H
   have Fv:decide (0≤(rd Aa 1))=true:=decide_eq_true Fu
   clear Fu
   obtain⟨Fx,H⟩:=qo H
   have Fy:decide ((rd Aa 1) < (l1.length:Int))=true:=decide_eq_true Fx
   clear Fx
   obtain⟨Fb,H⟩:=qo H
   have Fz:=eq_true Fb
   have Ga:=decide_eq_true Fb
   have Dj:=eq_false (Nat.not_lt.2 Fb)
   have Gb:(9223372036854775807 < (rdOf ByteArray.empty l1 (rd Aa 0)).size + 1 + Ag.size + 1 + (rdOf ByteArray.empty l1 (rd Aa 1)).size)=False:=qs Dj
   simp only [Option.some.injEq,Prod.mk.injEq]at H
   obtain⟨rfl,rfl⟩:=H
   go_enter Try.func48,Try.ntmps48
   go_wp2_with (first|((with_reducible refine y17 (N:=2) rfl ?_);refine qe 2 #[.int .i64 Af,.string Ag,.slice Am Aa.length Ap] 33 ?_;intro Ak hg Gc hbox hb;have Ad:=y0.mk (hbox);have As:=y0.mk (qg (w:=w) hg);have At:=y0.mk (qg (w:=w) hg);replace HB:=y0.mk (y5 qb hb);clear hb hbox hg;obtain⟨Bs,Bt,Bu,Bv,Bw,Bx⟩:=qz3 Ad.out;have Au:0≤(0:Int):=(by omega);have Av:0 < (Aa.length:Int):=of_decide_eq_true qy0;obtain⟨Bn,Ch,Ab⟩:=Kd.at_int Ar.out 0 Au Av;cases Ch;have Cr:(0 < Aa.length)=True:=eq_true (by omega);(try rw [show((0:Int)).toNat=0 from rfl]at Ab);(try rw [Addr.add_zero']at Ab);replace Ab:=(HB.out.cell (World.block_lt_of_cell? w _ Ab)).trans Ab;replace Au:=eq_true Au;replace Av:=eq_true Av;have Aw:0≤((rd Aa 0):Int):=of_decide_eq_true qy0;have Ay:(rd Aa 0) < (l1.length:Int):=of_decide_eq_true qy0;obtain⟨Bo,Ci,Ai⟩:=Kd.at_string Cq.out (rd Aa 0) Aw Ay;cases Ci;replace Ai:=(HB.out.cell (World.block_lt_of_cell? w _ Ai)).trans Ai;replace Aw:=eq_true Aw;replace Ay:=eq_true Ay;have Az:0≤(1:Int):=(by omega);have Ba:1 < (Aa.length:Int):=of_decide_eq_true qy0;obtain⟨Bp,Cj,Ac⟩:=Kd.at_int Ar.out 1 Az Ba;obtain rfl:Bn=Bp:=(by injection Cj);(try simp only [show(1:Int).toNat=1 from rfl,Nat.reduceMul,Nat.reduceEqDiff,Go.Addr.add,↓reduceIte]at Ac);have Cs:(1 < Aa.length)=True:=eq_true (by omega);(try rw [show((1:Int)).toNat=1 from rfl]at Ac);replace Ac:=(HB.out.cell (World.block_lt_of_cell? w _ Ac)).trans Ac;replace Az:=eq_true Az;replace Ba:=eq_true Ba;have Bb:0≤((rd Aa 1):Int):=of_decide_eq_true qy0;have Bc:(rd Aa 1) < (l1.length:Int):=of_decide_eq_true qy0;obtain⟨Bq,Ck,Aj⟩:=Kd.at_string Cq.out (rd Aa 1) Bb Bc;obtain rfl:Bo=Bq:=(by injection Ck);replace Aj:=(HB.out.cell (World.block_lt_of_cell? w _ Aj)).trans Aj;replace Bb:=eq_true Bb;replace Bc:=eq_true Bc))
   repeat(go_quiet (first|((with_reducible refine y17 (N:=2) rfl ?_);refine qe 2 #[.int .i64 Af,.string Ag,.slice Am Aa.length Ap] 33 ?_;intro Ak hg Gc hbox hb;have Ad:=y0.mk (hbox);have As:=y0.mk (qg (w:=w) hg);have At:=y0.mk (qg (w:=w) hg);replace HB:=y0.mk (y5 qb hb);clear hb hbox hg;obtain⟨Bs,Bt,Bu,Bv,Bw,Bx⟩:=qz3 Ad.out;have Au:0≤(0:Int):=(by omega);have Av:0 < (Aa.length:Int):=of_decide_eq_true qy0;obtain⟨Bn,Ch,Ab⟩:=Kd.at_int Ar.out 0 Au Av;cases Ch;have Cr:(0 < Aa.length)=True:=eq_true (by omega);(try rw [show((0:Int)).toNat=0 from rfl]at Ab);(try rw [Addr.add_zero']at Ab);replace Ab:=(HB.out.cell (World.block_lt_of_cell? w _ Ab)).trans Ab;replace Au:=eq_true Au;replace Av:=eq_true Av;have Aw:0≤((rd Aa 0):Int):=of_decide_eq_true qy0;have Ay:(rd Aa 0) < (l1.length:Int):=of_decide_eq_true qy0;obtain⟨Bo,Ci,Ai⟩:=Kd.at_string Cq.out (rd Aa 0) Aw Ay;cases Ci;replace Ai:=(HB.out.cell (World.block_lt_of_cell? w _ Ai)).trans Ai;replace Aw:=eq_true Aw;replace Ay:=eq_true Ay;have Az:0≤(1:Int):=(by omega);have Ba:1 < (Aa.length:Int):=of_decide_eq_true qy0;obtain⟨Bp,Cj,Ac⟩:=Kd.at_int Ar.out 1 Az Ba;obtain rfl:Bn=Bp:=(by injection Cj);(try simp only [show(1:Int).toNat=1 from rfl,Nat.reduceMul,Nat.reduceEqDiff,Go.Addr.add,↓reduceIte]at Ac);have Cs:(1 < Aa.length)=True:=eq_true (by omega);(try rw [show((1:Int)).toNat=1 from rfl]at Ac);replace Ac:=(HB.out.cell (World.block_lt_of_cell? w _ Ac)).trans Ac;replace Az:=eq_true Az;replace Ba:=eq_true Ba;have Bb:0≤((rd Aa 1):Int):=of_decide_eq_true qy0;have Bc:(rd Aa 1) < (l1.length:Int):=of_decide_eq_true qy0;obtain⟨Bq,Ck,Aj⟩:=Kd.at_string Cq.out (rd Aa 1) Bb Bc;obtain rfl:Bo=Bq:=(by injection Ck);replace Aj:=(HB.out.cell (World.block_lt_of_cell? w _ Aj)).trans Aj;replace Bb:=eq_true Bb;replace Bc:=eq_true Bc));try go_wp2_with (first|((with_reducible refine y17 (N:=2) rfl ?_);refine qe 2 #[.int .i64 Af,.string Ag,.slice Am Aa.length Ap] 33 ?_;intro Ak hg Gc hbox hb;have Ad:=y0.mk (hbox);have As:=y0.mk (qg (w:=w) hg);have At:=y0.mk (qg (w:=w) hg);replace HB:=y0.mk (y5 qb hb);clear hb hbox hg;obtain⟨Bs,Bt,Bu,Bv,Bw,Bx⟩:=qz3 Ad.out;have Au:0≤(0:Int):=(by omega);have Av:0 < (Aa.length:Int):=of_decide_eq_true qy0;obtain⟨Bn,Ch,Ab⟩:=Kd.at_int Ar.out 0 Au Av;cases Ch;have Cr:(0 < Aa.length)=True:=eq_true (by omega);(try rw [show((0:Int)).toNat=0 from rfl]at Ab);(try rw [Addr.add_zero']at Ab);replace Ab:=(HB.out.cell (World.block_lt_of_cell? w _ Ab)).trans Ab;replace Au:=eq_true Au;replace Av:=eq_true Av;have Aw:0≤((rd Aa 0):Int):=of_decide_eq_true qy0;have Ay:(rd Aa 0) < (l1.length:Int):=of_decide_eq_true qy0;obtain⟨Bo,Ci,Ai⟩:=Kd.at_string Cq.out (rd Aa 0) Aw Ay;cases Ci;replace Ai:=(HB.out.cell (World.block_lt_of_cell? w _ Ai)).trans Ai;replace Aw:=eq_true Aw;replace Ay:=eq_true Ay;have Az:0≤(1:Int):=(by omega);have Ba:1 < (Aa.length:Int):=of_decide_eq_true qy0;obtain⟨Bp,Cj,Ac⟩:=Kd.at_int Ar.out 1 Az Ba;obtain rfl:Bn=Bp:=(by injection Cj);(try simp only [show(1:Int).toNat=1 from rfl,Nat.reduceMul,Nat.reduceEqDiff,Go.Addr.add,↓reduceIte]at Ac);have Cs:(1 < Aa.length)=True:=eq_true (by omega);(try rw [show((1:Int)).toNat=1 from rfl]at Ac);replace Ac:=(HB.out.cell (World.block_lt_of_cell? w _ Ac)).trans Ac;replace Az:=eq_true Az;replace Ba:=eq_true Ba;have Bb:0≤((rd Aa 1):Int):=of_decide_eq_true qy0;have Bc:(rd Aa 1) < (l1.length:Int):=of_decide_eq_true qy0;obtain⟨Bq,Ck,Aj⟩:=Kd.at_string Cq.out (rd Aa 1) Bb Bc;obtain rfl:Bo=Bq:=(by injection Ck);replace Aj:=(HB.out.cell (World.block_lt_of_cell? w _ Aj)).trans Aj;replace Bb:=eq_true Bb;replace Bc:=eq_true Bc)))
   go_ret2
   exact⟨qf,qb⟩
  ·rw [if_neg c4]at H
   have Ex:((Aa.length:Int) == 2)=false:=beq_eq_false_iff_ne.mpr c4
   have Ey:((Aa.length:Int) != 2)=true:=bne_iff_ne.mpr c4
   simp only [Option.some.injEq,Prod.mk.injEq]at H
   obtain⟨rfl,rfl⟩:=H
   go_enter Try.func48,Try.ntmps48
   go_wp2_with (first|((with_reducible refine y17 (N:=2) rfl ?_);refine qe 2 #[.int .i64 Af,.string Ag,.slice Am Aa.length Ap] 33 ?_;intro Ak hg Gd hbox hb;have Ad:=y0.mk (hbox);have As:=y0.mk (qg (w:=w) hg);have At:=y0.mk (qg (w:=w) hg);replace HB:=y0.mk (y5 qb hb);clear hb hbox hg;obtain⟨Bz,Ca,Cb,Cc,Cd,Ce⟩:=qz3 Ad.out))
   repeat(go_quiet (first|((with_reducible refine y17 (N:=2) rfl ?_);refine qe 2 #[.int .i64 Af,.string Ag,.slice Am Aa.length Ap] 33 ?_;intro Ak hg Gd hbox hb;have Ad:=y0.mk (hbox);have As:=y0.mk (qg (w:=w) hg);have At:=y0.mk (qg (w:=w) hg);replace HB:=y0.mk (y5 qb hb);clear hb hbox hg;obtain⟨Bz,Ca,Cb,Cc,Cd,Ce⟩:=qz3 Ad.out));try go_wp2_with (first|((with_reducible refine y17 (N:=2) rfl ?_);refine qe 2 #[.int .i64 Af,.string Ag,.slice Am Aa.length Ap] 33 ?_;intro Ak hg Gd hbox hb;have Ad:=y0.mk (hbox);have As:=y0.mk (qg (w:=w) hg);have At:=y0.mk (qg (w:=w) hg);replace HB:=y0.mk (y5 qb hb);clear hb hbox hg;obtain⟨Bz,Ca,Cb,Cc,Cd,Ce⟩:=qz3 Ad.out)))
   go_ret2
   exact⟨qf,qb⟩
 ·rw [if_neg c3]at H
  have Dg:(Af == 3)=false:=beq_eq_false_iff_ne.mpr c3
  have Dh:(Af != 3)=true:=bne_iff_ne.mpr c3
  obtain⟨Dw,H⟩:=qo H
  have Dk:=eq_true Dw
  have Dl:=decide_eq_true Dw
  have Dm:=eq_false (Nat.not_lt.2 Dw)
  have Ct:=y0.mk H
  clear H
  go_enter Try.func48,Try.ntmps48
  go_upto_if 40 with(first|((with_reducible refine y17 (N:=2) rfl ?_);refine qe 2 #[.int .i64 Af,.string Ag,.slice Am Aa.length Ap] 33 ?_;intro Ak hg Ge hbox hb;have Ad:=y0.mk (hbox);have As:=y0.mk (qg (w:=w) hg);have At:=y0.mk (qg (w:=w) hg);replace HB:=y0.mk (y5 qb hb);clear hb hbox hg;obtain⟨Bd,Be,Bf,Bg,Bh,Bi⟩:=qz3 Ad.out))
  repeat(go_quiet (first|((with_reducible refine y17 (N:=2) rfl ?_);refine qe 2 #[.int .i64 Af,.string Ag,.slice Am Aa.length Ap] 33 ?_;intro Ak hg Ge hbox hb;have Ad:=y0.mk (hbox);have As:=y0.mk (qg (w:=w) hg);have At:=y0.mk (qg (w:=w) hg);replace HB:=y0.mk (y5 qb hb);clear hb hbox hg;obtain⟨Bd,Be,Bf,Bg,Bh,Bi⟩:=qz3 Ad.out));go_upto_if 40 with(first|((with_reducible refine y17 (N:=2) rfl ?_);refine qe 2 #[.int .i64 Af,.string Ag,.slice Am Aa.length Ap] 33 ?_;intro Ak hg Ge hbox hb;have Ad:=y0.mk (hbox);have As:=y0.mk (qg (w:=w) hg);have At:=y0.mk (qg (w:=w) hg);replace HB:=y0.mk (y5 qb hb);clear hb hbox hg;obtain⟨Bd,Be,Bf,Bg,Bh,Bi⟩:=qz3 Ad.out)))
  (try simp only [Act.put,qS_,qZ_,qC_])
  go_cut [6] (fun v6 wc=>∃(kq:Nat) (Cf:ByteArray),v6=.string Cf∧y0 (spec_l04Lit.j0 kq l1 Cf Af Ag Aa=some (r1,r2))∧y0 (kq≤k)∧y0 (wc.heap[Ak]?=some (.cells #[.int .i64 Af,.string Ag,(.slice Am Aa.length Ap)] 33 (0,0)))∧y0 (Below w.heap.size w wc))
  case first =>
   have H:=Ct.out
   clear Ct
   by_cases Cu:Af=2
   ·rw [if_pos Cu]at H
    have Br:(Af == 2)=true:=beq_iff_eq.mpr Cu
    have Do:(Af != 2)=false:=bne_eq_false_iff_eq.mpr Cu
    clear Cu
    (first|rw [Br]|(simp only [i64_w,i32_w];rw [Br])|skip)
    obtain⟨Fc,H⟩:=qo H
    have Gf:=eq_true Fc
    have Gg:=decide_eq_true Fc
    have Cl:=eq_false (Nat.not_lt.2 Fc)
    have Gh:(9223372036854775807 < 1 + Ag.size + 1)=False:=qs Cl
    have Gi:(9223372036854775807 < 1 + (Ag.size + 1))=False:=qs Cl
    have Gj:(9223372036854775807 < 1 + (Ag.size + 1))=False:=qs Cl
    have H':=y0.mk H
    clear H
    go_wp2
    repeat(go_quiet (fail);try go_wp2)
    go_meet
    exact⟨_,((⟨#[33]⟩:ByteArray) ++ (Ag ++ (⟨#[40]⟩:ByteArray))),qy2,H',⟨by first|omega|exact Nat.le_refl _⟩,⟨qk Ad.out⟩,⟨qb⟩⟩
   ·rw [if_neg Cu]at H
    have Br:(Af == 2)=false:=beq_eq_false_iff_ne.mpr Cu
    have Do:(Af != 2)=true:=bne_iff_ne.mpr Cu
    (first|rw [Br]|(simp only [i64_w,i32_w];rw [Br])|skip)
    have H':=y0.mk H
    clear H
    go_wp2
    repeat(go_quiet (fail);try go_wp2)
    go_meet
    exact⟨_,(Ag ++ (⟨#[40]⟩:ByteArray)),qy2,H',⟨by first|omega|exact Nat.le_refl _⟩,⟨qk Ad.out⟩,⟨qb⟩⟩
  case rest =>
   clear Ct
   (try clear Dg Dh Dw Dk Dl Dm Bd Be Bf Bg Bh Bi)
   obtain⟨kq,Cf,rfl,HA,Cm,Ad,HB⟩:=hcut
   cases kq with
   | zero=>exact absurd HA.out (by simp [spec_l04Lit.j0])
   | succ Dp =>
    have H:=HA.out
    clear HA
    simp only [spec_l04Lit.j0]at H
    have H':=y0.mk H
    clear H
    go_wp2
    repeat(go_quiet (fail);try go_wp2)
    go_loopg [6,7] Dp (fun kq v6 v7 w'=>∃(Cg:ByteArray) (Ah:Int),v6=.string Cg∧v7=.int .i64 Ah∧y0 (spec_l04Lit.l0 kq l1 Cg Ah Af Ag Aa=some (r1,r2))∧y0 (kq≤Dp)∧y0 (w'.heap[Ak]?=some (.cells #[.int .i64 Af,.string Ag,(.slice Am Aa.length Ap)] 33 (0,0)))∧y0 (Below w.heap.size w w'))
    case atStart=>exact⟨(Cf),(0),qy2,qy2,H',⟨Nat.le_refl _⟩,⟨qk Ad.out⟩,⟨qb⟩⟩
    case round =>
     clear H'
     obtain⟨Cg,Ah,rfl,rfl,HA,Dx,Ad,HB⟩:=hrel
     cases gk with
     | zero=>exact absurd HA.out (by simp [spec_l04Lit.l0])
     | succ k2 =>
      have H:=HA.out
      clear HA
      simp only [spec_l04Lit.l0]at H
      by_cases De:Ah < (Aa.length:Int)
      ·rw [if_pos De]at H
       have Dq:=decide_eq_true De
       clear De
       by_cases Df:Ah > 0
       ·rw [if_pos Df]at H
        have Dr:decide (0 < Ah)=true:=decide_eq_true Df
        clear Df
        obtain⟨Fd,H⟩:=qo H
        have Gk:=eq_true Fd
        have Gl:=decide_eq_true Fd
        have Gm:=eq_false (Nat.not_lt.2 Fd)
        obtain⟨Gn,H⟩:=qo H
        have Gp:decide (0≤Ah)=true:=decide_eq_true Gn
        clear Gn
        obtain⟨Gq,H⟩:=qo H
        have Gr:decide (0≤(rd Aa Ah))=true:=decide_eq_true Gq
        clear Gq
        obtain⟨Gs,H⟩:=qo H
        have Gt:decide ((rd Aa Ah) < (l1.length:Int))=true:=decide_eq_true Gs
        clear Gs
        obtain⟨Fe,H⟩:=qo H
        have Gu:=eq_true Fe
        have Gv:=decide_eq_true Fe
        have Ds:=eq_false (Nat.not_lt.2 Fe)
        have Gw:(9223372036854775807 < Cg.size + 2 + (rdOf ByteArray.empty l1 (rd Aa Ah)).size)=False:=qs Ds
        have H':=y0.mk H
        clear H
        obtain⟨Dy,Dz,Ea,Eb,Ec,Ed⟩:=qz3 Ad.out
        have Cv:0≤(Ah:Int):=of_decide_eq_true qy0
        have Cw:Ah < (Aa.length:Int):=of_decide_eq_true qy0
        obtain⟨Gx,Ff,Bj⟩:=Kd.at_int Ar.out Ah Cv Cw
        cases Ff
        replace Bj:=(HB.out.cell (World.block_lt_of_cell? w _ Bj)).trans Bj
        replace Cv:=eq_true Cv
        replace Cw:=eq_true Cw
        have Cx:0≤((rd Aa Ah):Int):=of_decide_eq_true qy0
        have Cy:(rd Aa Ah) < (l1.length:Int):=of_decide_eq_true qy0
        obtain⟨Gy,Fg,Bk⟩:=Kd.at_string Cq.out (rd Aa Ah) Cx Cy
        cases Fg
        replace Bk:=(HB.out.cell (World.block_lt_of_cell? w _ Bk)).trans Bk
        replace Cx:=eq_true Cx
        replace Cy:=eq_true Cy
        go_wp2
        repeat(go_quiet (fail);try go_wp2)
        go_roundg k2
        case measure=>have:=Cm.out;have:=Dx.out;omega
        exact⟨((Cg ++ (⟨#[44,32]⟩:ByteArray)) ++ (rdOf ByteArray.empty l1 (rd Aa Ah))),(wrap64 (Ah + 1)),qy2,qy2,H',⟨by have:=Cm.out;have:=Dx.out;omega⟩,⟨qk Ad.out⟩,⟨qb⟩⟩
       ·rw [if_neg Df]at H
        have Dr:decide (0 < Ah)=false:=decide_eq_false Df
        clear Df
        obtain⟨Gz,H⟩:=qo H
        have Ha:decide (0≤Ah)=true:=decide_eq_true Gz
        clear Gz
        obtain⟨Hb,H⟩:=qo H
        have Hc:decide (0≤(rd Aa Ah))=true:=decide_eq_true Hb
        clear Hb
        obtain⟨Hd,H⟩:=qo H
        have He:decide ((rd Aa Ah) < (l1.length:Int))=true:=decide_eq_true Hd
        clear Hd
        obtain⟨Fh,H⟩:=qo H
        have Hf:=eq_true Fh
        have Hg:=decide_eq_true Fh
        have Hh:=eq_false (Nat.not_lt.2 Fh)
        have H':=y0.mk H
        clear H
        obtain⟨Ee,Ef,Eg,Eh,Ei,Ej⟩:=qz3 Ad.out
        have Cz:0≤(Ah:Int):=of_decide_eq_true qy0
        have Da:Ah < (Aa.length:Int):=of_decide_eq_true qy0
        obtain⟨Hi,Fi,Bl⟩:=Kd.at_int Ar.out Ah Cz Da
        cases Fi
        replace Bl:=(HB.out.cell (World.block_lt_of_cell? w _ Bl)).trans Bl
        replace Cz:=eq_true Cz
        replace Da:=eq_true Da
        have Db:0≤((rd Aa Ah):Int):=of_decide_eq_true qy0
        have Dc:(rd Aa Ah) < (l1.length:Int):=of_decide_eq_true qy0
        obtain⟨Hj,Fj,Bm⟩:=Kd.at_string Cq.out (rd Aa Ah) Db Dc
        cases Fj
        replace Bm:=(HB.out.cell (World.block_lt_of_cell? w _ Bm)).trans Bm
        replace Db:=eq_true Db
        replace Dc:=eq_true Dc
        go_wp2
        repeat(go_quiet (fail);try go_wp2)
        go_roundg k2
        case measure=>have:=Cm.out;have:=Dx.out;omega
        exact⟨(Cg ++ (rdOf ByteArray.empty l1 (rd Aa Ah))),(wrap64 (Ah + 1)),qy2,qy2,H',⟨by have:=Cm.out;have:=Dx.out;omega⟩,⟨qk Ad.out⟩,⟨qb⟩⟩
      ·rw [if_neg De]at H
       have Dq:=decide_eq_false De
       clear De
       obtain⟨Fk,H⟩:=qo H
       have Hk:=eq_true Fk
       have Hl:=decide_eq_true Fk
       have Hm:=eq_false (Nat.not_lt.2 Fk)
       by_cases Dd:Af=1
       ·rw [if_pos Dd]at H
        have Dt:(Af == 1)=true:=beq_iff_eq.mpr Dd
        have Du:(Af != 1)=false:=bne_eq_false_iff_eq.mpr Dd
        clear Dd
        simp only [Option.some.injEq,Prod.mk.injEq]at H
        obtain⟨rfl,rfl⟩:=H
        obtain⟨Ek,El,Em,En,Eo,Ep⟩:=qz3 Ad.out
        go_wp2
        repeat(go_quiet (fail);try go_wp2)
        go_ret2
        exact⟨qf,qb⟩
       ·rw [if_neg Dd]at H
        have Dt:(Af == 1)=false:=beq_eq_false_iff_ne.mpr Dd
        have Du:(Af != 1)=true:=bne_iff_ne.mpr Dd
        simp only [Option.some.injEq,Prod.mk.injEq]at H
        obtain⟨rfl,rfl⟩:=H
        obtain⟨Eq,Er,Es,Et,Eu,Ew⟩:=qz3 Ad.out
        go_wp2
        repeat(go_quiet (fail);try go_wp2)
        go_ret2
        exact⟨qf,qb⟩
end Go.Proofs.Ytkdabljlfbmpdaa.Po
end
section
namespace Go.Proofs.Ytkdabljlfbmpdaa.Po
open Go.RowKit Go.Proofs.YtkdabljlfbmpdaaW.PrintWords Go.Proofs.YtkdabljlfbmpdaaW.PrintLast Go.Proofs.YtkdabljlfbmpdaaW.PrintMore
attribute [local go_sem] max2_int min2_int max_two min_two max_three min_three max_four min_four   -- for this text's walks alone
set_option linter.unusedVariables false
set_option linter.unusedSimpArgs false
mutual
def z7_.j0:Nat→List ByteArray→ByteArray→Bool→List (S63)→Int→ByteArray→List Int→List (S33)→Option (ByteArray)
 | 0,_,_,_,_,_,_,_,_=>none
 | k + 1,x3,x5,x34,x224000,x224001,x224002,x224003,x224004=>if x34=true then(some (⟨#[]⟩:ByteArray))else(z7_.l0 k x3 x5 0 x224000 x224001 x224002 x224003 x224004)
def z7_.l0:Nat→List ByteArray→ByteArray→Int→List (S63)→Int→ByteArray→List Int→List (S33)→Option (ByteArray)
 | 0,_,_,_,_,_,_,_,_=>none
 | k + 1,x3,x5,x6,x224000,x224001,x224002,x224003,x224004=>if x6 < (x224004.length:Int)then(z7_.j2 k x3 x5 x6 (decide ((x5.size:Int)≤3000)) x224000 x224001 x224002 x224003 x224004)else(z7_.j2 k x3 x5 x6 false x224000 x224001 x224002 x224003 x224004)
def z7_.j2:Nat→List ByteArray→ByteArray→Int→Bool→List (S63)→Int→ByteArray→List Int→List (S33)→Option (ByteArray)
 | 0,_,_,_,_,_,_,_,_,_=>none
 | k + 1,x3,x5,x6,x44,x224000,x224001,x224002,x224003,x224004=>if x44=true then(if x6=0 then(if x5.size + 4≤9223372036854775807 then(if 0≤x6 then(if x6 < (x224004.length:Int)then((spec_l04Lit.f k ((y20 x224004 x6).f0) ((y20 x224004 x6).f1) ((y20 x224004 x6).f2) x3).bind fun bt231=>(if bt231.2=true then(if(x5 ++ (⟨#[32,58,45,32]⟩:ByteArray)).size + bt231.1.size≤9223372036854775807 then(z7_.l0 k x3 ((x5 ++ (⟨#[32,58,45,32]⟩:ByteArray)) ++ bt231.1) (wrap64 (x6 + 1)) x224000 x224001 x224002 x224003 x224004)else(none))else(some (⟨#[]⟩:ByteArray))))else(none))else(none))else(none))else(if x5.size + 2≤9223372036854775807 then(if 0≤x6 then(if x6 < (x224004.length:Int)then((spec_l04Lit.f k ((y20 x224004 x6).f0) ((y20 x224004 x6).f1) ((y20 x224004 x6).f2) x3).bind fun bt234=>(if bt234.2=true then(if(x5 ++ (⟨#[44,32]⟩:ByteArray)).size + bt234.1.size≤9223372036854775807 then(z7_.l0 k x3 ((x5 ++ (⟨#[44,32]⟩:ByteArray)) ++ bt234.1) (wrap64 (x6 + 1)) x224000 x224001 x224002 x224003 x224004)else(none))else(some (⟨#[]⟩:ByteArray))))else(none))else(none))else(none)))else(if x5.size + 1≤9223372036854775807 then(if((x5 ++ (⟨#[46]⟩:ByteArray)).size:Int) > 3000 then(some (⟨#[]⟩:ByteArray))else(some (x5 ++ (⟨#[46]⟩:ByteArray))))else(none))
end
def z7_.f (k:Nat) (l0_0:List (S63)) (a0_1:Int) (a0_2:ByteArray) (l0_3:List Int) (l0_4:List (S33)):Option (ByteArray):=if(l0_4.length:Int) > 3000 then(some (⟨#[]⟩:ByteArray))else((z8_.f k l0_0 a0_1 a0_2 l0_3 l0_4).bind fun bt224=>(if bt224.2=true then((spec_l04Lit.f k a0_1 a0_2 l0_3 bt224.1).bind fun bt228=>(if bt228.2=true then(z7_.j0 k bt224.1 bt228.1 (a0_1 != 1) l0_0 a0_1 a0_2 l0_3 l0_4)else(z7_.j0 k bt224.1 bt228.1 true l0_0 a0_1 a0_2 l0_3 l0_4)))else(some (⟨#[]⟩:ByteArray))))
set_option maxHeartbeats 8000000 in
set_option maxRecDepth 100000 in
theorem z7_.calls (k:Nat) (Bd:Option Addr) (Be:Nat) (Ag:List (S63)) (Ad:Int) (Ah:ByteArray) (Bb:Option Addr) (Bc:Nat) (Af:List Int) (Bf:Option Addr) (Bg:Nat) (Aa:List (S33)) (r:ByteArray) (w:World) (Df:Kd.C k63 w Bd Ag.length Ag) (Dg:Ag.length≤Be) (Dh:Kd.C (Kd.int .i64) w Bb Af.length Af) (Di:Af.length≤Bc) (Dj:Kd.C k33 w Bf Aa.length Aa) (Dk:Aa.length≤Bg) (h:z7_.f k Ag Ad Ah Af Aa=some r) :
  Calls Try.prog 22 #[.agg #[.slice Bd Ag.length Be,.int .i64 Ad,.string Ah,.slice Bb Af.length Bc,.slice Bf Aa.length Bg]] w fun e w'=>e=.returned (.string r)∧Below w.heap.size w w':=by
 have Ju:=Try.underlying36
 have Jv:=Try.underlying33
 have Dl:=y0.mk Df
 have Dm:=y0.mk Dg
 clear Df Dg
 have Cd:=y0.mk Dh
 have Ce:=y0.mk Di
 clear Dh Di
 have Bh:=y0.mk Dj
 have Do:=y0.mk Dk
 clear Dj Dk
 have HB:=y0.mk (Below.refl w.heap.size w)
 have H:(if(Aa.length:Int) > 3000 then(some (⟨#[]⟩:ByteArray))else((z8_.f k Ag Ad Ah Af Aa).bind fun Ca=>(if Ca.2=true then((spec_l04Lit.f k Ad Ah Af Ca.1).bind fun Cf=>(if Cf.2=true then(z7_.j0 k Ca.1 Cf.1 (Ad != 1) Ag Ad Ah Af Aa)else(z7_.j0 k Ca.1 Cf.1 true Ag Ad Ah Af Aa)))else(some (⟨#[]⟩:ByteArray)))))=some r:=h
 clear h
 by_cases c2:(Aa.length:Int) > 3000
 ·rw [if_pos c2]at H
  have Eb:decide (3000 < (Aa.length:Int))=true:=decide_eq_true c2
  have Ec:decide (3000 < Aa.length)=true:=decide_eq_true (by omega)
  clear c2
  obtain rfl:=Option.some.inj H
  go_enter Try.func22,Try.ntmps22
  go_wp2_with (first|((with_reducible refine y17 (N:=1) rfl ?_);(try(refine gate_guard (by rfl) ?_;dsimp only));refine qe 1 #[.slice Bd Ag.length Be,.int .i64 Ad,.string Ah,.slice Bb Af.length Bc,.slice Bf Aa.length Bg] 36 ?_;intro Bn hg w3 hbox hb;have Ab:=y0.mk (hbox);have Dp:=y0.mk (qg (w:=w) hg);have Dq:=y0.mk (qg (w:=w) hg);replace HB:=y0.mk (y5 qb hb);clear hb hbox hg;obtain⟨Hx,Hy,Hz,Ia,Ib,Ic,Id,Ie,If,Ig⟩:=qz5 Ab.out))
  go_ret
  exact⟨qf,qb⟩
 ·rw [if_neg c2]at H
  have Eb:decide (3000 < (Aa.length:Int))=false:=decide_eq_false c2
  have Ec:decide (3000 < Aa.length)=false:=decide_eq_false (by omega)
  clear c2
  obtain⟨⟨Ai,Ih⟩,A5,H⟩:=qB H
  dsimp only at H
  by_cases c6:Ih=true
  ·subst c6
   replace H:=qT H
   obtain⟨⟨Cg,Ds⟩,A7,H⟩:=qB H
   replace H:(if Ds=true then(z7_.j0 k Ai Cg (Ad != 1) Ag Ad Ah Af Aa)else(z7_.j0 k Ai Cg true Ag Ad Ah Af Aa))=some r:=H
   have Ii:=y0.mk H
   clear H
   go_enter Try.func22,Try.ntmps22
   go_upto_region 7 with(first|((with_reducible refine y17 (N:=1) rfl ?_);(try(refine gate_guard (by rfl) ?_;dsimp only));refine qe 1 #[.slice Bd Ag.length Be,.int .i64 Ad,.string Ah,.slice Bb Af.length Bc,.slice Bf Aa.length Bg] 36 ?_;intro Bn hg w9 hbox hb;have Ab:=y0.mk (hbox);have Dp:=y0.mk (qg (w:=w) hg);have Dq:=y0.mk (qg (w:=w) hg);replace HB:=y0.mk (y5 qb hb);clear hb hbox hg;obtain⟨Ch,Ci,Cj,Ck,Cl,Cm,Cn,Cp,Cq,Cr⟩:=qz5 Ab.out)|((with_reducible refine y16 (f:=47) rfl ?_);refine y18 (some 15) rfl rfl Try.func47 (by kernel_rfl) rfl #[.agg #[.slice Bd Ag.length Be,.int .i64 Ad,.string Ah,.slice Bb Af.length Bc,.slice Bf Aa.length Bg]] rfl qy1 ?_;(with_reducible refine(z8_.calls k _ _ Ag Ad Ah (fun k_=>k_ < w.heap.size) _ _ Af (fun k_=>k_ < w.heap.size) _ _ Aa Ai true _ (qc (Kd.C_below Dl.out HB.out)) Dm.out (by exact Kd.V_mk Ce.out (Kd.F_below (Kd.C_F (Kd.heap_int .i64) Cd.out) qb)) (by exact Kd.V_mk Do.out (Kd.F_below (Kd.C_F k33_heap Bh.out) qb)) A5.out).mono ?_);rintro e Jy ⟨Ij,rfl,Ed,hb⟩;refine⟨_,rfl, ?_⟩;have Ba:=y0.mk (Kd.R_lower (Kd.R_mono (ok':=fun k_=>True) Ed (fun _ hk_=>trivial)) (y4 qb));replace Ab:=y0.mk (qK Ab.out hb);replace HB:=y0.mk (y5 qb hb);(try clear hb);(try clear Ed);obtain⟨Cs,Ct,Cu,Cv,Cw,Cx,Cy,Cz,Da,Db⟩:=qz5 Ab.out;obtain⟨Bo,Bp,Ik⟩:=Kd.R_slice Ba.out;subst Ik)|((with_reducible refine y16 (f:=48) rfl ?_);refine y18 (some 24) rfl rfl Try.func48 (by kernel_rfl) rfl #[.agg #[.int .i64 Ad,.string Ah,.slice Bb Af.length Bc],.slice Bo Ai.length Bp] rfl qy1 ?_;(with_reducible refine(spec_l04Lit.calls k Ad Ah _ _ Af _ _ Ai Cg Ds _ (qc (Kd.C_below Cd.out HB.out)) Ce.out (qc ((Kd.R_reads' Ba.out).2.2)) (by exact(Kd.R_reads' Ba.out).2.1) A7.out).mono ?_);rintro e Jz ⟨rfl,hb⟩;refine⟨_,rfl, ?_⟩;replace Ba:=y0.mk (Kd.R_below (qR Ba.out) hb);replace Ab:=y0.mk (qK Ab.out hb);replace HB:=y0.mk (y5 qb hb);(try clear hb)))
   (try simp only [Act.put,qS_,qZ_,qC_])
   go_cut [34] (fun Jw wc=>∃(kq:Nat) (Cb:Bool),Jw=.bool Cb∧y0 (z7_.j0 kq Ai Cg Cb Ag Ad Ah Af Aa=some r)∧y0 (kq≤k)∧y0 (Kd.R Kd.string 9 wc w.heap.size (fun _=>True) (.slice Bo Ai.length Bp) Ai)∧y0 (wc.heap[Bn]?=some (.cells #[(.slice Bd Ag.length Be),.int .i64 Ad,.string Ah,(.slice Bb Af.length Bc),(.slice Bf Aa.length Bg)] 36 (0,0)))∧y0 (Below w.heap.size w wc))
   case first =>
    have H:=Ii.out
    clear Ii
    by_cases Eo:Ds=true
    ·subst Eo
     replace H:=qT H
     have H':=y0.mk H
     clear H
     obtain⟨Ep,Eq,Er,Es,Et,Eu,Ew,Ex,Ey,Ez⟩:=qz5 Ab.out
     go_wp2
     go_meet
     exact⟨_,((Ad != 1)),qy2,H',⟨by first|omega|exact Nat.le_refl _⟩,⟨qR Ba.out⟩,⟨qk Ab.out⟩,⟨qb⟩⟩
    ·replace Eo:=Bool.eq_false_iff.mpr Eo
     subst Eo
     replace H:=qF H
     have H':=y0.mk H
     clear H
     go_wp2
     go_meet
     exact⟨_,(true),qy2,H',⟨by first|omega|exact Nat.le_refl _⟩,⟨qR Ba.out⟩,⟨qk Ab.out⟩,⟨qb⟩⟩
   case rest =>
    clear Ii
    (try clear Eb Ec c6 Ch Ci Cj Ck Cl Cs Ct Cu Cv Cw Cm Cn Cp Cq Cr Cx Cy Cz Da Db)
    obtain⟨kq,Cb,rfl,HA,Dy,Aj,Ab,HB⟩:=hcut
    cases kq with
    | zero=>exact absurd HA.out (by simp [z7_.j0])
    | succ Iu =>
     have H:=HA.out
     clear HA
     simp only [z7_.j0]at H
     by_cases Ee:Cb=true
     ·subst Ee
      replace H:=qT H
      obtain rfl:=Option.some.inj H
      go_wp2
      go_ret
      exact⟨qf,qb⟩
     ·replace Ee:=Bool.eq_false_iff.mpr Ee
      subst Ee
      replace H:=qF H
      have H':=y0.mk H
      clear H
      go_wp2
      go_loopg [5,6] Iu (fun kq v5 v6 w'=>∃(Ak:ByteArray) (Ac:Int),v5=.string Ak∧v6=.int .i64 Ac∧y0 (z7_.l0 kq Ai Ak Ac Ag Ad Ah Af Aa=some r)∧y0 (kq≤Iu)∧y0 (Kd.R Kd.string 9 w' w.heap.size (fun _=>True) (.slice Bo Ai.length Bp) Ai)∧y0 (w'.heap[Bn]?=some (.cells #[(.slice Bd Ag.length Be),.int .i64 Ad,.string Ah,(.slice Bb Af.length Bc),(.slice Bf Aa.length Bg)] 36 (0,0)))∧y0 (Below w.heap.size w w'))
      case atStart=>exact⟨(Cg),(0),qy2,qy2,H',⟨Nat.le_refl _⟩,⟨qR Aj.out⟩,⟨qk Ab.out⟩,⟨qb⟩⟩
      case round =>
       clear H'
       (try clear Ee)
       obtain⟨Ak,Ac,rfl,rfl,HA,Dz,Aj,Ab,HB⟩:=hrel
       cases gk with
       | zero=>exact absurd HA.out (by simp [z7_.l0])
       | succ k2 =>
        have H:=HA.out
        clear HA
        simp only [z7_.l0]at H
        have Dt:=y0.mk H
        clear H
        go_upto_region 10 with(fail)
        go_cut [44] (fun Jx wc=>∃(kq:Nat) (Bi:Bool),Jx=.bool Bi∧y0 (z7_.j2 kq Ai Ak Ac Bi Ag Ad Ah Af Aa=some r)∧y0 (kq≤k2)∧y0 (Kd.R Kd.string 9 wc w.heap.size (fun _=>True) (.slice Bo Ai.length Bp) Ai)∧y0 (wc.heap[Bn]?=some (.cells #[(.slice Bd Ag.length Be),.int .i64 Ad,.string Ah,(.slice Bb Af.length Bc),(.slice Bf Aa.length Bg)] 36 (0,0)))∧y0 (Below w.heap.size w wc))
        case first =>
         have H:=Dt.out
         clear Dt
         by_cases Ea:Ac < (Aa.length:Int)
         ·rw [if_pos Ea]at H
          have Bq:=decide_eq_true Ea
          clear Ea
          (first|rw [Bq]|(simp only [i64_w,i32_w];rw [Bq])|skip)
          have H':=y0.mk H
          clear H
          obtain⟨Fa,Fb,Fc,Fd,Fe,Ff,Fg,Fh,Fi,Fj⟩:=qz5 Ab.out
          go_wp2
          go_meet
          exact⟨_,(decide ((Ak.size:Int)≤3000)),qy2,H',⟨by have:=Dy.out;have:=Dz.out;first|omega|exact Nat.le_refl _⟩,⟨qR Aj.out⟩,⟨qk Ab.out⟩,⟨qb⟩⟩
         ·rw [if_neg Ea]at H
          have Bq:=decide_eq_false Ea
          clear Ea
          (first|rw [Bq]|(simp only [i64_w,i32_w];rw [Bq])|skip)
          have H':=y0.mk H
          clear H
          obtain⟨Fk,Fl,Fm,Fn,Fo,Fp,Fq,Fr,Fs,Ft⟩:=qz5 Ab.out
          go_wp2
          go_meet
          exact⟨_,(false),qy2,H',⟨by have:=Dy.out;have:=Dz.out;first|omega|exact Nat.le_refl _⟩,⟨qR Aj.out⟩,⟨qk Ab.out⟩,⟨qb⟩⟩
        case rest =>
         clear Dt
         obtain⟨kq,Bi,rfl,HA,Dc,Aj,Ab,HB⟩:=hcut
         cases kq with
         | zero=>exact absurd HA.out (by simp [z7_.j2])
         | succ Cc =>
          have H:=HA.out
          clear HA
          simp only [z7_.j2]at H
          by_cases Fu:Bi=true
          ·subst Fu
           replace H:=qT H
           by_cases Du:Ac=0
           ·rw [if_pos Du]at H
            have Ef:(Ac == 0)=true:=beq_iff_eq.mpr Du
            have Eg:(Ac != 0)=false:=bne_eq_false_iff_eq.mpr Du
            clear Du
            obtain⟨Il,H⟩:=qo H
            have Iv:=eq_true Il
            have Iw:=decide_eq_true Il
            have Ix:=eq_false (Nat.not_lt.2 Il)
            obtain⟨Iy,H⟩:=qo H
            have Iz:decide (0≤Ac)=true:=decide_eq_true Iy
            clear Iy
            obtain⟨Ja,H⟩:=qo H
            have Jb:decide (Ac < (Aa.length:Int))=true:=decide_eq_true Ja
            clear Ja
            obtain⟨⟨Dd,Im⟩,Jc,H⟩:=qB H
            dsimp only at H
            by_cases Fv:Im=true
            ·subst Fv
             replace H:=qT H
             obtain⟨Io,H⟩:=qo H
             have Jd:=eq_true Io
             have Je:=decide_eq_true Io
             have Eh:=eq_false (Nat.not_lt.2 Io)
             have Jf:(9223372036854775807 < Ak.size + 4 + Dd.size)=False:=qs Eh
             have H':=y0.mk H
             clear H
             obtain⟨Fx,Fy,Fz,Ga,Gb,Gc,Gd,Ge,Gf,Gg⟩:=qz5 Ab.out
             have Br:0≤(Ac:Int):=of_decide_eq_true qy0
             have Bs:Ac < (Aa.length:Int):=of_decide_eq_true qy0
             obtain⟨Ei,Bt,Bu,Dw,Am,Ap,Ar,Av,Aw⟩:=at_T33 Bh.out Ac Br Bs
             cases Dw
             replace Am:=(HB.out.cell (World.block_lt_of_cell? w _ Am)).trans Am
             replace Ap:=(HB.out.cell (World.block_lt_of_cell? w _ Ap)).trans Ap
             replace Ar:=(HB.out.cell (World.block_lt_of_cell? w _ Ar)).trans Ar
             have Bj:=y0.mk Aw
             have Bk:=y0.mk Av
             clear Aw Av
             replace Br:=eq_true Br
             replace Bs:=eq_true Bs
             go_wp2_with (first|((with_reducible refine y16 (f:=48) rfl ?_);refine y18 (some 60) rfl rfl Try.func48 (by kernel_rfl) rfl #[.agg #[.int .i64 ((y20 Aa Ac).f0),.string ((y20 Aa Ac).f1),.slice Bt ((y20 Aa Ac).f2).length Bu],.slice Bo Ai.length Bp] rfl qy1 ?_;(with_reducible refine(spec_l04Lit.calls Cc ((y20 Aa Ac).f0) ((y20 Aa Ac).f1) _ _ ((y20 Aa Ac).f2) _ _ Ai Dd true _ (qc (Kd.C_below Bj.out HB.out)) Bk.out (qc ((Kd.R_reads' Aj.out).2.2)) (by exact(Kd.R_reads' Aj.out).2.1) Jc.out).mono ?_);rintro e Ka ⟨rfl,hb⟩;refine⟨_,rfl, ?_⟩;replace Aj:=y0.mk (Kd.R_below (qR Aj.out) hb);replace Ab:=y0.mk (qK Ab.out hb);replace HB:=y0.mk (y5 qb hb);(try clear hb)))
             go_roundg Cc
             case measure=>have:=Dy.out;have:=Dz.out;have:=Dc.out;omega
             exact⟨((Ak ++ (⟨#[32,58,45,32]⟩:ByteArray)) ++ Dd),(wrap64 (Ac + 1)),qy2,qy2,H',⟨by have:=Dy.out;have:=Dz.out;have:=Dc.out;omega⟩,⟨qR Aj.out⟩,⟨qk Ab.out⟩,⟨qb⟩⟩
            ·replace Fv:=Bool.eq_false_iff.mpr Fv
             subst Fv
             replace H:=qF H
             obtain rfl:=Option.some.inj H
             obtain⟨Gh,Gi,Gj,Gk,Gl,Gm,Gn,Gp,Gq,Gr⟩:=qz5 Ab.out
             have Br:0≤(Ac:Int):=of_decide_eq_true qy0
             have Bs:Ac < (Aa.length:Int):=of_decide_eq_true qy0
             obtain⟨Ei,Bt,Bu,Dw,Am,Ap,Ar,Av,Aw⟩:=at_T33 Bh.out Ac Br Bs
             cases Dw
             replace Am:=(HB.out.cell (World.block_lt_of_cell? w _ Am)).trans Am
             replace Ap:=(HB.out.cell (World.block_lt_of_cell? w _ Ap)).trans Ap
             replace Ar:=(HB.out.cell (World.block_lt_of_cell? w _ Ar)).trans Ar
             have Bj:=y0.mk Aw
             have Bk:=y0.mk Av
             clear Aw Av
             replace Br:=eq_true Br
             replace Bs:=eq_true Bs
             go_wp2_with (first|((with_reducible refine y16 (f:=48) rfl ?_);refine y18 (some 60) rfl rfl Try.func48 (by kernel_rfl) rfl #[.agg #[.int .i64 ((y20 Aa Ac).f0),.string ((y20 Aa Ac).f1),.slice Bt ((y20 Aa Ac).f2).length Bu],.slice Bo Ai.length Bp] rfl qy1 ?_;(with_reducible refine(spec_l04Lit.calls Cc ((y20 Aa Ac).f0) ((y20 Aa Ac).f1) _ _ ((y20 Aa Ac).f2) _ _ Ai Dd false _ (qc (Kd.C_below Bj.out HB.out)) Bk.out (qc ((Kd.R_reads' Aj.out).2.2)) (by exact(Kd.R_reads' Aj.out).2.1) Jc.out).mono ?_);rintro e Kb ⟨rfl,hb⟩;refine⟨_,rfl, ?_⟩;replace Aj:=y0.mk (Kd.R_below (qR Aj.out) hb);replace Ab:=y0.mk (qK Ab.out hb);replace HB:=y0.mk (y5 qb hb);(try clear hb)))
             go_ret
             exact⟨qf,qb⟩
           ·rw [if_neg Du]at H
            have Ef:(Ac == 0)=false:=beq_eq_false_iff_ne.mpr Du
            have Eg:(Ac != 0)=true:=bne_iff_ne.mpr Du
            obtain⟨Ip,H⟩:=qo H
            have Jg:=eq_true Ip
            have Jh:=decide_eq_true Ip
            have Ji:=eq_false (Nat.not_lt.2 Ip)
            obtain⟨Jj,H⟩:=qo H
            have Jk:decide (0≤Ac)=true:=decide_eq_true Jj
            clear Jj
            obtain⟨Jl,H⟩:=qo H
            have Jm:=decide_eq_true Jl
            clear Jl
            obtain⟨⟨De,Iq⟩,Jn,H⟩:=qB H
            dsimp only at H
            by_cases Gs:Iq=true
            ·subst Gs
             replace H:=qT H
             obtain⟨Ir,H⟩:=qo H
             have Jo:=eq_true Ir
             have Jp:=decide_eq_true Ir
             have Ej:=eq_false (Nat.not_lt.2 Ir)
             have Jq:(9223372036854775807 < Ak.size + 2 + De.size)=False:=qs Ej
             have H':=y0.mk H
             clear H
             obtain⟨Gt,Gu,Gv,Gw,Gx,Gy,Gz,Ha,Hb,Hc⟩:=qz5 Ab.out
             have Bv:0≤(Ac:Int):=of_decide_eq_true qy0
             have Bw:Ac < (Aa.length:Int):=of_decide_eq_true qy0
             obtain⟨Ek,Bx,Bz,Dx,As,At,Au,Ay,Az⟩:=at_T33 Bh.out Ac Bv Bw
             cases Dx
             replace As:=(HB.out.cell (World.block_lt_of_cell? w _ As)).trans As
             replace At:=(HB.out.cell (World.block_lt_of_cell? w _ At)).trans At
             replace Au:=(HB.out.cell (World.block_lt_of_cell? w _ Au)).trans Au
             have Bl:=y0.mk Az
             have Bm:=y0.mk Ay
             clear Az Ay
             replace Bv:=eq_true Bv
             replace Bw:=eq_true Bw
             go_wp2_with (first|((with_reducible refine y16 (f:=48) rfl ?_);refine y18 (some 60) rfl rfl Try.func48 (by kernel_rfl) rfl #[.agg #[.int .i64 ((y20 Aa Ac).f0),.string ((y20 Aa Ac).f1),.slice Bx ((y20 Aa Ac).f2).length Bz],.slice Bo Ai.length Bp] rfl qy1 ?_;(with_reducible refine(spec_l04Lit.calls Cc ((y20 Aa Ac).f0) ((y20 Aa Ac).f1) _ _ ((y20 Aa Ac).f2) _ _ Ai De true _ (qc (Kd.C_below Bl.out HB.out)) Bm.out (qc ((Kd.R_reads' Aj.out).2.2)) (by exact(Kd.R_reads' Aj.out).2.1) Jn.out).mono ?_);rintro e Ke ⟨rfl,hb⟩;refine⟨_,rfl, ?_⟩;replace Aj:=y0.mk (Kd.R_below (qR Aj.out) hb);replace Ab:=y0.mk (qK Ab.out hb);replace HB:=y0.mk (y5 qb hb);(try clear hb)))
             go_roundg Cc
             case measure=>have:=Dy.out;have:=Dz.out;have:=Dc.out;omega
             exact⟨((Ak ++ (⟨#[44,32]⟩:ByteArray)) ++ De),(wrap64 (Ac + 1)),qy2,qy2,H',⟨by have:=Dy.out;have:=Dz.out;have:=Dc.out;omega⟩,⟨qR Aj.out⟩,⟨qk Ab.out⟩,⟨qb⟩⟩
            ·replace Gs:=Bool.eq_false_iff.mpr Gs
             subst Gs
             replace H:=qF H
             obtain rfl:=Option.some.inj H
             obtain⟨Hd,He,Hf,Hg,Hh,Hi,Hj,Hk,Hl,Hm⟩:=qz5 Ab.out
             have Bv:0≤(Ac:Int):=of_decide_eq_true qy0
             have Bw:Ac < (Aa.length:Int):=of_decide_eq_true qy0
             obtain⟨Ek,Bx,Bz,Dx,As,At,Au,Ay,Az⟩:=at_T33 Bh.out Ac Bv Bw
             cases Dx
             replace As:=(HB.out.cell (World.block_lt_of_cell? w _ As)).trans As
             replace At:=(HB.out.cell (World.block_lt_of_cell? w _ At)).trans At
             replace Au:=(HB.out.cell (World.block_lt_of_cell? w _ Au)).trans Au
             have Bl:=y0.mk Az
             have Bm:=y0.mk Ay
             clear Az Ay
             replace Bv:=eq_true Bv
             replace Bw:=eq_true Bw
             go_wp2_with (first|((with_reducible refine y16 (f:=48) rfl ?_);refine y18 (some 60) rfl rfl Try.func48 (by kernel_rfl) rfl #[.agg #[.int .i64 ((y20 Aa Ac).f0),.string ((y20 Aa Ac).f1),.slice Bx ((y20 Aa Ac).f2).length Bz],.slice Bo Ai.length Bp] rfl qy1 ?_;(with_reducible refine(spec_l04Lit.calls Cc ((y20 Aa Ac).f0) ((y20 Aa Ac).f1) _ _ ((y20 Aa Ac).f2) _ _ Ai De false _ (qc (Kd.C_below Bl.out HB.out)) Bm.out (qc ((Kd.R_reads' Aj.out).2.2)) (by exact(Kd.R_reads' Aj.out).2.1) Jn.out).mono ?_);rintro e Kf ⟨rfl,hb⟩;refine⟨_,rfl, ?_⟩;replace Aj:=y0.mk (Kd.R_below (qR Aj.out) hb);replace Ab:=y0.mk (qK Ab.out hb);replace HB:=y0.mk (y5 qb hb);(try clear hb)))
             go_ret
             exact⟨qf,qb⟩
          ·replace Fu:=Bool.eq_false_iff.mpr Fu
           subst Fu
           replace H:=qF H
           obtain⟨Is,H⟩:=qo H
           have Jr:=eq_true Is
           have Js:=decide_eq_true Is
           have Jt:=eq_false (Nat.not_lt.2 Is)
           by_cases Dr:((Ak ++ (⟨#[46]⟩:ByteArray)).size:Int) > 3000
           ·rw [if_pos Dr]at H
            have El:(3000 < (Ak.size:Int) + 1)=True:=eq_true (by have h_:=Dr;rw [show(Ak ++ (⟨#[46]⟩:ByteArray)).size=Ak.size + 1 from by(simp only [ByteArray.size_append];rfl)]at h_;omega)
            have Em:decide (3000 < ((Ak ++ (⟨#[46]⟩:ByteArray)).size:Int))=true:=decide_eq_true Dr
            have En:decide (3000 < (Ak ++ (⟨#[46]⟩:ByteArray)).size)=true:=decide_eq_true (by omega)
            clear Dr
            obtain rfl:=Option.some.inj H
            go_wp2
            go_ret
            exact⟨qf,qb⟩
           ·rw [if_neg Dr]at H
            have El:(3000 < (Ak.size:Int) + 1)=False:=eq_false (by have h_:=Dr;rw [show(Ak ++ (⟨#[46]⟩:ByteArray)).size=Ak.size + 1 from by(simp only [ByteArray.size_append];rfl)]at h_;omega)
            have Em:decide (3000 < ((Ak ++ (⟨#[46]⟩:ByteArray)).size:Int))=false:=decide_eq_false Dr
            have En:decide (3000 < (Ak ++ (⟨#[46]⟩:ByteArray)).size)=false:=decide_eq_false (by omega)
            clear Dr
            obtain rfl:=Option.some.inj H
            go_wp2
            go_ret
            exact⟨qf,qb⟩
  ·replace c6:=Bool.eq_false_iff.mpr c6
   subst c6
   replace H:=qF H
   obtain rfl:=Option.some.inj H
   go_enter Try.func22,Try.ntmps22
   go_wp2_with (first|((with_reducible refine y17 (N:=1) rfl ?_);(try(refine gate_guard (by rfl) ?_;dsimp only));refine qe 1 #[.slice Bd Ag.length Be,.int .i64 Ad,.string Ah,.slice Bb Af.length Bc,.slice Bf Aa.length Bg] 36 ?_;intro Bn hg Kg hbox hb;have Ab:=y0.mk (hbox);have Dp:=y0.mk (qg (w:=w) hg);have Dq:=y0.mk (qg (w:=w) hg);replace HB:=y0.mk (y5 qb hb);clear hb hbox hg;obtain⟨Hn,Ho,Hp,Hq,Hr,Hs,Ht,Hu,Hv,Hw⟩:=qz5 Ab.out)|((with_reducible refine y16 (f:=47) rfl ?_);refine y18 (some 15) rfl rfl Try.func47 (by kernel_rfl) rfl #[.agg #[.slice Bd Ag.length Be,.int .i64 Ad,.string Ah,.slice Bb Af.length Bc,.slice Bf Aa.length Bg]] rfl qy1 ?_;(with_reducible refine(z8_.calls k _ _ Ag Ad Ah (fun k_=>k_ < w.heap.size) _ _ Af (fun k_=>k_ < w.heap.size) _ _ Aa Ai false _ (qc (Kd.C_below Dl.out HB.out)) Dm.out (by exact Kd.V_mk Ce.out (Kd.F_below (Kd.C_F (Kd.heap_int .i64) Cd.out) qb)) (by exact Kd.V_mk Do.out (Kd.F_below (Kd.C_F k33_heap Bh.out) qb)) A5.out).mono ?_);rintro e Kh ⟨Ij,rfl,Ed,hb⟩;refine⟨_,rfl, ?_⟩;have Ba:=y0.mk (Kd.R_lower (Kd.R_mono (ok':=fun k_=>True) Ed (fun _ hk_=>trivial)) (y4 qb));replace Ab:=y0.mk (qK Ab.out hb);replace HB:=y0.mk (y5 qb hb);(try clear hb);(try clear Ed)))
   go_ret
   exact⟨qf,qb⟩
end Go.Proofs.Ytkdabljlfbmpdaa.Po
end
section
namespace Go.Proofs.Ytkdabljlfbmpdaa.Po
open Go.RowKit Go.Proofs.YtkdabljlfbmpdaaW.PrintWords Go.Proofs.YtkdabljlfbmpdaaW.PrintLast Go.Proofs.YtkdabljlfbmpdaaW.PrintMore
attribute [local go_sem] max2_int min2_int max_two min_two max_three min_three max_four min_four   -- for this text's walks alone
set_option linter.unusedVariables false
set_option linter.unusedSimpArgs false
def spec_l05In.l0:Nat→List ByteArray→ByteArray→Int→Option (Bool)
 | 0,_,_,_=>none
 | k + 1,x0,x1,x5=>if x5 < (x0.length:Int)then(if 0≤x5 then(if(rdOf ByteArray.empty x0 x5).toList=x1.toList then(some true)else(spec_l05In.l0 k x0 x1 (wrap64 (x5 + 1))))else(none))else(some false)
def spec_l05In.f (k:Nat) (l0:List ByteArray) (a1:ByteArray):Option (Bool):=spec_l05In.l0 k l0 a1 0
set_option maxHeartbeats 8000000 in
set_option maxRecDepth 100000 in
theorem spec_l05In.calls (k:Nat) (A0:Option Addr) (c0:Nat) (l0:List ByteArray) (a1:ByteArray) (r:Bool) (w:World) (Aj:Kd.C Kd.string w A0 l0.length l0) (Ak:l0.length≤c0) (h:spec_l05In.f k l0 a1=some r) :
  Calls Try.prog 39 #[.slice A0 l0.length c0,.string a1] w fun e w'=>e=.returned (.bool r)∧Drawn0 w w':=by
 have Ar:=y0.mk Aj
 have At:=y0.mk Ak
 clear Aj Ak
 have H:(spec_l05In.l0 k l0 a1 0)=some r:=h
 clear h
 have H':=y0.mk H
 clear H
 go_enter Try.func39,Try.ntmps39
 go_wp2
 go_loopg [5] k (fun kq v5 w'=>∃(Aa:Int),v5=.int .i64 Aa∧y0 (spec_l05In.l0 kq l0 a1 Aa=some r)∧y0 (kq≤k)∧Drawn0 w w')
 case atStart=>exact⟨(0),qy2,H',⟨Nat.le_refl _⟩,by repeat(first|exact Drawn0.refl _|apply Drawn0.step)⟩
 case round =>
  clear H'
  obtain⟨Aa,rfl,HA,Am,⟨m1,rfl⟩⟩:=hrel
  cases gk with
  | zero=>exact absurd HA.out (by simp [spec_l05In.l0])
  | succ k1 =>
   have H:=HA.out
   clear HA
   simp only [spec_l05In.l0]at H
   by_cases c3:Aa < (l0.length:Int)
   ·rw [if_pos c3]at H
    have Af:=decide_eq_true c3
    clear c3
    obtain⟨c4,H⟩:=qo H
    have As:decide (0≤Aa)=true:=decide_eq_true c4
    clear c4
    have Ab:0≤(Aa:Int):=of_decide_eq_true qy0
    have Ac:Aa < (l0.length:Int):=of_decide_eq_true qy0
    obtain⟨Ap,Ag,Ad⟩:=Kd.at_string Ar.out Aa Ab Ac
    cases Ag
    replace Ab:=eq_true Ab
    replace Ac:=eq_true Ac
    by_cases c5:(rdOf ByteArray.empty l0 Aa).toList=a1.toList
    ·rw [if_pos c5]at H
     have Ah:((rdOf ByteArray.empty l0 Aa).toList == a1.toList)=true:=beq_iff_eq.mpr c5
     have Ai:((rdOf ByteArray.empty l0 Aa).toList != a1.toList)=false:=bne_eq_false_iff_eq.mpr c5
     clear c5
     obtain rfl:=Option.some.inj H
     go_wp2
     go_ret
     exact qf2
    ·rw [if_neg c5]at H
     have Ah:((rdOf ByteArray.empty l0 Aa).toList == a1.toList)=false:=beq_eq_false_iff_ne.mpr c5
     have Ai:((rdOf ByteArray.empty l0 Aa).toList != a1.toList)=true:=bne_iff_ne.mpr c5
     have H':=y0.mk H
     clear H
     go_wp2
     go_roundg k1
     case measure=>have:=Am.out;omega
     exact⟨(wrap64 (Aa + 1)),qy2,H',⟨by have:=Am.out;omega⟩,by repeat(first|exact Drawn0.refl _|apply Drawn0.step)⟩
   ·rw [if_neg c3]at H
    have Af:=decide_eq_false c3
    clear c3
    obtain rfl:=Option.some.inj H
    go_wp2
    go_ret
    exact qf2
mutual
def z10_.l0:Nat→List Bool→Int→List (S63)→Int→ByteArray→List Int→List (S33)→Option (List Bool)
 | 0,_,_,_,_,_,_,_=>none
 | k + 1,x5,x6,x238000,x238001,x238002,x238003,x238004=>if x6≥0 then(z10_.l1 k x5 x6 0 x238000 x238001 x238002 x238003 x238004)else(some x5)
def z10_.l1:Nat→List Bool→Int→Int→List (S63)→Int→ByteArray→List Int→List (S33)→Option (List Bool)
 | 0,_,_,_,_,_,_,_,_=>none
 | k + 1,x5,x6,x7,x238000,x238001,x238002,x238003,x238004=>if 0≤x6 then(if x6 < (x238000.length:Int)then(if x7 < (((y21 x238000 x6).f2).length:Int)then(if x6 < (x5.length:Int)then(if rdOf false x5 x6=true then(if 0≤x7 then(if 0≤(rd ((y21 x238000 x6).f2) x7)then(if(rd ((y21 x238000 x6).f2) x7) < (x5.length:Int)then(z10_.l1 k (x5.set ((rd ((y21 x238000 x6).f2) x7):Int).toNat true) x6 (wrap64 (x7 + 1)) x238000 x238001 x238002 x238003 x238004)else(none))else(none))else(none))else(z10_.l0 k x5 (wrap64 (x6 - 1)) x238000 x238001 x238002 x238003 x238004))else(none))else(z10_.l0 k x5 (wrap64 (x6 - 1)) x238000 x238001 x238002 x238003 x238004))else(none))else(none)
end
def z10_.f (k:Nat) (l0_0:List (S63)) (a0_1:Int) (a0_2:ByteArray) (l0_3:List Int) (l0_4:List (S33)) (a1:Int):Option (List Bool):=if 0≤(l0_0.length:Int)then(if((l0_0.length:Int):Int).toNat≤281474976710656 then((some (List.replicate ((l0_0.length:Int):Int).toNat false:List Bool)).bind fun y238=>(if 0≤a1 then(if a1 < (y238.length:Int)then(z10_.l0 k (y238.set (a1:Int).toNat true) a1 l0_0 a0_1 a0_2 l0_3 l0_4)else(none))else(none)))else(none))else(none)
set_option maxHeartbeats 8000000 in
set_option maxRecDepth 100000 in
theorem z10_.calls (k:Nat) (Bq:Option Addr) (Br:Nat) (Ab:List (S63)) (Aw:Int) (Ay:ByteArray) (Bs:Option Addr) (Bt:Nat) (Ar:List Int) (Bu:Option Addr) (Bv:Nat) (As:List (S33)) (a1:Int) (r:List Bool) (w:World) (Ch:Kd.C k63 w Bq Ab.length Ab) (Ci:Ab.length≤Br) (Cj:Kd.C (Kd.int .i64) w Bs Ar.length Ar) (Ck:Ar.length≤Bt) (Cl:Kd.C k33 w Bu As.length As) (Cm:As.length≤Bv) (h:z10_.f k Ab Aw Ay Ar As a1=some r) :
  Calls Try.prog 49 #[.agg #[.slice Bq Ab.length Br,.int .i64 Aw,.string Ay,.slice Bs Ar.length Bt,.slice Bu As.length Bv],.int .i64 a1] w fun e w'=>∃ v0_:Value,e=.returned (v0_)∧Kd.R Kd.bool 4 w' w.heap.size (fun _=>True) v0_ r∧Below w.heap.size w w':=by
 have Gx:=Try.underlying36
 have Bl:=y0.mk Ch
 have Fv:=y0.mk Ci
 clear Ch Ci
 have Fx:=y0.mk Cj
 have Fy:=y0.mk Ck
 clear Cj Ck
 have Fz:=y0.mk Cl
 have Ga:=y0.mk Cm
 clear Cl Cm
 have HB:=y0.mk (Below.refl w.heap.size w)
 have H:(if 0≤(Ab.length:Int)then(if((Ab.length:Int):Int).toNat≤281474976710656 then((some (List.replicate ((Ab.length:Int):Int).toNat false:List Bool)).bind fun Bc=>(if 0≤a1 then(if a1 < (Bc.length:Int)then(z10_.l0 k (Bc.set (a1:Int).toNat true) a1 Ab Aw Ay Ar As)else(none))else(none)))else(none))else(none))=some r:=h
 clear h
 obtain⟨c3,H⟩:=qo H
 have Ff:=eq_true c3
 have Fg:=decide_eq_true c3
 clear c3
 obtain⟨c4,H⟩:=qo H
 have Fh:=eq_true c4
 have Fi:=decide_eq_true c4
 clear c4
 obtain⟨Bc,Bg⟩:∃ y_:List Bool,y_=(List.replicate ((Ab.length:Int):Int).toNat false):=⟨_,rfl⟩
 replace H:(if 0≤a1 then(if a1 < (Bc.length:Int)then(z10_.l0 k (Bc.set (a1:Int).toNat true) a1 Ab Aw Ay Ar As)else(none))else(none))=some r:=by first|(rw [Bg];with_reducible exact H)|(have H2_:=(Option.bind_some _ _).symm.trans H;rw [Bg];with_reducible exact H2_)|(have H2_:=(Option.bind_some _ _).symm.trans H;with_reducible exact H2_)|with_reducible exact H|(rw [Bg];exact H)|exact H
 have Cn:=y0.mk Bg
 clear Bg
 obtain⟨c5,H⟩:=qo H
 have Fj:decide (0≤a1)=true:=decide_eq_true c5
 clear c5
 obtain⟨c6,H⟩:=qo H
 have Fk:decide (a1 < (Bc.length:Int))=true:=decide_eq_true c6
 clear c6
 obtain⟨Cs,Bh⟩:∃ y_:List Bool,y_=(Bc.set (a1:Int).toNat true):=⟨_,rfl⟩
 replace H:(z10_.l0 k Cs a1 Ab Aw Ay Ar As)=some r:=by first|(rw [Bh];with_reducible exact H)|(have H2_:=(Option.bind_some _ _).symm.trans H;rw [Bh];with_reducible exact H2_)|(have H2_:=(Option.bind_some _ _).symm.trans H;with_reducible exact H2_)|with_reducible exact H|(rw [Bh];exact H)|exact H
 have Dq:=y0.mk Bh
 clear Bh
 have H':=y0.mk H
 clear H
 go_enter Try.func49,Try.ntmps49
 go_wp2_with (first|((with_reducible refine y17 (N:=2) rfl ?_);refine qe 2 #[.slice Bq Ab.length Br,.int .i64 Aw,.string Ay,.slice Bs Ar.length Bt,.slice Bu As.length Bv] 36 ?_;intro Cp hg w8 hbox hb;have Ac:=y0.mk (hbox);have Gb:=y0.mk (qg (w:=w) hg);have Gc:=y0.mk (qg (w:=w) hg);replace HB:=y0.mk (y5 qb hb);clear hb hbox hg;obtain⟨Ct,Cu,Cv,Cw,Cx,Cy,Cz,Da,Db,Dc⟩:=qz5 Ac.out)|((with_reducible refine y17 (N:=11) rfl ?_);refine Kd.R_make Kd.bool _ 4 rfl (N:=11) rfl 75 _ _ rfl (Ab.length:Int) rfl rfl Try.underlying75 (.bool false) 1 info4 rfl (by decide) (by omega) false (ok:=fun _=>True) (okp:=fun _=>True) rfl (fun _ hk=>hk) trivial (of_decide_eq_true qy0) (Nat.le_trans (Nat.mul_le_mul_right _ (of_decide_eq_true qy0:(Ab.length:Int).toNat≤281474976710656)) (by omega)) (Below.refl _ _) (Nat.le_refl _) ?_;intro Gy Gd Bw hb hg_ hnew_;clear hg_ hnew_;(first|rw [← Cn.out]at Bw|(simp only [Int.reduceToNat]at Bw;rw [← Cn.out]at Bw));have Av:=y0.mk (Kd.R_lower Bw (y4 qb));replace Ac:=y0.mk (qK Ac.out hb);replace HB:=y0.mk (y5 qb hb);clear hb Bw;have p7:0≤(a1:Int):=of_decide_eq_true qy0;have q7:(a1:Int) < ((Bc.length:Int):Int):=of_decide_eq_true qy0;obtain⟨Cf,Dx,Ge,Gf,Gz,Ha,Gg⟩:=Kd.R_form Av.out (by omega);(first|cases Ge|(injection Ge with ea_ en_ ec_;(first|subst ea_|(injection ea_ with ea_;subst ea_));subst ec_;clear en_));have Gh:=y0.mk Gf;have Hb:=y0.mk Gg;clear Gf Gz Gg;obtain⟨Dr,Gi⟩:=Kd.R_celln false Av.out (a1:Int) p7 q7;replace p7:=eq_true p7;replace q7:=eq_true q7;obtain⟨hy12_,hz12_⟩:=Kd.R_celln false Av.out (a1:Int) (of_decide_eq_true qy0) (of_decide_eq_true qy0);have Dd:=Kd.R_putg Av.out (a1:Int) true)|((with_reducible refine gate_store (t:=4) (p:=14) rfl ?_);refine store_event (t:=4) (p:=14) (v:=?vo_w13) (w1:=(Gd.setCell ⟨Cf,(a1:Int).toNat,none⟩ (.bool true))) ?hg ?ho ?hn ?hr ?_;(case ho=>rfl);(case hg=>rfl);(case hn=>rfl);(case hr=>(first|(obtain⟨_,_,eo_⟩:=Kd.R_slice Av.out;subst eo_)|(obtain⟨_,_,eo_⟩:=Kd.S_slice Av.out;subst eo_)|(obtain⟨_,_,eo_⟩:=Kd.N_slice Av.out;subst eo_)|skip);first|(go_simp;done)|(go_simp;rfl));intro Fl hw;have hg:Gd.grownBy Fl (some Cf):=(by rw [hw];exact Dd.2);have hp_:Kd.R Kd.bool 4 Fl w.heap.size (fun _=>True) (.slice (some ⟨Cf,0,none⟩) Bc.length Dx) Cs:=(by rw [hw,Dq.out];exact Dd.1);clear Dd;replace Ac:=y0.mk (blk_grown (qk Ac.out) hg (Kd.R_ne Av.out Ac.out (by decide)));replace Av:=y0.mk (hp_);replace HB:=y0.mk ((by rw [hw];exact y3 (HB.out) Gh.out:Below w.heap.size w Fl));clear hg hw hp_))
 go_loopg [6] k (fun kq v6 w'=>∃(Bx:List Bool) (Aa:Int),v6=.int .i64 Aa∧y0 (z10_.l0 kq Bx Aa Ab Aw Ay Ar As=some r)∧y0 (kq≤k)∧y0 (Kd.R Kd.bool 4 w' w.heap.size (fun _=>True) (.slice (some ⟨Cf,0,none⟩) Bc.length Dx) Bx)∧y0 (w'.heap[Cp]?=some (.cells #[(.slice Bq Ab.length Br),.int .i64 Aw,.string Ay,(.slice Bs Ar.length Bt),(.slice Bu As.length Bv)] 36 (0,0)))∧y0 (Below w.heap.size w w'))
 case atStart=>exact⟨(Cs),(a1),qy2,H',⟨Nat.le_refl _⟩,⟨qR Av.out⟩,⟨qk Ac.out⟩,⟨qb⟩⟩
 case round =>
  clear H'
  (try clear Ff Fg Fh Fi Fj Fk p7 q7 Ct Cu Cv Cw Cx Cy Cz Da Db Dc Dr p7 q7)
  obtain⟨Bx,Aa,rfl,HA,Dl,At,Ac,HB⟩:=hrel
  have Am:=(Kd.R_reads' At.out).1
  rw [Am]at At
  (try simp only [Am])
  (try simp only [Am]at Ac)
  cases gk with
  | zero=>exact absurd HA.out (by simp [z10_.l0])
  | succ k1 =>
   have H:=HA.out
   clear HA
   simp only [z10_.l0]at H
   by_cases Dm:Aa≥0
   ·rw [if_pos Dm]at H
    have Cq:decide (0≤Aa)=true:=decide_eq_true Dm
    clear Dm
    have H':=y0.mk H
    clear H
    go_wp2
    go_loopg [7] k1 (fun kq v7 w'=>∃(Au:List Bool) (Ai:Int),v7=.int .i64 Ai∧y0 (z10_.l1 kq Au Aa Ai Ab Aw Ay Ar As=some r)∧y0 (kq≤k1)∧y0 (Kd.R Kd.bool 4 w' w.heap.size (fun _=>True) (.slice (some ⟨Cf,0,none⟩) Bx.length Dx) Au)∧y0 (w'.heap[Cp]?=some (.cells #[(.slice Bq Ab.length Br),.int .i64 Aw,.string Ay,(.slice Bs Ar.length Bt),(.slice Bu As.length Bv)] 36 (0,0)))∧y0 (Below w.heap.size w w'))
    case atStart=>exact⟨(Bx),(0),qy2,H',⟨Nat.le_refl _⟩,⟨by(try simp only [Am]);(with_reducible repeat(first|apply Kd.R_alloc|apply Kd.R_drewN|apply Kd.R_drew));exact At.out⟩,⟨by(try simp only [Am]);(with_reducible repeat(first|refine y10 ?_ _|refine y9 ?_|refine y6 ?_ _));exact Ac.out⟩,⟨qb⟩⟩
    case round =>
     clear H'
     (try clear Cq)
     obtain⟨Au,Ai,rfl,HA,Do,At,Ac,HB⟩:=hrel
     have Ap:=(Kd.R_reads' At.out).1
     rw [Ap]at At
     (try simp only [Ap])
     (try simp only [Ap]at Ac)
     cases gk with
     | zero=>exact absurd HA.out (by simp [z10_.l1])
     | succ k2 =>
      have H:=HA.out
      clear HA
      simp only [z10_.l1]at H
      obtain⟨Gj,H⟩:=qo H
      have Gk:decide (0≤Aa)=true:=decide_eq_true Gj
      clear Gj
      obtain⟨Gl,H⟩:=qo H
      have Gm:decide (Aa < (Ab.length:Int))=true:=decide_eq_true Gl
      clear Gl
      by_cases Dp:Ai < (((y21 Ab Aa).f2).length:Int)
      ·rw [if_pos Dp]at H
       have Ds:=decide_eq_true Dp
       clear Dp
       obtain⟨Gn,H⟩:=qo H
       have Gp:decide (Aa < (Au.length:Int))=true:=decide_eq_true Gn
       clear Gn
       obtain⟨Dt,Bz⟩:∃ b_:Bool,b_=(rdOf false Au Aa):=⟨_,rfl⟩
       replace H:(if Dt=true then(if 0≤Ai then(if 0≤(rd ((y21 Ab Aa).f2) Ai)then(if(rd ((y21 Ab Aa).f2) Ai) < (Au.length:Int)then(z10_.l1 k2 (Au.set ((rd ((y21 Ab Aa).f2) Ai):Int).toNat true) Aa (wrap64 (Ai + 1)) Ab Aw Ay Ar As)else(none))else(none))else(none))else(z10_.l0 k2 Au (wrap64 (Aa - 1)) Ab Aw Ay Ar As))=some r:=by rw [← Bz]at H;exact H
       have Cr:=y0.mk Bz
       clear Bz
       by_cases Dy:Dt=true
       ·subst Dy
        replace H:=qT H
        obtain⟨Gq,H⟩:=qo H
        have Gr:decide (0≤Ai)=true:=decide_eq_true Gq
        clear Gq
        obtain⟨Gs,H⟩:=qo H
        have Gt:decide (0≤(rd ((y21 Ab Aa).f2) Ai))=true:=decide_eq_true Gs
        clear Gs
        obtain⟨Gu,H⟩:=qo H
        have Gv:decide ((rd ((y21 Ab Aa).f2) Ai) < (Au.length:Int))=true:=decide_eq_true Gu
        clear Gu
        obtain⟨De,Bi⟩:∃ y_:List Bool,y_=(Au.set ((rd ((y21 Ab Aa).f2) Ai):Int).toNat true):=⟨_,rfl⟩
        replace H:(z10_.l1 k2 De Aa (wrap64 (Ai + 1)) Ab Aw Ay Ar As)=some r:=by first|(rw [Bi];with_reducible exact H)|(have H2_:=(Option.bind_some _ _).symm.trans H;rw [Bi];with_reducible exact H2_)|(have H2_:=(Option.bind_some _ _).symm.trans H;with_reducible exact H2_)|with_reducible exact H|(rw [Bi];exact H)|exact H
        have Du:=y0.mk Bi
        clear Bi
        have H':=y0.mk H
        clear H
        obtain⟨Dz,Ea,Eb,Ec,Ed,Ee,Ef,Eg,Eh,Ei⟩:=qz5 Ac.out
        have Ba:0≤(Aa:Int):=of_decide_eq_true qy0
        have Bb:Aa < (Ab.length:Int):=of_decide_eq_true qy0
        obtain⟨Ca,Cb,Cc,Cd,Af,Ag,Ad,Aj,Ak⟩:=at_T63 Bl.out Aa Ba Bb
        cases Cd
        replace Af:=(HB.out.cell (World.block_lt_of_cell? w _ Af)).trans Af
        replace Ag:=(HB.out.cell (World.block_lt_of_cell? w _ Ag)).trans Ag
        replace Ad:=(HB.out.cell (World.block_lt_of_cell? w _ Ad)).trans Ad
        have Bm:=y0.mk Ak
        have Bn:=y0.mk Aj
        clear Ak Aj
        replace Ba:=eq_true Ba
        replace Bb:=eq_true Bb
        have Bj:0≤(Aa:Int):=of_decide_eq_true qy0
        have Bk:Aa < (Au.length:Int):=of_decide_eq_true qy0
        obtain⟨Ce,Df,Ah⟩:=Kd.at_bool (Kd.R_reads' At.out).2.2 Aa Bj Bk
        (try rw [← Cr.out]at Ah)
        obtain rfl:(⟨Cf,0,none⟩:Addr)=Ce:=(by injection Df)
        (first|simp only [add_plain]at Ah|simp only [add_at]at Ah|simp only [Addr.add,Nat.zero_add]at Ah|skip)
        replace Bj:=eq_true Bj
        replace Bk:=eq_true Bk
        have Dg:0≤(Aa:Int):=of_decide_eq_true qy0
        have Dh:Aa < (Ab.length:Int):=of_decide_eq_true qy0
        obtain⟨Dw,Fm,Fn,Fo,Bd,Be,Az,Bo,Bp⟩:=at_T63 Bl.out Aa Dg Dh
        obtain rfl:Ca=Dw:=(by injection Fo)
        replace Bd:=(HB.out.cell (World.block_lt_of_cell? w _ Bd)).trans Bd
        replace Be:=(HB.out.cell (World.block_lt_of_cell? w _ Be)).trans Be
        replace Az:=(HB.out.cell (World.block_lt_of_cell? w _ Az)).trans Az
        have Cg:=y0.mk Bp
        have Ej:=y0.mk Bo
        clear Bp Bo
        replace Dg:=eq_true Dg
        replace Dh:=eq_true Dh
        have ea_:=Option.some.inj (Ad.symm.trans Az)
        injection ea_ with ea_ en_ ec_
        subst ea_
        subst ec_
        clear en_
        have Di:0≤(Ai:Int):=of_decide_eq_true qy0
        have Dj:Ai < (((y21 Ab Aa).f2).length:Int):=of_decide_eq_true qy0
        obtain⟨Gw,Fp,Bf⟩:=Kd.at_int Cg.out Ai Di Dj
        cases Fp
        replace Bf:=(HB.out.cell (World.block_lt_of_cell? w _ Bf)).trans Bf
        replace Di:=eq_true Di
        replace Dj:=eq_true Dj
        have Fq:0≤((rd ((y21 Ab Aa).f2) Ai):Int):=of_decide_eq_true qy0
        have Fr:((rd ((y21 Ab Aa).f2) Ai):Int) < ((Au.length:Int):Int):=of_decide_eq_true qy0
        obtain⟨Fs,Ft⟩:=Kd.R_celln false At.out ((rd ((y21 Ab Aa).f2) Ai):Int) Fq Fr
        replace Fq:=eq_true Fq
        replace Fr:=eq_true Fr
        have Dk:=Kd.R_putg At.out ((rd ((y21 Ab Aa).f2) Ai):Int) true
        go_wp2_with (first|((with_reducible refine gate_store (t:=4) (p:=47) rfl ?_);refine store_event (t:=4) (p:=47) (v:=?vo_w27) (w1:=(wr.setCell ⟨Cf,((rd ((y21 Ab Aa).f2) Ai):Int).toNat,none⟩ (.bool true))) ?hg ?ho ?hn ?hr ?_;(case ho=>rfl);(case hg=>rfl);(case hn=>rfl);(case hr=>first|(go_simp;done)|(go_simp;rfl));intro Fu hw;have hg:wr.grownBy Fu (some Cf):=(by rw [hw];exact Dk.2);have hp_:Kd.R Kd.bool 4 Fu w.heap.size (fun _=>True) (.slice (some ⟨Cf,0,none⟩) Au.length Dx) De:=(by rw [hw,Du.out];exact Dk.1);clear Dk;replace Ac:=y0.mk (blk_grown (qk Ac.out) hg (Kd.R_ne At.out Ac.out (by decide)));replace At:=y0.mk (hp_);replace HB:=y0.mk ((by rw [hw];exact y3 (HB.out) Gh.out:Below w.heap.size w Fu));clear hg hw hp_))
        (try simp only [← Ap])
        go_roundg k2
        case measure=>have:=Dl.out;have:=Do.out;omega
        exact⟨(De),(wrap64 (Ai + 1)),qy2,H',⟨by have:=Dl.out;have:=Do.out;omega⟩,⟨by(try simp only [Am]);(try simp only [Ap]);(with_reducible repeat(first|apply Kd.R_alloc|apply Kd.R_drewN|apply Kd.R_drew));exact At.out⟩,⟨by(try simp only [Am]);(try simp only [Ap]);(with_reducible repeat(first|refine y10 ?_ _|refine y9 ?_|refine y6 ?_ _));exact Ac.out⟩,⟨qb⟩⟩
       ·replace Dy:=Bool.eq_false_iff.mpr Dy
        subst Dy
        replace H:=qF H
        have H':=y0.mk H
        clear H
        obtain⟨Ek,El,Em,En,Eo,Ep,Eq,Er,Es,Et⟩:=qz5 Ac.out
        have Ba:0≤(Aa:Int):=of_decide_eq_true qy0
        have Bb:Aa < (Ab.length:Int):=of_decide_eq_true qy0
        obtain⟨Ca,Cb,Cc,Cd,Af,Ag,Ad,Aj,Ak⟩:=at_T63 Bl.out Aa Ba Bb
        cases Cd
        replace Af:=(HB.out.cell (World.block_lt_of_cell? w _ Af)).trans Af
        replace Ag:=(HB.out.cell (World.block_lt_of_cell? w _ Ag)).trans Ag
        replace Ad:=(HB.out.cell (World.block_lt_of_cell? w _ Ad)).trans Ad
        have Bm:=y0.mk Ak
        have Bn:=y0.mk Aj
        clear Ak Aj
        replace Ba:=eq_true Ba
        replace Bb:=eq_true Bb
        have Bj:0≤(Aa:Int):=of_decide_eq_true qy0
        have Bk:Aa < (Au.length:Int):=of_decide_eq_true qy0
        obtain⟨Ce,Df,Ah⟩:=Kd.at_bool (Kd.R_reads' At.out).2.2 Aa Bj Bk
        (try rw [← Cr.out]at Ah)
        obtain rfl:(⟨Cf,0,none⟩:Addr)=Ce:=(by injection Df)
        (first|simp only [add_plain]at Ah|simp only [add_at]at Ah|simp only [Addr.add,Nat.zero_add]at Ah|skip)
        replace Bj:=eq_true Bj
        replace Bk:=eq_true Bk
        go_wp2
        (try simp only [← Am,← Ap])
        go_roundg k2
        case measure=>have:=Dl.out;have:=Do.out;omega
        exact⟨(Au),(wrap64 (Aa - 1)),qy2,H',⟨by have:=Dl.out;have:=Do.out;omega⟩,⟨by(try simp only [Am]);(try simp only [Ap]);(with_reducible repeat(first|apply Kd.R_alloc|apply Kd.R_drewN|apply Kd.R_drew));exact At.out⟩,⟨by(try simp only [Am]);(try simp only [Ap]);(with_reducible repeat(first|refine y10 ?_ _|refine y9 ?_|refine y6 ?_ _));exact Ac.out⟩,⟨qb⟩⟩
      ·rw [if_neg Dp]at H
       have Ds:=decide_eq_false Dp
       clear Dp
       have H':=y0.mk H
       clear H
       obtain⟨Eu,Ew,Ex,Ey,Ez,Fa,Fb,Fc,Fd,Fe⟩:=qz5 Ac.out
       have Ba:0≤(Aa:Int):=of_decide_eq_true qy0
       have Bb:Aa < (Ab.length:Int):=of_decide_eq_true qy0
       obtain⟨Ca,Cb,Cc,Cd,Af,Ag,Ad,Aj,Ak⟩:=at_T63 Bl.out Aa Ba Bb
       cases Cd
       replace Af:=(HB.out.cell (World.block_lt_of_cell? w _ Af)).trans Af
       replace Ag:=(HB.out.cell (World.block_lt_of_cell? w _ Ag)).trans Ag
       replace Ad:=(HB.out.cell (World.block_lt_of_cell? w _ Ad)).trans Ad
       have Bm:=y0.mk Ak
       have Bn:=y0.mk Aj
       clear Ak Aj
       replace Ba:=eq_true Ba
       replace Bb:=eq_true Bb
       go_wp2
       (try simp only [← Am,← Ap])
       go_roundg k2
       case measure=>have:=Dl.out;have:=Do.out;omega
       exact⟨(Au),(wrap64 (Aa - 1)),qy2,H',⟨by have:=Dl.out;have:=Do.out;omega⟩,⟨by(try simp only [Am]);(try simp only [Ap]);(with_reducible repeat(first|apply Kd.R_alloc|apply Kd.R_drewN|apply Kd.R_drew));exact At.out⟩,⟨by(try simp only [Am]);(try simp only [Ap]);(with_reducible repeat(first|refine y10 ?_ _|refine y9 ?_|refine y6 ?_ _));exact Ac.out⟩,⟨qb⟩⟩
   ·rw [if_neg Dm]at H
    have Cq:decide (0≤Aa)=false:=decide_eq_false Dm
    clear Dm
    obtain rfl:=Option.some.inj H
    go_wp2
    go_ret
    exact⟨_,by first|rfl|(simp [y13,y14] <;> rfl)|(simp [*,y13,y14] <;> rfl),by(with_reducible repeat(first|apply Kd.R_alloc|apply Kd.R_drewN|apply Kd.R_drew));exact At.out,qb⟩
end Go.Proofs.Ytkdabljlfbmpdaa.Po
end
section
namespace Go.Proofs.Ytkdabljlfbmpdaa.Po
open Go.RowKit Go.Proofs.YtkdabljlfbmpdaaW.PrintWords Go.Proofs.YtkdabljlfbmpdaaW.PrintLast Go.Proofs.YtkdabljlfbmpdaaW.PrintMore
attribute [local go_sem] max2_int min2_int max_two min_two max_three min_three max_four min_four   -- for this text's walks alone
set_option linter.unusedVariables false
set_option linter.unusedSimpArgs false
def spec_l06Vars.l0:Nat→Int→List ByteArray→List Bool→Int→List (S63)→Int→ByteArray→List Int→List (S33)→Option (List ByteArray)
 | 0,_,_,_,_,_,_,_,_,_=>none
 | k + 1,x1,x5,x6,x7,x248000,x248001,x248002,x248003,x248004=>if x7≤x1 then(if 0≤x7 then(if x7 < (x6.length:Int)then(if rdOf false x6 x7=true then(if x7 < (x248000.length:Int)then(if((y21 x248000 x7).f0)=1 then((spec_l05In.f k x5 ((y21 x248000 x7).f1)).bind fun t257=>(if t257=true then(spec_l06Vars.l0 k x1 x5 x6 (wrap64 (x7 + 1)) x248000 x248001 x248002 x248003 x248004)else(if x5.length < 8796093022208 then(spec_l06Vars.l0 k x1 (x5 ++ [(y21 x248000 x7).f1]) x6 (wrap64 (x7 + 1)) x248000 x248001 x248002 x248003 x248004)else(none))))else(spec_l06Vars.l0 k x1 x5 x6 (wrap64 (x7 + 1)) x248000 x248001 x248002 x248003 x248004))else(none))else(spec_l06Vars.l0 k x1 x5 x6 (wrap64 (x7 + 1)) x248000 x248001 x248002 x248003 x248004))else(none))else(none))else(some x5)
def spec_l06Vars.f (k:Nat) (l0_0:List (S63)) (a0_1:Int) (a0_2:ByteArray) (l0_3:List Int) (l0_4:List (S33)) (a1:Int):Option (List ByteArray):=(z10_.f k l0_0 a0_1 a0_2 l0_3 l0_4 a1).bind fun t251=>(spec_l06Vars.l0 k a1 (([]:List ByteArray)) t251 0 l0_0 a0_1 a0_2 l0_3 l0_4)
set_option maxHeartbeats 8000000 in
set_option maxRecDepth 100000 in
theorem spec_l06Vars.calls (k:Nat) (Bv:Option Addr) (Bw:Nat) (Ab:List (S63)) (Av:Int) (Aw:ByteArray) (Bx:Option Addr) (Bz:Nat) (Ak:List Int) (Ca:Option Addr) (Cb:Nat) (Am:List (S33)) (a1:Int) (r:List ByteArray) (w:World) (Cl:Kd.C k63 w Bv Ab.length Ab) (Cm:Ab.length≤Bw) (Cn:Kd.C (Kd.int .i64) w Bx Ak.length Ak) (Cp:Ak.length≤Bz) (Cq:Kd.C k33 w Ca Am.length Am) (Cr:Am.length≤Cb) (h:spec_l06Vars.f k Ab Av Aw Ak Am a1=some r) :
  Calls Try.prog 24 #[.agg #[.slice Bv Ab.length Bw,.int .i64 Av,.string Aw,.slice Bx Ak.length Bz,.slice Ca Am.length Cb],.int .i64 a1] w fun e w'=>∃ v0_:Value,e=.returned (v0_)∧Kd.R Kd.string 9 w' w.heap.size (fun _=>True) v0_ r∧Below w.heap.size w w':=by
 have Gm:=Try.underlying36
 have Bf:=y0.mk Cl
 have Dl:=y0.mk Cm
 clear Cl Cm
 have Dm:=y0.mk Cn
 have Do:=y0.mk Cp
 clear Cn Cp
 have Dp:=y0.mk Cq
 have Dq:=y0.mk Cr
 clear Cq Cr
 have HB:=y0.mk (Below.refl w.heap.size w)
 have H:((z10_.f k Ab Av Aw Ak Am a1).bind fun At=>(spec_l06Vars.l0 k a1 (([]:List ByteArray)) At 0 Ab Av Aw Ak Am))=some r:=h
 clear h
 obtain⟨Dr,Bk⟩:∃ y_:List ByteArray,y_=(([]:List ByteArray)):=⟨_,rfl⟩
 replace H:((z10_.f k Ab Av Aw Ak Am a1).bind fun At=>(spec_l06Vars.l0 k a1 Dr At 0 Ab Av Aw Ak Am))=some r:=by first|(rw [Bk];with_reducible exact H)|(have H2_:=(Option.bind_some _ _).symm.trans H;rw [Bk];with_reducible exact H2_)|(have H2_:=(Option.bind_some _ _).symm.trans H;with_reducible exact H2_)|with_reducible exact H|(rw [Bk];exact H)|exact H
 have Cs:=y0.mk Bk
 clear Bk
 obtain⟨At,A3,H⟩:=qB H
 have H':=y0.mk H
 clear H
 go_enter Try.func24,Try.ntmps24
 go_wp2_with (first|((with_reducible refine y17 (N:=2) rfl ?_);refine qe 2 #[.slice Bv Ab.length Bw,.int .i64 Av,.string Aw,.slice Bx Ak.length Bz,.slice Ca Am.length Cb] 36 ?_;intro Ds hg w4 hbox hb;have Ag:=y0.mk (hbox);have Gb:=y0.mk (qg (w:=w) hg);have Gc:=y0.mk (qg (w:=w) hg);replace HB:=y0.mk (y5 qb hb);clear hb hbox hg)|((with_reducible refine y17 (N:=8) rfl ?_);refine qL Kd.string 9 8 ([]:List ByteArray) ?_;intro Gn w5 Dt hb hg_ hnew_;clear hg_ hnew_;(first|rw [← Cs.out]at Dt|(simp only [Int.reduceToNat]at Dt;rw [← Cs.out]at Dt));have Cc:=y0.mk (Kd.R_lower Dt (y4 qb));replace Ag:=y0.mk (qK Ag.out hb);replace HB:=y0.mk (y5 qb hb);clear hb Dt;obtain⟨Cu,Cv,Cw,Cx,Cy,Cz,Da,Db,Dc,Dd⟩:=qz5 Ag.out)|((with_reducible refine y16 (f:=49) rfl ?_);refine y18 (some 11) rfl rfl Try.func49 (by kernel_rfl) rfl #[.agg #[.slice Bv Ab.length Bw,.int .i64 Av,.string Aw,.slice Bx Ak.length Bz,.slice Ca Am.length Cb],.int .i64 a1] rfl qy1 ?_;(with_reducible refine(z10_.calls k _ _ Ab Av Aw _ _ Ak _ _ Am a1 At _ (qc (Kd.C_below Bf.out HB.out)) Dl.out (qc (Kd.C_below Dm.out HB.out)) Do.out (qc (Kd.C_below Dp.out HB.out)) Dq.out A3.out).mono ?_);rintro e w8 ⟨Fn,rfl,Gd,hb⟩;refine⟨_,rfl, ?_⟩;replace Cc:=y0.mk (Kd.R_below (qR Cc.out) hb);have Du:=y0.mk (Kd.R_lower Gd (y4 qb));replace Ag:=y0.mk (qK Ag.out hb);replace HB:=y0.mk (y5 qb hb);(try clear hb);(try clear Gd)))
 go_loopg [5,7] k (fun kq v5 v7 w'=>∃(Au:List ByteArray) (Aa:Int),v7=.int .i64 Aa∧y0 (spec_l06Vars.l0 kq a1 Au At Aa Ab Av Aw Ak Am=some r)∧y0 (kq≤k)∧y0 (Kd.R Kd.string 9 w' w.heap.size (fun _=>True) v5 Au)∧y0 (Kd.R Kd.bool 4 w' w.heap.size (fun _=>True) Fn At)∧y0 (w'.heap[Ds]?=some (.cells #[(.slice Bv Ab.length Bw),.int .i64 Av,.string Aw,(.slice Bx Ak.length Bz),(.slice Ca Am.length Cb)] 36 (0,0)))∧y0 (Below w.heap.size w w'))
 case atStart=>exact⟨(Dr),(0),qy2,H',⟨Nat.le_refl _⟩,⟨qR Cc.out⟩,⟨qR Du.out⟩,⟨qk Ag.out⟩,⟨qb⟩⟩
 case round =>
  clear H'
  (try clear Cu Cv Cw Cx Cy Cz Da Db Dc Dd)
  obtain⟨Au,Aa,rfl,HA,Ct,Ba,Bb,Ag,HB⟩:=hrel
  cases gk with
  | zero=>exact absurd HA.out (by simp [spec_l06Vars.l0])
  | succ k1 =>
   have H:=HA.out
   clear HA
   simp only [spec_l06Vars.l0]at H
   by_cases c9:Aa≤a1
   ·rw [if_pos c9]at H
    have Fo:=decide_eq_true c9
    clear c9
    obtain⟨Ge,H⟩:=qo H
    have Gf:=decide_eq_true Ge
    clear Ge
    obtain⟨Gg,H⟩:=qo H
    have Gh:decide (Aa < (At.length:Int))=true:=decide_eq_true Gg
    clear Gg
    obtain⟨Dw,Cd⟩:∃ b_:Bool,b_=(rdOf false At Aa):=⟨_,rfl⟩
    replace H:(if Dw=true then(if Aa < (Ab.length:Int)then(if((y21 Ab Aa).f0)=1 then((spec_l05In.f k1 Au ((y21 Ab Aa).f1)).bind fun De=>(if De=true then(spec_l06Vars.l0 k1 a1 Au At (wrap64 (Aa + 1)) Ab Av Aw Ak Am)else(if Au.length < 8796093022208 then(spec_l06Vars.l0 k1 a1 (Au ++ [(y21 Ab Aa).f1]) At (wrap64 (Aa + 1)) Ab Av Aw Ak Am)else(none))))else(spec_l06Vars.l0 k1 a1 Au At (wrap64 (Aa + 1)) Ab Av Aw Ak Am))else(none))else(spec_l06Vars.l0 k1 a1 Au At (wrap64 (Aa + 1)) Ab Av Aw Ak Am))=some r:=by rw [← Cd]at H;exact H
    have Bq:=y0.mk Cd
    clear Cd
    by_cases Ee:Dw=true
    ·subst Ee
     replace H:=qT H
     obtain⟨Gi,H⟩:=qo H
     have Gj:decide (Aa < (Ab.length:Int))=true:=decide_eq_true Gi
     clear Gi
     by_cases Df:((y21 Ab Aa).f0)=1
     ·rw [if_pos Df]at H
      have Dx:(((y21 Ab Aa).f0) == 1)=true:=beq_iff_eq.mpr Df
      have Dy:(((y21 Ab Aa).f0) != 1)=false:=bne_eq_false_iff_eq.mpr Df
      clear Df
      obtain⟨De,Gk,H⟩:=qB H
      by_cases Ef:De=true
      ·subst Ef
       replace H:=qT H
       have H':=y0.mk H
       clear H
       obtain⟨Gp,Gq,Fp⟩:=Kd.R_slice Bb.out
       subst Fp
       have Ay:0≤(Aa:Int):=of_decide_eq_true qy0
       have Az:Aa < (At.length:Int):=of_decide_eq_true qy0
       obtain⟨Ce,Bn,Ap⟩:=Kd.at_bool (Kd.R_reads' Bb.out).2.2 Aa Ay Az
       (try rw [← Bq.out]at Ap)
       cases Bn
       replace Ay:=eq_true Ay
       replace Az:=eq_true Az
       obtain⟨Eg,Eh,Ei,Ej,Ek,El,Em,En,Eo,Ep⟩:=qz5 Ag.out
       have Bg:0≤(Aa:Int):=of_decide_eq_true qy0
       have Bh:Aa < (Ab.length:Int):=of_decide_eq_true qy0
       obtain⟨Bl,Cf,Cg,Ch,Ad,Af,Ac,Ai,Aj⟩:=at_T63 Bf.out Aa Bg Bh
       cases Ch
       replace Ad:=(HB.out.cell (World.block_lt_of_cell? w _ Ad)).trans Ad
       replace Af:=(HB.out.cell (World.block_lt_of_cell? w _ Af)).trans Af
       replace Ac:=(HB.out.cell (World.block_lt_of_cell? w _ Ac)).trans Ac
       have Br:=y0.mk Aj
       have Bs:=y0.mk Ai
       clear Aj Ai
       replace Bg:=eq_true Bg
       replace Bh:=eq_true Bh
       have Bo:0≤(Aa:Int):=of_decide_eq_true qy0
       have Bp:Aa < (Ab.length:Int):=of_decide_eq_true qy0
       obtain⟨Ci,Dg,Dh,Di,Ar,As,Ah,Bc,Bd⟩:=at_T63 Bf.out Aa Bo Bp
       obtain rfl:Bl=Ci:=(by injection Di)
       replace Ar:=(HB.out.cell (World.block_lt_of_cell? w _ Ar)).trans Ar
       replace As:=(HB.out.cell (World.block_lt_of_cell? w _ As)).trans As
       replace Ah:=(HB.out.cell (World.block_lt_of_cell? w _ Ah)).trans Ah
       have Cj:=y0.mk Bd
       have Ck:=y0.mk Bc
       clear Bd Bc
       replace Bo:=eq_true Bo
       replace Bp:=eq_true Bp
       have ea_:=Option.some.inj (Ac.symm.trans Ah)
       injection ea_ with ea_ en_ ec_
       subst ea_
       subst ec_
       clear en_
       obtain⟨Gr,Gs,Fq⟩:=Kd.R_slice Ba.out
       subst Fq
       go_wp2_with (first|(go_at_call 39;(with_reducible refine(spec_l05In.calls k1 _ _ Au ((y21 Ab Aa).f1) true _ (qc ((Kd.R_reads' Ba.out).2.2)) (by exact(Kd.R_reads' Ba.out).2.1) Gk.out).mono ?_);rintro e w' ⟨rfl,⟨nd,rfl⟩⟩))
       go_roundg k1
       case measure=>have:=Ct.out;omega
       exact⟨(Au),(wrap64 (Aa + 1)),qy2,H',⟨by have:=Ct.out;omega⟩,⟨qR Ba.out⟩,⟨qR Bb.out⟩,⟨qk Ag.out⟩,⟨qb⟩⟩
      ·replace Ef:=Bool.eq_false_iff.mpr Ef
       subst Ef
       replace H:=qF H
       obtain⟨Gl,H⟩:=qo H
       have Dz:=y0.mk Gl
       clear Gl
       obtain⟨Ea,Bm⟩:∃ y_:List ByteArray,y_=(Au ++ [(y21 Ab Aa).f1]):=⟨_,rfl⟩
       replace H:(spec_l06Vars.l0 k1 a1 Ea At (wrap64 (Aa + 1)) Ab Av Aw Ak Am)=some r:=by first|(rw [Bm];with_reducible exact H)|(have H2_:=(Option.bind_some _ _).symm.trans H;rw [Bm];with_reducible exact H2_)|(have H2_:=(Option.bind_some _ _).symm.trans H;with_reducible exact H2_)|with_reducible exact H|(rw [Bm];exact H)|exact H
       have Eb:=y0.mk Bm
       clear Bm
       have H':=y0.mk H
       clear H
       obtain⟨Gt,Gu,Fr⟩:=Kd.R_slice Bb.out
       subst Fr
       have Ay:0≤(Aa:Int):=of_decide_eq_true qy0
       have Az:Aa < (At.length:Int):=of_decide_eq_true qy0
       obtain⟨Ce,Bn,Ap⟩:=Kd.at_bool (Kd.R_reads' Bb.out).2.2 Aa Ay Az
       (try rw [← Bq.out]at Ap)
       cases Bn
       replace Ay:=eq_true Ay
       replace Az:=eq_true Az
       obtain⟨Eq,Er,Es,Et,Eu,Ew,Ex,Ey,Ez,Fa⟩:=qz5 Ag.out
       have Bg:0≤(Aa:Int):=of_decide_eq_true qy0
       have Bh:Aa < (Ab.length:Int):=of_decide_eq_true qy0
       obtain⟨Bl,Cf,Cg,Ch,Ad,Af,Ac,Ai,Aj⟩:=at_T63 Bf.out Aa Bg Bh
       cases Ch
       replace Ad:=(HB.out.cell (World.block_lt_of_cell? w _ Ad)).trans Ad
       replace Af:=(HB.out.cell (World.block_lt_of_cell? w _ Af)).trans Af
       replace Ac:=(HB.out.cell (World.block_lt_of_cell? w _ Ac)).trans Ac
       have Br:=y0.mk Aj
       have Bs:=y0.mk Ai
       clear Aj Ai
       replace Bg:=eq_true Bg
       replace Bh:=eq_true Bh
       have Bo:0≤(Aa:Int):=of_decide_eq_true qy0
       have Bp:Aa < (Ab.length:Int):=of_decide_eq_true qy0
       obtain⟨Ci,Dg,Dh,Di,Ar,As,Ah,Bc,Bd⟩:=at_T63 Bf.out Aa Bo Bp
       obtain rfl:Bl=Ci:=(by injection Di)
       replace Ar:=(HB.out.cell (World.block_lt_of_cell? w _ Ar)).trans Ar
       replace As:=(HB.out.cell (World.block_lt_of_cell? w _ As)).trans As
       replace Ah:=(HB.out.cell (World.block_lt_of_cell? w _ Ah)).trans Ah
       have Cj:=y0.mk Bd
       have Ck:=y0.mk Bc
       clear Bd Bc
       replace Bo:=eq_true Bo
       replace Bp:=eq_true Bp
       have ea_:=Option.some.inj (Ac.symm.trans Ah)
       injection ea_ with ea_ en_ ec_
       subst ea_
       subst ec_
       clear en_
       obtain⟨Fs,Ft,Fu⟩:=Kd.R_slice Ba.out
       subst Fu
       go_wp2_with (first|(go_at_call 39;(with_reducible refine(spec_l05In.calls k1 _ _ Au ((y21 Ab Aa).f1) false _ (qc ((Kd.R_reads' Ba.out).2.2)) (by exact(Kd.R_reads' Ba.out).2.1) Gk.out).mono ?_);rintro e w' ⟨rfl,⟨nd,rfl⟩⟩;have Dj:0≤(Aa:Int):=of_decide_eq_true qy0;have Dk:Aa < (Ab.length:Int):=of_decide_eq_true qy0;obtain⟨Ec,Fv,Fx,Fy,Bi,Bj,Be,Bt,Bu⟩:=at_T63 Bf.out Aa Dj Dk;obtain rfl:Bl=Ec:=(by injection Fy);replace Bi:=(HB.out.cell (World.block_lt_of_cell? w _ Bi)).trans Bi;replace Bj:=(HB.out.cell (World.block_lt_of_cell? w _ Bj)).trans Bj;replace Be:=(HB.out.cell (World.block_lt_of_cell? w _ Be)).trans Be;have Fb:=y0.mk Bu;have Fc:=y0.mk Bt;clear Bu Bt;replace Dj:=eq_true Dj;replace Dk:=eq_true Dk;have ea_:=Option.some.inj (Ac.symm.trans Be);injection ea_ with ea_ en_ ec_;subst ea_;subst ec_;clear en_)|((with_reducible refine gate_builtin (b:=.append) (xs:=#[.tmp 41,.tmp 48]) rfl ?_);at_builtin;refine Kd.R_append Kd.string (w0:=w) w.heap.size rfl (.tmp 41) (.tmp 48) 30 9 (.string ⟨#[]⟩) 16 rfl Try.underlying30 info9 rfl (by decide) (by omega) (.slice Fs Au.length Ft) Au ((y21 Ab Aa).f1) [.string ((y21 Ab Aa).f1)] (fun _=>True) (fun _=>False) rfl rfl ?aP (fun _ hk=>hk.elim) ?aF ?aO ?aB ?aS ?aL ?_;(case aP=>exact rfl);(case aB=>exact qb);(case aF=>exact(fun _ _=>trivial));(case aO=>exact(qR Ba.out));(case aS=>exact(y4 qb));(case aL=>have:=Dz.out;omega);intro Gv Ha ho hb hg hat;rw [← Eb.out]at ho;replace Bb:=y0.mk (Kd.R_over' (qR Bb.out) (Kd.R_typed (qR Ba.out)) (by decide) hg);replace Ag:=y0.mk (blk_grown (qk Ag.out) hg (Kd.R_ne Ba.out Ag.out (by decide)));replace HB:=y0.mk (hb);have Ed:=y0.mk (ho);clear Ba;clear ho hb hg hat))
       go_roundg k1
       case measure=>have:=Ct.out;omega
       exact⟨(Ea),(wrap64 (Aa + 1)),qy2,H',⟨by have:=Ct.out;omega⟩,⟨qR Ed.out⟩,⟨qR Bb.out⟩,⟨qk Ag.out⟩,⟨qb⟩⟩
     ·rw [if_neg Df]at H
      have Dx:(((y21 Ab Aa).f0) == 1)=false:=beq_eq_false_iff_ne.mpr Df
      have Dy:(((y21 Ab Aa).f0) != 1)=true:=bne_iff_ne.mpr Df
      have H':=y0.mk H
      clear H
      obtain⟨Gw,Gx,Fz⟩:=Kd.R_slice Bb.out
      subst Fz
      have Ay:0≤(Aa:Int):=of_decide_eq_true qy0
      have Az:Aa < (At.length:Int):=of_decide_eq_true qy0
      obtain⟨Ce,Bn,Ap⟩:=Kd.at_bool (Kd.R_reads' Bb.out).2.2 Aa Ay Az
      (try rw [← Bq.out]at Ap)
      cases Bn
      replace Ay:=eq_true Ay
      replace Az:=eq_true Az
      obtain⟨Fd,Fe,Ff,Fg,Fh,Fi,Fj,Fk,Fl,Fm⟩:=qz5 Ag.out
      have Bg:0≤(Aa:Int):=of_decide_eq_true qy0
      have Bh:Aa < (Ab.length:Int):=of_decide_eq_true qy0
      obtain⟨Bl,Cf,Cg,Ch,Ad,Af,Ac,Ai,Aj⟩:=at_T63 Bf.out Aa Bg Bh
      cases Ch
      replace Ad:=(HB.out.cell (World.block_lt_of_cell? w _ Ad)).trans Ad
      replace Af:=(HB.out.cell (World.block_lt_of_cell? w _ Af)).trans Af
      replace Ac:=(HB.out.cell (World.block_lt_of_cell? w _ Ac)).trans Ac
      have Br:=y0.mk Aj
      have Bs:=y0.mk Ai
      clear Aj Ai
      replace Bg:=eq_true Bg
      replace Bh:=eq_true Bh
      go_wp2
      go_roundg k1
      case measure=>have:=Ct.out;omega
      exact⟨(Au),(wrap64 (Aa + 1)),qy2,H',⟨by have:=Ct.out;omega⟩,⟨qR Ba.out⟩,⟨qR Bb.out⟩,⟨qk Ag.out⟩,⟨qb⟩⟩
    ·replace Ee:=Bool.eq_false_iff.mpr Ee
     subst Ee
     replace H:=qF H
     have H':=y0.mk H
     clear H
     obtain⟨Gy,Gz,Ga⟩:=Kd.R_slice Bb.out
     subst Ga
     have Ay:0≤(Aa:Int):=of_decide_eq_true qy0
     have Az:Aa < (At.length:Int):=of_decide_eq_true qy0
     obtain⟨Ce,Bn,Ap⟩:=Kd.at_bool (Kd.R_reads' Bb.out).2.2 Aa Ay Az
     (try rw [← Bq.out]at Ap)
     cases Bn
     replace Ay:=eq_true Ay
     replace Az:=eq_true Az
     go_wp2
     go_roundg k1
     case measure=>have:=Ct.out;omega
     exact⟨(Au),(wrap64 (Aa + 1)),qy2,H',⟨by have:=Ct.out;omega⟩,⟨qR Ba.out⟩,⟨qR Bb.out⟩,⟨qk Ag.out⟩,⟨qb⟩⟩
   ·rw [if_neg c9]at H
    have Fo:=decide_eq_false c9
    clear c9
    obtain rfl:=Option.some.inj H
    go_wp2
    go_ret
    exact⟨_,by first|rfl|(simp [y13,y14] <;> rfl)|(simp [*,y13,y14] <;> rfl),by(with_reducible repeat(first|apply Kd.R_alloc|apply Kd.R_drewN|apply Kd.R_drew));exact Ba.out,qb⟩
def spec_l06HasKind.l0:Nat→Int→Int→Int→List Bool→Int→List (S63)→Int→ByteArray→List Int→List (S33)→Option (Bool)
 | 0,_,_,_,_,_,_,_,_,_,_=>none
 | k + 1,x1,x2,x3,x9,x10,x263000,x263001,x263002,x263003,x263004=>if x10≤x1 then(if 0≤x10 then(if x10 < (x9.length:Int)then(if rdOf false x9 x10=true then(if x10 < (x263000.length:Int)then((spec_l01Between.f ((y21 x263000 x10).f0) x2 x3).bind fun t268=>(if t268=true then(some true)else(spec_l06HasKind.l0 k x1 x2 x3 x9 (wrap64 (x10 + 1)) x263000 x263001 x263002 x263003 x263004)))else(none))else(spec_l06HasKind.l0 k x1 x2 x3 x9 (wrap64 (x10 + 1)) x263000 x263001 x263002 x263003 x263004))else(none))else(none))else(some false)
def spec_l06HasKind.f (k:Nat) (l0_0:List (S63)) (a0_1:Int) (a0_2:ByteArray) (l0_3:List Int) (l0_4:List (S33)) (a1:Int) (a2:Int) (a3:Int):Option (Bool):=(z10_.f k l0_0 a0_1 a0_2 l0_3 l0_4 a1).bind fun t263=>(spec_l06HasKind.l0 k a1 a2 a3 t263 0 l0_0 a0_1 a0_2 l0_3 l0_4)
set_option maxHeartbeats 8000000 in
set_option maxRecDepth 100000 in
theorem spec_l06HasKind.calls (k:Nat) (Aw:Option Addr) (Ay:Nat) (Ab:List (S63)) (Ag:Int) (Ah:ByteArray) (Az:Option Addr) (Ba:Nat) (Ac:List Int) (Bb:Option Addr) (Bc:Nat) (Ad:List (S33)) (a1:Int) (a2:Int) (a3:Int) (r:Bool) (w:World) (Be:Kd.C k63 w Aw Ab.length Ab) (Bf:Ab.length≤Ay) (Bg:Kd.C (Kd.int .i64) w Az Ac.length Ac) (Bh:Ac.length≤Ba) (Bi:Kd.C k33 w Bb Ad.length Ad) (Bj:Ad.length≤Bc) (h:spec_l06HasKind.f k Ab Ag Ah Ac Ad a1 a2 a3=some r) :
  Calls Try.prog 43 #[.agg #[.slice Aw Ab.length Ay,.int .i64 Ag,.string Ah,.slice Az Ac.length Ba,.slice Bb Ad.length Bc],.int .i64 a1,.int .i64 a2,.int .i64 a3] w fun e w'=>e=.returned (.bool r)∧Below w.heap.size w w':=by
 have Dt:=Try.underlying36
 have Bk:=y0.mk Be
 have Cb:=y0.mk Bf
 clear Be Bf
 have Cc:=y0.mk Bg
 have Cd:=y0.mk Bh
 clear Bg Bh
 have Ce:=y0.mk Bi
 have Cf:=y0.mk Bj
 clear Bi Bj
 have HB:=y0.mk (Below.refl w.heap.size w)
 have H:((z10_.f k Ab Ag Ah Ac Ad a1).bind fun Ai=>(spec_l06HasKind.l0 k a1 a2 a3 Ai 0 Ab Ag Ah Ac Ad))=some r:=h
 clear h
 obtain⟨Ai,A5,H⟩:=qB H
 have H':=y0.mk H
 clear H
 go_enter Try.func43,Try.ntmps43
 go_wp2_with (first|((with_reducible refine y17 (N:=4) rfl ?_);refine qe 4 #[.slice Aw Ab.length Ay,.int .i64 Ag,.string Ah,.slice Az Ac.length Ba,.slice Bb Ad.length Bc] 36 ?_;intro Cg hg w6 hbox hb;have Af:=y0.mk (hbox);have Dh:=y0.mk (qg (w:=w) hg);have Di:=y0.mk (qg (w:=w) hg);replace HB:=y0.mk (y5 qb hb);clear hb hbox hg;obtain⟨Bm,Bn,Bo,Bp,Bq,Br,Bs,Bt,Bu,Bv⟩:=qz5 Af.out)|((with_reducible refine y16 (f:=49) rfl ?_);refine y18 (some 13) rfl rfl Try.func49 (by kernel_rfl) rfl #[.agg #[.slice Aw Ab.length Ay,.int .i64 Ag,.string Ah,.slice Az Ac.length Ba,.slice Bb Ad.length Bc],.int .i64 a1] rfl qy1 ?_;(with_reducible refine(z10_.calls k _ _ Ab Ag Ah _ _ Ac _ _ Ad a1 Ai _ (qc (Kd.C_below Bk.out HB.out)) Cb.out (qc (Kd.C_below Cc.out HB.out)) Cd.out (qc (Kd.C_below Ce.out HB.out)) Cf.out A5.out).mono ?_);rintro e w8 ⟨Da,rfl,Dj,hb⟩;refine⟨_,rfl, ?_⟩;have Ch:=y0.mk (Kd.R_lower Dj (y4 qb));replace Af:=y0.mk (qK Af.out hb);replace HB:=y0.mk (y5 qb hb);(try clear hb);(try clear Dj)))
 go_loopg [10] k (fun kq Du w'=>∃(Aa:Int),Du=.int .i64 Aa∧y0 (spec_l06HasKind.l0 kq a1 a2 a3 Ai Aa Ab Ag Ah Ac Ad=some r)∧y0 (kq≤k)∧y0 (Kd.R Kd.bool 4 w' w.heap.size (fun _=>True) Da Ai)∧y0 (w'.heap[Cg]?=some (.cells #[(.slice Aw Ab.length Ay),.int .i64 Ag,.string Ah,(.slice Az Ac.length Ba),(.slice Bb Ad.length Bc)] 36 (0,0)))∧y0 (Below w.heap.size w w'))
 case atStart=>exact⟨(0),qy2,H',⟨Nat.le_refl _⟩,⟨qR Ch.out⟩,⟨qk Af.out⟩,⟨qb⟩⟩
 case round =>
  clear H'
  (try clear Bm Bn Bo Bp Bq Br Bs Bt Bu Bv)
  obtain⟨Aa,rfl,HA,Ck,Av,Af,HB⟩:=hrel
  cases gk with
  | zero=>exact absurd HA.out (by simp [spec_l06HasKind.l0])
  | succ k1 =>
   have H:=HA.out
   clear HA
   simp only [spec_l06HasKind.l0]at H
   by_cases c9:Aa≤a1
   ·rw [if_pos c9]at H
    have Db:=decide_eq_true c9
    clear c9
    obtain⟨Dk,H⟩:=qo H
    have Dl:=decide_eq_true Dk
    clear Dk
    obtain⟨Dm,H⟩:=qo H
    have Do:decide (Aa < (Ai.length:Int))=true:=decide_eq_true Dm
    clear Dm
    obtain⟨Ci,Bd⟩:∃ b_:Bool,b_=(rdOf false Ai Aa):=⟨_,rfl⟩
    replace H:(if Ci=true then(if Aa < (Ab.length:Int)then((spec_l01Between.f ((y21 Ab Aa).f0) a2 a3).bind fun Bw=>(if Bw=true then(some true)else(spec_l06HasKind.l0 k1 a1 a2 a3 Ai (wrap64 (Aa + 1)) Ab Ag Ah Ac Ad)))else(none))else(spec_l06HasKind.l0 k1 a1 a2 a3 Ai (wrap64 (Aa + 1)) Ab Ag Ah Ac Ad))=some r:=by rw [← Bd]at H;exact H
    have Bl:=y0.mk Bd
    clear Bd
    by_cases Cl:Ci=true
    ·subst Cl
     replace H:=qT H
     obtain⟨Dp,H⟩:=qo H
     have Dq:decide (Aa < (Ab.length:Int))=true:=decide_eq_true Dp
     clear Dp
     obtain⟨Bw,Dr,H⟩:=qB H
     obtain⟨Dw,Dx,Dc⟩:=Kd.R_slice Av.out
     subst Dc
     have Ar:0≤(Aa:Int):=of_decide_eq_true qy0
     have As:Aa < (Ai.length:Int):=of_decide_eq_true qy0
     obtain⟨Cj,Bx,Aj⟩:=Kd.at_bool (Kd.R_reads' Av.out).2.2 Aa Ar As
     (try rw [← Bl.out]at Aj)
     cases Bx
     replace Ar:=eq_true Ar
     replace As:=eq_true As
     obtain⟨Cm,Cn,Cp,Cq,Cr,Cs,Ct,Cu,Cv,Cw⟩:=qz5 Af.out
     have Bz:0≤(Aa:Int):=of_decide_eq_true qy0
     have Ca:Aa < (Ab.length:Int):=of_decide_eq_true qy0
     obtain⟨Ds,Dd,De,Df,Ak,Am,Ap,At,Au⟩:=at_T63 Bk.out Aa Bz Ca
     cases Df
     replace Ak:=(HB.out.cell (World.block_lt_of_cell? w _ Ak)).trans Ak
     replace Am:=(HB.out.cell (World.block_lt_of_cell? w _ Am)).trans Am
     replace Ap:=(HB.out.cell (World.block_lt_of_cell? w _ Ap)).trans Ap
     have Cx:=y0.mk Au
     have Cy:=y0.mk At
     clear Au At
     replace Bz:=eq_true Bz
     replace Ca:=eq_true Ca
     by_cases Cz:Bw=true
     ·subst Cz
      replace H:=qT H
      obtain rfl:=Option.some.inj H
      go_wp2_with (first|(go_at_call 23;(with_reducible refine(spec_l01Between.calls ((y21 Ab Aa).f0) a2 a3 true _ Dr.out).mono ?_);rintro e w' ⟨rfl,⟨nd,rfl⟩⟩))
      go_ret
      exact⟨qf,qb⟩
     ·replace Cz:=Bool.eq_false_iff.mpr Cz
      subst Cz
      replace H:=qF H
      have H':=y0.mk H
      clear H
      go_wp2_with (first|(go_at_call 23;(with_reducible refine(spec_l01Between.calls ((y21 Ab Aa).f0) a2 a3 false _ Dr.out).mono ?_);rintro e w' ⟨rfl,⟨nd,rfl⟩⟩))
      go_roundg k1
      case measure=>have:=Ck.out;omega
      exact⟨(wrap64 (Aa + 1)),qy2,H',⟨by have:=Ck.out;omega⟩,⟨qR Av.out⟩,⟨qk Af.out⟩,⟨qb⟩⟩
    ·replace Cl:=Bool.eq_false_iff.mpr Cl
     subst Cl
     replace H:=qF H
     have H':=y0.mk H
     clear H
     obtain⟨Dy,Dz,Dg⟩:=Kd.R_slice Av.out
     subst Dg
     have Ar:0≤(Aa:Int):=of_decide_eq_true qy0
     have As:Aa < (Ai.length:Int):=of_decide_eq_true qy0
     obtain⟨Cj,Bx,Aj⟩:=Kd.at_bool (Kd.R_reads' Av.out).2.2 Aa Ar As
     (try rw [← Bl.out]at Aj)
     cases Bx
     replace Ar:=eq_true Ar
     replace As:=eq_true As
     go_wp2
     go_roundg k1
     case measure=>have:=Ck.out;omega
     exact⟨(wrap64 (Aa + 1)),qy2,H',⟨by have:=Ck.out;omega⟩,⟨qR Av.out⟩,⟨qk Af.out⟩,⟨qb⟩⟩
   ·rw [if_neg c9]at H
    have Db:=decide_eq_false c9
    clear c9
    obtain rfl:=Option.some.inj H
    go_wp2
    go_ret
    exact⟨qf,qb⟩
def spec_l06Calc.f (a0:Int):Option (Bool):=(spec_l01Between.f a0 5 7).bind fun t269=>(some t269)
set_option maxHeartbeats 8000000 in
set_option maxRecDepth 100000 in
theorem spec_l06Calc.calls (a0:Int) (r:Bool) (w:World) (h:spec_l06Calc.f a0=some r) :
  Calls Try.prog 72 #[.int .i64 a0] w fun e w'=>e=.returned (.bool r)∧Drawn0 w w':=by
 have H:((spec_l01Between.f a0 5 7).bind fun t269=>(some t269))=some r:=h
 clear h
 obtain⟨t269,A2,H⟩:=qB H
 obtain rfl:=Option.some.inj H
 go_enter Try.func72,Try.ntmps72
 go_wp2_with (first|((with_reducible refine y16 (f:=23) rfl ?_);refine y18 (some 4) rfl rfl Try.func23 (by kernel_rfl) rfl #[.int .i64 a0,.int .i64 5,.int .i64 7] rfl qy1 ?_;(with_reducible refine(spec_l01Between.calls a0 5 7 t269 _ A2.out).mono ?_);rintro e w' ⟨rfl,⟨nd,rfl⟩⟩;refine⟨_,rfl, ?_⟩))
 go_ret
 exact qf2
end Go.Proofs.Ytkdabljlfbmpdaa.Po
end
