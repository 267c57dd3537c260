-- Cut by prune.py, a program of this session, out of the texts of this claim: Lean checks it.
import Derived.Test.YtkdabljlfbmpdaaGreatVbdPbx0
import Derived.Test.YtkdabljlfbmpdaaGreatVbdPbx3
section
namespace Go.Proofs.YtkdabljlfbmpdaaGreat.Pb
open Go.RowKit Go.Proofs.YtkdabljlfbmpdaaGreatW.PrintWords Go.Proofs.YtkdabljlfbmpdaaGreatW.PrintLast Go.Proofs.YtkdabljlfbmpdaaGreatW.PrintMore
attribute [local go_sem] max2_int min2_int max_two min_two max_three min_three max_four min_four   -- for this text's walks alone
set_option linter.unusedVariables false
set_option linter.unusedSimpArgs false
mutual
def spec_l04Lit.j0:Nat→List ByteArray→ByteArray→Int→ByteArray→List Int→Option (ByteArray×Bool)
 | 0,_,_,_,_,_=>none
 | k + 1,x1,x6,x215000,x215001,x215002=>spec_l04Lit.l0 k x1 x6 0 x215000 x215001 x215002
def spec_l04Lit.l0:Nat→List ByteArray→ByteArray→Int→Int→ByteArray→List Int→Option (ByteArray×Bool)
 | 0,_,_,_,_,_,_=>none
 | k + 1,x1,x6,x7,x215000,x215001,x215002=>if x7 < (x215002.length:Int)then(if x7 > 0 then(if x6.size + 2≤9223372036854775807 then(if 0≤x7 then(if 0≤(rd x215002 x7)then(if(rd x215002 x7) < (x1.length:Int)then(if(x6 ++ (⟨#[44,32]⟩:ByteArray)).size + (rdOf ByteArray.empty x1 (rd x215002 x7)).size≤9223372036854775807 then(spec_l04Lit.l0 k x1 ((x6 ++ (⟨#[44,32]⟩:ByteArray)) ++ (rdOf ByteArray.empty x1 (rd x215002 x7))) (wrap64 (x7 + 1)) x215000 x215001 x215002)else(none))else(none))else(none))else(none))else(none))else(if 0≤x7 then(if 0≤(rd x215002 x7)then(if(rd x215002 x7) < (x1.length:Int)then(if x6.size + (rdOf ByteArray.empty x1 (rd x215002 x7)).size≤9223372036854775807 then(spec_l04Lit.l0 k x1 (x6 ++ (rdOf ByteArray.empty x1 (rd x215002 x7))) (wrap64 (x7 + 1)) x215000 x215001 x215002)else(none))else(none))else(none))else(none)))else(if x6.size + 1≤9223372036854775807 then(if x215000=1 then(some (x6 ++ (⟨#[41]⟩:ByteArray),true))else(some (x6 ++ (⟨#[41]⟩:ByteArray),(x215000 == 2))))else(none))
end
def spec_l04Lit.f (k:Nat) (a0_0:Int) (a0_1:ByteArray) (l0_2:List Int) (l1:List ByteArray):Option (ByteArray×Bool):=if a0_0=3 then(if(l0_2.length:Int)=2 then(if 0 < (l0_2.length:Int)then(if 0≤(rd l0_2 0)then(if(rd l0_2 0) < (l1.length:Int)then(if(rdOf ByteArray.empty l1 (rd l0_2 0)).size + 1≤9223372036854775807 then(if((rdOf ByteArray.empty l1 (rd l0_2 0)) ++ (⟨#[32]⟩:ByteArray)).size + a0_1.size≤9223372036854775807 then(if(((rdOf ByteArray.empty l1 (rd l0_2 0)) ++ (⟨#[32]⟩:ByteArray)) ++ a0_1).size + 1≤9223372036854775807 then(if 1 < (l0_2.length:Int)then(if 0≤(rd l0_2 1)then(if(rd l0_2 1) < (l1.length:Int)then(if((((rdOf ByteArray.empty l1 (rd l0_2 0)) ++ (⟨#[32]⟩:ByteArray)) ++ a0_1) ++ (⟨#[32]⟩:ByteArray)).size + (rdOf ByteArray.empty l1 (rd l0_2 1)).size≤9223372036854775807 then(some (((((rdOf ByteArray.empty l1 (rd l0_2 0)) ++ (⟨#[32]⟩:ByteArray)) ++ a0_1) ++ (⟨#[32]⟩:ByteArray)) ++ (rdOf ByteArray.empty l1 (rd l0_2 1)),true))else(none))else(none))else(none))else(none))else(none))else(none))else(none))else(none))else(none))else(none))else(some ((⟨#[]⟩:ByteArray),false)))else(if a0_1.size + 1≤9223372036854775807 then(if a0_0=2 then(if 1 + (a0_1 ++ (⟨#[40]⟩:ByteArray)).size≤9223372036854775807 then(spec_l04Lit.j0 k l1 ((⟨#[33]⟩:ByteArray) ++ (a0_1 ++ (⟨#[40]⟩:ByteArray))) a0_0 a0_1 l0_2)else(none))else(spec_l04Lit.j0 k l1 (a0_1 ++ (⟨#[40]⟩:ByteArray)) a0_0 a0_1 l0_2))else(none))
set_option maxHeartbeats 8000000 in
set_option maxRecDepth 100000 in
theorem spec_l04Lit.calls (k:Nat) (Af:Int) (Ag:ByteArray) (Am:Option Addr) (Ap:Nat) (Aa:List Int) (A1:Option Addr) (c1:Nat) (l1:List ByteArray) (r1:ByteArray) (r2:Bool) (w:World) (Cn:Kd.C (Kd.int .i64) w Am Aa.length Aa) (Co:Aa.length≤Ap) (Fk:Kd.C Kd.string w A1 l1.length l1) (Fl:l1.length≤c1) (h:spec_l04Lit.f k Af Ag Aa l1=some (r1,r2)) :
  Calls Tryz.prog 34 #[.agg #[.int .i64 Af,.string Ag,.slice Am Aa.length Ap],.slice A1 l1.length c1] w fun e w'=>e=.returned (.tuple #[.string r1,.bool r2])∧Below w.heap.size w w':=by
 have Hm:=Tryz.underlying33
 have Ar:=y0.mk Cn
 have Fm:=y0.mk Co
 clear Cn Co
 have Cp:=y0.mk Fk
 have Hx:=y0.mk Fl
 clear Fk Fl
 have HB:=y0.mk (Below.refl w.heap.size w)
 have H:(if Af=3 then(if(Aa.length:Int)=2 then(if 0 < (Aa.length:Int)then(if 0≤(rd Aa 0)then(if(rd Aa 0) < (l1.length:Int)then(if(rdOf ByteArray.empty l1 (rd Aa 0)).size + 1≤9223372036854775807 then(if((rdOf ByteArray.empty l1 (rd Aa 0)) ++ (⟨#[32]⟩:ByteArray)).size + Ag.size≤9223372036854775807 then(if(((rdOf ByteArray.empty l1 (rd Aa 0)) ++ (⟨#[32]⟩:ByteArray)) ++ Ag).size + 1≤9223372036854775807 then(if 1 < (Aa.length:Int)then(if 0≤(rd Aa 1)then(if(rd Aa 1) < (l1.length:Int)then(if((((rdOf ByteArray.empty l1 (rd Aa 0)) ++ (⟨#[32]⟩:ByteArray)) ++ Ag) ++ (⟨#[32]⟩:ByteArray)).size + (rdOf ByteArray.empty l1 (rd Aa 1)).size≤9223372036854775807 then(some (((((rdOf ByteArray.empty l1 (rd Aa 0)) ++ (⟨#[32]⟩:ByteArray)) ++ Ag) ++ (⟨#[32]⟩:ByteArray)) ++ (rdOf ByteArray.empty l1 (rd Aa 1)),true))else(none))else(none))else(none))else(none))else(none))else(none))else(none))else(none))else(none))else(none))else(some ((⟨#[]⟩:ByteArray),false)))else(if Ag.size + 1≤9223372036854775807 then(if Af=2 then(if 1 + (Ag ++ (⟨#[40]⟩:ByteArray)).size≤9223372036854775807 then(spec_l04Lit.j0 k l1 ((⟨#[33]⟩:ByteArray) ++ (Ag ++ (⟨#[40]⟩:ByteArray))) Af Ag Aa)else(none))else(spec_l04Lit.j0 k l1 (Ag ++ (⟨#[40]⟩:ByteArray)) Af Ag Aa))else(none)))=some (r1,r2):=h
 clear h
 by_cases c3:Af=3
 ·rw [if_pos c3]at H
  have Df:(Af == 3)=true:=beq_iff_eq.mpr c3
  have Dg:(Af != 3)=false:=bne_eq_false_iff_eq.mpr c3
  clear c3
  by_cases c4:(Aa.length:Int)=2
  ·rw [if_pos c4]at H
   have Ew:((Aa.length:Int) == 2)=true:=beq_iff_eq.mpr c4
   have Ex:((Aa.length:Int) != 2)=false:=bne_eq_false_iff_eq.mpr c4
   clear c4
   obtain⟨c5,H⟩:=qo H
   have Hn:decide (0 < (Aa.length:Int))=true:=decide_eq_true c5
   have Ho:decide (0 < Aa.length)=true:=decide_eq_true (by omega)
   clear c5
   obtain⟨c6,H⟩:=qo H
   have Hp:decide (0≤(rd Aa 0))=true:=decide_eq_true c6
   clear c6
   obtain⟨c7,H⟩:=qo H
   have Hq:decide ((rd Aa 0) < (l1.length:Int))=true:=decide_eq_true c7
   clear c7
   obtain⟨c8,H⟩:=qo H
   have Hr:=eq_true c8
   have Hs:=decide_eq_true c8
   have Ht:=eq_false (Nat.not_lt.2 c8)
   obtain⟨c9,H⟩:=qo H
   have Hu:=eq_true c9
   have Hv:=decide_eq_true c9
   have Ey:=eq_false (Nat.not_lt.2 c9)
   have Hw:(9223372036854775807 < (rdOf ByteArray.empty l1 (rd Aa 0)).size + 1 + Ag.size)=False:=qs Ey
   obtain⟨Ez,H⟩:=qo H
   have Fn:=eq_true Ez
   have Fo:=decide_eq_true Ez
   have Dh:=eq_false (Nat.not_lt.2 Ez)
   have Fp:(9223372036854775807 < (rdOf ByteArray.empty l1 (rd Aa 0)).size + 1 + Ag.size + 1)=False:=qs Dh
   obtain⟨Fq,H⟩:=qo H
   have Fr:decide (1 < (Aa.length:Int))=true:=decide_eq_true Fq
   have Fs:decide (1 < Aa.length)=true:=decide_eq_true (by omega)
   clear Fq
   obtain⟨Ft,H⟩:=qo H
   have Fu:decide (0≤(rd Aa 1))=true:=decide_eq_true Ft
   clear Ft
   obtain⟨Fv,H⟩:=qo H
   have Fx:decide ((rd Aa 1) < (l1.length:Int))=true:=decide_eq_true Fv
   clear Fv
   obtain⟨Fa,H⟩:=qo H
   have Fy:=eq_true Fa
   have Fz:=decide_eq_true Fa
   have Di:=eq_false (Nat.not_lt.2 Fa)
   have Ga:(9223372036854775807 < (rdOf ByteArray.empty l1 (rd Aa 0)).size + 1 + Ag.size + 1 + (rdOf ByteArray.empty l1 (rd Aa 1)).size)=False:=qs Di
   simp only [Option.some.injEq,Prod.mk.injEq]at H
   obtain⟨rfl,rfl⟩:=H
   go_enter Tryz.func34,Tryz.ntmps34
   go_wp2_with (first|((with_reducible refine y16 (N:=2) rfl ?_);refine qe 2 #[.int .i64 Af,.string Ag,.slice Am Aa.length Ap] 33 ?_;intro Ak hg Gb hbox hb;have Ad:=y0.mk (hbox);have As:=y0.mk (qg (w:=w) hg);have At:=y0.mk (qg (w:=w) hg);replace HB:=y0.mk (y5 qb hb);clear hb hbox hg;obtain⟨Bs,Bt,Bu,Bv,Bw,Bx⟩:=qz3 Ad.out;have Au:0≤(0:Int):=(by omega);have Av:0 < (Aa.length:Int):=of_decide_eq_true qy0;obtain⟨Bn,Ch,Ab⟩:=Kd.at_int Ar.out 0 Au Av;cases Ch;have Cq:(0 < Aa.length)=True:=eq_true (by omega);(try rw [show((0:Int)).toNat=0 from rfl]at Ab);(try rw [Addr.add_zero']at Ab);replace Ab:=(HB.out.cell (World.block_lt_of_cell? w _ Ab)).trans Ab;replace Au:=eq_true Au;replace Av:=eq_true Av;have Aw:0≤((rd Aa 0):Int):=of_decide_eq_true qy0;have Ay:(rd Aa 0) < (l1.length:Int):=of_decide_eq_true qy0;obtain⟨Bo,Ci,Ai⟩:=Kd.at_string Cp.out (rd Aa 0) Aw Ay;cases Ci;replace Ai:=(HB.out.cell (World.block_lt_of_cell? w _ Ai)).trans Ai;replace Aw:=eq_true Aw;replace Ay:=eq_true Ay;have Az:0≤(1:Int):=(by omega);have Ba:1 < (Aa.length:Int):=of_decide_eq_true qy0;obtain⟨Bp,Cj,Ac⟩:=Kd.at_int Ar.out 1 Az Ba;obtain rfl:Bn=Bp:=(by injection Cj);(try simp only [show(1:Int).toNat=1 from rfl,Nat.reduceMul,Nat.reduceEqDiff,Go.Addr.add,↓reduceIte]at Ac);have Cr:(1 < Aa.length)=True:=eq_true (by omega);(try rw [show((1:Int)).toNat=1 from rfl]at Ac);replace Ac:=(HB.out.cell (World.block_lt_of_cell? w _ Ac)).trans Ac;replace Az:=eq_true Az;replace Ba:=eq_true Ba;have Bb:0≤((rd Aa 1):Int):=of_decide_eq_true qy0;have Bc:(rd Aa 1) < (l1.length:Int):=of_decide_eq_true qy0;obtain⟨Bq,Ck,Aj⟩:=Kd.at_string Cp.out (rd Aa 1) Bb Bc;obtain rfl:Bo=Bq:=(by injection Ck);replace Aj:=(HB.out.cell (World.block_lt_of_cell? w _ Aj)).trans Aj;replace Bb:=eq_true Bb;replace Bc:=eq_true Bc))
   repeat(go_quiet (first|((with_reducible refine y16 (N:=2) rfl ?_);refine qe 2 #[.int .i64 Af,.string Ag,.slice Am Aa.length Ap] 33 ?_;intro Ak hg Gb hbox hb;have Ad:=y0.mk (hbox);have As:=y0.mk (qg (w:=w) hg);have At:=y0.mk (qg (w:=w) hg);replace HB:=y0.mk (y5 qb hb);clear hb hbox hg;obtain⟨Bs,Bt,Bu,Bv,Bw,Bx⟩:=qz3 Ad.out;have Au:0≤(0:Int):=(by omega);have Av:0 < (Aa.length:Int):=of_decide_eq_true qy0;obtain⟨Bn,Ch,Ab⟩:=Kd.at_int Ar.out 0 Au Av;cases Ch;have Cq:(0 < Aa.length)=True:=eq_true (by omega);(try rw [show((0:Int)).toNat=0 from rfl]at Ab);(try rw [Addr.add_zero']at Ab);replace Ab:=(HB.out.cell (World.block_lt_of_cell? w _ Ab)).trans Ab;replace Au:=eq_true Au;replace Av:=eq_true Av;have Aw:0≤((rd Aa 0):Int):=of_decide_eq_true qy0;have Ay:(rd Aa 0) < (l1.length:Int):=of_decide_eq_true qy0;obtain⟨Bo,Ci,Ai⟩:=Kd.at_string Cp.out (rd Aa 0) Aw Ay;cases Ci;replace Ai:=(HB.out.cell (World.block_lt_of_cell? w _ Ai)).trans Ai;replace Aw:=eq_true Aw;replace Ay:=eq_true Ay;have Az:0≤(1:Int):=(by omega);have Ba:1 < (Aa.length:Int):=of_decide_eq_true qy0;obtain⟨Bp,Cj,Ac⟩:=Kd.at_int Ar.out 1 Az Ba;obtain rfl:Bn=Bp:=(by injection Cj);(try simp only [show(1:Int).toNat=1 from rfl,Nat.reduceMul,Nat.reduceEqDiff,Go.Addr.add,↓reduceIte]at Ac);have Cr:(1 < Aa.length)=True:=eq_true (by omega);(try rw [show((1:Int)).toNat=1 from rfl]at Ac);replace Ac:=(HB.out.cell (World.block_lt_of_cell? w _ Ac)).trans Ac;replace Az:=eq_true Az;replace Ba:=eq_true Ba;have Bb:0≤((rd Aa 1):Int):=of_decide_eq_true qy0;have Bc:(rd Aa 1) < (l1.length:Int):=of_decide_eq_true qy0;obtain⟨Bq,Ck,Aj⟩:=Kd.at_string Cp.out (rd Aa 1) Bb Bc;obtain rfl:Bo=Bq:=(by injection Ck);replace Aj:=(HB.out.cell (World.block_lt_of_cell? w _ Aj)).trans Aj;replace Bb:=eq_true Bb;replace Bc:=eq_true Bc));try go_wp2_with (first|((with_reducible refine y16 (N:=2) rfl ?_);refine qe 2 #[.int .i64 Af,.string Ag,.slice Am Aa.length Ap] 33 ?_;intro Ak hg Gb hbox hb;have Ad:=y0.mk (hbox);have As:=y0.mk (qg (w:=w) hg);have At:=y0.mk (qg (w:=w) hg);replace HB:=y0.mk (y5 qb hb);clear hb hbox hg;obtain⟨Bs,Bt,Bu,Bv,Bw,Bx⟩:=qz3 Ad.out;have Au:0≤(0:Int):=(by omega);have Av:0 < (Aa.length:Int):=of_decide_eq_true qy0;obtain⟨Bn,Ch,Ab⟩:=Kd.at_int Ar.out 0 Au Av;cases Ch;have Cq:(0 < Aa.length)=True:=eq_true (by omega);(try rw [show((0:Int)).toNat=0 from rfl]at Ab);(try rw [Addr.add_zero']at Ab);replace Ab:=(HB.out.cell (World.block_lt_of_cell? w _ Ab)).trans Ab;replace Au:=eq_true Au;replace Av:=eq_true Av;have Aw:0≤((rd Aa 0):Int):=of_decide_eq_true qy0;have Ay:(rd Aa 0) < (l1.length:Int):=of_decide_eq_true qy0;obtain⟨Bo,Ci,Ai⟩:=Kd.at_string Cp.out (rd Aa 0) Aw Ay;cases Ci;replace Ai:=(HB.out.cell (World.block_lt_of_cell? w _ Ai)).trans Ai;replace Aw:=eq_true Aw;replace Ay:=eq_true Ay;have Az:0≤(1:Int):=(by omega);have Ba:1 < (Aa.length:Int):=of_decide_eq_true qy0;obtain⟨Bp,Cj,Ac⟩:=Kd.at_int Ar.out 1 Az Ba;obtain rfl:Bn=Bp:=(by injection Cj);(try simp only [show(1:Int).toNat=1 from rfl,Nat.reduceMul,Nat.reduceEqDiff,Go.Addr.add,↓reduceIte]at Ac);have Cr:(1 < Aa.length)=True:=eq_true (by omega);(try rw [show((1:Int)).toNat=1 from rfl]at Ac);replace Ac:=(HB.out.cell (World.block_lt_of_cell? w _ Ac)).trans Ac;replace Az:=eq_true Az;replace Ba:=eq_true Ba;have Bb:0≤((rd Aa 1):Int):=of_decide_eq_true qy0;have Bc:(rd Aa 1) < (l1.length:Int):=of_decide_eq_true qy0;obtain⟨Bq,Ck,Aj⟩:=Kd.at_string Cp.out (rd Aa 1) Bb Bc;obtain rfl:Bo=Bq:=(by injection Ck);replace Aj:=(HB.out.cell (World.block_lt_of_cell? w _ Aj)).trans Aj;replace Bb:=eq_true Bb;replace Bc:=eq_true Bc)))
   go_ret2
   exact⟨qf,qb⟩
  ·rw [if_neg c4]at H
   have Ew:((Aa.length:Int) == 2)=false:=beq_eq_false_iff_ne.mpr c4
   have Ex:((Aa.length:Int) != 2)=true:=bne_iff_ne.mpr c4
   simp only [Option.some.injEq,Prod.mk.injEq]at H
   obtain⟨rfl,rfl⟩:=H
   go_enter Tryz.func34,Tryz.ntmps34
   go_wp2_with (first|((with_reducible refine y16 (N:=2) rfl ?_);refine qe 2 #[.int .i64 Af,.string Ag,.slice Am Aa.length Ap] 33 ?_;intro Ak hg Gc hbox hb;have Ad:=y0.mk (hbox);have As:=y0.mk (qg (w:=w) hg);have At:=y0.mk (qg (w:=w) hg);replace HB:=y0.mk (y5 qb hb);clear hb hbox hg;obtain⟨Bz,Ca,Cb,Cc,Cd,Ce⟩:=qz3 Ad.out))
   repeat(go_quiet (first|((with_reducible refine y16 (N:=2) rfl ?_);refine qe 2 #[.int .i64 Af,.string Ag,.slice Am Aa.length Ap] 33 ?_;intro Ak hg Gc hbox hb;have Ad:=y0.mk (hbox);have As:=y0.mk (qg (w:=w) hg);have At:=y0.mk (qg (w:=w) hg);replace HB:=y0.mk (y5 qb hb);clear hb hbox hg;obtain⟨Bz,Ca,Cb,Cc,Cd,Ce⟩:=qz3 Ad.out));try go_wp2_with (first|((with_reducible refine y16 (N:=2) rfl ?_);refine qe 2 #[.int .i64 Af,.string Ag,.slice Am Aa.length Ap] 33 ?_;intro Ak hg Gc hbox hb;have Ad:=y0.mk (hbox);have As:=y0.mk (qg (w:=w) hg);have At:=y0.mk (qg (w:=w) hg);replace HB:=y0.mk (y5 qb hb);clear hb hbox hg;obtain⟨Bz,Ca,Cb,Cc,Cd,Ce⟩:=qz3 Ad.out)))
   go_ret2
   exact⟨qf,qb⟩
 ·rw [if_neg c3]at H
  have Df:(Af == 3)=false:=beq_eq_false_iff_ne.mpr c3
  have Dg:(Af != 3)=true:=bne_iff_ne.mpr c3
  obtain⟨Du,H⟩:=qo H
  have Dj:=eq_true Du
  have Dk:=decide_eq_true Du
  have Dl:=eq_false (Nat.not_lt.2 Du)
  have Cs:=y0.mk H
  clear H
  go_enter Tryz.func34,Tryz.ntmps34
  go_upto_if 40 with(first|((with_reducible refine y16 (N:=2) rfl ?_);refine qe 2 #[.int .i64 Af,.string Ag,.slice Am Aa.length Ap] 33 ?_;intro Ak hg Gd hbox hb;have Ad:=y0.mk (hbox);have As:=y0.mk (qg (w:=w) hg);have At:=y0.mk (qg (w:=w) hg);replace HB:=y0.mk (y5 qb hb);clear hb hbox hg;obtain⟨Bd,Be,Bf,Bg,Bh,Bi⟩:=qz3 Ad.out))
  repeat(go_quiet (first|((with_reducible refine y16 (N:=2) rfl ?_);refine qe 2 #[.int .i64 Af,.string Ag,.slice Am Aa.length Ap] 33 ?_;intro Ak hg Gd hbox hb;have Ad:=y0.mk (hbox);have As:=y0.mk (qg (w:=w) hg);have At:=y0.mk (qg (w:=w) hg);replace HB:=y0.mk (y5 qb hb);clear hb hbox hg;obtain⟨Bd,Be,Bf,Bg,Bh,Bi⟩:=qz3 Ad.out));go_upto_if 40 with(first|((with_reducible refine y16 (N:=2) rfl ?_);refine qe 2 #[.int .i64 Af,.string Ag,.slice Am Aa.length Ap] 33 ?_;intro Ak hg Gd hbox hb;have Ad:=y0.mk (hbox);have As:=y0.mk (qg (w:=w) hg);have At:=y0.mk (qg (w:=w) hg);replace HB:=y0.mk (y5 qb hb);clear hb hbox hg;obtain⟨Bd,Be,Bf,Bg,Bh,Bi⟩:=qz3 Ad.out)))
  (try simp only [Act.put,qS_,qZ_,qC_])
  go_cut [6] (fun v6 wc=>∃(kq:Nat) (Cf:ByteArray),v6=.string Cf∧y0 (spec_l04Lit.j0 kq l1 Cf Af Ag Aa=some (r1,r2))∧y0 (kq≤k)∧y0 (wc.heap[Ak]?=some (.cells #[.int .i64 Af,.string Ag,(.slice Am Aa.length Ap)] 33 (0,0)))∧y0 (Below w.heap.size w wc))
  case first =>
   have H:=Cs.out
   clear Cs
   by_cases Ct:Af=2
   ·rw [if_pos Ct]at H
    have Br:(Af == 2)=true:=beq_iff_eq.mpr Ct
    have Dm:(Af != 2)=false:=bne_eq_false_iff_eq.mpr Ct
    clear Ct
    (first|rw [Br]|(simp only [i64_w,i32_w];rw [Br])|skip)
    obtain⟨Fb,H⟩:=qo H
    have Ge:=eq_true Fb
    have Gf:=decide_eq_true Fb
    have Cl:=eq_false (Nat.not_lt.2 Fb)
    have Gg:(9223372036854775807 < 1 + Ag.size + 1)=False:=qs Cl
    have Gh:(9223372036854775807 < 1 + (Ag.size + 1))=False:=qs Cl
    have Gi:(9223372036854775807 < 1 + (Ag.size + 1))=False:=qs Cl
    have H':=y0.mk H
    clear H
    go_wp2
    repeat(go_quiet (fail);try go_wp2)
    go_meet
    exact⟨_,((⟨#[33]⟩:ByteArray) ++ (Ag ++ (⟨#[40]⟩:ByteArray))),qy2,H',⟨by first|omega|exact Nat.le_refl _⟩,⟨qk Ad.out⟩,⟨qb⟩⟩
   ·rw [if_neg Ct]at H
    have Br:(Af == 2)=false:=beq_eq_false_iff_ne.mpr Ct
    have Dm:(Af != 2)=true:=bne_iff_ne.mpr Ct
    (first|rw [Br]|(simp only [i64_w,i32_w];rw [Br])|skip)
    have H':=y0.mk H
    clear H
    go_wp2
    repeat(go_quiet (fail);try go_wp2)
    go_meet
    exact⟨_,(Ag ++ (⟨#[40]⟩:ByteArray)),qy2,H',⟨by first|omega|exact Nat.le_refl _⟩,⟨qk Ad.out⟩,⟨qb⟩⟩
  case rest =>
   clear Cs
   (try clear Df Dg Du Dj Dk Dl Bd Be Bf Bg Bh Bi)
   obtain⟨kq,Cf,rfl,HA,Cm,Ad,HB⟩:=hcut
   cases kq with
   | zero=>exact absurd HA.out (by simp [spec_l04Lit.j0])
   | succ Do =>
    have H:=HA.out
    clear HA
    simp only [spec_l04Lit.j0]at H
    have H':=y0.mk H
    clear H
    go_wp2
    repeat(go_quiet (fail);try go_wp2)
    go_loopg [6,7] Do (fun kq v6 v7 w'=>∃(Cg:ByteArray) (Ah:Int),v6=.string Cg∧v7=.int .i64 Ah∧y0 (spec_l04Lit.l0 kq l1 Cg Ah Af Ag Aa=some (r1,r2))∧y0 (kq≤Do)∧y0 (w'.heap[Ak]?=some (.cells #[.int .i64 Af,.string Ag,(.slice Am Aa.length Ap)] 33 (0,0)))∧y0 (Below w.heap.size w w'))
    case atStart=>exact⟨(Cf),(0),qy2,qy2,H',⟨Nat.le_refl _⟩,⟨qk Ad.out⟩,⟨qb⟩⟩
    case round =>
     clear H'
     obtain⟨Cg,Ah,rfl,rfl,HA,Dw,Ad,HB⟩:=hrel
     cases gk with
     | zero=>exact absurd HA.out (by simp [spec_l04Lit.l0])
     | succ k2 =>
      have H:=HA.out
      clear HA
      simp only [spec_l04Lit.l0]at H
      by_cases Dd:Ah < (Aa.length:Int)
      ·rw [if_pos Dd]at H
       have Dp:=decide_eq_true Dd
       clear Dd
       by_cases De:Ah > 0
       ·rw [if_pos De]at H
        have Dq:decide (0 < Ah)=true:=decide_eq_true De
        clear De
        obtain⟨Fc,H⟩:=qo H
        have Gj:=eq_true Fc
        have Gk:=decide_eq_true Fc
        have Gl:=eq_false (Nat.not_lt.2 Fc)
        obtain⟨Gm,H⟩:=qo H
        have Gn:decide (0≤Ah)=true:=decide_eq_true Gm
        clear Gm
        obtain⟨Gp,H⟩:=qo H
        have Gq:decide (0≤(rd Aa Ah))=true:=decide_eq_true Gp
        clear Gp
        obtain⟨Gr,H⟩:=qo H
        have Gs:decide ((rd Aa Ah) < (l1.length:Int))=true:=decide_eq_true Gr
        clear Gr
        obtain⟨Fd,H⟩:=qo H
        have Gt:=eq_true Fd
        have Gu:=decide_eq_true Fd
        have Dr:=eq_false (Nat.not_lt.2 Fd)
        have Gv:(9223372036854775807 < Cg.size + 2 + (rdOf ByteArray.empty l1 (rd Aa Ah)).size)=False:=qs Dr
        have H':=y0.mk H
        clear H
        obtain⟨Dx,Dy,Dz,Ea,Eb,Ec⟩:=qz3 Ad.out
        have Cu:0≤(Ah:Int):=of_decide_eq_true qy0
        have Cv:Ah < (Aa.length:Int):=of_decide_eq_true qy0
        obtain⟨Gw,Fe,Bj⟩:=Kd.at_int Ar.out Ah Cu Cv
        cases Fe
        replace Bj:=(HB.out.cell (World.block_lt_of_cell? w _ Bj)).trans Bj
        replace Cu:=eq_true Cu
        replace Cv:=eq_true Cv
        have Cw:0≤((rd Aa Ah):Int):=of_decide_eq_true qy0
        have Cx:(rd Aa Ah) < (l1.length:Int):=of_decide_eq_true qy0
        obtain⟨Gx,Ff,Bk⟩:=Kd.at_string Cp.out (rd Aa Ah) Cw Cx
        cases Ff
        replace Bk:=(HB.out.cell (World.block_lt_of_cell? w _ Bk)).trans Bk
        replace Cw:=eq_true Cw
        replace Cx:=eq_true Cx
        go_wp2
        repeat(go_quiet (fail);try go_wp2)
        go_roundg k2
        case measure=>have:=Cm.out;have:=Dw.out;omega
        exact⟨((Cg ++ (⟨#[44,32]⟩:ByteArray)) ++ (rdOf ByteArray.empty l1 (rd Aa Ah))),(wrap64 (Ah + 1)),qy2,qy2,H',⟨by have:=Cm.out;have:=Dw.out;omega⟩,⟨qk Ad.out⟩,⟨qb⟩⟩
       ·rw [if_neg De]at H
        have Dq:decide (0 < Ah)=false:=decide_eq_false De
        clear De
        obtain⟨Gy,H⟩:=qo H
        have Gz:decide (0≤Ah)=true:=decide_eq_true Gy
        clear Gy
        obtain⟨Ha,H⟩:=qo H
        have Hb:decide (0≤(rd Aa Ah))=true:=decide_eq_true Ha
        clear Ha
        obtain⟨Hc,H⟩:=qo H
        have Hd:decide ((rd Aa Ah) < (l1.length:Int))=true:=decide_eq_true Hc
        clear Hc
        obtain⟨Fg,H⟩:=qo H
        have He:=eq_true Fg
        have Hf:=decide_eq_true Fg
        have Hg:=eq_false (Nat.not_lt.2 Fg)
        have H':=y0.mk H
        clear H
        obtain⟨Ed,Ee,Ef,Eg,Eh,Ei⟩:=qz3 Ad.out
        have Cy:0≤(Ah:Int):=of_decide_eq_true qy0
        have Cz:Ah < (Aa.length:Int):=of_decide_eq_true qy0
        obtain⟨Hh,Fh,Bl⟩:=Kd.at_int Ar.out Ah Cy Cz
        cases Fh
        replace Bl:=(HB.out.cell (World.block_lt_of_cell? w _ Bl)).trans Bl
        replace Cy:=eq_true Cy
        replace Cz:=eq_true Cz
        have Da:0≤((rd Aa Ah):Int):=of_decide_eq_true qy0
        have Db:(rd Aa Ah) < (l1.length:Int):=of_decide_eq_true qy0
        obtain⟨Hi,Fi,Bm⟩:=Kd.at_string Cp.out (rd Aa Ah) Da Db
        cases Fi
        replace Bm:=(HB.out.cell (World.block_lt_of_cell? w _ Bm)).trans Bm
        replace Da:=eq_true Da
        replace Db:=eq_true Db
        go_wp2
        repeat(go_quiet (fail);try go_wp2)
        go_roundg k2
        case measure=>have:=Cm.out;have:=Dw.out;omega
        exact⟨(Cg ++ (rdOf ByteArray.empty l1 (rd Aa Ah))),(wrap64 (Ah + 1)),qy2,qy2,H',⟨by have:=Cm.out;have:=Dw.out;omega⟩,⟨qk Ad.out⟩,⟨qb⟩⟩
      ·rw [if_neg Dd]at H
       have Dp:=decide_eq_false Dd
       clear Dd
       obtain⟨Fj,H⟩:=qo H
       have Hj:=eq_true Fj
       have Hk:=decide_eq_true Fj
       have Hl:=eq_false (Nat.not_lt.2 Fj)
       by_cases Dc:Af=1
       ·rw [if_pos Dc]at H
        have Ds:(Af == 1)=true:=beq_iff_eq.mpr Dc
        have Dt:(Af != 1)=false:=bne_eq_false_iff_eq.mpr Dc
        clear Dc
        simp only [Option.some.injEq,Prod.mk.injEq]at H
        obtain⟨rfl,rfl⟩:=H
        obtain⟨Ej,Ek,El,Em,En,Eo⟩:=qz3 Ad.out
        go_wp2
        repeat(go_quiet (fail);try go_wp2)
        go_ret2
        exact⟨qf,qb⟩
       ·rw [if_neg Dc]at H
        have Ds:(Af == 1)=false:=beq_eq_false_iff_ne.mpr Dc
        have Dt:(Af != 1)=true:=bne_iff_ne.mpr Dc
        simp only [Option.some.injEq,Prod.mk.injEq]at H
        obtain⟨rfl,rfl⟩:=H
        obtain⟨Ep,Eq,Er,Es,Et,Eu⟩:=qz3 Ad.out
        go_wp2
        repeat(go_quiet (fail);try go_wp2)
        go_ret2
        exact⟨qf,qb⟩
end Go.Proofs.YtkdabljlfbmpdaaGreat.Pb
end
section
namespace Go.Proofs.YtkdabljlfbmpdaaGreat.Pb
open Go.RowKit Go.Proofs.YtkdabljlfbmpdaaGreatW.PrintWords Go.Proofs.YtkdabljlfbmpdaaGreatW.PrintLast Go.Proofs.YtkdabljlfbmpdaaGreatW.PrintMore
attribute [local go_sem] max2_int min2_int max_two min_two max_three min_three max_four min_four   -- for this text's walks alone
set_option linter.unusedVariables false
set_option linter.unusedSimpArgs false
mutual
def z7_.j0:Nat→List ByteArray→ByteArray→Bool→List (S48)→Int→ByteArray→List Int→List (S33)→Option (ByteArray)
 | 0,_,_,_,_,_,_,_,_=>none
 | k + 1,x3,x5,x34,x224000,x224001,x224002,x224003,x224004=>if x34=true then(some (⟨#[]⟩:ByteArray))else(z7_.l0 k x3 x5 0 x224000 x224001 x224002 x224003 x224004)
def z7_.l0:Nat→List ByteArray→ByteArray→Int→List (S48)→Int→ByteArray→List Int→List (S33)→Option (ByteArray)
 | 0,_,_,_,_,_,_,_,_=>none
 | k + 1,x3,x5,x6,x224000,x224001,x224002,x224003,x224004=>if x6 < (x224004.length:Int)then(z7_.j2 k x3 x5 x6 (decide ((x5.size:Int)≤3000)) x224000 x224001 x224002 x224003 x224004)else(z7_.j2 k x3 x5 x6 false x224000 x224001 x224002 x224003 x224004)
def z7_.j2:Nat→List ByteArray→ByteArray→Int→Bool→List (S48)→Int→ByteArray→List Int→List (S33)→Option (ByteArray)
 | 0,_,_,_,_,_,_,_,_,_=>none
 | k + 1,x3,x5,x6,x44,x224000,x224001,x224002,x224003,x224004=>if x44=true then(if x6=0 then(if x5.size + 4≤9223372036854775807 then(if 0≤x6 then(if x6 < (x224004.length:Int)then((spec_l04Lit.f k ((y19 x224004 x6).f0) ((y19 x224004 x6).f1) ((y19 x224004 x6).f2) x3).bind fun bt231=>(if bt231.2=true then(if(x5 ++ (⟨#[32,58,45,32]⟩:ByteArray)).size + bt231.1.size≤9223372036854775807 then(z7_.l0 k x3 ((x5 ++ (⟨#[32,58,45,32]⟩:ByteArray)) ++ bt231.1) (wrap64 (x6 + 1)) x224000 x224001 x224002 x224003 x224004)else(none))else(some (⟨#[]⟩:ByteArray))))else(none))else(none))else(none))else(if x5.size + 2≤9223372036854775807 then(if 0≤x6 then(if x6 < (x224004.length:Int)then((spec_l04Lit.f k ((y19 x224004 x6).f0) ((y19 x224004 x6).f1) ((y19 x224004 x6).f2) x3).bind fun bt234=>(if bt234.2=true then(if(x5 ++ (⟨#[44,32]⟩:ByteArray)).size + bt234.1.size≤9223372036854775807 then(z7_.l0 k x3 ((x5 ++ (⟨#[44,32]⟩:ByteArray)) ++ bt234.1) (wrap64 (x6 + 1)) x224000 x224001 x224002 x224003 x224004)else(none))else(some (⟨#[]⟩:ByteArray))))else(none))else(none))else(none)))else(if x5.size + 1≤9223372036854775807 then(if((x5 ++ (⟨#[46]⟩:ByteArray)).size:Int) > 3000 then(some (⟨#[]⟩:ByteArray))else(some (x5 ++ (⟨#[46]⟩:ByteArray))))else(none))
end
def z7_.f (k:Nat) (l0_0:List (S48)) (a0_1:Int) (a0_2:ByteArray) (l0_3:List Int) (l0_4:List (S33)):Option (ByteArray):=if(l0_4.length:Int) > 3000 then(some (⟨#[]⟩:ByteArray))else((z8_.f k l0_0 a0_1 a0_2 l0_3 l0_4).bind fun bt224=>(if bt224.2=true then((spec_l04Lit.f k a0_1 a0_2 l0_3 bt224.1).bind fun bt228=>(if bt228.2=true then(z7_.j0 k bt224.1 bt228.1 (a0_1 != 1) l0_0 a0_1 a0_2 l0_3 l0_4)else(z7_.j0 k bt224.1 bt228.1 true l0_0 a0_1 a0_2 l0_3 l0_4)))else(some (⟨#[]⟩:ByteArray))))
set_option maxHeartbeats 8000000 in
set_option maxRecDepth 100000 in
theorem z7_.calls (k:Nat) (Bd:Option Addr) (Be:Nat) (Ag:List (S48)) (Ad:Int) (Ah:ByteArray) (Bb:Option Addr) (Bc:Nat) (Af:List Int) (Bf:Option Addr) (Bg:Nat) (Aa:List (S33)) (r:ByteArray) (w:World) (De:Kd.C k48 w Bd Ag.length Ag) (Df:Ag.length≤Be) (Dg:Kd.C (Kd.int .i64) w Bb Af.length Af) (Dh:Af.length≤Bc) (Di:Kd.C k33 w Bf Aa.length Aa) (Dj:Aa.length≤Bg) (h:z7_.f k Ag Ad Ah Af Aa=some r) :
  Calls Tryz.prog 16 #[.agg #[.slice Bd Ag.length Be,.int .i64 Ad,.string Ah,.slice Bb Af.length Bc,.slice Bf Aa.length Bg]] w fun e w'=>e=.returned (.string r)∧Below w.heap.size w w':=by
 have Jt:=Tryz.underlying36
 have Ju:=Tryz.underlying33
 have Dk:=y0.mk De
 have Dl:=y0.mk Df
 clear De Df
 have Cd:=y0.mk Dg
 have Ce:=y0.mk Dh
 clear Dg Dh
 have Bh:=y0.mk Di
 have Dm:=y0.mk Dj
 clear Di Dj
 have HB:=y0.mk (Below.refl w.heap.size w)
 have H:(if(Aa.length:Int) > 3000 then(some (⟨#[]⟩:ByteArray))else((z8_.f k Ag Ad Ah Af Aa).bind fun Ca=>(if Ca.2=true then((spec_l04Lit.f k Ad Ah Af Ca.1).bind fun Cf=>(if Cf.2=true then(z7_.j0 k Ca.1 Cf.1 (Ad != 1) Ag Ad Ah Af Aa)else(z7_.j0 k Ca.1 Cf.1 true Ag Ad Ah Af Aa)))else(some (⟨#[]⟩:ByteArray)))))=some r:=h
 clear h
 by_cases c2:(Aa.length:Int) > 3000
 ·rw [if_pos c2]at H
  have Ea:decide (3000 < (Aa.length:Int))=true:=decide_eq_true c2
  have Eb:decide (3000 < Aa.length)=true:=decide_eq_true (by omega)
  clear c2
  obtain rfl:=Option.some.inj H
  go_enter Tryz.func16,Tryz.ntmps16
  go_wp2_with (first|((with_reducible refine y16 (N:=1) rfl ?_);(try(refine gate_guard (by rfl) ?_;dsimp only));refine qe 1 #[.slice Bd Ag.length Be,.int .i64 Ad,.string Ah,.slice Bb Af.length Bc,.slice Bf Aa.length Bg] 36 ?_;intro Bn hg w3 hbox hb;have Ab:=y0.mk (hbox);have Do:=y0.mk (qg (w:=w) hg);have Dp:=y0.mk (qg (w:=w) hg);replace HB:=y0.mk (y5 qb hb);clear hb hbox hg;obtain⟨Hw,Hx,Hy,Hz,Ia,Ib,Ic,Id,Ie,If⟩:=qz5 Ab.out))
  go_ret
  exact⟨qf,qb⟩
 ·rw [if_neg c2]at H
  have Ea:decide (3000 < (Aa.length:Int))=false:=decide_eq_false c2
  have Eb:decide (3000 < Aa.length)=false:=decide_eq_false (by omega)
  clear c2
  obtain⟨⟨Ai,Ig⟩,A5,H⟩:=qB H
  dsimp only at H
  by_cases c6:Ig=true
  ·subst c6
   replace H:=qT H
   obtain⟨⟨Cg,Dr⟩,A7,H⟩:=qB H
   replace H:(if Dr=true then(z7_.j0 k Ai Cg (Ad != 1) Ag Ad Ah Af Aa)else(z7_.j0 k Ai Cg true Ag Ad Ah Af Aa))=some r:=H
   have Ih:=y0.mk H
   clear H
   go_enter Tryz.func16,Tryz.ntmps16
   go_upto_region 7 with(first|((with_reducible refine y16 (N:=1) rfl ?_);(try(refine gate_guard (by rfl) ?_;dsimp only));refine qe 1 #[.slice Bd Ag.length Be,.int .i64 Ad,.string Ah,.slice Bb Af.length Bc,.slice Bf Aa.length Bg] 36 ?_;intro Bn hg w9 hbox hb;have Ab:=y0.mk (hbox);have Do:=y0.mk (qg (w:=w) hg);have Dp:=y0.mk (qg (w:=w) hg);replace HB:=y0.mk (y5 qb hb);clear hb hbox hg;obtain⟨Ch,Ci,Cj,Ck,Cl,Cm,Cn,Co,Cp,Cq⟩:=qz5 Ab.out)|((with_reducible refine y15 (f:=33) rfl ?_);refine y17 (some 15) rfl rfl Tryz.func33 (by kernel_rfl) rfl #[.agg #[.slice Bd Ag.length Be,.int .i64 Ad,.string Ah,.slice Bb Af.length Bc,.slice Bf Aa.length Bg]] rfl qy1 ?_;(with_reducible refine(z8_.calls k _ _ Ag Ad Ah (fun k_=>k_ < w.heap.size) _ _ Af (fun k_=>k_ < w.heap.size) _ _ Aa Ai true _ (qc (Kd.C_below Dk.out HB.out)) Dl.out (by exact Kd.V_mk Ce.out (Kd.F_below (Kd.C_F (Kd.heap_int .i64) Cd.out) qb)) (by exact Kd.V_mk Dm.out (Kd.F_below (Kd.C_F k33_heap Bh.out) qb)) A5.out).mono ?_);rintro e Jx ⟨Ii,rfl,Ec,hb⟩;refine⟨_,rfl, ?_⟩;have Ba:=y0.mk (Kd.R_lower (Kd.R_mono (ok':=fun k_=>True) Ec (fun _ hk_=>trivial)) (y4 qb));replace Ab:=y0.mk (qK Ab.out hb);replace HB:=y0.mk (y5 qb hb);(try clear hb);(try clear Ec);obtain⟨Cr,Cs,Ct,Cu,Cv,Cw,Cx,Cy,Cz,Da⟩:=qz5 Ab.out;obtain⟨Bo,Bp,Ij⟩:=Kd.R_slice Ba.out;subst Ij)|((with_reducible refine y15 (f:=34) rfl ?_);refine y17 (some 24) rfl rfl Tryz.func34 (by kernel_rfl) rfl #[.agg #[.int .i64 Ad,.string Ah,.slice Bb Af.length Bc],.slice Bo Ai.length Bp] rfl qy1 ?_;(with_reducible refine(spec_l04Lit.calls k Ad Ah _ _ Af _ _ Ai Cg Dr _ (qc (Kd.C_below Cd.out HB.out)) Ce.out (qc ((Kd.R_reads' Ba.out).2.2)) (by exact(Kd.R_reads' Ba.out).2.1) A7.out).mono ?_);rintro e Jy ⟨rfl,hb⟩;refine⟨_,rfl, ?_⟩;replace Ba:=y0.mk (Kd.R_below (qR Ba.out) hb);replace Ab:=y0.mk (qK Ab.out hb);replace HB:=y0.mk (y5 qb hb);(try clear hb)))
   (try simp only [Act.put,qS_,qZ_,qC_])
   go_cut [34] (fun Jv wc=>∃(kq:Nat) (Cb:Bool),Jv=.bool Cb∧y0 (z7_.j0 kq Ai Cg Cb Ag Ad Ah Af Aa=some r)∧y0 (kq≤k)∧y0 (Kd.R Kd.string 9 wc w.heap.size (fun _=>True) (.slice Bo Ai.length Bp) Ai)∧y0 (wc.heap[Bn]?=some (.cells #[(.slice Bd Ag.length Be),.int .i64 Ad,.string Ah,(.slice Bb Af.length Bc),(.slice Bf Aa.length Bg)] 36 (0,0)))∧y0 (Below w.heap.size w wc))
   case first =>
    have H:=Ih.out
    clear Ih
    by_cases En:Dr=true
    ·subst En
     replace H:=qT H
     have H':=y0.mk H
     clear H
     obtain⟨Eo,Ep,Eq,Er,Es,Et,Eu,Ew,Ex,Ey⟩:=qz5 Ab.out
     go_wp2
     go_meet
     exact⟨_,((Ad != 1)),qy2,H',⟨by first|omega|exact Nat.le_refl _⟩,⟨qR Ba.out⟩,⟨qk Ab.out⟩,⟨qb⟩⟩
    ·replace En:=Bool.eq_false_iff.mpr En
     subst En
     replace H:=qF H
     have H':=y0.mk H
     clear H
     go_wp2
     go_meet
     exact⟨_,(true),qy2,H',⟨by first|omega|exact Nat.le_refl _⟩,⟨qR Ba.out⟩,⟨qk Ab.out⟩,⟨qb⟩⟩
   case rest =>
    clear Ih
    (try clear Ea Eb c6 Ch Ci Cj Ck Cl Cr Cs Ct Cu Cv Cm Cn Co Cp Cq Cw Cx Cy Cz Da)
    obtain⟨kq,Cb,rfl,HA,Dx,Aj,Ab,HB⟩:=hcut
    cases kq with
    | zero=>exact absurd HA.out (by simp [z7_.j0])
    | succ Is =>
     have H:=HA.out
     clear HA
     simp only [z7_.j0]at H
     by_cases Ed:Cb=true
     ·subst Ed
      replace H:=qT H
      obtain rfl:=Option.some.inj H
      go_wp2
      go_ret
      exact⟨qf,qb⟩
     ·replace Ed:=Bool.eq_false_iff.mpr Ed
      subst Ed
      replace H:=qF H
      have H':=y0.mk H
      clear H
      go_wp2
      go_loopg [5,6] Is (fun kq v5 v6 w'=>∃(Ak:ByteArray) (Ac:Int),v5=.string Ak∧v6=.int .i64 Ac∧y0 (z7_.l0 kq Ai Ak Ac Ag Ad Ah Af Aa=some r)∧y0 (kq≤Is)∧y0 (Kd.R Kd.string 9 w' w.heap.size (fun _=>True) (.slice Bo Ai.length Bp) Ai)∧y0 (w'.heap[Bn]?=some (.cells #[(.slice Bd Ag.length Be),.int .i64 Ad,.string Ah,(.slice Bb Af.length Bc),(.slice Bf Aa.length Bg)] 36 (0,0)))∧y0 (Below w.heap.size w w'))
      case atStart=>exact⟨(Cg),(0),qy2,qy2,H',⟨Nat.le_refl _⟩,⟨qR Aj.out⟩,⟨qk Ab.out⟩,⟨qb⟩⟩
      case round =>
       clear H'
       (try clear Ed)
       obtain⟨Ak,Ac,rfl,rfl,HA,Dy,Aj,Ab,HB⟩:=hrel
       cases gk with
       | zero=>exact absurd HA.out (by simp [z7_.l0])
       | succ k2 =>
        have H:=HA.out
        clear HA
        simp only [z7_.l0]at H
        have Ds:=y0.mk H
        clear H
        go_upto_region 10 with(fail)
        go_cut [44] (fun Jw wc=>∃(kq:Nat) (Bi:Bool),Jw=.bool Bi∧y0 (z7_.j2 kq Ai Ak Ac Bi Ag Ad Ah Af Aa=some r)∧y0 (kq≤k2)∧y0 (Kd.R Kd.string 9 wc w.heap.size (fun _=>True) (.slice Bo Ai.length Bp) Ai)∧y0 (wc.heap[Bn]?=some (.cells #[(.slice Bd Ag.length Be),.int .i64 Ad,.string Ah,(.slice Bb Af.length Bc),(.slice Bf Aa.length Bg)] 36 (0,0)))∧y0 (Below w.heap.size w wc))
        case first =>
         have H:=Ds.out
         clear Ds
         by_cases Dz:Ac < (Aa.length:Int)
         ·rw [if_pos Dz]at H
          have Bq:=decide_eq_true Dz
          clear Dz
          (first|rw [Bq]|(simp only [i64_w,i32_w];rw [Bq])|skip)
          have H':=y0.mk H
          clear H
          obtain⟨Ez,Fa,Fb,Fc,Fd,Fe,Ff,Fg,Fh,Fi⟩:=qz5 Ab.out
          go_wp2
          go_meet
          exact⟨_,(decide ((Ak.size:Int)≤3000)),qy2,H',⟨by have:=Dx.out;have:=Dy.out;first|omega|exact Nat.le_refl _⟩,⟨qR Aj.out⟩,⟨qk Ab.out⟩,⟨qb⟩⟩
         ·rw [if_neg Dz]at H
          have Bq:=decide_eq_false Dz
          clear Dz
          (first|rw [Bq]|(simp only [i64_w,i32_w];rw [Bq])|skip)
          have H':=y0.mk H
          clear H
          obtain⟨Fj,Fk,Fl,Fm,Fn,Fo,Fp,Fq,Fr,Fs⟩:=qz5 Ab.out
          go_wp2
          go_meet
          exact⟨_,(false),qy2,H',⟨by have:=Dx.out;have:=Dy.out;first|omega|exact Nat.le_refl _⟩,⟨qR Aj.out⟩,⟨qk Ab.out⟩,⟨qb⟩⟩
        case rest =>
         clear Ds
         obtain⟨kq,Bi,rfl,HA,Db,Aj,Ab,HB⟩:=hcut
         cases kq with
         | zero=>exact absurd HA.out (by simp [z7_.j2])
         | succ Cc =>
          have H:=HA.out
          clear HA
          simp only [z7_.j2]at H
          by_cases Ft:Bi=true
          ·subst Ft
           replace H:=qT H
           by_cases Dt:Ac=0
           ·rw [if_pos Dt]at H
            have Ee:(Ac == 0)=true:=beq_iff_eq.mpr Dt
            have Ef:(Ac != 0)=false:=bne_eq_false_iff_eq.mpr Dt
            clear Dt
            obtain⟨Ik,H⟩:=qo H
            have Iu:=eq_true Ik
            have Iv:=decide_eq_true Ik
            have Iw:=eq_false (Nat.not_lt.2 Ik)
            obtain⟨Ix,H⟩:=qo H
            have Iy:decide (0≤Ac)=true:=decide_eq_true Ix
            clear Ix
            obtain⟨Iz,H⟩:=qo H
            have Ja:decide (Ac < (Aa.length:Int))=true:=decide_eq_true Iz
            clear Iz
            obtain⟨⟨Dc,Il⟩,Jb,H⟩:=qB H
            dsimp only at H
            by_cases Fu:Il=true
            ·subst Fu
             replace H:=qT H
             obtain⟨Im,H⟩:=qo H
             have Jc:=eq_true Im
             have Jd:=decide_eq_true Im
             have Eg:=eq_false (Nat.not_lt.2 Im)
             have Je:(9223372036854775807 < Ak.size + 4 + Dc.size)=False:=qs Eg
             have H':=y0.mk H
             clear H
             obtain⟨Fv,Fx,Fy,Fz,Ga,Gb,Gc,Gd,Ge,Gf⟩:=qz5 Ab.out
             have Br:0≤(Ac:Int):=of_decide_eq_true qy0
             have Bs:Ac < (Aa.length:Int):=of_decide_eq_true qy0
             obtain⟨Eh,Bt,Bu,Du,Am,Ap,Ar,Av,Aw⟩:=at_T33 Bh.out Ac Br Bs
             cases Du
             replace Am:=(HB.out.cell (World.block_lt_of_cell? w _ Am)).trans Am
             replace Ap:=(HB.out.cell (World.block_lt_of_cell? w _ Ap)).trans Ap
             replace Ar:=(HB.out.cell (World.block_lt_of_cell? w _ Ar)).trans Ar
             have Bj:=y0.mk Aw
             have Bk:=y0.mk Av
             clear Aw Av
             replace Br:=eq_true Br
             replace Bs:=eq_true Bs
             go_wp2_with (first|((with_reducible refine y15 (f:=34) rfl ?_);refine y17 (some 60) rfl rfl Tryz.func34 (by kernel_rfl) rfl #[.agg #[.int .i64 ((y19 Aa Ac).f0),.string ((y19 Aa Ac).f1),.slice Bt ((y19 Aa Ac).f2).length Bu],.slice Bo Ai.length Bp] rfl qy1 ?_;(with_reducible refine(spec_l04Lit.calls Cc ((y19 Aa Ac).f0) ((y19 Aa Ac).f1) _ _ ((y19 Aa Ac).f2) _ _ Ai Dc true _ (qc (Kd.C_below Bj.out HB.out)) Bk.out (qc ((Kd.R_reads' Aj.out).2.2)) (by exact(Kd.R_reads' Aj.out).2.1) Jb.out).mono ?_);rintro e Jz ⟨rfl,hb⟩;refine⟨_,rfl, ?_⟩;replace Aj:=y0.mk (Kd.R_below (qR Aj.out) hb);replace Ab:=y0.mk (qK Ab.out hb);replace HB:=y0.mk (y5 qb hb);(try clear hb)))
             go_roundg Cc
             case measure=>have:=Dx.out;have:=Dy.out;have:=Db.out;omega
             exact⟨((Ak ++ (⟨#[32,58,45,32]⟩:ByteArray)) ++ Dc),(wrap64 (Ac + 1)),qy2,qy2,H',⟨by have:=Dx.out;have:=Dy.out;have:=Db.out;omega⟩,⟨qR Aj.out⟩,⟨qk Ab.out⟩,⟨qb⟩⟩
            ·replace Fu:=Bool.eq_false_iff.mpr Fu
             subst Fu
             replace H:=qF H
             obtain rfl:=Option.some.inj H
             obtain⟨Gg,Gh,Gi,Gj,Gk,Gl,Gm,Gn,Gp,Gq⟩:=qz5 Ab.out
             have Br:0≤(Ac:Int):=of_decide_eq_true qy0
             have Bs:Ac < (Aa.length:Int):=of_decide_eq_true qy0
             obtain⟨Eh,Bt,Bu,Du,Am,Ap,Ar,Av,Aw⟩:=at_T33 Bh.out Ac Br Bs
             cases Du
             replace Am:=(HB.out.cell (World.block_lt_of_cell? w _ Am)).trans Am
             replace Ap:=(HB.out.cell (World.block_lt_of_cell? w _ Ap)).trans Ap
             replace Ar:=(HB.out.cell (World.block_lt_of_cell? w _ Ar)).trans Ar
             have Bj:=y0.mk Aw
             have Bk:=y0.mk Av
             clear Aw Av
             replace Br:=eq_true Br
             replace Bs:=eq_true Bs
             go_wp2_with (first|((with_reducible refine y15 (f:=34) rfl ?_);refine y17 (some 60) rfl rfl Tryz.func34 (by kernel_rfl) rfl #[.agg #[.int .i64 ((y19 Aa Ac).f0),.string ((y19 Aa Ac).f1),.slice Bt ((y19 Aa Ac).f2).length Bu],.slice Bo Ai.length Bp] rfl qy1 ?_;(with_reducible refine(spec_l04Lit.calls Cc ((y19 Aa Ac).f0) ((y19 Aa Ac).f1) _ _ ((y19 Aa Ac).f2) _ _ Ai Dc false _ (qc (Kd.C_below Bj.out HB.out)) Bk.out (qc ((Kd.R_reads' Aj.out).2.2)) (by exact(Kd.R_reads' Aj.out).2.1) Jb.out).mono ?_);rintro e Ka ⟨rfl,hb⟩;refine⟨_,rfl, ?_⟩;replace Aj:=y0.mk (Kd.R_below (qR Aj.out) hb);replace Ab:=y0.mk (qK Ab.out hb);replace HB:=y0.mk (y5 qb hb);(try clear hb)))
             go_ret
             exact⟨qf,qb⟩
           ·rw [if_neg Dt]at H
            have Ee:(Ac == 0)=false:=beq_eq_false_iff_ne.mpr Dt
            have Ef:(Ac != 0)=true:=bne_iff_ne.mpr Dt
            obtain⟨Io,H⟩:=qo H
            have Jf:=eq_true Io
            have Jg:=decide_eq_true Io
            have Jh:=eq_false (Nat.not_lt.2 Io)
            obtain⟨Ji,H⟩:=qo H
            have Jj:decide (0≤Ac)=true:=decide_eq_true Ji
            clear Ji
            obtain⟨Jk,H⟩:=qo H
            have Jl:=decide_eq_true Jk
            clear Jk
            obtain⟨⟨Dd,Ip⟩,Jm,H⟩:=qB H
            dsimp only at H
            by_cases Gr:Ip=true
            ·subst Gr
             replace H:=qT H
             obtain⟨Iq,H⟩:=qo H
             have Jn:=eq_true Iq
             have Jo:=decide_eq_true Iq
             have Ei:=eq_false (Nat.not_lt.2 Iq)
             have Jp:(9223372036854775807 < Ak.size + 2 + Dd.size)=False:=qs Ei
             have H':=y0.mk H
             clear H
             obtain⟨Gs,Gt,Gu,Gv,Gw,Gx,Gy,Gz,Ha,Hb⟩:=qz5 Ab.out
             have Bv:0≤(Ac:Int):=of_decide_eq_true qy0
             have Bw:Ac < (Aa.length:Int):=of_decide_eq_true qy0
             obtain⟨Ej,Bx,Bz,Dw,As,At,Au,Ay,Az⟩:=at_T33 Bh.out Ac Bv Bw
             cases Dw
             replace As:=(HB.out.cell (World.block_lt_of_cell? w _ As)).trans As
             replace At:=(HB.out.cell (World.block_lt_of_cell? w _ At)).trans At
             replace Au:=(HB.out.cell (World.block_lt_of_cell? w _ Au)).trans Au
             have Bl:=y0.mk Az
             have Bm:=y0.mk Ay
             clear Az Ay
             replace Bv:=eq_true Bv
             replace Bw:=eq_true Bw
             go_wp2_with (first|((with_reducible refine y15 (f:=34) rfl ?_);refine y17 (some 60) rfl rfl Tryz.func34 (by kernel_rfl) rfl #[.agg #[.int .i64 ((y19 Aa Ac).f0),.string ((y19 Aa Ac).f1),.slice Bx ((y19 Aa Ac).f2).length Bz],.slice Bo Ai.length Bp] rfl qy1 ?_;(with_reducible refine(spec_l04Lit.calls Cc ((y19 Aa Ac).f0) ((y19 Aa Ac).f1) _ _ ((y19 Aa Ac).f2) _ _ Ai Dd true _ (qc (Kd.C_below Bl.out HB.out)) Bm.out (qc ((Kd.R_reads' Aj.out).2.2)) (by exact(Kd.R_reads' Aj.out).2.1) Jm.out).mono ?_);rintro e Kb ⟨rfl,hb⟩;refine⟨_,rfl, ?_⟩;replace Aj:=y0.mk (Kd.R_below (qR Aj.out) hb);replace Ab:=y0.mk (qK Ab.out hb);replace HB:=y0.mk (y5 qb hb);(try clear hb)))
             go_roundg Cc
             case measure=>have:=Dx.out;have:=Dy.out;have:=Db.out;omega
             exact⟨((Ak ++ (⟨#[44,32]⟩:ByteArray)) ++ Dd),(wrap64 (Ac + 1)),qy2,qy2,H',⟨by have:=Dx.out;have:=Dy.out;have:=Db.out;omega⟩,⟨qR Aj.out⟩,⟨qk Ab.out⟩,⟨qb⟩⟩
            ·replace Gr:=Bool.eq_false_iff.mpr Gr
             subst Gr
             replace H:=qF H
             obtain rfl:=Option.some.inj H
             obtain⟨Hc,Hd,He,Hf,Hg,Hh,Hi,Hj,Hk,Hl⟩:=qz5 Ab.out
             have Bv:0≤(Ac:Int):=of_decide_eq_true qy0
             have Bw:Ac < (Aa.length:Int):=of_decide_eq_true qy0
             obtain⟨Ej,Bx,Bz,Dw,As,At,Au,Ay,Az⟩:=at_T33 Bh.out Ac Bv Bw
             cases Dw
             replace As:=(HB.out.cell (World.block_lt_of_cell? w _ As)).trans As
             replace At:=(HB.out.cell (World.block_lt_of_cell? w _ At)).trans At
             replace Au:=(HB.out.cell (World.block_lt_of_cell? w _ Au)).trans Au
             have Bl:=y0.mk Az
             have Bm:=y0.mk Ay
             clear Az Ay
             replace Bv:=eq_true Bv
             replace Bw:=eq_true Bw
             go_wp2_with (first|((with_reducible refine y15 (f:=34) rfl ?_);refine y17 (some 60) rfl rfl Tryz.func34 (by kernel_rfl) rfl #[.agg #[.int .i64 ((y19 Aa Ac).f0),.string ((y19 Aa Ac).f1),.slice Bx ((y19 Aa Ac).f2).length Bz],.slice Bo Ai.length Bp] rfl qy1 ?_;(with_reducible refine(spec_l04Lit.calls Cc ((y19 Aa Ac).f0) ((y19 Aa Ac).f1) _ _ ((y19 Aa Ac).f2) _ _ Ai Dd false _ (qc (Kd.C_below Bl.out HB.out)) Bm.out (qc ((Kd.R_reads' Aj.out).2.2)) (by exact(Kd.R_reads' Aj.out).2.1) Jm.out).mono ?_);rintro e Ke ⟨rfl,hb⟩;refine⟨_,rfl, ?_⟩;replace Aj:=y0.mk (Kd.R_below (qR Aj.out) hb);replace Ab:=y0.mk (qK Ab.out hb);replace HB:=y0.mk (y5 qb hb);(try clear hb)))
             go_ret
             exact⟨qf,qb⟩
          ·replace Ft:=Bool.eq_false_iff.mpr Ft
           subst Ft
           replace H:=qF H
           obtain⟨Ir,H⟩:=qo H
           have Jq:=eq_true Ir
           have Jr:=decide_eq_true Ir
           have Js:=eq_false (Nat.not_lt.2 Ir)
           by_cases Dq:((Ak ++ (⟨#[46]⟩:ByteArray)).size:Int) > 3000
           ·rw [if_pos Dq]at H
            have Ek:(3000 < (Ak.size:Int) + 1)=True:=eq_true (by have h_:=Dq;rw [show(Ak ++ (⟨#[46]⟩:ByteArray)).size=Ak.size + 1 from by(simp only [ByteArray.size_append];rfl)]at h_;omega)
            have El:decide (3000 < ((Ak ++ (⟨#[46]⟩:ByteArray)).size:Int))=true:=decide_eq_true Dq
            have Em:decide (3000 < (Ak ++ (⟨#[46]⟩:ByteArray)).size)=true:=decide_eq_true (by omega)
            clear Dq
            obtain rfl:=Option.some.inj H
            go_wp2
            go_ret
            exact⟨qf,qb⟩
           ·rw [if_neg Dq]at H
            have Ek:(3000 < (Ak.size:Int) + 1)=False:=eq_false (by have h_:=Dq;rw [show(Ak ++ (⟨#[46]⟩:ByteArray)).size=Ak.size + 1 from by(simp only [ByteArray.size_append];rfl)]at h_;omega)
            have El:decide (3000 < ((Ak ++ (⟨#[46]⟩:ByteArray)).size:Int))=false:=decide_eq_false Dq
            have Em:decide (3000 < (Ak ++ (⟨#[46]⟩:ByteArray)).size)=false:=decide_eq_false (by omega)
            clear Dq
            obtain rfl:=Option.some.inj H
            go_wp2
            go_ret
            exact⟨qf,qb⟩
  ·replace c6:=Bool.eq_false_iff.mpr c6
   subst c6
   replace H:=qF H
   obtain rfl:=Option.some.inj H
   go_enter Tryz.func16,Tryz.ntmps16
   go_wp2_with (first|((with_reducible refine y16 (N:=1) rfl ?_);(try(refine gate_guard (by rfl) ?_;dsimp only));refine qe 1 #[.slice Bd Ag.length Be,.int .i64 Ad,.string Ah,.slice Bb Af.length Bc,.slice Bf Aa.length Bg] 36 ?_;intro Bn hg Kf hbox hb;have Ab:=y0.mk (hbox);have Do:=y0.mk (qg (w:=w) hg);have Dp:=y0.mk (qg (w:=w) hg);replace HB:=y0.mk (y5 qb hb);clear hb hbox hg;obtain⟨Hm,Hn,Ho,Hp,Hq,Hr,Hs,Ht,Hu,Hv⟩:=qz5 Ab.out)|((with_reducible refine y15 (f:=33) rfl ?_);refine y17 (some 15) rfl rfl Tryz.func33 (by kernel_rfl) rfl #[.agg #[.slice Bd Ag.length Be,.int .i64 Ad,.string Ah,.slice Bb Af.length Bc,.slice Bf Aa.length Bg]] rfl qy1 ?_;(with_reducible refine(z8_.calls k _ _ Ag Ad Ah (fun k_=>k_ < w.heap.size) _ _ Af (fun k_=>k_ < w.heap.size) _ _ Aa Ai false _ (qc (Kd.C_below Dk.out HB.out)) Dl.out (by exact Kd.V_mk Ce.out (Kd.F_below (Kd.C_F (Kd.heap_int .i64) Cd.out) qb)) (by exact Kd.V_mk Dm.out (Kd.F_below (Kd.C_F k33_heap Bh.out) qb)) A5.out).mono ?_);rintro e Kg ⟨Ii,rfl,Ec,hb⟩;refine⟨_,rfl, ?_⟩;have Ba:=y0.mk (Kd.R_lower (Kd.R_mono (ok':=fun k_=>True) Ec (fun _ hk_=>trivial)) (y4 qb));replace Ab:=y0.mk (qK Ab.out hb);replace HB:=y0.mk (y5 qb hb);(try clear hb);(try clear Ec)))
   go_ret
   exact⟨qf,qb⟩
end Go.Proofs.YtkdabljlfbmpdaaGreat.Pb
end
section
namespace Go.Proofs.YtkdabljlfbmpdaaGreat.Pb
open Go.RowKit Go.Proofs.YtkdabljlfbmpdaaGreatW.PrintWords Go.Proofs.YtkdabljlfbmpdaaGreatW.PrintLast Go.Proofs.YtkdabljlfbmpdaaGreatW.PrintMore
attribute [local go_sem] max2_int min2_int max_two min_two max_three min_three max_four min_four   -- for this text's walks alone
set_option linter.unusedVariables false
set_option linter.unusedSimpArgs false
def spec_l05In.l0:Nat→List ByteArray→ByteArray→Int→Option (Bool)
 | 0,_,_,_=>none
 | k + 1,x0,x1,x5=>if x5 < (x0.length:Int)then(if 0≤x5 then(if(rdOf ByteArray.empty x0 x5).toList=x1.toList then(some true)else(spec_l05In.l0 k x0 x1 (wrap64 (x5 + 1))))else(none))else(some false)
def spec_l05In.f (k:Nat) (l0:List ByteArray) (a1:ByteArray):Option (Bool):=spec_l05In.l0 k l0 a1 0
set_option maxHeartbeats 8000000 in
set_option maxRecDepth 100000 in
theorem spec_l05In.calls (k:Nat) (A0:Option Addr) (c0:Nat) (l0:List ByteArray) (a1:ByteArray) (r:Bool) (w:World) (Aj:Kd.C Kd.string w A0 l0.length l0) (Ak:l0.length≤c0) (h:spec_l05In.f k l0 a1=some r) :
  Calls Tryz.prog 18 #[.slice A0 l0.length c0,.string a1] w fun e w'=>e=.returned (.bool r)∧Drawn0 w w':=by
 have Ar:=y0.mk Aj
 have At:=y0.mk Ak
 clear Aj Ak
 have H:(spec_l05In.l0 k l0 a1 0)=some r:=h
 clear h
 have H':=y0.mk H
 clear H
 go_enter Tryz.func18,Tryz.ntmps18
 go_wp2
 go_loopg [5] k (fun kq v5 w'=>∃(Aa:Int),v5=.int .i64 Aa∧y0 (spec_l05In.l0 kq l0 a1 Aa=some r)∧y0 (kq≤k)∧Drawn0 w w')
 case atStart=>exact⟨(0),qy2,H',⟨Nat.le_refl _⟩,by repeat(first|exact Drawn0.refl _|apply Drawn0.step)⟩
 case round =>
  clear H'
  obtain⟨Aa,rfl,HA,Am,⟨m1,rfl⟩⟩:=hrel
  cases gk with
  | zero=>exact absurd HA.out (by simp [spec_l05In.l0])
  | succ k1 =>
   have H:=HA.out
   clear HA
   simp only [spec_l05In.l0]at H
   by_cases c3:Aa < (l0.length:Int)
   ·rw [if_pos c3]at H
    have Af:=decide_eq_true c3
    clear c3
    obtain⟨c4,H⟩:=qo H
    have As:decide (0≤Aa)=true:=decide_eq_true c4
    clear c4
    have Ab:0≤(Aa:Int):=of_decide_eq_true qy0
    have Ac:Aa < (l0.length:Int):=of_decide_eq_true qy0
    obtain⟨Ap,Ag,Ad⟩:=Kd.at_string Ar.out Aa Ab Ac
    cases Ag
    replace Ab:=eq_true Ab
    replace Ac:=eq_true Ac
    by_cases c5:(rdOf ByteArray.empty l0 Aa).toList=a1.toList
    ·rw [if_pos c5]at H
     have Ah:((rdOf ByteArray.empty l0 Aa).toList == a1.toList)=true:=beq_iff_eq.mpr c5
     have Ai:((rdOf ByteArray.empty l0 Aa).toList != a1.toList)=false:=bne_eq_false_iff_eq.mpr c5
     clear c5
     obtain rfl:=Option.some.inj H
     go_wp2
     go_ret
     exact qf2
    ·rw [if_neg c5]at H
     have Ah:((rdOf ByteArray.empty l0 Aa).toList == a1.toList)=false:=beq_eq_false_iff_ne.mpr c5
     have Ai:((rdOf ByteArray.empty l0 Aa).toList != a1.toList)=true:=bne_iff_ne.mpr c5
     have H':=y0.mk H
     clear H
     go_wp2
     go_roundg k1
     case measure=>have:=Am.out;omega
     exact⟨(wrap64 (Aa + 1)),qy2,H',⟨by have:=Am.out;omega⟩,by repeat(first|exact Drawn0.refl _|apply Drawn0.step)⟩
   ·rw [if_neg c3]at H
    have Af:=decide_eq_false c3
    clear c3
    obtain rfl:=Option.some.inj H
    go_wp2
    go_ret
    exact qf2
def spec_l06Calc.f (a0:Int):Option (Bool):=(spec_l01Between.f a0 5 7).bind fun t237=>(some t237)
set_option maxHeartbeats 8000000 in
set_option maxRecDepth 100000 in
theorem spec_l06Calc.calls (a0:Int) (r:Bool) (w:World) (h:spec_l06Calc.f a0=some r) :
  Calls Tryz.prog 54 #[.int .i64 a0] w fun e w'=>e=.returned (.bool r)∧Drawn0 w w':=by
 have H:((spec_l01Between.f a0 5 7).bind fun t237=>(some t237))=some r:=h
 clear h
 obtain⟨t237,A2,H⟩:=qB H
 obtain rfl:=Option.some.inj H
 go_enter Tryz.func54,Tryz.ntmps54
 go_wp2_with (first|((with_reducible refine y15 (f:=52) rfl ?_);refine y17 (some 4) rfl rfl Tryz.func52 (by kernel_rfl) rfl #[.int .i64 a0,.int .i64 5,.int .i64 7] rfl qy1 ?_;(with_reducible refine(spec_l01Between.calls a0 5 7 t237 _ A2.out).mono ?_);rintro e w' ⟨rfl,⟨nd,rfl⟩⟩;refine⟨_,rfl, ?_⟩))
 go_ret
 exact qf2
end Go.Proofs.YtkdabljlfbmpdaaGreat.Pb
end
section
namespace Go.Proofs.YtkdabljlfbmpdaaGreat.Pb
open Go.RowKit Go.Proofs.YtkdabljlfbmpdaaGreatW.PrintWords Go.Proofs.YtkdabljlfbmpdaaGreatW.PrintLast Go.Proofs.YtkdabljlfbmpdaaGreatW.PrintMore
attribute [local go_sem] max2_int min2_int max_two min_two max_three min_three max_four min_four   -- for this text's walks alone
set_option linter.unusedVariables false
set_option linter.unusedSimpArgs false
mutual
def z11_.l0:Nat→List Bool→Int→List (S48)→Int→ByteArray→List Int→List (S33)→Option (List Bool)
 | 0,_,_,_,_,_,_,_=>none
 | k + 1,x3,x4,x239000,x239001,x239002,x239003,x239004=>if x4≥0 then(z11_.l1 k x3 x4 0 x239000 x239001 x239002 x239003 x239004)else(some x3)
def z11_.l1:Nat→List Bool→Int→Int→List (S48)→Int→ByteArray→List Int→List (S33)→Option (List Bool)
 | 0,_,_,_,_,_,_,_,_=>none
 | k + 1,x3,x4,x5,x239000,x239001,x239002,x239003,x239004=>if 0≤x4 then(if x4 < (x239000.length:Int)then(if x5 < (((y20 x239000 x4).f2).length:Int)then(if 0≤x5 then(if x4 < (x3.length:Int)then(if rdOf false x3 x4=true then(if 0≤(rd ((y20 x239000 x4).f2) x5)then(if(rd ((y20 x239000 x4).f2) x5) < (x3.length:Int)then(z11_.l1 k (x3.set ((rd ((y20 x239000 x4).f2) x5):Int).toNat true) x4 (wrap64 (x5 + 1)) x239000 x239001 x239002 x239003 x239004)else(none))else(none))else((spec_l06Calc.f ((y20 x239000 x4).f0)).bind fun t248=>(if 0≤(rd ((y20 x239000 x4).f2) x5)then(if(rd ((y20 x239000 x4).f2) x5) < (x3.length:Int)then(z11_.l1 k (x3.set ((rd ((y20 x239000 x4).f2) x5):Int).toNat t248) x4 (wrap64 (x5 + 1)) x239000 x239001 x239002 x239003 x239004)else(none))else(none))))else(none))else(none))else(z11_.l0 k x3 (wrap64 (x4 - 1)) x239000 x239001 x239002 x239003 x239004))else(none))else(none)
end
def z11_.f (k:Nat) (l0_0:List (S48)) (a0_1:Int) (a0_2:ByteArray) (l0_3:List Int) (l0_4:List (S33)):Option (List Bool):=if 0≤(l0_0.length:Int)then(if((l0_0.length:Int):Int).toNat≤281474976710656 then(z11_.l0 k (List.replicate ((l0_0.length:Int):Int).toNat false) (wrap64 ((l0_0.length:Int) - 1)) l0_0 a0_1 a0_2 l0_3 l0_4)else(none))else(none)
def z11_.T8:Bool×List (List Nat×List Nat):=(true,[([],[]),([],[]),([1],[1]),([],[]),([2,3],[2,3]),([4],[4]),([5],[5]),([],[]),([6,7],[6,7]),([8],[8]),([],[]),([],[]),([10,11],[10,11]),([12],[12]),([13],[13]),([14],[14]),([15,14],[14,15]),([14],[14]),([16,17,14],[14,16,17]),([18,14],[14,18]),([19,14],[14,19]),([20,14,14],[14,20]),([14,21],[14,21]),([0,9,0,1,2,3,4,5,6,7,8,9,10,11,12,13,14,15,16,17,18,19,20,21,22],[0,9]),([23,22,21,0,1,2,3,4,5,6,7,8,9,10,11,12,13,14,15,16,17,18,19,20,21,22],[22,23])])
def z11_.B8:List Nat:=[0,0,2,0,14,30,62,0,254,510,0,0,3072,7168,15360,31744,64512,31744,261120,523264,1047552,2096128,4193280,8388607,16777215]
theorem z11_.tab8:rtab .any (opsOf Tryz.f35 8)=z11_.T8:=by kernel_rfl
theorem z11_.bits8:waitsOk z11_.T8.2 z11_.B8=true:=by kernel_rfl
set_option maxHeartbeats 8000000 in
set_option maxRecDepth 100000 in
theorem z11_.calls (k:Nat) (Cn:Option Addr) (Bx:Nat) (Ab:List (S48)) (Bf:Int) (Bg:ByteArray) (Bz:Option Addr) (Ca:Nat) (Bb:List Int) (Cb:Option Addr) (Cc:Nat) (Bc:List (S33)) (r:List Bool) (w:World) (Cx:Kd.C k48 w Cn Ab.length Ab) (Cy:Ab.length≤Bx) (Cz:Kd.C (Kd.int .i64) w Bz Bb.length Bb) (Da:Bb.length≤Ca) (Db:Kd.C k33 w Cb Bc.length Bc) (Dc:Bc.length≤Cc) (h:z11_.f k Ab Bf Bg Bb Bc=some r) :
  Calls Tryz.prog 35 #[.agg #[.slice Cn Ab.length Bx,.int .i64 Bf,.string Bg,.slice Bz Bb.length Ca,.slice Cb Bc.length Cc]] w fun e w'=>∃ v0_:Value,e=.returned (v0_)∧Kd.R Kd.bool 4 w' w.heap.size (fun _=>True) v0_ r∧Below w.heap.size w w':=by
 have Ik:=Tryz.underlying36
 have Br:=y0.mk Cx
 have Ho:=y0.mk Cy
 clear Cx Cy
 have Hp:=y0.mk Cz
 have Hq:=y0.mk Da
 clear Cz Da
 have Hr:=y0.mk Db
 have Hs:=y0.mk Dc
 clear Db Dc
 have HB:=y0.mk (Below.refl w.heap.size w)
 have H:(if 0≤(Ab.length:Int)then(if((Ab.length:Int):Int).toNat≤281474976710656 then(z11_.l0 k (List.replicate ((Ab.length:Int):Int).toNat false) (wrap64 ((Ab.length:Int) - 1)) Ab Bf Bg Bb Bc)else(none))else(none))=some r:=h
 clear h
 obtain⟨c2,H⟩:=qo H
 have Gu:=eq_true c2
 have Gv:=decide_eq_true c2
 clear c2
 obtain⟨c3,H⟩:=qo H
 have Gw:=eq_true c3
 have Gx:=decide_eq_true c3
 clear c3
 obtain⟨Eq,Bu⟩:∃ y_:List Bool,y_=(List.replicate ((Ab.length:Int):Int).toNat false):=⟨_,rfl⟩
 replace H:(z11_.l0 k Eq (wrap64 ((Ab.length:Int) - 1)) Ab Bf Bg Bb Bc)=some r:=by first|(rw [Bu];with_reducible exact H)|(have H2_:=(Option.bind_some _ _).symm.trans H;rw [Bu];with_reducible exact H2_)|(have H2_:=(Option.bind_some _ _).symm.trans H;with_reducible exact H2_)|with_reducible exact H|(rw [Bu];exact H)|exact H
 have Dd:=y0.mk Bu
 clear Bu
 have H':=y0.mk H
 clear H
 go_enter Tryz.func35,Tryz.ntmps35
 go_wp2_with (first|((with_reducible refine y16 (N:=1) rfl ?_);refine qe 1 #[.slice Cn Ab.length Bx,.int .i64 Bf,.string Bg,.slice Bz Bb.length Ca,.slice Cb Bc.length Cc] 36 ?_;intro Ba hg w4 hbox hb;have Ac:=y0.mk (hbox);have Ht:=y0.mk (qg (w:=w) hg);have De:=y0.mk (qg (w:=w) hg);replace HB:=y0.mk (y5 qb hb);clear hb hbox hg;obtain⟨Dh,Di,Dj,Dk,Dl,Dm,Do,Dp,Dq,Dr⟩:=qz5 Ac.out)|((with_reducible refine y16 (N:=9) rfl ?_);refine Kd.R_make Kd.bool _ 4 rfl (N:=9) rfl 69 _ _ rfl (Ab.length:Int) rfl rfl Tryz.underlying69 (.bool false) 1 info4 rfl (by decide) (by omega) false (ok:=fun _=>True) (okp:=fun _=>True) rfl (fun _ hk=>hk) trivial (of_decide_eq_true qy0) (Nat.le_trans (Nat.mul_le_mul_right _ (of_decide_eq_true qy0:(Ab.length:Int).toNat≤281474976710656)) (by omega)) (Below.refl _ _) (Nat.le_refl _) ?_;intro Er w6 Es hb hg_ hnew_;clear hg_ hnew_;(first|rw [← Dd.out]at Es|(simp only [Int.reduceToNat]at Es;rw [← Dd.out]at Es));have Et:=y0.mk (Kd.R_lower Es (y4 qb));replace Ac:=y0.mk (qK Ac.out hb);replace HB:=y0.mk (y5 qb hb);clear hb Es;obtain⟨Ds,Dt,Du,Dw,Dx,Dy,Dz,Ea,Eb,Ec⟩:=qz5 Ac.out))
 go_loopg [4] k (fun kq v4 w'=>∃(Cu:List Bool) (Aa:Int),v4=.int .i64 Aa∧y0 (z11_.l0 kq Cu Aa Ab Bf Bg Bb Bc=some r)∧y0 (kq≤k)∧y0 (Kd.R Kd.bool 4 w' w.heap.size (fun _=>True) Er Cu)∧y0 (w'.heap[Ba]?=some (.cells #[(.slice Cn Ab.length Bx),.int .i64 Bf,.string Bg,(.slice Bz Bb.length Ca),(.slice Cb Bc.length Cc)] 36 (0,0)))∧y0 (Below w.heap.size w w'))
 case atStart=>exact⟨(Eq),(wrap64 ((Ab.length:Int) - 1)),qy2,H',⟨Nat.le_refl _⟩,⟨qR Et.out⟩,⟨qk Ac.out⟩,⟨qb⟩⟩
 case round =>
  clear H'
  (try clear Gu Gv Gw Gx Dh Di Dj Dk Dl Ds Dt Du Dw Dx Dm Do Dp Dq Dr Dy Dz Ea Eb Ec)
  obtain⟨Cu,Aa,rfl,HA,En,As,Ac,HB⟩:=hrel
  cases gk with
  | zero=>exact absurd HA.out (by simp [z11_.l0])
  | succ k1 =>
   have H:=HA.out
   clear HA
   simp only [z11_.l0]at H
   by_cases c9:Aa≥0
   ·rw [if_pos c9]at H
    have Eu:decide (0≤Aa)=true:=decide_eq_true c9
    clear c9
    have H':=y0.mk H
    clear H
    go_wp2
    go_loopg [5] k1 (fun kq v5 w'=>∃(Bd:List Bool) (Ad:Int),v5=.int .i64 Ad∧y0 (z11_.l1 kq Bd Aa Ad Ab Bf Bg Bb Bc=some r)∧y0 (kq≤k1)∧y0 (Kd.R Kd.bool 4 w' w.heap.size (fun _=>True) Er Bd)∧y0 (w'.heap[Ba]?=some (.cells #[(.slice Cn Ab.length Bx),.int .i64 Bf,.string Bg,(.slice Bz Bb.length Ca),(.slice Cb Bc.length Cc)] 36 (0,0)))∧y0 (Below w.heap.size w w'))
    case atStart=>exact⟨(Cu),(0),qy2,H',⟨Nat.le_refl _⟩,⟨qR As.out⟩,⟨qk Ac.out⟩,⟨qb⟩⟩
    case round =>
     clear H'
     (try clear Eu)
     obtain⟨Bd,Ad,rfl,HA,Eo,As,Ac,HB⟩:=hrel
     cases gk with
     | zero=>exact absurd HA.out (by simp [z11_.l1])
     | succ k2 =>
      have H:=HA.out
      clear HA
      simp only [z11_.l1]at H
      obtain⟨Hu,H⟩:=qo H
      have Hv:=decide_eq_true Hu
      clear Hu
      obtain⟨Hw,H⟩:=qo H
      have Hx:decide (Aa < (Ab.length:Int))=true:=decide_eq_true Hw
      clear Hw
      by_cases Ep:Ad < (((y20 Ab Aa).f2).length:Int)
      ·rw [if_pos Ep]at H
       have Ew:=decide_eq_true Ep
       clear Ep
       obtain⟨Hy,H⟩:=qo H
       have Hz:decide (0≤Ad)=true:=decide_eq_true Hy
       clear Hy
       obtain⟨Ia,H⟩:=qo H
       have Ib:=decide_eq_true Ia
       clear Ia
       obtain⟨Ex,Co⟩:∃ b_:Bool,b_=(rdOf false Bd Aa):=⟨_,rfl⟩
       replace H:(if Ex=true then(if 0≤(rd ((y20 Ab Aa).f2) Ad)then(if(rd ((y20 Ab Aa).f2) Ad) < (Bd.length:Int)then(z11_.l1 k2 (Bd.set ((rd ((y20 Ab Aa).f2) Ad):Int).toNat true) Aa (wrap64 (Ad + 1)) Ab Bf Bg Bb Bc)else(none))else(none))else((spec_l06Calc.f ((y20 Ab Aa).f0)).bind fun Cp=>(if 0≤(rd ((y20 Ab Aa).f2) Ad)then(if(rd ((y20 Ab Aa).f2) Ad) < (Bd.length:Int)then(z11_.l1 k2 (Bd.set ((rd ((y20 Ab Aa).f2) Ad):Int).toNat Cp) Aa (wrap64 (Ad + 1)) Ab Bf Bg Bb Bc)else(none))else(none))))=some r:=by rw [← Co]at H;exact H
       have Df:=y0.mk Co
       clear Co
       by_cases Fm:Ex=true
       ·subst Fm
        replace H:=qT H
        obtain⟨Ic,H⟩:=qo H
        have Id:decide (0≤(rd ((y20 Ab Aa).f2) Ad))=true:=decide_eq_true Ic
        clear Ic
        obtain⟨Ie,H⟩:=qo H
        have If:decide ((rd ((y20 Ab Aa).f2) Ad) < (Bd.length:Int))=true:=decide_eq_true Ie
        clear Ie
        obtain⟨Ey,Bv⟩:∃ y_:List Bool,y_=(Bd.set ((rd ((y20 Ab Aa).f2) Ad):Int).toNat true):=⟨_,rfl⟩
        replace H:(z11_.l1 k2 Ey Aa (wrap64 (Ad + 1)) Ab Bf Bg Bb Bc)=some r:=by first|(rw [Bv];with_reducible exact H)|(have H2_:=(Option.bind_some _ _).symm.trans H;rw [Bv];with_reducible exact H2_)|(have H2_:=(Option.bind_some _ _).symm.trans H;with_reducible exact H2_)|with_reducible exact H|(rw [Bv];exact H)|exact H
        have Ez:=y0.mk Bv
        clear Bv
        have H':=y0.mk H
        clear H
        obtain⟨Fn,Fo,Fp,Fq,Fr,Fs,Ft,Fu,Fv,Fx⟩:=qz5 Ac.out
        have Bp:0≤(Aa:Int):=of_decide_eq_true qy0
        have Bq:Aa < (Ab.length:Int):=of_decide_eq_true qy0
        obtain⟨Af,Cq,Cr,Cs,Ah,Ai,Aj,At,Au⟩:=at_T48 Br.out Aa Bp Bq
        cases Cs
        replace Ah:=(HB.out.cell (World.block_lt_of_cell? w _ Ah)).trans Ah
        replace Ai:=(HB.out.cell (World.block_lt_of_cell? w _ Ai)).trans Ai
        replace Aj:=(HB.out.cell (World.block_lt_of_cell? w _ Aj)).trans Aj
        have Cj:=y0.mk Au
        have Ck:=y0.mk At
        clear Au At
        replace Bp:=eq_true Bp
        replace Bq:=eq_true Bq
        try go_wp2
        replace As:=y0.mk (Kd.R_drew As.out)
        replace Ac:=y0.mk (y9 Ac.out)
        replace HB:=y0.mk (y2 HB.out)
        have Cd:0≤(Aa:Int):=of_decide_eq_true qy0
        have Ce:Aa < (Ab.length:Int):=of_decide_eq_true qy0
        obtain⟨Ct,Ed,Bt,Ee,Ak,Am,Ag,Bh,Bi⟩:=at_T48 Br.out Aa Cd Ce
        have Av:=Ag
        have Aw:=Am
        have Ay:=Ak
        obtain rfl:Af=Ct:=(by injection Ee)
        replace Ak:=(HB.out.cell (World.block_lt_of_cell? w _ Ak)).trans Ak
        replace Am:=(HB.out.cell (World.block_lt_of_cell? w _ Am)).trans Am
        replace Ag:=(HB.out.cell (World.block_lt_of_cell? w _ Ag)).trans Ag
        have Bj:=y0.mk Bi
        have Cv:=y0.mk Bh
        clear Bi Bh
        replace Cd:=eq_true Cd
        replace Ce:=eq_true Ce
        have Cf:0≤(Ad:Int):=of_decide_eq_true qy0
        have Cg:Ad < (((y20 Ab Aa).f2).length:Int):=of_decide_eq_true qy0
        obtain⟨Bs,Ef,Ap⟩:=Kd.at_int Bj.out Ad Cf Cg
        have Az:=Ap
        cases Ef
        replace Ap:=(HB.out.cell (World.block_lt_of_cell? w _ Ap)).trans Ap
        replace Cf:=eq_true Cf
        replace Cg:=eq_true Cg
        obtain⟨Il,Im,Fa⟩:=Kd.R_slice As.out
        (first|subst Fa|(injection Fa with f1_ f2_ f3_;have f4_:=f1_.symm;have f5_:=f3_.symm;clear f1_ f2_ f3_;subst f4_;subst f5_))
        have Ch:0≤(Aa:Int):=of_decide_eq_true qy0
        have Ci:Aa < (Bd.length:Int):=of_decide_eq_true qy0
        obtain⟨Dg,Eg,Ar⟩:=Kd.at_bool (Kd.R_reads' As.out).2.2 Aa Ch Ci
        (try rw [← Df.out]at Ar)
        cases Eg
        replace Ch:=eq_true Ch
        replace Ci:=eq_true Ci
        have Gy:0≤((rd ((y20 Ab Aa).f2) Ad):Int):=of_decide_eq_true qy0
        have Gz:((rd ((y20 Ab Aa).f2) Ad):Int) < ((Bd.length:Int):Int):=of_decide_eq_true qy0
        obtain⟨Ha,Io,Fb,Fc,Hb,Ip,Fd⟩:=Kd.R_form As.out (by omega)
        (first|cases Fb|(injection Fb with ea_ en_ ec_;(first|subst ea_|(injection ea_ with ea_;subst ea_));subst ec_;clear en_))
        have Hc:=y0.mk Fc
        have Hd:=y0.mk Fd
        clear Fc Hb Fd
        (first|simp only [add_plain]at Ar|skip)
        obtain⟨Eh,Ei⟩:=Kd.R_celln false As.out ((rd ((y20 Ab Aa).f2) Ad):Int) Gy Gz
        replace Gy:=eq_true Gy
        replace Gz:=eq_true Gz
        have Ej:=Kd.R_putn As.out ((rd ((y20 Ab Aa).f2) Ad):Int) true
        rw [← Ez.out]at Ej
        have Fe:=y0.mk Ej
        clear Ej
        refine start_ (n:=25) (S:=fun w'=>w'.cell? ⟨Ba,0,none⟩=some (.slice (some Af) Ab.length Bx)∧w'.cell? ⟨Ba,1,none⟩=some (.int .i64 Bf)∧w'.cell? ⟨Ba,2,none⟩=some (.string Bg)∧w'.cell? ⟨Ba,3,none⟩=some (.slice Bz Bb.length Ca)∧w'.cell? ⟨Ba,4,none⟩=some (.slice Cb Bc.length Cc)∧w'.cell? (Af.add ((Aa).toNat * 3))=some (.int .i64 ((y20 Ab Aa).f0))∧w'.cell? ⟨(Af.add ((Aa).toNat * 3)).block,(Af.add ((Aa).toNat * 3)).off + 1,none⟩=some (.string ((y20 Ab Aa).f1))∧w'.cell? ⟨(Af.add ((Aa).toNat * 3)).block,(Af.add ((Aa).toNat * 3)).off + 2,none⟩=some (.slice (some Bs) ((y20 Ab Aa).f2).length Bt)∧w'.cell? (Bs.add (Ad).toNat)=some (.int .i64 (rd ((y20 Ab Aa).f2) Ad))∧w'.cell? ⟨Ha,(Aa).toNat,none⟩=some (.bool true)) (ds:=[24]) (fl_ 25 0) (by kernel_rfl) rfl rfl ⟨(y8 Ac.out 0).trans rfl,(y8 Ac.out 1).trans rfl,(y8 Ac.out 2).trans rfl,(y8 Ac.out 3).trans rfl,(y8 Ac.out 4).trans rfl,((HB.out.cell (World.block_lt_of_cell? w _ Ay)).trans Ay),((HB.out.cell (World.block_lt_of_cell? w _ Aw)).trans Aw),((HB.out.cell (World.block_lt_of_cell? w _ Av)).trans Av),((HB.out.cell (World.block_lt_of_cell? w _ Az)).trans Az),Ar⟩ (fun hHeld=>?_);refine with_tabW z11_.tab8 z11_.bits8 (fun HT_ HW_=>?_)
        generalize wr.drew=Iy at As Ac HB Hd Fe Bj Ei Eh Ak Am Ag Ap Ar hHeld ⊢
        refine qp2 0 29 25 ?_
        refine qp 3 32 (fl_ 25 11) ?_
        refine qp 7 36 (fl_ 25 139) ?_
        refine qp 10 39 (fl_ 25 1163) ?_
        refine qp 11 40 (fl_ 25 3211) ?_
        refine qp 12 41 (fl_ 25 7307) ?_
        refine qt 2 31 (fl_ 25 7311) hHeld ?_
        refine qp 4 33 (fl_ 25 7327) ?_
        refine qp 5 34 (fl_ 25 7359) ?_
        refine qt 6 35 (fl_ 25 7423) hHeld ?_
        refine qp 8 37 (fl_ 25 7679) ?_
        refine qt 9 38 (fl_ 25 8191) hHeld ?_
        refine qt 13 42 (fl_ 25 16383) hHeld ?_
        refine qp10 14 43 25 ?_
        refine last_ (i:=24) (N:=none) (fl_ 25 33554431) rfl rfl (one_of HT_.out (by kernel_rfl)) (by decide) (fun K hK=>?_)
        refine skip_ (w1:=?_) (by rfl) rfl ?_ ?_
        rotate_left
        ·go_simp
         rfl
        refine hK.out _ _ ?_
        clear hK K
        refine done_ (done_of HT_.out (by kernel_rfl)) ?_
        try go_wp2
        go_roundg k2
        case measure=>have:=En.out;have:=Eo.out;omega
        exact⟨(Ey),(wrap64 (Ad + 1)),qy2,H',⟨by have:=En.out;have:=Eo.out;omega⟩,⟨qR Fe.out⟩,⟨by(with_reducible repeat(first|refine y10 ?_ _|refine y9 ?_|refine y6 ?_ _));refine y11 ?_ (by have h_:=Kd.R_ne As.out Ac.out (by decide);intro e_;exact h_ (by rw [e_];rfl)) _;(with_reducible repeat(first|refine y10 ?_ _|refine y9 ?_|refine y6 ?_ _));exact Ac.out⟩,⟨by repeat(first|(with_reducible first|exact HB.out|apply below_alloc|apply y18|apply y2|refine y3 ?_ Hc.out|refine y3 ?_ De.out)|exact HB.out)⟩⟩
       ·replace Fm:=Bool.eq_false_iff.mpr Fm
        subst Fm
        replace H:=qF H
        obtain⟨Cp,Iq,H⟩:=qB H
        obtain⟨Ig,H⟩:=qo H
        have Ih:decide (0≤(rd ((y20 Ab Aa).f2) Ad))=true:=decide_eq_true Ig
        clear Ig
        obtain⟨Ii,H⟩:=qo H
        have Ij:decide ((rd ((y20 Ab Aa).f2) Ad) < (Bd.length:Int))=true:=decide_eq_true Ii
        clear Ii
        obtain⟨Ff,Bw⟩:∃ y_:List Bool,y_=(Bd.set ((rd ((y20 Ab Aa).f2) Ad):Int).toNat Cp):=⟨_,rfl⟩
        replace H:(z11_.l1 k2 Ff Aa (wrap64 (Ad + 1)) Ab Bf Bg Bb Bc)=some r:=by first|(rw [Bw];with_reducible exact H)|(have H2_:=(Option.bind_some _ _).symm.trans H;rw [Bw];with_reducible exact H2_)|(have H2_:=(Option.bind_some _ _).symm.trans H;with_reducible exact H2_)|with_reducible exact H|(rw [Bw];exact H)|exact H
        have Fg:=y0.mk Bw
        clear Bw
        have H':=y0.mk H
        clear H
        obtain⟨Fy,Fz,Ga,Gb,Gc,Gd,Ge,Gf,Gg,Gh⟩:=qz5 Ac.out
        have Bp:0≤(Aa:Int):=of_decide_eq_true qy0
        have Bq:Aa < (Ab.length:Int):=of_decide_eq_true qy0
        obtain⟨Af,Cq,Cr,Cs,Ah,Ai,Aj,At,Au⟩:=at_T48 Br.out Aa Bp Bq
        cases Cs
        replace Ah:=(HB.out.cell (World.block_lt_of_cell? w _ Ah)).trans Ah
        replace Ai:=(HB.out.cell (World.block_lt_of_cell? w _ Ai)).trans Ai
        replace Aj:=(HB.out.cell (World.block_lt_of_cell? w _ Aj)).trans Aj
        have Cj:=y0.mk Au
        have Ck:=y0.mk At
        clear Au At
        replace Bp:=eq_true Bp
        replace Bq:=eq_true Bq
        try go_wp2
        replace As:=y0.mk (Kd.R_drew As.out)
        replace Ac:=y0.mk (y9 Ac.out)
        replace HB:=y0.mk (y2 HB.out)
        have Cd:0≤(Aa:Int):=of_decide_eq_true qy0
        have Ce:Aa < (Ab.length:Int):=of_decide_eq_true qy0
        obtain⟨Ct,Ed,Bt,Ee,Ak,Am,Ag,Bh,Bi⟩:=at_T48 Br.out Aa Cd Ce
        have Av:=Ag
        have Aw:=Am
        have Ay:=Ak
        obtain rfl:Af=Ct:=(by injection Ee)
        replace Ak:=(HB.out.cell (World.block_lt_of_cell? w _ Ak)).trans Ak
        replace Am:=(HB.out.cell (World.block_lt_of_cell? w _ Am)).trans Am
        replace Ag:=(HB.out.cell (World.block_lt_of_cell? w _ Ag)).trans Ag
        have Bj:=y0.mk Bi
        have Cv:=y0.mk Bh
        clear Bi Bh
        replace Cd:=eq_true Cd
        replace Ce:=eq_true Ce
        have Cf:0≤(Ad:Int):=of_decide_eq_true qy0
        have Cg:Ad < (((y20 Ab Aa).f2).length:Int):=of_decide_eq_true qy0
        obtain⟨Bs,Ef,Ap⟩:=Kd.at_int Bj.out Ad Cf Cg
        have Az:=Ap
        cases Ef
        replace Ap:=(HB.out.cell (World.block_lt_of_cell? w _ Ap)).trans Ap
        replace Cf:=eq_true Cf
        replace Cg:=eq_true Cg
        obtain⟨Ir,Is,Fh⟩:=Kd.R_slice As.out
        (first|subst Fh|(injection Fh with f1_ f2_ f3_;have f4_:=f1_.symm;have f5_:=f3_.symm;clear f1_ f2_ f3_;subst f4_;subst f5_))
        have Ch:0≤(Aa:Int):=of_decide_eq_true qy0
        have Ci:Aa < (Bd.length:Int):=of_decide_eq_true qy0
        obtain⟨Dg,Eg,Ar⟩:=Kd.at_bool (Kd.R_reads' As.out).2.2 Aa Ch Ci
        (try rw [← Df.out]at Ar)
        cases Eg
        replace Ch:=eq_true Ch
        replace Ci:=eq_true Ci
        have Ek:0≤(Aa:Int):=of_decide_eq_true qy0
        have El:Aa < (Ab.length:Int):=of_decide_eq_true qy0
        obtain⟨Fi,He,Hf,Hg,Bk,Bl,Be,Cl,Cm⟩:=at_T48 Br.out Aa Ek El
        have Bm:=Be
        have Bn:=Bl
        have Bo:=Bk
        obtain rfl:Af=Fi:=(by injection Hg)
        replace Bk:=(HB.out.cell (World.block_lt_of_cell? w _ Bk)).trans Bk
        replace Bl:=(HB.out.cell (World.block_lt_of_cell? w _ Bl)).trans Bl
        replace Be:=(HB.out.cell (World.block_lt_of_cell? w _ Be)).trans Be
        have Cw:=y0.mk Cm
        have Gi:=y0.mk Cl
        clear Cm Cl
        replace Ek:=eq_true Ek
        replace El:=eq_true El
        have ea_:=Option.some.inj (Ag.symm.trans Be)
        injection ea_ with ea_ en_ ec_
        subst ea_
        subst ec_
        clear en_
        refine start_ (n:=25) (S:=fun w'=>w'.cell? ⟨Ba,0,none⟩=some (.slice (some Af) Ab.length Bx)∧w'.cell? ⟨Ba,1,none⟩=some (.int .i64 Bf)∧w'.cell? ⟨Ba,2,none⟩=some (.string Bg)∧w'.cell? ⟨Ba,3,none⟩=some (.slice Bz Bb.length Ca)∧w'.cell? ⟨Ba,4,none⟩=some (.slice Cb Bc.length Cc)∧w'.cell? (Af.add ((Aa).toNat * 3))=some (.int .i64 ((y20 Ab Aa).f0))∧w'.cell? ⟨(Af.add ((Aa).toNat * 3)).block,(Af.add ((Aa).toNat * 3)).off + 1,none⟩=some (.string ((y20 Ab Aa).f1))∧w'.cell? ⟨(Af.add ((Aa).toNat * 3)).block,(Af.add ((Aa).toNat * 3)).off + 2,none⟩=some (.slice (some Bs) ((y20 Ab Aa).f2).length Bt)∧w'.cell? (Bs.add (Ad).toNat)=some (.int .i64 (rd ((y20 Ab Aa).f2) Ad))∧w'.cell? (Dg.add (Aa).toNat)=some (.bool false)∧w'.cell? (Af.add ((Aa).toNat * 3))=some (.int .i64 ((y20 Ab Aa).f0))∧w'.cell? ⟨(Af.add ((Aa).toNat * 3)).block,(Af.add ((Aa).toNat * 3)).off + 1,none⟩=some (.string ((y20 Ab Aa).f1))∧w'.cell? ⟨(Af.add ((Aa).toNat * 3)).block,(Af.add ((Aa).toNat * 3)).off + 2,none⟩=some (.slice (some Bs) ((y20 Ab Aa).f2).length Bt)) (ds:=[24]) (fl_ 25 0) (by kernel_rfl) rfl rfl ⟨(y8 Ac.out 0).trans rfl,(y8 Ac.out 1).trans rfl,(y8 Ac.out 2).trans rfl,(y8 Ac.out 3).trans rfl,(y8 Ac.out 4).trans rfl,((HB.out.cell (World.block_lt_of_cell? w _ Ay)).trans Ay),((HB.out.cell (World.block_lt_of_cell? w _ Aw)).trans Aw),((HB.out.cell (World.block_lt_of_cell? w _ Av)).trans Av),((HB.out.cell (World.block_lt_of_cell? w _ Az)).trans Az),Ar,((HB.out.cell (World.block_lt_of_cell? w _ Bo)).trans Bo),((HB.out.cell (World.block_lt_of_cell? w _ Bn)).trans Bn),((HB.out.cell (World.block_lt_of_cell? w _ Bm)).trans Bm)⟩ (fun hHeld=>?_);refine with_tabW z11_.tab8 z11_.bits8 (fun HT_ HW_=>?_)
        generalize wr.drew=Iz at As Ac HB Bj Cw Ak Am Ag Ap Ar Bk Bl Be hHeld ⊢
        refine qp2 0 29 25 ?_
        refine qp 3 32 (fl_ 25 11) ?_
        refine qp 7 36 (fl_ 25 139) ?_
        refine qp 10 39 (fl_ 25 1163) ?_
        refine qp 11 40 (fl_ 25 3211) ?_
        refine qp 12 41 (fl_ 25 7307) ?_
        refine qt 2 31 (fl_ 25 7311) hHeld ?_
        refine qp 4 33 (fl_ 25 7327) ?_
        refine qp 5 34 (fl_ 25 7359) ?_
        refine qt 6 35 (fl_ 25 7423) hHeld ?_
        refine qp 8 37 (fl_ 25 7679) ?_
        refine qt 9 38 (fl_ 25 8191) hHeld ?_
        refine qt 13 42 (fl_ 25 16383) hHeld ?_
        refine qp2 14 43 25 ?_
        refine qp 17 46 (fl_ 25 196607) ?_
        refine qt 16 45 (fl_ 25 262143) hHeld ?_
        refine qp2 18 47 25 ?_
        refine qt 20 49 (fl_ 25 2097151) hHeld ?_
        refine qO 21 50 (fl_ 25 4194303) (fun K hK=>?_)
        refine goes_ Tryz.func54 (by kernel_rfl) rfl #[.int .i64 ((y20 Ab Aa).f0)] (by rfl) rfl rfl qy1 ?_
        with_reducible refine(spec_l06Calc.calls ((y20 Ab Aa).f0) Cp _ Iq.out).mono ?_
        rintro e w' ⟨rfl,⟨nd,rfl⟩⟩
        refine⟨_,rfl, ?_⟩
        have Hh:0≤((rd ((y20 Ab Aa).f2) Ad):Int):=of_decide_eq_true qy0
        have Hi:((rd ((y20 Ab Aa).f2) Ad):Int) < ((Bd.length:Int):Int):=of_decide_eq_true qy0
        obtain⟨Iu,Iv,Fj,Fk,Hj,Iw,Fl⟩:=Kd.R_form As.out (by omega)
        (first|cases Fj|(injection Fj with ea_ en_ ec_;(first|subst ea_|(injection ea_ with ea_;subst ea_));subst ec_;clear en_))
        have Hk:=y0.mk Fk
        have Ix:=y0.mk Fl
        clear Fk Hj Fl
        (first|simp only [add_plain]at Ar|skip)
        obtain⟨Hl,Hm⟩:=Kd.R_celln false As.out ((rd ((y20 Ab Aa).f2) Ad):Int) Hh Hi
        replace Hh:=eq_true Hh
        replace Hi:=eq_true Hi
        have Em:=Kd.R_putn As.out ((rd ((y20 Ab Aa).f2) Ad):Int) Cp
        rw [← Fg.out]at Em
        have Hn:=y0.mk Em
        clear Em
        refine hK.out _ _ ⟨(y8 Ac.out 0).trans rfl,(y8 Ac.out 1).trans rfl,(y8 Ac.out 2).trans rfl,(y8 Ac.out 3).trans rfl,(y8 Ac.out 4).trans rfl,((HB.out.cell (World.block_lt_of_cell? w _ Ay)).trans Ay),((HB.out.cell (World.block_lt_of_cell? w _ Aw)).trans Aw),((HB.out.cell (World.block_lt_of_cell? w _ Av)).trans Av),((HB.out.cell (World.block_lt_of_cell? w _ Az)).trans Az),hHeld.2.2.2.2.2.2.2.2.2.1,((HB.out.cell (World.block_lt_of_cell? w _ Bo)).trans Bo),((HB.out.cell (World.block_lt_of_cell? w _ Bn)).trans Bn),((HB.out.cell (World.block_lt_of_cell? w _ Bm)).trans Bm)⟩ (fun hHeld=>?_)
        clear hK K
        refine qx 50 ?_
        refine qp2 22 51 25 ?_
        refine last_ (i:=24) (N:=none) (fl_ 25 33554431) rfl rfl (one_of HT_.out (by kernel_rfl)) (by decide) (fun K hK=>?_)
        refine skip_ (w1:=?_) (by rfl) rfl ?_ ?_
        rotate_left
        ·go_simp
         rfl
        refine hK.out _ _ ?_
        clear hK K
        refine done_ (done_of HT_.out (by kernel_rfl)) ?_
        try go_wp2
        go_roundg k2
        case measure=>have:=En.out;have:=Eo.out;omega
        exact⟨(Ff),(wrap64 (Ad + 1)),qy2,H',⟨by have:=En.out;have:=Eo.out;omega⟩,⟨qR Hn.out⟩,⟨by(with_reducible repeat(first|refine y10 ?_ _|refine y9 ?_|refine y6 ?_ _));refine y11 ?_ (by have h_:=Kd.R_ne As.out Ac.out (by decide);intro e_;exact h_ (by rw [e_];rfl)) _;(with_reducible repeat(first|refine y10 ?_ _|refine y9 ?_|refine y6 ?_ _));exact Ac.out⟩,⟨by repeat(first|(with_reducible first|exact HB.out|apply below_alloc|apply y18|apply y2|refine y3 ?_ Hk.out|refine y3 ?_ De.out)|exact HB.out)⟩⟩
      ·rw [if_neg Ep]at H
       have Ew:=decide_eq_false Ep
       clear Ep
       have H':=y0.mk H
       clear H
       obtain⟨Gj,Gk,Gl,Gm,Gn,Gp,Gq,Gr,Gs,Gt⟩:=qz5 Ac.out
       have Bp:0≤(Aa:Int):=of_decide_eq_true qy0
       have Bq:Aa < (Ab.length:Int):=of_decide_eq_true qy0
       obtain⟨Af,Cq,Cr,Cs,Ah,Ai,Aj,At,Au⟩:=at_T48 Br.out Aa Bp Bq
       cases Cs
       replace Ah:=(HB.out.cell (World.block_lt_of_cell? w _ Ah)).trans Ah
       replace Ai:=(HB.out.cell (World.block_lt_of_cell? w _ Ai)).trans Ai
       replace Aj:=(HB.out.cell (World.block_lt_of_cell? w _ Aj)).trans Aj
       have Cj:=y0.mk Au
       have Ck:=y0.mk At
       clear Au At
       replace Bp:=eq_true Bp
       replace Bq:=eq_true Bq
       go_wp2
       go_roundg k2
       case measure=>have:=En.out;have:=Eo.out;omega
       exact⟨(Bd),(wrap64 (Aa - 1)),qy2,H',⟨by have:=En.out;have:=Eo.out;omega⟩,⟨qR As.out⟩,⟨qk Ac.out⟩,⟨qb⟩⟩
   ·rw [if_neg c9]at H
    have Eu:decide (0≤Aa)=false:=decide_eq_false c9
    clear c9
    obtain rfl:=Option.some.inj H
    go_wp2
    go_ret
    exact⟨_,by first|rfl|(simp [y12,y13] <;> rfl)|(simp [*,y12,y13] <;> rfl),by(with_reducible repeat(first|apply Kd.R_alloc|apply Kd.R_drewN|apply Kd.R_drew));exact As.out,qb⟩
end Go.Proofs.YtkdabljlfbmpdaaGreat.Pb
end
