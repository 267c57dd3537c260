-- Cut by prune.py.
import Derived.Test.YtkdabljlfbmpdaaVgrPwx5
set_option maxHeartbeats 8000000
set_option maxRecDepth 100000
section
namespace Go.Proofs.Ytkdabljlfbmpdaa.Pw
open RowKit YtkdabljlfbmpdaaW.PrintWords YtkdabljlfbmpdaaW.PrintLast YtkdabljlfbmpdaaW.PrintMore
set_option linter.unusedVariables false
set_option linter.unusedSimpArgs false
mutual
def spec_l04Lit.j0:Nat→List ByteArray→ByteArray→Int→ByteArray→List Int→Option (ByteArray×Bool)
 | 0,_,_,_,_,_=>none
 | k + 1,x1,x6,Ae,Al,An=>spec_l04Lit.l0 k x1 x6 0 Ae Al An
def spec_l04Lit.l0:Nat→List ByteArray→ByteArray→Int→Int→ByteArray→List Int→Option (ByteArray×Bool)
 | 0,_,_,_,_,_,_=>none
 | k + 1,x1,x6,x7,Al,An,Ae=>if x7 < (Ae.length:Int)then(if x7 > 0 then(if x6.size + 2≤9223372036854775807 then(if 0≤x7 then(if 0≤(rd Ae x7)then(if(rd Ae x7) < (x1.length:Int)then(if(x6 ++ (⟨#[44,32]⟩:ByteArray)).size + (rdOf ByteArray.empty x1 (rd Ae x7)).size≤9223372036854775807 then(spec_l04Lit.l0 k x1 ((x6 ++ (⟨#[44,32]⟩:ByteArray)) ++ (rdOf ByteArray.empty x1 (rd Ae x7))) (wrap64 (x7 + 1)) Al An Ae)else(none))else(none))else(none))else(none))else(none))else(if 0≤x7 then(if 0≤(rd Ae x7)then(if(rd Ae x7) < (x1.length:Int)then(if x6.size + (rdOf ByteArray.empty x1 (rd Ae x7)).size≤9223372036854775807 then(spec_l04Lit.l0 k x1 (x6 ++ (rdOf ByteArray.empty x1 (rd Ae x7))) (wrap64 (x7 + 1)) Al An Ae)else(none))else(none))else(none))else(none)))else(if x6.size + 1≤9223372036854775807 then(if Al=1 then(some (x6 ++ (⟨#[41]⟩:ByteArray),true))else(some (x6 ++ (⟨#[41]⟩:ByteArray),(Al == 2))))else(none))
end
def spec_l04Lit.f (k:Nat) (An:Int) (Al:ByteArray) (Ae:List Int) (l1:List ByteArray):Option (ByteArray×Bool):=if An=3 then(if(Ae.length:Int)=2 then(if 0 < (Ae.length:Int)then(if 0≤(rd Ae 0)then(if(rd Ae 0) < (l1.length:Int)then(if(rdOf ByteArray.empty l1 (rd Ae 0)).size + 1≤9223372036854775807 then(if((rdOf ByteArray.empty l1 (rd Ae 0)) ++ (⟨#[32]⟩:ByteArray)).size + Al.size≤9223372036854775807 then(if(((rdOf ByteArray.empty l1 (rd Ae 0)) ++ (⟨#[32]⟩:ByteArray)) ++ Al).size + 1≤9223372036854775807 then(if 1 < (Ae.length:Int)then(if 0≤(rd Ae 1)then(if(rd Ae 1) < (l1.length:Int)then(if((((rdOf ByteArray.empty l1 (rd Ae 0)) ++ (⟨#[32]⟩:ByteArray)) ++ Al) ++ (⟨#[32]⟩:ByteArray)).size + (rdOf ByteArray.empty l1 (rd Ae 1)).size≤9223372036854775807 then(some (((((rdOf ByteArray.empty l1 (rd Ae 0)) ++ (⟨#[32]⟩:ByteArray)) ++ Al) ++ (⟨#[32]⟩:ByteArray)) ++ (rdOf ByteArray.empty l1 (rd Ae 1)),true))else(none))else(none))else(none))else(none))else(none))else(none))else(none))else(none))else(none))else(none))else(some ((⟨#[]⟩:ByteArray),false)))else(if Al.size + 1≤9223372036854775807 then(if An=2 then(if 1 + (Al ++ (⟨#[40]⟩:ByteArray)).size≤9223372036854775807 then(spec_l04Lit.j0 k l1 ((⟨#[33]⟩:ByteArray) ++ (Al ++ (⟨#[40]⟩:ByteArray))) An Al Ae)else(none))else(spec_l04Lit.j0 k l1 (Al ++ (⟨#[40]⟩:ByteArray)) An Al Ae))else(none))
theorem spec_l04Lit.calls (k:Nat) (Af:Int) (Ag:ByteArray) (Am:Option Addr) (Ap:Nat) (Aa:List Int) (A1:Option Addr) (c1:Nat) (l1:List ByteArray) (r1:ByteArray) (r2:Bool) (w:World) (Cm:Kd.C (Kd.int .i64) w Am Aa.length Aa) (Cn:Aa.length≤Ap) (Fk:Kd.C Kd.string w A1 l1.length l1) (Fl:l1.length≤c1) (h:spec_l04Lit.f k Af Ag Aa l1=some (r1,r2)) :
  Calls Try.prog 48 #[.agg #[.int .i64 Af,.string Ag,.slice Am Aa.length Ap],.slice A1 l1.length c1] w fun e w'=>e=.returned (.tuple #[.string r1,.bool r2])∧Below w.heap.size w w':=by
 have Hn:=Try.underlying33
 have Ar:=y0.mk Cm
 have Fm:=y0.mk Cn
 clear Cm Cn
 have Cp:=y0.mk Fk
 have Hy:=y0.mk Fl
 clear Fk Fl
 have HB:=y0.mk (Below.refl w.heap.size w)
 have H:(if Af=3 then(if(Aa.length:Int)=2 then(if 0 < (Aa.length:Int)then(if 0≤(rd Aa 0)then(if(rd Aa 0) < (l1.length:Int)then(if(rdOf ByteArray.empty l1 (rd Aa 0)).size + 1≤9223372036854775807 then(if((rdOf ByteArray.empty l1 (rd Aa 0)) ++ (⟨#[32]⟩:ByteArray)).size + Ag.size≤9223372036854775807 then(if(((rdOf ByteArray.empty l1 (rd Aa 0)) ++ (⟨#[32]⟩:ByteArray)) ++ Ag).size + 1≤9223372036854775807 then(if 1 < (Aa.length:Int)then(if 0≤(rd Aa 1)then(if(rd Aa 1) < (l1.length:Int)then(if((((rdOf ByteArray.empty l1 (rd Aa 0)) ++ (⟨#[32]⟩:ByteArray)) ++ Ag) ++ (⟨#[32]⟩:ByteArray)).size + (rdOf ByteArray.empty l1 (rd Aa 1)).size≤9223372036854775807 then(some (((((rdOf ByteArray.empty l1 (rd Aa 0)) ++ (⟨#[32]⟩:ByteArray)) ++ Ag) ++ (⟨#[32]⟩:ByteArray)) ++ (rdOf ByteArray.empty l1 (rd Aa 1)),true))else(none))else(none))else(none))else(none))else(none))else(none))else(none))else(none))else(none))else(none))else(some ((⟨#[]⟩:ByteArray),false)))else(if Ag.size + 1≤9223372036854775807 then(if Af=2 then(if 1 + (Ag ++ (⟨#[40]⟩:ByteArray)).size≤9223372036854775807 then(spec_l04Lit.j0 k l1 ((⟨#[33]⟩:ByteArray) ++ (Ag ++ (⟨#[40]⟩:ByteArray))) Af Ag Aa)else(none))else(spec_l04Lit.j0 k l1 (Ag ++ (⟨#[40]⟩:ByteArray)) Af Ag Aa))else(none)))=some (r1,r2):=h
 clear h
 by_cases c3:Af=3
 ·rw [if_pos c3]at H
  have Df:(Af == 3)=true:=beq_iff_eq.mpr c3
  have Dg:(Af != 3)=false:=bne_eq_false_iff_eq.mpr c3
  clear c3
  by_cases c4:(Aa.length:Int)=2
  ·rw [if_pos c4]at H
   have Ew:((Aa.length:Int) == 2)=true:=beq_iff_eq.mpr c4
   have Ex:((Aa.length:Int) != 2)=false:=bne_eq_false_iff_eq.mpr c4
   clear c4
   obtain⟨c5,H⟩:=qo H
   have Ho:decide (0 < (Aa.length:Int))=true:=decide_eq_true c5
   have Hp:decide (0 < Aa.length)=true:=decide_eq_true (by omega)
   clear c5
   obtain⟨c6,H⟩:=qo H
   have Hq:decide (0≤(rd Aa 0))=true:=decide_eq_true c6
   clear c6
   obtain⟨c7,H⟩:=qo H
   have Hr:decide ((rd Aa 0) < (l1.length:Int))=true:=decide_eq_true c7
   clear c7
   obtain⟨c8,H⟩:=qo H
   have Hs:=eq_true c8
   have Ht:=decide_eq_true c8
   have Hu:=eq_false (Nat.not_lt.2 c8)
   obtain⟨c9,H⟩:=qo H
   have Hv:=eq_true c9
   have Hw:=decide_eq_true c9
   have Ey:=eq_false (Nat.not_lt.2 c9)
   have Hx:(9223372036854775807 < (rdOf ByteArray.empty l1 (rd Aa 0)).size + 1 + Ag.size)=False:=qs Ey
   obtain⟨Ez,H⟩:=qo H
   have Fn:=eq_true Ez
   have Fo:=decide_eq_true Ez
   have Dh:=eq_false (Nat.not_lt.2 Ez)
   have Fp:(9223372036854775807 < (rdOf ByteArray.empty l1 (rd Aa 0)).size + 1 + Ag.size + 1)=False:=qs Dh
   obtain⟨Fq,H⟩:=qo H
   have Fr:decide (1 < (Aa.length:Int))=true:=decide_eq_true Fq
   have Fs:decide (1 < Aa.length)=true:=decide_eq_true (by omega)
   clear Fq
   obtain⟨Ft,H⟩:=qo H
   have Fu:decide (0≤(rd Aa 1))=true:=decide_eq_true Ft
   clear Ft
   obtain⟨Fv,H⟩:=qo H
   have Fx:decide ((rd Aa 1) < (l1.length:Int))=true:=decide_eq_true Fv
   clear Fv
   obtain⟨Fa,H⟩:=qo H
   have Fy:=eq_true Fa
   have Fz:=decide_eq_true Fa
   have Di:=eq_false (Nat.not_lt.2 Fa)
   have Ga:(9223372036854775807 < (rdOf ByteArray.empty l1 (rd Aa 0)).size + 1 + Ag.size + 1 + (rdOf ByteArray.empty l1 (rd Aa 1)).size)=False:=qs Di
   simp only [Option.some.injEq,Prod.mk.injEq]at H
   obtain⟨rfl,rfl⟩:=H
   go_enter Try.func48,Try.ntmps48
   go_wp2_with (first|((with_reducible refine y16 (N:=2) rfl ?_);refine qe 2 #[.int .i64 Af,.string Ag,.slice Am Aa.length Ap] 33 ?_;intro Ak hg Gb hbox hb;have Ad:=y0.mk (hbox);have As:=y0.mk (qg (w:=w) hg);have At:=y0.mk (qg (w:=w) hg);replace HB:=y0.mk (y4 qb hb);clear hb hbox hg;obtain⟨Br,Bs,Bt,Bu,Bv,Bw⟩:=qz3 Ad.out;have Au:0≤(0:Int):=(by omega);have Av:0 < (Aa.length:Int):=qd;obtain⟨Bm,Cg,Ab⟩:=Kd.at_int Ar.out 0 Au Av;cases Cg;have Cq:(0 < Aa.length)=True:=eq_true (by omega);(try rw [show((0:Int)).toNat=0 from rfl]at Ab);(try rw [Addr.add_zero']at Ab);replace Ab:=qC Ab HB;replace Au:=eq_true Au;replace Av:=eq_true Av;have Aw:0≤((rd Aa 0):Int):=qd;have Ax:(rd Aa 0) < (l1.length:Int):=qd;obtain⟨Bn,Ch,Ai⟩:=Kd.at_string Cp.out (rd Aa 0) Aw Ax;cases Ch;replace Ai:=qC Ai HB;replace Aw:=eq_true Aw;replace Ax:=eq_true Ax;have Ay:0≤(1:Int):=(by omega);have Az:1 < (Aa.length:Int):=qd;obtain⟨Bo,Ci,Ac⟩:=Kd.at_int Ar.out 1 Ay Az;obtain rfl:Bm=Bo:=(by injection Ci);(try simp only [show(1:Int).toNat=1 from rfl,Nat.reduceMul,Nat.reduceEqDiff,Go.Addr.add,↓reduceIte]at Ac);have Cr:(1 < Aa.length)=True:=eq_true (by omega);(try rw [show((1:Int)).toNat=1 from rfl]at Ac);replace Ac:=qC Ac HB;replace Ay:=eq_true Ay;replace Az:=eq_true Az;have Ba:0≤((rd Aa 1):Int):=qd;have Bb:(rd Aa 1) < (l1.length:Int):=qd;obtain⟨Bp,Cj,Aj⟩:=Kd.at_string Cp.out (rd Aa 1) Ba Bb;obtain rfl:Bn=Bp:=(by injection Cj);replace Aj:=qC Aj HB;replace Ba:=eq_true Ba;replace Bb:=eq_true Bb))
   repeat(go_quiet (first|((with_reducible refine y16 (N:=2) rfl ?_);refine qe 2 #[.int .i64 Af,.string Ag,.slice Am Aa.length Ap] 33 ?_;intro Ak hg Gb hbox hb;have Ad:=y0.mk (hbox);have As:=y0.mk (qg (w:=w) hg);have At:=y0.mk (qg (w:=w) hg);replace HB:=y0.mk (y4 qb hb);clear hb hbox hg;obtain⟨Br,Bs,Bt,Bu,Bv,Bw⟩:=qz3 Ad.out;have Au:0≤(0:Int):=(by omega);have Av:0 < (Aa.length:Int):=qd;obtain⟨Bm,Cg,Ab⟩:=Kd.at_int Ar.out 0 Au Av;cases Cg;have Cq:(0 < Aa.length)=True:=eq_true (by omega);(try rw [show((0:Int)).toNat=0 from rfl]at Ab);(try rw [Addr.add_zero']at Ab);replace Ab:=qC Ab HB;replace Au:=eq_true Au;replace Av:=eq_true Av;have Aw:0≤((rd Aa 0):Int):=qd;have Ax:(rd Aa 0) < (l1.length:Int):=qd;obtain⟨Bn,Ch,Ai⟩:=Kd.at_string Cp.out (rd Aa 0) Aw Ax;cases Ch;replace Ai:=qC Ai HB;replace Aw:=eq_true Aw;replace Ax:=eq_true Ax;have Ay:0≤(1:Int):=(by omega);have Az:1 < (Aa.length:Int):=qd;obtain⟨Bo,Ci,Ac⟩:=Kd.at_int Ar.out 1 Ay Az;obtain rfl:Bm=Bo:=(by injection Ci);(try simp only [show(1:Int).toNat=1 from rfl,Nat.reduceMul,Nat.reduceEqDiff,Go.Addr.add,↓reduceIte]at Ac);have Cr:(1 < Aa.length)=True:=eq_true (by omega);(try rw [show((1:Int)).toNat=1 from rfl]at Ac);replace Ac:=qC Ac HB;replace Ay:=eq_true Ay;replace Az:=eq_true Az;have Ba:0≤((rd Aa 1):Int):=qd;have Bb:(rd Aa 1) < (l1.length:Int):=qd;obtain⟨Bp,Cj,Aj⟩:=Kd.at_string Cp.out (rd Aa 1) Ba Bb;obtain rfl:Bn=Bp:=(by injection Cj);replace Aj:=qC Aj HB;replace Ba:=eq_true Ba;replace Bb:=eq_true Bb));try go_wp2_with (first|((with_reducible refine y16 (N:=2) rfl ?_);refine qe 2 #[.int .i64 Af,.string Ag,.slice Am Aa.length Ap] 33 ?_;intro Ak hg Gb hbox hb;have Ad:=y0.mk (hbox);have As:=y0.mk (qg (w:=w) hg);have At:=y0.mk (qg (w:=w) hg);replace HB:=y0.mk (y4 qb hb);clear hb hbox hg;obtain⟨Br,Bs,Bt,Bu,Bv,Bw⟩:=qz3 Ad.out;have Au:0≤(0:Int):=(by omega);have Av:0 < (Aa.length:Int):=qd;obtain⟨Bm,Cg,Ab⟩:=Kd.at_int Ar.out 0 Au Av;cases Cg;have Cq:(0 < Aa.length)=True:=eq_true (by omega);(try rw [show((0:Int)).toNat=0 from rfl]at Ab);(try rw [Addr.add_zero']at Ab);replace Ab:=qC Ab HB;replace Au:=eq_true Au;replace Av:=eq_true Av;have Aw:0≤((rd Aa 0):Int):=qd;have Ax:(rd Aa 0) < (l1.length:Int):=qd;obtain⟨Bn,Ch,Ai⟩:=Kd.at_string Cp.out (rd Aa 0) Aw Ax;cases Ch;replace Ai:=qC Ai HB;replace Aw:=eq_true Aw;replace Ax:=eq_true Ax;have Ay:0≤(1:Int):=(by omega);have Az:1 < (Aa.length:Int):=qd;obtain⟨Bo,Ci,Ac⟩:=Kd.at_int Ar.out 1 Ay Az;obtain rfl:Bm=Bo:=(by injection Ci);(try simp only [show(1:Int).toNat=1 from rfl,Nat.reduceMul,Nat.reduceEqDiff,Go.Addr.add,↓reduceIte]at Ac);have Cr:(1 < Aa.length)=True:=eq_true (by omega);(try rw [show((1:Int)).toNat=1 from rfl]at Ac);replace Ac:=qC Ac HB;replace Ay:=eq_true Ay;replace Az:=eq_true Az;have Ba:0≤((rd Aa 1):Int):=qd;have Bb:(rd Aa 1) < (l1.length:Int):=qd;obtain⟨Bp,Cj,Aj⟩:=Kd.at_string Cp.out (rd Aa 1) Ba Bb;obtain rfl:Bn=Bp:=(by injection Cj);replace Aj:=qC Aj HB;replace Ba:=eq_true Ba;replace Bb:=eq_true Bb)))
   go_ret2
   exact⟨qf,qb⟩
  ·rw [if_neg c4]at H
   have Ew:((Aa.length:Int) == 2)=false:=beq_eq_false_iff_ne.mpr c4
   have Ex:((Aa.length:Int) != 2)=true:=bne_iff_ne.mpr c4
   simp only [Option.some.injEq,Prod.mk.injEq]at H
   obtain⟨rfl,rfl⟩:=H
   go_enter Try.func48,Try.ntmps48
   go_wp2_with (first|((with_reducible refine y16 (N:=2) rfl ?_);refine qe 2 #[.int .i64 Af,.string Ag,.slice Am Aa.length Ap] 33 ?_;intro Ak hg Gc hbox hb;have Ad:=y0.mk (hbox);have As:=y0.mk (qg (w:=w) hg);have At:=y0.mk (qg (w:=w) hg);replace HB:=y0.mk (y4 qb hb);clear hb hbox hg;obtain⟨Bx,Bz,Ca,Cb,Cc,Cd⟩:=qz3 Ad.out))
   repeat(go_quiet (first|((with_reducible refine y16 (N:=2) rfl ?_);refine qe 2 #[.int .i64 Af,.string Ag,.slice Am Aa.length Ap] 33 ?_;intro Ak hg Gc hbox hb;have Ad:=y0.mk (hbox);have As:=y0.mk (qg (w:=w) hg);have At:=y0.mk (qg (w:=w) hg);replace HB:=y0.mk (y4 qb hb);clear hb hbox hg;obtain⟨Bx,Bz,Ca,Cb,Cc,Cd⟩:=qz3 Ad.out));try go_wp2_with (first|((with_reducible refine y16 (N:=2) rfl ?_);refine qe 2 #[.int .i64 Af,.string Ag,.slice Am Aa.length Ap] 33 ?_;intro Ak hg Gc hbox hb;have Ad:=y0.mk (hbox);have As:=y0.mk (qg (w:=w) hg);have At:=y0.mk (qg (w:=w) hg);replace HB:=y0.mk (y4 qb hb);clear hb hbox hg;obtain⟨Bx,Bz,Ca,Cb,Cc,Cd⟩:=qz3 Ad.out)))
   go_ret2
   exact⟨qf,qb⟩
 ·rw [if_neg c3]at H
  have Df:(Af == 3)=false:=beq_eq_false_iff_ne.mpr c3
  have Dg:(Af != 3)=true:=bne_iff_ne.mpr c3
  obtain⟨Du,H⟩:=qo H
  have Dj:=eq_true Du
  have Dk:=decide_eq_true Du
  have Dl:=eq_false (Nat.not_lt.2 Du)
  have Cs:=y0.mk H
  clear H
  go_enter Try.func48,Try.ntmps48
  go_upto_if 40 with(first|((with_reducible refine y16 (N:=2) rfl ?_);refine qe 2 #[.int .i64 Af,.string Ag,.slice Am Aa.length Ap] 33 ?_;intro Ak hg Gd hbox hb;have Ad:=y0.mk (hbox);have As:=y0.mk (qg (w:=w) hg);have At:=y0.mk (qg (w:=w) hg);replace HB:=y0.mk (y4 qb hb);clear hb hbox hg;obtain⟨Bc,Bd,Be,Bf,Bg,Bh⟩:=qz3 Ad.out))
  repeat(go_quiet (first|((with_reducible refine y16 (N:=2) rfl ?_);refine qe 2 #[.int .i64 Af,.string Ag,.slice Am Aa.length Ap] 33 ?_;intro Ak hg Gd hbox hb;have Ad:=y0.mk (hbox);have As:=y0.mk (qg (w:=w) hg);have At:=y0.mk (qg (w:=w) hg);replace HB:=y0.mk (y4 qb hb);clear hb hbox hg;obtain⟨Bc,Bd,Be,Bf,Bg,Bh⟩:=qz3 Ad.out));go_upto_if 40 with(first|((with_reducible refine y16 (N:=2) rfl ?_);refine qe 2 #[.int .i64 Af,.string Ag,.slice Am Aa.length Ap] 33 ?_;intro Ak hg Gd hbox hb;have Ad:=y0.mk (hbox);have As:=y0.mk (qg (w:=w) hg);have At:=y0.mk (qg (w:=w) hg);replace HB:=y0.mk (y4 qb hb);clear hb hbox hg;obtain⟨Bc,Bd,Be,Bf,Bg,Bh⟩:=qz3 Ad.out)))
  (try simp only [Act.put,qS_,qZ_,qC_])
  go_cut [6] (fun v6 wc=>∃(kq:Nat) (Ce:ByteArray),v6=.string Ce∧y0 (spec_l04Lit.j0 kq l1 Ce Af Ag Aa=some (r1,r2))∧y0 (kq≤k)∧y0 (wc.heap[Ak]?=some (.cells #[.int .i64 Af,.string Ag,(.slice Am Aa.length Ap)] 33 (0,0)))∧y0 (Below w.heap.size w wc))
  case first =>
   have H:=Cs.out
   clear Cs
   by_cases Ct:Af=2
   ·rw [if_pos Ct]at H
    have Bq:(Af == 2)=true:=beq_iff_eq.mpr Ct
    have Dm:(Af != 2)=false:=bne_eq_false_iff_eq.mpr Ct
    clear Ct
    (first|rw [Bq]|(simp only [i64_w,i32_w];rw [Bq])|skip)
    obtain⟨Fb,H⟩:=qo H
    have Ge:=eq_true Fb
    have Gf:=decide_eq_true Fb
    have Ck:=eq_false (Nat.not_lt.2 Fb)
    have Gg:(9223372036854775807 < 1 + Ag.size + 1)=False:=qs Ck
    have Gh:(9223372036854775807 < 1 + (Ag.size + 1))=False:=qs Ck
    have Gi:(9223372036854775807 < 1 + (Ag.size + 1))=False:=qs Ck
    have H':=y0.mk H
    clear H
    go_wp2
    repeat(go_quiet (fail);try go_wp2)
    go_meet
    exact⟨_,((⟨#[33]⟩:ByteArray) ++ (Ag ++ (⟨#[40]⟩:ByteArray))),qy2,H',⟨by first|omega|exact Nat.le_refl _⟩,⟨qk Ad.out⟩,⟨qb⟩⟩
   ·rw [if_neg Ct]at H
    have Bq:(Af == 2)=false:=beq_eq_false_iff_ne.mpr Ct
    have Dm:(Af != 2)=true:=bne_iff_ne.mpr Ct
    (first|rw [Bq]|(simp only [i64_w,i32_w];rw [Bq])|skip)
    have H':=y0.mk H
    clear H
    go_wp2
    repeat(go_quiet (fail);try go_wp2)
    go_meet
    exact⟨_,(Ag ++ (⟨#[40]⟩:ByteArray)),qy2,H',⟨by first|omega|exact Nat.le_refl _⟩,⟨qk Ad.out⟩,⟨qb⟩⟩
  case rest =>
   clear Cs
   (try clear Df Dg Du Dj Dk Dl Bc Bd Be Bf Bg Bh)
   obtain⟨kq,Ce,rfl,HA,Cl,Ad,HB⟩:=hcut
   cases kq with
   | zero=>exact absurd HA.out (by simp [spec_l04Lit.j0])
   | succ Do =>
    have H:=HA.out
    clear HA
    simp only [spec_l04Lit.j0]at H
    have H':=y0.mk H
    clear H
    go_wp2
    repeat(go_quiet (fail);try go_wp2)
    go_loopg [6,7] Do (fun kq v6 v7 w'=>∃(Cf:ByteArray) (Ah:Int),v6=.string Cf∧v7=.int .i64 Ah∧y0 (spec_l04Lit.l0 kq l1 Cf Ah Af Ag Aa=some (r1,r2))∧y0 (kq≤Do)∧y0 (w'.heap[Ak]?=some (.cells #[.int .i64 Af,.string Ag,(.slice Am Aa.length Ap)] 33 (0,0)))∧y0 (Below w.heap.size w w'))
    case atStart=>exact⟨(Ce),(0),qy2,qy2,H',⟨Nat.le_refl _⟩,⟨qk Ad.out⟩,⟨qb⟩⟩
    case round =>
     clear H'
     obtain⟨Cf,Ah,rfl,rfl,HA,Dw,Ad,HB⟩:=hrel
     cases gk with
     | zero=>exact absurd HA.out (by simp [spec_l04Lit.l0])
     | succ k2 =>
      have H:=HA.out
      clear HA
      simp only [spec_l04Lit.l0]at H
      by_cases Dd:Ah < (Aa.length:Int)
      ·rw [if_pos Dd]at H
       have Dp:=decide_eq_true Dd
       clear Dd
       by_cases De:Ah > 0
       ·rw [if_pos De]at H
        have Dq:decide (0 < Ah)=true:=decide_eq_true De
        clear De
        obtain⟨Fc,H⟩:=qo H
        have Gj:=eq_true Fc
        have Gk:=decide_eq_true Fc
        have Gl:=eq_false (Nat.not_lt.2 Fc)
        obtain⟨Gm,H⟩:=qo H
        have Gn:decide (0≤Ah)=true:=decide_eq_true Gm
        clear Gm
        obtain⟨Gp,H⟩:=qo H
        have Gq:decide (0≤(rd Aa Ah))=true:=decide_eq_true Gp
        clear Gp
        obtain⟨Gr,H⟩:=qo H
        have Gs:decide ((rd Aa Ah) < (l1.length:Int))=true:=decide_eq_true Gr
        clear Gr
        obtain⟨Fd,H⟩:=qo H
        have Gt:=eq_true Fd
        have Gu:=decide_eq_true Fd
        have Dr:=eq_false (Nat.not_lt.2 Fd)
        have Gv:(9223372036854775807 < Cf.size + 2 + (rdOf ByteArray.empty l1 (rd Aa Ah)).size)=False:=qs Dr
        have H':=y0.mk H
        clear H
        obtain⟨Dx,Dy,Dz,Ea,Eb,Ec⟩:=qz3 Ad.out
        have Cu:0≤(Ah:Int):=qd
        have Cv:Ah < (Aa.length:Int):=qd
        obtain⟨Gw,Fe,Bi⟩:=Kd.at_int Ar.out Ah Cu Cv
        cases Fe
        replace Bi:=qC Bi HB
        replace Cu:=eq_true Cu
        replace Cv:=eq_true Cv
        have Cw:0≤((rd Aa Ah):Int):=qd
        have Cx:(rd Aa Ah) < (l1.length:Int):=qd
        obtain⟨Gx,Ff,Bj⟩:=Kd.at_string Cp.out (rd Aa Ah) Cw Cx
        cases Ff
        replace Bj:=qC Bj HB
        replace Cw:=eq_true Cw
        replace Cx:=eq_true Cx
        go_wp2
        repeat(go_quiet (fail);try go_wp2)
        go_roundg k2
        case measure=>have:=Cl.out;have:=Dw.out;omega
        exact⟨((Cf ++ (⟨#[44,32]⟩:ByteArray)) ++ (rdOf ByteArray.empty l1 (rd Aa Ah))),(wrap64 (Ah + 1)),qy2,qy2,H',⟨by have:=Cl.out;have:=Dw.out;omega⟩,⟨qk Ad.out⟩,⟨qb⟩⟩
       ·rw [if_neg De]at H
        have Dq:decide (0 < Ah)=false:=decide_eq_false De
        clear De
        obtain⟨Gz,H⟩:=qo H
        have Ha:decide (0≤Ah)=true:=decide_eq_true Gz
        clear Gz
        obtain⟨Hb,H⟩:=qo H
        have Hc:decide (0≤(rd Aa Ah))=true:=decide_eq_true Hb
        clear Hb
        obtain⟨Hd,H⟩:=qo H
        have He:decide ((rd Aa Ah) < (l1.length:Int))=true:=decide_eq_true Hd
        clear Hd
        obtain⟨Fg,H⟩:=qo H
        have Hf:=eq_true Fg
        have Hg:=decide_eq_true Fg
        have Hh:=eq_false (Nat.not_lt.2 Fg)
        have H':=y0.mk H
        clear H
        obtain⟨Ed,Ee,Ef,Eg,Eh,Ei⟩:=qz3 Ad.out
        have Cy:0≤(Ah:Int):=qd
        have Cz:Ah < (Aa.length:Int):=qd
        obtain⟨Hi,Fh,Bk⟩:=Kd.at_int Ar.out Ah Cy Cz
        cases Fh
        replace Bk:=qC Bk HB
        replace Cy:=eq_true Cy
        replace Cz:=eq_true Cz
        have Da:0≤((rd Aa Ah):Int):=qd
        have Db:(rd Aa Ah) < (l1.length:Int):=qd
        obtain⟨Hj,Fi,Bl⟩:=Kd.at_string Cp.out (rd Aa Ah) Da Db
        cases Fi
        replace Bl:=qC Bl HB
        replace Da:=eq_true Da
        replace Db:=eq_true Db
        go_wp2
        repeat(go_quiet (fail);try go_wp2)
        go_roundg k2
        case measure=>have:=Cl.out;have:=Dw.out;omega
        exact⟨(Cf ++ (rdOf ByteArray.empty l1 (rd Aa Ah))),(wrap64 (Ah + 1)),qy2,qy2,H',⟨by have:=Cl.out;have:=Dw.out;omega⟩,⟨qk Ad.out⟩,⟨qb⟩⟩
      ·rw [if_neg Dd]at H
       have Dp:=decide_eq_false Dd
       clear Dd
       obtain⟨Fj,H⟩:=qo H
       have Hk:=eq_true Fj
       have Hl:=decide_eq_true Fj
       have Hm:=eq_false (Nat.not_lt.2 Fj)
       by_cases Dc:Af=1
       ·rw [if_pos Dc]at H
        have Ds:(Af == 1)=true:=beq_iff_eq.mpr Dc
        have Dt:(Af != 1)=false:=bne_eq_false_iff_eq.mpr Dc
        clear Dc
        simp only [Option.some.injEq,Prod.mk.injEq]at H
        obtain⟨rfl,rfl⟩:=H
        obtain⟨Ej,Ek,El,Em,En,Eo⟩:=qz3 Ad.out
        go_wp2
        repeat(go_quiet (fail);try go_wp2)
        go_ret2
        exact⟨qf,qb⟩
       ·rw [if_neg Dc]at H
        have Ds:(Af == 1)=false:=beq_eq_false_iff_ne.mpr Dc
        have Dt:(Af != 1)=true:=bne_iff_ne.mpr Dc
        simp only [Option.some.injEq,Prod.mk.injEq]at H
        obtain⟨rfl,rfl⟩:=H
        obtain⟨Ep,Eq,Er,Es,Et,Eu⟩:=qz3 Ad.out
        go_wp2
        repeat(go_quiet (fail);try go_wp2)
        go_ret2
        exact⟨qf,qb⟩
mutual
def z7_.j0:Nat→List ByteArray→ByteArray→Bool→List (S63)→Int→ByteArray→List Int→List (S33)→Option (ByteArray)
 | 0,_,_,_,_,_,_,_,_=>none
 | k + 1,x3,x5,Ae,Al,An,Ao,Aq,By=>if Ae=true then(some (⟨#[]⟩:ByteArray))else(z7_.l0 k x3 x5 0 Al An Ao Aq By)
def z7_.l0:Nat→List ByteArray→ByteArray→Int→List (S63)→Int→ByteArray→List Int→List (S33)→Option (ByteArray)
 | 0,_,_,_,_,_,_,_,_=>none
 | k + 1,x3,x5,x6,Al,An,Ao,Aq,Ae=>if x6 < (Ae.length:Int)then(z7_.j2 k x3 x5 x6 (decide ((x5.size:Int)≤3000)) Al An Ao Aq Ae)else(z7_.j2 k x3 x5 x6 false Al An Ao Aq Ae)
def z7_.j2:Nat→List ByteArray→ByteArray→Int→Bool→List (S63)→Int→ByteArray→List Int→List (S33)→Option (ByteArray)
 | 0,_,_,_,_,_,_,_,_,_=>none
 | k + 1,x3,x5,x6,By,Al,An,Ao,Aq,Ae=>if By=true then(if x6=0 then(if x5.size + 4≤9223372036854775807 then(if 0≤x6 then(if x6 < (Ae.length:Int)then((spec_l04Lit.f k ((y18 Ae x6).f0) ((y18 Ae x6).f1) ((y18 Ae x6).f2) x3).bind fun bt250=>(if bt250.2=true then(if(x5 ++ (⟨#[32,58,45,32]⟩:ByteArray)).size + bt250.1.size≤9223372036854775807 then(z7_.l0 k x3 ((x5 ++ (⟨#[32,58,45,32]⟩:ByteArray)) ++ bt250.1) (wrap64 (x6 + 1)) Al An Ao Aq Ae)else(none))else(some (⟨#[]⟩:ByteArray))))else(none))else(none))else(none))else(if x5.size + 2≤9223372036854775807 then(if 0≤x6 then(if x6 < (Ae.length:Int)then((spec_l04Lit.f k ((y18 Ae x6).f0) ((y18 Ae x6).f1) ((y18 Ae x6).f2) x3).bind fun bt253=>(if bt253.2=true then(if(x5 ++ (⟨#[44,32]⟩:ByteArray)).size + bt253.1.size≤9223372036854775807 then(z7_.l0 k x3 ((x5 ++ (⟨#[44,32]⟩:ByteArray)) ++ bt253.1) (wrap64 (x6 + 1)) Al An Ao Aq Ae)else(none))else(some (⟨#[]⟩:ByteArray))))else(none))else(none))else(none)))else(if x5.size + 1≤9223372036854775807 then(if((x5 ++ (⟨#[46]⟩:ByteArray)).size:Int) > 3000 then(some (⟨#[]⟩:ByteArray))else(some (x5 ++ (⟨#[46]⟩:ByteArray))))else(none))
end
def z7_.f (k:Nat) (Aq:List (S63)) (Ae:Int) (Al:ByteArray) (An:List Int) (Ao:List (S33)):Option (ByteArray):=if(Ao.length:Int) > 3000 then(some (⟨#[]⟩:ByteArray))else((z8_.f k Aq Ae Al An Ao).bind fun bt243=>(if bt243.2=true then((spec_l04Lit.f k Ae Al An bt243.1).bind fun bt247=>(if bt247.2=true then(z7_.j0 k bt243.1 bt247.1 (Ae != 1) Aq Ae Al An Ao)else(z7_.j0 k bt243.1 bt247.1 true Aq Ae Al An Ao)))else(some (⟨#[]⟩:ByteArray))))
theorem z7_.calls (k:Nat) (Bc:Option Addr) (Bd:Nat) (Ag:List (S63)) (Ad:Int) (Ah:ByteArray) (Ba:Option Addr) (Bb:Nat) (Af:List Int) (Be:Option Addr) (Bf:Nat) (Aa:List (S33)) (r:ByteArray) (w:World) (De:Kd.C k63 w Bc Ag.length Ag) (Df:Ag.length≤Bd) (Dg:Kd.C (Kd.int .i64) w Ba Af.length Af) (Dh:Af.length≤Bb) (Di:Kd.C k33 w Be Aa.length Aa) (Dj:Aa.length≤Bf) (h:z7_.f k Ag Ad Ah Af Aa=some r) :
  Calls Try.prog 22 #[.agg #[.slice Bc Ag.length Bd,.int .i64 Ad,.string Ah,.slice Ba Af.length Bb,.slice Be Aa.length Bf]] w fun e w'=>e=.returned (.string r)∧Below w.heap.size w w':=by
 have Ju:=Try.underlying36
 have Jv:=Try.underlying33
 have Dk:=y0.mk De
 have Dl:=y0.mk Df
 clear De Df
 have Cc:=y0.mk Dg
 have Cd:=y0.mk Dh
 clear Dg Dh
 have Bg:=y0.mk Di
 have Dm:=y0.mk Dj
 clear Di Dj
 have HB:=y0.mk (Below.refl w.heap.size w)
 have H:(if(Aa.length:Int) > 3000 then(some (⟨#[]⟩:ByteArray))else((z8_.f k Ag Ad Ah Af Aa).bind fun Bz=>(if Bz.2=true then((spec_l04Lit.f k Ad Ah Af Bz.1).bind fun Ce=>(if Ce.2=true then(z7_.j0 k Bz.1 Ce.1 (Ad != 1) Ag Ad Ah Af Aa)else(z7_.j0 k Bz.1 Ce.1 true Ag Ad Ah Af Aa)))else(some (⟨#[]⟩:ByteArray)))))=some r:=h
 clear h
 by_cases c2:(Aa.length:Int) > 3000
 ·rw [if_pos c2]at H
  have Ea:decide (3000 < (Aa.length:Int))=true:=decide_eq_true c2
  have Eb:decide (3000 < Aa.length)=true:=decide_eq_true (by omega)
  clear c2
  obtain rfl:=Option.some.inj H
  go_enter Try.func22,Try.ntmps22
  go_wp2_with (first|((with_reducible refine y16 (N:=1) rfl ?_);(try(refine gate_guard (by rfl) ?_;dsimp only));refine qe 1 #[.slice Bc Ag.length Bd,.int .i64 Ad,.string Ah,.slice Ba Af.length Bb,.slice Be Aa.length Bf] 36 ?_;intro Bm hg w3 hbox hb;have Ab:=y0.mk (hbox);have Do:=y0.mk (qg (w:=w) hg);have Dp:=y0.mk (qg (w:=w) hg);replace HB:=y0.mk (y4 qb hb);clear hb hbox hg;obtain⟨Hx,Hy,Hz,Ia,Ib,Ic,Id,Ie,If,Ig⟩:=qz5 Ab.out))
  go_ret
  exact⟨qf,qb⟩
 ·rw [if_neg c2]at H
  have Ea:decide (3000 < (Aa.length:Int))=false:=decide_eq_false c2
  have Eb:decide (3000 < Aa.length)=false:=decide_eq_false (by omega)
  clear c2
  obtain⟨⟨Ai,Ih⟩,A5,H⟩:=qB H
  dsimp only at H
  by_cases c6:Ih=true
  ·subst c6
   replace H:=qT H
   obtain⟨⟨Cf,Dr⟩,A7,H⟩:=qB H
   replace H:(if Dr=true then(z7_.j0 k Ai Cf (Ad != 1) Ag Ad Ah Af Aa)else(z7_.j0 k Ai Cf true Ag Ad Ah Af Aa))=some r:=H
   have Ii:=y0.mk H
   clear H
   go_enter Try.func22,Try.ntmps22
   go_upto_region 7 with(first|((with_reducible refine y16 (N:=1) rfl ?_);(try(refine gate_guard (by rfl) ?_;dsimp only));refine qe 1 #[.slice Bc Ag.length Bd,.int .i64 Ad,.string Ah,.slice Ba Af.length Bb,.slice Be Aa.length Bf] 36 ?_;intro Bm hg w9 hbox hb;have Ab:=y0.mk (hbox);have Do:=y0.mk (qg (w:=w) hg);have Dp:=y0.mk (qg (w:=w) hg);replace HB:=y0.mk (y4 qb hb);clear hb hbox hg;obtain⟨Cg,Ch,Ci,Cj,Ck,Cl,Cm,Cn,Cp,Cq⟩:=qz5 Ab.out)|((with_reducible refine y15 (f:=47) rfl ?_);refine y17 (some 15) rfl rfl Try.func47 (by kernel_rfl) rfl #[.agg #[.slice Bc Ag.length Bd,.int .i64 Ad,.string Ah,.slice Ba Af.length Bb,.slice Be Aa.length Bf]] rfl qy1 ?_;(with_reducible refine(z8_.calls k _ _ Ag Ad Ah (fun k_=>k_ < w.heap.size) _ _ Af (fun k_=>k_ < w.heap.size) _ _ Aa Ai true _ (qc (Kd.C_below Dk.out HB.out)) Dl.out (by exact Kd.V_mk Cd.out (Kd.F_below (Kd.C_F (Kd.heap_int .i64) Cc.out) qb)) (by exact Kd.V_mk Dm.out (Kd.F_below (Kd.C_F k33_heap Bg.out) qb)) A5.out).mono ?_);rintro e Jy ⟨Ij,rfl,Ec,hb⟩;refine⟨_,rfl, ?_⟩;have Az:=y0.mk (Kd.R_lower (Kd.R_mono (ok':=fun k_=>True) Ec (fun _ hk_=>trivial)) (y3 qb));replace Ab:=y0.mk (qK Ab.out hb);replace HB:=y0.mk (y4 qb hb);(try clear hb);(try clear Ec);obtain⟨Cr,Cs,Ct,Cu,Cv,Cw,Cx,Cy,Cz,Da⟩:=qz5 Ab.out;obtain⟨Bn,Bo,Ik⟩:=Kd.R_slice Az.out;subst Ik)|((with_reducible refine y15 (f:=48) rfl ?_);refine y17 (some 24) rfl rfl Try.func48 (by kernel_rfl) rfl #[.agg #[.int .i64 Ad,.string Ah,.slice Ba Af.length Bb],.slice Bn Ai.length Bo] rfl qy1 ?_;(with_reducible refine(spec_l04Lit.calls k Ad Ah _ _ Af _ _ Ai Cf Dr _ (qc (Kd.C_below Cc.out HB.out)) Cd.out (qc ((Kd.R_reads' Az.out).2.2)) (by exact(Kd.R_reads' Az.out).2.1) A7.out).mono ?_);rintro e Jz ⟨rfl,hb⟩;refine⟨_,rfl, ?_⟩;replace Az:=y0.mk (Kd.R_below (qR Az.out) hb);replace Ab:=y0.mk (qK Ab.out hb);replace HB:=y0.mk (y4 qb hb);(try clear hb)))
   (try simp only [Act.put,qS_,qZ_,qC_])
   go_cut [34] (fun Jw wc=>∃(kq:Nat) (Ca:Bool),Jw=.bool Ca∧y0 (z7_.j0 kq Ai Cf Ca Ag Ad Ah Af Aa=some r)∧y0 (kq≤k)∧y0 (Kd.R Kd.string 9 wc w.heap.size (fun _=>True) (.slice Bn Ai.length Bo) Ai)∧y0 (wc.heap[Bm]?=some (.cells #[(.slice Bc Ag.length Bd),.int .i64 Ad,.string Ah,(.slice Ba Af.length Bb),(.slice Be Aa.length Bf)] 36 (0,0)))∧y0 (Below w.heap.size w wc))
   case first =>
    have H:=Ii.out
    clear Ii
    by_cases En:Dr=true
    ·subst En
     replace H:=qT H
     have H':=y0.mk H
     clear H
     obtain⟨Eo,Ep,Eq,Er,Es,Et,Eu,Ew,Ex,Ey⟩:=qz5 Ab.out
     go_wp2
     go_meet
     exact⟨_,((Ad != 1)),qy2,H',⟨by first|omega|exact Nat.le_refl _⟩,⟨qR Az.out⟩,⟨qk Ab.out⟩,⟨qb⟩⟩
    ·replace En:=Bool.eq_false_iff.mpr En
     subst En
     replace H:=qF H
     have H':=y0.mk H
     clear H
     go_wp2
     go_meet
     exact⟨_,(true),qy2,H',⟨by first|omega|exact Nat.le_refl _⟩,⟨qR Az.out⟩,⟨qk Ab.out⟩,⟨qb⟩⟩
   case rest =>
    clear Ii
    (try clear Ea Eb c6 Cg Ch Ci Cj Ck Cr Cs Ct Cu Cv Cl Cm Cn Cp Cq Cw Cx Cy Cz Da)
    obtain⟨kq,Ca,rfl,HA,Dx,Aj,Ab,HB⟩:=hcut
    cases kq with
    | zero=>exact absurd HA.out (by simp [z7_.j0])
    | succ Iu =>
     have H:=HA.out
     clear HA
     simp only [z7_.j0]at H
     by_cases Ed:Ca=true
     ·subst Ed
      replace H:=qT H
      obtain rfl:=Option.some.inj H
      go_wp2
      go_ret
      exact⟨qf,qb⟩
     ·replace Ed:=Bool.eq_false_iff.mpr Ed
      subst Ed
      replace H:=qF H
      have H':=y0.mk H
      clear H
      go_wp2
      go_loopg [5,6] Iu (fun kq v5 v6 w'=>∃(Ak:ByteArray) (Ac:Int),v5=.string Ak∧v6=.int .i64 Ac∧y0 (z7_.l0 kq Ai Ak Ac Ag Ad Ah Af Aa=some r)∧y0 (kq≤Iu)∧y0 (Kd.R Kd.string 9 w' w.heap.size (fun _=>True) (.slice Bn Ai.length Bo) Ai)∧y0 (w'.heap[Bm]?=some (.cells #[(.slice Bc Ag.length Bd),.int .i64 Ad,.string Ah,(.slice Ba Af.length Bb),(.slice Be Aa.length Bf)] 36 (0,0)))∧y0 (Below w.heap.size w w'))
      case atStart=>exact⟨(Cf),(0),qy2,qy2,H',⟨Nat.le_refl _⟩,⟨qR Aj.out⟩,⟨qk Ab.out⟩,⟨qb⟩⟩
      case round =>
       clear H'
       (try clear Ed)
       obtain⟨Ak,Ac,rfl,rfl,HA,Dy,Aj,Ab,HB⟩:=hrel
       cases gk with
       | zero=>exact absurd HA.out (by simp [z7_.l0])
       | succ k2 =>
        have H:=HA.out
        clear HA
        simp only [z7_.l0]at H
        have Ds:=y0.mk H
        clear H
        go_upto_region 10 with(fail)
        go_cut [44] (fun Jx wc=>∃(kq:Nat) (Bh:Bool),Jx=.bool Bh∧y0 (z7_.j2 kq Ai Ak Ac Bh Ag Ad Ah Af Aa=some r)∧y0 (kq≤k2)∧y0 (Kd.R Kd.string 9 wc w.heap.size (fun _=>True) (.slice Bn Ai.length Bo) Ai)∧y0 (wc.heap[Bm]?=some (.cells #[(.slice Bc Ag.length Bd),.int .i64 Ad,.string Ah,(.slice Ba Af.length Bb),(.slice Be Aa.length Bf)] 36 (0,0)))∧y0 (Below w.heap.size w wc))
        case first =>
         have H:=Ds.out
         clear Ds
         by_cases Dz:Ac < (Aa.length:Int)
         ·rw [if_pos Dz]at H
          have Bp:=decide_eq_true Dz
          clear Dz
          (first|rw [Bp]|(simp only [i64_w,i32_w];rw [Bp])|skip)
          have H':=y0.mk H
          clear H
          obtain⟨Ez,Fa,Fb,Fc,Fd,Fe,Ff,Fg,Fh,Fi⟩:=qz5 Ab.out
          go_wp2
          go_meet
          exact⟨_,(decide ((Ak.size:Int)≤3000)),qy2,H',⟨by have:=Dx.out;have:=Dy.out;first|omega|exact Nat.le_refl _⟩,⟨qR Aj.out⟩,⟨qk Ab.out⟩,⟨qb⟩⟩
         ·rw [if_neg Dz]at H
          have Bp:=decide_eq_false Dz
          clear Dz
          (first|rw [Bp]|(simp only [i64_w,i32_w];rw [Bp])|skip)
          have H':=y0.mk H
          clear H
          obtain⟨Fj,Fk,Fl,Fm,Fn,Fo,Fp,Fq,Fr,Fs⟩:=qz5 Ab.out
          go_wp2
          go_meet
          exact⟨_,(false),qy2,H',⟨by have:=Dx.out;have:=Dy.out;first|omega|exact Nat.le_refl _⟩,⟨qR Aj.out⟩,⟨qk Ab.out⟩,⟨qb⟩⟩
        case rest =>
         clear Ds
         obtain⟨kq,Bh,rfl,HA,Db,Aj,Ab,HB⟩:=hcut
         cases kq with
         | zero=>exact absurd HA.out (by simp [z7_.j2])
         | succ Cb =>
          have H:=HA.out
          clear HA
          simp only [z7_.j2]at H
          by_cases Ft:Bh=true
          ·subst Ft
           replace H:=qT H
           by_cases Dt:Ac=0
           ·rw [if_pos Dt]at H
            have Ee:(Ac == 0)=true:=beq_iff_eq.mpr Dt
            have Ef:(Ac != 0)=false:=bne_eq_false_iff_eq.mpr Dt
            clear Dt
            obtain⟨Il,H⟩:=qo H
            have Iv:=eq_true Il
            have Iw:=decide_eq_true Il
            have Ix:=eq_false (Nat.not_lt.2 Il)
            obtain⟨Iy,H⟩:=qo H
            have Iz:decide (0≤Ac)=true:=decide_eq_true Iy
            clear Iy
            obtain⟨Ja,H⟩:=qo H
            have Jb:decide (Ac < (Aa.length:Int))=true:=decide_eq_true Ja
            clear Ja
            obtain⟨⟨Dc,Im⟩,Jc,H⟩:=qB H
            dsimp only at H
            by_cases Fu:Im=true
            ·subst Fu
             replace H:=qT H
             obtain⟨Io,H⟩:=qo H
             have Jd:=eq_true Io
             have Je:=decide_eq_true Io
             have Eg:=eq_false (Nat.not_lt.2 Io)
             have Jf:(9223372036854775807 < Ak.size + 4 + Dc.size)=False:=qs Eg
             have H':=y0.mk H
             clear H
             obtain⟨Fv,Fx,Fy,Fz,Ga,Gb,Gc,Gd,Ge,Gf⟩:=qz5 Ab.out
             have Bq:0≤(Ac:Int):=qd
             have Br:Ac < (Aa.length:Int):=qd
             obtain⟨Eh,Bs,Bt,Du,Am,Ap,Ar,Av,Aw⟩:=at_T33 Bg.out Ac Bq Br
             cases Du
             replace Am:=qC Am HB
             replace Ap:=qC Ap HB
             replace Ar:=qC Ar HB
             have Bi:=y0.mk Aw
             have Bj:=y0.mk Av
             clear Aw Av
             replace Bq:=eq_true Bq
             replace Br:=eq_true Br
             go_wp2_with (first|((with_reducible refine y15 (f:=48) rfl ?_);refine y17 (some 60) rfl rfl Try.func48 (by kernel_rfl) rfl #[.agg #[.int .i64 ((y18 Aa Ac).f0),.string ((y18 Aa Ac).f1),.slice Bs ((y18 Aa Ac).f2).length Bt],.slice Bn Ai.length Bo] rfl qy1 ?_;(with_reducible refine(spec_l04Lit.calls Cb ((y18 Aa Ac).f0) ((y18 Aa Ac).f1) _ _ ((y18 Aa Ac).f2) _ _ Ai Dc true _ (qc (Kd.C_below Bi.out HB.out)) Bj.out (qc ((Kd.R_reads' Aj.out).2.2)) (by exact(Kd.R_reads' Aj.out).2.1) Jc.out).mono ?_);rintro e Ka ⟨rfl,hb⟩;refine⟨_,rfl, ?_⟩;replace Aj:=y0.mk (Kd.R_below (qR Aj.out) hb);replace Ab:=y0.mk (qK Ab.out hb);replace HB:=y0.mk (y4 qb hb);(try clear hb)))
             go_roundg Cb
             case measure=>have:=Dx.out;have:=Dy.out;have:=Db.out;omega
             exact⟨((Ak ++ (⟨#[32,58,45,32]⟩:ByteArray)) ++ Dc),(wrap64 (Ac + 1)),qy2,qy2,H',⟨by have:=Dx.out;have:=Dy.out;have:=Db.out;omega⟩,⟨qR Aj.out⟩,⟨qk Ab.out⟩,⟨qb⟩⟩
            ·replace Fu:=Bool.eq_false_iff.mpr Fu
             subst Fu
             replace H:=qF H
             obtain rfl:=Option.some.inj H
             obtain⟨Gg,Gh,Gi,Gj,Gk,Gl,Gm,Gn,Gp,Gq⟩:=qz5 Ab.out
             have Bq:0≤(Ac:Int):=qd
             have Br:Ac < (Aa.length:Int):=qd
             obtain⟨Eh,Bs,Bt,Du,Am,Ap,Ar,Av,Aw⟩:=at_T33 Bg.out Ac Bq Br
             cases Du
             replace Am:=qC Am HB
             replace Ap:=qC Ap HB
             replace Ar:=qC Ar HB
             have Bi:=y0.mk Aw
             have Bj:=y0.mk Av
             clear Aw Av
             replace Bq:=eq_true Bq
             replace Br:=eq_true Br
             go_wp2_with (first|((with_reducible refine y15 (f:=48) rfl ?_);refine y17 (some 60) rfl rfl Try.func48 (by kernel_rfl) rfl #[.agg #[.int .i64 ((y18 Aa Ac).f0),.string ((y18 Aa Ac).f1),.slice Bs ((y18 Aa Ac).f2).length Bt],.slice Bn Ai.length Bo] rfl qy1 ?_;(with_reducible refine(spec_l04Lit.calls Cb ((y18 Aa Ac).f0) ((y18 Aa Ac).f1) _ _ ((y18 Aa Ac).f2) _ _ Ai Dc false _ (qc (Kd.C_below Bi.out HB.out)) Bj.out (qc ((Kd.R_reads' Aj.out).2.2)) (by exact(Kd.R_reads' Aj.out).2.1) Jc.out).mono ?_);rintro e Kb ⟨rfl,hb⟩;refine⟨_,rfl, ?_⟩;replace Aj:=y0.mk (Kd.R_below (qR Aj.out) hb);replace Ab:=y0.mk (qK Ab.out hb);replace HB:=y0.mk (y4 qb hb);(try clear hb)))
             go_ret
             exact⟨qf,qb⟩
           ·rw [if_neg Dt]at H
            have Ee:(Ac == 0)=false:=beq_eq_false_iff_ne.mpr Dt
            have Ef:(Ac != 0)=true:=bne_iff_ne.mpr Dt
            obtain⟨Ip,H⟩:=qo H
            have Jg:=eq_true Ip
            have Jh:=decide_eq_true Ip
            have Ji:=eq_false (Nat.not_lt.2 Ip)
            obtain⟨Jj,H⟩:=qo H
            have Jk:decide (0≤Ac)=true:=decide_eq_true Jj
            clear Jj
            obtain⟨Jl,H⟩:=qo H
            have Jm:=decide_eq_true Jl
            clear Jl
            obtain⟨⟨Dd,Iq⟩,Jn,H⟩:=qB H
            dsimp only at H
            by_cases Gr:Iq=true
            ·subst Gr
             replace H:=qT H
             obtain⟨Ir,H⟩:=qo H
             have Jo:=eq_true Ir
             have Jp:=decide_eq_true Ir
             have Ei:=eq_false (Nat.not_lt.2 Ir)
             have Jq:(9223372036854775807 < Ak.size + 2 + Dd.size)=False:=qs Ei
             have H':=y0.mk H
             clear H
             obtain⟨Gs,Gt,Gu,Gv,Gw,Gx,Gz,Ha,Hb,Hc⟩:=qz5 Ab.out
             have Bu:0≤(Ac:Int):=qd
             have Bv:Ac < (Aa.length:Int):=qd
             obtain⟨Ej,Bw,Bx,Dw,As,At,Au,Ax,Ay⟩:=at_T33 Bg.out Ac Bu Bv
             cases Dw
             replace As:=qC As HB
             replace At:=qC At HB
             replace Au:=qC Au HB
             have Bk:=y0.mk Ay
             have Bl:=y0.mk Ax
             clear Ay Ax
             replace Bu:=eq_true Bu
             replace Bv:=eq_true Bv
             go_wp2_with (first|((with_reducible refine y15 (f:=48) rfl ?_);refine y17 (some 60) rfl rfl Try.func48 (by kernel_rfl) rfl #[.agg #[.int .i64 ((y18 Aa Ac).f0),.string ((y18 Aa Ac).f1),.slice Bw ((y18 Aa Ac).f2).length Bx],.slice Bn Ai.length Bo] rfl qy1 ?_;(with_reducible refine(spec_l04Lit.calls Cb ((y18 Aa Ac).f0) ((y18 Aa Ac).f1) _ _ ((y18 Aa Ac).f2) _ _ Ai Dd true _ (qc (Kd.C_below Bk.out HB.out)) Bl.out (qc ((Kd.R_reads' Aj.out).2.2)) (by exact(Kd.R_reads' Aj.out).2.1) Jn.out).mono ?_);rintro e Ke ⟨rfl,hb⟩;refine⟨_,rfl, ?_⟩;replace Aj:=y0.mk (Kd.R_below (qR Aj.out) hb);replace Ab:=y0.mk (qK Ab.out hb);replace HB:=y0.mk (y4 qb hb);(try clear hb)))
             go_roundg Cb
             case measure=>have:=Dx.out;have:=Dy.out;have:=Db.out;omega
             exact⟨((Ak ++ (⟨#[44,32]⟩:ByteArray)) ++ Dd),(wrap64 (Ac + 1)),qy2,qy2,H',⟨by have:=Dx.out;have:=Dy.out;have:=Db.out;omega⟩,⟨qR Aj.out⟩,⟨qk Ab.out⟩,⟨qb⟩⟩
            ·replace Gr:=Bool.eq_false_iff.mpr Gr
             subst Gr
             replace H:=qF H
             obtain rfl:=Option.some.inj H
             obtain⟨Hd,He,Hf,Hg,Hh,Hi,Hj,Hk,Hl,Hm⟩:=qz5 Ab.out
             have Bu:0≤(Ac:Int):=qd
             have Bv:Ac < (Aa.length:Int):=qd
             obtain⟨Ej,Bw,Bx,Dw,As,At,Au,Ax,Ay⟩:=at_T33 Bg.out Ac Bu Bv
             cases Dw
             replace As:=qC As HB
             replace At:=qC At HB
             replace Au:=qC Au HB
             have Bk:=y0.mk Ay
             have Bl:=y0.mk Ax
             clear Ay Ax
             replace Bu:=eq_true Bu
             replace Bv:=eq_true Bv
             go_wp2_with (first|((with_reducible refine y15 (f:=48) rfl ?_);refine y17 (some 60) rfl rfl Try.func48 (by kernel_rfl) rfl #[.agg #[.int .i64 ((y18 Aa Ac).f0),.string ((y18 Aa Ac).f1),.slice Bw ((y18 Aa Ac).f2).length Bx],.slice Bn Ai.length Bo] rfl qy1 ?_;(with_reducible refine(spec_l04Lit.calls Cb ((y18 Aa Ac).f0) ((y18 Aa Ac).f1) _ _ ((y18 Aa Ac).f2) _ _ Ai Dd false _ (qc (Kd.C_below Bk.out HB.out)) Bl.out (qc ((Kd.R_reads' Aj.out).2.2)) (by exact(Kd.R_reads' Aj.out).2.1) Jn.out).mono ?_);rintro e Kf ⟨rfl,hb⟩;refine⟨_,rfl, ?_⟩;replace Aj:=y0.mk (Kd.R_below (qR Aj.out) hb);replace Ab:=y0.mk (qK Ab.out hb);replace HB:=y0.mk (y4 qb hb);(try clear hb)))
             go_ret
             exact⟨qf,qb⟩
          ·replace Ft:=Bool.eq_false_iff.mpr Ft
           subst Ft
           replace H:=qF H
           obtain⟨Is,H⟩:=qo H
           have Jr:=eq_true Is
           have Js:=decide_eq_true Is
           have Jt:=eq_false (Nat.not_lt.2 Is)
           by_cases Dq:((Ak ++ (⟨#[46]⟩:ByteArray)).size:Int) > 3000
           ·rw [if_pos Dq]at H
            have Ek:(3000 < (Ak.size:Int) + 1)=True:=eq_true (by have h_:=Dq;rw [show(Ak ++ (⟨#[46]⟩:ByteArray)).size=Ak.size + 1 from by(simp only [ByteArray.size_append];rfl)]at h_;omega)
            have El:decide (3000 < ((Ak ++ (⟨#[46]⟩:ByteArray)).size:Int))=true:=decide_eq_true Dq
            have Em:decide (3000 < (Ak ++ (⟨#[46]⟩:ByteArray)).size)=true:=decide_eq_true (by omega)
            clear Dq
            obtain rfl:=Option.some.inj H
            go_wp2
            go_ret
            exact⟨qf,qb⟩
           ·rw [if_neg Dq]at H
            have Ek:(3000 < (Ak.size:Int) + 1)=False:=eq_false (by have h_:=Dq;rw [show(Ak ++ (⟨#[46]⟩:ByteArray)).size=Ak.size + 1 from by(simp only [ByteArray.size_append];rfl)]at h_;omega)
            have El:decide (3000 < ((Ak ++ (⟨#[46]⟩:ByteArray)).size:Int))=false:=decide_eq_false Dq
            have Em:decide (3000 < (Ak ++ (⟨#[46]⟩:ByteArray)).size)=false:=decide_eq_false (by omega)
            clear Dq
            obtain rfl:=Option.some.inj H
            go_wp2
            go_ret
            exact⟨qf,qb⟩
  ·replace c6:=Bool.eq_false_iff.mpr c6
   subst c6
   replace H:=qF H
   obtain rfl:=Option.some.inj H
   go_enter Try.func22,Try.ntmps22
   go_wp2_with (first|((with_reducible refine y16 (N:=1) rfl ?_);(try(refine gate_guard (by rfl) ?_;dsimp only));refine qe 1 #[.slice Bc Ag.length Bd,.int .i64 Ad,.string Ah,.slice Ba Af.length Bb,.slice Be Aa.length Bf] 36 ?_;intro Bm hg Kg hbox hb;have Ab:=y0.mk (hbox);have Do:=y0.mk (qg (w:=w) hg);have Dp:=y0.mk (qg (w:=w) hg);replace HB:=y0.mk (y4 qb hb);clear hb hbox hg;obtain⟨Hn,Ho,Hp,Hq,Hr,Hs,Ht,Hu,Hv,Hw⟩:=qz5 Ab.out)|((with_reducible refine y15 (f:=47) rfl ?_);refine y17 (some 15) rfl rfl Try.func47 (by kernel_rfl) rfl #[.agg #[.slice Bc Ag.length Bd,.int .i64 Ad,.string Ah,.slice Ba Af.length Bb,.slice Be Aa.length Bf]] rfl qy1 ?_;(with_reducible refine(z8_.calls k _ _ Ag Ad Ah (fun k_=>k_ < w.heap.size) _ _ Af (fun k_=>k_ < w.heap.size) _ _ Aa Ai false _ (qc (Kd.C_below Dk.out HB.out)) Dl.out (by exact Kd.V_mk Cd.out (Kd.F_below (Kd.C_F (Kd.heap_int .i64) Cc.out) qb)) (by exact Kd.V_mk Dm.out (Kd.F_below (Kd.C_F k33_heap Bg.out) qb)) A5.out).mono ?_);rintro e Kh ⟨Ij,rfl,Ec,hb⟩;refine⟨_,rfl, ?_⟩;have Az:=y0.mk (Kd.R_lower (Kd.R_mono (ok':=fun k_=>True) Ec (fun _ hk_=>trivial)) (y3 qb));replace Ab:=y0.mk (qK Ab.out hb);replace HB:=y0.mk (y4 qb hb);(try clear hb);(try clear Ec)))
   go_ret
   exact⟨qf,qb⟩
def spec_l05In.l0:Nat→List ByteArray→ByteArray→Int→Option (Bool)
 | 0,_,_,_=>none
 | k + 1,x0,x1,x5=>if x5 < (x0.length:Int)then(if 0≤x5 then(if(rdOf ByteArray.empty x0 x5).toList=x1.toList then(some true)else(spec_l05In.l0 k x0 x1 (wrap64 (x5 + 1))))else(none))else(some false)
def spec_l05In.f (k:Nat) (l0:List ByteArray) (a1:ByteArray):Option (Bool):=spec_l05In.l0 k l0 a1 0
theorem spec_l05In.calls (k:Nat) (A0:Option Addr) (c0:Nat) (l0:List ByteArray) (a1:ByteArray) (r:Bool) (w:World) (Aj:Kd.C Kd.string w A0 l0.length l0) (Ak:l0.length≤c0) (h:spec_l05In.f k l0 a1=some r) :
  Calls Try.prog 39 #[.slice A0 l0.length c0,.string a1] w fun e w'=>e=.returned (.bool r)∧Drawn0 w w':=by
 have Ar:=y0.mk Aj
 have At:=y0.mk Ak
 clear Aj Ak
 have H:(spec_l05In.l0 k l0 a1 0)=some r:=h
 clear h
 have H':=y0.mk H
 clear H
 go_enter Try.func39,Try.ntmps39
 go_wp2
 go_loopg [5] k (fun kq v5 w'=>∃(Aa:Int),v5=.int .i64 Aa∧y0 (spec_l05In.l0 kq l0 a1 Aa=some r)∧y0 (kq≤k)∧Drawn0 w w')
 case atStart=>exact⟨(0),qy2,H',⟨Nat.le_refl _⟩,by repeat(first|exact Drawn0.refl _|apply Drawn0.step)⟩
 case round =>
  clear H'
  obtain⟨Aa,rfl,HA,Am,⟨m1,rfl⟩⟩:=hrel
  cases gk with
  | zero=>exact absurd HA.out (by simp [spec_l05In.l0])
  | succ k1 =>
   have H:=HA.out
   clear HA
   simp only [spec_l05In.l0]at H
   by_cases c3:Aa < (l0.length:Int)
   ·rw [if_pos c3]at H
    have Af:=decide_eq_true c3
    clear c3
    obtain⟨c4,H⟩:=qo H
    have As:decide (0≤Aa)=true:=decide_eq_true c4
    clear c4
    have Ab:0≤(Aa:Int):=qd
    have Ac:Aa < (l0.length:Int):=qd
    obtain⟨Ap,Ag,Ad⟩:=Kd.at_string Ar.out Aa Ab Ac
    cases Ag
    replace Ab:=eq_true Ab
    replace Ac:=eq_true Ac
    by_cases c5:(rdOf ByteArray.empty l0 Aa).toList=a1.toList
    ·rw [if_pos c5]at H
     have Ah:((rdOf ByteArray.empty l0 Aa).toList == a1.toList)=true:=beq_iff_eq.mpr c5
     have Ai:((rdOf ByteArray.empty l0 Aa).toList != a1.toList)=false:=bne_eq_false_iff_eq.mpr c5
     clear c5
     obtain rfl:=Option.some.inj H
     go_wp2
     go_ret
     exact qf2
    ·rw [if_neg c5]at H
     have Ah:((rdOf ByteArray.empty l0 Aa).toList == a1.toList)=false:=beq_eq_false_iff_ne.mpr c5
     have Ai:((rdOf ByteArray.empty l0 Aa).toList != a1.toList)=true:=bne_iff_ne.mpr c5
     have H':=y0.mk H
     clear H
     go_wp2
     go_roundg k1
     case measure=>have:=Am.out;omega
     exact⟨(wrap64 (Aa + 1)),qy2,H',⟨by have:=Am.out;omega⟩,by repeat(first|exact Drawn0.refl _|apply Drawn0.step)⟩
   ·rw [if_neg c3]at H
    have Af:=decide_eq_false c3
    clear c3
    obtain rfl:=Option.some.inj H
    go_wp2
    go_ret
    exact qf2
mutual
def z12_.l0:Nat→List Bool→Int→List (S63)→Int→ByteArray→List Int→List (S33)→Option (List Bool)
 | 0,_,_,_,_,_,_,_=>none
 | k + 1,x5,x6,Ae,Al,An,Ao,Aq=>if x6≥0 then(z12_.l1 k x5 x6 0 Ae Al An Ao Aq)else(some x5)
def z12_.l1:Nat→List Bool→Int→Int→List (S63)→Int→ByteArray→List Int→List (S33)→Option (List Bool)
 | 0,_,_,_,_,_,_,_,_=>none
 | k + 1,x5,x6,x7,Ae,Al,An,Ao,Aq=>if 0≤x6 then(if x6 < (Ae.length:Int)then(if x7 < (((y19 Ae x6).f2).length:Int)then(if x6 < (x5.length:Int)then(if rdOf false x5 x6=true then(if 0≤x7 then(if 0≤(rd ((y19 Ae x6).f2) x7)then(if(rd ((y19 Ae x6).f2) x7) < (x5.length:Int)then(z12_.l1 k (x5.set ((rd ((y19 Ae x6).f2) x7):Int).toNat true) x6 (wrap64 (x7 + 1)) Ae Al An Ao Aq)else(none))else(none))else(none))else(z12_.l0 k x5 (wrap64 (x6 - 1)) Ae Al An Ao Aq))else(none))else(z12_.l0 k x5 (wrap64 (x6 - 1)) Ae Al An Ao Aq))else(none))else(none)
end
def z12_.f (k:Nat) (Ae:List (S63)) (Al:Int) (An:ByteArray) (Ao:List Int) (Aq:List (S33)) (a1:Int):Option (List Bool):=if 0≤(Ae.length:Int)then(if((Ae.length:Int):Int).toNat≤281474976710656 then((some (List.replicate ((Ae.length:Int):Int).toNat false:List Bool)).bind fun y257=>(if 0≤a1 then(if a1 < (y257.length:Int)then(z12_.l0 k (y257.set (a1:Int).toNat true) a1 Ae Al An Ao Aq)else(none))else(none)))else(none))else(none)
theorem z12_.calls (k:Nat) (Bp:Option Addr) (Bq:Nat) (Ab:List (S63)) (Aw:Int) (Ax:ByteArray) (Br:Option Addr) (Bs:Nat) (Ar:List Int) (Bt:Option Addr) (Bu:Nat) (As:List (S33)) (a1:Int) (r:List Bool) (w:World) (Cg:Kd.C k63 w Bp Ab.length Ab) (Ch:Ab.length≤Bq) (Ci:Kd.C (Kd.int .i64) w Br Ar.length Ar) (Cj:Ar.length≤Bs) (Ck:Kd.C k33 w Bt As.length As) (Cl:As.length≤Bu) (h:z12_.f k Ab Aw Ax Ar As a1=some r) :
  Calls Try.prog 49 #[.agg #[.slice Bp Ab.length Bq,.int .i64 Aw,.string Ax,.slice Br Ar.length Bs,.slice Bt As.length Bu],.int .i64 a1] w fun e w'=>∃ v0_:Value,e=.returned (v0_)∧Kd.R Kd.bool 4 w' w.heap.size (fun _=>True) v0_ r∧Below w.heap.size w w':=by
 have Gw:=Try.underlying36
 have Bk:=y0.mk Cg
 have Fu:=y0.mk Ch
 clear Cg Ch
 have Fv:=y0.mk Ci
 have Fx:=y0.mk Cj
 clear Ci Cj
 have Fy:=y0.mk Ck
 have Fz:=y0.mk Cl
 clear Ck Cl
 have HB:=y0.mk (Below.refl w.heap.size w)
 have H:(if 0≤(Ab.length:Int)then(if((Ab.length:Int):Int).toNat≤281474976710656 then((some (List.replicate ((Ab.length:Int):Int).toNat false:List Bool)).bind fun Bb=>(if 0≤a1 then(if a1 < (Bb.length:Int)then(z12_.l0 k (Bb.set (a1:Int).toNat true) a1 Ab Aw Ax Ar As)else(none))else(none)))else(none))else(none))=some r:=h
 clear h
 obtain⟨c3,H⟩:=qo H
 have Fe:=eq_true c3
 have Ff:=decide_eq_true c3
 clear c3
 obtain⟨c4,H⟩:=qo H
 have Fg:=eq_true c4
 have Fh:=decide_eq_true c4
 clear c4
 obtain⟨Bb,Bf⟩:∃ y_:List Bool,y_=(List.replicate ((Ab.length:Int):Int).toNat false):=⟨_,rfl⟩
 replace H:(if 0≤a1 then(if a1 < (Bb.length:Int)then(z12_.l0 k (Bb.set (a1:Int).toNat true) a1 Ab Aw Ax Ar As)else(none))else(none))=some r:=by first|exact Bf ▸ H|exact Bf ▸ (Option.bind_some _ _).symm.trans H
 replace Bf:=y0.mk Bf
 obtain⟨c5,H⟩:=qo H
 have Fi:decide (0≤a1)=true:=decide_eq_true c5
 clear c5
 obtain⟨c6,H⟩:=qo H
 have Fj:decide (a1 < (Bb.length:Int))=true:=decide_eq_true c6
 clear c6
 obtain⟨Cr,Bg⟩:∃ y_:List Bool,y_=(Bb.set (a1:Int).toNat true):=⟨_,rfl⟩
 replace H:(z12_.l0 k Cr a1 Ab Aw Ax Ar As)=some r:=by first|exact Bg ▸ H|exact Bg ▸ (Option.bind_some _ _).symm.trans H
 replace Bg:=y0.mk Bg
 have H':=y0.mk H
 clear H
 go_enter Try.func49,Try.ntmps49
 go_wp2_with (first|((with_reducible refine y16 (N:=2) rfl ?_);refine qe 2 #[.slice Bp Ab.length Bq,.int .i64 Aw,.string Ax,.slice Br Ar.length Bs,.slice Bt As.length Bu] 36 ?_;intro Cn hg w8 hbox hb;have Ac:=y0.mk (hbox);have Ga:=y0.mk (qg (w:=w) hg);have Gb:=y0.mk (qg (w:=w) hg);replace HB:=y0.mk (y4 qb hb);clear hb hbox hg;obtain⟨Cs,Ct,Cu,Cv,Cw,Cx,Cy,Cz,Da,Db⟩:=qz5 Ac.out)|((with_reducible refine y16 (N:=11) rfl ?_);refine Kd.R_make Kd.bool _ 4 rfl (N:=11) rfl 75 _ _ rfl (Ab.length:Int) rfl rfl Try.underlying75 (.bool false) 1 info4 rfl (by decide) (by omega) false (ok:=fun _=>True) (okp:=fun _=>True) rfl (fun _ hk=>hk) trivial (of_decide_eq_true qy0) (Nat.le_trans (Nat.mul_le_mul_right _ (of_decide_eq_true qy0:(Ab.length:Int).toNat≤281474976710656)) (by omega)) (Below.refl _ _) (Nat.le_refl _) ?_;intro Gx Gc Bv hb hg_ hnew_;clear hg_ hnew_;(first|rw [← Bf.out]at Bv|(simp only [Int.reduceToNat]at Bv;rw [← Bf.out]at Bv));have Av:=y0.mk (Kd.R_lower Bv (y3 qb));replace Ac:=y0.mk (qK Ac.out hb);replace HB:=y0.mk (y4 qb hb);clear hb Bv;have p7:0≤(a1:Int):=qd;have q7:(a1:Int) < ((Bb.length:Int):Int):=qd;obtain⟨Ce,Dw,Gd,Ge,Gz,Ha,Gf⟩:=Kd.R_form Av.out (by omega);(first|cases Gd|(injection Gd with ea_ en_ ec_;(first|subst ea_|(injection ea_ with ea_;subst ea_));subst ec_;clear en_));have Gg:=y0.mk Ge;have Hb:=y0.mk Gf;clear Ge Gz Gf;obtain⟨Dq,Gh⟩:=Kd.R_celln false Av.out (a1:Int) p7 q7;replace p7:=eq_true p7;replace q7:=eq_true q7;obtain⟨hy12_,hz12_⟩:=Kd.R_celln false Av.out (a1:Int) (of_decide_eq_true qy0) (of_decide_eq_true qy0);have Dc:=Kd.R_putg Av.out (a1:Int) true)|((with_reducible refine gate_store (t:=4) (p:=14) rfl ?_);refine store_event (t:=4) (p:=14) (v:=?vo_w13) (w1:=(Gc.setCell ⟨Ce,(a1:Int).toNat,none⟩ (.bool true))) ?hg ?ho ?hn ?hr ?_;(case ho=>rfl);(case hg=>rfl);(case hn=>rfl);(case hr=>(first|(obtain⟨_,_,eo_⟩:=Kd.R_slice Av.out;subst eo_)|(obtain⟨_,_,eo_⟩:=Kd.S_slice Av.out;subst eo_)|(obtain⟨_,_,eo_⟩:=Kd.N_slice Av.out;subst eo_)|skip);first|(go_simp;done)|(go_simp;rfl));intro Fk hw;have hg:Gc.grownBy Fk (some Ce):=(by rw [hw];exact Dc.2);have hp_:Kd.R Kd.bool 4 Fk w.heap.size (fun _=>True) (.slice (some ⟨Ce,0,none⟩) Bb.length Dw) Cr:=(by rw [hw,Bg.out];exact Dc.1);clear Dc;replace Ac:=y0.mk (blk_grown (qk Ac.out) hg (Kd.R_ne Av.out Ac.out (by decide)));replace Av:=y0.mk (hp_);replace HB:=y0.mk ((by rw [hw];exact below_set (HB.out) Gg.out:Below w.heap.size w Fk));clear hg hw hp_))
 go_loopg [6] k (fun kq v6 w'=>∃(Bw:List Bool) (Aa:Int),v6=.int .i64 Aa∧y0 (z12_.l0 kq Bw Aa Ab Aw Ax Ar As=some r)∧y0 (kq≤k)∧y0 (Kd.R Kd.bool 4 w' w.heap.size (fun _=>True) (.slice (some ⟨Ce,0,none⟩) Bb.length Dw) Bw)∧y0 (w'.heap[Cn]?=some (.cells #[(.slice Bp Ab.length Bq),.int .i64 Aw,.string Ax,(.slice Br Ar.length Bs),(.slice Bt As.length Bu)] 36 (0,0)))∧y0 (Below w.heap.size w w'))
 case atStart=>exact⟨(Cr),(a1),qy2,H',⟨Nat.le_refl _⟩,⟨qR Av.out⟩,⟨qk Ac.out⟩,⟨qb⟩⟩
 case round =>
  clear H'
  (try clear Fe Ff Fg Fh Fi Fj p7 q7 Cs Ct Cu Cv Cw Cx Cy Cz Da Db Dq p7 q7)
  obtain⟨Bw,Aa,rfl,HA,Dk,At,Ac,HB⟩:=hrel
  have Am:=(Kd.R_reads' At.out).1
  rw [Am]at At
  (try simp only [Am])
  (try simp only [Am]at Ac)
  cases gk with
  | zero=>exact absurd HA.out (by simp [z12_.l0])
  | succ k1 =>
   have H:=HA.out
   clear HA
   simp only [z12_.l0]at H
   by_cases Dl:Aa≥0
   ·rw [if_pos Dl]at H
    have Cp:decide (0≤Aa)=true:=decide_eq_true Dl
    clear Dl
    have H':=y0.mk H
    clear H
    go_wp2
    go_loopg [7] k1 (fun kq v7 w'=>∃(Au:List Bool) (Ai:Int),v7=.int .i64 Ai∧y0 (z12_.l1 kq Au Aa Ai Ab Aw Ax Ar As=some r)∧y0 (kq≤k1)∧y0 (Kd.R Kd.bool 4 w' w.heap.size (fun _=>True) (.slice (some ⟨Ce,0,none⟩) Bw.length Dw) Au)∧y0 (w'.heap[Cn]?=some (.cells #[(.slice Bp Ab.length Bq),.int .i64 Aw,.string Ax,(.slice Br Ar.length Bs),(.slice Bt As.length Bu)] 36 (0,0)))∧y0 (Below w.heap.size w w'))
    case atStart=>exact⟨(Bw),(0),qy2,H',⟨Nat.le_refl _⟩,⟨by(try simp only [Am]);(with_reducible repeat(first|apply Kd.R_alloc|apply Kd.R_drewN|apply Kd.R_drew));exact At.out⟩,⟨by(try simp only [Am]);(with_reducible repeat(first|refine y9 ?_ _|refine y8 ?_|refine y5 ?_ _));exact Ac.out⟩,⟨qb⟩⟩
    case round =>
     clear H'
     (try clear Cp)
     obtain⟨Au,Ai,rfl,HA,Dm,At,Ac,HB⟩:=hrel
     have Ap:=(Kd.R_reads' At.out).1
     rw [Ap]at At
     (try simp only [Ap])
     (try simp only [Ap]at Ac)
     cases gk with
     | zero=>exact absurd HA.out (by simp [z12_.l1])
     | succ k2 =>
      have H:=HA.out
      clear HA
      simp only [z12_.l1]at H
      obtain⟨Gi,H⟩:=qo H
      have Gj:decide (0≤Aa)=true:=decide_eq_true Gi
      clear Gi
      obtain⟨Gk,H⟩:=qo H
      have Gl:decide (Aa < (Ab.length:Int))=true:=decide_eq_true Gk
      clear Gk
      by_cases Do:Ai < (((y19 Ab Aa).f2).length:Int)
      ·rw [if_pos Do]at H
       have Dr:=decide_eq_true Do
       clear Do
       obtain⟨Gm,H⟩:=qo H
       have Gn:decide (Aa < (Au.length:Int))=true:=decide_eq_true Gm
       clear Gm
       obtain⟨Ds,Bx⟩:∃ b_:Bool,b_=(rdOf false Au Aa):=⟨_,rfl⟩
       replace H:(if Ds=true then(if 0≤Ai then(if 0≤(rd ((y19 Ab Aa).f2) Ai)then(if(rd ((y19 Ab Aa).f2) Ai) < (Au.length:Int)then(z12_.l1 k2 (Au.set ((rd ((y19 Ab Aa).f2) Ai):Int).toNat true) Aa (wrap64 (Ai + 1)) Ab Aw Ax Ar As)else(none))else(none))else(none))else(z12_.l0 k2 Au (wrap64 (Aa - 1)) Ab Aw Ax Ar As))=some r:=by rw [← Bx]at H;exact H
       replace Bx:=y0.mk Bx
       by_cases Dx:Ds=true
       ·subst Dx
        replace H:=qT H
        obtain⟨Gp,H⟩:=qo H
        have Gq:decide (0≤Ai)=true:=decide_eq_true Gp
        clear Gp
        obtain⟨Gr,H⟩:=qo H
        have Gs:decide (0≤(rd ((y19 Ab Aa).f2) Ai))=true:=decide_eq_true Gr
        clear Gr
        obtain⟨Gt,H⟩:=qo H
        have Gu:decide ((rd ((y19 Ab Aa).f2) Ai) < (Au.length:Int))=true:=decide_eq_true Gt
        clear Gt
        obtain⟨Dd,Bh⟩:∃ y_:List Bool,y_=(Au.set ((rd ((y19 Ab Aa).f2) Ai):Int).toNat true):=⟨_,rfl⟩
        replace H:(z12_.l1 k2 Dd Aa (wrap64 (Ai + 1)) Ab Aw Ax Ar As)=some r:=by first|exact Bh ▸ H|exact Bh ▸ (Option.bind_some _ _).symm.trans H
        replace Bh:=y0.mk Bh
        have H':=y0.mk H
        clear H
        obtain⟨Dy,Dz,Ea,Eb,Ec,Ed,Ee,Ef,Eg,Eh⟩:=qz5 Ac.out
        have Az:0≤(Aa:Int):=qd
        have Ba:Aa < (Ab.length:Int):=qd
        obtain⟨Bz,Ca,Cb,Cc,Af,Ag,Ad,Aj,Ak⟩:=at_T63 Bk.out Aa Az Ba
        cases Cc
        replace Af:=qC Af HB
        replace Ag:=qC Ag HB
        replace Ad:=qC Ad HB
        have Bl:=y0.mk Ak
        have Bm:=y0.mk Aj
        clear Ak Aj
        replace Az:=eq_true Az
        replace Ba:=eq_true Ba
        have Bi:0≤(Aa:Int):=qd
        have Bj:Aa < (Au.length:Int):=qd
        obtain⟨Cd,De,Ah⟩:=Kd.at_bool (Kd.R_reads' At.out).2.2 Aa Bi Bj
        (try rw [← Bx.out]at Ah)
        obtain rfl:(⟨Ce,0,none⟩:Addr)=Cd:=(by injection De)
        (first|simp only [add_plain]at Ah|simp only [add_at]at Ah|simp only [Addr.add,Nat.zero_add]at Ah|skip)
        replace Bi:=eq_true Bi
        replace Bj:=eq_true Bj
        have Df:0≤(Aa:Int):=qd
        have Dg:Aa < (Ab.length:Int):=qd
        obtain⟨Du,Fl,Fm,Fn,Bc,Bd,Ay,Bn,Bo⟩:=at_T63 Bk.out Aa Df Dg
        obtain rfl:Bz=Du:=(by injection Fn)
        replace Bc:=qC Bc HB
        replace Bd:=qC Bd HB
        replace Ay:=qC Ay HB
        have Cf:=y0.mk Bo
        have Ei:=y0.mk Bn
        clear Bo Bn
        replace Df:=eq_true Df
        replace Dg:=eq_true Dg
        have ea_:=Option.some.inj (Ad.symm.trans Ay)
        injection ea_ with ea_ en_ ec_
        subst ea_
        subst ec_
        clear en_
        have Dh:0≤(Ai:Int):=qd
        have Di:Ai < (((y19 Ab Aa).f2).length:Int):=qd
        obtain⟨Gv,Fo,Be⟩:=Kd.at_int Cf.out Ai Dh Di
        cases Fo
        replace Be:=qC Be HB
        replace Dh:=eq_true Dh
        replace Di:=eq_true Di
        have Fp:0≤((rd ((y19 Ab Aa).f2) Ai):Int):=qd
        have Fq:((rd ((y19 Ab Aa).f2) Ai):Int) < ((Au.length:Int):Int):=qd
        obtain⟨Fr,Fs⟩:=Kd.R_celln false At.out ((rd ((y19 Ab Aa).f2) Ai):Int) Fp Fq
        replace Fp:=eq_true Fp
        replace Fq:=eq_true Fq
        have Dj:=Kd.R_putg At.out ((rd ((y19 Ab Aa).f2) Ai):Int) true
        go_wp2_with (first|((with_reducible refine gate_store (t:=4) (p:=47) rfl ?_);refine store_event (t:=4) (p:=47) (v:=?vo_w27) (w1:=(wr.setCell ⟨Ce,((rd ((y19 Ab Aa).f2) Ai):Int).toNat,none⟩ (.bool true))) ?hg ?ho ?hn ?hr ?_;(case ho=>rfl);(case hg=>rfl);(case hn=>rfl);(case hr=>first|(go_simp;done)|(go_simp;rfl));intro Ft hw;have hg:wr.grownBy Ft (some Ce):=(by rw [hw];exact Dj.2);have hp_:Kd.R Kd.bool 4 Ft w.heap.size (fun _=>True) (.slice (some ⟨Ce,0,none⟩) Au.length Dw) Dd:=(by rw [hw,Bh.out];exact Dj.1);clear Dj;replace Ac:=y0.mk (blk_grown (qk Ac.out) hg (Kd.R_ne At.out Ac.out (by decide)));replace At:=y0.mk (hp_);replace HB:=y0.mk ((by rw [hw];exact below_set (HB.out) Gg.out:Below w.heap.size w Ft));clear hg hw hp_))
        (try simp only [← Ap])
        go_roundg k2
        case measure=>have:=Dk.out;have:=Dm.out;omega
        exact⟨(Dd),(wrap64 (Ai + 1)),qy2,H',⟨by have:=Dk.out;have:=Dm.out;omega⟩,⟨by(try simp only [Am]);(try simp only [Ap]);(with_reducible repeat(first|apply Kd.R_alloc|apply Kd.R_drewN|apply Kd.R_drew));exact At.out⟩,⟨by(try simp only [Am]);(try simp only [Ap]);(with_reducible repeat(first|refine y9 ?_ _|refine y8 ?_|refine y5 ?_ _));exact Ac.out⟩,⟨qb⟩⟩
       ·replace Dx:=Bool.eq_false_iff.mpr Dx
        subst Dx
        replace H:=qF H
        have H':=y0.mk H
        clear H
        obtain⟨Ej,Ek,El,Em,En,Eo,Ep,Eq,Er,Es⟩:=qz5 Ac.out
        have Az:0≤(Aa:Int):=qd
        have Ba:Aa < (Ab.length:Int):=qd
        obtain⟨Bz,Ca,Cb,Cc,Af,Ag,Ad,Aj,Ak⟩:=at_T63 Bk.out Aa Az Ba
        cases Cc
        replace Af:=qC Af HB
        replace Ag:=qC Ag HB
        replace Ad:=qC Ad HB
        have Bl:=y0.mk Ak
        have Bm:=y0.mk Aj
        clear Ak Aj
        replace Az:=eq_true Az
        replace Ba:=eq_true Ba
        have Bi:0≤(Aa:Int):=qd
        have Bj:Aa < (Au.length:Int):=qd
        obtain⟨Cd,De,Ah⟩:=Kd.at_bool (Kd.R_reads' At.out).2.2 Aa Bi Bj
        (try rw [← Bx.out]at Ah)
        obtain rfl:(⟨Ce,0,none⟩:Addr)=Cd:=(by injection De)
        (first|simp only [add_plain]at Ah|simp only [add_at]at Ah|simp only [Addr.add,Nat.zero_add]at Ah|skip)
        replace Bi:=eq_true Bi
        replace Bj:=eq_true Bj
        go_wp2
        (try simp only [← Am,← Ap])
        go_roundg k2
        case measure=>have:=Dk.out;have:=Dm.out;omega
        exact⟨(Au),(wrap64 (Aa - 1)),qy2,H',⟨by have:=Dk.out;have:=Dm.out;omega⟩,⟨by(try simp only [Am]);(try simp only [Ap]);(with_reducible repeat(first|apply Kd.R_alloc|apply Kd.R_drewN|apply Kd.R_drew));exact At.out⟩,⟨by(try simp only [Am]);(try simp only [Ap]);(with_reducible repeat(first|refine y9 ?_ _|refine y8 ?_|refine y5 ?_ _));exact Ac.out⟩,⟨qb⟩⟩
      ·rw [if_neg Do]at H
       have Dr:=decide_eq_false Do
       clear Do
       have H':=y0.mk H
       clear H
       obtain⟨Et,Eu,Ew,Ex,Ey,Ez,Fa,Fb,Fc,Fd⟩:=qz5 Ac.out
       have Az:0≤(Aa:Int):=qd
       have Ba:Aa < (Ab.length:Int):=qd
       obtain⟨Bz,Ca,Cb,Cc,Af,Ag,Ad,Aj,Ak⟩:=at_T63 Bk.out Aa Az Ba
       cases Cc
       replace Af:=qC Af HB
       replace Ag:=qC Ag HB
       replace Ad:=qC Ad HB
       have Bl:=y0.mk Ak
       have Bm:=y0.mk Aj
       clear Ak Aj
       replace Az:=eq_true Az
       replace Ba:=eq_true Ba
       go_wp2
       (try simp only [← Am,← Ap])
       go_roundg k2
       case measure=>have:=Dk.out;have:=Dm.out;omega
       exact⟨(Au),(wrap64 (Aa - 1)),qy2,H',⟨by have:=Dk.out;have:=Dm.out;omega⟩,⟨by(try simp only [Am]);(try simp only [Ap]);(with_reducible repeat(first|apply Kd.R_alloc|apply Kd.R_drewN|apply Kd.R_drew));exact At.out⟩,⟨by(try simp only [Am]);(try simp only [Ap]);(with_reducible repeat(first|refine y9 ?_ _|refine y8 ?_|refine y5 ?_ _));exact Ac.out⟩,⟨qb⟩⟩
   ·rw [if_neg Dl]at H
    have Cp:decide (0≤Aa)=false:=decide_eq_false Dl
    clear Dl
    obtain rfl:=Option.some.inj H
    go_wp2
    go_ret
    exact⟨_,by first|rfl|(simp [y12,y13] <;> rfl)|(simp [*,y12,y13] <;> rfl),by(with_reducible repeat(first|apply Kd.R_alloc|apply Kd.R_drewN|apply Kd.R_drew));exact At.out,qb⟩
def spec_l06Vars.l0:Nat→Int→List ByteArray→List Bool→Int→List (S63)→Int→ByteArray→List Int→List (S33)→Option (List ByteArray)
 | 0,_,_,_,_,_,_,_,_,_=>none
 | k + 1,x1,x5,x6,x7,Ae,Al,An,Ao,Aq=>if x7≤x1 then(if 0≤x7 then(if x7 < (x6.length:Int)then(if rdOf false x6 x7=true then(if x7 < (Ae.length:Int)then(if((y19 Ae x7).f0)=1 then((spec_l05In.f k x5 ((y19 Ae x7).f1)).bind fun By=>(if By=true then(spec_l06Vars.l0 k x1 x5 x6 (wrap64 (x7 + 1)) Ae Al An Ao Aq)else(if x5.length < 8796093022208 then(spec_l06Vars.l0 k x1 (x5 ++ [(y19 Ae x7).f1]) x6 (wrap64 (x7 + 1)) Ae Al An Ao Aq)else(none))))else(spec_l06Vars.l0 k x1 x5 x6 (wrap64 (x7 + 1)) Ae Al An Ao Aq))else(none))else(spec_l06Vars.l0 k x1 x5 x6 (wrap64 (x7 + 1)) Ae Al An Ao Aq))else(none))else(none))else(some x5)
def spec_l06Vars.f (k:Nat) (Ae:List (S63)) (Al:Int) (An:ByteArray) (Ao:List Int) (Aq:List (S33)) (a1:Int):Option (List ByteArray):=(z12_.f k Ae Al An Ao Aq a1).bind fun By=>(spec_l06Vars.l0 k a1 (([]:List ByteArray)) By 0 Ae Al An Ao Aq)
theorem spec_l06Vars.calls (k:Nat) (Bu:Option Addr) (Bv:Nat) (Ab:List (S63)) (Av:Int) (Aw:ByteArray) (Bw:Option Addr) (Bx:Nat) (Ak:List Int) (Bz:Option Addr) (Ca:Nat) (Am:List (S33)) (a1:Int) (r:List ByteArray) (w:World) (Ck:Kd.C k63 w Bu Ab.length Ab) (Cl:Ab.length≤Bv) (Cm:Kd.C (Kd.int .i64) w Bw Ak.length Ak) (Cn:Ak.length≤Bx) (Cp:Kd.C k33 w Bz Am.length Am) (Cq:Am.length≤Ca) (h:spec_l06Vars.f k Ab Av Aw Ak Am a1=some r) :
  Calls Try.prog 24 #[.agg #[.slice Bu Ab.length Bv,.int .i64 Av,.string Aw,.slice Bw Ak.length Bx,.slice Bz Am.length Ca],.int .i64 a1] w fun e w'=>∃ v0_:Value,e=.returned (v0_)∧Kd.R Kd.string 9 w' w.heap.size (fun _=>True) v0_ r∧Below w.heap.size w w':=by
 have Gl:=Try.underlying36
 have Be:=y0.mk Ck
 have Dk:=y0.mk Cl
 clear Ck Cl
 have Dl:=y0.mk Cm
 have Dm:=y0.mk Cn
 clear Cm Cn
 have Do:=y0.mk Cp
 have Dp:=y0.mk Cq
 clear Cp Cq
 have HB:=y0.mk (Below.refl w.heap.size w)
 have H:((z12_.f k Ab Av Aw Ak Am a1).bind fun At=>(spec_l06Vars.l0 k a1 (([]:List ByteArray)) At 0 Ab Av Aw Ak Am))=some r:=h
 clear h
 obtain⟨Dq,Bj⟩:∃ y_:List ByteArray,y_=(([]:List ByteArray)):=⟨_,rfl⟩
 replace H:((z12_.f k Ab Av Aw Ak Am a1).bind fun At=>(spec_l06Vars.l0 k a1 Dq At 0 Ab Av Aw Ak Am))=some r:=by first|exact Bj ▸ H|exact Bj ▸ (Option.bind_some _ _).symm.trans H
 replace Bj:=y0.mk Bj
 obtain⟨At,A3,H⟩:=qB H
 have H':=y0.mk H
 clear H
 go_enter Try.func24,Try.ntmps24
 go_wp2_with (first|((with_reducible refine y16 (N:=2) rfl ?_);refine qe 2 #[.slice Bu Ab.length Bv,.int .i64 Av,.string Aw,.slice Bw Ak.length Bx,.slice Bz Am.length Ca] 36 ?_;intro Dr hg w4 hbox hb;have Ag:=y0.mk (hbox);have Ga:=y0.mk (qg (w:=w) hg);have Gb:=y0.mk (qg (w:=w) hg);replace HB:=y0.mk (y4 qb hb);clear hb hbox hg)|((with_reducible refine y16 (N:=8) rfl ?_);refine qL Kd.string 9 8 ([]:List ByteArray) ?_;intro Gm w5 Ds hb hg_ hnew_;clear hg_ hnew_;(first|rw [← Bj.out]at Ds|(simp only [Int.reduceToNat]at Ds;rw [← Bj.out]at Ds));have Cb:=y0.mk (Kd.R_lower Ds (y3 qb));replace Ag:=y0.mk (qK Ag.out hb);replace HB:=y0.mk (y4 qb hb);clear hb Ds;obtain⟨Ct,Cu,Cv,Cw,Cx,Cy,Cz,Da,Db,Dc⟩:=qz5 Ag.out)|((with_reducible refine y15 (f:=49) rfl ?_);refine y17 (some 11) rfl rfl Try.func49 (by kernel_rfl) rfl #[.agg #[.slice Bu Ab.length Bv,.int .i64 Av,.string Aw,.slice Bw Ak.length Bx,.slice Bz Am.length Ca],.int .i64 a1] rfl qy1 ?_;(with_reducible refine(z12_.calls k _ _ Ab Av Aw _ _ Ak _ _ Am a1 At _ (qc (Kd.C_below Be.out HB.out)) Dk.out (qc (Kd.C_below Dl.out HB.out)) Dm.out (qc (Kd.C_below Do.out HB.out)) Dp.out A3.out).mono ?_);rintro e w8 ⟨Fm,rfl,Gc,hb⟩;refine⟨_,rfl, ?_⟩;replace Cb:=y0.mk (Kd.R_below (qR Cb.out) hb);have Dt:=y0.mk (Kd.R_lower Gc (y3 qb));replace Ag:=y0.mk (qK Ag.out hb);replace HB:=y0.mk (y4 qb hb);(try clear hb);(try clear Gc)))
 go_loopg [5,7] k (fun kq v5 v7 w'=>∃(Au:List ByteArray) (Aa:Int),v7=.int .i64 Aa∧y0 (spec_l06Vars.l0 kq a1 Au At Aa Ab Av Aw Ak Am=some r)∧y0 (kq≤k)∧y0 (Kd.R Kd.string 9 w' w.heap.size (fun _=>True) v5 Au)∧y0 (Kd.R Kd.bool 4 w' w.heap.size (fun _=>True) Fm At)∧y0 (w'.heap[Dr]?=some (.cells #[(.slice Bu Ab.length Bv),.int .i64 Av,.string Aw,(.slice Bw Ak.length Bx),(.slice Bz Am.length Ca)] 36 (0,0)))∧y0 (Below w.heap.size w w'))
 case atStart=>exact⟨(Dq),(0),qy2,H',⟨Nat.le_refl _⟩,⟨qR Cb.out⟩,⟨qR Dt.out⟩,⟨qk Ag.out⟩,⟨qb⟩⟩
 case round =>
  clear H'
  (try clear Ct Cu Cv Cw Cx Cy Cz Da Db Dc)
  obtain⟨Au,Aa,rfl,HA,Cs,Az,Ba,Ag,HB⟩:=hrel
  cases gk with
  | zero=>exact absurd HA.out (by simp [spec_l06Vars.l0])
  | succ k1 =>
   have H:=HA.out
   clear HA
   simp only [spec_l06Vars.l0]at H
   by_cases c9:Aa≤a1
   ·rw [if_pos c9]at H
    have Fn:=decide_eq_true c9
    clear c9
    obtain⟨Gd,H⟩:=qo H
    have Ge:=decide_eq_true Gd
    clear Gd
    obtain⟨Gf,H⟩:=qo H
    have Gg:decide (Aa < (At.length:Int))=true:=decide_eq_true Gf
    clear Gf
    obtain⟨Du,Cc⟩:∃ b_:Bool,b_=(rdOf false At Aa):=⟨_,rfl⟩
    replace H:(if Du=true then(if Aa < (Ab.length:Int)then(if((y19 Ab Aa).f0)=1 then((spec_l05In.f k1 Au ((y19 Ab Aa).f1)).bind fun Dd=>(if Dd=true then(spec_l06Vars.l0 k1 a1 Au At (wrap64 (Aa + 1)) Ab Av Aw Ak Am)else(if Au.length < 8796093022208 then(spec_l06Vars.l0 k1 a1 (Au ++ [(y19 Ab Aa).f1]) At (wrap64 (Aa + 1)) Ab Av Aw Ak Am)else(none))))else(spec_l06Vars.l0 k1 a1 Au At (wrap64 (Aa + 1)) Ab Av Aw Ak Am))else(none))else(spec_l06Vars.l0 k1 a1 Au At (wrap64 (Aa + 1)) Ab Av Aw Ak Am))=some r:=by rw [← Cc]at H;exact H
    replace Cc:=y0.mk Cc
    by_cases Ed:Du=true
    ·subst Ed
     replace H:=qT H
     obtain⟨Gh,H⟩:=qo H
     have Gi:decide (Aa < (Ab.length:Int))=true:=decide_eq_true Gh
     clear Gh
     by_cases De:((y19 Ab Aa).f0)=1
     ·rw [if_pos De]at H
      have Dw:(((y19 Ab Aa).f0) == 1)=true:=beq_iff_eq.mpr De
      have Dx:(((y19 Ab Aa).f0) != 1)=false:=bne_eq_false_iff_eq.mpr De
      clear De
      obtain⟨Dd,Gj,H⟩:=qB H
      by_cases Ee:Dd=true
      ·subst Ee
       replace H:=qT H
       have H':=y0.mk H
       clear H
       obtain⟨Gn,Gp,Fo⟩:=Kd.R_slice Ba.out
       subst Fo
       have Ax:0≤(Aa:Int):=qd
       have Ay:Aa < (At.length:Int):=qd
       obtain⟨Cd,Bm,Ap⟩:=Kd.at_bool (Kd.R_reads' Ba.out).2.2 Aa Ax Ay
       (try rw [← Cc.out]at Ap)
       cases Bm
       replace Ax:=eq_true Ax
       replace Ay:=eq_true Ay
       obtain⟨Ef,Eg,Eh,Ei,Ej,Ek,El,Em,En,Eo⟩:=qz5 Ag.out
       have Bf:0≤(Aa:Int):=qd
       have Bg:Aa < (Ab.length:Int):=qd
       obtain⟨Bk,Ce,Cf,Cg,Ad,Af,Ac,Ai,Aj⟩:=at_T63 Be.out Aa Bf Bg
       cases Cg
       replace Ad:=qC Ad HB
       replace Af:=qC Af HB
       replace Ac:=qC Ac HB
       have Bq:=y0.mk Aj
       have Br:=y0.mk Ai
       clear Aj Ai
       replace Bf:=eq_true Bf
       replace Bg:=eq_true Bg
       have Bn:0≤(Aa:Int):=qd
       have Bo:Aa < (Ab.length:Int):=qd
       obtain⟨Ch,Df,Dg,Dh,Ar,As,Ah,Bb,Bc⟩:=at_T63 Be.out Aa Bn Bo
       obtain rfl:Bk=Ch:=(by injection Dh)
       replace Ar:=qC Ar HB
       replace As:=qC As HB
       replace Ah:=qC Ah HB
       have Ci:=y0.mk Bc
       have Cj:=y0.mk Bb
       clear Bc Bb
       replace Bn:=eq_true Bn
       replace Bo:=eq_true Bo
       have ea_:=Option.some.inj (Ac.symm.trans Ah)
       injection ea_ with ea_ en_ ec_
       subst ea_
       subst ec_
       clear en_
       obtain⟨Gq,Gr,Fp⟩:=Kd.R_slice Az.out
       subst Fp
       go_wp2_with (first|(go_at_call 39;(with_reducible refine(spec_l05In.calls k1 _ _ Au ((y19 Ab Aa).f1) true _ (qc ((Kd.R_reads' Az.out).2.2)) (by exact(Kd.R_reads' Az.out).2.1) Gj.out).mono ?_);rintro e w' ⟨rfl,⟨nd,rfl⟩⟩))
       go_roundg k1
       case measure=>have:=Cs.out;omega
       exact⟨(Au),(wrap64 (Aa + 1)),qy2,H',⟨by have:=Cs.out;omega⟩,⟨qR Az.out⟩,⟨qR Ba.out⟩,⟨qk Ag.out⟩,⟨qb⟩⟩
      ·replace Ee:=Bool.eq_false_iff.mpr Ee
       subst Ee
       replace H:=qF H
       obtain⟨Gk,H⟩:=qo H
       replace Gk:=y0.mk Gk
       obtain⟨Dz,Bl⟩:∃ y_:List ByteArray,y_=(Au ++ [(y19 Ab Aa).f1]):=⟨_,rfl⟩
       replace H:(spec_l06Vars.l0 k1 a1 Dz At (wrap64 (Aa + 1)) Ab Av Aw Ak Am)=some r:=by first|exact Bl ▸ H|exact Bl ▸ (Option.bind_some _ _).symm.trans H
       replace Bl:=y0.mk Bl
       have H':=y0.mk H
       clear H
       obtain⟨Gs,Gt,Fq⟩:=Kd.R_slice Ba.out
       subst Fq
       have Ax:0≤(Aa:Int):=qd
       have Ay:Aa < (At.length:Int):=qd
       obtain⟨Cd,Bm,Ap⟩:=Kd.at_bool (Kd.R_reads' Ba.out).2.2 Aa Ax Ay
       (try rw [← Cc.out]at Ap)
       cases Bm
       replace Ax:=eq_true Ax
       replace Ay:=eq_true Ay
       obtain⟨Ep,Eq,Er,Es,Et,Eu,Ew,Ex,Ey,Ez⟩:=qz5 Ag.out
       have Bf:0≤(Aa:Int):=qd
       have Bg:Aa < (Ab.length:Int):=qd
       obtain⟨Bk,Ce,Cf,Cg,Ad,Af,Ac,Ai,Aj⟩:=at_T63 Be.out Aa Bf Bg
       cases Cg
       replace Ad:=qC Ad HB
       replace Af:=qC Af HB
       replace Ac:=qC Ac HB
       have Bq:=y0.mk Aj
       have Br:=y0.mk Ai
       clear Aj Ai
       replace Bf:=eq_true Bf
       replace Bg:=eq_true Bg
       have Bn:0≤(Aa:Int):=qd
       have Bo:Aa < (Ab.length:Int):=qd
       obtain⟨Ch,Df,Dg,Dh,Ar,As,Ah,Bb,Bc⟩:=at_T63 Be.out Aa Bn Bo
       obtain rfl:Bk=Ch:=(by injection Dh)
       replace Ar:=qC Ar HB
       replace As:=qC As HB
       replace Ah:=qC Ah HB
       have Ci:=y0.mk Bc
       have Cj:=y0.mk Bb
       clear Bc Bb
       replace Bn:=eq_true Bn
       replace Bo:=eq_true Bo
       have ea_:=Option.some.inj (Ac.symm.trans Ah)
       injection ea_ with ea_ en_ ec_
       subst ea_
       subst ec_
       clear en_
       obtain⟨Fr,Fs,Ft⟩:=Kd.R_slice Az.out
       subst Ft
       go_wp2_with (first|(go_at_call 39;(with_reducible refine(spec_l05In.calls k1 _ _ Au ((y19 Ab Aa).f1) false _ (qc ((Kd.R_reads' Az.out).2.2)) (by exact(Kd.R_reads' Az.out).2.1) Gj.out).mono ?_);rintro e w' ⟨rfl,⟨nd,rfl⟩⟩;have Di:0≤(Aa:Int):=qd;have Dj:Aa < (Ab.length:Int):=qd;obtain⟨Eb,Fu,Fv,Fx,Bh,Bi,Bd,Bs,Bt⟩:=at_T63 Be.out Aa Di Dj;obtain rfl:Bk=Eb:=(by injection Fx);replace Bh:=qC Bh HB;replace Bi:=qC Bi HB;replace Bd:=qC Bd HB;have Fa:=y0.mk Bt;have Fb:=y0.mk Bs;clear Bt Bs;replace Di:=eq_true Di;replace Dj:=eq_true Dj;have ea_:=Option.some.inj (Ac.symm.trans Bd);injection ea_ with ea_ en_ ec_;subst ea_;subst ec_;clear en_)|((with_reducible refine gate_builtin (b:=.append) (xs:=#[.tmp 41,.tmp 48]) rfl ?_);at_builtin;refine Kd.R_append Kd.string (w0:=w) w.heap.size rfl (.tmp 41) (.tmp 48) 30 9 (.string ⟨#[]⟩) 16 rfl Try.underlying30 info9 rfl (by decide) (by omega) (.slice Fr Au.length Fs) Au ((y19 Ab Aa).f1) [.string ((y19 Ab Aa).f1)] (fun _=>True) (fun _=>False) rfl rfl ?aP (fun _ hk=>hk.elim) ?aF ?aO ?aB ?aS ?aL ?_;(case aP=>exact rfl);(case aB=>exact qb);(case aF=>exact(fun _ _=>trivial));(case aO=>exact(qR Az.out));(case aS=>exact(y3 qb));(case aL=>have:=Gk.out;omega);intro Gu Ha ho hb hg hat;rw [← Bl.out]at ho;replace Ba:=y0.mk (Kd.R_over' (qR Ba.out) (Kd.R_typed (qR Az.out)) (by decide) hg);replace Ag:=y0.mk (blk_grown (qk Ag.out) hg (Kd.R_ne Az.out Ag.out (by decide)));replace HB:=y0.mk (hb);have Ec:=y0.mk (ho);clear Az;clear ho hb hg hat))
       go_roundg k1
       case measure=>have:=Cs.out;omega
       exact⟨(Dz),(wrap64 (Aa + 1)),qy2,H',⟨by have:=Cs.out;omega⟩,⟨qR Ec.out⟩,⟨qR Ba.out⟩,⟨qk Ag.out⟩,⟨qb⟩⟩
     ·rw [if_neg De]at H
      have Dw:(((y19 Ab Aa).f0) == 1)=false:=beq_eq_false_iff_ne.mpr De
      have Dx:(((y19 Ab Aa).f0) != 1)=true:=bne_iff_ne.mpr De
      have H':=y0.mk H
      clear H
      obtain⟨Gv,Gw,Fy⟩:=Kd.R_slice Ba.out
      subst Fy
      have Ax:0≤(Aa:Int):=qd
      have Ay:Aa < (At.length:Int):=qd
      obtain⟨Cd,Bm,Ap⟩:=Kd.at_bool (Kd.R_reads' Ba.out).2.2 Aa Ax Ay
      (try rw [← Cc.out]at Ap)
      cases Bm
      replace Ax:=eq_true Ax
      replace Ay:=eq_true Ay
      obtain⟨Fc,Fd,Fe,Ff,Fg,Fh,Fi,Fj,Fk,Fl⟩:=qz5 Ag.out
      have Bf:0≤(Aa:Int):=qd
      have Bg:Aa < (Ab.length:Int):=qd
      obtain⟨Bk,Ce,Cf,Cg,Ad,Af,Ac,Ai,Aj⟩:=at_T63 Be.out Aa Bf Bg
      cases Cg
      replace Ad:=qC Ad HB
      replace Af:=qC Af HB
      replace Ac:=qC Ac HB
      have Bq:=y0.mk Aj
      have Br:=y0.mk Ai
      clear Aj Ai
      replace Bf:=eq_true Bf
      replace Bg:=eq_true Bg
      go_wp2
      go_roundg k1
      case measure=>have:=Cs.out;omega
      exact⟨(Au),(wrap64 (Aa + 1)),qy2,H',⟨by have:=Cs.out;omega⟩,⟨qR Az.out⟩,⟨qR Ba.out⟩,⟨qk Ag.out⟩,⟨qb⟩⟩
    ·replace Ed:=Bool.eq_false_iff.mpr Ed
     subst Ed
     replace H:=qF H
     have H':=y0.mk H
     clear H
     obtain⟨Gx,Gz,Fz⟩:=Kd.R_slice Ba.out
     subst Fz
     have Ax:0≤(Aa:Int):=qd
     have Ay:Aa < (At.length:Int):=qd
     obtain⟨Cd,Bm,Ap⟩:=Kd.at_bool (Kd.R_reads' Ba.out).2.2 Aa Ax Ay
     (try rw [← Cc.out]at Ap)
     cases Bm
     replace Ax:=eq_true Ax
     replace Ay:=eq_true Ay
     go_wp2
     go_roundg k1
     case measure=>have:=Cs.out;omega
     exact⟨(Au),(wrap64 (Aa + 1)),qy2,H',⟨by have:=Cs.out;omega⟩,⟨qR Az.out⟩,⟨qR Ba.out⟩,⟨qk Ag.out⟩,⟨qb⟩⟩
   ·rw [if_neg c9]at H
    have Fn:=decide_eq_false c9
    clear c9
    obtain rfl:=Option.some.inj H
    go_wp2
    go_ret
    exact⟨_,by first|rfl|(simp [y12,y13] <;> rfl)|(simp [*,y12,y13] <;> rfl),by(with_reducible repeat(first|apply Kd.R_alloc|apply Kd.R_drewN|apply Kd.R_drew));exact Az.out,qb⟩
def z10_.l0:Nat→Int→Int→Int→List Bool→Int→List (S63)→Int→ByteArray→List Int→List (S33)→Option (Bool)
 | 0,_,_,_,_,_,_,_,_,_,_=>none
 | k + 1,x1,x2,x3,x9,Ae,Al,An,Ao,Aq,By=>if Ae≤x1 then(if 0≤Ae then(if Ae < (x9.length:Int)then(if rdOf false x9 Ae=true then(if Ae < (Al.length:Int)then((spec_l01Between.f ((y19 Al Ae).f0) x2 x3).bind fun Di=>(if Di=true then(some true)else(z10_.l0 k x1 x2 x3 x9 (wrap64 (Ae + 1)) Al An Ao Aq By)))else(none))else(z10_.l0 k x1 x2 x3 x9 (wrap64 (Ae + 1)) Al An Ao Aq By))else(none))else(none))else(some false)
def z10_.f (k:Nat) (Ae:List (S63)) (Al:Int) (An:ByteArray) (Ao:List Int) (Aq:List (S33)) (a1:Int) (a2:Int) (a3:Int):Option (Bool):=(z12_.f k Ae Al An Ao Aq a1).bind fun By=>(z10_.l0 k a1 a2 a3 By 0 Ae Al An Ao Aq)
theorem z10_.calls (k:Nat) (Aw:Option Addr) (Ax:Nat) (Ab:List (S63)) (Ag:Int) (Ah:ByteArray) (Ay:Option Addr) (Az:Nat) (Ac:List Int) (Ba:Option Addr) (Bb:Nat) (Ad:List (S33)) (a1:Int) (a2:Int) (a3:Int) (r:Bool) (w:World) (Bd:Kd.C k63 w Aw Ab.length Ab) (Be:Ab.length≤Ax) (Bf:Kd.C (Kd.int .i64) w Ay Ac.length Ac) (Bg:Ac.length≤Az) (Bh:Kd.C k33 w Ba Ad.length Ad) (Bi:Ad.length≤Bb) (h:z10_.f k Ab Ag Ah Ac Ad a1 a2 a3=some r) :
  Calls Try.prog 43 #[.agg #[.slice Aw Ab.length Ax,.int .i64 Ag,.string Ah,.slice Ay Ac.length Az,.slice Ba Ad.length Bb],.int .i64 a1,.int .i64 a2,.int .i64 a3] w fun e w'=>e=.returned (.bool r)∧Below w.heap.size w w':=by
 have Ds:=Try.underlying36
 have Bj:=y0.mk Bd
 have Ca:=y0.mk Be
 clear Bd Be
 have Cb:=y0.mk Bf
 have Cc:=y0.mk Bg
 clear Bf Bg
 have Cd:=y0.mk Bh
 have Ce:=y0.mk Bi
 clear Bh Bi
 have HB:=y0.mk (Below.refl w.heap.size w)
 have H:((z12_.f k Ab Ag Ah Ac Ad a1).bind fun Ai=>(z10_.l0 k a1 a2 a3 Ai 0 Ab Ag Ah Ac Ad))=some r:=h
 clear h
 obtain⟨Ai,A5,H⟩:=qB H
 have H':=y0.mk H
 clear H
 go_enter Try.func43,Try.ntmps43
 go_wp2_with (first|((with_reducible refine y16 (N:=4) rfl ?_);refine qe 4 #[.slice Aw Ab.length Ax,.int .i64 Ag,.string Ah,.slice Ay Ac.length Az,.slice Ba Ad.length Bb] 36 ?_;intro Cf hg w6 hbox hb;have Af:=y0.mk (hbox);have Dg:=y0.mk (qg (w:=w) hg);have Dh:=y0.mk (qg (w:=w) hg);replace HB:=y0.mk (y4 qb hb);clear hb hbox hg;obtain⟨Bl,Bm,Bn,Bo,Bp,Bq,Br,Bs,Bt,Bu⟩:=qz5 Af.out)|((with_reducible refine y15 (f:=49) rfl ?_);refine y17 (some 13) rfl rfl Try.func49 (by kernel_rfl) rfl #[.agg #[.slice Aw Ab.length Ax,.int .i64 Ag,.string Ah,.slice Ay Ac.length Az,.slice Ba Ad.length Bb],.int .i64 a1] rfl qy1 ?_;(with_reducible refine(z12_.calls k _ _ Ab Ag Ah _ _ Ac _ _ Ad a1 Ai _ (qc (Kd.C_below Bj.out HB.out)) Ca.out (qc (Kd.C_below Cb.out HB.out)) Cc.out (qc (Kd.C_below Cd.out HB.out)) Ce.out A5.out).mono ?_);rintro e w8 ⟨Cz,rfl,Di,hb⟩;refine⟨_,rfl, ?_⟩;have Cg:=y0.mk (Kd.R_lower Di (y3 qb));replace Af:=y0.mk (qK Af.out hb);replace HB:=y0.mk (y4 qb hb);(try clear hb);(try clear Di)))
 go_loopg [10] k (fun kq Dt w'=>∃(Aa:Int),Dt=.int .i64 Aa∧y0 (z10_.l0 kq a1 a2 a3 Ai Aa Ab Ag Ah Ac Ad=some r)∧y0 (kq≤k)∧y0 (Kd.R Kd.bool 4 w' w.heap.size (fun _=>True) Cz Ai)∧y0 (w'.heap[Cf]?=some (.cells #[(.slice Aw Ab.length Ax),.int .i64 Ag,.string Ah,(.slice Ay Ac.length Az),(.slice Ba Ad.length Bb)] 36 (0,0)))∧y0 (Below w.heap.size w w'))
 case atStart=>exact⟨(0),qy2,H',⟨Nat.le_refl _⟩,⟨qR Cg.out⟩,⟨qk Af.out⟩,⟨qb⟩⟩
 case round =>
  clear H'
  (try clear Bl Bm Bn Bo Bp Bq Br Bs Bt Bu)
  obtain⟨Aa,rfl,HA,Cj,Av,Af,HB⟩:=hrel
  cases gk with
  | zero=>exact absurd HA.out (by simp [z10_.l0])
  | succ k1 =>
   have H:=HA.out
   clear HA
   simp only [z10_.l0]at H
   by_cases c9:Aa≤a1
   ·rw [if_pos c9]at H
    have Da:=decide_eq_true c9
    clear c9
    obtain⟨Dj,H⟩:=qo H
    have Dk:=decide_eq_true Dj
    clear Dj
    obtain⟨Dl,H⟩:=qo H
    have Dm:decide (Aa < (Ai.length:Int))=true:=decide_eq_true Dl
    clear Dl
    obtain⟨Ch,Bc⟩:∃ b_:Bool,b_=(rdOf false Ai Aa):=⟨_,rfl⟩
    replace H:(if Ch=true then(if Aa < (Ab.length:Int)then((spec_l01Between.f ((y19 Ab Aa).f0) a2 a3).bind fun Bv=>(if Bv=true then(some true)else(z10_.l0 k1 a1 a2 a3 Ai (wrap64 (Aa + 1)) Ab Ag Ah Ac Ad)))else(none))else(z10_.l0 k1 a1 a2 a3 Ai (wrap64 (Aa + 1)) Ab Ag Ah Ac Ad))=some r:=by rw [← Bc]at H;exact H
    replace Bc:=y0.mk Bc
    by_cases Ck:Ch=true
    ·subst Ck
     replace H:=qT H
     obtain⟨Do,H⟩:=qo H
     have Dp:decide (Aa < (Ab.length:Int))=true:=decide_eq_true Do
     clear Do
     obtain⟨Bv,Dq,H⟩:=qB H
     obtain⟨Du,Dw,Db⟩:=Kd.R_slice Av.out
     subst Db
     have Ar:0≤(Aa:Int):=qd
     have As:Aa < (Ai.length:Int):=qd
     obtain⟨Ci,Bw,Aj⟩:=Kd.at_bool (Kd.R_reads' Av.out).2.2 Aa Ar As
     (try rw [← Bc.out]at Aj)
     cases Bw
     replace Ar:=eq_true Ar
     replace As:=eq_true As
     obtain⟨Cl,Cm,Cn,Cp,Cq,Cr,Cs,Ct,Cu,Cv⟩:=qz5 Af.out
     have Bx:0≤(Aa:Int):=qd
     have Bz:Aa < (Ab.length:Int):=qd
     obtain⟨Dr,Dc,Dd,De,Ak,Am,Ap,At,Au⟩:=at_T63 Bj.out Aa Bx Bz
     cases De
     replace Ak:=qC Ak HB
     replace Am:=qC Am HB
     replace Ap:=qC Ap HB
     have Cw:=y0.mk Au
     have Cx:=y0.mk At
     clear Au At
     replace Bx:=eq_true Bx
     replace Bz:=eq_true Bz
     by_cases Cy:Bv=true
     ·subst Cy
      replace H:=qT H
      obtain rfl:=Option.some.inj H
      go_wp2_with (first|(go_at_call 23;(with_reducible refine(spec_l01Between.calls ((y19 Ab Aa).f0) a2 a3 true _ Dq.out).mono ?_);rintro e w' ⟨rfl,⟨nd,rfl⟩⟩))
      go_ret
      exact⟨qf,qb⟩
     ·replace Cy:=Bool.eq_false_iff.mpr Cy
      subst Cy
      replace H:=qF H
      have H':=y0.mk H
      clear H
      go_wp2_with (first|(go_at_call 23;(with_reducible refine(spec_l01Between.calls ((y19 Ab Aa).f0) a2 a3 false _ Dq.out).mono ?_);rintro e w' ⟨rfl,⟨nd,rfl⟩⟩))
      go_roundg k1
      case measure=>have:=Cj.out;omega
      exact⟨(wrap64 (Aa + 1)),qy2,H',⟨by have:=Cj.out;omega⟩,⟨qR Av.out⟩,⟨qk Af.out⟩,⟨qb⟩⟩
    ·replace Ck:=Bool.eq_false_iff.mpr Ck
     subst Ck
     replace H:=qF H
     have H':=y0.mk H
     clear H
     obtain⟨Dx,Dy,Df⟩:=Kd.R_slice Av.out
     subst Df
     have Ar:0≤(Aa:Int):=qd
     have As:Aa < (Ai.length:Int):=qd
     obtain⟨Ci,Bw,Aj⟩:=Kd.at_bool (Kd.R_reads' Av.out).2.2 Aa Ar As
     (try rw [← Bc.out]at Aj)
     cases Bw
     replace Ar:=eq_true Ar
     replace As:=eq_true As
     go_wp2
     go_roundg k1
     case measure=>have:=Cj.out;omega
     exact⟨(wrap64 (Aa + 1)),qy2,H',⟨by have:=Cj.out;omega⟩,⟨qR Av.out⟩,⟨qk Af.out⟩,⟨qb⟩⟩
   ·rw [if_neg c9]at H
    have Da:=decide_eq_false c9
    clear c9
    obtain rfl:=Option.some.inj H
    go_wp2
    go_ret
    exact⟨qf,qb⟩
def spec_l06Calc.f (a0:Int):Option (Bool):=(spec_l01Between.f a0 5 7).bind fun Ae=>(some Ae)
theorem spec_l06Calc.calls (a0:Int) (r:Bool) (w:World) (h:spec_l06Calc.f a0=some r) :
  Calls Try.prog 72 #[.int .i64 a0] w fun e w'=>e=.returned (.bool r)∧Drawn0 w w':=by
 have H:((spec_l01Between.f a0 5 7).bind fun t288=>(some t288))=some r:=h
 clear h
 obtain⟨t288,A2,H⟩:=qB H
 obtain rfl:=Option.some.inj H
 go_enter Try.func72,Try.ntmps72
 go_wp2_with (first|((with_reducible refine y15 (f:=23) rfl ?_);refine y17 (some 4) rfl rfl Try.func23 (by kernel_rfl) rfl #[.int .i64 a0,.int .i64 5,.int .i64 7] rfl qy1 ?_;(with_reducible refine(spec_l01Between.calls a0 5 7 t288 _ A2.out).mono ?_);rintro e w' ⟨rfl,⟨nd,rfl⟩⟩;refine⟨_,rfl, ?_⟩))
 go_ret
 exact qf2
end Go.Proofs.Ytkdabljlfbmpdaa.Pw
end
