-- Cut by prune.py.
import Derived.Test.YtimhlficlhafbaaGreatDoorVvlPvx3
set_option maxHeartbeats 8000000
set_option maxRecDepth 100000
section
namespace Go.Proofs.YtimhlficlhafbaaGreatDoor.Pv
open RowKit YtimhlficlhafbaaGreatDoorW.PrintWords YtimhlficlhafbaaGreatDoorW.PrintLast YtimhlficlhafbaaGreatDoorW.PrintMore
set_option linter.unusedVariables false
set_option linter.unusedSimpArgs false
mutual
def spec_l04Lit.j0:Nat→List ByteArray→ByteArray→Int→ByteArray→List Int→Option (ByteArray×Bool)
 | 0,_,_,_,_,_=>none
 | k + 1,x1,x6,Ae,An,Ao=>spec_l04Lit.l0 k x1 x6 0 Ae An Ao
def spec_l04Lit.l0:Nat→List ByteArray→ByteArray→Int→Int→ByteArray→List Int→Option (ByteArray×Bool)
 | 0,_,_,_,_,_,_=>none
 | k + 1,x1,x6,x7,An,Ao,Ae=>if x7 < (Ae.length:Int)then(if x7 > 0 then(if x6.size + 2≤9223372036854775807 then(if 0≤x7 then(if 0≤(rd Ae x7)then(if(rd Ae x7) < (x1.length:Int)then(if(x6 ++ (⟨#[44,32]⟩:ByteArray)).size + (rdOf ByteArray.empty x1 (rd Ae x7)).size≤9223372036854775807 then(spec_l04Lit.l0 k x1 ((x6 ++ (⟨#[44,32]⟩:ByteArray)) ++ (rdOf ByteArray.empty x1 (rd Ae x7))) (wrap64 (x7 + 1)) An Ao Ae)else(none))else(none))else(none))else(none))else(none))else(if 0≤x7 then(if 0≤(rd Ae x7)then(if(rd Ae x7) < (x1.length:Int)then(if x6.size + (rdOf ByteArray.empty x1 (rd Ae x7)).size≤9223372036854775807 then(spec_l04Lit.l0 k x1 (x6 ++ (rdOf ByteArray.empty x1 (rd Ae x7))) (wrap64 (x7 + 1)) An Ao Ae)else(none))else(none))else(none))else(none)))else(if x6.size + 1≤9223372036854775807 then(if An=1 then(some (x6 ++ (⟨#[41]⟩:ByteArray),true))else(some (x6 ++ (⟨#[41]⟩:ByteArray),(An == 2))))else(none))
end
def spec_l04Lit.f (k:Nat) (Ao:Int) (An:ByteArray) (Ae:List Int) (l1:List ByteArray):Option (ByteArray×Bool):=if Ao=3 then(if(Ae.length:Int)=2 then(if 0 < (Ae.length:Int)then(if 0≤(rd Ae 0)then(if(rd Ae 0) < (l1.length:Int)then(if(rdOf ByteArray.empty l1 (rd Ae 0)).size + 1≤9223372036854775807 then(if((rdOf ByteArray.empty l1 (rd Ae 0)) ++ (⟨#[32]⟩:ByteArray)).size + An.size≤9223372036854775807 then(if(((rdOf ByteArray.empty l1 (rd Ae 0)) ++ (⟨#[32]⟩:ByteArray)) ++ An).size + 1≤9223372036854775807 then(if 1 < (Ae.length:Int)then(if 0≤(rd Ae 1)then(if(rd Ae 1) < (l1.length:Int)then(if((((rdOf ByteArray.empty l1 (rd Ae 0)) ++ (⟨#[32]⟩:ByteArray)) ++ An) ++ (⟨#[32]⟩:ByteArray)).size + (rdOf ByteArray.empty l1 (rd Ae 1)).size≤9223372036854775807 then(some (((((rdOf ByteArray.empty l1 (rd Ae 0)) ++ (⟨#[32]⟩:ByteArray)) ++ An) ++ (⟨#[32]⟩:ByteArray)) ++ (rdOf ByteArray.empty l1 (rd Ae 1)),true))else(none))else(none))else(none))else(none))else(none))else(none))else(none))else(none))else(none))else(none))else(some ((⟨#[]⟩:ByteArray),false)))else(if An.size + 1≤9223372036854775807 then(if Ao=2 then(if 1 + (An ++ (⟨#[40]⟩:ByteArray)).size≤9223372036854775807 then(spec_l04Lit.j0 k l1 ((⟨#[33]⟩:ByteArray) ++ (An ++ (⟨#[40]⟩:ByteArray))) Ao An Ae)else(none))else(spec_l04Lit.j0 k l1 (An ++ (⟨#[40]⟩:ByteArray)) Ao An Ae))else(none))
theorem spec_l04Lit.calls (k:Nat) (Af:Int) (Ag:ByteArray) (Al:Option Addr) (Am:Nat) (Aa:List Int) (A1:Option Addr) (c1:Nat) (l1:List ByteArray) (r1:ByteArray) (r2:Bool) (w:World) (Ck:Kd.C (Kd.int .i64) w Al Aa.length Aa) (Cl:Aa.length≤Am) (Fh:Kd.C Kd.string w A1 l1.length l1) (Fi:l1.length≤c1) (h:spec_l04Lit.f k Af Ag Aa l1=some (r1,r2)) :
  Calls Tryz.prog 30 #[.agg #[.int .i64 Af,.string Ag,.slice Al Aa.length Am],.slice A1 l1.length c1] w fun e w'=>e=.returned (.tuple #[.string r1,.bool r2])∧Below w.heap.size w w':=by
 have Hj:=Tryz.underlying35
 have Ap:=y0.mk Ck
 have Fj:=y0.mk Cl
 clear Ck Cl
 have Cm:=y0.mk Fh
 have Hu:=y0.mk Fi
 clear Fh Fi
 have HB:=y0.mk (Below.refl w.heap.size w)
 have H:(if Af=3 then(if(Aa.length:Int)=2 then(if 0 < (Aa.length:Int)then(if 0≤(rd Aa 0)then(if(rd Aa 0) < (l1.length:Int)then(if(rdOf ByteArray.empty l1 (rd Aa 0)).size + 1≤9223372036854775807 then(if((rdOf ByteArray.empty l1 (rd Aa 0)) ++ (⟨#[32]⟩:ByteArray)).size + Ag.size≤9223372036854775807 then(if(((rdOf ByteArray.empty l1 (rd Aa 0)) ++ (⟨#[32]⟩:ByteArray)) ++ Ag).size + 1≤9223372036854775807 then(if 1 < (Aa.length:Int)then(if 0≤(rd Aa 1)then(if(rd Aa 1) < (l1.length:Int)then(if((((rdOf ByteArray.empty l1 (rd Aa 0)) ++ (⟨#[32]⟩:ByteArray)) ++ Ag) ++ (⟨#[32]⟩:ByteArray)).size + (rdOf ByteArray.empty l1 (rd Aa 1)).size≤9223372036854775807 then(some (((((rdOf ByteArray.empty l1 (rd Aa 0)) ++ (⟨#[32]⟩:ByteArray)) ++ Ag) ++ (⟨#[32]⟩:ByteArray)) ++ (rdOf ByteArray.empty l1 (rd Aa 1)),true))else(none))else(none))else(none))else(none))else(none))else(none))else(none))else(none))else(none))else(none))else(some ((⟨#[]⟩:ByteArray),false)))else(if Ag.size + 1≤9223372036854775807 then(if Af=2 then(if 1 + (Ag ++ (⟨#[40]⟩:ByteArray)).size≤9223372036854775807 then(spec_l04Lit.j0 k l1 ((⟨#[33]⟩:ByteArray) ++ (Ag ++ (⟨#[40]⟩:ByteArray))) Af Ag Aa)else(none))else(spec_l04Lit.j0 k l1 (Ag ++ (⟨#[40]⟩:ByteArray)) Af Ag Aa))else(none)))=some (r1,r2):=h
 clear h
 by_cases c3:Af=3
 ·rw [if_pos c3]at H
  have Dc:(Af == 3)=true:=beq_iff_eq.mpr c3
  have Dd:(Af != 3)=false:=bne_eq_false_iff_eq.mpr c3
  clear c3
  by_cases c4:(Aa.length:Int)=2
  ·rw [if_pos c4]at H
   have Es:((Aa.length:Int) == 2)=true:=beq_iff_eq.mpr c4
   have Et:((Aa.length:Int) != 2)=false:=bne_eq_false_iff_eq.mpr c4
   clear c4
   obtain⟨c5,H⟩:=qo H
   have Hk:decide (0 < (Aa.length:Int))=true:=decide_eq_true c5
   have Hl:decide (0 < Aa.length)=true:=decide_eq_true (by omega)
   clear c5
   obtain⟨c6,H⟩:=qo H
   have Hm:decide (0≤(rd Aa 0))=true:=decide_eq_true c6
   clear c6
   obtain⟨c7,H⟩:=qo H
   have Hn:decide ((rd Aa 0) < (l1.length:Int))=true:=decide_eq_true c7
   clear c7
   obtain⟨c8,H⟩:=qo H
   have Ho:=eq_true c8
   have Hp:=decide_eq_true c8
   have Hq:=eq_false (Nat.not_lt.2 c8)
   obtain⟨c9,H⟩:=qo H
   have Hr:=eq_true c9
   have Hs:=decide_eq_true c9
   have Eu:=eq_false (Nat.not_lt.2 c9)
   have Ht:(9223372036854775807 < (rdOf ByteArray.empty l1 (rd Aa 0)).size + 1 + Ag.size)=False:=qs Eu
   obtain⟨Ew,H⟩:=qo H
   have Fk:=eq_true Ew
   have Fl:=decide_eq_true Ew
   have De:=eq_false (Nat.not_lt.2 Ew)
   have Fm:(9223372036854775807 < (rdOf ByteArray.empty l1 (rd Aa 0)).size + 1 + Ag.size + 1)=False:=qs De
   obtain⟨Fn,H⟩:=qo H
   have Fo:decide (1 < (Aa.length:Int))=true:=decide_eq_true Fn
   have Fp:decide (1 < Aa.length)=true:=decide_eq_true (by omega)
   clear Fn
   obtain⟨Fq,H⟩:=qo H
   have Fr:decide (0≤(rd Aa 1))=true:=decide_eq_true Fq
   clear Fq
   obtain⟨Fs,H⟩:=qo H
   have Ft:decide ((rd Aa 1) < (l1.length:Int))=true:=decide_eq_true Fs
   clear Fs
   obtain⟨Ex,H⟩:=qo H
   have Fu:=eq_true Ex
   have Fv:=decide_eq_true Ex
   have Df:=eq_false (Nat.not_lt.2 Ex)
   have Fx:(9223372036854775807 < (rdOf ByteArray.empty l1 (rd Aa 0)).size + 1 + Ag.size + 1 + (rdOf ByteArray.empty l1 (rd Aa 1)).size)=False:=qs Df
   simp only [Option.some.injEq,Prod.mk.injEq]at H
   obtain⟨rfl,rfl⟩:=H
   go_enter Tryz.func30,Tryz.ntmps30
   go_wp2_with (first|((with_reducible refine y19 (N:=2) rfl ?_);refine qe 2 #[.int .i64 Af,.string Ag,.slice Al Aa.length Am] 35 ?_;intro Ak hg Fy hbox hb;have Ad:=y0.mk (hbox);have Aq:=y0.mk (qg (w:=w) hg);have Ar:=y0.mk (qg (w:=w) hg);replace HB:=y0.mk (y5 qb hb);clear hb hbox hg;obtain⟨Bp,Bq,Br,Bs,Bt,Bu⟩:=qz3 Ad.out;have As:0≤(0:Int):=(by omega);have At:0 < (Aa.length:Int):=qd;obtain⟨Bk,Ce,Ab⟩:=Kd.at_int Ap.out 0 As At;cases Ce;have Cn:(0 < Aa.length)=True:=eq_true (by omega);(try rw [show((0:Int)).toNat=0 from rfl]at Ab);(try rw [Addr.add_zero']at Ab);replace Ab:=qC Ab HB;replace As:=eq_true As;replace At:=eq_true At;have Au:0≤((rd Aa 0):Int):=qd;have Av:(rd Aa 0) < (l1.length:Int):=qd;obtain⟨Bl,Cf,Ai⟩:=Kd.at_string Cm.out (rd Aa 0) Au Av;cases Cf;replace Ai:=qC Ai HB;replace Au:=eq_true Au;replace Av:=eq_true Av;have Aw:0≤(1:Int):=(by omega);have Ax:1 < (Aa.length:Int):=qd;obtain⟨Bm,Cg,Ac⟩:=Kd.at_int Ap.out 1 Aw Ax;obtain rfl:Bk=Bm:=(by injection Cg);(try simp only [show(1:Int).toNat=1 from rfl,Nat.reduceMul,Nat.reduceEqDiff,Go.Addr.add,↓reduceIte]at Ac);have Co:(1 < Aa.length)=True:=eq_true (by omega);(try rw [show((1:Int)).toNat=1 from rfl]at Ac);replace Ac:=qC Ac HB;replace Aw:=eq_true Aw;replace Ax:=eq_true Ax;have Ay:0≤((rd Aa 1):Int):=qd;have Az:(rd Aa 1) < (l1.length:Int):=qd;obtain⟨Bn,Ch,Aj⟩:=Kd.at_string Cm.out (rd Aa 1) Ay Az;obtain rfl:Bl=Bn:=(by injection Ch);replace Aj:=qC Aj HB;replace Ay:=eq_true Ay;replace Az:=eq_true Az))
   repeat(go_quiet (first|((with_reducible refine y19 (N:=2) rfl ?_);refine qe 2 #[.int .i64 Af,.string Ag,.slice Al Aa.length Am] 35 ?_;intro Ak hg Fy hbox hb;have Ad:=y0.mk (hbox);have Aq:=y0.mk (qg (w:=w) hg);have Ar:=y0.mk (qg (w:=w) hg);replace HB:=y0.mk (y5 qb hb);clear hb hbox hg;obtain⟨Bp,Bq,Br,Bs,Bt,Bu⟩:=qz3 Ad.out;have As:0≤(0:Int):=(by omega);have At:0 < (Aa.length:Int):=qd;obtain⟨Bk,Ce,Ab⟩:=Kd.at_int Ap.out 0 As At;cases Ce;have Cn:(0 < Aa.length)=True:=eq_true (by omega);(try rw [show((0:Int)).toNat=0 from rfl]at Ab);(try rw [Addr.add_zero']at Ab);replace Ab:=qC Ab HB;replace As:=eq_true As;replace At:=eq_true At;have Au:0≤((rd Aa 0):Int):=qd;have Av:(rd Aa 0) < (l1.length:Int):=qd;obtain⟨Bl,Cf,Ai⟩:=Kd.at_string Cm.out (rd Aa 0) Au Av;cases Cf;replace Ai:=qC Ai HB;replace Au:=eq_true Au;replace Av:=eq_true Av;have Aw:0≤(1:Int):=(by omega);have Ax:1 < (Aa.length:Int):=qd;obtain⟨Bm,Cg,Ac⟩:=Kd.at_int Ap.out 1 Aw Ax;obtain rfl:Bk=Bm:=(by injection Cg);(try simp only [show(1:Int).toNat=1 from rfl,Nat.reduceMul,Nat.reduceEqDiff,Go.Addr.add,↓reduceIte]at Ac);have Co:(1 < Aa.length)=True:=eq_true (by omega);(try rw [show((1:Int)).toNat=1 from rfl]at Ac);replace Ac:=qC Ac HB;replace Aw:=eq_true Aw;replace Ax:=eq_true Ax;have Ay:0≤((rd Aa 1):Int):=qd;have Az:(rd Aa 1) < (l1.length:Int):=qd;obtain⟨Bn,Ch,Aj⟩:=Kd.at_string Cm.out (rd Aa 1) Ay Az;obtain rfl:Bl=Bn:=(by injection Ch);replace Aj:=qC Aj HB;replace Ay:=eq_true Ay;replace Az:=eq_true Az));try go_wp2_with (first|((with_reducible refine y19 (N:=2) rfl ?_);refine qe 2 #[.int .i64 Af,.string Ag,.slice Al Aa.length Am] 35 ?_;intro Ak hg Fy hbox hb;have Ad:=y0.mk (hbox);have Aq:=y0.mk (qg (w:=w) hg);have Ar:=y0.mk (qg (w:=w) hg);replace HB:=y0.mk (y5 qb hb);clear hb hbox hg;obtain⟨Bp,Bq,Br,Bs,Bt,Bu⟩:=qz3 Ad.out;have As:0≤(0:Int):=(by omega);have At:0 < (Aa.length:Int):=qd;obtain⟨Bk,Ce,Ab⟩:=Kd.at_int Ap.out 0 As At;cases Ce;have Cn:(0 < Aa.length)=True:=eq_true (by omega);(try rw [show((0:Int)).toNat=0 from rfl]at Ab);(try rw [Addr.add_zero']at Ab);replace Ab:=qC Ab HB;replace As:=eq_true As;replace At:=eq_true At;have Au:0≤((rd Aa 0):Int):=qd;have Av:(rd Aa 0) < (l1.length:Int):=qd;obtain⟨Bl,Cf,Ai⟩:=Kd.at_string Cm.out (rd Aa 0) Au Av;cases Cf;replace Ai:=qC Ai HB;replace Au:=eq_true Au;replace Av:=eq_true Av;have Aw:0≤(1:Int):=(by omega);have Ax:1 < (Aa.length:Int):=qd;obtain⟨Bm,Cg,Ac⟩:=Kd.at_int Ap.out 1 Aw Ax;obtain rfl:Bk=Bm:=(by injection Cg);(try simp only [show(1:Int).toNat=1 from rfl,Nat.reduceMul,Nat.reduceEqDiff,Go.Addr.add,↓reduceIte]at Ac);have Co:(1 < Aa.length)=True:=eq_true (by omega);(try rw [show((1:Int)).toNat=1 from rfl]at Ac);replace Ac:=qC Ac HB;replace Aw:=eq_true Aw;replace Ax:=eq_true Ax;have Ay:0≤((rd Aa 1):Int):=qd;have Az:(rd Aa 1) < (l1.length:Int):=qd;obtain⟨Bn,Ch,Aj⟩:=Kd.at_string Cm.out (rd Aa 1) Ay Az;obtain rfl:Bl=Bn:=(by injection Ch);replace Aj:=qC Aj HB;replace Ay:=eq_true Ay;replace Az:=eq_true Az)))
   go_ret2
   exact⟨qf,qb⟩
  ·rw [if_neg c4]at H
   have Es:((Aa.length:Int) == 2)=false:=beq_eq_false_iff_ne.mpr c4
   have Et:((Aa.length:Int) != 2)=true:=bne_iff_ne.mpr c4
   simp only [Option.some.injEq,Prod.mk.injEq]at H
   obtain⟨rfl,rfl⟩:=H
   go_enter Tryz.func30,Tryz.ntmps30
   go_wp2_with (first|((with_reducible refine y19 (N:=2) rfl ?_);refine qe 2 #[.int .i64 Af,.string Ag,.slice Al Aa.length Am] 35 ?_;intro Ak hg Fz hbox hb;have Ad:=y0.mk (hbox);have Aq:=y0.mk (qg (w:=w) hg);have Ar:=y0.mk (qg (w:=w) hg);replace HB:=y0.mk (y5 qb hb);clear hb hbox hg;obtain⟨Bv,Bw,Bx,Bz,Ca,Cb⟩:=qz3 Ad.out))
   repeat(go_quiet (first|((with_reducible refine y19 (N:=2) rfl ?_);refine qe 2 #[.int .i64 Af,.string Ag,.slice Al Aa.length Am] 35 ?_;intro Ak hg Fz hbox hb;have Ad:=y0.mk (hbox);have Aq:=y0.mk (qg (w:=w) hg);have Ar:=y0.mk (qg (w:=w) hg);replace HB:=y0.mk (y5 qb hb);clear hb hbox hg;obtain⟨Bv,Bw,Bx,Bz,Ca,Cb⟩:=qz3 Ad.out));try go_wp2_with (first|((with_reducible refine y19 (N:=2) rfl ?_);refine qe 2 #[.int .i64 Af,.string Ag,.slice Al Aa.length Am] 35 ?_;intro Ak hg Fz hbox hb;have Ad:=y0.mk (hbox);have Aq:=y0.mk (qg (w:=w) hg);have Ar:=y0.mk (qg (w:=w) hg);replace HB:=y0.mk (y5 qb hb);clear hb hbox hg;obtain⟨Bv,Bw,Bx,Bz,Ca,Cb⟩:=qz3 Ad.out)))
   go_ret2
   exact⟨qf,qb⟩
 ·rw [if_neg c3]at H
  have Dc:(Af == 3)=false:=beq_eq_false_iff_ne.mpr c3
  have Dd:(Af != 3)=true:=bne_iff_ne.mpr c3
  obtain⟨Dr,H⟩:=qo H
  have Dg:=eq_true Dr
  have Dh:=decide_eq_true Dr
  have Di:=eq_false (Nat.not_lt.2 Dr)
  have Cp:=y0.mk H
  clear H
  go_enter Tryz.func30,Tryz.ntmps30
  go_upto_if 40 with(first|((with_reducible refine y19 (N:=2) rfl ?_);refine qe 2 #[.int .i64 Af,.string Ag,.slice Al Aa.length Am] 35 ?_;intro Ak hg Ga hbox hb;have Ad:=y0.mk (hbox);have Aq:=y0.mk (qg (w:=w) hg);have Ar:=y0.mk (qg (w:=w) hg);replace HB:=y0.mk (y5 qb hb);clear hb hbox hg;obtain⟨Ba,Bb,Bc,Bd,Be,Bf⟩:=qz3 Ad.out))
  repeat(go_quiet (first|((with_reducible refine y19 (N:=2) rfl ?_);refine qe 2 #[.int .i64 Af,.string Ag,.slice Al Aa.length Am] 35 ?_;intro Ak hg Ga hbox hb;have Ad:=y0.mk (hbox);have Aq:=y0.mk (qg (w:=w) hg);have Ar:=y0.mk (qg (w:=w) hg);replace HB:=y0.mk (y5 qb hb);clear hb hbox hg;obtain⟨Ba,Bb,Bc,Bd,Be,Bf⟩:=qz3 Ad.out));go_upto_if 40 with(first|((with_reducible refine y19 (N:=2) rfl ?_);refine qe 2 #[.int .i64 Af,.string Ag,.slice Al Aa.length Am] 35 ?_;intro Ak hg Ga hbox hb;have Ad:=y0.mk (hbox);have Aq:=y0.mk (qg (w:=w) hg);have Ar:=y0.mk (qg (w:=w) hg);replace HB:=y0.mk (y5 qb hb);clear hb hbox hg;obtain⟨Ba,Bb,Bc,Bd,Be,Bf⟩:=qz3 Ad.out)))
  (try simp only [Act.put,qS_,qZ_,qC_])
  go_cut [6] (fun v6 wc=>∃(kq:Nat) (Cc:ByteArray),v6=.string Cc∧y0 (spec_l04Lit.j0 kq l1 Cc Af Ag Aa=some (r1,r2))∧y0 (kq≤k)∧y0 (wc.heap[Ak]?=some (.cells #[.int .i64 Af,.string Ag,(.slice Al Aa.length Am)] 35 (0,0)))∧y0 (Below w.heap.size w wc))
  case first =>
   have H:=Cp.out
   clear Cp
   by_cases Cq:Af=2
   ·rw [if_pos Cq]at H
    have Bo:(Af == 2)=true:=beq_iff_eq.mpr Cq
    have Dj:(Af != 2)=false:=bne_eq_false_iff_eq.mpr Cq
    clear Cq
    (first|rw [Bo]|(simp only [i64_w,i32_w];rw [Bo])|skip)
    obtain⟨Ey,H⟩:=qo H
    have Gb:=eq_true Ey
    have Gc:=decide_eq_true Ey
    have Ci:=eq_false (Nat.not_lt.2 Ey)
    have Gd:(9223372036854775807 < 1 + Ag.size + 1)=False:=qs Ci
    have Ge:(9223372036854775807 < 1 + (Ag.size + 1))=False:=qs Ci
    have Gf:(9223372036854775807 < 1 + (Ag.size + 1))=False:=qs Ci
    have H':=y0.mk H
    clear H
    go_wp2
    repeat(go_quiet (fail);try go_wp2)
    go_meet
    exact⟨_,((⟨#[33]⟩:ByteArray) ++ (Ag ++ (⟨#[40]⟩:ByteArray))),qy2,H',⟨by first|omega|exact Nat.le_refl _⟩,⟨qk Ad.out⟩,⟨qb⟩⟩
   ·rw [if_neg Cq]at H
    have Bo:(Af == 2)=false:=beq_eq_false_iff_ne.mpr Cq
    have Dj:(Af != 2)=true:=bne_iff_ne.mpr Cq
    (first|rw [Bo]|(simp only [i64_w,i32_w];rw [Bo])|skip)
    have H':=y0.mk H
    clear H
    go_wp2
    repeat(go_quiet (fail);try go_wp2)
    go_meet
    exact⟨_,(Ag ++ (⟨#[40]⟩:ByteArray)),qy2,H',⟨by first|omega|exact Nat.le_refl _⟩,⟨qk Ad.out⟩,⟨qb⟩⟩
  case rest =>
   clear Cp
   (try clear Dc Dd Dr Dg Dh Di Ba Bb Bc Bd Be Bf)
   obtain⟨kq,Cc,rfl,HA,Cj,Ad,HB⟩:=hcut
   cases kq with
   | zero=>exact absurd HA.out (by simp [spec_l04Lit.j0])
   | succ Dk =>
    have H:=HA.out
    clear HA
    simp only [spec_l04Lit.j0]at H
    have H':=y0.mk H
    clear H
    go_wp2
    repeat(go_quiet (fail);try go_wp2)
    go_loopg [6,7] Dk (fun kq v6 v7 w'=>∃(Cd:ByteArray) (Ah:Int),v6=.string Cd∧v7=.int .i64 Ah∧y0 (spec_l04Lit.l0 kq l1 Cd Ah Af Ag Aa=some (r1,r2))∧y0 (kq≤Dk)∧y0 (w'.heap[Ak]?=some (.cells #[.int .i64 Af,.string Ag,(.slice Al Aa.length Am)] 35 (0,0)))∧y0 (Below w.heap.size w w'))
    case atStart=>exact⟨(Cc),(0),qy2,qy2,H',⟨Nat.le_refl _⟩,⟨qk Ad.out⟩,⟨qb⟩⟩
    case round =>
     clear H'
     obtain⟨Cd,Ah,rfl,rfl,HA,Ds,Ad,HB⟩:=hrel
     cases gk with
     | zero=>exact absurd HA.out (by simp [spec_l04Lit.l0])
     | succ k2 =>
      have H:=HA.out
      clear HA
      simp only [spec_l04Lit.l0]at H
      by_cases Da:Ah < (Aa.length:Int)
      ·rw [if_pos Da]at H
       have Dl:=decide_eq_true Da
       clear Da
       by_cases Db:Ah > 0
       ·rw [if_pos Db]at H
        have Dm:decide (0 < Ah)=true:=decide_eq_true Db
        clear Db
        obtain⟨Ez,H⟩:=qo H
        have Gg:=eq_true Ez
        have Gh:=decide_eq_true Ez
        have Gi:=eq_false (Nat.not_lt.2 Ez)
        obtain⟨Gj,H⟩:=qo H
        have Gk:decide (0≤Ah)=true:=decide_eq_true Gj
        clear Gj
        obtain⟨Gl,H⟩:=qo H
        have Gm:decide (0≤(rd Aa Ah))=true:=decide_eq_true Gl
        clear Gl
        obtain⟨Gn,H⟩:=qo H
        have Gp:decide ((rd Aa Ah) < (l1.length:Int))=true:=decide_eq_true Gn
        clear Gn
        obtain⟨Fa,H⟩:=qo H
        have Gq:=eq_true Fa
        have Gr:=decide_eq_true Fa
        have Do:=eq_false (Nat.not_lt.2 Fa)
        have Gs:(9223372036854775807 < Cd.size + 2 + (rdOf ByteArray.empty l1 (rd Aa Ah)).size)=False:=qs Do
        have H':=y0.mk H
        clear H
        obtain⟨Dt,Du,Dv,Dw,Dx,Dy⟩:=qz3 Ad.out
        have Cr:0≤(Ah:Int):=qd
        have Cs:Ah < (Aa.length:Int):=qd
        obtain⟨Gt,Fb,Bg⟩:=Kd.at_int Ap.out Ah Cr Cs
        cases Fb
        replace Bg:=qC Bg HB
        replace Cr:=eq_true Cr
        replace Cs:=eq_true Cs
        have Ct:0≤((rd Aa Ah):Int):=qd
        have Cu:(rd Aa Ah) < (l1.length:Int):=qd
        obtain⟨Gu,Fc,Bh⟩:=Kd.at_string Cm.out (rd Aa Ah) Ct Cu
        cases Fc
        replace Bh:=qC Bh HB
        replace Ct:=eq_true Ct
        replace Cu:=eq_true Cu
        go_wp2
        repeat(go_quiet (fail);try go_wp2)
        go_roundg k2
        case measure=>have:=Cj.out;have:=Ds.out;omega
        exact⟨((Cd ++ (⟨#[44,32]⟩:ByteArray)) ++ (rdOf ByteArray.empty l1 (rd Aa Ah))),(wrap64 (Ah + 1)),qy2,qy2,H',⟨by have:=Cj.out;have:=Ds.out;omega⟩,⟨qk Ad.out⟩,⟨qb⟩⟩
       ·rw [if_neg Db]at H
        have Dm:decide (0 < Ah)=false:=decide_eq_false Db
        clear Db
        obtain⟨Gv,H⟩:=qo H
        have Gw:decide (0≤Ah)=true:=decide_eq_true Gv
        clear Gv
        obtain⟨Gx,H⟩:=qo H
        have Gy:decide (0≤(rd Aa Ah))=true:=decide_eq_true Gx
        clear Gx
        obtain⟨Gz,H⟩:=qo H
        have Ha:decide ((rd Aa Ah) < (l1.length:Int))=true:=decide_eq_true Gz
        clear Gz
        obtain⟨Fd,H⟩:=qo H
        have Hb:=eq_true Fd
        have Hc:=decide_eq_true Fd
        have Hd:=eq_false (Nat.not_lt.2 Fd)
        have H':=y0.mk H
        clear H
        obtain⟨Dz,Ea,Eb,Ec,Ed,Ee⟩:=qz3 Ad.out
        have Cv:0≤(Ah:Int):=qd
        have Cw:Ah < (Aa.length:Int):=qd
        obtain⟨He,Fe,Bi⟩:=Kd.at_int Ap.out Ah Cv Cw
        cases Fe
        replace Bi:=qC Bi HB
        replace Cv:=eq_true Cv
        replace Cw:=eq_true Cw
        have Cx:0≤((rd Aa Ah):Int):=qd
        have Cy:(rd Aa Ah) < (l1.length:Int):=qd
        obtain⟨Hf,Ff,Bj⟩:=Kd.at_string Cm.out (rd Aa Ah) Cx Cy
        cases Ff
        replace Bj:=qC Bj HB
        replace Cx:=eq_true Cx
        replace Cy:=eq_true Cy
        go_wp2
        repeat(go_quiet (fail);try go_wp2)
        go_roundg k2
        case measure=>have:=Cj.out;have:=Ds.out;omega
        exact⟨(Cd ++ (rdOf ByteArray.empty l1 (rd Aa Ah))),(wrap64 (Ah + 1)),qy2,qy2,H',⟨by have:=Cj.out;have:=Ds.out;omega⟩,⟨qk Ad.out⟩,⟨qb⟩⟩
      ·rw [if_neg Da]at H
       have Dl:=decide_eq_false Da
       clear Da
       obtain⟨Fg,H⟩:=qo H
       have Hg:=eq_true Fg
       have Hh:=decide_eq_true Fg
       have Hi:=eq_false (Nat.not_lt.2 Fg)
       by_cases Cz:Af=1
       ·rw [if_pos Cz]at H
        have Dp:(Af == 1)=true:=beq_iff_eq.mpr Cz
        have Dq:(Af != 1)=false:=bne_eq_false_iff_eq.mpr Cz
        clear Cz
        simp only [Option.some.injEq,Prod.mk.injEq]at H
        obtain⟨rfl,rfl⟩:=H
        obtain⟨Ef,Eg,Eh,Ei,Ej,Ek⟩:=qz3 Ad.out
        go_wp2
        repeat(go_quiet (fail);try go_wp2)
        go_ret2
        exact⟨qf,qb⟩
       ·rw [if_neg Cz]at H
        have Dp:(Af == 1)=false:=beq_eq_false_iff_ne.mpr Cz
        have Dq:(Af != 1)=true:=bne_iff_ne.mpr Cz
        simp only [Option.some.injEq,Prod.mk.injEq]at H
        obtain⟨rfl,rfl⟩:=H
        obtain⟨El,Em,En,Eo,Ep,Er⟩:=qz3 Ad.out
        go_wp2
        repeat(go_quiet (fail);try go_wp2)
        go_ret2
        exact⟨qf,qb⟩
mutual
def z5_.j0:Nat→List ByteArray→ByteArray→Bool→List (S67)→Int→ByteArray→List Int→List (S35)→Option (ByteArray)
 | 0,_,_,_,_,_,_,_,_=>none
 | k + 1,x3,x5,Ae,An,Ao,By,Dd,De=>if Ae=true then(some (⟨#[]⟩:ByteArray))else(z5_.l0 k x3 x5 0 An Ao By Dd De)
def z5_.l0:Nat→List ByteArray→ByteArray→Int→List (S67)→Int→ByteArray→List Int→List (S35)→Option (ByteArray)
 | 0,_,_,_,_,_,_,_,_=>none
 | k + 1,x3,x5,x6,An,Ao,By,Dd,Ae=>if x6 < (Ae.length:Int)then(z5_.j2 k x3 x5 x6 (decide ((x5.size:Int)≤3000)) An Ao By Dd Ae)else(z5_.j2 k x3 x5 x6 false An Ao By Dd Ae)
def z5_.j2:Nat→List ByteArray→ByteArray→Int→Bool→List (S67)→Int→ByteArray→List Int→List (S35)→Option (ByteArray)
 | 0,_,_,_,_,_,_,_,_,_=>none
 | k + 1,x3,x5,x6,De,An,Ao,By,Dd,Ae=>if De=true then(if x6=0 then(if x5.size + 4≤9223372036854775807 then(if 0≤x6 then(if x6 < (Ae.length:Int)then((spec_l04Lit.f k ((y22 Ae x6).f0) ((y22 Ae x6).f1) ((y22 Ae x6).f2) x3).bind fun bt181=>(if bt181.2=true then(if(x5 ++ (⟨#[32,58,45,32]⟩:ByteArray)).size + bt181.1.size≤9223372036854775807 then(z5_.l0 k x3 ((x5 ++ (⟨#[32,58,45,32]⟩:ByteArray)) ++ bt181.1) (wrap64 (x6 + 1)) An Ao By Dd Ae)else(none))else(some (⟨#[]⟩:ByteArray))))else(none))else(none))else(none))else(if x5.size + 2≤9223372036854775807 then(if 0≤x6 then(if x6 < (Ae.length:Int)then((spec_l04Lit.f k ((y22 Ae x6).f0) ((y22 Ae x6).f1) ((y22 Ae x6).f2) x3).bind fun bt184=>(if bt184.2=true then(if(x5 ++ (⟨#[44,32]⟩:ByteArray)).size + bt184.1.size≤9223372036854775807 then(z5_.l0 k x3 ((x5 ++ (⟨#[44,32]⟩:ByteArray)) ++ bt184.1) (wrap64 (x6 + 1)) An Ao By Dd Ae)else(none))else(some (⟨#[]⟩:ByteArray))))else(none))else(none))else(none)))else(if x5.size + 1≤9223372036854775807 then(if((x5 ++ (⟨#[46]⟩:ByteArray)).size:Int) > 3000 then(some (⟨#[]⟩:ByteArray))else(some (x5 ++ (⟨#[46]⟩:ByteArray))))else(none))
end
def z5_.f (k:Nat) (Dd:List (S67)) (Ae:Int) (An:ByteArray) (Ao:List Int) (By:List (S35)):Option (ByteArray):=if(By.length:Int) > 3000 then(some (⟨#[]⟩:ByteArray))else((z10_.f k Dd Ae An Ao By).bind fun bt174=>(if bt174.2=true then((spec_l04Lit.f k Ae An Ao bt174.1).bind fun bt178=>(if bt178.2=true then(z5_.j0 k bt174.1 bt178.1 (Ae != 1) Dd Ae An Ao By)else(z5_.j0 k bt174.1 bt178.1 true Dd Ae An Ao By)))else(some (⟨#[]⟩:ByteArray))))
theorem z5_.calls (k:Nat) (Ba:Option Addr) (Bb:Nat) (Ag:List (S67)) (Ad:Int) (Ah:ByteArray) (Ay:Option Addr) (Az:Nat) (Af:List Int) (Bc:Option Addr) (Bd:Nat) (Aa:List (S35)) (r:ByteArray) (w:World) (Db:Kd.C k67 w Ba Ag.length Ag) (Dc:Ag.length≤Bb) (Dd:Kd.C (Kd.int .i64) w Ay Af.length Af) (De:Af.length≤Az) (Df:Kd.C k35 w Bc Aa.length Aa) (Dg:Aa.length≤Bd) (h:z5_.f k Ag Ad Ah Af Aa=some r) :
  Calls Tryz.prog 15 #[.agg #[.slice Ba Ag.length Bb,.int .i64 Ad,.string Ah,.slice Ay Af.length Az,.slice Bc Aa.length Bd]] w fun e w'=>e=.returned (.string r)∧Below w.heap.size w w':=by
 have Jq:=Tryz.underlying38
 have Jr:=Tryz.underlying35
 have Dh:=y0.mk Db
 have Di:=y0.mk Dc
 clear Db Dc
 have Ca:=y0.mk Dd
 have Cb:=y0.mk De
 clear Dd De
 have Be:=y0.mk Df
 have Dj:=y0.mk Dg
 clear Df Dg
 have HB:=y0.mk (Below.refl w.heap.size w)
 have H:(if(Aa.length:Int) > 3000 then(some (⟨#[]⟩:ByteArray))else((z10_.f k Ag Ad Ah Af Aa).bind fun Bw=>(if Bw.2=true then((spec_l04Lit.f k Ad Ah Af Bw.1).bind fun Cc=>(if Cc.2=true then(z5_.j0 k Bw.1 Cc.1 (Ad != 1) Ag Ad Ah Af Aa)else(z5_.j0 k Bw.1 Cc.1 true Ag Ad Ah Af Aa)))else(some (⟨#[]⟩:ByteArray)))))=some r:=h
 clear h
 by_cases c2:(Aa.length:Int) > 3000
 ·rw [if_pos c2]at H
  have Dw:decide (3000 < (Aa.length:Int))=true:=decide_eq_true c2
  have Dx:decide (3000 < Aa.length)=true:=decide_eq_true (by omega)
  clear c2
  obtain rfl:=Option.some.inj H
  go_enter Tryz.func15,Tryz.ntmps15
  go_wp2_with (first|((with_reducible refine y19 (N:=1) rfl ?_);(try(refine y20 (by rfl) ?_;dsimp only));refine qe 1 #[.slice Ba Ag.length Bb,.int .i64 Ad,.string Ah,.slice Ay Af.length Az,.slice Bc Aa.length Bd] 38 ?_;intro Bk hg w3 hbox hb;have Ab:=y0.mk (hbox);have Dk:=y0.mk (qg (w:=w) hg);have Dl:=y0.mk (qg (w:=w) hg);replace HB:=y0.mk (y5 qb hb);clear hb hbox hg;obtain⟨Ht,Hu,Hv,Hw,Hx,Hy,Hz,Ia,Ib,Ic⟩:=qz5 Ab.out))
  go_ret
  exact⟨qf,qb⟩
 ·rw [if_neg c2]at H
  have Dw:decide (3000 < (Aa.length:Int))=false:=decide_eq_false c2
  have Dx:decide (3000 < Aa.length)=false:=decide_eq_false (by omega)
  clear c2
  obtain⟨⟨Ai,Id⟩,A5,H⟩:=qB H
  dsimp only at H
  by_cases c6:Id=true
  ·subst c6
   replace H:=qT H
   obtain⟨⟨Cd,Do⟩,A7,H⟩:=qB H
   replace H:(if Do=true then(z5_.j0 k Ai Cd (Ad != 1) Ag Ad Ah Af Aa)else(z5_.j0 k Ai Cd true Ag Ad Ah Af Aa))=some r:=H
   have Ie:=y0.mk H
   clear H
   go_enter Tryz.func15,Tryz.ntmps15
   go_upto_region 7 with(first|((with_reducible refine y19 (N:=1) rfl ?_);(try(refine y20 (by rfl) ?_;dsimp only));refine qe 1 #[.slice Ba Ag.length Bb,.int .i64 Ad,.string Ah,.slice Ay Af.length Az,.slice Bc Aa.length Bd] 38 ?_;intro Bk hg w9 hbox hb;have Ab:=y0.mk (hbox);have Dk:=y0.mk (qg (w:=w) hg);have Dl:=y0.mk (qg (w:=w) hg);replace HB:=y0.mk (y5 qb hb);clear hb hbox hg;obtain⟨Ce,Cf,Cg,Ch,Ci,Cj,Ck,Cl,Cm,Cn⟩:=qz5 Ab.out)|((with_reducible refine y18 (f:=29) rfl ?_);refine y21 (some 15) rfl rfl Tryz.func29 (by kernel_rfl) rfl #[.agg #[.slice Ba Ag.length Bb,.int .i64 Ad,.string Ah,.slice Ay Af.length Az,.slice Bc Aa.length Bd]] rfl qy1 ?_;(with_reducible refine(z10_.calls k _ _ Ag Ad Ah (fun k_=>k_ < w.heap.size) _ _ Af (fun k_=>k_ < w.heap.size) _ _ Aa Ai true _ (qc (Kd.C_below Dh.out HB.out)) Di.out (by exact Kd.V_mk Cb.out (Kd.F_below (Kd.C_F (Kd.heap_int .i64) Ca.out) qb)) (by exact Kd.V_mk Dj.out (Kd.F_below (Kd.C_F k35_heap Be.out) qb)) A5.out).mono ?_);rintro e Ju ⟨If,rfl,Dy,hb⟩;refine⟨_,rfl, ?_⟩;have Ax:=y0.mk (Kd.R_lower (Kd.R_mono (ok':=fun k_=>True) Dy (fun _ hk_=>trivial)) (y4 qb));replace Ab:=y0.mk (qK Ab.out hb);replace HB:=y0.mk (y5 qb hb);(try clear hb);(try clear Dy);obtain⟨Co,Cp,Cq,Cr,Cs,Ct,Cu,Cv,Cw,Cx⟩:=qz5 Ab.out;obtain⟨Bl,Bm,Ig⟩:=Kd.R_slice Ax.out;subst Ig)|((with_reducible refine y18 (f:=30) rfl ?_);refine y21 (some 24) rfl rfl Tryz.func30 (by kernel_rfl) rfl #[.agg #[.int .i64 Ad,.string Ah,.slice Ay Af.length Az],.slice Bl Ai.length Bm] rfl qy1 ?_;(with_reducible refine(spec_l04Lit.calls k Ad Ah _ _ Af _ _ Ai Cd Do _ (qc (Kd.C_below Ca.out HB.out)) Cb.out (qc ((Kd.R_reads' Ax.out).2.2)) (by exact(Kd.R_reads' Ax.out).2.1) A7.out).mono ?_);rintro e Jv ⟨rfl,hb⟩;refine⟨_,rfl, ?_⟩;replace Ax:=y0.mk (Kd.R_below (qR Ax.out) hb);replace Ab:=y0.mk (qK Ab.out hb);replace HB:=y0.mk (y5 qb hb);(try clear hb)))
   (try simp only [Act.put,qS_,qZ_,qC_])
   go_cut [34] (fun Js wc=>∃(kq:Nat) (Bx:Bool),Js=.bool Bx∧y0 (z5_.j0 kq Ai Cd Bx Ag Ad Ah Af Aa=some r)∧y0 (kq≤k)∧y0 (Kd.R Kd.string 9 wc w.heap.size (fun _=>True) (.slice Bl Ai.length Bm) Ai)∧y0 (wc.heap[Bk]?=some (.cells #[(.slice Ba Ag.length Bb),.int .i64 Ad,.string Ah,(.slice Ay Af.length Az),(.slice Bc Aa.length Bd)] 38 (0,0)))∧y0 (Below w.heap.size w wc))
   case first =>
    have H:=Ie.out
    clear Ie
    by_cases Ej:Do=true
    ·subst Ej
     replace H:=qT H
     have H':=y0.mk H
     clear H
     obtain⟨Ek,El,Em,En,Eo,Ep,Er,Es,Et,Eu⟩:=qz5 Ab.out
     go_wp2
     go_meet
     exact⟨_,((Ad != 1)),qy2,H',⟨by first|omega|exact Nat.le_refl _⟩,⟨qR Ax.out⟩,⟨qk Ab.out⟩,⟨qb⟩⟩
    ·replace Ej:=Bool.eq_false_iff.mpr Ej
     subst Ej
     replace H:=qF H
     have H':=y0.mk H
     clear H
     go_wp2
     go_meet
     exact⟨_,(true),qy2,H',⟨by first|omega|exact Nat.le_refl _⟩,⟨qR Ax.out⟩,⟨qk Ab.out⟩,⟨qb⟩⟩
   case rest =>
    clear Ie
    (try clear Dw Dx c6 Ce Cf Cg Ch Ci Co Cp Cq Cr Cs Cj Ck Cl Cm Cn Ct Cu Cv Cw Cx)
    obtain⟨kq,Bx,rfl,HA,Dt,Aj,Ab,HB⟩:=hcut
    cases kq with
    | zero=>exact absurd HA.out (by simp [z5_.j0])
    | succ Ip =>
     have H:=HA.out
     clear HA
     simp only [z5_.j0]at H
     by_cases Dz:Bx=true
     ·subst Dz
      replace H:=qT H
      obtain rfl:=Option.some.inj H
      go_wp2
      go_ret
      exact⟨qf,qb⟩
     ·replace Dz:=Bool.eq_false_iff.mpr Dz
      subst Dz
      replace H:=qF H
      have H':=y0.mk H
      clear H
      go_wp2
      go_loopg [5,6] Ip (fun kq v5 v6 w'=>∃(Ak:ByteArray) (Ac:Int),v5=.string Ak∧v6=.int .i64 Ac∧y0 (z5_.l0 kq Ai Ak Ac Ag Ad Ah Af Aa=some r)∧y0 (kq≤Ip)∧y0 (Kd.R Kd.string 9 w' w.heap.size (fun _=>True) (.slice Bl Ai.length Bm) Ai)∧y0 (w'.heap[Bk]?=some (.cells #[(.slice Ba Ag.length Bb),.int .i64 Ad,.string Ah,(.slice Ay Af.length Az),(.slice Bc Aa.length Bd)] 38 (0,0)))∧y0 (Below w.heap.size w w'))
      case atStart=>exact⟨(Cd),(0),qy2,qy2,H',⟨Nat.le_refl _⟩,⟨qR Aj.out⟩,⟨qk Ab.out⟩,⟨qb⟩⟩
      case round =>
       clear H'
       (try clear Dz)
       obtain⟨Ak,Ac,rfl,rfl,HA,Du,Aj,Ab,HB⟩:=hrel
       cases gk with
       | zero=>exact absurd HA.out (by simp [z5_.l0])
       | succ k2 =>
        have H:=HA.out
        clear HA
        simp only [z5_.l0]at H
        have Dp:=y0.mk H
        clear H
        go_upto_region 10 with(fail)
        go_cut [44] (fun Jt wc=>∃(kq:Nat) (Bf:Bool),Jt=.bool Bf∧y0 (z5_.j2 kq Ai Ak Ac Bf Ag Ad Ah Af Aa=some r)∧y0 (kq≤k2)∧y0 (Kd.R Kd.string 9 wc w.heap.size (fun _=>True) (.slice Bl Ai.length Bm) Ai)∧y0 (wc.heap[Bk]?=some (.cells #[(.slice Ba Ag.length Bb),.int .i64 Ad,.string Ah,(.slice Ay Af.length Az),(.slice Bc Aa.length Bd)] 38 (0,0)))∧y0 (Below w.heap.size w wc))
        case first =>
         have H:=Dp.out
         clear Dp
         by_cases Dv:Ac < (Aa.length:Int)
         ·rw [if_pos Dv]at H
          have Bn:=decide_eq_true Dv
          clear Dv
          (first|rw [Bn]|(simp only [i64_w,i32_w];rw [Bn])|skip)
          have H':=y0.mk H
          clear H
          obtain⟨Ew,Ex,Ey,Ez,Fa,Fb,Fc,Fd,Fe,Ff⟩:=qz5 Ab.out
          go_wp2
          go_meet
          exact⟨_,(decide ((Ak.size:Int)≤3000)),qy2,H',⟨by have:=Dt.out;have:=Du.out;first|omega|exact Nat.le_refl _⟩,⟨qR Aj.out⟩,⟨qk Ab.out⟩,⟨qb⟩⟩
         ·rw [if_neg Dv]at H
          have Bn:=decide_eq_false Dv
          clear Dv
          (first|rw [Bn]|(simp only [i64_w,i32_w];rw [Bn])|skip)
          have H':=y0.mk H
          clear H
          obtain⟨Fg,Fh,Fi,Fj,Fk,Fl,Fm,Fn,Fo,Fp⟩:=qz5 Ab.out
          go_wp2
          go_meet
          exact⟨_,(false),qy2,H',⟨by have:=Dt.out;have:=Du.out;first|omega|exact Nat.le_refl _⟩,⟨qR Aj.out⟩,⟨qk Ab.out⟩,⟨qb⟩⟩
        case rest =>
         clear Dp
         obtain⟨kq,Bf,rfl,HA,Cy,Aj,Ab,HB⟩:=hcut
         cases kq with
         | zero=>exact absurd HA.out (by simp [z5_.j2])
         | succ Bz =>
          have H:=HA.out
          clear HA
          simp only [z5_.j2]at H
          by_cases Fq:Bf=true
          ·subst Fq
           replace H:=qT H
           by_cases Dq:Ac=0
           ·rw [if_pos Dq]at H
            have Ea:(Ac == 0)=true:=beq_iff_eq.mpr Dq
            have Eb:(Ac != 0)=false:=bne_eq_false_iff_eq.mpr Dq
            clear Dq
            obtain⟨Ih,H⟩:=qo H
            have Iq:=eq_true Ih
            have Ir:=decide_eq_true Ih
            have Is:=eq_false (Nat.not_lt.2 Ih)
            obtain⟨Iu,H⟩:=qo H
            have Iv:decide (0≤Ac)=true:=decide_eq_true Iu
            clear Iu
            obtain⟨Iw,H⟩:=qo H
            have Ix:decide (Ac < (Aa.length:Int))=true:=decide_eq_true Iw
            clear Iw
            obtain⟨⟨Cz,Ii⟩,Iy,H⟩:=qB H
            dsimp only at H
            by_cases Fr:Ii=true
            ·subst Fr
             replace H:=qT H
             obtain⟨Ij,H⟩:=qo H
             have Iz:=eq_true Ij
             have Ja:=decide_eq_true Ij
             have Ec:=eq_false (Nat.not_lt.2 Ij)
             have Jb:(9223372036854775807 < Ak.size + 4 + Cz.size)=False:=qs Ec
             have H':=y0.mk H
             clear H
             obtain⟨Fs,Ft,Fu,Fv,Fx,Fy,Fz,Ga,Gb,Gc⟩:=qz5 Ab.out
             have Bo:0≤(Ac:Int):=qd
             have Bp:Ac < (Aa.length:Int):=qd
             obtain⟨Ed,Bq,Br,Dr,Al,Am,Ap,At,Au⟩:=at_T35 Be.out Ac Bo Bp
             cases Dr
             replace Al:=qC Al HB
             replace Am:=qC Am HB
             replace Ap:=qC Ap HB
             have Bg:=y0.mk Au
             have Bh:=y0.mk At
             clear Au At
             replace Bo:=eq_true Bo
             replace Bp:=eq_true Bp
             go_wp2_with (first|((with_reducible refine y18 (f:=30) rfl ?_);refine y21 (some 60) rfl rfl Tryz.func30 (by kernel_rfl) rfl #[.agg #[.int .i64 ((y22 Aa Ac).f0),.string ((y22 Aa Ac).f1),.slice Bq ((y22 Aa Ac).f2).length Br],.slice Bl Ai.length Bm] rfl qy1 ?_;(with_reducible refine(spec_l04Lit.calls Bz ((y22 Aa Ac).f0) ((y22 Aa Ac).f1) _ _ ((y22 Aa Ac).f2) _ _ Ai Cz true _ (qc (Kd.C_below Bg.out HB.out)) Bh.out (qc ((Kd.R_reads' Aj.out).2.2)) (by exact(Kd.R_reads' Aj.out).2.1) Iy.out).mono ?_);rintro e Jw ⟨rfl,hb⟩;refine⟨_,rfl, ?_⟩;replace Aj:=y0.mk (Kd.R_below (qR Aj.out) hb);replace Ab:=y0.mk (qK Ab.out hb);replace HB:=y0.mk (y5 qb hb);(try clear hb)))
             go_roundg Bz
             case measure=>have:=Dt.out;have:=Du.out;have:=Cy.out;omega
             exact⟨((Ak ++ (⟨#[32,58,45,32]⟩:ByteArray)) ++ Cz),(wrap64 (Ac + 1)),qy2,qy2,H',⟨by have:=Dt.out;have:=Du.out;have:=Cy.out;omega⟩,⟨qR Aj.out⟩,⟨qk Ab.out⟩,⟨qb⟩⟩
            ·replace Fr:=Bool.eq_false_iff.mpr Fr
             subst Fr
             replace H:=qF H
             obtain rfl:=Option.some.inj H
             obtain⟨Gd,Ge,Gf,Gg,Gh,Gi,Gj,Gk,Gl,Gm⟩:=qz5 Ab.out
             have Bo:0≤(Ac:Int):=qd
             have Bp:Ac < (Aa.length:Int):=qd
             obtain⟨Ed,Bq,Br,Dr,Al,Am,Ap,At,Au⟩:=at_T35 Be.out Ac Bo Bp
             cases Dr
             replace Al:=qC Al HB
             replace Am:=qC Am HB
             replace Ap:=qC Ap HB
             have Bg:=y0.mk Au
             have Bh:=y0.mk At
             clear Au At
             replace Bo:=eq_true Bo
             replace Bp:=eq_true Bp
             go_wp2_with (first|((with_reducible refine y18 (f:=30) rfl ?_);refine y21 (some 60) rfl rfl Tryz.func30 (by kernel_rfl) rfl #[.agg #[.int .i64 ((y22 Aa Ac).f0),.string ((y22 Aa Ac).f1),.slice Bq ((y22 Aa Ac).f2).length Br],.slice Bl Ai.length Bm] rfl qy1 ?_;(with_reducible refine(spec_l04Lit.calls Bz ((y22 Aa Ac).f0) ((y22 Aa Ac).f1) _ _ ((y22 Aa Ac).f2) _ _ Ai Cz false _ (qc (Kd.C_below Bg.out HB.out)) Bh.out (qc ((Kd.R_reads' Aj.out).2.2)) (by exact(Kd.R_reads' Aj.out).2.1) Iy.out).mono ?_);rintro e Jx ⟨rfl,hb⟩;refine⟨_,rfl, ?_⟩;replace Aj:=y0.mk (Kd.R_below (qR Aj.out) hb);replace Ab:=y0.mk (qK Ab.out hb);replace HB:=y0.mk (y5 qb hb);(try clear hb)))
             go_ret
             exact⟨qf,qb⟩
           ·rw [if_neg Dq]at H
            have Ea:(Ac == 0)=false:=beq_eq_false_iff_ne.mpr Dq
            have Eb:(Ac != 0)=true:=bne_iff_ne.mpr Dq
            obtain⟨Ik,H⟩:=qo H
            have Jc:=eq_true Ik
            have Jd:=decide_eq_true Ik
            have Je:=eq_false (Nat.not_lt.2 Ik)
            obtain⟨Jf,H⟩:=qo H
            have Jg:decide (0≤Ac)=true:=decide_eq_true Jf
            clear Jf
            obtain⟨Jh,H⟩:=qo H
            have Ji:=decide_eq_true Jh
            clear Jh
            obtain⟨⟨Da,Il⟩,Jj,H⟩:=qB H
            dsimp only at H
            by_cases Gn:Il=true
            ·subst Gn
             replace H:=qT H
             obtain⟨Im,H⟩:=qo H
             have Jk:=eq_true Im
             have Jl:=decide_eq_true Im
             have Ee:=eq_false (Nat.not_lt.2 Im)
             have Jm:(9223372036854775807 < Ak.size + 2 + Da.size)=False:=qs Ee
             have H':=y0.mk H
             clear H
             obtain⟨Gp,Gq,Gr,Gs,Gt,Gu,Gv,Gw,Gx,Gy⟩:=qz5 Ab.out
             have Bs:0≤(Ac:Int):=qd
             have Bt:Ac < (Aa.length:Int):=qd
             obtain⟨Ef,Bu,Bv,Ds,Aq,Ar,As,Av,Aw⟩:=at_T35 Be.out Ac Bs Bt
             cases Ds
             replace Aq:=qC Aq HB
             replace Ar:=qC Ar HB
             replace As:=qC As HB
             have Bi:=y0.mk Aw
             have Bj:=y0.mk Av
             clear Aw Av
             replace Bs:=eq_true Bs
             replace Bt:=eq_true Bt
             go_wp2_with (first|((with_reducible refine y18 (f:=30) rfl ?_);refine y21 (some 60) rfl rfl Tryz.func30 (by kernel_rfl) rfl #[.agg #[.int .i64 ((y22 Aa Ac).f0),.string ((y22 Aa Ac).f1),.slice Bu ((y22 Aa Ac).f2).length Bv],.slice Bl Ai.length Bm] rfl qy1 ?_;(with_reducible refine(spec_l04Lit.calls Bz ((y22 Aa Ac).f0) ((y22 Aa Ac).f1) _ _ ((y22 Aa Ac).f2) _ _ Ai Da true _ (qc (Kd.C_below Bi.out HB.out)) Bj.out (qc ((Kd.R_reads' Aj.out).2.2)) (by exact(Kd.R_reads' Aj.out).2.1) Jj.out).mono ?_);rintro e Jy ⟨rfl,hb⟩;refine⟨_,rfl, ?_⟩;replace Aj:=y0.mk (Kd.R_below (qR Aj.out) hb);replace Ab:=y0.mk (qK Ab.out hb);replace HB:=y0.mk (y5 qb hb);(try clear hb)))
             go_roundg Bz
             case measure=>have:=Dt.out;have:=Du.out;have:=Cy.out;omega
             exact⟨((Ak ++ (⟨#[44,32]⟩:ByteArray)) ++ Da),(wrap64 (Ac + 1)),qy2,qy2,H',⟨by have:=Dt.out;have:=Du.out;have:=Cy.out;omega⟩,⟨qR Aj.out⟩,⟨qk Ab.out⟩,⟨qb⟩⟩
            ·replace Gn:=Bool.eq_false_iff.mpr Gn
             subst Gn
             replace H:=qF H
             obtain rfl:=Option.some.inj H
             obtain⟨Gz,Ha,Hb,Hc,Hd,He,Hf,Hg,Hh,Hi⟩:=qz5 Ab.out
             have Bs:0≤(Ac:Int):=qd
             have Bt:Ac < (Aa.length:Int):=qd
             obtain⟨Ef,Bu,Bv,Ds,Aq,Ar,As,Av,Aw⟩:=at_T35 Be.out Ac Bs Bt
             cases Ds
             replace Aq:=qC Aq HB
             replace Ar:=qC Ar HB
             replace As:=qC As HB
             have Bi:=y0.mk Aw
             have Bj:=y0.mk Av
             clear Aw Av
             replace Bs:=eq_true Bs
             replace Bt:=eq_true Bt
             go_wp2_with (first|((with_reducible refine y18 (f:=30) rfl ?_);refine y21 (some 60) rfl rfl Tryz.func30 (by kernel_rfl) rfl #[.agg #[.int .i64 ((y22 Aa Ac).f0),.string ((y22 Aa Ac).f1),.slice Bu ((y22 Aa Ac).f2).length Bv],.slice Bl Ai.length Bm] rfl qy1 ?_;(with_reducible refine(spec_l04Lit.calls Bz ((y22 Aa Ac).f0) ((y22 Aa Ac).f1) _ _ ((y22 Aa Ac).f2) _ _ Ai Da false _ (qc (Kd.C_below Bi.out HB.out)) Bj.out (qc ((Kd.R_reads' Aj.out).2.2)) (by exact(Kd.R_reads' Aj.out).2.1) Jj.out).mono ?_);rintro e Jz ⟨rfl,hb⟩;refine⟨_,rfl, ?_⟩;replace Aj:=y0.mk (Kd.R_below (qR Aj.out) hb);replace Ab:=y0.mk (qK Ab.out hb);replace HB:=y0.mk (y5 qb hb);(try clear hb)))
             go_ret
             exact⟨qf,qb⟩
          ·replace Fq:=Bool.eq_false_iff.mpr Fq
           subst Fq
           replace H:=qF H
           obtain⟨Io,H⟩:=qo H
           have Jn:=eq_true Io
           have Jo:=decide_eq_true Io
           have Jp:=eq_false (Nat.not_lt.2 Io)
           by_cases Dm:((Ak ++ (⟨#[46]⟩:ByteArray)).size:Int) > 3000
           ·rw [if_pos Dm]at H
            have Eg:(3000 < (Ak.size:Int) + 1)=True:=eq_true (by have h_:=Dm;rw [show(Ak ++ (⟨#[46]⟩:ByteArray)).size=Ak.size + 1 from by(simp only [ByteArray.size_append];rfl)]at h_;omega)
            have Eh:decide (3000 < ((Ak ++ (⟨#[46]⟩:ByteArray)).size:Int))=true:=decide_eq_true Dm
            have Ei:decide (3000 < (Ak ++ (⟨#[46]⟩:ByteArray)).size)=true:=decide_eq_true (by omega)
            clear Dm
            obtain rfl:=Option.some.inj H
            go_wp2
            go_ret
            exact⟨qf,qb⟩
           ·rw [if_neg Dm]at H
            have Eg:(3000 < (Ak.size:Int) + 1)=False:=eq_false (by have h_:=Dm;rw [show(Ak ++ (⟨#[46]⟩:ByteArray)).size=Ak.size + 1 from by(simp only [ByteArray.size_append];rfl)]at h_;omega)
            have Eh:decide (3000 < ((Ak ++ (⟨#[46]⟩:ByteArray)).size:Int))=false:=decide_eq_false Dm
            have Ei:decide (3000 < (Ak ++ (⟨#[46]⟩:ByteArray)).size)=false:=decide_eq_false (by omega)
            clear Dm
            obtain rfl:=Option.some.inj H
            go_wp2
            go_ret
            exact⟨qf,qb⟩
  ·replace c6:=Bool.eq_false_iff.mpr c6
   subst c6
   replace H:=qF H
   obtain rfl:=Option.some.inj H
   go_enter Tryz.func15,Tryz.ntmps15
   go_wp2_with (first|((with_reducible refine y19 (N:=1) rfl ?_);(try(refine y20 (by rfl) ?_;dsimp only));refine qe 1 #[.slice Ba Ag.length Bb,.int .i64 Ad,.string Ah,.slice Ay Af.length Az,.slice Bc Aa.length Bd] 38 ?_;intro Bk hg Ka hbox hb;have Ab:=y0.mk (hbox);have Dk:=y0.mk (qg (w:=w) hg);have Dl:=y0.mk (qg (w:=w) hg);replace HB:=y0.mk (y5 qb hb);clear hb hbox hg;obtain⟨Hj,Hk,Hl,Hm,Hn,Ho,Hp,Hq,Hr,Hs⟩:=qz5 Ab.out)|((with_reducible refine y18 (f:=29) rfl ?_);refine y21 (some 15) rfl rfl Tryz.func29 (by kernel_rfl) rfl #[.agg #[.slice Ba Ag.length Bb,.int .i64 Ad,.string Ah,.slice Ay Af.length Az,.slice Bc Aa.length Bd]] rfl qy1 ?_;(with_reducible refine(z10_.calls k _ _ Ag Ad Ah (fun k_=>k_ < w.heap.size) _ _ Af (fun k_=>k_ < w.heap.size) _ _ Aa Ai false _ (qc (Kd.C_below Dh.out HB.out)) Di.out (by exact Kd.V_mk Cb.out (Kd.F_below (Kd.C_F (Kd.heap_int .i64) Ca.out) qb)) (by exact Kd.V_mk Dj.out (Kd.F_below (Kd.C_F k35_heap Be.out) qb)) A5.out).mono ?_);rintro e Kb ⟨If,rfl,Dy,hb⟩;refine⟨_,rfl, ?_⟩;have Ax:=y0.mk (Kd.R_lower (Kd.R_mono (ok':=fun k_=>True) Dy (fun _ hk_=>trivial)) (y4 qb));replace Ab:=y0.mk (qK Ab.out hb);replace HB:=y0.mk (y5 qb hb);(try clear hb);(try clear Dy)))
   go_ret
   exact⟨qf,qb⟩
mutual
def spec_l06Within.l0:Nat→List Bool→Int→List (S67)→Int→ByteArray→List Int→List (S35)→Option (List Bool)
 | 0,_,_,_,_,_,_,_=>none
 | k + 1,x5,x6,Ae,An,Ao,By,Dd=>if x6≥0 then(spec_l06Within.l1 k x5 x6 0 Ae An Ao By Dd)else(some x5)
def spec_l06Within.l1:Nat→List Bool→Int→Int→List (S67)→Int→ByteArray→List Int→List (S35)→Option (List Bool)
 | 0,_,_,_,_,_,_,_,_=>none
 | k + 1,x5,x6,x7,Ae,An,Ao,By,Dd=>if 0≤x6 then(if x6 < (Ae.length:Int)then(if x7 < (((y23 Ae x6).f2).length:Int)then(if x6 < (x5.length:Int)then(if rdOf false x5 x6=true then(if 0≤x7 then(if 0≤(rd ((y23 Ae x6).f2) x7)then(if(rd ((y23 Ae x6).f2) x7) < (x5.length:Int)then(spec_l06Within.l1 k (x5.set ((rd ((y23 Ae x6).f2) x7):Int).toNat true) x6 (wrap64 (x7 + 1)) Ae An Ao By Dd)else(none))else(none))else(none))else(spec_l06Within.l0 k x5 (wrap64 (x6 - 1)) Ae An Ao By Dd))else(none))else(spec_l06Within.l0 k x5 (wrap64 (x6 - 1)) Ae An Ao By Dd))else(none))else(none)
end
def spec_l06Within.f (k:Nat) (Ae:List (S67)) (An:Int) (Ao:ByteArray) (By:List Int) (Dd:List (S35)) (a1:Int):Option (List Bool):=if 0≤(Ae.length:Int)then(if((Ae.length:Int):Int).toNat≤281474976710656 then((some (List.replicate ((Ae.length:Int):Int).toNat false:List Bool)).bind fun y187=>(if 0≤a1 then(if a1 < (y187.length:Int)then(spec_l06Within.l0 k (y187.set (a1:Int).toNat true) a1 Ae An Ao By Dd)else(none))else(none)))else(none))else(none)
theorem spec_l06Within.calls (k:Nat) (Bn:Option Addr) (Bo:Nat) (Ab:List (S67)) (Au:Int) (Av:ByteArray) (Bp:Option Addr) (Bq:Nat) (Ap:List Int) (Br:Option Addr) (Bs:Nat) (Aq:List (S35)) (a1:Int) (r:List Bool) (w:World) (Ce:Kd.C k67 w Bn Ab.length Ab) (Cf:Ab.length≤Bo) (Cg:Kd.C (Kd.int .i64) w Bp Ap.length Ap) (Ch:Ap.length≤Bq) (Ci:Kd.C k35 w Br Aq.length Aq) (Cj:Aq.length≤Bs) (h:spec_l06Within.f k Ab Au Av Ap Aq a1=some r) :
  Calls Tryz.prog 31 #[.agg #[.slice Bn Ab.length Bo,.int .i64 Au,.string Av,.slice Bp Ap.length Bq,.slice Br Aq.length Bs],.int .i64 a1] w fun e w'=>∃ v0_:Value,e=.returned (v0_)∧Kd.R Kd.bool 4 w' w.heap.size (fun _=>True) v0_ r∧Below w.heap.size w w':=by
 have Gt:=Tryz.underlying38
 have Bi:=y0.mk Ce
 have Fr:=y0.mk Cf
 clear Ce Cf
 have Fs:=y0.mk Cg
 have Ft:=y0.mk Ch
 clear Cg Ch
 have Fu:=y0.mk Ci
 have Fv:=y0.mk Cj
 clear Ci Cj
 have HB:=y0.mk (Below.refl w.heap.size w)
 have H:(if 0≤(Ab.length:Int)then(if((Ab.length:Int):Int).toNat≤281474976710656 then((some (List.replicate ((Ab.length:Int):Int).toNat false:List Bool)).bind fun Az=>(if 0≤a1 then(if a1 < (Az.length:Int)then(spec_l06Within.l0 k (Az.set (a1:Int).toNat true) a1 Ab Au Av Ap Aq)else(none))else(none)))else(none))else(none))=some r:=h
 clear h
 obtain⟨c3,H⟩:=qo H
 have Fb:=eq_true c3
 have Fc:=decide_eq_true c3
 clear c3
 obtain⟨c4,H⟩:=qo H
 have Fd:=eq_true c4
 have Fe:=decide_eq_true c4
 clear c4
 obtain⟨Az,Bd⟩:∃ y_:List Bool,y_=(List.replicate ((Ab.length:Int):Int).toNat false):=⟨_,rfl⟩
 replace H:(if 0≤a1 then(if a1 < (Az.length:Int)then(spec_l06Within.l0 k (Az.set (a1:Int).toNat true) a1 Ab Au Av Ap Aq)else(none))else(none))=some r:=by first|exact Bd ▸ H|exact Bd ▸ (Option.bind_some _ _).symm.trans H
 replace Bd:=y0.mk Bd
 obtain⟨c5,H⟩:=qo H
 have Ff:decide (0≤a1)=true:=decide_eq_true c5
 clear c5
 obtain⟨c6,H⟩:=qo H
 have Fg:decide (a1 < (Az.length:Int))=true:=decide_eq_true c6
 clear c6
 obtain⟨Co,Be⟩:∃ y_:List Bool,y_=(Az.set (a1:Int).toNat true):=⟨_,rfl⟩
 replace H:(spec_l06Within.l0 k Co a1 Ab Au Av Ap Aq)=some r:=by first|exact Be ▸ H|exact Be ▸ (Option.bind_some _ _).symm.trans H
 replace Be:=y0.mk Be
 have H':=y0.mk H
 clear H
 go_enter Tryz.func31,Tryz.ntmps31
 go_wp2_with (first|((with_reducible refine y19 (N:=2) rfl ?_);refine qe 2 #[.slice Bn Ab.length Bo,.int .i64 Au,.string Av,.slice Bp Ap.length Bq,.slice Br Aq.length Bs] 38 ?_;intro Cl hg w8 hbox hb;have Ac:=y0.mk (hbox);have Fx:=y0.mk (qg (w:=w) hg);have Fy:=y0.mk (qg (w:=w) hg);replace HB:=y0.mk (y5 qb hb);clear hb hbox hg;obtain⟨Cp,Cq,Cr,Cs,Ct,Cu,Cv,Cw,Cx,Cy⟩:=qz5 Ac.out)|((with_reducible refine y19 (N:=11) rfl ?_);refine Kd.R_make Kd.bool _ 4 rfl (N:=11) rfl 65 _ _ rfl (Ab.length:Int) rfl rfl Tryz.underlying65 (.bool false) 1 info4 rfl (by decide) (by omega) false (ok:=fun _=>True) (okp:=fun _=>True) rfl (fun _ hk=>hk) trivial (of_decide_eq_true qy0) (Nat.le_trans (Nat.mul_le_mul_right _ (of_decide_eq_true qy0:(Ab.length:Int).toNat≤281474976710656)) (by omega)) (Below.refl _ _) (Nat.le_refl _) ?_;intro Gu Fz Bt hb hg_ hnew_;clear hg_ hnew_;(first|rw [← Bd.out]at Bt|(simp only [Int.reduceToNat]at Bt;rw [← Bd.out]at Bt));have At:=y0.mk (Kd.R_lower Bt (y4 qb));replace Ac:=y0.mk (qK Ac.out hb);replace HB:=y0.mk (y5 qb hb);clear hb Bt;have p7:0≤(a1:Int):=qd;have q7:(a1:Int) < ((Az.length:Int):Int):=qd;obtain⟨Cc,Ds,Ga,Gb,Gv,Gw,Gc⟩:=Kd.R_form At.out (by omega);(first|cases Ga|(injection Ga with ea_ en_ ec_;(first|subst ea_|(injection ea_ with ea_;subst ea_));subst ec_;clear en_));have Gd:=y0.mk Gb;have Gx:=y0.mk Gc;clear Gb Gv Gc;obtain⟨Dm,Ge⟩:=Kd.R_celln false At.out (a1:Int) p7 q7;replace p7:=eq_true p7;replace q7:=eq_true q7;obtain⟨hy12_,hz12_⟩:=Kd.R_celln false At.out (a1:Int) (of_decide_eq_true qy0) (of_decide_eq_true qy0);have Cz:=Kd.R_putg At.out (a1:Int) true)|((with_reducible refine gate_store (t:=4) (p:=14) rfl ?_);refine store_event (t:=4) (p:=14) (v:=?vo_w13) (w1:=(Fz.setCell ⟨Cc,(a1:Int).toNat,none⟩ (.bool true))) ?hg ?ho ?hn ?hr ?_;(case ho=>rfl);(case hg=>rfl);(case hn=>rfl);(case hr=>(first|(obtain⟨_,_,eo_⟩:=Kd.R_slice At.out;subst eo_)|(obtain⟨_,_,eo_⟩:=Kd.S_slice At.out;subst eo_)|(obtain⟨_,_,eo_⟩:=Kd.N_slice At.out;subst eo_)|skip);first|(go_simp;done)|(go_simp;rfl));intro Fh hw;have hg:Fz.grownBy Fh (some Cc):=(by rw [hw];exact Cz.2);have hp_:Kd.R Kd.bool 4 Fh w.heap.size (fun _=>True) (.slice (some ⟨Cc,0,none⟩) Az.length Ds) Co:=(by rw [hw,Be.out];exact Cz.1);clear Cz;replace Ac:=y0.mk (y12 (qk Ac.out) hg (Kd.R_ne At.out Ac.out (by decide)));replace At:=y0.mk (hp_);replace HB:=y0.mk ((by rw [hw];exact below_set (HB.out) Gd.out:Below w.heap.size w Fh));clear hg hw hp_))
 go_loopg [6] k (fun kq v6 w'=>∃(Bu:List Bool) (Aa:Int),v6=.int .i64 Aa∧y0 (spec_l06Within.l0 kq Bu Aa Ab Au Av Ap Aq=some r)∧y0 (kq≤k)∧y0 (Kd.R Kd.bool 4 w' w.heap.size (fun _=>True) (.slice (some ⟨Cc,0,none⟩) Az.length Ds) Bu)∧y0 (w'.heap[Cl]?=some (.cells #[(.slice Bn Ab.length Bo),.int .i64 Au,.string Av,(.slice Bp Ap.length Bq),(.slice Br Aq.length Bs)] 38 (0,0)))∧y0 (Below w.heap.size w w'))
 case atStart=>exact⟨(Co),(a1),qy2,H',⟨Nat.le_refl _⟩,⟨qR At.out⟩,⟨qk Ac.out⟩,⟨qb⟩⟩
 case round =>
  clear H'
  (try clear Fb Fc Fd Fe Ff Fg p7 q7 Cp Cq Cr Cs Ct Cu Cv Cw Cx Cy Dm p7 q7)
  obtain⟨Bu,Aa,rfl,HA,Dh,Ar,Ac,HB⟩:=hrel
  have Al:=(Kd.R_reads' Ar.out).1
  rw [Al]at Ar
  (try simp only [Al])
  (try simp only [Al]at Ac)
  cases gk with
  | zero=>exact absurd HA.out (by simp [spec_l06Within.l0])
  | succ k1 =>
   have H:=HA.out
   clear HA
   simp only [spec_l06Within.l0]at H
   by_cases Di:Aa≥0
   ·rw [if_pos Di]at H
    have Cm:decide (0≤Aa)=true:=decide_eq_true Di
    clear Di
    have H':=y0.mk H
    clear H
    go_wp2
    go_loopg [7] k1 (fun kq v7 w'=>∃(As:List Bool) (Ai:Int),v7=.int .i64 Ai∧y0 (spec_l06Within.l1 kq As Aa Ai Ab Au Av Ap Aq=some r)∧y0 (kq≤k1)∧y0 (Kd.R Kd.bool 4 w' w.heap.size (fun _=>True) (.slice (some ⟨Cc,0,none⟩) Bu.length Ds) As)∧y0 (w'.heap[Cl]?=some (.cells #[(.slice Bn Ab.length Bo),.int .i64 Au,.string Av,(.slice Bp Ap.length Bq),(.slice Br Aq.length Bs)] 38 (0,0)))∧y0 (Below w.heap.size w w'))
    case atStart=>exact⟨(Bu),(0),qy2,H',⟨Nat.le_refl _⟩,⟨by(try simp only [Al]);(with_reducible repeat(first|apply Kd.R_alloc|apply Kd.R_drewN|apply Kd.R_drew));exact Ar.out⟩,⟨by(try simp only [Al]);(with_reducible repeat(first|refine y10 ?_ _|refine y9 ?_|refine y6 ?_ _));exact Ac.out⟩,⟨qb⟩⟩
    case round =>
     clear H'
     (try clear Cm)
     obtain⟨As,Ai,rfl,HA,Dj,Ar,Ac,HB⟩:=hrel
     have Am:=(Kd.R_reads' Ar.out).1
     rw [Am]at Ar
     (try simp only [Am])
     (try simp only [Am]at Ac)
     cases gk with
     | zero=>exact absurd HA.out (by simp [spec_l06Within.l1])
     | succ k2 =>
      have H:=HA.out
      clear HA
      simp only [spec_l06Within.l1]at H
      obtain⟨Gf,H⟩:=qo H
      have Gg:decide (0≤Aa)=true:=decide_eq_true Gf
      clear Gf
      obtain⟨Gh,H⟩:=qo H
      have Gi:decide (Aa < (Ab.length:Int))=true:=decide_eq_true Gh
      clear Gh
      by_cases Dk:Ai < (((y23 Ab Aa).f2).length:Int)
      ·rw [if_pos Dk]at H
       have Do:=decide_eq_true Dk
       clear Dk
       obtain⟨Gj,H⟩:=qo H
       have Gk:decide (Aa < (As.length:Int))=true:=decide_eq_true Gj
       clear Gj
       obtain⟨Dp,Bv⟩:∃ b_:Bool,b_=(rdOf false As Aa):=⟨_,rfl⟩
       replace H:(if Dp=true then(if 0≤Ai then(if 0≤(rd ((y23 Ab Aa).f2) Ai)then(if(rd ((y23 Ab Aa).f2) Ai) < (As.length:Int)then(spec_l06Within.l1 k2 (As.set ((rd ((y23 Ab Aa).f2) Ai):Int).toNat true) Aa (wrap64 (Ai + 1)) Ab Au Av Ap Aq)else(none))else(none))else(none))else(spec_l06Within.l0 k2 As (wrap64 (Aa - 1)) Ab Au Av Ap Aq))=some r:=by rw [← Bv]at H;exact H
       replace Bv:=y0.mk Bv
       by_cases Dt:Dp=true
       ·subst Dt
        replace H:=qT H
        obtain⟨Gl,H⟩:=qo H
        have Gm:decide (0≤Ai)=true:=decide_eq_true Gl
        clear Gl
        obtain⟨Gn,H⟩:=qo H
        have Gp:decide (0≤(rd ((y23 Ab Aa).f2) Ai))=true:=decide_eq_true Gn
        clear Gn
        obtain⟨Gq,H⟩:=qo H
        have Gr:decide ((rd ((y23 Ab Aa).f2) Ai) < (As.length:Int))=true:=decide_eq_true Gq
        clear Gq
        obtain⟨Da,Bf⟩:∃ y_:List Bool,y_=(As.set ((rd ((y23 Ab Aa).f2) Ai):Int).toNat true):=⟨_,rfl⟩
        replace H:(spec_l06Within.l1 k2 Da Aa (wrap64 (Ai + 1)) Ab Au Av Ap Aq)=some r:=by first|exact Bf ▸ H|exact Bf ▸ (Option.bind_some _ _).symm.trans H
        replace Bf:=y0.mk Bf
        have H':=y0.mk H
        clear H
        obtain⟨Du,Dv,Dw,Dx,Dy,Dz,Ea,Eb,Ec,Ed⟩:=qz5 Ac.out
        have Ax:0≤(Aa:Int):=qd
        have Ay:Aa < (Ab.length:Int):=qd
        obtain⟨Bw,Bx,Bz,Ca,Af,Ag,Ad,Aj,Ak⟩:=at_T67 Bi.out Aa Ax Ay
        cases Ca
        replace Af:=qC Af HB
        replace Ag:=qC Ag HB
        replace Ad:=qC Ad HB
        have Bj:=y0.mk Ak
        have Bk:=y0.mk Aj
        clear Ak Aj
        replace Ax:=eq_true Ax
        replace Ay:=eq_true Ay
        have Bg:0≤(Aa:Int):=qd
        have Bh:Aa < (As.length:Int):=qd
        obtain⟨Cb,Db,Ah⟩:=Kd.at_bool (Kd.R_reads' Ar.out).2.2 Aa Bg Bh
        (try rw [← Bv.out]at Ah)
        obtain rfl:(⟨Cc,0,none⟩:Addr)=Cb:=(by injection Db)
        (first|simp only [add_plain]at Ah|simp only [add_at]at Ah|simp only [Addr.add,Nat.zero_add]at Ah|skip)
        replace Bg:=eq_true Bg
        replace Bh:=eq_true Bh
        have Dc:0≤(Aa:Int):=qd
        have Dd:Aa < (Ab.length:Int):=qd
        obtain⟨Dr,Fi,Fj,Fk,Ba,Bb,Aw,Bl,Bm⟩:=at_T67 Bi.out Aa Dc Dd
        obtain rfl:Bw=Dr:=(by injection Fk)
        replace Ba:=qC Ba HB
        replace Bb:=qC Bb HB
        replace Aw:=qC Aw HB
        have Cd:=y0.mk Bm
        have Ee:=y0.mk Bl
        clear Bm Bl
        replace Dc:=eq_true Dc
        replace Dd:=eq_true Dd
        have ea_:=Option.some.inj (Ad.symm.trans Aw)
        injection ea_ with ea_ en_ ec_
        subst ea_
        subst ec_
        clear en_
        have De:0≤(Ai:Int):=qd
        have Df:Ai < (((y23 Ab Aa).f2).length:Int):=qd
        obtain⟨Gs,Fl,Bc⟩:=Kd.at_int Cd.out Ai De Df
        cases Fl
        replace Bc:=qC Bc HB
        replace De:=eq_true De
        replace Df:=eq_true Df
        have Fm:0≤((rd ((y23 Ab Aa).f2) Ai):Int):=qd
        have Fn:((rd ((y23 Ab Aa).f2) Ai):Int) < ((As.length:Int):Int):=qd
        obtain⟨Fo,Fp⟩:=Kd.R_celln false Ar.out ((rd ((y23 Ab Aa).f2) Ai):Int) Fm Fn
        replace Fm:=eq_true Fm
        replace Fn:=eq_true Fn
        have Dg:=Kd.R_putg Ar.out ((rd ((y23 Ab Aa).f2) Ai):Int) true
        go_wp2_with (first|((with_reducible refine gate_store (t:=4) (p:=47) rfl ?_);refine store_event (t:=4) (p:=47) (v:=?vo_w27) (w1:=(wr.setCell ⟨Cc,((rd ((y23 Ab Aa).f2) Ai):Int).toNat,none⟩ (.bool true))) ?hg ?ho ?hn ?hr ?_;(case ho=>rfl);(case hg=>rfl);(case hn=>rfl);(case hr=>first|(go_simp;done)|(go_simp;rfl));intro Fq hw;have hg:wr.grownBy Fq (some Cc):=(by rw [hw];exact Dg.2);have hp_:Kd.R Kd.bool 4 Fq w.heap.size (fun _=>True) (.slice (some ⟨Cc,0,none⟩) As.length Ds) Da:=(by rw [hw,Bf.out];exact Dg.1);clear Dg;replace Ac:=y0.mk (y12 (qk Ac.out) hg (Kd.R_ne Ar.out Ac.out (by decide)));replace Ar:=y0.mk (hp_);replace HB:=y0.mk ((by rw [hw];exact below_set (HB.out) Gd.out:Below w.heap.size w Fq));clear hg hw hp_))
        (try simp only [← Am])
        go_roundg k2
        case measure=>have:=Dh.out;have:=Dj.out;omega
        exact⟨(Da),(wrap64 (Ai + 1)),qy2,H',⟨by have:=Dh.out;have:=Dj.out;omega⟩,⟨by(try simp only [Al]);(try simp only [Am]);(with_reducible repeat(first|apply Kd.R_alloc|apply Kd.R_drewN|apply Kd.R_drew));exact Ar.out⟩,⟨by(try simp only [Al]);(try simp only [Am]);(with_reducible repeat(first|refine y10 ?_ _|refine y9 ?_|refine y6 ?_ _));exact Ac.out⟩,⟨qb⟩⟩
       ·replace Dt:=Bool.eq_false_iff.mpr Dt
        subst Dt
        replace H:=qF H
        have H':=y0.mk H
        clear H
        obtain⟨Ef,Eg,Eh,Ei,Ej,Ek,El,Em,En,Eo⟩:=qz5 Ac.out
        have Ax:0≤(Aa:Int):=qd
        have Ay:Aa < (Ab.length:Int):=qd
        obtain⟨Bw,Bx,Bz,Ca,Af,Ag,Ad,Aj,Ak⟩:=at_T67 Bi.out Aa Ax Ay
        cases Ca
        replace Af:=qC Af HB
        replace Ag:=qC Ag HB
        replace Ad:=qC Ad HB
        have Bj:=y0.mk Ak
        have Bk:=y0.mk Aj
        clear Ak Aj
        replace Ax:=eq_true Ax
        replace Ay:=eq_true Ay
        have Bg:0≤(Aa:Int):=qd
        have Bh:Aa < (As.length:Int):=qd
        obtain⟨Cb,Db,Ah⟩:=Kd.at_bool (Kd.R_reads' Ar.out).2.2 Aa Bg Bh
        (try rw [← Bv.out]at Ah)
        obtain rfl:(⟨Cc,0,none⟩:Addr)=Cb:=(by injection Db)
        (first|simp only [add_plain]at Ah|simp only [add_at]at Ah|simp only [Addr.add,Nat.zero_add]at Ah|skip)
        replace Bg:=eq_true Bg
        replace Bh:=eq_true Bh
        go_wp2
        (try simp only [← Al,← Am])
        go_roundg k2
        case measure=>have:=Dh.out;have:=Dj.out;omega
        exact⟨(As),(wrap64 (Aa - 1)),qy2,H',⟨by have:=Dh.out;have:=Dj.out;omega⟩,⟨by(try simp only [Al]);(try simp only [Am]);(with_reducible repeat(first|apply Kd.R_alloc|apply Kd.R_drewN|apply Kd.R_drew));exact Ar.out⟩,⟨by(try simp only [Al]);(try simp only [Am]);(with_reducible repeat(first|refine y10 ?_ _|refine y9 ?_|refine y6 ?_ _));exact Ac.out⟩,⟨qb⟩⟩
      ·rw [if_neg Dk]at H
       have Do:=decide_eq_false Dk
       clear Dk
       have H':=y0.mk H
       clear H
       obtain⟨Ep,Er,Es,Et,Eu,Ew,Ex,Ey,Ez,Fa⟩:=qz5 Ac.out
       have Ax:0≤(Aa:Int):=qd
       have Ay:Aa < (Ab.length:Int):=qd
       obtain⟨Bw,Bx,Bz,Ca,Af,Ag,Ad,Aj,Ak⟩:=at_T67 Bi.out Aa Ax Ay
       cases Ca
       replace Af:=qC Af HB
       replace Ag:=qC Ag HB
       replace Ad:=qC Ad HB
       have Bj:=y0.mk Ak
       have Bk:=y0.mk Aj
       clear Ak Aj
       replace Ax:=eq_true Ax
       replace Ay:=eq_true Ay
       go_wp2
       (try simp only [← Al,← Am])
       go_roundg k2
       case measure=>have:=Dh.out;have:=Dj.out;omega
       exact⟨(As),(wrap64 (Aa - 1)),qy2,H',⟨by have:=Dh.out;have:=Dj.out;omega⟩,⟨by(try simp only [Al]);(try simp only [Am]);(with_reducible repeat(first|apply Kd.R_alloc|apply Kd.R_drewN|apply Kd.R_drew));exact Ar.out⟩,⟨by(try simp only [Al]);(try simp only [Am]);(with_reducible repeat(first|refine y10 ?_ _|refine y9 ?_|refine y6 ?_ _));exact Ac.out⟩,⟨qb⟩⟩
   ·rw [if_neg Di]at H
    have Cm:decide (0≤Aa)=false:=decide_eq_false Di
    clear Di
    obtain rfl:=Option.some.inj H
    go_wp2
    go_ret
    exact⟨_,by first|rfl|(simp [y15,y16] <;> rfl)|(simp [*,y15,y16] <;> rfl),by(with_reducible repeat(first|apply Kd.R_alloc|apply Kd.R_drewN|apply Kd.R_drew));exact Ar.out,qb⟩
def spec_l01Big.f (a0:Int):Option (Bool):=if a0≥65 then(some (decide (a0≤90)))else(some false)
theorem spec_l01Big.calls (a0:Int) (r:Bool) (w:World) (h:spec_l01Big.f a0=some r) :
  Calls Tryz.prog 61 #[.int .u8 a0] w fun e w'=>e=.returned (.bool r)∧y1 w w':=by
 have H:(if a0≥65 then(some (decide (a0≤90)))else(some false))=some r:=h
 clear h
 by_cases c2:a0≥65
 ·rw [if_pos c2]at H
  have c2b0:decide (65≤a0)=true:=decide_eq_true c2
  clear c2
  obtain rfl:=Option.some.inj H
  go_enter Tryz.func61,Tryz.ntmps61
  go_wp2
  go_ret
  exact qf2
 ·rw [if_neg c2]at H
  have c2b0:decide (65≤a0)=false:=decide_eq_false c2
  clear c2
  obtain rfl:=Option.some.inj H
  go_enter Tryz.func61,Tryz.ntmps61
  go_wp2
  go_ret
  exact qf2
def spec_l01Small.f (a0:Int):Option (Bool):=if a0≥97 then(some (decide (a0≤122)))else(some false)
theorem spec_l01Small.calls (a0:Int) (r:Bool) (w:World) (h:spec_l01Small.f a0=some r) :
  Calls Tryz.prog 62 #[.int .u8 a0] w fun e w'=>e=.returned (.bool r)∧y1 w w':=by
 have H:(if a0≥97 then(some (decide (a0≤122)))else(some false))=some r:=h
 clear h
 by_cases c2:a0≥97
 ·rw [if_pos c2]at H
  have c2b0:decide (97≤a0)=true:=decide_eq_true c2
  clear c2
  obtain rfl:=Option.some.inj H
  go_enter Tryz.func62,Tryz.ntmps62
  go_wp2
  go_ret
  exact qf2
 ·rw [if_neg c2]at H
  have c2b0:decide (97≤a0)=false:=decide_eq_false c2
  clear c2
  obtain rfl:=Option.some.inj H
  go_enter Tryz.func62,Tryz.ntmps62
  go_wp2
  go_ret
  exact qf2
def spec_l01Digit.f (a0:Int):Option (Bool):=if a0≥48 then(some (decide (a0≤57)))else(some false)
theorem spec_l01Digit.calls (a0:Int) (r:Bool) (w:World) (h:spec_l01Digit.f a0=some r) :
  Calls Tryz.prog 64 #[.int .u8 a0] w fun e w'=>e=.returned (.bool r)∧y1 w w':=by
 have H:(if a0≥48 then(some (decide (a0≤57)))else(some false))=some r:=h
 clear h
 by_cases c2:a0≥48
 ·rw [if_pos c2]at H
  have c2b0:decide (48≤a0)=true:=decide_eq_true c2
  clear c2
  obtain rfl:=Option.some.inj H
  go_enter Tryz.func64,Tryz.ntmps64
  go_wp2
  go_ret
  exact qf2
 ·rw [if_neg c2]at H
  have c2b0:decide (48≤a0)=false:=decide_eq_false c2
  clear c2
  obtain rfl:=Option.some.inj H
  go_enter Tryz.func64,Tryz.ntmps64
  go_wp2
  go_ret
  exact qf2
def spec_l01Letter.f (a0:Int):Option (Bool):=(spec_l01Small.f a0).bind fun Ae=>(if Ae=true then(some true)else((spec_l01Big.f a0).bind fun An=>(if An=true then(some true)else((spec_l01Digit.f a0).bind fun Ao=>(if Ao=true then(some true)else(some (a0 == 95)))))))
theorem spec_l01Letter.calls (a0:Int) (r:Bool) (w:World) (h:spec_l01Letter.f a0=some r) :
  Calls Tryz.prog 63 #[.int .u8 a0] w fun e w'=>e=.returned (.bool r)∧y1 w w':=by
 have H:((spec_l01Small.f a0).bind fun Aa=>(if Aa=true then(some true)else((spec_l01Big.f a0).bind fun Ab=>(if Ab=true then(some true)else((spec_l01Digit.f a0).bind fun Ac=>(if Ac=true then(some true)else(some (a0 == 95))))))))=some r:=h
 clear h
 obtain⟨Aa,A2,H⟩:=qB H
 by_cases c3:Aa=true
 ·subst c3
  replace H:=qT H
  obtain rfl:=Option.some.inj H
  go_enter Tryz.func63,Tryz.ntmps63
  go_wp2_with (first|((with_reducible refine y18 (f:=62) rfl ?_);refine y21 (some 4) rfl rfl Tryz.func62 (by kernel_rfl) rfl #[.int .u8 a0] rfl qy1 ?_;(with_reducible refine(spec_l01Small.calls a0 true _ A2.out).mono ?_);rintro e w' ⟨rfl,⟨nd,rfl⟩⟩;refine⟨_,rfl, ?_⟩))
  go_ret
  exact qf2
 ·replace c3:=Bool.eq_false_iff.mpr c3
  subst c3
  replace H:=qF H
  obtain⟨Ab,A4,H⟩:=qB H
  by_cases c5:Ab=true
  ·subst c5
   replace H:=qT H
   obtain rfl:=Option.some.inj H
   go_enter Tryz.func63,Tryz.ntmps63
   go_wp2_with (first|((with_reducible refine y18 (f:=62) rfl ?_);refine y21 (some 4) rfl rfl Tryz.func62 (by kernel_rfl) rfl #[.int .u8 a0] rfl qy1 ?_;(with_reducible refine(spec_l01Small.calls a0 false _ A2.out).mono ?_);rintro e w' ⟨rfl,⟨nd,rfl⟩⟩;refine⟨_,rfl, ?_⟩)|(go_at_call 61;(with_reducible refine(spec_l01Big.calls a0 true _ A4.out).mono ?_);rintro e w' ⟨rfl,⟨nd,rfl⟩⟩))
   go_ret
   exact qf2
  ·replace c5:=Bool.eq_false_iff.mpr c5
   subst c5
   replace H:=qF H
   obtain⟨Ac,A6,H⟩:=qB H
   by_cases c7:Ac=true
   ·subst c7
    replace H:=qT H
    obtain rfl:=Option.some.inj H
    go_enter Tryz.func63,Tryz.ntmps63
    go_wp2_with (first|((with_reducible refine y18 (f:=62) rfl ?_);refine y21 (some 4) rfl rfl Tryz.func62 (by kernel_rfl) rfl #[.int .u8 a0] rfl qy1 ?_;(with_reducible refine(spec_l01Small.calls a0 false _ A2.out).mono ?_);rintro e w' ⟨rfl,⟨nd,rfl⟩⟩;refine⟨_,rfl, ?_⟩)|(go_at_call 61;(with_reducible refine(spec_l01Big.calls a0 false _ A4.out).mono ?_);rintro e w' ⟨rfl,⟨nd,rfl⟩⟩)|(go_at_call 64;(with_reducible refine(spec_l01Digit.calls a0 true _ A6.out).mono ?_);rintro e w' ⟨rfl,⟨nd,rfl⟩⟩))
    go_ret
    exact qf2
   ·replace c7:=Bool.eq_false_iff.mpr c7
    subst c7
    replace H:=qF H
    obtain rfl:=Option.some.inj H
    go_enter Tryz.func63,Tryz.ntmps63
    go_wp2_with (first|((with_reducible refine y18 (f:=62) rfl ?_);refine y21 (some 4) rfl rfl Tryz.func62 (by kernel_rfl) rfl #[.int .u8 a0] rfl qy1 ?_;(with_reducible refine(spec_l01Small.calls a0 false _ A2.out).mono ?_);rintro e w' ⟨rfl,⟨nd,rfl⟩⟩;refine⟨_,rfl, ?_⟩)|(go_at_call 61;(with_reducible refine(spec_l01Big.calls a0 false _ A4.out).mono ?_);rintro e w' ⟨rfl,⟨nd,rfl⟩⟩)|(go_at_call 64;(with_reducible refine(spec_l01Digit.calls a0 false _ A6.out).mono ?_);rintro e w' ⟨rfl,⟨nd,rfl⟩⟩))
    go_ret
    exact qf2
mutual
def spec_l01Name.j0:Nat→ByteArray→Bool→Option (Bool)
 | 0,_,_=>none
 | k + 1,x0,Ae=>if Ae=true then(some false)else(spec_l01Name.l0 k x0 0)
def spec_l01Name.l0:Nat→ByteArray→Int→Option (Bool)
 | 0,_,_=>none
 | k + 1,x0,x5=>if x5 < (x0.size:Int)then(if 0≤x5 then((spec_l01Letter.f (bt x0 x5)).bind fun Ae=>(if Ae=true then(spec_l01Name.l0 k x0 (wrap64 (x5 + 1)))else(some false)))else(none))else(some true)
end
def spec_l01Name.f (k:Nat) (a0:ByteArray) (a1:Bool):Option (Bool):=(z8_.f (a0.size:Int) 1 20).bind fun Ae=>(if Ae=true then(if a1=true then(if 0 < (a0.size:Int)then((spec_l01Big.f (bt a0 0)).bind fun An=>(if An=true then(spec_l01Name.j0 k a0 false)else(spec_l01Name.j0 k a0 true)))else(none))else(if 0 < (a0.size:Int)then((spec_l01Small.f (bt a0 0)).bind fun Ao=>(spec_l01Name.j0 k a0 (!Ao)))else(none)))else(spec_l01Name.j0 k a0 true))
theorem spec_l01Name.calls (k:Nat) (a0:ByteArray) (a1:Bool) (r:Bool) (w:World) (h:spec_l01Name.f k a0 a1=some r) :
  Calls Tryz.prog 49 #[.string a0,.bool a1] w fun e w'=>e=.returned (.bool r)∧y1 w w':=by
 have H:((z8_.f (a0.size:Int) 1 20).bind fun Ad=>(if Ad=true then(if a1=true then(if 0 < (a0.size:Int)then((spec_l01Big.f (bt a0 0)).bind fun Af=>(if Af=true then(spec_l01Name.j0 k a0 false)else(spec_l01Name.j0 k a0 true)))else(none))else(if 0 < (a0.size:Int)then((spec_l01Small.f (bt a0 0)).bind fun Ac=>(spec_l01Name.j0 k a0 (!Ac)))else(none)))else(spec_l01Name.j0 k a0 true)))=some r:=h
 clear h
 have Aq:=y0.mk H
 clear H
 go_enter Tryz.func49,Tryz.ntmps49
 go_upto_region 1 with(fail)
 go_cut [28] (fun Bd wc=>∃(kq:Nat) (Ab:Bool),Bd=.bool Ab∧y0 (spec_l01Name.j0 kq a0 Ab=some r)∧y0 (kq≤k)∧y1 w wc)
 case first =>
  have H:=Aq.out
  clear Aq
  obtain⟨Ad,A4,H⟩:=qB H
  by_cases c5:Ad=true
  ·subst c5
   replace H:=qT H
   by_cases c6:a1=true
   ·subst c6
    replace H:=qT H
    obtain⟨c7,H⟩:=qo H
    have Ah:decide (0 < (a0.size:Int))=true:=decide_eq_true c7
    have Be:decide (0 < a0.size)=true:=decide_eq_true (by omega)
    clear c7
    (first|rw [Ah]|(simp only [i64_w,i32_w];rw [Ah])|skip)
    obtain⟨Af,A9,H⟩:=qB H
    by_cases Am:Af=true
    ·subst Am
     replace H:=qT H
     have H':=y0.mk H
     clear H
     go_wp2_with (first|((with_reducible refine y18 (f:=16) rfl ?_);refine y21 (some 8) rfl rfl Tryz.func16 (by kernel_rfl) rfl #[.int .i64 (a0.size:Int),.int .i64 1,.int .i64 20] rfl qy1 ?_;(with_reducible refine(z8_.calls (a0.size:Int) 1 20 true _ A4.out).mono ?_);rintro e w' ⟨rfl,⟨nd,rfl⟩⟩;refine⟨_,rfl, ?_⟩;have p8:0≤(0:Int):=(by omega);have q8:0 < a0.size:=qy3;have Bf:∀ h:0 < a0.size,((a0[0]'h).toNat:Int)=bt a0 0:=bt_at a0 0;clear p8;have Bg:(0 < (a0.size:Int))=True:=eq_true (of_decide_eq_true qy0);replace q8:=eq_true q8)|(go_at_call 61;(with_reducible refine(spec_l01Big.calls (bt a0 0) true _ A9.out).mono ?_);rintro e w' ⟨rfl,⟨nd,rfl⟩⟩))
     go_meet
     exact⟨_,(false),qy2,H',⟨by first|omega|exact Nat.le_refl _⟩,by repeat(first|exact y1.refl _|apply y1.step)⟩
    ·replace Am:=Bool.eq_false_iff.mpr Am
     subst Am
     replace H:=qF H
     have H':=y0.mk H
     clear H
     go_wp2_with (first|((with_reducible refine y18 (f:=16) rfl ?_);refine y21 (some 8) rfl rfl Tryz.func16 (by kernel_rfl) rfl #[.int .i64 (a0.size:Int),.int .i64 1,.int .i64 20] rfl qy1 ?_;(with_reducible refine(z8_.calls (a0.size:Int) 1 20 true _ A4.out).mono ?_);rintro e w' ⟨rfl,⟨nd,rfl⟩⟩;refine⟨_,rfl, ?_⟩;have p8:0≤(0:Int):=(by omega);have q8:0 < a0.size:=qy3;have Bf:∀ h:0 < a0.size,((a0[0]'h).toNat:Int)=bt a0 0:=bt_at a0 0;clear p8;have Bg:(0 < (a0.size:Int))=True:=eq_true (of_decide_eq_true qy0);replace q8:=eq_true q8)|(go_at_call 61;(with_reducible refine(spec_l01Big.calls (bt a0 0) false _ A9.out).mono ?_);rintro e w' ⟨rfl,⟨nd,rfl⟩⟩))
     go_meet
     exact⟨_,(true),qy2,H',⟨by first|omega|exact Nat.le_refl _⟩,by repeat(first|exact y1.refl _|apply y1.step)⟩
   ·replace c6:=Bool.eq_false_iff.mpr c6
    subst c6
    replace H:=qF H
    obtain⟨At,H⟩:=qo H
    have Au:decide (0 < (a0.size:Int))=true:=decide_eq_true At
    have Av:decide (0 < a0.size)=true:=decide_eq_true (by omega)
    clear At
    obtain⟨Ac,Bh,H⟩:=qB H
    have H':=y0.mk H
    clear H
    go_wp2_with (first|((with_reducible refine y18 (f:=16) rfl ?_);refine y21 (some 8) rfl rfl Tryz.func16 (by kernel_rfl) rfl #[.int .i64 (a0.size:Int),.int .i64 1,.int .i64 20] rfl qy1 ?_;(with_reducible refine(z8_.calls (a0.size:Int) 1 20 true _ A4.out).mono ?_);rintro e w' ⟨rfl,⟨nd,rfl⟩⟩;refine⟨_,rfl, ?_⟩;have Bi:0≤(0:Int):=(by omega);have Aw:0 < a0.size:=qy3;have Bj:∀ h:0 < a0.size,((a0[0]'h).toNat:Int)=bt a0 0:=bt_at a0 0;clear Bi;have Bk:(0 < (a0.size:Int))=True:=eq_true (of_decide_eq_true qy0);replace Aw:=eq_true Aw)|(go_at_call 62;(with_reducible refine(spec_l01Small.calls (bt a0 0) Ac _ Bh.out).mono ?_);rintro e w' ⟨rfl,⟨nd,rfl⟩⟩))
    go_meet
    exact⟨_,(!Ac),qy2,H',⟨by first|omega|exact Nat.le_refl _⟩,by repeat(first|exact y1.refl _|apply y1.step)⟩
  ·replace c5:=Bool.eq_false_iff.mpr c5
   subst c5
   replace H:=qF H
   have H':=y0.mk H
   clear H
   go_wp2_with (first|((with_reducible refine y18 (f:=16) rfl ?_);refine y21 (some 8) rfl rfl Tryz.func16 (by kernel_rfl) rfl #[.int .i64 (a0.size:Int),.int .i64 1,.int .i64 20] rfl qy1 ?_;(with_reducible refine(z8_.calls (a0.size:Int) 1 20 false _ A4.out).mono ?_);rintro e w' ⟨rfl,⟨nd,rfl⟩⟩;refine⟨_,rfl, ?_⟩))
   go_meet
   exact⟨_,(true),qy2,H',⟨by first|omega|exact Nat.le_refl _⟩,by repeat(first|exact y1.refl _|apply y1.step)⟩
 case rest =>
  clear Aq
  obtain⟨kq,Ab,rfl,HA,Ax,⟨Bl,rfl⟩⟩:=hcut
  cases kq with
  | zero=>exact absurd HA.out (by simp [spec_l01Name.j0])
  | succ Ay =>
   have H:=HA.out
   clear HA
   simp only [spec_l01Name.j0]at H
   by_cases Ai:Ab=true
   ·subst Ai
    replace H:=qT H
    obtain rfl:=Option.some.inj H
    go_wp2
    go_ret
    exact qf2
   ·replace Ai:=Bool.eq_false_iff.mpr Ai
    subst Ai
    replace H:=qF H
    have H':=y0.mk H
    clear H
    go_wp2
    go_loopg [5] Ay (fun kq v5 w'=>∃(Aa:Int),v5=.int .i64 Aa∧y0 (spec_l01Name.l0 kq a0 Aa=some r)∧y0 (kq≤Ay)∧y1 w w')
    case atStart=>exact⟨(0),qy2,H',⟨Nat.le_refl _⟩,by repeat(first|exact y1.refl _|apply y1.step)⟩
    case round =>
     clear H'
     (try clear Ai)
     obtain⟨Aa,rfl,HA,Az,⟨m2,rfl⟩⟩:=hrel
     cases gk with
     | zero=>exact absurd HA.out (by simp [spec_l01Name.l0])
     | succ k2 =>
      have H:=HA.out
      clear HA
      simp only [spec_l01Name.l0]at H
      by_cases Ag:Aa < (a0.size:Int)
      ·rw [if_pos Ag]at H
       have Aj:=decide_eq_true Ag
       clear Ag
       obtain⟨Ba,H⟩:=qo H
       have Bb:decide (0≤Aa)=true:=decide_eq_true Ba
       clear Ba
       obtain⟨Ar,Bc,H⟩:=qB H
       by_cases Ap:Ar=true
       ·subst Ap
        replace H:=qT H
        have H':=y0.mk H
        clear H
        have Ak:0≤(Aa:Int):=qd
        have Al:Aa < (a0.size:Int):=qd
        have As:=bt_at a0 Aa
        replace Ak:=eq_true Ak
        replace Al:=eq_true Al
        go_wp2_with (first|((with_reducible refine y18 (f:=63) rfl ?_);refine y21 (some 38) rfl rfl Tryz.func63 (by kernel_rfl) rfl #[.int .u8 (bt a0 Aa)] rfl qy1 ?_;(with_reducible refine(spec_l01Letter.calls (bt a0 Aa) true _ Bc.out).mono ?_);rintro e w' ⟨rfl,⟨nd,rfl⟩⟩;refine⟨_,rfl, ?_⟩))
        go_roundg k2
        case measure=>have:=Ax.out;have:=Az.out;omega
        exact⟨(wrap64 (Aa + 1)),qy2,H',⟨by have:=Ax.out;have:=Az.out;omega⟩,by repeat(first|exact y1.refl _|apply y1.step)⟩
       ·replace Ap:=Bool.eq_false_iff.mpr Ap
        subst Ap
        replace H:=qF H
        obtain rfl:=Option.some.inj H
        have Ak:0≤(Aa:Int):=qd
        have Al:Aa < (a0.size:Int):=qd
        have As:=bt_at a0 Aa
        replace Ak:=eq_true Ak
        replace Al:=eq_true Al
        go_wp2_with (first|((with_reducible refine y18 (f:=63) rfl ?_);refine y21 (some 38) rfl rfl Tryz.func63 (by kernel_rfl) rfl #[.int .u8 (bt a0 Aa)] rfl qy1 ?_;(with_reducible refine(spec_l01Letter.calls (bt a0 Aa) false _ Bc.out).mono ?_);rintro e w' ⟨rfl,⟨nd,rfl⟩⟩;refine⟨_,rfl, ?_⟩))
        go_ret
        exact qf2
      ·rw [if_neg Ag]at H
       have Aj:=decide_eq_false Ag
       clear Ag
       obtain rfl:=Option.some.inj H
       go_wp2
       go_ret
       exact qf2
def spec_NumText.l0:Nat→Int→List Int→Int→Option (ByteArray)
 | 0,_,_,_=>none
 | k + 1,x0,x3,x4=>if x4=0 then(if x0 < 0 then((some (([45]:List Int):List Int)).bind fun y206=>(if y206.length + x3.length < 140737488355328 then(some (strOfNums (y206 ++ x3)))else(none)))else(some (strOfNums x3)))else(if(Int.tmod x4 10) < 0 then((some (([(wrap64 (48 + (wrap64 (-(Int.tmod x4 10))))) % 256]:List Int):List Int)).bind fun y212=>(if y212.length + x3.length < 140737488355328 then(spec_NumText.l0 k x0 (y212 ++ x3) (wrap64 (Int.tdiv x4 10)))else(none)))else((some (([(wrap64 (48 + (Int.tmod x4 10))) % 256]:List Int):List Int)).bind fun y218=>(if y218.length + x3.length < 140737488355328 then(spec_NumText.l0 k x0 (y218 ++ x3) (wrap64 (Int.tdiv x4 10)))else(none))))
def spec_NumText.f (k:Nat) (a0:Int):Option (ByteArray):=if a0=0 then(some (⟨#[48]⟩:ByteArray))else(spec_NumText.l0 k a0 (([]:List Int)) a0)
theorem spec_NumText.calls (k:Nat) (a0:Int) (r:ByteArray) (w:World) (h:spec_NumText.f k a0=some r) :
  Calls Tryz.prog 34 #[.int .i64 a0] w fun e w'=>e=.returned (.string r)∧Below w.heap.size w w':=by
 have HB:=y0.mk (Below.refl w.heap.size w)
 have H:(if a0=0 then(some (⟨#[48]⟩:ByteArray))else(spec_NumText.l0 k a0 (([]:List Int)) a0))=some r:=h
 clear h
 by_cases c2:a0=0
 ·rw [if_pos c2]at H
  have Bb:(a0 == 0)=true:=beq_iff_eq.mpr c2
  have Bc:(a0 != 0)=false:=bne_eq_false_iff_eq.mpr c2
  clear c2
  obtain rfl:=Option.some.inj H
  go_enter Tryz.func34,Tryz.ntmps34
  go_wp2
  go_ret
  exact⟨qf,qb⟩
 ·rw [if_neg c2]at H
  have Bb:(a0 == 0)=false:=beq_eq_false_iff_ne.mpr c2
  have Bc:(a0 != 0)=true:=bne_iff_ne.mpr c2
  obtain⟨Bd,Ad⟩:∃ y_:List Int,y_=(([]:List Int)):=⟨_,rfl⟩
  replace H:(spec_NumText.l0 k a0 Bd a0)=some r:=by first|exact Ad ▸ H|exact Ad ▸ (Option.bind_some _ _).symm.trans H
  replace Ad:=y0.mk Ad
  have H':=y0.mk H
  clear H
  go_enter Tryz.func34,Tryz.ntmps34
  go_wp2_with (first|((with_reducible refine y19 (N:=8) rfl ?_);refine qL (Kd.int .u8) 5 8 ([]:List Int) ?_;intro Co w3 Be hb hg_ hnew_;clear hg_ hnew_;(first|rw [← Ad.out]at Be|(simp only [Int.reduceToNat]at Be;rw [← Ad.out]at Be));have Bf:=y0.mk (Kd.R_lower Be (y4 qb));replace HB:=y0.mk (y5 qb hb);clear hb Be))
  go_loopg [3,4] k (fun kq v3 v4 w'=>∃(Ac:List Int) (Ab:Int),v4=.int .i64 Ab∧y0 (spec_NumText.l0 kq a0 Ac Ab=some r)∧y0 (kq≤k)∧y0 (Kd.R (Kd.int .u8) 5 w' w.heap.size (fun _=>True) v3 Ac)∧y0 (Below w.heap.size w w'))
  case atStart=>exact⟨(Bd),(a0),qy2,H',⟨Nat.le_refl _⟩,⟨qR Bf.out⟩,⟨qb⟩⟩
  case round =>
   clear H'
   (try clear Bb Bc)
   obtain⟨Ac,Ab,rfl,HA,Br,Aa,HB⟩:=hrel
   cases gk with
   | zero=>exact absurd HA.out (by simp [spec_NumText.l0])
   | succ k1 =>
    have H:=HA.out
    clear HA
    simp only [spec_NumText.l0]at H
    by_cases c5:Ab=0
    ·rw [if_pos c5]at H
     have Bs:(Ab == 0)=true:=beq_iff_eq.mpr c5
     have Bt:(Ab != 0)=false:=bne_eq_false_iff_eq.mpr c5
     clear c5
     by_cases c6:a0 < 0
     ·rw [if_pos c6]at H
      have Bu:=decide_eq_true c6
      clear c6
      obtain⟨Ap,Af⟩:∃ y_:List Int,y_=(([45]:List Int)):=⟨_,rfl⟩
      replace H:(if Ap.length + Ac.length < 140737488355328 then(some (strOfNums (Ap ++ Ac)))else(none))=some r:=by first|exact Af ▸ H|exact Af ▸ (Option.bind_some _ _).symm.trans H
      replace Af:=y0.mk Af
      obtain⟨c7,H⟩:=qo H
      replace c7:=y0.mk c7
      obtain⟨Bw,Ag⟩:∃ y_:List Int,y_=(Ap ++ Ac):=⟨_,rfl⟩
      replace H:(some (strOfNums Bw))=some r:=by first|exact Ag ▸ H|exact Ag ▸ (Option.bind_some _ _).symm.trans H
      replace Ag:=y0.mk Ag
      obtain rfl:=Option.some.inj H
      go_wp2_with (first|((with_reducible refine y19 (N:=28) rfl ?_);refine qL (Kd.int .u8) 5 28 ([45]:List Int) ?_;intro Bx w8 Az hb hg_ hnew_;clear hg_ hnew_;(first|rw [← Af.out]at Az|(simp only [Int.reduceToNat]at Az;rw [← Af.out]at Az));have Au:=y0.mk (Kd.R_lower (Kd.R_new' Az (Kd.R_lt (qR Aa.out))) (y4 qb));replace Aa:=y0.mk (Kd.R_elder' (qR Aa.out) (Kd.R_base Az) hb);replace HB:=y0.mk (y5 qb hb);clear hb Az;obtain⟨Bz,Ca,Cb⟩:=Kd.R_slice Aa.out;subst Cb)|((with_reducible refine gate_builtin (b:=.append) (xs:=#[.tmp 28,.tmp 29]) rfl ?_);at_builtin;refine Kd.R_append_rows (Kd.int .u8) (w0:=w) w.heap.size rfl (.tmp 28) (.tmp 29) 83 5 (.int .u8 0) 1 rfl Tryz.underlying83 info5 rfl (by decide) (by omega) Bx Ap Ac _ _ _ (fun k_=>some k_≠(.slice Bz Ac.length Ca:Value).ownBlock) (fun _=>False) rfl rfl ?aO ?aR (fun _ _ h=>h) (fun _ h=>h.elim) ?aF ?aB ?aS ?aL ?_;(case aR=>repeat(first|exact(Kd.R_reads' Aa.out).2.2|(with_reducible refine Kd.C_alloc ?_ _)|(with_reducible refine Kd.C_drewN ?_ _)|(with_reducible refine Kd.C_drew ?_)));(case aB=>exact qb);(case aF=>exact(fun k_ hk=>Kd.fresh' (Kd.R_lt (qR Aa.out)) k_ hk));(case aO=>exact(qR (Kd.R_mono Au.out (fun _ hk=>hk.2))));(case aS=>exact(y4 qb));(case aL=>have:=c7.out;omega);intro Cp Cs ho hb hg hat;rw [← Ag.out]at ho;replace Aa:=y0.mk (Kd.R_after (ok:=(fun _=>True)) (qR Aa.out) hg hat);replace HB:=y0.mk (hb);have Bh:=y0.mk (ho);clear Au;clear ho hb hg hat;have Ck:=own_string (P:=Tryz.prog) Tryz.underlying83 Tryz.underlying5 Tryz.underlying9 (Kd.own_of_R Bh.out)))
      go_ret
      exact⟨qf,qb⟩
     ·rw [if_neg c6]at H
      have Bu:=decide_eq_false c6
      clear c6
      obtain rfl:=Option.some.inj H
      have Cl:=own_string (P:=Tryz.prog) Tryz.underlying83 Tryz.underlying5 Tryz.underlying9 (Kd.own_of_R Aa.out)
      go_wp2
      go_ret
      exact⟨qf,qb⟩
    ·rw [if_neg c5]at H
     have Bs:(Ab == 0)=false:=beq_eq_false_iff_ne.mpr c5
     have Bt:(Ab != 0)=true:=bne_iff_ne.mpr c5
     by_cases Ba:(Int.tmod Ab 10) < 0
     ·rw [if_pos Ba]at H
      have Bi:=decide_eq_true Ba
      clear Ba
      obtain⟨Aq,Ah⟩:∃ y_:List Int,y_=(([(wrap64 (48 + (wrap64 (-(Int.tmod Ab 10))))) % 256]:List Int)):=⟨_,rfl⟩
      replace H:(if Aq.length + Ac.length < 140737488355328 then(spec_NumText.l0 k1 a0 (Aq ++ Ac) (wrap64 (Int.tdiv Ab 10)))else(none))=some r:=by first|exact Ah ▸ H|exact Ah ▸ (Option.bind_some _ _).symm.trans H
      replace Ah:=y0.mk Ah
      obtain⟨Cm,H⟩:=qo H
      replace Cm:=y0.mk Cm
      obtain⟨Bk,Ai⟩:∃ y_:List Int,y_=(Aq ++ Ac):=⟨_,rfl⟩
      replace H:(spec_NumText.l0 k1 a0 Bk (wrap64 (Int.tdiv Ab 10)))=some r:=by first|exact Ai ▸ H|exact Ai ▸ (Option.bind_some _ _).symm.trans H
      replace Ai:=y0.mk Ai
      have H':=y0.mk H
      clear H
      go_wp2_with (first|((with_reducible refine y19 (N:=23) rfl ?_);refine Kd.R_lit (Kd.int .u8) _ 5 ?hg (N:=23) ?hd (xs:=([(wrap64 (48 + (wrap64 (-(Int.tmod Ab 10))))) % 256]:List Int)) (inner:=[.int .u8 ((wrap64 (48 + (wrap64 (-(Int.tmod Ab 10))))) % 256)]) (ok:=fun _=>True) (okp:=fun _=>True) ?hr ?hp (fun _ hk=>hk) trivial (Below.refl _ _) (Nat.le_refl _) (by simp) ?_;(case hd=>rfl);(case hg=>rfl);(case hr=>first|(go_simp;done)|(go_simp;rfl));(case hp=>exact(Reps.one (show Kd.M (Kd.int .u8) _ _ _ ((wrap64 (48 + (wrap64 (-(Int.tmod Ab 10))))) % 256) [.int .u8 ((wrap64 (48 + (wrap64 (-(Int.tmod Ab 10))))) % 256)]from rfl) (Reps.none _ _)));intro Cc Ct Al hb hg_ hnew_;clear hg_ hnew_;(first|rw [← Ah.out]at Al|(simp only [Int.reduceToNat]at Al;rw [← Ah.out]at Al));have Aw:=y0.mk (Kd.R_lower (Kd.R_new' Al (Kd.R_lt (qR Aa.out))) (y4 qb));replace Aa:=y0.mk (Kd.R_elder' (qR Aa.out) (Kd.R_base Al) hb);replace HB:=y0.mk (y5 qb hb);clear hb Al;obtain⟨Cd,Ce,Cf⟩:=Kd.R_slice Aa.out;subst Cf)|((with_reducible refine gate_builtin (b:=.append) (xs:=#[.tmp 23,.tmp 24]) rfl ?_);at_builtin;refine Kd.R_append_rows (Kd.int .u8) (w0:=w) w.heap.size rfl (.tmp 23) (.tmp 24) 83 5 (.int .u8 0) 1 rfl Tryz.underlying83 info5 rfl (by decide) (by omega) Cc Aq Ac _ _ _ (fun k_=>some k_≠(.slice Cd Ac.length Ce:Value).ownBlock) (fun _=>False) rfl rfl ?aO ?aR (fun _ _ h=>h) (fun _ h=>h.elim) ?aF ?aB ?aS ?aL ?_;(case aR=>repeat(first|exact(Kd.R_reads' Aa.out).2.2|(with_reducible refine Kd.C_alloc ?_ _)|(with_reducible refine Kd.C_drewN ?_ _)|(with_reducible refine Kd.C_drew ?_)));(case aB=>exact qb);(case aF=>exact(fun k_ hk=>Kd.fresh' (Kd.R_lt (qR Aa.out)) k_ hk));(case aO=>exact(qR (Kd.R_mono Aw.out (fun _ hk=>hk.2))));(case aS=>exact(y4 qb));(case aL=>have:=Cm.out;omega);intro Cq Cu ho hb hg hat;rw [← Ai.out]at ho;replace Aa:=y0.mk (Kd.R_after (ok:=(fun _=>True)) (qR Aa.out) hg hat);replace HB:=y0.mk (hb);have Bm:=y0.mk (ho);clear Aw;clear ho hb hg hat))
      go_roundg k1
      case measure=>have:=Br.out;omega
      exact⟨(Bk),(wrap64 (Int.tdiv Ab 10)),qy2,H',⟨by have:=Br.out;omega⟩,⟨qR (Kd.R_mono Bm.out (fun _ hk=>trivial))⟩,⟨qb⟩⟩
     ·rw [if_neg Ba]at H
      have Bi:=decide_eq_false Ba
      clear Ba
      obtain⟨Ar,Aj⟩:∃ y_:List Int,y_=(([(wrap64 (48 + (Int.tmod Ab 10))) % 256]:List Int)):=⟨_,rfl⟩
      replace H:(if Ar.length + Ac.length < 140737488355328 then(spec_NumText.l0 k1 a0 (Ar ++ Ac) (wrap64 (Int.tdiv Ab 10)))else(none))=some r:=by first|exact Aj ▸ H|exact Aj ▸ (Option.bind_some _ _).symm.trans H
      replace Aj:=y0.mk Aj
      obtain⟨Cn,H⟩:=qo H
      replace Cn:=y0.mk Cn
      obtain⟨Bo,Ak⟩:∃ y_:List Int,y_=(Ar ++ Ac):=⟨_,rfl⟩
      replace H:(spec_NumText.l0 k1 a0 Bo (wrap64 (Int.tdiv Ab 10)))=some r:=by first|exact Ak ▸ H|exact Ak ▸ (Option.bind_some _ _).symm.trans H
      replace Ak:=y0.mk Ak
      have H':=y0.mk H
      clear H
      go_wp2_with (first|((with_reducible refine y19 (N:=23) rfl ?_);refine qL (Kd.int .u8) 5 23 ([(wrap64 (48 + (Int.tmod Ab 10))) % 256]:List Int) ?_;intro Cg Cv Am hb hg_ hnew_;clear hg_ hnew_;(first|rw [← Aj.out]at Am|(simp only [Int.reduceToNat]at Am;rw [← Aj.out]at Am));have Ay:=y0.mk (Kd.R_lower (Kd.R_new' Am (Kd.R_lt (qR Aa.out))) (y4 qb));replace Aa:=y0.mk (Kd.R_elder' (qR Aa.out) (Kd.R_base Am) hb);replace HB:=y0.mk (y5 qb hb);clear hb Am;obtain⟨Ch,Ci,Cj⟩:=Kd.R_slice Aa.out;subst Cj)|((with_reducible refine gate_builtin (b:=.append) (xs:=#[.tmp 23,.tmp 24]) rfl ?_);at_builtin;refine Kd.R_append_rows (Kd.int .u8) (w0:=w) w.heap.size rfl (.tmp 23) (.tmp 24) 83 5 (.int .u8 0) 1 rfl Tryz.underlying83 info5 rfl (by decide) (by omega) Cg Ar Ac _ _ _ (fun k_=>some k_≠(.slice Ch Ac.length Ci:Value).ownBlock) (fun _=>False) rfl rfl ?aO ?aR (fun _ _ h=>h) (fun _ h=>h.elim) ?aF ?aB ?aS ?aL ?_;(case aR=>repeat(first|exact(Kd.R_reads' Aa.out).2.2|(with_reducible refine Kd.C_alloc ?_ _)|(with_reducible refine Kd.C_drewN ?_ _)|(with_reducible refine Kd.C_drew ?_)));(case aB=>exact qb);(case aF=>exact(fun k_ hk=>Kd.fresh' (Kd.R_lt (qR Aa.out)) k_ hk));(case aO=>exact(qR (Kd.R_mono Ay.out (fun _ hk=>hk.2))));(case aS=>exact(y4 qb));(case aL=>have:=Cn.out;omega);intro Cr Cw ho hb hg hat;rw [← Ak.out]at ho;replace Aa:=y0.mk (Kd.R_after (ok:=(fun _=>True)) (qR Aa.out) hg hat);replace HB:=y0.mk (hb);have Bq:=y0.mk (ho);clear Ay;clear ho hb hg hat))
      go_roundg k1
      case measure=>have:=Br.out;omega
      exact⟨(Bo),(wrap64 (Int.tdiv Ab 10)),qy2,H',⟨by have:=Br.out;omega⟩,⟨qR (Kd.R_mono Bq.out (fun _ hk=>trivial))⟩,⟨qb⟩⟩
mutual
def z9_.j0:Nat→ByteArray→Int→ByteArray→Bool→Option (Int×Bool)
 | 0,_,_,_,_=>none
 | k + 1,x0,x4,x5,Ae=>if Ae=true then(if 1≤(x0.size:Int)then(z9_.j1 k x0 x4 (x0.extract 1 x0.size))else(none))else(z9_.j1 k x0 x4 x5)
def z9_.j1:Nat→ByteArray→Int→ByteArray→Option (Int×Bool)
 | 0,_,_,_=>none
 | k + 1,x0,x4,x5=>(z8_.f (x5.size:Int) 1 7).bind fun Ae=>(if Ae=true then(z9_.l0 k x0 x4 x5 0)else(some (0,false)))
def z9_.l0:Nat→ByteArray→Int→ByteArray→Int→Option (Int×Bool)
 | 0,_,_,_,_=>none
 | k + 1,x0,x4,x5,x6=>if x6 < (x5.size:Int)then(if 0≤x6 then((spec_l01Digit.f (bt x5 x6)).bind fun Ae=>(if Ae=true then(z9_.l0 k x0 (wrap64 ((wrap64 (10 * x4)) + (((bt x5 x6) - 48) % 256))) x5 (wrap64 (x6 + 1)))else(some (0,false))))else(none))else(if x5.toList=x0.toList then((spec_NumText.f k x4).bind fun An=>(if An.toList=x0.toList then((z8_.f x4 (-1000000) 1000000).bind fun Ao=>(some (x4,Ao)))else(some (x4,false))))else((spec_NumText.f k (wrap64 (-x4))).bind fun By=>(if By.toList=x0.toList then((z8_.f (wrap64 (-x4)) (-1000000) 1000000).bind fun Dd=>(some (wrap64 (-x4),Dd)))else(some (wrap64 (-x4),false)))))
end
def z9_.f (k:Nat) (a0:ByteArray):Option (Int×Bool):=if(a0.size:Int) > 0 then(if 0 < (a0.size:Int)then(z9_.j0 k a0 0 a0 ((bt a0 0) == 45))else(none))else(z9_.j0 k a0 0 a0 false)
theorem z9_.calls (k:Nat) (a0:ByteArray) (r1:Int) (r2:Bool) (w:World) (h:z9_.f k a0=some (r1,r2)) :
  Calls Tryz.prog 50 #[.string a0] w fun e w'=>e=.returned (.tuple #[.int .i64 r1,.bool r2])∧Below w.heap.size w w':=by
 have HB:=y0.mk (Below.refl w.heap.size w)
 have H:(if(a0.size:Int) > 0 then(if 0 < (a0.size:Int)then(z9_.j0 k a0 0 a0 ((bt a0 0) == 45))else(none))else(z9_.j0 k a0 0 a0 false))=some (r1,r2):=h
 clear h
 have Ba:=y0.mk H
 clear H
 go_enter Tryz.func50,Tryz.ntmps50
 go_upto_region 3 with(fail)
 go_cut [15] (fun Bs wc=>∃(kq:Nat) (Ag:Bool),Bs=.bool Ag∧y0 (z9_.j0 kq a0 0 a0 Ag=some (r1,r2))∧y0 (kq≤k)∧y0 (Below w.heap.size w wc))
 case first =>
  have H:=Ba.out
  clear Ba
  by_cases c3:(a0.size:Int) > 0
  ·rw [if_pos c3]at H
   have Ah:decide (0 < (a0.size:Int))=true:=decide_eq_true c3
   have Bb:decide (0 < a0.size)=true:=decide_eq_true (by omega)
   clear c3
   (first|rw [Ah]|(simp only [i64_w,i32_w];rw [Ah])|skip)
   obtain⟨c4,H⟩:=qo H
   have Bt:=decide_eq_true c4
   have Bu:decide (0 < a0.size)=true:=decide_eq_true (by omega)
   clear c4
   have H':=y0.mk H
   clear H
   have p5:0≤(0:Int):=(by omega)
   have q5:0 < a0.size:=qy3
   have Cc:∀ h:0 < a0.size,((a0[0]'h).toNat:Int)=bt a0 0:=bt_at a0 0
   clear p5
   have Cd:(0 < (a0.size:Int))=True:=eq_true (of_decide_eq_true qy0)
   replace q5:=eq_true q5
   go_wp2
   go_meet
   exact⟨_,(((bt a0 0) == 45)),qy2,H',⟨by first|omega|exact Nat.le_refl _⟩,⟨qb⟩⟩
  ·rw [if_neg c3]at H
   have Ah:decide (0 < (a0.size:Int))=false:=decide_eq_false c3
   have Bb:decide (0 < a0.size)=false:=decide_eq_false (by omega)
   clear c3
   (first|rw [Ah]|(simp only [i64_w,i32_w];rw [Ah])|skip)
   have H':=y0.mk H
   clear H
   go_wp2
   go_meet
   exact⟨_,(false),qy2,H',⟨by first|omega|exact Nat.le_refl _⟩,⟨qb⟩⟩
 case rest =>
  clear Ba
  obtain⟨kq,Ag,rfl,HA,Ay,HB⟩:=hcut
  cases kq with
  | zero=>exact absurd HA.out (by simp [z9_.j0])
  | succ Bv =>
   have H:=HA.out
   clear HA
   simp only [z9_.j0]at H
   have Bc:=y0.mk H
   clear H
   go_upto_if 15 with(fail)
   go_cut [5] (fun v5 wc=>∃(kq:Nat) (Aa:ByteArray),v5=.string Aa∧y0 (z9_.j1 kq a0 0 Aa=some (r1,r2))∧y0 (kq≤Bv)∧y0 (Below w.heap.size w wc))
   case first =>
    have H:=Bc.out
    clear Bc
    by_cases c7:Ag=true
    ·subst c7
     replace H:=qT H
     obtain⟨c8,H⟩:=qo H
     have Bw:=eq_true c8
     have Bx:=decide_eq_true c8
     clear c8
     have H':=y0.mk H
     clear H
     go_wp2
     go_meet
     exact⟨_,(a0.extract 1 a0.size),qy2,H',⟨by have:=Ay.out;first|omega|exact Nat.le_refl _⟩,⟨qb⟩⟩
    ·replace c7:=Bool.eq_false_iff.mpr c7
     subst c7
     replace H:=qF H
     have H':=y0.mk H
     clear H
     go_wp2
     go_meet
     exact⟨_,(a0),qy2,H',⟨by have:=Ay.out;first|omega|exact Nat.le_refl _⟩,⟨qb⟩⟩
   case rest =>
    clear Bc
    obtain⟨kq,Aa,rfl,HA,Bi,HB⟩:=hcut
    cases kq with
    | zero=>exact absurd HA.out (by simp [z9_.j1])
    | succ Bj =>
     have H:=HA.out
     clear HA
     simp only [z9_.j1]at H
     obtain⟨Bd,A9,H⟩:=qB H
     by_cases Am:Bd=true
     ·subst Am
      replace H:=qT H
      have H':=y0.mk H
      clear H
      go_wp2_with (first|((with_reducible refine y18 (f:=16) rfl ?_);refine y21 (some 20) rfl rfl Tryz.func16 (by kernel_rfl) rfl #[.int .i64 (Aa.size:Int),.int .i64 1,.int .i64 7] rfl qy1 ?_;(with_reducible refine(z8_.calls (Aa.size:Int) 1 7 true _ A9.out).mono ?_);rintro e w' ⟨rfl,⟨nd,rfl⟩⟩;refine⟨_,rfl, ?_⟩))
      go_loopg [4,6] Bj (fun kq v4 v6 w'=>∃(Ac:Int) (Ab:Int),v4=.int .i64 Ac∧v6=.int .i64 Ab∧y0 (z9_.l0 kq a0 Ac Aa Ab=some (r1,r2))∧y0 (kq≤Bj)∧y0 (Below w.heap.size w w'))
      case atStart=>exact⟨(0),(0),qy2,qy2,H',⟨Nat.le_refl _⟩,⟨qb⟩⟩
      case round =>
       clear H'
       (try clear Am)
       obtain⟨Ac,Ab,rfl,rfl,HA,Bk,HB⟩:=hrel
       cases gk with
       | zero=>exact absurd HA.out (by simp [z9_.l0])
       | succ k3 =>
        have H:=HA.out
        clear HA
        simp only [z9_.l0]at H
        by_cases Al:Ab < (Aa.size:Int)
        ·rw [if_pos Al]at H
         have Ap:=decide_eq_true Al
         clear Al
         obtain⟨Bl,H⟩:=qo H
         have Bm:decide (0≤Ab)=true:=decide_eq_true Bl
         clear Bl
         obtain⟨Be,Bn,H⟩:=qB H
         by_cases Az:Be=true
         ·subst Az
          replace H:=qT H
          have H':=y0.mk H
          clear H
          have Aq:0≤(Ab:Int):=qd
          have Ar:Ab < (Aa.size:Int):=qd
          have Bf:=bt_at Aa Ab
          replace Aq:=eq_true Aq
          replace Ar:=eq_true Ar
          go_wp2_with (first|((with_reducible refine y18 (f:=64) rfl ?_);refine y21 (some 31) rfl rfl Tryz.func64 (by kernel_rfl) rfl #[.int .u8 (bt Aa Ab)] rfl qy1 ?_;(with_reducible refine(spec_l01Digit.calls (bt Aa Ab) true _ Bn.out).mono ?_);rintro e w' ⟨rfl,⟨nd,rfl⟩⟩;refine⟨_,rfl, ?_⟩;have Bo:0≤(Ab:Int):=qd;have Bp:Ab < (Aa.size:Int):=qd;have Bz:=bt_at Aa Ab;replace Bo:=eq_true Bo;replace Bp:=eq_true Bp))
          go_roundg k3
          case measure=>have:=Ay.out;have:=Bi.out;have:=Bk.out;omega
          exact⟨(wrap64 ((wrap64 (10 * Ac)) + (((bt Aa Ab) - 48) % 256))),(wrap64 (Ab + 1)),qy2,qy2,H',⟨by have:=Ay.out;have:=Bi.out;have:=Bk.out;omega⟩,⟨qb⟩⟩
         ·replace Az:=Bool.eq_false_iff.mpr Az
          subst Az
          replace H:=qF H
          simp only [Option.some.injEq,Prod.mk.injEq]at H
          obtain⟨rfl,rfl⟩:=H
          have Aq:0≤(Ab:Int):=qd
          have Ar:Ab < (Aa.size:Int):=qd
          have Bf:=bt_at Aa Ab
          replace Aq:=eq_true Aq
          replace Ar:=eq_true Ar
          go_wp2_with (first|((with_reducible refine y18 (f:=64) rfl ?_);refine y21 (some 31) rfl rfl Tryz.func64 (by kernel_rfl) rfl #[.int .u8 (bt Aa Ab)] rfl qy1 ?_;(with_reducible refine(spec_l01Digit.calls (bt Aa Ab) false _ Bn.out).mono ?_);rintro e w' ⟨rfl,⟨nd,rfl⟩⟩;refine⟨_,rfl, ?_⟩))
          go_ret2
          exact⟨qf,qb⟩
        ·rw [if_neg Al]at H
         have Ap:=decide_eq_false Al
         clear Al
         by_cases Ai:Aa.toList=a0.toList
         ·rw [if_pos Ai]at H
          have As:(Aa.toList == a0.toList)=true:=beq_iff_eq.mpr Ai
          have At:(Aa.toList != a0.toList)=false:=bne_eq_false_iff_eq.mpr Ai
          clear Ai
          obtain⟨Ad,Bq,H⟩:=qB H
          by_cases Aj:Ad.toList=a0.toList
          ·rw [if_pos Aj]at H
           have Au:(Ad.toList == a0.toList)=true:=beq_iff_eq.mpr Aj
           have Av:(Ad.toList != a0.toList)=false:=bne_eq_false_iff_eq.mpr Aj
           clear Aj
           obtain⟨Bg,Ca,H⟩:=qB H
           simp only [Option.some.injEq,Prod.mk.injEq]at H
           obtain⟨rfl,rfl⟩:=H
           go_wp2_with (first|((with_reducible refine y18 (f:=34) rfl ?_);refine y21 (some 48) rfl rfl Tryz.func34 (by kernel_rfl) rfl #[.int .i64 Ac] rfl qy1 ?_;(with_reducible refine(spec_NumText.calls k3 Ac Ad _ Bq.out).mono ?_);rintro e Ce ⟨rfl,hb⟩;refine⟨_,rfl, ?_⟩;replace HB:=y0.mk (y5 qb hb);(try clear hb))|(go_at_call 16;(with_reducible refine(z8_.calls Ac (-1000000) 1000000 Bg _ Ca.out).mono ?_);rintro e w' ⟨rfl,⟨nd,rfl⟩⟩))
           go_ret2
           exact⟨qf,qb⟩
          ·rw [if_neg Aj]at H
           have Au:(Ad.toList == a0.toList)=false:=beq_eq_false_iff_ne.mpr Aj
           have Av:(Ad.toList != a0.toList)=true:=bne_iff_ne.mpr Aj
           simp only [Option.some.injEq,Prod.mk.injEq]at H
           obtain⟨rfl,rfl⟩:=H
           go_wp2_with (first|((with_reducible refine y18 (f:=34) rfl ?_);refine y21 (some 48) rfl rfl Tryz.func34 (by kernel_rfl) rfl #[.int .i64 Ac] rfl qy1 ?_;(with_reducible refine(spec_NumText.calls k3 Ac Ad _ Bq.out).mono ?_);rintro e Cf ⟨rfl,hb⟩;refine⟨_,rfl, ?_⟩;replace HB:=y0.mk (y5 qb hb);(try clear hb)))
           go_ret2
           exact⟨qf,qb⟩
         ·rw [if_neg Ai]at H
          have As:(Aa.toList == a0.toList)=false:=beq_eq_false_iff_ne.mpr Ai
          have At:(Aa.toList != a0.toList)=true:=bne_iff_ne.mpr Ai
          obtain⟨Af,Br,H⟩:=qB H
          by_cases Ak:Af.toList=a0.toList
          ·rw [if_pos Ak]at H
           have Aw:(Af.toList == a0.toList)=true:=beq_iff_eq.mpr Ak
           have Ax:(Af.toList != a0.toList)=false:=bne_eq_false_iff_eq.mpr Ak
           clear Ak
           obtain⟨Bh,Cb,H⟩:=qB H
           simp only [Option.some.injEq,Prod.mk.injEq]at H
           obtain⟨rfl,rfl⟩:=H
           go_wp2_with (first|((with_reducible refine y18 (f:=34) rfl ?_);refine y21 (some 48) rfl rfl Tryz.func34 (by kernel_rfl) rfl #[.int .i64 (wrap64 (-Ac))] rfl qy1 ?_;(with_reducible refine(spec_NumText.calls k3 (wrap64 (-Ac)) Af _ Br.out).mono ?_);rintro e Cg ⟨rfl,hb⟩;refine⟨_,rfl, ?_⟩;replace HB:=y0.mk (y5 qb hb);(try clear hb))|(go_at_call 16;(with_reducible refine(z8_.calls (wrap64 (-Ac)) (-1000000) 1000000 Bh _ Cb.out).mono ?_);rintro e w' ⟨rfl,⟨nd,rfl⟩⟩))
           go_ret2
           exact⟨qf,qb⟩
          ·rw [if_neg Ak]at H
           have Aw:(Af.toList == a0.toList)=false:=beq_eq_false_iff_ne.mpr Ak
           have Ax:(Af.toList != a0.toList)=true:=bne_iff_ne.mpr Ak
           simp only [Option.some.injEq,Prod.mk.injEq]at H
           obtain⟨rfl,rfl⟩:=H
           go_wp2_with (first|((with_reducible refine y18 (f:=34) rfl ?_);refine y21 (some 48) rfl rfl Tryz.func34 (by kernel_rfl) rfl #[.int .i64 (wrap64 (-Ac))] rfl qy1 ?_;(with_reducible refine(spec_NumText.calls k3 (wrap64 (-Ac)) Af _ Br.out).mono ?_);rintro e Ch ⟨rfl,hb⟩;refine⟨_,rfl, ?_⟩;replace HB:=y0.mk (y5 qb hb);(try clear hb)))
           go_ret2
           exact⟨qf,qb⟩
     ·replace Am:=Bool.eq_false_iff.mpr Am
      subst Am
      replace H:=qF H
      simp only [Option.some.injEq,Prod.mk.injEq]at H
      obtain⟨rfl,rfl⟩:=H
      go_wp2_with (first|((with_reducible refine y18 (f:=16) rfl ?_);refine y21 (some 20) rfl rfl Tryz.func16 (by kernel_rfl) rfl #[.int .i64 (Aa.size:Int),.int .i64 1,.int .i64 7] rfl qy1 ?_;(with_reducible refine(z8_.calls (Aa.size:Int) 1 7 false _ A9.out).mono ?_);rintro e w' ⟨rfl,⟨nd,rfl⟩⟩;refine⟨_,rfl, ?_⟩))
      go_ret2
      exact⟨qf,qb⟩
end Go.Proofs.YtimhlficlhafbaaGreatDoor.Pv
end
