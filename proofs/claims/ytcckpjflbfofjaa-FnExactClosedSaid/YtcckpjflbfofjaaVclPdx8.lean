-- Cut by prune.py, a program of this session, out of the texts of this claim: Lean checks it.
import Derived.Test.YtcckpjflbfofjaaVclQComp
import Derived.Test.YtcckpjflbfofjaaVclPdx0
import Derived.Test.YtcckpjflbfofjaaVclPdx4
import Derived.Test.YtcckpjflbfofjaaVclPdx7
section
namespace Go.Proofs.Ytcckpjflbfofjaa.Pd
open Go.RowKit Go.Proofs.YtcckpjflbfofjaaW.PrintWords Go.Proofs.YtcckpjflbfofjaaW.PrintLast Go.Proofs.YtcckpjflbfofjaaW.PrintMore
attribute [local go_sem] max2_int min2_int max_two min_two max_three min_three max_four min_four   -- for this text's walks alone
set_option linter.unusedVariables false
set_option linter.unusedSimpArgs false
attribute [local go_sem high] eqA53
def impl_Arc_59.l0:Nat→List (S53)→List (S53)→Int→Int→Option (Bool)
 | 0,_,_,_,_=>none
 | k + 1,x0,x1,x12,x13=>if x13 < x12 then(if 0≤x13 then(if x13 < (x0.length:Int)then(if x13 < (x1.length:Int)then(if(!(((y15 x0 x13).f0) == ((y15 x1 x13).f0)) || (!(((y15 x0 x13).f1) == ((y15 x1 x13).f1)) || (!(((y15 x0 x13).f2) == ((y15 x1 x13).f2)))))=true then(some false)else(impl_Arc_59.l0 k x0 x1 x12 (wrap64 (x13 + 1))))else(none))else(none))else(none))else(some true)
def impl_Arc_59.f (k:Nat) (l0:List (S53)) (l1:List (S53)):Option (Bool):=if(l0.length:Int)=(l1.length:Int)then(impl_Arc_59.l0 k l0 l1 (l0.length:Int) 0)else(some false)
set_option maxHeartbeats 8000000 in
set_option maxRecDepth 100000 in
theorem impl_Arc_59.calls (k:Nat) (A0:Option Addr) (c0:Nat) (l0:List (S53)) (A1:Option Addr) (c1:Nat) (l1:List (S53)) (r:Bool) (w:World) (Aw:Kd.C k53 w A0 l0.length l0) (Ay:l0.length≤c0) (Az:Kd.C k53 w A1 l1.length l1) (Ba:l1.length≤c1) (h:impl_Arc_59.f k l0 l1=some r) :
  Calls Try.prog 59 #[.slice A0 l0.length c0,.slice A1 l1.length c1] w fun e w'=>e=.returned (.bool r)∧Drawn0 w w':=by
 have Be:=Try.underlying53
 have Bf:=y0.mk Aw
 have Bl:=y0.mk Ay
 clear Aw Ay
 have Bg:=y0.mk Az
 have Bm:=y0.mk Ba
 clear Az Ba
 have H:(if(l0.length:Int)=(l1.length:Int)then(impl_Arc_59.l0 k l0 l1 (l0.length:Int) 0)else(some false))=some r:=h
 clear h
 by_cases c3:(l0.length:Int)=(l1.length:Int)
 ·rw [if_pos c3]at H
  have Af:((l0.length:Int) == (l1.length:Int))=true:=beq_iff_eq.mpr c3
  have Ai:((l0.length:Int) != (l1.length:Int))=false:=bne_eq_false_iff_eq.mpr c3
  have Aj:(l0.length == l1.length)=true:=by first|simpa using c3|(simp at c3 ⊢;omega)
  clear c3
  have H':=y0.mk H
  clear H
  go_enter Try.func59,Try.ntmps59
  go_wp2
  repeat(go_quiet (fail);try go_wp2)
  go_loopg [13] k (fun kq Bh w'=>∃(Aa:Int),Bh=.int .i64 Aa∧y0 (impl_Arc_59.l0 kq l0 l1 (l0.length:Int) Aa=some r)∧y0 (kq≤k)∧Drawn0 w w')
  case atStart=>exact⟨(0),qy2,H',⟨Nat.le_refl _⟩,by repeat(first|exact Drawn0.refl _|apply Drawn0.step)⟩
  case round =>
   clear H'
   (try clear Af Ai Aj)
   obtain⟨Aa,rfl,HA,Bb,⟨m1,rfl⟩⟩:=hrel
   cases gk with
   | zero=>exact absurd HA.out (by simp [impl_Arc_59.l0])
   | succ k1 =>
    have H:=HA.out
    clear HA
    simp only [impl_Arc_59.l0]at H
    by_cases c4:Aa < (l0.length:Int)
    ·rw [if_pos c4]at H
     have Ar:=decide_eq_true c4
     clear c4
     obtain⟨c5,H⟩:=qo H
     have Bi:decide (0≤Aa)=true:=decide_eq_true c5
     clear c5
     obtain⟨c6,H⟩:=qo H
     have Bj:decide (Aa < (l0.length:Int))=true:=decide_eq_true c6
     clear c6
     obtain⟨c7,H⟩:=qo H
     have Bk:decide (Aa < (l1.length:Int))=true:=decide_eq_true c7
     clear c7
     have Ab:0≤(Aa:Int):=of_decide_eq_true qy0
     have Ac:Aa < (l0.length:Int):=of_decide_eq_true qy0
     obtain⟨Bc,As,Ak,Al,Am⟩:=at_T53 Bf.out Aa Ab Ac
     cases As
     replace Ab:=eq_true Ab
     replace Ac:=eq_true Ac
     have Ad:0≤(Aa:Int):=of_decide_eq_true qy0
     have Ae:Aa < (l1.length:Int):=of_decide_eq_true qy0
     obtain⟨Bd,At,Ao,Ap,Aq⟩:=at_T53 Bg.out Aa Ad Ae
     cases At
     replace Ad:=eq_true Ad
     replace Ae:=eq_true Ae
     by_cases c8:(!(((y15 l0 Aa).f0) == ((y15 l1 Aa).f0)) || (!(((y15 l0 Aa).f1) == ((y15 l1 Aa).f1)) || (!(((y15 l0 Aa).f2) == ((y15 l1 Aa).f2)))))=true
     ·rw [if_pos c8]at H
      have Au:(!(((y15 l0 Aa).f0) == ((y15 l1 Aa).f0)) || (!(((y15 l0 Aa).f1) == ((y15 l1 Aa).f1)) || (!(((y15 l0 Aa).f2) == ((y15 l1 Aa).f2)))))=true:=c8
      clear c8
      obtain rfl:=Option.some.inj H
      go_wp2
      repeat(go_quiet (fail);try go_wp2)
      go_ret
      exact qf2
     ·rw [if_neg c8]at H
      have Au:(!(((y15 l0 Aa).f0) == ((y15 l1 Aa).f0)) || (!(((y15 l0 Aa).f1) == ((y15 l1 Aa).f1)) || (!(((y15 l0 Aa).f2) == ((y15 l1 Aa).f2)))))=false:=by simpa using c8
      clear c8
      have H':=y0.mk H
      clear H
      go_wp2
      repeat(go_quiet (fail);try go_wp2)
      go_roundg k1
      case measure=>have:=Bb.out;omega
      exact⟨(wrap64 (Aa + 1)),qy2,H',⟨by have:=Bb.out;omega⟩,by repeat(first|exact Drawn0.refl _|apply Drawn0.step)⟩
    ·rw [if_neg c4]at H
     have Ar:=decide_eq_false c4
     clear c4
     obtain rfl:=Option.some.inj H
     go_wp2
     repeat(go_quiet (fail);try go_wp2)
     go_ret
     exact qf2
 ·rw [if_neg c3]at H
  have Af:((l0.length:Int) == (l1.length:Int))=false:=beq_eq_false_iff_ne.mpr c3
  have Ai:((l0.length:Int) != (l1.length:Int))=true:=bne_iff_ne.mpr c3
  have Aj:(l0.length == l1.length)=false:=by first|simpa using c3|(simp at c3 ⊢;omega)
  obtain rfl:=Option.some.inj H
  go_enter Try.func59,Try.ntmps59
  go_wp2
  repeat(go_quiet (fail);try go_wp2)
  go_ret
  exact qf2
def impl_sameGraph.f (k:Nat) (a0_0:Int) (a0_1:Int) (l0_2:List (S53)) (a1_0:Int) (a1_1:Int) (l1_2:List (S53)):Option (Bool):=if a0_0=a1_0 then(if a0_1=a1_1 then((impl_Arc_59.f k l0_2 l1_2).bind fun t189=>(some t189))else(some false))else(some false)
set_option maxHeartbeats 8000000 in
set_option maxRecDepth 100000 in
theorem impl_sameGraph.calls (k:Nat) (Ad:Int) (Ae:Int) (Am:Option Addr) (Ao:Nat) (Aj:List (S53)) (Af:Int) (Ai:Int) (Ap:Option Addr) (Aq:Nat) (Ak:List (S53)) (r:Bool) (w:World) (Ar:Kd.C k53 w Am Aj.length Aj) (As:Aj.length≤Ao) (At:Kd.C k53 w Ap Ak.length Ak) (Au:Ak.length≤Aq) (h:impl_sameGraph.f k Ad Ae Aj Af Ai Ak=some r) :
  Calls Try.prog 46 #[.agg #[.int .i64 Ad,.int .i64 Ae,.slice Am Aj.length Ao],.agg #[.int .i64 Af,.int .i64 Ai,.slice Ap Ak.length Aq]] w fun e w'=>e=.returned (.bool r)∧Below w.heap.size w w':=by
 have Db:=Try.underlying28
 have Be:=y0.mk Ar
 have Bf:=y0.mk As
 clear Ar As
 have Bg:=y0.mk At
 have Bh:=y0.mk Au
 clear At Au
 have HB:=y0.mk (Below.refl w.heap.size w)
 have H:(if Ad=Af then(if Ae=Ai then((impl_Arc_59.f k Aj Ak).bind fun Bd=>(some Bd))else(some false))else(some false))=some r:=h
 clear h
 by_cases c3:Ad=Af
 ·rw [if_pos c3]at H
  have Cn:(Ad == Af)=true:=beq_iff_eq.mpr c3
  have Co:(Ad != Af)=false:=bne_eq_false_iff_eq.mpr c3
  clear c3
  by_cases c4:Ae=Ai
  ·rw [if_pos c4]at H
   have Cp:(Ae == Ai)=true:=beq_iff_eq.mpr c4
   have Cq:(Ae != Ai)=false:=bne_eq_false_iff_eq.mpr c4
   clear c4
   obtain⟨Bd,A5,H⟩:=qB H
   obtain rfl:=Option.some.inj H
   go_enter Try.func46,Try.ntmps46
   go_wp2_with (first|((with_reducible refine y12 (N:=2) rfl ?_);refine qe 2 #[.int .i64 Ad,.int .i64 Ae,.slice Am Aj.length Ao] 28 ?_;intro Aw hg w6 hbox hb;have Aa:=y0.mk (hbox);have Ay:=y0.mk (qg (w:=w) hg);have Az:=y0.mk (qg (w:=w) hg);replace HB:=y0.mk (y4 qb hb);clear hb hbox hg)|((with_reducible refine y12 (N:=3) rfl ?_);refine qe 3 #[.int .i64 Af,.int .i64 Ai,.slice Ap Ak.length Aq] 28 ?_;intro Ba hg w7 hbox hb;have Al:=y0.mk (hbox);have Bb:=y0.mk (qg (w:=w) hg);have Bc:=y0.mk (qg (w:=w) hg);replace HB:=y0.mk (y4 qb hb);have Ab:=y0.mk (qn Aa.out hg);have Ac:=y0.mk (qm Aa.out hg);replace Aa:=y0.mk (qK Aa.out hb);clear hb hbox hg;have Dc:=Ab.out;have Dd:=Ac.out;obtain⟨Cr,Cs,Ct,Cu,Cv,Cw⟩:=qz3 Aa.out;obtain⟨Bi,Bj,Bk,Bl,Bm,Bn⟩:=qz3 Al.out)|(go_at_call 59;(with_reducible refine(impl_Arc_59.calls k _ _ Aj _ _ Ak Bd _ (qc (Kd.C_below Be.out HB.out)) Bf.out (qc (Kd.C_below Bg.out HB.out)) Bh.out A5.out).mono ?_);rintro e w' ⟨rfl,⟨nd,rfl⟩⟩))
   go_ret
   exact⟨qf,qb⟩
  ·rw [if_neg c4]at H
   have Cp:(Ae == Ai)=false:=beq_eq_false_iff_ne.mpr c4
   have Cq:(Ae != Ai)=true:=bne_iff_ne.mpr c4
   obtain rfl:=Option.some.inj H
   go_enter Try.func46,Try.ntmps46
   go_wp2_with (first|((with_reducible refine y12 (N:=2) rfl ?_);refine qe 2 #[.int .i64 Ad,.int .i64 Ae,.slice Am Aj.length Ao] 28 ?_;intro Aw hg De hbox hb;have Aa:=y0.mk (hbox);have Ay:=y0.mk (qg (w:=w) hg);have Az:=y0.mk (qg (w:=w) hg);replace HB:=y0.mk (y4 qb hb);clear hb hbox hg)|((with_reducible refine y12 (N:=3) rfl ?_);refine qe 3 #[.int .i64 Af,.int .i64 Ai,.slice Ap Ak.length Aq] 28 ?_;intro Ba hg Df hbox hb;have Al:=y0.mk (hbox);have Bb:=y0.mk (qg (w:=w) hg);have Bc:=y0.mk (qg (w:=w) hg);replace HB:=y0.mk (y4 qb hb);have Ab:=y0.mk (qn Aa.out hg);have Ac:=y0.mk (qm Aa.out hg);replace Aa:=y0.mk (qK Aa.out hb);clear hb hbox hg;have Cx:=Ab.out;have Cy:=Ac.out;obtain⟨Bo,Bp,Bq,Br,Bs,Bt⟩:=qz3 Aa.out;obtain⟨Bu,Bv,Bw,Bx,Bz,Ca⟩:=qz3 Al.out))
   go_ret
   exact⟨qf,qb⟩
 ·rw [if_neg c3]at H
  have Cn:(Ad == Af)=false:=beq_eq_false_iff_ne.mpr c3
  have Co:(Ad != Af)=true:=bne_iff_ne.mpr c3
  obtain rfl:=Option.some.inj H
  go_enter Try.func46,Try.ntmps46
  go_wp2_with (first|((with_reducible refine y12 (N:=2) rfl ?_);refine qe 2 #[.int .i64 Ad,.int .i64 Ae,.slice Am Aj.length Ao] 28 ?_;intro Aw hg Dg hbox hb;have Aa:=y0.mk (hbox);have Ay:=y0.mk (qg (w:=w) hg);have Az:=y0.mk (qg (w:=w) hg);replace HB:=y0.mk (y4 qb hb);clear hb hbox hg)|((with_reducible refine y12 (N:=3) rfl ?_);refine qe 3 #[.int .i64 Af,.int .i64 Ai,.slice Ap Ak.length Aq] 28 ?_;intro Ba hg Dh hbox hb;have Al:=y0.mk (hbox);have Bb:=y0.mk (qg (w:=w) hg);have Bc:=y0.mk (qg (w:=w) hg);replace HB:=y0.mk (y4 qb hb);have Ab:=y0.mk (qn Aa.out hg);have Ac:=y0.mk (qm Aa.out hg);replace Aa:=y0.mk (qK Aa.out hb);clear hb hbox hg;have Cz:=Ab.out;have Da:=Ac.out;obtain⟨Cb,Cc,Cd,Ce,Cf,Cg⟩:=qz3 Aa.out;obtain⟨Ch,Ci,Cj,Ck,Cl,Cm⟩:=qz3 Al.out))
  go_ret
  exact⟨qf,qb⟩
end Go.Proofs.Ytcckpjflbfofjaa.Pd
end
section
namespace Go.Proofs.Ytcckpjflbfofjaa.Pd
open Go.RowKit Go.Proofs.YtcckpjflbfofjaaW.PrintWords Go.Proofs.YtcckpjflbfofjaaW.PrintLast Go.Proofs.YtcckpjflbfofjaaW.PrintMore
attribute [local go_sem] max2_int min2_int max_two min_two max_three min_three max_four min_four   -- for this text's walks alone
set_option linter.unusedVariables false
set_option linter.unusedSimpArgs false
def laws_markArcS.l0:Nat→List (S53)→Int→Int→Option (Int×(List (S53)))
 | 0,_,_,_=>none
 | k + 1,x0,x1,x5=>if x5 < (x0.length:Int)then(if 0≤x5 then((some (x0.set (x5:Int).toNat (⟨x1,(y15 x0 x5).f1,(y15 x0 x5).f2⟩:S53):List (S53))).bind fun y236=>((some (y236.set (x5:Int).toNat (⟨(y15 y236 x5).f0,wrap64 (x1 + 1),(y15 y236 x5).f2⟩:S53):List (S53))).bind fun y237=>(laws_markArcS.l0 k (y237.set (x5:Int).toNat (⟨(y15 y237 x5).f0,(y15 y237 x5).f1,((Int.tmod (wrap64 ((wrap64 (x1 + 1)) + 1)) 3) == 0)⟩:S53)) (wrap64 ((wrap64 ((wrap64 (x1 + 1)) + 1)) + 1)) (wrap64 (x5 + 1)))))else(none))else(some (x1,x0))
def laws_markArcS.f (k:Nat) (l0:List (S53)) (a1:Int):Option (Int×(List (S53))):=laws_markArcS.l0 k l0 a1 0
set_option maxHeartbeats 8000000 in
set_option maxRecDepth 100000 in
theorem laws_markArcS.calls (k:Nat) (P0_:Nat→Prop) (u9000_:Value) (l0:List (S53)) (a1:Int) (r1:Int) (r2:List (S53)) (w0 w:World) (hB:Below w0.heap.size w0 w) (Di:Kd.R k53 53 w w0.heap.size P0_ u9000_ l0) (h:laws_markArcS.f k l0 a1=some (r1,r2)) :
  Calls Try.prog 32 #[u9000_,.int .i64 a1] w fun e w'=>e=.returned (.int .i64 r1)∧Kd.R k53 53 w' w0.heap.size (fun k_=>(P0_ k_∨w.heap.size≤k_)) u9000_ r2∧Below w0.heap.size w0 w'∧Kept w w' (fun k_=>P0_ k_):=by
 have Dj:=y0.mk (show Kd.R k53 53 w w0.heap.size (fun k_=>(P0_ k_∨w.heap.size≤k_)) u9000_ l0 from Kd.R_mono Di (fun k_ hk=>(.inl hk)))
 have HK:=y0.mk (Kept.refl w (fun k_=>P0_ k_))
 have Dr:=y0.mk hB.size
 have HB:=y0.mk hB
 clear hB
 have H:(laws_markArcS.l0 k l0 a1 0)=some (r1,r2):=h
 clear h
 have H':=y0.mk H
 clear H
 go_enter Try.func32,Try.ntmps32
 go_wp2
 go_loopg [1,5] k (fun kq v1 v5 w'=>∃(Ab:List (S53)) (Ac:Int) (Aa:Int),v1=.int .i64 Ac∧v5=.int .i64 Aa∧y0 (laws_markArcS.l0 kq Ab Ac Aa=some (r1,r2))∧y0 (kq≤k)∧y0 (Kd.R k53 53 w' w0.heap.size (fun k_=>(P0_ k_∨w.heap.size≤k_)) u9000_ Ab)∧y0 (Kept w w' (fun k_=>P0_ k_))∧y0 (Below w0.heap.size w0 w'))
 case atStart=>exact⟨(l0),(a1),(0),qy2,qy2,H',⟨Nat.le_refl _⟩,⟨qR Dj.out⟩,⟨by repeat(first|(with_reducible first|exact HK.out|apply Kept.alloc|apply Kept.drewN|apply Kept.drew)|exact HK.out)⟩,⟨qb⟩⟩
 case round =>
  clear H'
  obtain⟨Ab,Ac,Aa,rfl,rfl,HA,Cg,Ad,HK,HB⟩:=hrel
  cases gk with
  | zero=>exact absurd HA.out (by simp [laws_markArcS.l0])
  | succ k1 =>
   have H:=HA.out
   clear HA
   simp only [laws_markArcS.l0]at H
   by_cases c3:Aa < (Ab.length:Int)
   ·rw [if_pos c3]at H
    have Bx:=decide_eq_true c3
    clear c3
    obtain⟨c4,H⟩:=qo H
    have Dk:decide (0≤Aa)=true:=decide_eq_true c4
    clear c4
    obtain⟨Ai,Aj⟩:∃ y_:List (S53),y_=(Ab.set (Aa:Int).toNat (⟨Ac,(y15 Ab Aa).f1,(y15 Ab Aa).f2⟩:S53)):=⟨_,rfl⟩
    replace H:((some (Ai.set (Aa:Int).toNat (⟨(y15 Ai Aa).f0,wrap64 (Ac + 1),(y15 Ai Aa).f2⟩:S53):List (S53))).bind fun Ae=>(laws_markArcS.l0 k1 (Ae.set (Aa:Int).toNat (⟨(y15 Ae Aa).f0,(y15 Ae Aa).f1,((Int.tmod (wrap64 ((wrap64 (Ac + 1)) + 1)) 3) == 0)⟩:S53)) (wrap64 ((wrap64 ((wrap64 (Ac + 1)) + 1)) + 1)) (wrap64 (Aa + 1))))=some (r1,r2):=by first|(rw [Aj];with_reducible exact H)|(have H2_:=(Option.bind_some _ _).symm.trans H;rw [Aj];with_reducible exact H2_)|(have H2_:=(Option.bind_some _ _).symm.trans H;with_reducible exact H2_)|with_reducible exact H|(rw [Aj];exact H)|exact H
    have Bm:=y0.mk Aj
    clear Aj
    obtain⟨Ae,Ak⟩:∃ y_:List (S53),y_=(Ai.set (Aa:Int).toNat (⟨(y15 Ai Aa).f0,wrap64 (Ac + 1),(y15 Ai Aa).f2⟩:S53)):=⟨_,rfl⟩
    replace H:(laws_markArcS.l0 k1 (Ae.set (Aa:Int).toNat (⟨(y15 Ae Aa).f0,(y15 Ae Aa).f1,((Int.tmod (wrap64 ((wrap64 (Ac + 1)) + 1)) 3) == 0)⟩:S53)) (wrap64 ((wrap64 ((wrap64 (Ac + 1)) + 1)) + 1)) (wrap64 (Aa + 1)))=some (r1,r2):=by first|(rw [Ak];with_reducible exact H)|(have H2_:=(Option.bind_some _ _).symm.trans H;rw [Ak];with_reducible exact H2_)|(have H2_:=(Option.bind_some _ _).symm.trans H;with_reducible exact H2_)|with_reducible exact H|(rw [Ak];exact H)|exact H
    have Bn:=y0.mk Ak
    clear Ak
    obtain⟨Bd,Al⟩:∃ y_:List (S53),y_=(Ae.set (Aa:Int).toNat (⟨(y15 Ae Aa).f0,(y15 Ae Aa).f1,((Int.tmod (wrap64 ((wrap64 (Ac + 1)) + 1)) 3) == 0)⟩:S53)):=⟨_,rfl⟩
    replace H:(laws_markArcS.l0 k1 Bd (wrap64 ((wrap64 ((wrap64 (Ac + 1)) + 1)) + 1)) (wrap64 (Aa + 1)))=some (r1,r2):=by first|(rw [Al];with_reducible exact H)|(have H2_:=(Option.bind_some _ _).symm.trans H;rw [Al];with_reducible exact H2_)|(have H2_:=(Option.bind_some _ _).symm.trans H;with_reducible exact H2_)|with_reducible exact H|(rw [Al];exact H)|exact H
    have Bo:=y0.mk Al
    clear Al
    have H':=y0.mk H
    clear H
    obtain⟨Ds,Bl,Dl⟩:=Kd.R_slice Ad.out
    subst Dl
    have p5:0≤(Aa:Int):=of_decide_eq_true qy0
    have q5:(Aa:Int) < ((Ab.length:Int):Int):=of_decide_eq_true qy0
    obtain⟨Af,Dt,Ch,Ci,Dm,Du,Cj⟩:=Kd.R_form Ad.out (by omega)
    (first|cases Ch|(injection Ch with ea_ en_ ec_;(first|subst ea_|(injection ea_ with ea_;subst ea_));subst ec_;clear en_))
    have Bz:=y0.mk Ci
    have Dv:=y0.mk Cj
    clear Ci Dm Cj
    have Ck:=y0.mk (show(P0_ Af∨w.heap.size≤Af)from(Ad.out.1 _ rfl))
    obtain⟨Dw,Ca,Cl,Ar,As⟩:=Kd.R_elem Ad.out z53 (Aa:Int) p5 q5
    obtain rfl:=k53_openM Cl
    have Cm:wr.cell? ⟨Af,(Aa:Int).toNat * 3,none⟩=some (.int .i64 ((y15 Ab Aa).f0)):=Ar 0 _ rfl
    have Cn:wr.cell? ⟨Af,(Aa:Int).toNat * 3 + 1,none⟩=some (.int .i64 ((y15 Ab Aa).f1)):=Ar 1 _ rfl
    have Co:wr.cell? ⟨Af,(Aa:Int).toNat * 3 + 2,none⟩=some (.bool ((y15 Ab Aa).f2)):=Ar 2 _ rfl
    have Cp:wr.frozen? ⟨Af,(Aa:Int).toNat * 3,none⟩=false:=As 0
    have Cq:wr.frozen? ⟨Af,(Aa:Int).toNat * 3 + 1,none⟩=false:=As 1
    have Cr:wr.frozen? ⟨Af,(Aa:Int).toNat * 3 + 2,none⟩=false:=As 2
    clear Ca Ar As Cl
    replace p5:=eq_true p5
    replace q5:=eq_true q5
    have Cs:=y0.mk (show Kd.R k53 53 wr w0.heap.size (fun k_=>(P0_ k_∨w.heap.size≤k_)) (.slice (some ⟨Af,0,none⟩) Ab.length Bl) Ab from(qR Ad.out))
    obtain⟨Dx,Bp,Ct,Be,Bq⟩:=Kd.R_elem Cs.out z53 (Aa:Int) (of_decide_eq_true qy0) (by have h_:(Aa:Int) < ((Ab.length:Int):Int):=of_decide_eq_true qy0;first|exact h_|(have e_:=(Kd.R_reads' Ad.out).1;omega)|simpa using h_)
    obtain rfl:=k53_openM Ct
    have Cb:=Kd.R_seg Cs.out (Aa:Int) (of_decide_eq_true qy0) (by have h_:(Aa:Int) < ((Ab.length:Int):Int):=of_decide_eq_true qy0;first|exact h_|(have e_:=(Kd.R_reads' Ad.out).1;omega)|simpa using h_) (seg:=[.int .i64 Ac]) (j:=0) Bp Be (show 1≤3 from by decide) (x':=(⟨Ac,(y15 Ab Aa).f1,(y15 Ab Aa).f2⟩:S53)) (k53_mkM _ _ _ (⟨Ac,(y15 Ab Aa).f1,(y15 Ab Aa).f2⟩:S53) ) (fun _ hk=>hk)
    have Br:=Be 0 _ rfl
    (try simp only [show(k53).sz=3 from rfl,Nat.mul_one,Nat.add_zero]at Br)
    have Bs:=Bq 0
    (try simp only [show(k53).sz=3 from rfl,Nat.mul_one,Nat.add_zero]at Bs)
    clear Bp Be Bq Ct
    go_wp2_with (first|((with_reducible refine gate_store (t:=3) (p:=16) rfl ?_);refine store_event (t:=3) (p:=16) (v:=?vo_w10) (w1:=(wr.setCell ⟨Af,(Aa:Int).toNat * 3,none⟩ (.int .i64 Ac))) ?hg ?ho ?hn ?hr ?_;(case ho=>rfl);(case hg=>rfl);(case hn=>rfl);(case hr=>first|(go_simp;done)|(go_simp;rfl));intro Am hw;have hg:wr.grownBy Am (some Af):=(by rw [hw];exact Cb.2);have hp_:Kd.R k53 53 Am w0.heap.size (fun k_=>(P0_ k_∨w.heap.size≤k_)) (.slice (some ⟨Af,0,none⟩) Ab.length Bl) Ai:=(by rw [hw,Bm.out];exact Cb.1);clear Cb;replace HB:=y0.mk ((by rw [hw];exact y3 (HB.out) Bz.out:Below w0.heap.size w0 Am));replace HK:=y0.mk (Kept.of_grown (S:=(fun k_=>P0_ k_)) hg (by repeat(first|(with_reducible first|exact HK.out|apply Kept.alloc|apply Kept.drewN|apply Kept.drew)|exact HK.out)) (fun k_ e_=>(Ad.out.1 k_ e_)));replace Ad:=y0.mk (hp_);clear hg hw hp_;have p6:0≤(Aa:Int):=of_decide_eq_true qy0;have q6:(Aa:Int) < ((Ab.length:Int):Int):=of_decide_eq_true qy0;obtain⟨Dy,Cc,Cu,At,Au⟩:=Kd.R_elem Ad.out z53 (Aa:Int) p6 q6;obtain rfl:=k53_openM Cu;have Cv:Am.cell? ⟨Af,(Aa:Int).toNat * 3,none⟩=some (.int .i64 ((y15 Ai Aa).f0)):=At 0 _ rfl;have Cw:Am.cell? ⟨Af,(Aa:Int).toNat * 3 + 1,none⟩=some (.int .i64 ((y15 Ai Aa).f1)):=At 1 _ rfl;have Cx:Am.cell? ⟨Af,(Aa:Int).toNat * 3 + 2,none⟩=some (.bool ((y15 Ai Aa).f2)):=At 2 _ rfl;have Cy:Am.frozen? ⟨Af,(Aa:Int).toNat * 3,none⟩=false:=Au 0;have Cz:Am.frozen? ⟨Af,(Aa:Int).toNat * 3 + 1,none⟩=false:=Au 1;have Da:Am.frozen? ⟨Af,(Aa:Int).toNat * 3 + 2,none⟩=false:=Au 2;clear Cc At Au Cu;replace p6:=eq_true p6;replace q6:=eq_true q6;have Bt:=y0.mk (show Kd.R k53 53 Am w0.heap.size (fun k_=>(P0_ k_∨w.heap.size≤k_)) (.slice (some ⟨Af,0,none⟩) Ab.length Bl) Ai from(qR Ad.out));obtain⟨Dn,Az,Bu,Ap,Ba⟩:=Kd.R_elem Bt.out z53 (Aa:Int) (of_decide_eq_true qy0) (by have h_:(Aa:Int) < ((Ab.length:Int):Int):=of_decide_eq_true qy0;first|exact h_|(have e_:=(Kd.R_reads' Ad.out).1;omega)|simpa using h_);obtain rfl:=k53_openM Bu;have Bf:=Kd.R_seg Bt.out (Aa:Int) (of_decide_eq_true qy0) (by have h_:(Aa:Int) < ((Ab.length:Int):Int):=of_decide_eq_true qy0;first|exact h_|(have e_:=(Kd.R_reads' Ad.out).1;omega)|simpa using h_) (seg:=[.int .i64 (wrap64 (Ac + 1))]) (j:=1) Az Ap (show 2≤3 from by decide) (x':=(⟨(y15 Ai Aa).f0,wrap64 (Ac + 1),(y15 Ai Aa).f2⟩:S53)) (k53_mkM _ _ _ (⟨(y15 Ai Aa).f0,wrap64 (Ac + 1),(y15 Ai Aa).f2⟩:S53) ) (fun _ hk=>hk);have Bg:=Ap 1 _ rfl;(try simp only [show(k53).sz=3 from rfl,Nat.mul_one,Nat.add_zero]at Bg);have Bh:=Ba 1;(try simp only [show(k53).sz=3 from rfl,Nat.mul_one,Nat.add_zero]at Bh);clear Az Ap Ba Bu)|((with_reducible refine gate_store (t:=3) (p:=23) rfl ?_);refine store_event (t:=3) (p:=23) (v:=?vo_w12) (w1:=(Am.setCell ⟨Af,(Aa:Int).toNat * 3 + 1,none⟩ (.int .i64 (wrap64 (Ac + 1))))) ?hg ?ho ?hn ?hr ?_;(case ho=>rfl);(case hg=>rfl);(case hn=>rfl);(case hr=>first|(go_simp;done)|(go_simp;rfl));intro Ao hw;have hg:Am.grownBy Ao (some Af):=(by rw [hw];exact Bf.2);have hp_:Kd.R k53 53 Ao w0.heap.size (fun k_=>(P0_ k_∨w.heap.size≤k_)) (.slice (some ⟨Af,0,none⟩) Ab.length Bl) Ae:=(by rw [hw,Bn.out];exact Bf.1);clear Bf;replace HB:=y0.mk ((by rw [hw];exact y3 (HB.out) Bz.out:Below w0.heap.size w0 Ao));replace HK:=y0.mk (Kept.of_grown (S:=(fun k_=>P0_ k_)) hg (by repeat(first|(with_reducible first|exact HK.out|apply Kept.alloc|apply Kept.drewN|apply Kept.drew)|exact HK.out)) (fun k_ e_=>(Ad.out.1 k_ e_)));replace Ad:=y0.mk (hp_);clear hg hw hp_;have p7:0≤(Aa:Int):=of_decide_eq_true qy0;have q7:(Aa:Int) < ((Ab.length:Int):Int):=of_decide_eq_true qy0;obtain⟨Dz,Cd,Db,Aw,Ay⟩:=Kd.R_elem Ad.out z53 (Aa:Int) p7 q7;obtain rfl:=k53_openM Db;have Dc:Ao.cell? ⟨Af,(Aa:Int).toNat * 3,none⟩=some (.int .i64 ((y15 Ae Aa).f0)):=Aw 0 _ rfl;have Dd:Ao.cell? ⟨Af,(Aa:Int).toNat * 3 + 1,none⟩=some (.int .i64 ((y15 Ae Aa).f1)):=Aw 1 _ rfl;have De:Ao.cell? ⟨Af,(Aa:Int).toNat * 3 + 2,none⟩=some (.bool ((y15 Ae Aa).f2)):=Aw 2 _ rfl;have Df:Ao.frozen? ⟨Af,(Aa:Int).toNat * 3,none⟩=false:=Ay 0;have Dg:Ao.frozen? ⟨Af,(Aa:Int).toNat * 3 + 1,none⟩=false:=Ay 1;have Dh:Ao.frozen? ⟨Af,(Aa:Int).toNat * 3 + 2,none⟩=false:=Ay 2;clear Cd Aw Ay Db;replace p7:=eq_true p7;replace q7:=eq_true q7;have Bv:=y0.mk (show Kd.R k53 53 Ao w0.heap.size (fun k_=>(P0_ k_∨w.heap.size≤k_)) (.slice (some ⟨Af,0,none⟩) Ab.length Bl) Ae from(qR Ad.out));obtain⟨Do,Bb,Bw,Aq,Bc⟩:=Kd.R_elem Bv.out z53 (Aa:Int) (of_decide_eq_true qy0) (by have h_:(Aa:Int) < ((Ab.length:Int):Int):=of_decide_eq_true qy0;first|exact h_|(have e_:=(Kd.R_reads' Ad.out).1;omega)|simpa using h_);obtain rfl:=k53_openM Bw;have Bi:=Kd.R_seg Bv.out (Aa:Int) (of_decide_eq_true qy0) (by have h_:(Aa:Int) < ((Ab.length:Int):Int):=of_decide_eq_true qy0;first|exact h_|(have e_:=(Kd.R_reads' Ad.out).1;omega)|simpa using h_) (seg:=[.bool ((Int.tmod (wrap64 ((wrap64 (Ac + 1)) + 1)) 3) == 0)]) (j:=2) Bb Aq (show 3≤3 from by decide) (x':=(⟨(y15 Ae Aa).f0,(y15 Ae Aa).f1,((Int.tmod (wrap64 ((wrap64 (Ac + 1)) + 1)) 3) == 0)⟩:S53)) (k53_mkM _ _ _ (⟨(y15 Ae Aa).f0,(y15 Ae Aa).f1,((Int.tmod (wrap64 ((wrap64 (Ac + 1)) + 1)) 3) == 0)⟩:S53) ) (fun _ hk=>hk);have Bj:=Aq 2 _ rfl;(try simp only [show(k53).sz=3 from rfl,Nat.mul_one,Nat.add_zero]at Bj);have Bk:=Bc 2;(try simp only [show(k53).sz=3 from rfl,Nat.mul_one,Nat.add_zero]at Bk);clear Bb Aq Bc Bw)|((with_reducible refine gate_store (t:=4) (p:=32) rfl ?_);refine store_event (t:=4) (p:=32) (v:=?vo_w14) (w1:=(Ao.setCell ⟨Af,(Aa:Int).toNat * 3 + 2,none⟩ (.bool ((Int.tmod (wrap64 ((wrap64 (Ac + 1)) + 1)) 3) == 0)))) ?hg ?ho ?hn ?hr ?_;(case ho=>rfl);(case hg=>rfl);(case hn=>rfl);(case hr=>first|(go_simp;done)|(go_simp;rfl));intro Ce hw;have hg:Ao.grownBy Ce (some Af):=(by rw [hw];exact Bi.2);have hp_:Kd.R k53 53 Ce w0.heap.size (fun k_=>(P0_ k_∨w.heap.size≤k_)) (.slice (some ⟨Af,0,none⟩) Ab.length Bl) Bd:=(by rw [hw,Bo.out];exact Bi.1);clear Bi;replace HB:=y0.mk ((by rw [hw];exact y3 (HB.out) Bz.out:Below w0.heap.size w0 Ce));replace HK:=y0.mk (Kept.of_grown (S:=(fun k_=>P0_ k_)) hg (by repeat(first|(with_reducible first|exact HK.out|apply Kept.alloc|apply Kept.drewN|apply Kept.drew)|exact HK.out)) (fun k_ e_=>(Ad.out.1 k_ e_)));replace Ad:=y0.mk (hp_);clear hg hw hp_))
    go_roundg k1
    case measure=>have:=Cg.out;omega
    exact⟨(Bd),(wrap64 ((wrap64 ((wrap64 (Ac + 1)) + 1)) + 1)),(wrap64 (Aa + 1)),qy2,qy2,H',⟨by have:=Cg.out;omega⟩,⟨qR Ad.out⟩,⟨by repeat(first|(with_reducible first|exact HK.out|apply Kept.alloc|apply Kept.drewN|apply Kept.drew)|exact HK.out)⟩,⟨qb⟩⟩
   ·rw [if_neg c3]at H
    have Bx:=decide_eq_false c3
    clear c3
    simp only [Option.some.injEq,Prod.mk.injEq]at H
    obtain⟨rfl,rfl⟩:=H
    obtain⟨Dp,Dq,Cf⟩:=Kd.R_slice Ad.out
    subst Cf
    go_wp2
    go_ret
    exact⟨qf,by(with_reducible repeat(first|apply Kd.R_alloc|apply Kd.R_drewN|apply Kd.R_drew));exact Ad.out,qb,by repeat(first|(with_reducible first|exact HK.out|apply Kept.alloc|apply Kept.drewN|apply Kept.drew)|exact HK.out)⟩
def laws_heldArcS.l0:Nat→List (S53)→Int→Int→Option (Int)
 | 0,_,_,_=>none
 | k + 1,x0,x1,x5=>if x5 < (x0.length:Int)then(if 0≤x5 then(if((y15 x0 x5).f0)=x1 then(if((y15 x0 x5).f1)=(wrap64 (x1 + 1))then(if(((y15 x0 x5).f2) != ((Int.tmod (wrap64 ((wrap64 (x1 + 1)) + 1)) 3) == 0))=true then(some (-1))else(laws_heldArcS.l0 k x0 (wrap64 ((wrap64 ((wrap64 (x1 + 1)) + 1)) + 1)) (wrap64 (x5 + 1))))else(some (-1)))else(some (-1)))else(none))else(some x1)
def laws_heldArcS.f (k:Nat) (l0:List (S53)) (a1:Int):Option (Int):=laws_heldArcS.l0 k l0 a1 0
set_option maxHeartbeats 8000000 in
set_option maxRecDepth 100000 in
theorem laws_heldArcS.calls (k:Nat) (A0:Option Addr) (c0:Nat) (l0:List (S53)) (a1:Int) (r:Int) (w:World) (Bl:Kd.C k53 w A0 l0.length l0) (Bm:l0.length≤c0) (h:laws_heldArcS.f k l0 a1=some r) :
  Calls Try.prog 33 #[.slice A0 l0.length c0,.int .i64 a1] w fun e w'=>e=.returned (.int .i64 r)∧Drawn0 w w':=by
 have Ay:=y0.mk Bl
 have Bq:=y0.mk Bm
 clear Bl Bm
 have H:(laws_heldArcS.l0 k l0 a1 0)=some r:=h
 clear h
 have H':=y0.mk H
 clear H
 go_enter Try.func33,Try.ntmps33
 go_wp2
 go_loopg [1,5] k (fun kq v1 v5 w'=>∃(Ab:Int) (Aa:Int),v1=.int .i64 Ab∧v5=.int .i64 Aa∧y0 (laws_heldArcS.l0 kq l0 Ab Aa=some r)∧y0 (kq≤k)∧Drawn0 w w')
 case atStart=>exact⟨(a1),(0),qy2,qy2,H',⟨Nat.le_refl _⟩,by repeat(first|exact Drawn0.refl _|apply Drawn0.step)⟩
 case round =>
  clear H'
  obtain⟨Ab,Aa,rfl,rfl,HA,Bn,⟨m1,rfl⟩⟩:=hrel
  cases gk with
  | zero=>exact absurd HA.out (by simp [laws_heldArcS.l0])
  | succ k1 =>
   have H:=HA.out
   clear HA
   simp only [laws_heldArcS.l0]at H
   by_cases c3:Aa < (l0.length:Int)
   ·rw [if_pos c3]at H
    have Bd:=decide_eq_true c3
    clear c3
    obtain⟨c4,H⟩:=qo H
    have Bo:decide (0≤Aa)=true:=decide_eq_true c4
    clear c4
    by_cases c5:((y15 l0 Aa).f0)=Ab
    ·rw [if_pos c5]at H
     have Be:(((y15 l0 Aa).f0) == Ab)=true:=beq_iff_eq.mpr c5
     have Bf:(((y15 l0 Aa).f0) != Ab)=false:=bne_eq_false_iff_eq.mpr c5
     clear c5
     by_cases c6:((y15 l0 Aa).f1)=(wrap64 (Ab + 1))
     ·rw [if_pos c6]at H
      have Bg:(((y15 l0 Aa).f1) == (wrap64 (Ab + 1)))=true:=beq_iff_eq.mpr c6
      have Bh:(((y15 l0 Aa).f1) != (wrap64 (Ab + 1)))=false:=bne_eq_false_iff_eq.mpr c6
      clear c6
      by_cases c7:(((y15 l0 Aa).f2) != ((Int.tmod (wrap64 ((wrap64 (Ab + 1)) + 1)) 3) == 0))=true
      ·rw [if_pos c7]at H
       have Bi:(((y15 l0 Aa).f2) != ((Int.tmod (wrap64 ((wrap64 (Ab + 1)) + 1)) 3) == 0))=true:=c7
       (try(have Bj:decide (((y15 l0 Aa).f2)=((Int.tmod (wrap64 ((wrap64 (Ab + 1)) + 1)) 3) == 0))=false:=by simpa using c7))
       (try(have Bk:(((y15 l0 Aa).f2) == ((Int.tmod (wrap64 ((wrap64 (Ab + 1)) + 1)) 3) == 0))=false:=by simpa using c7))
       (try(have Bp:¬(((y15 l0 Aa).f2)=((Int.tmod (wrap64 ((wrap64 (Ab + 1)) + 1)) 3) == 0)):=by simpa using c7))
       clear c7
       obtain rfl:=Option.some.inj H
       have Ac:0≤(Aa:Int):=of_decide_eq_true qy0
       have Ad:Aa < (l0.length:Int):=of_decide_eq_true qy0
       obtain⟨Ae,Ao,Aj,Ak,Al⟩:=at_T53 Ay.out Aa Ac Ad
       cases Ao
       replace Ac:=eq_true Ac
       replace Ad:=eq_true Ad
       have Af:0≤(Aa:Int):=of_decide_eq_true qy0
       have Ai:Aa < (l0.length:Int):=of_decide_eq_true qy0
       obtain⟨Am,Au,Ar,As,At⟩:=at_T53 Ay.out Aa Af Ai
       obtain rfl:Ae=Am:=(by injection Au)
       replace Af:=eq_true Af
       replace Ai:=eq_true Ai
       have Ap:0≤(Aa:Int):=of_decide_eq_true qy0
       have Aq:Aa < (l0.length:Int):=of_decide_eq_true qy0
       obtain⟨Aw,Bc,Az,Ba,Bb⟩:=at_T53 Ay.out Aa Ap Aq
       obtain rfl:Ae=Aw:=(by injection Bc)
       replace Ap:=eq_true Ap
       replace Aq:=eq_true Aq
       go_wp2
       go_ret
       exact qf2
      ·rw [if_neg c7]at H
       have Bi:(((y15 l0 Aa).f2) != ((Int.tmod (wrap64 ((wrap64 (Ab + 1)) + 1)) 3) == 0))=false:=by simpa using c7
       (try(have Bj:decide (((y15 l0 Aa).f2)=((Int.tmod (wrap64 ((wrap64 (Ab + 1)) + 1)) 3) == 0))=true:=by simpa using c7))
       (try(have Bk:(((y15 l0 Aa).f2) == ((Int.tmod (wrap64 ((wrap64 (Ab + 1)) + 1)) 3) == 0))=true:=by simpa using c7))
       clear c7
       have H':=y0.mk H
       clear H
       have Ac:0≤(Aa:Int):=of_decide_eq_true qy0
       have Ad:Aa < (l0.length:Int):=of_decide_eq_true qy0
       obtain⟨Ae,Ao,Aj,Ak,Al⟩:=at_T53 Ay.out Aa Ac Ad
       cases Ao
       replace Ac:=eq_true Ac
       replace Ad:=eq_true Ad
       have Af:0≤(Aa:Int):=of_decide_eq_true qy0
       have Ai:Aa < (l0.length:Int):=of_decide_eq_true qy0
       obtain⟨Am,Au,Ar,As,At⟩:=at_T53 Ay.out Aa Af Ai
       obtain rfl:Ae=Am:=(by injection Au)
       replace Af:=eq_true Af
       replace Ai:=eq_true Ai
       have Ap:0≤(Aa:Int):=of_decide_eq_true qy0
       have Aq:Aa < (l0.length:Int):=of_decide_eq_true qy0
       obtain⟨Aw,Bc,Az,Ba,Bb⟩:=at_T53 Ay.out Aa Ap Aq
       obtain rfl:Ae=Aw:=(by injection Bc)
       replace Ap:=eq_true Ap
       replace Aq:=eq_true Aq
       go_wp2
       go_roundg k1
       case measure=>have:=Bn.out;omega
       exact⟨(wrap64 ((wrap64 ((wrap64 (Ab + 1)) + 1)) + 1)),(wrap64 (Aa + 1)),qy2,qy2,H',⟨by have:=Bn.out;omega⟩,by repeat(first|exact Drawn0.refl _|apply Drawn0.step)⟩
     ·rw [if_neg c6]at H
      have Bg:(((y15 l0 Aa).f1) == (wrap64 (Ab + 1)))=false:=beq_eq_false_iff_ne.mpr c6
      have Bh:(((y15 l0 Aa).f1) != (wrap64 (Ab + 1)))=true:=bne_iff_ne.mpr c6
      obtain rfl:=Option.some.inj H
      have Ac:0≤(Aa:Int):=of_decide_eq_true qy0
      have Ad:Aa < (l0.length:Int):=of_decide_eq_true qy0
      obtain⟨Ae,Ao,Aj,Ak,Al⟩:=at_T53 Ay.out Aa Ac Ad
      cases Ao
      replace Ac:=eq_true Ac
      replace Ad:=eq_true Ad
      have Af:0≤(Aa:Int):=of_decide_eq_true qy0
      have Ai:Aa < (l0.length:Int):=of_decide_eq_true qy0
      obtain⟨Am,Au,Ar,As,At⟩:=at_T53 Ay.out Aa Af Ai
      obtain rfl:Ae=Am:=(by injection Au)
      replace Af:=eq_true Af
      replace Ai:=eq_true Ai
      go_wp2
      go_ret
      exact qf2
    ·rw [if_neg c5]at H
     have Be:(((y15 l0 Aa).f0) == Ab)=false:=beq_eq_false_iff_ne.mpr c5
     have Bf:(((y15 l0 Aa).f0) != Ab)=true:=bne_iff_ne.mpr c5
     obtain rfl:=Option.some.inj H
     have Ac:0≤(Aa:Int):=of_decide_eq_true qy0
     have Ad:Aa < (l0.length:Int):=of_decide_eq_true qy0
     obtain⟨Ae,Ao,Aj,Ak,Al⟩:=at_T53 Ay.out Aa Ac Ad
     cases Ao
     replace Ac:=eq_true Ac
     replace Ad:=eq_true Ad
     go_wp2
     go_ret
     exact qf2
   ·rw [if_neg c3]at H
    have Bd:=decide_eq_false c3
    clear c3
    obtain rfl:=Option.some.inj H
    go_wp2
    go_ret
    exact qf2
end Go.Proofs.Ytcckpjflbfofjaa.Pd
end
section
namespace Go.Proofs.Ytcckpjflbfofjaa.Pd
open Go.RowKit Go.Proofs.YtcckpjflbfofjaaW.PrintWords Go.Proofs.YtcckpjflbfofjaaW.PrintLast Go.Proofs.YtcckpjflbfofjaaW.PrintMore
attribute [local go_sem] max2_int min2_int max_two min_two max_three min_three max_four min_four   -- for this text's walks alone
set_option linter.unusedVariables false
set_option linter.unusedSimpArgs false
def laws_szGraphS.l0:Nat→List (S24)→Int→Int→Option (Int)
 | 0,_,_,_=>none
 | k + 1,x0,x1,x5=>if x5 < (x0.length:Int)then(if 0≤x5 then((laws_szGraph.f ((rd_T24 x0 x5).f0) ((rd_T24 x0 x5).f1) ((rd_T24 x0 x5).f2) x1).bind fun t467=>(if t467 < 0 then(some (-1))else(laws_szGraphS.l0 k x0 t467 (wrap64 (x5 + 1)))))else(none))else(some x1)
def laws_szGraphS.f (k:Nat) (l0:List (S24)) (a1:Int):Option (Int):=if(wrap64 (a1 - (l0.length:Int))) < 0 then(some (-1))else(laws_szGraphS.l0 k l0 (wrap64 (a1 - (l0.length:Int))) 0)
set_option maxHeartbeats 8000000 in
set_option maxRecDepth 100000 in
theorem laws_szGraphS.calls (k:Nat) (A0:Option Addr) (c0:Nat) (l0:List (S24)) (a1:Int) (r:Int) (w:World) (Aw:Kd.C k24 w A0 l0.length l0) (Ay:l0.length≤c0) (h:laws_szGraphS.f k l0 a1=some r) :
  Calls Try.prog 19 #[.slice A0 l0.length c0,.int .i64 a1] w fun e w'=>e=.returned (.int .i64 r)∧Below w.heap.size w w':=by
 have Bb:=Try.underlying24
 have Bc:=y0.mk Aw
 have Be:=y0.mk Ay
 clear Aw Ay
 have HB:=y0.mk (Below.refl w.heap.size w)
 have H:(if(wrap64 (a1 - (l0.length:Int))) < 0 then(some (-1))else(laws_szGraphS.l0 k l0 (wrap64 (a1 - (l0.length:Int))) 0))=some r:=h
 clear h
 by_cases c3:(wrap64 (a1 - (l0.length:Int))) < 0
 ·rw [if_pos c3]at H
  have Ar:=decide_eq_true c3
  clear c3
  obtain rfl:=Option.some.inj H
  go_enter Try.func19,Try.ntmps19
  go_wp2
  go_ret
  exact⟨qf,qb⟩
 ·rw [if_neg c3]at H
  have Ar:=decide_eq_false c3
  clear c3
  have H':=y0.mk H
  clear H
  go_enter Try.func19,Try.ntmps19
  go_wp2
  go_loopg [1,5] k (fun kq v1 v5 w'=>∃(Ae:Int) (Aa:Int),v1=.int .i64 Ae∧v5=.int .i64 Aa∧y0 (laws_szGraphS.l0 kq l0 Ae Aa=some r)∧y0 (kq≤k)∧y0 (Below w.heap.size w w'))
  case atStart=>exact⟨(wrap64 (a1 - (l0.length:Int))),(0),qy2,qy2,H',⟨Nat.le_refl _⟩,⟨qb⟩⟩
  case round =>
   clear H'
   (try clear Ar)
   obtain⟨Ae,Aa,rfl,rfl,HA,Az,HB⟩:=hrel
   cases gk with
   | zero=>exact absurd HA.out (by simp [laws_szGraphS.l0])
   | succ k1 =>
    have H:=HA.out
    clear HA
    simp only [laws_szGraphS.l0]at H
    by_cases c4:Aa < (l0.length:Int)
    ·rw [if_pos c4]at H
     have As:=decide_eq_true c4
     clear c4
     obtain⟨c5,H⟩:=qo H
     have Bd:decide (0≤Aa)=true:=decide_eq_true c5
     clear c5
     obtain⟨Ao,A6,H⟩:=qB H
     have Ap:0≤(Aa:Int):=of_decide_eq_true qy0
     have Aq:Aa < (l0.length:Int):=of_decide_eq_true qy0
     obtain⟨Ba,Al,Am,At,Ab,Ac,Ad,Af,Ai⟩:=at_T24 Bc.out Aa Ap Aq
     cases At
     replace Ab:=(HB.out.cell (World.block_lt_of_cell? w _ Ab)).trans Ab
     replace Ac:=(HB.out.cell (World.block_lt_of_cell? w _ Ac)).trans Ac
     replace Ad:=(HB.out.cell (World.block_lt_of_cell? w _ Ad)).trans Ad
     have Aj:=y0.mk Ai
     have Ak:=y0.mk Af
     clear Ai Af
     replace Ap:=eq_true Ap
     replace Aq:=eq_true Aq
     by_cases c7:Ao < 0
     ·rw [if_pos c7]at H
      have Au:=decide_eq_true c7
      clear c7
      obtain rfl:=Option.some.inj H
      go_wp2_with (first|((with_reducible refine gate_callee (f:=7) rfl ?_);refine goesL_ (some 23) rfl rfl Try.func7 (by kernel_rfl) rfl #[.agg #[.int .i64 ((rd_T24 l0 Aa).f0),.int .i64 ((rd_T24 l0 Aa).f1),.slice Al ((rd_T24 l0 Aa).f2).length Am],.int .i64 Ae] rfl qy1 ?_;(with_reducible refine(laws_szGraph.calls ((rd_T24 l0 Aa).f0) ((rd_T24 l0 Aa).f1) _ _ ((rd_T24 l0 Aa).f2) Ae Ao _ (qc (Kd.C_below Aj.out HB.out)) Ak.out A6.out).mono ?_);rintro e w8 ⟨rfl,hb⟩;refine⟨_,rfl, ?_⟩;replace HB:=y0.mk (y4 qb hb);(try clear hb)))
      go_ret
      exact⟨qf,qb⟩
     ·rw [if_neg c7]at H
      have Au:=decide_eq_false c7
      clear c7
      have H':=y0.mk H
      clear H
      go_wp2_with (first|((with_reducible refine gate_callee (f:=7) rfl ?_);refine goesL_ (some 23) rfl rfl Try.func7 (by kernel_rfl) rfl #[.agg #[.int .i64 ((rd_T24 l0 Aa).f0),.int .i64 ((rd_T24 l0 Aa).f1),.slice Al ((rd_T24 l0 Aa).f2).length Am],.int .i64 Ae] rfl qy1 ?_;(with_reducible refine(laws_szGraph.calls ((rd_T24 l0 Aa).f0) ((rd_T24 l0 Aa).f1) _ _ ((rd_T24 l0 Aa).f2) Ae Ao _ (qc (Kd.C_below Aj.out HB.out)) Ak.out A6.out).mono ?_);rintro e w9 ⟨rfl,hb⟩;refine⟨_,rfl, ?_⟩;replace HB:=y0.mk (y4 qb hb);(try clear hb)))
      go_roundg k1
      case measure=>have:=Az.out;omega
      exact⟨(Ao),(wrap64 (Aa + 1)),qy2,qy2,H',⟨by have:=Az.out;omega⟩,⟨qb⟩⟩
    ·rw [if_neg c4]at H
     have As:=decide_eq_false c4
     clear c4
     obtain rfl:=Option.some.inj H
     go_wp2
     go_ret
     exact⟨qf,qb⟩
def laws_toGraphS.l0:Nat→List (S24)→List (S28)→Int→Option ((List (S28)))
 | 0,_,_,_=>none
 | k + 1,x0,x3,x4=>if x4 < (x0.length:Int)then(if 0≤x4 then((laws_toGraph.f k ((rd_T24 x0 x4).f0) ((rd_T24 x0 x4).f1) ((rd_T24 x0 x4).f2)).bind fun bt472=>(if x4 < (x3.length:Int)then(laws_toGraphS.l0 k x0 (x3.set (x4:Int).toNat (⟨bt472.1,bt472.2.1,bt472.2.2⟩:S28)) (wrap64 (x4 + 1)))else(none)))else(none))else(some x3)
def laws_toGraphS.f (k:Nat) (l0:List (S24)):Option ((List (S28))):=if 0≤(l0.length:Int)then(if((l0.length:Int):Int).toNat≤7036874417766 then(laws_toGraphS.l0 k l0 (List.replicate ((l0.length:Int):Int).toNat z28) 0)else(none))else(none)
set_option maxHeartbeats 8000000 in
set_option maxRecDepth 100000 in
theorem laws_toGraphS.calls (k:Nat) (A0:Option Addr) (c0:Nat) (l0:List (S24)) (r:List (S28)) (w:World) (Dc:Kd.C k24 w A0 l0.length l0) (Dd:l0.length≤c0) (h:laws_toGraphS.f k l0=some r) :
  Calls Try.prog 21 #[.slice A0 l0.length c0] w fun e w'=>∃ v0_:Value,e=.returned (v0_)∧Kd.S k28 28 w' w.heap.size (fun _=>True) v0_ r∧Below w.heap.size w w':=by
 have Dh:=Try.underlying24
 have Di:=Try.underlying28
 have Dj:=y0.mk Dc
 have Dq:=y0.mk Dd
 clear Dc Dd
 have HB:=y0.mk (Below.refl w.heap.size w)
 have H:(if 0≤(l0.length:Int)then(if((l0.length:Int):Int).toNat≤7036874417766 then(laws_toGraphS.l0 k l0 (List.replicate ((l0.length:Int):Int).toNat z28) 0)else(none))else(none))=some r:=h
 clear h
 obtain⟨c2,H⟩:=qo H
 have Cg:=eq_true c2
 have Ch:=decide_eq_true c2
 clear c2
 obtain⟨c3,H⟩:=qo H
 have Ci:=eq_true c3
 have Cj:=decide_eq_true c3
 clear c3
 obtain⟨Bs,Ak⟩:∃ y_:List (S28),y_=(List.replicate ((l0.length:Int):Int).toNat z28):=⟨_,rfl⟩
 replace H:(laws_toGraphS.l0 k l0 Bs 0)=some r:=by first|(rw [Ak];with_reducible exact H)|(have H2_:=(Option.bind_some _ _).symm.trans H;rw [Ak];with_reducible exact H2_)|(have H2_:=(Option.bind_some _ _).symm.trans H;with_reducible exact H2_)|with_reducible exact H|(rw [Ak];exact H)|exact H
 have Bc:=y0.mk Ak
 clear Ak
 have H':=y0.mk H
 clear H
 go_enter Try.func21,Try.ntmps21
 go_wp2_with (first|((with_reducible refine y12 (N:=7) rfl ?_);refine Kd.S_make k28 _ 28 rfl (N:=7) rfl 44 _ _ rfl (l0.length:Int) rfl rfl Try.underlying44 (.agg #[(.int .i64 0),(.int .i64 0),(.slice none 0 0)]) 40 info28 rfl (by decide) (by omega) z28 (ok:=fun _=>True) (okp:=fun _=>True) (k28_mkM _ _ _ z28 (Kd.R_nil _ _ _ _ _)) (fun _ hk=>hk) trivial (of_decide_eq_true qy0) (Nat.le_trans (Nat.mul_le_mul_right _ (of_decide_eq_true qy0:(l0.length:Int).toNat≤7036874417766)) (by omega)) (Below.refl _ _) (Nat.le_refl _) ?_;intro Ck w4 Bt hb hg_ hnew_;clear hg_ hnew_;(first|rw [← Bc.out]at Bt|(simp only [Int.reduceToNat]at Bt;rw [← Bc.out]at Bt));have Bu:=y0.mk (Kd.S_lower Bt (below_size qb));replace HB:=y0.mk (y4 qb hb);clear hb Bt))
 go_loopg [4] k (fun kq v4 w'=>∃(Ab:List (S28)) (Aa:Int),v4=.int .i64 Aa∧y0 (laws_toGraphS.l0 kq l0 Ab Aa=some r)∧y0 (kq≤k)∧y0 (Kd.S k28 28 w' w.heap.size (fun _=>True) Ck Ab)∧y0 (Below w.heap.size w w'))
 case atStart=>exact⟨(Bs),(0),qy2,H',⟨Nat.le_refl _⟩,⟨qS Bu.out⟩,⟨qb⟩⟩
 case round =>
  clear H'
  (try clear Cg Ch Ci Cj)
  obtain⟨Ab,Aa,rfl,HA,De,Ac,HB⟩:=hrel
  cases gk with
  | zero=>exact absurd HA.out (by simp [laws_toGraphS.l0])
  | succ k1 =>
   have H:=HA.out
   clear HA
   simp only [laws_toGraphS.l0]at H
   by_cases c6:Aa < (l0.length:Int)
   ·rw [if_pos c6]at H
    have Cl:=decide_eq_true c6
    clear c6
    obtain⟨c7,H⟩:=qo H
    have Dk:decide (0≤Aa)=true:=decide_eq_true c7
    clear c7
    obtain⟨⟨Am,Ao,Aw⟩,A8,H⟩:=qB H
    replace H:(if Aa < (Ab.length:Int)then(laws_toGraphS.l0 k1 l0 (Ab.set (Aa:Int).toNat (⟨Am,Ao,Aw⟩:S28)) (wrap64 (Aa + 1)))else(none))=some r:=H
    obtain⟨c9,H⟩:=qo H
    have Dl:decide (Aa < (Ab.length:Int))=true:=decide_eq_true c9
    clear c9
    obtain⟨Bd,Al⟩:∃ y_:List (S28),y_=(Ab.set (Aa:Int).toNat (⟨Am,Ao,Aw⟩:S28)):=⟨_,rfl⟩
    replace H:(laws_toGraphS.l0 k1 l0 Bd (wrap64 (Aa + 1)))=some r:=by first|(rw [Al];with_reducible exact H)|(have H2_:=(Option.bind_some _ _).symm.trans H;rw [Al];with_reducible exact H2_)|(have H2_:=(Option.bind_some _ _).symm.trans H;with_reducible exact H2_)|with_reducible exact H|(rw [Al];exact H)|exact H
    have Bv:=y0.mk Al
    clear Al
    have H':=y0.mk H
    clear H
    have Be:0≤(Aa:Int):=of_decide_eq_true qy0
    have Bf:Aa < (l0.length:Int):=of_decide_eq_true qy0
    obtain⟨Df,Bg,Bh,Cm,Af,Ai,Aj,Ap,Aq⟩:=at_T24 Dj.out Aa Be Bf
    cases Cm
    replace Af:=(HB.out.cell (World.block_lt_of_cell? w _ Af)).trans Af
    replace Ai:=(HB.out.cell (World.block_lt_of_cell? w _ Ai)).trans Ai
    replace Aj:=(HB.out.cell (World.block_lt_of_cell? w _ Aj)).trans Aj
    have Ay:=y0.mk Aq
    have Az:=y0.mk Ap
    clear Aq Ap
    replace Be:=eq_true Be
    replace Bf:=eq_true Bf
    go_wp2_with (first|((with_reducible refine gate_callee (f:=9) rfl ?_);refine goesL_ (some 20) rfl rfl Try.func9 (by kernel_rfl) rfl #[.agg #[.int .i64 ((rd_T24 l0 Aa).f0),.int .i64 ((rd_T24 l0 Aa).f1),.slice Bg ((rd_T24 l0 Aa).f2).length Bh]] rfl qy1 ?_;(with_reducible refine(laws_toGraph.calls k1 ((rd_T24 l0 Aa).f0) ((rd_T24 l0 Aa).f1) _ _ ((rd_T24 l0 Aa).f2) Am Ao Aw _ (qc (Kd.C_below Ay.out HB.out)) Az.out A8.out).mono ?_);rintro e Ba ⟨Bb,rfl,Cn,hb⟩;refine⟨_,rfl, ?_⟩;replace Ac:=y0.mk (Kd.S_elder' (qS Ac.out) (Kd.R_base Cn) hb);have Ae:=y0.mk (Kd.R_lower Cn (below_size qb));replace HB:=y0.mk (y4 qb hb);(try clear hb);(try clear Cn);have Co:0≤(Aa:Int):=of_decide_eq_true qy0;have Cp:(Aa:Int) < ((Ab.length:Int):Int):=of_decide_eq_true qy0;obtain⟨Ad,Bw,Bx,Bz,Cq,Dm,Ca⟩:=Kd.S_form Ac.out (by omega);(first|cases Bx|(injection Bx with ea_ en_ ec_;(first|subst ea_|(injection ea_ with ea_;subst ea_));subst ec_;clear en_));have Bi:=y0.mk Bz;have Dn:=y0.mk Ca;clear Bz Cq Ca;obtain⟨_,Do,Cb,Cc,Ar,As,_,_⟩:=Kd.S_elem Ac.out z28 (Aa:Int) Co Cp;obtain⟨Bj,rfl,Cr⟩:=k28_openM Cc;have Cs:Ba.cell? ⟨Ad,(Aa:Int).toNat * 3,none⟩=some (.int .i64 ((y14 Ab Aa).f0)):=Ar 0 _ rfl;have Ct:Ba.cell? ⟨Ad,(Aa:Int).toNat * 3 + 1,none⟩=some (.int .i64 ((y14 Ab Aa).f1)):=Ar 1 _ rfl;have Cu:Ba.cell? ⟨Ad,(Aa:Int).toNat * 3 + 2,none⟩=some (Bj):=Ar 2 _ rfl;have Cv:Ba.frozen? ⟨Ad,(Aa:Int).toNat * 3,none⟩=false:=As 0;have Cw:Ba.frozen? ⟨Ad,(Aa:Int).toNat * 3 + 1,none⟩=false:=As 1;have Cx:Ba.frozen? ⟨Ad,(Aa:Int).toNat * 3 + 2,none⟩=false:=As 2;clear Cb Ar As Cc;replace Co:=eq_true Co;replace Cp:=eq_true Cp;have n_:=y0.mk (Kd.S_mono (ok':=(fun k_=>some k_≠(Bb:Value).ownBlock)) Ac.out (fun k_ hk=>hk.2));clear Ac;have Ac:=n_;clear n_;have Cy:=y0.mk (show Kd.S k28 28 Ba w.heap.size (fun k_=>((fun _=>True)) k_∧¬((fun k_=>some k_=(Bb:Value).ownBlock)) k_) (.slice (some ⟨Ad,0,none⟩) Ab.length Bw) Ab from(qS (Kd.S_mono Ac.out (fun k_ hk=>⟨trivial,fun e_=>hk e_⟩))));obtain⟨Dg,Dp,Cd,Ce,At,Au,Bk,Cf⟩:=Kd.S_elem Cy.out z28 (Aa:Int) (of_decide_eq_true qy0) (by have h_:(Aa:Int) < ((Ab.length:Int):Int):=of_decide_eq_true qy0;first|exact h_|(have e_:=(Kd.S_reads' Ac.out).1;omega)|simpa using h_);obtain⟨Cz,rfl,Da⟩:=k28_openM Ce;have Bl:=Kd.S_seg Cf (of_decide_eq_true qy0) (by have h_:(Aa:Int) < ((Ab.length:Int):Int):=of_decide_eq_true qy0;first|exact h_|(have e_:=(Kd.S_reads' Ac.out).1;omega)|simpa using h_) (seg:=[.int .i64 Am,.int .i64 Ao,Bb]) (j:=0) (show 3≤3 from by decide) (x':=(⟨Am,Ao,Aw⟩:S28)) (k28_mkM _ _ _ (⟨Am,Ao,Aw⟩:S28) (Kd.R_mono (Kd.R_tight rfl (Kd.R_mono (ok':=fun k_=>((fun _=>True)) k_∧k_≠Ad) (Kd.R_apart' (Ae.out) (Kd.S_typed Ac.out) (by decide)) (fun k_ hk=>⟨trivial,fun e_=>(hk.2) (by rw [e_];rfl)⟩))) (fun _ h_=>Or.inr (h_)))) (fun _ hk=>hk) (fun k_ hk_=>((Kd.R_mono (ok':=fun k_=>((fun _=>True)) k_∧k_≠Ad) (Kd.R_apart' (Ae.out) (Kd.S_typed Ac.out) (by decide)) (fun k_ hk=>⟨trivial,fun e_=>(hk.2) (by rw [e_];rfl)⟩))).1 k_ hk_.symm);have Bm:=At 0 _ rfl;(try simp only [show(k28).sz=3 from rfl,Nat.mul_one,Nat.add_zero]at Bm);have Bn:=Au 0;(try simp only [show(k28).sz=3 from rfl,Nat.mul_one,Nat.add_zero]at Bn);have Bo:=At 1 _ rfl;(try simp only [show(k28).sz=3 from rfl,Nat.mul_one,Nat.add_zero]at Bo);have Bp:=Au 1;(try simp only [show(k28).sz=3 from rfl,Nat.mul_one,Nat.add_zero]at Bp);have Bq:=At 2 _ rfl;(try simp only [show(k28).sz=3 from rfl,Nat.mul_one,Nat.add_zero]at Bq);have Br:=Au 2;(try simp only [show(k28).sz=3 from rfl,Nat.mul_one,Nat.add_zero]at Br);clear Cd At Au Ce Bk Cf)|((with_reducible refine gate_store (t:=28) (p:=21) rfl ?_);refine store_event (t:=28) (p:=21) (v:=?vo_w13) (w1:=(((Ba.setCell ⟨Ad,(Aa:Int).toNat * 3,none⟩ (.int .i64 Am)).setCell ⟨Ad,(Aa:Int).toNat * 3 + 1,none⟩ (.int .i64 Ao)).setCell ⟨Ad,(Aa:Int).toNat * 3 + 2,none⟩ (Bb))) ?hg ?ho ?hn ?hr ?_;(case ho=>rfl);(case hg=>rfl);(case hn=>rfl);(case hr=>(first|(obtain⟨_,_,eo_⟩:=Kd.R_slice Ae.out;subst eo_)|(obtain⟨_,_,eo_⟩:=Kd.S_slice Ae.out;subst eo_)|(obtain⟨_,_,eo_⟩:=Kd.N_slice Ae.out;subst eo_)|skip);first|(go_simp;done)|(go_simp;rfl));intro Db hw;have hg:Ba.grownBy Db (some Ad):=(by rw [hw];exact Bl.2);have hp_:Kd.S k28 28 Db w.heap.size (fun _=>True) (.slice (some ⟨Ad,0,none⟩) Ab.length Bw) Bd:=(by rw [hw,Bv.out];exact Bl.1);clear Bl;replace Ac:=y0.mk (hp_);replace HB:=y0.mk ((by rw [hw];exact y3 (y3 (y3 (HB.out) Bi.out) Bi.out) Bi.out:Below w.heap.size w Db));clear Ae;clear hg hw hp_))
    go_roundg k1
    case measure=>have:=De.out;omega
    exact⟨(Bd),(wrap64 (Aa + 1)),qy2,H',⟨by have:=De.out;omega⟩,⟨qS Ac.out⟩,⟨qb⟩⟩
   ·rw [if_neg c6]at H
    have Cl:=decide_eq_false c6
    clear c6
    obtain rfl:=Option.some.inj H
    go_wp2
    go_ret
    exact⟨_,by first|rfl|(simp [errW_none,errW_some] <;> rfl)|(simp [*,errW_none,errW_some] <;> rfl),by(with_reducible repeat(first|apply Kd.S_alloc|apply Kd.S_drewN|apply Kd.S_drew));exact Ac.out,qb⟩
def impl_closed_1_1.f (k:Nat) (a0_0:Int) (a0_1:Int) (l0_2:List (S53)) (a1_0:Int) (a1_1:Int) (l1_2:List (S53)):Option (Bool):=(impl_sameGraph.f k a0_0 a0_1 l0_2 a1_0 a1_1 l1_2).bind fun t479=>(some t479)
set_option maxHeartbeats 8000000 in
set_option maxRecDepth 100000 in
theorem impl_closed_1_1.calls (k:Nat) (Ac:Int) (Ad:Int) (Aj:Option Addr) (Ak:Nat) (Aa:List (S53)) (Ae:Int) (Af:Int) (As:Option Addr) (At:Nat) (Ab:List (S53)) (g1:Nat) (r:Bool) (w:World) (Ao:Kd.C k53 w Aj Aa.length Aa) (Ap:Aa.length≤Ak) (Aq:Kd.C k53 w As Ab.length Ab) (Ar:Ab.length≤At) (Ay:w.heap[g1]?=some (.cells #[.int .i64 Ae,.int .i64 Af,.slice As Ab.length At] 28 (0,0))) (h:impl_closed_1_1.f k Ac Ad Aa Ae Af Ab=some r) :
  Calls Try.prog 54 #[.agg #[.int .i64 Ac,.int .i64 Ad,.slice Aj Aa.length Ak],.pointer (some ⟨g1,0,none⟩)] w fun e w'=>e=.returned (.bool r)∧Below w.heap.size w w':=by
 have Bs:=Try.underlying28
 have Az:=y0.mk Ao
 have Ba:=y0.mk Ap
 clear Ao Ap
 have Bb:=y0.mk Aq
 have Bc:=y0.mk Ar
 clear Aq Ar
 have Au:=y0.mk Ay
 clear Ay
 have HB:=y0.mk (Below.refl w.heap.size w)
 have H:((impl_sameGraph.f k Ac Ad Aa Ae Af Ab).bind fun Aw=>(some Aw))=some r:=h
 clear h
 obtain⟨Aw,A3,H⟩:=qB H
 obtain rfl:=Option.some.inj H
 go_enter Try.func54,Try.ntmps54
 go_wp2_with (first|((with_reducible refine y12 (N:=2) rfl ?_);refine qe 2 #[.int .i64 Ac,.int .i64 Ad,.slice Aj Aa.length Ak] 28 ?_;intro Bp hg w4 hbox hb;have Ai:=y0.mk (hbox);have Bq:=y0.mk (qg (w:=w) hg);have Br:=y0.mk (qg (w:=w) hg);replace HB:=y0.mk (y4 qb hb);have Al:=y0.mk (qn Au.out hg);have Am:=y0.mk (qm Au.out hg);replace Au:=y0.mk (qK Au.out hb);clear hb hbox hg;have Bt:=Am.out;have Bu:=Al.out;obtain⟨Bd,Be,Bf,Bg,Bh,Bi⟩:=qz3 Ai.out;obtain⟨Bj,Bk,Bl,Bm,Bn,Bo⟩:=qz3 Au.out)|((with_reducible refine gate_callee (f:=46) rfl ?_);refine goesL_ (some 6) rfl rfl Try.func46 (by kernel_rfl) rfl #[.agg #[.int .i64 Ac,.int .i64 Ad,.slice Aj Aa.length Ak],.agg #[.int .i64 Ae,.int .i64 Af,.slice As Ab.length At]] rfl qy1 ?_;(with_reducible refine(impl_sameGraph.calls k Ac Ad _ _ Aa Ae Af _ _ Ab Aw _ (qc (Kd.C_below Az.out HB.out)) Ba.out (qc (Kd.C_below Bb.out HB.out)) Bc.out A3.out).mono ?_);rintro e w8 ⟨rfl,hb⟩;refine⟨_,rfl, ?_⟩;replace Au:=y0.mk (qK Au.out hb);replace Ai:=y0.mk (qK Ai.out hb);replace HB:=y0.mk (y4 qb hb);(try clear hb)))
 go_ret
 exact⟨qf,qb⟩
end Go.Proofs.Ytcckpjflbfofjaa.Pd
end
section
namespace Go.Proofs.Ytcckpjflbfofjaa.Pd
open Go.RowKit Go.Proofs.YtcckpjflbfofjaaW.PrintWords Go.Proofs.YtcckpjflbfofjaaW.PrintLast Go.Proofs.YtcckpjflbfofjaaW.PrintMore
attribute [local go_sem] max2_int min2_int max_two min_two max_three min_three max_four min_four   -- for this text's walks alone
set_option linter.unusedVariables false
set_option linter.unusedSimpArgs false
set_option maxHeartbeats 8000000 in
set_option maxRecDepth 100000 in
theorem slices_IndexFunc_closed.calls (k:Nat) (A0:Option Addr) (c0:Nat) (l0:List (S28)) (g:Nat) (b0 b1:Int) (A1:Option Addr) (c1:Nat) (l1:List (S53)) (sb:S28→Bool) (w:World) (Ad:Kd.C k28 w A0 l0.length l0) (Ae:l0.length≤c0) (Af:Kd.C k53 w A1 l1.length l1) (Ai:l1.length≤c1)
  (Aj:w.heap[g]?=some (.cells #[.int .i64 b0,.int .i64 b1,.slice A1 l1.length c1] 28 (0,0))) (hs:∀ x∈l0,impl_sameGraph.f k x.f0 x.f1 x.f2 b0 b1 l1=some (sb x)) (hn:l0.length≤281474976710656) :
  Calls Try.prog 61 #[.slice A0 l0.length c0,.func (.func 54) #[] #[.pointer (some ⟨g,0,none⟩)]] w fun e w'=>∃ r:Int,e=.returned (.int .i64 r)∧decide (r≥0)=l0.any sb∧Below w.heap.size w w':=by
 have Ak:=Try.underlying28
 have Al:=y0.mk Ad
 have Ar:=y0.mk Ae
 have Am:=y0.mk Af
 have Ao:=y0.mk Ai
 have Ap:=y0.mk Aj
 have HS:=y0.mk hs
 have HN:=y0.mk hn
 clear Ad Ae Af Ai Aj hs hn
 have HB:=y0.mk (Below.refl w.heap.size w)
 go_enter Try.func61,Try.ntmps61
 go_wp2
 go_loopg [8] l0.length (fun kq v8 w'=>∃(xi:Int) (i:Nat),v8=.int .i64 xi∧y0 (xi=(i:Int))∧y0 (kq + i=l0.length)∧y0 (l0.any sb=(l0.drop i).any sb)∧y0 (Below w.heap.size w w'))
 case atStart=>exact⟨0,0,rfl,⟨rfl⟩,⟨Nat.add_zero _⟩,⟨by rw [List.drop_zero]⟩,HB⟩
 case round =>
  clear HB
  obtain⟨xi,i,rfl,HXI,HK,HD,HB⟩:=hrel
  by_cases c:xi < (l0.length:Int)
  ·have Aq:decide (xi < (l0.length:Int))=true:=decide_eq_true c
   have hi:i < l0.length:=by have:=HXI.out;omega
   have p1:0≤xi:=by have:=HXI.out;omega
   obtain⟨ad,Ax,cx,e1,Aa,Ab,Ac,hle,hCi⟩:=at_T28 Al.out xi p1 c
   have rg:y14 l0 xi=l0[i]:=by
    rw [HXI.out]
    unfold y14
    rw [show((i:Int)).toNat=i from rfl,List.getD_eq_getElem?_getD,List.getElem?_eq_getElem hi]
    rfl
   rw [rg]at Aa Ab Ac hle hCi
   have HSX:=y0.mk (HS.out _ (List.getElem_mem hi))
   have HDn:y0 (l0.any sb=(sb l0[i] || (l0.drop (i + 1)).any sb)):=⟨by rw [HD.out,List.drop_eq_getElem_cons hi,List.any_cons]⟩
   clear rg HD
   generalize l0[i]=x at Aa Ab Ac hle hCi HSX HDn
   have HI:=y0.mk hi
   have HCI:=y0.mk hCi
   have HLE:=y0.mk hle
   clear hi hCi hle
   cases e1
   replace Aa:=(HB.out.cell (World.block_lt_of_cell? w _ Aa)).trans Aa
   replace Ab:=(HB.out.cell (World.block_lt_of_cell? w _ Ab)).trans Ab
   replace Ac:=(HB.out.cell (World.block_lt_of_cell? w _ Ac)).trans Ac
   obtain⟨b,hb⟩:∃ b,sb x=b:=⟨_,rfl⟩
   rw [hb]at HSX HDn
   clear hb
   have HST:y0 (Calls Try.prog 54 #[.agg #[.int .i64 x.f0,.int .i64 x.f1,.slice Ax x.f2.length cx],.pointer (some ⟨g,0,none⟩)] wr fun e w'=>e=.returned (.bool b)∧Below wr.heap.size wr w'):=⟨impl_closed_1_1.calls k x.f0 x.f1 Ax cx x.f2 b0 b1 A1 c1 l1 g b wr (Kd.C_below HCI.out HB.out) HLE.out (Kd.C_below Am.out HB.out) Ao.out (y6 Ap.out HB.out) (by unfold impl_closed_1_1.f;rw [HSX.out];rfl)⟩
   have q1:=eq_true c
   replace p1:=eq_true p1
   clear c
   cases b with
   | true =>
    go_wp2_with (first|(go_at_call 54;(with_reducible refine HST.out.mono ?_);rintro e w8 ⟨rfl,hb⟩;replace HB:=y0.mk (y4 HB.out hb);clear hb))
    go_ret
    exact⟨_,by first|rfl|(simp [errW_none,errW_some] <;> rfl),by rw [HDn.out];exact decide_eq_true (by have:=HXI.out;omega),HB.out⟩
   | false =>
    go_wp2_with (first|(go_at_call 54;(with_reducible refine HST.out.mono ?_);rintro e w9 ⟨rfl,hb⟩;replace HB:=y0.mk (y4 HB.out hb);clear hb))
    go_roundg (l0.length - i - 1)
    case measure=>have:=HK.out;have:=HI.out;omega
    exact⟨wrap64 (xi + 1),i + 1,qy2,⟨by rw [HXI.out];exact QIv.step_u (by have:=HI.out;have:=HN.out;omega)⟩,⟨by have:=HK.out;have:=HI.out;omega⟩,⟨by rw [HDn.out];rfl⟩,HB⟩
  ·have Aq:decide (xi < (l0.length:Int))=false:=decide_eq_false c
   have HE:y0 (l0.any sb=false):=⟨by rw [HD.out,List.drop_of_length_le (by have:=HXI.out;have:=HK.out;omega)];rfl⟩
   go_wp2
   go_ret
   exact⟨_,by first|rfl|(simp [errW_none,errW_some] <;> rfl),by rw [HE.out];rfl,HB.out⟩
set_option maxHeartbeats 8000000 in
set_option maxRecDepth 100000 in
theorem slices_ContainsFunc_closed.calls (k:Nat) (A0:Option Addr) (c0:Nat) (l0:List (S28)) (g:Nat) (b0 b1:Int) (A1:Option Addr) (c1:Nat) (l1:List (S53)) (sb:S28→Bool) (w:World) (hr0:Kd.C k28 w A0 l0.length l0) (hc0:l0.length≤c0) (hr1:Kd.C k53 w A1 l1.length l1) (hc1:l1.length≤c1)
  (hb1:w.heap[g]?=some (.cells #[.int .i64 b0,.int .i64 b1,.slice A1 l1.length c1] 28 (0,0))) (hs:∀ x∈l0,impl_sameGraph.f k x.f0 x.f1 x.f2 b0 b1 l1=some (sb x)) (hn:l0.length≤281474976710656) :
  Calls Try.prog 53 #[.slice A0 l0.length c0,.func (.func 54) #[] #[.pointer (some ⟨g,0,none⟩)]] w fun e w'=>e=.returned (.bool (l0.any sb))∧Below w.heap.size w w':=by
 have HC:=y0.mk (slices_IndexFunc_closed.calls k A0 c0 l0 g b0 b1 A1 c1 l1 sb w hr0 hc0 hr1 hc1 hb1 hs hn)
 have HB:=y0.mk (Below.refl w.heap.size w)
 clear hs hb1 hr0 hr1 hn
 obtain⟨b,hb⟩:∃ b,l0.any sb=b:=⟨_,rfl⟩
 rw [hb]at HC ⊢
 clear hb
 go_enter Try.func53,Try.ntmps53
 go_wp2_with (first|(go_at_call 61;(with_reducible refine HC.out.mono ?_);rintro e w8 ⟨r,rfl,hr,hb⟩;have HR:=y0.mk hr;clear hr;replace HB:=y0.mk (y4 HB.out hb);clear hb))
 go_ret
 exact⟨by first|(rw [← HR.out];rfl)|(rw [← HR.out];simp [errW_none,errW_some];done),HB.out⟩
/-- A graph is put where it is not yet. -/
def addG (xs:List (S28)) (sb:S28→Bool) (g:S28):List (S28):=if xs.any sb=true then xs else xs ++ [g]
set_option maxHeartbeats 16000000 in
set_option maxRecDepth 100000 in
theorem impl_closed_1.calls (k:Nat) (b0 b1:Int) (A0:Option Addr) (c0:Nat) (l0:List (S53)) (go:Nat) (v:Value) (xs:List (S28)) (sb:S28→Bool) (w0 w:World) (Ar:Kd.C k53 w A0 l0.length l0) (As:l0.length≤c0) (hbo:w.heap[go]?=some (.cells #[v] 44 (0,0))) (hgo:w0.heap.size≤go) (hB:Below w0.heap.size w0 w) (hS:Kd.S k28 28 w w0.heap.size (fun _=>True) v xs)
  (hs:∀ x∈xs,impl_sameGraph.f k x.f0 x.f1 x.f2 b0 b1 l0=some (sb x)) (hn:xs.length≤2097152) (hl:l0.length≤1048576) :
  Calls Try.prog 52 #[.agg #[.int .i64 b0,.int .i64 b1,.slice A0 l0.length c0],.pointer (some ⟨go,0,none⟩)] w fun e w'=>e=.returned (.bool (!xs.any sb))∧∃ v1,w'.heap[go]?=some (.cells #[v1] 44 (0,0))∧Kd.S k28 28 w' w0.heap.size (fun _=>True) v1 (addG xs sb ⟨b0,b1,l0⟩)∧Below w0.heap.size w0 w'∧QClo.StepG go v v1 w w':=by
 have Ay:=Try.underlying28
 have Az:=Try.underlying44
 obtain⟨A,cx,rfl⟩:=Kd.S_slice hS
 have hSb:Kd.S k28 28 w w0.heap.size (fun k_=>k_ < w.heap.size) (.slice A xs.length cx) xs:=Kd.S_mono (Kd.S_bound hS) (fun _ hk=>hk.2.2.1)
 have hlt:=Kd.S_lt hS
 have hne:=Kd.S_ne hS hbo (by decide)
 have At:=y0.mk Ar
 have Ba:=y0.mk As
 have BKo:=y0.mk hbo
 have GEo:=y0.mk hgo
 have Ap:=y0.mk hB
 have HS:=y0.mk hSb
 have HLT:=y0.mk hlt
 have HNE:=y0.mk hne
 have HN:=y0.mk hn
 have HL:=y0.mk hl
 have HK:=y0.mk (Below.refl w.heap.size w)
 obtain⟨b,hb⟩:∃ b,xs.any sb=b:=⟨_,rfl⟩
 have HCF:y0 (∀(W:World) (g:Nat),Below w.heap.size w W→W.heap[g]?=some (.cells #[.int .i64 b0,.int .i64 b1,.slice A0 l0.length c0] 28 (0,0))→Calls Try.prog 53 #[.slice A xs.length cx,.func (.func 54) #[] #[.pointer (some ⟨g,0,none⟩)]] W fun e w'=>e=.returned (.bool b)∧Below W.heap.size W w'):=by
  refine⟨fun W g h1 h2=>?_⟩
  have h3:=slices_ContainsFunc_closed.calls k A cx xs g b0 b1 A0 c0 l0 sb W (Kd.S_reads' (Kd.S_below HS.out h1)).2.2 (Kd.S_reads' HS.out).2.1 (Kd.C_below At.out h1) Ba.out h2 hs (by omega)
  rw [hb]at h3
  exact h3
 have HAD:y0 (addG xs sb ⟨b0,b1,l0⟩=if b=true then xs else xs ++ [⟨b0,b1,l0⟩]):=⟨by unfold addG;rw [hb]⟩
 rw [hb]
 clear Ar As hbo hgo hB hS hSb hlt hne hs hn hl hb
 have hco:w.cell? ⟨go,0,none⟩=some (.slice A xs.length cx):=(y7 BKo.out 0).trans rfl
 go_enter Try.func52,Try.ntmps52
 cases b with
 | true =>
  go_wp2_with (first
   | ((with_reducible refine y12 (N:=2) rfl ?_);refine qe 2 #[.int .i64 b0,.int .i64 b1,.slice A0 l0.length c0] 28 ?_;intro gg hg w1 hbox hb;have BKg:=y0.mk hbox;have GEg:=y0.mk (by rw [hg];exact HK.out.size:w.heap.size≤gg);replace HK:=y0.mk (y4 HK.out hb);clear hb hg hbox hco;have hco:w1.cell? ⟨go,0,none⟩=some (.slice A xs.length cx):=(y7 (y6 BKo.out HK.out) 0).trans rfl)
   | (go_at_call 53;(with_reducible refine(HCF.out _ gg HK.out BKg.out).mono ?_);rintro e w2 ⟨rfl,hb⟩;replace BKg:=y0.mk (y6 BKg.out hb);replace HK:=y0.mk (y4 HK.out hb);clear hb hco;obtain⟨Aa,Ab,Ac,Ad,Ae,Af⟩:=QClo.bx3 BKg.out))
  go_ret
  exact⟨by first|rfl|(simp [errW_none,errW_some] <;> rfl),.slice A xs.length cx,y6 BKo.out HK.out,by rw [HAD.out];simp only [↓reduceIte];exact Kd.S_mono (Kd.S_below HS.out HK.out) (fun _ _=>trivial),y4 Ap.out HK.out,QClo.StepG.of_below HK.out⟩
 | false =>
  go_upto_region 4 with(first
   | ((with_reducible refine y12 (N:=2) rfl ?_);refine qe 2 #[.int .i64 b0,.int .i64 b1,.slice A0 l0.length c0] 28 ?_;intro gg hg w1 hbox hb;have BKg:=y0.mk hbox;have GEg:=y0.mk (by rw [hg];exact HK.out.size:w.heap.size≤gg);replace HK:=y0.mk (y4 HK.out hb);clear hb hg hbox hco;have hco:w1.cell? ⟨go,0,none⟩=some (.slice A xs.length cx):=(y7 (y6 BKo.out HK.out) 0).trans rfl)
   | (go_at_call 53;(with_reducible refine(HCF.out _ gg HK.out BKg.out).mono ?_);rintro e w2 ⟨rfl,hb⟩;replace BKg:=y0.mk (y6 BKg.out hb);replace HK:=y0.mk (y4 HK.out hb);clear hb hco;obtain⟨Aa,Ab,Ac,Ad,Ae,Af⟩:=QClo.bx3 BKg.out)
   | ((with_reducible refine y12 (N:=7) rfl ?_);refine Kd.R_lit k53 _ 53 ?hg (N:=7) ?hd (xs:=([]:List (S53))) (inner:=[]) (ok:=fun _=>True) (okp:=fun _=>True) ?hr ?hp (fun _ hk=>hk) trivial (Below.refl _ _) (Nat.le_refl _) (by simp) ?_;(case hd=>rfl);(case hg=>rfl);(case hr=>first|(go_simp;done)|(go_simp;rfl));(case hp=>exact(Reps.none _ _));intro v7 w3 ho hb hg_ hnew_;clear hg_ hnew_;(repeat first|clear Aa|clear Ab|clear Ac|clear Ad|clear Ae|clear Af|clear hco);have Au:=y0.mk ho;have Aq:=y0.mk hb;have Am:=y0.mk (y6 BKg.out hb);clear hb ho;obtain⟨Aa,Ab,Ac,Ad,Ae,Af⟩:=QClo.bx3 Am.out)
   | ((with_reducible refine gate_builtin (b:=.append) (xs:=#[.tmp 7,.tmp 9]) rfl ?_);at_builtin;refine Kd.R_append_rows k53 (w0:=w2) w2.heap.size rfl (.tmp 7) (.tmp 9) 26 53 (.agg #[(.int .i64 0),(.int .i64 0),(.bool false)]) 24 rfl Try.underlying26 info53 rfl (by decide) (by omega) v7 [] l0 _ _ _ (fun _=>True) (fun _=>False) rfl rfl ?aO ?aR (fun _ _ h=>h) (fun _ h=>h.elim) ?aF ?aB ?aS ?aL ?_;(case aR=>exact Kd.C_below At.out (y4 HK.out Aq.out));(case aB=>exact Aq.out);(case aF=>exact(fun _ _=>trivial));(case aO=>exact Au.out);(case aS=>exact Aq.out.size);(case aL=>have:=HL.out;simp only [List.length_nil];omega);intro Bc w4 ho hb hg hat;(repeat first|clear Aa|clear Ab|clear Ac|clear Ad|clear Ae|clear Af);rw [List.nil_append]at ho;obtain⟨Ai,Aj,e10_⟩:=Kd.R_slice ho;subst e10_;have Bb:=y0.mk HK.out.size;have Ak:=y0.mk ho;have Ao:y0 (∀ k_,some k_=(.slice Ai l0.length Aj:Value).ownBlock→w.heap.size≤k_):=⟨fun k_ hk=>Nat.le_trans HK.out.size (Kd.R_base ho k_ hk.symm)⟩;replace BKg:=y0.mk (y6 BKg.out hb);replace HK:=y0.mk (y4 HK.out hb);clear hb ho hg hat Au Aq Am;obtain⟨Aa,Ab,Ac,Ad,Ae,Af⟩:=QClo.bx3 BKg.out))
  (repeat first|clear Aa|clear Ab|clear Ac|clear Ad|clear Ae|clear Af)
  have n0_:y0 ((w4.setCell ⟨gg,2,none⟩ (.slice Ai l0.length Aj)).heap[gg]?=some (.cells #[.int .i64 b0,.int .i64 b1,.slice Ai l0.length Aj] 28 (0,0))):=⟨blk_set BKg.out 2 (.slice Ai l0.length Aj)⟩
  have n1_:=y0.mk (y3 HK.out GEg.out:Below w.heap.size w (w4.setCell ⟨gg,2,none⟩ (.slice Ai l0.length Aj)))
  have n2_:=y0.mk (Kd.R_set Ak.out BKg.out (by decide) 2 (.slice Ai l0.length Aj):Kd.R k53 53 (w4.setCell ⟨gg,2,none⟩ (.slice Ai l0.length Aj)) w2.heap.size (fun _=>True) (.slice Ai l0.length Aj) l0)
  clear BKg HK Ak
  generalize w4.setCell ⟨gg,2,none⟩ (.slice Ai l0.length Aj)=w5 at n0_ n1_ n2_ ⊢
  have BKg:=n0_
  have HK:=n1_
  have Ak:=n2_
  clear n0_ n1_ n2_
  have hco:w5.cell? ⟨go,0,none⟩=some (.slice A xs.length cx):=(y7 (y6 BKo.out HK.out) 0).trans rfl
  obtain⟨Aa,Ab,Ac,Ad,Ae,Af⟩:=QClo.bx3 BKg.out
  go_wp2_with (first
   | ((with_reducible refine gate_builtin (b:=.append) (xs:=#[.tmp 12,.tmp 14]) rfl ?_);at_builtin;refine QClo.S_append_kept k28 (w0:=w0) w0.heap.size rfl (.tmp 12) (.tmp 14) 44 28 (.agg #[(.int .i64 0),(.int .i64 0),(.slice none 0 0)]) 40 rfl Try.underlying44 info28 rfl (by decide) (by omega) (.slice A xs.length cx) xs (⟨b0,b1,l0⟩:S28) [.int .i64 b0,.int .i64 b1,.slice Ai l0.length Aj] (fun _=>True) (fun k_=>some k_=(.slice Ai l0.length Aj:Value).ownBlock) rfl rfl ?aP ?aK ?aF ?aO ?aB ?aS ?aL ?_;(case aP=>exact k28_mkM _ _ _ (⟨b0,b1,l0⟩:S28) (Kd.R_lower (Kd.R_tight rfl (qR Ak.out)) (Nat.le_trans Ap.out.size Bb.out)));(case aK=>exact(fun k_ hk=>⟨trivial,fun e_=>absurd (HLT.out k_ e_.symm) (Nat.not_lt_of_le (Ao.out k_ hk))⟩));(case aF=>exact(fun _ _=>trivial));(case aO=>exact(Kd.S_mono (Kd.S_below HS.out HK.out) (fun k_ hk=>⟨trivial,fun e_=>absurd hk (Nat.not_lt_of_le (Ao.out k_ e_))⟩)));(case aB=>exact(y4 Ap.out HK.out));(case aS=>exact(y4 Ap.out HK.out).size);(case aL=>have:=HN.out;omega);intro v1 w6 ho hb hg hat;obtain⟨A1,c1,e1_⟩:=Kd.S_slice ho;subst e1_;(repeat first|clear Aa|clear Ab|clear Ac|clear Ad|clear Ae|clear Af|clear hco);have HO:=y0.mk ho;have Aw:=y0.mk hb;have HGR:=y0.mk hg;have HAT:=y0.mk hat;have Al:=y0.mk (blk_grown (y6 BKo.out HK.out) hg HNE.out);clear ho hb hg hat;obtain⟨hco,hfo⟩:=QClo.bx1 Al.out))
  (repeat first|clear hco|clear hfo)
  have e9_:(xs ++ [(⟨b0,b1,l0⟩:S28)]).length=xs.length + 1:=by simp
  replace HO:=y0.mk (e9_ ▸ HO.out)
  replace HAT:=y0.mk (e9_ ▸ HAT.out)
  clear e9_
  have n0_:y0 ((w6.setCell ⟨go,0,none⟩ (.slice A1 (xs.length + 1) c1)).heap[go]?=some (.cells #[.slice A1 (xs.length + 1) c1] 44 (0,0))):=⟨blk_set Al.out 0 (.slice A1 (xs.length + 1) c1)⟩
  have n1_:=y0.mk (y3 Aw.out GEo.out:Below w0.heap.size w0 (w6.setCell ⟨go,0,none⟩ (.slice A1 (xs.length + 1) c1)))
  have n2_:=y0.mk (Kd.S_set HO.out Al.out (by decide) 0 (.slice A1 (xs.length + 1) c1):Kd.S k28 28 (w6.setCell ⟨go,0,none⟩ (.slice A1 (xs.length + 1) c1)) w0.heap.size (fun _=>True) (.slice A1 (xs.length + 1) c1) (xs ++ [(⟨b0,b1,l0⟩:S28)]))
  have n3_:y0 (QClo.StepG go (.slice A xs.length cx) (.slice A1 (xs.length + 1) c1) w (w6.setCell ⟨go,0,none⟩ (.slice A1 (xs.length + 1) c1))):=by
   have e1:(w6.setCell ⟨go,0,none⟩ (.slice A1 (xs.length + 1) c1)).heap.size=w6.heap.size:=by simp [World.setCell]
   have e2:∀ k_,k_≠go→(w6.setCell ⟨go,0,none⟩ (.slice A1 (xs.length + 1) c1)).heap[k_]?=w6.heap[k_]?:=fun k_ hk=>Below.heap_setCell w6 _ (.slice A1 (xs.length + 1) c1) k_ hk
   refine⟨⟨by rw [e1];exact Nat.le_trans HK.out.size HGR.out.size,fun k_ h1 h2 h3=>(e2 k_ h2).trans ((HGR.out.block k_ (Nat.lt_of_lt_of_le h1 HK.out.size) h3).trans (HK.out.block k_ h1)), ?_⟩⟩
   rcases HAT.out with h|⟨⟨b_,h1,h2⟩,h3⟩
   ·exact .inl h
   ·exact .inr ⟨⟨b_,h1,Nat.le_trans HK.out.size h2⟩,fun k_ h4 h5=>(e2 k_ h5).trans ((h3 k_ (Nat.lt_of_lt_of_le h4 HK.out.size)).trans (HK.out.block k_ h4))⟩
  clear HO Aw HGR HAT Al BKo HK Ak HS
  generalize w6.setCell ⟨go,0,none⟩ (.slice A1 (xs.length + 1) c1)=w7 at n0_ n1_ n2_ n3_ ⊢
  go_ret
  exact⟨by first|rfl|(simp [errW_none,errW_some] <;> rfl),(.slice A1 (xs.length + 1) c1),n0_.out,by rw [HAD.out];simp only [↓reduceIte,Bool.false_eq_true];exact n2_.out,n1_.out,n3_.out⟩
/-- The graphs that are given, one after another; none if one is not right. -/
def clP (sb:S28→S28→Bool) (ig:S28→Bool):List (S28)→List (S28)→Option (List (S28))
 | [],out=>some out
 | g :: r,out=>if ig g=true then clP sb ig r (addG out (sb g) g)else none
def clJ (sb:S28→S28→Bool) (cm:S28→S28→List (S53)) (g:S28):List (S28)→Bool→List (S28)→Option (Bool×List (S28))
 | [],ag,out=>some (ag,out)
 | h :: r,ag,out=>if g.f1=h.f0 then(if(addG out (sb (⟨g.f0,h.f1,cm g h⟩:S28)) (⟨g.f0,h.f1,cm g h⟩:S28)).length≤120 then clJ sb cm g r (ag || !out.any (sb (⟨g.f0,h.f1,cm g h⟩:S28))) (addG out (sb (⟨g.f0,h.f1,cm g h⟩:S28)) (⟨g.f0,h.f1,cm g h⟩:S28))else none)else(if out.length≤120 then clJ sb cm g r ag out else none)
def clI (sb:S28→S28→Bool) (cm:S28→S28→List (S53)) (now:List (S28)):List (S28)→Bool→List (S28)→Option (Bool×List (S28))
 | [],ag,out=>some (ag,out)
 | g :: r,ag,out=>(clJ sb cm g now ag out).bind fun p=>clI sb cm now r p.1 p.2
def clR (sb:S28→S28→Bool) (cm:S28→S28→List (S53)):Nat→List (S28)→Option (List (S28)×Bool)
 | 0,_=>none
 | n + 1,out=>if out.length≤120 then(match clI sb cm out out false out with|none=>some ([],false)|some p=>if p.1=true then clR sb cm n p.2 else some (p.2,true))else some ([],false)
def clF (sb:S28→S28→Bool) (ig:S28→Bool) (cm:S28→S28→List (S53)) (k:Nat) (l:List (S28)):Option (List (S28)×Bool):=match clP sb ig l []with|none=>some ([],false)|some out=>clR sb cm k out
theorem addG_grow (out:List (S28)) (b:S28→Bool) (g:S28):∃ t,addG out b g=out ++ t:=by
 unfold addG
 by_cases h:out.any b=true
 ·rw [if_pos h]
  exact⟨[],(List.append_nil _).symm⟩
 ·rw [if_neg h]
  exact⟨[g],rfl⟩
theorem addG_len (out:List (S28)) (b:S28→Bool) (g:S28):(addG out b g).length≤out.length + 1:=by
 unfold addG
 by_cases h:out.any b=true
 ·rw [if_pos h]
  omega
 ·rw [if_neg h,List.length_append,List.length_singleton]
  exact Nat.le_refl _
theorem addG_all {out:List (S28)} {b:S28→Bool} {g:S28} {Q:S28→Prop} (h:∀ x∈out,Q x) (hg:Q g):∀ x∈addG out b g,Q x:=by
 unfold addG
 by_cases h2:out.any b=true
 ·rw [if_pos h2]
  exact h
 ·rw [if_neg h2]
  intro x hx
  rcases List.mem_append.1 hx with hx|hx
  ·exact h x hx
  ·rw [List.mem_singleton.1 hx]
   exact hg
theorem FK_graph {W:World} {ok:Nat→Prop} {x:S28} {c:List Value} (h:Kd.FK k28 W ok x c):∃ A2 c2,c=[.int .i64 x.f0,.int .i64 x.f1,.slice A2 x.f2.length c2]∧x.f2.length≤c2∧Kd.F k53 W ok A2 x.f2.length x.f2:=by
 obtain⟨A2,c2,rfl,hl,_⟩:=k28_open (Kd.FK_now h)
 refine⟨A2,c2,rfl,hl,fun W' hW=>?_⟩
 obtain⟨A3,c3,e,_,hC⟩:=k28_open (h W' hW)
 injection e with _ e
 injection e with _ e
 injection e with e _
 injection e with e _ _
 rw [e]
 exact hC
theorem now_at {go n base:Nat} {An:Option Addr} {xs0 out:List (S28)} {v:Value} {W:World} {ok:Nat→Prop} (h:QClo.Now k28 go An n xs0 v out W) (hS:Kd.S k28 28 W base ok v out) (hno:∀ k,ok k→k≠go) (i:Int) (h0:0≤i) (h1:i < (xs0.length:Int)) :
  ∃ ad A2 c2,An=some ad∧W.cell? (ad.add (i.toNat * 3))=some (.int .i64 (y14 xs0 i).f0)∧W.cell? ⟨(ad.add (i.toNat * 3)).block,(ad.add (i.toNat * 3)).off + 1,none⟩=some (.int .i64 (y14 xs0 i).f1)∧W.cell? ⟨(ad.add (i.toNat * 3)).block,(ad.add (i.toNat * 3)).off + 2,none⟩=some (.slice A2 (y14 xs0 i).f2.length c2)∧(y14 xs0 i).f2.length≤c2∧QClo.Far k53 go A2 (y14 xs0 i).f2.length (y14 xs0 i).f2 v W:=by
 obtain⟨ad,c,e1,_,hF,hc0⟩:=h.rows hS hno z28 i h0 h1
 have hc:∀ j u,c[j]?=some u→W.cell? (ad.add (i.toNat * 3 + j))=some u:=hc0
 obtain⟨A2,c2,rfl,hl,hF2⟩:=FK_graph hF
 exact⟨ad,A2,c2,e1,hc 0 _ rfl,by rw [← add_field _ _ 1 (by omega)];exact hc 1 _ rfl,by rw [← add_field _ _ 2 (by omega)];exact hc 2 _ rfl,hl,hF2⟩
set_option maxHeartbeats 32000000 in
set_option maxRecDepth 100000 in
theorem impl_closed.calls (k n:Nat) (A0:Option Addr) (c0:Nat) (l0:List (S28)) (sb:S28→S28→Bool) (ig:S28→Bool) (cm:S28→S28→List (S53)) (OK:S28→Prop) (rs:List (S28)) (rb:Bool) (w:World) (Bs:Kd.C k28 w A0 l0.length l0) (Bt:l0.length≤c0) (hn:l0.length≤1048576)
  (HSB:y0 (∀ x g:S28,x.f2.length≤1048576→g.f2.length≤1048576→impl_sameGraph.f k x.f0 x.f1 x.f2 g.f0 g.f1 g.f2=some (sb g x)))
  (HIG:y0 (∀ g∈l0,g.f2.length≤1048576∧impl_isGraph.f k g.f0 g.f1 g.f2=some (ig g)∧(ig g=true→OK g)))
  (HCM:y0 (∀ x y,OK x→OK y→impl_compose.f x.f0 x.f1 x.f2 y.f0 y.f1 y.f2=some (x.f0,y.f1,cm x y)∧OK ⟨x.f0,y.f1,cm x y⟩))
  (HOL:y0 (∀ x,OK x→x.f2.length≤1048576)) (h:clF sb ig cm n l0=some (rs,rb)) :
  Calls Try.prog 39 #[.slice A0 l0.length c0] w fun e w'=>∃ v_:Value,e=.returned (.tuple #[v_,.bool rb])∧Kd.S k28 28 w' w.heap.size (fun _=>True) v_ rs∧Below w.heap.size w w':=by
 have Bv:=y0.mk Bs
 have Ch:=y0.mk Bt
 have HN:=y0.mk hn
 clear Bs Bt hn
 have Bw:=Try.underlying28
 have Bx:=Try.underlying44
 have H:=y0.mk h
 clear h
 go_enter Try.func39,Try.ntmps39
 go_upto_region 2 with(first
  | ((with_reducible refine y12 (N:=14) rfl ?_);refine Kd.R_lit (Kd.tag (fun _=>0) k28) _ 28 ?hg (N:=14) ?hd (xs:=([]:List (S28×Nat))) (inner:=[]) (ok:=fun _=>True) (okp:=fun _=>True) ?hr ?hp (fun _ hk=>hk) trivial (Below.refl _ _) (Nat.le_refl _) (by simp) ?_;(case hd=>rfl);(case hg=>rfl);(case hr=>first|(go_simp;done)|(go_simp;rfl));(case hp=>exact(Reps.none _ _));intro Bz w1 ho hb hg_ hnew_;clear hg_ hnew_;have hS_:Kd.S k28 28 w1 w.heap.size (fun _=>True) Bz []:=⟨fun _=>0,ho⟩;obtain⟨Av,cv,ev_⟩:=Kd.S_slice hS_;subst ev_;have HS:=y0.mk hS_;have HB:=y0.mk hb;clear ho hb hS_)
  | ((with_reducible refine y12 (N:=4) rfl ?_);refine qe 4 #[.slice none 0 0] 44 ?_;intro go hg w2 hbox hb;have BKo:=y0.mk hbox;have GEo:=y0.mk (by rw [hg];exact HB.out.size:w.heap.size≤go);replace HS:=y0.mk (Kd.S_below HS.out hb);replace HB:=y0.mk (y4 HB.out hb);clear hb hg hbox;obtain⟨hco,hfo⟩:=QClo.bx1 BKo.out))
 (repeat first|clear hco|clear hfo)
 have n0_:y0 ((w2.setCell ⟨go,0,none⟩ (.slice Av 0 cv)).heap[go]?=some (.cells #[.slice Av 0 cv] 44 (0,0))):=⟨blk_set BKo.out 0 (.slice Av 0 cv)⟩
 have n1_:y0 (Kd.S k28 28 (w2.setCell ⟨go,0,none⟩ (.slice Av 0 cv)) w.heap.size (fun _=>True) (.slice Av 0 cv) ([])):=⟨Kd.S_set HS.out BKo.out (by decide) 0 (.slice Av 0 cv)⟩
 have n2_:y0 (Below w.heap.size w (w2.setCell ⟨go,0,none⟩ (.slice Av 0 cv))):=⟨y3 HB.out GEo.out⟩
 clear BKo HS HB
 generalize (w2.setCell ⟨go,0,none⟩ (.slice Av 0 cv))=w3 at n0_ n1_ n2_ ⊢
 have BKo:=n0_
 have HS:=n1_
 have HB:=n2_
 clear n0_ n1_ n2_
 go_wp2
 go_loopg [18] l0.length (fun kq Ca w'=>∃(xi:Int) (i:Nat) (out:List (S28)) (Av:Option Addr) (cv:Nat),Ca=.int .i64 xi∧y0 (xi=(i:Int))∧y0 (kq + i=l0.length)∧y0 (clP sb ig l0 []=clP sb ig (l0.drop i) out)∧y0 (out.length≤i)∧y0 (∀ x∈out,OK x)∧y0 (w'.heap[go]?=some (.cells #[.slice Av out.length cv] 44 (0,0)))∧y0 (Kd.S k28 28 w' w.heap.size (fun _=>True) (.slice Av out.length cv) (out))∧y0 (Below w.heap.size w w'))
 case atStart=>exact⟨0,0,[],Av,cv,rfl,⟨rfl⟩,⟨Nat.add_zero _⟩,⟨by rw [List.drop_zero]⟩,⟨Nat.le_refl _⟩,⟨fun _ h=>by cases h⟩,BKo,HS,HB⟩
 case round =>
  clear BKo HS HB
  obtain⟨xi,i,out,Av,cv,rfl,HXi,HKi,HD,HLO,HOK,BKo,HS,HB⟩:=hrel
  by_cases c:xi < (l0.length:Int)
  ·skip
   have Bg:decide (xi < (l0.length:Int))=true:=decide_eq_true c
   have hi_:i < l0.length:=by have:=HXi.out;omega
   have p1:0≤xi:=by have:=HXi.out;omega
   obtain⟨adg,Ag,cg,e1,Ay,Az,Ba,hle,hCi⟩:=at_T28 Bv.out xi p1 c
   have rg:y14 l0 xi=l0[i]:=by
    rw [HXi.out]
    unfold y14
    rw [show((i:Int)).toNat=i from rfl,List.getD_eq_getElem?_getD,List.getElem?_eq_getElem hi_]
    rfl
   rw [rg]at Ay Az Ba hle hCi
   clear rg
   have HMg:=y0.mk (List.getElem_mem hi_)
   have HDRg:=y0.mk (List.drop_eq_getElem_cons hi_)
   have HIi:=y0.mk hi_
   generalize l0[i]=g at Ay Az Ba hle hCi HMg HDRg
   clear hi_
   have HRg:=y0.mk hCi
   have HCg:=y0.mk hle
   clear hCi hle
   cases e1
   have HGG:=y0.mk (HIG.out g HMg.out)
   replace Ay:=(HB.out.cell (World.block_lt_of_cell? w _ Ay)).trans Ay
   replace Az:=(HB.out.cell (World.block_lt_of_cell? w _ Az)).trans Az
   replace Ba:=(HB.out.cell (World.block_lt_of_cell? w _ Ba)).trans Ba
   have q1:=eq_true c
   replace p1:=eq_true p1
   clear c
   go_upto_region 6 with(first
    | ((with_reducible refine y12 (N:=7) rfl ?_);refine qe 7 #[.int .i64 0,.int .i64 0,.slice none 0 0] 28 ?_;intro gg hg Bn hbox hb;(repeat first|clear hco|clear hfo);have BKg:=y0.mk hbox;have HBX:=y0.mk hb;have GEg:=y0.mk (by rw [hg];exact Nat.le_refl _:wr.heap.size≤gg);clear hb hg hbox;obtain⟨Aq,Ar,As,At,Au,Aw⟩:=QClo.bx3 BKg.out))
   (repeat first|clear hco|clear hfo|clear Aq|clear Ar|clear As|clear At|clear Au|clear Aw)
   have hb:Below wr.heap.size wr (((Bn.setCell ⟨gg,0,none⟩ (.int .i64 g.f0)).setCell ⟨gg,1,none⟩ (.int .i64 g.f1)).setCell ⟨gg,2,none⟩ (.slice Ag g.f2.length cg)):=y3 (y3 (y3 HBX.out GEg.out) GEg.out) GEg.out
   have n0_:y0 ((((Bn.setCell ⟨gg,0,none⟩ (.int .i64 g.f0)).setCell ⟨gg,1,none⟩ (.int .i64 g.f1)).setCell ⟨gg,2,none⟩ (.slice Ag g.f2.length cg)).heap[gg]?=some (.cells #[.int .i64 g.f0,.int .i64 g.f1,.slice Ag g.f2.length cg] 28 (0,0))):=⟨blk_set (blk_set (blk_set BKg.out 0 (.int .i64 g.f0)) 1 (.int .i64 g.f1)) 2 (.slice Ag g.f2.length cg)⟩
   clear BKg HBX
   generalize (((Bn.setCell ⟨gg,0,none⟩ (.int .i64 g.f0)).setCell ⟨gg,1,none⟩ (.int .i64 g.f1)).setCell ⟨gg,2,none⟩ (.slice Ag g.f2.length cg))=Ci at hb n0_ ⊢
   have BKg:=n0_
   clear n0_
   have NEg:y0 (go≠gg):=⟨Nat.ne_of_lt (Nat.lt_of_lt_of_le (blk_lt BKo.out) GEg.out)⟩
   have NVg:y0 (some gg≠(.slice Av out.length cv:Value).ownBlock):=⟨fun e_=>absurd (Kd.S_lt HS.out _ e_.symm) (Nat.not_lt_of_le GEg.out)⟩
   replace BKo:=y0.mk (y6 BKo.out hb)
   replace HS:=y0.mk (Kd.S_below HS.out hb)
   replace HB:=y0.mk (y4 HB.out hb)
   clear hb
   clear Ay Az Ba p1 q1
   obtain⟨hco,hfo⟩:=QClo.bx1 BKo.out
   obtain⟨Aq,Ar,As,At,Au,Aw⟩:=QClo.bx3 BKg.out
   clear Bg
   obtain⟨b,hb_⟩:∃ b,ig g=b:=⟨_,rfl⟩
   have HIB:y0 (impl_isGraph.f k g.f0 g.f1 g.f2=some b):=⟨by rw [← hb_];exact HGG.out.2.1⟩
   have HBG:=y0.mk hb_
   clear hb_
   cases b with
   | false =>
    go_wp2_with (first
     | (go_at_call 29;(with_reducible refine(impl_isGraph.calls k g.f0 g.f1 Ag cg g.f2 false _ (Kd.C_below HRg.out HB.out) HCg.out HIB.out).mono ?_);rintro e_ Cj ⟨rfl,hb⟩;(repeat first|clear hco|clear hfo|clear Aq|clear Ar|clear As|clear At|clear Au|clear Aw);replace BKo:=y0.mk (y6 BKo.out hb);replace HS:=y0.mk (Kd.S_below HS.out hb);replace BKg:=y0.mk (y6 BKg.out hb);replace HB:=y0.mk (y4 HB.out hb);clear hb;obtain⟨hco,hfo⟩:=QClo.bx1 BKo.out;obtain⟨Aq,Ar,As,At,Au,Aw⟩:=QClo.bx3 BKg.out))
    have HF:y0 (rs=[]∧rb=false):=⟨by
     have h_:=H.out
     unfold clF at h_
     rw [HD.out,HDRg.out]at h_
     simp only [clP,HBG.out,Bool.false_eq_true,↓reduceIte]at h_
     injection h_ with h_
     injection h_ with h1 h2
     exact⟨h1.symm,h2.symm⟩⟩
    obtain⟨e1_,e2_⟩:=HF.out
    subst e1_
    subst e2_
    refine bodyPost_ret (results_tmp2 rfl _ _ _) rfl ?_
    exact⟨_,by first|rfl|(simp [errW_none,errW_some] <;> rfl),Kd.S_nil _ _ _ _ _,HB.out⟩
   | true =>
    go_wp2_with (first
     | (go_at_call 29;(with_reducible refine(impl_isGraph.calls k g.f0 g.f1 Ag cg g.f2 true _ (Kd.C_below HRg.out HB.out) HCg.out HIB.out).mono ?_);rintro e_ Cb ⟨rfl,hb⟩;(repeat first|clear hco|clear hfo|clear Aq|clear Ar|clear As|clear At|clear Au|clear Aw);replace BKo:=y0.mk (y6 BKo.out hb);replace HS:=y0.mk (Kd.S_below HS.out hb);replace BKg:=y0.mk (y6 BKg.out hb);replace HB:=y0.mk (y4 HB.out hb);clear hb;obtain⟨hco,hfo⟩:=QClo.bx1 BKo.out;obtain⟨Aq,Ar,As,At,Au,Aw⟩:=QClo.bx3 BKg.out)
     | (go_at_call 52;(with_reducible refine(impl_closed_1.calls k g.f0 g.f1 Ag cg g.f2 go (.slice Av out.length cv) out (sb g) w Cb (Kd.C_below HRg.out HB.out) HCg.out BKo.out GEo.out HB.out HS.out (fun x hx=>HSB.out x g (HOL.out x (HOK.out x hx)) HGG.out.1) (by have:=HLO.out;have:=HKi.out;have:=HN.out;omega) HGG.out.1).mono ?_);rintro e_ Ck ⟨rfl,v1,hb1_,hs1_,hbl_,hst_⟩;(repeat first|clear hco|clear hfo|clear Aq|clear Ar|clear As|clear At|clear Au|clear Aw);obtain⟨A1,c1,e1_⟩:=Kd.S_slice hs1_;subst e1_;have nb_:=(hst_.2.1 _ (blk_lt BKg.out) (Ne.symm NEg.out) NVg.out).trans BKg.out;replace NVg:=y0.mk (QClo.nv_step hst_ (blk_lt BKg.out) NVg.out);replace BKg:=y0.mk nb_;clear nb_;replace BKo:=y0.mk hb1_;replace HS:=y0.mk hs1_;replace HB:=y0.mk hbl_;clear hb1_ hs1_ hbl_ hst_;obtain⟨hco,hfo⟩:=QClo.bx1 BKo.out;obtain⟨Aq,Ar,As,At,Au,Aw⟩:=QClo.bx3 BKg.out))
    (repeat first|clear hco|clear hfo|clear Aq|clear Ar|clear As|clear At|clear Au|clear Aw)
    go_roundg (l0.length - i - 1)
    case measure=>have:=HKi.out;have:=HIi.out;omega
    exact⟨wrap64 (xi + 1),i + 1,addG out (sb g) g,A1,c1,qy2,⟨by rw [HXi.out];exact QIv.step_u (by have:=HIi.out;have:=HN.out;omega)⟩,⟨by have:=HKi.out;have:=HIi.out;omega⟩,⟨by rw [HD.out,HDRg.out];simp only [clP,HBG.out,↓reduceIte]⟩,⟨by have:=addG_len out (sb g) g;have:=HLO.out;omega⟩,⟨addG_all HOK.out (HGG.out.2.2 HBG.out)⟩,BKo,HS,HB⟩
  ·skip
   have Bg:decide (xi < (l0.length:Int))=false:=decide_eq_false c
   replace H:y0 (clR sb cm n out=some (rs,rb)):=⟨by
    have h_:=H.out
    unfold clF at h_
    rw [HD.out,List.drop_of_length_le (by have:=HXi.out;have:=HKi.out;omega)]at h_
    exact h_⟩
   replace HLO:y0 (out.length≤1048576):=⟨by have:=HLO.out;have:=HKi.out;have:=HN.out;omega⟩
   clear HD HXi HKi c
   go_wp2
   go_loopg [8] n (fun kq v8 w'=>∃(ag:Bool) (out:List (S28)) (Av:Option Addr) (cv:Nat),v8=.bool ag∧y0 (ag=true→clR sb cm kq out=some (rs,rb))∧y0 (ag=false→rs=out∧rb=true)∧y0 (out.length≤1048576)∧y0 (∀ x∈out,OK x)∧y0 (w'.heap[go]?=some (.cells #[.slice Av out.length cv] 44 (0,0)))∧y0 (Kd.S k28 28 w' w.heap.size (fun _=>True) (.slice Av out.length cv) (out))∧y0 (Below w.heap.size w w'))
   case atStart=>exact⟨true,out,Av,cv,rfl,⟨fun _=>H.out⟩,⟨fun h_=>by cases h_⟩,HLO,HOK,BKo,HS,HB⟩
   case round =>
    clear BKo HS HB H HLO HOK
    obtain⟨ag,Ai,An,cn,rfl,H,HE,HLO,HOK,BKo,HS,HB⟩:=hrel
    cases ag with
    | false =>
     obtain⟨hco,hfo⟩:=QClo.bx1 BKo.out
     obtain⟨e1_,e2_⟩:=HE.out rfl
     subst e1_
     subst e2_
     go_wp2
     refine bodyPost_ret (results_tmp2 rfl _ _ _) rfl ?_
     exact⟨_,by first|rfl|(simp [errW_none,errW_some] <;> rfl),HS.out,HB.out⟩
    | true =>
     clear HE
     replace H:=y0.mk (H.out rfl)
     cases gk with
     | zero=>exact absurd H.out (by simp [clR])
     | succ k1 =>
      by_cases c:Ai.length≤120
      ·skip
       have Bb:=y0.mk c
       have Bc:decide ((Ai.length:Int) > 120)=false:=decide_eq_false (by omega)
       have Bd:decide (120 < (Ai.length:Int))=false:=decide_eq_false (by omega)
       have Be:(120 < Ai.length)=False:=eq_false (by omega)
       have Bf:decide (120 < Ai.length)=false:=decide_eq_false (by omega)
       clear c
       obtain⟨hco,hfo⟩:=QClo.bx1 BKo.out
       go_wp2
       (repeat first|clear Bc|clear Bd|clear Be|clear Bf)
       (repeat first|clear hco|clear hfo)
       have HNW:y0 (QClo.Now k28 go An Ai.length Ai (.slice An Ai.length cn) Ai wr):=⟨QClo.Now.start⟩
       replace H:y0 ((match clI sb cm Ai Ai false Ai with|none=>some ([],false)|some p=>if p.1=true then clR sb cm k1 p.2 else some (p.2,true))=some (rs,rb)):=⟨by
        have h_:=H.out
        rw [clR,if_pos Bb.out]at h_
        exact h_⟩
       have Bl:=HOK
       go_loopg [8,36] Ai.length (fun kq v8 Cc w'=>∃(xi:Int) (i:Nat) (ag:Bool) (out:List (S28)) (Av:Option Addr) (cv:Nat),v8=.bool ag∧Cc=.int .i64 xi∧y0 (xi=(i:Int))∧y0 (kq + i=Ai.length)∧y0 (clI sb cm Ai Ai false Ai=clI sb cm Ai (Ai.drop i) ag out)∧y0 (out.length≤120)∧y0 (∀ x∈out,OK x)∧y0 (w'.heap[go]?=some (.cells #[.slice Av out.length cv] 44 (0,0)))∧y0 (Kd.S k28 28 w' w.heap.size (fun _=>True) (.slice Av out.length cv) (out))∧y0 (QClo.Now k28 go An Ai.length Ai (.slice Av out.length cv) out w')∧y0 (Below w.heap.size w w'))
       case atStart=>exact⟨0,0,false,Ai,An,cn,rfl,rfl,⟨rfl⟩,⟨Nat.add_zero _⟩,⟨by rw [List.drop_zero]⟩,Bb,HOK,BKo,HS,HNW,HB⟩
       case round =>
        clear BKo HS HNW HB HLO HOK
        obtain⟨xi,i,ag,out,Av,cv,rfl,rfl,HXi,HKi,HI,HLO,HOK,BKo,HS,HNW,HB⟩:=hrel
        by_cases c:xi < (Ai.length:Int)
        ·skip
         have Bg:decide (xi < (Ai.length:Int))=true:=decide_eq_true c
         have hi_:i < Ai.length:=by have:=HXi.out;omega
         have p1:0≤xi:=by have:=HXi.out;omega
         obtain⟨adg,Ag,cg,e1,Ay,Az,Ba,hle,hFi⟩:=now_at HNW.out (QClo.S_no HS.out BKo.out (by decide)) (fun _ h_=>h_) xi p1 c
         have rg:y14 Ai xi=Ai[i]:=by
          rw [HXi.out]
          unfold y14
          rw [show((i:Int)).toNat=i from rfl,List.getD_eq_getElem?_getD,List.getElem?_eq_getElem hi_]
          rfl
         rw [rg]at Ay Az Ba hle hFi
         clear rg
         have HMg:=y0.mk (List.getElem_mem hi_)
         have HDRg:=y0.mk (List.drop_eq_getElem_cons hi_)
         have HIi:=y0.mk hi_
         generalize Ai[i]=g at Ay Az Ba hle hFi HMg HDRg
         clear hi_
         have HFg:=y0.mk hFi
         have HCg:=y0.mk hle
         clear hFi hle
         cases e1
         have HOg:=y0.mk (Bl.out g HMg.out)
         have q1:=eq_true c
         replace p1:=eq_true p1
         clear c
         go_upto_region 19 with(first
          | ((with_reducible refine y12 (N:=11) rfl ?_);refine qe 11 #[.int .i64 0,.int .i64 0,.slice none 0 0] 28 ?_;intro ga hg Bo hbox hb;(repeat first|clear hco|clear hfo);have BKa:=y0.mk hbox;have HBX:=y0.mk hb;have GEa:=y0.mk (by rw [hg];exact Nat.le_refl _:wr.heap.size≤ga);clear hb hg hbox;obtain⟨Aa,Ab,Ac,Ad,Ae,Af⟩:=QClo.bx3 BKa.out))
         (repeat first|clear hco|clear hfo|clear Aa|clear Ab|clear Ac|clear Ad|clear Ae|clear Af)
         have hb:Below wr.heap.size wr (((Bo.setCell ⟨ga,0,none⟩ (.int .i64 g.f0)).setCell ⟨ga,1,none⟩ (.int .i64 g.f1)).setCell ⟨ga,2,none⟩ (.slice Ag g.f2.length cg)):=y3 (y3 (y3 HBX.out GEa.out) GEa.out) GEa.out
         have n0_:y0 ((((Bo.setCell ⟨ga,0,none⟩ (.int .i64 g.f0)).setCell ⟨ga,1,none⟩ (.int .i64 g.f1)).setCell ⟨ga,2,none⟩ (.slice Ag g.f2.length cg)).heap[ga]?=some (.cells #[.int .i64 g.f0,.int .i64 g.f1,.slice Ag g.f2.length cg] 28 (0,0))):=⟨blk_set (blk_set (blk_set BKa.out 0 (.int .i64 g.f0)) 1 (.int .i64 g.f1)) 2 (.slice Ag g.f2.length cg)⟩
         clear BKa HBX
         generalize (((Bo.setCell ⟨ga,0,none⟩ (.int .i64 g.f0)).setCell ⟨ga,1,none⟩ (.int .i64 g.f1)).setCell ⟨ga,2,none⟩ (.slice Ag g.f2.length cg))=Cl at hb n0_ ⊢
         have BKa:=n0_
         clear n0_
         have NEa:y0 (go≠ga):=⟨Nat.ne_of_lt (Nat.lt_of_lt_of_le (blk_lt BKo.out) GEa.out)⟩
         have NVa:y0 (some ga≠(.slice Av out.length cv:Value).ownBlock):=⟨fun e_=>absurd (Kd.S_lt HS.out _ e_.symm) (Nat.not_lt_of_le GEa.out)⟩
         replace BKo:=y0.mk (y6 BKo.out hb)
         replace HS:=y0.mk (Kd.S_below HS.out hb)
         replace HNW:=y0.mk (QClo.Now.below HNW.out hb)
         replace HFg:=y0.mk (QClo.Far.below HFg.out hb)
         replace HB:=y0.mk (y4 HB.out hb)
         clear hb
         clear Ay Az Ba p1 q1
         obtain⟨hco,hfo⟩:=QClo.bx1 BKo.out
         obtain⟨Aa,Ab,Ac,Ad,Ae,Af⟩:=QClo.bx3 BKa.out
         clear Bg
         obtain⟨p3,Bp⟩:∃ p,clJ sb cm g Ai ag out=p:=⟨_,rfl⟩
         have HIn:y0 (clI sb cm Ai Ai false Ai=p3.bind fun p=>clI sb cm Ai (Ai.drop (i + 1)) p.1 p.2):=⟨by rw [HI.out,HDRg.out];simp only [clI];rw [Bp]⟩
         have Bu:=y0.mk Bp
         clear Bp
         go_wp2
         (repeat first|clear hco|clear hfo|clear Aa|clear Ab|clear Ac|clear Ad|clear Ae|clear Af)
         go_loopg [8,42] Ai.length (fun kq v8 Cd w'=>∃(xj:Int) (j:Nat) (ag:Bool) (out:List (S28)) (Av:Option Addr) (cv:Nat),v8=.bool ag∧Cd=.int .i64 xj∧y0 (xj=(j:Int))∧y0 (kq + j=Ai.length)∧y0 (p3=clJ sb cm g (Ai.drop j) ag out)∧y0 (out.length≤120)∧y0 (∀ x∈out,OK x)∧y0 (w'.heap[go]?=some (.cells #[.slice Av out.length cv] 44 (0,0)))∧y0 (Kd.S k28 28 w' w.heap.size (fun _=>True) (.slice Av out.length cv) (out))∧y0 (QClo.Now k28 go (some adg) Ai.length Ai (.slice Av out.length cv) out w')∧y0 (Below w.heap.size w w')∧y0 (w'.heap[ga]?=some (.cells #[.int .i64 g.f0,.int .i64 g.f1,.slice Ag g.f2.length cg] 28 (0,0)))∧y0 (some ga≠(.slice Av out.length cv:Value).ownBlock)∧y0 (QClo.Far k53 go Ag g.f2.length g.f2 (.slice Av out.length cv) w'))
         case atStart=>exact⟨0,0,ag,out,Av,cv,rfl,rfl,⟨rfl⟩,⟨Nat.add_zero _⟩,⟨by rw [List.drop_zero];exact Bu.out.symm⟩,HLO,HOK,BKo,HS,HNW,HB,BKa,NVa,HFg⟩
         case round =>
          clear BKo HS HNW HB HLO HOK BKa NVa HFg Bu
          obtain⟨xj,j,ag,out,Av,cv,rfl,rfl,HXj,HKj,HJ,HLO,HOK,BKo,HS,HNW,HB,BKa,NVa,HFg⟩:=hrel
          by_cases c:xj < (Ai.length:Int)
          ·skip
           have Bg:decide (xj < (Ai.length:Int))=true:=decide_eq_true c
           have hi_:j < Ai.length:=by have:=HXj.out;omega
           have p1:0≤xj:=by have:=HXj.out;omega
           obtain⟨adh,Ah,ch,e1,Bi,Bj,Bk,hle,hFi⟩:=now_at HNW.out (QClo.S_no HS.out BKo.out (by decide)) (fun _ h_=>h_) xj p1 c
           have rg:y14 Ai xj=Ai[j]:=by
            rw [HXj.out]
            unfold y14
            rw [show((j:Int)).toNat=j from rfl,List.getD_eq_getElem?_getD,List.getElem?_eq_getElem hi_]
            rfl
           rw [rg]at Bi Bj Bk hle hFi
           clear rg
           have HMh:=y0.mk (List.getElem_mem hi_)
           have HDRh:=y0.mk (List.drop_eq_getElem_cons hi_)
           have HIj:=y0.mk hi_
           generalize Ai[j]=h at Bi Bj Bk hle hFi HMh HDRh
           clear hi_
           have HFh:=y0.mk hFi
           have HCh:=y0.mk hle
           clear hFi hle
           cases e1
           have HOh:=y0.mk (Bl.out h HMh.out)
           have q1:=eq_true c
           replace p1:=eq_true p1
           clear c
           go_upto_region 22 with(first
            | ((with_reducible refine y12 (N:=13) rfl ?_);refine qe 13 #[.int .i64 0,.int .i64 0,.slice none 0 0] 28 ?_;intro gb hg Bq hbox hb;(repeat first|clear hco|clear hfo|clear Aa|clear Ab|clear Ac|clear Ad|clear Ae|clear Af);have BKb:=y0.mk hbox;have HBX:=y0.mk hb;have GEb:=y0.mk (by rw [hg];exact Nat.le_refl _:wr.heap.size≤gb);clear hb hg hbox;obtain⟨Aj,Ak,Al,Am,Ao,Ap⟩:=QClo.bx3 BKb.out))
           (repeat first|clear hco|clear hfo|clear Aa|clear Ab|clear Ac|clear Ad|clear Ae|clear Af|clear Aj|clear Ak|clear Al|clear Am|clear Ao|clear Ap)
           have hb:Below wr.heap.size wr (((Bq.setCell ⟨gb,0,none⟩ (.int .i64 h.f0)).setCell ⟨gb,1,none⟩ (.int .i64 h.f1)).setCell ⟨gb,2,none⟩ (.slice Ah h.f2.length ch)):=y3 (y3 (y3 HBX.out GEb.out) GEb.out) GEb.out
           have n0_:y0 ((((Bq.setCell ⟨gb,0,none⟩ (.int .i64 h.f0)).setCell ⟨gb,1,none⟩ (.int .i64 h.f1)).setCell ⟨gb,2,none⟩ (.slice Ah h.f2.length ch)).heap[gb]?=some (.cells #[.int .i64 h.f0,.int .i64 h.f1,.slice Ah h.f2.length ch] 28 (0,0))):=⟨blk_set (blk_set (blk_set BKb.out 0 (.int .i64 h.f0)) 1 (.int .i64 h.f1)) 2 (.slice Ah h.f2.length ch)⟩
           clear BKb HBX
           generalize (((Bq.setCell ⟨gb,0,none⟩ (.int .i64 h.f0)).setCell ⟨gb,1,none⟩ (.int .i64 h.f1)).setCell ⟨gb,2,none⟩ (.slice Ah h.f2.length ch))=Cm at hb n0_ ⊢
           have BKb:=n0_
           clear n0_
           have NEb:y0 (go≠gb):=⟨Nat.ne_of_lt (Nat.lt_of_lt_of_le (blk_lt BKo.out) GEb.out)⟩
           have NVb:y0 (some gb≠(.slice Av out.length cv:Value).ownBlock):=⟨fun e_=>absurd (Kd.S_lt HS.out _ e_.symm) (Nat.not_lt_of_le GEb.out)⟩
           replace BKo:=y0.mk (y6 BKo.out hb)
           replace HS:=y0.mk (Kd.S_below HS.out hb)
           replace HNW:=y0.mk (QClo.Now.below HNW.out hb)
           replace BKa:=y0.mk (y6 BKa.out hb)
           replace HFg:=y0.mk (QClo.Far.below HFg.out hb)
           replace HFh:=y0.mk (QClo.Far.below HFh.out hb)
           replace HB:=y0.mk (y4 HB.out hb)
           clear hb
           clear Bi Bj Bk p1 q1
           obtain⟨hco,hfo⟩:=QClo.bx1 BKo.out
           obtain⟨Aa,Ab,Ac,Ad,Ae,Af⟩:=QClo.bx3 BKa.out
           obtain⟨Aj,Ak,Al,Am,Ao,Ap⟩:=QClo.bx3 BKb.out
           clear Bg
           have HJn:y0 (p3=if g.f1=h.f0 then(if(addG out (sb (⟨g.f0,h.f1,cm g h⟩:S28)) (⟨g.f0,h.f1,cm g h⟩:S28)).length≤120 then clJ sb cm g (Ai.drop (j + 1)) (ag || !out.any (sb (⟨g.f0,h.f1,cm g h⟩:S28))) (addG out (sb (⟨g.f0,h.f1,cm g h⟩:S28)) (⟨g.f0,h.f1,cm g h⟩:S28))else none)else(if out.length≤120 then clJ sb cm g (Ai.drop (j + 1)) ag out else none)):=⟨by rw [HJ.out,HDRh.out];rfl⟩
           by_cases k1_:g.f1=h.f0
           ·skip
            have k1b:(g.f1 == h.f0)=true:=beq_iff_eq.mpr k1_
            have Bm:=y0.mk k1_
            clear k1_
            have HCC:=y0.mk (HCM.out g h HOg.out HOh.out)
            obtain⟨b,hb_⟩:∃ b,out.any (sb (⟨g.f0,h.f1,cm g h⟩:S28))=b:=⟨_,rfl⟩
            have HBB:=y0.mk hb_
            clear hb_
            cases b with
            | true =>
             have HAG:y0 (addG out (sb (⟨g.f0,h.f1,cm g h⟩:S28)) (⟨g.f0,h.f1,cm g h⟩:S28)=out):=⟨by unfold addG;rw [HBB.out];rfl⟩
             have Bc:decide ((out.length:Int) > 120)=false:=decide_eq_false (by have:=HLO.out;omega)
             have Bd:decide (120 < (out.length:Int))=false:=decide_eq_false (by have:=HLO.out;omega)
             have Be:(120 < out.length)=False:=eq_false (by have:=HLO.out;omega)
             have Bf:decide (120 < out.length)=false:=decide_eq_false (by have:=HLO.out;omega)
             go_wp2_with (first
              | ((try(refine gate_guard (by rfl) ?_;dsimp only));go_at_call 30;(with_reducible refine(impl_compose.calls g.f0 g.f1 Ag cg g.f2 h.f0 h.f1 Ah ch h.f2 g.f0 h.f1 (cm g h) _ (QClo.Far.C HFg.out) HCg.out (QClo.Far.C HFh.out) HCh.out HCC.out.1).mono ?_);rintro e_ Ce ⟨v_,rfl,ho,hb⟩;obtain⟨A7,c7,e7_⟩:=Kd.R_slice ho;subst e7_;have Bh:=y0.mk ho;(repeat first|clear hco|clear hfo|clear Aa|clear Ab|clear Ac|clear Ad|clear Ae|clear Af|clear Aj|clear Ak|clear Al|clear Am|clear Ao|clear Ap);replace BKo:=y0.mk (y6 BKo.out hb);replace HS:=y0.mk (Kd.S_below HS.out hb);replace HNW:=y0.mk (QClo.Now.below HNW.out hb);replace BKa:=y0.mk (y6 BKa.out hb);replace BKb:=y0.mk (y6 BKb.out hb);replace HFg:=y0.mk (QClo.Far.below HFg.out hb);replace HFh:=y0.mk (QClo.Far.below HFh.out hb);replace HB:=y0.mk (y4 HB.out hb);clear hb ho;obtain⟨hco,hfo⟩:=QClo.bx1 BKo.out;obtain⟨Aa,Ab,Ac,Ad,Ae,Af⟩:=QClo.bx3 BKa.out;obtain⟨Aj,Ak,Al,Am,Ao,Ap⟩:=QClo.bx3 BKb.out)
              | ((try(refine gate_guard (by rfl) ?_;dsimp only));go_at_call 52;(with_reducible refine(impl_closed_1.calls k g.f0 h.f1 A7 c7 (cm g h) go (.slice Av out.length cv) out (sb (⟨g.f0,h.f1,cm g h⟩:S28)) w Ce (Kd.R_reads' Bh.out).2.2 (Kd.R_reads' Bh.out).2.1 BKo.out GEo.out HB.out HS.out (fun x hx=>HSB.out x (⟨g.f0,h.f1,cm g h⟩:S28) (HOL.out x (HOK.out x hx)) (HOL.out _ HCC.out.2)) (by have:=HLO.out;omega) (HOL.out _ HCC.out.2)).mono ?_);rw [HBB.out];rintro e_ Cn ⟨rfl,v1,hb1_,hs1_,hbl_,hst_⟩;(repeat first|clear hco|clear hfo|clear Aa|clear Ab|clear Ac|clear Ad|clear Ae|clear Af|clear Aj|clear Ak|clear Al|clear Am|clear Ao|clear Ap);rw [HAG.out]at hs1_;obtain⟨A1,c1,e1_⟩:=Kd.S_slice hs1_;subst e1_;replace HNW:=y0.mk (QClo.Now.step HNW.out (QClo.S_no HS.out BKo.out (by decide)) hs1_ hst_ ⟨[],(List.append_nil _).symm⟩);replace HFg:=y0.mk (QClo.Far.step HFg.out hst_);replace HFh:=y0.mk (QClo.Far.step HFh.out hst_);have nb_:=(hst_.2.1 _ (blk_lt BKa.out) (Ne.symm NEa.out) NVa.out).trans BKa.out;replace NVa:=y0.mk (QClo.nv_step hst_ (blk_lt BKa.out) NVa.out);replace BKa:=y0.mk nb_;clear nb_;have nb_:=(hst_.2.1 _ (blk_lt BKb.out) (Ne.symm NEb.out) NVb.out).trans BKb.out;replace NVb:=y0.mk (QClo.nv_step hst_ (blk_lt BKb.out) NVb.out);replace BKb:=y0.mk nb_;clear nb_;replace BKo:=y0.mk hb1_;replace HS:=y0.mk hs1_;replace HB:=y0.mk hbl_;clear hb1_ hs1_ hbl_ hst_;obtain⟨hco,hfo⟩:=QClo.bx1 BKo.out;obtain⟨Aa,Ab,Ac,Ad,Ae,Af⟩:=QClo.bx3 BKa.out;obtain⟨Aj,Ak,Al,Am,Ao,Ap⟩:=QClo.bx3 BKb.out))
             have HLN:=HLO
             have HON:=HOK
             (repeat first|clear hco|clear hfo|clear Aa|clear Ab|clear Ac|clear Ad|clear Ae|clear Af|clear Aj|clear Ak|clear Al|clear Am|clear Ao|clear Ap)
             (repeat first|clear Bc|clear Bd|clear Be|clear Bf)
             go_roundg (Ai.length - j - 1)
             case measure=>have:=HKj.out;have:=HIj.out;omega
             exact⟨wrap64 (xj + 1),j + 1,ag,out,A1,c1,qy2,qy2,⟨by rw [HXj.out];exact QIv.step_u (by have:=HIj.out;have:=Bb.out;omega)⟩,⟨by have:=HKj.out;have:=HIj.out;omega⟩,⟨by rw [HJn.out,if_pos Bm.out,HAG.out,if_pos HLO.out,HBB.out];simp only [Bool.not_true,Bool.or_false]⟩,HLN,HON,BKo,HS,HNW,HB,BKa,NVa,HFg⟩
            | false =>
             have HAG:y0 (addG out (sb (⟨g.f0,h.f1,cm g h⟩:S28)) (⟨g.f0,h.f1,cm g h⟩:S28)=out ++ [(⟨g.f0,h.f1,cm g h⟩:S28)]):=⟨by unfold addG;rw [HBB.out];rfl⟩
             have HAL:y0 ((out ++ [(⟨g.f0,h.f1,cm g h⟩:S28)]).length=out.length + 1):=⟨by simp⟩
             by_cases c9:out.length + 1≤120
             ·skip
              have Bc:decide (((out.length:Int) + 1) > 120)=false:=decide_eq_false (by omega)
              have Bd:decide (120 < ((out.length:Int) + 1))=false:=decide_eq_false (by omega)
              have Be:(120 < out.length + 1)=False:=eq_false (by omega)
              have Bf:decide (120 < out.length + 1)=false:=decide_eq_false (by omega)
              have Br:=y0.mk c9
              clear c9
              go_wp2_with (first
               | ((try(refine gate_guard (by rfl) ?_;dsimp only));go_at_call 30;(with_reducible refine(impl_compose.calls g.f0 g.f1 Ag cg g.f2 h.f0 h.f1 Ah ch h.f2 g.f0 h.f1 (cm g h) _ (QClo.Far.C HFg.out) HCg.out (QClo.Far.C HFh.out) HCh.out HCC.out.1).mono ?_);rintro e_ Cf ⟨v_,rfl,ho,hb⟩;obtain⟨A7,c7,e7_⟩:=Kd.R_slice ho;subst e7_;have Bh:=y0.mk ho;(repeat first|clear hco|clear hfo|clear Aa|clear Ab|clear Ac|clear Ad|clear Ae|clear Af|clear Aj|clear Ak|clear Al|clear Am|clear Ao|clear Ap);replace BKo:=y0.mk (y6 BKo.out hb);replace HS:=y0.mk (Kd.S_below HS.out hb);replace HNW:=y0.mk (QClo.Now.below HNW.out hb);replace BKa:=y0.mk (y6 BKa.out hb);replace BKb:=y0.mk (y6 BKb.out hb);replace HFg:=y0.mk (QClo.Far.below HFg.out hb);replace HFh:=y0.mk (QClo.Far.below HFh.out hb);replace HB:=y0.mk (y4 HB.out hb);clear hb ho;obtain⟨hco,hfo⟩:=QClo.bx1 BKo.out;obtain⟨Aa,Ab,Ac,Ad,Ae,Af⟩:=QClo.bx3 BKa.out;obtain⟨Aj,Ak,Al,Am,Ao,Ap⟩:=QClo.bx3 BKb.out)
               | ((try(refine gate_guard (by rfl) ?_;dsimp only));go_at_call 52;(with_reducible refine(impl_closed_1.calls k g.f0 h.f1 A7 c7 (cm g h) go (.slice Av out.length cv) out (sb (⟨g.f0,h.f1,cm g h⟩:S28)) w Cf (Kd.R_reads' Bh.out).2.2 (Kd.R_reads' Bh.out).2.1 BKo.out GEo.out HB.out HS.out (fun x hx=>HSB.out x (⟨g.f0,h.f1,cm g h⟩:S28) (HOL.out x (HOK.out x hx)) (HOL.out _ HCC.out.2)) (by have:=HLO.out;omega) (HOL.out _ HCC.out.2)).mono ?_);rw [HBB.out];rintro e_ Co ⟨rfl,v1,hb1_,hs1_,hbl_,hst_⟩;(repeat first|clear hco|clear hfo|clear Aa|clear Ab|clear Ac|clear Ad|clear Ae|clear Af|clear Aj|clear Ak|clear Al|clear Am|clear Ao|clear Ap);rw [HAG.out]at hs1_;obtain⟨A1,c1,e1_⟩:=Kd.S_slice hs1_;subst e1_;replace HNW:=y0.mk (QClo.Now.step HNW.out (QClo.S_no HS.out BKo.out (by decide)) hs1_ hst_ ⟨_,rfl⟩);replace HFg:=y0.mk (QClo.Far.step HFg.out hst_);replace HFh:=y0.mk (QClo.Far.step HFh.out hst_);have nb_:=(hst_.2.1 _ (blk_lt BKa.out) (Ne.symm NEa.out) NVa.out).trans BKa.out;replace NVa:=y0.mk (QClo.nv_step hst_ (blk_lt BKa.out) NVa.out);replace BKa:=y0.mk nb_;clear nb_;have nb_:=(hst_.2.1 _ (blk_lt BKb.out) (Ne.symm NEb.out) NVb.out).trans BKb.out;replace NVb:=y0.mk (QClo.nv_step hst_ (blk_lt BKb.out) NVb.out);replace BKb:=y0.mk nb_;clear nb_;replace BKo:=y0.mk hb1_;replace HS:=y0.mk hs1_;replace HB:=y0.mk hbl_;clear hb1_ hs1_ hbl_ hst_;obtain⟨hco,hfo⟩:=QClo.bx1 BKo.out;obtain⟨Aa,Ab,Ac,Ad,Ae,Af⟩:=QClo.bx3 BKa.out;obtain⟨Aj,Ak,Al,Am,Ao,Ap⟩:=QClo.bx3 BKb.out))
              have HLN:y0 ((out ++ [(⟨g.f0,h.f1,cm g h⟩:S28)]).length≤120):=⟨by rw [HAL.out];exact Br.out⟩
              have HON:y0 (∀ x∈out ++ [(⟨g.f0,h.f1,cm g h⟩:S28)],OK x):=⟨by rw [← HAG.out];exact addG_all HOK.out HCC.out.2⟩
              (repeat first|clear hco|clear hfo|clear Aa|clear Ab|clear Ac|clear Ad|clear Ae|clear Af|clear Aj|clear Ak|clear Al|clear Am|clear Ao|clear Ap)
              (repeat first|clear Bc|clear Bd|clear Be|clear Bf)
              go_roundg (Ai.length - j - 1)
              case measure=>have:=HKj.out;have:=HIj.out;omega
              exact⟨wrap64 (xj + 1),j + 1,true,(out ++ [(⟨g.f0,h.f1,cm g h⟩:S28)]),A1,c1,qy2,qy2,⟨by rw [HXj.out];exact QIv.step_u (by have:=HIj.out;have:=Bb.out;omega)⟩,⟨by have:=HKj.out;have:=HIj.out;omega⟩,⟨by rw [HJn.out,if_pos Bm.out,HAG.out,if_pos HLN.out,HBB.out];simp only [Bool.not_false,Bool.or_true]⟩,HLN,HON,BKo,HS,HNW,HB,BKa,NVa,HFg⟩
             ·skip
              have Bc:decide (((out.length:Int) + 1) > 120)=true:=decide_eq_true (by omega)
              have Bd:decide (120 < ((out.length:Int) + 1))=true:=decide_eq_true (by omega)
              have Be:(120 < out.length + 1)=True:=eq_true (by omega)
              have Bf:decide (120 < out.length + 1)=true:=decide_eq_true (by omega)
              have Br:=y0.mk c9
              clear c9
              go_wp2_with (first
               | ((try(refine gate_guard (by rfl) ?_;dsimp only));go_at_call 30;(with_reducible refine(impl_compose.calls g.f0 g.f1 Ag cg g.f2 h.f0 h.f1 Ah ch h.f2 g.f0 h.f1 (cm g h) _ (QClo.Far.C HFg.out) HCg.out (QClo.Far.C HFh.out) HCh.out HCC.out.1).mono ?_);rintro e_ Cg ⟨v_,rfl,ho,hb⟩;obtain⟨A7,c7,e7_⟩:=Kd.R_slice ho;subst e7_;have Bh:=y0.mk ho;(repeat first|clear hco|clear hfo|clear Aa|clear Ab|clear Ac|clear Ad|clear Ae|clear Af|clear Aj|clear Ak|clear Al|clear Am|clear Ao|clear Ap);replace BKo:=y0.mk (y6 BKo.out hb);replace HS:=y0.mk (Kd.S_below HS.out hb);replace HNW:=y0.mk (QClo.Now.below HNW.out hb);replace BKa:=y0.mk (y6 BKa.out hb);replace BKb:=y0.mk (y6 BKb.out hb);replace HFg:=y0.mk (QClo.Far.below HFg.out hb);replace HFh:=y0.mk (QClo.Far.below HFh.out hb);replace HB:=y0.mk (y4 HB.out hb);clear hb ho;obtain⟨hco,hfo⟩:=QClo.bx1 BKo.out;obtain⟨Aa,Ab,Ac,Ad,Ae,Af⟩:=QClo.bx3 BKa.out;obtain⟨Aj,Ak,Al,Am,Ao,Ap⟩:=QClo.bx3 BKb.out)
               | ((try(refine gate_guard (by rfl) ?_;dsimp only));go_at_call 52;(with_reducible refine(impl_closed_1.calls k g.f0 h.f1 A7 c7 (cm g h) go (.slice Av out.length cv) out (sb (⟨g.f0,h.f1,cm g h⟩:S28)) w Cg (Kd.R_reads' Bh.out).2.2 (Kd.R_reads' Bh.out).2.1 BKo.out GEo.out HB.out HS.out (fun x hx=>HSB.out x (⟨g.f0,h.f1,cm g h⟩:S28) (HOL.out x (HOK.out x hx)) (HOL.out _ HCC.out.2)) (by have:=HLO.out;omega) (HOL.out _ HCC.out.2)).mono ?_);rw [HBB.out];rintro e_ Cp ⟨rfl,v1,hb1_,hs1_,hbl_,hst_⟩;(repeat first|clear hco|clear hfo|clear Aa|clear Ab|clear Ac|clear Ad|clear Ae|clear Af|clear Aj|clear Ak|clear Al|clear Am|clear Ao|clear Ap);rw [HAG.out]at hs1_;obtain⟨A1,c1,e1_⟩:=Kd.S_slice hs1_;subst e1_;replace HNW:=y0.mk (QClo.Now.step HNW.out (QClo.S_no HS.out BKo.out (by decide)) hs1_ hst_ ⟨_,rfl⟩);replace HFg:=y0.mk (QClo.Far.step HFg.out hst_);replace HFh:=y0.mk (QClo.Far.step HFh.out hst_);have nb_:=(hst_.2.1 _ (blk_lt BKa.out) (Ne.symm NEa.out) NVa.out).trans BKa.out;replace NVa:=y0.mk (QClo.nv_step hst_ (blk_lt BKa.out) NVa.out);replace BKa:=y0.mk nb_;clear nb_;have nb_:=(hst_.2.1 _ (blk_lt BKb.out) (Ne.symm NEb.out) NVb.out).trans BKb.out;replace NVb:=y0.mk (QClo.nv_step hst_ (blk_lt BKb.out) NVb.out);replace BKb:=y0.mk nb_;clear nb_;replace BKo:=y0.mk hb1_;replace HS:=y0.mk hs1_;replace HB:=y0.mk hbl_;clear hb1_ hs1_ hbl_ hst_;obtain⟨hco,hfo⟩:=QClo.bx1 BKo.out;obtain⟨Aa,Ab,Ac,Ad,Ae,Af⟩:=QClo.bx3 BKa.out;obtain⟨Aj,Ak,Al,Am,Ao,Ap⟩:=QClo.bx3 BKb.out))
              have HF:y0 (rs=[]∧rb=false):=⟨by
               have h_:=H.out
               rw [HIn.out,HJn.out,if_pos Bm.out,HAG.out,HAL.out,if_neg Br.out]at h_
               simp only [Option.bind_none]at h_
               injection h_ with h_
               injection h_ with h1 h2
               exact⟨h1.symm,h2.symm⟩⟩
              obtain⟨e1_,e2_⟩:=HF.out
              subst e1_
              subst e2_
              refine bodyPost_ret (results_tmp2 rfl _ _ _) rfl ?_
              exact⟨_,by first|rfl|(simp [errW_none,errW_some] <;> rfl),Kd.S_nil _ _ _ _ _,HB.out⟩
           ·skip
            have k1b:(g.f1 == h.f0)=false:=beq_eq_false_iff_ne.mpr k1_
            have Bm:=y0.mk k1_
            clear k1_
            have Bc:decide ((out.length:Int) > 120)=false:=decide_eq_false (by have:=HLO.out;omega)
            have Bd:decide (120 < (out.length:Int))=false:=decide_eq_false (by have:=HLO.out;omega)
            have Be:(120 < out.length)=False:=eq_false (by have:=HLO.out;omega)
            have Bf:decide (120 < out.length)=false:=decide_eq_false (by have:=HLO.out;omega)
            go_wp2
            have HLN:=HLO
            have HON:=HOK
            (repeat first|clear hco|clear hfo|clear Aa|clear Ab|clear Ac|clear Ad|clear Ae|clear Af|clear Aj|clear Ak|clear Al|clear Am|clear Ao|clear Ap)
            (repeat first|clear Bc|clear Bd|clear Be|clear Bf)
            go_roundg (Ai.length - j - 1)
            case measure=>have:=HKj.out;have:=HIj.out;omega
            exact⟨wrap64 (xj + 1),j + 1,ag,out,Av,cv,qy2,qy2,⟨by rw [HXj.out];exact QIv.step_u (by have:=HIj.out;have:=Bb.out;omega)⟩,⟨by have:=HKj.out;have:=HIj.out;omega⟩,⟨by rw [HJn.out,if_neg Bm.out,if_pos HLO.out]⟩,HLN,HON,BKo,HS,HNW,HB,BKa,NVa,HFg⟩
          ·skip
           have Bg:decide (xj < (Ai.length:Int))=false:=decide_eq_false c
           have HJe:y0 (p3=some (ag,out)):=⟨by rw [HJ.out,List.drop_of_length_le (by have:=HXj.out;have:=HKj.out;omega)];rfl⟩
           go_wp2
           go_roundg (Ai.length - i - 1)
           case measure=>have:=HKi.out;have:=HIi.out;omega
           exact⟨wrap64 (xi + 1),i + 1,ag,out,Av,cv,qy2,qy2,⟨by rw [HXi.out];exact QIv.step_u (by have:=HIi.out;have:=Bb.out;omega)⟩,⟨by have:=HKi.out;have:=HIi.out;omega⟩,⟨by rw [HIn.out,HJe.out];rfl⟩,HLO,HOK,BKo,HS,HNW,HB⟩
        ·skip
         have Bg:decide (xi < (Ai.length:Int))=false:=decide_eq_false c
         have HIe:y0 (clI sb cm Ai Ai false Ai=some (ag,out)):=⟨by rw [HI.out,List.drop_of_length_le (by have:=HXi.out;have:=HKi.out;omega)];rfl⟩
         replace H:y0 ((if ag=true then clR sb cm k1 out else some (out,true))=some (rs,rb)):=⟨by
          have h_:=H.out
          rw [HIe.out]at h_
          exact h_⟩
         go_wp2
         go_roundg k1
         case measure=>omega
         exact⟨ag,out,Av,cv,qy2,⟨fun h_=>by have h2_:=H.out;rw [if_pos h_]at h2_;exact h2_⟩,⟨fun h_=>by
          have h2_:=H.out
          rw [h_,if_neg (by decide)]at h2_
          injection h2_ with h2_
          injection h2_ with h1 h2
          exact⟨h1.symm,h2.symm⟩⟩,⟨by have:=HLO.out;omega⟩,HOK,BKo,HS,HB⟩
      ·skip
       have HF:y0 (rs=[]∧rb=false):=⟨by
        have h_:=H.out
        rw [clR,if_neg c]at h_
        injection h_ with h_
        injection h_ with h1 h2
        exact⟨h1.symm,h2.symm⟩⟩
       have Bc:decide ((Ai.length:Int) > 120)=true:=decide_eq_true (by omega)
       have Bd:decide (120 < (Ai.length:Int))=true:=decide_eq_true (by omega)
       have Be:(120 < Ai.length)=True:=eq_true (by omega)
       have Bf:decide (120 < Ai.length)=true:=decide_eq_true (by omega)
       clear c
       obtain⟨hco,hfo⟩:=QClo.bx1 BKo.out
       go_wp2
       obtain⟨e1_,e2_⟩:=HF.out
       subst e1_
       subst e2_
       refine bodyPost_ret (results_tmp2 rfl _ _ _) rfl ?_
       exact⟨_,by first|rfl|(simp [errW_none,errW_some] <;> rfl),Kd.S_nil _ _ _ _ _,HB.out⟩
end Go.Proofs.Ytcckpjflbfofjaa.Pd
end
section
namespace Go.Proofs.Ytcckpjflbfofjaa.Pd
open Go.RowKit Go.Proofs.YtcckpjflbfofjaaW.PrintWords Go.Proofs.YtcckpjflbfofjaaW.PrintLast Go.Proofs.YtcckpjflbfofjaaW.PrintMore
attribute [local go_sem] max2_int min2_int max_two min_two max_three min_three max_four min_four   -- for this text's walks alone
set_option linter.unusedVariables false
set_option linter.unusedSimpArgs false
set_option maxHeartbeats 16000000 in
set_option maxRecDepth 100000 in
theorem spec_l08Add.calls (k:Nat) (A0:Option Addr) (c0:Nat) (xs:List (S28)) (b0 b1:Int) (A1:Option Addr) (c1:Nat) (l1:List (S53)) (sb:S28→Bool) (w0 w:World) (hB:Below w0.heap.size w0 w) (hS:Kd.S k28 28 w w0.heap.size (fun _=>True) (.slice A0 xs.length c0) xs) (As:Kd.C k53 w A1 l1.length l1) (At:l1.length≤c1)
  (hs:∀ x∈xs,spec_l08Same.f k x.f0 x.f1 x.f2 b0 b1 l1=some (sb x)) (hn:xs.length≤2097152) (hl:l1.length≤1048576) :
  Calls Try.prog 38 #[.slice A0 xs.length c0,.agg #[.int .i64 b0,.int .i64 b1,.slice A1 l1.length c1]] w fun e w'=>∃ v1:Value,e=.returned v1∧Kd.S k28 28 w' w0.heap.size (fun _=>True) v1 (addG xs sb ⟨b0,b1,l1⟩)∧Below w0.heap.size w0 w':=by
 have Al:=y0.mk hB
 have Be:=y0.mk hS
 have Au:=y0.mk As
 have Ay:=y0.mk At
 have HSB:=y0.mk hs
 have HN:=y0.mk hn
 have HL:=y0.mk hl
 have hSb:Kd.S k28 28 w w0.heap.size (fun k_=>k_ < w.heap.size) (.slice A0 xs.length c0) xs:=Kd.S_mono (Kd.S_bound hS) (fun _ hk=>hk.2.2.1)
 have HS:=y0.mk hSb
 have HLT:=y0.mk (Kd.S_lt hS)
 clear hB hS As At hs hn hl hSb
 have Az:=Try.underlying28
 have Ba:=Try.underlying44
 have HK:=y0.mk (Below.refl w.heap.size w)
 go_enter Try.func38,Try.ntmps38
 go_wp2_with (first
  | ((with_reducible refine y12 (N:=3) rfl ?_);refine qe 3 #[.int .i64 b0,.int .i64 b1,.slice A1 l1.length c1] 28 ?_;intro gg hg w1 hbox hb;have BKg:=y0.mk hbox;have GEg:=y0.mk (by rw [hg];exact HK.out.size:w.heap.size≤gg);replace HK:=y0.mk (y4 HK.out hb);clear hb hg hbox))
 go_loopg [5] xs.length (fun kq v5 w'=>∃(xi:Int) (i:Nat),v5=.int .i64 xi∧y0 (xi=(i:Int))∧y0 (kq + i=xs.length)∧y0 (xs.any sb=(xs.drop i).any sb)∧y0 (w'.heap[gg]?=some (.cells #[.int .i64 b0,.int .i64 b1,.slice A1 l1.length c1] 28 (0,0)))∧y0 (Below w.heap.size w w'))
 case atStart=>exact⟨0,0,rfl,⟨rfl⟩,⟨Nat.add_zero _⟩,⟨by rw [List.drop_zero]⟩,BKg,HK⟩
 case round =>
  clear BKg HK
  obtain⟨xi,i,rfl,HXi,HKi,HD,BKg,HK⟩:=hrel
  by_cases c:xi < (xs.length:Int)
  ·skip
   have Bb:decide (xi < (xs.length:Int))=true:=decide_eq_true c
   have hi_:i < xs.length:=by have:=HXi.out;omega
   have p1:0≤xi:=by have:=HXi.out;omega
   obtain⟨adx,Ax,cx,e1,Af,Ai,Aj,hle,hCi⟩:=at_T28 (Kd.S_reads' HS.out).2.2 xi p1 c
   have rg:y14 xs xi=xs[i]:=by
    rw [HXi.out]
    unfold y14
    rw [show((i:Int)).toNat=i from rfl,List.getD_eq_getElem?_getD,List.getElem?_eq_getElem hi_]
    rfl
   rw [rg]at Af Ai Aj hle hCi
   clear rg
   have HMx:=y0.mk (HSB.out _ (List.getElem_mem hi_))
   have HDR:=y0.mk (show xs.any sb=(sb xs[i] || (xs.drop (i + 1)).any sb)by rw [HD.out,List.drop_eq_getElem_cons hi_,List.any_cons])
   have HIi:=y0.mk hi_
   clear HD
   generalize xs[i]=x at Af Ai Aj hle hCi HMx HDR
   clear hi_
   have HRx:=y0.mk hCi
   have HCx:=y0.mk hle
   clear hCi hle
   cases e1
   have Aa:=y0.mk ((HK.out.cell (World.block_lt_of_cell? w _ Af)).trans Af)
   have Ab:=y0.mk ((HK.out.cell (World.block_lt_of_cell? w _ Ai)).trans Ai)
   have Ac:=y0.mk ((HK.out.cell (World.block_lt_of_cell? w _ Aj)).trans Aj)
   clear Af Ai Aj
   obtain⟨b,hb_⟩:∃ b,sb x=b:=⟨_,rfl⟩
   rw [hb_]at HMx HDR
   clear hb_
   have q1:=eq_true c
   replace p1:=eq_true p1
   clear c
   go_upto_region 4 with fail
   refine start_ (n:=6) (S:=fun w'=>w'.cell? ⟨gg,0,none⟩=some (.int .i64 b0)∧w'.cell? ⟨gg,1,none⟩=some (.int .i64 b1)∧w'.cell? ⟨gg,2,none⟩=some (.slice A1 l1.length c1)∧w'.cell? (adx.add (xi.toNat * 3))=some (.int .i64 x.f0)∧w'.cell? ⟨(adx.add (xi.toNat * 3)).block,(adx.add (xi.toNat * 3)).off + 1,none⟩=some (.int .i64 x.f1)∧w'.cell? ⟨(adx.add (xi.toNat * 3)).block,(adx.add (xi.toNat * 3)).off + 2,none⟩=some (.slice Ax x.f2.length cx)) (ds:=[]) #[false,false,false,false,false,false] (by kernel_rfl) rfl rfl ⟨(y7 BKg.out 0).trans rfl,(y7 BKg.out 1).trans rfl,(y7 BKg.out 2).trans rfl,Aa.out,Ab.out,Ac.out⟩ (fun hHeld=>?_)
   replace BKg:=y0.mk (y8 BKg.out)
   replace HK:=y0.mk (y2 HK.out)
   replace Aa:=y0.mk ((show wr.drew.cell? _=_ from Aa.out))
   replace Ab:=y0.mk ((show wr.drew.cell? _=_ from Ab.out))
   replace Ac:=y0.mk ((show wr.drew.cell? _=_ from Ac.out))
   generalize wr.drew=Bf at BKg HK Aa Ab Ac hHeld ⊢
   refine qp3 0 12 6 ?_
   refine qt 3 15 #[true,true,true,true,false,false] hHeld ?_
   refine qt 4 16 #[true,true,true,true,true,false] hHeld ?_
   refine qO 5 17 #[true,true,true,true,true,true] (fun K hK=>?_)
   refine goes_ Try.func34 (by kernel_rfl) rfl #[.agg #[.int .i64 x.f0,.int .i64 x.f1,.slice Ax x.f2.length cx],.agg #[.int .i64 b0,.int .i64 b1,.slice A1 l1.length c1]] (by rfl) rfl rfl (by(try simp only [qM_,List.map_cons,List.map_nil]);first|done|rfl) ?_
   with_reducible refine(spec_l08Same.calls k x.f0 x.f1 Ax cx x.f2 b0 b1 A1 c1 l1 b _ (Kd.C_below HRx.out HK.out) HCx.out (Kd.C_below Au.out HK.out) Ay.out HMx.out).mono ?_
   rintro e_ Bg ⟨rfl,hb⟩
   refine⟨_,rfl, ?_⟩
   replace BKg:=y0.mk (y6 BKg.out hb)
   replace Aa:=y0.mk ((hb.cell (World.block_lt_of_cell? _ _ Aa.out)).trans Aa.out)
   replace Ab:=y0.mk ((hb.cell (World.block_lt_of_cell? _ _ Ab.out)).trans Ab.out)
   replace Ac:=y0.mk ((hb.cell (World.block_lt_of_cell? _ _ Ac.out)).trans Ac.out)
   replace HK:=y0.mk (y4 HK.out hb)
   clear hb
   refine hK.out _ _ ⟨(y7 BKg.out 0).trans rfl,(y7 BKg.out 1).trans rfl,(y7 BKg.out 2).trans rfl,Aa.out,Ab.out,Ac.out⟩ (fun hHeld=>?_)
   clear hK K
   refine qx 17 ?_
   refine done_ (by kernel_rfl) ?_
   clear hHeld Aa Ab Ac
   cases b with
   | true =>
    go_wp2
    go_ret
    exact⟨_,by first|rfl|(simp [errW_none,errW_some] <;> rfl),by unfold addG;rw [HDR.out,Bool.true_or,if_pos rfl];exact Kd.S_mono (Kd.S_below HS.out HK.out) (fun _ _=>trivial),y4 Al.out HK.out⟩
   | false =>
    go_wp2
    go_roundg (xs.length - i - 1)
    case measure=>have:=HKi.out;have:=HIi.out;omega
    exact⟨wrap64 (xi + 1),i + 1,qy2,⟨by rw [HXi.out];exact QIv.step_u (by have:=HIi.out;have:=HN.out;omega)⟩,⟨by have:=HKi.out;have:=HIi.out;omega⟩,⟨by rw [HDR.out,Bool.false_or]⟩,BKg,HK⟩
  ·skip
   have Bb:decide (xi < (xs.length:Int))=false:=decide_eq_false c
   have HAG:y0 (addG xs sb ⟨b0,b1,l1⟩=xs ++ [⟨b0,b1,l1⟩]):=⟨by unfold addG;rw [HD.out,List.drop_of_length_le (by have:=HXi.out;have:=HKi.out;omega)];rfl⟩
   clear c
   go_upto_region 6 with fail
   refine start_ (n:=13) (S:=fun w'=>w'.cell? ⟨gg,0,none⟩=some (.int .i64 b0)∧w'.cell? ⟨gg,1,none⟩=some (.int .i64 b1)∧w'.cell? ⟨gg,2,none⟩=some (.slice A1 l1.length c1)) (ds:=[]) (fl_ 13 0) (by kernel_rfl) rfl rfl ⟨(y7 BKg.out 0).trans rfl,(y7 BKg.out 1).trans rfl,(y7 BKg.out 2).trans rfl⟩ (fun hHeld=>?_)
   replace BKg:=y0.mk (y8 BKg.out)
   replace HK:=y0.mk (y2 HK.out)
   generalize wr.drew=Am at BKg HK hHeld ⊢
   refine qp2 0 19 13 ?_
   refine qp 3 22 (fl_ 13 11) ?_
   refine qp 6 25 (fl_ 13 75) ?_
   refine qt 2 21 (fl_ 13 79) hHeld ?_
   refine qt 4 23 (fl_ 13 95) hHeld ?_
   refine qt 7 26 (fl_ 13 223) hHeld ?_
   refine qO 5 24 (fl_ 13 255) (fun K hK=>?_)
   refine Kd.R_lit_step k53 Am.heap.size 53 (by rfl) (N:=24) rfl (w0:=Am) (xs:=([]:List (S53))) (inner:=[]) (ok:=fun _=>True) (okp:=fun _=>True) ?hr ?hp (fun _ hk=>hk) trivial (Below.refl _ _) (Nat.le_refl _) (by simp) ?_
   (case hr=>first|(go_simp;done)|(go_simp;rfl))
   (case hp=>exact(Reps.none _ _))
   intro v7 Bh ho hb hg_ hnew_
   clear hg_ hnew_
   have Aw:=y0.mk ho
   have Ao:=y0.mk hb
   have Ad:=y0.mk (y6 BKg.out hb)
   clear hb ho
   refine hK.out _ _ ⟨(y7 Ad.out 0).trans rfl,(y7 Ad.out 1).trans rfl,(y7 Ad.out 2).trans rfl⟩ (fun hHeld=>?_)
   clear hK K
   refine qx 24 ?_
   refine qO 8 27 (fl_ 13 511) (fun K hK=>?_)
   refine Kd.R_append_rows_step k53 (w0:=Am) Am.heap.size (by rfl) (.tmp 24) (.tmp 26) 26 53 (.agg #[(.int .i64 0),(.int .i64 0),(.bool false)]) 24 rfl Try.underlying26 info53 rfl (by decide) (by omega) v7 [] l1 _ _ _ (fun _=>True) (fun _=>False) rfl rfl ?aO ?aR (fun _ _ h=>h) (fun _ h=>h.elim) ?aF ?aB ?aS ?aL ?_
   (case aR=>exact Kd.C_below Au.out (y4 HK.out Ao.out))
   (case aB=>exact Ao.out)
   (case aF=>exact(fun _ _=>trivial))
   (case aO=>exact Aw.out)
   (case aS=>exact Ao.out.size)
   (case aL=>have:=HL.out;simp only [List.length_nil];omega)
   intro Bi Bj ho hb hg hat
   rw [List.nil_append]at ho
   obtain⟨Ap,Aq,e10_⟩:=Kd.R_slice ho
   subst e10_
   have Bc:=y0.mk HK.out.size
   have Ar:=y0.mk ho
   have Ak:y0 (∀ k_,some k_=(.slice Ap l1.length Aq:Value).ownBlock→w.heap.size≤k_):=⟨fun k_ hk=>Nat.le_trans HK.out.size (Kd.R_base ho k_ hk.symm)⟩
   replace BKg:=y0.mk (y6 BKg.out hb)
   replace HK:=y0.mk (y4 HK.out hb)
   clear hb ho hg hat Aw Ao Ad
   refine hK.out _ _ ⟨(y7 BKg.out 0).trans rfl,(y7 BKg.out 1).trans rfl,(y7 BKg.out 2).trans rfl⟩ (fun hHeld=>?_)
   clear hK K
   refine qx 27 ?_
   refine qp 9 28 (fl_ 13 1023) ?_
   refine qO 10 29 (fl_ 13 2047) (fun K hK=>?_)
   refine value_ (w1:=?_) (v:=?_) (by rfl) rfl ?_ ?_
   rotate_left 2
   ·go_simp
    constructor
    ·rfl
    ·rfl
   refine hK.out _ _ ⟨(y7 (y5 BKg.out _) 0).trans rfl,(y7 (y5 BKg.out _) 1).trans rfl,(y7 (y5 BKg.out _) 2).trans rfl⟩ (fun hHeld=>?_)
   clear hK K
   refine qx 29 ?_
   refine qO 11 30 (fl_ 13 4095) (fun K hK=>?_)
   refine Kd.S_append_step k28 (w0:=w0) w0.heap.size (by rfl) (.tmp 19) (.tmp 29) 44 28 (.agg #[(.int .i64 0),(.int .i64 0),(.slice none 0 0)]) 40 rfl Try.underlying44 info28 rfl (by decide) (by omega) (.slice A0 xs.length c0) xs (⟨b0,b1,l1⟩:S28) [.int .i64 b0,.int .i64 b1,.slice Ap l1.length Aq] (fun _=>True) (fun k_=>some k_=(.slice Ap l1.length Aq:Value).ownBlock) rfl rfl ?aP ?aK ?aF ?aO ?aB ?aS ?aL ?_
   (case aP=>exact k28_mkM _ _ _ (⟨b0,b1,l1⟩:S28) (Kd.R_lower (Kd.R_tight rfl (qR Ar.out)) (Nat.le_trans Al.out.size Bc.out)))
   (case aK=>exact(fun k_ hk=>⟨trivial,fun e_=>absurd (HLT.out k_ e_.symm) (Nat.not_lt_of_le (Ak.out k_ hk))⟩))
   (case aF=>exact(fun _ _=>trivial))
   (case aO=>exact(Kd.S_mono (Kd.S_below HS.out HK.out) (fun k_ hk=>⟨trivial,fun e_=>absurd hk (Nat.not_lt_of_le (Ak.out k_ e_))⟩)))
   (case aB=>exact(y4 Al.out HK.out))
   (case aS=>exact(y4 Al.out HK.out).size)
   (case aL=>have:=HN.out;omega)
   intro v1 Bk ho hb hg hat
   have Ae:=y0.mk (blk_grown BKg.out hg (fun e_=>absurd (HLT.out _ e_.symm) (Nat.not_lt_of_le GEg.out)))
   have HO:=y0.mk ho
   have Bd:=y0.mk hb
   clear ho hb hg hat
   refine hK.out _ _ ⟨(y7 Ae.out 0).trans rfl,(y7 Ae.out 1).trans rfl,(y7 Ae.out 2).trans rfl⟩ (fun hHeld=>?_)
   clear hK K
   refine qx 30 ?_
   refine qp 12 4 (fl_ 13 8191) ?_
   refine done_ (by kernel_rfl) ?_
   clear hHeld
   go_wp2
   go_ret
   exact⟨_,by first|rfl|(simp [errW_none,errW_some] <;> rfl),by rw [HAG.out];exact HO.out,Bd.out⟩
end Go.Proofs.Ytcckpjflbfofjaa.Pd
end
section
namespace Go.Proofs.Ytcckpjflbfofjaa.Pd
open Go.RowKit Go.Proofs.YtcckpjflbfofjaaW.PrintWords Go.Proofs.YtcckpjflbfofjaaW.PrintLast Go.Proofs.YtcckpjflbfofjaaW.PrintMore
attribute [local go_sem] max2_int min2_int max_two min_two max_three min_three max_four min_four   -- for this text's walks alone
set_option linter.unusedVariables false
set_option linter.unusedSimpArgs false
/-- The graphs that are given: as long as there are at most 120, each must be right. -/
def spP (sb:S28→S28→Bool) (rt:S28→Bool):List (S28)→List (S28)→Option (List (S28))
 | [],out=>some out
 | g :: r,out=>if out.length≤120 then(if rt g=true then spP sb rt r (addG out (sb g) g)else none)else some out
def spG (c:Int×Int×List (S53)×Bool):S28:=⟨c.1,c.2.1,c.2.2.1⟩
def spJ (sb:S28→S28→Bool) (cs:S28→S28→Int×Int×List (S53)×Bool) (g:S28):List (S28)→List (S28)→List (S28)
 | [],out=>out
 | h :: r,out=>spJ sb cs g r (if(cs g h).2.2.2=true then addG out (sb (spG (cs g h))) (spG (cs g h))else out)
def spI (sb:S28→S28→Bool) (cs:S28→S28→Int×Int×List (S53)×Bool) (now:List (S28)):List (S28)→List (S28)→List (S28)
 | [],out=>out
 | g :: r,out=>if out.length≤120 then spI sb cs now r (spJ sb cs g now out)else out
def spR (sb:S28→S28→Bool) (cs:S28→S28→Int×Int×List (S53)×Bool):Nat→List (S28)→Option (List (S28)×Bool)
 | 0,_=>none
 | n + 1,out=>if out.length≤120 then(if(spI sb cs out out out).length=out.length then some (spI sb cs out out out,true)else spR sb cs n (spI sb cs out out out))else some ([],false)
def spF (sb:S28→S28→Bool) (rt:S28→Bool) (cs:S28→S28→Int×Int×List (S53)×Bool) (k:Nat) (l:List (S28)):Option (List (S28)×Bool):=match spP sb rt l []with|none=>some ([],false)|some out=>spR sb cs k out
set_option maxHeartbeats 32000000 in
set_option maxRecDepth 100000 in
theorem spec_Closed.calls (k n:Nat) (A0:Option Addr) (c0:Nat) (l0:List (S28)) (sb:S28→S28→Bool) (rt:S28→Bool) (cs:S28→S28→Int×Int×List (S53)×Bool) (OK:S28→Prop) (rs:List (S28)) (rb:Bool) (w:World) (Bs:Kd.C k28 w A0 l0.length l0) (Bt:l0.length≤c0) (hn:l0.length≤1048576)
  (HSB:y0 (∀ x g:S28,x.f2.length≤1048576→g.f2.length≤1048576→spec_l08Same.f k x.f0 x.f1 x.f2 g.f0 g.f1 g.f2=some (sb g x)))
  (HIG:y0 (∀ g∈l0,g.f2.length≤1048576∧z1_.f k g.f0 g.f1 g.f2=some (rt g)∧(rt g=true→OK g)))
  (HCM:y0 (∀ x y,OK x→OK y→z0_.f k x.f0 x.f1 x.f2 y.f0 y.f1 y.f2=some (cs x y)∧OK (spG (cs x y))))
  (HOL:y0 (∀ x,OK x→x.f2.length≤1048576)) (h:spF sb rt cs n l0=some (rs,rb)) :
  Calls Try.prog 20 #[.slice A0 l0.length c0] w fun e w'=>∃ v_:Value,e=.returned (.tuple #[v_,.bool rb])∧Kd.S k28 28 w' w.heap.size (fun _=>True) v_ rs∧Below w.heap.size w w':=by
 have Bv:=y0.mk Bs
 have Cb:=y0.mk Bt
 have HN:=y0.mk hn
 clear Bs Bt hn
 have Bw:=Try.underlying28
 have Bx:=Try.underlying44
 have H:=y0.mk h
 clear h
 go_enter Try.func20,Try.ntmps20
 go_wp2_with (first
  | ((with_reducible refine y12 (N:=11) rfl ?_);refine Kd.R_lit (Kd.tag (fun _=>0) k28) _ 28 ?hg (N:=11) ?hd (xs:=([]:List (S28×Nat))) (inner:=[]) (ok:=fun _=>True) (okp:=fun _=>True) ?hr ?hp (fun _ hk=>hk) trivial (Below.refl _ _) (Nat.le_refl _) (by simp) ?_;(case hd=>rfl);(case hg=>rfl);(case hr=>first|(go_simp;done)|(go_simp;rfl));(case hp=>exact(Reps.none _ _));intro v_n wn ho hb hg_ hnew_;clear hg_ hnew_;have hS_:Kd.S k28 28 wn _ (fun _=>True) v_n []:=⟨fun _=>0,ho⟩;obtain⟨An_,cn_,ev_⟩:=Kd.S_slice hS_;subst ev_;have HSn:=y0.mk hS_;have HBn:=y0.mk hb;clear ho hb hS_))
 have HS:y0 (Kd.S k28 28 wn w.heap.size (fun _=>True) (.slice An_ 0 cn_) ([])):=⟨HSn.out⟩
 have HB:=HBn
 clear HSn HBn
 go_loopg [4,5] l0.length (fun kq v4 v5 w'=>∃(xi:Int) (i:Nat) (out:List (S28)) (Av:Option Addr) (cv:Nat),v4=.slice Av out.length cv∧v5=.int .i64 xi∧y0 (xi=(i:Int))∧y0 (kq + i=l0.length)∧y0 (spP sb rt l0 []=spP sb rt (l0.drop i) out)∧y0 (out.length≤121)∧y0 (∀ x∈out,OK x)∧y0 (Kd.S k28 28 w' w.heap.size (fun _=>True) (.slice Av out.length cv) (out))∧y0 (Below w.heap.size w w'))
 case atStart=>exact⟨0,0,[],An_,cn_,rfl,rfl,⟨rfl⟩,⟨Nat.add_zero _⟩,⟨by rw [List.drop_zero]⟩,⟨Nat.zero_le _⟩,⟨fun _ h=>by cases h⟩,HS,HB⟩
 case round =>
  clear HS HB
  obtain⟨xi,i,out,Av,cv,rfl,rfl,HXi,HKi,HD,HLO,HOK,HS,HB⟩:=hrel
  by_cases c:xi < (l0.length:Int)
  ·skip
   have Bg:decide (xi < (l0.length:Int))=true:=decide_eq_true c
   by_cases c9:out.length≤120
   ·skip
    have Aw:decide ((out.length:Int)≤120)=true:=decide_eq_true (by omega)
    have Ay:(out.length≤120)=True:=eq_true (by omega)
    have Az:decide (out.length≤120)=true:=decide_eq_true (by omega)
    have hi_:i < l0.length:=by have:=HXi.out;omega
    have p1g:0≤xi:=by have:=HXi.out;omega
    obtain⟨adg,Ag,cg,eg,Ab,Ac,Ad,hle,hCi⟩:=at_T28 Bv.out xi p1g c
    have rg:y14 l0 xi=l0[i]:=by
     rw [HXi.out]
     unfold y14
     rw [show((i:Int)).toNat=i from rfl,List.getD_eq_getElem?_getD,List.getElem?_eq_getElem hi_]
     rfl
    rw [rg]at Ab Ac Ad hle hCi
    clear rg
    have HMg:=y0.mk (List.getElem_mem hi_)
    have HDRg:=y0.mk (List.drop_eq_getElem_cons hi_)
    have HIi:=y0.mk hi_
    generalize hE_:l0[i]=g at Ab Ac Ad hle hCi HMg HDRg
    have HEg:y0 (∀ h_:i < l0.length,l0[i]'h_=g):=⟨fun _=>hE_⟩
    clear hE_
    clear hi_
    have HRg:=y0.mk hCi
    have HCg:=y0.mk hle
    clear hCi hle
    have Bf:=y0.mk c9
    clear c9
    cases eg
    have HGG:=y0.mk (HIG.out g HMg.out)
    have Bj:=y0.mk Ab
    replace Ab:=(HB.out.cell (World.block_lt_of_cell? w _ Ab)).trans Ab
    have Bk:=y0.mk Ac
    replace Ac:=(HB.out.cell (World.block_lt_of_cell? w _ Ac)).trans Ac
    have Bl:=y0.mk Ad
    replace Ad:=(HB.out.cell (World.block_lt_of_cell? w _ Ad)).trans Ad
    have q1:=eq_true c
    replace p1g:=eq_true p1g
    clear c
    obtain⟨b,hb_⟩:∃ b,rt g=b:=⟨_,rfl⟩
    have HBG:=y0.mk hb_
    have HIB:y0 (z1_.f k g.f0 g.f1 g.f2=some b):=⟨by rw [← hb_];exact HGG.out.2.1⟩
    clear hb_
    cases b with
    | false =>
     go_wp2_with (first
      | (go_at_call 27;(with_reducible refine(z1_.calls k g.f0 g.f1 Ag cg g.f2 false _ (Kd.C_below HRg.out HB.out) HCg.out HIB.out).mono ?_);rintro e_ wa ⟨rfl,hb⟩;(repeat first|clear Ab|clear Ac|clear Ad);replace HS:=y0.mk (Kd.S_below HS.out hb);replace HB:=y0.mk (y4 HB.out hb);clear hb;have Ab:=(HB.out.cell (World.block_lt_of_cell? w _ Bj.out)).trans Bj.out;have Ac:=(HB.out.cell (World.block_lt_of_cell? w _ Bk.out)).trans Bk.out;have Ad:=(HB.out.cell (World.block_lt_of_cell? w _ Bl.out)).trans Bl.out)
      | ((with_reducible refine y12 (N:=29) rfl ?_);refine Kd.R_lit (Kd.tag (fun _=>0) k28) _ 28 ?hg (N:=29) ?hd (xs:=([]:List (S28×Nat))) (inner:=[]) (ok:=fun _=>True) (okp:=fun _=>True) ?hr ?hp (fun _ hk=>hk) trivial (Below.refl _ _) (Nat.le_refl _) (by simp) ?_;(case hd=>rfl);(case hg=>rfl);(case hr=>first|(go_simp;done)|(go_simp;rfl));(case hp=>exact(Reps.none _ _));intro v_n wn ho hb hg_ hnew_;clear hg_ hnew_;have hS_:Kd.S k28 28 wn _ (fun _=>True) v_n []:=⟨fun _=>0,ho⟩;obtain⟨An_,cn_,ev_⟩:=Kd.S_slice hS_;subst ev_;have HSn:=y0.mk hS_;have HBn:=y0.mk hb;clear ho hb hS_))
     have HF:y0 (rs=[]∧rb=false):=⟨by
      have h_:=H.out
      unfold spF at h_
      rw [HD.out,HDRg.out]at h_
      simp only [spP,HBG.out,Bool.false_eq_true,↓reduceIte,if_pos Bf.out]at h_
      injection h_ with h_
      injection h_ with h1 h2
      exact⟨h1.symm,h2.symm⟩⟩
     obtain⟨e1_,e2_⟩:=HF.out
     subst e1_
     subst e2_
     refine bodyPost_ret (results_tmp2 rfl _ _ _) rfl ?_
     exact⟨_,by first|rfl|(simp [errW_none,errW_some] <;> rfl),Kd.S_lower HSn.out HB.out.size,y4 HB.out HBn.out⟩
    | true =>
     go_wp2_with (first
      | (go_at_call 27;(with_reducible refine(z1_.calls k g.f0 g.f1 Ag cg g.f2 true _ (Kd.C_below HRg.out HB.out) HCg.out HIB.out).mono ?_);rintro e_ wa ⟨rfl,hb⟩;(repeat first|clear Ab|clear Ac|clear Ad);replace HS:=y0.mk (Kd.S_below HS.out hb);replace HB:=y0.mk (y4 HB.out hb);clear hb;have Ab:=(HB.out.cell (World.block_lt_of_cell? w _ Bj.out)).trans Bj.out;have Ac:=(HB.out.cell (World.block_lt_of_cell? w _ Bk.out)).trans Bk.out;have Ad:=(HB.out.cell (World.block_lt_of_cell? w _ Bl.out)).trans Bl.out)
      | (go_at_call 38;(with_reducible refine(spec_l08Add.calls k Av cv out g.f0 g.f1 Ag cg g.f2 (sb g) w wa HB.out HS.out (Kd.C_below HRg.out HB.out) HCg.out (fun x hx=>HSB.out x g (HOL.out x (HOK.out x hx)) HGG.out.1) (by have:=HLO.out;omega) HGG.out.1).mono ?_);rintro e_ wb ⟨v1,rfl,hs1_,hbl_⟩;obtain⟨A1,c1,e1_⟩:=Kd.S_slice hs1_;subst e1_;replace HS:=y0.mk hs1_;replace HB:=y0.mk hbl_;clear hs1_ hbl_))
     (repeat first|clear Ab|clear Ac|clear Ad)
     (repeat first|clear Aw|clear Ay|clear Az)
     go_roundg (l0.length - i - 1)
     case measure=>have:=HKi.out;have:=HIi.out;omega
     exact⟨wrap64 (xi + 1),i + 1,addG out (sb g) g,A1,c1,qy2,qy2,⟨by rw [HXi.out];exact QIv.step_u (by have:=HIi.out;have:=HN.out;omega)⟩,⟨by have:=HKi.out;have:=HIi.out;omega⟩,⟨by rw [HD.out,HDRg.out];simp only [spP,HBG.out,↓reduceIte,if_pos Bf.out]⟩,⟨by have:=addG_len out (sb g) g;have:=Bf.out;omega⟩,⟨addG_all HOK.out (HGG.out.2.2 HBG.out)⟩,HS,HB⟩
   ·skip
    have Aw:decide ((out.length:Int)≤120)=false:=decide_eq_false (by omega)
    have Ay:(out.length≤120)=False:=eq_false (by omega)
    have Az:decide (out.length≤120)=false:=decide_eq_false (by omega)
    have HE:y0 (spP sb rt l0 []=some out):=⟨by
     rw [HD.out]
     rcases hd_:l0.drop i with _|⟨g_,r_⟩
     ·rfl
     ·rw [spP,if_neg c9]⟩
    have HF:y0 (rs=[]∧rb=false):=⟨by
     have h_:=H.out
     unfold spF at h_
     rw [HE.out]at h_
     simp only at h_
     cases n with
     | zero=>exact absurd h_ (by simp [spR])
     | succ n =>
      rw [spR,if_neg c9]at h_
      injection h_ with h_
      injection h_ with h1 h2
      exact⟨h1.symm,h2.symm⟩⟩
    obtain⟨e1_,e2_⟩:=HF.out
    subst e1_
    subst e2_
    have Bf:=y0.mk c9
    clear c9
    go_wp2
    go_loopg [4] 1 (fun kq v4 w'=>v4=.slice Av out.length cv∧y0 (Kd.S k28 28 w' w.heap.size (fun _=>True) (.slice Av out.length cv) (out))∧y0 (Below w.heap.size w w'))
    case atStart=>exact⟨rfl,HS,HB⟩
    case round =>
     clear HS HB
     obtain⟨rfl,HS,HB⟩:=hrel
     go_wp2_with (first
      | ((with_reducible refine y12 (N:=77) rfl ?_);refine Kd.R_lit (Kd.tag (fun _=>0) k28) _ 28 ?hg (N:=77) ?hd (xs:=([]:List (S28×Nat))) (inner:=[]) (ok:=fun _=>True) (okp:=fun _=>True) ?hr ?hp (fun _ hk=>hk) trivial (Below.refl _ _) (Nat.le_refl _) (by simp) ?_;(case hd=>rfl);(case hg=>rfl);(case hr=>first|(go_simp;done)|(go_simp;rfl));(case hp=>exact(Reps.none _ _));intro v_n wn ho hb hg_ hnew_;clear hg_ hnew_;have hS_:Kd.S k28 28 wn _ (fun _=>True) v_n []:=⟨fun _=>0,ho⟩;obtain⟨An_,cn_,ev_⟩:=Kd.S_slice hS_;subst ev_;have HSn:=y0.mk hS_;have HBn:=y0.mk hb;clear ho hb hS_))
     refine bodyPost_ret (results_tmp2 rfl _ _ _) rfl ?_
     exact⟨_,by first|rfl|(simp [errW_none,errW_some] <;> rfl),Kd.S_lower HSn.out HB.out.size,y4 HB.out HBn.out⟩
  ·skip
   have Bg:decide (xi < (l0.length:Int))=false:=decide_eq_false c
   replace H:y0 (spR sb cs n out=some (rs,rb)):=⟨by
    have h_:=H.out
    unfold spF at h_
    rw [HD.out,List.drop_of_length_le (by have:=HXi.out;have:=HKi.out;omega)]at h_
    exact h_⟩
   clear HD HXi HKi c
   go_wp2
   go_loopg [4] n (fun kq v4 w'=>∃(out:List (S28)) (Av:Option Addr) (cv:Nat),v4=.slice Av out.length cv∧y0 (spR sb cs kq out=some (rs,rb))∧y0 (out.length≤1000)∧y0 (∀ x∈out,OK x)∧y0 (Kd.S k28 28 w' w.heap.size (fun _=>True) (.slice Av out.length cv) (out))∧y0 (Below w.heap.size w w'))
   case atStart=>exact⟨out,Av,cv,rfl,H,⟨by have:=HLO.out;omega⟩,HOK,HS,HB⟩
   case round =>
    clear HS HB H HLO HOK
    obtain⟨Aa,An,cn,rfl,H,HLO,HOK,HS,HB⟩:=hrel
    cases gk with
    | zero=>exact absurd H.out (by simp [spR])
    | succ k1 =>
     by_cases c:Aa.length≤120
     ·skip
      have Aw:decide ((Aa.length:Int)≤120)=true:=decide_eq_true (by omega)
      have Ay:(Aa.length≤120)=True:=eq_true (by omega)
      have Az:decide (Aa.length≤120)=true:=decide_eq_true (by omega)
      have Ao:=y0.mk c
      replace H:y0 ((if(spI sb cs Aa Aa Aa).length=Aa.length then some (spI sb cs Aa Aa Aa,true)else spR sb cs k1 (spI sb cs Aa Aa Aa))=some (rs,rb)):=⟨by
       have h_:=H.out
       rw [spR,if_pos c]at h_
       exact h_⟩
      clear c
      have Bh:=HOK
      go_wp2
      (repeat first|clear Aw|clear Ay|clear Az)
      go_loopg [4,7] Aa.length (fun kq v4 v7 w'=>∃(xi:Int) (i:Nat) (out:List (S28)) (Av:Option Addr) (cv:Nat),v4=.slice Av out.length cv∧v7=.int .i64 xi∧y0 (xi=(i:Int))∧y0 (kq + i=Aa.length)∧y0 (spI sb cs Aa Aa Aa=spI sb cs Aa (Aa.drop i) out)∧y0 (out.length≤240)∧y0 (∃ t,out=Aa ++ t)∧y0 (∀ x∈out,OK x)∧y0 (Kd.S k28 28 w' w.heap.size (fun _=>True) (.slice Av out.length cv) (out))∧y0 (Below w.heap.size w w'))
      case atStart=>exact⟨0,0,Aa,An,cn,rfl,rfl,⟨rfl⟩,⟨Nat.add_zero _⟩,⟨by rw [List.drop_zero]⟩,⟨by have:=Ao.out;omega⟩,⟨[],(List.append_nil _).symm⟩,HOK,HS,HB⟩
      case round =>
       clear HS HB HLO HOK
       obtain⟨xi,i,out,Av,cv,rfl,rfl,HXi,HKi,HI,HLO,HPR,HOK,HS,HB⟩:=hrel
       by_cases c:xi < (Aa.length:Int)
       ·skip
        have Bg:decide (xi < (Aa.length:Int))=true:=decide_eq_true c
        by_cases c9:out.length≤120
        ·skip
         have Aw:decide ((out.length:Int)≤120)=true:=decide_eq_true (by omega)
         have Ay:(out.length≤120)=True:=eq_true (by omega)
         have Az:decide (out.length≤120)=true:=decide_eq_true (by omega)
         have Bf:=y0.mk c9
         have HIi:y0 (i < Aa.length):=⟨by have:=HXi.out;omega⟩
         have HCi:=y0.mk c
         clear c9 c
         obtain⟨p3,Bn⟩:∃ p,spJ sb cs (Aa[i]'HIi.out) Aa out=p:=⟨_,rfl⟩
         have HIn:y0 (spI sb cs Aa Aa Aa=spI sb cs Aa (Aa.drop (i + 1)) p3):=⟨by rw [HI.out,List.drop_eq_getElem_cons HIi.out];simp only [spI];rw [if_pos Bf.out,Bn]⟩
         have Bu:=y0.mk Bn
         clear Bn
         go_wp2
         (repeat first|clear Aw|clear Ay|clear Az)
         go_loopg [4,8] Aa.length (fun kq v4 v8 w'=>∃(xj:Int) (j:Nat) (out:List (S28)) (Av:Option Addr) (cv:Nat),v4=.slice Av out.length cv∧v8=.int .i64 xj∧y0 (xj=(j:Int))∧y0 (kq + j=Aa.length)∧y0 (p3=spJ sb cs (Aa[i]'HIi.out) (Aa.drop j) out)∧y0 (out.length≤120 + j)∧y0 (∃ t,out=Aa ++ t)∧y0 (∀ x∈out,OK x)∧y0 (Kd.S k28 28 w' w.heap.size (fun _=>True) (.slice Av out.length cv) (out))∧y0 (Below w.heap.size w w'))
         case atStart=>exact⟨0,0,out,Av,cv,rfl,rfl,⟨rfl⟩,⟨Nat.add_zero _⟩,⟨by rw [List.drop_zero];exact Bu.out.symm⟩,⟨Bf.out⟩,HPR,HOK,HS,HB⟩
         case round =>
          clear HS HB HLO HOK HPR Bu
          obtain⟨xj,j,out,Av,cv,rfl,rfl,HXj,HKj,HJ,HLO,HPR,HOK,HS,HB⟩:=hrel
          by_cases c:xj < (Aa.length:Int)
          ·skip
           have Bg:decide (xj < (Aa.length:Int))=true:=decide_eq_true c
           have ci:=HCi.out
           have hi_:i < Aa.length:=by have:=HXi.out;omega
           have p1g:0≤xi:=by have:=HXi.out;omega
           have q2g:xi < (out.length:Int):=by have h_:=HPR.out;obtain⟨t_,h_⟩:=h_;rw [h_,List.length_append];have:=HXi.out;omega
           obtain⟨adg,Ag,cg,eg,Ab,Ac,Ad,hle,hCi⟩:=at_T28 (Kd.S_reads' HS.out).2.2 xi p1g q2g
           have rg:y14 out xi=Aa[i]:=by
            rw [HXi.out]
            unfold y14
            obtain⟨t_,h_⟩:=HPR.out
            rw [show((i:Int)).toNat=i from rfl,List.getD_eq_getElem?_getD,h_,List.getElem?_append_left hi_,List.getElem?_eq_getElem hi_]
            rfl
           rw [rg]at Ab Ac Ad hle hCi
           clear rg
           have HMg:=y0.mk (List.getElem_mem hi_)
           have HDRg:=y0.mk (List.drop_eq_getElem_cons hi_)
           have HIi:=y0.mk hi_
           generalize hE_:Aa[i]=g at Ab Ac Ad hle hCi HMg HDRg HJ
           have HEg:y0 (∀ h_:i < Aa.length,Aa[i]'h_=g):=⟨fun _=>hE_⟩
           clear hE_
           clear hi_
           have HRg:=y0.mk hCi
           have HCg:=y0.mk hle
           clear hCi hle
           have hi_:j < Aa.length:=by have:=HXj.out;omega
           have p1h:0≤xj:=by have:=HXj.out;omega
           have q2h:xj < (out.length:Int):=by have h_:=HPR.out;obtain⟨t_,h_⟩:=h_;rw [h_,List.length_append];have:=HXj.out;omega
           obtain⟨adh,Ah,ch,eh,Ba,Bb,Bc,hle,hCi⟩:=at_T28 (Kd.S_reads' HS.out).2.2 xj p1h q2h
           have rg:y14 out xj=Aa[j]:=by
            rw [HXj.out]
            unfold y14
            obtain⟨t_,h_⟩:=HPR.out
            rw [show((j:Int)).toNat=j from rfl,List.getD_eq_getElem?_getD,h_,List.getElem?_append_left hi_,List.getElem?_eq_getElem hi_]
            rfl
           rw [rg]at Ba Bb Bc hle hCi
           clear rg
           have HMh:=y0.mk (List.getElem_mem hi_)
           have HDRh:=y0.mk (List.drop_eq_getElem_cons hi_)
           have HIj:=y0.mk hi_
           generalize hE_:Aa[j]=h at Ba Bb Bc hle hCi HMh HDRh
           have HEh:y0 (∀ h_:j < Aa.length,Aa[j]'h_=h):=⟨fun _=>hE_⟩
           clear hE_
           clear hi_
           have HRh:=y0.mk hCi
           have HCh:=y0.mk hle
           clear hCi hle
           cases eg
           injection eh with eh
           subst eh
           have Ae:=y0.mk Ab
           have Af:=y0.mk Ac
           have Ai:=y0.mk Ad
           have Aj:=y0.mk Ba
           have Ak:=y0.mk Bb
           have Al:=y0.mk Bc
           clear Ab Ac Ad Ba Bb Bc
           have HOg:=y0.mk (Bh.out g HMg.out)
           have HOh:=y0.mk (Bh.out h HMh.out)
           obtain⟨⟨r1,r2,r3,r4⟩,hcs⟩:∃ c,cs g h=c:=⟨_,rfl⟩
           have HCC:y0 (z0_.f k g.f0 g.f1 g.f2 h.f0 h.f1 h.f2=some (r1,r2,r3,r4)∧OK ⟨r1,r2,r3⟩):=⟨by have h_:=HCM.out g h HOg.out HOh.out;rw [hcs]at h_;exact h_⟩
           have HJn:y0 (p3=spJ sb cs g (Aa.drop (j + 1)) (if r4=true then addG out (sb (⟨r1,r2,r3⟩:S28)) (⟨r1,r2,r3⟩:S28)else out)):=⟨by rw [HJ.out,HDRh.out,spJ,hcs];rfl⟩
           clear hcs HJ
           have q1:=eq_true c
           replace p1g:=eq_true p1g
           replace p1h:=eq_true p1h
           replace q2g:=eq_true q2g
           replace q2h:=eq_true q2h
           clear c ci
           go_upto_region 16 with fail
           refine start_ (n:=15) (S:=fun w'=>w'.cell? (adg.add (xi.toNat * 3))=some (.int .i64 g.f0)∧w'.cell? ⟨(adg.add (xi.toNat * 3)).block,(adg.add (xi.toNat * 3)).off + 1,none⟩=some (.int .i64 g.f1)∧w'.cell? ⟨(adg.add (xi.toNat * 3)).block,(adg.add (xi.toNat * 3)).off + 2,none⟩=some (.slice Ag g.f2.length cg)∧w'.cell? (adg.add (xj.toNat * 3))=some (.int .i64 h.f0)∧w'.cell? ⟨(adg.add (xj.toNat * 3)).block,(adg.add (xj.toNat * 3)).off + 1,none⟩=some (.int .i64 h.f1)∧w'.cell? ⟨(adg.add (xj.toNat * 3)).block,(adg.add (xj.toNat * 3)).off + 2,none⟩=some (.slice Ah h.f2.length ch)) (ds:=[13]) (fl_ 15 0) (by kernel_rfl) rfl rfl ⟨Ae.out,Af.out,Ai.out,Aj.out,Ak.out,Al.out⟩ (fun hHeld=>?_)
           replace HS:=y0.mk (Kd.S_drew HS.out)
           replace HB:=y0.mk (y2 HB.out)
           replace HRg:=y0.mk (Kd.C_drew HRg.out)
           replace HRh:=y0.mk (Kd.C_drew HRh.out)
           replace Ae:=y0.mk ((show wr.drew.cell? _=_ from Ae.out))
           replace Af:=y0.mk ((show wr.drew.cell? _=_ from Af.out))
           replace Ai:=y0.mk ((show wr.drew.cell? _=_ from Ai.out))
           replace Aj:=y0.mk ((show wr.drew.cell? _=_ from Aj.out))
           replace Ak:=y0.mk ((show wr.drew.cell? _=_ from Ak.out))
           replace Al:=y0.mk ((show wr.drew.cell? _=_ from Al.out))
           generalize wr.drew=Am at HS HB HRg HRh Ae Af Ai Aj Ak Al hHeld ⊢
           refine qp3 0 57 15 ?_
           refine qp 4 61 (fl_ 15 23) ?_
           refine qp 5 62 (fl_ 15 55) ?_
           refine qp 6 63 (fl_ 15 119) ?_
           refine qt 3 60 (fl_ 15 127) hHeld ?_
           refine qt 7 64 (fl_ 15 255) hHeld ?_
           refine join_ (σ:=(Option Addr×Nat)×Nat) 2 (fl_ 15 8191) (fun s=>[(65,.tuple #[.agg #[.int .i64 r1,.int .i64 r2,.slice s.1.1 r3.length s.1.2],.bool r4]),(56,.tuple #[.agg #[.int .i64 r1,.int .i64 r2,.slice s.1.1 r3.length s.1.2],.bool r4]),(66,.agg #[.int .i64 r1,.int .i64 r2,.slice s.1.1 r3.length s.1.2]),(67,.bool r4),(9,.pointer (some ⟨s.2,0,none⟩))]) (fun s w'=>Below Am.heap.size Am w'∧Kd.R k53 53 w' Am.heap.size (fun _=>True) (.slice s.1.1 r3.length s.1.2) r3∧w'.heap[s.2]?=some (.cells #[.int .i64 0,.int .i64 0,.slice none 0 0] 28 (0,0))∧Am.heap.size≤s.2) ?_ ?_
           rotate_left
           ·intro hCont
            refine two_ (i:=8) (j:=12) (Ni:=some 65) (Nj:=some 9) (fl_ 15 511) (fl_ 15 4351) rfl rfl rfl rfl (by kernel_rfl) (by decide) (by decide) (fun K hK=>?_) (fun K hK=>?_)
            ·skip
             refine goes_ Try.func8 (by kernel_rfl) rfl #[.agg #[.int .i64 g.f0,.int .i64 g.f1,.slice Ag g.f2.length cg],.agg #[.int .i64 h.f0,.int .i64 h.f1,.slice Ah h.f2.length ch]] (by rfl) rfl rfl (by(try simp only [qM_,List.map_cons,List.map_nil]);first|done|rfl) ?_
             with_reducible refine(z0_.calls k g.f0 g.f1 Ag cg g.f2 h.f0 h.f1 Ah ch h.f2 r1 r2 r3 r4 _ (Kd.C_below HRg.out (Below.refl Am.heap.size Am)) HCg.out (Kd.C_below HRh.out (Below.refl Am.heap.size Am)) HCh.out HCC.out.1).mono ?_
             rintro e_ Bd ⟨v_,rfl,ho,hb⟩
             refine⟨_,rfl, ?_⟩
             obtain⟨A8_,c8_,e8_⟩:=Kd.R_slice ho
             subst e8_
             have HO8_:=y0.mk (Kd.R_lower ho (Below.refl Am.heap.size Am).size)
             have HQ:=y0.mk (y4 (Below.refl Am.heap.size Am) hb)
             clear hb ho
             refine hK.out _ _ ⟨(HQ.out.cell (World.block_lt_of_cell? _ _ Ae.out)).trans Ae.out,(HQ.out.cell (World.block_lt_of_cell? _ _ Af.out)).trans Af.out,(HQ.out.cell (World.block_lt_of_cell? _ _ Ai.out)).trans Ai.out,(HQ.out.cell (World.block_lt_of_cell? _ _ Aj.out)).trans Aj.out,(HQ.out.cell (World.block_lt_of_cell? _ _ Ak.out)).trans Ak.out,(HQ.out.cell (World.block_lt_of_cell? _ _ Al.out)).trans Al.out⟩ (fun hHeld=>?_)
             clear hK K
             refine qx 65 ?_
             refine qp 9 56 (fl_ 15 1023) ?_
             refine qp2 10 66 15 ?_
             refine qO 12 9 (fl_ 15 8191) (fun K hK=>?_)
             refine value_ (w1:=Bd.alloc (.cells #[.int .i64 0,.int .i64 0,.slice none 0 0] 28 (0,0))) (v:=.pointer (some ⟨Bd.heap.size,0,none⟩)) (by rfl) rfl ?_ ?_
             ·first|(go_simp;done)|(go_simp;rfl)
             have hbx:=blk_new Bd (.cells #[.int .i64 0,.int .i64 0,.slice none 0 0] 28 (0,0))
             have hb:=y1 (Below.refl Bd.heap.size Bd) (.cells #[.int .i64 0,.int .i64 0,.slice none 0 0] 28 (0,0))
             generalize Bd.alloc (.cells #[.int .i64 0,.int .i64 0,.slice none 0 0] 28 (0,0))=Bz at hbx hb ⊢
             obtain⟨g9_,hg_⟩:∃ g,g=Bd.heap.size:=⟨_,rfl⟩
             rw [← hg_]at hbx ⊢
             have BK9_:=y0.mk hbx
             have GE9_:=y0.mk (by rw [hg_];exact HQ.out.size:Am.heap.size≤g9_)
             replace HO8_:=y0.mk (Kd.R_below HO8_.out hb)
             replace HQ:=y0.mk (y4 HQ.out hb)
             clear hb hbx hg_
             refine hK.out _ _ ⟨(HQ.out.cell (World.block_lt_of_cell? _ _ Ae.out)).trans Ae.out,(HQ.out.cell (World.block_lt_of_cell? _ _ Af.out)).trans Af.out,(HQ.out.cell (World.block_lt_of_cell? _ _ Ai.out)).trans Ai.out,(HQ.out.cell (World.block_lt_of_cell? _ _ Aj.out)).trans Aj.out,(HQ.out.cell (World.block_lt_of_cell? _ _ Ak.out)).trans Ak.out,(HQ.out.cell (World.block_lt_of_cell? _ _ Al.out)).trans Al.out⟩ (fun hHeld=>?_)
             clear hK K
             refine qx 9 ?_
             exact norm_ (by simp only [putAll,Act.put,qS_,qZ_,qC_]) (hCont ((A8_,c8_),g9_) _ ⟨HQ.out,HO8_.out,BK9_.out,GE9_.out⟩)
            ·skip
             refine value_ (w1:=Am.alloc (.cells #[.int .i64 0,.int .i64 0,.slice none 0 0] 28 (0,0))) (v:=.pointer (some ⟨Am.heap.size,0,none⟩)) (by rfl) rfl ?_ ?_
             ·first|(go_simp;done)|(go_simp;rfl)
             have hbx:=blk_new Am (.cells #[.int .i64 0,.int .i64 0,.slice none 0 0] 28 (0,0))
             have hb:=y1 (Below.refl Am.heap.size Am) (.cells #[.int .i64 0,.int .i64 0,.slice none 0 0] 28 (0,0))
             generalize Am.alloc (.cells #[.int .i64 0,.int .i64 0,.slice none 0 0] 28 (0,0))=Bd at hbx hb ⊢
             obtain⟨g9_,hg_⟩:∃ g,g=Am.heap.size:=⟨_,rfl⟩
             rw [← hg_]at hbx ⊢
             have BK9_:=y0.mk hbx
             have GE9_:=y0.mk (by rw [hg_];exact(Below.refl Am.heap.size Am).size:Am.heap.size≤g9_)
             have HQ:=y0.mk (y4 (Below.refl Am.heap.size Am) hb)
             clear hb hbx hg_
             refine hK.out _ _ ⟨(HQ.out.cell (World.block_lt_of_cell? _ _ Ae.out)).trans Ae.out,(HQ.out.cell (World.block_lt_of_cell? _ _ Af.out)).trans Af.out,(HQ.out.cell (World.block_lt_of_cell? _ _ Ai.out)).trans Ai.out,(HQ.out.cell (World.block_lt_of_cell? _ _ Aj.out)).trans Aj.out,(HQ.out.cell (World.block_lt_of_cell? _ _ Ak.out)).trans Ak.out,(HQ.out.cell (World.block_lt_of_cell? _ _ Al.out)).trans Al.out⟩ (fun hHeld=>?_)
             clear hK K
             refine qx 9 ?_
             refine qO 8 65 (fl_ 15 4607) (fun K hK=>?_)
             refine goes_ Try.func8 (by kernel_rfl) rfl #[.agg #[.int .i64 g.f0,.int .i64 g.f1,.slice Ag g.f2.length cg],.agg #[.int .i64 h.f0,.int .i64 h.f1,.slice Ah h.f2.length ch]] (by rfl) rfl rfl (by(try simp only [qM_,List.map_cons,List.map_nil]);first|done|rfl) ?_
             with_reducible refine(z0_.calls k g.f0 g.f1 Ag cg g.f2 h.f0 h.f1 Ah ch h.f2 r1 r2 r3 r4 _ (Kd.C_below HRg.out HQ.out) HCg.out (Kd.C_below HRh.out HQ.out) HCh.out HCC.out.1).mono ?_
             rintro e_ Bz ⟨v_,rfl,ho,hb⟩
             refine⟨_,rfl, ?_⟩
             obtain⟨A8_,c8_,e8_⟩:=Kd.R_slice ho
             subst e8_
             have HO8_:=y0.mk (Kd.R_lower ho HQ.out.size)
             replace BK9_:=y0.mk (y6 BK9_.out hb)
             replace HQ:=y0.mk (y4 HQ.out hb)
             clear hb ho
             refine hK.out _ _ ⟨(HQ.out.cell (World.block_lt_of_cell? _ _ Ae.out)).trans Ae.out,(HQ.out.cell (World.block_lt_of_cell? _ _ Af.out)).trans Af.out,(HQ.out.cell (World.block_lt_of_cell? _ _ Ai.out)).trans Ai.out,(HQ.out.cell (World.block_lt_of_cell? _ _ Aj.out)).trans Aj.out,(HQ.out.cell (World.block_lt_of_cell? _ _ Ak.out)).trans Ak.out,(HQ.out.cell (World.block_lt_of_cell? _ _ Al.out)).trans Al.out⟩ (fun hHeld=>?_)
             clear hK K
             refine qx 65 ?_
             refine qp 9 56 (fl_ 15 5119) ?_
             refine qp 10 66 (fl_ 15 6143) ?_
             refine qp 11 67 (fl_ 15 8191) ?_
             exact norm_ (by simp only [putAll,Act.put,qS_,qZ_,qC_]) (hCont ((A8_,c8_),g9_) _ ⟨HQ.out,HO8_.out,BK9_.out,GE9_.out⟩)
           rintro⟨⟨A8,c8⟩,g9⟩ wz ⟨hb,ho_,h5_,h3_⟩
           dsimp only at ho_ h5_ h3_
           have HW:=y0.mk hb
           have Bi:=y0.mk ho_
           have Be:=y0.mk h5_
           have Bm:=y0.mk h3_
           clear hb ho_ h5_ h3_
           have hHeld:wz.cell? (adg.add (xi.toNat * 3))=some (.int .i64 g.f0)∧wz.cell? ⟨(adg.add (xi.toNat * 3)).block,(adg.add (xi.toNat * 3)).off + 1,none⟩=some (.int .i64 g.f1)∧wz.cell? ⟨(adg.add (xi.toNat * 3)).block,(adg.add (xi.toNat * 3)).off + 2,none⟩=some (.slice Ag g.f2.length cg)∧wz.cell? (adg.add (xj.toNat * 3))=some (.int .i64 h.f0)∧wz.cell? ⟨(adg.add (xj.toNat * 3)).block,(adg.add (xj.toNat * 3)).off + 1,none⟩=some (.int .i64 h.f1)∧wz.cell? ⟨(adg.add (xj.toNat * 3)).block,(adg.add (xj.toNat * 3)).off + 2,none⟩=some (.slice Ah h.f2.length ch):=⟨(HW.out.cell (World.block_lt_of_cell? _ _ Ae.out)).trans Ae.out,(HW.out.cell (World.block_lt_of_cell? _ _ Af.out)).trans Af.out,(HW.out.cell (World.block_lt_of_cell? _ _ Ai.out)).trans Ai.out,(HW.out.cell (World.block_lt_of_cell? _ _ Aj.out)).trans Aj.out,(HW.out.cell (World.block_lt_of_cell? _ _ Ak.out)).trans Ak.out,(HW.out.cell (World.block_lt_of_cell? _ _ Al.out)).trans Al.out⟩
           refine norm_ (a':=?_) ?_ ?_
           rotate_left
           ·simp only [putAll,Act.put,qS_,qZ_,qC_]
            rfl
           refine last_ (i:=13) (N:=none) (fl_ 15 16383) rfl rfl (by kernel_rfl) (by decide) (fun K hK=>?_)
           obtain⟨Ap,Aq,Ar,As,At,Au⟩:=QClo.bx3 Be.out
           refine skip_ (w1:=(((wz.setCell ⟨g9,0,none⟩ (.int .i64 r1)).setCell ⟨g9,1,none⟩ (.int .i64 r2)).setCell ⟨g9,2,none⟩ (.slice A8 r3.length c8))) (by rfl) rfl ?_ ?_
           ·first|(go_simp;done)|(go_simp;rfl)
           clear Ap Aq Ar As At Au
           refine hK.out _ _ ?_
           clear hK K
           refine qp 14 10 (fl_ 15 32767) ?_
           refine done_ (by kernel_rfl) ?_
           clear hHeld
           have hb:Below Am.heap.size Am (((wz.setCell ⟨g9,0,none⟩ (.int .i64 r1)).setCell ⟨g9,1,none⟩ (.int .i64 r2)).setCell ⟨g9,2,none⟩ (.slice A8 r3.length c8)):=y3 (y3 (y3 HW.out Bm.out) Bm.out) Bm.out
           have n0_:y0 ((((wz.setCell ⟨g9,0,none⟩ (.int .i64 r1)).setCell ⟨g9,1,none⟩ (.int .i64 r2)).setCell ⟨g9,2,none⟩ (.slice A8 r3.length c8)).heap[g9]?=some (.cells #[.int .i64 r1,.int .i64 r2,.slice A8 r3.length c8] 28 (0,0))):=⟨blk_set (blk_set (blk_set Be.out 0 (.int .i64 r1)) 1 (.int .i64 r2)) 2 (.slice A8 r3.length c8)⟩
           have n1_:y0 (Kd.R k53 53 (((wz.setCell ⟨g9,0,none⟩ (.int .i64 r1)).setCell ⟨g9,1,none⟩ (.int .i64 r2)).setCell ⟨g9,2,none⟩ (.slice A8 r3.length c8)) Am.heap.size (fun _=>True) (.slice A8 r3.length c8) r3):=⟨Kd.R_set (Kd.R_set (Kd.R_set Bi.out Be.out (by decide) 0 _) (blk_set Be.out 0 (.int .i64 r1)) (by decide) 1 _) (blk_set (blk_set Be.out 0 (.int .i64 r1)) 1 (.int .i64 r2)) (by decide) 2 _⟩
           clear Be Bi HW Bm Ae Af Ai Aj Ak Al
           generalize (((wz.setCell ⟨g9,0,none⟩ (.int .i64 r1)).setCell ⟨g9,1,none⟩ (.int .i64 r2)).setCell ⟨g9,2,none⟩ (.slice A8 r3.length c8))=Ca at hb n0_ n1_ ⊢
           have Be:=n0_
           have Bi:=n1_
           clear n0_ n1_
           replace HS:=y0.mk (Kd.S_below HS.out hb)
           replace HB:=y0.mk (y4 HB.out hb)
           clear hb p1g p1h q2g q2h q1
           have Bo:=y0.mk (show Aa.length≤120 from Ao.out)
           obtain⟨Ap,Aq,Ar,As,At,Au⟩:=QClo.bx3 Be.out
           cases r4 with
           | true =>
            go_wp2_with (first
             | (go_at_call 38;(with_reducible refine(spec_l08Add.calls k _ cv out r1 r2 A8 c8 r3 (sb (⟨r1,r2,r3⟩:S28)) w Ca HB.out HS.out (Kd.R_reads' Bi.out).2.2 (Kd.R_reads' Bi.out).2.1 (fun x hx=>HSB.out x (⟨r1,r2,r3⟩:S28) (HOL.out x (HOK.out x hx)) (HOL.out _ HCC.out.2)) (by have:=HLO.out;have:=HIj.out;have:=Bo.out;omega) (HOL.out _ HCC.out.2)).mono ?_);rintro e_ wb ⟨v1,rfl,hs1_,hbl_⟩;obtain⟨A1,c1,e1_⟩:=Kd.S_slice hs1_;subst e1_;(repeat first|clear Ap|clear Aq|clear Ar|clear As|clear At|clear Au);replace HS:=y0.mk hs1_;replace HB:=y0.mk hbl_;clear hs1_ hbl_))
            (repeat first|clear Ap|clear Aq|clear Ar|clear As|clear At|clear Au)
            go_roundg (Aa.length - j - 1)
            case measure=>have:=HKj.out;have:=HIj.out;omega
            exact⟨wrap64 (xj + 1),j + 1,(addG out (sb (⟨r1,r2,r3⟩:S28)) (⟨r1,r2,r3⟩:S28)),A1,c1,qy2,qy2,⟨by rw [HXj.out];exact QIv.step_u (by have:=HIj.out;have:=Ao.out;omega)⟩,⟨by have:=HKj.out;have:=HIj.out;omega⟩,⟨by rw [HJn.out,HEg.out];simp only [↓reduceIte]⟩,⟨by have:=addG_len out (sb (⟨r1,r2,r3⟩:S28)) (⟨r1,r2,r3⟩:S28);have:=HLO.out;omega⟩,⟨by obtain⟨t_,h_⟩:=HPR.out;obtain⟨u_,h2_⟩:=addG_grow out (sb (⟨r1,r2,r3⟩:S28)) (⟨r1,r2,r3⟩:S28);exact⟨t_ ++ u_,by rw [h2_,h_,List.append_assoc]⟩⟩,⟨addG_all HOK.out HCC.out.2⟩,HS,HB⟩
           | false =>
            go_wp2
            (repeat first|clear Ap|clear Aq|clear Ar|clear As|clear At|clear Au)
            go_roundg (Aa.length - j - 1)
            case measure=>have:=HKj.out;have:=HIj.out;omega
            exact⟨wrap64 (xj + 1),j + 1,out,_,cv,qy2,qy2,⟨by rw [HXj.out];exact QIv.step_u (by have:=HIj.out;have:=Ao.out;omega)⟩,⟨by have:=HKj.out;have:=HIj.out;omega⟩,⟨by rw [HJn.out,if_neg (by decide),HEg.out]⟩,⟨by have:=HLO.out;omega⟩,⟨HPR.out⟩,⟨HOK.out⟩,HS,HB⟩
          ·skip
           have Bg:decide (xj < (Aa.length:Int))=false:=decide_eq_false c
           have HJe:y0 (p3=out):=⟨by rw [HJ.out,List.drop_of_length_le (by have:=HXj.out;have:=HKj.out;omega)];rfl⟩
           go_wp2
           go_roundg (Aa.length - i - 1)
           case measure=>have:=HKi.out;have:=HIi.out;omega
           exact⟨wrap64 (xi + 1),i + 1,out,Av,cv,qy2,qy2,⟨by rw [HXi.out];exact QIv.step_u (by have:=HIi.out;have:=Ao.out;omega)⟩,⟨by have:=HKi.out;have:=HIi.out;omega⟩,⟨by rw [HIn.out,HJe.out]⟩,⟨by have:=HLO.out;have:=HKj.out;have:=Ao.out;omega⟩,HPR,HOK,HS,HB⟩
        ·skip
         have Aw:decide ((out.length:Int)≤120)=false:=decide_eq_false (by omega)
         have Ay:(out.length≤120)=False:=eq_false (by omega)
         have Az:decide (out.length≤120)=false:=decide_eq_false (by omega)
         have HIe:y0 (spI sb cs Aa Aa Aa=out):=⟨by
          rw [HI.out]
          rcases hd_:Aa.drop i with _|⟨g_,r_⟩
          ·rfl
          ·rw [spI,if_neg c9]⟩
         by_cases ce:out.length=Aa.length
         ·skip
          have Bp:((out.length:Int) == (Aa.length:Int))=true:=beq_iff_eq.mpr (by omega)
          have Bq:(out.length=Aa.length)=True:=eq_true ce
          have Br:(out.length == Aa.length)=true:=beq_iff_eq.mpr ce
          have HF:y0 (rs=out∧rb=true):=⟨by
           have h_:=H.out
           rw [HIe.out,if_pos ce]at h_
           injection h_ with h_
           injection h_ with h1 h2
           exact⟨h1.symm,h2.symm⟩⟩
          obtain⟨e1_,e2_⟩:=HF.out
          subst e1_
          subst e2_
          clear ce
          go_wp2
          refine bodyPost_ret (results_tmp2 rfl _ _ _) rfl ?_
          exact⟨_,by first|rfl|(simp [errW_none,errW_some] <;> rfl),HS.out,HB.out⟩
         ·skip
          have Bp:((out.length:Int) == (Aa.length:Int))=false:=beq_eq_false_iff_ne.mpr (by omega)
          have Bq:(out.length=Aa.length)=False:=eq_false ce
          have Br:(out.length == Aa.length)=false:=beq_eq_false_iff_ne.mpr ce
          replace H:y0 (spR sb cs k1 out=some (rs,rb)):=⟨by
           have h_:=H.out
           rw [HIe.out,if_neg ce]at h_
           exact h_⟩
          clear ce
          go_wp2
          (repeat first|clear Aw|clear Ay|clear Az)
          go_roundg k1
          case measure=>omega
          exact⟨out,Av,cv,qy2,H,⟨by have:=HLO.out;omega⟩,HOK,HS,HB⟩
       ·skip
        have Bg:decide (xi < (Aa.length:Int))=false:=decide_eq_false c
        have HIe:y0 (spI sb cs Aa Aa Aa=out):=⟨by rw [HI.out,List.drop_of_length_le (by have:=HXi.out;have:=HKi.out;omega)];rfl⟩
        clear c
        by_cases ce:out.length=Aa.length
        ·skip
         have Bp:((out.length:Int) == (Aa.length:Int))=true:=beq_iff_eq.mpr (by omega)
         have Bq:(out.length=Aa.length)=True:=eq_true ce
         have Br:(out.length == Aa.length)=true:=beq_iff_eq.mpr ce
         have HF:y0 (rs=out∧rb=true):=⟨by
          have h_:=H.out
          rw [HIe.out,if_pos ce]at h_
          injection h_ with h_
          injection h_ with h1 h2
          exact⟨h1.symm,h2.symm⟩⟩
         obtain⟨e1_,e2_⟩:=HF.out
         subst e1_
         subst e2_
         clear ce
         go_wp2
         refine bodyPost_ret (results_tmp2 rfl _ _ _) rfl ?_
         exact⟨_,by first|rfl|(simp [errW_none,errW_some] <;> rfl),HS.out,HB.out⟩
        ·skip
         have Bp:((out.length:Int) == (Aa.length:Int))=false:=beq_eq_false_iff_ne.mpr (by omega)
         have Bq:(out.length=Aa.length)=False:=eq_false ce
         have Br:(out.length == Aa.length)=false:=beq_eq_false_iff_ne.mpr ce
         replace H:y0 (spR sb cs k1 out=some (rs,rb)):=⟨by
          have h_:=H.out
          rw [HIe.out,if_neg ce]at h_
          exact h_⟩
         clear ce
         go_wp2
         (repeat first|clear Aw|clear Ay|clear Az)
         go_roundg k1
         case measure=>omega
         exact⟨out,Av,cv,qy2,H,⟨by have:=HLO.out;omega⟩,HOK,HS,HB⟩
     ·skip
      have Aw:decide ((Aa.length:Int)≤120)=false:=decide_eq_false (by omega)
      have Ay:(Aa.length≤120)=False:=eq_false (by omega)
      have Az:decide (Aa.length≤120)=false:=decide_eq_false (by omega)
      have HF:y0 (rs=[]∧rb=false):=⟨by
       have h_:=H.out
       rw [spR,if_neg c]at h_
       injection h_ with h_
       injection h_ with h1 h2
       exact⟨h1.symm,h2.symm⟩⟩
      obtain⟨e1_,e2_⟩:=HF.out
      subst e1_
      subst e2_
      clear c
      go_wp2_with (first
       | ((with_reducible refine y12 (N:=77) rfl ?_);refine Kd.R_lit (Kd.tag (fun _=>0) k28) _ 28 ?hg (N:=77) ?hd (xs:=([]:List (S28×Nat))) (inner:=[]) (ok:=fun _=>True) (okp:=fun _=>True) ?hr ?hp (fun _ hk=>hk) trivial (Below.refl _ _) (Nat.le_refl _) (by simp) ?_;(case hd=>rfl);(case hg=>rfl);(case hr=>first|(go_simp;done)|(go_simp;rfl));(case hp=>exact(Reps.none _ _));intro v_n wn ho hb hg_ hnew_;clear hg_ hnew_;have hS_:Kd.S k28 28 wn _ (fun _=>True) v_n []:=⟨fun _=>0,ho⟩;obtain⟨An_,cn_,ev_⟩:=Kd.S_slice hS_;subst ev_;have HSn:=y0.mk hS_;have HBn:=y0.mk hb;clear ho hb hS_))
      refine bodyPost_ret (results_tmp2 rfl _ _ _) rfl ?_
      exact⟨_,by first|rfl|(simp [errW_none,errW_some] <;> rfl),Kd.S_lower HSn.out HB.out.size,y4 HB.out HBn.out⟩
def spec_Closed.Ok (k:Nat) (l0 rs:List (S28)) (rb:Bool):Prop:=∃(n:Nat) (sb:S28→S28→Bool) (rt:S28→Bool) (cs:S28→S28→Int×Int×List (S53)×Bool) (OK:S28→Prop),
 l0.length≤1048576∧(∀ x g:S28,x.f2.length≤1048576→g.f2.length≤1048576→spec_l08Same.f k x.f0 x.f1 x.f2 g.f0 g.f1 g.f2=some (sb g x)) ∧
 (∀ g∈l0,g.f2.length≤1048576∧z1_.f k g.f0 g.f1 g.f2=some (rt g)∧(rt g=true→OK g)) ∧
 (∀ x y,OK x→OK y→z0_.f k x.f0 x.f1 x.f2 y.f0 y.f1 y.f2=some (cs x y)∧OK (spG (cs x y)))∧(∀ x,OK x→x.f2.length≤1048576)∧spF sb rt cs n l0=some (rs,rb)
theorem spec_Closed.call (k:Nat) (A0:Option Addr) (c0:Nat) (l0 rs:List (S28)) (rb:Bool) (w:World) (hr0:Kd.C k28 w A0 l0.length l0) (hc0:l0.length≤c0) (h:spec_Closed.Ok k l0 rs rb) :
  Calls Try.prog 20 #[.slice A0 l0.length c0] w fun e w'=>∃ v_:Value,e=.returned (.tuple #[v_,.bool rb])∧Kd.S k28 28 w' w.heap.size (fun _=>True) v_ rs∧Below w.heap.size w w':=by
 obtain⟨n,sb,rt,cs,OK,h1,h2,h3,h4,h5,h6⟩:=h
 exact spec_Closed.calls k n A0 c0 l0 sb rt cs OK rs rb w hr0 hc0 h1 ⟨h2⟩ ⟨h3⟩ ⟨h4⟩ ⟨h5⟩ h6
def impl_Closed.Ok (k:Nat) (l0 rs:List (S28)) (rb:Bool):Prop:=∃(n:Nat) (sb:S28→S28→Bool) (ig:S28→Bool) (cm:S28→S28→List (S53)) (OK:S28→Prop),
 l0.length≤1048576∧(∀ x g:S28,x.f2.length≤1048576→g.f2.length≤1048576→impl_sameGraph.f k x.f0 x.f1 x.f2 g.f0 g.f1 g.f2=some (sb g x)) ∧
 (∀ g∈l0,g.f2.length≤1048576∧impl_isGraph.f k g.f0 g.f1 g.f2=some (ig g)∧(ig g=true→OK g)) ∧
 (∀ x y,OK x→OK y→impl_compose.f x.f0 x.f1 x.f2 y.f0 y.f1 y.f2=some (x.f0,y.f1,cm x y)∧OK ⟨x.f0,y.f1,cm x y⟩)∧(∀ x,OK x→x.f2.length≤1048576)∧clF sb ig cm n l0=some (rs,rb)
set_option maxHeartbeats 8000000 in
set_option maxRecDepth 100000 in
theorem impl_Closed.call (k:Nat) (A0:Option Addr) (c0:Nat) (l0 rs:List (S28)) (rb:Bool) (w:World) (hr0:Kd.C k28 w A0 l0.length l0) (hc0:l0.length≤c0) (h:impl_Closed.Ok k l0 rs rb) :
  Calls Try.prog 22 #[.slice A0 l0.length c0] w fun e w'=>∃ v_:Value,e=.returned (.tuple #[v_,.bool rb])∧Kd.S k28 28 w' w.heap.size (fun _=>True) v_ rs∧Below w.heap.size w w':=by
 obtain⟨n,sb,ig,cm,OK,h1,h2,h3,h4,h5,h6⟩:=h
 have HC:=y0.mk (impl_closed.calls k n A0 c0 l0 sb ig cm OK rs rb w hr0 hc0 h1 ⟨h2⟩ ⟨h3⟩ ⟨h4⟩ ⟨h5⟩ h6)
 clear hr0 hc0 h1 h2 h3 h4 h5 h6
 go_enter Try.func22,Try.ntmps22
 go_wp2_with (first|(go_at_call 39;(with_reducible refine HC.out.mono ?_);rintro e_ w2 ⟨v_,rfl,ho,hb⟩;obtain⟨A1,c1,e1_⟩:=Kd.S_slice ho;subst e1_;have HS:=y0.mk ho;have HB:=y0.mk hb;clear ho hb))
 refine bodyPost_ret (results_tmp2 rfl _ _ _) rfl ?_
 exact⟨_,by first|rfl|(simp [errW_none,errW_some] <;> rfl),HS.out,HB.out⟩
end Go.Proofs.Ytcckpjflbfofjaa.Pd
end
