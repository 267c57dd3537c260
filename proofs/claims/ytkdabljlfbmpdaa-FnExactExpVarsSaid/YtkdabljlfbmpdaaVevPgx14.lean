-- Cut by prune.py, a program of this session, out of the texts of this claim: Lean checks it.
import Derived.Test.YtkdabljlfbmpdaaVevPgx0
section
namespace Go.Proofs.Ytkdabljlfbmpdaa.Pg
open Go.RowKit Go.Proofs.YtkdabljlfbmpdaaW.PrintWords Go.Proofs.YtkdabljlfbmpdaaW.PrintLast Go.Proofs.YtkdabljlfbmpdaaW.PrintMore
attribute [local go_sem] max2_int min2_int max_two min_two max_three min_three max_four min_four   -- for this text's walks alone
set_option linter.unusedVariables false
set_option linter.unusedSimpArgs false
def laws_eqIntS.l0:Nat→List Int→List Int→Int→Option (Bool)
 | 0,_,_,_=>none
 | k + 1,x0,x1,x5=>if x5 < (x0.length:Int)then(if 0≤x5 then(if x5 < (x1.length:Int)then(if(rd x0 x5)=(rd x1 x5)then(laws_eqIntS.l0 k x0 x1 (wrap64 (x5 + 1)))else(some false))else(none))else(none))else(some true)
def laws_eqIntS.f (k:Nat) (l0:List Int) (l1:List Int):Option (Bool):=if(l0.length:Int)=(l1.length:Int)then(laws_eqIntS.l0 k l0 l1 0)else(some false)
set_option maxHeartbeats 8000000 in
set_option maxRecDepth 100000 in
theorem laws_eqIntS.calls (k:Nat) (A0:Option Addr) (c0:Nat) (l0:List Int) (A1:Option Addr) (c1:Nat) (l1:List Int) (r:Bool) (w:World) (Aq:Kd.C (Kd.int .i64) w A0 l0.length l0) (Ar:l0.length≤c0) (As:Kd.C (Kd.int .i64) w A1 l1.length l1) (At:l1.length≤c1) (h:laws_eqIntS.f k l0 l1=some r) :
  Calls Try.prog 56 #[.slice A0 l0.length c0,.slice A1 l1.length c1] w fun e w'=>e=.returned (.bool r)∧Drawn0 w w':=by
 have Ay:=y0.mk Aq
 have Bc:=y0.mk Ar
 clear Aq Ar
 have Az:=y0.mk As
 have Bd:=y0.mk At
 clear As At
 have H:(if(l0.length:Int)=(l1.length:Int)then(laws_eqIntS.l0 k l0 l1 0)else(some false))=some r:=h
 clear h
 by_cases c3:(l0.length:Int)=(l1.length:Int)
 ·rw [if_pos c3]at H
  have Af:((l0.length:Int) == (l1.length:Int))=true:=beq_iff_eq.mpr c3
  have Ag:((l0.length:Int) != (l1.length:Int))=false:=bne_eq_false_iff_eq.mpr c3
  have Ah:(l0.length == l1.length)=true:=by first|simpa using c3|(simp at c3 ⊢;omega)
  clear c3
  have H':=y0.mk H
  clear H
  go_enter Try.func56,Try.ntmps56
  go_wp2
  repeat(go_quiet (fail);try go_wp2)
  go_loopg [5] k (fun kq v5 w'=>∃(Aa:Int),v5=.int .i64 Aa∧y0 (laws_eqIntS.l0 kq l0 l1 Aa=some r)∧y0 (kq≤k)∧Drawn0 w w')
  case atStart=>exact⟨(0),qy2,H',⟨Nat.le_refl _⟩,by repeat(first|exact Drawn0.refl _|apply Drawn0.step)⟩
  case round =>
   clear H'
   (try clear Af Ag Ah)
   obtain⟨Aa,rfl,HA,Au,⟨m1,rfl⟩⟩:=hrel
   cases gk with
   | zero=>exact absurd HA.out (by simp [laws_eqIntS.l0])
   | succ k1 =>
    have H:=HA.out
    clear HA
    simp only [laws_eqIntS.l0]at H
    by_cases c4:Aa < (l0.length:Int)
    ·rw [if_pos c4]at H
     have Ak:=decide_eq_true c4
     clear c4
     obtain⟨c5,H⟩:=qo H
     have Ba:decide (0≤Aa)=true:=decide_eq_true c5
     clear c5
     obtain⟨c6,H⟩:=qo H
     have Bb:decide (Aa < (l1.length:Int))=true:=decide_eq_true c6
     clear c6
     have Ab:0≤(Aa:Int):=of_decide_eq_true qy0
     have Ac:Aa < (l0.length:Int):=of_decide_eq_true qy0
     obtain⟨Av,Al,Ai⟩:=Kd.at_int Ay.out Aa Ab Ac
     cases Al
     replace Ab:=eq_true Ab
     replace Ac:=eq_true Ac
     have Ad:0≤(Aa:Int):=of_decide_eq_true qy0
     have Ae:Aa < (l1.length:Int):=of_decide_eq_true qy0
     obtain⟨Aw,Am,Aj⟩:=Kd.at_int Az.out Aa Ad Ae
     cases Am
     replace Ad:=eq_true Ad
     replace Ae:=eq_true Ae
     by_cases c7:(rd l0 Aa)=(rd l1 Aa)
     ·rw [if_pos c7]at H
      have Ao:((rd l0 Aa) == (rd l1 Aa))=true:=beq_iff_eq.mpr c7
      have Ap:((rd l0 Aa) != (rd l1 Aa))=false:=bne_eq_false_iff_eq.mpr c7
      clear c7
      have H':=y0.mk H
      clear H
      go_wp2
      repeat(go_quiet (fail);try go_wp2)
      go_roundg k1
      case measure=>have:=Au.out;omega
      exact⟨(wrap64 (Aa + 1)),qy2,H',⟨by have:=Au.out;omega⟩,by repeat(first|exact Drawn0.refl _|apply Drawn0.step)⟩
     ·rw [if_neg c7]at H
      have Ao:((rd l0 Aa) == (rd l1 Aa))=false:=beq_eq_false_iff_ne.mpr c7
      have Ap:((rd l0 Aa) != (rd l1 Aa))=true:=bne_iff_ne.mpr c7
      obtain rfl:=Option.some.inj H
      go_wp2
      repeat(go_quiet (fail);try go_wp2)
      go_ret
      exact qf2
    ·rw [if_neg c4]at H
     have Ak:=decide_eq_false c4
     clear c4
     obtain rfl:=Option.some.inj H
     go_wp2
     repeat(go_quiet (fail);try go_wp2)
     go_ret
     exact qf2
 ·rw [if_neg c3]at H
  have Af:((l0.length:Int) == (l1.length:Int))=false:=beq_eq_false_iff_ne.mpr c3
  have Ag:((l0.length:Int) != (l1.length:Int))=true:=bne_iff_ne.mpr c3
  have Ah:(l0.length == l1.length)=false:=by first|simpa using c3|(simp at c3 ⊢;omega)
  obtain rfl:=Option.some.inj H
  go_enter Try.func56,Try.ntmps56
  go_wp2
  repeat(go_quiet (fail);try go_wp2)
  go_ret
  exact qf2
def laws_eqExp.f (k:Nat) (a0_0:Int) (a0_1:ByteArray) (l0_2:List Int) (a1_0:Int) (a1_1:ByteArray) (l1_2:List Int):Option (Bool):=if a0_0=a1_0 then(if a0_1.toList=a1_1.toList then((laws_eqIntS.f k l0_2 l1_2).bind fun t404=>(if t404=true then(some true)else(some false)))else(some false))else(some false)
set_option maxHeartbeats 8000000 in
set_option maxRecDepth 100000 in
theorem laws_eqExp.calls (k:Nat) (Af:Int) (Ag:ByteArray) (Ak:Option Addr) (Al:Nat) (Ad:List Int) (Ah:Int) (Ai:ByteArray) (Am:Option Addr) (Ao:Nat) (Ae:List Int) (r:Bool) (w:World) (Av:Kd.C (Kd.int .i64) w Ak Ad.length Ad) (Aw:Ad.length≤Al) (Ay:Kd.C (Kd.int .i64) w Am Ae.length Ae) (Az:Ae.length≤Ao) (h:laws_eqExp.f k Af Ag Ad Ah Ai Ae=some r) :
  Calls Try.prog 55 #[.agg #[.int .i64 Af,.string Ag,.slice Ak Ad.length Al],.agg #[.int .i64 Ah,.string Ai,.slice Am Ae.length Ao]] w fun e w'=>e=.returned (.bool r)∧Below w.heap.size w w':=by
 have Dm:=Try.underlying63
 have Ba:=y0.mk Av
 have Bb:=y0.mk Aw
 clear Av Aw
 have Bc:=y0.mk Ay
 have Bd:=y0.mk Az
 clear Ay Az
 have HB:=y0.mk (Below.refl w.heap.size w)
 have H:(if Af=Ah then(if Ag.toList=Ai.toList then((laws_eqIntS.f k Ad Ae).bind fun Be=>(if Be=true then(some true)else(some false)))else(some false))else(some false))=some r:=h
 clear h
 by_cases c3:Af=Ah
 ·rw [if_pos c3]at H
  have Dc:(Af == Ah)=true:=beq_iff_eq.mpr c3
  have Dd:(Af != Ah)=false:=bne_eq_false_iff_eq.mpr c3
  clear c3
  by_cases c4:Ag.toList=Ai.toList
  ·rw [if_pos c4]at H
   have De:(Ag.toList == Ai.toList)=true:=beq_iff_eq.mpr c4
   have Df:(Ag.toList != Ai.toList)=false:=bne_eq_false_iff_eq.mpr c4
   clear c4
   obtain⟨Be,A5,H⟩:=qB H
   by_cases c6:Be=true
   ·subst c6
    replace H:=qT H
    obtain rfl:=Option.some.inj H
    go_enter Try.func55,Try.ntmps55
    go_wp2_with (first|((with_reducible refine y14 (N:=2) rfl ?_);refine qe 2 #[.int .i64 Af,.string Ag,.slice Ak Ad.length Al] 63 ?_;intro Ap hg w7 hbox hb;have Aa:=y0.mk (hbox);have Aq:=y0.mk (qg (w:=w) hg);have Ar:=y0.mk (qg (w:=w) hg);replace HB:=y0.mk (y3 qb hb);clear hb hbox hg)|((with_reducible refine y14 (N:=3) rfl ?_);refine qe 3 #[.int .i64 Ah,.string Ai,.slice Am Ae.length Ao] 63 ?_;intro As hg w8 hbox hb;have Aj:=y0.mk (hbox);have At:=y0.mk (qg (w:=w) hg);have Au:=y0.mk (qg (w:=w) hg);replace HB:=y0.mk (y3 qb hb);have Ab:=y0.mk (qn Aa.out hg);have Ac:=y0.mk (qm Aa.out hg);replace Aa:=y0.mk (qK Aa.out hb);clear hb hbox hg;have Do:=Ab.out;have Dp:=Ac.out;obtain⟨Bf,Bg,Bh,Bi,Bj,Bk⟩:=qz3 Aa.out;obtain⟨Bl,Bm,Bn,Bo,Bp,Bq⟩:=qz3 Aj.out)|((with_reducible refine y13 (f:=56) rfl ?_);refine y15 (some 19) rfl rfl Try.func56 (by kernel_rfl) rfl #[.slice Ak Ad.length Al,.slice Am Ae.length Ao] rfl qy1 ?_;(with_reducible refine(laws_eqIntS.calls k _ _ Ad _ _ Ae true _ (qc (Kd.C_below Ba.out HB.out)) Bb.out (qc (Kd.C_below Bc.out HB.out)) Bd.out A5.out).mono ?_);rintro e w' ⟨rfl,⟨nd,rfl⟩⟩;refine⟨_,rfl, ?_⟩))
    go_ret
    exact⟨qf,qb⟩
   ·replace c6:=Bool.eq_false_iff.mpr c6
    subst c6
    replace H:=qF H
    obtain rfl:=Option.some.inj H
    go_enter Try.func55,Try.ntmps55
    go_wp2_with (first|((with_reducible refine y14 (N:=2) rfl ?_);refine qe 2 #[.int .i64 Af,.string Ag,.slice Ak Ad.length Al] 63 ?_;intro Ap hg Dq hbox hb;have Aa:=y0.mk (hbox);have Aq:=y0.mk (qg (w:=w) hg);have Ar:=y0.mk (qg (w:=w) hg);replace HB:=y0.mk (y3 qb hb);clear hb hbox hg)|((with_reducible refine y14 (N:=3) rfl ?_);refine qe 3 #[.int .i64 Ah,.string Ai,.slice Am Ae.length Ao] 63 ?_;intro As hg Dr hbox hb;have Aj:=y0.mk (hbox);have At:=y0.mk (qg (w:=w) hg);have Au:=y0.mk (qg (w:=w) hg);replace HB:=y0.mk (y3 qb hb);have Ab:=y0.mk (qn Aa.out hg);have Ac:=y0.mk (qm Aa.out hg);replace Aa:=y0.mk (qK Aa.out hb);clear hb hbox hg;have Dg:=Ab.out;have Dh:=Ac.out;obtain⟨Br,Bs,Bt,Bu,Bv,Bw⟩:=qz3 Aa.out;obtain⟨Bx,Bz,Ca,Cb,Cc,Cd⟩:=qz3 Aj.out)|((with_reducible refine y13 (f:=56) rfl ?_);refine y15 (some 19) rfl rfl Try.func56 (by kernel_rfl) rfl #[.slice Ak Ad.length Al,.slice Am Ae.length Ao] rfl qy1 ?_;(with_reducible refine(laws_eqIntS.calls k _ _ Ad _ _ Ae false _ (qc (Kd.C_below Ba.out HB.out)) Bb.out (qc (Kd.C_below Bc.out HB.out)) Bd.out A5.out).mono ?_);rintro e w' ⟨rfl,⟨nd,rfl⟩⟩;refine⟨_,rfl, ?_⟩))
    go_ret
    exact⟨qf,qb⟩
  ·rw [if_neg c4]at H
   have De:(Ag.toList == Ai.toList)=false:=beq_eq_false_iff_ne.mpr c4
   have Df:(Ag.toList != Ai.toList)=true:=bne_iff_ne.mpr c4
   obtain rfl:=Option.some.inj H
   go_enter Try.func55,Try.ntmps55
   go_wp2_with (first|((with_reducible refine y14 (N:=2) rfl ?_);refine qe 2 #[.int .i64 Af,.string Ag,.slice Ak Ad.length Al] 63 ?_;intro Ap hg Ds hbox hb;have Aa:=y0.mk (hbox);have Aq:=y0.mk (qg (w:=w) hg);have Ar:=y0.mk (qg (w:=w) hg);replace HB:=y0.mk (y3 qb hb);clear hb hbox hg)|((with_reducible refine y14 (N:=3) rfl ?_);refine qe 3 #[.int .i64 Ah,.string Ai,.slice Am Ae.length Ao] 63 ?_;intro As hg Dt hbox hb;have Aj:=y0.mk (hbox);have At:=y0.mk (qg (w:=w) hg);have Au:=y0.mk (qg (w:=w) hg);replace HB:=y0.mk (y3 qb hb);have Ab:=y0.mk (qn Aa.out hg);have Ac:=y0.mk (qm Aa.out hg);replace Aa:=y0.mk (qK Aa.out hb);clear hb hbox hg;have Di:=Ab.out;have Dj:=Ac.out;obtain⟨Ce,Cf,Cg,Ch,Ci,Cj⟩:=qz3 Aa.out;obtain⟨Ck,Cl,Cm,Cn,Co,Cp⟩:=qz3 Aj.out))
   go_ret
   exact⟨qf,qb⟩
 ·rw [if_neg c3]at H
  have Dc:(Af == Ah)=false:=beq_eq_false_iff_ne.mpr c3
  have Dd:(Af != Ah)=true:=bne_iff_ne.mpr c3
  obtain rfl:=Option.some.inj H
  go_enter Try.func55,Try.ntmps55
  go_wp2_with (first|((with_reducible refine y14 (N:=2) rfl ?_);refine qe 2 #[.int .i64 Af,.string Ag,.slice Ak Ad.length Al] 63 ?_;intro Ap hg Du hbox hb;have Aa:=y0.mk (hbox);have Aq:=y0.mk (qg (w:=w) hg);have Ar:=y0.mk (qg (w:=w) hg);replace HB:=y0.mk (y3 qb hb);clear hb hbox hg)|((with_reducible refine y14 (N:=3) rfl ?_);refine qe 3 #[.int .i64 Ah,.string Ai,.slice Am Ae.length Ao] 63 ?_;intro As hg Dv hbox hb;have Aj:=y0.mk (hbox);have At:=y0.mk (qg (w:=w) hg);have Au:=y0.mk (qg (w:=w) hg);replace HB:=y0.mk (y3 qb hb);have Ab:=y0.mk (qn Aa.out hg);have Ac:=y0.mk (qm Aa.out hg);replace Aa:=y0.mk (qK Aa.out hb);clear hb hbox hg;have Dk:=Ab.out;have Dl:=Ac.out;obtain⟨Cq,Cr,Cs,Ct,Cu,Cv⟩:=qz3 Aa.out;obtain⟨Cw,Cx,Cy,Cz,Da,Db⟩:=qz3 Aj.out))
  go_ret
  exact⟨qf,qb⟩
def laws_eqExpS.l0:Nat→List (S63)→List (S63)→Int→Option (Bool)
 | 0,_,_,_=>none
 | k + 1,x0,x1,x5=>if x5 < (x0.length:Int)then(if 0≤x5 then(if x5 < (x1.length:Int)then((laws_eqExp.f k ((y17 x0 x5).f0) ((y17 x0 x5).f1) ((y17 x0 x5).f2) ((y17 x1 x5).f0) ((y17 x1 x5).f1) ((y17 x1 x5).f2)).bind fun t407=>(if t407=true then(laws_eqExpS.l0 k x0 x1 (wrap64 (x5 + 1)))else(some false)))else(none))else(none))else(some true)
def laws_eqExpS.f (k:Nat) (l0:List (S63)) (l1:List (S63)):Option (Bool):=if(l0.length:Int)=(l1.length:Int)then(laws_eqExpS.l0 k l0 l1 0)else(some false)
def laws_eqExpS.T6:Bool×List (List Nat×List Nat):=(true,[([],[]),([],[]),([0,1],[0,1]),([2],[2]),([],[]),([],[]),([4,5],[4,5]),([6],[6]),([3,7],[3,7]),([8],[8])])
def laws_eqExpS.B6:List Nat:=[0,0,3,7,0,0,48,112,255,511]
theorem laws_eqExpS.tab6:rtab .any (opsOf Try.f31 6)=laws_eqExpS.T6:=by kernel_rfl
theorem laws_eqExpS.bits6:waitsOk laws_eqExpS.T6.2 laws_eqExpS.B6=true:=by kernel_rfl
set_option maxHeartbeats 8000000 in
set_option maxRecDepth 100000 in
theorem laws_eqExpS.calls (k:Nat) (A0:Option Addr) (c0:Nat) (l0:List (S63)) (A1:Option Addr) (c1:Nat) (l1:List (S63)) (r:Bool) (w:World) (Bo:Kd.C k63 w A0 l0.length l0) (Bp:l0.length≤c0) (Bq:Kd.C k63 w A1 l1.length l1) (Br:l1.length≤c1) (h:laws_eqExpS.f k l0 l1=some r) :
  Calls Try.prog 31 #[.slice A0 l0.length c0,.slice A1 l1.length c1] w fun e w'=>e=.returned (.bool r)∧Below w.heap.size w w':=by
 have Bt:=Try.underlying63
 have Bu:=y0.mk Bo
 have Bz:=y0.mk Bp
 clear Bo Bp
 have Bv:=y0.mk Bq
 have Ca:=y0.mk Br
 clear Bq Br
 have HB:=y0.mk (Below.refl w.heap.size w)
 have H:(if(l0.length:Int)=(l1.length:Int)then(laws_eqExpS.l0 k l0 l1 0)else(some false))=some r:=h
 clear h
 by_cases c3:(l0.length:Int)=(l1.length:Int)
 ·rw [if_pos c3]at H
  have Bh:((l0.length:Int) == (l1.length:Int))=true:=beq_iff_eq.mpr c3
  have Bi:((l0.length:Int) != (l1.length:Int))=false:=bne_eq_false_iff_eq.mpr c3
  have Bj:(l0.length == l1.length)=true:=by first|simpa using c3|(simp at c3 ⊢;omega)
  clear c3
  have H':=y0.mk H
  clear H
  go_enter Try.func31,Try.ntmps31
  go_wp2
  go_loopg [5] k (fun kq v5 w'=>∃(Aa:Int),v5=.int .i64 Aa∧y0 (laws_eqExpS.l0 kq l0 l1 Aa=some r)∧y0 (kq≤k)∧y0 (Below w.heap.size w w'))
  case atStart=>exact⟨(0),qy2,H',⟨Nat.le_refl _⟩,⟨qb⟩⟩
  case round =>
   clear H'
   (try clear Bh Bi Bj)
   obtain⟨Aa,rfl,HA,Bs,HB⟩:=hrel
   cases gk with
   | zero=>exact absurd HA.out (by simp [laws_eqExpS.l0])
   | succ k1 =>
    have H:=HA.out
    clear HA
    simp only [laws_eqExpS.l0]at H
    by_cases c4:Aa < (l0.length:Int)
    ·rw [if_pos c4]at H
     have Bk:=decide_eq_true c4
     clear c4
     obtain⟨c5,H⟩:=qo H
     have Bw:decide (0≤Aa)=true:=decide_eq_true c5
     clear c5
     obtain⟨c6,H⟩:=qo H
     have Bx:decide (Aa < (l1.length:Int))=true:=decide_eq_true c6
     clear c6
     obtain⟨Bl,A7,H⟩:=qB H
     try go_wp2
     replace HB:=y0.mk (below_drew1 HB.out)
     have Bd:0≤(Aa:Int):=of_decide_eq_true qy0
     have Be:Aa < (l0.length:Int):=of_decide_eq_true qy0
     obtain⟨Aq,As,At,Bm,Ah,Ai,Aj,Aw,Ay⟩:=at_T63 Bu.out Aa Bd Be
     have Ab:=Aj
     have Ac:=Ai
     have Ad:=Ah
     cases Bm
     replace Ah:=(HB.out.cell (World.block_lt_of_cell? w _ Ah)).trans Ah
     replace Ai:=(HB.out.cell (World.block_lt_of_cell? w _ Ai)).trans Ai
     replace Aj:=(HB.out.cell (World.block_lt_of_cell? w _ Aj)).trans Aj
     have Ao:=y0.mk Ay
     have Az:=y0.mk Aw
     clear Ay Aw
     replace Bd:=eq_true Bd
     replace Be:=eq_true Be
     have Bf:0≤(Aa:Int):=of_decide_eq_true qy0
     have Bg:Aa < (l1.length:Int):=of_decide_eq_true qy0
     obtain⟨Ar,Au,Av,Bn,Ak,Al,Am,Ba,Bb⟩:=at_T63 Bv.out Aa Bf Bg
     have Ae:=Am
     have Af:=Al
     have Ag:=Ak
     cases Bn
     replace Ak:=(HB.out.cell (World.block_lt_of_cell? w _ Ak)).trans Ak
     replace Al:=(HB.out.cell (World.block_lt_of_cell? w _ Al)).trans Al
     replace Am:=(HB.out.cell (World.block_lt_of_cell? w _ Am)).trans Am
     have Ap:=y0.mk Bb
     have Bc:=y0.mk Ba
     clear Bb Ba
     replace Bf:=eq_true Bf
     replace Bg:=eq_true Bg
     refine start_ (n:=10) (S:=fun w'=>w'.cell? (Aq.add ((Aa).toNat * 3))=some (.int .i64 ((y17 l0 Aa).f0))∧w'.cell? ⟨(Aq.add ((Aa).toNat * 3)).block,(Aq.add ((Aa).toNat * 3)).off + 1,none⟩=some (.string ((y17 l0 Aa).f1))∧w'.cell? ⟨(Aq.add ((Aa).toNat * 3)).block,(Aq.add ((Aa).toNat * 3)).off + 2,none⟩=some (.slice As ((y17 l0 Aa).f2).length At)∧w'.cell? (Ar.add ((Aa).toNat * 3))=some (.int .i64 ((y17 l1 Aa).f0))∧w'.cell? ⟨(Ar.add ((Aa).toNat * 3)).block,(Ar.add ((Aa).toNat * 3)).off + 1,none⟩=some (.string ((y17 l1 Aa).f1))∧w'.cell? ⟨(Ar.add ((Aa).toNat * 3)).block,(Ar.add ((Aa).toNat * 3)).off + 2,none⟩=some (.slice Au ((y17 l1 Aa).f2).length Av)) (ds:=[]) (fl_ 10 0) (by kernel_rfl) rfl rfl ⟨((HB.out.cell (World.block_lt_of_cell? w _ Ad)).trans Ad),((HB.out.cell (World.block_lt_of_cell? w _ Ac)).trans Ac),((HB.out.cell (World.block_lt_of_cell? w _ Ab)).trans Ab),((HB.out.cell (World.block_lt_of_cell? w _ Ag)).trans Ag),((HB.out.cell (World.block_lt_of_cell? w _ Af)).trans Af),((HB.out.cell (World.block_lt_of_cell? w _ Ae)).trans Ae)⟩ (fun hHeld=>?_);refine with_tabW laws_eqExpS.tab6 laws_eqExpS.bits6 (fun HT_ HW_=>?_)
     generalize wr.drew=w9 at HB Ao Ap Ah Ai Aj Ak Al Am hHeld ⊢
     refine qp3 0 17 10 ?_
     by_cases c8:Bl=true
     ·subst c8
      replace H:=qT H
      have H':=y0.mk H
      clear H
      refine qp 4 21 (fl_ 10 23) ?_
      refine qp 5 22 (fl_ 10 55) ?_
      refine qp 6 23 (fl_ 10 119) ?_
      refine qt 3 20 (fl_ 10 127) hHeld ?_
      refine qt 7 24 (fl_ 10 255) hHeld ?_
      refine qO 8 25 (fl_ 10 511) (fun K hK=>?_)
      refine goes_ Try.func55 (by kernel_rfl) rfl #[.agg #[.int .i64 ((y17 l0 Aa).f0),.string ((y17 l0 Aa).f1),.slice As ((y17 l0 Aa).f2).length At],.agg #[.int .i64 ((y17 l1 Aa).f0),.string ((y17 l1 Aa).f1),.slice Au ((y17 l1 Aa).f2).length Av]] (by rfl) rfl rfl qy1 ?_
      with_reducible refine(laws_eqExp.calls k1 ((y17 l0 Aa).f0) ((y17 l0 Aa).f1) _ _ ((y17 l0 Aa).f2) ((y17 l1 Aa).f0) ((y17 l1 Aa).f1) _ _ ((y17 l1 Aa).f2) true _ (qc (Kd.C_below Ao.out HB.out)) Az.out (qc (Kd.C_below Ap.out HB.out)) Bc.out A7.out).mono ?_
      rintro e Cb ⟨rfl,hb⟩
      refine⟨_,rfl, ?_⟩
      replace HB:=y0.mk (y3 qb hb)
      (try clear hb)
      refine hK.out _ _ ⟨((HB.out.cell (World.block_lt_of_cell? w _ Ad)).trans Ad),((HB.out.cell (World.block_lt_of_cell? w _ Ac)).trans Ac),((HB.out.cell (World.block_lt_of_cell? w _ Ab)).trans Ab),((HB.out.cell (World.block_lt_of_cell? w _ Ag)).trans Ag),((HB.out.cell (World.block_lt_of_cell? w _ Af)).trans Af),((HB.out.cell (World.block_lt_of_cell? w _ Ae)).trans Ae)⟩ (fun hHeld=>?_)
      clear hK K
      refine qx 25 ?_
      refine qp 9 26 (fl_ 10 1023) ?_
      refine done_ (done_of HT_.out (by kernel_rfl)) ?_
      try go_wp2
      go_roundg k1
      case measure=>have:=Bs.out;omega
      exact⟨(wrap64 (Aa + 1)),qy2,H',⟨by have:=Bs.out;omega⟩,⟨qb⟩⟩
     ·replace c8:=Bool.eq_false_iff.mpr c8
      subst c8
      replace H:=qF H
      obtain rfl:=Option.some.inj H
      refine qp 4 21 (fl_ 10 23) ?_
      refine qp 5 22 (fl_ 10 55) ?_
      refine qp 6 23 (fl_ 10 119) ?_
      refine qt 3 20 (fl_ 10 127) hHeld ?_
      refine qt 7 24 (fl_ 10 255) hHeld ?_
      refine qO 8 25 (fl_ 10 511) (fun K hK=>?_)
      refine goes_ Try.func55 (by kernel_rfl) rfl #[.agg #[.int .i64 ((y17 l0 Aa).f0),.string ((y17 l0 Aa).f1),.slice As ((y17 l0 Aa).f2).length At],.agg #[.int .i64 ((y17 l1 Aa).f0),.string ((y17 l1 Aa).f1),.slice Au ((y17 l1 Aa).f2).length Av]] (by rfl) rfl rfl qy1 ?_
      with_reducible refine(laws_eqExp.calls k1 ((y17 l0 Aa).f0) ((y17 l0 Aa).f1) _ _ ((y17 l0 Aa).f2) ((y17 l1 Aa).f0) ((y17 l1 Aa).f1) _ _ ((y17 l1 Aa).f2) false _ (qc (Kd.C_below Ao.out HB.out)) Az.out (qc (Kd.C_below Ap.out HB.out)) Bc.out A7.out).mono ?_
      rintro e Cc ⟨rfl,hb⟩
      refine⟨_,rfl, ?_⟩
      replace HB:=y0.mk (y3 qb hb)
      (try clear hb)
      refine hK.out _ _ ⟨((HB.out.cell (World.block_lt_of_cell? w _ Ad)).trans Ad),((HB.out.cell (World.block_lt_of_cell? w _ Ac)).trans Ac),((HB.out.cell (World.block_lt_of_cell? w _ Ab)).trans Ab),((HB.out.cell (World.block_lt_of_cell? w _ Ag)).trans Ag),((HB.out.cell (World.block_lt_of_cell? w _ Af)).trans Af),((HB.out.cell (World.block_lt_of_cell? w _ Ae)).trans Ae)⟩ (fun hHeld=>?_)
      clear hK K
      refine qx 25 ?_
      refine qp 9 26 (fl_ 10 1023) ?_
      refine done_ (done_of HT_.out (by kernel_rfl)) ?_
      try go_wp2
      go_ret
      exact⟨qf,qb⟩
    ·rw [if_neg c4]at H
     have Bk:=decide_eq_false c4
     clear c4
     obtain rfl:=Option.some.inj H
     go_wp2
     go_ret
     exact⟨qf,qb⟩
 ·rw [if_neg c3]at H
  have Bh:((l0.length:Int) == (l1.length:Int))=false:=beq_eq_false_iff_ne.mpr c3
  have Bi:((l0.length:Int) != (l1.length:Int))=true:=bne_iff_ne.mpr c3
  have Bj:(l0.length == l1.length)=false:=by first|simpa using c3|(simp at c3 ⊢;omega)
  obtain rfl:=Option.some.inj H
  go_enter Try.func31,Try.ntmps31
  go_wp2
  go_ret
  exact⟨qf,qb⟩
end Go.Proofs.Ytkdabljlfbmpdaa.Pg
end
section
namespace Go.Proofs.Ytkdabljlfbmpdaa.Pg
open Go.RowKit Go.Proofs.YtkdabljlfbmpdaaW.PrintWords Go.Proofs.YtkdabljlfbmpdaaW.PrintLast Go.Proofs.YtkdabljlfbmpdaaW.PrintMore
attribute [local go_sem] max2_int min2_int max_two min_two max_three min_three max_four min_four   -- for this text's walks alone
set_option linter.unusedVariables false
set_option linter.unusedSimpArgs false
def laws_eqLit.f (k:Nat) (a0_0:Int) (a0_1:ByteArray) (l0_2:List Int) (a1_0:Int) (a1_1:ByteArray) (l1_2:List Int):Option (Bool):=if a0_0=a1_0 then(if a0_1.toList=a1_1.toList then((laws_eqIntS.f k l0_2 l1_2).bind fun t410=>(if t410=true then(some true)else(some false)))else(some false))else(some false)
set_option maxHeartbeats 8000000 in
set_option maxRecDepth 100000 in
theorem laws_eqLit.calls (k:Nat) (Af:Int) (Ag:ByteArray) (Ak:Option Addr) (Al:Nat) (Ad:List Int) (Ah:Int) (Ai:ByteArray) (Am:Option Addr) (Ao:Nat) (Ae:List Int) (r:Bool) (w:World) (Av:Kd.C (Kd.int .i64) w Ak Ad.length Ad) (Aw:Ad.length≤Al) (Ay:Kd.C (Kd.int .i64) w Am Ae.length Ae) (Az:Ae.length≤Ao) (h:laws_eqLit.f k Af Ag Ad Ah Ai Ae=some r) :
  Calls Try.prog 32 #[.agg #[.int .i64 Af,.string Ag,.slice Ak Ad.length Al],.agg #[.int .i64 Ah,.string Ai,.slice Am Ae.length Ao]] w fun e w'=>e=.returned (.bool r)∧Below w.heap.size w w':=by
 have Dm:=Try.underlying33
 have Ba:=y0.mk Av
 have Bb:=y0.mk Aw
 clear Av Aw
 have Bc:=y0.mk Ay
 have Bd:=y0.mk Az
 clear Ay Az
 have HB:=y0.mk (Below.refl w.heap.size w)
 have H:(if Af=Ah then(if Ag.toList=Ai.toList then((laws_eqIntS.f k Ad Ae).bind fun Be=>(if Be=true then(some true)else(some false)))else(some false))else(some false))=some r:=h
 clear h
 by_cases c3:Af=Ah
 ·rw [if_pos c3]at H
  have Dc:(Af == Ah)=true:=beq_iff_eq.mpr c3
  have Dd:(Af != Ah)=false:=bne_eq_false_iff_eq.mpr c3
  clear c3
  by_cases c4:Ag.toList=Ai.toList
  ·rw [if_pos c4]at H
   have De:(Ag.toList == Ai.toList)=true:=beq_iff_eq.mpr c4
   have Df:(Ag.toList != Ai.toList)=false:=bne_eq_false_iff_eq.mpr c4
   clear c4
   obtain⟨Be,A5,H⟩:=qB H
   by_cases c6:Be=true
   ·subst c6
    replace H:=qT H
    obtain rfl:=Option.some.inj H
    go_enter Try.func32,Try.ntmps32
    go_wp2_with (first|((with_reducible refine y14 (N:=2) rfl ?_);refine qe 2 #[.int .i64 Af,.string Ag,.slice Ak Ad.length Al] 33 ?_;intro Ap hg w7 hbox hb;have Aa:=y0.mk (hbox);have Aq:=y0.mk (qg (w:=w) hg);have Ar:=y0.mk (qg (w:=w) hg);replace HB:=y0.mk (y3 qb hb);clear hb hbox hg)|((with_reducible refine y14 (N:=3) rfl ?_);refine qe 3 #[.int .i64 Ah,.string Ai,.slice Am Ae.length Ao] 33 ?_;intro As hg w8 hbox hb;have Aj:=y0.mk (hbox);have At:=y0.mk (qg (w:=w) hg);have Au:=y0.mk (qg (w:=w) hg);replace HB:=y0.mk (y3 qb hb);have Ab:=y0.mk (qn Aa.out hg);have Ac:=y0.mk (qm Aa.out hg);replace Aa:=y0.mk (qK Aa.out hb);clear hb hbox hg;have Do:=Ab.out;have Dp:=Ac.out;obtain⟨Bf,Bg,Bh,Bi,Bj,Bk⟩:=qz3 Aa.out;obtain⟨Bl,Bm,Bn,Bo,Bp,Bq⟩:=qz3 Aj.out)|((with_reducible refine y13 (f:=56) rfl ?_);refine y15 (some 19) rfl rfl Try.func56 (by kernel_rfl) rfl #[.slice Ak Ad.length Al,.slice Am Ae.length Ao] rfl qy1 ?_;(with_reducible refine(laws_eqIntS.calls k _ _ Ad _ _ Ae true _ (qc (Kd.C_below Ba.out HB.out)) Bb.out (qc (Kd.C_below Bc.out HB.out)) Bd.out A5.out).mono ?_);rintro e w' ⟨rfl,⟨nd,rfl⟩⟩;refine⟨_,rfl, ?_⟩))
    go_ret
    exact⟨qf,qb⟩
   ·replace c6:=Bool.eq_false_iff.mpr c6
    subst c6
    replace H:=qF H
    obtain rfl:=Option.some.inj H
    go_enter Try.func32,Try.ntmps32
    go_wp2_with (first|((with_reducible refine y14 (N:=2) rfl ?_);refine qe 2 #[.int .i64 Af,.string Ag,.slice Ak Ad.length Al] 33 ?_;intro Ap hg Dq hbox hb;have Aa:=y0.mk (hbox);have Aq:=y0.mk (qg (w:=w) hg);have Ar:=y0.mk (qg (w:=w) hg);replace HB:=y0.mk (y3 qb hb);clear hb hbox hg)|((with_reducible refine y14 (N:=3) rfl ?_);refine qe 3 #[.int .i64 Ah,.string Ai,.slice Am Ae.length Ao] 33 ?_;intro As hg Dr hbox hb;have Aj:=y0.mk (hbox);have At:=y0.mk (qg (w:=w) hg);have Au:=y0.mk (qg (w:=w) hg);replace HB:=y0.mk (y3 qb hb);have Ab:=y0.mk (qn Aa.out hg);have Ac:=y0.mk (qm Aa.out hg);replace Aa:=y0.mk (qK Aa.out hb);clear hb hbox hg;have Dg:=Ab.out;have Dh:=Ac.out;obtain⟨Br,Bs,Bt,Bu,Bv,Bw⟩:=qz3 Aa.out;obtain⟨Bx,Bz,Ca,Cb,Cc,Cd⟩:=qz3 Aj.out)|((with_reducible refine y13 (f:=56) rfl ?_);refine y15 (some 19) rfl rfl Try.func56 (by kernel_rfl) rfl #[.slice Ak Ad.length Al,.slice Am Ae.length Ao] rfl qy1 ?_;(with_reducible refine(laws_eqIntS.calls k _ _ Ad _ _ Ae false _ (qc (Kd.C_below Ba.out HB.out)) Bb.out (qc (Kd.C_below Bc.out HB.out)) Bd.out A5.out).mono ?_);rintro e w' ⟨rfl,⟨nd,rfl⟩⟩;refine⟨_,rfl, ?_⟩))
    go_ret
    exact⟨qf,qb⟩
  ·rw [if_neg c4]at H
   have De:(Ag.toList == Ai.toList)=false:=beq_eq_false_iff_ne.mpr c4
   have Df:(Ag.toList != Ai.toList)=true:=bne_iff_ne.mpr c4
   obtain rfl:=Option.some.inj H
   go_enter Try.func32,Try.ntmps32
   go_wp2_with (first|((with_reducible refine y14 (N:=2) rfl ?_);refine qe 2 #[.int .i64 Af,.string Ag,.slice Ak Ad.length Al] 33 ?_;intro Ap hg Ds hbox hb;have Aa:=y0.mk (hbox);have Aq:=y0.mk (qg (w:=w) hg);have Ar:=y0.mk (qg (w:=w) hg);replace HB:=y0.mk (y3 qb hb);clear hb hbox hg)|((with_reducible refine y14 (N:=3) rfl ?_);refine qe 3 #[.int .i64 Ah,.string Ai,.slice Am Ae.length Ao] 33 ?_;intro As hg Dt hbox hb;have Aj:=y0.mk (hbox);have At:=y0.mk (qg (w:=w) hg);have Au:=y0.mk (qg (w:=w) hg);replace HB:=y0.mk (y3 qb hb);have Ab:=y0.mk (qn Aa.out hg);have Ac:=y0.mk (qm Aa.out hg);replace Aa:=y0.mk (qK Aa.out hb);clear hb hbox hg;have Di:=Ab.out;have Dj:=Ac.out;obtain⟨Ce,Cf,Cg,Ch,Ci,Cj⟩:=qz3 Aa.out;obtain⟨Ck,Cl,Cm,Cn,Co,Cp⟩:=qz3 Aj.out))
   go_ret
   exact⟨qf,qb⟩
 ·rw [if_neg c3]at H
  have Dc:(Af == Ah)=false:=beq_eq_false_iff_ne.mpr c3
  have Dd:(Af != Ah)=true:=bne_iff_ne.mpr c3
  obtain rfl:=Option.some.inj H
  go_enter Try.func32,Try.ntmps32
  go_wp2_with (first|((with_reducible refine y14 (N:=2) rfl ?_);refine qe 2 #[.int .i64 Af,.string Ag,.slice Ak Ad.length Al] 33 ?_;intro Ap hg Du hbox hb;have Aa:=y0.mk (hbox);have Aq:=y0.mk (qg (w:=w) hg);have Ar:=y0.mk (qg (w:=w) hg);replace HB:=y0.mk (y3 qb hb);clear hb hbox hg)|((with_reducible refine y14 (N:=3) rfl ?_);refine qe 3 #[.int .i64 Ah,.string Ai,.slice Am Ae.length Ao] 33 ?_;intro As hg Dv hbox hb;have Aj:=y0.mk (hbox);have At:=y0.mk (qg (w:=w) hg);have Au:=y0.mk (qg (w:=w) hg);replace HB:=y0.mk (y3 qb hb);have Ab:=y0.mk (qn Aa.out hg);have Ac:=y0.mk (qm Aa.out hg);replace Aa:=y0.mk (qK Aa.out hb);clear hb hbox hg;have Dk:=Ab.out;have Dl:=Ac.out;obtain⟨Cq,Cr,Cs,Ct,Cu,Cv⟩:=qz3 Aa.out;obtain⟨Cw,Cx,Cy,Cz,Da,Db⟩:=qz3 Aj.out))
  go_ret
  exact⟨qf,qb⟩
def laws_eqLitS.l0:Nat→List (S33)→List (S33)→Int→Option (Bool)
 | 0,_,_,_=>none
 | k + 1,x0,x1,x5=>if x5 < (x0.length:Int)then(if 0≤x5 then(if x5 < (x1.length:Int)then((laws_eqLit.f k ((y16 x0 x5).f0) ((y16 x0 x5).f1) ((y16 x0 x5).f2) ((y16 x1 x5).f0) ((y16 x1 x5).f1) ((y16 x1 x5).f2)).bind fun t413=>(if t413=true then(laws_eqLitS.l0 k x0 x1 (wrap64 (x5 + 1)))else(some false)))else(none))else(none))else(some true)
def laws_eqLitS.f (k:Nat) (l0:List (S33)) (l1:List (S33)):Option (Bool):=if(l0.length:Int)=(l1.length:Int)then(laws_eqLitS.l0 k l0 l1 0)else(some false)
def laws_eqLitS.T6:Bool×List (List Nat×List Nat):=(true,[([],[]),([],[]),([0,1],[0,1]),([2],[2]),([],[]),([],[]),([4,5],[4,5]),([6],[6]),([3,7],[3,7]),([8],[8])])
def laws_eqLitS.B6:List Nat:=[0,0,3,7,0,0,48,112,255,511]
theorem laws_eqLitS.tab6:rtab .any (opsOf Try.f33 6)=laws_eqLitS.T6:=by kernel_rfl
theorem laws_eqLitS.bits6:waitsOk laws_eqLitS.T6.2 laws_eqLitS.B6=true:=by kernel_rfl
set_option maxHeartbeats 8000000 in
set_option maxRecDepth 100000 in
theorem laws_eqLitS.calls (k:Nat) (A0:Option Addr) (c0:Nat) (l0:List (S33)) (A1:Option Addr) (c1:Nat) (l1:List (S33)) (r:Bool) (w:World) (Bo:Kd.C k33 w A0 l0.length l0) (Bp:l0.length≤c0) (Bq:Kd.C k33 w A1 l1.length l1) (Br:l1.length≤c1) (h:laws_eqLitS.f k l0 l1=some r) :
  Calls Try.prog 33 #[.slice A0 l0.length c0,.slice A1 l1.length c1] w fun e w'=>e=.returned (.bool r)∧Below w.heap.size w w':=by
 have Bt:=Try.underlying33
 have Bu:=y0.mk Bo
 have Bz:=y0.mk Bp
 clear Bo Bp
 have Bv:=y0.mk Bq
 have Ca:=y0.mk Br
 clear Bq Br
 have HB:=y0.mk (Below.refl w.heap.size w)
 have H:(if(l0.length:Int)=(l1.length:Int)then(laws_eqLitS.l0 k l0 l1 0)else(some false))=some r:=h
 clear h
 by_cases c3:(l0.length:Int)=(l1.length:Int)
 ·rw [if_pos c3]at H
  have Bh:((l0.length:Int) == (l1.length:Int))=true:=beq_iff_eq.mpr c3
  have Bi:((l0.length:Int) != (l1.length:Int))=false:=bne_eq_false_iff_eq.mpr c3
  have Bj:(l0.length == l1.length)=true:=by first|simpa using c3|(simp at c3 ⊢;omega)
  clear c3
  have H':=y0.mk H
  clear H
  go_enter Try.func33,Try.ntmps33
  go_wp2
  go_loopg [5] k (fun kq v5 w'=>∃(Aa:Int),v5=.int .i64 Aa∧y0 (laws_eqLitS.l0 kq l0 l1 Aa=some r)∧y0 (kq≤k)∧y0 (Below w.heap.size w w'))
  case atStart=>exact⟨(0),qy2,H',⟨Nat.le_refl _⟩,⟨qb⟩⟩
  case round =>
   clear H'
   (try clear Bh Bi Bj)
   obtain⟨Aa,rfl,HA,Bs,HB⟩:=hrel
   cases gk with
   | zero=>exact absurd HA.out (by simp [laws_eqLitS.l0])
   | succ k1 =>
    have H:=HA.out
    clear HA
    simp only [laws_eqLitS.l0]at H
    by_cases c4:Aa < (l0.length:Int)
    ·rw [if_pos c4]at H
     have Bk:=decide_eq_true c4
     clear c4
     obtain⟨c5,H⟩:=qo H
     have Bw:decide (0≤Aa)=true:=decide_eq_true c5
     clear c5
     obtain⟨c6,H⟩:=qo H
     have Bx:decide (Aa < (l1.length:Int))=true:=decide_eq_true c6
     clear c6
     obtain⟨Bl,A7,H⟩:=qB H
     try go_wp2
     replace HB:=y0.mk (below_drew1 HB.out)
     have Bd:0≤(Aa:Int):=of_decide_eq_true qy0
     have Be:Aa < (l0.length:Int):=of_decide_eq_true qy0
     obtain⟨Aq,As,At,Bm,Ah,Ai,Aj,Aw,Ay⟩:=at_T33 Bu.out Aa Bd Be
     have Ab:=Aj
     have Ac:=Ai
     have Ad:=Ah
     cases Bm
     replace Ah:=(HB.out.cell (World.block_lt_of_cell? w _ Ah)).trans Ah
     replace Ai:=(HB.out.cell (World.block_lt_of_cell? w _ Ai)).trans Ai
     replace Aj:=(HB.out.cell (World.block_lt_of_cell? w _ Aj)).trans Aj
     have Ao:=y0.mk Ay
     have Az:=y0.mk Aw
     clear Ay Aw
     replace Bd:=eq_true Bd
     replace Be:=eq_true Be
     have Bf:0≤(Aa:Int):=of_decide_eq_true qy0
     have Bg:Aa < (l1.length:Int):=of_decide_eq_true qy0
     obtain⟨Ar,Au,Av,Bn,Ak,Al,Am,Ba,Bb⟩:=at_T33 Bv.out Aa Bf Bg
     have Ae:=Am
     have Af:=Al
     have Ag:=Ak
     cases Bn
     replace Ak:=(HB.out.cell (World.block_lt_of_cell? w _ Ak)).trans Ak
     replace Al:=(HB.out.cell (World.block_lt_of_cell? w _ Al)).trans Al
     replace Am:=(HB.out.cell (World.block_lt_of_cell? w _ Am)).trans Am
     have Ap:=y0.mk Bb
     have Bc:=y0.mk Ba
     clear Bb Ba
     replace Bf:=eq_true Bf
     replace Bg:=eq_true Bg
     refine start_ (n:=10) (S:=fun w'=>w'.cell? (Aq.add ((Aa).toNat * 3))=some (.int .i64 ((y16 l0 Aa).f0))∧w'.cell? ⟨(Aq.add ((Aa).toNat * 3)).block,(Aq.add ((Aa).toNat * 3)).off + 1,none⟩=some (.string ((y16 l0 Aa).f1))∧w'.cell? ⟨(Aq.add ((Aa).toNat * 3)).block,(Aq.add ((Aa).toNat * 3)).off + 2,none⟩=some (.slice As ((y16 l0 Aa).f2).length At)∧w'.cell? (Ar.add ((Aa).toNat * 3))=some (.int .i64 ((y16 l1 Aa).f0))∧w'.cell? ⟨(Ar.add ((Aa).toNat * 3)).block,(Ar.add ((Aa).toNat * 3)).off + 1,none⟩=some (.string ((y16 l1 Aa).f1))∧w'.cell? ⟨(Ar.add ((Aa).toNat * 3)).block,(Ar.add ((Aa).toNat * 3)).off + 2,none⟩=some (.slice Au ((y16 l1 Aa).f2).length Av)) (ds:=[]) (fl_ 10 0) (by kernel_rfl) rfl rfl ⟨((HB.out.cell (World.block_lt_of_cell? w _ Ad)).trans Ad),((HB.out.cell (World.block_lt_of_cell? w _ Ac)).trans Ac),((HB.out.cell (World.block_lt_of_cell? w _ Ab)).trans Ab),((HB.out.cell (World.block_lt_of_cell? w _ Ag)).trans Ag),((HB.out.cell (World.block_lt_of_cell? w _ Af)).trans Af),((HB.out.cell (World.block_lt_of_cell? w _ Ae)).trans Ae)⟩ (fun hHeld=>?_);refine with_tabW laws_eqLitS.tab6 laws_eqLitS.bits6 (fun HT_ HW_=>?_)
     generalize wr.drew=w9 at HB Ao Ap Ah Ai Aj Ak Al Am hHeld ⊢
     refine qp3 0 17 10 ?_
     by_cases c8:Bl=true
     ·subst c8
      replace H:=qT H
      have H':=y0.mk H
      clear H
      refine qp 4 21 (fl_ 10 23) ?_
      refine qp 5 22 (fl_ 10 55) ?_
      refine qp 6 23 (fl_ 10 119) ?_
      refine qt 3 20 (fl_ 10 127) hHeld ?_
      refine qt 7 24 (fl_ 10 255) hHeld ?_
      refine qO 8 25 (fl_ 10 511) (fun K hK=>?_)
      refine goes_ Try.func32 (by kernel_rfl) rfl #[.agg #[.int .i64 ((y16 l0 Aa).f0),.string ((y16 l0 Aa).f1),.slice As ((y16 l0 Aa).f2).length At],.agg #[.int .i64 ((y16 l1 Aa).f0),.string ((y16 l1 Aa).f1),.slice Au ((y16 l1 Aa).f2).length Av]] (by rfl) rfl rfl qy1 ?_
      with_reducible refine(laws_eqLit.calls k1 ((y16 l0 Aa).f0) ((y16 l0 Aa).f1) _ _ ((y16 l0 Aa).f2) ((y16 l1 Aa).f0) ((y16 l1 Aa).f1) _ _ ((y16 l1 Aa).f2) true _ (qc (Kd.C_below Ao.out HB.out)) Az.out (qc (Kd.C_below Ap.out HB.out)) Bc.out A7.out).mono ?_
      rintro e Cb ⟨rfl,hb⟩
      refine⟨_,rfl, ?_⟩
      replace HB:=y0.mk (y3 qb hb)
      (try clear hb)
      refine hK.out _ _ ⟨((HB.out.cell (World.block_lt_of_cell? w _ Ad)).trans Ad),((HB.out.cell (World.block_lt_of_cell? w _ Ac)).trans Ac),((HB.out.cell (World.block_lt_of_cell? w _ Ab)).trans Ab),((HB.out.cell (World.block_lt_of_cell? w _ Ag)).trans Ag),((HB.out.cell (World.block_lt_of_cell? w _ Af)).trans Af),((HB.out.cell (World.block_lt_of_cell? w _ Ae)).trans Ae)⟩ (fun hHeld=>?_)
      clear hK K
      refine qx 25 ?_
      refine qp 9 26 (fl_ 10 1023) ?_
      refine done_ (done_of HT_.out (by kernel_rfl)) ?_
      try go_wp2
      go_roundg k1
      case measure=>have:=Bs.out;omega
      exact⟨(wrap64 (Aa + 1)),qy2,H',⟨by have:=Bs.out;omega⟩,⟨qb⟩⟩
     ·replace c8:=Bool.eq_false_iff.mpr c8
      subst c8
      replace H:=qF H
      obtain rfl:=Option.some.inj H
      refine qp 4 21 (fl_ 10 23) ?_
      refine qp 5 22 (fl_ 10 55) ?_
      refine qp 6 23 (fl_ 10 119) ?_
      refine qt 3 20 (fl_ 10 127) hHeld ?_
      refine qt 7 24 (fl_ 10 255) hHeld ?_
      refine qO 8 25 (fl_ 10 511) (fun K hK=>?_)
      refine goes_ Try.func32 (by kernel_rfl) rfl #[.agg #[.int .i64 ((y16 l0 Aa).f0),.string ((y16 l0 Aa).f1),.slice As ((y16 l0 Aa).f2).length At],.agg #[.int .i64 ((y16 l1 Aa).f0),.string ((y16 l1 Aa).f1),.slice Au ((y16 l1 Aa).f2).length Av]] (by rfl) rfl rfl qy1 ?_
      with_reducible refine(laws_eqLit.calls k1 ((y16 l0 Aa).f0) ((y16 l0 Aa).f1) _ _ ((y16 l0 Aa).f2) ((y16 l1 Aa).f0) ((y16 l1 Aa).f1) _ _ ((y16 l1 Aa).f2) false _ (qc (Kd.C_below Ao.out HB.out)) Az.out (qc (Kd.C_below Ap.out HB.out)) Bc.out A7.out).mono ?_
      rintro e Cc ⟨rfl,hb⟩
      refine⟨_,rfl, ?_⟩
      replace HB:=y0.mk (y3 qb hb)
      (try clear hb)
      refine hK.out _ _ ⟨((HB.out.cell (World.block_lt_of_cell? w _ Ad)).trans Ad),((HB.out.cell (World.block_lt_of_cell? w _ Ac)).trans Ac),((HB.out.cell (World.block_lt_of_cell? w _ Ab)).trans Ab),((HB.out.cell (World.block_lt_of_cell? w _ Ag)).trans Ag),((HB.out.cell (World.block_lt_of_cell? w _ Af)).trans Af),((HB.out.cell (World.block_lt_of_cell? w _ Ae)).trans Ae)⟩ (fun hHeld=>?_)
      clear hK K
      refine qx 25 ?_
      refine qp 9 26 (fl_ 10 1023) ?_
      refine done_ (done_of HT_.out (by kernel_rfl)) ?_
      try go_wp2
      go_ret
      exact⟨qf,qb⟩
    ·rw [if_neg c4]at H
     have Bk:=decide_eq_false c4
     clear c4
     obtain rfl:=Option.some.inj H
     go_wp2
     go_ret
     exact⟨qf,qb⟩
 ·rw [if_neg c3]at H
  have Bh:((l0.length:Int) == (l1.length:Int))=false:=beq_eq_false_iff_ne.mpr c3
  have Bi:((l0.length:Int) != (l1.length:Int))=true:=bne_iff_ne.mpr c3
  have Bj:(l0.length == l1.length)=false:=by first|simpa using c3|(simp at c3 ⊢;omega)
  obtain rfl:=Option.some.inj H
  go_enter Try.func33,Try.ntmps33
  go_wp2
  go_ret
  exact⟨qf,qb⟩
def laws_eqRule.f (k:Nat) (l0_0:List (S63)) (a0_1:Int) (a0_2:ByteArray) (l0_3:List Int) (l0_4:List (S33)) (l1_0:List (S63)) (a1_1:Int) (a1_2:ByteArray) (l1_3:List Int) (l1_4:List (S33)):Option (Bool):=(laws_eqExpS.f k l0_0 l1_0).bind fun t416=>(if t416=true then((laws_eqLit.f k a0_1 a0_2 l0_3 a1_1 a1_2 l1_3).bind fun t417=>(if t417=true then((laws_eqLitS.f k l0_4 l1_4).bind fun t418=>(if t418=true then(some true)else(some false)))else(some false)))else(some false))
set_option maxHeartbeats 8000000 in
set_option maxRecDepth 100000 in
theorem laws_eqRule.calls (k:Nat) (Ap:Option Addr) (Aq:Nat) (Ae:List (S63)) (Ak:Int) (Al:ByteArray) (At:Option Addr) (Au:Nat) (Ag:List Int) (Ay:Option Addr) (Az:Nat) (Ai:List (S33)) (Ar:Option Addr) (As:Nat) (Af:List (S63)) (Am:Int) (Ao:ByteArray) (Av:Option Addr) (Aw:Nat) (Ah:List Int) (Ba:Option Addr) (Bb:Nat) (Aj:List (S33)) (r:Bool) (w:World) (Bq:Kd.C k63 w Ap Ae.length Ae) (Br:Ae.length≤Aq) (Bs:Kd.C (Kd.int .i64) w At Ag.length Ag) (Bt:Ag.length≤Au) (Bu:Kd.C k33 w Ay Ai.length Ai) (Bv:Ai.length≤Az) (Bw:Kd.C k63 w Ar Af.length Af) (Bx:Af.length≤As) (Bz:Kd.C (Kd.int .i64) w Av Ah.length Ah) (Ca:Ah.length≤Aw) (Cb:Kd.C k33 w Ba Aj.length Aj) (Cc:Aj.length≤Bb) (h:laws_eqRule.f k Ae Ak Al Ag Ai Af Am Ao Ah Aj=some r) :
  Calls Try.prog 11 #[.agg #[.slice Ap Ae.length Aq,.int .i64 Ak,.string Al,.slice At Ag.length Au,.slice Ay Ai.length Az],.agg #[.slice Ar Af.length As,.int .i64 Am,.string Ao,.slice Av Ah.length Aw,.slice Ba Aj.length Bb]] w fun e w'=>e=.returned (.bool r)∧Below w.heap.size w w':=by
 have Jw:=Try.underlying36
 have Jx:=Try.underlying33
 have Bc:=y0.mk Bq
 have Bd:=y0.mk Br
 clear Bq Br
 have Bg:=y0.mk Bs
 have Bh:=y0.mk Bt
 clear Bs Bt
 have Cd:=y0.mk Bu
 have Ce:=y0.mk Bv
 clear Bu Bv
 have Be:=y0.mk Bw
 have Bf:=y0.mk Bx
 clear Bw Bx
 have Bi:=y0.mk Bz
 have Bj:=y0.mk Ca
 clear Bz Ca
 have Cf:=y0.mk Cb
 have Cg:=y0.mk Cc
 clear Cb Cc
 have HB:=y0.mk (Below.refl w.heap.size w)
 have H:((laws_eqExpS.f k Ae Af).bind fun Ch=>(if Ch=true then((laws_eqLit.f k Ak Al Ag Am Ao Ah).bind fun Ci=>(if Ci=true then((laws_eqLitS.f k Ai Aj).bind fun Cj=>(if Cj=true then(some true)else(some false)))else(some false)))else(some false)))=some r:=h
 clear h
 obtain⟨Ch,A3,H⟩:=qB H
 by_cases c4:Ch=true
 ·subst c4
  replace H:=qT H
  obtain⟨Ci,A5,H⟩:=qB H
  by_cases c6:Ci=true
  ·subst c6
   replace H:=qT H
   obtain⟨Cj,A7,H⟩:=qB H
   by_cases c8:Cj=true
   ·subst c8
    replace H:=qT H
    obtain rfl:=Option.some.inj H
    go_enter Try.func11,Try.ntmps11
    go_wp2_with (first|((with_reducible refine y14 (N:=2) rfl ?_);refine qe 2 #[.slice Ap Ae.length Aq,.int .i64 Ak,.string Al,.slice At Ag.length Au,.slice Ay Ai.length Az] 36 ?_;intro Bk hg w9 hbox hb;have Aa:=y0.mk (hbox);have Bl:=y0.mk (qg (w:=w) hg);have Bm:=y0.mk (qg (w:=w) hg);replace HB:=y0.mk (y3 qb hb);clear hb hbox hg)|((with_reducible refine y14 (N:=3) rfl ?_);refine qe 3 #[.slice Ar Af.length As,.int .i64 Am,.string Ao,.slice Av Ah.length Aw,.slice Ba Aj.length Bb] 36 ?_;intro Bn hg Jy hbox hb;have Ab:=y0.mk (hbox);have Bo:=y0.mk (qg (w:=w) hg);have Bp:=y0.mk (qg (w:=w) hg);replace HB:=y0.mk (y3 qb hb);have Ac:=y0.mk (qn Aa.out hg);have Ad:=y0.mk (qm Aa.out hg);replace Aa:=y0.mk (qK Aa.out hb);clear hb hbox hg;have Jo:=Ac.out;have Jp:=Ad.out;obtain⟨Ck,Cl,Cm,Cn,Co,Cp,Cq,Cr,Cs,Ct⟩:=qz5 Aa.out;obtain⟨Cu,Cv,Cw,Cx,Cy,Cz,Da,Db,Dc,Dd⟩:=qz5 Ab.out)|((with_reducible refine y13 (f:=31) rfl ?_);refine y15 (some 9) rfl rfl Try.func31 (by kernel_rfl) rfl #[.slice Ap Ae.length Aq,.slice Ar Af.length As] rfl qy1 ?_;(with_reducible refine(laws_eqExpS.calls k _ _ Ae _ _ Af true _ (qc (Kd.C_below Bc.out HB.out)) Bd.out (qc (Kd.C_below Be.out HB.out)) Bf.out A3.out).mono ?_);rintro e Jz ⟨rfl,hb⟩;refine⟨_,rfl, ?_⟩;replace Aa:=y0.mk (qK Aa.out hb);replace Ab:=y0.mk (qK Ab.out hb);replace HB:=y0.mk (y3 qb hb);(try clear hb);obtain⟨De,Df,Dg,Dh,Di,Dj,Dk,Dl,Dm,Do⟩:=qz5 Aa.out;obtain⟨Dp,Dq,Dr,Ds,Dt,Du,Dv,Dw,Dx,Dy⟩:=qz5 Ab.out)|((with_reducible refine y13 (f:=32) rfl ?_);refine y15 (some 15) rfl rfl Try.func32 (by kernel_rfl) rfl #[.agg #[.int .i64 Ak,.string Al,.slice At Ag.length Au],.agg #[.int .i64 Am,.string Ao,.slice Av Ah.length Aw]] rfl qy1 ?_;(with_reducible refine(laws_eqLit.calls k Ak Al _ _ Ag Am Ao _ _ Ah true _ (qc (Kd.C_below Bg.out HB.out)) Bh.out (qc (Kd.C_below Bi.out HB.out)) Bj.out A5.out).mono ?_);rintro e Ka ⟨rfl,hb⟩;refine⟨_,rfl, ?_⟩;replace Aa:=y0.mk (qK Aa.out hb);replace Ab:=y0.mk (qK Ab.out hb);replace HB:=y0.mk (y3 qb hb);(try clear hb);obtain⟨Dz,Ea,Eb,Ec,Ed,Ee,Ef,Eg,Eh,Ei⟩:=qz5 Aa.out;obtain⟨Ej,Ek,El,Em,En,Eo,Ep,Eq,Er,Es⟩:=qz5 Ab.out)|((with_reducible refine y13 (f:=33) rfl ?_);refine y15 (some 21) rfl rfl Try.func33 (by kernel_rfl) rfl #[.slice Ay Ai.length Az,.slice Ba Aj.length Bb] rfl qy1 ?_;(with_reducible refine(laws_eqLitS.calls k _ _ Ai _ _ Aj true _ (qc (Kd.C_below Cd.out HB.out)) Ce.out (qc (Kd.C_below Cf.out HB.out)) Cg.out A7.out).mono ?_);rintro e Kb ⟨rfl,hb⟩;refine⟨_,rfl, ?_⟩;replace Aa:=y0.mk (qK Aa.out hb);replace Ab:=y0.mk (qK Ab.out hb);replace HB:=y0.mk (y3 qb hb);(try clear hb)))
    go_ret
    exact⟨qf,qb⟩
   ·replace c8:=Bool.eq_false_iff.mpr c8
    subst c8
    replace H:=qF H
    obtain rfl:=Option.some.inj H
    go_enter Try.func11,Try.ntmps11
    go_wp2_with (first|((with_reducible refine y14 (N:=2) rfl ?_);refine qe 2 #[.slice Ap Ae.length Aq,.int .i64 Ak,.string Al,.slice At Ag.length Au,.slice Ay Ai.length Az] 36 ?_;intro Bk hg Ke hbox hb;have Aa:=y0.mk (hbox);have Bl:=y0.mk (qg (w:=w) hg);have Bm:=y0.mk (qg (w:=w) hg);replace HB:=y0.mk (y3 qb hb);clear hb hbox hg)|((with_reducible refine y14 (N:=3) rfl ?_);refine qe 3 #[.slice Ar Af.length As,.int .i64 Am,.string Ao,.slice Av Ah.length Aw,.slice Ba Aj.length Bb] 36 ?_;intro Bn hg Kf hbox hb;have Ab:=y0.mk (hbox);have Bo:=y0.mk (qg (w:=w) hg);have Bp:=y0.mk (qg (w:=w) hg);replace HB:=y0.mk (y3 qb hb);have Ac:=y0.mk (qn Aa.out hg);have Ad:=y0.mk (qm Aa.out hg);replace Aa:=y0.mk (qK Aa.out hb);clear hb hbox hg;have Jq:=Ac.out;have Jr:=Ad.out;obtain⟨Et,Eu,Ew,Ex,Ey,Ez,Fa,Fb,Fc,Fd⟩:=qz5 Aa.out;obtain⟨Fe,Ff,Fg,Fh,Fi,Fj,Fk,Fl,Fm,Fn⟩:=qz5 Ab.out)|((with_reducible refine y13 (f:=31) rfl ?_);refine y15 (some 9) rfl rfl Try.func31 (by kernel_rfl) rfl #[.slice Ap Ae.length Aq,.slice Ar Af.length As] rfl qy1 ?_;(with_reducible refine(laws_eqExpS.calls k _ _ Ae _ _ Af true _ (qc (Kd.C_below Bc.out HB.out)) Bd.out (qc (Kd.C_below Be.out HB.out)) Bf.out A3.out).mono ?_);rintro e Kg ⟨rfl,hb⟩;refine⟨_,rfl, ?_⟩;replace Aa:=y0.mk (qK Aa.out hb);replace Ab:=y0.mk (qK Ab.out hb);replace HB:=y0.mk (y3 qb hb);(try clear hb);obtain⟨Fo,Fp,Fq,Fr,Fs,Ft,Fu,Fv,Fx,Fy⟩:=qz5 Aa.out;obtain⟨Fz,Ga,Gb,Gc,Gd,Ge,Gf,Gg,Gh,Gi⟩:=qz5 Ab.out)|((with_reducible refine y13 (f:=32) rfl ?_);refine y15 (some 15) rfl rfl Try.func32 (by kernel_rfl) rfl #[.agg #[.int .i64 Ak,.string Al,.slice At Ag.length Au],.agg #[.int .i64 Am,.string Ao,.slice Av Ah.length Aw]] rfl qy1 ?_;(with_reducible refine(laws_eqLit.calls k Ak Al _ _ Ag Am Ao _ _ Ah true _ (qc (Kd.C_below Bg.out HB.out)) Bh.out (qc (Kd.C_below Bi.out HB.out)) Bj.out A5.out).mono ?_);rintro e Kh ⟨rfl,hb⟩;refine⟨_,rfl, ?_⟩;replace Aa:=y0.mk (qK Aa.out hb);replace Ab:=y0.mk (qK Ab.out hb);replace HB:=y0.mk (y3 qb hb);(try clear hb);obtain⟨Gj,Gk,Gl,Gm,Gn,Gp,Gq,Gr,Gs,Gt⟩:=qz5 Aa.out;obtain⟨Gu,Gv,Gw,Gx,Gy,Gz,Ha,Hb,Hc,Hd⟩:=qz5 Ab.out)|((with_reducible refine y13 (f:=33) rfl ?_);refine y15 (some 21) rfl rfl Try.func33 (by kernel_rfl) rfl #[.slice Ay Ai.length Az,.slice Ba Aj.length Bb] rfl qy1 ?_;(with_reducible refine(laws_eqLitS.calls k _ _ Ai _ _ Aj false _ (qc (Kd.C_below Cd.out HB.out)) Ce.out (qc (Kd.C_below Cf.out HB.out)) Cg.out A7.out).mono ?_);rintro e Ki ⟨rfl,hb⟩;refine⟨_,rfl, ?_⟩;replace Aa:=y0.mk (qK Aa.out hb);replace Ab:=y0.mk (qK Ab.out hb);replace HB:=y0.mk (y3 qb hb);(try clear hb)))
    go_ret
    exact⟨qf,qb⟩
  ·replace c6:=Bool.eq_false_iff.mpr c6
   subst c6
   replace H:=qF H
   obtain rfl:=Option.some.inj H
   go_enter Try.func11,Try.ntmps11
   go_wp2_with (first|((with_reducible refine y14 (N:=2) rfl ?_);refine qe 2 #[.slice Ap Ae.length Aq,.int .i64 Ak,.string Al,.slice At Ag.length Au,.slice Ay Ai.length Az] 36 ?_;intro Bk hg Kj hbox hb;have Aa:=y0.mk (hbox);have Bl:=y0.mk (qg (w:=w) hg);have Bm:=y0.mk (qg (w:=w) hg);replace HB:=y0.mk (y3 qb hb);clear hb hbox hg)|((with_reducible refine y14 (N:=3) rfl ?_);refine qe 3 #[.slice Ar Af.length As,.int .i64 Am,.string Ao,.slice Av Ah.length Aw,.slice Ba Aj.length Bb] 36 ?_;intro Bn hg Kk hbox hb;have Ab:=y0.mk (hbox);have Bo:=y0.mk (qg (w:=w) hg);have Bp:=y0.mk (qg (w:=w) hg);replace HB:=y0.mk (y3 qb hb);have Ac:=y0.mk (qn Aa.out hg);have Ad:=y0.mk (qm Aa.out hg);replace Aa:=y0.mk (qK Aa.out hb);clear hb hbox hg;have Js:=Ac.out;have Jt:=Ad.out;obtain⟨He,Hf,Hg,Hh,Hi,Hj,Hk,Hl,Hm,Hn⟩:=qz5 Aa.out;obtain⟨Ho,Hp,Hq,Hr,Hs,Ht,Hu,Hv,Hw,Hx⟩:=qz5 Ab.out)|((with_reducible refine y13 (f:=31) rfl ?_);refine y15 (some 9) rfl rfl Try.func31 (by kernel_rfl) rfl #[.slice Ap Ae.length Aq,.slice Ar Af.length As] rfl qy1 ?_;(with_reducible refine(laws_eqExpS.calls k _ _ Ae _ _ Af true _ (qc (Kd.C_below Bc.out HB.out)) Bd.out (qc (Kd.C_below Be.out HB.out)) Bf.out A3.out).mono ?_);rintro e Kl ⟨rfl,hb⟩;refine⟨_,rfl, ?_⟩;replace Aa:=y0.mk (qK Aa.out hb);replace Ab:=y0.mk (qK Ab.out hb);replace HB:=y0.mk (y3 qb hb);(try clear hb);obtain⟨Hy,Hz,Ia,Ib,Ic,Id,Ie,If,Ig,Ih⟩:=qz5 Aa.out;obtain⟨Ii,Ij,Ik,Il,Im,Io,Ip,Iq,Ir,Is⟩:=qz5 Ab.out)|((with_reducible refine y13 (f:=32) rfl ?_);refine y15 (some 15) rfl rfl Try.func32 (by kernel_rfl) rfl #[.agg #[.int .i64 Ak,.string Al,.slice At Ag.length Au],.agg #[.int .i64 Am,.string Ao,.slice Av Ah.length Aw]] rfl qy1 ?_;(with_reducible refine(laws_eqLit.calls k Ak Al _ _ Ag Am Ao _ _ Ah false _ (qc (Kd.C_below Bg.out HB.out)) Bh.out (qc (Kd.C_below Bi.out HB.out)) Bj.out A5.out).mono ?_);rintro e Km ⟨rfl,hb⟩;refine⟨_,rfl, ?_⟩;replace Aa:=y0.mk (qK Aa.out hb);replace Ab:=y0.mk (qK Ab.out hb);replace HB:=y0.mk (y3 qb hb);(try clear hb)))
   go_ret
   exact⟨qf,qb⟩
 ·replace c4:=Bool.eq_false_iff.mpr c4
  subst c4
  replace H:=qF H
  obtain rfl:=Option.some.inj H
  go_enter Try.func11,Try.ntmps11
  go_wp2_with (first|((with_reducible refine y14 (N:=2) rfl ?_);refine qe 2 #[.slice Ap Ae.length Aq,.int .i64 Ak,.string Al,.slice At Ag.length Au,.slice Ay Ai.length Az] 36 ?_;intro Bk hg Kn hbox hb;have Aa:=y0.mk (hbox);have Bl:=y0.mk (qg (w:=w) hg);have Bm:=y0.mk (qg (w:=w) hg);replace HB:=y0.mk (y3 qb hb);clear hb hbox hg)|((with_reducible refine y14 (N:=3) rfl ?_);refine qe 3 #[.slice Ar Af.length As,.int .i64 Am,.string Ao,.slice Av Ah.length Aw,.slice Ba Aj.length Bb] 36 ?_;intro Bn hg Ko hbox hb;have Ab:=y0.mk (hbox);have Bo:=y0.mk (qg (w:=w) hg);have Bp:=y0.mk (qg (w:=w) hg);replace HB:=y0.mk (y3 qb hb);have Ac:=y0.mk (qn Aa.out hg);have Ad:=y0.mk (qm Aa.out hg);replace Aa:=y0.mk (qK Aa.out hb);clear hb hbox hg;have Ju:=Ac.out;have Jv:=Ad.out;obtain⟨Iu,Iv,Iw,Ix,Iy,Iz,Ja,Jb,Jc,Jd⟩:=qz5 Aa.out;obtain⟨Je,Jf,Jg,Jh,Ji,Jj,Jk,Jl,Jm,Jn⟩:=qz5 Ab.out)|((with_reducible refine y13 (f:=31) rfl ?_);refine y15 (some 9) rfl rfl Try.func31 (by kernel_rfl) rfl #[.slice Ap Ae.length Aq,.slice Ar Af.length As] rfl qy1 ?_;(with_reducible refine(laws_eqExpS.calls k _ _ Ae _ _ Af false _ (qc (Kd.C_below Bc.out HB.out)) Bd.out (qc (Kd.C_below Be.out HB.out)) Bf.out A3.out).mono ?_);rintro e Kp ⟨rfl,hb⟩;refine⟨_,rfl, ?_⟩;replace Aa:=y0.mk (qK Aa.out hb);replace Ab:=y0.mk (qK Ab.out hb);replace HB:=y0.mk (y3 qb hb);(try clear hb)))
  go_ret
  exact⟨qf,qb⟩
end Go.Proofs.Ytkdabljlfbmpdaa.Pg
end
section
namespace Go.Proofs.Ytkdabljlfbmpdaa.Pg
open Go.RowKit Go.Proofs.YtkdabljlfbmpdaaW.PrintWords Go.Proofs.YtkdabljlfbmpdaaW.PrintLast Go.Proofs.YtkdabljlfbmpdaaW.PrintMore
attribute [local go_sem] max2_int min2_int max_two min_two max_three min_three max_four min_four   -- for this text's walks alone
set_option linter.unusedVariables false
set_option linter.unusedSimpArgs false
def laws_markIntS.l0:Nat→List Int→Int→Int→Option (Int×List Int)
 | 0,_,_,_=>none
 | k + 1,x0,x1,x5=>if x5 < (x0.length:Int)then(if 0≤x5 then(laws_markIntS.l0 k (x0.set (x5:Int).toNat x1) (wrap64 (x1 + 1)) (wrap64 (x5 + 1)))else(none))else(some (x1,x0))
def laws_markIntS.f (k:Nat) (l0:List Int) (a1:Int):Option (Int×List Int):=laws_markIntS.l0 k l0 a1 0
set_option maxHeartbeats 8000000 in
set_option maxRecDepth 100000 in
theorem laws_markIntS.calls (k:Nat) (P0_:Nat→Prop) (u9000_:Value) (l0:List Int) (a1:Int) (r1:Int) (r2:List Int) (w0 w:World) (hB:Below w0.heap.size w0 w) (As:Kd.R (Kd.int .i64) 3 w w0.heap.size P0_ u9000_ l0) (h:laws_markIntS.f k l0 a1=some (r1,r2)) :
  Calls Try.prog 57 #[u9000_,.int .i64 a1] w fun e w'=>e=.returned (.int .i64 r1)∧Kd.R (Kd.int .i64) 3 w' w0.heap.size (fun k_=>(P0_ k_∨w.heap.size≤k_)) u9000_ r2∧Below w0.heap.size w0 w'∧Kept w w' (fun k_=>P0_ k_):=by
 have At:=y0.mk (show Kd.R (Kd.int .i64) 3 w w0.heap.size (fun k_=>(P0_ k_∨w.heap.size≤k_)) u9000_ l0 from Kd.R_mono As (fun k_ hk=>(.inl hk)))
 have HK:=y0.mk (Kept.refl w (fun k_=>P0_ k_))
 have Bb:=y0.mk hB.size
 have HB:=y0.mk hB
 clear hB
 have H:(laws_markIntS.l0 k l0 a1 0)=some (r1,r2):=h
 clear h
 have H':=y0.mk H
 clear H
 go_enter Try.func57,Try.ntmps57
 go_wp2
 go_loopg [1,5] k (fun kq v1 v5 w'=>∃(Ae:List Int) (Ac:Int) (Aa:Int),v1=.int .i64 Ac∧v5=.int .i64 Aa∧y0 (laws_markIntS.l0 kq Ae Ac Aa=some (r1,r2))∧y0 (kq≤k)∧y0 (Kd.R (Kd.int .i64) 3 w' w0.heap.size (fun k_=>(P0_ k_∨w.heap.size≤k_)) u9000_ Ae)∧y0 (Kept w w' (fun k_=>P0_ k_))∧y0 (Below w0.heap.size w0 w'))
 case atStart=>exact⟨(l0),(a1),(0),qy2,qy2,H',⟨Nat.le_refl _⟩,⟨qR At.out⟩,⟨by repeat(first|(with_reducible first|exact HK.out|apply Kept.alloc|apply Kept.drewN|apply Kept.drew)|exact HK.out)⟩,⟨qb⟩⟩
 case round =>
  clear H'
  obtain⟨Ae,Ac,Aa,rfl,rfl,HA,Ak,Ab,HK,HB⟩:=hrel
  cases gk with
  | zero=>exact absurd HA.out (by simp [laws_markIntS.l0])
  | succ k1 =>
   have H:=HA.out
   clear HA
   simp only [laws_markIntS.l0]at H
   by_cases c3:Aa < (Ae.length:Int)
   ·rw [if_pos c3]at H
    have Ai:=decide_eq_true c3
    clear c3
    obtain⟨c4,H⟩:=qo H
    have Au:decide (0≤Aa)=true:=decide_eq_true c4
    clear c4
    obtain⟨Af,Ad⟩:∃ y_:List Int,y_=(Ae.set (Aa:Int).toNat Ac):=⟨_,rfl⟩
    replace H:(laws_markIntS.l0 k1 Af (wrap64 (Ac + 1)) (wrap64 (Aa + 1)))=some (r1,r2):=by first|(rw [Ad];with_reducible exact H)|(have H2_:=(Option.bind_some _ _).symm.trans H;rw [Ad];with_reducible exact H2_)|(have H2_:=(Option.bind_some _ _).symm.trans H;with_reducible exact H2_)|with_reducible exact H|(rw [Ad];exact H)|exact H
    have Ag:=y0.mk Ad
    clear Ad
    have H':=y0.mk H
    clear H
    obtain⟨Bc,Av,Aw⟩:=Kd.R_slice Ab.out
    subst Aw
    have p5:0≤(Aa:Int):=of_decide_eq_true qy0
    have q5:(Aa:Int) < ((Ae.length:Int):Int):=of_decide_eq_true qy0
    obtain⟨Ah,Bd,Al,Am,Ay,Be,Ao⟩:=Kd.R_form Ab.out (by omega)
    (first|cases Al|(injection Al with ea_ en_ ec_;(first|subst ea_|(injection ea_ with ea_;subst ea_));subst ec_;clear en_))
    have Az:=y0.mk Am
    have Bf:=y0.mk Ao
    clear Am Ay Ao
    have Ap:=y0.mk (show(P0_ Ah∨w.heap.size≤Ah)from(Ab.out.1 _ rfl))
    obtain⟨Aq,Ar⟩:=Kd.R_celln 0 Ab.out (Aa:Int) p5 q5
    replace p5:=eq_true p5
    replace q5:=eq_true q5
    have Aj:=Kd.R_putg Ab.out (Aa:Int) Ac
    go_wp2_with (first|((with_reducible refine gate_store (t:=3) (p:=15) rfl ?_);refine store_event (t:=3) (p:=15) (v:=?vo_w8) (w1:=(wr.setCell ⟨Ah,(Aa:Int).toNat,none⟩ (.int .i64 Ac))) ?hg ?ho ?hn ?hr ?_;(case ho=>rfl);(case hg=>rfl);(case hn=>rfl);(case hr=>first|(go_simp;done)|(go_simp;rfl));intro w8 hw;have hg:wr.grownBy w8 (some Ah):=(by rw [hw];exact Aj.2);have hp_:Kd.R (Kd.int .i64) 3 w8 w0.heap.size (fun k_=>(P0_ k_∨w.heap.size≤k_)) (.slice (some ⟨Ah,0,none⟩) Ae.length Av) Af:=(by rw [hw,Ag.out];exact Aj.1);clear Aj;replace HB:=y0.mk ((by rw [hw];exact below_set (HB.out) Az.out:Below w0.heap.size w0 w8));replace HK:=y0.mk (Kept.of_grown (S:=(fun k_=>P0_ k_)) hg (by repeat(first|(with_reducible first|exact HK.out|apply Kept.alloc|apply Kept.drewN|apply Kept.drew)|exact HK.out)) (fun k_ e_=>(Ab.out.1 k_ e_)));replace Ab:=y0.mk (hp_);clear hg hw hp_))
    go_roundg k1
    case measure=>have:=Ak.out;omega
    exact⟨(Af),(wrap64 (Ac + 1)),(wrap64 (Aa + 1)),qy2,qy2,H',⟨by have:=Ak.out;omega⟩,⟨qR Ab.out⟩,⟨by repeat(first|(with_reducible first|exact HK.out|apply Kept.alloc|apply Kept.drewN|apply Kept.drew)|exact HK.out)⟩,⟨qb⟩⟩
   ·rw [if_neg c3]at H
    have Ai:=decide_eq_false c3
    clear c3
    simp only [Option.some.injEq,Prod.mk.injEq]at H
    obtain⟨rfl,rfl⟩:=H
    obtain⟨Bg,Bh,Ba⟩:=Kd.R_slice Ab.out
    subst Ba
    go_wp2
    go_ret
    exact⟨qf,by(with_reducible repeat(first|apply Kd.R_alloc|apply Kd.R_drewN|apply Kd.R_drew));exact Ab.out,qb,by repeat(first|(with_reducible first|exact HK.out|apply Kept.alloc|apply Kept.drewN|apply Kept.drew)|exact HK.out)⟩
def laws_markText.l0:Nat→Int→ByteArray→Option (ByteArray)
 | 0,_,_=>none
 | k + 1,x0,x3=>if x0 > 0 then((some (([(wrap64 (48 + (Int.tmod x0 10))) % 256]:List Int):List Int)).bind fun y420=>(if(strOfNums y420).size + x3.size≤9223372036854775807 then(laws_markText.l0 k (wrap64 (Int.tdiv x0 10)) ((strOfNums y420) ++ x3))else(none)))else(if 1 + x3.size≤9223372036854775807 then(some ((⟨#[109]⟩:ByteArray) ++ x3))else(none))
def laws_markText.f (k:Nat) (a0:Int):Option (ByteArray):=if a0≤0 then(some (⟨#[109,48]⟩:ByteArray))else(laws_markText.l0 k a0 (⟨#[]⟩:ByteArray))
set_option maxHeartbeats 8000000 in
set_option maxRecDepth 100000 in
theorem laws_markText.calls (k:Nat) (a0:Int) (r:ByteArray) (w:World) (h:laws_markText.f k a0=some r) :
  Calls Try.prog 37 #[.int .i64 a0] w fun e w'=>e=.returned (.string r)∧Below w.heap.size w w':=by
 have HB:=y0.mk (Below.refl w.heap.size w)
 have H:(if a0≤0 then(some (⟨#[109,48]⟩:ByteArray))else(laws_markText.l0 k a0 (⟨#[]⟩:ByteArray)))=some r:=h
 clear h
 by_cases c2:a0≤0
 ·rw [if_pos c2]at H
  have Af:=decide_eq_true c2
  clear c2
  obtain rfl:=Option.some.inj H
  go_enter Try.func37,Try.ntmps37
  go_wp2
  go_ret
  exact⟨qf,qb⟩
 ·rw [if_neg c2]at H
  have Af:=decide_eq_false c2
  clear c2
  have H':=y0.mk H
  clear H
  go_enter Try.func37,Try.ntmps37
  go_wp2
  go_loopg [0,3] k (fun kq v0 v3 w'=>∃(Aa:Int) (Ac:ByteArray),v0=.int .i64 Aa∧v3=.string Ac∧y0 (laws_markText.l0 kq Aa Ac=some r)∧y0 (kq≤k)∧y0 (Below w.heap.size w w'))
  case atStart=>exact⟨(a0),((⟨#[]⟩:ByteArray)),qy2,qy2,H',⟨Nat.le_refl _⟩,⟨qb⟩⟩
  case round =>
   clear H'
   (try clear Af)
   obtain⟨Aa,Ac,rfl,rfl,HA,Aj,HB⟩:=hrel
   cases gk with
   | zero=>exact absurd HA.out (by simp [laws_markText.l0])
   | succ k1 =>
    have H:=HA.out
    clear HA
    simp only [laws_markText.l0]at H
    by_cases c3:Aa > 0
    ·rw [if_pos c3]at H
     have Ai:decide (0 < Aa)=true:=decide_eq_true c3
     clear c3
     obtain⟨Ae,Ab⟩:∃ y_:List Int,y_=(([(wrap64 (48 + (Int.tmod Aa 10))) % 256]:List Int)):=⟨_,rfl⟩
     replace H:(if(strOfNums Ae).size + Ac.size≤9223372036854775807 then(laws_markText.l0 k1 (wrap64 (Int.tdiv Aa 10)) ((strOfNums Ae) ++ Ac))else(none))=some r:=by first|(rw [Ab];with_reducible exact H)|(have H2_:=(Option.bind_some _ _).symm.trans H;rw [Ab];with_reducible exact H2_)|(have H2_:=(Option.bind_some _ _).symm.trans H;with_reducible exact H2_)|with_reducible exact H|(rw [Ab];exact H)|exact H
     have Ad:=y0.mk Ab
     clear Ab
     obtain⟨c4,H⟩:=qo H
     have Ak:=eq_true c4
     have Al:=decide_eq_true c4
     have Am:=eq_false (Nat.not_lt.2 c4)
     have H':=y0.mk H
     clear H
     go_wp2_with (first|((with_reducible refine y14 (N:=12) rfl ?_);refine qL (Kd.int .u8) 5 12 ([(wrap64 (48 + (Int.tmod Aa 10))) % 256]:List Int) ?_;intro Ao w5 Ag hb hg_ hnew_;clear hg_ hnew_;(first|rw [← Ad.out]at Ag|(simp only [Int.reduceToNat]at Ag;rw [← Ad.out]at Ag));have Ah:=y0.mk (Kd.R_lower Ag (y2 qb));replace HB:=y0.mk (y3 qb hb);clear hb Ag;have Ap:=own_string (P:=Try.prog) Try.underlying82 Try.underlying5 Try.underlying9 (Kd.own_of_R Ah.out)))
     go_roundg k1
     case measure=>have:=Aj.out;omega
     exact⟨(wrap64 (Int.tdiv Aa 10)),((strOfNums Ae) ++ Ac),qy2,qy2,H',⟨by have:=Aj.out;omega⟩,⟨qb⟩⟩
    ·rw [if_neg c3]at H
     have Ai:decide (0 < Aa)=false:=decide_eq_false c3
     clear c3
     obtain⟨c8,H⟩:=qo H
     have Aq:=eq_true c8
     have Ar:=decide_eq_true c8
     have As:=eq_false (Nat.not_lt.2 c8)
     obtain rfl:=Option.some.inj H
     go_wp2
     go_ret
     exact⟨qf,qb⟩
def laws_markExpS.l0:Nat→List (S63)→Int→Int→Option (Int×List (S63))
 | 0,_,_,_=>none
 | k + 1,x0,x1,x5=>if x5 < (x0.length:Int)then(if 0≤x5 then((laws_markText.f k (wrap64 (x1 + 1))).bind fun t=>(laws_markIntS.f k (y17 x0 x5).f2 (wrap64 (wrap64 (x1 + 1) + 1))).bind fun bt=>laws_markExpS.l0 k (x0.set x5.toNat (⟨x1,t,bt.2⟩:S63)) bt.1 (wrap64 (x5 + 1)))else none)else some (x1,x0)
def laws_markExpS.f (k:Nat) (l0:List (S63)) (a1:Int):Option (Int×List (S63)):=laws_markExpS.l0 k l0 a1 0
theorem laws_markExpS.put0 {w:World} {base:Nat} {ok:Nat→Prop} {x:S63} {c:List Value} (v:Int) (h:k63.M w base ok x c):k63.M w base ok (⟨v,x.f1,x.f2⟩:S63) (c.take 0 ++ [.int .i64 v] ++ c.drop (0 + 1)):=by
 obtain⟨u,rfl,hR⟩:=k63_openM h
 exact k63_mkM _ _ _ (⟨v,x.f1,x.f2⟩:S63) hR
theorem laws_markExpS.put1 {w:World} {base:Nat} {ok:Nat→Prop} {x:S63} {c:List Value} (v:ByteArray) (h:k63.M w base ok x c):k63.M w base ok (⟨x.f0,v,x.f2⟩:S63) (c.take 1 ++ [.string v] ++ c.drop (1 + 1)):=by
 obtain⟨u,rfl,hR⟩:=k63_openM h
 exact k63_mkM _ _ _ (⟨x.f0,v,x.f2⟩:S63) hR
theorem laws_markExpS.get {x0:List (S63)} {i:Int} {n:Nat} (h0:0≤i) (h1:i < n) (hn:n=x0.length) (y:S63):(x0.set i.toNat y).getD i.toNat z63=y:=by
 have:i.toNat < x0.length:=by omega
 simp [List.getD,this]
set_option maxHeartbeats 8000000 in
set_option maxRecDepth 100000 in
theorem laws_markExpS.calls (k:Nat) (lo hi:Nat) (A0:Option Addr) (c0:Nat) (l0:List (S63)) (a1:Int) (r1:Int) (r2:List (S63)) (w0 w:World) (hB:Below w0.heap.size w0 w) (hlo:w0.heap.size≤lo) (ho:QIv.OS k63 63 lo hi (.slice A0 l0.length c0) l0 w) (h:laws_markExpS.f k l0 a1=some (r1,r2)) :
  Calls Try.prog 34 #[.slice A0 l0.length c0,.int .i64 a1] w fun e w'=>e=.returned (.int .i64 r1)∧QIv.OS k63 63 lo hi (.slice A0 l0.length c0) r2 w'∧Below w0.heap.size w0 w'∧QIv.KI lo hi w w':=by
 have hu:=Try.underlying63
 have HO:=y0.mk ho
 have HB:=y0.mk hB
 have HL:=y0.mk hlo
 have HK:y0 (QIv.KI lo hi w w):=⟨Kept.refl w _⟩
 have H':y0 (laws_markExpS.l0 k l0 a1 0=some (r1,r2)):=⟨h⟩
 clear ho hB hlo h
 go_enter Try.func34,Try.ntmps34
 go_wp2
 go_loopg [1,5] k (fun kq v1 v5 w'=>∃(x0:List (S63)) (x1 x5:Int),v1=.int .i64 x1∧v5=.int .i64 x5∧y0 (laws_markExpS.l0 kq x0 x1 x5=some (r1,r2))∧y0 (kq≤k)∧y0 (QIv.OS k63 63 lo hi (.slice A0 l0.length c0) x0 w')∧y0 (QIv.KI lo hi w w')∧y0 (Below w0.heap.size w0 w'))
 case atStart=>exact⟨l0,a1,0,rfl,rfl,H',⟨Nat.le_refl _⟩,HO,HK,HB⟩
 case round =>
  clear H'
  obtain⟨x0,x1,x5,rfl,rfl,HA,Ad,HO,HK,HB⟩:=hrel
  have hln:l0.length=x0.length:=(Kd.S_reads' HO.out).1
  cases gk with
  | zero=>exact absurd HA.out (by simp [laws_markExpS.l0])
  | succ k1 =>
   have H:=HA.out
   clear HA
   simp only [laws_markExpS.l0]at H
   by_cases c3:x5 < (x0.length:Int)
   ·rw [if_pos c3]at H
    have c3l:x5 < (l0.length:Int):=by omega
    have c3b:decide (x5 < (l0.length:Int))=true:=decide_eq_true c3l
    by_cases c4:0≤x5
    ·rw [if_pos c4]at H
     obtain⟨t,A2,H⟩:=Option.bind_eq_some_iff.mp H
     obtain⟨⟨t1,t2⟩,A3,H⟩:=Option.bind_eq_some_iff.mp H
     have H':y0 (laws_markExpS.l0 k1 (x0.set x5.toNat (⟨x1,t,t2⟩:S63)) t1 (wrap64 (x5 + 1))=some (r1,r2)):=⟨H⟩
     clear H
     have A2:=y0.mk A2
     have A3:=y0.mk A3
     obtain⟨ad,Ax,cx,e,Ab,Ac,Aa,hle,hCi⟩:=at_T63 HO.out.C x5 c4 c3
     cases e
     obtain⟨g,had⟩:=Kd.R_head (Kd.S_R HO.out)
     have hgo:lo≤g∧g < hi:=by
      have:=HO.out
      rw [had]at this
      exact QIv.OS.own this
     have hsz:k63.sz=3:=rfl
     have Ae:wr.frozen? (ad.add (x5.toNat * 3))=false:=by
      have:=HO.out
      rw [had]at this ⊢
      rw [add_at]
      exact QIv.OS.frozen this _
     have hHad:=y0.mk had
     have hHgo:=y0.mk hgo
     have HFR:y0 (∀(W:World) (xs:List (S63)) (m o:Nat),QIv.OS k63 63 lo hi (.slice (some ad) l0.length c0) xs W→W.frozen? ⟨(ad.add m).block,(ad.add m).off + o,none⟩=false):=by
      refine⟨fun W xs m o h=>?_⟩
      rw [hHad.out]at h ⊢
      rw [add_at]
      exact QIv.OS.frozen h _
     have hHln:=y0.mk hln
     have p5:=eq_true c4
     have q5:=eq_true c3l
     have P5:=y0.mk c4
     have Q5:=y0.mk c3l
     have C3:=y0.mk c3
     clear Ac Aa hle hCi c3 c4 c3l hln had hgo hsz
     go_upto_region 5 with fail
     have n0_:y0 (QIv.OS k63 63 lo hi (.slice (some ad) l0.length c0) (x0.set x5.toNat (⟨x1,(y17 x0 x5).f1,(y17 x0 x5).f2⟩:S63)) (wr.setCell (ad.add (x5.toNat * 3)) (.int .i64 x1))):=by
      have h1:=HO.out
      rw [hHad.out]at h1 ⊢
      rw [add_at,Nat.zero_add]
      exact⟨QIv.OS.put (j:=0) h1 z63 P5.out Q5.out (by show 0 + 1≤3;omega) rfl (fun _ _ _ _ h=>laws_markExpS.put0 x1 h)⟩
     have n1_:y0 (QIv.KI lo hi w (wr.setCell (ad.add (x5.toNat * 3)) (.int .i64 x1))):=⟨QIv.KI.put HK.out (by rw [add_block,hHad.out];exact hHgo.out)⟩
     have n2_:y0 (Below w0.heap.size w0 (wr.setCell (ad.add (x5.toNat * 3)) (.int .i64 x1))):=⟨HB.out.setCell (by rw [add_block,hHad.out];exact Nat.le_trans HL.out hHgo.out.1) _⟩
     clear HO HK HB Ab Ae
     generalize wr.setCell (ad.add (x5.toNat * 3)) (.int .i64 x1)=wA at n0_ n1_ n2_ ⊢
     have HO:=n0_
     have HK:=n1_
     have HB:=n2_
     clear n0_ n1_ n2_
     go_upto_region 7 with(first|(go_at_call 37;(with_reducible refine(laws_markText.calls k1 (wrap64 (x1 + 1)) t _ A2.out).mono ?_);rintro e w5 ⟨rfl,hb⟩;replace HO:=y0.mk (HO.out.below hb);replace HK:=y0.mk (QIv.ki_below HK.out hb);replace HB:=y0.mk (y3 HB.out hb);clear hb;obtain⟨Ag,Ah,Ai,e2,Ab,Ac,Aa,hle,hCi⟩:=at_T63 HO.out.C x5 P5.out (by rw [List.length_set];exact C3.out);injection e2 with e2;subst e2;have Af:=HFR.out _ _ (x5.toNat * 3) 1 HO.out;clear Ab Aa hle hCi))
     have n0_:y0 (QIv.OS k63 63 lo hi (.slice (some ad) l0.length c0) (x0.set x5.toNat (⟨x1,t,(y17 x0 x5).f2⟩:S63)) (w5.setCell ⟨(ad.add (x5.toNat * 3)).block,(ad.add (x5.toNat * 3)).off + 1,none⟩ (.string t))):=by
      have h1:=HO.out
      rw [hHad.out]at h1 ⊢
      rw [add_at]
      have h2:=QIv.OS.put (j:=1) (u:=.string t) (x':=(⟨x1,t,(y17 x0 x5).f2⟩:S63)) h1 z63 P5.out Q5.out (by show 1 + 1≤3;omega) rfl (fun _ _ _ _ h=>by rw [laws_markExpS.get P5.out Q5.out hHln.out]at h;exact laws_markExpS.put1 t h)
      rw [List.set_set]at h2
      rw [Nat.zero_add]
      exact⟨h2⟩
     have n1_:y0 (QIv.KI lo hi w (w5.setCell ⟨(ad.add (x5.toNat * 3)).block,(ad.add (x5.toNat * 3)).off + 1,none⟩ (.string t))):=⟨QIv.KI.put HK.out (by show lo≤(ad.add _).block∧(ad.add _).block < hi;rw [add_block,hHad.out];exact hHgo.out)⟩
     have n2_:y0 (Below w0.heap.size w0 (w5.setCell ⟨(ad.add (x5.toNat * 3)).block,(ad.add (x5.toNat * 3)).off + 1,none⟩ (.string t))):=⟨HB.out.setCell (by show _≤(ad.add _).block;rw [add_block,hHad.out];exact Nat.le_trans HL.out hHgo.out.1) _⟩
     clear HO HK HB Ac Af
     generalize w5.setCell ⟨(ad.add (x5.toNat * 3)).block,(ad.add (x5.toNat * 3)).off + 1,none⟩ (.string t)=wB at n0_ n1_ n2_ ⊢
     have HO:=n0_
     have HK:=n1_
     have HB:=n2_
     clear n0_ n1_ n2_
     obtain⟨oki,u,hR,hcc,hback⟩:=QIv.OS.lent (dk:=Kd.int .i64) (ek:=3) (w0:=w0) (lo:=lo) rfl (fun _ _ _ _ h=>h) (by have h1:=HO.out;rw [hHad.out]at h1;exact h1) HL.out z63 P5.out Q5.out (fun x:S63=>x.f2) (fun x ys=>(⟨x.f0,x.f1,ys⟩:S63)) (fun x u=>[.int .i64 x.f0,.string x.f1,u]) (fun h=>k63_openM h) (fun _ _ _ x ys _ h=>k63_mkM _ _ _ (⟨x.f0,x.f1,ys⟩:S63) h)
     rw [laws_markExpS.get P5.out Q5.out hHln.out]at hR hcc
     have Aa:wB.cell? ⟨(ad.add (x5.toNat * 3)).block,(ad.add (x5.toNat * 3)).off + 2,none⟩=some u:=by
      rw [hHad.out,add_at,Nat.zero_add]
      exact hcc 2 u rfl
     have HR:=y0.mk hR
     have HBK:y0 (∀(w5:World) (ys:List Int),Kd.R (Kd.int .i64) 3 w5 w0.heap.size (fun k_=>oki k_∨wB.heap.size≤k_) u ys→Kept wB w5 (fun k_=>oki k_)→QIv.OS k63 63 lo hi (.slice (some ad) l0.length c0) (x0.set x5.toNat (⟨x1,t,ys⟩:S63)) w5∧QIv.KI lo hi wB w5):=by
      refine⟨fun w5 ys h1 h2=>?_⟩
      have h3:=hback w5 ys h1 h2
      rw [laws_markExpS.get P5.out Q5.out hHln.out,List.set_set,← hHad.out]at h3
      exact h3
     clear hback hcc hR HO
     go_wp2_with (first|(go_at_call 57;(with_reducible refine(laws_markIntS.calls k1 (fun k_=>oki k_) u _ _ t1 t2 w0 _ HB.out HR.out A3.out).mono ?_);rintro e w6 ⟨rfl,hy,hb,hkp⟩;have n0_:=y0.mk (HBK.out w6 t2 hy hkp).1;have n1_:=y0.mk (QIv.ki_trans HK.out (HBK.out w6 t2 hy hkp).2);have n2_:=y0.mk hb;clear HK HB HBK HR hy hb hkp Aa;have HO:=n0_;have HK:=n1_;have HB:=n2_;clear n0_ n1_ n2_))
     go_roundg k1
     case measure=>have:=Ad.out;omega
     exact⟨_,t1,wrap64 (x5 + 1),rfl,qy2,H',⟨by have:=Ad.out;omega⟩,HO,HK,HB⟩
    ·rw [if_neg c4]at H
     cases H
   ·rw [if_neg c3]at H
    have c3b:decide (x5 < (l0.length:Int))=false:=decide_eq_false (by omega)
    clear hln
    injection H with H
    obtain⟨rfl,rfl⟩:=Prod.mk.inj H
    go_wp2
    go_ret
    exact⟨by first|rfl|(simp [y10,y11] <;> rfl),HO.out,HB.out,HK.out⟩
def laws_markLit.f (k:Nat) (a0_0:Int) (a0_1:ByteArray) (l0_2:List Int) (a1:Int):Option (Int×List Int):=(laws_markIntS.f k l0_2 a1).bind fun bt424=>(some (bt424.1,bt424.2))
set_option maxHeartbeats 8000000 in
set_option maxRecDepth 100000 in
theorem laws_markLit.calls (k:Nat) (Ag:Int) (Ah:ByteArray) (P0_2_:Nat→Prop) (u9000_:Value) (Ab:List Int) (a1:Int) (r1:Int) (r2:List Int) (w0 w:World) (hB:Below w0.heap.size w0 w) (Ai:Kd.R (Kd.int .i64) 3 w w0.heap.size P0_2_ u9000_ Ab) (h:laws_markLit.f k Ag Ah Ab a1=some (r1,r2)) :
  Calls Try.prog 35 #[.agg #[.int .i64 Ag,.string Ah,u9000_],.int .i64 a1] w fun e w'=>e=.returned (.int .i64 r1)∧Kd.R (Kd.int .i64) 3 w' w0.heap.size (fun k_=>(P0_2_ k_∨w.heap.size≤k_)) u9000_ r2∧Below w0.heap.size w0 w'∧Kept w w' (fun k_=>P0_2_ k_):=by
 have Aw:=Try.underlying33
 have Aa:=y0.mk (show Kd.R (Kd.int .i64) 3 w w0.heap.size (fun k_=>(P0_2_ k_∨w.heap.size≤k_)) u9000_ Ab from Kd.R_mono Ai (fun k_ hk=>(.inl hk)))
 have HK:=y0.mk (Kept.refl w (fun k_=>P0_2_ k_))
 have Az:=y0.mk hB.size
 have HB:=y0.mk hB
 clear hB
 have H:((laws_markIntS.f k Ab a1).bind fun Ad=>(some (Ad.1,Ad.2)))=some (r1,r2):=h
 clear h
 obtain⟨⟨Aj,Ak⟩,A3,H⟩:=qB H
 replace H:(some (Aj,Ak))=some (r1,r2):=H
 simp only [Option.some.injEq,Prod.mk.injEq]at H
 obtain⟨rfl,rfl⟩:=H
 obtain⟨Am,Ao,Ay⟩:=Kd.R_slice Aa.out
 subst Ay
 go_enter Try.func35,Try.ntmps35
 go_wp2_with (first|((with_reducible refine y14 (N:=2) rfl ?_);refine qe 2 #[.int .i64 Ag,.string Ah,.slice Am Ab.length Ao] 33 ?_;intro Ae hg w5 hbox hb;replace Aa:=y0.mk (Kd.R_below (qR Aa.out) hb);have Ac:=y0.mk (hbox);have Af:=y0.mk ((by rw [hg];exact(by first|exact HK.out.1|exact(show Kept w _ (fun k_=>P0_2_ k_)from by repeat(first|(with_reducible first|exact HK.out|apply Kept.alloc|apply Kept.drewN|apply Kept.drew)|exact HK.out)).1):w.heap.size≤Ae));replace HK:=y0.mk (Kept.below (S:=(fun k_=>P0_2_ k_)) (by repeat(first|(with_reducible first|exact HK.out|apply Kept.alloc|apply Kept.drewN|apply Kept.drew)|exact HK.out)) hb);have Al:=y0.mk ((by rw [hg];exact(y2 qb):w0.heap.size≤Ae));replace HB:=y0.mk (y3 qb hb);clear hb hbox hg;obtain⟨Ap,Aq,Ar,As,At,Au⟩:=qz3 Ac.out)|((with_reducible refine y13 (f:=57) rfl ?_);refine y15 (some 8) rfl rfl Try.func57 (by kernel_rfl) rfl #[.slice Am Ab.length Ao,.int .i64 a1] rfl qy1 ?_;(with_reducible refine(laws_markIntS.calls k (fun k_=>some k_=(.slice Am Ab.length Ao:Value).ownBlock) (.slice Am Ab.length Ao) Ab a1 Aj Ak w0 _ (by repeat(first|(with_reducible first|exact HB.out|apply below_alloc|apply pw_below_drewN|apply below_drew1|refine below_set ?_ Al.out)|exact HB.out)) (by exact Kd.R_tight rfl Aa.out) A3.out).mono ?_);rintro e w7 ⟨rfl,Av,hb,hkp⟩;refine⟨_,rfl, ?_⟩;replace Ac:=y0.mk (blk_kept (qk Ac.out) hkp (fun hs_=>(fun e_=>(Kd.R_ne Aa.out Ac.out (by decide)) e_) hs_));replace HK:=y0.mk (Kept.then_ (S:=(fun k_=>P0_2_ k_)) (by repeat(first|(with_reducible first|exact HK.out|apply Kept.alloc|apply Kept.drewN|apply Kept.drew|refine Kept.setCell ?_ (.inr Af.out) _)|exact HK.out)) hkp (fun k_ hs_=>(fun e_=>(Aa.out.1 k_ e_.symm)) hs_));replace Aa:=y0.mk (Kd.R_reok rfl Av (fun k_ e_=>Aa.out.1 k_ e_));replace HB:=y0.mk (hb);(try clear hb);(try clear hkp);(try clear Av)))
 go_ret
 exact⟨qf,by(with_reducible repeat(first|apply Kd.R_alloc|apply Kd.R_drewN|apply Kd.R_drew));exact Aa.out,qb,by repeat(first|(with_reducible first|exact HK.out|apply Kept.alloc|apply Kept.drewN|apply Kept.drew|refine Kept.setCell ?_ (.inr Af.out) _)|exact HK.out)⟩
def laws_markLitS.l0:Nat→List (S33)→Int→Int→Option (Int×List (S33))
 | 0,_,_,_=>none
 | k + 1,x0,x1,x5=>if x5 < (x0.length:Int)then(if 0≤x5 then((laws_markText.f k (wrap64 (x1 + 1))).bind fun t=>(laws_markIntS.f k (y16 x0 x5).f2 (wrap64 (wrap64 (x1 + 1) + 1))).bind fun bt=>laws_markLitS.l0 k (x0.set x5.toNat (⟨x1,t,bt.2⟩:S33)) bt.1 (wrap64 (x5 + 1)))else none)else some (x1,x0)
def laws_markLitS.f (k:Nat) (l0:List (S33)) (a1:Int):Option (Int×List (S33)):=laws_markLitS.l0 k l0 a1 0
theorem laws_markLitS.put0 {w:World} {base:Nat} {ok:Nat→Prop} {x:S33} {c:List Value} (v:Int) (h:k33.M w base ok x c):k33.M w base ok (⟨v,x.f1,x.f2⟩:S33) (c.take 0 ++ [.int .i64 v] ++ c.drop (0 + 1)):=by
 obtain⟨u,rfl,hR⟩:=k33_openM h
 exact k33_mkM _ _ _ (⟨v,x.f1,x.f2⟩:S33) hR
theorem laws_markLitS.put1 {w:World} {base:Nat} {ok:Nat→Prop} {x:S33} {c:List Value} (v:ByteArray) (h:k33.M w base ok x c):k33.M w base ok (⟨x.f0,v,x.f2⟩:S33) (c.take 1 ++ [.string v] ++ c.drop (1 + 1)):=by
 obtain⟨u,rfl,hR⟩:=k33_openM h
 exact k33_mkM _ _ _ (⟨x.f0,v,x.f2⟩:S33) hR
theorem laws_markLitS.get {x0:List (S33)} {i:Int} {n:Nat} (h0:0≤i) (h1:i < n) (hn:n=x0.length) (y:S33):(x0.set i.toNat y).getD i.toNat z33=y:=by
 have:i.toNat < x0.length:=by omega
 simp [List.getD,this]
set_option maxHeartbeats 8000000 in
set_option maxRecDepth 100000 in
theorem laws_markLitS.calls (k:Nat) (lo hi:Nat) (A0:Option Addr) (c0:Nat) (l0:List (S33)) (a1:Int) (r1:Int) (r2:List (S33)) (w0 w:World) (hB:Below w0.heap.size w0 w) (hlo:w0.heap.size≤lo) (ho:QIv.OS k33 33 lo hi (.slice A0 l0.length c0) l0 w) (h:laws_markLitS.f k l0 a1=some (r1,r2)) :
  Calls Try.prog 36 #[.slice A0 l0.length c0,.int .i64 a1] w fun e w'=>e=.returned (.int .i64 r1)∧QIv.OS k33 33 lo hi (.slice A0 l0.length c0) r2 w'∧Below w0.heap.size w0 w'∧QIv.KI lo hi w w':=by
 have hu:=Try.underlying33
 have HO:=y0.mk ho
 have HB:=y0.mk hB
 have HL:=y0.mk hlo
 have HK:y0 (QIv.KI lo hi w w):=⟨Kept.refl w _⟩
 have H':y0 (laws_markLitS.l0 k l0 a1 0=some (r1,r2)):=⟨h⟩
 clear ho hB hlo h
 go_enter Try.func36,Try.ntmps36
 go_wp2
 go_loopg [1,5] k (fun kq v1 v5 w'=>∃(x0:List (S33)) (x1 x5:Int),v1=.int .i64 x1∧v5=.int .i64 x5∧y0 (laws_markLitS.l0 kq x0 x1 x5=some (r1,r2))∧y0 (kq≤k)∧y0 (QIv.OS k33 33 lo hi (.slice A0 l0.length c0) x0 w')∧y0 (QIv.KI lo hi w w')∧y0 (Below w0.heap.size w0 w'))
 case atStart=>exact⟨l0,a1,0,rfl,rfl,H',⟨Nat.le_refl _⟩,HO,HK,HB⟩
 case round =>
  clear H'
  obtain⟨x0,x1,x5,rfl,rfl,HA,Ad,HO,HK,HB⟩:=hrel
  have hln:l0.length=x0.length:=(Kd.S_reads' HO.out).1
  cases gk with
  | zero=>exact absurd HA.out (by simp [laws_markLitS.l0])
  | succ k1 =>
   have H:=HA.out
   clear HA
   simp only [laws_markLitS.l0]at H
   by_cases c3:x5 < (x0.length:Int)
   ·rw [if_pos c3]at H
    have c3l:x5 < (l0.length:Int):=by omega
    have c3b:decide (x5 < (l0.length:Int))=true:=decide_eq_true c3l
    by_cases c4:0≤x5
    ·rw [if_pos c4]at H
     obtain⟨t,A2,H⟩:=Option.bind_eq_some_iff.mp H
     obtain⟨⟨t1,t2⟩,A3,H⟩:=Option.bind_eq_some_iff.mp H
     have H':y0 (laws_markLitS.l0 k1 (x0.set x5.toNat (⟨x1,t,t2⟩:S33)) t1 (wrap64 (x5 + 1))=some (r1,r2)):=⟨H⟩
     clear H
     have A2:=y0.mk A2
     have A3:=y0.mk A3
     obtain⟨ad,Ax,cx,e,Ab,Ac,Aa,hle,hCi⟩:=at_T33 HO.out.C x5 c4 c3
     cases e
     obtain⟨g,had⟩:=Kd.R_head (Kd.S_R HO.out)
     have hgo:lo≤g∧g < hi:=by
      have:=HO.out
      rw [had]at this
      exact QIv.OS.own this
     have hsz:k33.sz=3:=rfl
     have Ae:wr.frozen? (ad.add (x5.toNat * 3))=false:=by
      have:=HO.out
      rw [had]at this ⊢
      rw [add_at]
      exact QIv.OS.frozen this _
     have hHad:=y0.mk had
     have hHgo:=y0.mk hgo
     have HFR:y0 (∀(W:World) (xs:List (S33)) (m o:Nat),QIv.OS k33 33 lo hi (.slice (some ad) l0.length c0) xs W→W.frozen? ⟨(ad.add m).block,(ad.add m).off + o,none⟩=false):=by
      refine⟨fun W xs m o h=>?_⟩
      rw [hHad.out]at h ⊢
      rw [add_at]
      exact QIv.OS.frozen h _
     have hHln:=y0.mk hln
     have p5:=eq_true c4
     have q5:=eq_true c3l
     have P5:=y0.mk c4
     have Q5:=y0.mk c3l
     have C3:=y0.mk c3
     clear Ac Aa hle hCi c3 c4 c3l hln had hgo hsz
     go_upto_region 5 with fail
     have n0_:y0 (QIv.OS k33 33 lo hi (.slice (some ad) l0.length c0) (x0.set x5.toNat (⟨x1,(y16 x0 x5).f1,(y16 x0 x5).f2⟩:S33)) (wr.setCell (ad.add (x5.toNat * 3)) (.int .i64 x1))):=by
      have h1:=HO.out
      rw [hHad.out]at h1 ⊢
      rw [add_at,Nat.zero_add]
      exact⟨QIv.OS.put (j:=0) h1 z33 P5.out Q5.out (by show 0 + 1≤3;omega) rfl (fun _ _ _ _ h=>laws_markLitS.put0 x1 h)⟩
     have n1_:y0 (QIv.KI lo hi w (wr.setCell (ad.add (x5.toNat * 3)) (.int .i64 x1))):=⟨QIv.KI.put HK.out (by rw [add_block,hHad.out];exact hHgo.out)⟩
     have n2_:y0 (Below w0.heap.size w0 (wr.setCell (ad.add (x5.toNat * 3)) (.int .i64 x1))):=⟨HB.out.setCell (by rw [add_block,hHad.out];exact Nat.le_trans HL.out hHgo.out.1) _⟩
     clear HO HK HB Ab Ae
     generalize wr.setCell (ad.add (x5.toNat * 3)) (.int .i64 x1)=wA at n0_ n1_ n2_ ⊢
     have HO:=n0_
     have HK:=n1_
     have HB:=n2_
     clear n0_ n1_ n2_
     go_upto_region 7 with(first|(go_at_call 37;(with_reducible refine(laws_markText.calls k1 (wrap64 (x1 + 1)) t _ A2.out).mono ?_);rintro e w5 ⟨rfl,hb⟩;replace HO:=y0.mk (HO.out.below hb);replace HK:=y0.mk (QIv.ki_below HK.out hb);replace HB:=y0.mk (y3 HB.out hb);clear hb;obtain⟨Ag,Ah,Ai,e2,Ab,Ac,Aa,hle,hCi⟩:=at_T33 HO.out.C x5 P5.out (by rw [List.length_set];exact C3.out);injection e2 with e2;subst e2;have Af:=HFR.out _ _ (x5.toNat * 3) 1 HO.out;clear Ab Aa hle hCi))
     have n0_:y0 (QIv.OS k33 33 lo hi (.slice (some ad) l0.length c0) (x0.set x5.toNat (⟨x1,t,(y16 x0 x5).f2⟩:S33)) (w5.setCell ⟨(ad.add (x5.toNat * 3)).block,(ad.add (x5.toNat * 3)).off + 1,none⟩ (.string t))):=by
      have h1:=HO.out
      rw [hHad.out]at h1 ⊢
      rw [add_at]
      have h2:=QIv.OS.put (j:=1) (u:=.string t) (x':=(⟨x1,t,(y16 x0 x5).f2⟩:S33)) h1 z33 P5.out Q5.out (by show 1 + 1≤3;omega) rfl (fun _ _ _ _ h=>by rw [laws_markLitS.get P5.out Q5.out hHln.out]at h;exact laws_markLitS.put1 t h)
      rw [List.set_set]at h2
      rw [Nat.zero_add]
      exact⟨h2⟩
     have n1_:y0 (QIv.KI lo hi w (w5.setCell ⟨(ad.add (x5.toNat * 3)).block,(ad.add (x5.toNat * 3)).off + 1,none⟩ (.string t))):=⟨QIv.KI.put HK.out (by show lo≤(ad.add _).block∧(ad.add _).block < hi;rw [add_block,hHad.out];exact hHgo.out)⟩
     have n2_:y0 (Below w0.heap.size w0 (w5.setCell ⟨(ad.add (x5.toNat * 3)).block,(ad.add (x5.toNat * 3)).off + 1,none⟩ (.string t))):=⟨HB.out.setCell (by show _≤(ad.add _).block;rw [add_block,hHad.out];exact Nat.le_trans HL.out hHgo.out.1) _⟩
     clear HO HK HB Ac Af
     generalize w5.setCell ⟨(ad.add (x5.toNat * 3)).block,(ad.add (x5.toNat * 3)).off + 1,none⟩ (.string t)=wB at n0_ n1_ n2_ ⊢
     have HO:=n0_
     have HK:=n1_
     have HB:=n2_
     clear n0_ n1_ n2_
     obtain⟨oki,u,hR,hcc,hback⟩:=QIv.OS.lent (dk:=Kd.int .i64) (ek:=3) (w0:=w0) (lo:=lo) rfl (fun _ _ _ _ h=>h) (by have h1:=HO.out;rw [hHad.out]at h1;exact h1) HL.out z33 P5.out Q5.out (fun x:S33=>x.f2) (fun x ys=>(⟨x.f0,x.f1,ys⟩:S33)) (fun x u=>[.int .i64 x.f0,.string x.f1,u]) (fun h=>k33_openM h) (fun _ _ _ x ys _ h=>k33_mkM _ _ _ (⟨x.f0,x.f1,ys⟩:S33) h)
     rw [laws_markLitS.get P5.out Q5.out hHln.out]at hR hcc
     have Aa:wB.cell? ⟨(ad.add (x5.toNat * 3)).block,(ad.add (x5.toNat * 3)).off + 2,none⟩=some u:=by
      rw [hHad.out,add_at,Nat.zero_add]
      exact hcc 2 u rfl
     have HR:=y0.mk hR
     have HBK:y0 (∀(w5:World) (ys:List Int),Kd.R (Kd.int .i64) 3 w5 w0.heap.size (fun k_=>oki k_∨wB.heap.size≤k_) u ys→Kept wB w5 (fun k_=>oki k_)→QIv.OS k33 33 lo hi (.slice (some ad) l0.length c0) (x0.set x5.toNat (⟨x1,t,ys⟩:S33)) w5∧QIv.KI lo hi wB w5):=by
      refine⟨fun w5 ys h1 h2=>?_⟩
      have h3:=hback w5 ys h1 h2
      rw [laws_markLitS.get P5.out Q5.out hHln.out,List.set_set,← hHad.out]at h3
      exact h3
     clear hback hcc hR HO
     go_wp2_with (first|(go_at_call 57;(with_reducible refine(laws_markIntS.calls k1 (fun k_=>oki k_) u _ _ t1 t2 w0 _ HB.out HR.out A3.out).mono ?_);rintro e w6 ⟨rfl,hy,hb,hkp⟩;have n0_:=y0.mk (HBK.out w6 t2 hy hkp).1;have n1_:=y0.mk (QIv.ki_trans HK.out (HBK.out w6 t2 hy hkp).2);have n2_:=y0.mk hb;clear HK HB HBK HR hy hb hkp Aa;have HO:=n0_;have HK:=n1_;have HB:=n2_;clear n0_ n1_ n2_))
     go_roundg k1
     case measure=>have:=Ad.out;omega
     exact⟨_,t1,wrap64 (x5 + 1),rfl,qy2,H',⟨by have:=Ad.out;omega⟩,HO,HK,HB⟩
    ·rw [if_neg c4]at H
     cases H
   ·rw [if_neg c3]at H
    have c3b:decide (x5 < (l0.length:Int))=false:=decide_eq_false (by omega)
    clear hln
    injection H with H
    obtain⟨rfl,rfl⟩:=Prod.mk.inj H
    go_wp2
    go_ret
    exact⟨by first|rfl|(simp [y10,y11] <;> rfl),HO.out,HB.out,HK.out⟩
set_option maxHeartbeats 16000000 in
set_option maxRecDepth 100000 in
/-- laws.toRule, its three rows told by the blocks they lie in. -/
theorem laws_toRule.iv (k:Nat) (A0:Option Addr) (c0:Nat) (l0:List (S69)) (a1:Int) (a2:ByteArray) (A3:Option Addr) (c3:Nat) (l3:List Int) (A4:Option Addr) (c4:Nat) (l4:List (S25)) (r1:List (S63)) (r2:Int) (r3:ByteArray) (r4:List Int) (r5:List (S33)) (w:World) (Bp:Kd.C k69 w A0 l0.length l0) (Bq:l0.length≤c0) (Br:Kd.C (Kd.int .i64) w A3 l3.length l3) (Bs:l3.length≤c3) (Bt:Kd.C k25 w A4 l4.length l4) (Bu:l4.length≤c4) (h:laws_toRule.f k l0 a1 a2 l3 l4=some (r1,r2,r3,r4,r5)) :
  Calls Try.prog 8 #[.agg #[.slice A0 l0.length c0,.int .i64 a1,.string a2,.slice A3 l3.length c3,.slice A4 l4.length c4]] w fun e w'=>∃(v1 v2 v3:Value) (Bj Bk Bl Bm Bn Bo:Nat),e=.returned (.agg #[v1,.int .i64 r2,.string r3,v2,v3])∧QIv.OS k63 63 Bj Bk v1 r1 w'∧QIv.OR (Kd.int .i64) 3 Bl Bm v2 r4 w'∧QIv.OS k33 33 Bn Bo v3 r5 w'∧w.heap.size≤Bj∧Bj≤Bk∧Bk≤Bl∧Bl≤Bm∧Bm≤Bn∧Bn≤Bo∧Bo≤w'.heap.size∧Below w.heap.size w w':=by
 have Cc:=Try.underlying36
 have Cd:=Try.underlying28
 have Ce:=Try.underlying33
 have Cf:=Try.underlying25
 have HB:=y0.mk (Below.refl w.heap.size w)
 unfold laws_toRule.f at h
 obtain⟨x0,E1,h⟩:=Option.bind_eq_some_iff.1 h
 obtain⟨⟨Bh,Bi,Bg⟩,E2,h⟩:=Option.bind_eq_some_iff.1 h
 obtain⟨x4,E3,h⟩:=Option.bind_eq_some_iff.1 h
 simp only [Option.some.injEq,Prod.mk.injEq]at h
 obtain⟨rfl,rfl,rfl,rfl,rfl⟩:=h
 replace E1:=y0.mk E1
 replace E2:=y0.mk E2
 replace E3:=y0.mk E3
 have Bv:=y0.mk Bp
 clear Bp
 have Bw:=y0.mk Bq
 clear Bq
 have Bx:=y0.mk Br
 clear Br
 have Bz:=y0.mk Bs
 clear Bs
 have Ca:=y0.mk Bt
 clear Bt
 have Cb:=y0.mk Bu
 clear Bu
 go_enter Try.func8,Try.ntmps8
 go_upto_region 3 with(first
  | ((with_reducible refine y14 (N:=1) rfl ?_);refine qe 1 #[.slice A0 l0.length c0,.int .i64 a1,.string a2,.slice A3 l3.length c3,.slice A4 l4.length c4] 28 ?_;intro ga hg w1 hbox hb;have BKa:=y0.mk (hbox);have GEa:=y0.mk ((by rw [hg];exact HB.out.size:w.heap.size≤ga));replace HB:=y0.mk (y3 HB.out hb);clear hb hg hbox;obtain⟨Aa,Ab,Ac,Ad,Ae,Af,Ag,Ah,Ai,Aj⟩:=QIv.box5 BKa.out)
  | ((with_reducible refine y14 (N:=2) rfl ?_);refine qe 2 #[.slice none 0 0,.int .i64 0,.string (⟨#[]⟩:ByteArray),.slice none 0 0,.slice none 0 0] 36 ?_;intro gz hg w2 hbox hb;(repeat first|clear Aa|clear Ab|clear Ac|clear Ad|clear Ae|clear Af|clear Ag|clear Ah|clear Ai|clear Aj);have BKz:=y0.mk (hbox);have GEz:=y0.mk ((by rw [hg];exact HB.out.size:w.heap.size≤gz));have Na_z:=y0.mk ((by rw [hg];exact Nat.ne_of_lt (QIv.ki_lt BKa.out):ga≠gz));replace BKa:=y0.mk (y5 (g:=ga) (o:=(.cells #[.slice A0 l0.length c0,.int .i64 a1,.string a2,.slice A3 l3.length c3,.slice A4 l4.length c4] 28 (0,0))) BKa.out hb);replace HB:=y0.mk (y3 HB.out hb);clear hb hg hbox;obtain⟨Aa,Ab,Ac,Ad,Ae,Af,Ag,Ah,Ai,Aj⟩:=QIv.box5 BKa.out;obtain⟨Ak,Al,Am,Ao,Ap,Aq,Ar,As,At,Au⟩:=QIv.box5 BKz.out)
  | ((with_reducible refine y14 (N:=3) rfl ?_);refine qe 3 #[.slice none 0 0,.int .i64 0,.string (⟨#[]⟩:ByteArray),.slice none 0 0,.slice none 0 0] 36 ?_;intro go hg w3 hbox hb;(repeat first|clear Aa|clear Ab|clear Ac|clear Ad|clear Ae|clear Ak|clear Al|clear Am|clear Ao|clear Ap|clear Af|clear Ag|clear Ah|clear Ai|clear Aj|clear Aq|clear Ar|clear As|clear At|clear Au);have BKo:=y0.mk (hbox);have GEo:=y0.mk ((by rw [hg];exact HB.out.size:w.heap.size≤go));have Na_o:=y0.mk ((by rw [hg];exact Nat.ne_of_lt (QIv.ki_lt BKa.out):ga≠go));have Nz_o:=y0.mk ((by rw [hg];exact Nat.ne_of_lt (QIv.ki_lt BKz.out):gz≠go));replace BKa:=y0.mk (y5 (g:=ga) (o:=(.cells #[.slice A0 l0.length c0,.int .i64 a1,.string a2,.slice A3 l3.length c3,.slice A4 l4.length c4] 28 (0,0))) BKa.out hb);replace BKz:=y0.mk (y5 (g:=gz) (o:=(.cells #[.slice none 0 0,.int .i64 0,.string (⟨#[]⟩:ByteArray),.slice none 0 0,.slice none 0 0] 36 (0,0))) BKz.out hb);replace HB:=y0.mk (y3 HB.out hb);clear hb hg hbox;obtain⟨Aa,Ab,Ac,Ad,Ae,Af,Ag,Ah,Ai,Aj⟩:=QIv.box5 BKa.out;obtain⟨Ak,Al,Am,Ao,Ap,Aq,Ar,As,At,Au⟩:=QIv.box5 BKz.out;obtain⟨Av,Aw,Ay,Az,Ba,Bb,Bc,Bd,Be,Bf⟩:=QIv.box5 BKo.out)
  | (go_at_call 25;(with_reducible refine(laws_toExpS.calls k _ _ l0 x0 _ (Kd.C_below Bv.out HB.out) Bw.out E1.out).mono ?_);rintro e w4 ⟨v_,rfl,ho,hb⟩;obtain⟨loE,hiE,hlo_,hhi_,hOE_⟩:=QIv.OS.new ho;obtain⟨AE,cE,eA_⟩:=hOE_.slice;subst eA_;(repeat first|clear Aa|clear Ab|clear Ac|clear Ad|clear Ae|clear Ak|clear Al|clear Am|clear Ao|clear Ap|clear Av|clear Aw|clear Ay|clear Az|clear Ba|clear Af|clear Ag|clear Ah|clear Ai|clear Aj|clear Aq|clear Ar|clear As|clear At|clear Au|clear Bb|clear Bc|clear Bd|clear Be|clear Bf);have OE:=y0.mk (hOE_);have LE:=y0.mk ((by rw [hhi_];exact Nat.le_refl _:hiE≤_));have BE:=y0.mk ((by rw [hlo_];exact HB.out.size:w.heap.size≤loE));have IE:=y0.mk ((by rw [hlo_,hhi_];exact hb.size:loE≤hiE));have Ea_E:=y0.mk ((by rw [hlo_];exact QIv.ki_lt BKa.out:ga < loE));have Ez_E:=y0.mk ((by rw [hlo_];exact QIv.ki_lt BKz.out:gz < loE));have Eo_E:=y0.mk ((by rw [hlo_];exact QIv.ki_lt BKo.out:go < loE));replace BKa:=y0.mk (y5 (g:=ga) (o:=(.cells #[.slice A0 l0.length c0,.int .i64 a1,.string a2,.slice A3 l3.length c3,.slice A4 l4.length c4] 28 (0,0))) BKa.out hb);replace BKz:=y0.mk (y5 (g:=gz) (o:=(.cells #[.slice none 0 0,.int .i64 0,.string (⟨#[]⟩:ByteArray),.slice none 0 0,.slice none 0 0] 36 (0,0))) BKz.out hb);replace BKo:=y0.mk (y5 (g:=go) (o:=(.cells #[.slice none 0 0,.int .i64 0,.string (⟨#[]⟩:ByteArray),.slice none 0 0,.slice none 0 0] 36 (0,0))) BKo.out hb);replace HB:=y0.mk (y3 HB.out hb);(try clear hb);(try clear ho);(try clear hlo_);(try clear hhi_);obtain⟨Aa,Ab,Ac,Ad,Ae,Af,Ag,Ah,Ai,Aj⟩:=QIv.box5 BKa.out;obtain⟨Ak,Al,Am,Ao,Ap,Aq,Ar,As,At,Au⟩:=QIv.box5 BKz.out;obtain⟨Av,Aw,Ay,Az,Ba,Bb,Bc,Bd,Be,Bf⟩:=QIv.box5 BKo.out))
 (repeat first|clear Aa|clear Ab|clear Ac|clear Ad|clear Ae|clear Ak|clear Al|clear Am|clear Ao|clear Ap|clear Av|clear Aw|clear Ay|clear Az|clear Ba|clear Af|clear Ag|clear Ah|clear Ai|clear Aj|clear Aq|clear Ar|clear As|clear At|clear Au|clear Bb|clear Bc|clear Bd|clear Be|clear Bf)
 replace OE:=y0.mk ((OE.out.set (.inl Eo_E.out) _ _):QIv.OS k63 63 loE hiE (.slice AE x0.length cE) x0 (w4.setCell ⟨go,0,none⟩ (.slice AE x0.length cE)))
 replace LE:=y0.mk (by simpa using LE.out:hiE≤(w4.setCell ⟨go,0,none⟩ (.slice AE x0.length cE)).heap.size)
 replace BKa:=y0.mk ((y9 BKa.out (Na_o.out) _):(w4.setCell ⟨go,0,none⟩ (.slice AE x0.length cE)).heap[ga]?=some (.cells #[.slice A0 l0.length c0,.int .i64 a1,.string a2,.slice A3 l3.length c3,.slice A4 l4.length c4] 28 (0,0)))
 replace BKz:=y0.mk ((y9 BKz.out (Nz_o.out) _):(w4.setCell ⟨go,0,none⟩ (.slice AE x0.length cE)).heap[gz]?=some (.cells #[.slice none 0 0,.int .i64 0,.string (⟨#[]⟩:ByteArray),.slice none 0 0,.slice none 0 0] 36 (0,0)))
 replace BKo:=y0.mk ((blk_set BKo.out 0 (.slice AE x0.length cE)):(w4.setCell ⟨go,0,none⟩ (.slice AE x0.length cE)).heap[go]?=some (.cells #[.slice AE x0.length cE,.int .i64 0,.string (⟨#[]⟩:ByteArray),.slice none 0 0,.slice none 0 0] 36 (0,0)))
 replace HB:=y0.mk ((below_set HB.out GEo.out):Below w.heap.size w (w4.setCell ⟨go,0,none⟩ (.slice AE x0.length cE)))
 generalize (w4.setCell ⟨go,0,none⟩ (.slice AE x0.length cE))=w5 at OE LE BKa BKz BKo HB ⊢
 obtain⟨Aa,Ab,Ac,Ad,Ae,Af,Ag,Ah,Ai,Aj⟩:=QIv.box5 BKa.out
 obtain⟨Ak,Al,Am,Ao,Ap,Aq,Ar,As,At,Au⟩:=QIv.box5 BKz.out
 obtain⟨Av,Aw,Ay,Az,Ba,Bb,Bc,Bd,Be,Bf⟩:=QIv.box5 BKo.out
 go_upto_region 4 with(first
  | (go_at_call 26;(with_reducible refine(laws_toLit.calls k a1 a2 _ _ l3 Bh Bi Bg _ (Kd.C_below Bx.out HB.out) Bz.out E2.out).mono ?_);rintro e w6 ⟨v_,rfl,ho,hb⟩;obtain⟨loH,hiH,hlo_,hhi_,hOH_⟩:=QIv.OR.new ho;obtain⟨AH,cH,eA_⟩:=hOH_.slice;subst eA_;(repeat first|clear Aa|clear Ab|clear Ac|clear Ad|clear Ae|clear Ak|clear Al|clear Am|clear Ao|clear Ap|clear Av|clear Aw|clear Ay|clear Az|clear Ba|clear Af|clear Ag|clear Ah|clear Ai|clear Aj|clear Aq|clear Ar|clear As|clear At|clear Au|clear Bb|clear Bc|clear Bd|clear Be|clear Bf);have OH:=y0.mk (hOH_);have LH:=y0.mk ((by rw [hhi_];exact Nat.le_refl _:hiH≤_));have BH:=y0.mk ((by rw [hlo_];exact HB.out.size:w.heap.size≤loH));have IH:=y0.mk ((by rw [hlo_,hhi_];exact hb.size:loH≤hiH));have DE_H:=y0.mk ((by rw [hlo_];exact LE.out:hiE≤loH));have Ea_H:=y0.mk ((by rw [hlo_];exact QIv.ki_lt BKa.out:ga < loH));have Ez_H:=y0.mk ((by rw [hlo_];exact QIv.ki_lt BKz.out:gz < loH));have Eo_H:=y0.mk ((by rw [hlo_];exact QIv.ki_lt BKo.out:go < loH));replace OE:=y0.mk (OE.out.below hb);replace LE:=y0.mk (Nat.le_trans LE.out hb.size);replace BKa:=y0.mk (y5 (g:=ga) (o:=(.cells #[.slice A0 l0.length c0,.int .i64 a1,.string a2,.slice A3 l3.length c3,.slice A4 l4.length c4] 28 (0,0))) BKa.out hb);replace BKz:=y0.mk (y5 (g:=gz) (o:=(.cells #[.slice none 0 0,.int .i64 0,.string (⟨#[]⟩:ByteArray),.slice none 0 0,.slice none 0 0] 36 (0,0))) BKz.out hb);replace BKo:=y0.mk (y5 (g:=go) (o:=(.cells #[.slice AE x0.length cE,.int .i64 0,.string (⟨#[]⟩:ByteArray),.slice none 0 0,.slice none 0 0] 36 (0,0))) BKo.out hb);replace HB:=y0.mk (y3 HB.out hb);(try clear hb);(try clear ho);(try clear hlo_);(try clear hhi_);obtain⟨Aa,Ab,Ac,Ad,Ae,Af,Ag,Ah,Ai,Aj⟩:=QIv.box5 BKa.out;obtain⟨Ak,Al,Am,Ao,Ap,Aq,Ar,As,At,Au⟩:=QIv.box5 BKz.out;obtain⟨Av,Aw,Ay,Az,Ba,Bb,Bc,Bd,Be,Bf⟩:=QIv.box5 BKo.out))
 (repeat first|clear Aa|clear Ab|clear Ac|clear Ad|clear Ae|clear Ak|clear Al|clear Am|clear Ao|clear Ap|clear Av|clear Aw|clear Ay|clear Az|clear Ba|clear Af|clear Ag|clear Ah|clear Ai|clear Aj|clear Aq|clear Ar|clear As|clear At|clear Au|clear Bb|clear Bc|clear Bd|clear Be|clear Bf)
 replace OE:=y0.mk ((((OE.out.set (.inl Eo_E.out) _ _).set (.inl Eo_E.out) _ _).set (.inl Eo_E.out) _ _):QIv.OS k63 63 loE hiE (.slice AE x0.length cE) x0 (((w6.setCell ⟨go,1,none⟩ (.int .i64 Bh)).setCell ⟨go,2,none⟩ (.string Bi)).setCell ⟨go,3,none⟩ (.slice AH Bg.length cH)))
 replace LE:=y0.mk (by simpa using LE.out:hiE≤(((w6.setCell ⟨go,1,none⟩ (.int .i64 Bh)).setCell ⟨go,2,none⟩ (.string Bi)).setCell ⟨go,3,none⟩ (.slice AH Bg.length cH)).heap.size)
 replace OH:=y0.mk ((((OH.out.set (.inl Eo_H.out) _ _).set (.inl Eo_H.out) _ _).set (.inl Eo_H.out) _ _):QIv.OR (Kd.int .i64) 3 loH hiH (.slice AH Bg.length cH) Bg (((w6.setCell ⟨go,1,none⟩ (.int .i64 Bh)).setCell ⟨go,2,none⟩ (.string Bi)).setCell ⟨go,3,none⟩ (.slice AH Bg.length cH)))
 replace LH:=y0.mk (by simpa using LH.out:hiH≤(((w6.setCell ⟨go,1,none⟩ (.int .i64 Bh)).setCell ⟨go,2,none⟩ (.string Bi)).setCell ⟨go,3,none⟩ (.slice AH Bg.length cH)).heap.size)
 replace BKa:=y0.mk ((y9 (y9 (y9 BKa.out (Na_o.out) _) (Na_o.out) _) (Na_o.out) _):(((w6.setCell ⟨go,1,none⟩ (.int .i64 Bh)).setCell ⟨go,2,none⟩ (.string Bi)).setCell ⟨go,3,none⟩ (.slice AH Bg.length cH)).heap[ga]?=some (.cells #[.slice A0 l0.length c0,.int .i64 a1,.string a2,.slice A3 l3.length c3,.slice A4 l4.length c4] 28 (0,0)))
 replace BKz:=y0.mk ((y9 (y9 (y9 BKz.out (Nz_o.out) _) (Nz_o.out) _) (Nz_o.out) _):(((w6.setCell ⟨go,1,none⟩ (.int .i64 Bh)).setCell ⟨go,2,none⟩ (.string Bi)).setCell ⟨go,3,none⟩ (.slice AH Bg.length cH)).heap[gz]?=some (.cells #[.slice none 0 0,.int .i64 0,.string (⟨#[]⟩:ByteArray),.slice none 0 0,.slice none 0 0] 36 (0,0)))
 replace BKo:=y0.mk ((blk_set (blk_set (blk_set BKo.out 1 (.int .i64 Bh)) 2 (.string Bi)) 3 (.slice AH Bg.length cH)):(((w6.setCell ⟨go,1,none⟩ (.int .i64 Bh)).setCell ⟨go,2,none⟩ (.string Bi)).setCell ⟨go,3,none⟩ (.slice AH Bg.length cH)).heap[go]?=some (.cells #[.slice AE x0.length cE,.int .i64 Bh,.string Bi,.slice AH Bg.length cH,.slice none 0 0] 36 (0,0)))
 replace HB:=y0.mk ((below_set (below_set (below_set HB.out GEo.out) GEo.out) GEo.out):Below w.heap.size w (((w6.setCell ⟨go,1,none⟩ (.int .i64 Bh)).setCell ⟨go,2,none⟩ (.string Bi)).setCell ⟨go,3,none⟩ (.slice AH Bg.length cH)))
 generalize (((w6.setCell ⟨go,1,none⟩ (.int .i64 Bh)).setCell ⟨go,2,none⟩ (.string Bi)).setCell ⟨go,3,none⟩ (.slice AH Bg.length cH))=w7 at OE LE OH LH BKa BKz BKo HB ⊢
 obtain⟨Aa,Ab,Ac,Ad,Ae,Af,Ag,Ah,Ai,Aj⟩:=QIv.box5 BKa.out
 obtain⟨Ak,Al,Am,Ao,Ap,Aq,Ar,As,At,Au⟩:=QIv.box5 BKz.out
 obtain⟨Av,Aw,Ay,Az,Ba,Bb,Bc,Bd,Be,Bf⟩:=QIv.box5 BKo.out
 go_upto_region 5 with(first
  | (go_at_call 27;(with_reducible refine(laws_toLitS.calls k _ _ l4 x4 _ (Kd.C_below Ca.out HB.out) Cb.out E3.out).mono ?_);rintro e w8 ⟨v_,rfl,ho,hb⟩;obtain⟨loB,hiB,hlo_,hhi_,hOB_⟩:=QIv.OS.new ho;obtain⟨AB,cB,eA_⟩:=hOB_.slice;subst eA_;(repeat first|clear Aa|clear Ab|clear Ac|clear Ad|clear Ae|clear Ak|clear Al|clear Am|clear Ao|clear Ap|clear Av|clear Aw|clear Ay|clear Az|clear Ba|clear Af|clear Ag|clear Ah|clear Ai|clear Aj|clear Aq|clear Ar|clear As|clear At|clear Au|clear Bb|clear Bc|clear Bd|clear Be|clear Bf);have OB:=y0.mk (hOB_);have LB:=y0.mk ((by rw [hhi_];exact Nat.le_refl _:hiB≤_));have BB:=y0.mk ((by rw [hlo_];exact HB.out.size:w.heap.size≤loB));have IB:=y0.mk ((by rw [hlo_,hhi_];exact hb.size:loB≤hiB));have DE_B:=y0.mk ((by rw [hlo_];exact LE.out:hiE≤loB));have DH_B:=y0.mk ((by rw [hlo_];exact LH.out:hiH≤loB));have Ea_B:=y0.mk ((by rw [hlo_];exact QIv.ki_lt BKa.out:ga < loB));have Ez_B:=y0.mk ((by rw [hlo_];exact QIv.ki_lt BKz.out:gz < loB));have Eo_B:=y0.mk ((by rw [hlo_];exact QIv.ki_lt BKo.out:go < loB));replace OE:=y0.mk (OE.out.below hb);replace OH:=y0.mk (OH.out.below hb);replace LE:=y0.mk (Nat.le_trans LE.out hb.size);replace LH:=y0.mk (Nat.le_trans LH.out hb.size);replace BKa:=y0.mk (y5 (g:=ga) (o:=(.cells #[.slice A0 l0.length c0,.int .i64 a1,.string a2,.slice A3 l3.length c3,.slice A4 l4.length c4] 28 (0,0))) BKa.out hb);replace BKz:=y0.mk (y5 (g:=gz) (o:=(.cells #[.slice none 0 0,.int .i64 0,.string (⟨#[]⟩:ByteArray),.slice none 0 0,.slice none 0 0] 36 (0,0))) BKz.out hb);replace BKo:=y0.mk (y5 (g:=go) (o:=(.cells #[.slice AE x0.length cE,.int .i64 Bh,.string Bi,.slice AH Bg.length cH,.slice none 0 0] 36 (0,0))) BKo.out hb);replace HB:=y0.mk (y3 HB.out hb);(try clear hb);(try clear ho);(try clear hlo_);(try clear hhi_);obtain⟨Aa,Ab,Ac,Ad,Ae,Af,Ag,Ah,Ai,Aj⟩:=QIv.box5 BKa.out;obtain⟨Ak,Al,Am,Ao,Ap,Aq,Ar,As,At,Au⟩:=QIv.box5 BKz.out;obtain⟨Av,Aw,Ay,Az,Ba,Bb,Bc,Bd,Be,Bf⟩:=QIv.box5 BKo.out))
 (repeat first|clear Aa|clear Ab|clear Ac|clear Ad|clear Ae|clear Ak|clear Al|clear Am|clear Ao|clear Ap|clear Av|clear Aw|clear Ay|clear Az|clear Ba|clear Af|clear Ag|clear Ah|clear Ai|clear Aj|clear Aq|clear Ar|clear As|clear At|clear Au|clear Bb|clear Bc|clear Bd|clear Be|clear Bf)
 replace OE:=y0.mk ((OE.out.set (.inl Eo_E.out) _ _):QIv.OS k63 63 loE hiE (.slice AE x0.length cE) x0 (w8.setCell ⟨go,4,none⟩ (.slice AB x4.length cB)))
 replace LE:=y0.mk (by simpa using LE.out:hiE≤(w8.setCell ⟨go,4,none⟩ (.slice AB x4.length cB)).heap.size)
 replace OH:=y0.mk ((OH.out.set (.inl Eo_H.out) _ _):QIv.OR (Kd.int .i64) 3 loH hiH (.slice AH Bg.length cH) Bg (w8.setCell ⟨go,4,none⟩ (.slice AB x4.length cB)))
 replace LH:=y0.mk (by simpa using LH.out:hiH≤(w8.setCell ⟨go,4,none⟩ (.slice AB x4.length cB)).heap.size)
 replace OB:=y0.mk ((OB.out.set (.inl Eo_B.out) _ _):QIv.OS k33 33 loB hiB (.slice AB x4.length cB) x4 (w8.setCell ⟨go,4,none⟩ (.slice AB x4.length cB)))
 replace LB:=y0.mk (by simpa using LB.out:hiB≤(w8.setCell ⟨go,4,none⟩ (.slice AB x4.length cB)).heap.size)
 replace BKa:=y0.mk ((y9 BKa.out (Na_o.out) _):(w8.setCell ⟨go,4,none⟩ (.slice AB x4.length cB)).heap[ga]?=some (.cells #[.slice A0 l0.length c0,.int .i64 a1,.string a2,.slice A3 l3.length c3,.slice A4 l4.length c4] 28 (0,0)))
 replace BKz:=y0.mk ((y9 BKz.out (Nz_o.out) _):(w8.setCell ⟨go,4,none⟩ (.slice AB x4.length cB)).heap[gz]?=some (.cells #[.slice none 0 0,.int .i64 0,.string (⟨#[]⟩:ByteArray),.slice none 0 0,.slice none 0 0] 36 (0,0)))
 replace BKo:=y0.mk ((blk_set BKo.out 4 (.slice AB x4.length cB)):(w8.setCell ⟨go,4,none⟩ (.slice AB x4.length cB)).heap[go]?=some (.cells #[.slice AE x0.length cE,.int .i64 Bh,.string Bi,.slice AH Bg.length cH,.slice AB x4.length cB] 36 (0,0)))
 replace HB:=y0.mk ((below_set HB.out GEo.out):Below w.heap.size w (w8.setCell ⟨go,4,none⟩ (.slice AB x4.length cB)))
 generalize (w8.setCell ⟨go,4,none⟩ (.slice AB x4.length cB))=w9 at OE LE OH LH OB LB BKa BKz BKo HB ⊢
 obtain⟨Aa,Ab,Ac,Ad,Ae,Af,Ag,Ah,Ai,Aj⟩:=QIv.box5 BKa.out
 obtain⟨Ak,Al,Am,Ao,Ap,Aq,Ar,As,At,Au⟩:=QIv.box5 BKz.out
 obtain⟨Av,Aw,Ay,Az,Ba,Bb,Bc,Bd,Be,Bf⟩:=QIv.box5 BKo.out
 go_wp2
 refine bodyPost_ret (results_cell_row rfl _ _ gz 36 #[.slice AE x0.length cE,.int .i64 Bh,.string Bi,.slice AH Bg.length cH,.slice AB x4.length cB] (0,0) _ rfl (blk_set (blk_set (blk_set (blk_set (blk_set BKz.out 0 (.slice AE x0.length cE)) 1 (.int .i64 Bh)) 2 (.string Bi)) 3 (.slice AH Bg.length cH)) 4 (.slice AB x4.length cB)) Try.underlying36 rfl (by kernel_rfl)) rfl ?_
 exact⟨_,_,_,loE,hiE,loH,hiH,loB,hiB,by first|rfl|(simp [y10,y11] <;> rfl),(((((OE.out.set (.inl Ez_E.out) _ _).set (.inl Ez_E.out) _ _).set (.inl Ez_E.out) _ _).set (.inl Ez_E.out) _ _).set (.inl Ez_E.out) _ _),(((((OH.out.set (.inl Ez_H.out) _ _).set (.inl Ez_H.out) _ _).set (.inl Ez_H.out) _ _).set (.inl Ez_H.out) _ _).set (.inl Ez_H.out) _ _),(((((OB.out.set (.inl Ez_B.out) _ _).set (.inl Ez_B.out) _ _).set (.inl Ez_B.out) _ _).set (.inl Ez_B.out) _ _).set (.inl Ez_B.out) _ _),BE.out,IE.out,DE_H.out,IH.out,DH_B.out,IB.out,(by simpa using LB.out),(below_set (below_set (below_set (below_set (below_set HB.out GEz.out) GEz.out) GEz.out) GEz.out) GEz.out)⟩
def laws_markRule.f (k:Nat) (l0:List (S63)) (a1:Int) (a2:ByteArray) (l3:List Int) (l4:List (S33)) (m:Int):Option Int:=(laws_markExpS.f k l0 m).bind fun t=>(laws_markLit.f k a1 a2 l3 t.1).bind fun b=>(laws_markLitS.f k l4 b.1).bind fun t=>some t.1
theorem laws_markLit.iv (k:Nat) (lo hi:Nat) (a1:Int) (a2:ByteArray) (A0:Option Addr) (c0:Nat) (l0:List Int) (m:Int) (r1:Int) (r2:List Int) (w0 w:World) (hB:Below w0.heap.size w0 w) (hlo:w0.heap.size≤lo) (ho:QIv.OR (Kd.int .i64) 3 lo hi (.slice A0 l0.length c0) l0 w) (h:laws_markLit.f k a1 a2 l0 m=some (r1,r2)) :
  Calls Try.prog 35 #[.agg #[.int .i64 a1,.string a2,.slice A0 l0.length c0],.int .i64 m] w fun e w'=>e=.returned (.int .i64 r1)∧Below w0.heap.size w0 w'∧QIv.KI lo hi w w':=by
 have hR:Kd.R (Kd.int .i64) 3 w w0.heap.size (fun k_=>lo≤k_∧k_ < hi) (.slice A0 l0.length c0) l0:=Kd.R_lower (Kd.R_mono (Kd.R_bound ho) (fun k hk=>⟨hk.2.1,hk.1⟩)) hlo
 refine(laws_markLit.calls k a1 a2 _ _ l0 m r1 r2 w0 w hB hR h).mono ?_
 rintro e w5 ⟨rfl,_,hb,hk⟩
 exact⟨rfl,hb,hk⟩
set_option maxHeartbeats 8000000 in
set_option maxRecDepth 100000 in
theorem laws_markRule.calls (k:Nat) (Ab Ae Af Ag Ah Aa:Nat) (A0:Option Addr) (c0:Nat) (l0:List (S63)) (a1:Int) (a2:ByteArray) (A3:Option Addr) (c3:Nat) (l3:List Int) (A4:Option Addr) (c4:Nat) (l4:List (S33)) (m r1:Int) (w0 w:World) (hB:Below w0.heap.size w0 w) (h0:w0.heap.size≤Ab) (h1:Ab≤Ae) (h2:Ae≤Af) (h3:Af≤Ag) (h4:Ag≤Ah) (h5:Ah≤Aa) (h6:Aa≤w.heap.size)
  (Au:QIv.OS k63 63 Ab Ae (.slice A0 l0.length c0) l0 w) (Av:QIv.OR (Kd.int .i64) 3 Af Ag (.slice A3 l3.length c3) l3 w) (Aw:QIv.OS k33 33 Ah Aa (.slice A4 l4.length c4) l4 w) (h:laws_markRule.f k l0 a1 a2 l3 l4 m=some r1) :
  Calls Try.prog 12 #[.agg #[.slice A0 l0.length c0,.int .i64 a1,.string a2,.slice A3 l3.length c3,.slice A4 l4.length c4],.int .i64 m] w fun e w'=>e=.returned (.int .i64 r1)∧Below w0.heap.size w0 w'∧QIv.KI Ab Aa w w':=by
 have Bb:=Try.underlying36
 have Bc:=Try.underlying33
 unfold laws_markRule.f at h
 obtain⟨⟨t1,x1⟩,E1,h⟩:=Option.bind_eq_some_iff.1 h
 obtain⟨⟨t2,x2⟩,E2,h⟩:=Option.bind_eq_some_iff.1 h
 obtain⟨⟨t3,x3⟩,E3,h⟩:=Option.bind_eq_some_iff.1 h
 injection h with h
 subst h
 have At:=y0.mk Au
 have Ad:=y0.mk Av
 have Ac:=y0.mk Aw
 have HB:=y0.mk hB
 have HK:=y0.mk (QIv.ki_refl Ab Aa w)
 replace E1:=y0.mk E1
 replace E2:=y0.mk E2
 replace E3:=y0.mk E3
 have HX:y0 (∀ a b:Nat,Ab≤a→b≤Aa→∀ W W1:World,QIv.KI a b W W1→QIv.KI Ab Aa W W1):=⟨fun a b h1 h2 W W1 hk=>Kept.mono hk (fun k hk=>⟨Nat.le_trans h1 hk.1,Nat.lt_of_lt_of_le hk.2 h2⟩)⟩
 have G0:=y0.mk h0
 have G1:=y0.mk (Nat.le_trans h0 (Nat.le_trans h1 h2))
 have G2:=y0.mk (Nat.le_trans (Nat.le_trans h0 (Nat.le_trans h1 h2)) (Nat.le_trans h3 h4))
 have Ay:=y0.mk h2
 have Az:=y0.mk h4
 have Ba:=y0.mk (Nat.le_trans h2 (Nat.le_trans h3 h4))
 have B1:=y0.mk (Nat.le_trans (Nat.le_trans h2 h3) (Nat.le_trans h4 h5):Ae≤Aa)
 have B2:=y0.mk (Nat.le_trans h4 h5:Ag≤Aa)
 have C2:=y0.mk (Nat.le_trans h1 h2:Ab≤Af)
 have C3:=y0.mk (Nat.le_trans (Nat.le_trans h1 h2) (Nat.le_trans h3 h4):Ab≤Ah)
 have H6:=y0.mk h6
 clear Au Av Aw hB h0 h1 h2 h3 h4 h5 h6
 go_enter Try.func12,Try.ntmps12
 go_wp2_with (first
  | ((with_reducible refine y14 (N:=2) rfl ?_);refine qe 2 #[.slice A0 l0.length c0,.int .i64 a1,.string a2,.slice A3 l3.length c3,.slice A4 l4.length c4] 36 ?_;intro gb hg w2 hbox hb;replace At:=y0.mk (At.out.below hb);replace Ad:=y0.mk (Ad.out.below hb);replace Ac:=y0.mk (Ac.out.below hb);replace HB:=y0.mk (y3 HB.out hb);replace HK:=y0.mk (QIv.ki_below HK.out hb);have BK:=y0.mk hbox;have GB:=y0.mk ((by rw [hg];exact H6.out):Aa≤gb);clear hbox hb hg H6;obtain⟨Ai,Aj,Ak,Al,Am,Ao,Ap,Aq,Ar,As⟩:=QIv.box5 BK.out)
  | (go_at_call 34;(with_reducible refine(laws_markExpS.calls k Ab Ae _ _ l0 m t1 x1 w0 _ HB.out G0.out At.out E1.out).mono ?_);rintro e w5 ⟨rfl,_,hb,hk⟩;replace Ad:=y0.mk (Ad.out.ki hk (.inr Ay.out));replace Ac:=y0.mk (Ac.out.ki hk (.inr Ba.out));replace HB:=y0.mk hb;replace HK:=y0.mk (QIv.ki_trans HK.out (HX.out _ _ (Nat.le_refl _) B1.out _ _ hk));replace BK:=y0.mk (QIv.ki_blk BK.out hk (.inr (Nat.le_trans B1.out GB.out)));clear hk hb At Ai Aj Ak Al Am Ao Ap Aq Ar As;obtain⟨Ai,Aj,Ak,Al,Am,Ao,Ap,Aq,Ar,As⟩:=QIv.box5 BK.out)
  | (go_at_call 35;(with_reducible refine(laws_markLit.iv k Af Ag a1 a2 _ _ l3 t1 t2 x2 w0 _ HB.out G1.out Ad.out E2.out).mono ?_);rintro e w5 ⟨rfl,hb,hk⟩;replace Ac:=y0.mk (Ac.out.ki hk (.inr Az.out));replace HB:=y0.mk hb;replace HK:=y0.mk (QIv.ki_trans HK.out (HX.out _ _ C2.out B2.out _ _ hk));replace BK:=y0.mk (QIv.ki_blk BK.out hk (.inr (Nat.le_trans B2.out GB.out)));clear hk hb Ad Ai Aj Ak Al Am Ao Ap Aq Ar As;obtain⟨Ai,Aj,Ak,Al,Am,Ao,Ap,Aq,Ar,As⟩:=QIv.box5 BK.out)
  | (go_at_call 36;(with_reducible refine(laws_markLitS.calls k Ah Aa _ _ l4 t2 t3 x3 w0 _ HB.out G2.out Ac.out E3.out).mono ?_);rintro e w5 ⟨rfl,_,hb,hk⟩;replace HB:=y0.mk hb;replace HK:=y0.mk (QIv.ki_trans HK.out (HX.out _ _ C3.out (Nat.le_refl _) _ _ hk));clear hk hb Ac BK Ai Aj Ak Al Am Ao Ap Aq Ar As))
 go_ret
 exact⟨by first|rfl|(simp [y10,y11] <;> rfl),HB.out,HK.out⟩
end Go.Proofs.Ytkdabljlfbmpdaa.Pg
end
