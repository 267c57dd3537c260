-- Cut by prune.py, a program of this session, out of the texts of this claim: Lean checks it.
import Derived.Test.YtkdabljlfbmpdaaGreatVbdPbx0
import Derived.Test.YtkdabljlfbmpdaaGreatVbdPbx18
import Derived.Test.YtkdabljlfbmpdaaGreatVbdPbx11
section
namespace Go.Proofs.YtkdabljlfbmpdaaGreat.Pb
open Go.RowKit Go.Proofs.YtkdabljlfbmpdaaGreatW.PrintWords Go.Proofs.YtkdabljlfbmpdaaGreatW.PrintLast Go.Proofs.YtkdabljlfbmpdaaGreatW.PrintMore
attribute [local go_sem] max2_int min2_int max_two min_two max_three min_three max_four min_four   -- for this text's walks alone
set_option linter.unusedVariables false
set_option linter.unusedSimpArgs false
def laws_eqLitS.l0:Nat→List (S33)→List (S33)→Int→Option (Bool)
 | 0,_,_,_=>none
 | k + 1,x0,x1,x5=>if x5 < (x0.length:Int)then(if 0≤x5 then(if x5 < (x1.length:Int)then((laws_eqLit.f k ((y19 x0 x5).f0) ((y19 x0 x5).f1) ((y19 x0 x5).f2) ((y19 x1 x5).f0) ((y19 x1 x5).f1) ((y19 x1 x5).f2)).bind fun t500=>(if t500=true then(laws_eqLitS.l0 k x0 x1 (wrap64 (x5 + 1)))else(some false)))else(none))else(none))else(some true)
def laws_eqLitS.f (k:Nat) (l0:List (S33)) (l1:List (S33)):Option (Bool):=if(l0.length:Int)=(l1.length:Int)then(laws_eqLitS.l0 k l0 l1 0)else(some false)
def laws_eqLitS.T6:Bool×List (List Nat×List Nat):=(true,[([],[]),([],[]),([0,1],[0,1]),([2],[2]),([],[]),([],[]),([4,5],[4,5]),([6],[6]),([3,7],[3,7]),([8],[8])])
def laws_eqLitS.B6:List Nat:=[0,0,3,7,0,0,48,112,255,511]
theorem laws_eqLitS.tab6:rtab .any (opsOf Tryz.f26 6)=laws_eqLitS.T6:=by kernel_rfl
theorem laws_eqLitS.bits6:waitsOk laws_eqLitS.T6.2 laws_eqLitS.B6=true:=by kernel_rfl
set_option maxHeartbeats 8000000 in
set_option maxRecDepth 100000 in
theorem laws_eqLitS.calls (k:Nat) (A0:Option Addr) (c0:Nat) (l0:List (S33)) (A1:Option Addr) (c1:Nat) (l1:List (S33)) (r:Bool) (w:World) (Bs:Kd.C k33 w A0 l0.length l0) (Bt:l0.length≤c0) (Bu:Kd.C k33 w A1 l1.length l1) (Bv:l1.length≤c1) (h:laws_eqLitS.f k l0 l1=some r) :
  Calls Tryz.prog 26 #[.slice A0 l0.length c0,.slice A1 l1.length c1] w fun e w'=>e=.returned (.bool r)∧Below w.heap.size w w':=by
 have Bx:=Tryz.underlying33
 have Bz:=y0.mk Bs
 have Cd:=y0.mk Bt
 clear Bs Bt
 have Ca:=y0.mk Bu
 have Ce:=y0.mk Bv
 clear Bu Bv
 have HB:=y0.mk (Below.refl w.heap.size w)
 have H:(if(l0.length:Int)=(l1.length:Int)then(laws_eqLitS.l0 k l0 l1 0)else(some false))=some r:=h
 clear h
 by_cases c3:(l0.length:Int)=(l1.length:Int)
 ·rw [if_pos c3]at H
  have Bl:((l0.length:Int) == (l1.length:Int))=true:=beq_iff_eq.mpr c3
  have Bm:((l0.length:Int) != (l1.length:Int))=false:=bne_eq_false_iff_eq.mpr c3
  have Bn:(l0.length == l1.length)=true:=by first|simpa using c3|(simp at c3 ⊢;omega)
  clear c3
  have H':=y0.mk H
  clear H
  go_enter Tryz.func26,Tryz.ntmps26
  go_wp2
  go_loopg [5] k (fun kq v5 w'=>∃(Aa:Int),v5=.int .i64 Aa∧y0 (laws_eqLitS.l0 kq l0 l1 Aa=some r)∧y0 (kq≤k)∧y0 (Below w.heap.size w w'))
  case atStart=>exact⟨(0),qy2,H',⟨Nat.le_refl _⟩,⟨qb⟩⟩
  case round =>
   clear H'
   (try clear Bl Bm Bn)
   obtain⟨Aa,rfl,HA,Bw,HB⟩:=hrel
   cases gk with
   | zero=>exact absurd HA.out (by simp [laws_eqLitS.l0])
   | succ k1 =>
    have H:=HA.out
    clear HA
    simp only [laws_eqLitS.l0]at H
    by_cases c4:Aa < (l0.length:Int)
    ·rw [if_pos c4]at H
     have Bo:=decide_eq_true c4
     clear c4
     obtain⟨c5,H⟩:=qo H
     have Cb:decide (0≤Aa)=true:=decide_eq_true c5
     clear c5
     obtain⟨c6,H⟩:=qo H
     have Cc:decide (Aa < (l1.length:Int))=true:=decide_eq_true c6
     clear c6
     obtain⟨Bp,A7,H⟩:=qB H
     try go_wp2
     replace HB:=y0.mk (y2 HB.out)
     have Bh:0≤(Aa:Int):=of_decide_eq_true qy0
     have Bi:Aa < (l0.length:Int):=of_decide_eq_true qy0
     obtain⟨Au,Aw,Ay,Bq,Ai,Aj,Ak,Bb,Bc⟩:=at_T33 Bz.out Aa Bh Bi
     have Ab:=Ak
     have Ac:=Aj
     have Ad:=Ai
     cases Bq
     replace Ai:=(HB.out.cell (World.block_lt_of_cell? w _ Ai)).trans Ai
     replace Aj:=(HB.out.cell (World.block_lt_of_cell? w _ Aj)).trans Aj
     replace Ak:=(HB.out.cell (World.block_lt_of_cell? w _ Ak)).trans Ak
     have As:=y0.mk Bc
     have Bd:=y0.mk Bb
     clear Bc Bb
     replace Bh:=eq_true Bh
     replace Bi:=eq_true Bi
     have Bj:0≤(Aa:Int):=of_decide_eq_true qy0
     have Bk:Aa < (l1.length:Int):=of_decide_eq_true qy0
     obtain⟨Av,Az,Ba,Br,Am,Ap,Ar,Be,Bf⟩:=at_T33 Ca.out Aa Bj Bk
     have Af:=Ar
     have Ag:=Ap
     have Ah:=Am
     cases Br
     replace Am:=(HB.out.cell (World.block_lt_of_cell? w _ Am)).trans Am
     replace Ap:=(HB.out.cell (World.block_lt_of_cell? w _ Ap)).trans Ap
     replace Ar:=(HB.out.cell (World.block_lt_of_cell? w _ Ar)).trans Ar
     have At:=y0.mk Bf
     have Bg:=y0.mk Be
     clear Bf Be
     replace Bj:=eq_true Bj
     replace Bk:=eq_true Bk
     refine start_ (n:=10) (S:=fun w'=>w'.cell? (Au.add ((Aa).toNat * 3))=some (.int .i64 ((y19 l0 Aa).f0))∧w'.cell? ⟨(Au.add ((Aa).toNat * 3)).block,(Au.add ((Aa).toNat * 3)).off + 1,none⟩=some (.string ((y19 l0 Aa).f1))∧w'.cell? ⟨(Au.add ((Aa).toNat * 3)).block,(Au.add ((Aa).toNat * 3)).off + 2,none⟩=some (.slice Aw ((y19 l0 Aa).f2).length Ay)∧w'.cell? (Av.add ((Aa).toNat * 3))=some (.int .i64 ((y19 l1 Aa).f0))∧w'.cell? ⟨(Av.add ((Aa).toNat * 3)).block,(Av.add ((Aa).toNat * 3)).off + 1,none⟩=some (.string ((y19 l1 Aa).f1))∧w'.cell? ⟨(Av.add ((Aa).toNat * 3)).block,(Av.add ((Aa).toNat * 3)).off + 2,none⟩=some (.slice Az ((y19 l1 Aa).f2).length Ba)) (ds:=[]) (fl_ 10 0) (by kernel_rfl) rfl rfl ⟨((HB.out.cell (World.block_lt_of_cell? w _ Ad)).trans Ad),((HB.out.cell (World.block_lt_of_cell? w _ Ac)).trans Ac),((HB.out.cell (World.block_lt_of_cell? w _ Ab)).trans Ab),((HB.out.cell (World.block_lt_of_cell? w _ Ah)).trans Ah),((HB.out.cell (World.block_lt_of_cell? w _ Ag)).trans Ag),((HB.out.cell (World.block_lt_of_cell? w _ Af)).trans Af)⟩ (fun hHeld=>?_);refine with_tabW laws_eqLitS.tab6 laws_eqLitS.bits6 (fun HT_ HW_=>?_)
     generalize wr.drew=w9 at HB As At Ai Aj Ak Am Ap Ar hHeld ⊢
     refine qp3 0 17 10 ?_
     by_cases c8:Bp=true
     ·subst c8
      replace H:=qT H
      have H':=y0.mk H
      clear H
      refine qp 4 21 (fl_ 10 23) ?_
      refine qp 5 22 (fl_ 10 55) ?_
      refine qp 6 23 (fl_ 10 119) ?_
      refine qt 3 20 (fl_ 10 127) hHeld ?_
      refine qt 7 24 (fl_ 10 255) hHeld ?_
      refine qO 8 25 (fl_ 10 511) (fun K hK=>?_)
      refine goes_ Tryz.func25 (by kernel_rfl) rfl #[.agg #[.int .i64 ((y19 l0 Aa).f0),.string ((y19 l0 Aa).f1),.slice Aw ((y19 l0 Aa).f2).length Ay],.agg #[.int .i64 ((y19 l1 Aa).f0),.string ((y19 l1 Aa).f1),.slice Az ((y19 l1 Aa).f2).length Ba]] (by rfl) rfl rfl qy1 ?_
      with_reducible refine(laws_eqLit.calls k1 ((y19 l0 Aa).f0) ((y19 l0 Aa).f1) _ _ ((y19 l0 Aa).f2) ((y19 l1 Aa).f0) ((y19 l1 Aa).f1) _ _ ((y19 l1 Aa).f2) true _ (qc (Kd.C_below As.out HB.out)) Bd.out (qc (Kd.C_below At.out HB.out)) Bg.out A7.out).mono ?_
      rintro e Cf ⟨rfl,hb⟩
      refine⟨_,rfl, ?_⟩
      replace HB:=y0.mk (y5 qb hb)
      (try clear hb)
      refine hK.out _ _ ⟨((HB.out.cell (World.block_lt_of_cell? w _ Ad)).trans Ad),((HB.out.cell (World.block_lt_of_cell? w _ Ac)).trans Ac),((HB.out.cell (World.block_lt_of_cell? w _ Ab)).trans Ab),((HB.out.cell (World.block_lt_of_cell? w _ Ah)).trans Ah),((HB.out.cell (World.block_lt_of_cell? w _ Ag)).trans Ag),((HB.out.cell (World.block_lt_of_cell? w _ Af)).trans Af)⟩ (fun hHeld=>?_)
      clear hK K
      refine qx 25 ?_
      refine qp 9 26 (fl_ 10 1023) ?_
      refine done_ (done_of HT_.out (by kernel_rfl)) ?_
      try go_wp2
      go_roundg k1
      case measure=>have:=Bw.out;omega
      exact⟨(wrap64 (Aa + 1)),qy2,H',⟨by have:=Bw.out;omega⟩,⟨qb⟩⟩
     ·replace c8:=Bool.eq_false_iff.mpr c8
      subst c8
      replace H:=qF H
      obtain rfl:=Option.some.inj H
      refine qp 4 21 (fl_ 10 23) ?_
      refine qp 5 22 (fl_ 10 55) ?_
      refine qp 6 23 (fl_ 10 119) ?_
      refine qt 3 20 (fl_ 10 127) hHeld ?_
      refine qt 7 24 (fl_ 10 255) hHeld ?_
      refine qO 8 25 (fl_ 10 511) (fun K hK=>?_)
      refine goes_ Tryz.func25 (by kernel_rfl) rfl #[.agg #[.int .i64 ((y19 l0 Aa).f0),.string ((y19 l0 Aa).f1),.slice Aw ((y19 l0 Aa).f2).length Ay],.agg #[.int .i64 ((y19 l1 Aa).f0),.string ((y19 l1 Aa).f1),.slice Az ((y19 l1 Aa).f2).length Ba]] (by rfl) rfl rfl qy1 ?_
      with_reducible refine(laws_eqLit.calls k1 ((y19 l0 Aa).f0) ((y19 l0 Aa).f1) _ _ ((y19 l0 Aa).f2) ((y19 l1 Aa).f0) ((y19 l1 Aa).f1) _ _ ((y19 l1 Aa).f2) false _ (qc (Kd.C_below As.out HB.out)) Bd.out (qc (Kd.C_below At.out HB.out)) Bg.out A7.out).mono ?_
      rintro e Cg ⟨rfl,hb⟩
      refine⟨_,rfl, ?_⟩
      replace HB:=y0.mk (y5 qb hb)
      (try clear hb)
      refine hK.out _ _ ⟨((HB.out.cell (World.block_lt_of_cell? w _ Ad)).trans Ad),((HB.out.cell (World.block_lt_of_cell? w _ Ac)).trans Ac),((HB.out.cell (World.block_lt_of_cell? w _ Ab)).trans Ab),((HB.out.cell (World.block_lt_of_cell? w _ Ah)).trans Ah),((HB.out.cell (World.block_lt_of_cell? w _ Ag)).trans Ag),((HB.out.cell (World.block_lt_of_cell? w _ Af)).trans Af)⟩ (fun hHeld=>?_)
      clear hK K
      refine qx 25 ?_
      refine qp 9 26 (fl_ 10 1023) ?_
      refine done_ (done_of HT_.out (by kernel_rfl)) ?_
      try go_wp2
      go_ret
      exact⟨qf,qb⟩
    ·rw [if_neg c4]at H
     have Bo:=decide_eq_false c4
     clear c4
     obtain rfl:=Option.some.inj H
     go_wp2
     go_ret
     exact⟨qf,qb⟩
 ·rw [if_neg c3]at H
  have Bl:((l0.length:Int) == (l1.length:Int))=false:=beq_eq_false_iff_ne.mpr c3
  have Bm:((l0.length:Int) != (l1.length:Int))=true:=bne_iff_ne.mpr c3
  have Bn:(l0.length == l1.length)=false:=by first|simpa using c3|(simp at c3 ⊢;omega)
  obtain rfl:=Option.some.inj H
  go_enter Tryz.func26,Tryz.ntmps26
  go_wp2
  go_ret
  exact⟨qf,qb⟩
def laws_eqRule.f (k:Nat) (l0_0:List (S48)) (a0_1:Int) (a0_2:ByteArray) (l0_3:List Int) (l0_4:List (S33)) (l1_0:List (S48)) (a1_1:Int) (a1_2:ByteArray) (l1_3:List Int) (l1_4:List (S33)):Option (Bool):=(laws_eqExpS.f k l0_0 l1_0).bind fun t503=>(if t503=true then((laws_eqLit.f k a0_1 a0_2 l0_3 a1_1 a1_2 l1_3).bind fun t504=>(if t504=true then((laws_eqLitS.f k l0_4 l1_4).bind fun t505=>(if t505=true then(some true)else(some false)))else(some false)))else(some false))
set_option maxHeartbeats 8000000 in
set_option maxRecDepth 100000 in
theorem laws_eqRule.calls (k:Nat) (At:Option Addr) (Au:Nat) (Af:List (S48)) (Am:Int) (Ap:ByteArray) (Ay:Option Addr) (Az:Nat) (Ah:List Int) (Bc:Option Addr) (Bd:Nat) (Aj:List (S33)) (Av:Option Addr) (Aw:Nat) (Ag:List (S48)) (Ar:Int) (As:ByteArray) (Ba:Option Addr) (Bb:Nat) (Ai:List Int) (Be:Option Addr) (Bf:Nat) (Ak:List (S33)) (r:Bool) (w:World) (Bu:Kd.C k48 w At Af.length Af) (Bv:Af.length≤Au) (Bw:Kd.C (Kd.int .i64) w Ay Ah.length Ah) (Bx:Ah.length≤Az) (Bz:Kd.C k33 w Bc Aj.length Aj) (Ca:Aj.length≤Bd) (Cb:Kd.C k48 w Av Ag.length Ag) (Cc:Ag.length≤Aw) (Cd:Kd.C (Kd.int .i64) w Ba Ai.length Ai) (Ce:Ai.length≤Bb) (Cf:Kd.C k33 w Be Ak.length Ak) (Cg:Ak.length≤Bf) (h:laws_eqRule.f k Af Am Ap Ah Aj Ag Ar As Ai Ak=some r) :
  Calls Tryz.prog 9 #[.agg #[.slice At Af.length Au,.int .i64 Am,.string Ap,.slice Ay Ah.length Az,.slice Bc Aj.length Bd],.agg #[.slice Av Ag.length Aw,.int .i64 Ar,.string As,.slice Ba Ai.length Bb,.slice Be Ak.length Bf]] w fun e w'=>e=.returned (.bool r)∧Below w.heap.size w w':=by
 have Kb:=Tryz.underlying36
 have Ke:=Tryz.underlying33
 have Bg:=y0.mk Bu
 have Bh:=y0.mk Bv
 clear Bu Bv
 have Bk:=y0.mk Bw
 have Bl:=y0.mk Bx
 clear Bw Bx
 have Ch:=y0.mk Bz
 have Ci:=y0.mk Ca
 clear Bz Ca
 have Bi:=y0.mk Cb
 have Bj:=y0.mk Cc
 clear Cb Cc
 have Bm:=y0.mk Cd
 have Bn:=y0.mk Ce
 clear Cd Ce
 have Cj:=y0.mk Cf
 have Ck:=y0.mk Cg
 clear Cf Cg
 have HB:=y0.mk (Below.refl w.heap.size w)
 have H:((laws_eqExpS.f k Af Ag).bind fun Cl=>(if Cl=true then((laws_eqLit.f k Am Ap Ah Ar As Ai).bind fun Cm=>(if Cm=true then((laws_eqLitS.f k Aj Ak).bind fun Cn=>(if Cn=true then(some true)else(some false)))else(some false)))else(some false)))=some r:=h
 clear h
 obtain⟨Cl,A3,H⟩:=qB H
 by_cases c4:Cl=true
 ·subst c4
  replace H:=qT H
  obtain⟨Cm,A5,H⟩:=qB H
  by_cases c6:Cm=true
  ·subst c6
   replace H:=qT H
   obtain⟨Cn,A7,H⟩:=qB H
   by_cases c8:Cn=true
   ·subst c8
    replace H:=qT H
    obtain rfl:=Option.some.inj H
    go_enter Tryz.func9,Tryz.ntmps9
    go_wp2_with (first|((with_reducible refine y16 (N:=2) rfl ?_);refine qe 2 #[.slice At Af.length Au,.int .i64 Am,.string Ap,.slice Ay Ah.length Az,.slice Bc Aj.length Bd] 36 ?_;intro Bo hg w9 hbox hb;have Aa:=y0.mk (hbox);have Bp:=y0.mk (qg (w:=w) hg);have Bq:=y0.mk (qg (w:=w) hg);replace HB:=y0.mk (y5 qb hb);clear hb hbox hg)|((with_reducible refine y16 (N:=3) rfl ?_);refine qe 3 #[.slice Av Ag.length Aw,.int .i64 Ar,.string As,.slice Ba Ai.length Bb,.slice Be Ak.length Bf] 36 ?_;intro Br hg Kf hbox hb;have Ab:=y0.mk (hbox);have Bs:=y0.mk (qg (w:=w) hg);have Bt:=y0.mk (qg (w:=w) hg);replace HB:=y0.mk (y5 qb hb);have Ac:=y0.mk (qn Aa.out hg);have Ad:=y0.mk (qm Aa.out hg);replace Aa:=y0.mk (qK Aa.out hb);clear hb hbox hg;have Jt:=Ac.out;have Ju:=Ad.out;obtain⟨Co,Cp,Cq,Cr,Cs,Ct,Cu,Cv,Cw,Cx⟩:=qz5 Aa.out;obtain⟨Cy,Cz,Da,Db,Dc,Dd,De,Df,Dg,Dh⟩:=qz5 Ab.out)|((with_reducible refine y15 (f:=24) rfl ?_);refine y17 (some 9) rfl rfl Tryz.func24 (by kernel_rfl) rfl #[.slice At Af.length Au,.slice Av Ag.length Aw] rfl qy1 ?_;(with_reducible refine(laws_eqExpS.calls k _ _ Af _ _ Ag true _ (qc (Kd.C_below Bg.out HB.out)) Bh.out (qc (Kd.C_below Bi.out HB.out)) Bj.out A3.out).mono ?_);rintro e Kg ⟨rfl,hb⟩;refine⟨_,rfl, ?_⟩;replace Aa:=y0.mk (qK Aa.out hb);replace Ab:=y0.mk (qK Ab.out hb);replace HB:=y0.mk (y5 qb hb);(try clear hb);obtain⟨Di,Dj,Dk,Dl,Dm,Do,Dp,Dq,Dr,Ds⟩:=qz5 Aa.out;obtain⟨Dt,Du,Dw,Dx,Dy,Dz,Ea,Eb,Ec,Ed⟩:=qz5 Ab.out)|((with_reducible refine y15 (f:=25) rfl ?_);refine y17 (some 15) rfl rfl Tryz.func25 (by kernel_rfl) rfl #[.agg #[.int .i64 Am,.string Ap,.slice Ay Ah.length Az],.agg #[.int .i64 Ar,.string As,.slice Ba Ai.length Bb]] rfl qy1 ?_;(with_reducible refine(laws_eqLit.calls k Am Ap _ _ Ah Ar As _ _ Ai true _ (qc (Kd.C_below Bk.out HB.out)) Bl.out (qc (Kd.C_below Bm.out HB.out)) Bn.out A5.out).mono ?_);rintro e Kh ⟨rfl,hb⟩;refine⟨_,rfl, ?_⟩;replace Aa:=y0.mk (qK Aa.out hb);replace Ab:=y0.mk (qK Ab.out hb);replace HB:=y0.mk (y5 qb hb);(try clear hb);obtain⟨Ee,Ef,Eg,Eh,Ei,Ej,Ek,El,Em,En⟩:=qz5 Aa.out;obtain⟨Eo,Ep,Eq,Er,Es,Et,Eu,Ew,Ex,Ey⟩:=qz5 Ab.out)|((with_reducible refine y15 (f:=26) rfl ?_);refine y17 (some 21) rfl rfl Tryz.func26 (by kernel_rfl) rfl #[.slice Bc Aj.length Bd,.slice Be Ak.length Bf] rfl qy1 ?_;(with_reducible refine(laws_eqLitS.calls k _ _ Aj _ _ Ak true _ (qc (Kd.C_below Ch.out HB.out)) Ci.out (qc (Kd.C_below Cj.out HB.out)) Ck.out A7.out).mono ?_);rintro e Ki ⟨rfl,hb⟩;refine⟨_,rfl, ?_⟩;replace Aa:=y0.mk (qK Aa.out hb);replace Ab:=y0.mk (qK Ab.out hb);replace HB:=y0.mk (y5 qb hb);(try clear hb)))
    go_ret
    exact⟨qf,qb⟩
   ·replace c8:=Bool.eq_false_iff.mpr c8
    subst c8
    replace H:=qF H
    obtain rfl:=Option.some.inj H
    go_enter Tryz.func9,Tryz.ntmps9
    go_wp2_with (first|((with_reducible refine y16 (N:=2) rfl ?_);refine qe 2 #[.slice At Af.length Au,.int .i64 Am,.string Ap,.slice Ay Ah.length Az,.slice Bc Aj.length Bd] 36 ?_;intro Bo hg Kj hbox hb;have Aa:=y0.mk (hbox);have Bp:=y0.mk (qg (w:=w) hg);have Bq:=y0.mk (qg (w:=w) hg);replace HB:=y0.mk (y5 qb hb);clear hb hbox hg)|((with_reducible refine y16 (N:=3) rfl ?_);refine qe 3 #[.slice Av Ag.length Aw,.int .i64 Ar,.string As,.slice Ba Ai.length Bb,.slice Be Ak.length Bf] 36 ?_;intro Br hg Kk hbox hb;have Ab:=y0.mk (hbox);have Bs:=y0.mk (qg (w:=w) hg);have Bt:=y0.mk (qg (w:=w) hg);replace HB:=y0.mk (y5 qb hb);have Ac:=y0.mk (qn Aa.out hg);have Ad:=y0.mk (qm Aa.out hg);replace Aa:=y0.mk (qK Aa.out hb);clear hb hbox hg;have Jv:=Ac.out;have Jw:=Ad.out;obtain⟨Ez,Fa,Fb,Fc,Fd,Fe,Ff,Fg,Fh,Fi⟩:=qz5 Aa.out;obtain⟨Fj,Fk,Fl,Fm,Fn,Fo,Fp,Fq,Fr,Fs⟩:=qz5 Ab.out)|((with_reducible refine y15 (f:=24) rfl ?_);refine y17 (some 9) rfl rfl Tryz.func24 (by kernel_rfl) rfl #[.slice At Af.length Au,.slice Av Ag.length Aw] rfl qy1 ?_;(with_reducible refine(laws_eqExpS.calls k _ _ Af _ _ Ag true _ (qc (Kd.C_below Bg.out HB.out)) Bh.out (qc (Kd.C_below Bi.out HB.out)) Bj.out A3.out).mono ?_);rintro e Kl ⟨rfl,hb⟩;refine⟨_,rfl, ?_⟩;replace Aa:=y0.mk (qK Aa.out hb);replace Ab:=y0.mk (qK Ab.out hb);replace HB:=y0.mk (y5 qb hb);(try clear hb);obtain⟨Ft,Fu,Fv,Fx,Fy,Fz,Ga,Gb,Gc,Gd⟩:=qz5 Aa.out;obtain⟨Ge,Gf,Gg,Gh,Gi,Gj,Gk,Gl,Gm,Gn⟩:=qz5 Ab.out)|((with_reducible refine y15 (f:=25) rfl ?_);refine y17 (some 15) rfl rfl Tryz.func25 (by kernel_rfl) rfl #[.agg #[.int .i64 Am,.string Ap,.slice Ay Ah.length Az],.agg #[.int .i64 Ar,.string As,.slice Ba Ai.length Bb]] rfl qy1 ?_;(with_reducible refine(laws_eqLit.calls k Am Ap _ _ Ah Ar As _ _ Ai true _ (qc (Kd.C_below Bk.out HB.out)) Bl.out (qc (Kd.C_below Bm.out HB.out)) Bn.out A5.out).mono ?_);rintro e Km ⟨rfl,hb⟩;refine⟨_,rfl, ?_⟩;replace Aa:=y0.mk (qK Aa.out hb);replace Ab:=y0.mk (qK Ab.out hb);replace HB:=y0.mk (y5 qb hb);(try clear hb);obtain⟨Gp,Gq,Gr,Gs,Gt,Gu,Gv,Gw,Gx,Gy⟩:=qz5 Aa.out;obtain⟨Gz,Ha,Hb,Hc,Hd,He,Hf,Hg,Hh,Hi⟩:=qz5 Ab.out)|((with_reducible refine y15 (f:=26) rfl ?_);refine y17 (some 21) rfl rfl Tryz.func26 (by kernel_rfl) rfl #[.slice Bc Aj.length Bd,.slice Be Ak.length Bf] rfl qy1 ?_;(with_reducible refine(laws_eqLitS.calls k _ _ Aj _ _ Ak false _ (qc (Kd.C_below Ch.out HB.out)) Ci.out (qc (Kd.C_below Cj.out HB.out)) Ck.out A7.out).mono ?_);rintro e Kn ⟨rfl,hb⟩;refine⟨_,rfl, ?_⟩;replace Aa:=y0.mk (qK Aa.out hb);replace Ab:=y0.mk (qK Ab.out hb);replace HB:=y0.mk (y5 qb hb);(try clear hb)))
    go_ret
    exact⟨qf,qb⟩
  ·replace c6:=Bool.eq_false_iff.mpr c6
   subst c6
   replace H:=qF H
   obtain rfl:=Option.some.inj H
   go_enter Tryz.func9,Tryz.ntmps9
   go_wp2_with (first|((with_reducible refine y16 (N:=2) rfl ?_);refine qe 2 #[.slice At Af.length Au,.int .i64 Am,.string Ap,.slice Ay Ah.length Az,.slice Bc Aj.length Bd] 36 ?_;intro Bo hg Ko hbox hb;have Aa:=y0.mk (hbox);have Bp:=y0.mk (qg (w:=w) hg);have Bq:=y0.mk (qg (w:=w) hg);replace HB:=y0.mk (y5 qb hb);clear hb hbox hg)|((with_reducible refine y16 (N:=3) rfl ?_);refine qe 3 #[.slice Av Ag.length Aw,.int .i64 Ar,.string As,.slice Ba Ai.length Bb,.slice Be Ak.length Bf] 36 ?_;intro Br hg Kp hbox hb;have Ab:=y0.mk (hbox);have Bs:=y0.mk (qg (w:=w) hg);have Bt:=y0.mk (qg (w:=w) hg);replace HB:=y0.mk (y5 qb hb);have Ac:=y0.mk (qn Aa.out hg);have Ad:=y0.mk (qm Aa.out hg);replace Aa:=y0.mk (qK Aa.out hb);clear hb hbox hg;have Jx:=Ac.out;have Jy:=Ad.out;obtain⟨Hj,Hk,Hl,Hm,Hn,Ho,Hp,Hq,Hr,Hs⟩:=qz5 Aa.out;obtain⟨Ht,Hu,Hv,Hw,Hx,Hy,Hz,Ia,Ib,Ic⟩:=qz5 Ab.out)|((with_reducible refine y15 (f:=24) rfl ?_);refine y17 (some 9) rfl rfl Tryz.func24 (by kernel_rfl) rfl #[.slice At Af.length Au,.slice Av Ag.length Aw] rfl qy1 ?_;(with_reducible refine(laws_eqExpS.calls k _ _ Af _ _ Ag true _ (qc (Kd.C_below Bg.out HB.out)) Bh.out (qc (Kd.C_below Bi.out HB.out)) Bj.out A3.out).mono ?_);rintro e Kq ⟨rfl,hb⟩;refine⟨_,rfl, ?_⟩;replace Aa:=y0.mk (qK Aa.out hb);replace Ab:=y0.mk (qK Ab.out hb);replace HB:=y0.mk (y5 qb hb);(try clear hb);obtain⟨Id,Ie,If,Ig,Ih,Ii,Ij,Ik,Il,Im⟩:=qz5 Aa.out;obtain⟨Io,Ip,Iq,Ir,Is,Iu,Iv,Iw,Ix,Iy⟩:=qz5 Ab.out)|((with_reducible refine y15 (f:=25) rfl ?_);refine y17 (some 15) rfl rfl Tryz.func25 (by kernel_rfl) rfl #[.agg #[.int .i64 Am,.string Ap,.slice Ay Ah.length Az],.agg #[.int .i64 Ar,.string As,.slice Ba Ai.length Bb]] rfl qy1 ?_;(with_reducible refine(laws_eqLit.calls k Am Ap _ _ Ah Ar As _ _ Ai false _ (qc (Kd.C_below Bk.out HB.out)) Bl.out (qc (Kd.C_below Bm.out HB.out)) Bn.out A5.out).mono ?_);rintro e Kr ⟨rfl,hb⟩;refine⟨_,rfl, ?_⟩;replace Aa:=y0.mk (qK Aa.out hb);replace Ab:=y0.mk (qK Ab.out hb);replace HB:=y0.mk (y5 qb hb);(try clear hb)))
   go_ret
   exact⟨qf,qb⟩
 ·replace c4:=Bool.eq_false_iff.mpr c4
  subst c4
  replace H:=qF H
  obtain rfl:=Option.some.inj H
  go_enter Tryz.func9,Tryz.ntmps9
  go_wp2_with (first|((with_reducible refine y16 (N:=2) rfl ?_);refine qe 2 #[.slice At Af.length Au,.int .i64 Am,.string Ap,.slice Ay Ah.length Az,.slice Bc Aj.length Bd] 36 ?_;intro Bo hg Ks hbox hb;have Aa:=y0.mk (hbox);have Bp:=y0.mk (qg (w:=w) hg);have Bq:=y0.mk (qg (w:=w) hg);replace HB:=y0.mk (y5 qb hb);clear hb hbox hg)|((with_reducible refine y16 (N:=3) rfl ?_);refine qe 3 #[.slice Av Ag.length Aw,.int .i64 Ar,.string As,.slice Ba Ai.length Bb,.slice Be Ak.length Bf] 36 ?_;intro Br hg Kt hbox hb;have Ab:=y0.mk (hbox);have Bs:=y0.mk (qg (w:=w) hg);have Bt:=y0.mk (qg (w:=w) hg);replace HB:=y0.mk (y5 qb hb);have Ac:=y0.mk (qn Aa.out hg);have Ad:=y0.mk (qm Aa.out hg);replace Aa:=y0.mk (qK Aa.out hb);clear hb hbox hg;have Jz:=Ac.out;have Ka:=Ad.out;obtain⟨Iz,Ja,Jb,Jc,Jd,Je,Jf,Jg,Jh,Ji⟩:=qz5 Aa.out;obtain⟨Jj,Jk,Jl,Jm,Jn,Jo,Jp,Jq,Jr,Js⟩:=qz5 Ab.out)|((with_reducible refine y15 (f:=24) rfl ?_);refine y17 (some 9) rfl rfl Tryz.func24 (by kernel_rfl) rfl #[.slice At Af.length Au,.slice Av Ag.length Aw] rfl qy1 ?_;(with_reducible refine(laws_eqExpS.calls k _ _ Af _ _ Ag false _ (qc (Kd.C_below Bg.out HB.out)) Bh.out (qc (Kd.C_below Bi.out HB.out)) Bj.out A3.out).mono ?_);rintro e Ku ⟨rfl,hb⟩;refine⟨_,rfl, ?_⟩;replace Aa:=y0.mk (qK Aa.out hb);replace Ab:=y0.mk (qK Ab.out hb);replace HB:=y0.mk (y5 qb hb);(try clear hb)))
  go_ret
  exact⟨qf,qb⟩
def laws_markIntS.l0:Nat→List Int→Int→Int→Option (Int×List Int)
 | 0,_,_,_=>none
 | k + 1,x0,x1,x5=>if x5 < (x0.length:Int)then(if 0≤x5 then(laws_markIntS.l0 k (x0.set (x5:Int).toNat x1) (wrap64 (x1 + 1)) (wrap64 (x5 + 1)))else(none))else(some (x1,x0))
def laws_markIntS.f (k:Nat) (l0:List Int) (a1:Int):Option (Int×List Int):=laws_markIntS.l0 k l0 a1 0
set_option maxHeartbeats 8000000 in
set_option maxRecDepth 100000 in
theorem laws_markIntS.calls (k:Nat) (P0_:Nat→Prop) (u9000_:Value) (l0:List Int) (a1:Int) (r1:Int) (r2:List Int) (w0 w:World) (hB:Below w0.heap.size w0 w) (Aw:Kd.R (Kd.int .i64) 3 w w0.heap.size P0_ u9000_ l0) (h:laws_markIntS.f k l0 a1=some (r1,r2)) :
  Calls Tryz.prog 51 #[u9000_,.int .i64 a1] w fun e w'=>e=.returned (.int .i64 r1)∧Kd.R (Kd.int .i64) 3 w' w0.heap.size (fun k_=>(P0_ k_∨w.heap.size≤k_)) u9000_ r2∧Below w0.heap.size w0 w'∧Kept w w' (fun k_=>P0_ k_):=by
 have Ay:=y0.mk (show Kd.R (Kd.int .i64) 3 w w0.heap.size (fun k_=>(P0_ k_∨w.heap.size≤k_)) u9000_ l0 from Kd.R_mono Aw (fun k_ hk=>(.inl hk)))
 have HK:=y0.mk (Kept.refl w (fun k_=>P0_ k_))
 have Bf:=y0.mk hB.size
 have HB:=y0.mk hB
 clear hB
 have H:(laws_markIntS.l0 k l0 a1 0)=some (r1,r2):=h
 clear h
 have H':=y0.mk H
 clear H
 go_enter Tryz.func51,Tryz.ntmps51
 go_wp2
 go_loopg [1,5] k (fun kq v1 v5 w'=>∃(Af:List Int) (Ac:Int) (Aa:Int),v1=.int .i64 Ac∧v5=.int .i64 Aa∧y0 (laws_markIntS.l0 kq Af Ac Aa=some (r1,r2))∧y0 (kq≤k)∧y0 (Kd.R (Kd.int .i64) 3 w' w0.heap.size (fun k_=>(P0_ k_∨w.heap.size≤k_)) u9000_ Af)∧y0 (Kept w w' (fun k_=>P0_ k_))∧y0 (Below w0.heap.size w0 w'))
 case atStart=>exact⟨(l0),(a1),(0),qy2,qy2,H',⟨Nat.le_refl _⟩,⟨qR Ay.out⟩,⟨by repeat(first|(with_reducible first|exact HK.out|apply Kept.alloc|apply Kept.drewN|apply Kept.drew)|exact HK.out)⟩,⟨qb⟩⟩
 case round =>
  clear H'
  obtain⟨Af,Ac,Aa,rfl,rfl,HA,Am,Ab,HK,HB⟩:=hrel
  cases gk with
  | zero=>exact absurd HA.out (by simp [laws_markIntS.l0])
  | succ k1 =>
   have H:=HA.out
   clear HA
   simp only [laws_markIntS.l0]at H
   by_cases c3:Aa < (Af.length:Int)
   ·rw [if_pos c3]at H
    have Aj:=decide_eq_true c3
    clear c3
    obtain⟨c4,H⟩:=qo H
    have Az:decide (0≤Aa)=true:=decide_eq_true c4
    clear c4
    obtain⟨Ag,Ad⟩:∃ y_:List Int,y_=(Af.set (Aa:Int).toNat Ac):=⟨_,rfl⟩
    replace H:(laws_markIntS.l0 k1 Ag (wrap64 (Ac + 1)) (wrap64 (Aa + 1)))=some (r1,r2):=by first|(rw [Ad];with_reducible exact H)|(have H2_:=(Option.bind_some _ _).symm.trans H;rw [Ad];with_reducible exact H2_)|(have H2_:=(Option.bind_some _ _).symm.trans H;with_reducible exact H2_)|with_reducible exact H|(rw [Ad];exact H)|exact H
    have Ah:=y0.mk Ad
    clear Ad
    have H':=y0.mk H
    clear H
    obtain⟨Bg,Ba,Bb⟩:=Kd.R_slice Ab.out
    subst Bb
    have p5:0≤(Aa:Int):=of_decide_eq_true qy0
    have q5:(Aa:Int) < ((Af.length:Int):Int):=of_decide_eq_true qy0
    obtain⟨Ai,Bh,Ap,Ar,Bc,Bi,As⟩:=Kd.R_form Ab.out (by omega)
    (first|cases Ap|(injection Ap with ea_ en_ ec_;(first|subst ea_|(injection ea_ with ea_;subst ea_));subst ec_;clear en_))
    have Bd:=y0.mk Ar
    have Bj:=y0.mk As
    clear Ar Bc As
    have At:=y0.mk (show(P0_ Ai∨w.heap.size≤Ai)from(Ab.out.1 _ rfl))
    obtain⟨Au,Av⟩:=Kd.R_celln 0 Ab.out (Aa:Int) p5 q5
    replace p5:=eq_true p5
    replace q5:=eq_true q5
    have Ak:=Kd.R_putg Ab.out (Aa:Int) Ac
    go_wp2_with (first|((with_reducible refine gate_store (t:=3) (p:=15) rfl ?_);refine store_event (t:=3) (p:=15) (v:=?vo_w8) (w1:=(wr.setCell ⟨Ai,(Aa:Int).toNat,none⟩ (.int .i64 Ac))) ?hg ?ho ?hn ?hr ?_;(case ho=>rfl);(case hg=>rfl);(case hn=>rfl);(case hr=>first|(go_simp;done)|(go_simp;rfl));intro w8 hw;have hg:wr.grownBy w8 (some Ai):=(by rw [hw];exact Ak.2);have hp_:Kd.R (Kd.int .i64) 3 w8 w0.heap.size (fun k_=>(P0_ k_∨w.heap.size≤k_)) (.slice (some ⟨Ai,0,none⟩) Af.length Ba) Ag:=(by rw [hw,Ah.out];exact Ak.1);clear Ak;replace HB:=y0.mk ((by rw [hw];exact y3 (HB.out) Bd.out:Below w0.heap.size w0 w8));replace HK:=y0.mk (Kept.of_grown (S:=(fun k_=>P0_ k_)) hg (by repeat(first|(with_reducible first|exact HK.out|apply Kept.alloc|apply Kept.drewN|apply Kept.drew)|exact HK.out)) (fun k_ e_=>(Ab.out.1 k_ e_)));replace Ab:=y0.mk (hp_);clear hg hw hp_))
    go_roundg k1
    case measure=>have:=Am.out;omega
    exact⟨(Ag),(wrap64 (Ac + 1)),(wrap64 (Aa + 1)),qy2,qy2,H',⟨by have:=Am.out;omega⟩,⟨qR Ab.out⟩,⟨by repeat(first|(with_reducible first|exact HK.out|apply Kept.alloc|apply Kept.drewN|apply Kept.drew)|exact HK.out)⟩,⟨qb⟩⟩
   ·rw [if_neg c3]at H
    have Aj:=decide_eq_false c3
    clear c3
    simp only [Option.some.injEq,Prod.mk.injEq]at H
    obtain⟨rfl,rfl⟩:=H
    obtain⟨Bk,Bl,Be⟩:=Kd.R_slice Ab.out
    subst Be
    go_wp2
    go_ret
    exact⟨qf,by(with_reducible repeat(first|apply Kd.R_alloc|apply Kd.R_drewN|apply Kd.R_drew));exact Ab.out,qb,by repeat(first|(with_reducible first|exact HK.out|apply Kept.alloc|apply Kept.drewN|apply Kept.drew)|exact HK.out)⟩
end Go.Proofs.YtkdabljlfbmpdaaGreat.Pb
end
section
namespace Go.Proofs.YtkdabljlfbmpdaaGreat.Pb
open Go.RowKit Go.Proofs.YtkdabljlfbmpdaaGreatW.PrintWords Go.Proofs.YtkdabljlfbmpdaaGreatW.PrintLast Go.Proofs.YtkdabljlfbmpdaaGreatW.PrintMore
attribute [local go_sem] max2_int min2_int max_two min_two max_three min_three max_four min_four   -- for this text's walks alone
set_option linter.unusedVariables false
set_option linter.unusedSimpArgs false
def laws_markText.l0:Nat→Int→ByteArray→Option (ByteArray)
 | 0,_,_=>none
 | k + 1,x0,x3=>if x0 > 0 then((some (([(wrap64 (48 + (Int.tmod x0 10))) % 256]:List Int):List Int)).bind fun y507=>(if(strOfNums y507).size + x3.size≤9223372036854775807 then(laws_markText.l0 k (wrap64 (Int.tdiv x0 10)) ((strOfNums y507) ++ x3))else(none)))else(if 1 + x3.size≤9223372036854775807 then(some ((⟨#[109]⟩:ByteArray) ++ x3))else(none))
def laws_markText.f (k:Nat) (a0:Int):Option (ByteArray):=if a0≤0 then(some (⟨#[109,48]⟩:ByteArray))else(laws_markText.l0 k a0 (⟨#[]⟩:ByteArray))
set_option maxHeartbeats 8000000 in
set_option maxRecDepth 100000 in
theorem laws_markText.calls (k:Nat) (a0:Int) (r:ByteArray) (w:World) (h:laws_markText.f k a0=some r) :
  Calls Tryz.prog 30 #[.int .i64 a0] w fun e w'=>e=.returned (.string r)∧Below w.heap.size w w':=by
 have HB:=y0.mk (Below.refl w.heap.size w)
 have H:(if a0≤0 then(some (⟨#[109,48]⟩:ByteArray))else(laws_markText.l0 k a0 (⟨#[]⟩:ByteArray)))=some r:=h
 clear h
 by_cases c2:a0≤0
 ·rw [if_pos c2]at H
  have Ag:=decide_eq_true c2
  clear c2
  obtain rfl:=Option.some.inj H
  go_enter Tryz.func30,Tryz.ntmps30
  go_wp2
  go_ret
  exact⟨qf,qb⟩
 ·rw [if_neg c2]at H
  have Ag:=decide_eq_false c2
  clear c2
  have H':=y0.mk H
  clear H
  go_enter Tryz.func30,Tryz.ntmps30
  go_wp2
  go_loopg [0,3] k (fun kq v0 v3 w'=>∃(Aa:Int) (Ac:ByteArray),v0=.int .i64 Aa∧v3=.string Ac∧y0 (laws_markText.l0 kq Aa Ac=some r)∧y0 (kq≤k)∧y0 (Below w.heap.size w w'))
  case atStart=>exact⟨(a0),((⟨#[]⟩:ByteArray)),qy2,qy2,H',⟨Nat.le_refl _⟩,⟨qb⟩⟩
  case round =>
   clear H'
   (try clear Ag)
   obtain⟨Aa,Ac,rfl,rfl,HA,Ak,HB⟩:=hrel
   cases gk with
   | zero=>exact absurd HA.out (by simp [laws_markText.l0])
   | succ k1 =>
    have H:=HA.out
    clear HA
    simp only [laws_markText.l0]at H
    by_cases c3:Aa > 0
    ·rw [if_pos c3]at H
     have Aj:decide (0 < Aa)=true:=decide_eq_true c3
     clear c3
     obtain⟨Af,Ab⟩:∃ y_:List Int,y_=(([(wrap64 (48 + (Int.tmod Aa 10))) % 256]:List Int)):=⟨_,rfl⟩
     replace H:(if(strOfNums Af).size + Ac.size≤9223372036854775807 then(laws_markText.l0 k1 (wrap64 (Int.tdiv Aa 10)) ((strOfNums Af) ++ Ac))else(none))=some r:=by first|(rw [Ab];with_reducible exact H)|(have H2_:=(Option.bind_some _ _).symm.trans H;rw [Ab];with_reducible exact H2_)|(have H2_:=(Option.bind_some _ _).symm.trans H;with_reducible exact H2_)|with_reducible exact H|(rw [Ab];exact H)|exact H
     have Ad:=y0.mk Ab
     clear Ab
     obtain⟨c4,H⟩:=qo H
     have Am:=eq_true c4
     have Ap:=decide_eq_true c4
     have Ar:=eq_false (Nat.not_lt.2 c4)
     have H':=y0.mk H
     clear H
     go_wp2_with (first|((with_reducible refine y16 (N:=12) rfl ?_);refine qL (Kd.int .u8) 5 12 ([(wrap64 (48 + (Int.tmod Aa 10))) % 256]:List Int) ?_;intro As w5 Ah hb hg_ hnew_;clear hg_ hnew_;(first|rw [← Ad.out]at Ah|(simp only [Int.reduceToNat]at Ah;rw [← Ad.out]at Ah));have Ai:=y0.mk (Kd.R_lower Ah (y4 qb));replace HB:=y0.mk (y5 qb hb);clear hb Ah;have At:=own_string (P:=Tryz.prog) Tryz.underlying85 Tryz.underlying5 Tryz.underlying9 (Kd.own_of_R Ai.out)))
     go_roundg k1
     case measure=>have:=Ak.out;omega
     exact⟨(wrap64 (Int.tdiv Aa 10)),((strOfNums Af) ++ Ac),qy2,qy2,H',⟨by have:=Ak.out;omega⟩,⟨qb⟩⟩
    ·rw [if_neg c3]at H
     have Aj:decide (0 < Aa)=false:=decide_eq_false c3
     clear c3
     obtain⟨c8,H⟩:=qo H
     have Au:=eq_true c8
     have Av:=decide_eq_true c8
     have Aw:=eq_false (Nat.not_lt.2 c8)
     obtain rfl:=Option.some.inj H
     go_wp2
     go_ret
     exact⟨qf,qb⟩
def laws_markExpS.l0:Nat→List (S48)→Int→Int→Option (Int×List (S48))
 | 0,_,_,_=>none
 | k + 1,x0,x1,x5=>if x5 < (x0.length:Int)then(if 0≤x5 then((laws_markText.f k (wrap64 (x1 + 1))).bind fun t=>(laws_markIntS.f k (y20 x0 x5).f2 (wrap64 (wrap64 (x1 + 1) + 1))).bind fun bt=>laws_markExpS.l0 k (x0.set x5.toNat (⟨x1,t,bt.2⟩:S48)) bt.1 (wrap64 (x5 + 1)))else none)else some (x1,x0)
def laws_markExpS.f (k:Nat) (l0:List (S48)) (a1:Int):Option (Int×List (S48)):=laws_markExpS.l0 k l0 a1 0
theorem laws_markExpS.put0 {w:World} {base:Nat} {ok:Nat→Prop} {x:S48} {c:List Value} (v:Int) (h:k48.M w base ok x c):k48.M w base ok (⟨v,x.f1,x.f2⟩:S48) (c.take 0 ++ [.int .i64 v] ++ c.drop (0 + 1)):=by
 obtain⟨u,rfl,hR⟩:=k48_openM h
 exact k48_mkM _ _ _ (⟨v,x.f1,x.f2⟩:S48) hR
theorem laws_markExpS.put1 {w:World} {base:Nat} {ok:Nat→Prop} {x:S48} {c:List Value} (v:ByteArray) (h:k48.M w base ok x c):k48.M w base ok (⟨x.f0,v,x.f2⟩:S48) (c.take 1 ++ [.string v] ++ c.drop (1 + 1)):=by
 obtain⟨u,rfl,hR⟩:=k48_openM h
 exact k48_mkM _ _ _ (⟨x.f0,v,x.f2⟩:S48) hR
theorem laws_markExpS.get {x0:List (S48)} {i:Int} {n:Nat} (h0:0≤i) (h1:i < n) (hn:n=x0.length) (y:S48):(x0.set i.toNat y).getD i.toNat z48=y:=by
 have:i.toNat < x0.length:=by omega
 simp [List.getD,this]
set_option maxHeartbeats 8000000 in
set_option maxRecDepth 100000 in
theorem laws_markExpS.calls (k:Nat) (lo hi:Nat) (A0:Option Addr) (c0:Nat) (l0:List (S48)) (a1:Int) (r1:Int) (r2:List (S48)) (w0 w:World) (hB:Below w0.heap.size w0 w) (hlo:w0.heap.size≤lo) (ho:QIv.OS k48 48 lo hi (.slice A0 l0.length c0) l0 w) (h:laws_markExpS.f k l0 a1=some (r1,r2)) :
  Calls Tryz.prog 27 #[.slice A0 l0.length c0,.int .i64 a1] w fun e w'=>e=.returned (.int .i64 r1)∧QIv.OS k48 48 lo hi (.slice A0 l0.length c0) r2 w'∧Below w0.heap.size w0 w'∧QIv.KI lo hi w w':=by
 have hu:=Tryz.underlying48
 have HO:=y0.mk ho
 have HB:=y0.mk hB
 have HL:=y0.mk hlo
 have HK:y0 (QIv.KI lo hi w w):=⟨Kept.refl w _⟩
 have H':y0 (laws_markExpS.l0 k l0 a1 0=some (r1,r2)):=⟨h⟩
 clear ho hB hlo h
 go_enter Tryz.func27,Tryz.ntmps27
 go_wp2
 go_loopg [1,5] k (fun kq v1 v5 w'=>∃(x0:List (S48)) (x1 x5:Int),v1=.int .i64 x1∧v5=.int .i64 x5∧y0 (laws_markExpS.l0 kq x0 x1 x5=some (r1,r2))∧y0 (kq≤k)∧y0 (QIv.OS k48 48 lo hi (.slice A0 l0.length c0) x0 w')∧y0 (QIv.KI lo hi w w')∧y0 (Below w0.heap.size w0 w'))
 case atStart=>exact⟨l0,a1,0,rfl,rfl,H',⟨Nat.le_refl _⟩,HO,HK,HB⟩
 case round =>
  clear H'
  obtain⟨x0,x1,x5,rfl,rfl,HA,Ad,HO,HK,HB⟩:=hrel
  have hln:l0.length=x0.length:=(Kd.S_reads' HO.out).1
  cases gk with
  | zero=>exact absurd HA.out (by simp [laws_markExpS.l0])
  | succ k1 =>
   have H:=HA.out
   clear HA
   simp only [laws_markExpS.l0]at H
   by_cases c3:x5 < (x0.length:Int)
   ·rw [if_pos c3]at H
    have c3l:x5 < (l0.length:Int):=by omega
    have c3b:decide (x5 < (l0.length:Int))=true:=decide_eq_true c3l
    by_cases c4:0≤x5
    ·rw [if_pos c4]at H
     obtain⟨t,A2,H⟩:=Option.bind_eq_some_iff.mp H
     obtain⟨⟨t1,t2⟩,A3,H⟩:=Option.bind_eq_some_iff.mp H
     have H':y0 (laws_markExpS.l0 k1 (x0.set x5.toNat (⟨x1,t,t2⟩:S48)) t1 (wrap64 (x5 + 1))=some (r1,r2)):=⟨H⟩
     clear H
     have A2:=y0.mk A2
     have A3:=y0.mk A3
     obtain⟨ad,Ax,cx,e,Ab,Ac,Aa,hle,hCi⟩:=at_T48 HO.out.C x5 c4 c3
     cases e
     obtain⟨g,had⟩:=Kd.R_head (Kd.S_R HO.out)
     have hgo:lo≤g∧g < hi:=by
      have:=HO.out
      rw [had]at this
      exact QIv.OS.own this
     have hsz:k48.sz=3:=rfl
     have Af:wr.frozen? (ad.add (x5.toNat * 3))=false:=by
      have:=HO.out
      rw [had]at this ⊢
      rw [add_at]
      exact QIv.OS.frozen this _
     have hHad:=y0.mk had
     have hHgo:=y0.mk hgo
     have HFR:y0 (∀(W:World) (xs:List (S48)) (m o:Nat),QIv.OS k48 48 lo hi (.slice (some ad) l0.length c0) xs W→W.frozen? ⟨(ad.add m).block,(ad.add m).off + o,none⟩=false):=by
      refine⟨fun W xs m o h=>?_⟩
      rw [hHad.out]at h ⊢
      rw [add_at]
      exact QIv.OS.frozen h _
     have hHln:=y0.mk hln
     have p5:=eq_true c4
     have q5:=eq_true c3l
     have P5:=y0.mk c4
     have Q5:=y0.mk c3l
     have C3:=y0.mk c3
     clear Ac Aa hle hCi c3 c4 c3l hln had hgo hsz
     go_upto_region 5 with fail
     have n0_:y0 (QIv.OS k48 48 lo hi (.slice (some ad) l0.length c0) (x0.set x5.toNat (⟨x1,(y20 x0 x5).f1,(y20 x0 x5).f2⟩:S48)) (wr.setCell (ad.add (x5.toNat * 3)) (.int .i64 x1))):=by
      have h1:=HO.out
      rw [hHad.out]at h1 ⊢
      rw [add_at,Nat.zero_add]
      exact⟨QIv.OS.put (j:=0) h1 z48 P5.out Q5.out (by show 0 + 1≤3;omega) rfl (fun _ _ _ _ h=>laws_markExpS.put0 x1 h)⟩
     have n1_:y0 (QIv.KI lo hi w (wr.setCell (ad.add (x5.toNat * 3)) (.int .i64 x1))):=⟨QIv.KI.put HK.out (by rw [add_block,hHad.out];exact hHgo.out)⟩
     have n2_:y0 (Below w0.heap.size w0 (wr.setCell (ad.add (x5.toNat * 3)) (.int .i64 x1))):=⟨HB.out.setCell (by rw [add_block,hHad.out];exact Nat.le_trans HL.out hHgo.out.1) _⟩
     clear HO HK HB Ab Af
     generalize wr.setCell (ad.add (x5.toNat * 3)) (.int .i64 x1)=wA at n0_ n1_ n2_ ⊢
     have HO:=n0_
     have HK:=n1_
     have HB:=n2_
     clear n0_ n1_ n2_
     go_upto_region 7 with(first|(go_at_call 30;(with_reducible refine(laws_markText.calls k1 (wrap64 (x1 + 1)) t _ A2.out).mono ?_);rintro e w5 ⟨rfl,hb⟩;replace HO:=y0.mk (HO.out.below hb);replace HK:=y0.mk (QIv.ki_below HK.out hb);replace HB:=y0.mk (y5 HB.out hb);clear hb;obtain⟨Ah,Ai,Aj,e2,Ab,Ac,Aa,hle,hCi⟩:=at_T48 HO.out.C x5 P5.out (by rw [List.length_set];exact C3.out);injection e2 with e2;subst e2;have Ag:=HFR.out _ _ (x5.toNat * 3) 1 HO.out;clear Ab Aa hle hCi))
     have n0_:y0 (QIv.OS k48 48 lo hi (.slice (some ad) l0.length c0) (x0.set x5.toNat (⟨x1,t,(y20 x0 x5).f2⟩:S48)) (w5.setCell ⟨(ad.add (x5.toNat * 3)).block,(ad.add (x5.toNat * 3)).off + 1,none⟩ (.string t))):=by
      have h1:=HO.out
      rw [hHad.out]at h1 ⊢
      rw [add_at]
      have h2:=QIv.OS.put (j:=1) (u:=.string t) (x':=(⟨x1,t,(y20 x0 x5).f2⟩:S48)) h1 z48 P5.out Q5.out (by show 1 + 1≤3;omega) rfl (fun _ _ _ _ h=>by rw [laws_markExpS.get P5.out Q5.out hHln.out]at h;exact laws_markExpS.put1 t h)
      rw [List.set_set]at h2
      rw [Nat.zero_add]
      exact⟨h2⟩
     have n1_:y0 (QIv.KI lo hi w (w5.setCell ⟨(ad.add (x5.toNat * 3)).block,(ad.add (x5.toNat * 3)).off + 1,none⟩ (.string t))):=⟨QIv.KI.put HK.out (by show lo≤(ad.add _).block∧(ad.add _).block < hi;rw [add_block,hHad.out];exact hHgo.out)⟩
     have n2_:y0 (Below w0.heap.size w0 (w5.setCell ⟨(ad.add (x5.toNat * 3)).block,(ad.add (x5.toNat * 3)).off + 1,none⟩ (.string t))):=⟨HB.out.setCell (by show _≤(ad.add _).block;rw [add_block,hHad.out];exact Nat.le_trans HL.out hHgo.out.1) _⟩
     clear HO HK HB Ac Ag
     generalize w5.setCell ⟨(ad.add (x5.toNat * 3)).block,(ad.add (x5.toNat * 3)).off + 1,none⟩ (.string t)=wB at n0_ n1_ n2_ ⊢
     have HO:=n0_
     have HK:=n1_
     have HB:=n2_
     clear n0_ n1_ n2_
     obtain⟨oki,u,hR,hcc,hback⟩:=QIv.OS.lent (dk:=Kd.int .i64) (ek:=3) (w0:=w0) (lo:=lo) rfl (fun _ _ _ _ h=>h) (by have h1:=HO.out;rw [hHad.out]at h1;exact h1) HL.out z48 P5.out Q5.out (fun x:S48=>x.f2) (fun x ys=>(⟨x.f0,x.f1,ys⟩:S48)) (fun x u=>[.int .i64 x.f0,.string x.f1,u]) (fun h=>k48_openM h) (fun _ _ _ x ys _ h=>k48_mkM _ _ _ (⟨x.f0,x.f1,ys⟩:S48) h)
     rw [laws_markExpS.get P5.out Q5.out hHln.out]at hR hcc
     have Aa:wB.cell? ⟨(ad.add (x5.toNat * 3)).block,(ad.add (x5.toNat * 3)).off + 2,none⟩=some u:=by
      rw [hHad.out,add_at,Nat.zero_add]
      exact hcc 2 u rfl
     have HR:=y0.mk hR
     have HBK:y0 (∀(w5:World) (ys:List Int),Kd.R (Kd.int .i64) 3 w5 w0.heap.size (fun k_=>oki k_∨wB.heap.size≤k_) u ys→Kept wB w5 (fun k_=>oki k_)→QIv.OS k48 48 lo hi (.slice (some ad) l0.length c0) (x0.set x5.toNat (⟨x1,t,ys⟩:S48)) w5∧QIv.KI lo hi wB w5):=by
      refine⟨fun w5 ys h1 h2=>?_⟩
      have h3:=hback w5 ys h1 h2
      rw [laws_markExpS.get P5.out Q5.out hHln.out,List.set_set,← hHad.out]at h3
      exact h3
     clear hback hcc hR HO
     go_wp2_with (first|(go_at_call 51;(with_reducible refine(laws_markIntS.calls k1 (fun k_=>oki k_) u _ _ t1 t2 w0 _ HB.out HR.out A3.out).mono ?_);rintro e w6 ⟨rfl,hy,hb,hkp⟩;have n0_:=y0.mk (HBK.out w6 t2 hy hkp).1;have n1_:=y0.mk (QIv.ki_trans HK.out (HBK.out w6 t2 hy hkp).2);have n2_:=y0.mk hb;clear HK HB HBK HR hy hb hkp Aa;have HO:=n0_;have HK:=n1_;have HB:=n2_;clear n0_ n1_ n2_))
     go_roundg k1
     case measure=>have:=Ad.out;omega
     exact⟨_,t1,wrap64 (x5 + 1),rfl,qy2,H',⟨by have:=Ad.out;omega⟩,HO,HK,HB⟩
    ·rw [if_neg c4]at H
     cases H
   ·rw [if_neg c3]at H
    have c3b:decide (x5 < (l0.length:Int))=false:=decide_eq_false (by omega)
    clear hln
    injection H with H
    obtain⟨rfl,rfl⟩:=Prod.mk.inj H
    go_wp2
    go_ret
    exact⟨by first|rfl|(simp [y12,y13] <;> rfl),HO.out,HB.out,HK.out⟩
def laws_markLit.f (k:Nat) (a0_0:Int) (a0_1:ByteArray) (l0_2:List Int) (a1:Int):Option (Int×List Int):=(laws_markIntS.f k l0_2 a1).bind fun bt511=>(some (bt511.1,bt511.2))
set_option maxHeartbeats 8000000 in
set_option maxRecDepth 100000 in
theorem laws_markLit.calls (k:Nat) (Ah:Int) (Ai:ByteArray) (P0_2_:Nat→Prop) (u9000_:Value) (Ab:List Int) (a1:Int) (r1:Int) (r2:List Int) (w0 w:World) (hB:Below w0.heap.size w0 w) (Aj:Kd.R (Kd.int .i64) 3 w w0.heap.size P0_2_ u9000_ Ab) (h:laws_markLit.f k Ah Ai Ab a1=some (r1,r2)) :
  Calls Tryz.prog 28 #[.agg #[.int .i64 Ah,.string Ai,u9000_],.int .i64 a1] w fun e w'=>e=.returned (.int .i64 r1)∧Kd.R (Kd.int .i64) 3 w' w0.heap.size (fun k_=>(P0_2_ k_∨w.heap.size≤k_)) u9000_ r2∧Below w0.heap.size w0 w'∧Kept w w' (fun k_=>P0_2_ k_):=by
 have Bb:=Tryz.underlying33
 have Aa:=y0.mk (show Kd.R (Kd.int .i64) 3 w w0.heap.size (fun k_=>(P0_2_ k_∨w.heap.size≤k_)) u9000_ Ab from Kd.R_mono Aj (fun k_ hk=>(.inl hk)))
 have HK:=y0.mk (Kept.refl w (fun k_=>P0_2_ k_))
 have Bd:=y0.mk hB.size
 have HB:=y0.mk hB
 clear hB
 have H:((laws_markIntS.f k Ab a1).bind fun Ad=>(some (Ad.1,Ad.2)))=some (r1,r2):=h
 clear h
 obtain⟨⟨Ak,Am⟩,A3,H⟩:=qB H
 replace H:(some (Ak,Am))=some (r1,r2):=H
 simp only [Option.some.injEq,Prod.mk.injEq]at H
 obtain⟨rfl,rfl⟩:=H
 obtain⟨Ar,As,Bc⟩:=Kd.R_slice Aa.out
 subst Bc
 go_enter Tryz.func28,Tryz.ntmps28
 go_wp2_with (first|((with_reducible refine y16 (N:=2) rfl ?_);refine qe 2 #[.int .i64 Ah,.string Ai,.slice Ar Ab.length As] 33 ?_;intro Af hg w5 hbox hb;replace Aa:=y0.mk (Kd.R_below (qR Aa.out) hb);have Ac:=y0.mk (hbox);have Ag:=y0.mk ((by rw [hg];exact(by first|exact HK.out.1|exact(show Kept w _ (fun k_=>P0_2_ k_)from by repeat(first|(with_reducible first|exact HK.out|apply Kept.alloc|apply Kept.drewN|apply Kept.drew)|exact HK.out)).1):w.heap.size≤Af));replace HK:=y0.mk (Kept.below (S:=(fun k_=>P0_2_ k_)) (by repeat(first|(with_reducible first|exact HK.out|apply Kept.alloc|apply Kept.drewN|apply Kept.drew)|exact HK.out)) hb);have Ap:=y0.mk ((by rw [hg];exact(y4 qb):w0.heap.size≤Af));replace HB:=y0.mk (y5 qb hb);clear hb hbox hg;obtain⟨At,Au,Av,Aw,Ay,Az⟩:=qz3 Ac.out)|((with_reducible refine y15 (f:=51) rfl ?_);refine y17 (some 8) rfl rfl Tryz.func51 (by kernel_rfl) rfl #[.slice Ar Ab.length As,.int .i64 a1] rfl qy1 ?_;(with_reducible refine(laws_markIntS.calls k (fun k_=>some k_=(.slice Ar Ab.length As:Value).ownBlock) (.slice Ar Ab.length As) Ab a1 Ak Am w0 _ (by repeat(first|(with_reducible first|exact HB.out|apply below_alloc|apply y18|apply y2|refine y3 ?_ Ap.out)|exact HB.out)) (by exact Kd.R_tight rfl (qR Aa.out)) A3.out).mono ?_);rintro e w7 ⟨rfl,Ba,hb,hkp⟩;refine⟨_,rfl, ?_⟩;replace Ac:=y0.mk (blk_kept (qk Ac.out) hkp (fun hs_=>(fun e_=>(Kd.R_ne Aa.out Ac.out (by decide)) e_) hs_));replace HK:=y0.mk (Kept.then_ (S:=(fun k_=>P0_2_ k_)) (by repeat(first|(with_reducible first|exact HK.out|apply Kept.alloc|apply Kept.drewN|apply Kept.drew|refine Kept.setCell ?_ (.inr Ag.out) _)|exact HK.out)) hkp (fun k_ hs_=>(fun e_=>(Aa.out.1 k_ e_.symm)) hs_));replace Aa:=y0.mk (Kd.R_reok rfl Ba (fun k_ e_=>Aa.out.1 k_ e_));replace HB:=y0.mk (hb);(try clear hb);(try clear hkp);(try clear Ba)))
 go_ret
 exact⟨qf,by(with_reducible repeat(first|apply Kd.R_alloc|apply Kd.R_drewN|apply Kd.R_drew));exact Aa.out,qb,by repeat(first|(with_reducible first|exact HK.out|apply Kept.alloc|apply Kept.drewN|apply Kept.drew|refine Kept.setCell ?_ (.inr Ag.out) _)|exact HK.out)⟩
def laws_markLitS.l0:Nat→List (S33)→Int→Int→Option (Int×List (S33))
 | 0,_,_,_=>none
 | k + 1,x0,x1,x5=>if x5 < (x0.length:Int)then(if 0≤x5 then((laws_markText.f k (wrap64 (x1 + 1))).bind fun t=>(laws_markIntS.f k (y19 x0 x5).f2 (wrap64 (wrap64 (x1 + 1) + 1))).bind fun bt=>laws_markLitS.l0 k (x0.set x5.toNat (⟨x1,t,bt.2⟩:S33)) bt.1 (wrap64 (x5 + 1)))else none)else some (x1,x0)
def laws_markLitS.f (k:Nat) (l0:List (S33)) (a1:Int):Option (Int×List (S33)):=laws_markLitS.l0 k l0 a1 0
theorem laws_markLitS.put0 {w:World} {base:Nat} {ok:Nat→Prop} {x:S33} {c:List Value} (v:Int) (h:k33.M w base ok x c):k33.M w base ok (⟨v,x.f1,x.f2⟩:S33) (c.take 0 ++ [.int .i64 v] ++ c.drop (0 + 1)):=by
 obtain⟨u,rfl,hR⟩:=k33_openM h
 exact k33_mkM _ _ _ (⟨v,x.f1,x.f2⟩:S33) hR
theorem laws_markLitS.put1 {w:World} {base:Nat} {ok:Nat→Prop} {x:S33} {c:List Value} (v:ByteArray) (h:k33.M w base ok x c):k33.M w base ok (⟨x.f0,v,x.f2⟩:S33) (c.take 1 ++ [.string v] ++ c.drop (1 + 1)):=by
 obtain⟨u,rfl,hR⟩:=k33_openM h
 exact k33_mkM _ _ _ (⟨x.f0,v,x.f2⟩:S33) hR
theorem laws_markLitS.get {x0:List (S33)} {i:Int} {n:Nat} (h0:0≤i) (h1:i < n) (hn:n=x0.length) (y:S33):(x0.set i.toNat y).getD i.toNat z33=y:=by
 have:i.toNat < x0.length:=by omega
 simp [List.getD,this]
set_option maxHeartbeats 8000000 in
set_option maxRecDepth 100000 in
theorem laws_markLitS.calls (k:Nat) (lo hi:Nat) (A0:Option Addr) (c0:Nat) (l0:List (S33)) (a1:Int) (r1:Int) (r2:List (S33)) (w0 w:World) (hB:Below w0.heap.size w0 w) (hlo:w0.heap.size≤lo) (ho:QIv.OS k33 33 lo hi (.slice A0 l0.length c0) l0 w) (h:laws_markLitS.f k l0 a1=some (r1,r2)) :
  Calls Tryz.prog 29 #[.slice A0 l0.length c0,.int .i64 a1] w fun e w'=>e=.returned (.int .i64 r1)∧QIv.OS k33 33 lo hi (.slice A0 l0.length c0) r2 w'∧Below w0.heap.size w0 w'∧QIv.KI lo hi w w':=by
 have hu:=Tryz.underlying33
 have HO:=y0.mk ho
 have HB:=y0.mk hB
 have HL:=y0.mk hlo
 have HK:y0 (QIv.KI lo hi w w):=⟨Kept.refl w _⟩
 have H':y0 (laws_markLitS.l0 k l0 a1 0=some (r1,r2)):=⟨h⟩
 clear ho hB hlo h
 go_enter Tryz.func29,Tryz.ntmps29
 go_wp2
 go_loopg [1,5] k (fun kq v1 v5 w'=>∃(x0:List (S33)) (x1 x5:Int),v1=.int .i64 x1∧v5=.int .i64 x5∧y0 (laws_markLitS.l0 kq x0 x1 x5=some (r1,r2))∧y0 (kq≤k)∧y0 (QIv.OS k33 33 lo hi (.slice A0 l0.length c0) x0 w')∧y0 (QIv.KI lo hi w w')∧y0 (Below w0.heap.size w0 w'))
 case atStart=>exact⟨l0,a1,0,rfl,rfl,H',⟨Nat.le_refl _⟩,HO,HK,HB⟩
 case round =>
  clear H'
  obtain⟨x0,x1,x5,rfl,rfl,HA,Ad,HO,HK,HB⟩:=hrel
  have hln:l0.length=x0.length:=(Kd.S_reads' HO.out).1
  cases gk with
  | zero=>exact absurd HA.out (by simp [laws_markLitS.l0])
  | succ k1 =>
   have H:=HA.out
   clear HA
   simp only [laws_markLitS.l0]at H
   by_cases c3:x5 < (x0.length:Int)
   ·rw [if_pos c3]at H
    have c3l:x5 < (l0.length:Int):=by omega
    have c3b:decide (x5 < (l0.length:Int))=true:=decide_eq_true c3l
    by_cases c4:0≤x5
    ·rw [if_pos c4]at H
     obtain⟨t,A2,H⟩:=Option.bind_eq_some_iff.mp H
     obtain⟨⟨t1,t2⟩,A3,H⟩:=Option.bind_eq_some_iff.mp H
     have H':y0 (laws_markLitS.l0 k1 (x0.set x5.toNat (⟨x1,t,t2⟩:S33)) t1 (wrap64 (x5 + 1))=some (r1,r2)):=⟨H⟩
     clear H
     have A2:=y0.mk A2
     have A3:=y0.mk A3
     obtain⟨ad,Ax,cx,e,Ab,Ac,Aa,hle,hCi⟩:=at_T33 HO.out.C x5 c4 c3
     cases e
     obtain⟨g,had⟩:=Kd.R_head (Kd.S_R HO.out)
     have hgo:lo≤g∧g < hi:=by
      have:=HO.out
      rw [had]at this
      exact QIv.OS.own this
     have hsz:k33.sz=3:=rfl
     have Af:wr.frozen? (ad.add (x5.toNat * 3))=false:=by
      have:=HO.out
      rw [had]at this ⊢
      rw [add_at]
      exact QIv.OS.frozen this _
     have hHad:=y0.mk had
     have hHgo:=y0.mk hgo
     have HFR:y0 (∀(W:World) (xs:List (S33)) (m o:Nat),QIv.OS k33 33 lo hi (.slice (some ad) l0.length c0) xs W→W.frozen? ⟨(ad.add m).block,(ad.add m).off + o,none⟩=false):=by
      refine⟨fun W xs m o h=>?_⟩
      rw [hHad.out]at h ⊢
      rw [add_at]
      exact QIv.OS.frozen h _
     have hHln:=y0.mk hln
     have p5:=eq_true c4
     have q5:=eq_true c3l
     have P5:=y0.mk c4
     have Q5:=y0.mk c3l
     have C3:=y0.mk c3
     clear Ac Aa hle hCi c3 c4 c3l hln had hgo hsz
     go_upto_region 5 with fail
     have n0_:y0 (QIv.OS k33 33 lo hi (.slice (some ad) l0.length c0) (x0.set x5.toNat (⟨x1,(y19 x0 x5).f1,(y19 x0 x5).f2⟩:S33)) (wr.setCell (ad.add (x5.toNat * 3)) (.int .i64 x1))):=by
      have h1:=HO.out
      rw [hHad.out]at h1 ⊢
      rw [add_at,Nat.zero_add]
      exact⟨QIv.OS.put (j:=0) h1 z33 P5.out Q5.out (by show 0 + 1≤3;omega) rfl (fun _ _ _ _ h=>laws_markLitS.put0 x1 h)⟩
     have n1_:y0 (QIv.KI lo hi w (wr.setCell (ad.add (x5.toNat * 3)) (.int .i64 x1))):=⟨QIv.KI.put HK.out (by rw [add_block,hHad.out];exact hHgo.out)⟩
     have n2_:y0 (Below w0.heap.size w0 (wr.setCell (ad.add (x5.toNat * 3)) (.int .i64 x1))):=⟨HB.out.setCell (by rw [add_block,hHad.out];exact Nat.le_trans HL.out hHgo.out.1) _⟩
     clear HO HK HB Ab Af
     generalize wr.setCell (ad.add (x5.toNat * 3)) (.int .i64 x1)=wA at n0_ n1_ n2_ ⊢
     have HO:=n0_
     have HK:=n1_
     have HB:=n2_
     clear n0_ n1_ n2_
     go_upto_region 7 with(first|(go_at_call 30;(with_reducible refine(laws_markText.calls k1 (wrap64 (x1 + 1)) t _ A2.out).mono ?_);rintro e w5 ⟨rfl,hb⟩;replace HO:=y0.mk (HO.out.below hb);replace HK:=y0.mk (QIv.ki_below HK.out hb);replace HB:=y0.mk (y5 HB.out hb);clear hb;obtain⟨Ah,Ai,Aj,e2,Ab,Ac,Aa,hle,hCi⟩:=at_T33 HO.out.C x5 P5.out (by rw [List.length_set];exact C3.out);injection e2 with e2;subst e2;have Ag:=HFR.out _ _ (x5.toNat * 3) 1 HO.out;clear Ab Aa hle hCi))
     have n0_:y0 (QIv.OS k33 33 lo hi (.slice (some ad) l0.length c0) (x0.set x5.toNat (⟨x1,t,(y19 x0 x5).f2⟩:S33)) (w5.setCell ⟨(ad.add (x5.toNat * 3)).block,(ad.add (x5.toNat * 3)).off + 1,none⟩ (.string t))):=by
      have h1:=HO.out
      rw [hHad.out]at h1 ⊢
      rw [add_at]
      have h2:=QIv.OS.put (j:=1) (u:=.string t) (x':=(⟨x1,t,(y19 x0 x5).f2⟩:S33)) h1 z33 P5.out Q5.out (by show 1 + 1≤3;omega) rfl (fun _ _ _ _ h=>by rw [laws_markLitS.get P5.out Q5.out hHln.out]at h;exact laws_markLitS.put1 t h)
      rw [List.set_set]at h2
      rw [Nat.zero_add]
      exact⟨h2⟩
     have n1_:y0 (QIv.KI lo hi w (w5.setCell ⟨(ad.add (x5.toNat * 3)).block,(ad.add (x5.toNat * 3)).off + 1,none⟩ (.string t))):=⟨QIv.KI.put HK.out (by show lo≤(ad.add _).block∧(ad.add _).block < hi;rw [add_block,hHad.out];exact hHgo.out)⟩
     have n2_:y0 (Below w0.heap.size w0 (w5.setCell ⟨(ad.add (x5.toNat * 3)).block,(ad.add (x5.toNat * 3)).off + 1,none⟩ (.string t))):=⟨HB.out.setCell (by show _≤(ad.add _).block;rw [add_block,hHad.out];exact Nat.le_trans HL.out hHgo.out.1) _⟩
     clear HO HK HB Ac Ag
     generalize w5.setCell ⟨(ad.add (x5.toNat * 3)).block,(ad.add (x5.toNat * 3)).off + 1,none⟩ (.string t)=wB at n0_ n1_ n2_ ⊢
     have HO:=n0_
     have HK:=n1_
     have HB:=n2_
     clear n0_ n1_ n2_
     obtain⟨oki,u,hR,hcc,hback⟩:=QIv.OS.lent (dk:=Kd.int .i64) (ek:=3) (w0:=w0) (lo:=lo) rfl (fun _ _ _ _ h=>h) (by have h1:=HO.out;rw [hHad.out]at h1;exact h1) HL.out z33 P5.out Q5.out (fun x:S33=>x.f2) (fun x ys=>(⟨x.f0,x.f1,ys⟩:S33)) (fun x u=>[.int .i64 x.f0,.string x.f1,u]) (fun h=>k33_openM h) (fun _ _ _ x ys _ h=>k33_mkM _ _ _ (⟨x.f0,x.f1,ys⟩:S33) h)
     rw [laws_markLitS.get P5.out Q5.out hHln.out]at hR hcc
     have Aa:wB.cell? ⟨(ad.add (x5.toNat * 3)).block,(ad.add (x5.toNat * 3)).off + 2,none⟩=some u:=by
      rw [hHad.out,add_at,Nat.zero_add]
      exact hcc 2 u rfl
     have HR:=y0.mk hR
     have HBK:y0 (∀(w5:World) (ys:List Int),Kd.R (Kd.int .i64) 3 w5 w0.heap.size (fun k_=>oki k_∨wB.heap.size≤k_) u ys→Kept wB w5 (fun k_=>oki k_)→QIv.OS k33 33 lo hi (.slice (some ad) l0.length c0) (x0.set x5.toNat (⟨x1,t,ys⟩:S33)) w5∧QIv.KI lo hi wB w5):=by
      refine⟨fun w5 ys h1 h2=>?_⟩
      have h3:=hback w5 ys h1 h2
      rw [laws_markLitS.get P5.out Q5.out hHln.out,List.set_set,← hHad.out]at h3
      exact h3
     clear hback hcc hR HO
     go_wp2_with (first|(go_at_call 51;(with_reducible refine(laws_markIntS.calls k1 (fun k_=>oki k_) u _ _ t1 t2 w0 _ HB.out HR.out A3.out).mono ?_);rintro e w6 ⟨rfl,hy,hb,hkp⟩;have n0_:=y0.mk (HBK.out w6 t2 hy hkp).1;have n1_:=y0.mk (QIv.ki_trans HK.out (HBK.out w6 t2 hy hkp).2);have n2_:=y0.mk hb;clear HK HB HBK HR hy hb hkp Aa;have HO:=n0_;have HK:=n1_;have HB:=n2_;clear n0_ n1_ n2_))
     go_roundg k1
     case measure=>have:=Ad.out;omega
     exact⟨_,t1,wrap64 (x5 + 1),rfl,qy2,H',⟨by have:=Ad.out;omega⟩,HO,HK,HB⟩
    ·rw [if_neg c4]at H
     cases H
   ·rw [if_neg c3]at H
    have c3b:decide (x5 < (l0.length:Int))=false:=decide_eq_false (by omega)
    clear hln
    injection H with H
    obtain⟨rfl,rfl⟩:=Prod.mk.inj H
    go_wp2
    go_ret
    exact⟨by first|rfl|(simp [y12,y13] <;> rfl),HO.out,HB.out,HK.out⟩
set_option maxHeartbeats 16000000 in
set_option maxRecDepth 100000 in
theorem laws_toRule.iv (k:Nat) (A0:Option Addr) (c0:Nat) (l0:List (S63)) (a1:Int) (a2:ByteArray) (A3:Option Addr) (c3:Nat) (l3:List Int) (A4:Option Addr) (c4:Nat) (l4:List (S25)) (r1:List (S48)) (r2:Int) (r3:ByteArray) (r4:List Int) (r5:List (S33)) (w:World) (Bt:Kd.C k63 w A0 l0.length l0) (Bu:l0.length≤c0) (Bv:Kd.C (Kd.int .i64) w A3 l3.length l3) (Bw:l3.length≤c3) (Bx:Kd.C k25 w A4 l4.length l4) (Bz:l4.length≤c4) (h:laws_toRule.f k l0 a1 a2 l3 l4=some (r1,r2,r3,r4,r5)) :
  Calls Tryz.prog 6 #[.agg #[.slice A0 l0.length c0,.int .i64 a1,.string a2,.slice A3 l3.length c3,.slice A4 l4.length c4]] w fun e w'=>∃(v1 v2 v3:Value) (Bn Bo Bp Bq Br Bs:Nat),e=.returned (.agg #[v1,.int .i64 r2,.string r3,v2,v3])∧QIv.OS k48 48 Bn Bo v1 r1 w'∧QIv.OR (Kd.int .i64) 3 Bp Bq v2 r4 w'∧QIv.OS k33 33 Br Bs v3 r5 w'∧w.heap.size≤Bn∧Bn≤Bo∧Bo≤Bp∧Bp≤Bq∧Bq≤Br∧Br≤Bs∧Bs≤w'.heap.size∧Below w.heap.size w w':=by
 have Cg:=Tryz.underlying36
 have Ch:=Tryz.underlying28
 have Ci:=Tryz.underlying33
 have Cj:=Tryz.underlying25
 have HB:=y0.mk (Below.refl w.heap.size w)
 unfold laws_toRule.f at h
 obtain⟨x0,E1,h⟩:=Option.bind_eq_some_iff.1 h
 obtain⟨⟨Bl,Bm,Bk⟩,E2,h⟩:=Option.bind_eq_some_iff.1 h
 obtain⟨x4,E3,h⟩:=Option.bind_eq_some_iff.1 h
 simp only [Option.some.injEq,Prod.mk.injEq]at h
 obtain⟨rfl,rfl,rfl,rfl,rfl⟩:=h
 replace E1:=y0.mk E1
 replace E2:=y0.mk E2
 replace E3:=y0.mk E3
 have Ca:=y0.mk Bt
 clear Bt
 have Cb:=y0.mk Bu
 clear Bu
 have Cc:=y0.mk Bv
 clear Bv
 have Cd:=y0.mk Bw
 clear Bw
 have Ce:=y0.mk Bx
 clear Bx
 have Cf:=y0.mk Bz
 clear Bz
 go_enter Tryz.func6,Tryz.ntmps6
 go_upto_region 3 with(first
  | ((with_reducible refine y16 (N:=1) rfl ?_);refine qe 1 #[.slice A0 l0.length c0,.int .i64 a1,.string a2,.slice A3 l3.length c3,.slice A4 l4.length c4] 28 ?_;intro ga hg w1 hbox hb;have BKa:=y0.mk (hbox);have GEa:=y0.mk ((by rw [hg];exact HB.out.size:w.heap.size≤ga));replace HB:=y0.mk (y5 HB.out hb);clear hb hg hbox;obtain⟨Aa,Ab,Ac,Ad,Af,Ag,Ah,Ai,Aj,Ak⟩:=QIv.box5 BKa.out)
  | ((with_reducible refine y16 (N:=2) rfl ?_);refine qe 2 #[.slice none 0 0,.int .i64 0,.string (⟨#[]⟩:ByteArray),.slice none 0 0,.slice none 0 0] 36 ?_;intro gz hg w2 hbox hb;(repeat first|clear Aa|clear Ab|clear Ac|clear Ad|clear Af|clear Ag|clear Ah|clear Ai|clear Aj|clear Ak);have BKz:=y0.mk (hbox);have GEz:=y0.mk ((by rw [hg];exact HB.out.size:w.heap.size≤gz));have Na_z:=y0.mk ((by rw [hg];exact Nat.ne_of_lt (QIv.ki_lt BKa.out):ga≠gz));replace BKa:=y0.mk (y7 (g:=ga) (o:=(.cells #[.slice A0 l0.length c0,.int .i64 a1,.string a2,.slice A3 l3.length c3,.slice A4 l4.length c4] 28 (0,0))) BKa.out hb);replace HB:=y0.mk (y5 HB.out hb);clear hb hg hbox;obtain⟨Aa,Ab,Ac,Ad,Af,Ag,Ah,Ai,Aj,Ak⟩:=QIv.box5 BKa.out;obtain⟨Am,Ap,Ar,As,At,Au,Av,Aw,Ay,Az⟩:=QIv.box5 BKz.out)
  | ((with_reducible refine y16 (N:=3) rfl ?_);refine qe 3 #[.slice none 0 0,.int .i64 0,.string (⟨#[]⟩:ByteArray),.slice none 0 0,.slice none 0 0] 36 ?_;intro go hg w3 hbox hb;(repeat first|clear Aa|clear Ab|clear Ac|clear Ad|clear Af|clear Am|clear Ap|clear Ar|clear As|clear At|clear Ag|clear Ah|clear Ai|clear Aj|clear Ak|clear Au|clear Av|clear Aw|clear Ay|clear Az);have BKo:=y0.mk (hbox);have GEo:=y0.mk ((by rw [hg];exact HB.out.size:w.heap.size≤go));have Na_o:=y0.mk ((by rw [hg];exact Nat.ne_of_lt (QIv.ki_lt BKa.out):ga≠go));have Nz_o:=y0.mk ((by rw [hg];exact Nat.ne_of_lt (QIv.ki_lt BKz.out):gz≠go));replace BKa:=y0.mk (y7 (g:=ga) (o:=(.cells #[.slice A0 l0.length c0,.int .i64 a1,.string a2,.slice A3 l3.length c3,.slice A4 l4.length c4] 28 (0,0))) BKa.out hb);replace BKz:=y0.mk (y7 (g:=gz) (o:=(.cells #[.slice none 0 0,.int .i64 0,.string (⟨#[]⟩:ByteArray),.slice none 0 0,.slice none 0 0] 36 (0,0))) BKz.out hb);replace HB:=y0.mk (y5 HB.out hb);clear hb hg hbox;obtain⟨Aa,Ab,Ac,Ad,Af,Ag,Ah,Ai,Aj,Ak⟩:=QIv.box5 BKa.out;obtain⟨Am,Ap,Ar,As,At,Au,Av,Aw,Ay,Az⟩:=QIv.box5 BKz.out;obtain⟨Ba,Bb,Bc,Bd,Be,Bf,Bg,Bh,Bi,Bj⟩:=QIv.box5 BKo.out)
  | (go_at_call 19;(with_reducible refine(laws_toExpS.calls k _ _ l0 x0 _ (Kd.C_below Ca.out HB.out) Cb.out E1.out).mono ?_);rintro e w4 ⟨v_,rfl,ho,hb⟩;obtain⟨loE,hiE,hlo_,hhi_,hOE_⟩:=QIv.OS.new ho;obtain⟨AE,cE,eA_⟩:=hOE_.slice;subst eA_;(repeat first|clear Aa|clear Ab|clear Ac|clear Ad|clear Af|clear Am|clear Ap|clear Ar|clear As|clear At|clear Ba|clear Bb|clear Bc|clear Bd|clear Be|clear Ag|clear Ah|clear Ai|clear Aj|clear Ak|clear Au|clear Av|clear Aw|clear Ay|clear Az|clear Bf|clear Bg|clear Bh|clear Bi|clear Bj);have OE:=y0.mk (hOE_);have LE:=y0.mk ((by rw [hhi_];exact Nat.le_refl _:hiE≤_));have BE:=y0.mk ((by rw [hlo_];exact HB.out.size:w.heap.size≤loE));have IE:=y0.mk ((by rw [hlo_,hhi_];exact hb.size:loE≤hiE));have Ea_E:=y0.mk ((by rw [hlo_];exact QIv.ki_lt BKa.out:ga < loE));have Ez_E:=y0.mk ((by rw [hlo_];exact QIv.ki_lt BKz.out:gz < loE));have Eo_E:=y0.mk ((by rw [hlo_];exact QIv.ki_lt BKo.out:go < loE));replace BKa:=y0.mk (y7 (g:=ga) (o:=(.cells #[.slice A0 l0.length c0,.int .i64 a1,.string a2,.slice A3 l3.length c3,.slice A4 l4.length c4] 28 (0,0))) BKa.out hb);replace BKz:=y0.mk (y7 (g:=gz) (o:=(.cells #[.slice none 0 0,.int .i64 0,.string (⟨#[]⟩:ByteArray),.slice none 0 0,.slice none 0 0] 36 (0,0))) BKz.out hb);replace BKo:=y0.mk (y7 (g:=go) (o:=(.cells #[.slice none 0 0,.int .i64 0,.string (⟨#[]⟩:ByteArray),.slice none 0 0,.slice none 0 0] 36 (0,0))) BKo.out hb);replace HB:=y0.mk (y5 HB.out hb);(try clear hb);(try clear ho);(try clear hlo_);(try clear hhi_);obtain⟨Aa,Ab,Ac,Ad,Af,Ag,Ah,Ai,Aj,Ak⟩:=QIv.box5 BKa.out;obtain⟨Am,Ap,Ar,As,At,Au,Av,Aw,Ay,Az⟩:=QIv.box5 BKz.out;obtain⟨Ba,Bb,Bc,Bd,Be,Bf,Bg,Bh,Bi,Bj⟩:=QIv.box5 BKo.out))
 (repeat first|clear Aa|clear Ab|clear Ac|clear Ad|clear Af|clear Am|clear Ap|clear Ar|clear As|clear At|clear Ba|clear Bb|clear Bc|clear Bd|clear Be|clear Ag|clear Ah|clear Ai|clear Aj|clear Ak|clear Au|clear Av|clear Aw|clear Ay|clear Az|clear Bf|clear Bg|clear Bh|clear Bi|clear Bj)
 replace OE:=y0.mk ((OE.out.set (.inl Eo_E.out) _ _):QIv.OS k48 48 loE hiE (.slice AE x0.length cE) x0 (w4.setCell ⟨go,0,none⟩ (.slice AE x0.length cE)))
 replace LE:=y0.mk (by simpa using LE.out:hiE≤(w4.setCell ⟨go,0,none⟩ (.slice AE x0.length cE)).heap.size)
 replace BKa:=y0.mk ((y11 BKa.out (Na_o.out) _):(w4.setCell ⟨go,0,none⟩ (.slice AE x0.length cE)).heap[ga]?=some (.cells #[.slice A0 l0.length c0,.int .i64 a1,.string a2,.slice A3 l3.length c3,.slice A4 l4.length c4] 28 (0,0)))
 replace BKz:=y0.mk ((y11 BKz.out (Nz_o.out) _):(w4.setCell ⟨go,0,none⟩ (.slice AE x0.length cE)).heap[gz]?=some (.cells #[.slice none 0 0,.int .i64 0,.string (⟨#[]⟩:ByteArray),.slice none 0 0,.slice none 0 0] 36 (0,0)))
 replace BKo:=y0.mk ((blk_set BKo.out 0 (.slice AE x0.length cE)):(w4.setCell ⟨go,0,none⟩ (.slice AE x0.length cE)).heap[go]?=some (.cells #[.slice AE x0.length cE,.int .i64 0,.string (⟨#[]⟩:ByteArray),.slice none 0 0,.slice none 0 0] 36 (0,0)))
 replace HB:=y0.mk ((y3 HB.out GEo.out):Below w.heap.size w (w4.setCell ⟨go,0,none⟩ (.slice AE x0.length cE)))
 generalize (w4.setCell ⟨go,0,none⟩ (.slice AE x0.length cE))=w5 at OE LE BKa BKz BKo HB ⊢
 obtain⟨Aa,Ab,Ac,Ad,Af,Ag,Ah,Ai,Aj,Ak⟩:=QIv.box5 BKa.out
 obtain⟨Am,Ap,Ar,As,At,Au,Av,Aw,Ay,Az⟩:=QIv.box5 BKz.out
 obtain⟨Ba,Bb,Bc,Bd,Be,Bf,Bg,Bh,Bi,Bj⟩:=QIv.box5 BKo.out
 go_upto_region 4 with(first
  | (go_at_call 20;(with_reducible refine(laws_toLit.calls k a1 a2 _ _ l3 Bl Bm Bk _ (Kd.C_below Cc.out HB.out) Cd.out E2.out).mono ?_);rintro e w6 ⟨v_,rfl,ho,hb⟩;obtain⟨loH,hiH,hlo_,hhi_,hOH_⟩:=QIv.OR.new ho;obtain⟨AH,cH,eA_⟩:=hOH_.slice;subst eA_;(repeat first|clear Aa|clear Ab|clear Ac|clear Ad|clear Af|clear Am|clear Ap|clear Ar|clear As|clear At|clear Ba|clear Bb|clear Bc|clear Bd|clear Be|clear Ag|clear Ah|clear Ai|clear Aj|clear Ak|clear Au|clear Av|clear Aw|clear Ay|clear Az|clear Bf|clear Bg|clear Bh|clear Bi|clear Bj);have OH:=y0.mk (hOH_);have LH:=y0.mk ((by rw [hhi_];exact Nat.le_refl _:hiH≤_));have BH:=y0.mk ((by rw [hlo_];exact HB.out.size:w.heap.size≤loH));have IH:=y0.mk ((by rw [hlo_,hhi_];exact hb.size:loH≤hiH));have DE_H:=y0.mk ((by rw [hlo_];exact LE.out:hiE≤loH));have Ea_H:=y0.mk ((by rw [hlo_];exact QIv.ki_lt BKa.out:ga < loH));have Ez_H:=y0.mk ((by rw [hlo_];exact QIv.ki_lt BKz.out:gz < loH));have Eo_H:=y0.mk ((by rw [hlo_];exact QIv.ki_lt BKo.out:go < loH));replace OE:=y0.mk (OE.out.below hb);replace LE:=y0.mk (Nat.le_trans LE.out hb.size);replace BKa:=y0.mk (y7 (g:=ga) (o:=(.cells #[.slice A0 l0.length c0,.int .i64 a1,.string a2,.slice A3 l3.length c3,.slice A4 l4.length c4] 28 (0,0))) BKa.out hb);replace BKz:=y0.mk (y7 (g:=gz) (o:=(.cells #[.slice none 0 0,.int .i64 0,.string (⟨#[]⟩:ByteArray),.slice none 0 0,.slice none 0 0] 36 (0,0))) BKz.out hb);replace BKo:=y0.mk (y7 (g:=go) (o:=(.cells #[.slice AE x0.length cE,.int .i64 0,.string (⟨#[]⟩:ByteArray),.slice none 0 0,.slice none 0 0] 36 (0,0))) BKo.out hb);replace HB:=y0.mk (y5 HB.out hb);(try clear hb);(try clear ho);(try clear hlo_);(try clear hhi_);obtain⟨Aa,Ab,Ac,Ad,Af,Ag,Ah,Ai,Aj,Ak⟩:=QIv.box5 BKa.out;obtain⟨Am,Ap,Ar,As,At,Au,Av,Aw,Ay,Az⟩:=QIv.box5 BKz.out;obtain⟨Ba,Bb,Bc,Bd,Be,Bf,Bg,Bh,Bi,Bj⟩:=QIv.box5 BKo.out))
 (repeat first|clear Aa|clear Ab|clear Ac|clear Ad|clear Af|clear Am|clear Ap|clear Ar|clear As|clear At|clear Ba|clear Bb|clear Bc|clear Bd|clear Be|clear Ag|clear Ah|clear Ai|clear Aj|clear Ak|clear Au|clear Av|clear Aw|clear Ay|clear Az|clear Bf|clear Bg|clear Bh|clear Bi|clear Bj)
 replace OE:=y0.mk ((((OE.out.set (.inl Eo_E.out) _ _).set (.inl Eo_E.out) _ _).set (.inl Eo_E.out) _ _):QIv.OS k48 48 loE hiE (.slice AE x0.length cE) x0 (((w6.setCell ⟨go,1,none⟩ (.int .i64 Bl)).setCell ⟨go,2,none⟩ (.string Bm)).setCell ⟨go,3,none⟩ (.slice AH Bk.length cH)))
 replace LE:=y0.mk (by simpa using LE.out:hiE≤(((w6.setCell ⟨go,1,none⟩ (.int .i64 Bl)).setCell ⟨go,2,none⟩ (.string Bm)).setCell ⟨go,3,none⟩ (.slice AH Bk.length cH)).heap.size)
 replace OH:=y0.mk ((((OH.out.set (.inl Eo_H.out) _ _).set (.inl Eo_H.out) _ _).set (.inl Eo_H.out) _ _):QIv.OR (Kd.int .i64) 3 loH hiH (.slice AH Bk.length cH) Bk (((w6.setCell ⟨go,1,none⟩ (.int .i64 Bl)).setCell ⟨go,2,none⟩ (.string Bm)).setCell ⟨go,3,none⟩ (.slice AH Bk.length cH)))
 replace LH:=y0.mk (by simpa using LH.out:hiH≤(((w6.setCell ⟨go,1,none⟩ (.int .i64 Bl)).setCell ⟨go,2,none⟩ (.string Bm)).setCell ⟨go,3,none⟩ (.slice AH Bk.length cH)).heap.size)
 replace BKa:=y0.mk ((y11 (y11 (y11 BKa.out (Na_o.out) _) (Na_o.out) _) (Na_o.out) _):(((w6.setCell ⟨go,1,none⟩ (.int .i64 Bl)).setCell ⟨go,2,none⟩ (.string Bm)).setCell ⟨go,3,none⟩ (.slice AH Bk.length cH)).heap[ga]?=some (.cells #[.slice A0 l0.length c0,.int .i64 a1,.string a2,.slice A3 l3.length c3,.slice A4 l4.length c4] 28 (0,0)))
 replace BKz:=y0.mk ((y11 (y11 (y11 BKz.out (Nz_o.out) _) (Nz_o.out) _) (Nz_o.out) _):(((w6.setCell ⟨go,1,none⟩ (.int .i64 Bl)).setCell ⟨go,2,none⟩ (.string Bm)).setCell ⟨go,3,none⟩ (.slice AH Bk.length cH)).heap[gz]?=some (.cells #[.slice none 0 0,.int .i64 0,.string (⟨#[]⟩:ByteArray),.slice none 0 0,.slice none 0 0] 36 (0,0)))
 replace BKo:=y0.mk ((blk_set (blk_set (blk_set BKo.out 1 (.int .i64 Bl)) 2 (.string Bm)) 3 (.slice AH Bk.length cH)):(((w6.setCell ⟨go,1,none⟩ (.int .i64 Bl)).setCell ⟨go,2,none⟩ (.string Bm)).setCell ⟨go,3,none⟩ (.slice AH Bk.length cH)).heap[go]?=some (.cells #[.slice AE x0.length cE,.int .i64 Bl,.string Bm,.slice AH Bk.length cH,.slice none 0 0] 36 (0,0)))
 replace HB:=y0.mk ((y3 (y3 (y3 HB.out GEo.out) GEo.out) GEo.out):Below w.heap.size w (((w6.setCell ⟨go,1,none⟩ (.int .i64 Bl)).setCell ⟨go,2,none⟩ (.string Bm)).setCell ⟨go,3,none⟩ (.slice AH Bk.length cH)))
 generalize (((w6.setCell ⟨go,1,none⟩ (.int .i64 Bl)).setCell ⟨go,2,none⟩ (.string Bm)).setCell ⟨go,3,none⟩ (.slice AH Bk.length cH))=w7 at OE LE OH LH BKa BKz BKo HB ⊢
 obtain⟨Aa,Ab,Ac,Ad,Af,Ag,Ah,Ai,Aj,Ak⟩:=QIv.box5 BKa.out
 obtain⟨Am,Ap,Ar,As,At,Au,Av,Aw,Ay,Az⟩:=QIv.box5 BKz.out
 obtain⟨Ba,Bb,Bc,Bd,Be,Bf,Bg,Bh,Bi,Bj⟩:=QIv.box5 BKo.out
 go_upto_region 5 with(first
  | (go_at_call 21;(with_reducible refine(laws_toLitS.calls k _ _ l4 x4 _ (Kd.C_below Ce.out HB.out) Cf.out E3.out).mono ?_);rintro e w8 ⟨v_,rfl,ho,hb⟩;obtain⟨loB,hiB,hlo_,hhi_,hOB_⟩:=QIv.OS.new ho;obtain⟨AB,cB,eA_⟩:=hOB_.slice;subst eA_;(repeat first|clear Aa|clear Ab|clear Ac|clear Ad|clear Af|clear Am|clear Ap|clear Ar|clear As|clear At|clear Ba|clear Bb|clear Bc|clear Bd|clear Be|clear Ag|clear Ah|clear Ai|clear Aj|clear Ak|clear Au|clear Av|clear Aw|clear Ay|clear Az|clear Bf|clear Bg|clear Bh|clear Bi|clear Bj);have OB:=y0.mk (hOB_);have LB:=y0.mk ((by rw [hhi_];exact Nat.le_refl _:hiB≤_));have BB:=y0.mk ((by rw [hlo_];exact HB.out.size:w.heap.size≤loB));have IB:=y0.mk ((by rw [hlo_,hhi_];exact hb.size:loB≤hiB));have DE_B:=y0.mk ((by rw [hlo_];exact LE.out:hiE≤loB));have DH_B:=y0.mk ((by rw [hlo_];exact LH.out:hiH≤loB));have Ea_B:=y0.mk ((by rw [hlo_];exact QIv.ki_lt BKa.out:ga < loB));have Ez_B:=y0.mk ((by rw [hlo_];exact QIv.ki_lt BKz.out:gz < loB));have Eo_B:=y0.mk ((by rw [hlo_];exact QIv.ki_lt BKo.out:go < loB));replace OE:=y0.mk (OE.out.below hb);replace OH:=y0.mk (OH.out.below hb);replace LE:=y0.mk (Nat.le_trans LE.out hb.size);replace LH:=y0.mk (Nat.le_trans LH.out hb.size);replace BKa:=y0.mk (y7 (g:=ga) (o:=(.cells #[.slice A0 l0.length c0,.int .i64 a1,.string a2,.slice A3 l3.length c3,.slice A4 l4.length c4] 28 (0,0))) BKa.out hb);replace BKz:=y0.mk (y7 (g:=gz) (o:=(.cells #[.slice none 0 0,.int .i64 0,.string (⟨#[]⟩:ByteArray),.slice none 0 0,.slice none 0 0] 36 (0,0))) BKz.out hb);replace BKo:=y0.mk (y7 (g:=go) (o:=(.cells #[.slice AE x0.length cE,.int .i64 Bl,.string Bm,.slice AH Bk.length cH,.slice none 0 0] 36 (0,0))) BKo.out hb);replace HB:=y0.mk (y5 HB.out hb);(try clear hb);(try clear ho);(try clear hlo_);(try clear hhi_);obtain⟨Aa,Ab,Ac,Ad,Af,Ag,Ah,Ai,Aj,Ak⟩:=QIv.box5 BKa.out;obtain⟨Am,Ap,Ar,As,At,Au,Av,Aw,Ay,Az⟩:=QIv.box5 BKz.out;obtain⟨Ba,Bb,Bc,Bd,Be,Bf,Bg,Bh,Bi,Bj⟩:=QIv.box5 BKo.out))
 (repeat first|clear Aa|clear Ab|clear Ac|clear Ad|clear Af|clear Am|clear Ap|clear Ar|clear As|clear At|clear Ba|clear Bb|clear Bc|clear Bd|clear Be|clear Ag|clear Ah|clear Ai|clear Aj|clear Ak|clear Au|clear Av|clear Aw|clear Ay|clear Az|clear Bf|clear Bg|clear Bh|clear Bi|clear Bj)
 replace OE:=y0.mk ((OE.out.set (.inl Eo_E.out) _ _):QIv.OS k48 48 loE hiE (.slice AE x0.length cE) x0 (w8.setCell ⟨go,4,none⟩ (.slice AB x4.length cB)))
 replace LE:=y0.mk (by simpa using LE.out:hiE≤(w8.setCell ⟨go,4,none⟩ (.slice AB x4.length cB)).heap.size)
 replace OH:=y0.mk ((OH.out.set (.inl Eo_H.out) _ _):QIv.OR (Kd.int .i64) 3 loH hiH (.slice AH Bk.length cH) Bk (w8.setCell ⟨go,4,none⟩ (.slice AB x4.length cB)))
 replace LH:=y0.mk (by simpa using LH.out:hiH≤(w8.setCell ⟨go,4,none⟩ (.slice AB x4.length cB)).heap.size)
 replace OB:=y0.mk ((OB.out.set (.inl Eo_B.out) _ _):QIv.OS k33 33 loB hiB (.slice AB x4.length cB) x4 (w8.setCell ⟨go,4,none⟩ (.slice AB x4.length cB)))
 replace LB:=y0.mk (by simpa using LB.out:hiB≤(w8.setCell ⟨go,4,none⟩ (.slice AB x4.length cB)).heap.size)
 replace BKa:=y0.mk ((y11 BKa.out (Na_o.out) _):(w8.setCell ⟨go,4,none⟩ (.slice AB x4.length cB)).heap[ga]?=some (.cells #[.slice A0 l0.length c0,.int .i64 a1,.string a2,.slice A3 l3.length c3,.slice A4 l4.length c4] 28 (0,0)))
 replace BKz:=y0.mk ((y11 BKz.out (Nz_o.out) _):(w8.setCell ⟨go,4,none⟩ (.slice AB x4.length cB)).heap[gz]?=some (.cells #[.slice none 0 0,.int .i64 0,.string (⟨#[]⟩:ByteArray),.slice none 0 0,.slice none 0 0] 36 (0,0)))
 replace BKo:=y0.mk ((blk_set BKo.out 4 (.slice AB x4.length cB)):(w8.setCell ⟨go,4,none⟩ (.slice AB x4.length cB)).heap[go]?=some (.cells #[.slice AE x0.length cE,.int .i64 Bl,.string Bm,.slice AH Bk.length cH,.slice AB x4.length cB] 36 (0,0)))
 replace HB:=y0.mk ((y3 HB.out GEo.out):Below w.heap.size w (w8.setCell ⟨go,4,none⟩ (.slice AB x4.length cB)))
 generalize (w8.setCell ⟨go,4,none⟩ (.slice AB x4.length cB))=w9 at OE LE OH LH OB LB BKa BKz BKo HB ⊢
 obtain⟨Aa,Ab,Ac,Ad,Af,Ag,Ah,Ai,Aj,Ak⟩:=QIv.box5 BKa.out
 obtain⟨Am,Ap,Ar,As,At,Au,Av,Aw,Ay,Az⟩:=QIv.box5 BKz.out
 obtain⟨Ba,Bb,Bc,Bd,Be,Bf,Bg,Bh,Bi,Bj⟩:=QIv.box5 BKo.out
 go_wp2
 refine bodyPost_ret (results_cell_row rfl _ _ gz 36 #[.slice AE x0.length cE,.int .i64 Bl,.string Bm,.slice AH Bk.length cH,.slice AB x4.length cB] (0,0) _ rfl (blk_set (blk_set (blk_set (blk_set (blk_set BKz.out 0 (.slice AE x0.length cE)) 1 (.int .i64 Bl)) 2 (.string Bm)) 3 (.slice AH Bk.length cH)) 4 (.slice AB x4.length cB)) Tryz.underlying36 rfl (by kernel_rfl)) rfl ?_
 exact⟨_,_,_,loE,hiE,loH,hiH,loB,hiB,by first|rfl|(simp [y12,y13] <;> rfl),(((((OE.out.set (.inl Ez_E.out) _ _).set (.inl Ez_E.out) _ _).set (.inl Ez_E.out) _ _).set (.inl Ez_E.out) _ _).set (.inl Ez_E.out) _ _),(((((OH.out.set (.inl Ez_H.out) _ _).set (.inl Ez_H.out) _ _).set (.inl Ez_H.out) _ _).set (.inl Ez_H.out) _ _).set (.inl Ez_H.out) _ _),(((((OB.out.set (.inl Ez_B.out) _ _).set (.inl Ez_B.out) _ _).set (.inl Ez_B.out) _ _).set (.inl Ez_B.out) _ _).set (.inl Ez_B.out) _ _),BE.out,IE.out,DE_H.out,IH.out,DH_B.out,IB.out,(by simpa using LB.out),(y3 (y3 (y3 (y3 (y3 HB.out GEz.out) GEz.out) GEz.out) GEz.out) GEz.out)⟩
def laws_markRule.f (k:Nat) (l0:List (S48)) (a1:Int) (a2:ByteArray) (l3:List Int) (l4:List (S33)) (m:Int):Option Int:=(laws_markExpS.f k l0 m).bind fun t=>(laws_markLit.f k a1 a2 l3 t.1).bind fun b=>(laws_markLitS.f k l4 b.1).bind fun t=>some t.1
theorem laws_markLit.iv (k:Nat) (lo hi:Nat) (a1:Int) (a2:ByteArray) (A0:Option Addr) (c0:Nat) (l0:List Int) (m:Int) (r1:Int) (r2:List Int) (w0 w:World) (hB:Below w0.heap.size w0 w) (hlo:w0.heap.size≤lo) (ho:QIv.OR (Kd.int .i64) 3 lo hi (.slice A0 l0.length c0) l0 w) (h:laws_markLit.f k a1 a2 l0 m=some (r1,r2)) :
  Calls Tryz.prog 28 #[.agg #[.int .i64 a1,.string a2,.slice A0 l0.length c0],.int .i64 m] w fun e w'=>e=.returned (.int .i64 r1)∧Below w0.heap.size w0 w'∧QIv.KI lo hi w w':=by
 have hR:Kd.R (Kd.int .i64) 3 w w0.heap.size (fun k_=>lo≤k_∧k_ < hi) (.slice A0 l0.length c0) l0:=Kd.R_lower (Kd.R_mono (Kd.R_bound ho) (fun k hk=>⟨hk.2.1,hk.1⟩)) hlo
 refine(laws_markLit.calls k a1 a2 _ _ l0 m r1 r2 w0 w hB hR h).mono ?_
 rintro e w5 ⟨rfl,_,hb,hk⟩
 exact⟨rfl,hb,hk⟩
set_option maxHeartbeats 8000000 in
set_option maxRecDepth 100000 in
theorem laws_markRule.calls (k:Nat) (Ab Af Ag Ah Ai Aa:Nat) (A0:Option Addr) (c0:Nat) (l0:List (S48)) (a1:Int) (a2:ByteArray) (A3:Option Addr) (c3:Nat) (l3:List Int) (A4:Option Addr) (c4:Nat) (l4:List (S33)) (m r1:Int) (w0 w:World) (hB:Below w0.heap.size w0 w) (h0:w0.heap.size≤Ab) (h1:Ab≤Af) (h2:Af≤Ag) (h3:Ag≤Ah) (h4:Ah≤Ai) (h5:Ai≤Aa) (h6:Aa≤w.heap.size)
  (Az:QIv.OS k48 48 Ab Af (.slice A0 l0.length c0) l0 w) (Ba:QIv.OR (Kd.int .i64) 3 Ag Ah (.slice A3 l3.length c3) l3 w) (Bb:QIv.OS k33 33 Ai Aa (.slice A4 l4.length c4) l4 w) (h:laws_markRule.f k l0 a1 a2 l3 l4 m=some r1) :
  Calls Tryz.prog 10 #[.agg #[.slice A0 l0.length c0,.int .i64 a1,.string a2,.slice A3 l3.length c3,.slice A4 l4.length c4],.int .i64 m] w fun e w'=>e=.returned (.int .i64 r1)∧Below w0.heap.size w0 w'∧QIv.KI Ab Aa w w':=by
 have Bf:=Tryz.underlying36
 have Bg:=Tryz.underlying33
 unfold laws_markRule.f at h
 obtain⟨⟨t1,x1⟩,E1,h⟩:=Option.bind_eq_some_iff.1 h
 obtain⟨⟨t2,x2⟩,E2,h⟩:=Option.bind_eq_some_iff.1 h
 obtain⟨⟨t3,x3⟩,E3,h⟩:=Option.bind_eq_some_iff.1 h
 injection h with h
 subst h
 have Ay:=y0.mk Az
 have Ad:=y0.mk Ba
 have Ac:=y0.mk Bb
 have HB:=y0.mk hB
 have HK:=y0.mk (QIv.ki_refl Ab Aa w)
 replace E1:=y0.mk E1
 replace E2:=y0.mk E2
 replace E3:=y0.mk E3
 have HX:y0 (∀ a b:Nat,Ab≤a→b≤Aa→∀ W W1:World,QIv.KI a b W W1→QIv.KI Ab Aa W W1):=⟨fun a b h1 h2 W W1 hk=>Kept.mono hk (fun k hk=>⟨Nat.le_trans h1 hk.1,Nat.lt_of_lt_of_le hk.2 h2⟩)⟩
 have G0:=y0.mk h0
 have G1:=y0.mk (Nat.le_trans h0 (Nat.le_trans h1 h2))
 have G2:=y0.mk (Nat.le_trans (Nat.le_trans h0 (Nat.le_trans h1 h2)) (Nat.le_trans h3 h4))
 have Bc:=y0.mk h2
 have Bd:=y0.mk h4
 have Be:=y0.mk (Nat.le_trans h2 (Nat.le_trans h3 h4))
 have B1:=y0.mk (Nat.le_trans (Nat.le_trans h2 h3) (Nat.le_trans h4 h5):Af≤Aa)
 have B2:=y0.mk (Nat.le_trans h4 h5:Ah≤Aa)
 have C2:=y0.mk (Nat.le_trans h1 h2:Ab≤Ag)
 have C3:=y0.mk (Nat.le_trans (Nat.le_trans h1 h2) (Nat.le_trans h3 h4):Ab≤Ai)
 have H6:=y0.mk h6
 clear Az Ba Bb hB h0 h1 h2 h3 h4 h5 h6
 go_enter Tryz.func10,Tryz.ntmps10
 go_wp2_with (first
  | ((with_reducible refine y16 (N:=2) rfl ?_);refine qe 2 #[.slice A0 l0.length c0,.int .i64 a1,.string a2,.slice A3 l3.length c3,.slice A4 l4.length c4] 36 ?_;intro gb hg w2 hbox hb;replace Ay:=y0.mk (Ay.out.below hb);replace Ad:=y0.mk (Ad.out.below hb);replace Ac:=y0.mk (Ac.out.below hb);replace HB:=y0.mk (y5 HB.out hb);replace HK:=y0.mk (QIv.ki_below HK.out hb);have BK:=y0.mk hbox;have GB:=y0.mk ((by rw [hg];exact H6.out):Aa≤gb);clear hbox hb hg H6;obtain⟨Aj,Ak,Am,Ap,Ar,As,At,Au,Av,Aw⟩:=QIv.box5 BK.out)
  | (go_at_call 27;(with_reducible refine(laws_markExpS.calls k Ab Af _ _ l0 m t1 x1 w0 _ HB.out G0.out Ay.out E1.out).mono ?_);rintro e w5 ⟨rfl,_,hb,hk⟩;replace Ad:=y0.mk (Ad.out.ki hk (.inr Bc.out));replace Ac:=y0.mk (Ac.out.ki hk (.inr Be.out));replace HB:=y0.mk hb;replace HK:=y0.mk (QIv.ki_trans HK.out (HX.out _ _ (Nat.le_refl _) B1.out _ _ hk));replace BK:=y0.mk (QIv.ki_blk BK.out hk (.inr (Nat.le_trans B1.out GB.out)));clear hk hb Ay Aj Ak Am Ap Ar As At Au Av Aw;obtain⟨Aj,Ak,Am,Ap,Ar,As,At,Au,Av,Aw⟩:=QIv.box5 BK.out)
  | (go_at_call 28;(with_reducible refine(laws_markLit.iv k Ag Ah a1 a2 _ _ l3 t1 t2 x2 w0 _ HB.out G1.out Ad.out E2.out).mono ?_);rintro e w5 ⟨rfl,hb,hk⟩;replace Ac:=y0.mk (Ac.out.ki hk (.inr Bd.out));replace HB:=y0.mk hb;replace HK:=y0.mk (QIv.ki_trans HK.out (HX.out _ _ C2.out B2.out _ _ hk));replace BK:=y0.mk (QIv.ki_blk BK.out hk (.inr (Nat.le_trans B2.out GB.out)));clear hk hb Ad Aj Ak Am Ap Ar As At Au Av Aw;obtain⟨Aj,Ak,Am,Ap,Ar,As,At,Au,Av,Aw⟩:=QIv.box5 BK.out)
  | (go_at_call 29;(with_reducible refine(laws_markLitS.calls k Ai Aa _ _ l4 t2 t3 x3 w0 _ HB.out G2.out Ac.out E3.out).mono ?_);rintro e w5 ⟨rfl,_,hb,hk⟩;replace HB:=y0.mk hb;replace HK:=y0.mk (QIv.ki_trans HK.out (HX.out _ _ C3.out (Nat.le_refl _) _ _ hk));clear hk hb Ac BK Aj Ak Am Ap Ar As At Au Av Aw))
 go_ret
 exact⟨by first|rfl|(simp [y12,y13] <;> rfl),HB.out,HK.out⟩
def laws_markStringS.l0:Nat→List ByteArray→Int→Int→Option (Int×List ByteArray)
 | 0,_,_,_=>none
 | k + 1,x0,x1,x5=>if x5 < (x0.length:Int)then((laws_markText.f k x1).bind fun t513=>(if 0≤x5 then(laws_markStringS.l0 k (x0.set (x5:Int).toNat t513) (wrap64 (x1 + 1)) (wrap64 (x5 + 1)))else(none)))else(some (x1,x0))
def laws_markStringS.f (k:Nat) (l0:List ByteArray) (a1:Int):Option (Int×List ByteArray):=laws_markStringS.l0 k l0 a1 0
set_option maxHeartbeats 8000000 in
set_option maxRecDepth 100000 in
theorem laws_markStringS.calls (k:Nat) (P0_:Nat→Prop) (u9000_:Value) (l0:List ByteArray) (a1:Int) (r1:Int) (r2:List ByteArray) (w0 w:World) (hB:Below w0.heap.size w0 w) (Ba:Kd.R Kd.string 9 w w0.heap.size P0_ u9000_ l0) (h:laws_markStringS.f k l0 a1=some (r1,r2)) :
  Calls Tryz.prog 11 #[u9000_,.int .i64 a1] w fun e w'=>e=.returned (.int .i64 r1)∧Kd.R Kd.string 9 w' w0.heap.size (fun k_=>(P0_ k_∨w.heap.size≤k_)) u9000_ r2∧Below w0.heap.size w0 w'∧Kept w w' (fun k_=>P0_ k_):=by
 have Bb:=y0.mk (show Kd.R Kd.string 9 w w0.heap.size (fun k_=>(P0_ k_∨w.heap.size≤k_)) u9000_ l0 from Kd.R_mono Ba (fun k_ hk=>(.inl hk)))
 have HK:=y0.mk (Kept.refl w (fun k_=>P0_ k_))
 have Bj:=y0.mk hB.size
 have HB:=y0.mk hB
 clear hB
 have H:(laws_markStringS.l0 k l0 a1 0)=some (r1,r2):=h
 clear h
 have H':=y0.mk H
 clear H
 go_enter Tryz.func11,Tryz.ntmps11
 go_wp2
 go_loopg [1,5] k (fun kq v1 v5 w'=>∃(Ad:List ByteArray) (Af:Int) (Aa:Int),v1=.int .i64 Af∧v5=.int .i64 Aa∧y0 (laws_markStringS.l0 kq Ad Af Aa=some (r1,r2))∧y0 (kq≤k)∧y0 (Kd.R Kd.string 9 w' w0.heap.size (fun k_=>(P0_ k_∨w.heap.size≤k_)) u9000_ Ad)∧y0 (Kept w w' (fun k_=>P0_ k_))∧y0 (Below w0.heap.size w0 w'))
 case atStart=>exact⟨(l0),(a1),(0),qy2,qy2,H',⟨Nat.le_refl _⟩,⟨qR Bb.out⟩,⟨by repeat(first|(with_reducible first|exact HK.out|apply Kept.alloc|apply Kept.drewN|apply Kept.drew)|exact HK.out)⟩,⟨qb⟩⟩
 case round =>
  clear H'
  obtain⟨Ad,Af,Aa,rfl,rfl,HA,As,Ab,HK,HB⟩:=hrel
  cases gk with
  | zero=>exact absurd HA.out (by simp [laws_markStringS.l0])
  | succ k1 =>
   have H:=HA.out
   clear HA
   simp only [laws_markStringS.l0]at H
   by_cases c3:Aa < (Ad.length:Int)
   ·rw [if_pos c3]at H
    have Ak:=decide_eq_true c3
    clear c3
    obtain⟨Ag,A4,H⟩:=qB H
    obtain⟨c5,H⟩:=qo H
    have Bc:decide (0≤Aa)=true:=decide_eq_true c5
    clear c5
    obtain⟨Ah,Ac⟩:∃ y_:List ByteArray,y_=(Ad.set (Aa:Int).toNat Ag):=⟨_,rfl⟩
    replace H:(laws_markStringS.l0 k1 Ah (wrap64 (Af + 1)) (wrap64 (Aa + 1)))=some (r1,r2):=by first|(rw [Ac];with_reducible exact H)|(have H2_:=(Option.bind_some _ _).symm.trans H;rw [Ac];with_reducible exact H2_)|(have H2_:=(Option.bind_some _ _).symm.trans H;with_reducible exact H2_)|with_reducible exact H|(rw [Ac];exact H)|exact H
    have Ai:=y0.mk Ac
    clear Ac
    have H':=y0.mk H
    clear H
    obtain⟨Bk,Bd,Be⟩:=Kd.R_slice Ab.out
    subst Be
    go_wp2_with (first|((with_reducible refine y15 (f:=30) rfl ?_);refine y17 (some 15) rfl rfl Tryz.func30 (by kernel_rfl) rfl #[.int .i64 Af] rfl qy1 ?_;(with_reducible refine(laws_markText.calls k1 Af Ag _ A4.out).mono ?_);rintro e w8 ⟨rfl,hb⟩;refine⟨_,rfl, ?_⟩;replace Ab:=y0.mk (Kd.R_below (qR Ab.out) hb);replace HK:=y0.mk (Kept.below (S:=(fun k_=>P0_ k_)) (by repeat(first|(with_reducible first|exact HK.out|apply Kept.alloc|apply Kept.drewN|apply Kept.drew)|exact HK.out)) hb);replace HB:=y0.mk (y5 qb hb);(try clear hb);have p6:0≤(Aa:Int):=of_decide_eq_true qy0;have q6:(Aa:Int) < ((Ad.length:Int):Int):=of_decide_eq_true qy0;obtain⟨Aj,Bl,At,Au,Bf,Bm,Av⟩:=Kd.R_form Ab.out (by omega);(first|cases At|(injection At with ea_ en_ ec_;(first|subst ea_|(injection ea_ with ea_;subst ea_));subst ec_;clear en_));have Bg:=y0.mk Au;have Bn:=y0.mk Av;clear Au Bf Av;have Aw:=y0.mk (show(P0_ Aj∨w.heap.size≤Aj)from(Ab.out.1 _ rfl));obtain⟨Ay,Az⟩:=Kd.R_celln (⟨#[]⟩:ByteArray) Ab.out (Aa:Int) p6 q6;replace p6:=eq_true p6;replace q6:=eq_true q6;obtain⟨hy9_,hz9_⟩:=Kd.R_celln (⟨#[]⟩:ByteArray) Ab.out (Aa:Int) (of_decide_eq_true qy0) (of_decide_eq_true qy0);have Am:=Kd.R_putg Ab.out (Aa:Int) Ag)|((with_reducible refine gate_store (t:=9) (p:=16) rfl ?_);refine store_event (t:=9) (p:=16) (v:=?vo_w10) (w1:=(w8.setCell ⟨Aj,(Aa:Int).toNat,none⟩ (.string Ag))) ?hg ?ho ?hn ?hr ?_;(case ho=>rfl);(case hg=>rfl);(case hn=>rfl);(case hr=>first|(go_simp;done)|(go_simp;rfl));intro Ap hw;have hg:w8.grownBy Ap (some Aj):=(by rw [hw];exact Am.2);have hp_:Kd.R Kd.string 9 Ap w0.heap.size (fun k_=>(P0_ k_∨w.heap.size≤k_)) (.slice (some ⟨Aj,0,none⟩) Ad.length Bd) Ah:=(by rw [hw,Ai.out];exact Am.1);clear Am;replace HB:=y0.mk ((by rw [hw];exact y3 (HB.out) Bg.out:Below w0.heap.size w0 Ap));replace HK:=y0.mk (Kept.of_grown (S:=(fun k_=>P0_ k_)) hg (by repeat(first|(with_reducible first|exact HK.out|apply Kept.alloc|apply Kept.drewN|apply Kept.drew)|exact HK.out)) (fun k_ e_=>(Ab.out.1 k_ e_)));replace Ab:=y0.mk (hp_);clear hg hw hp_))
    go_roundg k1
    case measure=>have:=As.out;omega
    exact⟨(Ah),(wrap64 (Af + 1)),(wrap64 (Aa + 1)),qy2,qy2,H',⟨by have:=As.out;omega⟩,⟨qR Ab.out⟩,⟨by repeat(first|(with_reducible first|exact HK.out|apply Kept.alloc|apply Kept.drewN|apply Kept.drew)|exact HK.out)⟩,⟨qb⟩⟩
   ·rw [if_neg c3]at H
    have Ak:=decide_eq_false c3
    clear c3
    simp only [Option.some.injEq,Prod.mk.injEq]at H
    obtain⟨rfl,rfl⟩:=H
    obtain⟨Bh,Bi,Ar⟩:=Kd.R_slice Ab.out
    subst Ar
    go_wp2
    go_ret
    exact⟨qf,by(with_reducible repeat(first|apply Kd.R_alloc|apply Kd.R_drewN|apply Kd.R_drew));exact Ab.out,qb,by repeat(first|(with_reducible first|exact HK.out|apply Kept.alloc|apply Kept.drewN|apply Kept.drew)|exact HK.out)⟩
end Go.Proofs.YtkdabljlfbmpdaaGreat.Pb
end
section
namespace Go.Proofs.YtkdabljlfbmpdaaGreat.Pb
open Go.RowKit Go.Proofs.YtkdabljlfbmpdaaGreatW.PrintWords Go.Proofs.YtkdabljlfbmpdaaGreatW.PrintLast Go.Proofs.YtkdabljlfbmpdaaGreatW.PrintMore
attribute [local go_sem] max2_int min2_int max_two min_two max_three min_three max_four min_four   -- for this text's walks alone
set_option linter.unusedVariables false
set_option linter.unusedSimpArgs false
def laws_heldStringS.l0:Nat→List ByteArray→Int→Int→Option (Int)
 | 0,_,_,_=>none
 | k + 1,x0,x1,x5=>if x5 < (x0.length:Int)then(if 0≤x5 then((laws_markText.f k x1).bind fun t516=>(if(rdOf ByteArray.empty x0 x5).toList=t516.toList then(laws_heldStringS.l0 k x0 (wrap64 (x1 + 1)) (wrap64 (x5 + 1)))else(some (-1))))else(none))else(some x1)
def laws_heldStringS.f (k:Nat) (l0:List ByteArray) (a1:Int):Option (Int):=laws_heldStringS.l0 k l0 a1 0
set_option maxHeartbeats 8000000 in
set_option maxRecDepth 100000 in
theorem laws_heldStringS.calls (k:Nat) (A0:Option Addr) (c0:Nat) (l0:List ByteArray) (a1:Int) (r:Int) (w:World) (Ar:Kd.C Kd.string w A0 l0.length l0) (As:l0.length≤c0) (h:laws_heldStringS.f k l0 a1=some r) :
  Calls Tryz.prog 12 #[.slice A0 l0.length c0,.int .i64 a1] w fun e w'=>e=.returned (.int .i64 r)∧Below w.heap.size w w':=by
 have At:=y0.mk Ar
 have Aw:=y0.mk As
 clear Ar As
 have HB:=y0.mk (Below.refl w.heap.size w)
 have H:(laws_heldStringS.l0 k l0 a1 0)=some r:=h
 clear h
 have H':=y0.mk H
 clear H
 go_enter Tryz.func12,Tryz.ntmps12
 go_wp2
 go_loopg [1,5] k (fun kq v1 v5 w'=>∃(Ad:Int) (Ac:Int),v1=.int .i64 Ad∧v5=.int .i64 Ac∧y0 (laws_heldStringS.l0 kq l0 Ad Ac=some r)∧y0 (kq≤k)∧y0 (Below w.heap.size w w'))
 case atStart=>exact⟨(a1),(0),qy2,qy2,H',⟨Nat.le_refl _⟩,⟨qb⟩⟩
 case round =>
  clear H'
  obtain⟨Ad,Ac,rfl,rfl,HA,Au,HB⟩:=hrel
  cases gk with
  | zero=>exact absurd HA.out (by simp [laws_heldStringS.l0])
  | succ k1 =>
   have H:=HA.out
   clear HA
   simp only [laws_heldStringS.l0]at H
   by_cases c3:Ac < (l0.length:Int)
   ·rw [if_pos c3]at H
    have Ak:=decide_eq_true c3
    clear c3
    obtain⟨c4,H⟩:=qo H
    have Av:decide (0≤Ac)=true:=decide_eq_true c4
    clear c4
    obtain⟨Af,A5,H⟩:=qB H
    by_cases c6:(rdOf ByteArray.empty l0 Ac).toList=Af.toList
    ·rw [if_pos c6]at H
     have Am:((rdOf ByteArray.empty l0 Ac).toList == Af.toList)=true:=beq_iff_eq.mpr c6
     have Ap:((rdOf ByteArray.empty l0 Ac).toList != Af.toList)=false:=bne_eq_false_iff_eq.mpr c6
     clear c6
     have H':=y0.mk H
     clear H
     try go_wp2
     replace HB:=y0.mk (y2 HB.out)
     have Ag:0≤(Ac:Int):=of_decide_eq_true qy0
     have Ah:Ac < (l0.length:Int):=of_decide_eq_true qy0
     obtain⟨Ai,Aj,Aa⟩:=Kd.at_string At.out Ac Ag Ah
     have Ab:=Aa
     cases Aj
     replace Aa:=(HB.out.cell (World.block_lt_of_cell? w _ Aa)).trans Aa
     replace Ag:=eq_true Ag
     replace Ah:=eq_true Ah
     refine start_ (n:=7) (S:=fun w'=>w'.cell? (Ai.add (Ac).toNat)=some (.string (rdOf ByteArray.empty l0 Ac))) (ds:=[]) #[false,false,false,false,false,false,false] (by kernel_rfl) rfl rfl (((HB.out.cell (World.block_lt_of_cell? w _ Ab)).trans Ab)) (fun hHeld=>?_)
     generalize wr.drew=w7 at HB Aa hHeld ⊢
     refine qp3 0 12 7 ?_
     refine qp 4 16 #[true,true,true,false,true,false,false] ?_
     refine qt 3 15 #[true,true,true,true,true,false,false] hHeld ?_
     refine qO 5 17 #[true,true,true,true,true,true,false] (fun K hK=>?_)
     refine goes_ Tryz.func30 (by kernel_rfl) rfl #[.int .i64 Ad] (by rfl) rfl rfl qy1 ?_
     with_reducible refine(laws_markText.calls k1 Ad Af _ A5.out).mono ?_
     rintro e w8 ⟨rfl,hb⟩
     refine⟨_,rfl, ?_⟩
     replace HB:=y0.mk (y5 qb hb)
     (try clear hb)
     refine hK.out _ _ (((HB.out.cell (World.block_lt_of_cell? w _ Ab)).trans Ab)) (fun hHeld=>?_)
     clear hK K
     refine qx 17 ?_
     refine qp 6 18 #[true,true,true,true,true,true,true] ?_
     refine done_ (by kernel_rfl) ?_
     try go_wp2
     go_roundg k1
     case measure=>have:=Au.out;omega
     exact⟨(wrap64 (Ad + 1)),(wrap64 (Ac + 1)),qy2,qy2,H',⟨by have:=Au.out;omega⟩,⟨qb⟩⟩
    ·rw [if_neg c6]at H
     have Am:((rdOf ByteArray.empty l0 Ac).toList == Af.toList)=false:=beq_eq_false_iff_ne.mpr c6
     have Ap:((rdOf ByteArray.empty l0 Ac).toList != Af.toList)=true:=bne_iff_ne.mpr c6
     obtain rfl:=Option.some.inj H
     try go_wp2
     replace HB:=y0.mk (y2 HB.out)
     have Ag:0≤(Ac:Int):=of_decide_eq_true qy0
     have Ah:Ac < (l0.length:Int):=of_decide_eq_true qy0
     obtain⟨Ai,Aj,Aa⟩:=Kd.at_string At.out Ac Ag Ah
     have Ab:=Aa
     cases Aj
     replace Aa:=(HB.out.cell (World.block_lt_of_cell? w _ Aa)).trans Aa
     replace Ag:=eq_true Ag
     replace Ah:=eq_true Ah
     refine start_ (n:=7) (S:=fun w'=>w'.cell? (Ai.add (Ac).toNat)=some (.string (rdOf ByteArray.empty l0 Ac))) (ds:=[]) #[false,false,false,false,false,false,false] (by kernel_rfl) rfl rfl (((HB.out.cell (World.block_lt_of_cell? w _ Ab)).trans Ab)) (fun hHeld=>?_)
     generalize wr.drew=w9 at HB Aa hHeld ⊢
     refine qp3 0 12 7 ?_
     refine qp 4 16 #[true,true,true,false,true,false,false] ?_
     refine qt 3 15 #[true,true,true,true,true,false,false] hHeld ?_
     refine qO 5 17 #[true,true,true,true,true,true,false] (fun K hK=>?_)
     refine goes_ Tryz.func30 (by kernel_rfl) rfl #[.int .i64 Ad] (by rfl) rfl rfl qy1 ?_
     with_reducible refine(laws_markText.calls k1 Ad Af _ A5.out).mono ?_
     rintro e Ay ⟨rfl,hb⟩
     refine⟨_,rfl, ?_⟩
     replace HB:=y0.mk (y5 qb hb)
     (try clear hb)
     refine hK.out _ _ (((HB.out.cell (World.block_lt_of_cell? w _ Ab)).trans Ab)) (fun hHeld=>?_)
     clear hK K
     refine qx 17 ?_
     refine qp 6 18 #[true,true,true,true,true,true,true] ?_
     refine done_ (by kernel_rfl) ?_
     try go_wp2
     go_ret
     exact⟨qf,qb⟩
   ·rw [if_neg c3]at H
    have Ak:=decide_eq_false c3
    clear c3
    obtain rfl:=Option.some.inj H
    go_wp2
    go_ret
    exact⟨qf,qb⟩
def laws_FnExactBound.Run (k:Nat) (l0:List (S63)) (a1:Int) (a2:ByteArray) (l3:List Int) (l4:List (S25)):Prop :=
 ∃ r,laws_szRule.f k l0 a1 a2 l3 l4 1048576=some r∧(r < 0∨(¬ r < 0∧∃(es:List (S48)) (h1:Int) (h2:ByteArray) (h3:List Int) (bs:List (S33)) (gs:List ByteArray) (m1 m3:Int) (gm:List ByteArray),
  laws_toRule.f k l0 a1 a2 l3 l4=some (es,h1,h2,h3,bs)∧spec_Bound.f k es h1 h2 h3 bs=some gs∧impl_Bound.f k es h1 h2 h3 bs=some gs∧laws_eqStringS.f k gs gs=some true∧laws_eqRule.f k es h1 h2 h3 bs es h1 h2 h3 bs=some true ∧
  laws_markRule.f k es h1 h2 h3 bs 1=some m1∧¬ m1 < 0∧laws_markStringS.f k gs 1=some (m3,gm)∧gm.length=gs.length∧laws_heldStringS.f k gm 1=some m3∧¬ m3 < 0))
theorem laws_markStringS.ivs (k:Nat) (lo hi:Nat) (A0:Option Addr) (c0:Nat) (l0:List ByteArray) (a1:Int) (r1:Int) (r2:List ByteArray) (w0 w:World) (hB:Below w0.heap.size w0 w) (hlo:w0.heap.size≤lo) (ho:QIv.OR Kd.string 9 lo hi (.slice A0 l0.length c0) l0 w) (h:laws_markStringS.f k l0 a1=some (r1,r2)) :
  Calls Tryz.prog 11 #[.slice A0 l0.length c0,.int .i64 a1] w fun e w'=>e=.returned (.int .i64 r1)∧QIv.OR Kd.string 9 lo hi (.slice A0 l0.length c0) r2 w'∧Below w0.heap.size w0 w'∧QIv.KI lo hi w w':=by
 have hR:Kd.R Kd.string 9 w w0.heap.size (fun k_=>lo≤k_∧k_ < hi) (.slice A0 l0.length c0) l0:=Kd.R_lower (Kd.R_mono (Kd.R_bound ho) (fun k hk=>⟨hk.2.1,hk.1⟩)) hlo
 refine(laws_markStringS.calls k _ _ l0 a1 r1 r2 w0 w hB hR h).mono ?_
 rintro e w5 ⟨rfl,hy,hb,hk⟩
 exact⟨rfl,Kd.R_mono (Kd.R_raise (d:=Kd.string) (b:=w0.heap.size) (b':=lo) (fun _ _ _ _ h=>h) (Kd.R_tight rfl hy) (Kd.R_base ho)) (fun k hk=>ho.1 k hk.symm),hb,hk⟩
set_option maxHeartbeats 16000000 in
set_option maxRecDepth 100000 in
theorem laws_FnExactBound.calls (k:Nat) (A0:Option Addr) (c0:Nat) (l0:List (S63)) (a1:Int) (a2:ByteArray) (A3:Option Addr) (c3:Nat) (l3:List Int) (A4:Option Addr) (c4:Nat) (l4:List (S25)) (w:World) (Bj:Kd.C k63 w A0 l0.length l0) (Bk:l0.length≤c0) (Bl:Kd.C (Kd.int .i64) w A3 l3.length l3) (Bm:l3.length≤c3) (Bn:Kd.C k25 w A4 l4.length l4) (Bo:l4.length≤c4) (h:laws_FnExactBound.Run k l0 a1 a2 l3 l4) :
  Calls Tryz.prog 3 #[.agg #[.slice A0 l0.length c0,.int .i64 a1,.string a2,.slice A3 l3.length c3,.slice A4 l4.length c4]] w fun e w'=>e=.returned (.bool true)∧Below w.heap.size w w':=by
 have Br:=Tryz.underlying28
 have Bs:=Tryz.underlying36
 have Ba:=y0.mk Bj
 clear Bj
 have Bb:=y0.mk Bk
 clear Bk
 have Bc:=y0.mk Bl
 clear Bl
 have Bd:=y0.mk Bm
 clear Bm
 have Be:=y0.mk Bn
 clear Bn
 have Bf:=y0.mk Bo
 clear Bo
 have HB:=y0.mk (Below.refl w.heap.size w)
 obtain⟨r,E1,h⟩:=h
 have E1:=y0.mk E1
 rcases h with h|⟨h0,es,h1,h2,h3,bs,gs,m1,m3,gm,F1,F2,F3,F4,F5,F6,F7,F8,F9,Bg,Bp⟩
 ·skip
  have Bq:decide (r < 0)=true:=decide_eq_true h
  clear h
  go_enter Tryz.func3,Tryz.ntmps3
  go_wp2_with (first
   | ((with_reducible refine y16 (N:=1) rfl ?_);refine qe 1 #[.slice A0 l0.length c0,.int .i64 a1,.string a2,.slice A3 l3.length c3,.slice A4 l4.length c4] 28 ?_;intro ga hg w1 hbox hb;have BKa:=y0.mk (hbox);have GEa:=y0.mk ((by rw [hg];exact HB.out.size:w.heap.size≤ga));replace HB:=y0.mk (y5 HB.out hb);clear hb hg hbox;obtain⟨Aa,Ab,Ac,Ad,Af,Ag,Ah,Ai,Aj,Ak⟩:=QIv.box5 BKa.out)
   | (go_at_call 4;(with_reducible refine(laws_szRule.calls k _ _ l0 a1 a2 _ _ l3 _ _ l4 1048576 r _ (Kd.C_below Ba.out HB.out) Bb.out (Kd.C_below Bc.out HB.out) Bd.out (Kd.C_below Be.out HB.out) Bf.out E1.out).mono ?_);rintro e w2 ⟨rfl,hb⟩;(repeat first|clear Aa|clear Ab|clear Ac|clear Ad|clear Af|clear Ag|clear Ah|clear Ai|clear Aj|clear Ak);replace BKa:=y0.mk (y7 (g:=ga) (o:=(.cells #[.slice A0 l0.length c0,.int .i64 a1,.string a2,.slice A3 l3.length c3,.slice A4 l4.length c4] 28 (0,0))) BKa.out hb);replace HB:=y0.mk (y5 HB.out hb);(try clear hb);obtain⟨Aa,Ab,Ac,Ad,Af,Ag,Ah,Ai,Aj,Ak⟩:=QIv.box5 BKa.out))
  go_ret
  exact⟨by first|rfl|(simp [y12,y13] <;> rfl),HB.out⟩
 have Bq:decide (r < 0)=false:=decide_eq_false h0
 clear h0
 replace F1:=y0.mk F1
 replace F2:=y0.mk F2
 replace F3:=y0.mk F3
 replace F4:=y0.mk F4
 replace F5:=y0.mk F5
 replace F6:=y0.mk F6
 replace F8:=y0.mk F8
 replace Bg:=y0.mk Bg
 have Bt:decide (m1 < 0)=false:=decide_eq_false F7
 have Bu:decide (m3 < 0)=false:=decide_eq_false Bp
 have Bv:(m3 != m3)=false:=bne_self_eq_false m3
 clear F7 Bp
 have HELD:y0 (∀(W:World) (A:Option Addr) (c:Nat),Kd.C Kd.string W A gm.length gm→gm.length≤c→Calls Tryz.prog 12 #[.slice A gs.length c,.int .i64 1] W fun e w'=>e=.returned (.int .i64 m3)∧Below W.heap.size W w'):=by
  refine⟨fun W A c h1 h2=>?_⟩
  have h_:=laws_heldStringS.calls k A c gm 1 m3 W h1 h2 Bg.out
  rw [F9]at h_
  exact h_
 have HGL:=y0.mk F9
 clear F9
 go_enter Tryz.func3,Tryz.ntmps3
 go_upto_region 5 with(first
  | ((with_reducible refine y16 (N:=1) rfl ?_);refine qe 1 #[.slice A0 l0.length c0,.int .i64 a1,.string a2,.slice A3 l3.length c3,.slice A4 l4.length c4] 28 ?_;intro ga hg w1 hbox hb;have BKa:=y0.mk (hbox);have GEa:=y0.mk ((by rw [hg];exact HB.out.size:w.heap.size≤ga));replace HB:=y0.mk (y5 HB.out hb);clear hb hg hbox;obtain⟨Aa,Ab,Ac,Ad,Af,Ag,Ah,Ai,Aj,Ak⟩:=QIv.box5 BKa.out)
  | (go_at_call 4;(with_reducible refine(laws_szRule.calls k _ _ l0 a1 a2 _ _ l3 _ _ l4 1048576 r _ (Kd.C_below Ba.out HB.out) Bb.out (Kd.C_below Bc.out HB.out) Bd.out (Kd.C_below Be.out HB.out) Bf.out E1.out).mono ?_);rintro e w2 ⟨rfl,hb⟩;(repeat first|clear Aa|clear Ab|clear Ac|clear Ad|clear Af|clear Ag|clear Ah|clear Ai|clear Aj|clear Ak);replace BKa:=y0.mk (y7 (g:=ga) (o:=(.cells #[.slice A0 l0.length c0,.int .i64 a1,.string a2,.slice A3 l3.length c3,.slice A4 l4.length c4] 28 (0,0))) BKa.out hb);replace HB:=y0.mk (y5 HB.out hb);(try clear hb);obtain⟨Aa,Ab,Ac,Ad,Af,Ag,Ah,Ai,Aj,Ak⟩:=QIv.box5 BKa.out))
 go_upto_region 6 with(first
  | (go_at_call 6;(with_reducible refine(laws_toRule.iv k _ _ l0 a1 a2 _ _ l3 _ _ l4 es h1 h2 h3 bs _ (Kd.C_below Ba.out HB.out) Bb.out (Kd.C_below Bc.out HB.out) Bd.out (Kd.C_below Be.out HB.out) Bf.out F1.out).mono ?_);rintro e_ w3 ⟨v1_,v2_,v3_,loPe,hiPe,loPh,hiPh,loPb,hiPb,rfl,o1_,o2_,o3_,i1_,i2_,i3_,i4_,i5_,i6_,i7_,hb⟩;obtain⟨APe,cPe,eA_⟩:=o1_.slice;subst eA_;obtain⟨APh,cPh,eA_⟩:=o2_.slice;subst eA_;obtain⟨APb,cPb,eA_⟩:=o3_.slice;subst eA_;(repeat first|clear Aa|clear Ab|clear Ac|clear Ad|clear Af|clear Ag|clear Ah|clear Ai|clear Aj|clear Ak);have OPe:=y0.mk (o1_);have OPh:=y0.mk (o2_);have OPb:=y0.mk (o3_);have IPe:=y0.mk (i2_);have IPh:=y0.mk (i4_);have IPb:=y0.mk (i6_);have DPe_Ph:=y0.mk (i3_);have DPh_Pb:=y0.mk (i5_);have DPe_Pb:=y0.mk ((by omega:hiPe≤loPb));have LPe:=y0.mk ((by omega:hiPe≤w3.heap.size));have BPe:=y0.mk ((by have:=HB.out.size;omega:w.heap.size≤loPe));have Ea_Pe:=y0.mk ((by have:=QIv.ki_lt BKa.out;omega:ga < loPe));have LPh:=y0.mk ((by omega:hiPh≤w3.heap.size));have BPh:=y0.mk ((by have:=HB.out.size;omega:w.heap.size≤loPh));have Ea_Ph:=y0.mk ((by have:=QIv.ki_lt BKa.out;omega:ga < loPh));have LPb:=y0.mk ((by omega:hiPb≤w3.heap.size));have BPb:=y0.mk ((by have:=HB.out.size;omega:w.heap.size≤loPb));have Ea_Pb:=y0.mk ((by have:=QIv.ki_lt BKa.out;omega:ga < loPb));replace BKa:=y0.mk (y7 (g:=ga) (o:=(.cells #[.slice A0 l0.length c0,.int .i64 a1,.string a2,.slice A3 l3.length c3,.slice A4 l4.length c4] 28 (0,0))) BKa.out hb);replace HB:=y0.mk (y5 HB.out hb);clear o1_ o2_ o3_ i1_ i2_ i3_ i4_ i5_ i6_ i7_ hb;obtain⟨Aa,Ab,Ac,Ad,Af,Ag,Ah,Ai,Aj,Ak⟩:=QIv.box5 BKa.out)
  | (go_at_call 5;(with_reducible refine(spec_Bound.calls k _ _ es h1 h2 _ _ h3 _ _ bs gs _ OPe.out.C OPe.out.le OPh.out.C OPh.out.le OPb.out.C OPb.out.le F2.out).mono ?_);rintro e w4 ⟨v_,rfl,ho,hb⟩;obtain⟨loW,hiW,hlo_,hhi_,hOW_⟩:=QIv.OR.new ho;obtain⟨AW,cW,eA_⟩:=hOW_.slice;subst eA_;(repeat first|clear Aa|clear Ab|clear Ac|clear Ad|clear Af|clear Ag|clear Ah|clear Ai|clear Aj|clear Ak);have OW:=y0.mk (hOW_);have LW:=y0.mk ((by rw [hhi_];exact Nat.le_refl _:hiW≤_));have BW:=y0.mk ((by rw [hlo_];exact HB.out.size:w.heap.size≤loW));have IW:=y0.mk ((by rw [hlo_,hhi_];exact hb.size:loW≤hiW));have DPe_W:=y0.mk ((by rw [hlo_];exact LPe.out:hiPe≤loW));have DPh_W:=y0.mk ((by rw [hlo_];exact LPh.out:hiPh≤loW));have DPb_W:=y0.mk ((by rw [hlo_];exact LPb.out:hiPb≤loW));have Ea_W:=y0.mk ((by rw [hlo_];exact QIv.ki_lt BKa.out:ga < loW));replace OPe:=y0.mk (OPe.out.below hb);replace OPh:=y0.mk (OPh.out.below hb);replace OPb:=y0.mk (OPb.out.below hb);replace LPe:=y0.mk (Nat.le_trans LPe.out hb.size);replace LPh:=y0.mk (Nat.le_trans LPh.out hb.size);replace LPb:=y0.mk (Nat.le_trans LPb.out hb.size);replace BKa:=y0.mk (y7 (g:=ga) (o:=(.cells #[.slice A0 l0.length c0,.int .i64 a1,.string a2,.slice A3 l3.length c3,.slice A4 l4.length c4] 28 (0,0))) BKa.out hb);replace HB:=y0.mk (y5 HB.out hb);(try clear hb);(try clear ho);(try clear hlo_);(try clear hhi_);obtain⟨Aa,Ab,Ac,Ad,Af,Ag,Ah,Ai,Aj,Ak⟩:=QIv.box5 BKa.out))
 clear OPe LPe
 clear OPh LPh
 clear OPb LPb
 go_upto_region 7 with(first
  | (go_at_call 6;(with_reducible refine(laws_toRule.iv k _ _ l0 a1 a2 _ _ l3 _ _ l4 es h1 h2 h3 bs _ (Kd.C_below Ba.out HB.out) Bb.out (Kd.C_below Bc.out HB.out) Bd.out (Kd.C_below Be.out HB.out) Bf.out F1.out).mono ?_);rintro e_ w5 ⟨v1_,v2_,v3_,loXe,hiXe,loXh,hiXh,loXb,hiXb,rfl,o1_,o2_,o3_,i1_,i2_,i3_,i4_,i5_,i6_,i7_,hb⟩;obtain⟨AXe,cXe,eA_⟩:=o1_.slice;subst eA_;obtain⟨AXh,cXh,eA_⟩:=o2_.slice;subst eA_;obtain⟨AXb,cXb,eA_⟩:=o3_.slice;subst eA_;(repeat first|clear Aa|clear Ab|clear Ac|clear Ad|clear Af|clear Ag|clear Ah|clear Ai|clear Aj|clear Ak);have OXe:=y0.mk (o1_);have OXh:=y0.mk (o2_);have OXb:=y0.mk (o3_);have IXe:=y0.mk (i2_);have IXh:=y0.mk (i4_);have IXb:=y0.mk (i6_);have DXe_Xh:=y0.mk (i3_);have DXh_Xb:=y0.mk (i5_);have DXe_Xb:=y0.mk ((by omega:hiXe≤loXb));have LXe:=y0.mk ((by omega:hiXe≤w5.heap.size));have BXe:=y0.mk ((by have:=HB.out.size;omega:w.heap.size≤loXe));have DW_Xe:=y0.mk ((by have:=LW.out;omega:hiW≤loXe));have Ea_Xe:=y0.mk ((by have:=QIv.ki_lt BKa.out;omega:ga < loXe));have LXh:=y0.mk ((by omega:hiXh≤w5.heap.size));have BXh:=y0.mk ((by have:=HB.out.size;omega:w.heap.size≤loXh));have DW_Xh:=y0.mk ((by have:=LW.out;omega:hiW≤loXh));have Ea_Xh:=y0.mk ((by have:=QIv.ki_lt BKa.out;omega:ga < loXh));have LXb:=y0.mk ((by omega:hiXb≤w5.heap.size));have BXb:=y0.mk ((by have:=HB.out.size;omega:w.heap.size≤loXb));have DW_Xb:=y0.mk ((by have:=LW.out;omega:hiW≤loXb));have Ea_Xb:=y0.mk ((by have:=QIv.ki_lt BKa.out;omega:ga < loXb));replace OW:=y0.mk (OW.out.below hb);replace LW:=y0.mk (Nat.le_trans LW.out hb.size);replace BKa:=y0.mk (y7 (g:=ga) (o:=(.cells #[.slice A0 l0.length c0,.int .i64 a1,.string a2,.slice A3 l3.length c3,.slice A4 l4.length c4] 28 (0,0))) BKa.out hb);replace HB:=y0.mk (y5 HB.out hb);clear o1_ o2_ o3_ i1_ i2_ i3_ i4_ i5_ i6_ i7_ hb;obtain⟨Aa,Ab,Ac,Ad,Af,Ag,Ah,Ai,Aj,Ak⟩:=QIv.box5 BKa.out)
  | ((with_reducible refine y16 (N:=5) rfl ?_);refine qe 5 #[.slice none 0 0,.int .i64 0,.string (⟨#[]⟩:ByteArray),.slice none 0 0,.slice none 0 0] 36 ?_;intro gx hg w6 hbox hb;(repeat first|clear Aa|clear Ab|clear Ac|clear Ad|clear Af|clear Ag|clear Ah|clear Ai|clear Aj|clear Ak);have BKx:=y0.mk (hbox);have GEx:=y0.mk ((by rw [hg];exact HB.out.size:w.heap.size≤gx));have EW_x:=y0.mk ((by rw [hg];exact LW.out:hiW≤gx));have EXe_x:=y0.mk ((by rw [hg];exact LXe.out:hiXe≤gx));have EXh_x:=y0.mk ((by rw [hg];exact LXh.out:hiXh≤gx));have EXb_x:=y0.mk ((by rw [hg];exact LXb.out:hiXb≤gx));have Na_x:=y0.mk ((by rw [hg];exact Nat.ne_of_lt (QIv.ki_lt BKa.out):ga≠gx));replace OW:=y0.mk (OW.out.below hb);replace OXe:=y0.mk (OXe.out.below hb);replace OXh:=y0.mk (OXh.out.below hb);replace OXb:=y0.mk (OXb.out.below hb);replace LW:=y0.mk (Nat.le_trans LW.out hb.size);replace LXe:=y0.mk (Nat.le_trans LXe.out hb.size);replace LXh:=y0.mk (Nat.le_trans LXh.out hb.size);replace LXb:=y0.mk (Nat.le_trans LXb.out hb.size);replace BKa:=y0.mk (y7 (g:=ga) (o:=(.cells #[.slice A0 l0.length c0,.int .i64 a1,.string a2,.slice A3 l3.length c3,.slice A4 l4.length c4] 28 (0,0))) BKa.out hb);replace HB:=y0.mk (y5 HB.out hb);clear hb hg hbox;obtain⟨Aa,Ab,Ac,Ad,Af,Ag,Ah,Ai,Aj,Ak⟩:=QIv.box5 BKa.out;obtain⟨Am,Ap,Ar,As,At,Au,Av,Aw,Ay,Az⟩:=QIv.box5 BKx.out))
 (repeat first|clear Aa|clear Ab|clear Ac|clear Ad|clear Af|clear Am|clear Ap|clear Ar|clear As|clear At|clear Ag|clear Ah|clear Ai|clear Aj|clear Ak|clear Au|clear Av|clear Aw|clear Ay|clear Az)
 replace OW:=y0.mk ((((((OW.out.set (.inr EW_x.out) _ _).set (.inr EW_x.out) _ _).set (.inr EW_x.out) _ _).set (.inr EW_x.out) _ _).set (.inr EW_x.out) _ _):QIv.OR Kd.string 9 loW hiW (.slice AW gs.length cW) gs (((((w6.setCell ⟨gx,0,none⟩ (.slice AXe es.length cXe)).setCell ⟨gx,1,none⟩ (.int .i64 h1)).setCell ⟨gx,2,none⟩ (.string h2)).setCell ⟨gx,3,none⟩ (.slice AXh h3.length cXh)).setCell ⟨gx,4,none⟩ (.slice AXb bs.length cXb)))
 replace LW:=y0.mk (by simpa using LW.out:hiW≤(((((w6.setCell ⟨gx,0,none⟩ (.slice AXe es.length cXe)).setCell ⟨gx,1,none⟩ (.int .i64 h1)).setCell ⟨gx,2,none⟩ (.string h2)).setCell ⟨gx,3,none⟩ (.slice AXh h3.length cXh)).setCell ⟨gx,4,none⟩ (.slice AXb bs.length cXb)).heap.size)
 replace OXe:=y0.mk ((((((OXe.out.set (.inr EXe_x.out) _ _).set (.inr EXe_x.out) _ _).set (.inr EXe_x.out) _ _).set (.inr EXe_x.out) _ _).set (.inr EXe_x.out) _ _):QIv.OS k48 48 loXe hiXe (.slice AXe es.length cXe) es (((((w6.setCell ⟨gx,0,none⟩ (.slice AXe es.length cXe)).setCell ⟨gx,1,none⟩ (.int .i64 h1)).setCell ⟨gx,2,none⟩ (.string h2)).setCell ⟨gx,3,none⟩ (.slice AXh h3.length cXh)).setCell ⟨gx,4,none⟩ (.slice AXb bs.length cXb)))
 replace LXe:=y0.mk (by simpa using LXe.out:hiXe≤(((((w6.setCell ⟨gx,0,none⟩ (.slice AXe es.length cXe)).setCell ⟨gx,1,none⟩ (.int .i64 h1)).setCell ⟨gx,2,none⟩ (.string h2)).setCell ⟨gx,3,none⟩ (.slice AXh h3.length cXh)).setCell ⟨gx,4,none⟩ (.slice AXb bs.length cXb)).heap.size)
 replace OXh:=y0.mk ((((((OXh.out.set (.inr EXh_x.out) _ _).set (.inr EXh_x.out) _ _).set (.inr EXh_x.out) _ _).set (.inr EXh_x.out) _ _).set (.inr EXh_x.out) _ _):QIv.OR (Kd.int .i64) 3 loXh hiXh (.slice AXh h3.length cXh) h3 (((((w6.setCell ⟨gx,0,none⟩ (.slice AXe es.length cXe)).setCell ⟨gx,1,none⟩ (.int .i64 h1)).setCell ⟨gx,2,none⟩ (.string h2)).setCell ⟨gx,3,none⟩ (.slice AXh h3.length cXh)).setCell ⟨gx,4,none⟩ (.slice AXb bs.length cXb)))
 replace LXh:=y0.mk (by simpa using LXh.out:hiXh≤(((((w6.setCell ⟨gx,0,none⟩ (.slice AXe es.length cXe)).setCell ⟨gx,1,none⟩ (.int .i64 h1)).setCell ⟨gx,2,none⟩ (.string h2)).setCell ⟨gx,3,none⟩ (.slice AXh h3.length cXh)).setCell ⟨gx,4,none⟩ (.slice AXb bs.length cXb)).heap.size)
 replace OXb:=y0.mk ((((((OXb.out.set (.inr EXb_x.out) _ _).set (.inr EXb_x.out) _ _).set (.inr EXb_x.out) _ _).set (.inr EXb_x.out) _ _).set (.inr EXb_x.out) _ _):QIv.OS k33 33 loXb hiXb (.slice AXb bs.length cXb) bs (((((w6.setCell ⟨gx,0,none⟩ (.slice AXe es.length cXe)).setCell ⟨gx,1,none⟩ (.int .i64 h1)).setCell ⟨gx,2,none⟩ (.string h2)).setCell ⟨gx,3,none⟩ (.slice AXh h3.length cXh)).setCell ⟨gx,4,none⟩ (.slice AXb bs.length cXb)))
 replace LXb:=y0.mk (by simpa using LXb.out:hiXb≤(((((w6.setCell ⟨gx,0,none⟩ (.slice AXe es.length cXe)).setCell ⟨gx,1,none⟩ (.int .i64 h1)).setCell ⟨gx,2,none⟩ (.string h2)).setCell ⟨gx,3,none⟩ (.slice AXh h3.length cXh)).setCell ⟨gx,4,none⟩ (.slice AXb bs.length cXb)).heap.size)
 replace BKa:=y0.mk ((y11 (y11 (y11 (y11 (y11 BKa.out (Na_x.out) _) (Na_x.out) _) (Na_x.out) _) (Na_x.out) _) (Na_x.out) _):(((((w6.setCell ⟨gx,0,none⟩ (.slice AXe es.length cXe)).setCell ⟨gx,1,none⟩ (.int .i64 h1)).setCell ⟨gx,2,none⟩ (.string h2)).setCell ⟨gx,3,none⟩ (.slice AXh h3.length cXh)).setCell ⟨gx,4,none⟩ (.slice AXb bs.length cXb)).heap[ga]?=some (.cells #[.slice A0 l0.length c0,.int .i64 a1,.string a2,.slice A3 l3.length c3,.slice A4 l4.length c4] 28 (0,0)))
 replace BKx:=y0.mk ((blk_set (blk_set (blk_set (blk_set (blk_set BKx.out 0 (.slice AXe es.length cXe)) 1 (.int .i64 h1)) 2 (.string h2)) 3 (.slice AXh h3.length cXh)) 4 (.slice AXb bs.length cXb)):(((((w6.setCell ⟨gx,0,none⟩ (.slice AXe es.length cXe)).setCell ⟨gx,1,none⟩ (.int .i64 h1)).setCell ⟨gx,2,none⟩ (.string h2)).setCell ⟨gx,3,none⟩ (.slice AXh h3.length cXh)).setCell ⟨gx,4,none⟩ (.slice AXb bs.length cXb)).heap[gx]?=some (.cells #[.slice AXe es.length cXe,.int .i64 h1,.string h2,.slice AXh h3.length cXh,.slice AXb bs.length cXb] 36 (0,0)))
 replace HB:=y0.mk ((y3 (y3 (y3 (y3 (y3 HB.out GEx.out) GEx.out) GEx.out) GEx.out) GEx.out):Below w.heap.size w (((((w6.setCell ⟨gx,0,none⟩ (.slice AXe es.length cXe)).setCell ⟨gx,1,none⟩ (.int .i64 h1)).setCell ⟨gx,2,none⟩ (.string h2)).setCell ⟨gx,3,none⟩ (.slice AXh h3.length cXh)).setCell ⟨gx,4,none⟩ (.slice AXb bs.length cXb)))
 generalize (((((w6.setCell ⟨gx,0,none⟩ (.slice AXe es.length cXe)).setCell ⟨gx,1,none⟩ (.int .i64 h1)).setCell ⟨gx,2,none⟩ (.string h2)).setCell ⟨gx,3,none⟩ (.slice AXh h3.length cXh)).setCell ⟨gx,4,none⟩ (.slice AXb bs.length cXb))=w7 at OW LW OXe LXe OXh LXh OXb LXb BKa BKx HB ⊢
 obtain⟨Aa,Ab,Ac,Ad,Af,Ag,Ah,Ai,Aj,Ak⟩:=QIv.box5 BKa.out
 obtain⟨Am,Ap,Ar,As,At,Au,Av,Aw,Ay,Az⟩:=QIv.box5 BKx.out
 go_upto_region 8 with(first
  | (go_at_call 7;(with_reducible refine(impl_Bound.calls k _ _ es h1 h2 _ _ h3 _ _ bs gs _ OXe.out.C OXe.out.le OXh.out.C OXh.out.le OXb.out.C OXb.out.le F3.out).mono ?_);rintro e w8 ⟨v_,rfl,ho,hb⟩;obtain⟨loG,hiG,hlo_,hhi_,hOG_⟩:=QIv.OR.new ho;obtain⟨AG,cG,eA_⟩:=hOG_.slice;subst eA_;(repeat first|clear Aa|clear Ab|clear Ac|clear Ad|clear Af|clear Am|clear Ap|clear Ar|clear As|clear At|clear Ag|clear Ah|clear Ai|clear Aj|clear Ak|clear Au|clear Av|clear Aw|clear Ay|clear Az);have OG:=y0.mk (hOG_);have LG:=y0.mk ((by rw [hhi_];exact Nat.le_refl _:hiG≤_));have BG:=y0.mk ((by rw [hlo_];exact HB.out.size:w.heap.size≤loG));have IG:=y0.mk ((by rw [hlo_,hhi_];exact hb.size:loG≤hiG));have DW_G:=y0.mk ((by rw [hlo_];exact LW.out:hiW≤loG));have DXe_G:=y0.mk ((by rw [hlo_];exact LXe.out:hiXe≤loG));have DXh_G:=y0.mk ((by rw [hlo_];exact LXh.out:hiXh≤loG));have DXb_G:=y0.mk ((by rw [hlo_];exact LXb.out:hiXb≤loG));have Ea_G:=y0.mk ((by rw [hlo_];exact QIv.ki_lt BKa.out:ga < loG));have Ex_G:=y0.mk ((by rw [hlo_];exact QIv.ki_lt BKx.out:gx < loG));replace OW:=y0.mk (OW.out.below hb);replace OXe:=y0.mk (OXe.out.below hb);replace OXh:=y0.mk (OXh.out.below hb);replace OXb:=y0.mk (OXb.out.below hb);replace LW:=y0.mk (Nat.le_trans LW.out hb.size);replace LXe:=y0.mk (Nat.le_trans LXe.out hb.size);replace LXh:=y0.mk (Nat.le_trans LXh.out hb.size);replace LXb:=y0.mk (Nat.le_trans LXb.out hb.size);replace BKa:=y0.mk (y7 (g:=ga) (o:=(.cells #[.slice A0 l0.length c0,.int .i64 a1,.string a2,.slice A3 l3.length c3,.slice A4 l4.length c4] 28 (0,0))) BKa.out hb);replace BKx:=y0.mk (y7 (g:=gx) (o:=(.cells #[.slice AXe es.length cXe,.int .i64 h1,.string h2,.slice AXh h3.length cXh,.slice AXb bs.length cXb] 36 (0,0))) BKx.out hb);replace HB:=y0.mk (y5 HB.out hb);(try clear hb);(try clear ho);(try clear hlo_);(try clear hhi_);obtain⟨Aa,Ab,Ac,Ad,Af,Ag,Ah,Ai,Aj,Ak⟩:=QIv.box5 BKa.out;obtain⟨Am,Ap,Ar,As,At,Au,Av,Aw,Ay,Az⟩:=QIv.box5 BKx.out))
 go_upto_region 10 with(first
  | (go_at_call 8;(with_reducible refine(laws_eqStringS.calls k _ _ gs _ _ gs true _ OG.out.C OG.out.le OW.out.C OW.out.le F4.out).mono ?_);rintro e w9 ⟨rfl,hd_⟩;have hb:=hd_.below;(repeat first|clear Aa|clear Ab|clear Ac|clear Ad|clear Af|clear Am|clear Ap|clear Ar|clear As|clear At|clear Ag|clear Ah|clear Ai|clear Aj|clear Ak|clear Au|clear Av|clear Aw|clear Ay|clear Az);replace OW:=y0.mk (OW.out.below hb);replace OXe:=y0.mk (OXe.out.below hb);replace OXh:=y0.mk (OXh.out.below hb);replace OXb:=y0.mk (OXb.out.below hb);replace OG:=y0.mk (OG.out.below hb);replace LW:=y0.mk (Nat.le_trans LW.out hb.size);replace LXe:=y0.mk (Nat.le_trans LXe.out hb.size);replace LXh:=y0.mk (Nat.le_trans LXh.out hb.size);replace LXb:=y0.mk (Nat.le_trans LXb.out hb.size);replace LG:=y0.mk (Nat.le_trans LG.out hb.size);replace BKa:=y0.mk (y7 (g:=ga) (o:=(.cells #[.slice A0 l0.length c0,.int .i64 a1,.string a2,.slice A3 l3.length c3,.slice A4 l4.length c4] 28 (0,0))) BKa.out hb);replace BKx:=y0.mk (y7 (g:=gx) (o:=(.cells #[.slice AXe es.length cXe,.int .i64 h1,.string h2,.slice AXh h3.length cXh,.slice AXb bs.length cXb] 36 (0,0))) BKx.out hb);replace HB:=y0.mk (y5 HB.out hb);(try clear hb);(try clear hd_);obtain⟨Aa,Ab,Ac,Ad,Af,Ag,Ah,Ai,Aj,Ak⟩:=QIv.box5 BKa.out;obtain⟨Am,Ap,Ar,As,At,Au,Av,Aw,Ay,Az⟩:=QIv.box5 BKx.out))
 (repeat first|clear Aa|clear Ab|clear Ac|clear Ad|clear Af|clear Am|clear Ap|clear Ar|clear As|clear At|clear Ag|clear Ah|clear Ai|clear Aj|clear Ak|clear Au|clear Av|clear Aw|clear Ay|clear Az)
 refine start_ (n:=5) (S:=fun w'=>w'.cell? ⟨ga,0,none⟩=some (.slice A0 l0.length c0)∧w'.cell? ⟨ga,1,none⟩=some (.int .i64 a1)∧w'.cell? ⟨ga,2,none⟩=some (.string a2)∧w'.cell? ⟨ga,3,none⟩=some (.slice A3 l3.length c3)∧w'.cell? ⟨ga,4,none⟩=some (.slice A4 l4.length c4)∧w'.cell? ⟨gx,0,none⟩=some (.slice AXe es.length cXe)∧w'.cell? ⟨gx,1,none⟩=some (.int .i64 h1)∧w'.cell? ⟨gx,2,none⟩=some (.string h2)∧w'.cell? ⟨gx,3,none⟩=some (.slice AXh h3.length cXh)∧w'.cell? ⟨gx,4,none⟩=some (.slice AXb bs.length cXb)) (ds:=[]) #[false,false,false,false,false] (by kernel_rfl) rfl rfl ⟨(y8 BKa.out 0).trans rfl,(y8 BKa.out 1).trans rfl,(y8 BKa.out 2).trans rfl,(y8 BKa.out 3).trans rfl,(y8 BKa.out 4).trans rfl,(y8 BKx.out 0).trans rfl,(y8 BKx.out 1).trans rfl,(y8 BKx.out 2).trans rfl,(y8 BKx.out 3).trans rfl,(y8 BKx.out 4).trans rfl⟩ (fun hHeld=>?_)
 replace OW:=y0.mk (OW.out.drew)
 replace OXe:=y0.mk (OXe.out.drew)
 replace OXh:=y0.mk (OXh.out.drew)
 replace OXb:=y0.mk (OXb.out.drew)
 replace OG:=y0.mk (OG.out.drew)
 replace LW:=y0.mk ((show hiW≤w9.drew.heap.size from LW.out))
 replace LXe:=y0.mk ((show hiXe≤w9.drew.heap.size from LXe.out))
 replace LXh:=y0.mk ((show hiXh≤w9.drew.heap.size from LXh.out))
 replace LXb:=y0.mk ((show hiXb≤w9.drew.heap.size from LXb.out))
 replace LG:=y0.mk ((show hiG≤w9.drew.heap.size from LG.out))
 replace BKa:=y0.mk (y9 BKa.out)
 replace BKx:=y0.mk (y9 BKx.out)
 replace HB:=y0.mk (y2 HB.out)
 generalize w9.drew=Bw at OW OXe OXh OXb OG LW LXe LXh LXb LG BKa BKx HB hHeld ⊢
 refine qt 0 27 #[true,false,false,false,false] hHeld ?_
 refine qt 1 28 #[true,true,false,false,false] hHeld ?_
 refine qO 2 29 #[true,true,true,false,false] (fun K hK=>?_)
 refine goes_ Tryz.func6 (by kernel_rfl) rfl #[.agg #[.slice A0 l0.length c0,.int .i64 a1,.string a2,.slice A3 l3.length c3,.slice A4 l4.length c4]] (by rfl) rfl rfl (by(try simp only [qM_,List.map_cons,List.map_nil]);first|done|rfl) ?_
 (with_reducible refine(laws_toRule.iv k _ _ l0 a1 a2 _ _ l3 _ _ l4 es h1 h2 h3 bs _ (Kd.C_below Ba.out HB.out) Bb.out (Kd.C_below Bc.out HB.out) Bd.out (Kd.C_below Be.out HB.out) Bf.out F1.out).mono ?_)
 rintro e_ Bh ⟨v1_,v2_,v3_,loZe,hiZe,loZh,hiZh,loZb,hiZb,rfl,o1_,o2_,o3_,i1_,i2_,i3_,i4_,i5_,i6_,i7_,hb⟩
 refine⟨_,rfl, ?_⟩
 obtain⟨AZe,cZe,eA_⟩:=o1_.slice
 subst eA_
 obtain⟨AZh,cZh,eA_⟩:=o2_.slice
 subst eA_
 obtain⟨AZb,cZb,eA_⟩:=o3_.slice
 subst eA_
 (repeat first|clear Aa|clear Ab|clear Ac|clear Ad|clear Af|clear Am|clear Ap|clear Ar|clear As|clear At|clear Ag|clear Ah|clear Ai|clear Aj|clear Ak|clear Au|clear Av|clear Aw|clear Ay|clear Az)
 have OZe:=y0.mk (o1_)
 have OZh:=y0.mk (o2_)
 have OZb:=y0.mk (o3_)
 have IZe:=y0.mk (i2_)
 have IZh:=y0.mk (i4_)
 have IZb:=y0.mk (i6_)
 have DZe_Zh:=y0.mk (i3_)
 have DZh_Zb:=y0.mk (i5_)
 have DZe_Zb:=y0.mk ((by omega:hiZe≤loZb))
 have LZe:=y0.mk ((by omega:hiZe≤Bh.heap.size))
 have BZe:=y0.mk ((by have:=HB.out.size;omega:w.heap.size≤loZe))
 have DW_Ze:=y0.mk ((by have:=LW.out;omega:hiW≤loZe))
 have DXe_Ze:=y0.mk ((by have:=LXe.out;omega:hiXe≤loZe))
 have DXh_Ze:=y0.mk ((by have:=LXh.out;omega:hiXh≤loZe))
 have DXb_Ze:=y0.mk ((by have:=LXb.out;omega:hiXb≤loZe))
 have DG_Ze:=y0.mk ((by have:=LG.out;omega:hiG≤loZe))
 have Ea_Ze:=y0.mk ((by have:=QIv.ki_lt BKa.out;omega:ga < loZe))
 have Ex_Ze:=y0.mk ((by have:=QIv.ki_lt BKx.out;omega:gx < loZe))
 have LZh:=y0.mk ((by omega:hiZh≤Bh.heap.size))
 have BZh:=y0.mk ((by have:=HB.out.size;omega:w.heap.size≤loZh))
 have DW_Zh:=y0.mk ((by have:=LW.out;omega:hiW≤loZh))
 have DXe_Zh:=y0.mk ((by have:=LXe.out;omega:hiXe≤loZh))
 have DXh_Zh:=y0.mk ((by have:=LXh.out;omega:hiXh≤loZh))
 have DXb_Zh:=y0.mk ((by have:=LXb.out;omega:hiXb≤loZh))
 have DG_Zh:=y0.mk ((by have:=LG.out;omega:hiG≤loZh))
 have Ea_Zh:=y0.mk ((by have:=QIv.ki_lt BKa.out;omega:ga < loZh))
 have Ex_Zh:=y0.mk ((by have:=QIv.ki_lt BKx.out;omega:gx < loZh))
 have LZb:=y0.mk ((by omega:hiZb≤Bh.heap.size))
 have BZb:=y0.mk ((by have:=HB.out.size;omega:w.heap.size≤loZb))
 have DW_Zb:=y0.mk ((by have:=LW.out;omega:hiW≤loZb))
 have DXe_Zb:=y0.mk ((by have:=LXe.out;omega:hiXe≤loZb))
 have DXh_Zb:=y0.mk ((by have:=LXh.out;omega:hiXh≤loZb))
 have DXb_Zb:=y0.mk ((by have:=LXb.out;omega:hiXb≤loZb))
 have DG_Zb:=y0.mk ((by have:=LG.out;omega:hiG≤loZb))
 have Ea_Zb:=y0.mk ((by have:=QIv.ki_lt BKa.out;omega:ga < loZb))
 have Ex_Zb:=y0.mk ((by have:=QIv.ki_lt BKx.out;omega:gx < loZb))
 replace OW:=y0.mk (OW.out.below hb)
 replace OXe:=y0.mk (OXe.out.below hb)
 replace OXh:=y0.mk (OXh.out.below hb)
 replace OXb:=y0.mk (OXb.out.below hb)
 replace OG:=y0.mk (OG.out.below hb)
 replace LW:=y0.mk (Nat.le_trans LW.out hb.size)
 replace LXe:=y0.mk (Nat.le_trans LXe.out hb.size)
 replace LXh:=y0.mk (Nat.le_trans LXh.out hb.size)
 replace LXb:=y0.mk (Nat.le_trans LXb.out hb.size)
 replace LG:=y0.mk (Nat.le_trans LG.out hb.size)
 replace BKa:=y0.mk (y7 (g:=ga) (o:=(.cells #[.slice A0 l0.length c0,.int .i64 a1,.string a2,.slice A3 l3.length c3,.slice A4 l4.length c4] 28 (0,0))) BKa.out hb)
 replace BKx:=y0.mk (y7 (g:=gx) (o:=(.cells #[.slice AXe es.length cXe,.int .i64 h1,.string h2,.slice AXh h3.length cXh,.slice AXb bs.length cXb] 36 (0,0))) BKx.out hb)
 replace HB:=y0.mk (y5 HB.out hb)
 clear o1_ o2_ o3_ i1_ i2_ i3_ i4_ i5_ i6_ i7_ hb
 obtain⟨Aa,Ab,Ac,Ad,Af,Ag,Ah,Ai,Aj,Ak⟩:=QIv.box5 BKa.out
 obtain⟨Am,Ap,Ar,As,At,Au,Av,Aw,Ay,Az⟩:=QIv.box5 BKx.out
 (repeat first|clear Aa|clear Ab|clear Ac|clear Ad|clear Af|clear Am|clear Ap|clear Ar|clear As|clear At|clear Ag|clear Ah|clear Ai|clear Aj|clear Ak|clear Au|clear Av|clear Aw|clear Ay|clear Az)
 refine hK.out _ _ ⟨(y8 BKa.out 0).trans rfl,(y8 BKa.out 1).trans rfl,(y8 BKa.out 2).trans rfl,(y8 BKa.out 3).trans rfl,(y8 BKa.out 4).trans rfl,(y8 BKx.out 0).trans rfl,(y8 BKx.out 1).trans rfl,(y8 BKx.out 2).trans rfl,(y8 BKx.out 3).trans rfl,(y8 BKx.out 4).trans rfl⟩ (fun hHeld=>?_)
 clear hK K
 refine qx 29 ?_
 refine qO 3 30 #[true,true,true,true,false] (fun K hK=>?_)
 refine goes_ Tryz.func9 (by kernel_rfl) rfl #[.agg #[.slice AXe es.length cXe,.int .i64 h1,.string h2,.slice AXh h3.length cXh,.slice AXb bs.length cXb],.agg #[.slice AZe es.length cZe,.int .i64 h1,.string h2,.slice AZh h3.length cZh,.slice AZb bs.length cZb]] (by rfl) rfl rfl (by(try simp only [qM_,List.map_cons,List.map_nil]);first|done|rfl) ?_
 (with_reducible refine(laws_eqRule.calls k _ _ es h1 h2 _ _ h3 _ _ bs _ _ es h1 h2 _ _ h3 _ _ bs true _ OXe.out.C OXe.out.le OXh.out.C OXh.out.le OXb.out.C OXb.out.le OZe.out.C OZe.out.le OZh.out.C OZh.out.le OZb.out.C OZb.out.le F5.out).mono ?_)
 rintro e Bx ⟨rfl,hb⟩
 refine⟨_,rfl, ?_⟩
 (repeat first|clear Aa|clear Ab|clear Ac|clear Ad|clear Af|clear Am|clear Ap|clear Ar|clear As|clear At|clear Ag|clear Ah|clear Ai|clear Aj|clear Ak|clear Au|clear Av|clear Aw|clear Ay|clear Az)
 replace OW:=y0.mk (OW.out.below hb)
 replace OXe:=y0.mk (OXe.out.below hb)
 replace OXh:=y0.mk (OXh.out.below hb)
 replace OXb:=y0.mk (OXb.out.below hb)
 replace OG:=y0.mk (OG.out.below hb)
 replace OZe:=y0.mk (OZe.out.below hb)
 replace OZh:=y0.mk (OZh.out.below hb)
 replace OZb:=y0.mk (OZb.out.below hb)
 replace LW:=y0.mk (Nat.le_trans LW.out hb.size)
 replace LXe:=y0.mk (Nat.le_trans LXe.out hb.size)
 replace LXh:=y0.mk (Nat.le_trans LXh.out hb.size)
 replace LXb:=y0.mk (Nat.le_trans LXb.out hb.size)
 replace LG:=y0.mk (Nat.le_trans LG.out hb.size)
 replace LZe:=y0.mk (Nat.le_trans LZe.out hb.size)
 replace LZh:=y0.mk (Nat.le_trans LZh.out hb.size)
 replace LZb:=y0.mk (Nat.le_trans LZb.out hb.size)
 replace BKa:=y0.mk (y7 (g:=ga) (o:=(.cells #[.slice A0 l0.length c0,.int .i64 a1,.string a2,.slice A3 l3.length c3,.slice A4 l4.length c4] 28 (0,0))) BKa.out hb)
 replace BKx:=y0.mk (y7 (g:=gx) (o:=(.cells #[.slice AXe es.length cXe,.int .i64 h1,.string h2,.slice AXh h3.length cXh,.slice AXb bs.length cXb] 36 (0,0))) BKx.out hb)
 replace HB:=y0.mk (y5 HB.out hb)
 (try clear hb)
 obtain⟨Aa,Ab,Ac,Ad,Af,Ag,Ah,Ai,Aj,Ak⟩:=QIv.box5 BKa.out
 obtain⟨Am,Ap,Ar,As,At,Au,Av,Aw,Ay,Az⟩:=QIv.box5 BKx.out
 (repeat first|clear Aa|clear Ab|clear Ac|clear Ad|clear Af|clear Am|clear Ap|clear Ar|clear As|clear At|clear Ag|clear Ah|clear Ai|clear Aj|clear Ak|clear Au|clear Av|clear Aw|clear Ay|clear Az)
 refine hK.out _ _ ⟨(y8 BKa.out 0).trans rfl,(y8 BKa.out 1).trans rfl,(y8 BKa.out 2).trans rfl,(y8 BKa.out 3).trans rfl,(y8 BKa.out 4).trans rfl,(y8 BKx.out 0).trans rfl,(y8 BKx.out 1).trans rfl,(y8 BKx.out 2).trans rfl,(y8 BKx.out 3).trans rfl,(y8 BKx.out 4).trans rfl⟩ (fun hHeld=>?_)
 clear hK K
 refine qx 30 ?_
 refine qp 4 31 #[true,true,true,true,true] ?_
 refine done_ (by kernel_rfl) ?_
 clear OZe LZe
 clear OZh LZh
 clear OZb LZb
 clear hHeld
 obtain⟨Aa,Ab,Ac,Ad,Af,Ag,Ah,Ai,Aj,Ak⟩:=QIv.box5 BKa.out
 obtain⟨Am,Ap,Ar,As,At,Au,Av,Aw,Ay,Az⟩:=QIv.box5 BKx.out
 go_upto_region 14 with(first
  | (go_at_call 10;(with_reducible refine(laws_markRule.calls k loXe hiXe loXh hiXh loXb hiXb _ _ es h1 h2 _ _ h3 _ _ bs 1 m1 w _ HB.out BXe.out IXe.out DXe_Xh.out IXh.out DXh_Xb.out IXb.out LXb.out OXe.out OXh.out OXb.out F6.out).mono ?_);rintro e_ Bz ⟨rfl,hb,hk⟩;(repeat first|clear Aa|clear Ab|clear Ac|clear Ad|clear Af|clear Am|clear Ap|clear Ar|clear As|clear At|clear Ag|clear Ah|clear Ai|clear Aj|clear Ak|clear Au|clear Av|clear Aw|clear Ay|clear Az);replace OW:=y0.mk (OW.out.ki hk (.inl DW_Xe.out));replace LW:=y0.mk (Nat.le_trans LW.out hk.1);replace OG:=y0.mk (OG.out.ki hk (.inr DXb_G.out));replace LG:=y0.mk (Nat.le_trans LG.out hk.1);replace BKa:=y0.mk (QIv.ki_blk BKa.out hk (.inl Ea_Xe.out));replace BKx:=y0.mk (QIv.ki_blk BKx.out hk (.inr EXb_x.out));replace HB:=y0.mk (hb);clear hb hk OXe LXe OXh LXh OXb LXb;obtain⟨Aa,Ab,Ac,Ad,Af,Ag,Ah,Ai,Aj,Ak⟩:=QIv.box5 BKa.out;obtain⟨Am,Ap,Ar,As,At,Au,Av,Aw,Ay,Az⟩:=QIv.box5 BKx.out))
 go_upto_region 16 with(first
  | (go_at_call 8;(with_reducible refine(laws_eqStringS.calls k _ _ gs _ _ gs true _ OG.out.C OG.out.le OW.out.C OW.out.le F4.out).mono ?_);rintro e Ca ⟨rfl,hd_⟩;have hb:=hd_.below;(repeat first|clear Aa|clear Ab|clear Ac|clear Ad|clear Af|clear Am|clear Ap|clear Ar|clear As|clear At|clear Ag|clear Ah|clear Ai|clear Aj|clear Ak|clear Au|clear Av|clear Aw|clear Ay|clear Az);replace OW:=y0.mk (OW.out.below hb);replace OG:=y0.mk (OG.out.below hb);replace LW:=y0.mk (Nat.le_trans LW.out hb.size);replace LG:=y0.mk (Nat.le_trans LG.out hb.size);replace BKa:=y0.mk (y7 (g:=ga) (o:=(.cells #[.slice A0 l0.length c0,.int .i64 a1,.string a2,.slice A3 l3.length c3,.slice A4 l4.length c4] 28 (0,0))) BKa.out hb);replace BKx:=y0.mk (y7 (g:=gx) (o:=(.cells #[.slice AXe es.length cXe,.int .i64 h1,.string h2,.slice AXh h3.length cXh,.slice AXb bs.length cXb] 36 (0,0))) BKx.out hb);replace HB:=y0.mk (y5 HB.out hb);(try clear hb);(try clear hd_);obtain⟨Aa,Ab,Ac,Ad,Af,Ag,Ah,Ai,Aj,Ak⟩:=QIv.box5 BKa.out;obtain⟨Am,Ap,Ar,As,At,Au,Av,Aw,Ay,Az⟩:=QIv.box5 BKx.out))
 go_upto_region 18 with(first
  | (go_at_call 11;(with_reducible refine(laws_markStringS.ivs k loG hiG _ _ gs 1 m3 gm w _ HB.out BG.out OG.out F8.out).mono ?_);rintro e Cb ⟨rfl,ho,hb,hk⟩;(repeat first|clear Aa|clear Ab|clear Ac|clear Ad|clear Af|clear Am|clear Ap|clear Ar|clear As|clear At|clear Ag|clear Ah|clear Ai|clear Aj|clear Ak|clear Au|clear Av|clear Aw|clear Ay|clear Az);replace OW:=y0.mk (OW.out.ki hk (.inl DW_G.out));replace LW:=y0.mk (Nat.le_trans LW.out hk.1);replace LG:=y0.mk (Nat.le_trans LG.out hk.1);replace BKa:=y0.mk (QIv.ki_blk BKa.out hk (.inl Ea_G.out));replace BKx:=y0.mk (QIv.ki_blk BKx.out hk (.inl Ex_G.out));replace HB:=y0.mk (hb);replace OG:=y0.mk (ho);(try clear hb);(try clear ho);(try clear hk);obtain⟨Aa,Ab,Ac,Ad,Af,Ag,Ah,Ai,Aj,Ak⟩:=QIv.box5 BKa.out;obtain⟨Am,Ap,Ar,As,At,Au,Av,Aw,Ay,Az⟩:=QIv.box5 BKx.out))
 go_upto_region 24 with(first
  | (go_at_call 12;(with_reducible refine(HELD.out _ _ _ OG.out.C (by have h_:=QIv.OR.len OG.out;have:=HGL.out;omega)).mono ?_);rintro e Cc ⟨rfl,hb⟩;(repeat first|clear Aa|clear Ab|clear Ac|clear Ad|clear Af|clear Am|clear Ap|clear Ar|clear As|clear At|clear Ag|clear Ah|clear Ai|clear Aj|clear Ak|clear Au|clear Av|clear Aw|clear Ay|clear Az);replace OW:=y0.mk (OW.out.below hb);replace OG:=y0.mk (OG.out.below hb);replace LW:=y0.mk (Nat.le_trans LW.out hb.size);replace LG:=y0.mk (Nat.le_trans LG.out hb.size);replace BKa:=y0.mk (y7 (g:=ga) (o:=(.cells #[.slice A0 l0.length c0,.int .i64 a1,.string a2,.slice A3 l3.length c3,.slice A4 l4.length c4] 28 (0,0))) BKa.out hb);replace BKx:=y0.mk (y7 (g:=gx) (o:=(.cells #[.slice AXe es.length cXe,.int .i64 h1,.string h2,.slice AXh h3.length cXh,.slice AXb bs.length cXb] 36 (0,0))) BKx.out hb);replace HB:=y0.mk (y5 HB.out hb);(try clear hb);obtain⟨Aa,Ab,Ac,Ad,Af,Ag,Ah,Ai,Aj,Ak⟩:=QIv.box5 BKa.out;obtain⟨Am,Ap,Ar,As,At,Au,Av,Aw,Ay,Az⟩:=QIv.box5 BKx.out))
 go_upto_region 25 with(first
  | (go_at_call 6;(with_reducible refine(laws_toRule.iv k _ _ l0 a1 a2 _ _ l3 _ _ l4 es h1 h2 h3 bs _ (Kd.C_below Ba.out HB.out) Bb.out (Kd.C_below Bc.out HB.out) Bd.out (Kd.C_below Be.out HB.out) Bf.out F1.out).mono ?_);rintro e_ Bi ⟨v1_,v2_,v3_,loQe,hiQe,loQh,hiQh,loQb,hiQb,rfl,o1_,o2_,o3_,i1_,i2_,i3_,i4_,i5_,i6_,i7_,hb⟩;obtain⟨AQe,cQe,eA_⟩:=o1_.slice;subst eA_;obtain⟨AQh,cQh,eA_⟩:=o2_.slice;subst eA_;obtain⟨AQb,cQb,eA_⟩:=o3_.slice;subst eA_;(repeat first|clear Aa|clear Ab|clear Ac|clear Ad|clear Af|clear Am|clear Ap|clear Ar|clear As|clear At|clear Ag|clear Ah|clear Ai|clear Aj|clear Ak|clear Au|clear Av|clear Aw|clear Ay|clear Az);have OQe:=y0.mk (o1_);have OQh:=y0.mk (o2_);have OQb:=y0.mk (o3_);have IQe:=y0.mk (i2_);have IQh:=y0.mk (i4_);have IQb:=y0.mk (i6_);have DQe_Qh:=y0.mk (i3_);have DQh_Qb:=y0.mk (i5_);have DQe_Qb:=y0.mk ((by omega:hiQe≤loQb));have LQe:=y0.mk ((by omega:hiQe≤Bi.heap.size));have BQe:=y0.mk ((by have:=HB.out.size;omega:w.heap.size≤loQe));have DW_Qe:=y0.mk ((by have:=LW.out;omega:hiW≤loQe));have DG_Qe:=y0.mk ((by have:=LG.out;omega:hiG≤loQe));have Ea_Qe:=y0.mk ((by have:=QIv.ki_lt BKa.out;omega:ga < loQe));have Ex_Qe:=y0.mk ((by have:=QIv.ki_lt BKx.out;omega:gx < loQe));have LQh:=y0.mk ((by omega:hiQh≤Bi.heap.size));have BQh:=y0.mk ((by have:=HB.out.size;omega:w.heap.size≤loQh));have DW_Qh:=y0.mk ((by have:=LW.out;omega:hiW≤loQh));have DG_Qh:=y0.mk ((by have:=LG.out;omega:hiG≤loQh));have Ea_Qh:=y0.mk ((by have:=QIv.ki_lt BKa.out;omega:ga < loQh));have Ex_Qh:=y0.mk ((by have:=QIv.ki_lt BKx.out;omega:gx < loQh));have LQb:=y0.mk ((by omega:hiQb≤Bi.heap.size));have BQb:=y0.mk ((by have:=HB.out.size;omega:w.heap.size≤loQb));have DW_Qb:=y0.mk ((by have:=LW.out;omega:hiW≤loQb));have DG_Qb:=y0.mk ((by have:=LG.out;omega:hiG≤loQb));have Ea_Qb:=y0.mk ((by have:=QIv.ki_lt BKa.out;omega:ga < loQb));have Ex_Qb:=y0.mk ((by have:=QIv.ki_lt BKx.out;omega:gx < loQb));replace OW:=y0.mk (OW.out.below hb);replace OG:=y0.mk (OG.out.below hb);replace LW:=y0.mk (Nat.le_trans LW.out hb.size);replace LG:=y0.mk (Nat.le_trans LG.out hb.size);replace BKa:=y0.mk (y7 (g:=ga) (o:=(.cells #[.slice A0 l0.length c0,.int .i64 a1,.string a2,.slice A3 l3.length c3,.slice A4 l4.length c4] 28 (0,0))) BKa.out hb);replace BKx:=y0.mk (y7 (g:=gx) (o:=(.cells #[.slice AXe es.length cXe,.int .i64 h1,.string h2,.slice AXh h3.length cXh,.slice AXb bs.length cXb] 36 (0,0))) BKx.out hb);replace HB:=y0.mk (y5 HB.out hb);clear o1_ o2_ o3_ i1_ i2_ i3_ i4_ i5_ i6_ i7_ hb;obtain⟨Aa,Ab,Ac,Ad,Af,Ag,Ah,Ai,Aj,Ak⟩:=QIv.box5 BKa.out;obtain⟨Am,Ap,Ar,As,At,Au,Av,Aw,Ay,Az⟩:=QIv.box5 BKx.out)
  | (go_at_call 7;(with_reducible refine(impl_Bound.calls k _ _ es h1 h2 _ _ h3 _ _ bs gs _ OQe.out.C OQe.out.le OQh.out.C OQh.out.le OQb.out.C OQb.out.le F3.out).mono ?_);rintro e Cd ⟨v_,rfl,ho,hb⟩;obtain⟨loH,hiH,hlo_,hhi_,hOH_⟩:=QIv.OR.new ho;obtain⟨AH,cH,eA_⟩:=hOH_.slice;subst eA_;(repeat first|clear Aa|clear Ab|clear Ac|clear Ad|clear Af|clear Am|clear Ap|clear Ar|clear As|clear At|clear Ag|clear Ah|clear Ai|clear Aj|clear Ak|clear Au|clear Av|clear Aw|clear Ay|clear Az);have OH:=y0.mk (hOH_);have LH:=y0.mk ((by rw [hhi_];exact Nat.le_refl _:hiH≤_));have BH:=y0.mk ((by rw [hlo_];exact HB.out.size:w.heap.size≤loH));have IH:=y0.mk ((by rw [hlo_,hhi_];exact hb.size:loH≤hiH));have DW_H:=y0.mk ((by rw [hlo_];exact LW.out:hiW≤loH));have DG_H:=y0.mk ((by rw [hlo_];exact LG.out:hiG≤loH));have DQe_H:=y0.mk ((by rw [hlo_];exact LQe.out:hiQe≤loH));have DQh_H:=y0.mk ((by rw [hlo_];exact LQh.out:hiQh≤loH));have DQb_H:=y0.mk ((by rw [hlo_];exact LQb.out:hiQb≤loH));have Ea_H:=y0.mk ((by rw [hlo_];exact QIv.ki_lt BKa.out:ga < loH));have Ex_H:=y0.mk ((by rw [hlo_];exact QIv.ki_lt BKx.out:gx < loH));replace OW:=y0.mk (OW.out.below hb);replace OG:=y0.mk (OG.out.below hb);replace OQe:=y0.mk (OQe.out.below hb);replace OQh:=y0.mk (OQh.out.below hb);replace OQb:=y0.mk (OQb.out.below hb);replace LW:=y0.mk (Nat.le_trans LW.out hb.size);replace LG:=y0.mk (Nat.le_trans LG.out hb.size);replace LQe:=y0.mk (Nat.le_trans LQe.out hb.size);replace LQh:=y0.mk (Nat.le_trans LQh.out hb.size);replace LQb:=y0.mk (Nat.le_trans LQb.out hb.size);replace BKa:=y0.mk (y7 (g:=ga) (o:=(.cells #[.slice A0 l0.length c0,.int .i64 a1,.string a2,.slice A3 l3.length c3,.slice A4 l4.length c4] 28 (0,0))) BKa.out hb);replace BKx:=y0.mk (y7 (g:=gx) (o:=(.cells #[.slice AXe es.length cXe,.int .i64 h1,.string h2,.slice AXh h3.length cXh,.slice AXb bs.length cXb] 36 (0,0))) BKx.out hb);replace HB:=y0.mk (y5 HB.out hb);(try clear hb);(try clear ho);(try clear hlo_);(try clear hhi_);obtain⟨Aa,Ab,Ac,Ad,Af,Ag,Ah,Ai,Aj,Ak⟩:=QIv.box5 BKa.out;obtain⟨Am,Ap,Ar,As,At,Au,Av,Aw,Ay,Az⟩:=QIv.box5 BKx.out))
 clear OQe LQe
 clear OQh LQh
 clear OQb LQb
 go_upto_region 27 with(first
  | (go_at_call 8;(with_reducible refine(laws_eqStringS.calls k _ _ gs _ _ gs true _ OH.out.C OH.out.le OW.out.C OW.out.le F4.out).mono ?_);rintro e Ce ⟨rfl,hd_⟩;have hb:=hd_.below;(repeat first|clear Aa|clear Ab|clear Ac|clear Ad|clear Af|clear Am|clear Ap|clear Ar|clear As|clear At|clear Ag|clear Ah|clear Ai|clear Aj|clear Ak|clear Au|clear Av|clear Aw|clear Ay|clear Az);replace OW:=y0.mk (OW.out.below hb);replace OG:=y0.mk (OG.out.below hb);replace OH:=y0.mk (OH.out.below hb);replace LW:=y0.mk (Nat.le_trans LW.out hb.size);replace LG:=y0.mk (Nat.le_trans LG.out hb.size);replace LH:=y0.mk (Nat.le_trans LH.out hb.size);replace BKa:=y0.mk (y7 (g:=ga) (o:=(.cells #[.slice A0 l0.length c0,.int .i64 a1,.string a2,.slice A3 l3.length c3,.slice A4 l4.length c4] 28 (0,0))) BKa.out hb);replace BKx:=y0.mk (y7 (g:=gx) (o:=(.cells #[.slice AXe es.length cXe,.int .i64 h1,.string h2,.slice AXh h3.length cXh,.slice AXb bs.length cXb] 36 (0,0))) BKx.out hb);replace HB:=y0.mk (y5 HB.out hb);(try clear hb);(try clear hd_);obtain⟨Aa,Ab,Ac,Ad,Af,Ag,Ah,Ai,Aj,Ak⟩:=QIv.box5 BKa.out;obtain⟨Am,Ap,Ar,As,At,Au,Av,Aw,Ay,Az⟩:=QIv.box5 BKx.out))
 go_wp2_with (first
  | (go_at_call 12;(with_reducible refine(HELD.out _ _ _ OG.out.C (by have h_:=QIv.OR.len OG.out;have:=HGL.out;omega)).mono ?_);rintro e Cf ⟨rfl,hb⟩;(repeat first|clear Aa|clear Ab|clear Ac|clear Ad|clear Af|clear Am|clear Ap|clear Ar|clear As|clear At|clear Ag|clear Ah|clear Ai|clear Aj|clear Ak|clear Au|clear Av|clear Aw|clear Ay|clear Az);replace OW:=y0.mk (OW.out.below hb);replace OG:=y0.mk (OG.out.below hb);replace OH:=y0.mk (OH.out.below hb);replace LW:=y0.mk (Nat.le_trans LW.out hb.size);replace LG:=y0.mk (Nat.le_trans LG.out hb.size);replace LH:=y0.mk (Nat.le_trans LH.out hb.size);replace BKa:=y0.mk (y7 (g:=ga) (o:=(.cells #[.slice A0 l0.length c0,.int .i64 a1,.string a2,.slice A3 l3.length c3,.slice A4 l4.length c4] 28 (0,0))) BKa.out hb);replace BKx:=y0.mk (y7 (g:=gx) (o:=(.cells #[.slice AXe es.length cXe,.int .i64 h1,.string h2,.slice AXh h3.length cXh,.slice AXb bs.length cXb] 36 (0,0))) BKx.out hb);replace HB:=y0.mk (y5 HB.out hb);(try clear hb);obtain⟨Aa,Ab,Ac,Ad,Af,Ag,Ah,Ai,Aj,Ak⟩:=QIv.box5 BKa.out;obtain⟨Am,Ap,Ar,As,At,Au,Av,Aw,Ay,Az⟩:=QIv.box5 BKx.out))
 go_ret
 exact⟨by first|rfl|(simp [y12,y13] <;> rfl),HB.out⟩
def laws_FnExactBound.Pure:Prop:=∀(x0:S28),okT28 x0→∃ k,laws_FnExactBound.Run k x0.f0 x0.f1.f0 x0.f1.f1 x0.f1.f2 x0.f2
theorem laws_FnExactBound.walk (P:laws_FnExactBound.Pure) (x0:S28) (A0_0:Option Addr) (c0_0:Nat) (A0_3:Option Addr) (c0_3:Nat) (A0_4:Option Addr) (c0_4:Nat) (w:World) (hr0_0:Kd.C k63 w A0_0 x0.f0.length x0.f0) (hc0_0:x0.f0.length≤c0_0) (hr0_3:Kd.C (Kd.int .i64) w A0_3 x0.f1.f2.length x0.f1.f2) (hc0_3:x0.f1.f2.length≤c0_3) (hr0_4:Kd.C k25 w A0_4 x0.f2.length x0.f2) (hc0_4:x0.f2.length≤c0_4) (k0:okT28 x0) :
  Calls Tryz.prog 3 #[.agg #[.slice A0_0 x0.f0.length c0_0,.int .i64 x0.f1.f0,.string x0.f1.f1,.slice A0_3 x0.f1.f2.length c0_3,.slice A0_4 x0.f2.length c0_4]] w fun e w'=>e=.returned (.bool true)∧Below w.heap.size w w':=by
 obtain⟨k,h⟩:=P x0 k0
 refine(laws_FnExactBound.calls k A0_0 c0_0 x0.f0 x0.f1.f0 x0.f1.f1 A0_3 c0_3 x0.f1.f2 A0_4 c0_4 x0.f2 w hr0_0 hc0_0 hr0_3 hc0_3 hr0_4 hc0_4 h).mono ?_
 rintro e w' ⟨rfl,hd⟩
 exact⟨rfl,hd⟩
end Go.Proofs.YtkdabljlfbmpdaaGreat.Pb
end
