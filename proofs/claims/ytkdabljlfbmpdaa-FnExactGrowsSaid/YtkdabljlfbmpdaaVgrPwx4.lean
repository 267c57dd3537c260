-- Cut by prune.py.
import Derived.Test.YtkdabljlfbmpdaaVgrPwx0
set_option maxHeartbeats 8000000
set_option maxRecDepth 100000
namespace Go.Proofs.Ytkdabljlfbmpdaa.Pw
open RowKit YtkdabljlfbmpdaaW.PrintWords YtkdabljlfbmpdaaW.PrintLast YtkdabljlfbmpdaaW.PrintMore
set_option linter.unusedVariables false
set_option linter.unusedSimpArgs false
def laws_eqLitS.l0:Nat→List (S33)→List (S33)→Int→Option (Bool)
 | 0,_,_,_=>none
 | k + 1,x0,x1,x5=>if x5 < (x0.length:Int)then(if 0≤x5 then(if x5 < (x1.length:Int)then((laws_eqLit.f k ((y18 x0 x5).f0) ((y18 x0 x5).f1) ((y18 x0 x5).f2) ((y18 x1 x5).f0) ((y18 x1 x5).f1) ((y18 x1 x5).f2)).bind fun Ae=>(if Ae=true then(laws_eqLitS.l0 k x0 x1 (wrap64 (x5 + 1)))else(some false)))else(none))else(none))else(some true)
def laws_eqLitS.f (k:Nat) (l0:List (S33)) (l1:List (S33)):Option (Bool):=if(l0.length:Int)=(l1.length:Int)then(laws_eqLitS.l0 k l0 l1 0)else(some false)
def laws_eqLitS.T6:Bool×List (List Nat×List Nat):=(true,[([],[]),([],[]),([0,1],[0,1]),([2],[2]),([],[]),([],[]),([4,5],[4,5]),([6],[6]),([3,7],[3,7]),([8],[8])])
def laws_eqLitS.B6:List Nat:=[0,0,3,7,0,0,48,112,255,511]
theorem laws_eqLitS.tab6:rtab .any (opsOf Try.f33 6)=laws_eqLitS.T6:=by kernel_rfl
theorem laws_eqLitS.bits6:waitsOk laws_eqLitS.T6.2 laws_eqLitS.B6=true:=by kernel_rfl
theorem laws_eqLitS.calls (k:Nat) (A0:Option Addr) (c0:Nat) (l0:List (S33)) (A1:Option Addr) (c1:Nat) (l1:List (S33)) (r:Bool) (w:World) (Br:Kd.C k33 w A0 l0.length l0) (Bs:l0.length≤c0) (Bt:Kd.C k33 w A1 l1.length l1) (Bu:l1.length≤c1) (h:laws_eqLitS.f k l0 l1=some r) :
  Calls Try.prog 33 #[.slice A0 l0.length c0,.slice A1 l1.length c1] w fun e w'=>e=.returned (.bool r)∧Below w.heap.size w w':=by
 have Bw:=Try.underlying33
 have Bx:=y0.mk Br
 have Cc:=y0.mk Bs
 clear Br Bs
 have Bz:=y0.mk Bt
 have Cd:=y0.mk Bu
 clear Bt Bu
 have HB:=y0.mk (Below.refl w.heap.size w)
 have H:(if(l0.length:Int)=(l1.length:Int)then(laws_eqLitS.l0 k l0 l1 0)else(some false))=some r:=h
 clear h
 by_cases c3:(l0.length:Int)=(l1.length:Int)
 ·rw [if_pos c3]at H
  have Bk:((l0.length:Int) == (l1.length:Int))=true:=beq_iff_eq.mpr c3
  have Bl:((l0.length:Int) != (l1.length:Int))=false:=bne_eq_false_iff_eq.mpr c3
  have Bm:(l0.length == l1.length)=true:=by first|simpa using c3|(simp at c3 ⊢;omega)
  clear c3
  have H':=y0.mk H
  clear H
  go_enter Try.func33,Try.ntmps33
  go_wp2
  go_loopg [5] k (fun kq v5 w'=>∃(Aa:Int),v5=.int .i64 Aa∧y0 (laws_eqLitS.l0 kq l0 l1 Aa=some r)∧y0 (kq≤k)∧y0 (Below w.heap.size w w'))
  case atStart=>exact⟨(0),qy2,H',⟨Nat.le_refl _⟩,⟨qb⟩⟩
  case round =>
   clear H'
   (try clear Bk Bl Bm)
   obtain⟨Aa,rfl,HA,Bv,HB⟩:=hrel
   cases gk with
   | zero=>exact absurd HA.out (by simp [laws_eqLitS.l0])
   | succ k1 =>
    have H:=HA.out
    clear HA
    simp only [laws_eqLitS.l0]at H
    by_cases c4:Aa < (l0.length:Int)
    ·rw [if_pos c4]at H
     have Bn:=decide_eq_true c4
     clear c4
     obtain⟨c5,H⟩:=qo H
     have Ca:decide (0≤Aa)=true:=decide_eq_true c5
     clear c5
     obtain⟨c6,H⟩:=qo H
     have Cb:decide (Aa < (l1.length:Int))=true:=decide_eq_true c6
     clear c6
     obtain⟨Bo,A7,H⟩:=qB H
     try go_wp2
     replace HB:=y0.mk (y2 HB.out)
     have Bg:0≤(Aa:Int):=qd
     have Bh:Aa < (l0.length:Int):=qd
     obtain⟨Au,Aw,Ax,Bp,Ai,Aj,Ak,Ba,Bb⟩:=at_T33 Bx.out Aa Bg Bh
     have Ab:=Ak
     have Ac:=Aj
     have Ad:=Ai
     cases Bp
     replace Ai:=qC Ai HB
     replace Aj:=qC Aj HB
     replace Ak:=qC Ak HB
     have As:=y0.mk Bb
     have Bc:=y0.mk Ba
     clear Bb Ba
     replace Bg:=eq_true Bg
     replace Bh:=eq_true Bh
     have Bi:0≤(Aa:Int):=qd
     have Bj:Aa < (l1.length:Int):=qd
     obtain⟨Av,Ay,Az,Bq,Am,Ap,Ar,Bd,Be⟩:=at_T33 Bz.out Aa Bi Bj
     have Af:=Ar
     have Ag:=Ap
     have Ah:=Am
     cases Bq
     replace Am:=qC Am HB
     replace Ap:=qC Ap HB
     replace Ar:=qC Ar HB
     have At:=y0.mk Be
     have Bf:=y0.mk Bd
     clear Be Bd
     replace Bi:=eq_true Bi
     replace Bj:=eq_true Bj
     refine start_ (n:=10) (S:=fun w'=>w'.cell? (Au.add ((Aa).toNat * 3))=some (.int .i64 ((y18 l0 Aa).f0))∧w'.cell? ⟨(Au.add ((Aa).toNat * 3)).block,(Au.add ((Aa).toNat * 3)).off + 1,none⟩=some (.string ((y18 l0 Aa).f1))∧w'.cell? ⟨(Au.add ((Aa).toNat * 3)).block,(Au.add ((Aa).toNat * 3)).off + 2,none⟩=some (.slice Aw ((y18 l0 Aa).f2).length Ax)∧w'.cell? (Av.add ((Aa).toNat * 3))=some (.int .i64 ((y18 l1 Aa).f0))∧w'.cell? ⟨(Av.add ((Aa).toNat * 3)).block,(Av.add ((Aa).toNat * 3)).off + 1,none⟩=some (.string ((y18 l1 Aa).f1))∧w'.cell? ⟨(Av.add ((Aa).toNat * 3)).block,(Av.add ((Aa).toNat * 3)).off + 2,none⟩=some (.slice Ay ((y18 l1 Aa).f2).length Az)) (ds:=[]) (fl_ 10 0) (by kernel_rfl) rfl rfl ⟨(qC Ad HB),(qC Ac HB),(qC Ab HB),(qC Ah HB),(qC Ag HB),(qC Af HB)⟩ (fun hHeld=>?_);refine with_tabW laws_eqLitS.tab6 laws_eqLitS.bits6 (fun HT_ HW_=>?_)
     generalize wr.drew=w9 at HB As At Ai Aj Ak Am Ap Ar hHeld ⊢
     refine qp3 0 17 10 ?_
     by_cases c8:Bo=true
     ·subst c8
      replace H:=qT H
      have H':=y0.mk H
      clear H
      refine qp 4 21 (fl_ 10 23) ?_
      refine qp 5 22 (fl_ 10 55) ?_
      refine qp 6 23 (fl_ 10 119) ?_
      refine qt 3 20 (fl_ 10 127) hHeld ?_
      refine qt 7 24 (fl_ 10 255) hHeld ?_
      refine qO 8 25 (fl_ 10 511) (fun K hK=>?_)
      refine goes_ Try.func32 (by kernel_rfl) rfl #[.agg #[.int .i64 ((y18 l0 Aa).f0),.string ((y18 l0 Aa).f1),.slice Aw ((y18 l0 Aa).f2).length Ax],.agg #[.int .i64 ((y18 l1 Aa).f0),.string ((y18 l1 Aa).f1),.slice Ay ((y18 l1 Aa).f2).length Az]] (by rfl) rfl rfl qy1 ?_
      with_reducible refine(laws_eqLit.calls k1 ((y18 l0 Aa).f0) ((y18 l0 Aa).f1) _ _ ((y18 l0 Aa).f2) ((y18 l1 Aa).f0) ((y18 l1 Aa).f1) _ _ ((y18 l1 Aa).f2) true _ (qc (Kd.C_below As.out HB.out)) Bc.out (qc (Kd.C_below At.out HB.out)) Bf.out A7.out).mono ?_
      rintro e Ce ⟨rfl,hb⟩
      refine⟨_,rfl, ?_⟩
      replace HB:=y0.mk (y4 qb hb)
      (try clear hb)
      refine hK.out _ _ ⟨(qC Ad HB),(qC Ac HB),(qC Ab HB),(qC Ah HB),(qC Ag HB),(qC Af HB)⟩ (fun hHeld=>?_)
      clear hK K
      refine qx 25 ?_
      refine qp 9 26 (fl_ 10 1023) ?_
      refine done_ (done_of HT_.out (by kernel_rfl)) ?_
      try go_wp2
      go_roundg k1
      case measure=>have:=Bv.out;omega
      exact⟨(wrap64 (Aa + 1)),qy2,H',⟨by have:=Bv.out;omega⟩,⟨qb⟩⟩
     ·replace c8:=Bool.eq_false_iff.mpr c8
      subst c8
      replace H:=qF H
      obtain rfl:=Option.some.inj H
      refine qp 4 21 (fl_ 10 23) ?_
      refine qp 5 22 (fl_ 10 55) ?_
      refine qp 6 23 (fl_ 10 119) ?_
      refine qt 3 20 (fl_ 10 127) hHeld ?_
      refine qt 7 24 (fl_ 10 255) hHeld ?_
      refine qO 8 25 (fl_ 10 511) (fun K hK=>?_)
      refine goes_ Try.func32 (by kernel_rfl) rfl #[.agg #[.int .i64 ((y18 l0 Aa).f0),.string ((y18 l0 Aa).f1),.slice Aw ((y18 l0 Aa).f2).length Ax],.agg #[.int .i64 ((y18 l1 Aa).f0),.string ((y18 l1 Aa).f1),.slice Ay ((y18 l1 Aa).f2).length Az]] (by rfl) rfl rfl qy1 ?_
      with_reducible refine(laws_eqLit.calls k1 ((y18 l0 Aa).f0) ((y18 l0 Aa).f1) _ _ ((y18 l0 Aa).f2) ((y18 l1 Aa).f0) ((y18 l1 Aa).f1) _ _ ((y18 l1 Aa).f2) false _ (qc (Kd.C_below As.out HB.out)) Bc.out (qc (Kd.C_below At.out HB.out)) Bf.out A7.out).mono ?_
      rintro e Cf ⟨rfl,hb⟩
      refine⟨_,rfl, ?_⟩
      replace HB:=y0.mk (y4 qb hb)
      (try clear hb)
      refine hK.out _ _ ⟨(qC Ad HB),(qC Ac HB),(qC Ab HB),(qC Ah HB),(qC Ag HB),(qC Af HB)⟩ (fun hHeld=>?_)
      clear hK K
      refine qx 25 ?_
      refine qp 9 26 (fl_ 10 1023) ?_
      refine done_ (done_of HT_.out (by kernel_rfl)) ?_
      try go_wp2
      go_ret
      exact⟨qf,qb⟩
    ·rw [if_neg c4]at H
     have Bn:=decide_eq_false c4
     clear c4
     obtain rfl:=Option.some.inj H
     go_wp2
     go_ret
     exact⟨qf,qb⟩
 ·rw [if_neg c3]at H
  have Bk:((l0.length:Int) == (l1.length:Int))=false:=beq_eq_false_iff_ne.mpr c3
  have Bl:((l0.length:Int) != (l1.length:Int))=true:=bne_iff_ne.mpr c3
  have Bm:(l0.length == l1.length)=false:=by first|simpa using c3|(simp at c3 ⊢;omega)
  obtain rfl:=Option.some.inj H
  go_enter Try.func33,Try.ntmps33
  go_wp2
  go_ret
  exact⟨qf,qb⟩
def laws_eqRule.f (k:Nat) (Ae:List (S63)) (Al:Int) (An:ByteArray) (Ao:List Int) (Aq:List (S33)) (By:List (S63)) (Di:Int) (Du:ByteArray) (Ea:List Int) (Fd:List (S33)):Option (Bool):=(laws_eqExpS.f k Ae By).bind fun Ff=>(if Ff=true then((laws_eqLit.f k Al An Ao Di Du Ea).bind fun Fj=>(if Fj=true then((laws_eqLitS.f k Aq Fd).bind fun Fk=>(if Fk=true then(some true)else(some false)))else(some false)))else(some false))
theorem laws_eqRule.calls (k:Nat) (At:Option Addr) (Au:Nat) (Af:List (S63)) (Am:Int) (Ap:ByteArray) (Ax:Option Addr) (Ay:Nat) (Ah:List Int) (Bb:Option Addr) (Bc:Nat) (Aj:List (S33)) (Av:Option Addr) (Aw:Nat) (Ag:List (S63)) (Ar:Int) (As:ByteArray) (Az:Option Addr) (Ba:Nat) (Ai:List Int) (Bd:Option Addr) (Be:Nat) (Ak:List (S33)) (r:Bool) (w:World) (Bt:Kd.C k63 w At Af.length Af) (Bu:Af.length≤Au) (Bv:Kd.C (Kd.int .i64) w Ax Ah.length Ah) (Bw:Ah.length≤Ay) (Bx:Kd.C k33 w Bb Aj.length Aj) (Bz:Aj.length≤Bc) (Ca:Kd.C k63 w Av Ag.length Ag) (Cb:Ag.length≤Aw) (Cc:Kd.C (Kd.int .i64) w Az Ai.length Ai) (Cd:Ai.length≤Ba) (Ce:Kd.C k33 w Bd Ak.length Ak) (Cf:Ak.length≤Be) (h:laws_eqRule.f k Af Am Ap Ah Aj Ag Ar As Ai Ak=some r) :
  Calls Try.prog 11 #[.agg #[.slice At Af.length Au,.int .i64 Am,.string Ap,.slice Ax Ah.length Ay,.slice Bb Aj.length Bc],.agg #[.slice Av Ag.length Aw,.int .i64 Ar,.string As,.slice Az Ai.length Ba,.slice Bd Ak.length Be]] w fun e w'=>e=.returned (.bool r)∧Below w.heap.size w w':=by
 have Ke:=Try.underlying36
 have Kf:=Try.underlying33
 have Bf:=y0.mk Bt
 have Bg:=y0.mk Bu
 clear Bt Bu
 have Bj:=y0.mk Bv
 have Bk:=y0.mk Bw
 clear Bv Bw
 have Cg:=y0.mk Bx
 have Ch:=y0.mk Bz
 clear Bx Bz
 have Bh:=y0.mk Ca
 have Bi:=y0.mk Cb
 clear Ca Cb
 have Bl:=y0.mk Cc
 have Bm:=y0.mk Cd
 clear Cc Cd
 have Ci:=y0.mk Ce
 have Cj:=y0.mk Cf
 clear Ce Cf
 have HB:=y0.mk (Below.refl w.heap.size w)
 have H:((laws_eqExpS.f k Af Ag).bind fun Ck=>(if Ck=true then((laws_eqLit.f k Am Ap Ah Ar As Ai).bind fun Cl=>(if Cl=true then((laws_eqLitS.f k Aj Ak).bind fun Cm=>(if Cm=true then(some true)else(some false)))else(some false)))else(some false)))=some r:=h
 clear h
 obtain⟨Ck,A3,H⟩:=qB H
 by_cases c4:Ck=true
 ·subst c4
  replace H:=qT H
  obtain⟨Cl,A5,H⟩:=qB H
  by_cases c6:Cl=true
  ·subst c6
   replace H:=qT H
   obtain⟨Cm,A7,H⟩:=qB H
   by_cases c8:Cm=true
   ·subst c8
    replace H:=qT H
    obtain rfl:=Option.some.inj H
    go_enter Try.func11,Try.ntmps11
    go_wp2_with (first|((with_reducible refine y16 (N:=2) rfl ?_);refine qe 2 #[.slice At Af.length Au,.int .i64 Am,.string Ap,.slice Ax Ah.length Ay,.slice Bb Aj.length Bc] 36 ?_;intro Bn hg w9 hbox hb;have Aa:=y0.mk (hbox);have Bo:=y0.mk (qg (w:=w) hg);have Bp:=y0.mk (qg (w:=w) hg);replace HB:=y0.mk (y4 qb hb);clear hb hbox hg)|((with_reducible refine y16 (N:=3) rfl ?_);refine qe 3 #[.slice Av Ag.length Aw,.int .i64 Ar,.string As,.slice Az Ai.length Ba,.slice Bd Ak.length Be] 36 ?_;intro Bq hg Kg hbox hb;have Ab:=y0.mk (hbox);have Br:=y0.mk (qg (w:=w) hg);have Bs:=y0.mk (qg (w:=w) hg);replace HB:=y0.mk (y4 qb hb);have Ac:=y0.mk (qn Aa.out hg);have Ad:=y0.mk (qm Aa.out hg);replace Aa:=y0.mk (qK Aa.out hb);clear hb hbox hg;have Ju:=Ac.out;have Jv:=Ad.out;obtain⟨Cn,Cp,Cq,Cr,Cs,Ct,Cu,Cv,Cw,Cx⟩:=qz5 Aa.out;obtain⟨Cy,Cz,Da,Db,Dc,Dd,De,Df,Dg,Dh⟩:=qz5 Ab.out)|((with_reducible refine y15 (f:=31) rfl ?_);refine y17 (some 9) rfl rfl Try.func31 (by kernel_rfl) rfl #[.slice At Af.length Au,.slice Av Ag.length Aw] rfl qy1 ?_;(with_reducible refine(laws_eqExpS.calls k _ _ Af _ _ Ag true _ (qc (Kd.C_below Bf.out HB.out)) Bg.out (qc (Kd.C_below Bh.out HB.out)) Bi.out A3.out).mono ?_);rintro e Kh ⟨rfl,hb⟩;refine⟨_,rfl, ?_⟩;replace Aa:=y0.mk (qK Aa.out hb);replace Ab:=y0.mk (qK Ab.out hb);replace HB:=y0.mk (y4 qb hb);(try clear hb);obtain⟨Di,Dj,Dk,Dl,Dm,Do,Dp,Dq,Dr,Ds⟩:=qz5 Aa.out;obtain⟨Dt,Du,Dw,Dx,Dy,Dz,Ea,Eb,Ec,Ed⟩:=qz5 Ab.out)|((with_reducible refine y15 (f:=32) rfl ?_);refine y17 (some 15) rfl rfl Try.func32 (by kernel_rfl) rfl #[.agg #[.int .i64 Am,.string Ap,.slice Ax Ah.length Ay],.agg #[.int .i64 Ar,.string As,.slice Az Ai.length Ba]] rfl qy1 ?_;(with_reducible refine(laws_eqLit.calls k Am Ap _ _ Ah Ar As _ _ Ai true _ (qc (Kd.C_below Bj.out HB.out)) Bk.out (qc (Kd.C_below Bl.out HB.out)) Bm.out A5.out).mono ?_);rintro e Ki ⟨rfl,hb⟩;refine⟨_,rfl, ?_⟩;replace Aa:=y0.mk (qK Aa.out hb);replace Ab:=y0.mk (qK Ab.out hb);replace HB:=y0.mk (y4 qb hb);(try clear hb);obtain⟨Ee,Ef,Eg,Eh,Ei,Ej,Ek,El,Em,En⟩:=qz5 Aa.out;obtain⟨Eo,Ep,Eq,Er,Es,Et,Eu,Ew,Ex,Ey⟩:=qz5 Ab.out)|((with_reducible refine y15 (f:=33) rfl ?_);refine y17 (some 21) rfl rfl Try.func33 (by kernel_rfl) rfl #[.slice Bb Aj.length Bc,.slice Bd Ak.length Be] rfl qy1 ?_;(with_reducible refine(laws_eqLitS.calls k _ _ Aj _ _ Ak true _ (qc (Kd.C_below Cg.out HB.out)) Ch.out (qc (Kd.C_below Ci.out HB.out)) Cj.out A7.out).mono ?_);rintro e Kj ⟨rfl,hb⟩;refine⟨_,rfl, ?_⟩;replace Aa:=y0.mk (qK Aa.out hb);replace Ab:=y0.mk (qK Ab.out hb);replace HB:=y0.mk (y4 qb hb);(try clear hb)))
    go_ret
    exact⟨qf,qb⟩
   ·replace c8:=Bool.eq_false_iff.mpr c8
    subst c8
    replace H:=qF H
    obtain rfl:=Option.some.inj H
    go_enter Try.func11,Try.ntmps11
    go_wp2_with (first|((with_reducible refine y16 (N:=2) rfl ?_);refine qe 2 #[.slice At Af.length Au,.int .i64 Am,.string Ap,.slice Ax Ah.length Ay,.slice Bb Aj.length Bc] 36 ?_;intro Bn hg Kk hbox hb;have Aa:=y0.mk (hbox);have Bo:=y0.mk (qg (w:=w) hg);have Bp:=y0.mk (qg (w:=w) hg);replace HB:=y0.mk (y4 qb hb);clear hb hbox hg)|((with_reducible refine y16 (N:=3) rfl ?_);refine qe 3 #[.slice Av Ag.length Aw,.int .i64 Ar,.string As,.slice Az Ai.length Ba,.slice Bd Ak.length Be] 36 ?_;intro Bq hg Kl hbox hb;have Ab:=y0.mk (hbox);have Br:=y0.mk (qg (w:=w) hg);have Bs:=y0.mk (qg (w:=w) hg);replace HB:=y0.mk (y4 qb hb);have Ac:=y0.mk (qn Aa.out hg);have Ad:=y0.mk (qm Aa.out hg);replace Aa:=y0.mk (qK Aa.out hb);clear hb hbox hg;have Jw:=Ac.out;have Jx:=Ad.out;obtain⟨Ez,Fa,Fb,Fc,Fd,Fe,Ff,Fg,Fh,Fi⟩:=qz5 Aa.out;obtain⟨Fj,Fk,Fl,Fm,Fn,Fo,Fp,Fq,Fr,Fs⟩:=qz5 Ab.out)|((with_reducible refine y15 (f:=31) rfl ?_);refine y17 (some 9) rfl rfl Try.func31 (by kernel_rfl) rfl #[.slice At Af.length Au,.slice Av Ag.length Aw] rfl qy1 ?_;(with_reducible refine(laws_eqExpS.calls k _ _ Af _ _ Ag true _ (qc (Kd.C_below Bf.out HB.out)) Bg.out (qc (Kd.C_below Bh.out HB.out)) Bi.out A3.out).mono ?_);rintro e Km ⟨rfl,hb⟩;refine⟨_,rfl, ?_⟩;replace Aa:=y0.mk (qK Aa.out hb);replace Ab:=y0.mk (qK Ab.out hb);replace HB:=y0.mk (y4 qb hb);(try clear hb);obtain⟨Ft,Fu,Fv,Fx,Fy,Fz,Ga,Gb,Gc,Gd⟩:=qz5 Aa.out;obtain⟨Ge,Gf,Gg,Gh,Gi,Gj,Gk,Gl,Gm,Gn⟩:=qz5 Ab.out)|((with_reducible refine y15 (f:=32) rfl ?_);refine y17 (some 15) rfl rfl Try.func32 (by kernel_rfl) rfl #[.agg #[.int .i64 Am,.string Ap,.slice Ax Ah.length Ay],.agg #[.int .i64 Ar,.string As,.slice Az Ai.length Ba]] rfl qy1 ?_;(with_reducible refine(laws_eqLit.calls k Am Ap _ _ Ah Ar As _ _ Ai true _ (qc (Kd.C_below Bj.out HB.out)) Bk.out (qc (Kd.C_below Bl.out HB.out)) Bm.out A5.out).mono ?_);rintro e Kn ⟨rfl,hb⟩;refine⟨_,rfl, ?_⟩;replace Aa:=y0.mk (qK Aa.out hb);replace Ab:=y0.mk (qK Ab.out hb);replace HB:=y0.mk (y4 qb hb);(try clear hb);obtain⟨Gp,Gq,Gr,Gs,Gt,Gu,Gv,Gw,Gx,Gz⟩:=qz5 Aa.out;obtain⟨Ha,Hb,Hc,Hd,He,Hf,Hg,Hh,Hi,Hj⟩:=qz5 Ab.out)|((with_reducible refine y15 (f:=33) rfl ?_);refine y17 (some 21) rfl rfl Try.func33 (by kernel_rfl) rfl #[.slice Bb Aj.length Bc,.slice Bd Ak.length Be] rfl qy1 ?_;(with_reducible refine(laws_eqLitS.calls k _ _ Aj _ _ Ak false _ (qc (Kd.C_below Cg.out HB.out)) Ch.out (qc (Kd.C_below Ci.out HB.out)) Cj.out A7.out).mono ?_);rintro e Ko ⟨rfl,hb⟩;refine⟨_,rfl, ?_⟩;replace Aa:=y0.mk (qK Aa.out hb);replace Ab:=y0.mk (qK Ab.out hb);replace HB:=y0.mk (y4 qb hb);(try clear hb)))
    go_ret
    exact⟨qf,qb⟩
  ·replace c6:=Bool.eq_false_iff.mpr c6
   subst c6
   replace H:=qF H
   obtain rfl:=Option.some.inj H
   go_enter Try.func11,Try.ntmps11
   go_wp2_with (first|((with_reducible refine y16 (N:=2) rfl ?_);refine qe 2 #[.slice At Af.length Au,.int .i64 Am,.string Ap,.slice Ax Ah.length Ay,.slice Bb Aj.length Bc] 36 ?_;intro Bn hg Kp hbox hb;have Aa:=y0.mk (hbox);have Bo:=y0.mk (qg (w:=w) hg);have Bp:=y0.mk (qg (w:=w) hg);replace HB:=y0.mk (y4 qb hb);clear hb hbox hg)|((with_reducible refine y16 (N:=3) rfl ?_);refine qe 3 #[.slice Av Ag.length Aw,.int .i64 Ar,.string As,.slice Az Ai.length Ba,.slice Bd Ak.length Be] 36 ?_;intro Bq hg Kq hbox hb;have Ab:=y0.mk (hbox);have Br:=y0.mk (qg (w:=w) hg);have Bs:=y0.mk (qg (w:=w) hg);replace HB:=y0.mk (y4 qb hb);have Ac:=y0.mk (qn Aa.out hg);have Ad:=y0.mk (qm Aa.out hg);replace Aa:=y0.mk (qK Aa.out hb);clear hb hbox hg;have Jy:=Ac.out;have Jz:=Ad.out;obtain⟨Hk,Hl,Hm,Hn,Ho,Hp,Hq,Hr,Hs,Ht⟩:=qz5 Aa.out;obtain⟨Hu,Hv,Hw,Hx,Hy,Hz,Ia,Ib,Ic,Id⟩:=qz5 Ab.out)|((with_reducible refine y15 (f:=31) rfl ?_);refine y17 (some 9) rfl rfl Try.func31 (by kernel_rfl) rfl #[.slice At Af.length Au,.slice Av Ag.length Aw] rfl qy1 ?_;(with_reducible refine(laws_eqExpS.calls k _ _ Af _ _ Ag true _ (qc (Kd.C_below Bf.out HB.out)) Bg.out (qc (Kd.C_below Bh.out HB.out)) Bi.out A3.out).mono ?_);rintro e Kr ⟨rfl,hb⟩;refine⟨_,rfl, ?_⟩;replace Aa:=y0.mk (qK Aa.out hb);replace Ab:=y0.mk (qK Ab.out hb);replace HB:=y0.mk (y4 qb hb);(try clear hb);obtain⟨Ie,If,Ig,Ih,Ii,Ij,Ik,Il,Im,Io⟩:=qz5 Aa.out;obtain⟨Ip,Iq,Ir,Is,Iu,Iv,Iw,Ix,Iy,Iz⟩:=qz5 Ab.out)|((with_reducible refine y15 (f:=32) rfl ?_);refine y17 (some 15) rfl rfl Try.func32 (by kernel_rfl) rfl #[.agg #[.int .i64 Am,.string Ap,.slice Ax Ah.length Ay],.agg #[.int .i64 Ar,.string As,.slice Az Ai.length Ba]] rfl qy1 ?_;(with_reducible refine(laws_eqLit.calls k Am Ap _ _ Ah Ar As _ _ Ai false _ (qc (Kd.C_below Bj.out HB.out)) Bk.out (qc (Kd.C_below Bl.out HB.out)) Bm.out A5.out).mono ?_);rintro e Ks ⟨rfl,hb⟩;refine⟨_,rfl, ?_⟩;replace Aa:=y0.mk (qK Aa.out hb);replace Ab:=y0.mk (qK Ab.out hb);replace HB:=y0.mk (y4 qb hb);(try clear hb)))
   go_ret
   exact⟨qf,qb⟩
 ·replace c4:=Bool.eq_false_iff.mpr c4
  subst c4
  replace H:=qF H
  obtain rfl:=Option.some.inj H
  go_enter Try.func11,Try.ntmps11
  go_wp2_with (first|((with_reducible refine y16 (N:=2) rfl ?_);refine qe 2 #[.slice At Af.length Au,.int .i64 Am,.string Ap,.slice Ax Ah.length Ay,.slice Bb Aj.length Bc] 36 ?_;intro Bn hg Kt hbox hb;have Aa:=y0.mk (hbox);have Bo:=y0.mk (qg (w:=w) hg);have Bp:=y0.mk (qg (w:=w) hg);replace HB:=y0.mk (y4 qb hb);clear hb hbox hg)|((with_reducible refine y16 (N:=3) rfl ?_);refine qe 3 #[.slice Av Ag.length Aw,.int .i64 Ar,.string As,.slice Az Ai.length Ba,.slice Bd Ak.length Be] 36 ?_;intro Bq hg Ku hbox hb;have Ab:=y0.mk (hbox);have Br:=y0.mk (qg (w:=w) hg);have Bs:=y0.mk (qg (w:=w) hg);replace HB:=y0.mk (y4 qb hb);have Ac:=y0.mk (qn Aa.out hg);have Ad:=y0.mk (qm Aa.out hg);replace Aa:=y0.mk (qK Aa.out hb);clear hb hbox hg;have Ka:=Ac.out;have Kb:=Ad.out;obtain⟨Ja,Jb,Jc,Jd,Je,Jf,Jg,Jh,Ji,Jj⟩:=qz5 Aa.out;obtain⟨Jk,Jl,Jm,Jn,Jo,Jp,Jq,Jr,Js,Jt⟩:=qz5 Ab.out)|((with_reducible refine y15 (f:=31) rfl ?_);refine y17 (some 9) rfl rfl Try.func31 (by kernel_rfl) rfl #[.slice At Af.length Au,.slice Av Ag.length Aw] rfl qy1 ?_;(with_reducible refine(laws_eqExpS.calls k _ _ Af _ _ Ag false _ (qc (Kd.C_below Bf.out HB.out)) Bg.out (qc (Kd.C_below Bh.out HB.out)) Bi.out A3.out).mono ?_);rintro e Kv ⟨rfl,hb⟩;refine⟨_,rfl, ?_⟩;replace Aa:=y0.mk (qK Aa.out hb);replace Ab:=y0.mk (qK Ab.out hb);replace HB:=y0.mk (y4 qb hb);(try clear hb)))
  go_ret
  exact⟨qf,qb⟩
def spec_l01Between.f (a0:Int) (a1:Int) (a2:Int):Option (Bool):=if a0≥a1 then(some (decide (a0≤a2)))else(some false)
theorem spec_l01Between.calls (a0:Int) (a1:Int) (a2:Int) (r:Bool) (w:World) (h:spec_l01Between.f a0 a1 a2=some r) :
  Calls Try.prog 23 #[.int .i64 a0,.int .i64 a1,.int .i64 a2] w fun e w'=>e=.returned (.bool r)∧Drawn0 w w':=by
 have H:(if a0≥a1 then(some (decide (a0≤a2)))else(some false))=some r:=h
 clear h
 by_cases c4:a0≥a1
 ·rw [if_pos c4]at H
  have c4b0:decide (a1≤a0)=true:=decide_eq_true c4
  clear c4
  obtain rfl:=Option.some.inj H
  go_enter Try.func23,Try.ntmps23
  go_wp2
  go_ret
  exact qf2
 ·rw [if_neg c4]at H
  have c4b0:decide (a1≤a0)=false:=decide_eq_false c4
  clear c4
  obtain rfl:=Option.some.inj H
  go_enter Try.func23,Try.ntmps23
  go_wp2
  go_ret
  exact qf2
def spec_l04Side.f (Ae:List (S63)) (a0_1:Int) (a0_2:ByteArray) (l0_3:List Int) (l0_4:List (S33)) (l1:List ByteArray) (a2:Int):Option (ByteArray):=if 0≤a2 then(if a2 < (Ae.length:Int)then((spec_l01Between.f ((y19 Ae a2).f0) 5 7).bind fun Al=>(if Al=true then(if a2 < (l1.length:Int)then(if 1 + (rdOf ByteArray.empty l1 a2).size≤9223372036854775807 then(if((⟨#[40]⟩:ByteArray) ++ (rdOf ByteArray.empty l1 a2)).size + 1≤9223372036854775807 then(some (((⟨#[40]⟩:ByteArray) ++ (rdOf ByteArray.empty l1 a2)) ++ (⟨#[41]⟩:ByteArray)))else(none))else(none))else(none))else(if a2 < (l1.length:Int)then(some (rdOf ByteArray.empty l1 a2))else(none))))else(none))else(none)
theorem spec_l04Side.calls (As:Option Addr) (At:Nat) (Ad:List (S63)) (Au:Int) (Av:ByteArray) (Aw:Option Addr) (Ax:Nat) (Aj:List Int) (Ay:Option Addr) (Az:Nat) (Ak:List (S33)) (A1:Option Addr) (c1:Nat) (l1:List ByteArray) (a2:Int) (r:ByteArray) (w:World) (Bc:Kd.C k63 w As Ad.length Ad) (Bd:Ad.length≤At) (Be:Kd.C (Kd.int .i64) w Aw Aj.length Aj) (Bf:Aj.length≤Ax) (Bg:Kd.C k33 w Ay Ak.length Ak) (Bh:Ak.length≤Az) (Cv:Kd.C Kd.string w A1 l1.length l1) (Cw:l1.length≤c1) (h:spec_l04Side.f Ad Au Av Aj Ak l1 a2=some r) :
  Calls Try.prog 66 #[.agg #[.slice As Ad.length At,.int .i64 Au,.string Av,.slice Aw Aj.length Ax,.slice Ay Ak.length Az],.slice A1 l1.length c1,.int .i64 a2] w fun e w'=>e=.returned (.string r)∧Below w.heap.size w w':=by
 have Dk:=Try.underlying36
 have Bi:=y0.mk Bc
 have Cx:=y0.mk Bd
 clear Bc Bd
 have Cy:=y0.mk Be
 have Cz:=y0.mk Bf
 clear Be Bf
 have Da:=y0.mk Bg
 have Db:=y0.mk Bh
 clear Bg Bh
 have Dc:=y0.mk Cv
 have Ds:=y0.mk Cw
 clear Cv Cw
 have HB:=y0.mk (Below.refl w.heap.size w)
 have H:(if 0≤a2 then(if a2 < (Ad.length:Int)then((spec_l01Between.f ((y19 Ad a2).f0) 5 7).bind fun Bj=>(if Bj=true then(if a2 < (l1.length:Int)then(if 1 + (rdOf ByteArray.empty l1 a2).size≤9223372036854775807 then(if((⟨#[40]⟩:ByteArray) ++ (rdOf ByteArray.empty l1 a2)).size + 1≤9223372036854775807 then(some (((⟨#[40]⟩:ByteArray) ++ (rdOf ByteArray.empty l1 a2)) ++ (⟨#[41]⟩:ByteArray)))else(none))else(none))else(none))else(if a2 < (l1.length:Int)then(some (rdOf ByteArray.empty l1 a2))else(none))))else(none))else(none))=some r:=h
 clear h
 obtain⟨c4,H⟩:=qo H
 have Dl:decide (0≤a2)=true:=decide_eq_true c4
 clear c4
 obtain⟨c5,H⟩:=qo H
 have Dm:decide (a2 < (Ad.length:Int))=true:=decide_eq_true c5
 clear c5
 obtain⟨Bj,A6,H⟩:=qB H
 by_cases c7:Bj=true
 ·subst c7
  replace H:=qT H
  obtain⟨c8,H⟩:=qo H
  have Do:decide (a2 < (l1.length:Int))=true:=decide_eq_true c8
  clear c8
  obtain⟨c9,H⟩:=qo H
  have Dp:=eq_true c9
  have Dq:=decide_eq_true c9
  have Dr:=eq_false (Nat.not_lt.2 c9)
  obtain⟨Cs,H⟩:=qo H
  have Dd:=eq_true Cs
  have De:=decide_eq_true Cs
  have Br:=eq_false (Nat.not_lt.2 Cs)
  have Df:(9223372036854775807 < 1 + (rdOf ByteArray.empty l1 a2).size + 1)=False:=qs Br
  obtain rfl:=Option.some.inj H
  go_enter Try.func66,Try.ntmps66
  go_wp2_with (first|((with_reducible refine y16 (N:=3) rfl ?_);refine qe 3 #[.slice As Ad.length At,.int .i64 Au,.string Av,.slice Aw Aj.length Ax,.slice Ay Ak.length Az] 36 ?_;intro Bs hg Dt hbox hb;have Ar:=y0.mk (hbox);have Bt:=y0.mk (qg (w:=w) hg);have Bu:=y0.mk (qg (w:=w) hg);replace HB:=y0.mk (y4 qb hb);clear hb hbox hg;obtain⟨Bw,Bx,Bz,Ca,Cb,Cc,Cd,Ce,Cf,Cg⟩:=qz5 Ar.out;have Am:0≤(a2:Int):=qd;have Ap:a2 < (Ad.length:Int):=qd;obtain⟨Bv,Bk,Bl,Bm,Aa,Ab,Ac,Af,Ag⟩:=at_T63 Bi.out a2 Am Ap;cases Bm;replace Aa:=qC Aa HB;replace Ab:=qC Ab HB;replace Ac:=qC Ac HB;have Ba:=y0.mk Ag;have Bb:=y0.mk Af;clear Ag Af;replace Am:=eq_true Am;replace Ap:=eq_true Ap)|((with_reducible refine y15 (f:=23) rfl ?_);refine y17 (some 13) rfl rfl Try.func23 (by kernel_rfl) rfl #[.int .i64 ((y19 Ad a2).f0),.int .i64 5,.int .i64 7] rfl qy1 ?_;(with_reducible refine(spec_l01Between.calls ((y19 Ad a2).f0) 5 7 true _ A6.out).mono ?_);rintro e w' ⟨rfl,⟨nd,rfl⟩⟩;refine⟨_,rfl, ?_⟩;have Bn:0≤(a2:Int):=qd;have Bo:a2 < (l1.length:Int):=qd;obtain⟨Dg,Ct,Ah⟩:=Kd.at_string Dc.out a2 Bn Bo;cases Ct;replace Ah:=qC Ah HB;replace Bn:=eq_true Bn;replace Bo:=eq_true Bo))
  go_ret
  exact⟨qf,qb⟩
 ·replace c7:=Bool.eq_false_iff.mpr c7
  subst c7
  replace H:=qF H
  obtain⟨Dh,H⟩:=qo H
  have Di:decide (a2 < (l1.length:Int))=true:=decide_eq_true Dh
  clear Dh
  obtain rfl:=Option.some.inj H
  go_enter Try.func66,Try.ntmps66
  go_wp2_with (first|((with_reducible refine y16 (N:=3) rfl ?_);refine qe 3 #[.slice As Ad.length At,.int .i64 Au,.string Av,.slice Aw Aj.length Ax,.slice Ay Ak.length Az] 36 ?_;intro Bs hg Du hbox hb;have Ar:=y0.mk (hbox);have Bt:=y0.mk (qg (w:=w) hg);have Bu:=y0.mk (qg (w:=w) hg);replace HB:=y0.mk (y4 qb hb);clear hb hbox hg;obtain⟨Ch,Ci,Cj,Ck,Cl,Cm,Cn,Cp,Cq,Cr⟩:=qz5 Ar.out;have Am:0≤(a2:Int):=qd;have Ap:a2 < (Ad.length:Int):=qd;obtain⟨Bv,Bk,Bl,Bm,Aa,Ab,Ac,Af,Ag⟩:=at_T63 Bi.out a2 Am Ap;cases Bm;replace Aa:=qC Aa HB;replace Ab:=qC Ab HB;replace Ac:=qC Ac HB;have Ba:=y0.mk Ag;have Bb:=y0.mk Af;clear Ag Af;replace Am:=eq_true Am;replace Ap:=eq_true Ap)|((with_reducible refine y15 (f:=23) rfl ?_);refine y17 (some 13) rfl rfl Try.func23 (by kernel_rfl) rfl #[.int .i64 ((y19 Ad a2).f0),.int .i64 5,.int .i64 7] rfl qy1 ?_;(with_reducible refine(spec_l01Between.calls ((y19 Ad a2).f0) 5 7 false _ A6.out).mono ?_);rintro e w' ⟨rfl,⟨nd,rfl⟩⟩;refine⟨_,rfl, ?_⟩;have Bp:0≤(a2:Int):=qd;have Bq:a2 < (l1.length:Int):=qd;obtain⟨Dj,Cu,Ai⟩:=Kd.at_string Dc.out a2 Bp Bq;cases Cu;replace Ai:=qC Ai HB;replace Bp:=eq_true Bp;replace Bq:=eq_true Bq))
  go_ret
  exact⟨qf,qb⟩
end Go.Proofs.Ytkdabljlfbmpdaa.Pw
