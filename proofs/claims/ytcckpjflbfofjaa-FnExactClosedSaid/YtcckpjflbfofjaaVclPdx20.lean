-- Cut by prune.py, a program of this session, out of the texts of this claim: Lean checks it.
import Derived.Test.YtcckpjflbfofjaaVclPdx0
import Derived.Test.YtcckpjflbfofjaaVclPdx8
namespace Go.Proofs.Ytcckpjflbfofjaa.Pd
open Go.RowKit Go.Proofs.YtcckpjflbfofjaaW.PrintWords Go.Proofs.YtcckpjflbfofjaaW.PrintLast Go.Proofs.YtcckpjflbfofjaaW.PrintMore
attribute [local go_sem] max2_int min2_int max_two min_two max_three min_three max_four min_four   -- for this text's walks alone
set_option linter.unusedVariables false
set_option linter.unusedSimpArgs false
def laws_eqGraphS.l0:Nat→List (S28)→List (S28)→Int→Option (Bool)
 | 0,_,_,_=>none
 | k + 1,x0,x1,x5=>if x5 < (x0.length:Int)then(if 0≤x5 then(if x5 < (x1.length:Int)then((laws_eqGraph.f k ((y14 x0 x5).f0) ((y14 x0 x5).f1) ((y14 x0 x5).f2) ((y14 x1 x5).f0) ((y14 x1 x5).f1) ((y14 x1 x5).f2)).bind fun t482=>(if t482=true then(laws_eqGraphS.l0 k x0 x1 (wrap64 (x5 + 1)))else(some false)))else(none))else(none))else(some true)
def laws_eqGraphS.f (k:Nat) (l0:List (S28)) (l1:List (S28)):Option (Bool):=if(l0.length:Int)=(l1.length:Int)then(laws_eqGraphS.l0 k l0 l1 0)else(some false)
def laws_eqGraphS.T6:Bool×List (List Nat×List Nat):=(true,[([],[]),([],[]),([0,1],[0,1]),([2],[2]),([],[]),([],[]),([4,5],[4,5]),([6],[6]),([3,7],[3,7]),([8],[8])])
def laws_eqGraphS.B6:List Nat:=[0,0,3,7,0,0,48,112,255,511]
theorem laws_eqGraphS.tab6:rtab .any (opsOf Try.f23 6)=laws_eqGraphS.T6:=by kernel_rfl
theorem laws_eqGraphS.bits6:waitsOk laws_eqGraphS.T6.2 laws_eqGraphS.B6=true:=by kernel_rfl
set_option maxHeartbeats 8000000 in
set_option maxRecDepth 100000 in
theorem laws_eqGraphS.calls (k:Nat) (A0:Option Addr) (c0:Nat) (l0:List (S28)) (A1:Option Addr) (c1:Nat) (l1:List (S28)) (r:Bool) (w:World) (Br:Kd.C k28 w A0 l0.length l0) (Bs:l0.length≤c0) (Bt:Kd.C k28 w A1 l1.length l1) (Bu:l1.length≤c1) (h:laws_eqGraphS.f k l0 l1=some r) :
  Calls Try.prog 23 #[.slice A0 l0.length c0,.slice A1 l1.length c1] w fun e w'=>e=.returned (.bool r)∧Below w.heap.size w w':=by
 have Bw:=Try.underlying28
 have Bx:=y0.mk Br
 have Cc:=y0.mk Bs
 clear Br Bs
 have Bz:=y0.mk Bt
 have Cd:=y0.mk Bu
 clear Bt Bu
 have HB:=y0.mk (Below.refl w.heap.size w)
 have H:(if(l0.length:Int)=(l1.length:Int)then(laws_eqGraphS.l0 k l0 l1 0)else(some false))=some r:=h
 clear h
 by_cases c3:(l0.length:Int)=(l1.length:Int)
 ·rw [if_pos c3]at H
  have Bk:((l0.length:Int) == (l1.length:Int))=true:=beq_iff_eq.mpr c3
  have Bl:((l0.length:Int) != (l1.length:Int))=false:=bne_eq_false_iff_eq.mpr c3
  have Bm:(l0.length == l1.length)=true:=by first|simpa using c3|(simp at c3 ⊢;omega)
  clear c3
  have H':=y0.mk H
  clear H
  go_enter Try.func23,Try.ntmps23
  go_wp2
  go_loopg [5] k (fun kq v5 w'=>∃(Aa:Int),v5=.int .i64 Aa∧y0 (laws_eqGraphS.l0 kq l0 l1 Aa=some r)∧y0 (kq≤k)∧y0 (Below w.heap.size w w'))
  case atStart=>exact⟨(0),qy2,H',⟨Nat.le_refl _⟩,⟨qb⟩⟩
  case round =>
   clear H'
   (try clear Bk Bl Bm)
   obtain⟨Aa,rfl,HA,Bv,HB⟩:=hrel
   cases gk with
   | zero=>exact absurd HA.out (by simp [laws_eqGraphS.l0])
   | succ k1 =>
    have H:=HA.out
    clear HA
    simp only [laws_eqGraphS.l0]at H
    by_cases c4:Aa < (l0.length:Int)
    ·rw [if_pos c4]at H
     have Bn:=decide_eq_true c4
     clear c4
     obtain⟨c5,H⟩:=qo H
     have Ca:decide (0≤Aa)=true:=decide_eq_true c5
     clear c5
     obtain⟨c6,H⟩:=qo H
     have Cb:decide (Aa < (l1.length:Int))=true:=decide_eq_true c6
     clear c6
     obtain⟨Bo,A7,H⟩:=qB H
     try go_wp2
     replace HB:=y0.mk (y2 HB.out)
     have Bg:0≤(Aa:Int):=of_decide_eq_true qy0
     have Bh:Aa < (l0.length:Int):=of_decide_eq_true qy0
     obtain⟨As,Au,Aw,Bp,Aj,Ak,Al,Ba,Bb⟩:=at_T28 Bx.out Aa Bg Bh
     have Ab:=Al
     have Ac:=Ak
     have Ad:=Aj
     cases Bp
     replace Aj:=(HB.out.cell (World.block_lt_of_cell? w _ Aj)).trans Aj
     replace Ak:=(HB.out.cell (World.block_lt_of_cell? w _ Ak)).trans Ak
     replace Al:=(HB.out.cell (World.block_lt_of_cell? w _ Al)).trans Al
     have Aq:=y0.mk Bb
     have Bc:=y0.mk Ba
     clear Bb Ba
     replace Bg:=eq_true Bg
     replace Bh:=eq_true Bh
     have Bi:0≤(Aa:Int):=of_decide_eq_true qy0
     have Bj:Aa < (l1.length:Int):=of_decide_eq_true qy0
     obtain⟨At,Ay,Az,Bq,Am,Ao,Ap,Bd,Be⟩:=at_T28 Bz.out Aa Bi Bj
     have Ae:=Ap
     have Af:=Ao
     have Ai:=Am
     cases Bq
     replace Am:=(HB.out.cell (World.block_lt_of_cell? w _ Am)).trans Am
     replace Ao:=(HB.out.cell (World.block_lt_of_cell? w _ Ao)).trans Ao
     replace Ap:=(HB.out.cell (World.block_lt_of_cell? w _ Ap)).trans Ap
     have Ar:=y0.mk Be
     have Bf:=y0.mk Bd
     clear Be Bd
     replace Bi:=eq_true Bi
     replace Bj:=eq_true Bj
     refine start_ (n:=10) (S:=fun w'=>w'.cell? (As.add ((Aa).toNat * 3))=some (.int .i64 ((y14 l0 Aa).f0))∧w'.cell? ⟨(As.add ((Aa).toNat * 3)).block,(As.add ((Aa).toNat * 3)).off + 1,none⟩=some (.int .i64 ((y14 l0 Aa).f1))∧w'.cell? ⟨(As.add ((Aa).toNat * 3)).block,(As.add ((Aa).toNat * 3)).off + 2,none⟩=some (.slice Au ((y14 l0 Aa).f2).length Aw)∧w'.cell? (At.add ((Aa).toNat * 3))=some (.int .i64 ((y14 l1 Aa).f0))∧w'.cell? ⟨(At.add ((Aa).toNat * 3)).block,(At.add ((Aa).toNat * 3)).off + 1,none⟩=some (.int .i64 ((y14 l1 Aa).f1))∧w'.cell? ⟨(At.add ((Aa).toNat * 3)).block,(At.add ((Aa).toNat * 3)).off + 2,none⟩=some (.slice Ay ((y14 l1 Aa).f2).length Az)) (ds:=[]) (fl_ 10 0) (by kernel_rfl) rfl rfl ⟨((HB.out.cell (World.block_lt_of_cell? w _ Ad)).trans Ad),((HB.out.cell (World.block_lt_of_cell? w _ Ac)).trans Ac),((HB.out.cell (World.block_lt_of_cell? w _ Ab)).trans Ab),((HB.out.cell (World.block_lt_of_cell? w _ Ai)).trans Ai),((HB.out.cell (World.block_lt_of_cell? w _ Af)).trans Af),((HB.out.cell (World.block_lt_of_cell? w _ Ae)).trans Ae)⟩ (fun hHeld=>?_);refine with_tabW laws_eqGraphS.tab6 laws_eqGraphS.bits6 (fun HT_ HW_=>?_)
     generalize wr.drew=w9 at HB Aq Ar Aj Ak Al Am Ao Ap hHeld ⊢
     refine qp3 0 17 10 ?_
     by_cases c8:Bo=true
     ·subst c8
      replace H:=qT H
      have H':=y0.mk H
      clear H
      refine qp 4 21 (fl_ 10 23) ?_
      refine qp 5 22 (fl_ 10 55) ?_
      refine qp 6 23 (fl_ 10 119) ?_
      refine qt 3 20 (fl_ 10 127) hHeld ?_
      refine qt 7 24 (fl_ 10 255) hHeld ?_
      refine qO 8 25 (fl_ 10 511) (fun K hK=>?_)
      refine goes_ Try.func11 (by kernel_rfl) rfl #[.agg #[.int .i64 ((y14 l0 Aa).f0),.int .i64 ((y14 l0 Aa).f1),.slice Au ((y14 l0 Aa).f2).length Aw],.agg #[.int .i64 ((y14 l1 Aa).f0),.int .i64 ((y14 l1 Aa).f1),.slice Ay ((y14 l1 Aa).f2).length Az]] (by rfl) rfl rfl qy1 ?_
      with_reducible refine(laws_eqGraph.calls k1 ((y14 l0 Aa).f0) ((y14 l0 Aa).f1) _ _ ((y14 l0 Aa).f2) ((y14 l1 Aa).f0) ((y14 l1 Aa).f1) _ _ ((y14 l1 Aa).f2) true _ (qc (Kd.C_below Aq.out HB.out)) Bc.out (qc (Kd.C_below Ar.out HB.out)) Bf.out A7.out).mono ?_
      rintro e Ce ⟨rfl,hb⟩
      refine⟨_,rfl, ?_⟩
      replace HB:=y0.mk (y4 qb hb)
      (try clear hb)
      refine hK.out _ _ ⟨((HB.out.cell (World.block_lt_of_cell? w _ Ad)).trans Ad),((HB.out.cell (World.block_lt_of_cell? w _ Ac)).trans Ac),((HB.out.cell (World.block_lt_of_cell? w _ Ab)).trans Ab),((HB.out.cell (World.block_lt_of_cell? w _ Ai)).trans Ai),((HB.out.cell (World.block_lt_of_cell? w _ Af)).trans Af),((HB.out.cell (World.block_lt_of_cell? w _ Ae)).trans Ae)⟩ (fun hHeld=>?_)
      clear hK K
      refine qx 25 ?_
      refine qp 9 26 (fl_ 10 1023) ?_
      refine done_ (done_of HT_.out (by kernel_rfl)) ?_
      try go_wp2
      go_roundg k1
      case measure=>have:=Bv.out;omega
      exact⟨(wrap64 (Aa + 1)),qy2,H',⟨by have:=Bv.out;omega⟩,⟨qb⟩⟩
     ·replace c8:=Bool.eq_false_iff.mpr c8
      subst c8
      replace H:=qF H
      obtain rfl:=Option.some.inj H
      refine qp 4 21 (fl_ 10 23) ?_
      refine qp 5 22 (fl_ 10 55) ?_
      refine qp 6 23 (fl_ 10 119) ?_
      refine qt 3 20 (fl_ 10 127) hHeld ?_
      refine qt 7 24 (fl_ 10 255) hHeld ?_
      refine qO 8 25 (fl_ 10 511) (fun K hK=>?_)
      refine goes_ Try.func11 (by kernel_rfl) rfl #[.agg #[.int .i64 ((y14 l0 Aa).f0),.int .i64 ((y14 l0 Aa).f1),.slice Au ((y14 l0 Aa).f2).length Aw],.agg #[.int .i64 ((y14 l1 Aa).f0),.int .i64 ((y14 l1 Aa).f1),.slice Ay ((y14 l1 Aa).f2).length Az]] (by rfl) rfl rfl qy1 ?_
      with_reducible refine(laws_eqGraph.calls k1 ((y14 l0 Aa).f0) ((y14 l0 Aa).f1) _ _ ((y14 l0 Aa).f2) ((y14 l1 Aa).f0) ((y14 l1 Aa).f1) _ _ ((y14 l1 Aa).f2) false _ (qc (Kd.C_below Aq.out HB.out)) Bc.out (qc (Kd.C_below Ar.out HB.out)) Bf.out A7.out).mono ?_
      rintro e Cf ⟨rfl,hb⟩
      refine⟨_,rfl, ?_⟩
      replace HB:=y0.mk (y4 qb hb)
      (try clear hb)
      refine hK.out _ _ ⟨((HB.out.cell (World.block_lt_of_cell? w _ Ad)).trans Ad),((HB.out.cell (World.block_lt_of_cell? w _ Ac)).trans Ac),((HB.out.cell (World.block_lt_of_cell? w _ Ab)).trans Ab),((HB.out.cell (World.block_lt_of_cell? w _ Ai)).trans Ai),((HB.out.cell (World.block_lt_of_cell? w _ Af)).trans Af),((HB.out.cell (World.block_lt_of_cell? w _ Ae)).trans Ae)⟩ (fun hHeld=>?_)
      clear hK K
      refine qx 25 ?_
      refine qp 9 26 (fl_ 10 1023) ?_
      refine done_ (done_of HT_.out (by kernel_rfl)) ?_
      try go_wp2
      go_ret
      exact⟨qf,qb⟩
    ·rw [if_neg c4]at H
     have Bn:=decide_eq_false c4
     clear c4
     obtain rfl:=Option.some.inj H
     go_wp2
     go_ret
     exact⟨qf,qb⟩
 ·rw [if_neg c3]at H
  have Bk:((l0.length:Int) == (l1.length:Int))=false:=beq_eq_false_iff_ne.mpr c3
  have Bl:((l0.length:Int) != (l1.length:Int))=true:=bne_iff_ne.mpr c3
  have Bm:(l0.length == l1.length)=false:=by first|simpa using c3|(simp at c3 ⊢;omega)
  obtain rfl:=Option.some.inj H
  go_enter Try.func23,Try.ntmps23
  go_wp2
  go_ret
  exact⟨qf,qb⟩
def laws_markGraphS.l0:Nat→List (S28)→Int→Int→Option (Int×List (S28))
 | 0,_,_,_=>none
 | k + 1,x0,x1,x5=>if x5 < (x0.length:Int)then(if 0≤x5 then((laws_markArcS.f k (y14 x0 x5).f2 (wrap64 (wrap64 (x1 + 1) + 1))).bind fun bt=>laws_markGraphS.l0 k (x0.set x5.toNat (⟨x1,wrap64 (x1 + 1),bt.2⟩:S28)) bt.1 (wrap64 (x5 + 1)))else none)else some (x1,x0)
def laws_markGraphS.f (k:Nat) (l0:List (S28)) (a1:Int):Option (Int×List (S28)):=laws_markGraphS.l0 k l0 a1 0
theorem laws_markGraphS.put0 {w:World} {base:Nat} {ok:Nat→Prop} {x:S28} {c:List Value} (v:Int) (h:k28.M w base ok x c):k28.M w base ok (⟨v,x.f1,x.f2⟩:S28) (c.take 0 ++ [.int .i64 v] ++ c.drop (0 + 1)):=by
 obtain⟨u,rfl,hR⟩:=k28_openM h
 exact k28_mkM _ _ _ (⟨v,x.f1,x.f2⟩:S28) hR
theorem laws_markGraphS.put1 {w:World} {base:Nat} {ok:Nat→Prop} {x:S28} {c:List Value} (v:Int) (h:k28.M w base ok x c):k28.M w base ok (⟨x.f0,v,x.f2⟩:S28) (c.take 1 ++ [.int .i64 v] ++ c.drop (1 + 1)):=by
 obtain⟨u,rfl,hR⟩:=k28_openM h
 exact k28_mkM _ _ _ (⟨x.f0,v,x.f2⟩:S28) hR
theorem laws_markGraphS.get {x0:List (S28)} {i:Int} {n:Nat} (h0:0≤i) (h1:i < n) (hn:n=x0.length) (y:S28):(x0.set i.toNat y).getD i.toNat z28=y:=by
 have:i.toNat < x0.length:=by omega
 simp [List.getD,this]
set_option maxHeartbeats 8000000 in
set_option maxRecDepth 100000 in
theorem laws_markGraphS.calls (k:Nat) (lo hi:Nat) (A0:Option Addr) (c0:Nat) (l0:List (S28)) (a1:Int) (r1:Int) (r2:List (S28)) (w0 w:World) (hB:Below w0.heap.size w0 w) (hlo:w0.heap.size≤lo) (ho:QIv.OS k28 28 lo hi (.slice A0 l0.length c0) l0 w) (h:laws_markGraphS.f k l0 a1=some (r1,r2)) :
  Calls Try.prog 24 #[.slice A0 l0.length c0,.int .i64 a1] w fun e w'=>e=.returned (.int .i64 r1)∧QIv.OS k28 28 lo hi (.slice A0 l0.length c0) r2 w'∧Below w0.heap.size w0 w'∧QIv.KI lo hi w w':=by
 have hu:=Try.underlying28
 have HO:=y0.mk ho
 have HB:=y0.mk hB
 have HL:=y0.mk hlo
 have HK:y0 (QIv.KI lo hi w w):=⟨Kept.refl w _⟩
 have H':y0 (laws_markGraphS.l0 k l0 a1 0=some (r1,r2)):=⟨h⟩
 clear ho hB hlo h
 go_enter Try.func24,Try.ntmps24
 go_wp2
 go_loopg [1,5] k (fun kq v1 v5 w'=>∃(x0:List (S28)) (x1 x5:Int),v1=.int .i64 x1∧v5=.int .i64 x5∧y0 (laws_markGraphS.l0 kq x0 x1 x5=some (r1,r2))∧y0 (kq≤k)∧y0 (QIv.OS k28 28 lo hi (.slice A0 l0.length c0) x0 w')∧y0 (QIv.KI lo hi w w')∧y0 (Below w0.heap.size w0 w'))
 case atStart=>exact⟨l0,a1,0,rfl,rfl,H',⟨Nat.le_refl _⟩,HO,HK,HB⟩
 case round =>
  clear H'
  obtain⟨x0,x1,x5,rfl,rfl,HA,Ad,HO,HK,HB⟩:=hrel
  have hln:l0.length=x0.length:=(Kd.S_reads' HO.out).1
  cases gk with
  | zero=>exact absurd HA.out (by simp [laws_markGraphS.l0])
  | succ k1 =>
   have H:=HA.out
   clear HA
   simp only [laws_markGraphS.l0]at H
   by_cases c3:x5 < (x0.length:Int)
   ·rw [if_pos c3]at H
    have c3l:x5 < (l0.length:Int):=by omega
    have c3b:decide (x5 < (l0.length:Int))=true:=decide_eq_true c3l
    by_cases c4:0≤x5
    ·rw [if_pos c4]at H
     obtain⟨t,ht⟩:∃ t,wrap64 (x1 + 1)=t:=⟨_,rfl⟩
     rw [ht]at H
     have hWT:=y0.mk ht
     clear ht
     obtain⟨⟨t1,t2⟩,A3,H⟩:=Option.bind_eq_some_iff.mp H
     have H':y0 (laws_markGraphS.l0 k1 (x0.set x5.toNat (⟨x1,t,t2⟩:S28)) t1 (wrap64 (x5 + 1))=some (r1,r2)):=⟨H⟩
     clear H
     have A3:=y0.mk A3
     obtain⟨ad,Ax,cx,e,Ab,Ac,Aa,hle,hCi⟩:=at_T28 HO.out.C x5 c4 c3
     cases e
     obtain⟨g,had⟩:=Kd.R_head (Kd.S_R HO.out)
     have hgo:lo≤g∧g < hi:=by
      have:=HO.out
      rw [had]at this
      exact QIv.OS.own this
     have hsz:k28.sz=3:=rfl
     have Ae:wr.frozen? (ad.add (x5.toNat * 3))=false:=by
      have:=HO.out
      rw [had]at this ⊢
      rw [add_at]
      exact QIv.OS.frozen this _
     have hHad:=y0.mk had
     have hHgo:=y0.mk hgo
     have HFR:y0 (∀(W:World) (xs:List (S28)) (m o:Nat),QIv.OS k28 28 lo hi (.slice (some ad) l0.length c0) xs W→W.frozen? ⟨(ad.add m).block,(ad.add m).off + o,none⟩=false):=by
      refine⟨fun W xs m o h=>?_⟩
      rw [hHad.out]at h ⊢
      rw [add_at]
      exact QIv.OS.frozen h _
     have hHln:=y0.mk hln
     have p5:=eq_true c4
     have q5:=eq_true c3l
     have P5:=y0.mk c4
     have Q5:=y0.mk c3l
     have C3:=y0.mk c3
     clear Ac Aa hle hCi c3 c4 c3l hln had hgo hsz
     go_upto_region 5 with fail
     have n0_:y0 (QIv.OS k28 28 lo hi (.slice (some ad) l0.length c0) (x0.set x5.toNat (⟨x1,(y14 x0 x5).f1,(y14 x0 x5).f2⟩:S28)) (wr.setCell (ad.add (x5.toNat * 3)) (.int .i64 x1))):=by
      have h1:=HO.out
      rw [hHad.out]at h1 ⊢
      rw [add_at,Nat.zero_add]
      exact⟨QIv.OS.put (j:=0) h1 z28 P5.out Q5.out (by show 0 + 1≤3;omega) rfl (fun _ _ _ _ h=>laws_markGraphS.put0 x1 h)⟩
     have n1_:y0 (QIv.KI lo hi w (wr.setCell (ad.add (x5.toNat * 3)) (.int .i64 x1))):=⟨QIv.KI.put HK.out (by rw [add_block,hHad.out];exact hHgo.out)⟩
     have n2_:y0 (Below w0.heap.size w0 (wr.setCell (ad.add (x5.toNat * 3)) (.int .i64 x1))):=⟨HB.out.setCell (by rw [add_block,hHad.out];exact Nat.le_trans HL.out hHgo.out.1) _⟩
     clear HO HK HB Ab Ae
     generalize wr.setCell (ad.add (x5.toNat * 3)) (.int .i64 x1)=wA at n0_ n1_ n2_ ⊢
     have HO:=n0_
     have HK:=n1_
     have HB:=n2_
     clear n0_ n1_ n2_
     obtain⟨Ai,Aj,Ak,e2,Ab,Ac,Aa,hle,hCi⟩:=at_T28 HO.out.C x5 P5.out (by rw [List.length_set];exact C3.out)
     injection e2 with e2
     subst e2
     have Af:=HFR.out _ _ (x5.toNat * 3) 1 HO.out
     clear Ab Aa hle hCi
     have hwt:=hWT.out
     go_upto_region 7 with fail
     have n0_:y0 (QIv.OS k28 28 lo hi (.slice (some ad) l0.length c0) (x0.set x5.toNat (⟨x1,t,(y14 x0 x5).f2⟩:S28)) (wA.setCell ⟨(ad.add (x5.toNat * 3)).block,(ad.add (x5.toNat * 3)).off + 1,none⟩ (.int .i64 t))):=by
      have h1:=HO.out
      rw [hHad.out]at h1 ⊢
      rw [add_at]
      have h2:=QIv.OS.put (j:=1) (u:=.int .i64 t) (x':=(⟨x1,t,(y14 x0 x5).f2⟩:S28)) h1 z28 P5.out Q5.out (by show 1 + 1≤3;omega) rfl (fun _ _ _ _ h=>by rw [laws_markGraphS.get P5.out Q5.out hHln.out]at h;exact laws_markGraphS.put1 t h)
      rw [List.set_set]at h2
      rw [Nat.zero_add]
      exact⟨h2⟩
     have n1_:y0 (QIv.KI lo hi w (wA.setCell ⟨(ad.add (x5.toNat * 3)).block,(ad.add (x5.toNat * 3)).off + 1,none⟩ (.int .i64 t))):=⟨QIv.KI.put HK.out (by show lo≤(ad.add _).block∧(ad.add _).block < hi;rw [add_block,hHad.out];exact hHgo.out)⟩
     have n2_:y0 (Below w0.heap.size w0 (wA.setCell ⟨(ad.add (x5.toNat * 3)).block,(ad.add (x5.toNat * 3)).off + 1,none⟩ (.int .i64 t))):=⟨HB.out.setCell (by show _≤(ad.add _).block;rw [add_block,hHad.out];exact Nat.le_trans HL.out hHgo.out.1) _⟩
     clear HO HK HB Ac Af
     generalize wA.setCell ⟨(ad.add (x5.toNat * 3)).block,(ad.add (x5.toNat * 3)).off + 1,none⟩ (.int .i64 t)=wB at n0_ n1_ n2_ ⊢
     have HO:=n0_
     have HK:=n1_
     have HB:=n2_
     clear n0_ n1_ n2_
     obtain⟨oki,u,hR,hcc,hback⟩:=QIv.OS.lent (dk:=k53) (ek:=53) (w0:=w0) (lo:=lo) rfl (fun _ _ _ _ h=>h) (by have h1:=HO.out;rw [hHad.out]at h1;exact h1) HL.out z28 P5.out Q5.out (fun x:S28=>x.f2) (fun x ys=>(⟨x.f0,x.f1,ys⟩:S28)) (fun x u=>[.int .i64 x.f0,.int .i64 x.f1,u]) (fun h=>k28_openM h) (fun _ _ _ x ys _ h=>k28_mkM _ _ _ (⟨x.f0,x.f1,ys⟩:S28) h)
     rw [laws_markGraphS.get P5.out Q5.out hHln.out]at hR hcc
     have Aa:wB.cell? ⟨(ad.add (x5.toNat * 3)).block,(ad.add (x5.toNat * 3)).off + 2,none⟩=some u:=by
      rw [hHad.out,add_at,Nat.zero_add]
      exact hcc 2 u rfl
     have HR:=y0.mk hR
     have HBK:y0 (∀(w5:World) (ys:List (S53)),Kd.R k53 53 w5 w0.heap.size (fun k_=>oki k_∨wB.heap.size≤k_) u ys→Kept wB w5 (fun k_=>oki k_)→QIv.OS k28 28 lo hi (.slice (some ad) l0.length c0) (x0.set x5.toNat (⟨x1,t,ys⟩:S28)) w5∧QIv.KI lo hi wB w5):=by
      refine⟨fun w5 ys h1 h2=>?_⟩
      have h3:=hback w5 ys h1 h2
      rw [laws_markGraphS.get P5.out Q5.out hHln.out,List.set_set,← hHad.out]at h3
      exact h3
     clear hback hcc hR HO
     go_wp2_with (first|(go_at_call 32;(with_reducible refine(laws_markArcS.calls k1 (fun k_=>oki k_) u _ _ t1 t2 w0 _ HB.out HR.out A3.out).mono ?_);rintro e w6 ⟨rfl,hy,hb,hkp⟩;have n0_:=y0.mk (HBK.out w6 t2 hy hkp).1;have n1_:=y0.mk (QIv.ki_trans HK.out (HBK.out w6 t2 hy hkp).2);have n2_:=y0.mk hb;clear HK HB HBK HR hy hb hkp Aa;have HO:=n0_;have HK:=n1_;have HB:=n2_;clear n0_ n1_ n2_))
     go_roundg k1
     case measure=>have:=Ad.out;omega
     exact⟨_,t1,wrap64 (x5 + 1),rfl,qy2,H',⟨by have:=Ad.out;omega⟩,HO,HK,HB⟩
    ·rw [if_neg c4]at H
     cases H
   ·rw [if_neg c3]at H
    have c3b:decide (x5 < (l0.length:Int))=false:=decide_eq_false (by omega)
    clear hln
    injection H with H
    obtain⟨rfl,rfl⟩:=Prod.mk.inj H
    go_wp2
    go_ret
    exact⟨by first|rfl|(simp [errW_none,errW_some] <;> rfl),HO.out,HB.out,HK.out⟩
def laws_heldGraphS.l0:Nat→List (S28)→Int→Int→Option (Int)
 | 0,_,_,_=>none
 | k + 1,x0,x1,x5=>if x5 < (x0.length:Int)then(if 0≤x5 then(if((y14 x0 x5).f0)=x1 then(if((y14 x0 x5).f1)=(wrap64 (x1 + 1))then((laws_heldArcS.f k ((y14 x0 x5).f2) (wrap64 ((wrap64 (x1 + 1)) + 1))).bind fun t486=>(if t486 < 0 then(some (-1))else(laws_heldGraphS.l0 k x0 t486 (wrap64 (x5 + 1)))))else(some (-1)))else(some (-1)))else(none))else(some x1)
def laws_heldGraphS.f (k:Nat) (l0:List (S28)) (a1:Int):Option (Int):=laws_heldGraphS.l0 k l0 a1 0
set_option maxHeartbeats 8000000 in
set_option maxRecDepth 100000 in
theorem laws_heldGraphS.calls (k:Nat) (A0:Option Addr) (c0:Nat) (l0:List (S28)) (a1:Int) (r:Int) (w:World) (Cd:Kd.C k28 w A0 l0.length l0) (Ce:l0.length≤c0) (h:laws_heldGraphS.f k l0 a1=some r) :
  Calls Try.prog 25 #[.slice A0 l0.length c0,.int .i64 a1] w fun e w'=>e=.returned (.int .i64 r)∧Drawn0 w w':=by
 have Bp:=y0.mk Cd
 have Ch:=y0.mk Ce
 clear Cd Ce
 have H:(laws_heldGraphS.l0 k l0 a1 0)=some r:=h
 clear h
 have H':=y0.mk H
 clear H
 go_enter Try.func25,Try.ntmps25
 go_wp2
 go_loopg [1,5] k (fun kq v1 v5 w'=>∃(Ai:Int) (Aa:Int),v1=.int .i64 Ai∧v5=.int .i64 Aa∧y0 (laws_heldGraphS.l0 kq l0 Ai Aa=some r)∧y0 (kq≤k)∧Drawn0 w w')
 case atStart=>exact⟨(a1),(0),qy2,qy2,H',⟨Nat.le_refl _⟩,by repeat(first|exact Drawn0.refl _|apply Drawn0.step)⟩
 case round =>
  clear H'
  obtain⟨Ai,Aa,rfl,rfl,HA,Cf,⟨m1,rfl⟩⟩:=hrel
  cases gk with
  | zero=>exact absurd HA.out (by simp [laws_heldGraphS.l0])
  | succ k1 =>
   have H:=HA.out
   clear HA
   simp only [laws_heldGraphS.l0]at H
   by_cases c3:Aa < (l0.length:Int)
   ·rw [if_pos c3]at H
    have Bw:=decide_eq_true c3
    clear c3
    obtain⟨c4,H⟩:=qo H
    have Cg:decide (0≤Aa)=true:=decide_eq_true c4
    clear c4
    by_cases c5:((y14 l0 Aa).f0)=Ai
    ·rw [if_pos c5]at H
     have Bx:(((y14 l0 Aa).f0) == Ai)=true:=beq_iff_eq.mpr c5
     have Bz:(((y14 l0 Aa).f0) != Ai)=false:=bne_eq_false_iff_eq.mpr c5
     clear c5
     by_cases c6:((y14 l0 Aa).f1)=(wrap64 (Ai + 1))
     ·rw [if_pos c6]at H
      have Ca:(((y14 l0 Aa).f1) == (wrap64 (Ai + 1)))=true:=beq_iff_eq.mpr c6
      have Cb:(((y14 l0 Aa).f1) != (wrap64 (Ai + 1)))=false:=bne_eq_false_iff_eq.mpr c6
      clear c6
      obtain⟨Bq,A7,H⟩:=qB H
      by_cases c8:Bq < 0
      ·rw [if_pos c8]at H
       have Cc:=decide_eq_true c8
       clear c8
       obtain rfl:=Option.some.inj H
       have Aj:0≤(Aa:Int):=of_decide_eq_true qy0
       have Ak:Aa < (l0.length:Int):=of_decide_eq_true qy0
       obtain⟨Ap,Aq,Ar,Be,Au,Aw,Ad,Ab,Ac⟩:=at_T28 Bp.out Aa Aj Ak
       cases Be
       have Ay:=y0.mk Ac
       have Az:=y0.mk Ab
       clear Ac Ab
       replace Aj:=eq_true Aj
       replace Ak:=eq_true Ak
       have As:0≤(Aa:Int):=of_decide_eq_true qy0
       have At:Aa < (l0.length:Int):=of_decide_eq_true qy0
       obtain⟨Bd,Bl,Bm,Bn,Bh,Bi,Al,Ae,Af⟩:=at_T28 Bp.out Aa As At
       obtain rfl:Ap=Bd:=(by injection Bn)
       have Bj:=y0.mk Af
       have Bk:=y0.mk Ae
       clear Af Ae
       replace As:=eq_true As
       replace At:=eq_true At
       have ea_:=Option.some.inj (Ad.symm.trans Al)
       injection ea_ with ea_ en_ ec_
       subst ea_
       subst ec_
       clear en_
       have Bf:0≤(Aa:Int):=of_decide_eq_true qy0
       have Bg:Aa < (l0.length:Int):=of_decide_eq_true qy0
       obtain⟨Bo,Bt,Bu,Bv,Br,Bs,Ba,Am,Ao⟩:=at_T28 Bp.out Aa Bf Bg
       obtain rfl:Ap=Bo:=(by injection Bv)
       have Bb:=y0.mk Ao
       have Bc:=y0.mk Am
       clear Ao Am
       replace Bf:=eq_true Bf
       replace Bg:=eq_true Bg
       have ea_:=Option.some.inj (Ad.symm.trans Ba)
       injection ea_ with ea_ en_ ec_
       subst ea_
       subst ec_
       clear en_
       go_wp2_with (first|((with_reducible refine gate_callee (f:=33) rfl ?_);refine goesL_ (some 36) rfl rfl Try.func33 (by kernel_rfl) rfl #[.slice Aq ((y14 l0 Aa).f2).length Ar,.int .i64 (wrap64 ((wrap64 (Ai + 1)) + 1))] rfl qy1 ?_;(with_reducible refine(laws_heldArcS.calls k1 _ _ ((y14 l0 Aa).f2) (wrap64 ((wrap64 (Ai + 1)) + 1)) Bq _ (qc Bb.out) Bc.out A7.out).mono ?_);rintro e w' ⟨rfl,⟨nd,rfl⟩⟩;refine⟨_,rfl, ?_⟩))
       go_ret
       exact qf2
      ·rw [if_neg c8]at H
       have Cc:=decide_eq_false c8
       clear c8
       have H':=y0.mk H
       clear H
       have Aj:0≤(Aa:Int):=of_decide_eq_true qy0
       have Ak:Aa < (l0.length:Int):=of_decide_eq_true qy0
       obtain⟨Ap,Aq,Ar,Be,Au,Aw,Ad,Ab,Ac⟩:=at_T28 Bp.out Aa Aj Ak
       cases Be
       have Ay:=y0.mk Ac
       have Az:=y0.mk Ab
       clear Ac Ab
       replace Aj:=eq_true Aj
       replace Ak:=eq_true Ak
       have As:0≤(Aa:Int):=of_decide_eq_true qy0
       have At:Aa < (l0.length:Int):=of_decide_eq_true qy0
       obtain⟨Bd,Bl,Bm,Bn,Bh,Bi,Al,Ae,Af⟩:=at_T28 Bp.out Aa As At
       obtain rfl:Ap=Bd:=(by injection Bn)
       have Bj:=y0.mk Af
       have Bk:=y0.mk Ae
       clear Af Ae
       replace As:=eq_true As
       replace At:=eq_true At
       have ea_:=Option.some.inj (Ad.symm.trans Al)
       injection ea_ with ea_ en_ ec_
       subst ea_
       subst ec_
       clear en_
       have Bf:0≤(Aa:Int):=of_decide_eq_true qy0
       have Bg:Aa < (l0.length:Int):=of_decide_eq_true qy0
       obtain⟨Bo,Bt,Bu,Bv,Br,Bs,Ba,Am,Ao⟩:=at_T28 Bp.out Aa Bf Bg
       obtain rfl:Ap=Bo:=(by injection Bv)
       have Bb:=y0.mk Ao
       have Bc:=y0.mk Am
       clear Ao Am
       replace Bf:=eq_true Bf
       replace Bg:=eq_true Bg
       have ea_:=Option.some.inj (Ad.symm.trans Ba)
       injection ea_ with ea_ en_ ec_
       subst ea_
       subst ec_
       clear en_
       go_wp2_with (first|((with_reducible refine gate_callee (f:=33) rfl ?_);refine goesL_ (some 36) rfl rfl Try.func33 (by kernel_rfl) rfl #[.slice Aq ((y14 l0 Aa).f2).length Ar,.int .i64 (wrap64 ((wrap64 (Ai + 1)) + 1))] rfl qy1 ?_;(with_reducible refine(laws_heldArcS.calls k1 _ _ ((y14 l0 Aa).f2) (wrap64 ((wrap64 (Ai + 1)) + 1)) Bq _ (qc Bb.out) Bc.out A7.out).mono ?_);rintro e w' ⟨rfl,⟨nd,rfl⟩⟩;refine⟨_,rfl, ?_⟩))
       go_roundg k1
       case measure=>have:=Cf.out;omega
       exact⟨(Bq),(wrap64 (Aa + 1)),qy2,qy2,H',⟨by have:=Cf.out;omega⟩,by repeat(first|exact Drawn0.refl _|apply Drawn0.step)⟩
     ·rw [if_neg c6]at H
      have Ca:(((y14 l0 Aa).f1) == (wrap64 (Ai + 1)))=false:=beq_eq_false_iff_ne.mpr c6
      have Cb:(((y14 l0 Aa).f1) != (wrap64 (Ai + 1)))=true:=bne_iff_ne.mpr c6
      obtain rfl:=Option.some.inj H
      have Aj:0≤(Aa:Int):=of_decide_eq_true qy0
      have Ak:Aa < (l0.length:Int):=of_decide_eq_true qy0
      obtain⟨Ap,Aq,Ar,Be,Au,Aw,Ad,Ab,Ac⟩:=at_T28 Bp.out Aa Aj Ak
      cases Be
      have Ay:=y0.mk Ac
      have Az:=y0.mk Ab
      clear Ac Ab
      replace Aj:=eq_true Aj
      replace Ak:=eq_true Ak
      have As:0≤(Aa:Int):=of_decide_eq_true qy0
      have At:Aa < (l0.length:Int):=of_decide_eq_true qy0
      obtain⟨Bd,Bl,Bm,Bn,Bh,Bi,Al,Ae,Af⟩:=at_T28 Bp.out Aa As At
      obtain rfl:Ap=Bd:=(by injection Bn)
      have Bj:=y0.mk Af
      have Bk:=y0.mk Ae
      clear Af Ae
      replace As:=eq_true As
      replace At:=eq_true At
      have ea_:=Option.some.inj (Ad.symm.trans Al)
      injection ea_ with ea_ en_ ec_
      subst ea_
      subst ec_
      clear en_
      go_wp2
      go_ret
      exact qf2
    ·rw [if_neg c5]at H
     have Bx:(((y14 l0 Aa).f0) == Ai)=false:=beq_eq_false_iff_ne.mpr c5
     have Bz:(((y14 l0 Aa).f0) != Ai)=true:=bne_iff_ne.mpr c5
     obtain rfl:=Option.some.inj H
     have Aj:0≤(Aa:Int):=of_decide_eq_true qy0
     have Ak:Aa < (l0.length:Int):=of_decide_eq_true qy0
     obtain⟨Ap,Aq,Ar,Be,Au,Aw,Ad,Ab,Ac⟩:=at_T28 Bp.out Aa Aj Ak
     cases Be
     have Ay:=y0.mk Ac
     have Az:=y0.mk Ab
     clear Ac Ab
     replace Aj:=eq_true Aj
     replace Ak:=eq_true Ak
     go_wp2
     go_ret
     exact qf2
   ·rw [if_neg c3]at H
    have Bw:=decide_eq_false c3
    clear c3
    obtain rfl:=Option.some.inj H
    go_wp2
    go_ret
    exact qf2
/-- What is reckoned in the one way that a call of the law can go. -/
def laws_FnExactClosed.Run (k:Nat) (l0:List (S24)):Prop :=
 ∃ r,laws_szGraphS.f k l0 1048576=some r∧(r < 0∨(¬ r < 0∧∃(xs gs:List (S28)) (gb:Bool) (m1:Int) (xm:List (S28)) (m3:Int) (gm:List (S28)),
  laws_toGraphS.f k l0=some xs∧spec_Closed.Ok k xs gs gb∧impl_Closed.Ok k xs gs gb∧laws_eqGraphS.f k gs gs=some true∧laws_eqGraphS.f k xs xs=some true ∧
  laws_markGraphS.f k xs 1=some (m1,xm)∧¬ m1 < 0∧laws_markGraphS.f k gs 1=some (m3,gm)∧gm.length=gs.length∧laws_heldGraphS.f k gm 1=some m3∧¬ m3 < 0))
set_option maxHeartbeats 16000000 in
set_option maxRecDepth 100000 in
theorem laws_FnExactClosed.calls (k:Nat) (A0:Option Addr) (c0:Nat) (l0:List (S24)) (w:World) (Ad:Kd.C k24 w A0 l0.length l0) (Ae:l0.length≤c0) (h:laws_FnExactClosed.Run k l0) :
  Calls Try.prog 6 #[.slice A0 l0.length c0] w fun e w'=>e=.returned (.bool true)∧Below w.heap.size w w':=by
 have Aa:=y0.mk Ad
 clear Ad
 have Ab:=y0.mk Ae
 clear Ae
 have HB:=y0.mk (Below.refl w.heap.size w)
 obtain⟨r,E1,h⟩:=h
 have E1:=y0.mk E1
 rcases h with h|⟨h0,xs,gs,gb,m1,xm,m3,gm,F1,F2,F3,F4,F5,F6,F7,F8,F9,Ac,Af⟩
 ·skip
  have Ai:decide (r < 0)=true:=decide_eq_true h
  clear h
  go_enter Try.func6,Try.ntmps6
  go_wp2_with (first
   | (go_at_call 19;(with_reducible refine(laws_szGraphS.calls k _ _ l0 1048576 r _ (Kd.C_below Aa.out HB.out) Ab.out E1.out).mono ?_);rintro e w1 ⟨rfl,hb⟩;replace HB:=y0.mk (y4 HB.out hb);(try clear hb)))
  go_ret
  exact⟨by first|rfl|(simp [errW_none,errW_some] <;> rfl),HB.out⟩
 have Ai:decide (r < 0)=false:=decide_eq_false h0
 clear h0
 replace F1:=y0.mk F1
 replace F2:=y0.mk F2
 replace F3:=y0.mk F3
 replace F4:=y0.mk F4
 replace F5:=y0.mk F5
 replace F6:=y0.mk F6
 replace F8:=y0.mk F8
 replace Ac:=y0.mk Ac
 have Aj:decide (m1 < 0)=false:=decide_eq_false F7
 have Ak:decide (m3 < 0)=false:=decide_eq_false Af
 have Al:(m3 != m3)=false:=bne_self_eq_false m3
 have Am:(gb != gb)=false:=by cases gb <;> rfl
 clear F7 Af
 have HELD:y0 (∀(W:World) (A:Option Addr) (c:Nat),Kd.C k28 W A gm.length gm→gm.length≤c→Calls Try.prog 25 #[.slice A gs.length c,.int .i64 1] W fun e w'=>e=.returned (.int .i64 m3)∧Below W.heap.size W w'):=by
  refine⟨fun W A c h1 h2=>?_⟩
  have h_:=laws_heldGraphS.calls k A c gm 1 m3 W h1 h2 Ac.out
  rw [F9]at h_
  exact h_.mono (fun e w' h=>⟨h.1,h.2.below⟩)
 have HGL:=y0.mk F9
 clear F9
 go_enter Try.func6,Try.ntmps6
 go_upto_region 5 with(first
  | (go_at_call 19;(with_reducible refine(laws_szGraphS.calls k _ _ l0 1048576 r _ (Kd.C_below Aa.out HB.out) Ab.out E1.out).mono ?_);rintro e w1 ⟨rfl,hb⟩;replace HB:=y0.mk (y4 HB.out hb);(try clear hb)))
 go_upto_region 6 with(first
  | (go_at_call 21;(with_reducible refine(laws_toGraphS.calls k _ _ l0 xs _ (Kd.C_below Aa.out HB.out) Ab.out F1.out).mono ?_);rintro e w2 ⟨v_,rfl,ho,hb⟩;obtain⟨loP,hiP,hlo_,hhi_,hOP_⟩:=QIv.OS.new ho;obtain⟨AP,cP,eA_⟩:=hOP_.slice;subst eA_;have OP:=y0.mk (hOP_);have LP:=y0.mk ((by rw [hhi_];exact Nat.le_refl _:hiP≤_));have BP:=y0.mk ((by rw [hlo_];exact HB.out.size:w.heap.size≤loP));replace HB:=y0.mk (y4 HB.out hb);(try clear hb);(try clear ho);(try clear hlo_);(try clear hhi_))
  | (go_at_call 20;(with_reducible refine(spec_Closed.call k _ _ xs gs gb _ OP.out.C OP.out.le F2.out).mono ?_);rintro e w3 ⟨v_,rfl,ho,hb⟩;obtain⟨loW,hiW,hlo_,hhi_,hOW_⟩:=QIv.OS.new ho;obtain⟨AW,cW,eA_⟩:=hOW_.slice;subst eA_;have OW:=y0.mk (hOW_);have LW:=y0.mk ((by rw [hhi_];exact Nat.le_refl _:hiW≤_));have BW:=y0.mk ((by rw [hlo_];exact HB.out.size:w.heap.size≤loW));have DP_W:=y0.mk ((by rw [hlo_];exact LP.out:hiP≤loW));replace OP:=y0.mk (OP.out.below hb);replace LP:=y0.mk (Nat.le_trans LP.out hb.size);replace HB:=y0.mk (y4 HB.out hb);(try clear hb);(try clear ho);(try clear hlo_);(try clear hhi_)))
 clear OP LP
 go_upto_region 7 with(first
  | (go_at_call 21;(with_reducible refine(laws_toGraphS.calls k _ _ l0 xs _ (Kd.C_below Aa.out HB.out) Ab.out F1.out).mono ?_);rintro e w4 ⟨v_,rfl,ho,hb⟩;obtain⟨loX,hiX,hlo_,hhi_,hOX_⟩:=QIv.OS.new ho;obtain⟨AX,cX,eA_⟩:=hOX_.slice;subst eA_;have OX:=y0.mk (hOX_);have LX:=y0.mk ((by rw [hhi_];exact Nat.le_refl _:hiX≤_));have BX:=y0.mk ((by rw [hlo_];exact HB.out.size:w.heap.size≤loX));have DW_X:=y0.mk ((by rw [hlo_];exact LW.out:hiW≤loX));replace OW:=y0.mk (OW.out.below hb);replace LW:=y0.mk (Nat.le_trans LW.out hb.size);replace HB:=y0.mk (y4 HB.out hb);(try clear hb);(try clear ho);(try clear hlo_);(try clear hhi_)))
 go_upto_region 8 with(first
  | (go_at_call 22;(with_reducible refine(impl_Closed.call k _ _ xs gs gb _ OX.out.C OX.out.le F3.out).mono ?_);rintro e w5 ⟨v_,rfl,ho,hb⟩;obtain⟨loG,hiG,hlo_,hhi_,hOG_⟩:=QIv.OS.new ho;obtain⟨AG,cG,eA_⟩:=hOG_.slice;subst eA_;have OG:=y0.mk (hOG_);have LG:=y0.mk ((by rw [hhi_];exact Nat.le_refl _:hiG≤_));have BG:=y0.mk ((by rw [hlo_];exact HB.out.size:w.heap.size≤loG));have DW_G:=y0.mk ((by rw [hlo_];exact LW.out:hiW≤loG));have DX_G:=y0.mk ((by rw [hlo_];exact LX.out:hiX≤loG));replace OW:=y0.mk (OW.out.below hb);replace OX:=y0.mk (OX.out.below hb);replace LW:=y0.mk (Nat.le_trans LW.out hb.size);replace LX:=y0.mk (Nat.le_trans LX.out hb.size);replace HB:=y0.mk (y4 HB.out hb);(try clear hb);(try clear ho);(try clear hlo_);(try clear hhi_)))
 go_upto_region 10 with(first
  | (go_at_call 23;(with_reducible refine(laws_eqGraphS.calls k _ _ gs _ _ gs true _ OG.out.C OG.out.le OW.out.C OW.out.le F4.out).mono ?_);rintro e w6 ⟨rfl,hb⟩;replace OW:=y0.mk (OW.out.below hb);replace OX:=y0.mk (OX.out.below hb);replace OG:=y0.mk (OG.out.below hb);replace LW:=y0.mk (Nat.le_trans LW.out hb.size);replace LX:=y0.mk (Nat.le_trans LX.out hb.size);replace LG:=y0.mk (Nat.le_trans LG.out hb.size);replace HB:=y0.mk (y4 HB.out hb);(try clear hb)))
 go_upto_region 12 with(first
  | (go_at_call 21;(with_reducible refine(laws_toGraphS.calls k _ _ l0 xs _ (Kd.C_below Aa.out HB.out) Ab.out F1.out).mono ?_);rintro e w7 ⟨v_,rfl,ho,hb⟩;obtain⟨loZ,hiZ,hlo_,hhi_,hOZ_⟩:=QIv.OS.new ho;obtain⟨AZ,cZ,eA_⟩:=hOZ_.slice;subst eA_;have OZ:=y0.mk (hOZ_);have LZ:=y0.mk ((by rw [hhi_];exact Nat.le_refl _:hiZ≤_));have BZ:=y0.mk ((by rw [hlo_];exact HB.out.size:w.heap.size≤loZ));have DW_Z:=y0.mk ((by rw [hlo_];exact LW.out:hiW≤loZ));have DX_Z:=y0.mk ((by rw [hlo_];exact LX.out:hiX≤loZ));have DG_Z:=y0.mk ((by rw [hlo_];exact LG.out:hiG≤loZ));replace OW:=y0.mk (OW.out.below hb);replace OX:=y0.mk (OX.out.below hb);replace OG:=y0.mk (OG.out.below hb);replace LW:=y0.mk (Nat.le_trans LW.out hb.size);replace LX:=y0.mk (Nat.le_trans LX.out hb.size);replace LG:=y0.mk (Nat.le_trans LG.out hb.size);replace HB:=y0.mk (y4 HB.out hb);(try clear hb);(try clear ho);(try clear hlo_);(try clear hhi_))
  | (go_at_call 23;(with_reducible refine(laws_eqGraphS.calls k _ _ xs _ _ xs true _ OX.out.C OX.out.le OZ.out.C OZ.out.le F5.out).mono ?_);rintro e w8 ⟨rfl,hb⟩;replace OW:=y0.mk (OW.out.below hb);replace OX:=y0.mk (OX.out.below hb);replace OG:=y0.mk (OG.out.below hb);replace OZ:=y0.mk (OZ.out.below hb);replace LW:=y0.mk (Nat.le_trans LW.out hb.size);replace LX:=y0.mk (Nat.le_trans LX.out hb.size);replace LG:=y0.mk (Nat.le_trans LG.out hb.size);replace LZ:=y0.mk (Nat.le_trans LZ.out hb.size);replace HB:=y0.mk (y4 HB.out hb);(try clear hb)))
 clear OZ LZ
 go_upto_region 14 with(first
  | (go_at_call 24;(with_reducible refine(laws_markGraphS.calls k loX hiX _ _ xs 1 m1 xm w _ HB.out BX.out OX.out F6.out).mono ?_);rintro e w9 ⟨rfl,ho,hb,hk⟩;replace OW:=y0.mk (OW.out.ki hk (.inl DW_X.out));replace OG:=y0.mk (OG.out.ki hk (.inr DX_G.out));replace LW:=y0.mk (Nat.le_trans LW.out hk.1);replace LX:=y0.mk (Nat.le_trans LX.out hk.1);replace LG:=y0.mk (Nat.le_trans LG.out hk.1);replace HB:=y0.mk (hb);(try clear hb);(try clear ho);(try clear hk);clear OX LX))
 go_upto_region 16 with(first
  | (go_at_call 23;(with_reducible refine(laws_eqGraphS.calls k _ _ gs _ _ gs true _ OG.out.C OG.out.le OW.out.C OW.out.le F4.out).mono ?_);rintro e Ao ⟨rfl,hb⟩;replace OW:=y0.mk (OW.out.below hb);replace OG:=y0.mk (OG.out.below hb);replace LW:=y0.mk (Nat.le_trans LW.out hb.size);replace LG:=y0.mk (Nat.le_trans LG.out hb.size);replace HB:=y0.mk (y4 HB.out hb);(try clear hb)))
 go_upto_region 18 with(first
  | (go_at_call 24;(with_reducible refine(laws_markGraphS.calls k loG hiG _ _ gs 1 m3 gm w _ HB.out BG.out OG.out F8.out).mono ?_);rintro e Ap ⟨rfl,ho,hb,hk⟩;replace OW:=y0.mk (OW.out.ki hk (.inl DW_G.out));replace LW:=y0.mk (Nat.le_trans LW.out hk.1);replace LG:=y0.mk (Nat.le_trans LG.out hk.1);replace HB:=y0.mk (hb);replace OG:=y0.mk (ho);(try clear hb);(try clear ho);(try clear hk)))
 go_upto_region 24 with(first
  | (go_at_call 25;(with_reducible refine(HELD.out _ _ _ OG.out.C (by have h_:=QIv.OS.len OG.out;have:=HGL.out;omega)).mono ?_);rintro e Aq ⟨rfl,hb⟩;replace OW:=y0.mk (OW.out.below hb);replace OG:=y0.mk (OG.out.below hb);replace LW:=y0.mk (Nat.le_trans LW.out hb.size);replace LG:=y0.mk (Nat.le_trans LG.out hb.size);replace HB:=y0.mk (y4 HB.out hb);(try clear hb)))
 go_upto_region 25 with(first
  | (go_at_call 21;(with_reducible refine(laws_toGraphS.calls k _ _ l0 xs _ (Kd.C_below Aa.out HB.out) Ab.out F1.out).mono ?_);rintro e Ar ⟨v_,rfl,ho,hb⟩;obtain⟨loP,hiP,hlo_,hhi_,hOP_⟩:=QIv.OS.new ho;obtain⟨AP,cP,eA_⟩:=hOP_.slice;subst eA_;have OP:=y0.mk (hOP_);have LP:=y0.mk ((by rw [hhi_];exact Nat.le_refl _:hiP≤_));have BP:=y0.mk ((by rw [hlo_];exact HB.out.size:w.heap.size≤loP));have DW_P:=y0.mk ((by rw [hlo_];exact LW.out:hiW≤loP));have DG_P:=y0.mk ((by rw [hlo_];exact LG.out:hiG≤loP));replace OW:=y0.mk (OW.out.below hb);replace OG:=y0.mk (OG.out.below hb);replace LW:=y0.mk (Nat.le_trans LW.out hb.size);replace LG:=y0.mk (Nat.le_trans LG.out hb.size);replace HB:=y0.mk (y4 HB.out hb);(try clear hb);(try clear ho);(try clear hlo_);(try clear hhi_))
  | (go_at_call 22;(with_reducible refine(impl_Closed.call k _ _ xs gs gb _ OP.out.C OP.out.le F3.out).mono ?_);rintro e As ⟨v_,rfl,ho,hb⟩;obtain⟨loH,hiH,hlo_,hhi_,hOH_⟩:=QIv.OS.new ho;obtain⟨AH,cH,eA_⟩:=hOH_.slice;subst eA_;have OH:=y0.mk (hOH_);have LH:=y0.mk ((by rw [hhi_];exact Nat.le_refl _:hiH≤_));have BH:=y0.mk ((by rw [hlo_];exact HB.out.size:w.heap.size≤loH));have DW_H:=y0.mk ((by rw [hlo_];exact LW.out:hiW≤loH));have DG_H:=y0.mk ((by rw [hlo_];exact LG.out:hiG≤loH));have DP_H:=y0.mk ((by rw [hlo_];exact LP.out:hiP≤loH));replace OW:=y0.mk (OW.out.below hb);replace OG:=y0.mk (OG.out.below hb);replace OP:=y0.mk (OP.out.below hb);replace LW:=y0.mk (Nat.le_trans LW.out hb.size);replace LG:=y0.mk (Nat.le_trans LG.out hb.size);replace LP:=y0.mk (Nat.le_trans LP.out hb.size);replace HB:=y0.mk (y4 HB.out hb);(try clear hb);(try clear ho);(try clear hlo_);(try clear hhi_)))
 clear OP LP
 go_upto_region 27 with(first
  | (go_at_call 23;(with_reducible refine(laws_eqGraphS.calls k _ _ gs _ _ gs true _ OH.out.C OH.out.le OW.out.C OW.out.le F4.out).mono ?_);rintro e At ⟨rfl,hb⟩;replace OW:=y0.mk (OW.out.below hb);replace OG:=y0.mk (OG.out.below hb);replace OH:=y0.mk (OH.out.below hb);replace LW:=y0.mk (Nat.le_trans LW.out hb.size);replace LG:=y0.mk (Nat.le_trans LG.out hb.size);replace LH:=y0.mk (Nat.le_trans LH.out hb.size);replace HB:=y0.mk (y4 HB.out hb);(try clear hb)))
 go_wp2_with (first
  | (go_at_call 25;(with_reducible refine(HELD.out _ _ _ OG.out.C (by have h_:=QIv.OS.len OG.out;have:=HGL.out;omega)).mono ?_);rintro e Au ⟨rfl,hb⟩;replace OW:=y0.mk (OW.out.below hb);replace OG:=y0.mk (OG.out.below hb);replace OH:=y0.mk (OH.out.below hb);replace LW:=y0.mk (Nat.le_trans LW.out hb.size);replace LG:=y0.mk (Nat.le_trans LG.out hb.size);replace LH:=y0.mk (Nat.le_trans LH.out hb.size);replace HB:=y0.mk (y4 HB.out hb);(try clear hb)))
 go_ret
 exact⟨by first|rfl|(simp [errW_none,errW_some] <;> rfl),HB.out⟩
/-- THE ONE PURE STATEMENT of laws_FnExactClosed. -/
def laws_FnExactClosed.Pure:Prop:=∀(l0:List (S24)),(fun l=>l.length≤maxLen∧l.length * 40≤140737488351232∧∀ x∈l,okT24 x) l0→∃ k,laws_FnExactClosed.Run k l0
theorem laws_FnExactClosed.walk (P:laws_FnExactClosed.Pure) (l0:List (S24)) (A0:Option Addr) (c0:Nat) (w:World) (hr0:Kd.C k24 w A0 l0.length l0) (hc0:l0.length≤c0) (k0:(fun l=>l.length≤maxLen∧l.length * 40≤140737488351232∧∀ x∈l,okT24 x) l0) :
  Calls Try.prog 6 #[.slice A0 l0.length c0] w fun e w'=>e=.returned (.bool true)∧Below w.heap.size w w':=by
 obtain⟨k,h⟩:=P l0 k0
 refine(laws_FnExactClosed.calls k A0 c0 l0 w hr0 hc0 h).mono ?_
 rintro e w' ⟨rfl,hd⟩
 exact⟨rfl,hd⟩
end Go.Proofs.Ytcckpjflbfofjaa.Pd
