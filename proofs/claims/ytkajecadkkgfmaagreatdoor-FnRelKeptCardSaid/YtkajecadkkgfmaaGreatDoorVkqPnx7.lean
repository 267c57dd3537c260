-- Cut by prune.py, a program of this session, out of the texts of this claim: Lean checks it.
import Derived.Test.YtkajecadkkgfmaaGreatDoorVkqPnx0
section
namespace Go.Proofs.YtkajecadkkgfmaaGreatDoor.Pn
open Go.RowKit Go.Proofs.YtkajecadkkgfmaaGreatDoorW.PrintWords Go.Proofs.YtkajecadkkgfmaaGreatDoorW.PrintLast Go.Proofs.YtkajecadkkgfmaaGreatDoorW.PrintMore
attribute [local go_sem] max2_int min2_int max_two min_two max_three min_three max_four min_four   -- for this text's walks alone
set_option linter.unusedVariables false
set_option linter.unusedSimpArgs false
mutual
def spec_l01Cmp.l0:Nat→List ByteArray→List ByteArray→Int→Option (Int)
 | 0,_,_,_=>none
 | k + 1,x12,x14,x15=>if x15 < (x12.length:Int)then(if 0≤x15 then(if x15 < (x14.length:Int)then((spec_l01Cmp.f k (rdOf ByteArray.empty x12 x15) (rdOf ByteArray.empty x14 x15)).bind fun t230=>(if t230=0 then(spec_l01Cmp.l0 k x12 x14 (wrap64 (x15 + 1)))else(some t230)))else(none))else(none))else(some 0)
def spec_l01Cmp.f:Nat→ByteArray→ByteArray→Option (Int)
 | 0,_,_=>none
 | k + 1,a0,a1=>(z3_.f k a0).bind fun t209=>((z3_.f k a1).bind fun t210=>(if t209=t210 then(if t209=1 then((z9_.f k a0).bind fun bt212=>((z9_.f k a1).bind fun bt214=>((spec_l01Sign.f (wrap64 (bt212.1 - bt214.1))).bind fun t216=>(some t216))))else(if t209=2 then(if 1≤(wrap64 ((a0.size:Int) - 1))then(if(wrap64 ((a0.size:Int) - 1))≤(a0.size:Int)then(if 1≤(wrap64 ((a1.size:Int) - 1))then(if(wrap64 ((a1.size:Int) - 1))≤(a1.size:Int)then((spec_l01Texts.f (a0.extract 1 ((wrap64 ((a0.size:Int) - 1)):Int).toNat) (a1.extract 1 ((wrap64 ((a1.size:Int) - 1)):Int).toNat)).bind fun t217=>(some t217))else(none))else(none))else(none))else(none))else((spec_TermParts.f k a0).bind fun bt218=>((spec_TermParts.f k a1).bind fun bt222=>(if bt218.1.toList=bt222.1.toList then(if(bt218.2.length:Int)=(bt222.2.length:Int)then(spec_l01Cmp.l0 k bt218.2 bt222.2 0)else((spec_l01Sign.f (wrap64 ((bt218.2.length:Int) - (bt222.2.length:Int)))).bind fun t227=>(some t227)))else((spec_l01Texts.f bt218.1 bt222.1).bind fun t226=>(some t226)))))))else((spec_l01Sign.f (wrap64 (t209 - t210))).bind fun t211=>(some t211))))
end
def spec_l01Cmp.T10:Bool×List (List Nat×List Nat):=(true,[([],[]),([],[]),([1],[1]),([2],[2]),([0,3],[0,3]),([],[]),([],[]),([6],[6]),([7],[7]),([5,8],[5,8]),([4,9],[4,9]),([10,10,0,1,2,3,4,5,6,7,8,9,10],[10])])
def spec_l01Cmp.B10:List Nat:=[0,0,2,6,15,0,0,64,192,480,1023,2047]
theorem spec_l01Cmp.tab10:rtab .any (opsOf Tryz.f82 10)=spec_l01Cmp.T10:=by kernel_rfl
theorem spec_l01Cmp.bits10:waitsOk spec_l01Cmp.T10.2 spec_l01Cmp.B10=true:=by kernel_rfl
def spec_l01Cmp.T20:Bool×List (List Nat×List Nat):=(true,[([],[]),([],[]),([0,1],[0,1]),([2],[2]),([],[]),([],[]),([4,5],[4,5]),([6],[6]),([3,7],[3,7]),([8,8,0,1,2,3,4,5,6,7,8],[8])])
def spec_l01Cmp.B20:List Nat:=[0,0,3,7,0,0,48,112,255,511]
theorem spec_l01Cmp.tab20:rtab .any (opsOf Tryz.f82 20)=spec_l01Cmp.T20:=by kernel_rfl
theorem spec_l01Cmp.bits20:waitsOk spec_l01Cmp.T20.2 spec_l01Cmp.B20=true:=by kernel_rfl
set_option maxHeartbeats 8000000 in
set_option maxRecDepth 100000 in
theorem spec_l01Cmp.calls (k:Nat):∀(a0:ByteArray) (a1:ByteArray) (r:Int) (w:World) (h:spec_l01Cmp.f k a0 a1=some r),
  Calls Tryz.prog 82 #[.string a0,.string a1] w fun e w'=>e=.returned (.int .i64 r)∧Below w.heap.size w w':=by
 induction k using Nat.strongRecOn with
 | _ k ih =>
 intro a0 a1 r w h
 cases k with
 | zero=>exact absurd h (by simp [spec_l01Cmp.f])
 | succ k =>
 simp only [spec_l01Cmp.f]at h
 have HB:=y0.mk (Below.refl w.heap.size w)
 have H:((z3_.f k a0).bind fun Ac=>((z3_.f k a1).bind fun Ag=>(if Ac=Ag then(if Ac=1 then((z9_.f k a0).bind fun Bw=>((z9_.f k a1).bind fun Az=>((spec_l01Sign.f (wrap64 (Bw.1 - Az.1))).bind fun Au=>(some Au))))else(if Ac=2 then(if 1≤(wrap64 ((a0.size:Int) - 1))then(if(wrap64 ((a0.size:Int) - 1))≤(a0.size:Int)then(if 1≤(wrap64 ((a1.size:Int) - 1))then(if(wrap64 ((a1.size:Int) - 1))≤(a1.size:Int)then((spec_l01Texts.f (a0.extract 1 ((wrap64 ((a0.size:Int) - 1)):Int).toNat) (a1.extract 1 ((wrap64 ((a1.size:Int) - 1)):Int).toNat)).bind fun Bk=>(some Bk))else(none))else(none))else(none))else(none))else((spec_TermParts.f k a0).bind fun Am=>((spec_TermParts.f k a1).bind fun Ap=>(if Am.1.toList=Ap.1.toList then(if(Am.2.length:Int)=(Ap.2.length:Int)then(spec_l01Cmp.l0 k Am.2 Ap.2 0)else((spec_l01Sign.f (wrap64 ((Am.2.length:Int) - (Ap.2.length:Int)))).bind fun Bl=>(some Bl)))else((spec_l01Texts.f Am.1 Ap.1).bind fun Bm=>(some Bm)))))))else((spec_l01Sign.f (wrap64 (Ac - Ag))).bind fun Bn=>(some Bn)))))=some r:=h
 clear h
 obtain⟨Ac,A3,H⟩:=qB H
 obtain⟨Ag,A4,H⟩:=qB H
 by_cases c5:Ac=Ag
 ·rw [if_pos c5]at H
  have Bx:(Ac == Ag)=true:=beq_iff_eq.mpr c5
  have Bz:(Ac != Ag)=false:=bne_eq_false_iff_eq.mpr c5
  clear c5
  by_cases c6:Ac=1
  ·rw [if_pos c6]at H
   have Ca:(Ac == 1)=true:=beq_iff_eq.mpr c6
   have Cb:(Ac != 1)=false:=bne_eq_false_iff_eq.mpr c6
   clear c6
   obtain⟨⟨Ba,Co⟩,A7,H⟩:=qB H
   replace H:((z9_.f k a1).bind fun Az=>((spec_l01Sign.f (wrap64 (Ba - Az.1))).bind fun Au=>(some Au)))=some r:=H
   obtain⟨⟨Bc,Cp⟩,A8,H⟩:=qB H
   replace H:((spec_l01Sign.f (wrap64 (Ba - Bc))).bind fun Au=>(some Au))=some r:=H
   obtain⟨Au,A9,H⟩:=qB H
   obtain rfl:=Option.some.inj H
   go_enter Tryz.func82,Tryz.ntmps82
   go_wp2_with (first|((with_reducible refine y19 (f:=68) rfl ?_);refine y22 (some 18) rfl rfl Tryz.func68 (by kernel_rfl) rfl #[.string a0] rfl qy0 ?_;(with_reducible refine(z3_.calls k a0 Ac _ A3.out).mono ?_);rintro e Dz ⟨rfl,hb⟩;refine⟨_,rfl, ?_⟩;replace HB:=y0.mk (y8 qb hb);(try clear hb))|((with_reducible refine y19 (f:=68) rfl ?_);refine y22 (some 20) rfl rfl Tryz.func68 (by kernel_rfl) rfl #[.string a1] rfl qy0 ?_;(with_reducible refine(z3_.calls k a1 Ag _ A4.out).mono ?_);rintro e Ea ⟨rfl,hb⟩;refine⟨_,rfl, ?_⟩;replace HB:=y0.mk (y8 qb hb);(try clear hb))|((with_reducible refine y19 (f:=92) rfl ?_);refine y22 (some 33) rfl rfl Tryz.func92 (by kernel_rfl) rfl #[.string a0] rfl qy0 ?_;(with_reducible refine(z9_.calls k a0 Ba Co _ A7.out).mono ?_);rintro e Eb ⟨rfl,hb⟩;refine⟨_,rfl, ?_⟩;replace HB:=y0.mk (y8 qb hb);(try clear hb))|((with_reducible refine y19 (f:=92) rfl ?_);refine y22 (some 38) rfl rfl Tryz.func92 (by kernel_rfl) rfl #[.string a1] rfl qy0 ?_;(with_reducible refine(z9_.calls k a1 Bc Cp _ A8.out).mono ?_);rintro e Ec ⟨rfl,hb⟩;refine⟨_,rfl, ?_⟩;replace HB:=y0.mk (y8 qb hb);(try clear hb))|((with_reducible refine y19 (f:=83) rfl ?_);refine y22 (some 44) rfl rfl Tryz.func83 (by kernel_rfl) rfl #[.int .i64 (wrap64 (Ba - Bc))] rfl qy0 ?_;(with_reducible refine(spec_l01Sign.calls (wrap64 (Ba - Bc)) Au _ A9.out).mono ?_);rintro e w' ⟨rfl,⟨nd,rfl⟩⟩;refine⟨_,rfl, ?_⟩))
   go_ret
   exact⟨qf,qb⟩
  ·rw [if_neg c6]at H
   have Ca:(Ac == 1)=false:=beq_eq_false_iff_ne.mpr c6
   have Cb:(Ac != 1)=true:=bne_iff_ne.mpr c6
   by_cases Bo:Ac=2
   ·rw [if_pos Bo]at H
    have Bd:(Ac == 2)=true:=beq_iff_eq.mpr Bo
    have Be:(Ac != 2)=false:=bne_eq_false_iff_eq.mpr Bo
    clear Bo
    obtain⟨Cq,H⟩:=qo H
    have Dc:=eq_true Cq
    have Dd:=decide_eq_true Cq
    clear Cq
    obtain⟨Cr,H⟩:=qo H
    have De:=eq_true Cr
    have Df:=decide_eq_true Cr
    clear Cr
    obtain⟨Cs,H⟩:=qo H
    have Dg:=eq_true Cs
    have Dh:=decide_eq_true Cs
    clear Cs
    obtain⟨Ct,H⟩:=qo H
    have Di:=eq_true Ct
    have Dj:=decide_eq_true Ct
    clear Ct
    obtain⟨Bk,Dp,H⟩:=qB H
    obtain rfl:=Option.some.inj H
    go_enter Tryz.func82,Tryz.ntmps82
    try go_wp2_with (first|((with_reducible refine y19 (f:=68) rfl ?_);refine y22 (some 18) rfl rfl Tryz.func68 (by kernel_rfl) rfl #[.string a0] rfl qy0 ?_;(with_reducible refine(z3_.calls k a0 Ac _ A3.out).mono ?_);rintro e Ed ⟨rfl,hb⟩;refine⟨_,rfl, ?_⟩;replace HB:=y0.mk (y8 qb hb);(try clear hb))|((with_reducible refine y19 (f:=68) rfl ?_);refine y22 (some 20) rfl rfl Tryz.func68 (by kernel_rfl) rfl #[.string a1] rfl qy0 ?_;(with_reducible refine(z3_.calls k a1 Ag _ A4.out).mono ?_);rintro e Dq ⟨rfl,hb⟩;refine⟨_,rfl, ?_⟩;replace HB:=y0.mk (y8 qb hb);(try clear hb)))
    replace HB:=y0.mk (y5 HB.out)
    refine start_ (n:=12) (S:=fun w'=>True) (ds:=[]) (fl_ 12 0) (by kernel_rfl) rfl rfl trivial (fun hHeld=>?_);refine with_tabW spec_l01Cmp.tab10 spec_l01Cmp.bits10 (fun HT_ HW_=>?_)
    generalize Dq.drew=Ee at HB hHeld ⊢
    refine qp10 0 47 12 ?_
    refine qO 10 57 (fl_ 12 2047) (fun K hK=>?_)
    refine goes_ Tryz.func102 (by kernel_rfl) rfl #[.string (a0.extract 1 ((wrap64 ((a0.size:Int) - 1)):Int).toNat),.string (a1.extract 1 ((wrap64 ((a1.size:Int) - 1)):Int).toNat)] (by rfl) rfl rfl qy0 ?_
    with_reducible refine(spec_l01Texts.calls (a0.extract 1 ((wrap64 ((a0.size:Int) - 1)):Int).toNat) (a1.extract 1 ((wrap64 ((a1.size:Int) - 1)):Int).toNat) Bk _ Dp.out).mono ?_
    rintro e w' ⟨rfl,⟨nd,rfl⟩⟩
    refine⟨_,rfl, ?_⟩
    refine hK.out _ _ trivial (fun hHeld=>?_)
    clear hK K
    refine qx 57 ?_
    refine qp 11 4 (fl_ 12 4095) ?_
    refine done_ (done_of HT_.out (by kernel_rfl)) ?_
    try go_wp2
    go_ret
    exact⟨qf,qb⟩
   ·rw [if_neg Bo]at H
    have Bd:(Ac == 2)=false:=beq_eq_false_iff_ne.mpr Bo
    have Be:(Ac != 2)=true:=bne_iff_ne.mpr Bo
    obtain⟨⟨Aj,Ad⟩,Cu,H⟩:=qB H
    dsimp only at H
    obtain⟨⟨Ak,Ae⟩,Cv,H⟩:=qB H
    dsimp only at H
    by_cases Bp:Aj.toList=Ak.toList
    ·rw [if_pos Bp]at H
     have Bf:(Aj.toList == Ak.toList)=true:=beq_iff_eq.mpr Bp
     have Bg:(Aj.toList != Ak.toList)=false:=bne_eq_false_iff_eq.mpr Bp
     clear Bp
     by_cases Bb:(Ad.length:Int)=(Ae.length:Int)
     ·rw [if_pos Bb]at H
      have Bh:((Ad.length:Int) == (Ae.length:Int))=true:=beq_iff_eq.mpr Bb
      have Bi:((Ad.length:Int) != (Ae.length:Int))=false:=bne_eq_false_iff_eq.mpr Bb
      have Bj:(Ad.length == Ae.length)=true:=by first|simpa using Bb|(simp at Bb ⊢;omega)
      clear Bb
      have H':=y0.mk H
      clear H
      go_enter Tryz.func82,Tryz.ntmps82
      go_wp2_with (first|((with_reducible refine y19 (f:=68) rfl ?_);refine y22 (some 18) rfl rfl Tryz.func68 (by kernel_rfl) rfl #[.string a0] rfl qy0 ?_;(with_reducible refine(z3_.calls k a0 Ac _ A3.out).mono ?_);rintro e Ef ⟨rfl,hb⟩;refine⟨_,rfl, ?_⟩;replace HB:=y0.mk (y8 qb hb);(try clear hb))|((with_reducible refine y19 (f:=68) rfl ?_);refine y22 (some 20) rfl rfl Tryz.func68 (by kernel_rfl) rfl #[.string a1] rfl qy0 ?_;(with_reducible refine(z3_.calls k a1 Ag _ A4.out).mono ?_);rintro e Eg ⟨rfl,hb⟩;refine⟨_,rfl, ?_⟩;replace HB:=y0.mk (y8 qb hb);(try clear hb))|((with_reducible refine y19 (f:=103) rfl ?_);refine y22 (some 60) rfl rfl Tryz.func103 (by kernel_rfl) rfl #[.string a0] rfl qy0 ?_;(with_reducible refine(spec_TermParts.calls k a0 Aj Ad _ Cu.out).mono ?_);rintro e Eh ⟨Cc,rfl,Al,hb⟩;refine⟨_,rfl, ?_⟩;have Af:=y0.mk (Kd.R_lower Al (y7 qb));replace HB:=y0.mk (y8 qb hb);(try clear hb);(try clear Al))|((with_reducible refine y19 (f:=103) rfl ?_);refine y22 (some 65) rfl rfl Tryz.func103 (by kernel_rfl) rfl #[.string a1] rfl qy0 ?_;(with_reducible refine(spec_TermParts.calls k a1 Ak Ae _ Cv.out).mono ?_);rintro e Ei ⟨Cd,rfl,Al,hb⟩;refine⟨_,rfl, ?_⟩;have Aq:=y0.mk (Kd.R_lower (Kd.R_new' Al (Kd.R_lt (qR Af.out))) (y7 qb));replace Af:=y0.mk (Kd.R_elder' (qR Af.out) (Kd.R_base Al) hb);replace HB:=y0.mk (y8 qb hb);(try clear hb);(try clear Al);obtain⟨Ce,Cf,Cw⟩:=Kd.R_slice Af.out;subst Cw;obtain⟨Cg,Ch,Cx⟩:=Kd.R_slice Aq.out;subst Cx))
      go_loopg [15] k (fun kq Dr w'=>∃(Aa:Int),Dr=.int .i64 Aa∧y0 (spec_l01Cmp.l0 kq Ad Ae Aa=some r)∧y0 (kq≤k)∧y0 (Kd.R Kd.string 9 w' w.heap.size (fun k_=>some k_≠((.slice Cg Ae.length Ch):Value).ownBlock) (.slice Ce Ad.length Cf) Ad)∧y0 (Kd.R Kd.string 9 w' w.heap.size (fun k_=>some k_≠((.slice Ce Ad.length Cf):Value).ownBlock) (.slice Cg Ae.length Ch) Ae)∧y0 (Below w.heap.size w w'))
      case atStart=>exact⟨(0),qy2,H',⟨Nat.le_refl _⟩,⟨qR (Kd.R_mono Af.out (fun _ hk=>hk.2))⟩,⟨qR (Kd.R_mono Aq.out (fun _ hk=>hk.2))⟩,⟨qb⟩⟩
      case round =>
       clear H'
       (try clear Bx Bz Ca Cb Bd Be Bf Bg Bh Bi Bj)
       obtain⟨Aa,rfl,HA,Cn,Ah,Ai,HB⟩:=hrel
       cases gk with
       | zero=>exact absurd HA.out (by simp [spec_l01Cmp.l0])
       | succ k1 =>
        have H:=HA.out
        clear HA
        simp only [spec_l01Cmp.l0]at H
        by_cases Bv:Aa < (Ad.length:Int)
        ·rw [if_pos Bv]at H
         have Ci:=decide_eq_true Bv
         clear Bv
         obtain⟨Dk,H⟩:=qo H
         have Dl:decide (0≤Aa)=true:=decide_eq_true Dk
         clear Dk
         obtain⟨Dm,H⟩:=qo H
         have Dn:decide (Aa < (Ae.length:Int))=true:=decide_eq_true Dm
         clear Dm
         obtain⟨Av,Do,H⟩:=qB H
         try go_wp2
         replace Ah:=y0.mk (Kd.R_drew Ah.out)
         replace Ai:=y0.mk (Kd.R_drew Ai.out)
         replace HB:=y0.mk (y5 HB.out)
         have Bq:0≤(Aa:Int):=of_decide_eq_true qy1
         have Br:Aa < (Ad.length:Int):=of_decide_eq_true qy1
         obtain⟨Cj,Cy,Aw⟩:=Kd.at_string (Kd.R_reads' Ah.out).2.2 Aa Bq Br
         cases Cy
         replace Bq:=eq_true Bq
         replace Br:=eq_true Br
         have Bs:0≤(Aa:Int):=of_decide_eq_true qy1
         have Bt:Aa < (Ae.length:Int):=of_decide_eq_true qy1
         obtain⟨Ck,Cz,Ay⟩:=Kd.at_string (Kd.R_reads' Ai.out).2.2 Aa Bs Bt
         cases Cz
         replace Bs:=eq_true Bs
         replace Bt:=eq_true Bt
         refine start_ (n:=10) (S:=fun w'=>w'.cell? (Cj.add (Aa).toNat)=some (.string (rdOf ByteArray.empty Ad Aa))∧w'.cell? (Ck.add (Aa).toNat)=some (.string (rdOf ByteArray.empty Ae Aa))) (ds:=[]) (fl_ 10 0) (by kernel_rfl) rfl rfl ⟨Aw,Ay⟩ (fun hHeld=>?_);refine with_tabW spec_l01Cmp.tab20 spec_l01Cmp.bits20 (fun HT_ HW_=>?_)
         generalize wr.drew=Ej at Ah Ai HB Aw Ay hHeld ⊢
         refine qp3 0 91 10 ?_
         by_cases Bu:Av=0
         ·rw [if_pos Bu]at H
          have Cl:(Av == 0)=true:=beq_iff_eq.mpr Bu
          have Cm:(Av != 0)=false:=bne_eq_false_iff_eq.mpr Bu
          clear Bu
          have H':=y0.mk H
          clear H
          refine qp 4 95 (fl_ 10 23) ?_
          refine qp 5 96 (fl_ 10 55) ?_
          refine qp 6 97 (fl_ 10 119) ?_
          refine qt 3 94 (fl_ 10 127) hHeld ?_
          refine qt 7 98 (fl_ 10 255) hHeld ?_
          refine qO 8 99 (fl_ 10 511) (fun K hK=>?_)
          refine goes_ Tryz.func82 (by kernel_rfl) rfl #[.string (rdOf ByteArray.empty Ad Aa),.string (rdOf ByteArray.empty Ae Aa)] (by rfl) rfl rfl qy0 ?_
          with_reducible refine(ih k1 (by have:=Cn.out;omega) (rdOf ByteArray.empty Ad Aa) (rdOf ByteArray.empty Ae Aa) Av _ Do.out).mono ?_
          rintro e Ek ⟨rfl,hb⟩
          have HS0_:=(hb.cell (World.block_lt_of_cell? _ _ (hHeld.1))).trans (hHeld.1)
          have HS1_:=(hb.cell (World.block_lt_of_cell? _ _ (hHeld.2))).trans (hHeld.2)
          refine⟨_,rfl, ?_⟩
          replace Ah:=y0.mk (Kd.R_below (qR Ah.out) hb)
          replace Ai:=y0.mk (Kd.R_below (qR Ai.out) hb)
          replace HB:=y0.mk (y8 qb hb)
          (try clear hb)
          refine hK.out _ _ ⟨HS0_,HS1_⟩ (fun hHeld=>?_)
          clear hK K
          refine qx 99 ?_
          refine qp 9 16 (fl_ 10 1023) ?_
          refine done_ (done_of HT_.out (by kernel_rfl)) ?_
          try go_wp2
          go_roundg k1
          case measure=>have:=Cn.out;omega
          exact⟨(wrap64 (Aa + 1)),qy2,H',⟨by have:=Cn.out;omega⟩,⟨qR Ah.out⟩,⟨qR Ai.out⟩,⟨qb⟩⟩
         ·rw [if_neg Bu]at H
          have Cl:(Av == 0)=false:=beq_eq_false_iff_ne.mpr Bu
          have Cm:(Av != 0)=true:=bne_iff_ne.mpr Bu
          obtain rfl:=Option.some.inj H
          refine qp 4 95 (fl_ 10 23) ?_
          refine qp 5 96 (fl_ 10 55) ?_
          refine qp 6 97 (fl_ 10 119) ?_
          refine qt 3 94 (fl_ 10 127) hHeld ?_
          refine qt 7 98 (fl_ 10 255) hHeld ?_
          refine qO 8 99 (fl_ 10 511) (fun K hK=>?_)
          refine goes_ Tryz.func82 (by kernel_rfl) rfl #[.string (rdOf ByteArray.empty Ad Aa),.string (rdOf ByteArray.empty Ae Aa)] (by rfl) rfl rfl qy0 ?_
          with_reducible refine(ih k1 (by have:=Cn.out;omega) (rdOf ByteArray.empty Ad Aa) (rdOf ByteArray.empty Ae Aa) Av _ Do.out).mono ?_
          rintro e El ⟨rfl,hb⟩
          have HS0_:=(hb.cell (World.block_lt_of_cell? _ _ (hHeld.1))).trans (hHeld.1)
          have HS1_:=(hb.cell (World.block_lt_of_cell? _ _ (hHeld.2))).trans (hHeld.2)
          refine⟨_,rfl, ?_⟩
          replace Ah:=y0.mk (Kd.R_below (qR Ah.out) hb)
          replace Ai:=y0.mk (Kd.R_below (qR Ai.out) hb)
          replace HB:=y0.mk (y8 qb hb)
          (try clear hb)
          refine hK.out _ _ ⟨HS0_,HS1_⟩ (fun hHeld=>?_)
          clear hK K
          refine qx 99 ?_
          refine qp 9 16 (fl_ 10 1023) ?_
          refine done_ (done_of HT_.out (by kernel_rfl)) ?_
          try go_wp2
          go_ret
          exact⟨qf,qb⟩
        ·rw [if_neg Bv]at H
         have Ci:=decide_eq_false Bv
         clear Bv
         obtain rfl:=Option.some.inj H
         go_wp2
         go_ret
         exact⟨qf,qb⟩
     ·rw [if_neg Bb]at H
      have Bh:((Ad.length:Int) == (Ae.length:Int))=false:=beq_eq_false_iff_ne.mpr Bb
      have Bi:((Ad.length:Int) != (Ae.length:Int))=true:=bne_iff_ne.mpr Bb
      have Bj:(Ad.length == Ae.length)=false:=by first|simpa using Bb|(simp at Bb ⊢;omega)
      obtain⟨Bl,Ds,H⟩:=qB H
      obtain rfl:=Option.some.inj H
      go_enter Tryz.func82,Tryz.ntmps82
      go_wp2_with (first|((with_reducible refine y19 (f:=68) rfl ?_);refine y22 (some 18) rfl rfl Tryz.func68 (by kernel_rfl) rfl #[.string a0] rfl qy0 ?_;(with_reducible refine(z3_.calls k a0 Ac _ A3.out).mono ?_);rintro e Em ⟨rfl,hb⟩;refine⟨_,rfl, ?_⟩;replace HB:=y0.mk (y8 qb hb);(try clear hb))|((with_reducible refine y19 (f:=68) rfl ?_);refine y22 (some 20) rfl rfl Tryz.func68 (by kernel_rfl) rfl #[.string a1] rfl qy0 ?_;(with_reducible refine(z3_.calls k a1 Ag _ A4.out).mono ?_);rintro e En ⟨rfl,hb⟩;refine⟨_,rfl, ?_⟩;replace HB:=y0.mk (y8 qb hb);(try clear hb))|((with_reducible refine y19 (f:=103) rfl ?_);refine y22 (some 60) rfl rfl Tryz.func103 (by kernel_rfl) rfl #[.string a0] rfl qy0 ?_;(with_reducible refine(spec_TermParts.calls k a0 Aj Ad _ Cu.out).mono ?_);rintro e Eo ⟨Cc,rfl,Al,hb⟩;refine⟨_,rfl, ?_⟩;have Af:=y0.mk (Kd.R_lower Al (y7 qb));replace HB:=y0.mk (y8 qb hb);(try clear hb);(try clear Al))|((with_reducible refine y19 (f:=103) rfl ?_);refine y22 (some 65) rfl rfl Tryz.func103 (by kernel_rfl) rfl #[.string a1] rfl qy0 ?_;(with_reducible refine(spec_TermParts.calls k a1 Ak Ae _ Cv.out).mono ?_);rintro e Ep ⟨Cd,rfl,Al,hb⟩;refine⟨_,rfl, ?_⟩;have Aq:=y0.mk (Kd.R_lower (Kd.R_new' Al (Kd.R_lt (qR Af.out))) (y7 qb));replace Af:=y0.mk (Kd.R_elder' (qR Af.out) (Kd.R_base Al) hb);replace HB:=y0.mk (y8 qb hb);(try clear hb);(try clear Al);obtain⟨Dt,Du,Da⟩:=Kd.R_slice Af.out;subst Da;obtain⟨Dv,Dw,Db⟩:=Kd.R_slice Aq.out;subst Db)|((with_reducible refine y19 (f:=83) rfl ?_);refine y22 (some 84) rfl rfl Tryz.func83 (by kernel_rfl) rfl #[.int .i64 (wrap64 ((Ad.length:Int) - (Ae.length:Int)))] rfl qy0 ?_;(with_reducible refine(spec_l01Sign.calls (wrap64 ((Ad.length:Int) - (Ae.length:Int))) Bl _ Ds.out).mono ?_);rintro e w' ⟨rfl,⟨nd,rfl⟩⟩;refine⟨_,rfl, ?_⟩))
      go_ret
      exact⟨qf,qb⟩
    ·rw [if_neg Bp]at H
     have Bf:(Aj.toList == Ak.toList)=false:=beq_eq_false_iff_ne.mpr Bp
     have Bg:(Aj.toList != Ak.toList)=true:=bne_iff_ne.mpr Bp
     obtain⟨Bm,Dx,H⟩:=qB H
     obtain rfl:=Option.some.inj H
     go_enter Tryz.func82,Tryz.ntmps82
     go_wp2_with (first|((with_reducible refine y19 (f:=68) rfl ?_);refine y22 (some 18) rfl rfl Tryz.func68 (by kernel_rfl) rfl #[.string a0] rfl qy0 ?_;(with_reducible refine(z3_.calls k a0 Ac _ A3.out).mono ?_);rintro e Er ⟨rfl,hb⟩;refine⟨_,rfl, ?_⟩;replace HB:=y0.mk (y8 qb hb);(try clear hb))|((with_reducible refine y19 (f:=68) rfl ?_);refine y22 (some 20) rfl rfl Tryz.func68 (by kernel_rfl) rfl #[.string a1] rfl qy0 ?_;(with_reducible refine(z3_.calls k a1 Ag _ A4.out).mono ?_);rintro e Es ⟨rfl,hb⟩;refine⟨_,rfl, ?_⟩;replace HB:=y0.mk (y8 qb hb);(try clear hb))|((with_reducible refine y19 (f:=103) rfl ?_);refine y22 (some 60) rfl rfl Tryz.func103 (by kernel_rfl) rfl #[.string a0] rfl qy0 ?_;(with_reducible refine(spec_TermParts.calls k a0 Aj Ad _ Cu.out).mono ?_);rintro e Et ⟨Cc,rfl,Al,hb⟩;refine⟨_,rfl, ?_⟩;have Af:=y0.mk (Kd.R_lower Al (y7 qb));replace HB:=y0.mk (y8 qb hb);(try clear hb);(try clear Al))|((with_reducible refine y19 (f:=103) rfl ?_);refine y22 (some 65) rfl rfl Tryz.func103 (by kernel_rfl) rfl #[.string a1] rfl qy0 ?_;(with_reducible refine(spec_TermParts.calls k a1 Ak Ae _ Cv.out).mono ?_);rintro e Eu ⟨Cd,rfl,Al,hb⟩;refine⟨_,rfl, ?_⟩;have Aq:=y0.mk (Kd.R_lower (Kd.R_new' Al (Kd.R_lt (qR Af.out))) (y7 qb));replace Af:=y0.mk (Kd.R_elder' (qR Af.out) (Kd.R_base Al) hb);replace HB:=y0.mk (y8 qb hb);(try clear hb);(try clear Al))|((with_reducible refine y19 (f:=102) rfl ?_);refine y22 (some 73) rfl rfl Tryz.func102 (by kernel_rfl) rfl #[.string Aj,.string Ak] rfl qy0 ?_;(with_reducible refine(spec_l01Texts.calls Aj Ak Bm _ Dx.out).mono ?_);rintro e w' ⟨rfl,⟨nd,rfl⟩⟩;refine⟨_,rfl, ?_⟩))
     go_ret
     exact⟨qf,qb⟩
 ·rw [if_neg c5]at H
  have Bx:(Ac == Ag)=false:=beq_eq_false_iff_ne.mpr c5
  have Bz:(Ac != Ag)=true:=bne_iff_ne.mpr c5
  obtain⟨Bn,Dy,H⟩:=qB H
  obtain rfl:=Option.some.inj H
  go_enter Tryz.func82,Tryz.ntmps82
  go_wp2_with (first|((with_reducible refine y19 (f:=68) rfl ?_);refine y22 (some 18) rfl rfl Tryz.func68 (by kernel_rfl) rfl #[.string a0] rfl qy0 ?_;(with_reducible refine(z3_.calls k a0 Ac _ A3.out).mono ?_);rintro e Ew ⟨rfl,hb⟩;refine⟨_,rfl, ?_⟩;replace HB:=y0.mk (y8 qb hb);(try clear hb))|((with_reducible refine y19 (f:=68) rfl ?_);refine y22 (some 20) rfl rfl Tryz.func68 (by kernel_rfl) rfl #[.string a1] rfl qy0 ?_;(with_reducible refine(z3_.calls k a1 Ag _ A4.out).mono ?_);rintro e Ex ⟨rfl,hb⟩;refine⟨_,rfl, ?_⟩;replace HB:=y0.mk (y8 qb hb);(try clear hb))|((with_reducible refine y19 (f:=83) rfl ?_);refine y22 (some 27) rfl rfl Tryz.func83 (by kernel_rfl) rfl #[.int .i64 (wrap64 (Ac - Ag))] rfl qy0 ?_;(with_reducible refine(spec_l01Sign.calls (wrap64 (Ac - Ag)) Bn _ Dy.out).mono ?_);rintro e w' ⟨rfl,⟨nd,rfl⟩⟩;refine⟨_,rfl, ?_⟩))
  go_ret
  exact⟨qf,qb⟩
end Go.Proofs.YtkajecadkkgfmaaGreatDoor.Pn
end
section
namespace Go.Proofs.YtkajecadkkgfmaaGreatDoor.Pn
open Go.RowKit Go.Proofs.YtkajecadkkgfmaaGreatDoorW.PrintWords Go.Proofs.YtkajecadkkgfmaaGreatDoorW.PrintLast Go.Proofs.YtkajecadkkgfmaaGreatDoorW.PrintMore
attribute [local go_sem] max2_int min2_int max_two min_two max_three min_three max_four min_four   -- for this text's walks alone
set_option linter.unusedVariables false
set_option linter.unusedSimpArgs false
mutual
def spec_l02Cmp.l0:Nat→Int→List ByteArray→List ByteArray→Option (Int)
 | 0,_,_,_=>none
 | k + 1,x5,x232000,x233000=>if x5 < (x232000.length:Int)then(spec_l02Cmp.j1 k x5 (decide (x5 < (x233000.length:Int))) x232000 x233000)else(spec_l02Cmp.j1 k x5 false x232000 x233000)
def spec_l02Cmp.j1:Nat→Int→Bool→List ByteArray→List ByteArray→Option (Int)
 | 0,_,_,_,_=>none
 | k + 1,x5,x18,x232000,x233000=>if x18=true then(if 0≤x5 then(if x5 < (x232000.length:Int)then(if x5 < (x233000.length:Int)then((spec_l01Cmp.f k (rdOf ByteArray.empty x232000 x5) (rdOf ByteArray.empty x233000 x5)).bind fun t235=>(if t235=0 then(spec_l02Cmp.l0 k (wrap64 (x5 + 1)) x232000 x233000)else(some t235)))else(none))else(none))else(none))else((spec_l01Sign.f (wrap64 ((x232000.length:Int) - (x233000.length:Int)))).bind fun t236=>(some t236))
end
def spec_l02Cmp.f (k:Nat) (l0_0:List ByteArray) (l1_0:List ByteArray):Option (Int):=spec_l02Cmp.l0 k 0 l0_0 l1_0
def spec_l02Cmp.T4:Bool×List (List Nat×List Nat):=(true,[([],[]),([0],[0]),([],[]),([1,2],[1,2]),([3],[3]),([],[]),([5],[5]),([],[]),([6,7],[6,7]),([8],[8]),([4,9],[4,9]),([10,10,0,1,2,3,4,5,6,7,8,9,10],[10])])
def spec_l02Cmp.B4:List Nat:=[0,1,0,7,15,0,32,0,224,480,1023,2047]
theorem spec_l02Cmp.tab4:rtab .any (opsOf Tryz.f57 4)=spec_l02Cmp.T4:=by kernel_rfl
theorem spec_l02Cmp.bits4:waitsOk spec_l02Cmp.T4.2 spec_l02Cmp.B4=true:=by kernel_rfl
set_option maxHeartbeats 8000000 in
set_option maxRecDepth 100000 in
theorem spec_l02Cmp.calls (k:Nat) (Av:Option Addr) (Aq:Nat) (Ae:List ByteArray) (Aw:Option Addr) (Au:Nat) (Af:List ByteArray) (r:Int) (w:World) (Bb:Kd.C Kd.string w Av Ae.length Ae) (Bc:Ae.length≤Aq) (Bd:Kd.C Kd.string w Aw Af.length Af) (Be:Af.length≤Au) (h:spec_l02Cmp.f k Ae Af=some r) :
  Calls Tryz.prog 57 #[.agg #[.slice Av Ae.length Aq],.agg #[.slice Aw Af.length Au]] w fun e w'=>e=.returned (.int .i64 r)∧Below w.heap.size w w':=by
 have Da:=Tryz.underlying36
 have Bm:=y0.mk Bb
 have Ci:=y0.mk Bc
 clear Bb Bc
 have Bn:=y0.mk Bd
 have Cj:=y0.mk Be
 clear Bd Be
 have HB:=y0.mk (Below.refl w.heap.size w)
 have H:(spec_l02Cmp.l0 k 0 Ae Af)=some r:=h
 clear h
 have H':=y0.mk H
 clear H
 go_enter Tryz.func57,Tryz.ntmps57
 go_wp2_with (first|((with_reducible refine y20 (N:=2) rfl ?_);(try(refine y21 (by rfl) ?_;dsimp only));refine qe 2 #[.slice Av Ae.length Aq] 36 ?_;intro Ay hg w3 hbox hb;have Aa:=y0.mk (hbox);have Ck:=y0.mk (qg (w:=w) hg);have Cl:=y0.mk (qg (w:=w) hg);replace HB:=y0.mk (y8 qb hb);clear hb hbox hg)|((with_reducible refine y20 (N:=3) rfl ?_);(try(refine y21 (by rfl) ?_;dsimp only));refine qe 3 #[.slice Aw Af.length Au] 36 ?_;intro Az hg w4 hbox hb;have Ac:=y0.mk (hbox);have Cm:=y0.mk (qg (w:=w) hg);have Cn:=y0.mk (qg (w:=w) hg);replace HB:=y0.mk (y8 qb hb);have Ak:=y0.mk (qn Aa.out hg);have Al:=y0.mk (qm Aa.out hg);replace Aa:=y0.mk (qK Aa.out hb);clear hb hbox hg))
 go_loopg [5] k (fun kq v5 w'=>∃(Ad:Int),v5=.int .i64 Ad∧y0 (spec_l02Cmp.l0 kq Ad Ae Af=some r)∧y0 (kq≤k)∧y0 (w'.heap[Ay]?=some (.cells #[(.slice Av Ae.length Aq)] 36 (0,0)))∧y0 (w'.heap[Az]?=some (.cells #[(.slice Aw Af.length Au)] 36 (0,0)))∧y0 (Below w.heap.size w w'))
 case atStart=>exact⟨(0),qy2,H',⟨Nat.le_refl _⟩,⟨qk Aa.out⟩,⟨qk Ac.out⟩,⟨qb⟩⟩
 case round =>
  clear H'
  obtain⟨Ad,rfl,HA,Bq,Aa,Ac,HB⟩:=hrel
  cases gk with
  | zero=>exact absurd HA.out (by simp [spec_l02Cmp.l0])
  | succ k1 =>
   have H:=HA.out
   clear HA
   simp only [spec_l02Cmp.l0]at H
   have Bz:=y0.mk H
   clear H
   go_upto_region 2 with(fail)
   go_cut [18] (fun Db wc=>∃(kq:Nat) (Ap:Bool),Db=.bool Ap∧y0 (spec_l02Cmp.j1 kq Ad Ap Ae Af=some r)∧y0 (kq≤k1)∧y0 (wc.heap[Ay]?=some (.cells #[(.slice Av Ae.length Aq)] 36 (0,0)))∧y0 (wc.heap[Az]?=some (.cells #[(.slice Aw Af.length Au)] 36 (0,0)))∧y0 (Below w.heap.size w wc))
   case first =>
    have H:=Bz.out
    clear Bz
    by_cases c6:Ad < (Ae.length:Int)
    ·rw [if_pos c6]at H
     have Ba:=decide_eq_true c6
     clear c6
     (first|rw [Ba]|(simp only [i64_w,i32_w];rw [Ba])|skip)
     have H':=y0.mk H
     clear H
     have Dc:=Ak.out
     have Dd:=Al.out
     obtain⟨Ca,Cb⟩:=qz1 Aa.out
     obtain⟨Cc,Cd⟩:=qz1 Ac.out
     go_wp2
     go_meet
     exact⟨_,(decide (Ad < (Af.length:Int))),qy2,H',⟨by have:=Bq.out;first|omega|exact Nat.le_refl _⟩,⟨qk Aa.out⟩,⟨qk Ac.out⟩,⟨qb⟩⟩
    ·rw [if_neg c6]at H
     have Ba:=decide_eq_false c6
     clear c6
     (first|rw [Ba]|(simp only [i64_w,i32_w];rw [Ba])|skip)
     have H':=y0.mk H
     clear H
     have Co:=Ak.out
     have Cp:=Al.out
     obtain⟨Br,Bs⟩:=qz1 Aa.out
     go_wp2
     go_meet
     exact⟨_,(false),qy2,H',⟨by have:=Bq.out;first|omega|exact Nat.le_refl _⟩,⟨qk Aa.out⟩,⟨qk Ac.out⟩,⟨qb⟩⟩
   case rest =>
    clear Bz
    obtain⟨kq,Ap,rfl,HA,Cq,Aa,Ac,HB⟩:=hcut
    cases kq with
    | zero=>exact absurd HA.out (by simp [spec_l02Cmp.j1])
    | succ Ce =>
     have H:=HA.out
     clear HA
     simp only [spec_l02Cmp.j1]at H
     by_cases Bt:Ap=true
     ·subst Bt
      replace H:=qT H
      obtain⟨Cr,H⟩:=qo H
      have Cs:decide (0≤Ad)=true:=decide_eq_true Cr
      clear Cr
      obtain⟨Ct,H⟩:=qo H
      have Cu:decide (Ad < (Ae.length:Int))=true:=decide_eq_true Ct
      clear Ct
      obtain⟨Cv,H⟩:=qo H
      have Cw:=decide_eq_true Cv
      clear Cv
      obtain⟨Am,Cx,H⟩:=qB H
      try go_wp2
      replace Aa:=y0.mk (y12 Aa.out)
      replace Ac:=y0.mk (y12 Ac.out)
      replace HB:=y0.mk (y5 HB.out)
      have Bh:0≤(Ad:Int):=of_decide_eq_true qy1
      have Bi:Ad < (Ae.length:Int):=of_decide_eq_true qy1
      obtain⟨Bf,Cf,Ai⟩:=Kd.at_string Bm.out Ad Bh Bi
      have Ag:=Ai
      cases Cf
      replace Ai:=(HB.out.cell (World.block_lt_of_cell? w _ Ai)).trans Ai
      replace Bh:=eq_true Bh
      replace Bi:=eq_true Bi
      have Bj:0≤(Ad:Int):=of_decide_eq_true qy1
      have Bk:Ad < (Af.length:Int):=of_decide_eq_true qy1
      obtain⟨Bg,Cg,Aj⟩:=Kd.at_string Bn.out Ad Bj Bk
      have Ah:=Aj
      cases Cg
      replace Aj:=(HB.out.cell (World.block_lt_of_cell? w _ Aj)).trans Aj
      replace Bj:=eq_true Bj
      replace Bk:=eq_true Bk
      refine start_ (n:=12) (S:=fun w'=>w'.cell? ⟨Ay,0,none⟩=some (.slice (some Bf) Ae.length Aq)∧w'.cell? ⟨Az,0,none⟩=some (.slice (some Bg) Af.length Au)∧w'.cell? (Bf.add (Ad).toNat)=some (.string (rdOf ByteArray.empty Ae Ad))∧w'.cell? (Bg.add (Ad).toNat)=some (.string (rdOf ByteArray.empty Af Ad))) (ds:=[]) (fl_ 12 0) (by kernel_rfl) rfl rfl ⟨(y11 Aa.out 0).trans rfl,(y11 Ac.out 0).trans rfl,((HB.out.cell (World.block_lt_of_cell? w _ Ag)).trans Ag),((HB.out.cell (World.block_lt_of_cell? w _ Ah)).trans Ah)⟩ (fun hHeld=>?_);refine with_tabW spec_l02Cmp.tab4 spec_l02Cmp.bits4 (fun HT_ HW_=>?_)
      generalize wc.drew=Df at Aa Ac HB Ai Aj hHeld ⊢
      by_cases Bl:Am=0
      ·rw [if_pos Bl]at H
       have Bo:(Am == 0)=true:=beq_iff_eq.mpr Bl
       have Bp:(Am != 0)=false:=bne_eq_false_iff_eq.mpr Bl
       clear Bl
       have H':=y0.mk H
       clear H
       refine qp 0 21 (fl_ 12 1) ?_
       refine qp 2 23 (fl_ 12 5) ?_
       refine qp 5 26 (fl_ 12 37) ?_
       refine qp 7 28 (fl_ 12 165) ?_
       refine qt 1 22 (fl_ 12 167) hHeld ?_
       refine qp 3 24 (fl_ 12 175) ?_
       refine qt 4 25 (fl_ 12 191) hHeld ?_
       refine qt 6 27 (fl_ 12 255) hHeld ?_
       refine qp 8 29 (fl_ 12 511) ?_
       refine qt 9 30 (fl_ 12 1023) hHeld ?_
       refine qO 10 31 (fl_ 12 2047) (fun K hK=>?_)
       refine goes_ Tryz.func82 (by kernel_rfl) rfl #[.string (rdOf ByteArray.empty Ae Ad),.string (rdOf ByteArray.empty Af Ad)] (by rfl) rfl rfl qy0 ?_
       with_reducible refine(spec_l01Cmp.calls Ce (rdOf ByteArray.empty Ae Ad) (rdOf ByteArray.empty Af Ad) Am _ Cx.out).mono ?_
       rintro e Dg ⟨rfl,hb⟩
       refine⟨_,rfl, ?_⟩
       replace Aa:=y0.mk (qK Aa.out hb)
       replace Ac:=y0.mk (qK Ac.out hb)
       replace HB:=y0.mk (y8 qb hb)
       (try clear hb)
       refine hK.out _ _ ⟨(y11 Aa.out 0).trans rfl,(y11 Ac.out 0).trans rfl,((HB.out.cell (World.block_lt_of_cell? w _ Ag)).trans Ag),((HB.out.cell (World.block_lt_of_cell? w _ Ah)).trans Ah)⟩ (fun hHeld=>?_)
       clear hK K
       refine qx 31 ?_
       refine qp 11 6 (fl_ 12 4095) ?_
       refine done_ (done_of HT_.out (by kernel_rfl)) ?_
       try go_wp2
       go_roundg Ce
       case measure=>have:=Bq.out;have:=Cq.out;omega
       exact⟨(wrap64 (Ad + 1)),qy2,H',⟨by have:=Bq.out;have:=Cq.out;omega⟩,⟨qk Aa.out⟩,⟨qk Ac.out⟩,⟨qb⟩⟩
      ·rw [if_neg Bl]at H
       have Bo:(Am == 0)=false:=beq_eq_false_iff_ne.mpr Bl
       have Bp:(Am != 0)=true:=bne_iff_ne.mpr Bl
       obtain rfl:=Option.some.inj H
       refine qp 0 21 (fl_ 12 1) ?_
       refine qp 2 23 (fl_ 12 5) ?_
       refine qp 5 26 (fl_ 12 37) ?_
       refine qp 7 28 (fl_ 12 165) ?_
       refine qt 1 22 (fl_ 12 167) hHeld ?_
       refine qp 3 24 (fl_ 12 175) ?_
       refine qt 4 25 (fl_ 12 191) hHeld ?_
       refine qt 6 27 (fl_ 12 255) hHeld ?_
       refine qp 8 29 (fl_ 12 511) ?_
       refine qt 9 30 (fl_ 12 1023) hHeld ?_
       refine qO 10 31 (fl_ 12 2047) (fun K hK=>?_)
       refine goes_ Tryz.func82 (by kernel_rfl) rfl #[.string (rdOf ByteArray.empty Ae Ad),.string (rdOf ByteArray.empty Af Ad)] (by rfl) rfl rfl qy0 ?_
       with_reducible refine(spec_l01Cmp.calls Ce (rdOf ByteArray.empty Ae Ad) (rdOf ByteArray.empty Af Ad) Am _ Cx.out).mono ?_
       rintro e Dh ⟨rfl,hb⟩
       refine⟨_,rfl, ?_⟩
       replace Aa:=y0.mk (qK Aa.out hb)
       replace Ac:=y0.mk (qK Ac.out hb)
       replace HB:=y0.mk (y8 qb hb)
       (try clear hb)
       refine hK.out _ _ ⟨(y11 Aa.out 0).trans rfl,(y11 Ac.out 0).trans rfl,((HB.out.cell (World.block_lt_of_cell? w _ Ag)).trans Ag),((HB.out.cell (World.block_lt_of_cell? w _ Ah)).trans Ah)⟩ (fun hHeld=>?_)
       clear hK K
       refine qx 31 ?_
       refine qp 11 6 (fl_ 12 4095) ?_
       refine done_ (done_of HT_.out (by kernel_rfl)) ?_
       try go_wp2
       go_ret
       exact⟨qf,qb⟩
     ·replace Bt:=Bool.eq_false_iff.mpr Bt
      subst Bt
      replace H:=qF H
      obtain⟨Ch,De,H⟩:=qB H
      obtain rfl:=Option.some.inj H
      have Cy:=Ak.out
      have Cz:=Al.out
      obtain⟨Bu,Bv⟩:=qz1 Aa.out
      obtain⟨Bw,Bx⟩:=qz1 Ac.out
      go_wp2_with (first|((with_reducible refine y19 (f:=83) rfl ?_);refine y22 (some 42) rfl rfl Tryz.func83 (by kernel_rfl) rfl #[.int .i64 (wrap64 ((Ae.length:Int) - (Af.length:Int)))] rfl qy0 ?_;(with_reducible refine(spec_l01Sign.calls (wrap64 ((Ae.length:Int) - (Af.length:Int))) Ch _ De.out).mono ?_);rintro e w' ⟨rfl,⟨nd,rfl⟩⟩;refine⟨_,rfl, ?_⟩))
      go_ret
      exact⟨qf,qb⟩
end Go.Proofs.YtkajecadkkgfmaaGreatDoor.Pn
end
