-- Cut by prune.py, a program of this session, out of the texts of this claim: Lean checks it.
import Derived.Test.YtkajecadkkgfmaaGreatDoorVsqPnx0
section
namespace Go.Proofs.YtkajecadkkgfmaaGreatDoor.Pn
open Go.RowKit Go.Proofs.YtkajecadkkgfmaaGreatDoorW.PrintWords Go.Proofs.YtkajecadkkgfmaaGreatDoorW.PrintLast Go.Proofs.YtkajecadkkgfmaaGreatDoorW.PrintMore
attribute [local go_sem] max2_int min2_int max_two min_two max_three min_three max_four min_four   -- for this text's walks alone
set_option linter.unusedVariables false
set_option linter.unusedSimpArgs false
mutual
def spec_l01Cmp.l0:Nat→List ByteArray→List ByteArray→Int→Option (Int)
 | 0,_,_,_=>none
 | k + 1,x12,x14,x15=>if x15 < (x12.length:Int)then(if 0≤x15 then(if x15 < (x14.length:Int)then((spec_l01Cmp.f k (rdOf ByteArray.empty x12 x15) (rdOf ByteArray.empty x14 x15)).bind fun t230=>(if t230=0 then(spec_l01Cmp.l0 k x12 x14 (wrap64 (x15 + 1)))else(some t230)))else(none))else(none))else(some 0)
def spec_l01Cmp.f:Nat→ByteArray→ByteArray→Option (Int)
 | 0,_,_=>none
 | k + 1,a0,a1=>(z4_.f k a0).bind fun t209=>((z4_.f k a1).bind fun t210=>(if t209=t210 then(if t209=1 then((z10_.f k a0).bind fun bt212=>((z10_.f k a1).bind fun bt214=>((spec_l01Sign.f (wrap64 (bt212.1 - bt214.1))).bind fun t216=>(some t216))))else(if t209=2 then(if 1≤(wrap64 ((a0.size:Int) - 1))then(if(wrap64 ((a0.size:Int) - 1))≤(a0.size:Int)then(if 1≤(wrap64 ((a1.size:Int) - 1))then(if(wrap64 ((a1.size:Int) - 1))≤(a1.size:Int)then((spec_l01Texts.f (a0.extract 1 ((wrap64 ((a0.size:Int) - 1)):Int).toNat) (a1.extract 1 ((wrap64 ((a1.size:Int) - 1)):Int).toNat)).bind fun t217=>(some t217))else(none))else(none))else(none))else(none))else((spec_TermParts.f k a0).bind fun bt218=>((spec_TermParts.f k a1).bind fun bt222=>(if bt218.1.toList=bt222.1.toList then(if(bt218.2.length:Int)=(bt222.2.length:Int)then(spec_l01Cmp.l0 k bt218.2 bt222.2 0)else((spec_l01Sign.f (wrap64 ((bt218.2.length:Int) - (bt222.2.length:Int)))).bind fun t227=>(some t227)))else((spec_l01Texts.f bt218.1 bt222.1).bind fun t226=>(some t226)))))))else((spec_l01Sign.f (wrap64 (t209 - t210))).bind fun t211=>(some t211))))
end
def spec_l01Cmp.T10:Bool×List (List Nat×List Nat):=(true,[([],[]),([],[]),([1],[1]),([2],[2]),([0,3],[0,3]),([],[]),([],[]),([6],[6]),([7],[7]),([5,8],[5,8]),([4,9],[4,9]),([10,10,0,1,2,3,4,5,6,7,8,9,10],[10])])
def spec_l01Cmp.B10:List Nat:=[0,0,2,6,15,0,0,64,192,480,1023,2047]
theorem spec_l01Cmp.tab10:rtab .any (opsOf Tryz.f82 10)=spec_l01Cmp.T10:=by kernel_rfl
theorem spec_l01Cmp.bits10:waitsOk spec_l01Cmp.T10.2 spec_l01Cmp.B10=true:=by kernel_rfl
def spec_l01Cmp.T20:Bool×List (List Nat×List Nat):=(true,[([],[]),([],[]),([0,1],[0,1]),([2],[2]),([],[]),([],[]),([4,5],[4,5]),([6],[6]),([3,7],[3,7]),([8,8,0,1,2,3,4,5,6,7,8],[8])])
def spec_l01Cmp.B20:List Nat:=[0,0,3,7,0,0,48,112,255,511]
theorem spec_l01Cmp.tab20:rtab .any (opsOf Tryz.f82 20)=spec_l01Cmp.T20:=by kernel_rfl
theorem spec_l01Cmp.bits20:waitsOk spec_l01Cmp.T20.2 spec_l01Cmp.B20=true:=by kernel_rfl
set_option maxHeartbeats 8000000 in
set_option maxRecDepth 100000 in
theorem spec_l01Cmp.calls (k:Nat):∀(a0:ByteArray) (a1:ByteArray) (r:Int) (w:World) (h:spec_l01Cmp.f k a0 a1=some r),
  Calls Tryz.prog 82 #[.string a0,.string a1] w fun e w'=>e=.returned (.int .i64 r)∧Below w.heap.size w w':=by
 induction k using Nat.strongRecOn with
 | _ k ih =>
 intro a0 a1 r w h
 cases k with
 | zero=>exact absurd h (by simp [spec_l01Cmp.f])
 | succ k =>
 simp only [spec_l01Cmp.f]at h
 have HB:=y0.mk (Below.refl w.heap.size w)
 have H:((z4_.f k a0).bind fun Ab=>((z4_.f k a1).bind fun Af=>(if Ab=Af then(if Ab=1 then((z10_.f k a0).bind fun Br=>((z10_.f k a1).bind fun Au=>((spec_l01Sign.f (wrap64 (Br.1 - Au.1))).bind fun Ap=>(some Ap))))else(if Ab=2 then(if 1≤(wrap64 ((a0.size:Int) - 1))then(if(wrap64 ((a0.size:Int) - 1))≤(a0.size:Int)then(if 1≤(wrap64 ((a1.size:Int) - 1))then(if(wrap64 ((a1.size:Int) - 1))≤(a1.size:Int)then((spec_l01Texts.f (a0.extract 1 ((wrap64 ((a0.size:Int) - 1)):Int).toNat) (a1.extract 1 ((wrap64 ((a1.size:Int) - 1)):Int).toNat)).bind fun Bf=>(some Bf))else(none))else(none))else(none))else(none))else((spec_TermParts.f k a0).bind fun Al=>((spec_TermParts.f k a1).bind fun Am=>(if Al.1.toList=Am.1.toList then(if(Al.2.length:Int)=(Am.2.length:Int)then(spec_l01Cmp.l0 k Al.2 Am.2 0)else((spec_l01Sign.f (wrap64 ((Al.2.length:Int) - (Am.2.length:Int)))).bind fun Bg=>(some Bg)))else((spec_l01Texts.f Al.1 Am.1).bind fun Bh=>(some Bh)))))))else((spec_l01Sign.f (wrap64 (Ab - Af))).bind fun Bi=>(some Bi)))))=some r:=h
 clear h
 obtain⟨Ab,A3,H⟩:=qB H
 obtain⟨Af,A4,H⟩:=qB H
 by_cases c5:Ab=Af
 ·rw [if_pos c5]at H
  have Bs:(Ab == Af)=true:=beq_iff_eq.mpr c5
  have Bt:(Ab != Af)=false:=bne_eq_false_iff_eq.mpr c5
  clear c5
  by_cases c6:Ab=1
  ·rw [if_pos c6]at H
   have Bu:(Ab == 1)=true:=beq_iff_eq.mpr c6
   have Bv:(Ab != 1)=false:=bne_eq_false_iff_eq.mpr c6
   clear c6
   obtain⟨⟨Av,Cj⟩,A7,H⟩:=qB H
   replace H:((z10_.f k a1).bind fun Au=>((spec_l01Sign.f (wrap64 (Av - Au.1))).bind fun Ap=>(some Ap)))=some r:=H
   obtain⟨⟨Ax,Ck⟩,A8,H⟩:=qB H
   replace H:((spec_l01Sign.f (wrap64 (Av - Ax))).bind fun Ap=>(some Ap))=some r:=H
   obtain⟨Ap,A9,H⟩:=qB H
   obtain rfl:=Option.some.inj H
   go_enter Tryz.func82,Tryz.ntmps82
   go_wp2_with (first|((with_reducible refine y16 (f:=68) rfl ?_);refine y18 (some 18) rfl rfl Tryz.func68 (by kernel_rfl) rfl #[.string a0] rfl qy0 ?_;(with_reducible refine(z4_.calls k a0 Ab _ A3.out).mono ?_);rintro e Du ⟨rfl,hb⟩;refine⟨_,rfl, ?_⟩;replace HB:=y0.mk (y8 qb hb);(try clear hb))|((with_reducible refine y16 (f:=68) rfl ?_);refine y18 (some 20) rfl rfl Tryz.func68 (by kernel_rfl) rfl #[.string a1] rfl qy0 ?_;(with_reducible refine(z4_.calls k a1 Af _ A4.out).mono ?_);rintro e Dv ⟨rfl,hb⟩;refine⟨_,rfl, ?_⟩;replace HB:=y0.mk (y8 qb hb);(try clear hb))|((with_reducible refine y16 (f:=92) rfl ?_);refine y18 (some 33) rfl rfl Tryz.func92 (by kernel_rfl) rfl #[.string a0] rfl qy0 ?_;(with_reducible refine(z10_.calls k a0 Av Cj _ A7.out).mono ?_);rintro e Dw ⟨rfl,hb⟩;refine⟨_,rfl, ?_⟩;replace HB:=y0.mk (y8 qb hb);(try clear hb))|((with_reducible refine y16 (f:=92) rfl ?_);refine y18 (some 38) rfl rfl Tryz.func92 (by kernel_rfl) rfl #[.string a1] rfl qy0 ?_;(with_reducible refine(z10_.calls k a1 Ax Ck _ A8.out).mono ?_);rintro e Dx ⟨rfl,hb⟩;refine⟨_,rfl, ?_⟩;replace HB:=y0.mk (y8 qb hb);(try clear hb))|((with_reducible refine y16 (f:=83) rfl ?_);refine y18 (some 44) rfl rfl Tryz.func83 (by kernel_rfl) rfl #[.int .i64 (wrap64 (Av - Ax))] rfl qy0 ?_;(with_reducible refine(spec_l01Sign.calls (wrap64 (Av - Ax)) Ap _ A9.out).mono ?_);rintro e w' ⟨rfl,⟨nd,rfl⟩⟩;refine⟨_,rfl, ?_⟩))
   go_ret
   exact⟨qf,qb⟩
  ·rw [if_neg c6]at H
   have Bu:(Ab == 1)=false:=beq_eq_false_iff_ne.mpr c6
   have Bv:(Ab != 1)=true:=bne_iff_ne.mpr c6
   by_cases Bj:Ab=2
   ·rw [if_pos Bj]at H
    have Ay:(Ab == 2)=true:=beq_iff_eq.mpr Bj
    have Az:(Ab != 2)=false:=bne_eq_false_iff_eq.mpr Bj
    clear Bj
    obtain⟨Cl,H⟩:=qo H
    have Cx:=eq_true Cl
    have Cy:=decide_eq_true Cl
    clear Cl
    obtain⟨Cm,H⟩:=qo H
    have Cz:=eq_true Cm
    have Da:=decide_eq_true Cm
    clear Cm
    obtain⟨Cn,H⟩:=qo H
    have Db:=eq_true Cn
    have Dc:=decide_eq_true Cn
    clear Cn
    obtain⟨Co,H⟩:=qo H
    have Dd:=eq_true Co
    have De:=decide_eq_true Co
    clear Co
    obtain⟨Bf,Dk,H⟩:=qB H
    obtain rfl:=Option.some.inj H
    go_enter Tryz.func82,Tryz.ntmps82
    try go_wp2_with (first|((with_reducible refine y16 (f:=68) rfl ?_);refine y18 (some 18) rfl rfl Tryz.func68 (by kernel_rfl) rfl #[.string a0] rfl qy0 ?_;(with_reducible refine(z4_.calls k a0 Ab _ A3.out).mono ?_);rintro e Dy ⟨rfl,hb⟩;refine⟨_,rfl, ?_⟩;replace HB:=y0.mk (y8 qb hb);(try clear hb))|((with_reducible refine y16 (f:=68) rfl ?_);refine y18 (some 20) rfl rfl Tryz.func68 (by kernel_rfl) rfl #[.string a1] rfl qy0 ?_;(with_reducible refine(z4_.calls k a1 Af _ A4.out).mono ?_);rintro e Dl ⟨rfl,hb⟩;refine⟨_,rfl, ?_⟩;replace HB:=y0.mk (y8 qb hb);(try clear hb)))
    replace HB:=y0.mk (y5 HB.out)
    refine start_ (n:=12) (S:=fun w'=>True) (ds:=[]) (fl_ 12 0) (by kernel_rfl) rfl rfl trivial (fun hHeld=>?_);refine with_tabW spec_l01Cmp.tab10 spec_l01Cmp.bits10 (fun HT_ HW_=>?_)
    generalize Dl.drew=Dz at HB hHeld ⊢
    refine qp10 0 47 12 ?_
    refine qO 10 57 (fl_ 12 2047) (fun K hK=>?_)
    refine goes_ Tryz.func102 (by kernel_rfl) rfl #[.string (a0.extract 1 ((wrap64 ((a0.size:Int) - 1)):Int).toNat),.string (a1.extract 1 ((wrap64 ((a1.size:Int) - 1)):Int).toNat)] (by rfl) rfl rfl qy0 ?_
    with_reducible refine(spec_l01Texts.calls (a0.extract 1 ((wrap64 ((a0.size:Int) - 1)):Int).toNat) (a1.extract 1 ((wrap64 ((a1.size:Int) - 1)):Int).toNat) Bf _ Dk.out).mono ?_
    rintro e w' ⟨rfl,⟨nd,rfl⟩⟩
    refine⟨_,rfl, ?_⟩
    refine hK.out _ _ trivial (fun hHeld=>?_)
    clear hK K
    refine qx 57 ?_
    refine qp 11 4 (fl_ 12 4095) ?_
    refine done_ (done_of HT_.out (by kernel_rfl)) ?_
    try go_wp2
    go_ret
    exact⟨qf,qb⟩
   ·rw [if_neg Bj]at H
    have Ay:(Ab == 2)=false:=beq_eq_false_iff_ne.mpr Bj
    have Az:(Ab != 2)=true:=bne_iff_ne.mpr Bj
    obtain⟨⟨Ai,Ac⟩,Cp,H⟩:=qB H
    dsimp only at H
    obtain⟨⟨Aj,Ad⟩,Cq,H⟩:=qB H
    dsimp only at H
    by_cases Bk:Ai.toList=Aj.toList
    ·rw [if_pos Bk]at H
     have Ba:(Ai.toList == Aj.toList)=true:=beq_iff_eq.mpr Bk
     have Bb:(Ai.toList != Aj.toList)=false:=bne_eq_false_iff_eq.mpr Bk
     clear Bk
     by_cases Aw:(Ac.length:Int)=(Ad.length:Int)
     ·rw [if_pos Aw]at H
      have Bc:((Ac.length:Int) == (Ad.length:Int))=true:=beq_iff_eq.mpr Aw
      have Bd:((Ac.length:Int) != (Ad.length:Int))=false:=bne_eq_false_iff_eq.mpr Aw
      have Be:(Ac.length == Ad.length)=true:=by first|simpa using Aw|(simp at Aw ⊢;omega)
      clear Aw
      have H':=y0.mk H
      clear H
      go_enter Tryz.func82,Tryz.ntmps82
      go_wp2_with (first|((with_reducible refine y16 (f:=68) rfl ?_);refine y18 (some 18) rfl rfl Tryz.func68 (by kernel_rfl) rfl #[.string a0] rfl qy0 ?_;(with_reducible refine(z4_.calls k a0 Ab _ A3.out).mono ?_);rintro e Ea ⟨rfl,hb⟩;refine⟨_,rfl, ?_⟩;replace HB:=y0.mk (y8 qb hb);(try clear hb))|((with_reducible refine y16 (f:=68) rfl ?_);refine y18 (some 20) rfl rfl Tryz.func68 (by kernel_rfl) rfl #[.string a1] rfl qy0 ?_;(with_reducible refine(z4_.calls k a1 Af _ A4.out).mono ?_);rintro e Eb ⟨rfl,hb⟩;refine⟨_,rfl, ?_⟩;replace HB:=y0.mk (y8 qb hb);(try clear hb))|((with_reducible refine y16 (f:=103) rfl ?_);refine y18 (some 60) rfl rfl Tryz.func103 (by kernel_rfl) rfl #[.string a0] rfl qy0 ?_;(with_reducible refine(spec_TermParts.calls k a0 Ai Ac _ Cp.out).mono ?_);rintro e Ec ⟨Bw,rfl,Ak,hb⟩;refine⟨_,rfl, ?_⟩;have Ae:=y0.mk (Kd.R_lower Ak (y7 qb));replace HB:=y0.mk (y8 qb hb);(try clear hb);(try clear Ak))|((with_reducible refine y16 (f:=103) rfl ?_);refine y18 (some 65) rfl rfl Tryz.func103 (by kernel_rfl) rfl #[.string a1] rfl qy0 ?_;(with_reducible refine(spec_TermParts.calls k a1 Aj Ad _ Cq.out).mono ?_);rintro e Ed ⟨Bx,rfl,Ak,hb⟩;refine⟨_,rfl, ?_⟩;have Ao:=y0.mk (Kd.R_lower (Kd.R_new' Ak (Kd.R_lt (qR Ae.out))) (y7 qb));replace Ae:=y0.mk (Kd.R_elder' (qR Ae.out) (Kd.R_base Ak) hb);replace HB:=y0.mk (y8 qb hb);(try clear hb);(try clear Ak);obtain⟨Bz,Ca,Cr⟩:=Kd.R_slice Ae.out;subst Cr;obtain⟨Cb,Cc,Cs⟩:=Kd.R_slice Ao.out;subst Cs))
      go_loopg [15] k (fun kq Dm w'=>∃(Aa:Int),Dm=.int .i64 Aa∧y0 (spec_l01Cmp.l0 kq Ac Ad Aa=some r)∧y0 (kq≤k)∧y0 (Kd.R Kd.string 9 w' w.heap.size (fun k_=>some k_≠((.slice Cb Ad.length Cc):Value).ownBlock) (.slice Bz Ac.length Ca) Ac)∧y0 (Kd.R Kd.string 9 w' w.heap.size (fun k_=>some k_≠((.slice Bz Ac.length Ca):Value).ownBlock) (.slice Cb Ad.length Cc) Ad)∧y0 (Below w.heap.size w w'))
      case atStart=>exact⟨(0),qy2,H',⟨Nat.le_refl _⟩,⟨qR (Kd.R_mono Ae.out (fun _ hk=>hk.2))⟩,⟨qR (Kd.R_mono Ao.out (fun _ hk=>hk.2))⟩,⟨qb⟩⟩
      case round =>
       clear H'
       (try clear Bs Bt Bu Bv Ay Az Ba Bb Bc Bd Be)
       obtain⟨Aa,rfl,HA,Ci,Ag,Ah,HB⟩:=hrel
       cases gk with
       | zero=>exact absurd HA.out (by simp [spec_l01Cmp.l0])
       | succ k1 =>
        have H:=HA.out
        clear HA
        simp only [spec_l01Cmp.l0]at H
        by_cases Bq:Aa < (Ac.length:Int)
        ·rw [if_pos Bq]at H
         have Cd:=decide_eq_true Bq
         clear Bq
         obtain⟨Df,H⟩:=qo H
         have Dg:decide (0≤Aa)=true:=decide_eq_true Df
         clear Df
         obtain⟨Dh,H⟩:=qo H
         have Di:decide (Aa < (Ad.length:Int))=true:=decide_eq_true Dh
         clear Dh
         obtain⟨Aq,Dj,H⟩:=qB H
         try go_wp2
         replace Ag:=y0.mk (Kd.R_drew Ag.out)
         replace Ah:=y0.mk (Kd.R_drew Ah.out)
         replace HB:=y0.mk (y5 HB.out)
         have Bl:0≤(Aa:Int):=of_decide_eq_true qy1
         have Bm:Aa < (Ac.length:Int):=of_decide_eq_true qy1
         obtain⟨Ce,Ct,As⟩:=Kd.at_string (Kd.R_reads' Ag.out).2.2 Aa Bl Bm
         cases Ct
         replace Bl:=eq_true Bl
         replace Bm:=eq_true Bm
         have Bn:0≤(Aa:Int):=of_decide_eq_true qy1
         have Bo:Aa < (Ad.length:Int):=of_decide_eq_true qy1
         obtain⟨Cf,Cu,At⟩:=Kd.at_string (Kd.R_reads' Ah.out).2.2 Aa Bn Bo
         cases Cu
         replace Bn:=eq_true Bn
         replace Bo:=eq_true Bo
         refine start_ (n:=10) (S:=fun w'=>w'.cell? (Ce.add (Aa).toNat)=some (.string (rdOf ByteArray.empty Ac Aa))∧w'.cell? (Cf.add (Aa).toNat)=some (.string (rdOf ByteArray.empty Ad Aa))) (ds:=[]) (fl_ 10 0) (by kernel_rfl) rfl rfl ⟨As,At⟩ (fun hHeld=>?_);refine with_tabW spec_l01Cmp.tab20 spec_l01Cmp.bits20 (fun HT_ HW_=>?_)
         generalize wr.drew=Ee at Ag Ah HB As At hHeld ⊢
         refine qp3 0 91 10 ?_
         by_cases Bp:Aq=0
         ·rw [if_pos Bp]at H
          have Cg:(Aq == 0)=true:=beq_iff_eq.mpr Bp
          have Ch:(Aq != 0)=false:=bne_eq_false_iff_eq.mpr Bp
          clear Bp
          have H':=y0.mk H
          clear H
          refine qp 4 95 (fl_ 10 23) ?_
          refine qp 5 96 (fl_ 10 55) ?_
          refine qp 6 97 (fl_ 10 119) ?_
          refine qt 3 94 (fl_ 10 127) hHeld ?_
          refine qt 7 98 (fl_ 10 255) hHeld ?_
          refine qO 8 99 (fl_ 10 511) (fun K hK=>?_)
          refine goes_ Tryz.func82 (by kernel_rfl) rfl #[.string (rdOf ByteArray.empty Ac Aa),.string (rdOf ByteArray.empty Ad Aa)] (by rfl) rfl rfl qy0 ?_
          with_reducible refine(ih k1 (by have:=Ci.out;omega) (rdOf ByteArray.empty Ac Aa) (rdOf ByteArray.empty Ad Aa) Aq _ Dj.out).mono ?_
          rintro e Ef ⟨rfl,hb⟩
          have HS0_:=(hb.cell (World.block_lt_of_cell? _ _ (hHeld.1))).trans (hHeld.1)
          have HS1_:=(hb.cell (World.block_lt_of_cell? _ _ (hHeld.2))).trans (hHeld.2)
          refine⟨_,rfl, ?_⟩
          replace Ag:=y0.mk (Kd.R_below (qR Ag.out) hb)
          replace Ah:=y0.mk (Kd.R_below (qR Ah.out) hb)
          replace HB:=y0.mk (y8 qb hb)
          (try clear hb)
          refine hK.out _ _ ⟨HS0_,HS1_⟩ (fun hHeld=>?_)
          clear hK K
          refine qx 99 ?_
          refine qp 9 16 (fl_ 10 1023) ?_
          refine done_ (done_of HT_.out (by kernel_rfl)) ?_
          try go_wp2
          go_roundg k1
          case measure=>have:=Ci.out;omega
          exact⟨(wrap64 (Aa + 1)),qy2,H',⟨by have:=Ci.out;omega⟩,⟨qR Ag.out⟩,⟨qR Ah.out⟩,⟨qb⟩⟩
         ·rw [if_neg Bp]at H
          have Cg:(Aq == 0)=false:=beq_eq_false_iff_ne.mpr Bp
          have Ch:(Aq != 0)=true:=bne_iff_ne.mpr Bp
          obtain rfl:=Option.some.inj H
          refine qp 4 95 (fl_ 10 23) ?_
          refine qp 5 96 (fl_ 10 55) ?_
          refine qp 6 97 (fl_ 10 119) ?_
          refine qt 3 94 (fl_ 10 127) hHeld ?_
          refine qt 7 98 (fl_ 10 255) hHeld ?_
          refine qO 8 99 (fl_ 10 511) (fun K hK=>?_)
          refine goes_ Tryz.func82 (by kernel_rfl) rfl #[.string (rdOf ByteArray.empty Ac Aa),.string (rdOf ByteArray.empty Ad Aa)] (by rfl) rfl rfl qy0 ?_
          with_reducible refine(ih k1 (by have:=Ci.out;omega) (rdOf ByteArray.empty Ac Aa) (rdOf ByteArray.empty Ad Aa) Aq _ Dj.out).mono ?_
          rintro e Eg ⟨rfl,hb⟩
          have HS0_:=(hb.cell (World.block_lt_of_cell? _ _ (hHeld.1))).trans (hHeld.1)
          have HS1_:=(hb.cell (World.block_lt_of_cell? _ _ (hHeld.2))).trans (hHeld.2)
          refine⟨_,rfl, ?_⟩
          replace Ag:=y0.mk (Kd.R_below (qR Ag.out) hb)
          replace Ah:=y0.mk (Kd.R_below (qR Ah.out) hb)
          replace HB:=y0.mk (y8 qb hb)
          (try clear hb)
          refine hK.out _ _ ⟨HS0_,HS1_⟩ (fun hHeld=>?_)
          clear hK K
          refine qx 99 ?_
          refine qp 9 16 (fl_ 10 1023) ?_
          refine done_ (done_of HT_.out (by kernel_rfl)) ?_
          try go_wp2
          go_ret
          exact⟨qf,qb⟩
        ·rw [if_neg Bq]at H
         have Cd:=decide_eq_false Bq
         clear Bq
         obtain rfl:=Option.some.inj H
         go_wp2
         go_ret
         exact⟨qf,qb⟩
     ·rw [if_neg Aw]at H
      have Bc:((Ac.length:Int) == (Ad.length:Int))=false:=beq_eq_false_iff_ne.mpr Aw
      have Bd:((Ac.length:Int) != (Ad.length:Int))=true:=bne_iff_ne.mpr Aw
      have Be:(Ac.length == Ad.length)=false:=by first|simpa using Aw|(simp at Aw ⊢;omega)
      obtain⟨Bg,Dn,H⟩:=qB H
      obtain rfl:=Option.some.inj H
      go_enter Tryz.func82,Tryz.ntmps82
      go_wp2_with (first|((with_reducible refine y16 (f:=68) rfl ?_);refine y18 (some 18) rfl rfl Tryz.func68 (by kernel_rfl) rfl #[.string a0] rfl qy0 ?_;(with_reducible refine(z4_.calls k a0 Ab _ A3.out).mono ?_);rintro e Eh ⟨rfl,hb⟩;refine⟨_,rfl, ?_⟩;replace HB:=y0.mk (y8 qb hb);(try clear hb))|((with_reducible refine y16 (f:=68) rfl ?_);refine y18 (some 20) rfl rfl Tryz.func68 (by kernel_rfl) rfl #[.string a1] rfl qy0 ?_;(with_reducible refine(z4_.calls k a1 Af _ A4.out).mono ?_);rintro e Ei ⟨rfl,hb⟩;refine⟨_,rfl, ?_⟩;replace HB:=y0.mk (y8 qb hb);(try clear hb))|((with_reducible refine y16 (f:=103) rfl ?_);refine y18 (some 60) rfl rfl Tryz.func103 (by kernel_rfl) rfl #[.string a0] rfl qy0 ?_;(with_reducible refine(spec_TermParts.calls k a0 Ai Ac _ Cp.out).mono ?_);rintro e Ej ⟨Bw,rfl,Ak,hb⟩;refine⟨_,rfl, ?_⟩;have Ae:=y0.mk (Kd.R_lower Ak (y7 qb));replace HB:=y0.mk (y8 qb hb);(try clear hb);(try clear Ak))|((with_reducible refine y16 (f:=103) rfl ?_);refine y18 (some 65) rfl rfl Tryz.func103 (by kernel_rfl) rfl #[.string a1] rfl qy0 ?_;(with_reducible refine(spec_TermParts.calls k a1 Aj Ad _ Cq.out).mono ?_);rintro e Ek ⟨Bx,rfl,Ak,hb⟩;refine⟨_,rfl, ?_⟩;have Ao:=y0.mk (Kd.R_lower (Kd.R_new' Ak (Kd.R_lt (qR Ae.out))) (y7 qb));replace Ae:=y0.mk (Kd.R_elder' (qR Ae.out) (Kd.R_base Ak) hb);replace HB:=y0.mk (y8 qb hb);(try clear hb);(try clear Ak);obtain⟨Do,Dp,Cv⟩:=Kd.R_slice Ae.out;subst Cv;obtain⟨Dq,Dr,Cw⟩:=Kd.R_slice Ao.out;subst Cw)|((with_reducible refine y16 (f:=83) rfl ?_);refine y18 (some 84) rfl rfl Tryz.func83 (by kernel_rfl) rfl #[.int .i64 (wrap64 ((Ac.length:Int) - (Ad.length:Int)))] rfl qy0 ?_;(with_reducible refine(spec_l01Sign.calls (wrap64 ((Ac.length:Int) - (Ad.length:Int))) Bg _ Dn.out).mono ?_);rintro e w' ⟨rfl,⟨nd,rfl⟩⟩;refine⟨_,rfl, ?_⟩))
      go_ret
      exact⟨qf,qb⟩
    ·rw [if_neg Bk]at H
     have Ba:(Ai.toList == Aj.toList)=false:=beq_eq_false_iff_ne.mpr Bk
     have Bb:(Ai.toList != Aj.toList)=true:=bne_iff_ne.mpr Bk
     obtain⟨Bh,Ds,H⟩:=qB H
     obtain rfl:=Option.some.inj H
     go_enter Tryz.func82,Tryz.ntmps82
     go_wp2_with (first|((with_reducible refine y16 (f:=68) rfl ?_);refine y18 (some 18) rfl rfl Tryz.func68 (by kernel_rfl) rfl #[.string a0] rfl qy0 ?_;(with_reducible refine(z4_.calls k a0 Ab _ A3.out).mono ?_);rintro e El ⟨rfl,hb⟩;refine⟨_,rfl, ?_⟩;replace HB:=y0.mk (y8 qb hb);(try clear hb))|((with_reducible refine y16 (f:=68) rfl ?_);refine y18 (some 20) rfl rfl Tryz.func68 (by kernel_rfl) rfl #[.string a1] rfl qy0 ?_;(with_reducible refine(z4_.calls k a1 Af _ A4.out).mono ?_);rintro e Em ⟨rfl,hb⟩;refine⟨_,rfl, ?_⟩;replace HB:=y0.mk (y8 qb hb);(try clear hb))|((with_reducible refine y16 (f:=103) rfl ?_);refine y18 (some 60) rfl rfl Tryz.func103 (by kernel_rfl) rfl #[.string a0] rfl qy0 ?_;(with_reducible refine(spec_TermParts.calls k a0 Ai Ac _ Cp.out).mono ?_);rintro e En ⟨Bw,rfl,Ak,hb⟩;refine⟨_,rfl, ?_⟩;have Ae:=y0.mk (Kd.R_lower Ak (y7 qb));replace HB:=y0.mk (y8 qb hb);(try clear hb);(try clear Ak))|((with_reducible refine y16 (f:=103) rfl ?_);refine y18 (some 65) rfl rfl Tryz.func103 (by kernel_rfl) rfl #[.string a1] rfl qy0 ?_;(with_reducible refine(spec_TermParts.calls k a1 Aj Ad _ Cq.out).mono ?_);rintro e Eo ⟨Bx,rfl,Ak,hb⟩;refine⟨_,rfl, ?_⟩;have Ao:=y0.mk (Kd.R_lower (Kd.R_new' Ak (Kd.R_lt (qR Ae.out))) (y7 qb));replace Ae:=y0.mk (Kd.R_elder' (qR Ae.out) (Kd.R_base Ak) hb);replace HB:=y0.mk (y8 qb hb);(try clear hb);(try clear Ak))|((with_reducible refine y16 (f:=102) rfl ?_);refine y18 (some 73) rfl rfl Tryz.func102 (by kernel_rfl) rfl #[.string Ai,.string Aj] rfl qy0 ?_;(with_reducible refine(spec_l01Texts.calls Ai Aj Bh _ Ds.out).mono ?_);rintro e w' ⟨rfl,⟨nd,rfl⟩⟩;refine⟨_,rfl, ?_⟩))
     go_ret
     exact⟨qf,qb⟩
 ·rw [if_neg c5]at H
  have Bs:(Ab == Af)=false:=beq_eq_false_iff_ne.mpr c5
  have Bt:(Ab != Af)=true:=bne_iff_ne.mpr c5
  obtain⟨Bi,Dt,H⟩:=qB H
  obtain rfl:=Option.some.inj H
  go_enter Tryz.func82,Tryz.ntmps82
  go_wp2_with (first|((with_reducible refine y16 (f:=68) rfl ?_);refine y18 (some 18) rfl rfl Tryz.func68 (by kernel_rfl) rfl #[.string a0] rfl qy0 ?_;(with_reducible refine(z4_.calls k a0 Ab _ A3.out).mono ?_);rintro e Ep ⟨rfl,hb⟩;refine⟨_,rfl, ?_⟩;replace HB:=y0.mk (y8 qb hb);(try clear hb))|((with_reducible refine y16 (f:=68) rfl ?_);refine y18 (some 20) rfl rfl Tryz.func68 (by kernel_rfl) rfl #[.string a1] rfl qy0 ?_;(with_reducible refine(z4_.calls k a1 Af _ A4.out).mono ?_);rintro e Er ⟨rfl,hb⟩;refine⟨_,rfl, ?_⟩;replace HB:=y0.mk (y8 qb hb);(try clear hb))|((with_reducible refine y16 (f:=83) rfl ?_);refine y18 (some 27) rfl rfl Tryz.func83 (by kernel_rfl) rfl #[.int .i64 (wrap64 (Ab - Af))] rfl qy0 ?_;(with_reducible refine(spec_l01Sign.calls (wrap64 (Ab - Af)) Bi _ Dt.out).mono ?_);rintro e w' ⟨rfl,⟨nd,rfl⟩⟩;refine⟨_,rfl, ?_⟩))
  go_ret
  exact⟨qf,qb⟩
end Go.Proofs.YtkajecadkkgfmaaGreatDoor.Pn
end
section
namespace Go.Proofs.YtkajecadkkgfmaaGreatDoor.Pn
open Go.RowKit Go.Proofs.YtkajecadkkgfmaaGreatDoorW.PrintWords Go.Proofs.YtkajecadkkgfmaaGreatDoorW.PrintLast Go.Proofs.YtkajecadkkgfmaaGreatDoorW.PrintMore
attribute [local go_sem] max2_int min2_int max_two min_two max_three min_three max_four min_four   -- for this text's walks alone
set_option linter.unusedVariables false
set_option linter.unusedSimpArgs false
mutual
def spec_l02Cmp.l0:Nat→Int→List ByteArray→List ByteArray→Option (Int)
 | 0,_,_,_=>none
 | k + 1,x5,x232000,x233000=>if x5 < (x232000.length:Int)then(spec_l02Cmp.j1 k x5 (decide (x5 < (x233000.length:Int))) x232000 x233000)else(spec_l02Cmp.j1 k x5 false x232000 x233000)
def spec_l02Cmp.j1:Nat→Int→Bool→List ByteArray→List ByteArray→Option (Int)
 | 0,_,_,_,_=>none
 | k + 1,x5,x18,x232000,x233000=>if x18=true then(if 0≤x5 then(if x5 < (x232000.length:Int)then(if x5 < (x233000.length:Int)then((spec_l01Cmp.f k (rdOf ByteArray.empty x232000 x5) (rdOf ByteArray.empty x233000 x5)).bind fun t235=>(if t235=0 then(spec_l02Cmp.l0 k (wrap64 (x5 + 1)) x232000 x233000)else(some t235)))else(none))else(none))else(none))else((spec_l01Sign.f (wrap64 ((x232000.length:Int) - (x233000.length:Int)))).bind fun t236=>(some t236))
end
def spec_l02Cmp.f (k:Nat) (l0_0:List ByteArray) (l1_0:List ByteArray):Option (Int):=spec_l02Cmp.l0 k 0 l0_0 l1_0
def spec_l02Cmp.T4:Bool×List (List Nat×List Nat):=(true,[([],[]),([0],[0]),([],[]),([1,2],[1,2]),([3],[3]),([],[]),([5],[5]),([],[]),([6,7],[6,7]),([8],[8]),([4,9],[4,9]),([10,10,0,1,2,3,4,5,6,7,8,9,10],[10])])
def spec_l02Cmp.B4:List Nat:=[0,1,0,7,15,0,32,0,224,480,1023,2047]
theorem spec_l02Cmp.tab4:rtab .any (opsOf Tryz.f57 4)=spec_l02Cmp.T4:=by kernel_rfl
theorem spec_l02Cmp.bits4:waitsOk spec_l02Cmp.T4.2 spec_l02Cmp.B4=true:=by kernel_rfl
set_option maxHeartbeats 8000000 in
set_option maxRecDepth 100000 in
theorem spec_l02Cmp.calls (k:Nat) (Aq:Option Addr) (Ao:Nat) (Ad:List ByteArray) (As:Option Addr) (Ap:Nat) (Ae:List ByteArray) (r:Int) (w:World) (Aw:Kd.C Kd.string w Aq Ad.length Ad) (Ax:Ad.length≤Ao) (Ay:Kd.C Kd.string w As Ae.length Ae) (Az:Ae.length≤Ap) (h:spec_l02Cmp.f k Ad Ae=some r) :
  Calls Tryz.prog 57 #[.agg #[.slice Aq Ad.length Ao],.agg #[.slice As Ae.length Ap]] w fun e w'=>e=.returned (.int .i64 r)∧Below w.heap.size w w':=by
 have Cv:=Tryz.underlying36
 have Bh:=y0.mk Aw
 have Cd:=y0.mk Ax
 clear Aw Ax
 have Bi:=y0.mk Ay
 have Ce:=y0.mk Az
 clear Ay Az
 have HB:=y0.mk (Below.refl w.heap.size w)
 have H:(spec_l02Cmp.l0 k 0 Ad Ae)=some r:=h
 clear h
 have H':=y0.mk H
 clear H
 go_enter Tryz.func57,Tryz.ntmps57
 go_wp2_with (first|((with_reducible refine y17 (N:=2) rfl ?_);(try(refine gate_guard (by rfl) ?_;dsimp only));refine qe 2 #[.slice Aq Ad.length Ao] 36 ?_;intro At hg w3 hbox hb;have Aa:=y0.mk (hbox);have Cf:=y0.mk (qg (w:=w) hg);have Cg:=y0.mk (qg (w:=w) hg);replace HB:=y0.mk (y8 qb hb);clear hb hbox hg)|((with_reducible refine y17 (N:=3) rfl ?_);(try(refine gate_guard (by rfl) ?_;dsimp only));refine qe 3 #[.slice As Ae.length Ap] 36 ?_;intro Au hg w4 hbox hb;have Ab:=y0.mk (hbox);have Ch:=y0.mk (qg (w:=w) hg);have Ci:=y0.mk (qg (w:=w) hg);replace HB:=y0.mk (y8 qb hb);have Aj:=y0.mk (qn Aa.out hg);have Ak:=y0.mk (qm Aa.out hg);replace Aa:=y0.mk (qK Aa.out hb);clear hb hbox hg))
 go_loopg [5] k (fun kq v5 w'=>∃(Ac:Int),v5=.int .i64 Ac∧y0 (spec_l02Cmp.l0 kq Ac Ad Ae=some r)∧y0 (kq≤k)∧y0 (w'.heap[At]?=some (.cells #[(.slice Aq Ad.length Ao)] 36 (0,0)))∧y0 (w'.heap[Au]?=some (.cells #[(.slice As Ae.length Ap)] 36 (0,0)))∧y0 (Below w.heap.size w w'))
 case atStart=>exact⟨(0),qy2,H',⟨Nat.le_refl _⟩,⟨qk Aa.out⟩,⟨qk Ab.out⟩,⟨qb⟩⟩
 case round =>
  clear H'
  obtain⟨Ac,rfl,HA,Bl,Aa,Ab,HB⟩:=hrel
  cases gk with
  | zero=>exact absurd HA.out (by simp [spec_l02Cmp.l0])
  | succ k1 =>
   have H:=HA.out
   clear HA
   simp only [spec_l02Cmp.l0]at H
   have Bt:=y0.mk H
   clear H
   go_upto_region 2 with(fail)
   go_cut [18] (fun Cw wc=>∃(kq:Nat) (Am:Bool),Cw=.bool Am∧y0 (spec_l02Cmp.j1 kq Ac Am Ad Ae=some r)∧y0 (kq≤k1)∧y0 (wc.heap[At]?=some (.cells #[(.slice Aq Ad.length Ao)] 36 (0,0)))∧y0 (wc.heap[Au]?=some (.cells #[(.slice As Ae.length Ap)] 36 (0,0)))∧y0 (Below w.heap.size w wc))
   case first =>
    have H:=Bt.out
    clear Bt
    by_cases c6:Ac < (Ad.length:Int)
    ·rw [if_pos c6]at H
     have Av:=decide_eq_true c6
     clear c6
     (first|rw [Av]|(simp only [i64_w,i32_w];rw [Av])|skip)
     have H':=y0.mk H
     clear H
     have Cx:=Aj.out
     have Cy:=Ak.out
     obtain⟨Bu,Bv⟩:=qz1 Aa.out
     obtain⟨Bw,Bx⟩:=qz1 Ab.out
     go_wp2
     go_meet
     exact⟨_,(decide (Ac < (Ae.length:Int))),qy2,H',⟨by have:=Bl.out;first|omega|exact Nat.le_refl _⟩,⟨qk Aa.out⟩,⟨qk Ab.out⟩,⟨qb⟩⟩
    ·rw [if_neg c6]at H
     have Av:=decide_eq_false c6
     clear c6
     (first|rw [Av]|(simp only [i64_w,i32_w];rw [Av])|skip)
     have H':=y0.mk H
     clear H
     have Cj:=Aj.out
     have Ck:=Ak.out
     obtain⟨Bm,Bn⟩:=qz1 Aa.out
     go_wp2
     go_meet
     exact⟨_,(false),qy2,H',⟨by have:=Bl.out;first|omega|exact Nat.le_refl _⟩,⟨qk Aa.out⟩,⟨qk Ab.out⟩,⟨qb⟩⟩
   case rest =>
    clear Bt
    obtain⟨kq,Am,rfl,HA,Cl,Aa,Ab,HB⟩:=hcut
    cases kq with
    | zero=>exact absurd HA.out (by simp [spec_l02Cmp.j1])
    | succ Bz =>
     have H:=HA.out
     clear HA
     simp only [spec_l02Cmp.j1]at H
     by_cases Bo:Am=true
     ·subst Bo
      replace H:=qT H
      obtain⟨Cm,H⟩:=qo H
      have Cn:decide (0≤Ac)=true:=decide_eq_true Cm
      clear Cm
      obtain⟨Co,H⟩:=qo H
      have Cp:decide (Ac < (Ad.length:Int))=true:=decide_eq_true Co
      clear Co
      obtain⟨Cq,H⟩:=qo H
      have Cr:=decide_eq_true Cq
      clear Cq
      obtain⟨Al,Cs,H⟩:=qB H
      try go_wp2
      replace Aa:=y0.mk (y11 Aa.out)
      replace Ab:=y0.mk (y11 Ab.out)
      replace HB:=y0.mk (y5 HB.out)
      have Bc:0≤(Ac:Int):=of_decide_eq_true qy1
      have Bd:Ac < (Ad.length:Int):=of_decide_eq_true qy1
      obtain⟨Ba,Ca,Ah⟩:=Kd.at_string Bh.out Ac Bc Bd
      have Af:=Ah
      cases Ca
      replace Ah:=(HB.out.cell (World.block_lt_of_cell? w _ Ah)).trans Ah
      replace Bc:=eq_true Bc
      replace Bd:=eq_true Bd
      have Be:0≤(Ac:Int):=of_decide_eq_true qy1
      have Bf:Ac < (Ae.length:Int):=of_decide_eq_true qy1
      obtain⟨Bb,Cb,Ai⟩:=Kd.at_string Bi.out Ac Be Bf
      have Ag:=Ai
      cases Cb
      replace Ai:=(HB.out.cell (World.block_lt_of_cell? w _ Ai)).trans Ai
      replace Be:=eq_true Be
      replace Bf:=eq_true Bf
      refine start_ (n:=12) (S:=fun w'=>w'.cell? ⟨At,0,none⟩=some (.slice (some Ba) Ad.length Ao)∧w'.cell? ⟨Au,0,none⟩=some (.slice (some Bb) Ae.length Ap)∧w'.cell? (Ba.add (Ac).toNat)=some (.string (rdOf ByteArray.empty Ad Ac))∧w'.cell? (Bb.add (Ac).toNat)=some (.string (rdOf ByteArray.empty Ae Ac))) (ds:=[]) (fl_ 12 0) (by kernel_rfl) rfl rfl ⟨(y10 Aa.out 0).trans rfl,(y10 Ab.out 0).trans rfl,((HB.out.cell (World.block_lt_of_cell? w _ Af)).trans Af),((HB.out.cell (World.block_lt_of_cell? w _ Ag)).trans Ag)⟩ (fun hHeld=>?_);refine with_tabW spec_l02Cmp.tab4 spec_l02Cmp.bits4 (fun HT_ HW_=>?_)
      generalize wc.drew=Da at Aa Ab HB Ah Ai hHeld ⊢
      by_cases Bg:Al=0
      ·rw [if_pos Bg]at H
       have Bj:(Al == 0)=true:=beq_iff_eq.mpr Bg
       have Bk:(Al != 0)=false:=bne_eq_false_iff_eq.mpr Bg
       clear Bg
       have H':=y0.mk H
       clear H
       refine qp 0 21 (fl_ 12 1) ?_
       refine qp 2 23 (fl_ 12 5) ?_
       refine qp 5 26 (fl_ 12 37) ?_
       refine qp 7 28 (fl_ 12 165) ?_
       refine qt 1 22 (fl_ 12 167) hHeld ?_
       refine qp 3 24 (fl_ 12 175) ?_
       refine qt 4 25 (fl_ 12 191) hHeld ?_
       refine qt 6 27 (fl_ 12 255) hHeld ?_
       refine qp 8 29 (fl_ 12 511) ?_
       refine qt 9 30 (fl_ 12 1023) hHeld ?_
       refine qO 10 31 (fl_ 12 2047) (fun K hK=>?_)
       refine goes_ Tryz.func82 (by kernel_rfl) rfl #[.string (rdOf ByteArray.empty Ad Ac),.string (rdOf ByteArray.empty Ae Ac)] (by rfl) rfl rfl qy0 ?_
       with_reducible refine(spec_l01Cmp.calls Bz (rdOf ByteArray.empty Ad Ac) (rdOf ByteArray.empty Ae Ac) Al _ Cs.out).mono ?_
       rintro e Db ⟨rfl,hb⟩
       refine⟨_,rfl, ?_⟩
       replace Aa:=y0.mk (qK Aa.out hb)
       replace Ab:=y0.mk (qK Ab.out hb)
       replace HB:=y0.mk (y8 qb hb)
       (try clear hb)
       refine hK.out _ _ ⟨(y10 Aa.out 0).trans rfl,(y10 Ab.out 0).trans rfl,((HB.out.cell (World.block_lt_of_cell? w _ Af)).trans Af),((HB.out.cell (World.block_lt_of_cell? w _ Ag)).trans Ag)⟩ (fun hHeld=>?_)
       clear hK K
       refine qx 31 ?_
       refine qp 11 6 (fl_ 12 4095) ?_
       refine done_ (done_of HT_.out (by kernel_rfl)) ?_
       try go_wp2
       go_roundg Bz
       case measure=>have:=Bl.out;have:=Cl.out;omega
       exact⟨(wrap64 (Ac + 1)),qy2,H',⟨by have:=Bl.out;have:=Cl.out;omega⟩,⟨qk Aa.out⟩,⟨qk Ab.out⟩,⟨qb⟩⟩
      ·rw [if_neg Bg]at H
       have Bj:(Al == 0)=false:=beq_eq_false_iff_ne.mpr Bg
       have Bk:(Al != 0)=true:=bne_iff_ne.mpr Bg
       obtain rfl:=Option.some.inj H
       refine qp 0 21 (fl_ 12 1) ?_
       refine qp 2 23 (fl_ 12 5) ?_
       refine qp 5 26 (fl_ 12 37) ?_
       refine qp 7 28 (fl_ 12 165) ?_
       refine qt 1 22 (fl_ 12 167) hHeld ?_
       refine qp 3 24 (fl_ 12 175) ?_
       refine qt 4 25 (fl_ 12 191) hHeld ?_
       refine qt 6 27 (fl_ 12 255) hHeld ?_
       refine qp 8 29 (fl_ 12 511) ?_
       refine qt 9 30 (fl_ 12 1023) hHeld ?_
       refine qO 10 31 (fl_ 12 2047) (fun K hK=>?_)
       refine goes_ Tryz.func82 (by kernel_rfl) rfl #[.string (rdOf ByteArray.empty Ad Ac),.string (rdOf ByteArray.empty Ae Ac)] (by rfl) rfl rfl qy0 ?_
       with_reducible refine(spec_l01Cmp.calls Bz (rdOf ByteArray.empty Ad Ac) (rdOf ByteArray.empty Ae Ac) Al _ Cs.out).mono ?_
       rintro e Dc ⟨rfl,hb⟩
       refine⟨_,rfl, ?_⟩
       replace Aa:=y0.mk (qK Aa.out hb)
       replace Ab:=y0.mk (qK Ab.out hb)
       replace HB:=y0.mk (y8 qb hb)
       (try clear hb)
       refine hK.out _ _ ⟨(y10 Aa.out 0).trans rfl,(y10 Ab.out 0).trans rfl,((HB.out.cell (World.block_lt_of_cell? w _ Af)).trans Af),((HB.out.cell (World.block_lt_of_cell? w _ Ag)).trans Ag)⟩ (fun hHeld=>?_)
       clear hK K
       refine qx 31 ?_
       refine qp 11 6 (fl_ 12 4095) ?_
       refine done_ (done_of HT_.out (by kernel_rfl)) ?_
       try go_wp2
       go_ret
       exact⟨qf,qb⟩
     ·replace Bo:=Bool.eq_false_iff.mpr Bo
      subst Bo
      replace H:=qF H
      obtain⟨Cc,Cz,H⟩:=qB H
      obtain rfl:=Option.some.inj H
      have Ct:=Aj.out
      have Cu:=Ak.out
      obtain⟨Bp,Bq⟩:=qz1 Aa.out
      obtain⟨Br,Bs⟩:=qz1 Ab.out
      go_wp2_with (first|((with_reducible refine y16 (f:=83) rfl ?_);refine y18 (some 42) rfl rfl Tryz.func83 (by kernel_rfl) rfl #[.int .i64 (wrap64 ((Ad.length:Int) - (Ae.length:Int)))] rfl qy0 ?_;(with_reducible refine(spec_l01Sign.calls (wrap64 ((Ad.length:Int) - (Ae.length:Int))) Cc _ Cz.out).mono ?_);rintro e w' ⟨rfl,⟨nd,rfl⟩⟩;refine⟨_,rfl, ?_⟩))
      go_ret
      exact⟨qf,qb⟩
end Go.Proofs.YtkajecadkkgfmaaGreatDoor.Pn
end
