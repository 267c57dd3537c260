-- Cut by prune.py, a program of this session, out of the texts of this claim: Lean checks it.
import Derived.Test.YtkdabljlfbmpdaaGreatVbdPbx0
import Derived.Test.YtkdabljlfbmpdaaGreatVbdPbx4
section
namespace Go.Proofs.YtkdabljlfbmpdaaGreat.Pb
open Go.RowKit Go.Proofs.YtkdabljlfbmpdaaGreatW.PrintWords Go.Proofs.YtkdabljlfbmpdaaGreatW.PrintLast Go.Proofs.YtkdabljlfbmpdaaGreatW.PrintMore
attribute [local go_sem] max2_int min2_int max_two min_two max_three min_three max_four min_four   -- for this text's walks alone
set_option linter.unusedVariables false
set_option linter.unusedSimpArgs false
mutual
def z12_.l0:Nat→List Bool→Int→List (S48)→Int→ByteArray→List Int→List (S33)→Option (List Bool)
 | 0,_,_,_,_,_,_,_=>none
 | k + 1,x5,x6,x251000,x251001,x251002,x251003,x251004=>if x6≥0 then(z12_.l1 k x5 x6 0 x251000 x251001 x251002 x251003 x251004)else(some x5)
def z12_.l1:Nat→List Bool→Int→Int→List (S48)→Int→ByteArray→List Int→List (S33)→Option (List Bool)
 | 0,_,_,_,_,_,_,_,_=>none
 | k + 1,x5,x6,x7,x251000,x251001,x251002,x251003,x251004=>if 0≤x6 then(if x6 < (x251000.length:Int)then(if x7 < (((y20 x251000 x6).f2).length:Int)then(if x6 < (x5.length:Int)then(if rdOf false x5 x6=true then(if 0≤x7 then(if 0≤(rd ((y20 x251000 x6).f2) x7)then(if(rd ((y20 x251000 x6).f2) x7) < (x5.length:Int)then(z12_.l1 k (x5.set ((rd ((y20 x251000 x6).f2) x7):Int).toNat true) x6 (wrap64 (x7 + 1)) x251000 x251001 x251002 x251003 x251004)else(none))else(none))else(none))else(z12_.l0 k x5 (wrap64 (x6 - 1)) x251000 x251001 x251002 x251003 x251004))else(none))else(z12_.l0 k x5 (wrap64 (x6 - 1)) x251000 x251001 x251002 x251003 x251004))else(none))else(none)
end
def z12_.f (k:Nat) (l0_0:List (S48)) (a0_1:Int) (a0_2:ByteArray) (l0_3:List Int) (l0_4:List (S33)) (a1:Int):Option (List Bool):=if 0≤(l0_0.length:Int)then(if((l0_0.length:Int):Int).toNat≤281474976710656 then((some (List.replicate ((l0_0.length:Int):Int).toNat false:List Bool)).bind fun y251=>(if 0≤a1 then(if a1 < (y251.length:Int)then(z12_.l0 k (y251.set (a1:Int).toNat true) a1 l0_0 a0_1 a0_2 l0_3 l0_4)else(none))else(none)))else(none))else(none)
set_option maxHeartbeats 8000000 in
set_option maxRecDepth 100000 in
theorem z12_.calls (k:Nat) (Bq:Option Addr) (Br:Nat) (Ab:List (S48)) (Aw:Int) (Ay:ByteArray) (Bs:Option Addr) (Bt:Nat) (Ar:List Int) (Bu:Option Addr) (Bv:Nat) (As:List (S33)) (a1:Int) (r:List Bool) (w:World) (Ch:Kd.C k48 w Bq Ab.length Ab) (Ci:Ab.length≤Br) (Cj:Kd.C (Kd.int .i64) w Bs Ar.length Ar) (Ck:Ar.length≤Bt) (Cl:Kd.C k33 w Bu As.length As) (Cm:As.length≤Bv) (h:z12_.f k Ab Aw Ay Ar As a1=some r) :
  Calls Tryz.prog 36 #[.agg #[.slice Bq Ab.length Br,.int .i64 Aw,.string Ay,.slice Bs Ar.length Bt,.slice Bu As.length Bv],.int .i64 a1] w fun e w'=>∃ v0_:Value,e=.returned (v0_)∧Kd.R Kd.bool 4 w' w.heap.size (fun _=>True) v0_ r∧Below w.heap.size w w':=by
 have Gw:=Tryz.underlying36
 have Bl:=y0.mk Ch
 have Fu:=y0.mk Ci
 clear Ch Ci
 have Fv:=y0.mk Cj
 have Fx:=y0.mk Ck
 clear Cj Ck
 have Fy:=y0.mk Cl
 have Fz:=y0.mk Cm
 clear Cl Cm
 have HB:=y0.mk (Below.refl w.heap.size w)
 have H:(if 0≤(Ab.length:Int)then(if((Ab.length:Int):Int).toNat≤281474976710656 then((some (List.replicate ((Ab.length:Int):Int).toNat false:List Bool)).bind fun Bc=>(if 0≤a1 then(if a1 < (Bc.length:Int)then(z12_.l0 k (Bc.set (a1:Int).toNat true) a1 Ab Aw Ay Ar As)else(none))else(none)))else(none))else(none))=some r:=h
 clear h
 obtain⟨c3,H⟩:=qo H
 have Fe:=eq_true c3
 have Ff:=decide_eq_true c3
 clear c3
 obtain⟨c4,H⟩:=qo H
 have Fg:=eq_true c4
 have Fh:=decide_eq_true c4
 clear c4
 obtain⟨Bc,Bg⟩:∃ y_:List Bool,y_=(List.replicate ((Ab.length:Int):Int).toNat false):=⟨_,rfl⟩
 replace H:(if 0≤a1 then(if a1 < (Bc.length:Int)then(z12_.l0 k (Bc.set (a1:Int).toNat true) a1 Ab Aw Ay Ar As)else(none))else(none))=some r:=by first|(rw [Bg];with_reducible exact H)|(have H2_:=(Option.bind_some _ _).symm.trans H;rw [Bg];with_reducible exact H2_)|(have H2_:=(Option.bind_some _ _).symm.trans H;with_reducible exact H2_)|with_reducible exact H|(rw [Bg];exact H)|exact H
 have Cn:=y0.mk Bg
 clear Bg
 obtain⟨c5,H⟩:=qo H
 have Fi:decide (0≤a1)=true:=decide_eq_true c5
 clear c5
 obtain⟨c6,H⟩:=qo H
 have Fj:decide (a1 < (Bc.length:Int))=true:=decide_eq_true c6
 clear c6
 obtain⟨Cr,Bh⟩:∃ y_:List Bool,y_=(Bc.set (a1:Int).toNat true):=⟨_,rfl⟩
 replace H:(z12_.l0 k Cr a1 Ab Aw Ay Ar As)=some r:=by first|(rw [Bh];with_reducible exact H)|(have H2_:=(Option.bind_some _ _).symm.trans H;rw [Bh];with_reducible exact H2_)|(have H2_:=(Option.bind_some _ _).symm.trans H;with_reducible exact H2_)|with_reducible exact H|(rw [Bh];exact H)|exact H
 have Dp:=y0.mk Bh
 clear Bh
 have H':=y0.mk H
 clear H
 go_enter Tryz.func36,Tryz.ntmps36
 go_wp2_with (first|((with_reducible refine y16 (N:=2) rfl ?_);refine qe 2 #[.slice Bq Ab.length Br,.int .i64 Aw,.string Ay,.slice Bs Ar.length Bt,.slice Bu As.length Bv] 36 ?_;intro Co hg w8 hbox hb;have Ac:=y0.mk (hbox);have Ga:=y0.mk (qg (w:=w) hg);have Gb:=y0.mk (qg (w:=w) hg);replace HB:=y0.mk (y5 qb hb);clear hb hbox hg;obtain⟨Cs,Ct,Cu,Cv,Cw,Cx,Cy,Cz,Da,Db⟩:=qz5 Ac.out)|((with_reducible refine y16 (N:=11) rfl ?_);refine Kd.R_make Kd.bool _ 4 rfl (N:=11) rfl 69 _ _ rfl (Ab.length:Int) rfl rfl Tryz.underlying69 (.bool false) 1 info4 rfl (by decide) (by omega) false (ok:=fun _=>True) (okp:=fun _=>True) rfl (fun _ hk=>hk) trivial (of_decide_eq_true qy0) (Nat.le_trans (Nat.mul_le_mul_right _ (of_decide_eq_true qy0:(Ab.length:Int).toNat≤281474976710656)) (by omega)) (Below.refl _ _) (Nat.le_refl _) ?_;intro Gx Gc Bw hb hg_ hnew_;clear hg_ hnew_;(first|rw [← Cn.out]at Bw|(simp only [Int.reduceToNat]at Bw;rw [← Cn.out]at Bw));have Av:=y0.mk (Kd.R_lower Bw (y4 qb));replace Ac:=y0.mk (qK Ac.out hb);replace HB:=y0.mk (y5 qb hb);clear hb Bw;have p7:0≤(a1:Int):=of_decide_eq_true qy0;have q7:(a1:Int) < ((Bc.length:Int):Int):=of_decide_eq_true qy0;obtain⟨Cf,Dw,Gd,Ge,Gy,Gz,Gf⟩:=Kd.R_form Av.out (by omega);(first|cases Gd|(injection Gd with ea_ en_ ec_;(first|subst ea_|(injection ea_ with ea_;subst ea_));subst ec_;clear en_));have Gg:=y0.mk Ge;have Ha:=y0.mk Gf;clear Ge Gy Gf;obtain⟨Dq,Gh⟩:=Kd.R_celln false Av.out (a1:Int) p7 q7;replace p7:=eq_true p7;replace q7:=eq_true q7;obtain⟨hy12_,hz12_⟩:=Kd.R_celln false Av.out (a1:Int) (of_decide_eq_true qy0) (of_decide_eq_true qy0);have Dc:=Kd.R_putg Av.out (a1:Int) true)|((with_reducible refine gate_store (t:=4) (p:=14) rfl ?_);refine store_event (t:=4) (p:=14) (v:=?vo_w13) (w1:=(Gc.setCell ⟨Cf,(a1:Int).toNat,none⟩ (.bool true))) ?hg ?ho ?hn ?hr ?_;(case ho=>rfl);(case hg=>rfl);(case hn=>rfl);(case hr=>(first|(obtain⟨_,_,eo_⟩:=Kd.R_slice Av.out;subst eo_)|(obtain⟨_,_,eo_⟩:=Kd.S_slice Av.out;subst eo_)|(obtain⟨_,_,eo_⟩:=Kd.N_slice Av.out;subst eo_)|skip);first|(go_simp;done)|(go_simp;rfl));intro Fk hw;have hg:Gc.grownBy Fk (some Cf):=(by rw [hw];exact Dc.2);have hp_:Kd.R Kd.bool 4 Fk w.heap.size (fun _=>True) (.slice (some ⟨Cf,0,none⟩) Bc.length Dw) Cr:=(by rw [hw,Dp.out];exact Dc.1);clear Dc;replace Ac:=y0.mk (blk_grown (qk Ac.out) hg (Kd.R_ne Av.out Ac.out (by decide)));replace Av:=y0.mk (hp_);replace HB:=y0.mk ((by rw [hw];exact y3 (HB.out) Gg.out:Below w.heap.size w Fk));clear hg hw hp_))
 go_loopg [6] k (fun kq v6 w'=>∃(Bx:List Bool) (Aa:Int),v6=.int .i64 Aa∧y0 (z12_.l0 kq Bx Aa Ab Aw Ay Ar As=some r)∧y0 (kq≤k)∧y0 (Kd.R Kd.bool 4 w' w.heap.size (fun _=>True) (.slice (some ⟨Cf,0,none⟩) Bc.length Dw) Bx)∧y0 (w'.heap[Co]?=some (.cells #[(.slice Bq Ab.length Br),.int .i64 Aw,.string Ay,(.slice Bs Ar.length Bt),(.slice Bu As.length Bv)] 36 (0,0)))∧y0 (Below w.heap.size w w'))
 case atStart=>exact⟨(Cr),(a1),qy2,H',⟨Nat.le_refl _⟩,⟨qR Av.out⟩,⟨qk Ac.out⟩,⟨qb⟩⟩
 case round =>
  clear H'
  (try clear Fe Ff Fg Fh Fi Fj p7 q7 Cs Ct Cu Cv Cw Cx Cy Cz Da Db Dq p7 q7)
  obtain⟨Bx,Aa,rfl,HA,Dk,At,Ac,HB⟩:=hrel
  have Am:=(Kd.R_reads' At.out).1
  rw [Am]at At
  (try simp only [Am])
  (try simp only [Am]at Ac)
  cases gk with
  | zero=>exact absurd HA.out (by simp [z12_.l0])
  | succ k1 =>
   have H:=HA.out
   clear HA
   simp only [z12_.l0]at H
   by_cases Dl:Aa≥0
   ·rw [if_pos Dl]at H
    have Cp:decide (0≤Aa)=true:=decide_eq_true Dl
    clear Dl
    have H':=y0.mk H
    clear H
    go_wp2
    go_loopg [7] k1 (fun kq v7 w'=>∃(Au:List Bool) (Ai:Int),v7=.int .i64 Ai∧y0 (z12_.l1 kq Au Aa Ai Ab Aw Ay Ar As=some r)∧y0 (kq≤k1)∧y0 (Kd.R Kd.bool 4 w' w.heap.size (fun _=>True) (.slice (some ⟨Cf,0,none⟩) Bx.length Dw) Au)∧y0 (w'.heap[Co]?=some (.cells #[(.slice Bq Ab.length Br),.int .i64 Aw,.string Ay,(.slice Bs Ar.length Bt),(.slice Bu As.length Bv)] 36 (0,0)))∧y0 (Below w.heap.size w w'))
    case atStart=>exact⟨(Bx),(0),qy2,H',⟨Nat.le_refl _⟩,⟨by(try simp only [Am]);(with_reducible repeat(first|apply Kd.R_alloc|apply Kd.R_drewN|apply Kd.R_drew));exact At.out⟩,⟨by(try simp only [Am]);(with_reducible repeat(first|refine y10 ?_ _|refine y9 ?_|refine y6 ?_ _));exact Ac.out⟩,⟨qb⟩⟩
    case round =>
     clear H'
     (try clear Cp)
     obtain⟨Au,Ai,rfl,HA,Dm,At,Ac,HB⟩:=hrel
     have Ap:=(Kd.R_reads' At.out).1
     rw [Ap]at At
     (try simp only [Ap])
     (try simp only [Ap]at Ac)
     cases gk with
     | zero=>exact absurd HA.out (by simp [z12_.l1])
     | succ k2 =>
      have H:=HA.out
      clear HA
      simp only [z12_.l1]at H
      obtain⟨Gi,H⟩:=qo H
      have Gj:decide (0≤Aa)=true:=decide_eq_true Gi
      clear Gi
      obtain⟨Gk,H⟩:=qo H
      have Gl:decide (Aa < (Ab.length:Int))=true:=decide_eq_true Gk
      clear Gk
      by_cases Do:Ai < (((y20 Ab Aa).f2).length:Int)
      ·rw [if_pos Do]at H
       have Dr:=decide_eq_true Do
       clear Do
       obtain⟨Gm,H⟩:=qo H
       have Gn:decide (Aa < (Au.length:Int))=true:=decide_eq_true Gm
       clear Gm
       obtain⟨Ds,Bz⟩:∃ b_:Bool,b_=(rdOf false Au Aa):=⟨_,rfl⟩
       replace H:(if Ds=true then(if 0≤Ai then(if 0≤(rd ((y20 Ab Aa).f2) Ai)then(if(rd ((y20 Ab Aa).f2) Ai) < (Au.length:Int)then(z12_.l1 k2 (Au.set ((rd ((y20 Ab Aa).f2) Ai):Int).toNat true) Aa (wrap64 (Ai + 1)) Ab Aw Ay Ar As)else(none))else(none))else(none))else(z12_.l0 k2 Au (wrap64 (Aa - 1)) Ab Aw Ay Ar As))=some r:=by rw [← Bz]at H;exact H
       have Cq:=y0.mk Bz
       clear Bz
       by_cases Dx:Ds=true
       ·subst Dx
        replace H:=qT H
        obtain⟨Gp,H⟩:=qo H
        have Gq:decide (0≤Ai)=true:=decide_eq_true Gp
        clear Gp
        obtain⟨Gr,H⟩:=qo H
        have Gs:decide (0≤(rd ((y20 Ab Aa).f2) Ai))=true:=decide_eq_true Gr
        clear Gr
        obtain⟨Gt,H⟩:=qo H
        have Gu:decide ((rd ((y20 Ab Aa).f2) Ai) < (Au.length:Int))=true:=decide_eq_true Gt
        clear Gt
        obtain⟨Dd,Bi⟩:∃ y_:List Bool,y_=(Au.set ((rd ((y20 Ab Aa).f2) Ai):Int).toNat true):=⟨_,rfl⟩
        replace H:(z12_.l1 k2 Dd Aa (wrap64 (Ai + 1)) Ab Aw Ay Ar As)=some r:=by first|(rw [Bi];with_reducible exact H)|(have H2_:=(Option.bind_some _ _).symm.trans H;rw [Bi];with_reducible exact H2_)|(have H2_:=(Option.bind_some _ _).symm.trans H;with_reducible exact H2_)|with_reducible exact H|(rw [Bi];exact H)|exact H
        have Dt:=y0.mk Bi
        clear Bi
        have H':=y0.mk H
        clear H
        obtain⟨Dy,Dz,Ea,Eb,Ec,Ed,Ee,Ef,Eg,Eh⟩:=qz5 Ac.out
        have Ba:0≤(Aa:Int):=of_decide_eq_true qy0
        have Bb:Aa < (Ab.length:Int):=of_decide_eq_true qy0
        obtain⟨Ca,Cb,Cc,Cd,Af,Ag,Ad,Aj,Ak⟩:=at_T48 Bl.out Aa Ba Bb
        cases Cd
        replace Af:=(HB.out.cell (World.block_lt_of_cell? w _ Af)).trans Af
        replace Ag:=(HB.out.cell (World.block_lt_of_cell? w _ Ag)).trans Ag
        replace Ad:=(HB.out.cell (World.block_lt_of_cell? w _ Ad)).trans Ad
        have Bm:=y0.mk Ak
        have Bn:=y0.mk Aj
        clear Ak Aj
        replace Ba:=eq_true Ba
        replace Bb:=eq_true Bb
        have Bj:0≤(Aa:Int):=of_decide_eq_true qy0
        have Bk:Aa < (Au.length:Int):=of_decide_eq_true qy0
        obtain⟨Ce,De,Ah⟩:=Kd.at_bool (Kd.R_reads' At.out).2.2 Aa Bj Bk
        (try rw [← Cq.out]at Ah)
        obtain rfl:(⟨Cf,0,none⟩:Addr)=Ce:=(by injection De)
        (first|simp only [add_plain]at Ah|simp only [add_at]at Ah|simp only [Addr.add,Nat.zero_add]at Ah|skip)
        replace Bj:=eq_true Bj
        replace Bk:=eq_true Bk
        have Df:0≤(Aa:Int):=of_decide_eq_true qy0
        have Dg:Aa < (Ab.length:Int):=of_decide_eq_true qy0
        obtain⟨Du,Fl,Fm,Fn,Bd,Be,Az,Bo,Bp⟩:=at_T48 Bl.out Aa Df Dg
        obtain rfl:Ca=Du:=(by injection Fn)
        replace Bd:=(HB.out.cell (World.block_lt_of_cell? w _ Bd)).trans Bd
        replace Be:=(HB.out.cell (World.block_lt_of_cell? w _ Be)).trans Be
        replace Az:=(HB.out.cell (World.block_lt_of_cell? w _ Az)).trans Az
        have Cg:=y0.mk Bp
        have Ei:=y0.mk Bo
        clear Bp Bo
        replace Df:=eq_true Df
        replace Dg:=eq_true Dg
        have ea_:=Option.some.inj (Ad.symm.trans Az)
        injection ea_ with ea_ en_ ec_
        subst ea_
        subst ec_
        clear en_
        have Dh:0≤(Ai:Int):=of_decide_eq_true qy0
        have Di:Ai < (((y20 Ab Aa).f2).length:Int):=of_decide_eq_true qy0
        obtain⟨Gv,Fo,Bf⟩:=Kd.at_int Cg.out Ai Dh Di
        cases Fo
        replace Bf:=(HB.out.cell (World.block_lt_of_cell? w _ Bf)).trans Bf
        replace Dh:=eq_true Dh
        replace Di:=eq_true Di
        have Fp:0≤((rd ((y20 Ab Aa).f2) Ai):Int):=of_decide_eq_true qy0
        have Fq:((rd ((y20 Ab Aa).f2) Ai):Int) < ((Au.length:Int):Int):=of_decide_eq_true qy0
        obtain⟨Fr,Fs⟩:=Kd.R_celln false At.out ((rd ((y20 Ab Aa).f2) Ai):Int) Fp Fq
        replace Fp:=eq_true Fp
        replace Fq:=eq_true Fq
        have Dj:=Kd.R_putg At.out ((rd ((y20 Ab Aa).f2) Ai):Int) true
        go_wp2_with (first|((with_reducible refine gate_store (t:=4) (p:=47) rfl ?_);refine store_event (t:=4) (p:=47) (v:=?vo_w27) (w1:=(wr.setCell ⟨Cf,((rd ((y20 Ab Aa).f2) Ai):Int).toNat,none⟩ (.bool true))) ?hg ?ho ?hn ?hr ?_;(case ho=>rfl);(case hg=>rfl);(case hn=>rfl);(case hr=>first|(go_simp;done)|(go_simp;rfl));intro Ft hw;have hg:wr.grownBy Ft (some Cf):=(by rw [hw];exact Dj.2);have hp_:Kd.R Kd.bool 4 Ft w.heap.size (fun _=>True) (.slice (some ⟨Cf,0,none⟩) Au.length Dw) Dd:=(by rw [hw,Dt.out];exact Dj.1);clear Dj;replace Ac:=y0.mk (blk_grown (qk Ac.out) hg (Kd.R_ne At.out Ac.out (by decide)));replace At:=y0.mk (hp_);replace HB:=y0.mk ((by rw [hw];exact y3 (HB.out) Gg.out:Below w.heap.size w Ft));clear hg hw hp_))
        (try simp only [← Ap])
        go_roundg k2
        case measure=>have:=Dk.out;have:=Dm.out;omega
        exact⟨(Dd),(wrap64 (Ai + 1)),qy2,H',⟨by have:=Dk.out;have:=Dm.out;omega⟩,⟨by(try simp only [Am]);(try simp only [Ap]);(with_reducible repeat(first|apply Kd.R_alloc|apply Kd.R_drewN|apply Kd.R_drew));exact At.out⟩,⟨by(try simp only [Am]);(try simp only [Ap]);(with_reducible repeat(first|refine y10 ?_ _|refine y9 ?_|refine y6 ?_ _));exact Ac.out⟩,⟨qb⟩⟩
       ·replace Dx:=Bool.eq_false_iff.mpr Dx
        subst Dx
        replace H:=qF H
        have H':=y0.mk H
        clear H
        obtain⟨Ej,Ek,El,Em,En,Eo,Ep,Eq,Er,Es⟩:=qz5 Ac.out
        have Ba:0≤(Aa:Int):=of_decide_eq_true qy0
        have Bb:Aa < (Ab.length:Int):=of_decide_eq_true qy0
        obtain⟨Ca,Cb,Cc,Cd,Af,Ag,Ad,Aj,Ak⟩:=at_T48 Bl.out Aa Ba Bb
        cases Cd
        replace Af:=(HB.out.cell (World.block_lt_of_cell? w _ Af)).trans Af
        replace Ag:=(HB.out.cell (World.block_lt_of_cell? w _ Ag)).trans Ag
        replace Ad:=(HB.out.cell (World.block_lt_of_cell? w _ Ad)).trans Ad
        have Bm:=y0.mk Ak
        have Bn:=y0.mk Aj
        clear Ak Aj
        replace Ba:=eq_true Ba
        replace Bb:=eq_true Bb
        have Bj:0≤(Aa:Int):=of_decide_eq_true qy0
        have Bk:Aa < (Au.length:Int):=of_decide_eq_true qy0
        obtain⟨Ce,De,Ah⟩:=Kd.at_bool (Kd.R_reads' At.out).2.2 Aa Bj Bk
        (try rw [← Cq.out]at Ah)
        obtain rfl:(⟨Cf,0,none⟩:Addr)=Ce:=(by injection De)
        (first|simp only [add_plain]at Ah|simp only [add_at]at Ah|simp only [Addr.add,Nat.zero_add]at Ah|skip)
        replace Bj:=eq_true Bj
        replace Bk:=eq_true Bk
        go_wp2
        (try simp only [← Am,← Ap])
        go_roundg k2
        case measure=>have:=Dk.out;have:=Dm.out;omega
        exact⟨(Au),(wrap64 (Aa - 1)),qy2,H',⟨by have:=Dk.out;have:=Dm.out;omega⟩,⟨by(try simp only [Am]);(try simp only [Ap]);(with_reducible repeat(first|apply Kd.R_alloc|apply Kd.R_drewN|apply Kd.R_drew));exact At.out⟩,⟨by(try simp only [Am]);(try simp only [Ap]);(with_reducible repeat(first|refine y10 ?_ _|refine y9 ?_|refine y6 ?_ _));exact Ac.out⟩,⟨qb⟩⟩
      ·rw [if_neg Do]at H
       have Dr:=decide_eq_false Do
       clear Do
       have H':=y0.mk H
       clear H
       obtain⟨Et,Eu,Ew,Ex,Ey,Ez,Fa,Fb,Fc,Fd⟩:=qz5 Ac.out
       have Ba:0≤(Aa:Int):=of_decide_eq_true qy0
       have Bb:Aa < (Ab.length:Int):=of_decide_eq_true qy0
       obtain⟨Ca,Cb,Cc,Cd,Af,Ag,Ad,Aj,Ak⟩:=at_T48 Bl.out Aa Ba Bb
       cases Cd
       replace Af:=(HB.out.cell (World.block_lt_of_cell? w _ Af)).trans Af
       replace Ag:=(HB.out.cell (World.block_lt_of_cell? w _ Ag)).trans Ag
       replace Ad:=(HB.out.cell (World.block_lt_of_cell? w _ Ad)).trans Ad
       have Bm:=y0.mk Ak
       have Bn:=y0.mk Aj
       clear Ak Aj
       replace Ba:=eq_true Ba
       replace Bb:=eq_true Bb
       go_wp2
       (try simp only [← Am,← Ap])
       go_roundg k2
       case measure=>have:=Dk.out;have:=Dm.out;omega
       exact⟨(Au),(wrap64 (Aa - 1)),qy2,H',⟨by have:=Dk.out;have:=Dm.out;omega⟩,⟨by(try simp only [Am]);(try simp only [Ap]);(with_reducible repeat(first|apply Kd.R_alloc|apply Kd.R_drewN|apply Kd.R_drew));exact At.out⟩,⟨by(try simp only [Am]);(try simp only [Ap]);(with_reducible repeat(first|refine y10 ?_ _|refine y9 ?_|refine y6 ?_ _));exact Ac.out⟩,⟨qb⟩⟩
   ·rw [if_neg Dl]at H
    have Cp:decide (0≤Aa)=false:=decide_eq_false Dl
    clear Dl
    obtain rfl:=Option.some.inj H
    go_wp2
    go_ret
    exact⟨_,by first|rfl|(simp [y12,y13] <;> rfl)|(simp [*,y12,y13] <;> rfl),by(with_reducible repeat(first|apply Kd.R_alloc|apply Kd.R_drewN|apply Kd.R_drew));exact At.out,qb⟩
def z10_.l0:Nat→Int→Int→Int→List Bool→Int→List (S48)→Int→ByteArray→List Int→List (S33)→Option (Bool)
 | 0,_,_,_,_,_,_,_,_,_,_=>none
 | k + 1,x1,x2,x3,x9,x10,x261000,x261001,x261002,x261003,x261004=>if x10≤x1 then(if 0≤x10 then(if x10 < (x9.length:Int)then(if rdOf false x9 x10=true then(if x10 < (x261000.length:Int)then((spec_l01Between.f ((y20 x261000 x10).f0) x2 x3).bind fun t266=>(if t266=true then(some true)else(z10_.l0 k x1 x2 x3 x9 (wrap64 (x10 + 1)) x261000 x261001 x261002 x261003 x261004)))else(none))else(z10_.l0 k x1 x2 x3 x9 (wrap64 (x10 + 1)) x261000 x261001 x261002 x261003 x261004))else(none))else(none))else(some false)
def z10_.f (k:Nat) (l0_0:List (S48)) (a0_1:Int) (a0_2:ByteArray) (l0_3:List Int) (l0_4:List (S33)) (a1:Int) (a2:Int) (a3:Int):Option (Bool):=(z12_.f k l0_0 a0_1 a0_2 l0_3 l0_4 a1).bind fun t261=>(z10_.l0 k a1 a2 a3 t261 0 l0_0 a0_1 a0_2 l0_3 l0_4)
set_option maxHeartbeats 8000000 in
set_option maxRecDepth 100000 in
theorem z10_.calls (k:Nat) (Aw:Option Addr) (Ay:Nat) (Ab:List (S48)) (Ag:Int) (Ah:ByteArray) (Az:Option Addr) (Ba:Nat) (Ac:List Int) (Bb:Option Addr) (Bc:Nat) (Ad:List (S33)) (a1:Int) (a2:Int) (a3:Int) (r:Bool) (w:World) (Be:Kd.C k48 w Aw Ab.length Ab) (Bf:Ab.length≤Ay) (Bg:Kd.C (Kd.int .i64) w Az Ac.length Ac) (Bh:Ac.length≤Ba) (Bi:Kd.C k33 w Bb Ad.length Ad) (Bj:Ad.length≤Bc) (h:z10_.f k Ab Ag Ah Ac Ad a1 a2 a3=some r) :
  Calls Tryz.prog 37 #[.agg #[.slice Aw Ab.length Ay,.int .i64 Ag,.string Ah,.slice Az Ac.length Ba,.slice Bb Ad.length Bc],.int .i64 a1,.int .i64 a2,.int .i64 a3] w fun e w'=>e=.returned (.bool r)∧Below w.heap.size w w':=by
 have Ds:=Tryz.underlying36
 have Bk:=y0.mk Be
 have Cb:=y0.mk Bf
 clear Be Bf
 have Cc:=y0.mk Bg
 have Cd:=y0.mk Bh
 clear Bg Bh
 have Ce:=y0.mk Bi
 have Cf:=y0.mk Bj
 clear Bi Bj
 have HB:=y0.mk (Below.refl w.heap.size w)
 have H:((z12_.f k Ab Ag Ah Ac Ad a1).bind fun Ai=>(z10_.l0 k a1 a2 a3 Ai 0 Ab Ag Ah Ac Ad))=some r:=h
 clear h
 obtain⟨Ai,A5,H⟩:=qB H
 have H':=y0.mk H
 clear H
 go_enter Tryz.func37,Tryz.ntmps37
 go_wp2_with (first|((with_reducible refine y16 (N:=4) rfl ?_);refine qe 4 #[.slice Aw Ab.length Ay,.int .i64 Ag,.string Ah,.slice Az Ac.length Ba,.slice Bb Ad.length Bc] 36 ?_;intro Cg hg w6 hbox hb;have Af:=y0.mk (hbox);have Dg:=y0.mk (qg (w:=w) hg);have Dh:=y0.mk (qg (w:=w) hg);replace HB:=y0.mk (y5 qb hb);clear hb hbox hg;obtain⟨Bm,Bn,Bo,Bp,Bq,Br,Bs,Bt,Bu,Bv⟩:=qz5 Af.out)|((with_reducible refine y15 (f:=36) rfl ?_);refine y17 (some 13) rfl rfl Tryz.func36 (by kernel_rfl) rfl #[.agg #[.slice Aw Ab.length Ay,.int .i64 Ag,.string Ah,.slice Az Ac.length Ba,.slice Bb Ad.length Bc],.int .i64 a1] rfl qy1 ?_;(with_reducible refine(z12_.calls k _ _ Ab Ag Ah _ _ Ac _ _ Ad a1 Ai _ (qc (Kd.C_below Bk.out HB.out)) Cb.out (qc (Kd.C_below Cc.out HB.out)) Cd.out (qc (Kd.C_below Ce.out HB.out)) Cf.out A5.out).mono ?_);rintro e w8 ⟨Cz,rfl,Di,hb⟩;refine⟨_,rfl, ?_⟩;have Ch:=y0.mk (Kd.R_lower Di (y4 qb));replace Af:=y0.mk (qK Af.out hb);replace HB:=y0.mk (y5 qb hb);(try clear hb);(try clear Di)))
 go_loopg [10] k (fun kq Dt w'=>∃(Aa:Int),Dt=.int .i64 Aa∧y0 (z10_.l0 kq a1 a2 a3 Ai Aa Ab Ag Ah Ac Ad=some r)∧y0 (kq≤k)∧y0 (Kd.R Kd.bool 4 w' w.heap.size (fun _=>True) Cz Ai)∧y0 (w'.heap[Cg]?=some (.cells #[(.slice Aw Ab.length Ay),.int .i64 Ag,.string Ah,(.slice Az Ac.length Ba),(.slice Bb Ad.length Bc)] 36 (0,0)))∧y0 (Below w.heap.size w w'))
 case atStart=>exact⟨(0),qy2,H',⟨Nat.le_refl _⟩,⟨qR Ch.out⟩,⟨qk Af.out⟩,⟨qb⟩⟩
 case round =>
  clear H'
  (try clear Bm Bn Bo Bp Bq Br Bs Bt Bu Bv)
  obtain⟨Aa,rfl,HA,Ck,Av,Af,HB⟩:=hrel
  cases gk with
  | zero=>exact absurd HA.out (by simp [z10_.l0])
  | succ k1 =>
   have H:=HA.out
   clear HA
   simp only [z10_.l0]at H
   by_cases c9:Aa≤a1
   ·rw [if_pos c9]at H
    have Da:=decide_eq_true c9
    clear c9
    obtain⟨Dj,H⟩:=qo H
    have Dk:decide (0≤Aa)=true:=decide_eq_true Dj
    clear Dj
    obtain⟨Dl,H⟩:=qo H
    have Dm:decide (Aa < (Ai.length:Int))=true:=decide_eq_true Dl
    clear Dl
    obtain⟨Ci,Bd⟩:∃ b_:Bool,b_=(rdOf false Ai Aa):=⟨_,rfl⟩
    replace H:(if Ci=true then(if Aa < (Ab.length:Int)then((spec_l01Between.f ((y20 Ab Aa).f0) a2 a3).bind fun Bw=>(if Bw=true then(some true)else(z10_.l0 k1 a1 a2 a3 Ai (wrap64 (Aa + 1)) Ab Ag Ah Ac Ad)))else(none))else(z10_.l0 k1 a1 a2 a3 Ai (wrap64 (Aa + 1)) Ab Ag Ah Ac Ad))=some r:=by rw [← Bd]at H;exact H
    have Bl:=y0.mk Bd
    clear Bd
    by_cases Cl:Ci=true
    ·subst Cl
     replace H:=qT H
     obtain⟨Do,H⟩:=qo H
     have Dp:decide (Aa < (Ab.length:Int))=true:=decide_eq_true Do
     clear Do
     obtain⟨Bw,Dq,H⟩:=qB H
     obtain⟨Du,Dw,Db⟩:=Kd.R_slice Av.out
     subst Db
     have Ar:0≤(Aa:Int):=of_decide_eq_true qy0
     have As:Aa < (Ai.length:Int):=of_decide_eq_true qy0
     obtain⟨Cj,Bx,Aj⟩:=Kd.at_bool (Kd.R_reads' Av.out).2.2 Aa Ar As
     (try rw [← Bl.out]at Aj)
     cases Bx
     replace Ar:=eq_true Ar
     replace As:=eq_true As
     obtain⟨Cm,Cn,Co,Cp,Cq,Cr,Cs,Ct,Cu,Cv⟩:=qz5 Af.out
     have Bz:0≤(Aa:Int):=of_decide_eq_true qy0
     have Ca:Aa < (Ab.length:Int):=of_decide_eq_true qy0
     obtain⟨Dr,Dc,Dd,De,Ak,Am,Ap,At,Au⟩:=at_T48 Bk.out Aa Bz Ca
     cases De
     replace Ak:=(HB.out.cell (World.block_lt_of_cell? w _ Ak)).trans Ak
     replace Am:=(HB.out.cell (World.block_lt_of_cell? w _ Am)).trans Am
     replace Ap:=(HB.out.cell (World.block_lt_of_cell? w _ Ap)).trans Ap
     have Cw:=y0.mk Au
     have Cx:=y0.mk At
     clear Au At
     replace Bz:=eq_true Bz
     replace Ca:=eq_true Ca
     by_cases Cy:Bw=true
     ·subst Cy
      replace H:=qT H
      obtain rfl:=Option.some.inj H
      go_wp2_with (first|(go_at_call 52;(with_reducible refine(spec_l01Between.calls ((y20 Ab Aa).f0) a2 a3 true _ Dq.out).mono ?_);rintro e w' ⟨rfl,⟨nd,rfl⟩⟩))
      go_ret
      exact⟨qf,qb⟩
     ·replace Cy:=Bool.eq_false_iff.mpr Cy
      subst Cy
      replace H:=qF H
      have H':=y0.mk H
      clear H
      go_wp2_with (first|(go_at_call 52;(with_reducible refine(spec_l01Between.calls ((y20 Ab Aa).f0) a2 a3 false _ Dq.out).mono ?_);rintro e w' ⟨rfl,⟨nd,rfl⟩⟩))
      go_roundg k1
      case measure=>have:=Ck.out;omega
      exact⟨(wrap64 (Aa + 1)),qy2,H',⟨by have:=Ck.out;omega⟩,⟨qR Av.out⟩,⟨qk Af.out⟩,⟨qb⟩⟩
    ·replace Cl:=Bool.eq_false_iff.mpr Cl
     subst Cl
     replace H:=qF H
     have H':=y0.mk H
     clear H
     obtain⟨Dx,Dy,Df⟩:=Kd.R_slice Av.out
     subst Df
     have Ar:0≤(Aa:Int):=of_decide_eq_true qy0
     have As:Aa < (Ai.length:Int):=of_decide_eq_true qy0
     obtain⟨Cj,Bx,Aj⟩:=Kd.at_bool (Kd.R_reads' Av.out).2.2 Aa Ar As
     (try rw [← Bl.out]at Aj)
     cases Bx
     replace Ar:=eq_true Ar
     replace As:=eq_true As
     go_wp2
     go_roundg k1
     case measure=>have:=Ck.out;omega
     exact⟨(wrap64 (Aa + 1)),qy2,H',⟨by have:=Ck.out;omega⟩,⟨qR Av.out⟩,⟨qk Af.out⟩,⟨qb⟩⟩
   ·rw [if_neg c9]at H
    have Da:=decide_eq_false c9
    clear c9
    obtain rfl:=Option.some.inj H
    go_wp2
    go_ret
    exact⟨qf,qb⟩
end Go.Proofs.YtkdabljlfbmpdaaGreat.Pb
end
section
namespace Go.Proofs.YtkdabljlfbmpdaaGreat.Pb
open Go.RowKit Go.Proofs.YtkdabljlfbmpdaaGreatW.PrintWords Go.Proofs.YtkdabljlfbmpdaaGreatW.PrintLast Go.Proofs.YtkdabljlfbmpdaaGreatW.PrintMore
attribute [local go_sem] max2_int min2_int max_two min_two max_three min_three max_four min_four   -- for this text's walks alone
set_option linter.unusedVariables false
set_option linter.unusedSimpArgs false
def spec_l06All.l0:Nat→List ByteArray→List ByteArray→Int→Option (Bool)
 | 0,_,_,_=>none
 | k + 1,x0,x1,x5=>if x5 < (x0.length:Int)then(if 0≤x5 then((spec_l05In.f k x1 (rdOf ByteArray.empty x0 x5)).bind fun t268=>(if t268=true then(spec_l06All.l0 k x0 x1 (wrap64 (x5 + 1)))else(some false)))else(none))else(some true)
def spec_l06All.f (k:Nat) (l0:List ByteArray) (l1:List ByteArray):Option (Bool):=spec_l06All.l0 k l0 l1 0
set_option maxHeartbeats 8000000 in
set_option maxRecDepth 100000 in
theorem spec_l06All.calls (k:Nat) (A0:Option Addr) (c0:Nat) (l0:List ByteArray) (A1:Option Addr) (c1:Nat) (l1:List ByteArray) (r:Bool) (w:World) (Ai:Kd.C Kd.string w A0 l0.length l0) (Aj:l0.length≤c0) (Ak:Kd.C Kd.string w A1 l1.length l1) (Am:l1.length≤c1) (h:spec_l06All.f k l0 l1=some r) :
  Calls Tryz.prog 38 #[.slice A0 l0.length c0,.slice A1 l1.length c1] w fun e w'=>e=.returned (.bool r)∧Drawn0 w w':=by
 have Au:=y0.mk Ai
 have Aw:=y0.mk Aj
 clear Ai Aj
 have Ap:=y0.mk Ak
 have Ar:=y0.mk Am
 clear Ak Am
 have H:(spec_l06All.l0 k l0 l1 0)=some r:=h
 clear h
 have H':=y0.mk H
 clear H
 go_enter Tryz.func38,Tryz.ntmps38
 go_wp2
 go_loopg [5] k (fun kq v5 w'=>∃(Aa:Int),v5=.int .i64 Aa∧y0 (spec_l06All.l0 kq l0 l1 Aa=some r)∧y0 (kq≤k)∧Drawn0 w w')
 case atStart=>exact⟨(0),qy2,H',⟨Nat.le_refl _⟩,by repeat(first|exact Drawn0.refl _|apply Drawn0.step)⟩
 case round =>
  clear H'
  obtain⟨Aa,rfl,HA,As,⟨m1,rfl⟩⟩:=hrel
  cases gk with
  | zero=>exact absurd HA.out (by simp [spec_l06All.l0])
  | succ k1 =>
   have H:=HA.out
   clear HA
   simp only [spec_l06All.l0]at H
   by_cases c3:Aa < (l0.length:Int)
   ·rw [if_pos c3]at H
    have Af:=decide_eq_true c3
    clear c3
    obtain⟨c4,H⟩:=qo H
    have Av:=decide_eq_true c4
    clear c4
    obtain⟨Ag,A5,H⟩:=qB H
    have Ab:0≤(Aa:Int):=of_decide_eq_true qy0
    have Ac:Aa < (l0.length:Int):=of_decide_eq_true qy0
    obtain⟨At,Ah,Ad⟩:=Kd.at_string Au.out Aa Ab Ac
    cases Ah
    replace Ab:=eq_true Ab
    replace Ac:=eq_true Ac
    by_cases c6:Ag=true
    ·subst c6
     replace H:=qT H
     have H':=y0.mk H
     clear H
     go_wp2_with (first|((with_reducible refine y15 (f:=18) rfl ?_);refine y17 (some 17) rfl rfl Tryz.func18 (by kernel_rfl) rfl #[.slice A1 l1.length c1,.string (rdOf ByteArray.empty l0 Aa)] rfl qy1 ?_;(with_reducible refine(spec_l05In.calls k1 _ _ l1 (rdOf ByteArray.empty l0 Aa) true _ (qc Ap.out) Ar.out A5.out).mono ?_);rintro e w' ⟨rfl,⟨nd,rfl⟩⟩;refine⟨_,rfl, ?_⟩))
     go_roundg k1
     case measure=>have:=As.out;omega
     exact⟨(wrap64 (Aa + 1)),qy2,H',⟨by have:=As.out;omega⟩,by repeat(first|exact Drawn0.refl _|apply Drawn0.step)⟩
    ·replace c6:=Bool.eq_false_iff.mpr c6
     subst c6
     replace H:=qF H
     obtain rfl:=Option.some.inj H
     go_wp2_with (first|((with_reducible refine y15 (f:=18) rfl ?_);refine y17 (some 17) rfl rfl Tryz.func18 (by kernel_rfl) rfl #[.slice A1 l1.length c1,.string (rdOf ByteArray.empty l0 Aa)] rfl qy1 ?_;(with_reducible refine(spec_l05In.calls k1 _ _ l1 (rdOf ByteArray.empty l0 Aa) false _ (qc Ap.out) Ar.out A5.out).mono ?_);rintro e w' ⟨rfl,⟨nd,rfl⟩⟩;refine⟨_,rfl, ?_⟩))
     go_ret
     exact qf2
   ·rw [if_neg c3]at H
    have Af:=decide_eq_false c3
    clear c3
    obtain rfl:=Option.some.inj H
    go_wp2
    go_ret
    exact qf2
def spec_l06Vars.l0:Nat→Int→List ByteArray→List Bool→Int→List (S48)→Int→ByteArray→List Int→List (S33)→Option (List ByteArray)
 | 0,_,_,_,_,_,_,_,_,_=>none
 | k + 1,x1,x5,x6,x7,x270000,x270001,x270002,x270003,x270004=>if x7≤x1 then(if 0≤x7 then(if x7 < (x6.length:Int)then(if rdOf false x6 x7=true then(if x7 < (x270000.length:Int)then(if((y20 x270000 x7).f0)=1 then((spec_l05In.f k x5 ((y20 x270000 x7).f1)).bind fun t279=>(if t279=true then(spec_l06Vars.l0 k x1 x5 x6 (wrap64 (x7 + 1)) x270000 x270001 x270002 x270003 x270004)else(if x5.length < 8796093022208 then(spec_l06Vars.l0 k x1 (x5 ++ [(y20 x270000 x7).f1]) x6 (wrap64 (x7 + 1)) x270000 x270001 x270002 x270003 x270004)else(none))))else(spec_l06Vars.l0 k x1 x5 x6 (wrap64 (x7 + 1)) x270000 x270001 x270002 x270003 x270004))else(none))else(spec_l06Vars.l0 k x1 x5 x6 (wrap64 (x7 + 1)) x270000 x270001 x270002 x270003 x270004))else(none))else(none))else(some x5)
def spec_l06Vars.f (k:Nat) (l0_0:List (S48)) (a0_1:Int) (a0_2:ByteArray) (l0_3:List Int) (l0_4:List (S33)) (a1:Int):Option (List ByteArray):=(z12_.f k l0_0 a0_1 a0_2 l0_3 l0_4 a1).bind fun t273=>(spec_l06Vars.l0 k a1 (([]:List ByteArray)) t273 0 l0_0 a0_1 a0_2 l0_3 l0_4)
set_option maxHeartbeats 8000000 in
set_option maxRecDepth 100000 in
theorem spec_l06Vars.calls (k:Nat) (Bv:Option Addr) (Bw:Nat) (Ab:List (S48)) (Av:Int) (Aw:ByteArray) (Bx:Option Addr) (Bz:Nat) (Ak:List Int) (Ca:Option Addr) (Cb:Nat) (Am:List (S33)) (a1:Int) (r:List ByteArray) (w:World) (Cl:Kd.C k48 w Bv Ab.length Ab) (Cm:Ab.length≤Bw) (Cn:Kd.C (Kd.int .i64) w Bx Ak.length Ak) (Co:Ak.length≤Bz) (Cp:Kd.C k33 w Ca Am.length Am) (Cq:Am.length≤Cb) (h:spec_l06Vars.f k Ab Av Aw Ak Am a1=some r) :
  Calls Tryz.prog 39 #[.agg #[.slice Bv Ab.length Bw,.int .i64 Av,.string Aw,.slice Bx Ak.length Bz,.slice Ca Am.length Cb],.int .i64 a1] w fun e w'=>∃ v0_:Value,e=.returned (v0_)∧Kd.R Kd.string 9 w' w.heap.size (fun _=>True) v0_ r∧Below w.heap.size w w':=by
 have Gl:=Tryz.underlying36
 have Bf:=y0.mk Cl
 have Dk:=y0.mk Cm
 clear Cl Cm
 have Dl:=y0.mk Cn
 have Dm:=y0.mk Co
 clear Cn Co
 have Do:=y0.mk Cp
 have Dp:=y0.mk Cq
 clear Cp Cq
 have HB:=y0.mk (Below.refl w.heap.size w)
 have H:((z12_.f k Ab Av Aw Ak Am a1).bind fun At=>(spec_l06Vars.l0 k a1 (([]:List ByteArray)) At 0 Ab Av Aw Ak Am))=some r:=h
 clear h
 obtain⟨Dq,Bk⟩:∃ y_:List ByteArray,y_=(([]:List ByteArray)):=⟨_,rfl⟩
 replace H:((z12_.f k Ab Av Aw Ak Am a1).bind fun At=>(spec_l06Vars.l0 k a1 Dq At 0 Ab Av Aw Ak Am))=some r:=by first|(rw [Bk];with_reducible exact H)|(have H2_:=(Option.bind_some _ _).symm.trans H;rw [Bk];with_reducible exact H2_)|(have H2_:=(Option.bind_some _ _).symm.trans H;with_reducible exact H2_)|with_reducible exact H|(rw [Bk];exact H)|exact H
 have Cr:=y0.mk Bk
 clear Bk
 obtain⟨At,A3,H⟩:=qB H
 have H':=y0.mk H
 clear H
 go_enter Tryz.func39,Tryz.ntmps39
 go_wp2_with (first|((with_reducible refine y16 (N:=2) rfl ?_);refine qe 2 #[.slice Bv Ab.length Bw,.int .i64 Av,.string Aw,.slice Bx Ak.length Bz,.slice Ca Am.length Cb] 36 ?_;intro Dr hg w4 hbox hb;have Ag:=y0.mk (hbox);have Ga:=y0.mk (qg (w:=w) hg);have Gb:=y0.mk (qg (w:=w) hg);replace HB:=y0.mk (y5 qb hb);clear hb hbox hg)|((with_reducible refine y16 (N:=8) rfl ?_);refine qL Kd.string 9 8 ([]:List ByteArray) ?_;intro Gm w5 Ds hb hg_ hnew_;clear hg_ hnew_;(first|rw [← Cr.out]at Ds|(simp only [Int.reduceToNat]at Ds;rw [← Cr.out]at Ds));have Cc:=y0.mk (Kd.R_lower Ds (y4 qb));replace Ag:=y0.mk (qK Ag.out hb);replace HB:=y0.mk (y5 qb hb);clear hb Ds;obtain⟨Ct,Cu,Cv,Cw,Cx,Cy,Cz,Da,Db,Dc⟩:=qz5 Ag.out)|((with_reducible refine y15 (f:=36) rfl ?_);refine y17 (some 11) rfl rfl Tryz.func36 (by kernel_rfl) rfl #[.agg #[.slice Bv Ab.length Bw,.int .i64 Av,.string Aw,.slice Bx Ak.length Bz,.slice Ca Am.length Cb],.int .i64 a1] rfl qy1 ?_;(with_reducible refine(z12_.calls k _ _ Ab Av Aw _ _ Ak _ _ Am a1 At _ (qc (Kd.C_below Bf.out HB.out)) Dk.out (qc (Kd.C_below Dl.out HB.out)) Dm.out (qc (Kd.C_below Do.out HB.out)) Dp.out A3.out).mono ?_);rintro e w8 ⟨Fm,rfl,Gc,hb⟩;refine⟨_,rfl, ?_⟩;replace Cc:=y0.mk (Kd.R_below (qR Cc.out) hb);have Dt:=y0.mk (Kd.R_lower Gc (y4 qb));replace Ag:=y0.mk (qK Ag.out hb);replace HB:=y0.mk (y5 qb hb);(try clear hb);(try clear Gc)))
 go_loopg [5,7] k (fun kq v5 v7 w'=>∃(Au:List ByteArray) (Aa:Int),v7=.int .i64 Aa∧y0 (spec_l06Vars.l0 kq a1 Au At Aa Ab Av Aw Ak Am=some r)∧y0 (kq≤k)∧y0 (Kd.R Kd.string 9 w' w.heap.size (fun _=>True) v5 Au)∧y0 (Kd.R Kd.bool 4 w' w.heap.size (fun _=>True) Fm At)∧y0 (w'.heap[Dr]?=some (.cells #[(.slice Bv Ab.length Bw),.int .i64 Av,.string Aw,(.slice Bx Ak.length Bz),(.slice Ca Am.length Cb)] 36 (0,0)))∧y0 (Below w.heap.size w w'))
 case atStart=>exact⟨(Dq),(0),qy2,H',⟨Nat.le_refl _⟩,⟨qR Cc.out⟩,⟨qR Dt.out⟩,⟨qk Ag.out⟩,⟨qb⟩⟩
 case round =>
  clear H'
  (try clear Ct Cu Cv Cw Cx Cy Cz Da Db Dc)
  obtain⟨Au,Aa,rfl,HA,Cs,Ba,Bb,Ag,HB⟩:=hrel
  cases gk with
  | zero=>exact absurd HA.out (by simp [spec_l06Vars.l0])
  | succ k1 =>
   have H:=HA.out
   clear HA
   simp only [spec_l06Vars.l0]at H
   by_cases c9:Aa≤a1
   ·rw [if_pos c9]at H
    have Fn:=decide_eq_true c9
    clear c9
    obtain⟨Gd,H⟩:=qo H
    have Ge:decide (0≤Aa)=true:=decide_eq_true Gd
    clear Gd
    obtain⟨Gf,H⟩:=qo H
    have Gg:decide (Aa < (At.length:Int))=true:=decide_eq_true Gf
    clear Gf
    obtain⟨Du,Cd⟩:∃ b_:Bool,b_=(rdOf false At Aa):=⟨_,rfl⟩
    replace H:(if Du=true then(if Aa < (Ab.length:Int)then(if((y20 Ab Aa).f0)=1 then((spec_l05In.f k1 Au ((y20 Ab Aa).f1)).bind fun Dd=>(if Dd=true then(spec_l06Vars.l0 k1 a1 Au At (wrap64 (Aa + 1)) Ab Av Aw Ak Am)else(if Au.length < 8796093022208 then(spec_l06Vars.l0 k1 a1 (Au ++ [(y20 Ab Aa).f1]) At (wrap64 (Aa + 1)) Ab Av Aw Ak Am)else(none))))else(spec_l06Vars.l0 k1 a1 Au At (wrap64 (Aa + 1)) Ab Av Aw Ak Am))else(none))else(spec_l06Vars.l0 k1 a1 Au At (wrap64 (Aa + 1)) Ab Av Aw Ak Am))=some r:=by rw [← Cd]at H;exact H
    have Bq:=y0.mk Cd
    clear Cd
    by_cases Ed:Du=true
    ·subst Ed
     replace H:=qT H
     obtain⟨Gh,H⟩:=qo H
     have Gi:decide (Aa < (Ab.length:Int))=true:=decide_eq_true Gh
     clear Gh
     by_cases De:((y20 Ab Aa).f0)=1
     ·rw [if_pos De]at H
      have Dw:(((y20 Ab Aa).f0) == 1)=true:=beq_iff_eq.mpr De
      have Dx:(((y20 Ab Aa).f0) != 1)=false:=bne_eq_false_iff_eq.mpr De
      clear De
      obtain⟨Dd,Gj,H⟩:=qB H
      by_cases Ee:Dd=true
      ·subst Ee
       replace H:=qT H
       have H':=y0.mk H
       clear H
       obtain⟨Gn,Gp,Fo⟩:=Kd.R_slice Bb.out
       subst Fo
       have Ay:0≤(Aa:Int):=of_decide_eq_true qy0
       have Az:Aa < (At.length:Int):=of_decide_eq_true qy0
       obtain⟨Ce,Bn,Ap⟩:=Kd.at_bool (Kd.R_reads' Bb.out).2.2 Aa Ay Az
       (try rw [← Bq.out]at Ap)
       cases Bn
       replace Ay:=eq_true Ay
       replace Az:=eq_true Az
       obtain⟨Ef,Eg,Eh,Ei,Ej,Ek,El,Em,En,Eo⟩:=qz5 Ag.out
       have Bg:0≤(Aa:Int):=of_decide_eq_true qy0
       have Bh:Aa < (Ab.length:Int):=of_decide_eq_true qy0
       obtain⟨Bl,Cf,Cg,Ch,Ad,Af,Ac,Ai,Aj⟩:=at_T48 Bf.out Aa Bg Bh
       cases Ch
       replace Ad:=(HB.out.cell (World.block_lt_of_cell? w _ Ad)).trans Ad
       replace Af:=(HB.out.cell (World.block_lt_of_cell? w _ Af)).trans Af
       replace Ac:=(HB.out.cell (World.block_lt_of_cell? w _ Ac)).trans Ac
       have Br:=y0.mk Aj
       have Bs:=y0.mk Ai
       clear Aj Ai
       replace Bg:=eq_true Bg
       replace Bh:=eq_true Bh
       have Bo:0≤(Aa:Int):=of_decide_eq_true qy0
       have Bp:Aa < (Ab.length:Int):=of_decide_eq_true qy0
       obtain⟨Ci,Df,Dg,Dh,Ar,As,Ah,Bc,Bd⟩:=at_T48 Bf.out Aa Bo Bp
       obtain rfl:Bl=Ci:=(by injection Dh)
       replace Ar:=(HB.out.cell (World.block_lt_of_cell? w _ Ar)).trans Ar
       replace As:=(HB.out.cell (World.block_lt_of_cell? w _ As)).trans As
       replace Ah:=(HB.out.cell (World.block_lt_of_cell? w _ Ah)).trans Ah
       have Cj:=y0.mk Bd
       have Ck:=y0.mk Bc
       clear Bd Bc
       replace Bo:=eq_true Bo
       replace Bp:=eq_true Bp
       have ea_:=Option.some.inj (Ac.symm.trans Ah)
       injection ea_ with ea_ en_ ec_
       subst ea_
       subst ec_
       clear en_
       obtain⟨Gq,Gr,Fp⟩:=Kd.R_slice Ba.out
       subst Fp
       go_wp2_with (first|(go_at_call 18;(with_reducible refine(spec_l05In.calls k1 _ _ Au ((y20 Ab Aa).f1) true _ (qc ((Kd.R_reads' Ba.out).2.2)) (by exact(Kd.R_reads' Ba.out).2.1) Gj.out).mono ?_);rintro e w' ⟨rfl,⟨nd,rfl⟩⟩))
       go_roundg k1
       case measure=>have:=Cs.out;omega
       exact⟨(Au),(wrap64 (Aa + 1)),qy2,H',⟨by have:=Cs.out;omega⟩,⟨qR Ba.out⟩,⟨qR Bb.out⟩,⟨qk Ag.out⟩,⟨qb⟩⟩
      ·replace Ee:=Bool.eq_false_iff.mpr Ee
       subst Ee
       replace H:=qF H
       obtain⟨Gk,H⟩:=qo H
       have Dy:=y0.mk Gk
       clear Gk
       obtain⟨Dz,Bm⟩:∃ y_:List ByteArray,y_=(Au ++ [(y20 Ab Aa).f1]):=⟨_,rfl⟩
       replace H:(spec_l06Vars.l0 k1 a1 Dz At (wrap64 (Aa + 1)) Ab Av Aw Ak Am)=some r:=by first|(rw [Bm];with_reducible exact H)|(have H2_:=(Option.bind_some _ _).symm.trans H;rw [Bm];with_reducible exact H2_)|(have H2_:=(Option.bind_some _ _).symm.trans H;with_reducible exact H2_)|with_reducible exact H|(rw [Bm];exact H)|exact H
       have Ea:=y0.mk Bm
       clear Bm
       have H':=y0.mk H
       clear H
       obtain⟨Gs,Gt,Fq⟩:=Kd.R_slice Bb.out
       subst Fq
       have Ay:0≤(Aa:Int):=of_decide_eq_true qy0
       have Az:Aa < (At.length:Int):=of_decide_eq_true qy0
       obtain⟨Ce,Bn,Ap⟩:=Kd.at_bool (Kd.R_reads' Bb.out).2.2 Aa Ay Az
       (try rw [← Bq.out]at Ap)
       cases Bn
       replace Ay:=eq_true Ay
       replace Az:=eq_true Az
       obtain⟨Ep,Eq,Er,Es,Et,Eu,Ew,Ex,Ey,Ez⟩:=qz5 Ag.out
       have Bg:0≤(Aa:Int):=of_decide_eq_true qy0
       have Bh:Aa < (Ab.length:Int):=of_decide_eq_true qy0
       obtain⟨Bl,Cf,Cg,Ch,Ad,Af,Ac,Ai,Aj⟩:=at_T48 Bf.out Aa Bg Bh
       cases Ch
       replace Ad:=(HB.out.cell (World.block_lt_of_cell? w _ Ad)).trans Ad
       replace Af:=(HB.out.cell (World.block_lt_of_cell? w _ Af)).trans Af
       replace Ac:=(HB.out.cell (World.block_lt_of_cell? w _ Ac)).trans Ac
       have Br:=y0.mk Aj
       have Bs:=y0.mk Ai
       clear Aj Ai
       replace Bg:=eq_true Bg
       replace Bh:=eq_true Bh
       have Bo:0≤(Aa:Int):=of_decide_eq_true qy0
       have Bp:Aa < (Ab.length:Int):=of_decide_eq_true qy0
       obtain⟨Ci,Df,Dg,Dh,Ar,As,Ah,Bc,Bd⟩:=at_T48 Bf.out Aa Bo Bp
       obtain rfl:Bl=Ci:=(by injection Dh)
       replace Ar:=(HB.out.cell (World.block_lt_of_cell? w _ Ar)).trans Ar
       replace As:=(HB.out.cell (World.block_lt_of_cell? w _ As)).trans As
       replace Ah:=(HB.out.cell (World.block_lt_of_cell? w _ Ah)).trans Ah
       have Cj:=y0.mk Bd
       have Ck:=y0.mk Bc
       clear Bd Bc
       replace Bo:=eq_true Bo
       replace Bp:=eq_true Bp
       have ea_:=Option.some.inj (Ac.symm.trans Ah)
       injection ea_ with ea_ en_ ec_
       subst ea_
       subst ec_
       clear en_
       obtain⟨Fr,Fs,Ft⟩:=Kd.R_slice Ba.out
       subst Ft
       go_wp2_with (first|(go_at_call 18;(with_reducible refine(spec_l05In.calls k1 _ _ Au ((y20 Ab Aa).f1) false _ (qc ((Kd.R_reads' Ba.out).2.2)) (by exact(Kd.R_reads' Ba.out).2.1) Gj.out).mono ?_);rintro e w' ⟨rfl,⟨nd,rfl⟩⟩;have Di:0≤(Aa:Int):=of_decide_eq_true qy0;have Dj:Aa < (Ab.length:Int):=of_decide_eq_true qy0;obtain⟨Eb,Fu,Fv,Fx,Bi,Bj,Be,Bt,Bu⟩:=at_T48 Bf.out Aa Di Dj;obtain rfl:Bl=Eb:=(by injection Fx);replace Bi:=(HB.out.cell (World.block_lt_of_cell? w _ Bi)).trans Bi;replace Bj:=(HB.out.cell (World.block_lt_of_cell? w _ Bj)).trans Bj;replace Be:=(HB.out.cell (World.block_lt_of_cell? w _ Be)).trans Be;have Fa:=y0.mk Bu;have Fb:=y0.mk Bt;clear Bu Bt;replace Di:=eq_true Di;replace Dj:=eq_true Dj;have ea_:=Option.some.inj (Ac.symm.trans Be);injection ea_ with ea_ en_ ec_;subst ea_;subst ec_;clear en_)|((with_reducible refine gate_builtin (b:=.append) (xs:=#[.tmp 41,.tmp 48]) rfl ?_);at_builtin;refine Kd.R_append Kd.string (w0:=w) w.heap.size rfl (.tmp 41) (.tmp 48) 30 9 (.string ⟨#[]⟩) 16 rfl Tryz.underlying30 info9 rfl (by decide) (by omega) (.slice Fr Au.length Fs) Au ((y20 Ab Aa).f1) [.string ((y20 Ab Aa).f1)] (fun _=>True) (fun _=>False) rfl rfl ?aP (fun _ hk=>hk.elim) ?aF ?aO ?aB ?aS ?aL ?_;(case aP=>exact rfl);(case aB=>exact qb);(case aF=>exact(fun _ _=>trivial));(case aO=>exact(qR Ba.out));(case aS=>exact(y4 qb));(case aL=>have:=Dy.out;omega);intro Gu Gz ho hb hg hat;rw [← Ea.out]at ho;replace Bb:=y0.mk (Kd.R_over' (qR Bb.out) (Kd.R_typed (qR Ba.out)) (by decide) hg);replace Ag:=y0.mk (blk_grown (qk Ag.out) hg (Kd.R_ne Ba.out Ag.out (by decide)));replace HB:=y0.mk (hb);have Ec:=y0.mk (ho);clear Ba;clear ho hb hg hat))
       go_roundg k1
       case measure=>have:=Cs.out;omega
       exact⟨(Dz),(wrap64 (Aa + 1)),qy2,H',⟨by have:=Cs.out;omega⟩,⟨qR Ec.out⟩,⟨qR Bb.out⟩,⟨qk Ag.out⟩,⟨qb⟩⟩
     ·rw [if_neg De]at H
      have Dw:(((y20 Ab Aa).f0) == 1)=false:=beq_eq_false_iff_ne.mpr De
      have Dx:(((y20 Ab Aa).f0) != 1)=true:=bne_iff_ne.mpr De
      have H':=y0.mk H
      clear H
      obtain⟨Gv,Gw,Fy⟩:=Kd.R_slice Bb.out
      subst Fy
      have Ay:0≤(Aa:Int):=of_decide_eq_true qy0
      have Az:Aa < (At.length:Int):=of_decide_eq_true qy0
      obtain⟨Ce,Bn,Ap⟩:=Kd.at_bool (Kd.R_reads' Bb.out).2.2 Aa Ay Az
      (try rw [← Bq.out]at Ap)
      cases Bn
      replace Ay:=eq_true Ay
      replace Az:=eq_true Az
      obtain⟨Fc,Fd,Fe,Ff,Fg,Fh,Fi,Fj,Fk,Fl⟩:=qz5 Ag.out
      have Bg:0≤(Aa:Int):=of_decide_eq_true qy0
      have Bh:Aa < (Ab.length:Int):=of_decide_eq_true qy0
      obtain⟨Bl,Cf,Cg,Ch,Ad,Af,Ac,Ai,Aj⟩:=at_T48 Bf.out Aa Bg Bh
      cases Ch
      replace Ad:=(HB.out.cell (World.block_lt_of_cell? w _ Ad)).trans Ad
      replace Af:=(HB.out.cell (World.block_lt_of_cell? w _ Af)).trans Af
      replace Ac:=(HB.out.cell (World.block_lt_of_cell? w _ Ac)).trans Ac
      have Br:=y0.mk Aj
      have Bs:=y0.mk Ai
      clear Aj Ai
      replace Bg:=eq_true Bg
      replace Bh:=eq_true Bh
      go_wp2
      go_roundg k1
      case measure=>have:=Cs.out;omega
      exact⟨(Au),(wrap64 (Aa + 1)),qy2,H',⟨by have:=Cs.out;omega⟩,⟨qR Ba.out⟩,⟨qR Bb.out⟩,⟨qk Ag.out⟩,⟨qb⟩⟩
    ·replace Ed:=Bool.eq_false_iff.mpr Ed
     subst Ed
     replace H:=qF H
     have H':=y0.mk H
     clear H
     obtain⟨Gx,Gy,Fz⟩:=Kd.R_slice Bb.out
     subst Fz
     have Ay:0≤(Aa:Int):=of_decide_eq_true qy0
     have Az:Aa < (At.length:Int):=of_decide_eq_true qy0
     obtain⟨Ce,Bn,Ap⟩:=Kd.at_bool (Kd.R_reads' Bb.out).2.2 Aa Ay Az
     (try rw [← Bq.out]at Ap)
     cases Bn
     replace Ay:=eq_true Ay
     replace Az:=eq_true Az
     go_wp2
     go_roundg k1
     case measure=>have:=Cs.out;omega
     exact⟨(Au),(wrap64 (Aa + 1)),qy2,H',⟨by have:=Cs.out;omega⟩,⟨qR Ba.out⟩,⟨qR Bb.out⟩,⟨qk Ag.out⟩,⟨qb⟩⟩
   ·rw [if_neg c9]at H
    have Fn:=decide_eq_false c9
    clear c9
    obtain rfl:=Option.some.inj H
    go_wp2
    go_ret
    exact⟨_,by first|rfl|(simp [y12,y13] <;> rfl)|(simp [*,y12,y13] <;> rfl),by(with_reducible repeat(first|apply Kd.R_alloc|apply Kd.R_drewN|apply Kd.R_drew));exact Ba.out,qb⟩
end Go.Proofs.YtkdabljlfbmpdaaGreat.Pb
end
