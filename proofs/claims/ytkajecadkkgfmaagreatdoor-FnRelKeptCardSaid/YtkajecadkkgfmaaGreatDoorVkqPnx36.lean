-- Cut by prune.py, a program of this session, out of the texts of this claim: Lean checks it.
import Derived.Test.YtkajecadkkgfmaaGreatDoorVkqPnx0
import Derived.Test.YtkajecadkkgfmaaGreatDoorVkqPnx9
import Derived.Test.YtkajecadkkgfmaaGreatDoorVkqPnx11
import Derived.Test.YtkajecadkkgfmaaGreatDoorVkqPnx19
import Derived.Test.YtkajecadkkgfmaaGreatDoorVkqPnx29
import Derived.Test.YtkajecadkkgfmaaGreatDoorVkqPnx31
namespace Go.Proofs.YtkajecadkkgfmaaGreatDoor.Pn
open Go.RowKit Go.Proofs.YtkajecadkkgfmaaGreatDoorW.PrintWords Go.Proofs.YtkajecadkkgfmaaGreatDoorW.PrintLast Go.Proofs.YtkajecadkkgfmaaGreatDoorW.PrintMore
attribute [local go_sem] max2_int min2_int max_two min_two max_three min_three max_four min_four   -- for this text's walks alone
set_option linter.unusedVariables false
set_option linter.unusedSimpArgs false
def spec_l02Has.l0:Nat→List (S36)→Int→List ByteArray→Option (Bool)
 | 0,_,_,_=>none
 | k + 1,x0,x5,x706000=>if x5 < (x0.length:Int)then(if 0≤x5 then((spec_l02Same.f k ((y24 x0 x5).f0) x706000).bind fun t707=>(if t707=true then(some true)else(spec_l02Has.l0 k x0 (wrap64 (x5 + 1)) x706000)))else(none))else(some false)
def spec_l02Has.f (k:Nat) (l0:List (S36)) (l1_0:List ByteArray):Option (Bool):=spec_l02Has.l0 k l0 0 l1_0
set_option maxHeartbeats 8000000 in
set_option maxRecDepth 100000 in
theorem spec_l02Has.calls (k:Nat) (A0:Option Addr) (c0:Nat) (l0:List (S36)) (Ah:Option Addr) (Ai:Nat) (Ae:List ByteArray) (r:Bool) (w:World) (Bf:Kd.C k36 w A0 l0.length l0) (Bg:l0.length≤c0) (Aq:Kd.C Kd.string w Ah Ae.length Ae) (Au:Ae.length≤Ai) (h:spec_l02Has.f k l0 Ae=some r) :
  Calls Tryz.prog 63 #[.slice A0 l0.length c0,.agg #[.slice Ah Ae.length Ai]] w fun e w'=>e=.returned (.bool r)∧Below w.heap.size w w':=by
 have Bk:=Tryz.underlying36
 have Bl:=y0.mk Bf
 have Bn:=y0.mk Bg
 clear Bf Bg
 have Av:=y0.mk Aq
 have Aw:=y0.mk Au
 clear Aq Au
 have HB:=y0.mk (Below.refl w.heap.size w)
 have H:(spec_l02Has.l0 k l0 0 Ae)=some r:=h
 clear h
 have H':=y0.mk H
 clear H
 go_enter Tryz.func63,Tryz.ntmps63
 go_wp2_with (first|((with_reducible refine y20 (N:=3) rfl ?_);refine qe 3 #[.slice Ah Ae.length Ai] 36 ?_;intro Ay hg w3 hbox hb;have Aa:=y0.mk (hbox);have Bh:=y0.mk (qg (w:=w) hg);have Bi:=y0.mk (qg (w:=w) hg);replace HB:=y0.mk (y8 qb hb);clear hb hbox hg))
 go_loopg [5] k (fun kq v5 w'=>∃(Ad:Int),v5=.int .i64 Ad∧y0 (spec_l02Has.l0 kq l0 Ad Ae=some r)∧y0 (kq≤k)∧y0 (w'.heap[Ay]?=some (.cells #[(.slice Ah Ae.length Ai)] 36 (0,0)))∧y0 (Below w.heap.size w w'))
 case atStart=>exact⟨(0),qy2,H',⟨Nat.le_refl _⟩,⟨qk Aa.out⟩,⟨qb⟩⟩
 case round =>
  clear H'
  obtain⟨Ad,rfl,HA,Bj,Aa,HB⟩:=hrel
  cases gk with
  | zero=>exact absurd HA.out (by simp [spec_l02Has.l0])
  | succ k1 =>
   have H:=HA.out
   clear HA
   simp only [spec_l02Has.l0]at H
   by_cases c4:Ad < (l0.length:Int)
   ·rw [if_pos c4]at H
    have Bc:=decide_eq_true c4
    clear c4
    obtain⟨c5,H⟩:=qo H
    have Bm:decide (0≤Ad)=true:=decide_eq_true c5
    clear c5
    obtain⟨Bd,A6,H⟩:=qB H
    try go_wp2
    replace Aa:=y0.mk (y12 Aa.out)
    replace HB:=y0.mk (y5 HB.out)
    have Az:0≤(Ad:Int):=of_decide_eq_true qy1
    have Ba:Ad < (l0.length:Int):=of_decide_eq_true qy1
    obtain⟨Bb,Aj,Ak,Be,Af,Al,Am⟩:=at_T36 Bl.out Ad Az Ba
    have Ac:=Af
    cases Be
    replace Af:=(HB.out.cell (World.block_lt_of_cell? w _ Af)).trans Af
    have Ag:=y0.mk Am
    have Ap:=y0.mk Al
    clear Am Al
    replace Az:=eq_true Az
    replace Ba:=eq_true Ba
    refine start_ (n:=6) (S:=fun w'=>w'.cell? ⟨Ay,0,none⟩=some (.slice Ah Ae.length Ai)∧w'.cell? (Bb.add (Ad).toNat)=some (.slice Aj ((y24 l0 Ad).f0).length Ak)) (ds:=[]) #[false,false,false,false,false,false] (by kernel_rfl) rfl rfl ⟨(y11 Aa.out 0).trans rfl,((HB.out.cell (World.block_lt_of_cell? w _ Ac)).trans Ac)⟩ (fun hHeld=>?_)
    generalize wr.drew=w8 at Aa HB Ag Af hHeld ⊢
    refine qp3 0 12 6 ?_
    by_cases c7:Bd=true
    ·subst c7
     replace H:=qT H
     obtain rfl:=Option.some.inj H
     refine qt 3 15 #[true,true,true,true,false,false] hHeld ?_
     refine qt 4 16 #[true,true,true,true,true,false] hHeld ?_
     refine qO 5 17 #[true,true,true,true,true,true] (fun K hK=>?_)
     refine goes_ Tryz.func89 (by kernel_rfl) rfl #[.agg #[.slice Aj ((y24 l0 Ad).f0).length Ak],.agg #[.slice Ah Ae.length Ai]] (by rfl) rfl rfl qy0 ?_
     with_reducible refine(spec_l02Same.calls k1 _ _ ((y24 l0 Ad).f0) _ _ Ae true _ (qc (Kd.C_below Ag.out HB.out)) Ap.out (qc (Kd.C_below Av.out HB.out)) Aw.out A6.out).mono ?_
     rintro e w9 ⟨rfl,hb⟩
     refine⟨_,rfl, ?_⟩
     replace Aa:=y0.mk (qK Aa.out hb)
     replace HB:=y0.mk (y8 qb hb)
     (try clear hb)
     refine hK.out _ _ ⟨(y11 Aa.out 0).trans rfl,((HB.out.cell (World.block_lt_of_cell? w _ Ac)).trans Ac)⟩ (fun hHeld=>?_)
     clear hK K
     refine qx 17 ?_
     refine done_ (by kernel_rfl) ?_
     try go_wp2
     go_ret
     exact⟨qf,qb⟩
    ·replace c7:=Bool.eq_false_iff.mpr c7
     subst c7
     replace H:=qF H
     have H':=y0.mk H
     clear H
     refine qt 3 15 #[true,true,true,true,false,false] hHeld ?_
     refine qt 4 16 #[true,true,true,true,true,false] hHeld ?_
     refine qO 5 17 #[true,true,true,true,true,true] (fun K hK=>?_)
     refine goes_ Tryz.func89 (by kernel_rfl) rfl #[.agg #[.slice Aj ((y24 l0 Ad).f0).length Ak],.agg #[.slice Ah Ae.length Ai]] (by rfl) rfl rfl qy0 ?_
     with_reducible refine(spec_l02Same.calls k1 _ _ ((y24 l0 Ad).f0) _ _ Ae false _ (qc (Kd.C_below Ag.out HB.out)) Ap.out (qc (Kd.C_below Av.out HB.out)) Aw.out A6.out).mono ?_
     rintro e Bo ⟨rfl,hb⟩
     refine⟨_,rfl, ?_⟩
     replace Aa:=y0.mk (qK Aa.out hb)
     replace HB:=y0.mk (y8 qb hb)
     (try clear hb)
     refine hK.out _ _ ⟨(y11 Aa.out 0).trans rfl,((HB.out.cell (World.block_lt_of_cell? w _ Ac)).trans Ac)⟩ (fun hHeld=>?_)
     clear hK K
     refine qx 17 ?_
     refine done_ (by kernel_rfl) ?_
     try go_wp2
     go_roundg k1
     case measure=>have:=Bj.out;omega
     exact⟨(wrap64 (Ad + 1)),qy2,H',⟨by have:=Bj.out;omega⟩,⟨qk Aa.out⟩,⟨qb⟩⟩
   ·rw [if_neg c4]at H
    have Bc:=decide_eq_false c4
    clear c4
    obtain rfl:=Option.some.inj H
    go_wp2
    go_ret
    exact⟨qf,qb⟩
def spec_RelHas.f (k:Nat) (a0_0:Int) (l0_1:List (S36)) (l1_0:List ByteArray):Option (Bool):=(spec_RelOk.f k a0_0 l0_1).bind fun t710=>(if t710=true then((spec_l02Has.f k l0_1 l1_0).bind fun t711=>(some t711))else(some false))
set_option maxHeartbeats 8000000 in
set_option maxRecDepth 100000 in
theorem spec_RelHas.calls (k:Nat) (Ag:Int) (Ai:Option Addr) (Aj:Nat) (Ac:List (S36)) (Am:Option Addr) (Ap:Nat) (Ah:List ByteArray) (r:Bool) (w:World) (Aq:Kd.C k36 w Ai Ac.length Ac) (Au:Ac.length≤Aj) (Av:Kd.C Kd.string w Am Ah.length Ah) (Aw:Ah.length≤Ap) (h:spec_RelHas.f k Ag Ac Ah=some r) :
  Calls Tryz.prog 29 #[.agg #[.int .i64 Ag,.slice Ai Ac.length Aj],.agg #[.slice Am Ah.length Ap]] w fun e w'=>e=.returned (.bool r)∧Below w.heap.size w w':=by
 have Bz:=Tryz.underlying32
 have Ca:=Tryz.underlying36
 have Ak:=y0.mk Aq
 have Al:=y0.mk Au
 clear Aq Au
 have Ba:=y0.mk Av
 have Bb:=y0.mk Aw
 clear Av Aw
 have HB:=y0.mk (Below.refl w.heap.size w)
 have H:((spec_RelOk.f k Ag Ac).bind fun Ay=>(if Ay=true then((spec_l02Has.f k Ac Ah).bind fun Az=>(some Az))else(some false)))=some r:=h
 clear h
 obtain⟨Ay,A3,H⟩:=qB H
 by_cases c4:Ay=true
 ·subst c4
  replace H:=qT H
  obtain⟨Az,A5,H⟩:=qB H
  obtain rfl:=Option.some.inj H
  go_enter Tryz.func29,Tryz.ntmps29
  go_wp2_with (first|((with_reducible refine y20 (N:=2) rfl ?_);refine qe 2 #[.int .i64 Ag,.slice Ai Ac.length Aj] 32 ?_;intro Bc hg w6 hbox hb;have Aa:=y0.mk (hbox);have Bd:=y0.mk (qg (w:=w) hg);have Be:=y0.mk (qg (w:=w) hg);replace HB:=y0.mk (y8 qb hb);clear hb hbox hg)|((with_reducible refine y20 (N:=3) rfl ?_);refine qe 3 #[.slice Am Ah.length Ap] 36 ?_;intro Bf hg w7 hbox hb;have Af:=y0.mk (hbox);have Bg:=y0.mk (qg (w:=w) hg);have Bh:=y0.mk (qg (w:=w) hg);replace HB:=y0.mk (y8 qb hb);have Ad:=y0.mk (qn Aa.out hg);have Ae:=y0.mk (qm Aa.out hg);replace Aa:=y0.mk (qK Aa.out hb);clear hb hbox hg;have Cb:=Ad.out;have Cc:=Ae.out;obtain⟨Bs,Bt,Bu,Bv⟩:=qz2 Aa.out)|((with_reducible refine y19 (f:=22) rfl ?_);refine y22 (some 6) rfl rfl Tryz.func22 (by kernel_rfl) rfl #[.agg #[.int .i64 Ag,.slice Ai Ac.length Aj]] rfl qy0 ?_;(with_reducible refine(spec_RelOk.calls k Ag _ _ Ac true _ (qc (Kd.C_below Ak.out HB.out)) Al.out A3.out).mono ?_);rintro e Cd ⟨rfl,hb⟩;refine⟨_,rfl, ?_⟩;replace Aa:=y0.mk (qK Aa.out hb);replace Af:=y0.mk (qK Af.out hb);replace HB:=y0.mk (y8 qb hb);(try clear hb);obtain⟨Bi,Bj,Bk,Bl⟩:=qz2 Aa.out;obtain⟨Bm,Bn⟩:=qz1 Af.out)|(go_at_call 63;(with_reducible refine(spec_l02Has.calls k _ _ Ac _ _ Ah Az _ (qc (Kd.C_below Ak.out HB.out)) Al.out (qc (Kd.C_below Ba.out HB.out)) Bb.out A5.out).mono ?_);rintro e Ce ⟨rfl,hb⟩;replace Aa:=y0.mk (qK Aa.out hb);replace Af:=y0.mk (qK Af.out hb);replace HB:=y0.mk (y8 qb hb);(try clear hb)))
  go_ret
  exact⟨qf,qb⟩
 ·replace c4:=Bool.eq_false_iff.mpr c4
  subst c4
  replace H:=qF H
  obtain rfl:=Option.some.inj H
  go_enter Tryz.func29,Tryz.ntmps29
  go_wp2_with (first|((with_reducible refine y20 (N:=2) rfl ?_);refine qe 2 #[.int .i64 Ag,.slice Ai Ac.length Aj] 32 ?_;intro Bc hg Cf hbox hb;have Aa:=y0.mk (hbox);have Bd:=y0.mk (qg (w:=w) hg);have Be:=y0.mk (qg (w:=w) hg);replace HB:=y0.mk (y8 qb hb);clear hb hbox hg)|((with_reducible refine y20 (N:=3) rfl ?_);refine qe 3 #[.slice Am Ah.length Ap] 36 ?_;intro Bf hg Cg hbox hb;have Af:=y0.mk (hbox);have Bg:=y0.mk (qg (w:=w) hg);have Bh:=y0.mk (qg (w:=w) hg);replace HB:=y0.mk (y8 qb hb);have Ad:=y0.mk (qn Aa.out hg);have Ae:=y0.mk (qm Aa.out hg);replace Aa:=y0.mk (qK Aa.out hb);clear hb hbox hg;have Bw:=Ad.out;have Bx:=Ae.out;obtain⟨Bo,Bp,Bq,Br⟩:=qz2 Aa.out)|((with_reducible refine y19 (f:=22) rfl ?_);refine y22 (some 6) rfl rfl Tryz.func22 (by kernel_rfl) rfl #[.agg #[.int .i64 Ag,.slice Ai Ac.length Aj]] rfl qy0 ?_;(with_reducible refine(spec_RelOk.calls k Ag _ _ Ac false _ (qc (Kd.C_below Ak.out HB.out)) Al.out A3.out).mono ?_);rintro e Ch ⟨rfl,hb⟩;refine⟨_,rfl, ?_⟩;replace Aa:=y0.mk (qK Aa.out hb);replace Af:=y0.mk (qK Af.out hb);replace HB:=y0.mk (y8 qb hb);(try clear hb)))
  go_ret
  exact⟨qf,qb⟩
/-- What is reckoned in the one way that a call of the law can go. -/
def laws_FnRelKept.Run (k:Nat) (l0:List Int):Prop :=
 ∃ b,laws_big.f l0=some b∧(b=true∨(b=false∧∃(ar:Int) (xs:List S36) (ys:List ByteArray) (gr:Int) (gs:List S36) (gq ok:Bool),
  spec_DrawRelPut.f k l0=some (ar,xs,ys)∧impl_RelPut.f k ar xs ys=some (gr,gs,gq)∧spec_RelPut.f k ar xs ys=some (gr,gs,gq)∧laws_sameRel.f k gr gs gr gs=some true∧spec_RelOk.f k ar xs=some ok ∧
  ((ok=false∧gq=false)∨(ok=true∧gs.length=0∧gq=false)∨(ok=true∧gs.length≠0∧impl_RelPut.f k gr gs ys=some (gr,gs,false)∧impl_RelOk.f k gr gs=some true∧impl_RelHas.f k gr gs ys=some true∧∃(er:Int) (es:List S36),impl_RelLess.f k gr gs ar xs=some (er,es)∧spec_RelHas.f k ar xs ys=some (!gq)∧xs.length≤1000∧es.length=(if gq=true then 1 else 0)∧gs.length=xs.length + (if gq=true then 1 else 0)))))
set_option maxHeartbeats 16000000 in
set_option maxRecDepth 100000 in
theorem laws_FnRelKept.calls (k:Nat) (A0:Option Addr) (c0:Nat) (l0:List Int) (w:World) (Bi:Kd.C (Kd.int .u8) w A0 l0.length l0) (Bj:l0.length≤c0) (hT:Tb w) (h:laws_FnRelKept.Run k l0) :
  Calls Tryz.prog 5 #[.slice A0 l0.length c0] w fun e w'=>e=.returned (.bool true)∧Below w.heap.size w w':=by
 have Bl:=Tryz.underlying32
 have Bm:=Tryz.underlying36
 have Bg:=y0.mk Bi
 clear Bi
 have Bh:=y0.mk Bj
 clear Bj
 have HT:=y0.mk hT
 clear hT
 have HB:=y0.mk (Below.refl w.heap.size w)
 obtain⟨b,E0,h⟩:=h
 have E0:=y0.mk E0
 rcases h with rfl|⟨rfl,ar,xs,ys,gr,gs,gq,ok,F1,F2,F3,F4,F5,h⟩
 ·skip
  go_enter Tryz.func5,Tryz.ntmps5
  go_wp2_with (first|(go_at_call 19;(with_reducible refine(laws_big.calls _ _ l0 _ _ (Kd.C_below Bg.out HB.out) Bh.out E0.out).mono ?_);rintro e w1 ⟨rfl,hd_⟩;have hb:=hd_.below;replace HB:=y0.mk (y8 HB.out hb);(try clear hb);(try clear hd_)))
  go_ret
  exact⟨by first|rfl|(simp [y17,y18] <;> rfl),HB.out⟩
 replace F1:=y0.mk F1
 replace F2:=y0.mk F2
 replace F3:=y0.mk F3
 replace F4:=y0.mk F4
 replace F5:=y0.mk F5
 have Bp:(gq != gq)=false:=by cases gq <;> rfl
 replace h:=y0.mk h
 go_enter Tryz.func5,Tryz.ntmps5
 go_upto_region 4 with(first
  | (go_at_call 19;(with_reducible refine(laws_big.calls _ _ l0 _ _ (Kd.C_below Bg.out HB.out) Bh.out E0.out).mono ?_);rintro e w1 ⟨rfl,hd_⟩;have hb:=hd_.below;replace HB:=y0.mk (y8 HB.out hb);(try clear hb);(try clear hd_))
  | (go_at_call 24;(with_reducible refine(spec_DrawRelPut.calls k _ _ l0 ar xs ys _ (Kd.C_below Bg.out HB.out) Bh.out F1.out).mono ?_);rintro e w2 ⟨v1_,v2_,rfl,ho,Bn,hb⟩;obtain⟨loX,hiX,hlo_,hhi_,hOX_⟩:=QIv.OV.new (Kd.V_mono (Kd.N_V (base':=_) ho) (fun _ hk_=>hk_.1));obtain⟨AX,cX,eA_⟩:=hOX_.slice;subst eA_;have OX:=y0.mk (hOX_);have LX:=y0.mk ((by rw [hhi_];exact Nat.le_refl _:hiX≤_));have BX:=y0.mk ((by rw [hlo_];exact HB.out.size:w.heap.size≤loX));obtain⟨loY,hiY,hlo_,hhi_,hOY_⟩:=QIv.OR.new (Kd.R_mono Bn (fun _ _=>trivial));obtain⟨AY,cY,eA_⟩:=hOY_.slice;subst eA_;have OY:=y0.mk (hOY_);have LY:=y0.mk ((by rw [hhi_];exact Nat.le_refl _:hiY≤_));have BY:=y0.mk ((by rw [hlo_];exact HB.out.size:w.heap.size≤loY));replace HB:=y0.mk (y8 HB.out hb);(try clear hb);(try clear ho);(try clear hlo_);(try clear hhi_))
  | ((with_reducible refine y20 (N:=3) rfl ?_);refine qe 3 #[.int .i64 0,.slice none 0 0] 32 ?_;intro gx hg w3 hbox hb;have BKx:=y0.mk (hbox);have GEx:=y0.mk ((by rw [hg];exact HB.out.size:w.heap.size≤gx));have EX_x:=y0.mk ((by rw [hg];exact LX.out:hiX≤gx));have EY_x:=y0.mk ((by rw [hg];exact LY.out:hiY≤gx));replace OX:=y0.mk (OX.out.below hb);replace OY:=y0.mk (OY.out.below hb);replace LX:=y0.mk (Nat.le_trans LX.out hb.size);replace LY:=y0.mk (Nat.le_trans LY.out hb.size);replace HB:=y0.mk (y8 HB.out hb);clear hb hg hbox;obtain⟨Aa,Ac,Ad,Ae⟩:=QIv.box2 BKx.out)
  | ((with_reducible refine y20 (N:=4) rfl ?_);refine qe 4 #[.slice none 0 0] 36 ?_;intro gy hg w4 hbox hb;(repeat first|clear Aa|clear Ac|clear Ad|clear Ae);have BKy:=y0.mk (hbox);have GEy:=y0.mk ((by rw [hg];exact HB.out.size:w.heap.size≤gy));have EX_y:=y0.mk ((by rw [hg];exact LX.out:hiX≤gy));have EY_y:=y0.mk ((by rw [hg];exact LY.out:hiY≤gy));have Nx_y:=y0.mk ((by rw [hg];exact Nat.ne_of_lt (QIv.ki_lt BKx.out):gx≠gy));replace OX:=y0.mk (OX.out.below hb);replace OY:=y0.mk (OY.out.below hb);replace LX:=y0.mk (Nat.le_trans LX.out hb.size);replace LY:=y0.mk (Nat.le_trans LY.out hb.size);replace BKx:=y0.mk (y10 (g:=gx) (o:=(.cells #[.int .i64 0,.slice none 0 0] 32 (0,0))) BKx.out hb);replace HB:=y0.mk (y8 HB.out hb);clear hb hg hbox;obtain⟨Aa,Ac,Ad,Ae⟩:=QIv.box2 BKx.out;obtain⟨Af,Ag⟩:=QIv.box1 BKy.out;have hnxy_:=Nx_y.out;have hnyx_:=Ne.symm Nx_y.out))
 (repeat first|clear Aa|clear Ac|clear Af|clear Ad|clear Ae|clear Ag)
 replace OX:=y0.mk (((OX.out.set (.inr EX_x.out) _ _).set (.inr EX_x.out) _ _):QIv.OV k36 36 loX hiX (.slice AX xs.length cX) xs ((w4.setCell ⟨gx,0,none⟩ (.int .i64 ar)).setCell ⟨gx,1,none⟩ (.slice AX xs.length cX)))
 replace LX:=y0.mk (by simpa using LX.out:hiX≤((w4.setCell ⟨gx,0,none⟩ (.int .i64 ar)).setCell ⟨gx,1,none⟩ (.slice AX xs.length cX)).heap.size)
 replace OY:=y0.mk (((OY.out.set (.inr EY_x.out) _ _).set (.inr EY_x.out) _ _):QIv.OR Kd.string 9 loY hiY (.slice AY ys.length cY) ys ((w4.setCell ⟨gx,0,none⟩ (.int .i64 ar)).setCell ⟨gx,1,none⟩ (.slice AX xs.length cX)))
 replace LY:=y0.mk (by simpa using LY.out:hiY≤((w4.setCell ⟨gx,0,none⟩ (.int .i64 ar)).setCell ⟨gx,1,none⟩ (.slice AX xs.length cX)).heap.size)
 replace BKy:=y0.mk ((y14 (y14 BKy.out (Ne.symm Nx_y.out) _) (Ne.symm Nx_y.out) _):((w4.setCell ⟨gx,0,none⟩ (.int .i64 ar)).setCell ⟨gx,1,none⟩ (.slice AX xs.length cX)).heap[gy]?=some (.cells #[.slice none 0 0] 36 (0,0)))
 replace BKx:=y0.mk ((blk_set (blk_set BKx.out 0 (.int .i64 ar)) 1 (.slice AX xs.length cX)):((w4.setCell ⟨gx,0,none⟩ (.int .i64 ar)).setCell ⟨gx,1,none⟩ (.slice AX xs.length cX)).heap[gx]?=some (.cells #[.int .i64 ar,.slice AX xs.length cX] 32 (0,0)))
 replace HB:=y0.mk ((y6 (y6 HB.out GEx.out) GEx.out):Below w.heap.size w ((w4.setCell ⟨gx,0,none⟩ (.int .i64 ar)).setCell ⟨gx,1,none⟩ (.slice AX xs.length cX)))
 generalize ((w4.setCell ⟨gx,0,none⟩ (.int .i64 ar)).setCell ⟨gx,1,none⟩ (.slice AX xs.length cX))=w5 at OX LX OY LY BKy BKx HB ⊢
 obtain⟨Aa,Ac,Ad,Ae⟩:=QIv.box2 BKx.out
 obtain⟨Af,Ag⟩:=QIv.box1 BKy.out
 (repeat first|clear Aa|clear Ac|clear Af|clear Ad|clear Ae|clear Ag)
 replace OX:=y0.mk ((OX.out.set (.inr EX_y.out) _ _):QIv.OV k36 36 loX hiX (.slice AX xs.length cX) xs (w5.setCell ⟨gy,0,none⟩ (.slice AY ys.length cY)))
 replace LX:=y0.mk (by simpa using LX.out:hiX≤(w5.setCell ⟨gy,0,none⟩ (.slice AY ys.length cY)).heap.size)
 replace OY:=y0.mk ((OY.out.set (.inr EY_y.out) _ _):QIv.OR Kd.string 9 loY hiY (.slice AY ys.length cY) ys (w5.setCell ⟨gy,0,none⟩ (.slice AY ys.length cY)))
 replace LY:=y0.mk (by simpa using LY.out:hiY≤(w5.setCell ⟨gy,0,none⟩ (.slice AY ys.length cY)).heap.size)
 replace BKx:=y0.mk ((y14 BKx.out (Nx_y.out) _):(w5.setCell ⟨gy,0,none⟩ (.slice AY ys.length cY)).heap[gx]?=some (.cells #[.int .i64 ar,.slice AX xs.length cX] 32 (0,0)))
 replace BKy:=y0.mk ((blk_set BKy.out 0 (.slice AY ys.length cY)):(w5.setCell ⟨gy,0,none⟩ (.slice AY ys.length cY)).heap[gy]?=some (.cells #[.slice AY ys.length cY] 36 (0,0)))
 replace HB:=y0.mk ((y6 HB.out GEy.out):Below w.heap.size w (w5.setCell ⟨gy,0,none⟩ (.slice AY ys.length cY)))
 generalize (w5.setCell ⟨gy,0,none⟩ (.slice AY ys.length cY))=w6 at OX LX OY LY BKx BKy HB ⊢
 obtain⟨Aa,Ac,Ad,Ae⟩:=QIv.box2 BKx.out
 obtain⟨Af,Ag⟩:=QIv.box1 BKy.out
 clear hnxy_ hnyx_
 go_upto_region 5 with(first
  | (go_at_call 13;(with_reducible refine(impl_RelPut.calls k ar _ _ xs _ _ ys gr gs gq _ OX.out.C OX.out.le OY.out.C OY.out.le (Tb.below HT.out HB.out) F2.out).mono ?_);rintro e w7 ⟨v_,rfl,ho,hb⟩;obtain⟨loG,hiG,hlo_,hhi_,hOG_⟩:=QIv.OS.new ho;obtain⟨AG,cG,eA_⟩:=hOG_.slice;subst eA_;(repeat first|clear Aa|clear Ac|clear Af|clear Ad|clear Ae|clear Ag);have OG:=y0.mk (hOG_);have LG:=y0.mk ((by rw [hhi_];exact Nat.le_refl _:hiG≤_));have BG:=y0.mk ((by rw [hlo_];exact HB.out.size:w.heap.size≤loG));have DX_G:=y0.mk ((by rw [hlo_];exact LX.out:hiX≤loG));have DY_G:=y0.mk ((by rw [hlo_];exact LY.out:hiY≤loG));have Ex_G:=y0.mk ((by rw [hlo_];exact QIv.ki_lt BKx.out:gx < loG));have Ey_G:=y0.mk ((by rw [hlo_];exact QIv.ki_lt BKy.out:gy < loG));replace OX:=y0.mk (OX.out.below hb);replace OY:=y0.mk (OY.out.below hb);replace LX:=y0.mk (Nat.le_trans LX.out hb.size);replace LY:=y0.mk (Nat.le_trans LY.out hb.size);replace BKx:=y0.mk (y10 (g:=gx) (o:=(.cells #[.int .i64 ar,.slice AX xs.length cX] 32 (0,0))) BKx.out hb);replace BKy:=y0.mk (y10 (g:=gy) (o:=(.cells #[.slice AY ys.length cY] 36 (0,0))) BKy.out hb);replace HB:=y0.mk (y8 HB.out hb);(try clear hb);(try clear ho);(try clear hlo_);(try clear hhi_);obtain⟨Aa,Ac,Ad,Ae⟩:=QIv.box2 BKx.out;obtain⟨Af,Ag⟩:=QIv.box1 BKy.out)
  | ((with_reducible refine y20 (N:=5) rfl ?_);refine qe 5 #[.int .i64 0,.slice none 0 0] 32 ?_;intro gg hg w8 hbox hb;(repeat first|clear Aa|clear Ac|clear Af|clear Ad|clear Ae|clear Ag);have BKg:=y0.mk (hbox);have GEg:=y0.mk ((by rw [hg];exact HB.out.size:w.heap.size≤gg));have EX_g:=y0.mk ((by rw [hg];exact LX.out:hiX≤gg));have EY_g:=y0.mk ((by rw [hg];exact LY.out:hiY≤gg));have EG_g:=y0.mk ((by rw [hg];exact LG.out:hiG≤gg));have Nx_g:=y0.mk ((by rw [hg];exact Nat.ne_of_lt (QIv.ki_lt BKx.out):gx≠gg));have Ny_g:=y0.mk ((by rw [hg];exact Nat.ne_of_lt (QIv.ki_lt BKy.out):gy≠gg));replace OX:=y0.mk (OX.out.below hb);replace OY:=y0.mk (OY.out.below hb);replace OG:=y0.mk (OG.out.below hb);replace LX:=y0.mk (Nat.le_trans LX.out hb.size);replace LY:=y0.mk (Nat.le_trans LY.out hb.size);replace LG:=y0.mk (Nat.le_trans LG.out hb.size);replace BKx:=y0.mk (y10 (g:=gx) (o:=(.cells #[.int .i64 ar,.slice AX xs.length cX] 32 (0,0))) BKx.out hb);replace BKy:=y0.mk (y10 (g:=gy) (o:=(.cells #[.slice AY ys.length cY] 36 (0,0))) BKy.out hb);replace HB:=y0.mk (y8 HB.out hb);clear hb hg hbox;obtain⟨Aa,Ac,Ad,Ae⟩:=QIv.box2 BKx.out;obtain⟨Af,Ag⟩:=QIv.box1 BKy.out;obtain⟨Ah,Ai,Aj,Ak⟩:=QIv.box2 BKg.out))
 (repeat first|clear Aa|clear Ac|clear Af|clear Ah|clear Ai|clear Ad|clear Ae|clear Ag|clear Aj|clear Ak)
 replace OX:=y0.mk (((OX.out.set (.inr EX_g.out) _ _).set (.inr EX_g.out) _ _):QIv.OV k36 36 loX hiX (.slice AX xs.length cX) xs ((w8.setCell ⟨gg,0,none⟩ (.int .i64 gr)).setCell ⟨gg,1,none⟩ (.slice AG gs.length cG)))
 replace LX:=y0.mk (by simpa using LX.out:hiX≤((w8.setCell ⟨gg,0,none⟩ (.int .i64 gr)).setCell ⟨gg,1,none⟩ (.slice AG gs.length cG)).heap.size)
 replace OY:=y0.mk (((OY.out.set (.inr EY_g.out) _ _).set (.inr EY_g.out) _ _):QIv.OR Kd.string 9 loY hiY (.slice AY ys.length cY) ys ((w8.setCell ⟨gg,0,none⟩ (.int .i64 gr)).setCell ⟨gg,1,none⟩ (.slice AG gs.length cG)))
 replace LY:=y0.mk (by simpa using LY.out:hiY≤((w8.setCell ⟨gg,0,none⟩ (.int .i64 gr)).setCell ⟨gg,1,none⟩ (.slice AG gs.length cG)).heap.size)
 replace OG:=y0.mk (((OG.out.set (.inr EG_g.out) _ _).set (.inr EG_g.out) _ _):QIv.OS k36 36 loG hiG (.slice AG gs.length cG) gs ((w8.setCell ⟨gg,0,none⟩ (.int .i64 gr)).setCell ⟨gg,1,none⟩ (.slice AG gs.length cG)))
 replace LG:=y0.mk (by simpa using LG.out:hiG≤((w8.setCell ⟨gg,0,none⟩ (.int .i64 gr)).setCell ⟨gg,1,none⟩ (.slice AG gs.length cG)).heap.size)
 replace BKx:=y0.mk ((y14 (y14 BKx.out (Nx_g.out) _) (Nx_g.out) _):((w8.setCell ⟨gg,0,none⟩ (.int .i64 gr)).setCell ⟨gg,1,none⟩ (.slice AG gs.length cG)).heap[gx]?=some (.cells #[.int .i64 ar,.slice AX xs.length cX] 32 (0,0)))
 replace BKy:=y0.mk ((y14 (y14 BKy.out (Ny_g.out) _) (Ny_g.out) _):((w8.setCell ⟨gg,0,none⟩ (.int .i64 gr)).setCell ⟨gg,1,none⟩ (.slice AG gs.length cG)).heap[gy]?=some (.cells #[.slice AY ys.length cY] 36 (0,0)))
 replace BKg:=y0.mk ((blk_set (blk_set BKg.out 0 (.int .i64 gr)) 1 (.slice AG gs.length cG)):((w8.setCell ⟨gg,0,none⟩ (.int .i64 gr)).setCell ⟨gg,1,none⟩ (.slice AG gs.length cG)).heap[gg]?=some (.cells #[.int .i64 gr,.slice AG gs.length cG] 32 (0,0)))
 replace HB:=y0.mk ((y6 (y6 HB.out GEg.out) GEg.out):Below w.heap.size w ((w8.setCell ⟨gg,0,none⟩ (.int .i64 gr)).setCell ⟨gg,1,none⟩ (.slice AG gs.length cG)))
 generalize ((w8.setCell ⟨gg,0,none⟩ (.int .i64 gr)).setCell ⟨gg,1,none⟩ (.slice AG gs.length cG))=w9 at OX LX OY LY OG LG BKx BKy BKg HB ⊢
 obtain⟨Aa,Ac,Ad,Ae⟩:=QIv.box2 BKx.out
 obtain⟨Af,Ag⟩:=QIv.box1 BKy.out
 obtain⟨Ah,Ai,Aj,Ak⟩:=QIv.box2 BKg.out
 go_upto_region 6 with(first
  | (go_at_call 10;(with_reducible refine(spec_RelPut.calls k ar _ _ xs _ _ ys gr gs gq _ OX.out.C OX.out.le OY.out.C OY.out.le F3.out).mono ?_);rintro e Bq ⟨v_,rfl,ho,hb⟩;obtain⟨loW,hiW,hlo_,hhi_,hOW_⟩:=QIv.OV.new (Kd.N_V ho);obtain⟨AW,cW,eA_⟩:=hOW_.slice;subst eA_;(repeat first|clear Aa|clear Ac|clear Af|clear Ah|clear Ai|clear Ad|clear Ae|clear Ag|clear Aj|clear Ak);have OW:=y0.mk (hOW_);have LW:=y0.mk ((by rw [hhi_];exact Nat.le_refl _:hiW≤_));have BW:=y0.mk ((by rw [hlo_];exact HB.out.size:w.heap.size≤loW));have DX_W:=y0.mk ((by rw [hlo_];exact LX.out:hiX≤loW));have DY_W:=y0.mk ((by rw [hlo_];exact LY.out:hiY≤loW));have DG_W:=y0.mk ((by rw [hlo_];exact LG.out:hiG≤loW));have Ex_W:=y0.mk ((by rw [hlo_];exact QIv.ki_lt BKx.out:gx < loW));have Ey_W:=y0.mk ((by rw [hlo_];exact QIv.ki_lt BKy.out:gy < loW));have Eg_W:=y0.mk ((by rw [hlo_];exact QIv.ki_lt BKg.out:gg < loW));replace OX:=y0.mk (OX.out.below hb);replace OY:=y0.mk (OY.out.below hb);replace OG:=y0.mk (OG.out.below hb);replace LX:=y0.mk (Nat.le_trans LX.out hb.size);replace LY:=y0.mk (Nat.le_trans LY.out hb.size);replace LG:=y0.mk (Nat.le_trans LG.out hb.size);replace BKx:=y0.mk (y10 (g:=gx) (o:=(.cells #[.int .i64 ar,.slice AX xs.length cX] 32 (0,0))) BKx.out hb);replace BKy:=y0.mk (y10 (g:=gy) (o:=(.cells #[.slice AY ys.length cY] 36 (0,0))) BKy.out hb);replace BKg:=y0.mk (y10 (g:=gg) (o:=(.cells #[.int .i64 gr,.slice AG gs.length cG] 32 (0,0))) BKg.out hb);replace HB:=y0.mk (y8 HB.out hb);(try clear hb);(try clear ho);(try clear hlo_);(try clear hhi_);obtain⟨Aa,Ac,Ad,Ae⟩:=QIv.box2 BKx.out;obtain⟨Af,Ag⟩:=QIv.box1 BKy.out;obtain⟨Ah,Ai,Aj,Ak⟩:=QIv.box2 BKg.out)
  | ((with_reducible refine y20 (N:=7) rfl ?_);refine qe 7 #[.int .i64 0,.slice none 0 0] 32 ?_;intro gv hg Bb hbox hb;(repeat first|clear Aa|clear Ac|clear Af|clear Ah|clear Ai|clear Ad|clear Ae|clear Ag|clear Aj|clear Ak);have BKv:=y0.mk (hbox);have GEv:=y0.mk ((by rw [hg];exact HB.out.size:w.heap.size≤gv));have EX_v:=y0.mk ((by rw [hg];exact LX.out:hiX≤gv));have EY_v:=y0.mk ((by rw [hg];exact LY.out:hiY≤gv));have EG_v:=y0.mk ((by rw [hg];exact LG.out:hiG≤gv));have EW_v:=y0.mk ((by rw [hg];exact LW.out:hiW≤gv));have Nx_v:=y0.mk ((by rw [hg];exact Nat.ne_of_lt (QIv.ki_lt BKx.out):gx≠gv));have Ny_v:=y0.mk ((by rw [hg];exact Nat.ne_of_lt (QIv.ki_lt BKy.out):gy≠gv));have Ng_v:=y0.mk ((by rw [hg];exact Nat.ne_of_lt (QIv.ki_lt BKg.out):gg≠gv));replace OX:=y0.mk (OX.out.below hb);replace OY:=y0.mk (OY.out.below hb);replace OG:=y0.mk (OG.out.below hb);replace OW:=y0.mk (OW.out.below hb);replace LX:=y0.mk (Nat.le_trans LX.out hb.size);replace LY:=y0.mk (Nat.le_trans LY.out hb.size);replace LG:=y0.mk (Nat.le_trans LG.out hb.size);replace LW:=y0.mk (Nat.le_trans LW.out hb.size);replace BKx:=y0.mk (y10 (g:=gx) (o:=(.cells #[.int .i64 ar,.slice AX xs.length cX] 32 (0,0))) BKx.out hb);replace BKy:=y0.mk (y10 (g:=gy) (o:=(.cells #[.slice AY ys.length cY] 36 (0,0))) BKy.out hb);replace BKg:=y0.mk (y10 (g:=gg) (o:=(.cells #[.int .i64 gr,.slice AG gs.length cG] 32 (0,0))) BKg.out hb);replace HB:=y0.mk (y8 HB.out hb);clear hb hg hbox;obtain⟨Aa,Ac,Ad,Ae⟩:=QIv.box2 BKx.out;obtain⟨Af,Ag⟩:=QIv.box1 BKy.out;obtain⟨Ah,Ai,Aj,Ak⟩:=QIv.box2 BKg.out;obtain⟨Al,Am,Ap,Aq⟩:=QIv.box2 BKv.out))
 (repeat first|clear Aa|clear Ac|clear Af|clear Ah|clear Ai|clear Al|clear Am|clear Ad|clear Ae|clear Ag|clear Aj|clear Ak|clear Ap|clear Aq)
 replace OX:=y0.mk (((OX.out.set (.inr EX_v.out) _ _).set (.inr EX_v.out) _ _):QIv.OV k36 36 loX hiX (.slice AX xs.length cX) xs ((Bb.setCell ⟨gv,0,none⟩ (.int .i64 gr)).setCell ⟨gv,1,none⟩ (.slice AW gs.length cW)))
 replace LX:=y0.mk (by simpa using LX.out:hiX≤((Bb.setCell ⟨gv,0,none⟩ (.int .i64 gr)).setCell ⟨gv,1,none⟩ (.slice AW gs.length cW)).heap.size)
 replace OY:=y0.mk (((OY.out.set (.inr EY_v.out) _ _).set (.inr EY_v.out) _ _):QIv.OR Kd.string 9 loY hiY (.slice AY ys.length cY) ys ((Bb.setCell ⟨gv,0,none⟩ (.int .i64 gr)).setCell ⟨gv,1,none⟩ (.slice AW gs.length cW)))
 replace LY:=y0.mk (by simpa using LY.out:hiY≤((Bb.setCell ⟨gv,0,none⟩ (.int .i64 gr)).setCell ⟨gv,1,none⟩ (.slice AW gs.length cW)).heap.size)
 replace OG:=y0.mk (((OG.out.set (.inr EG_v.out) _ _).set (.inr EG_v.out) _ _):QIv.OS k36 36 loG hiG (.slice AG gs.length cG) gs ((Bb.setCell ⟨gv,0,none⟩ (.int .i64 gr)).setCell ⟨gv,1,none⟩ (.slice AW gs.length cW)))
 replace LG:=y0.mk (by simpa using LG.out:hiG≤((Bb.setCell ⟨gv,0,none⟩ (.int .i64 gr)).setCell ⟨gv,1,none⟩ (.slice AW gs.length cW)).heap.size)
 replace OW:=y0.mk (((OW.out.set (.inr EW_v.out) _ _).set (.inr EW_v.out) _ _):QIv.OV k36 36 loW hiW (.slice AW gs.length cW) gs ((Bb.setCell ⟨gv,0,none⟩ (.int .i64 gr)).setCell ⟨gv,1,none⟩ (.slice AW gs.length cW)))
 replace LW:=y0.mk (by simpa using LW.out:hiW≤((Bb.setCell ⟨gv,0,none⟩ (.int .i64 gr)).setCell ⟨gv,1,none⟩ (.slice AW gs.length cW)).heap.size)
 replace BKx:=y0.mk ((y14 (y14 BKx.out (Nx_v.out) _) (Nx_v.out) _):((Bb.setCell ⟨gv,0,none⟩ (.int .i64 gr)).setCell ⟨gv,1,none⟩ (.slice AW gs.length cW)).heap[gx]?=some (.cells #[.int .i64 ar,.slice AX xs.length cX] 32 (0,0)))
 replace BKy:=y0.mk ((y14 (y14 BKy.out (Ny_v.out) _) (Ny_v.out) _):((Bb.setCell ⟨gv,0,none⟩ (.int .i64 gr)).setCell ⟨gv,1,none⟩ (.slice AW gs.length cW)).heap[gy]?=some (.cells #[.slice AY ys.length cY] 36 (0,0)))
 replace BKg:=y0.mk ((y14 (y14 BKg.out (Ng_v.out) _) (Ng_v.out) _):((Bb.setCell ⟨gv,0,none⟩ (.int .i64 gr)).setCell ⟨gv,1,none⟩ (.slice AW gs.length cW)).heap[gg]?=some (.cells #[.int .i64 gr,.slice AG gs.length cG] 32 (0,0)))
 replace BKv:=y0.mk ((blk_set (blk_set BKv.out 0 (.int .i64 gr)) 1 (.slice AW gs.length cW)):((Bb.setCell ⟨gv,0,none⟩ (.int .i64 gr)).setCell ⟨gv,1,none⟩ (.slice AW gs.length cW)).heap[gv]?=some (.cells #[.int .i64 gr,.slice AW gs.length cW] 32 (0,0)))
 replace HB:=y0.mk ((y6 (y6 HB.out GEv.out) GEv.out):Below w.heap.size w ((Bb.setCell ⟨gv,0,none⟩ (.int .i64 gr)).setCell ⟨gv,1,none⟩ (.slice AW gs.length cW)))
 generalize ((Bb.setCell ⟨gv,0,none⟩ (.int .i64 gr)).setCell ⟨gv,1,none⟩ (.slice AW gs.length cW))=Br at OX LX OY LY OG LG OW LW BKx BKy BKg BKv HB ⊢
 obtain⟨Aa,Ac,Ad,Ae⟩:=QIv.box2 BKx.out
 obtain⟨Af,Ag⟩:=QIv.box1 BKy.out
 obtain⟨Ah,Ai,Aj,Ak⟩:=QIv.box2 BKg.out
 obtain⟨Al,Am,Ap,Aq⟩:=QIv.box2 BKv.out
 go_upto_region 8 with(first
  | ((try(refine y21 (by rfl) ?_;dsimp only));go_at_call 25;(with_reducible refine(laws_sameRel.calls k gr _ _ gs gr _ _ gs true _ OG.out.C OG.out.le OW.out.C OW.out.le F4.out).mono ?_);rintro e Bs ⟨rfl,hb⟩;(repeat first|clear Aa|clear Ac|clear Af|clear Ah|clear Ai|clear Al|clear Am|clear Ad|clear Ae|clear Ag|clear Aj|clear Ak|clear Ap|clear Aq);replace OX:=y0.mk (OX.out.below hb);replace OY:=y0.mk (OY.out.below hb);replace OG:=y0.mk (OG.out.below hb);replace OW:=y0.mk (OW.out.below hb);replace LX:=y0.mk (Nat.le_trans LX.out hb.size);replace LY:=y0.mk (Nat.le_trans LY.out hb.size);replace LG:=y0.mk (Nat.le_trans LG.out hb.size);replace LW:=y0.mk (Nat.le_trans LW.out hb.size);replace BKx:=y0.mk (y10 (g:=gx) (o:=(.cells #[.int .i64 ar,.slice AX xs.length cX] 32 (0,0))) BKx.out hb);replace BKy:=y0.mk (y10 (g:=gy) (o:=(.cells #[.slice AY ys.length cY] 36 (0,0))) BKy.out hb);replace BKg:=y0.mk (y10 (g:=gg) (o:=(.cells #[.int .i64 gr,.slice AG gs.length cG] 32 (0,0))) BKg.out hb);replace BKv:=y0.mk (y10 (g:=gv) (o:=(.cells #[.int .i64 gr,.slice AW gs.length cW] 32 (0,0))) BKv.out hb);replace HB:=y0.mk (y8 HB.out hb);(try clear hb);obtain⟨Aa,Ac,Ad,Ae⟩:=QIv.box2 BKx.out;obtain⟨Af,Ag⟩:=QIv.box1 BKy.out;obtain⟨Ah,Ai,Aj,Ak⟩:=QIv.box2 BKg.out;obtain⟨Al,Am,Ap,Aq⟩:=QIv.box2 BKv.out))
 rcases h.out with⟨e1,e2⟩|⟨e1,e2,e3⟩|⟨e1,e2,h1,h2,h3,er,es,h4,h5,h6,h7,h8⟩
 ·subst e1 e2
  clear h
  go_wp2_with (first|(go_at_call 22;(with_reducible refine(spec_RelOk.calls k ar _ _ xs _ _ OX.out.C OX.out.le F5.out).mono ?_);rintro e Bk ⟨rfl,hb⟩;(repeat first|clear Aa|clear Ac|clear Af|clear Ah|clear Ai|clear Al|clear Am|clear Ad|clear Ae|clear Ag|clear Aj|clear Ak|clear Ap|clear Aq);replace OX:=y0.mk (OX.out.below hb);replace OY:=y0.mk (OY.out.below hb);replace OG:=y0.mk (OG.out.below hb);replace OW:=y0.mk (OW.out.below hb);replace LX:=y0.mk (Nat.le_trans LX.out hb.size);replace LY:=y0.mk (Nat.le_trans LY.out hb.size);replace LG:=y0.mk (Nat.le_trans LG.out hb.size);replace LW:=y0.mk (Nat.le_trans LW.out hb.size);replace BKx:=y0.mk (y10 (g:=gx) (o:=(.cells #[.int .i64 ar,.slice AX xs.length cX] 32 (0,0))) BKx.out hb);replace BKy:=y0.mk (y10 (g:=gy) (o:=(.cells #[.slice AY ys.length cY] 36 (0,0))) BKy.out hb);replace BKg:=y0.mk (y10 (g:=gg) (o:=(.cells #[.int .i64 gr,.slice AG gs.length cG] 32 (0,0))) BKg.out hb);replace BKv:=y0.mk (y10 (g:=gv) (o:=(.cells #[.int .i64 gr,.slice AW gs.length cW] 32 (0,0))) BKv.out hb);replace HB:=y0.mk (y8 HB.out hb);(try clear hb);obtain⟨Aa,Ac,Ad,Ae⟩:=QIv.box2 BKx.out;obtain⟨Af,Ag⟩:=QIv.box1 BKy.out;obtain⟨Ah,Ai,Aj,Ak⟩:=QIv.box2 BKg.out;obtain⟨Al,Am,Ap,Aq⟩:=QIv.box2 BKv.out))
  go_ret
  exact⟨by first|rfl|(simp [y17,y18] <;> rfl),HB.out⟩
 ·subst e1 e3
  clear h
  have cl:((gs.length:Int) == 0)=true:=by rw [e2];rfl
  go_wp2_with (first|(go_at_call 22;(with_reducible refine(spec_RelOk.calls k ar _ _ xs _ _ OX.out.C OX.out.le F5.out).mono ?_);rintro e Bk ⟨rfl,hb⟩;(repeat first|clear Aa|clear Ac|clear Af|clear Ah|clear Ai|clear Al|clear Am|clear Ad|clear Ae|clear Ag|clear Aj|clear Ak|clear Ap|clear Aq);replace OX:=y0.mk (OX.out.below hb);replace OY:=y0.mk (OY.out.below hb);replace OG:=y0.mk (OG.out.below hb);replace OW:=y0.mk (OW.out.below hb);replace LX:=y0.mk (Nat.le_trans LX.out hb.size);replace LY:=y0.mk (Nat.le_trans LY.out hb.size);replace LG:=y0.mk (Nat.le_trans LG.out hb.size);replace LW:=y0.mk (Nat.le_trans LW.out hb.size);replace BKx:=y0.mk (y10 (g:=gx) (o:=(.cells #[.int .i64 ar,.slice AX xs.length cX] 32 (0,0))) BKx.out hb);replace BKy:=y0.mk (y10 (g:=gy) (o:=(.cells #[.slice AY ys.length cY] 36 (0,0))) BKy.out hb);replace BKg:=y0.mk (y10 (g:=gg) (o:=(.cells #[.int .i64 gr,.slice AG gs.length cG] 32 (0,0))) BKg.out hb);replace BKv:=y0.mk (y10 (g:=gv) (o:=(.cells #[.int .i64 gr,.slice AW gs.length cW] 32 (0,0))) BKv.out hb);replace HB:=y0.mk (y8 HB.out hb);(try clear hb);obtain⟨Aa,Ac,Ad,Ae⟩:=QIv.box2 BKx.out;obtain⟨Af,Ag⟩:=QIv.box1 BKy.out;obtain⟨Ah,Ai,Aj,Ak⟩:=QIv.box2 BKg.out;obtain⟨Al,Am,Ap,Aq⟩:=QIv.box2 BKv.out))
  go_ret
  exact⟨by first|rfl|(simp [y17,y18] <;> rfl),HB.out⟩
 ·subst e1
  clear h
  have cl:((gs.length:Int) == 0)=false:=beq_eq_false_iff_ne.mpr (by omega)
  replace h1:=y0.mk h1
  replace h2:=y0.mk h2
  replace h3:=y0.mk h3
  replace h4:=y0.mk h4
  replace h5:=y0.mk h5
  replace h6:=y0.mk h6
  replace h7:=y0.mk h7
  replace h8:=y0.mk h8
  clear e2
  go_upto_region 10 with(first
   | (go_at_call 22;(with_reducible refine(spec_RelOk.calls k ar _ _ xs _ _ OX.out.C OX.out.le F5.out).mono ?_);rintro e Bk ⟨rfl,hb⟩;(repeat first|clear Aa|clear Ac|clear Af|clear Ah|clear Ai|clear Al|clear Am|clear Ad|clear Ae|clear Ag|clear Aj|clear Ak|clear Ap|clear Aq);replace OX:=y0.mk (OX.out.below hb);replace OY:=y0.mk (OY.out.below hb);replace OG:=y0.mk (OG.out.below hb);replace OW:=y0.mk (OW.out.below hb);replace LX:=y0.mk (Nat.le_trans LX.out hb.size);replace LY:=y0.mk (Nat.le_trans LY.out hb.size);replace LG:=y0.mk (Nat.le_trans LG.out hb.size);replace LW:=y0.mk (Nat.le_trans LW.out hb.size);replace BKx:=y0.mk (y10 (g:=gx) (o:=(.cells #[.int .i64 ar,.slice AX xs.length cX] 32 (0,0))) BKx.out hb);replace BKy:=y0.mk (y10 (g:=gy) (o:=(.cells #[.slice AY ys.length cY] 36 (0,0))) BKy.out hb);replace BKg:=y0.mk (y10 (g:=gg) (o:=(.cells #[.int .i64 gr,.slice AG gs.length cG] 32 (0,0))) BKg.out hb);replace BKv:=y0.mk (y10 (g:=gv) (o:=(.cells #[.int .i64 gr,.slice AW gs.length cW] 32 (0,0))) BKv.out hb);replace HB:=y0.mk (y8 HB.out hb);(try clear hb);obtain⟨Aa,Ac,Ad,Ae⟩:=QIv.box2 BKx.out;obtain⟨Af,Ag⟩:=QIv.box1 BKy.out;obtain⟨Ah,Ai,Aj,Ak⟩:=QIv.box2 BKg.out;obtain⟨Al,Am,Ap,Aq⟩:=QIv.box2 BKv.out))
  go_upto_region 11 with(first
   | (go_at_call 13;(with_reducible refine(impl_RelPut.calls k gr _ _ gs _ _ ys gr gs false _ OG.out.C OG.out.le OY.out.C OY.out.le (Tb.below HT.out HB.out) h1.out).mono ?_);rintro e Bt ⟨v_,rfl,ho,hb⟩;obtain⟨loA,hiA,hlo_,hhi_,hOA_⟩:=QIv.OS.new ho;obtain⟨AA,cA,eA_⟩:=hOA_.slice;subst eA_;(repeat first|clear Aa|clear Ac|clear Af|clear Ah|clear Ai|clear Al|clear Am|clear Ad|clear Ae|clear Ag|clear Aj|clear Ak|clear Ap|clear Aq);have OA:=y0.mk (hOA_);have LA:=y0.mk ((by rw [hhi_];exact Nat.le_refl _:hiA≤_));have BA:=y0.mk ((by rw [hlo_];exact HB.out.size:w.heap.size≤loA));have DX_A:=y0.mk ((by rw [hlo_];exact LX.out:hiX≤loA));have DY_A:=y0.mk ((by rw [hlo_];exact LY.out:hiY≤loA));have DG_A:=y0.mk ((by rw [hlo_];exact LG.out:hiG≤loA));have DW_A:=y0.mk ((by rw [hlo_];exact LW.out:hiW≤loA));have Ex_A:=y0.mk ((by rw [hlo_];exact QIv.ki_lt BKx.out:gx < loA));have Ey_A:=y0.mk ((by rw [hlo_];exact QIv.ki_lt BKy.out:gy < loA));have Eg_A:=y0.mk ((by rw [hlo_];exact QIv.ki_lt BKg.out:gg < loA));have Ev_A:=y0.mk ((by rw [hlo_];exact QIv.ki_lt BKv.out:gv < loA));replace OX:=y0.mk (OX.out.below hb);replace OY:=y0.mk (OY.out.below hb);replace OG:=y0.mk (OG.out.below hb);replace OW:=y0.mk (OW.out.below hb);replace LX:=y0.mk (Nat.le_trans LX.out hb.size);replace LY:=y0.mk (Nat.le_trans LY.out hb.size);replace LG:=y0.mk (Nat.le_trans LG.out hb.size);replace LW:=y0.mk (Nat.le_trans LW.out hb.size);replace BKx:=y0.mk (y10 (g:=gx) (o:=(.cells #[.int .i64 ar,.slice AX xs.length cX] 32 (0,0))) BKx.out hb);replace BKy:=y0.mk (y10 (g:=gy) (o:=(.cells #[.slice AY ys.length cY] 36 (0,0))) BKy.out hb);replace BKg:=y0.mk (y10 (g:=gg) (o:=(.cells #[.int .i64 gr,.slice AG gs.length cG] 32 (0,0))) BKg.out hb);replace BKv:=y0.mk (y10 (g:=gv) (o:=(.cells #[.int .i64 gr,.slice AW gs.length cW] 32 (0,0))) BKv.out hb);replace HB:=y0.mk (y8 HB.out hb);(try clear hb);(try clear ho);(try clear hlo_);(try clear hhi_);obtain⟨Aa,Ac,Ad,Ae⟩:=QIv.box2 BKx.out;obtain⟨Af,Ag⟩:=QIv.box1 BKy.out;obtain⟨Ah,Ai,Aj,Ak⟩:=QIv.box2 BKg.out;obtain⟨Al,Am,Ap,Aq⟩:=QIv.box2 BKv.out)
   | ((with_reducible refine y20 (N:=9) rfl ?_);refine qe 9 #[.int .i64 0,.slice none 0 0] 32 ?_;intro ga hg Ba hbox hb;(repeat first|clear Aa|clear Ac|clear Af|clear Ah|clear Ai|clear Al|clear Am|clear Ad|clear Ae|clear Ag|clear Aj|clear Ak|clear Ap|clear Aq);have BKa:=y0.mk (hbox);have GEa:=y0.mk ((by rw [hg];exact HB.out.size:w.heap.size≤ga));have EX_a:=y0.mk ((by rw [hg];exact LX.out:hiX≤ga));have EY_a:=y0.mk ((by rw [hg];exact LY.out:hiY≤ga));have EG_a:=y0.mk ((by rw [hg];exact LG.out:hiG≤ga));have EW_a:=y0.mk ((by rw [hg];exact LW.out:hiW≤ga));have EA_a:=y0.mk ((by rw [hg];exact LA.out:hiA≤ga));have Nx_a:=y0.mk ((by rw [hg];exact Nat.ne_of_lt (QIv.ki_lt BKx.out):gx≠ga));have Ny_a:=y0.mk ((by rw [hg];exact Nat.ne_of_lt (QIv.ki_lt BKy.out):gy≠ga));have Ng_a:=y0.mk ((by rw [hg];exact Nat.ne_of_lt (QIv.ki_lt BKg.out):gg≠ga));have Nv_a:=y0.mk ((by rw [hg];exact Nat.ne_of_lt (QIv.ki_lt BKv.out):gv≠ga));replace OX:=y0.mk (OX.out.below hb);replace OY:=y0.mk (OY.out.below hb);replace OG:=y0.mk (OG.out.below hb);replace OW:=y0.mk (OW.out.below hb);replace OA:=y0.mk (OA.out.below hb);replace LX:=y0.mk (Nat.le_trans LX.out hb.size);replace LY:=y0.mk (Nat.le_trans LY.out hb.size);replace LG:=y0.mk (Nat.le_trans LG.out hb.size);replace LW:=y0.mk (Nat.le_trans LW.out hb.size);replace LA:=y0.mk (Nat.le_trans LA.out hb.size);replace BKx:=y0.mk (y10 (g:=gx) (o:=(.cells #[.int .i64 ar,.slice AX xs.length cX] 32 (0,0))) BKx.out hb);replace BKy:=y0.mk (y10 (g:=gy) (o:=(.cells #[.slice AY ys.length cY] 36 (0,0))) BKy.out hb);replace BKg:=y0.mk (y10 (g:=gg) (o:=(.cells #[.int .i64 gr,.slice AG gs.length cG] 32 (0,0))) BKg.out hb);replace BKv:=y0.mk (y10 (g:=gv) (o:=(.cells #[.int .i64 gr,.slice AW gs.length cW] 32 (0,0))) BKv.out hb);replace HB:=y0.mk (y8 HB.out hb);clear hb hg hbox;obtain⟨Aa,Ac,Ad,Ae⟩:=QIv.box2 BKx.out;obtain⟨Af,Ag⟩:=QIv.box1 BKy.out;obtain⟨Ah,Ai,Aj,Ak⟩:=QIv.box2 BKg.out;obtain⟨Al,Am,Ap,Aq⟩:=QIv.box2 BKv.out;obtain⟨Au,Av,Aw,Ay⟩:=QIv.box2 BKa.out))
  (repeat first|clear Aa|clear Ac|clear Af|clear Ah|clear Ai|clear Al|clear Am|clear Au|clear Av|clear Ad|clear Ae|clear Ag|clear Aj|clear Ak|clear Ap|clear Aq|clear Aw|clear Ay)
  replace OX:=y0.mk (((OX.out.set (.inr EX_a.out) _ _).set (.inr EX_a.out) _ _):QIv.OV k36 36 loX hiX (.slice AX xs.length cX) xs ((Ba.setCell ⟨ga,0,none⟩ (.int .i64 gr)).setCell ⟨ga,1,none⟩ (.slice AA gs.length cA)))
  replace LX:=y0.mk (by simpa using LX.out:hiX≤((Ba.setCell ⟨ga,0,none⟩ (.int .i64 gr)).setCell ⟨ga,1,none⟩ (.slice AA gs.length cA)).heap.size)
  replace OY:=y0.mk (((OY.out.set (.inr EY_a.out) _ _).set (.inr EY_a.out) _ _):QIv.OR Kd.string 9 loY hiY (.slice AY ys.length cY) ys ((Ba.setCell ⟨ga,0,none⟩ (.int .i64 gr)).setCell ⟨ga,1,none⟩ (.slice AA gs.length cA)))
  replace LY:=y0.mk (by simpa using LY.out:hiY≤((Ba.setCell ⟨ga,0,none⟩ (.int .i64 gr)).setCell ⟨ga,1,none⟩ (.slice AA gs.length cA)).heap.size)
  replace OG:=y0.mk (((OG.out.set (.inr EG_a.out) _ _).set (.inr EG_a.out) _ _):QIv.OS k36 36 loG hiG (.slice AG gs.length cG) gs ((Ba.setCell ⟨ga,0,none⟩ (.int .i64 gr)).setCell ⟨ga,1,none⟩ (.slice AA gs.length cA)))
  replace LG:=y0.mk (by simpa using LG.out:hiG≤((Ba.setCell ⟨ga,0,none⟩ (.int .i64 gr)).setCell ⟨ga,1,none⟩ (.slice AA gs.length cA)).heap.size)
  replace OW:=y0.mk (((OW.out.set (.inr EW_a.out) _ _).set (.inr EW_a.out) _ _):QIv.OV k36 36 loW hiW (.slice AW gs.length cW) gs ((Ba.setCell ⟨ga,0,none⟩ (.int .i64 gr)).setCell ⟨ga,1,none⟩ (.slice AA gs.length cA)))
  replace LW:=y0.mk (by simpa using LW.out:hiW≤((Ba.setCell ⟨ga,0,none⟩ (.int .i64 gr)).setCell ⟨ga,1,none⟩ (.slice AA gs.length cA)).heap.size)
  replace OA:=y0.mk (((OA.out.set (.inr EA_a.out) _ _).set (.inr EA_a.out) _ _):QIv.OS k36 36 loA hiA (.slice AA gs.length cA) gs ((Ba.setCell ⟨ga,0,none⟩ (.int .i64 gr)).setCell ⟨ga,1,none⟩ (.slice AA gs.length cA)))
  replace LA:=y0.mk (by simpa using LA.out:hiA≤((Ba.setCell ⟨ga,0,none⟩ (.int .i64 gr)).setCell ⟨ga,1,none⟩ (.slice AA gs.length cA)).heap.size)
  replace BKx:=y0.mk ((y14 (y14 BKx.out (Nx_a.out) _) (Nx_a.out) _):((Ba.setCell ⟨ga,0,none⟩ (.int .i64 gr)).setCell ⟨ga,1,none⟩ (.slice AA gs.length cA)).heap[gx]?=some (.cells #[.int .i64 ar,.slice AX xs.length cX] 32 (0,0)))
  replace BKy:=y0.mk ((y14 (y14 BKy.out (Ny_a.out) _) (Ny_a.out) _):((Ba.setCell ⟨ga,0,none⟩ (.int .i64 gr)).setCell ⟨ga,1,none⟩ (.slice AA gs.length cA)).heap[gy]?=some (.cells #[.slice AY ys.length cY] 36 (0,0)))
  replace BKg:=y0.mk ((y14 (y14 BKg.out (Ng_a.out) _) (Ng_a.out) _):((Ba.setCell ⟨ga,0,none⟩ (.int .i64 gr)).setCell ⟨ga,1,none⟩ (.slice AA gs.length cA)).heap[gg]?=some (.cells #[.int .i64 gr,.slice AG gs.length cG] 32 (0,0)))
  replace BKv:=y0.mk ((y14 (y14 BKv.out (Nv_a.out) _) (Nv_a.out) _):((Ba.setCell ⟨ga,0,none⟩ (.int .i64 gr)).setCell ⟨ga,1,none⟩ (.slice AA gs.length cA)).heap[gv]?=some (.cells #[.int .i64 gr,.slice AW gs.length cW] 32 (0,0)))
  replace BKa:=y0.mk ((blk_set (blk_set BKa.out 0 (.int .i64 gr)) 1 (.slice AA gs.length cA)):((Ba.setCell ⟨ga,0,none⟩ (.int .i64 gr)).setCell ⟨ga,1,none⟩ (.slice AA gs.length cA)).heap[ga]?=some (.cells #[.int .i64 gr,.slice AA gs.length cA] 32 (0,0)))
  replace HB:=y0.mk ((y6 (y6 HB.out GEa.out) GEa.out):Below w.heap.size w ((Ba.setCell ⟨ga,0,none⟩ (.int .i64 gr)).setCell ⟨ga,1,none⟩ (.slice AA gs.length cA)))
  generalize ((Ba.setCell ⟨ga,0,none⟩ (.int .i64 gr)).setCell ⟨ga,1,none⟩ (.slice AA gs.length cA))=Bu at OX LX OY LY OG LG OW LW OA LA BKx BKy BKg BKv BKa HB ⊢
  obtain⟨Aa,Ac,Ad,Ae⟩:=QIv.box2 BKx.out
  obtain⟨Af,Ag⟩:=QIv.box1 BKy.out
  obtain⟨Ah,Ai,Aj,Ak⟩:=QIv.box2 BKg.out
  obtain⟨Al,Am,Ap,Aq⟩:=QIv.box2 BKv.out
  obtain⟨Au,Av,Aw,Ay⟩:=QIv.box2 BKa.out
  go_upto_region 13 with(first
   | ((try(refine y21 (by rfl) ?_;dsimp only));go_at_call 26;(with_reducible refine(impl_RelOk.calls k gr _ _ gs true _ OG.out.C OG.out.le (Tb.below HT.out HB.out) h2.out).mono ?_);rintro e Bv ⟨rfl,hb⟩;(repeat first|clear Aa|clear Ac|clear Af|clear Ah|clear Ai|clear Al|clear Am|clear Au|clear Av|clear Ad|clear Ae|clear Ag|clear Aj|clear Ak|clear Ap|clear Aq|clear Aw|clear Ay);replace OX:=y0.mk (OX.out.below hb);replace OY:=y0.mk (OY.out.below hb);replace OG:=y0.mk (OG.out.below hb);replace OW:=y0.mk (OW.out.below hb);replace OA:=y0.mk (OA.out.below hb);replace LX:=y0.mk (Nat.le_trans LX.out hb.size);replace LY:=y0.mk (Nat.le_trans LY.out hb.size);replace LG:=y0.mk (Nat.le_trans LG.out hb.size);replace LW:=y0.mk (Nat.le_trans LW.out hb.size);replace LA:=y0.mk (Nat.le_trans LA.out hb.size);replace BKx:=y0.mk (y10 (g:=gx) (o:=(.cells #[.int .i64 ar,.slice AX xs.length cX] 32 (0,0))) BKx.out hb);replace BKy:=y0.mk (y10 (g:=gy) (o:=(.cells #[.slice AY ys.length cY] 36 (0,0))) BKy.out hb);replace BKg:=y0.mk (y10 (g:=gg) (o:=(.cells #[.int .i64 gr,.slice AG gs.length cG] 32 (0,0))) BKg.out hb);replace BKv:=y0.mk (y10 (g:=gv) (o:=(.cells #[.int .i64 gr,.slice AW gs.length cW] 32 (0,0))) BKv.out hb);replace BKa:=y0.mk (y10 (g:=ga) (o:=(.cells #[.int .i64 gr,.slice AA gs.length cA] 32 (0,0))) BKa.out hb);replace HB:=y0.mk (y8 HB.out hb);(try clear hb);obtain⟨Aa,Ac,Ad,Ae⟩:=QIv.box2 BKx.out;obtain⟨Af,Ag⟩:=QIv.box1 BKy.out;obtain⟨Ah,Ai,Aj,Ak⟩:=QIv.box2 BKg.out;obtain⟨Al,Am,Ap,Aq⟩:=QIv.box2 BKv.out;obtain⟨Au,Av,Aw,Ay⟩:=QIv.box2 BKa.out)
   | ((try(refine y21 (by rfl) ?_;dsimp only));go_at_call 27;(with_reducible refine(impl_RelHas.calls k gr _ _ gs _ _ ys true _ OG.out.C OG.out.le OY.out.C OY.out.le (Tb.below HT.out HB.out) h3.out).mono ?_);rintro e Bw ⟨rfl,hb⟩;(repeat first|clear Aa|clear Ac|clear Af|clear Ah|clear Ai|clear Al|clear Am|clear Au|clear Av|clear Ad|clear Ae|clear Ag|clear Aj|clear Ak|clear Ap|clear Aq|clear Aw|clear Ay);replace OX:=y0.mk (OX.out.below hb);replace OY:=y0.mk (OY.out.below hb);replace OG:=y0.mk (OG.out.below hb);replace OW:=y0.mk (OW.out.below hb);replace OA:=y0.mk (OA.out.below hb);replace LX:=y0.mk (Nat.le_trans LX.out hb.size);replace LY:=y0.mk (Nat.le_trans LY.out hb.size);replace LG:=y0.mk (Nat.le_trans LG.out hb.size);replace LW:=y0.mk (Nat.le_trans LW.out hb.size);replace LA:=y0.mk (Nat.le_trans LA.out hb.size);replace BKx:=y0.mk (y10 (g:=gx) (o:=(.cells #[.int .i64 ar,.slice AX xs.length cX] 32 (0,0))) BKx.out hb);replace BKy:=y0.mk (y10 (g:=gy) (o:=(.cells #[.slice AY ys.length cY] 36 (0,0))) BKy.out hb);replace BKg:=y0.mk (y10 (g:=gg) (o:=(.cells #[.int .i64 gr,.slice AG gs.length cG] 32 (0,0))) BKg.out hb);replace BKv:=y0.mk (y10 (g:=gv) (o:=(.cells #[.int .i64 gr,.slice AW gs.length cW] 32 (0,0))) BKv.out hb);replace BKa:=y0.mk (y10 (g:=ga) (o:=(.cells #[.int .i64 gr,.slice AA gs.length cA] 32 (0,0))) BKa.out hb);replace HB:=y0.mk (y8 HB.out hb);(try clear hb);obtain⟨Aa,Ac,Ad,Ae⟩:=QIv.box2 BKx.out;obtain⟨Af,Ag⟩:=QIv.box1 BKy.out;obtain⟨Ah,Ai,Aj,Ak⟩:=QIv.box2 BKg.out;obtain⟨Al,Am,Ap,Aq⟩:=QIv.box2 BKv.out;obtain⟨Au,Av,Aw,Ay⟩:=QIv.box2 BKa.out)
   | ((try(refine y21 (by rfl) ?_;dsimp only));go_at_call 25;(with_reducible refine(laws_sameRel.calls k gr _ _ gs gr _ _ gs true _ OA.out.C OA.out.le OG.out.C OG.out.le F4.out).mono ?_);rintro e Bx ⟨rfl,hb⟩;(repeat first|clear Aa|clear Ac|clear Af|clear Ah|clear Ai|clear Al|clear Am|clear Au|clear Av|clear Ad|clear Ae|clear Ag|clear Aj|clear Ak|clear Ap|clear Aq|clear Aw|clear Ay);replace OX:=y0.mk (OX.out.below hb);replace OY:=y0.mk (OY.out.below hb);replace OG:=y0.mk (OG.out.below hb);replace OW:=y0.mk (OW.out.below hb);replace OA:=y0.mk (OA.out.below hb);replace LX:=y0.mk (Nat.le_trans LX.out hb.size);replace LY:=y0.mk (Nat.le_trans LY.out hb.size);replace LG:=y0.mk (Nat.le_trans LG.out hb.size);replace LW:=y0.mk (Nat.le_trans LW.out hb.size);replace LA:=y0.mk (Nat.le_trans LA.out hb.size);replace BKx:=y0.mk (y10 (g:=gx) (o:=(.cells #[.int .i64 ar,.slice AX xs.length cX] 32 (0,0))) BKx.out hb);replace BKy:=y0.mk (y10 (g:=gy) (o:=(.cells #[.slice AY ys.length cY] 36 (0,0))) BKy.out hb);replace BKg:=y0.mk (y10 (g:=gg) (o:=(.cells #[.int .i64 gr,.slice AG gs.length cG] 32 (0,0))) BKg.out hb);replace BKv:=y0.mk (y10 (g:=gv) (o:=(.cells #[.int .i64 gr,.slice AW gs.length cW] 32 (0,0))) BKv.out hb);replace BKa:=y0.mk (y10 (g:=ga) (o:=(.cells #[.int .i64 gr,.slice AA gs.length cA] 32 (0,0))) BKa.out hb);replace HB:=y0.mk (y8 HB.out hb);(try clear hb);obtain⟨Aa,Ac,Ad,Ae⟩:=QIv.box2 BKx.out;obtain⟨Af,Ag⟩:=QIv.box1 BKy.out;obtain⟨Ah,Ai,Aj,Ak⟩:=QIv.box2 BKg.out;obtain⟨Al,Am,Ap,Aq⟩:=QIv.box2 BKv.out;obtain⟨Au,Av,Aw,Ay⟩:=QIv.box2 BKa.out))
  go_upto_region 15 with(first
   | (go_at_call 28;(with_reducible refine(impl_RelLess.calls k gr _ _ gs ar _ _ xs er es _ OG.out.C OG.out.le OX.out.C OX.out.le (Tb.below HT.out HB.out) h4.out).mono ?_);rintro e Bz ⟨v_,rfl,ho,hb⟩;obtain⟨loE,hiE,hlo_,hhi_,hOE_⟩:=QIv.OS.new ho;obtain⟨AE,cE,eA_⟩:=hOE_.slice;subst eA_;(repeat first|clear Aa|clear Ac|clear Af|clear Ah|clear Ai|clear Al|clear Am|clear Au|clear Av|clear Ad|clear Ae|clear Ag|clear Aj|clear Ak|clear Ap|clear Aq|clear Aw|clear Ay);have OE:=y0.mk (hOE_);have LE:=y0.mk ((by rw [hhi_];exact Nat.le_refl _:hiE≤_));have BE:=y0.mk ((by rw [hlo_];exact HB.out.size:w.heap.size≤loE));have DX_E:=y0.mk ((by rw [hlo_];exact LX.out:hiX≤loE));have DY_E:=y0.mk ((by rw [hlo_];exact LY.out:hiY≤loE));have DG_E:=y0.mk ((by rw [hlo_];exact LG.out:hiG≤loE));have DW_E:=y0.mk ((by rw [hlo_];exact LW.out:hiW≤loE));have DA_E:=y0.mk ((by rw [hlo_];exact LA.out:hiA≤loE));have Ex_E:=y0.mk ((by rw [hlo_];exact QIv.ki_lt BKx.out:gx < loE));have Ey_E:=y0.mk ((by rw [hlo_];exact QIv.ki_lt BKy.out:gy < loE));have Eg_E:=y0.mk ((by rw [hlo_];exact QIv.ki_lt BKg.out:gg < loE));have Ev_E:=y0.mk ((by rw [hlo_];exact QIv.ki_lt BKv.out:gv < loE));have Ea_E:=y0.mk ((by rw [hlo_];exact QIv.ki_lt BKa.out:ga < loE));replace OX:=y0.mk (OX.out.below hb);replace OY:=y0.mk (OY.out.below hb);replace OG:=y0.mk (OG.out.below hb);replace OW:=y0.mk (OW.out.below hb);replace OA:=y0.mk (OA.out.below hb);replace LX:=y0.mk (Nat.le_trans LX.out hb.size);replace LY:=y0.mk (Nat.le_trans LY.out hb.size);replace LG:=y0.mk (Nat.le_trans LG.out hb.size);replace LW:=y0.mk (Nat.le_trans LW.out hb.size);replace LA:=y0.mk (Nat.le_trans LA.out hb.size);replace BKx:=y0.mk (y10 (g:=gx) (o:=(.cells #[.int .i64 ar,.slice AX xs.length cX] 32 (0,0))) BKx.out hb);replace BKy:=y0.mk (y10 (g:=gy) (o:=(.cells #[.slice AY ys.length cY] 36 (0,0))) BKy.out hb);replace BKg:=y0.mk (y10 (g:=gg) (o:=(.cells #[.int .i64 gr,.slice AG gs.length cG] 32 (0,0))) BKg.out hb);replace BKv:=y0.mk (y10 (g:=gv) (o:=(.cells #[.int .i64 gr,.slice AW gs.length cW] 32 (0,0))) BKv.out hb);replace BKa:=y0.mk (y10 (g:=ga) (o:=(.cells #[.int .i64 gr,.slice AA gs.length cA] 32 (0,0))) BKa.out hb);replace HB:=y0.mk (y8 HB.out hb);(try clear hb);(try clear ho);(try clear hlo_);(try clear hhi_);obtain⟨Aa,Ac,Ad,Ae⟩:=QIv.box2 BKx.out;obtain⟨Af,Ag⟩:=QIv.box1 BKy.out;obtain⟨Ah,Ai,Aj,Ak⟩:=QIv.box2 BKg.out;obtain⟨Al,Am,Ap,Aq⟩:=QIv.box2 BKv.out;obtain⟨Au,Av,Aw,Ay⟩:=QIv.box2 BKa.out)
   | ((with_reducible refine y20 (N:=11) rfl ?_);refine qe 11 #[.int .i64 0,.slice none 0 0] 32 ?_;intro ge hg Az hbox hb;(repeat first|clear Aa|clear Ac|clear Af|clear Ah|clear Ai|clear Al|clear Am|clear Au|clear Av|clear Ad|clear Ae|clear Ag|clear Aj|clear Ak|clear Ap|clear Aq|clear Aw|clear Ay);have BKe:=y0.mk (hbox);have GEe:=y0.mk ((by rw [hg];exact HB.out.size:w.heap.size≤ge));have EX_e:=y0.mk ((by rw [hg];exact LX.out:hiX≤ge));have EY_e:=y0.mk ((by rw [hg];exact LY.out:hiY≤ge));have EG_e:=y0.mk ((by rw [hg];exact LG.out:hiG≤ge));have EW_e:=y0.mk ((by rw [hg];exact LW.out:hiW≤ge));have EA_e:=y0.mk ((by rw [hg];exact LA.out:hiA≤ge));have EE_e:=y0.mk ((by rw [hg];exact LE.out:hiE≤ge));have Nx_e:=y0.mk ((by rw [hg];exact Nat.ne_of_lt (QIv.ki_lt BKx.out):gx≠ge));have Ny_e:=y0.mk ((by rw [hg];exact Nat.ne_of_lt (QIv.ki_lt BKy.out):gy≠ge));have Ng_e:=y0.mk ((by rw [hg];exact Nat.ne_of_lt (QIv.ki_lt BKg.out):gg≠ge));have Nv_e:=y0.mk ((by rw [hg];exact Nat.ne_of_lt (QIv.ki_lt BKv.out):gv≠ge));have Na_e:=y0.mk ((by rw [hg];exact Nat.ne_of_lt (QIv.ki_lt BKa.out):ga≠ge));replace OX:=y0.mk (OX.out.below hb);replace OY:=y0.mk (OY.out.below hb);replace OG:=y0.mk (OG.out.below hb);replace OW:=y0.mk (OW.out.below hb);replace OA:=y0.mk (OA.out.below hb);replace OE:=y0.mk (OE.out.below hb);replace LX:=y0.mk (Nat.le_trans LX.out hb.size);replace LY:=y0.mk (Nat.le_trans LY.out hb.size);replace LG:=y0.mk (Nat.le_trans LG.out hb.size);replace LW:=y0.mk (Nat.le_trans LW.out hb.size);replace LA:=y0.mk (Nat.le_trans LA.out hb.size);replace LE:=y0.mk (Nat.le_trans LE.out hb.size);replace BKx:=y0.mk (y10 (g:=gx) (o:=(.cells #[.int .i64 ar,.slice AX xs.length cX] 32 (0,0))) BKx.out hb);replace BKy:=y0.mk (y10 (g:=gy) (o:=(.cells #[.slice AY ys.length cY] 36 (0,0))) BKy.out hb);replace BKg:=y0.mk (y10 (g:=gg) (o:=(.cells #[.int .i64 gr,.slice AG gs.length cG] 32 (0,0))) BKg.out hb);replace BKv:=y0.mk (y10 (g:=gv) (o:=(.cells #[.int .i64 gr,.slice AW gs.length cW] 32 (0,0))) BKv.out hb);replace BKa:=y0.mk (y10 (g:=ga) (o:=(.cells #[.int .i64 gr,.slice AA gs.length cA] 32 (0,0))) BKa.out hb);replace HB:=y0.mk (y8 HB.out hb);clear hb hg hbox;obtain⟨Aa,Ac,Ad,Ae⟩:=QIv.box2 BKx.out;obtain⟨Af,Ag⟩:=QIv.box1 BKy.out;obtain⟨Ah,Ai,Aj,Ak⟩:=QIv.box2 BKg.out;obtain⟨Al,Am,Ap,Aq⟩:=QIv.box2 BKv.out;obtain⟨Au,Av,Aw,Ay⟩:=QIv.box2 BKa.out;obtain⟨Bc,Bd,Be,Bf⟩:=QIv.box2 BKe.out))
  (repeat first|clear Aa|clear Ac|clear Af|clear Ah|clear Ai|clear Al|clear Am|clear Au|clear Av|clear Bc|clear Bd|clear Ad|clear Ae|clear Ag|clear Aj|clear Ak|clear Ap|clear Aq|clear Aw|clear Ay|clear Be|clear Bf)
  replace OX:=y0.mk (((OX.out.set (.inr EX_e.out) _ _).set (.inr EX_e.out) _ _):QIv.OV k36 36 loX hiX (.slice AX xs.length cX) xs ((Az.setCell ⟨ge,0,none⟩ (.int .i64 er)).setCell ⟨ge,1,none⟩ (.slice AE es.length cE)))
  replace LX:=y0.mk (by simpa using LX.out:hiX≤((Az.setCell ⟨ge,0,none⟩ (.int .i64 er)).setCell ⟨ge,1,none⟩ (.slice AE es.length cE)).heap.size)
  replace OY:=y0.mk (((OY.out.set (.inr EY_e.out) _ _).set (.inr EY_e.out) _ _):QIv.OR Kd.string 9 loY hiY (.slice AY ys.length cY) ys ((Az.setCell ⟨ge,0,none⟩ (.int .i64 er)).setCell ⟨ge,1,none⟩ (.slice AE es.length cE)))
  replace LY:=y0.mk (by simpa using LY.out:hiY≤((Az.setCell ⟨ge,0,none⟩ (.int .i64 er)).setCell ⟨ge,1,none⟩ (.slice AE es.length cE)).heap.size)
  replace OG:=y0.mk (((OG.out.set (.inr EG_e.out) _ _).set (.inr EG_e.out) _ _):QIv.OS k36 36 loG hiG (.slice AG gs.length cG) gs ((Az.setCell ⟨ge,0,none⟩ (.int .i64 er)).setCell ⟨ge,1,none⟩ (.slice AE es.length cE)))
  replace LG:=y0.mk (by simpa using LG.out:hiG≤((Az.setCell ⟨ge,0,none⟩ (.int .i64 er)).setCell ⟨ge,1,none⟩ (.slice AE es.length cE)).heap.size)
  replace OW:=y0.mk (((OW.out.set (.inr EW_e.out) _ _).set (.inr EW_e.out) _ _):QIv.OV k36 36 loW hiW (.slice AW gs.length cW) gs ((Az.setCell ⟨ge,0,none⟩ (.int .i64 er)).setCell ⟨ge,1,none⟩ (.slice AE es.length cE)))
  replace LW:=y0.mk (by simpa using LW.out:hiW≤((Az.setCell ⟨ge,0,none⟩ (.int .i64 er)).setCell ⟨ge,1,none⟩ (.slice AE es.length cE)).heap.size)
  replace OA:=y0.mk (((OA.out.set (.inr EA_e.out) _ _).set (.inr EA_e.out) _ _):QIv.OS k36 36 loA hiA (.slice AA gs.length cA) gs ((Az.setCell ⟨ge,0,none⟩ (.int .i64 er)).setCell ⟨ge,1,none⟩ (.slice AE es.length cE)))
  replace LA:=y0.mk (by simpa using LA.out:hiA≤((Az.setCell ⟨ge,0,none⟩ (.int .i64 er)).setCell ⟨ge,1,none⟩ (.slice AE es.length cE)).heap.size)
  replace OE:=y0.mk (((OE.out.set (.inr EE_e.out) _ _).set (.inr EE_e.out) _ _):QIv.OS k36 36 loE hiE (.slice AE es.length cE) es ((Az.setCell ⟨ge,0,none⟩ (.int .i64 er)).setCell ⟨ge,1,none⟩ (.slice AE es.length cE)))
  replace LE:=y0.mk (by simpa using LE.out:hiE≤((Az.setCell ⟨ge,0,none⟩ (.int .i64 er)).setCell ⟨ge,1,none⟩ (.slice AE es.length cE)).heap.size)
  replace BKx:=y0.mk ((y14 (y14 BKx.out (Nx_e.out) _) (Nx_e.out) _):((Az.setCell ⟨ge,0,none⟩ (.int .i64 er)).setCell ⟨ge,1,none⟩ (.slice AE es.length cE)).heap[gx]?=some (.cells #[.int .i64 ar,.slice AX xs.length cX] 32 (0,0)))
  replace BKy:=y0.mk ((y14 (y14 BKy.out (Ny_e.out) _) (Ny_e.out) _):((Az.setCell ⟨ge,0,none⟩ (.int .i64 er)).setCell ⟨ge,1,none⟩ (.slice AE es.length cE)).heap[gy]?=some (.cells #[.slice AY ys.length cY] 36 (0,0)))
  replace BKg:=y0.mk ((y14 (y14 BKg.out (Ng_e.out) _) (Ng_e.out) _):((Az.setCell ⟨ge,0,none⟩ (.int .i64 er)).setCell ⟨ge,1,none⟩ (.slice AE es.length cE)).heap[gg]?=some (.cells #[.int .i64 gr,.slice AG gs.length cG] 32 (0,0)))
  replace BKv:=y0.mk ((y14 (y14 BKv.out (Nv_e.out) _) (Nv_e.out) _):((Az.setCell ⟨ge,0,none⟩ (.int .i64 er)).setCell ⟨ge,1,none⟩ (.slice AE es.length cE)).heap[gv]?=some (.cells #[.int .i64 gr,.slice AW gs.length cW] 32 (0,0)))
  replace BKa:=y0.mk ((y14 (y14 BKa.out (Na_e.out) _) (Na_e.out) _):((Az.setCell ⟨ge,0,none⟩ (.int .i64 er)).setCell ⟨ge,1,none⟩ (.slice AE es.length cE)).heap[ga]?=some (.cells #[.int .i64 gr,.slice AA gs.length cA] 32 (0,0)))
  replace BKe:=y0.mk ((blk_set (blk_set BKe.out 0 (.int .i64 er)) 1 (.slice AE es.length cE)):((Az.setCell ⟨ge,0,none⟩ (.int .i64 er)).setCell ⟨ge,1,none⟩ (.slice AE es.length cE)).heap[ge]?=some (.cells #[.int .i64 er,.slice AE es.length cE] 32 (0,0)))
  replace HB:=y0.mk ((y6 (y6 HB.out GEe.out) GEe.out):Below w.heap.size w ((Az.setCell ⟨ge,0,none⟩ (.int .i64 er)).setCell ⟨ge,1,none⟩ (.slice AE es.length cE)))
  generalize ((Az.setCell ⟨ge,0,none⟩ (.int .i64 er)).setCell ⟨ge,1,none⟩ (.slice AE es.length cE))=Ca at OX LX OY LY OG LG OW LW OA LA OE LE BKx BKy BKg BKv BKa BKe HB ⊢
  obtain⟨Aa,Ac,Ad,Ae⟩:=QIv.box2 BKx.out
  obtain⟨Af,Ag⟩:=QIv.box1 BKy.out
  obtain⟨Ah,Ai,Aj,Ak⟩:=QIv.box2 BKg.out
  obtain⟨Al,Am,Ap,Aq⟩:=QIv.box2 BKv.out
  obtain⟨Au,Av,Aw,Ay⟩:=QIv.box2 BKa.out
  obtain⟨Bc,Bd,Be,Bf⟩:=QIv.box2 BKe.out
  cases gq with
  | true =>
   have d1:((es.length:Int) == 1)=true:=by rw [beq_iff_eq];have:=h7.out;rw [if_pos rfl]at this;omega
   have d2:((gs.length:Int) == wrap64 ((xs.length:Int) + 1))=true:=by
    rw [beq_iff_eq]
    have h_:=h8.out
    rw [if_pos rfl]at h_
    have:=h6.out
    unfold wrap64
    omega
   go_wp2_with (first|((try(refine y21 (by rfl) ?_;dsimp only));go_at_call 29;(with_reducible refine(spec_RelHas.calls k ar _ _ xs _ _ ys _ _ OX.out.C OX.out.le OY.out.C OY.out.le h5.out).mono ?_);rintro e Bo ⟨rfl,hb⟩;(repeat first|clear Aa|clear Ac|clear Af|clear Ah|clear Ai|clear Al|clear Am|clear Au|clear Av|clear Bc|clear Bd|clear Ad|clear Ae|clear Ag|clear Aj|clear Ak|clear Ap|clear Aq|clear Aw|clear Ay|clear Be|clear Bf);replace OX:=y0.mk (OX.out.below hb);replace OY:=y0.mk (OY.out.below hb);replace OG:=y0.mk (OG.out.below hb);replace OW:=y0.mk (OW.out.below hb);replace OA:=y0.mk (OA.out.below hb);replace OE:=y0.mk (OE.out.below hb);replace LX:=y0.mk (Nat.le_trans LX.out hb.size);replace LY:=y0.mk (Nat.le_trans LY.out hb.size);replace LG:=y0.mk (Nat.le_trans LG.out hb.size);replace LW:=y0.mk (Nat.le_trans LW.out hb.size);replace LA:=y0.mk (Nat.le_trans LA.out hb.size);replace LE:=y0.mk (Nat.le_trans LE.out hb.size);replace BKx:=y0.mk (y10 (g:=gx) (o:=(.cells #[.int .i64 ar,.slice AX xs.length cX] 32 (0,0))) BKx.out hb);replace BKy:=y0.mk (y10 (g:=gy) (o:=(.cells #[.slice AY ys.length cY] 36 (0,0))) BKy.out hb);replace BKg:=y0.mk (y10 (g:=gg) (o:=(.cells #[.int .i64 gr,.slice AG gs.length cG] 32 (0,0))) BKg.out hb);replace BKv:=y0.mk (y10 (g:=gv) (o:=(.cells #[.int .i64 gr,.slice AW gs.length cW] 32 (0,0))) BKv.out hb);replace BKa:=y0.mk (y10 (g:=ga) (o:=(.cells #[.int .i64 gr,.slice AA gs.length cA] 32 (0,0))) BKa.out hb);replace BKe:=y0.mk (y10 (g:=ge) (o:=(.cells #[.int .i64 er,.slice AE es.length cE] 32 (0,0))) BKe.out hb);replace HB:=y0.mk (y8 HB.out hb);(try clear hb);obtain⟨Aa,Ac,Ad,Ae⟩:=QIv.box2 BKx.out;obtain⟨Af,Ag⟩:=QIv.box1 BKy.out;obtain⟨Ah,Ai,Aj,Ak⟩:=QIv.box2 BKg.out;obtain⟨Al,Am,Ap,Aq⟩:=QIv.box2 BKv.out;obtain⟨Au,Av,Aw,Ay⟩:=QIv.box2 BKa.out;obtain⟨Bc,Bd,Be,Bf⟩:=QIv.box2 BKe.out))
   go_ret
   exact⟨by first|rfl|(simp [y17,y18] <;> rfl),HB.out⟩
  | false =>
   have d1:((es.length:Int) == 0)=true:=by rw [beq_iff_eq];have:=h7.out;rw [if_neg Bool.false_ne_true]at this;omega
   have d2:((gs.length:Int) == wrap64 ((xs.length:Int) + 0))=true:=by
    rw [beq_iff_eq]
    have h_:=h8.out
    rw [if_neg Bool.false_ne_true]at h_
    have:=h6.out
    unfold wrap64
    omega
   have d3:((gs.length:Int) == wrap64 ((xs.length:Int)))=true:=by
    rw [beq_iff_eq]
    have h_:=h8.out
    rw [if_neg Bool.false_ne_true]at h_
    have:=h6.out
    unfold wrap64
    omega
   go_wp2_with (first|((try(refine y21 (by rfl) ?_;dsimp only));go_at_call 29;(with_reducible refine(spec_RelHas.calls k ar _ _ xs _ _ ys _ _ OX.out.C OX.out.le OY.out.C OY.out.le h5.out).mono ?_);rintro e Bo ⟨rfl,hb⟩;(repeat first|clear Aa|clear Ac|clear Af|clear Ah|clear Ai|clear Al|clear Am|clear Au|clear Av|clear Bc|clear Bd|clear Ad|clear Ae|clear Ag|clear Aj|clear Ak|clear Ap|clear Aq|clear Aw|clear Ay|clear Be|clear Bf);replace OX:=y0.mk (OX.out.below hb);replace OY:=y0.mk (OY.out.below hb);replace OG:=y0.mk (OG.out.below hb);replace OW:=y0.mk (OW.out.below hb);replace OA:=y0.mk (OA.out.below hb);replace OE:=y0.mk (OE.out.below hb);replace LX:=y0.mk (Nat.le_trans LX.out hb.size);replace LY:=y0.mk (Nat.le_trans LY.out hb.size);replace LG:=y0.mk (Nat.le_trans LG.out hb.size);replace LW:=y0.mk (Nat.le_trans LW.out hb.size);replace LA:=y0.mk (Nat.le_trans LA.out hb.size);replace LE:=y0.mk (Nat.le_trans LE.out hb.size);replace BKx:=y0.mk (y10 (g:=gx) (o:=(.cells #[.int .i64 ar,.slice AX xs.length cX] 32 (0,0))) BKx.out hb);replace BKy:=y0.mk (y10 (g:=gy) (o:=(.cells #[.slice AY ys.length cY] 36 (0,0))) BKy.out hb);replace BKg:=y0.mk (y10 (g:=gg) (o:=(.cells #[.int .i64 gr,.slice AG gs.length cG] 32 (0,0))) BKg.out hb);replace BKv:=y0.mk (y10 (g:=gv) (o:=(.cells #[.int .i64 gr,.slice AW gs.length cW] 32 (0,0))) BKv.out hb);replace BKa:=y0.mk (y10 (g:=ga) (o:=(.cells #[.int .i64 gr,.slice AA gs.length cA] 32 (0,0))) BKa.out hb);replace BKe:=y0.mk (y10 (g:=ge) (o:=(.cells #[.int .i64 er,.slice AE es.length cE] 32 (0,0))) BKe.out hb);replace HB:=y0.mk (y8 HB.out hb);(try clear hb);obtain⟨Aa,Ac,Ad,Ae⟩:=QIv.box2 BKx.out;obtain⟨Af,Ag⟩:=QIv.box1 BKy.out;obtain⟨Ah,Ai,Aj,Ak⟩:=QIv.box2 BKg.out;obtain⟨Al,Am,Ap,Aq⟩:=QIv.box2 BKv.out;obtain⟨Au,Av,Aw,Ay⟩:=QIv.box2 BKa.out;obtain⟨Bc,Bd,Be,Bf⟩:=QIv.box2 BKe.out))
   go_ret
   exact⟨by first|rfl|(simp [y17,y18] <;> rfl),HB.out⟩
/-- THE ONE PURE STATEMENT of laws_FnRelKept. -/
def laws_FnRelKept.Pure:Prop:=∀(l0:List Int),(fun l=>l.length≤maxLen∧l.length * 1≤140737488351232∧∀ x∈l,(fun a=>(Lit.int .u8 a).wf=true) x) l0→∃ k,laws_FnRelKept.Run k l0
theorem laws_FnRelKept.walk (P:laws_FnRelKept.Pure) (l0:List Int) (A0:Option Addr) (c0:Nat) (w:World) (hr0:Kd.C (Kd.int .u8) w A0 l0.length l0) (hc0:l0.length≤c0) (k0:(fun l=>l.length≤maxLen∧l.length * 1≤140737488351232∧∀ x∈l,(fun a=>(Lit.int .u8 a).wf=true) x) l0) (hT:Tb w) :
  Calls Tryz.prog 5 #[.slice A0 l0.length c0] w fun e w'=>e=.returned (.bool true)∧Below w.heap.size w w':=by
 obtain⟨k,h⟩:=P l0 k0
 refine(laws_FnRelKept.calls k A0 c0 l0 w hr0 hc0 hT h).mono ?_
 rintro e w' ⟨rfl,hd⟩
 exact⟨rfl,hd⟩
end Go.Proofs.YtkajecadkkgfmaaGreatDoor.Pn
