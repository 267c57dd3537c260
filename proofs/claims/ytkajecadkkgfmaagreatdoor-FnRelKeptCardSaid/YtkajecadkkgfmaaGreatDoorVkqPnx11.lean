-- Cut by prune.py, a program of this session, out of the texts of this claim: Lean checks it.
import Derived.Test.YtkajecadkkgfmaaGreatDoorVkqPnx0
import Derived.Test.YtkajecadkkgfmaaGreatDoorVkqPnx7
import Derived.Test.YtkajecadkkgfmaaGreatDoorVkqPnx9
section
namespace Go.Proofs.YtkajecadkkgfmaaGreatDoor.Pn
open Go.RowKit Go.Proofs.YtkajecadkkgfmaaGreatDoorW.PrintWords Go.Proofs.YtkajecadkkgfmaaGreatDoorW.PrintLast Go.Proofs.YtkajecadkkgfmaaGreatDoorW.PrintMore
attribute [local go_sem] max2_int min2_int max_two min_two max_three min_three max_four min_four   -- for this text's walks alone
set_option linter.unusedVariables false
set_option linter.unusedSimpArgs false
mutual
def spec_l02Put.j1:Nat→List (S36)→Int→List ByteArray→Option ((List (S36))×Bool)
 | 0,_,_,_=>none
 | k + 1,x0,x6,x264000=>if x6 < (x0.length:Int)then(if 0≤x6 then((spec_l02Cmp.f k ((y24 x0 x6).f0) x264000).bind fun t267=>(if t267=0 then(some (x0,false))else((some (([]:List (S36)):List (S36))).bind fun y268=>(if x6≤(x0.length:Int)then((some (x0.take (x6:Int).toNat:List (S36))).bind fun y271=>(if y268.length + y271.length < 5864062014805 then((some (y268 ++ y271:List (S36))).bind fun y276=>((spec_l02Tuple.f x264000).bind fun t279=>(if y276.length < 5864062014805 then((some (y276 ++ [(⟨t279⟩:S36)]:List (S36))).bind fun y282=>((some (x0.drop (x6:Int).toNat:List (S36))).bind fun y285=>(if y282.length + y285.length < 5864062014805 then(some ((y282 ++ y285),true))else(none))))else(none))))else(none)))else(none)))))else(none))else((some (([]:List (S36)):List (S36))).bind fun y293=>(if 0≤x6 then(if x6≤(x0.length:Int)then((some (x0.take (x6:Int).toNat:List (S36))).bind fun y296=>(if y293.length + y296.length < 5864062014805 then((some (y293 ++ y296:List (S36))).bind fun y301=>((spec_l02Tuple.f x264000).bind fun t304=>(if y301.length < 5864062014805 then((some (y301 ++ [(⟨t304⟩:S36)]:List (S36))).bind fun y307=>((some (x0.drop (x6:Int).toNat:List (S36))).bind fun y310=>(if y307.length + y310.length < 5864062014805 then(some ((y307 ++ y310),true))else(none))))else(none))))else(none)))else(none))else(none)))
def spec_l02Put.l0:Nat→List (S36)→Int→List ByteArray→Option ((List (S36))×Bool)
 | 0,_,_,_=>none
 | k + 1,x0,x6,x264000=>if x6 < (x0.length:Int)then(if 0≤x6 then((spec_l02Cmp.f k ((y24 x0 x6).f0) x264000).bind fun t265=>(if t265 < 0 then(spec_l02Put.l0 k x0 (wrap64 (x6 + 1)) x264000)else(spec_l02Put.j1 k x0 x6 x264000)))else(none))else(spec_l02Put.j1 k x0 x6 x264000)
end
def spec_l02Put.f (k:Nat) (l0:List (S36)) (l1_0:List ByteArray):Option ((List (S36))×Bool):=spec_l02Put.l0 k l0 0 l1_0
def spec_l02Put.T2:Bool×List (List Nat×List Nat):=(true,[([],[]),([],[]),([1],[1]),([0,2],[0,2]),([3],[3]),([4],[4]),([4],[4]),([5,6,4],[4,5,6]),([7,4],[4,7]),([4],[4]),([8,9,4,4],[4,8,9]),([10,4],[4,10]),([4,11],[4,11])])
def spec_l02Put.B2:List Nat:=[0,0,2,7,15,31,31,127,255,31,1023,2047,4095]
theorem spec_l02Put.tab2:rtab .any (opsOf Tryz.f37 2)=spec_l02Put.T2:=by kernel_rfl
theorem spec_l02Put.bits2:waitsOk spec_l02Put.T2.2 spec_l02Put.B2=true:=by kernel_rfl
def spec_l02Put.T4:Bool×List (List Nat×List Nat):=(true,[([],[]),([],[]),([1],[1]),([0,2],[0,2]),([3],[3]),([4],[4]),([4],[4]),([5,6,4],[4,5,6]),([7,4],[4,7]),([4],[4]),([8,9,4,4],[4,8,9]),([10,4],[4,10]),([4,11],[4,11])])
def spec_l02Put.B4:List Nat:=[0,0,2,7,15,31,31,127,255,31,1023,2047,4095]
theorem spec_l02Put.tab4:rtab .any (opsOf Tryz.f37 4)=spec_l02Put.T4:=by kernel_rfl
theorem spec_l02Put.bits4:waitsOk spec_l02Put.T4.2 spec_l02Put.B4=true:=by kernel_rfl
set_option maxHeartbeats 8000000 in
set_option maxRecDepth 100000 in
theorem spec_l02Put.calls (k:Nat) (P0_:Nat→Prop) (A0:Option Addr) (c0:Nat) (l0:List (S36)) (Am:Option Addr) (Ap:Nat) (Ah:List ByteArray) (r1:List (S36)) (r2:Bool) (w:World) {b:Nat} (Hi:Kd.N k36 36 w b (fun k_=>P0_ k_) (.slice A0 l0.length c0) l0) (Iq:b≤w.heap.size) (Ea:Kd.C Kd.string w Am Ah.length Ah) (Eb:Ah.length≤Ap) (h:spec_l02Put.f k l0 Ah=some (r1,r2)) :
  Calls Tryz.prog 37 #[.slice A0 l0.length c0,.agg #[.slice Am Ah.length Ap]] w fun e w'=>∃ v0_:Value,e=.returned (.tuple #[v0_,.bool r2])∧Kd.N k36 36 w' b (fun k_=>(P0_ k_∨w.heap.size≤k_)) v0_ r1∧Below w.heap.size w w':=by
 have Ir:=Tryz.underlying36
 have KN:y0 (∀ W,Below w.heap.size w W→Kd.N k36 36 W b (fun k_=>(P0_ k_∨w.heap.size≤k_)) (.slice A0 l0.length c0) l0):=⟨fun W hW=>Kd.N_mono (Kd.N_below Hi hW) (fun k_ hk=>.inl hk)⟩
 have HBB:=y0.mk Iq
 have Gr:=y0.mk (show Kd.V k36 36 w w.heap.size (fun k_=>(P0_ k_∨w.heap.size≤k_)) (.slice A0 l0.length c0) l0 from Kd.V_mono (Kd.N_V Hi) (fun k_ hk=>.inl hk))
 have Bs:=y0.mk Ea
 have Bt:=y0.mk Eb
 clear Ea Eb
 have HB:=y0.mk (Below.refl w.heap.size w)
 have H:(spec_l02Put.l0 k l0 0 Ah)=some (r1,r2):=h
 clear h
 have Gs:=y0.mk H
 clear H
 go_enter Tryz.func37,Tryz.ntmps37
 go_upto_block 0 with(first|((with_reducible refine y20 (N:=3) rfl ?_);refine qe 3 #[.slice Am Ah.length Ap] 36 ?_;intro Ac hg w4 hbox hb;replace Gr:=y0.mk (Kd.V_below (Kd.V_elderB (qV Gr.out) Ac (Nat.le_of_eq hg.symm)) hb);have Aa:=y0.mk (hbox);have Hj:=y0.mk (qg (w:=w) hg);have Hk:=y0.mk (qg (w:=w) hg);replace HB:=y0.mk (y8 qb hb);clear hb hbox hg))
 (try simp only [Act.put,qS_,qZ_,qC_])
 go_cut [6] (fun v6 wc=>∃(kq:Nat) (Ad:Int),v6=.int .i64 Ad∧y0 (spec_l02Put.j1 kq l0 Ad Ah=some (r1,r2))∧y0 (kq≤k)∧y0 (Kd.V k36 36 wc w.heap.size (fun k_=>(P0_ k_∨w.heap.size≤k_)∧k_≠Ac) (.slice A0 l0.length c0) l0)∧y0 (wc.heap[Ac]?=some (.cells #[(.slice Am Ah.length Ap)] 36 (0,0)))∧y0 (Below w.heap.size w wc))
 case first =>
  have H:=Gs.out
  clear Gs
  have H':=y0.mk H
  clear H
  go_wp2
  go_loopg [6] k (fun kq v6 w'=>∃(Aq:Int),v6=.int .i64 Aq∧y0 (spec_l02Put.l0 kq l0 Aq Ah=some (r1,r2))∧y0 (kq≤k)∧y0 (Kd.V k36 36 w' w.heap.size (fun k_=>(P0_ k_∨w.heap.size≤k_)∧k_≠Ac) (.slice A0 l0.length c0) l0)∧y0 (w'.heap[Ac]?=some (.cells #[(.slice Am Ah.length Ap)] 36 (0,0)))∧y0 (Below w.heap.size w w'))
  case atStart=>exact⟨(0),qy2,H',⟨Nat.le_refl _⟩,⟨qV Gr.out⟩,⟨qk Aa.out⟩,⟨qb⟩⟩
  case round =>
   clear H'
   obtain⟨Aq,rfl,HA,Gj,Ae,Aa,HB⟩:=hrel
   cases gk with
   | zero=>exact absurd HA.out (by simp [spec_l02Put.l0])
   | succ k1 =>
    have H:=HA.out
    clear HA
    simp only [spec_l02Put.l0]at H
    by_cases c5:Aq < (l0.length:Int)
    ·rw [if_pos c5]at H
     have Dc:=decide_eq_true c5
     clear c5
     (first|rw [Dc]|(simp only [i64_w,i32_w];rw [Dc])|skip)
     obtain⟨c6,H⟩:=qo H
     have Is:decide (0≤Aq)=true:=decide_eq_true c6
     clear c6
     obtain⟨Eo,A7,H⟩:=qB H
     try go_wp2
     replace Ae:=y0.mk (Kd.V_drew Ae.out)
     replace Aa:=y0.mk (y12 Aa.out)
     replace HB:=y0.mk (y5 HB.out)
     have Do:0≤(Aq:Int):=of_decide_eq_true qy1
     have Dp:Aq < (l0.length:Int):=of_decide_eq_true qy1
     obtain⟨Fk,Cn,Co,Gt,Bu,Ct,Cu⟩:=at_T36 (Kd.V_reads' Ae.out).2.2 Aq Do Dp
     cases Gt
     obtain⟨Hl,Ep,Er,Dd⟩:=Kd.V_get Ae.out z36 Aq Do (by first|exact Dp|exact of_decide_eq_true qy1|(have e_:=(Kd.V_reads' Ae.out).1;omega))
     obtain⟨Gk,Gl,rfl,Bv,Bw⟩:=k36_openF Er
     have Bi:=Dd 0 _ rfl
     rw [Nat.add_zero,show(k36).sz=1 from rfl,Nat.mul_one]at Bi
     replace Bi:=Option.some.inj (Bi.symm.trans Bu)
     injection Bi with hva_ hvn_ hvc_
     rw [hva_]at Bw
     rw [hvc_]at Bv
     have Bb:=y0.mk (show Kd.V Kd.string 9 _ w.heap.size _ _ ((y24 l0 Aq).f0)from Kd.V_mk Bv Bw)
     clear hva_ hvn_ hvc_ Bw Bv
     clear Dd Ep
     have Ai:=y0.mk Cu
     have Cv:=y0.mk Ct
     clear Cu Ct
     replace Do:=eq_true Do
     replace Dp:=eq_true Dp
     refine start_ (n:=13) (S:=fun w'=>w'.cell? ⟨Ac,0,none⟩=some (.slice Am Ah.length Ap)∧w'.cell? (Fk.add (Aq).toNat)=some (.slice Cn ((y24 l0 Aq).f0).length Co)) (ds:=[]) (fl_ 13 0) (by kernel_rfl) rfl rfl ⟨(y11 Aa.out 0).trans rfl,Bu⟩ (fun hHeld=>?_);refine with_tabW spec_l02Put.tab2 spec_l02Put.bits2 (fun HT_ HW_=>?_)
     generalize wr.drew=w9 at Ae Aa HB Bb Ai Bu hHeld ⊢
     refine qp6 0 8 13 ?_
     refine qp2 6 14 13 ?_
     by_cases c8:Eo < 0
     ·rw [if_pos c8]at H
      have Gu:=decide_eq_true c8
      clear c8
      have H':=y0.mk H
      clear H
      refine qt 8 16 (fl_ 13 511) hHeld ?_
      refine qt 9 17 (fl_ 13 1023) hHeld ?_
      refine qO 10 18 (fl_ 13 2047) (fun K hK=>?_)
      refine goes_ Tryz.func57 (by kernel_rfl) rfl #[.agg #[.slice Cn ((y24 l0 Aq).f0).length Co],.agg #[.slice Am Ah.length Ap]] (by rfl) rfl rfl qy0 ?_
      with_reducible refine(spec_l02Cmp.calls k1 _ _ ((y24 l0 Aq).f0) _ _ Ah Eo _ (qc (by repeat(first|(with_reducible exact Ai.out)|(with_reducible refine Kd.C_alloc ?_ _)|(with_reducible refine Kd.C_drewN ?_ _)|(with_reducible refine Kd.C_drew ?_)|exact Ai.out))) Cv.out (qc (Kd.C_below Bs.out HB.out)) Bt.out A7.out).mono ?_
      rintro e Jl ⟨rfl,hb⟩
      have HS1_:=(hb.cell (World.block_lt_of_cell? _ _ (hHeld.2))).trans (hHeld.2)
      refine⟨_,rfl, ?_⟩
      replace Ae:=y0.mk (Kd.V_below (qV Ae.out) hb)
      replace Bb:=y0.mk (Kd.V_below (qV Bb.out) hb)
      replace Aa:=y0.mk (qK Aa.out hb)
      replace Ai:=y0.mk (Kd.C_below (by repeat(first|(with_reducible exact Ai.out)|(with_reducible refine Kd.C_alloc ?_ _)|(with_reducible refine Kd.C_drewN ?_ _)|(with_reducible refine Kd.C_drew ?_)|exact Ai.out)) hb)
      replace HB:=y0.mk (y8 qb hb)
      (try clear hb)
      refine hK.out _ _ ⟨(y11 Aa.out 0).trans rfl,HS1_⟩ (fun hHeld=>?_)
      clear hK K
      refine qx 18 ?_
      refine qp2 11 19 13 ?_
      refine done_ (done_of HT_.out (by kernel_rfl)) ?_
      try go_wp2
      go_roundg k1
      case measure=>have:=Gj.out;omega
      exact⟨(wrap64 (Aq + 1)),qy2,H',⟨by have:=Gj.out;omega⟩,⟨qV Ae.out⟩,⟨qk Aa.out⟩,⟨qb⟩⟩
     ·rw [if_neg c8]at H
      have Gu:=decide_eq_false c8
      clear c8
      have H':=y0.mk H
      clear H
      refine qt 8 16 (fl_ 13 511) hHeld ?_
      refine qt 9 17 (fl_ 13 1023) hHeld ?_
      refine qO 10 18 (fl_ 13 2047) (fun K hK=>?_)
      refine goes_ Tryz.func57 (by kernel_rfl) rfl #[.agg #[.slice Cn ((y24 l0 Aq).f0).length Co],.agg #[.slice Am Ah.length Ap]] (by rfl) rfl rfl qy0 ?_
      with_reducible refine(spec_l02Cmp.calls k1 _ _ ((y24 l0 Aq).f0) _ _ Ah Eo _ (qc (by repeat(first|(with_reducible exact Ai.out)|(with_reducible refine Kd.C_alloc ?_ _)|(with_reducible refine Kd.C_drewN ?_ _)|(with_reducible refine Kd.C_drew ?_)|exact Ai.out))) Cv.out (qc (Kd.C_below Bs.out HB.out)) Bt.out A7.out).mono ?_
      rintro e Jm ⟨rfl,hb⟩
      have HS1_:=(hb.cell (World.block_lt_of_cell? _ _ (hHeld.2))).trans (hHeld.2)
      refine⟨_,rfl, ?_⟩
      replace Ae:=y0.mk (Kd.V_below (qV Ae.out) hb)
      replace Bb:=y0.mk (Kd.V_below (qV Bb.out) hb)
      replace Aa:=y0.mk (qK Aa.out hb)
      replace Ai:=y0.mk (Kd.C_below (by repeat(first|(with_reducible exact Ai.out)|(with_reducible refine Kd.C_alloc ?_ _)|(with_reducible refine Kd.C_drewN ?_ _)|(with_reducible refine Kd.C_drew ?_)|exact Ai.out)) hb)
      replace HB:=y0.mk (y8 qb hb)
      (try clear hb)
      refine hK.out _ _ ⟨(y11 Aa.out 0).trans rfl,HS1_⟩ (fun hHeld=>?_)
      clear hK K
      refine qx 18 ?_
      refine qp2 11 19 13 ?_
      refine done_ (done_of HT_.out (by kernel_rfl)) ?_
      try go_wp2
      go_meet
      exact⟨_,(Aq),qy2,H',⟨by have:=Gj.out;first|omega|exact Nat.le_refl _⟩,⟨qV Ae.out⟩,⟨qk Aa.out⟩,⟨qb⟩⟩
    ·rw [if_neg c5]at H
     have Dc:=decide_eq_false c5
     clear c5
     (first|rw [Dc]|(simp only [i64_w,i32_w];rw [Dc])|skip)
     have H':=y0.mk H
     clear H
     try go_wp2
     replace Ae:=y0.mk (Kd.V_drew Ae.out)
     replace Aa:=y0.mk (y12 Aa.out)
     replace HB:=y0.mk (y5 HB.out)
     refine start_ (n:=13) (S:=fun w'=>True) (ds:=[]) (fl_ 13 0) (by kernel_rfl) rfl rfl trivial (fun hHeld=>?_);refine with_tabW spec_l02Put.tab2 spec_l02Put.bits2 (fun HT_ HW_=>?_)
     generalize wr.drew=Jn at Ae Aa HB hHeld ⊢
     refine qp10 0 8 13 ?_
     refine qp3 10 18 13 ?_
     refine done_ (done_of HT_.out (by kernel_rfl)) ?_
     try go_wp2
     go_meet
     exact⟨_,(Aq),qy2,H',⟨by have:=Gj.out;first|omega|exact Nat.le_refl _⟩,⟨qV Ae.out⟩,⟨qk Aa.out⟩,⟨qb⟩⟩
 case rest =>
  clear Gs
  obtain⟨kq,Ad,rfl,HA,Jo,Ae,Aa,HB⟩:=hcut
  cases kq with
  | zero=>exact absurd HA.out (by simp [spec_l02Put.j1])
  | succ Hm =>
   have H:=HA.out
   clear HA
   simp only [spec_l02Put.j1]at H
   by_cases Fj:Ad < (l0.length:Int)
   ·rw [if_pos Fj]at H
    have Fl:=decide_eq_true Fj
    clear Fj
    obtain⟨Hn,H⟩:=qo H
    have Ho:decide (0≤Ad)=true:=decide_eq_true Hn
    clear Hn
    obtain⟨Cp,Hp,H⟩:=qB H
    by_cases Es:Cp=0
    ·rw [if_pos Es]at H
     have Fm:(Cp == 0)=true:=beq_iff_eq.mpr Es
     have Fn:(Cp != 0)=false:=bne_eq_false_iff_eq.mpr Es
     clear Es
     simp only [Option.some.injEq,Prod.mk.injEq]at H
     obtain⟨rfl,rfl⟩:=H
     try go_wp2
     replace Ae:=y0.mk (Kd.V_drew Ae.out)
     replace Aa:=y0.mk (y12 Aa.out)
     replace HB:=y0.mk (y5 HB.out)
     have Bx:0≤(Ad:Int):=of_decide_eq_true qy1
     have Bz:Ad < (l0.length:Int):=of_decide_eq_true qy1
     obtain⟨Ay,Bj,Bk,Et,Au,Bc,Bd⟩:=at_T36 (Kd.V_reads' Ae.out).2.2 Ad Bx Bz
     cases Et
     obtain⟨Fo,Cq,Cr,Bl⟩:=Kd.V_get Ae.out z36 Ad Bx (by first|exact Bz|exact of_decide_eq_true qy1|(have e_:=(Kd.V_reads' Ae.out).1;omega))
     obtain⟨Dq,Dr,rfl,Av,Aw⟩:=k36_openF Cr
     have Aj:=Bl 0 _ rfl
     rw [Nat.add_zero,show(k36).sz=1 from rfl,Nat.mul_one]at Aj
     replace Aj:=Option.some.inj (Aj.symm.trans Au)
     injection Aj with hva_ hvn_ hvc_
     rw [hva_]at Aw
     rw [hvc_]at Av
     have Af:=y0.mk (show Kd.V Kd.string 9 _ w.heap.size _ _ ((y24 l0 Ad).f0)from Kd.V_mk Av Aw)
     clear hva_ hvn_ hvc_ Aw Av
     clear Bl Cq
     have Ag:=y0.mk Bd
     have Ca:=y0.mk Bc
     clear Bd Bc
     replace Bx:=eq_true Bx
     replace Bz:=eq_true Bz
     refine start_ (n:=13) (S:=fun w'=>w'.cell? ⟨Ac,0,none⟩=some (.slice Am Ah.length Ap)∧w'.cell? (Ay.add (Ad).toNat)=some (.slice Bj ((y24 l0 Ad).f0).length Bk)) (ds:=[]) (fl_ 13 0) (by kernel_rfl) rfl rfl ⟨(y11 Aa.out 0).trans rfl,Au⟩ (fun hHeld=>?_);refine with_tabW spec_l02Put.tab4 spec_l02Put.bits4 (fun HT_ HW_=>?_)
     generalize wc.drew=Jp at Ae Aa HB Af Ag Au hHeld ⊢
     refine qp6 0 23 13 ?_
     refine qp2 6 29 13 ?_
     refine qt 8 31 (fl_ 13 511) hHeld ?_
     refine qt 9 32 (fl_ 13 1023) hHeld ?_
     refine qO 10 33 (fl_ 13 2047) (fun K hK=>?_)
     refine goes_ Tryz.func57 (by kernel_rfl) rfl #[.agg #[.slice Bj ((y24 l0 Ad).f0).length Bk],.agg #[.slice Am Ah.length Ap]] (by rfl) rfl rfl qy0 ?_
     with_reducible refine(spec_l02Cmp.calls Hm _ _ ((y24 l0 Ad).f0) _ _ Ah Cp _ (qc (by repeat(first|(with_reducible exact Ag.out)|(with_reducible refine Kd.C_alloc ?_ _)|(with_reducible refine Kd.C_drewN ?_ _)|(with_reducible refine Kd.C_drew ?_)|exact Ag.out))) Ca.out (qc (Kd.C_below Bs.out HB.out)) Bt.out Hp.out).mono ?_
     rintro e Jq ⟨rfl,hb⟩
     have HS1_:=(hb.cell (World.block_lt_of_cell? _ _ (hHeld.2))).trans (hHeld.2)
     refine⟨_,rfl, ?_⟩
     replace Ae:=y0.mk (Kd.V_below (qV Ae.out) hb)
     replace Af:=y0.mk (Kd.V_below (qV Af.out) hb)
     replace Aa:=y0.mk (qK Aa.out hb)
     replace Ag:=y0.mk (Kd.C_below (by repeat(first|(with_reducible exact Ag.out)|(with_reducible refine Kd.C_alloc ?_ _)|(with_reducible refine Kd.C_drewN ?_ _)|(with_reducible refine Kd.C_drew ?_)|exact Ag.out)) hb)
     replace HB:=y0.mk (y8 qb hb)
     (try clear hb)
     refine hK.out _ _ ⟨(y11 Aa.out 0).trans rfl,HS1_⟩ (fun hHeld=>?_)
     clear hK K
     refine qx 33 ?_
     refine qp2 11 34 13 ?_
     refine done_ (done_of HT_.out (by kernel_rfl)) ?_
     try go_wp2
     go_ret2
     exact⟨_,by first|rfl|(simp [y17,y18] <;> rfl)|(simp [*,y17,y18] <;> rfl),KN.out _ qb,qb⟩
    ·rw [if_neg Es]at H
     have Fm:(Cp == 0)=false:=beq_eq_false_iff_ne.mpr Es
     have Fn:(Cp != 0)=true:=bne_iff_ne.mpr Es
     obtain⟨Cy,Cb⟩:∃ y_:List (S36),y_=(([]:List (S36))):=⟨_,rfl⟩
     replace H:(if Ad≤(l0.length:Int)then((some (l0.take (Ad:Int).toNat:List (S36))).bind fun Bm=>(if Cy.length + Bm.length < 5864062014805 then((some (Cy ++ Bm:List (S36))).bind fun Bq=>((spec_l02Tuple.f Ah).bind fun Be=>(if Bq.length < 5864062014805 then((some (Bq ++ [(⟨Be⟩:S36)]:List (S36))).bind fun Az=>((some (l0.drop (Ad:Int).toNat:List (S36))).bind fun Ak=>(if Az.length + Ak.length < 5864062014805 then(some ((Az ++ Ak),true))else(none))))else(none))))else(none)))else(none))=some (r1,r2):=by first|(rw [Cb];with_reducible exact H)|(have H2_:=(Option.bind_some _ _).symm.trans H;rw [Cb];with_reducible exact H2_)|(have H2_:=(Option.bind_some _ _).symm.trans H;with_reducible exact H2_)|with_reducible exact H|(rw [Cb];exact H)|exact H
     have Ec:=y0.mk Cb
     clear Cb
     have Hq:=eq_true (of_decide_eq_true qy1:0≤Ad)
     obtain⟨Gv,H⟩:=qo H
     have Hr:=eq_true Gv
     have Hs:=decide_eq_true Gv
     clear Gv
     obtain⟨Bm,Cc⟩:∃ y_:List (S36),y_=(l0.take (Ad:Int).toNat):=⟨_,rfl⟩
     replace H:(if Cy.length + Bm.length < 5864062014805 then((some (Cy ++ Bm:List (S36))).bind fun Bq=>((spec_l02Tuple.f Ah).bind fun Be=>(if Bq.length < 5864062014805 then((some (Bq ++ [(⟨Be⟩:S36)]:List (S36))).bind fun Az=>((some (l0.drop (Ad:Int).toNat:List (S36))).bind fun Ak=>(if Az.length + Ak.length < 5864062014805 then(some ((Az ++ Ak),true))else(none))))else(none))))else(none))=some (r1,r2):=by first|(rw [Cc];with_reducible exact H)|(have H2_:=(Option.bind_some _ _).symm.trans H;rw [Cc];with_reducible exact H2_)|(have H2_:=(Option.bind_some _ _).symm.trans H;with_reducible exact H2_)|with_reducible exact H|(rw [Cc];exact H)|exact H
     have Ed:=y0.mk Cc
     clear Cc
     obtain⟨Ht,H⟩:=qo H
     have Fp:=y0.mk Ht
     clear Ht
     obtain⟨Bq,Cd⟩:∃ y_:List (S36),y_=(Cy ++ Bm):=⟨_,rfl⟩
     replace H:((spec_l02Tuple.f Ah).bind fun Be=>(if Bq.length < 5864062014805 then((some (Bq ++ [(⟨Be⟩:S36)]:List (S36))).bind fun Az=>((some (l0.drop (Ad:Int).toNat:List (S36))).bind fun Ak=>(if Az.length + Ak.length < 5864062014805 then(some ((Az ++ Ak),true))else(none))))else(none)))=some (r1,r2):=by first|(rw [Cd];with_reducible exact H)|(have H2_:=(Option.bind_some _ _).symm.trans H;rw [Cd];with_reducible exact H2_)|(have H2_:=(Option.bind_some _ _).symm.trans H;with_reducible exact H2_)|with_reducible exact H|(rw [Cd];exact H)|exact H
     have Fq:=y0.mk Cd
     clear Cd
     obtain⟨Be,It,H⟩:=qB H
     obtain⟨Hu,H⟩:=qo H
     have Fr:=y0.mk Hu
     clear Hu
     obtain⟨Az,Ce⟩:∃ y_:List (S36),y_=(Bq ++ [(⟨Be⟩:S36)]):=⟨_,rfl⟩
     replace H:((some (l0.drop (Ad:Int).toNat:List (S36))).bind fun Ak=>(if Az.length + Ak.length < 5864062014805 then(some ((Az ++ Ak),true))else(none)))=some (r1,r2):=by first|(rw [Ce];with_reducible exact H)|(have H2_:=(Option.bind_some _ _).symm.trans H;rw [Ce];with_reducible exact H2_)|(have H2_:=(Option.bind_some _ _).symm.trans H;with_reducible exact H2_)|with_reducible exact H|(rw [Ce];exact H)|exact H
     have Fs:=y0.mk Ce
     clear Ce
     have Hv:=eq_true (of_decide_eq_true qy1:0≤Ad)
     have Hw:=eq_true (of_decide_eq_true qy1:Ad≤(l0.length:Int))
     obtain⟨Ak,Cf⟩:∃ y_:List (S36),y_=(l0.drop (Ad:Int).toNat):=⟨_,rfl⟩
     replace H:(if Az.length + Ak.length < 5864062014805 then(some ((Az ++ Ak),true))else(none))=some (r1,r2):=by first|(rw [Cf];with_reducible exact H)|(have H2_:=(Option.bind_some _ _).symm.trans H;rw [Cf];with_reducible exact H2_)|(have H2_:=(Option.bind_some _ _).symm.trans H;with_reducible exact H2_)|with_reducible exact H|(rw [Cf];exact H)|exact H
     have Ee:=y0.mk Cf
     clear Cf
     obtain⟨Hx,H⟩:=qo H
     have Ft:=y0.mk Hx
     clear Hx
     obtain⟨Gw,Cg⟩:∃ y_:List (S36),y_=(Az ++ Ak):=⟨_,rfl⟩
     replace H:(some (Gw,true))=some (r1,r2):=by first|(rw [Cg];with_reducible exact H)|(have H2_:=(Option.bind_some _ _).symm.trans H;rw [Cg];with_reducible exact H2_)|(have H2_:=(Option.bind_some _ _).symm.trans H;with_reducible exact H2_)|with_reducible exact H|(rw [Cg];exact H)|exact H
     have Fu:=y0.mk Cg
     clear Cg
     simp only [Option.some.injEq,Prod.mk.injEq]at H
     obtain⟨rfl,rfl⟩:=H
     try go_wp2
     replace Ae:=y0.mk (Kd.V_drew Ae.out)
     replace Aa:=y0.mk (y12 Aa.out)
     replace HB:=y0.mk (y5 HB.out)
     have Bx:0≤(Ad:Int):=of_decide_eq_true qy1
     have Bz:Ad < (l0.length:Int):=of_decide_eq_true qy1
     obtain⟨Ay,Bj,Bk,Et,Au,Bc,Bd⟩:=at_T36 (Kd.V_reads' Ae.out).2.2 Ad Bx Bz
     cases Et
     obtain⟨Fo,Cq,Cr,Bl⟩:=Kd.V_get Ae.out z36 Ad Bx (by first|exact Bz|exact of_decide_eq_true qy1|(have e_:=(Kd.V_reads' Ae.out).1;omega))
     obtain⟨Dq,Dr,rfl,Av,Aw⟩:=k36_openF Cr
     have Aj:=Bl 0 _ rfl
     rw [Nat.add_zero,show(k36).sz=1 from rfl,Nat.mul_one]at Aj
     replace Aj:=Option.some.inj (Aj.symm.trans Au)
     injection Aj with hva_ hvn_ hvc_
     rw [hva_]at Aw
     rw [hvc_]at Av
     have Af:=y0.mk (show Kd.V Kd.string 9 _ w.heap.size _ _ ((y24 l0 Ad).f0)from Kd.V_mk Av Aw)
     clear hva_ hvn_ hvc_ Aw Av
     clear Bl Cq
     have Ag:=y0.mk Bd
     have Ca:=y0.mk Bc
     clear Bd Bc
     replace Bx:=eq_true Bx
     replace Bz:=eq_true Bz
     refine start_ (n:=13) (S:=fun w'=>w'.cell? ⟨Ac,0,none⟩=some (.slice Am Ah.length Ap)∧w'.cell? (Ay.add (Ad).toNat)=some (.slice Bj ((y24 l0 Ad).f0).length Bk)) (ds:=[]) (fl_ 13 0) (by kernel_rfl) rfl rfl ⟨(y11 Aa.out 0).trans rfl,Au⟩ (fun hHeld=>?_);refine with_tabW spec_l02Put.tab4 spec_l02Put.bits4 (fun HT_ HW_=>?_)
     generalize wc.drew=Jr at Ae Aa HB Af Ag Au hHeld ⊢
     refine qp6 0 23 13 ?_
     refine qp2 6 29 13 ?_
     refine qt 8 31 (fl_ 13 511) hHeld ?_
     refine qt 9 32 (fl_ 13 1023) hHeld ?_
     refine qO 10 33 (fl_ 13 2047) (fun K hK=>?_)
     refine goes_ Tryz.func57 (by kernel_rfl) rfl #[.agg #[.slice Bj ((y24 l0 Ad).f0).length Bk],.agg #[.slice Am Ah.length Ap]] (by rfl) rfl rfl qy0 ?_
     with_reducible refine(spec_l02Cmp.calls Hm _ _ ((y24 l0 Ad).f0) _ _ Ah Cp _ (qc (by repeat(first|(with_reducible exact Ag.out)|(with_reducible refine Kd.C_alloc ?_ _)|(with_reducible refine Kd.C_drewN ?_ _)|(with_reducible refine Kd.C_drew ?_)|exact Ag.out))) Ca.out (qc (Kd.C_below Bs.out HB.out)) Bt.out Hp.out).mono ?_
     rintro e Iu ⟨rfl,hb⟩
     have HS1_:=(hb.cell (World.block_lt_of_cell? _ _ (hHeld.2))).trans (hHeld.2)
     refine⟨_,rfl, ?_⟩
     replace Ae:=y0.mk (Kd.V_below (qV Ae.out) hb)
     replace Af:=y0.mk (Kd.V_below (qV Af.out) hb)
     replace Aa:=y0.mk (qK Aa.out hb)
     replace Ag:=y0.mk (Kd.C_below (by repeat(first|(with_reducible exact Ag.out)|(with_reducible refine Kd.C_alloc ?_ _)|(with_reducible refine Kd.C_drewN ?_ _)|(with_reducible refine Kd.C_drew ?_)|exact Ag.out)) hb)
     replace HB:=y0.mk (y8 qb hb)
     (try clear hb)
     refine hK.out _ _ ⟨(y11 Aa.out 0).trans rfl,HS1_⟩ (fun hHeld=>?_)
     clear hK K
     refine qx 33 ?_
     refine qp2 11 34 13 ?_
     refine done_ (done_of HT_.out (by kernel_rfl)) ?_
     try go_wp2_with (first|((with_reducible refine y20 (N:=37) rfl ?_);refine Kd.N_lit k36 _ 36 ?hg (N':=37) ?hd (xs:=([]:List (S36))) (inner:=[]) (ok:=(fun k_=>(P0_ k_∨w.heap.size≤k_)∧k_≠Ac)) (okp:=(fun k_=>(P0_ k_∨w.heap.size≤k_)∧k_≠Ac)) ?hr ?hp (fun _ hk=>hk) ((show ∀ k_,Iu.heap.size≤k_→(fun k_=>(P0_ k_∨w.heap.size≤k_)∧k_≠Ac) k_ from fun k_ hk=>⟨(.inr (Nat.le_trans (y7 qb) hk)),Kd.freshB (g:=Ac) (o:=.cells #[.slice Am Ah.length Ap] 36 (0,0)) (qk Aa.out) k_ hk⟩) _ (Nat.le_refl _)) (Below.refl _ _) (Nat.le_refl _) (by simp) ?_;(case hd=>rfl);(case hg=>rfl);(case hr=>first|(go_simp;done)|(go_simp;rfl));(case hp=>exact(Reps.none _ _));intro Eu Js Cs hb hg_ hnew_;clear hg_ hnew_;(first|rw [← Ec.out]at Cs|(simp only [Int.reduceToNat]at Cs;rw [← Ec.out]at Cs));replace Ae:=y0.mk (Kd.V_elder' (qV Ae.out) (Kd.N_base Cs) hb);replace Af:=y0.mk (Kd.V_elder' (qV Af.out) (Kd.N_base Cs) hb);have De:=y0.mk (Kd.N_lower Cs (y7 qb));replace Aa:=y0.mk (qK Aa.out hb);replace Ag:=y0.mk (Kd.C_below (by repeat(first|(with_reducible exact Ag.out)|(with_reducible refine Kd.C_alloc ?_ _)|(with_reducible refine Kd.C_drewN ?_ _)|(with_reducible refine Kd.C_drew ?_)|exact Ag.out)) hb);replace HB:=y0.mk (y8 qb hb);clear hb Cs;have Gx:(Ad:Int)≤((l0.length:Int):Int):=of_decide_eq_true qy1;obtain⟨Iv,Ef,_,Fv,_⟩:=info_parts info36;have hroom32:l0.length≤c0:=(Kd.V_reads' Ae.out).2.1;have Fw:Kd.F k36 _ _ (some Ay) l0.length l0:=(Kd.V_at (base:=w.heap.size) Ae.out).2.2;have Ew:=cut_to (P:=Tryz.prog) 30 36 .i64 Tryz.underlying30 Ef (some Ay) l0.length c0 Ad (of_decide_eq_true qy1) Gx hroom32;have Ex:=Kd.F_take (m:=(Ad:Int).toNat) Fw (by omega);have Ey:Bm.length=(Ad:Int).toNat:=(by rw [Ed.out,qT_];omega);rw [← Ed.out]at Ex;rw [← Ey]at Ew;have Bf:=y0.mk (show Kd.V k36 36 _ w.heap.size _ (.slice (some Ay) Bm.length c0) Bm from Kd.V_mk (by omega) Ex);have Hy:=y0.mk (show Bm.length≤c0 from by omega);clear Ex Fw hroom32 Ef Fv;have Iw:=y0.mk Ey;clear Ey;replace Gx:=eq_true Gx)|((with_reducible refine gate_builtin (b:=.append) (xs:=#[.tmp 37,.tmp 40]) rfl ?_);at_builtin;refine Kd.N_append_rows k36 (w0:=w) w.heap.size rfl (.tmp 37) (.tmp 40) 30 36 (.agg #[(.slice none 0 0)]) 24 rfl Tryz.underlying30 info36 rfl (by decide) (by omega) Eu Cy Bm _ _ _ (fun k_=>(P0_ k_∨w.heap.size≤k_)∧k_≠Ac) (fun k_=>((fun k_=>(P0_ k_∨w.heap.size≤k_)∧k_≠Ac)) k_∧some k_≠(Eu:Value).ownBlock) rfl rfl ?aO ?aR (fun _ hk=>hk) ?aF ?aB ?aS ?aL ?_;(case aR=>exact(by skip;exact Kd.V_F (Kd.V_mono (ok':=(fun k_=>((fun k_=>(P0_ k_∨w.heap.size≤k_)∧k_≠Ac)) k_∧some k_≠(Eu:Value).ownBlock)) (Bf.out) (fun k_ hk=>⟨⟨hk.1.1,hk.1.2⟩,hk.2⟩))));(case aB=>exact qb);(case aF=>exact(fun k_ hk=>⟨(.inr (Nat.le_trans (y7 qb) hk)),Kd.freshB (g:=Ac) (o:=.cells #[.slice Am Ah.length Ap] 36 (0,0)) (qk Aa.out) k_ hk⟩));(case aO=>exact(qN De.out));(case aS=>exact(y7 qb));(case aL=>have:=Fp.out;omega);intro Ds Jt ho hb hg hat;rw [← Fq.out]at ho;replace Ae:=y0.mk (Kd.V_afterv (ok:=(fun k_=>(P0_ k_∨w.heap.size≤k_)∧k_≠Ac)) (qV Ae.out) hg hat);replace Aa:=y0.mk (blk_grown (qk Aa.out) hg (Kd.N_away De.out (fun _ hk=>hk.2)));replace Af:=y0.mk (Kd.V_afterv (ok:=(fun k_=>(P0_ k_∨w.heap.size≤k_)∧k_≠Ac)) (qV Af.out) hg hat);replace Bf:=y0.mk (Kd.V_afterv (ok:=(fun k_=>(P0_ k_∨w.heap.size≤k_)∧k_≠Ac)) (qV Bf.out) hg hat);replace HB:=y0.mk (hb);have Bn:=y0.mk (ho);clear De;clear ho hb hg hat;obtain⟨Gm,Gn⟩:=qz1 Aa.out)|((with_reducible refine y19 (f:=58) rfl ?_);refine y22 (some 44) rfl rfl Tryz.func58 (by kernel_rfl) rfl #[.agg #[.slice Am Ah.length Ap]] rfl qy0 ?_;(with_reducible refine(spec_l02Tuple.calls _ _ Ah Be _ (qc (Kd.C_below Bs.out HB.out)) Bt.out It.out).mono ?_);rintro e Ju ⟨Ix,rfl,Db,hb⟩;refine⟨_,rfl, ?_⟩;replace Ae:=y0.mk (Kd.V_elder' (qV Ae.out) (Kd.R_base Db) hb);replace Af:=y0.mk (Kd.V_elder' (qV Af.out) (Kd.R_base Db) hb);replace Bf:=y0.mk (Kd.V_elder' (qV Bf.out) (Kd.R_base Db) hb);replace Bn:=y0.mk (Kd.N_elder' (qN Bn.out) (Kd.R_base Db) hb);have Cw:=y0.mk (Kd.R_lower (Kd.R_newM (M:=fun k_=>(w.heap.size≤k_)) Db (y7 qb) (fun k_ h_=>h_)) (y7 qb));replace Aa:=y0.mk (qK Aa.out hb);replace HB:=y0.mk (y8 qb hb);(try clear hb);(try clear Db);obtain⟨Dt,Du,Gy⟩:=Kd.R_slice Cw.out;subst Gy)|((with_reducible refine gate_builtin (b:=.append) (xs:=#[.tmp 42,.tmp 45]) rfl ?_);at_builtin;refine Kd.N_append k36 (w0:=w) w.heap.size rfl (.tmp 42) (.tmp 45) 30 36 (.agg #[(.slice none 0 0)]) 24 rfl Tryz.underlying30 info36 rfl (by decide) (by omega) Ds Bq (⟨Be⟩:S36) [.slice Dt Be.length Du] (fun k_=>(P0_ k_∨w.heap.size≤k_)∧k_≠Ac) (fun k_=>((fun k_=>(P0_ k_∨w.heap.size≤k_)∧k_≠Ac)) k_∧some k_≠(Ds:Value).ownBlock) rfl rfl ?aP (fun _ hk=>hk) ?aF ?aO ?aB ?aS ?aL ?_;(case aP=>exact(k36_mkF _ _ (⟨Be⟩:S36) (Kd.R_reads' (Kd.R_mono (ok':=(fun k_=>((fun k_=>(P0_ k_∨w.heap.size≤k_)∧k_≠Ac)) k_∧some k_≠(Ds:Value).ownBlock)) (Kd.R_types (Kd.R_apart' (Cw.out) (Kd.N_typed Bn.out) (by decide)) Aa.out (by decide)) (fun k_ hk=>⟨⟨(.inr (hk.1.1.1)),hk.2⟩,hk.1.2⟩))).2.1 (Kd.R_F (Kd.R_mono (ok':=(fun k_=>((fun k_=>(P0_ k_∨w.heap.size≤k_)∧k_≠Ac)) k_∧some k_≠(Ds:Value).ownBlock)) (Kd.R_types (Kd.R_apart' (Cw.out) (Kd.N_typed Bn.out) (by decide)) Aa.out (by decide)) (fun k_ hk=>⟨⟨(.inr (hk.1.1.1)),hk.2⟩,hk.1.2⟩)))));(case aB=>exact qb);(case aF=>exact(fun k_ hk=>⟨(.inr (Nat.le_trans (y7 qb) hk)),Kd.freshB (g:=Ac) (o:=.cells #[.slice Am Ah.length Ap] 36 (0,0)) (qk Aa.out) k_ hk⟩));(case aO=>exact(qN (Kd.N_mono Bn.out (fun _ hk=>⟨hk.1.1,hk.1.2⟩))));(case aS=>exact(y7 qb));(case aL=>have:=Fr.out;omega);intro Ez Jv ho hb hg hat;rw [← Fs.out]at ho;replace Ae:=y0.mk (Kd.V_afterv (ok:=(fun k_=>(P0_ k_∨w.heap.size≤k_)∧some k_≠(.slice Dt Be.length Du:Value).ownBlock∧k_≠Ac)) (qV (Kd.V_mono Ae.out (fun _ hk=>⟨⟨hk.1.1.1,⟨hk.2,hk.1.1.2⟩⟩,hk.1.2⟩))) hg hat);replace Aa:=y0.mk (blk_grown (qk Aa.out) hg (Kd.N_away Bn.out (fun _ hk=>hk.1.2)));replace Af:=y0.mk (Kd.V_afterv (ok:=(fun k_=>(P0_ k_∨w.heap.size≤k_)∧some k_≠(.slice Dt Be.length Du:Value).ownBlock∧k_≠Ac)) (qV (Kd.V_mono Af.out (fun _ hk=>⟨⟨hk.1.1.1,⟨hk.2,hk.1.1.2⟩⟩,hk.1.2⟩))) hg hat);replace Bf:=y0.mk (Kd.V_afterv (ok:=(fun k_=>(P0_ k_∨w.heap.size≤k_)∧some k_≠(.slice Dt Be.length Du:Value).ownBlock∧k_≠Ac)) (qV (Kd.V_mono Bf.out (fun _ hk=>⟨⟨hk.1.1.1,⟨hk.2,hk.1.1.2⟩⟩,hk.1.2⟩))) hg hat);replace HB:=y0.mk (hb);have Df:=y0.mk (ho);clear Bn Cw;clear ho hb hg hat;have Gz:(Ad:Int)≤((l0.length:Int):Int):=of_decide_eq_true qy1;obtain⟨Iy,Eg,_,Eh,_⟩:=info_parts info36;have hroom38:l0.length≤c0:=(Kd.V_reads' Ae.out).2.1;have Fx:Kd.F k36 _ _ (some Ay) l0.length l0:=(Kd.V_at (base:=w.heap.size) Ae.out).2.2;have Ha:(0:Int)≤(Ad:Int):=of_decide_eq_true qy1;have Fa:=cut_from (P:=Tryz.prog) 30 36 .i64 Tryz.underlying30 Eg 1 Eh (some Ay) l0.length c0 Ad Ha Gz;have Dg:=Kd.F_cut (m:=(Ad:Int).toNat) (c:=c0) Fx (by omega) hroom38;obtain⟨Hz,Dv⟩:∃ A1,A1=(if c0=(Ad:Int).toNat then(some Ay)else((some Ay):Option Addr).map (·.add ((Ad:Int).toNat * 1))):=⟨_,rfl⟩;obtain⟨Ia,Dw⟩:∃ c1,c1=c0 - (Ad:Int).toNat:=⟨_,rfl⟩;have Dh:Ak.length=l0.length - (Ad:Int).toNat:=(by rw [Ee.out,qD_] <;> omega);rw [show(l0).drop (Ad:Int).toNat=Ak from Ee.out.symm]at Dg;replace Dg:Kd.F k36 _ _ Hz Ak.length Ak:=(by rw [Dv];exact Dg);rw [← Dh,← Dv,← Dw]at Fa;have Di:=y0.mk (show Kd.V k36 36 _ w.heap.size _ (.slice Hz Ak.length Ia) Ak from Kd.V_mk (by rw [Dh,Dw];exact Nat.sub_le_sub_right hroom38 _) Dg);have Ib:=y0.mk (show Ak.length≤Ia from by rw [Dh,Dw];exact Nat.sub_le_sub_right hroom38 _);clear Dg Fx hroom38 Eg Eh Dw;have Iz:=y0.mk Dh;have Ja:=y0.mk Dv;clear Dh Dv;replace Gz:=eq_true Gz)|((with_reducible refine gate_builtin (b:=.append) (xs:=#[.tmp 47,.tmp 50]) rfl ?_);at_builtin;refine Kd.N_append_rows k36 (w0:=w) w.heap.size rfl (.tmp 47) (.tmp 50) 30 36 (.agg #[(.slice none 0 0)]) 24 rfl Tryz.underlying30 info36 rfl (by decide) (by omega) Ez Az Ak _ _ _ (fun k_=>(P0_ k_∨w.heap.size≤k_)∧k_≠Ac) (fun k_=>((fun k_=>(P0_ k_∨w.heap.size≤k_)∧k_≠Ac)) k_∧some k_≠(Ez:Value).ownBlock) rfl rfl ?aO ?aR (fun _ hk=>hk) ?aF ?aB ?aS ?aL ?_;(case aR=>exact(by skip;exact Kd.V_F (Kd.V_mono (ok':=(fun k_=>((fun k_=>(P0_ k_∨w.heap.size≤k_)∧k_≠Ac)) k_∧some k_≠(Ez:Value).ownBlock)) (Di.out) (fun k_ hk=>⟨⟨hk.1.1,hk.1.2.2⟩,hk.2⟩))));(case aB=>exact qb);(case aF=>exact(fun k_ hk=>⟨(.inr (Nat.le_trans (y7 qb) hk)),Kd.freshB (g:=Ac) (o:=.cells #[.slice Am Ah.length Ap] 36 (0,0)) (qk Aa.out) k_ hk⟩));(case aO=>exact(qN Df.out));(case aS=>exact(y7 qb));(case aL=>have:=Ft.out;omega);intro Jb Jw ho hb hg hat;rw [← Fu.out]at ho;replace Ae:=y0.mk (Kd.V_afterv (ok:=(fun k_=>(P0_ k_∨w.heap.size≤k_)∧k_≠Ac)) (qV (Kd.V_mono Ae.out (fun _ hk=>⟨⟨hk.1.1,hk.1.2.2⟩,hk.2⟩))) hg hat);replace Aa:=y0.mk (blk_grown (qk Aa.out) hg (Kd.N_away Df.out (fun _ hk=>hk.2)));replace Af:=y0.mk (Kd.V_afterv (ok:=(fun k_=>(P0_ k_∨w.heap.size≤k_)∧k_≠Ac)) (qV (Kd.V_mono Af.out (fun _ hk=>⟨⟨hk.1.1,hk.1.2.2⟩,hk.2⟩))) hg hat);replace Bf:=y0.mk (Kd.V_afterv (ok:=(fun k_=>(P0_ k_∨w.heap.size≤k_)∧k_≠Ac)) (qV (Kd.V_mono Bf.out (fun _ hk=>⟨⟨hk.1.1,hk.1.2.2⟩,hk.2⟩))) hg hat);replace Di:=y0.mk (Kd.V_afterv (ok:=(fun k_=>(P0_ k_∨w.heap.size≤k_)∧k_≠Ac)) (qV (Kd.V_mono Di.out (fun _ hk=>⟨⟨hk.1.1,hk.1.2.2⟩,hk.2⟩))) hg hat);replace HB:=y0.mk (hb);have Fy:=y0.mk (ho);clear Df;clear ho hb hg hat))
     go_ret2
     exact⟨_,by first|rfl|(simp [y17,y18] <;> rfl)|(simp [*,y17,y18] <;> rfl),Kd.N_lower (qN (Kd.N_mono Fy.out (fun _ hk=>hk.1))) HBB.out,qb⟩
   ·rw [if_neg Fj]at H
    have Fl:=decide_eq_false Fj
    clear Fj
    obtain⟨Cz,Ch⟩:∃ y_:List (S36),y_=(([]:List (S36))):=⟨_,rfl⟩
    replace H:(if 0≤Ad then(if Ad≤(l0.length:Int)then((some (l0.take (Ad:Int).toNat:List (S36))).bind fun Bo=>(if Cz.length + Bo.length < 5864062014805 then((some (Cz ++ Bo:List (S36))).bind fun Br=>((spec_l02Tuple.f Ah).bind fun Bh=>(if Br.length < 5864062014805 then((some (Br ++ [(⟨Bh⟩:S36)]:List (S36))).bind fun Ba=>((some (l0.drop (Ad:Int).toNat:List (S36))).bind fun Al=>(if Ba.length + Al.length < 5864062014805 then(some ((Ba ++ Al),true))else(none))))else(none))))else(none)))else(none))else(none))=some (r1,r2):=by first|(rw [Ch];with_reducible exact H)|(have H2_:=(Option.bind_some _ _).symm.trans H;rw [Ch];with_reducible exact H2_)|(have H2_:=(Option.bind_some _ _).symm.trans H;with_reducible exact H2_)|with_reducible exact H|(rw [Ch];exact H)|exact H
    have Ei:=y0.mk Ch
    clear Ch
    obtain⟨Hb,H⟩:=qo H
    have Ic:=eq_true Hb
    have Id:=decide_eq_true Hb
    clear Hb
    obtain⟨Hc,H⟩:=qo H
    have Ie:=eq_true Hc
    have Ig:=decide_eq_true Hc
    clear Hc
    obtain⟨Bo,Ci⟩:∃ y_:List (S36),y_=(l0.take (Ad:Int).toNat):=⟨_,rfl⟩
    replace H:(if Cz.length + Bo.length < 5864062014805 then((some (Cz ++ Bo:List (S36))).bind fun Br=>((spec_l02Tuple.f Ah).bind fun Bh=>(if Br.length < 5864062014805 then((some (Br ++ [(⟨Bh⟩:S36)]:List (S36))).bind fun Ba=>((some (l0.drop (Ad:Int).toNat:List (S36))).bind fun Al=>(if Ba.length + Al.length < 5864062014805 then(some ((Ba ++ Al),true))else(none))))else(none))))else(none))=some (r1,r2):=by first|(rw [Ci];with_reducible exact H)|(have H2_:=(Option.bind_some _ _).symm.trans H;rw [Ci];with_reducible exact H2_)|(have H2_:=(Option.bind_some _ _).symm.trans H;with_reducible exact H2_)|with_reducible exact H|(rw [Ci];exact H)|exact H
    have Ej:=y0.mk Ci
    clear Ci
    obtain⟨Ih,H⟩:=qo H
    have Fz:=y0.mk Ih
    clear Ih
    obtain⟨Br,Cj⟩:∃ y_:List (S36),y_=(Cz ++ Bo):=⟨_,rfl⟩
    replace H:((spec_l02Tuple.f Ah).bind fun Bh=>(if Br.length < 5864062014805 then((some (Br ++ [(⟨Bh⟩:S36)]:List (S36))).bind fun Ba=>((some (l0.drop (Ad:Int).toNat:List (S36))).bind fun Al=>(if Ba.length + Al.length < 5864062014805 then(some ((Ba ++ Al),true))else(none))))else(none)))=some (r1,r2):=by first|(rw [Cj];with_reducible exact H)|(have H2_:=(Option.bind_some _ _).symm.trans H;rw [Cj];with_reducible exact H2_)|(have H2_:=(Option.bind_some _ _).symm.trans H;with_reducible exact H2_)|with_reducible exact H|(rw [Cj];exact H)|exact H
    have Ga:=y0.mk Cj
    clear Cj
    obtain⟨Bh,Jc,H⟩:=qB H
    obtain⟨Ii,H⟩:=qo H
    have Gb:=y0.mk Ii
    clear Ii
    obtain⟨Ba,Ck⟩:∃ y_:List (S36),y_=(Br ++ [(⟨Bh⟩:S36)]):=⟨_,rfl⟩
    replace H:((some (l0.drop (Ad:Int).toNat:List (S36))).bind fun Al=>(if Ba.length + Al.length < 5864062014805 then(some ((Ba ++ Al),true))else(none)))=some (r1,r2):=by first|(rw [Ck];with_reducible exact H)|(have H2_:=(Option.bind_some _ _).symm.trans H;rw [Ck];with_reducible exact H2_)|(have H2_:=(Option.bind_some _ _).symm.trans H;with_reducible exact H2_)|with_reducible exact H|(rw [Ck];exact H)|exact H
    have Gc:=y0.mk Ck
    clear Ck
    have Ij:=eq_true (of_decide_eq_true qy1:0≤Ad)
    have Ik:=eq_true (of_decide_eq_true qy1:Ad≤(l0.length:Int))
    obtain⟨Al,Cl⟩:∃ y_:List (S36),y_=(l0.drop (Ad:Int).toNat):=⟨_,rfl⟩
    replace H:(if Ba.length + Al.length < 5864062014805 then(some ((Ba ++ Al),true))else(none))=some (r1,r2):=by first|(rw [Cl];with_reducible exact H)|(have H2_:=(Option.bind_some _ _).symm.trans H;rw [Cl];with_reducible exact H2_)|(have H2_:=(Option.bind_some _ _).symm.trans H;with_reducible exact H2_)|with_reducible exact H|(rw [Cl];exact H)|exact H
    have Ek:=y0.mk Cl
    clear Cl
    obtain⟨Il,H⟩:=qo H
    have Gd:=y0.mk Il
    clear Il
    obtain⟨Hd,Cm⟩:∃ y_:List (S36),y_=(Ba ++ Al):=⟨_,rfl⟩
    replace H:(some (Hd,true))=some (r1,r2):=by first|(rw [Cm];with_reducible exact H)|(have H2_:=(Option.bind_some _ _).symm.trans H;rw [Cm];with_reducible exact H2_)|(have H2_:=(Option.bind_some _ _).symm.trans H;with_reducible exact H2_)|with_reducible exact H|(rw [Cm];exact H)|exact H
    have Ge:=y0.mk Cm
    clear Cm
    simp only [Option.some.injEq,Prod.mk.injEq]at H
    obtain⟨rfl,rfl⟩:=H
    try go_wp2
    replace Ae:=y0.mk (Kd.V_drew Ae.out)
    replace Aa:=y0.mk (y12 Aa.out)
    replace HB:=y0.mk (y5 HB.out)
    refine start_ (n:=13) (S:=fun w'=>True) (ds:=[]) (fl_ 13 0) (by kernel_rfl) rfl rfl trivial (fun hHeld=>?_);refine with_tabW spec_l02Put.tab4 spec_l02Put.bits4 (fun HT_ HW_=>?_)
    generalize wc.drew=Jd at Ae Aa HB hHeld ⊢
    refine qp10 0 23 13 ?_
    refine qp3 10 33 13 ?_
    refine done_ (done_of HT_.out (by kernel_rfl)) ?_
    try go_wp2_with (first|((with_reducible refine y20 (N:=37) rfl ?_);refine Kd.N_lit k36 _ 36 ?hg (N':=37) ?hd (xs:=([]:List (S36))) (inner:=[]) (ok:=(fun k_=>(P0_ k_∨w.heap.size≤k_)∧k_≠Ac)) (okp:=(fun k_=>(P0_ k_∨w.heap.size≤k_)∧k_≠Ac)) ?hr ?hp (fun _ hk=>hk) ((show ∀ k_,Jd.heap.size≤k_→(fun k_=>(P0_ k_∨w.heap.size≤k_)∧k_≠Ac) k_ from fun k_ hk=>⟨(.inr (Nat.le_trans (y7 qb) hk)),Kd.freshB (g:=Ac) (o:=.cells #[.slice Am Ah.length Ap] 36 (0,0)) (qk Aa.out) k_ hk⟩) _ (Nat.le_refl _)) (Below.refl _ _) (Nat.le_refl _) (by simp) ?_;(case hd=>rfl);(case hg=>rfl);(case hr=>first|(go_simp;done)|(go_simp;rfl));(case hp=>exact(Reps.none _ _));intro Fb Jx Da hb hg_ hnew_;clear hg_ hnew_;(first|rw [← Ei.out]at Da|(simp only [Int.reduceToNat]at Da;rw [← Ei.out]at Da));replace Ae:=y0.mk (Kd.V_elder' (qV Ae.out) (Kd.N_base Da) hb);have Dj:=y0.mk (Kd.N_lower Da (y7 qb));replace Aa:=y0.mk (qK Aa.out hb);replace HB:=y0.mk (y8 qb hb);clear hb Da;have He:(Ad:Int)≤((l0.length:Int):Int):=of_decide_eq_true qy1;obtain⟨Je,El,_,Gf,_⟩:=info_parts info36;have hroom51:l0.length≤c0:=(Kd.V_reads' Ae.out).2.1;have Gg:Kd.F k36 _ _ A0 l0.length l0:=(Kd.V_at (base:=w.heap.size) Ae.out).2.2;have Fc:=cut_to (P:=Tryz.prog) 30 36 .i64 Tryz.underlying30 El A0 l0.length c0 Ad (of_decide_eq_true qy1) He hroom51;have Fd:=Kd.F_take (m:=(Ad:Int).toNat) Gg (by omega);have Fe:Bo.length=(Ad:Int).toNat:=(by rw [Ej.out,qT_];omega);rw [← Ej.out]at Fd;rw [← Fe]at Fc;have Bg:=y0.mk (show Kd.V k36 36 _ w.heap.size _ (.slice A0 Bo.length c0) Bo from Kd.V_mk (by omega) Fd);have Im:=y0.mk (show Bo.length≤c0 from by omega);clear Fd Gg hroom51 El Gf;have Jf:=y0.mk Fe;clear Fe;replace He:=eq_true He)|((with_reducible refine gate_builtin (b:=.append) (xs:=#[.tmp 37,.tmp 40]) rfl ?_);at_builtin;refine Kd.N_append_rows k36 (w0:=w) w.heap.size rfl (.tmp 37) (.tmp 40) 30 36 (.agg #[(.slice none 0 0)]) 24 rfl Tryz.underlying30 info36 rfl (by decide) (by omega) Fb Cz Bo _ _ _ (fun k_=>(P0_ k_∨w.heap.size≤k_)∧k_≠Ac) (fun k_=>((fun k_=>(P0_ k_∨w.heap.size≤k_)∧k_≠Ac)) k_∧some k_≠(Fb:Value).ownBlock) rfl rfl ?aO ?aR (fun _ hk=>hk) ?aF ?aB ?aS ?aL ?_;(case aR=>exact(by skip;exact Kd.V_F (Kd.V_mono (ok':=(fun k_=>((fun k_=>(P0_ k_∨w.heap.size≤k_)∧k_≠Ac)) k_∧some k_≠(Fb:Value).ownBlock)) (Bg.out) (fun k_ hk=>⟨⟨hk.1.1,hk.1.2⟩,hk.2⟩))));(case aB=>exact qb);(case aF=>exact(fun k_ hk=>⟨(.inr (Nat.le_trans (y7 qb) hk)),Kd.freshB (g:=Ac) (o:=.cells #[.slice Am Ah.length Ap] 36 (0,0)) (qk Aa.out) k_ hk⟩));(case aO=>exact(qN Dj.out));(case aS=>exact(y7 qb));(case aL=>have:=Fz.out;omega);intro Dx Jy ho hb hg hat;rw [← Ga.out]at ho;replace Ae:=y0.mk (Kd.V_afterv (ok:=(fun k_=>(P0_ k_∨w.heap.size≤k_)∧k_≠Ac)) (qV Ae.out) hg hat);replace Aa:=y0.mk (blk_grown (qk Aa.out) hg (Kd.N_away Dj.out (fun _ hk=>hk.2)));replace Bg:=y0.mk (Kd.V_afterv (ok:=(fun k_=>(P0_ k_∨w.heap.size≤k_)∧k_≠Ac)) (qV Bg.out) hg hat);replace HB:=y0.mk (hb);have Bp:=y0.mk (ho);clear Dj;clear ho hb hg hat;obtain⟨Gp,Gq⟩:=qz1 Aa.out)|((with_reducible refine y19 (f:=58) rfl ?_);refine y22 (some 44) rfl rfl Tryz.func58 (by kernel_rfl) rfl #[.agg #[.slice Am Ah.length Ap]] rfl qy0 ?_;(with_reducible refine(spec_l02Tuple.calls _ _ Ah Bh _ (qc (Kd.C_below Bs.out HB.out)) Bt.out Jc.out).mono ?_);rintro e Jz ⟨Jg,rfl,Db,hb⟩;refine⟨_,rfl, ?_⟩;replace Ae:=y0.mk (Kd.V_elder' (qV Ae.out) (Kd.R_base Db) hb);replace Bg:=y0.mk (Kd.V_elder' (qV Bg.out) (Kd.R_base Db) hb);replace Bp:=y0.mk (Kd.N_elder' (qN Bp.out) (Kd.R_base Db) hb);have Cx:=y0.mk (Kd.R_lower (Kd.R_newM (M:=fun k_=>(w.heap.size≤k_)) Db (y7 qb) (fun k_ h_=>h_)) (y7 qb));replace Aa:=y0.mk (qK Aa.out hb);replace HB:=y0.mk (y8 qb hb);(try clear hb);(try clear Db);obtain⟨Ff,Fg,Hf⟩:=Kd.R_slice Cx.out;subst Hf)|((with_reducible refine gate_builtin (b:=.append) (xs:=#[.tmp 42,.tmp 45]) rfl ?_);at_builtin;refine Kd.N_append k36 (w0:=w) w.heap.size rfl (.tmp 42) (.tmp 45) 30 36 (.agg #[(.slice none 0 0)]) 24 rfl Tryz.underlying30 info36 rfl (by decide) (by omega) Dx Br (⟨Bh⟩:S36) [.slice Ff Bh.length Fg] (fun k_=>(P0_ k_∨w.heap.size≤k_)∧k_≠Ac) (fun k_=>((fun k_=>(P0_ k_∨w.heap.size≤k_)∧k_≠Ac)) k_∧some k_≠(Dx:Value).ownBlock) rfl rfl ?aP (fun _ hk=>hk) ?aF ?aO ?aB ?aS ?aL ?_;(case aP=>exact(k36_mkF _ _ (⟨Bh⟩:S36) (Kd.R_reads' (Kd.R_mono (ok':=(fun k_=>((fun k_=>(P0_ k_∨w.heap.size≤k_)∧k_≠Ac)) k_∧some k_≠(Dx:Value).ownBlock)) (Kd.R_types (Kd.R_apart' (Cx.out) (Kd.N_typed Bp.out) (by decide)) Aa.out (by decide)) (fun k_ hk=>⟨⟨(.inr (hk.1.1.1)),hk.2⟩,hk.1.2⟩))).2.1 (Kd.R_F (Kd.R_mono (ok':=(fun k_=>((fun k_=>(P0_ k_∨w.heap.size≤k_)∧k_≠Ac)) k_∧some k_≠(Dx:Value).ownBlock)) (Kd.R_types (Kd.R_apart' (Cx.out) (Kd.N_typed Bp.out) (by decide)) Aa.out (by decide)) (fun k_ hk=>⟨⟨(.inr (hk.1.1.1)),hk.2⟩,hk.1.2⟩)))));(case aB=>exact qb);(case aF=>exact(fun k_ hk=>⟨(.inr (Nat.le_trans (y7 qb) hk)),Kd.freshB (g:=Ac) (o:=.cells #[.slice Am Ah.length Ap] 36 (0,0)) (qk Aa.out) k_ hk⟩));(case aO=>exact(qN (Kd.N_mono Bp.out (fun _ hk=>⟨hk.1.1,hk.1.2⟩))));(case aS=>exact(y7 qb));(case aL=>have:=Gb.out;omega);intro Fh Ka ho hb hg hat;rw [← Gc.out]at ho;replace Ae:=y0.mk (Kd.V_afterv (ok:=(fun k_=>(P0_ k_∨w.heap.size≤k_)∧some k_≠(.slice Ff Bh.length Fg:Value).ownBlock∧k_≠Ac)) (qV (Kd.V_mono Ae.out (fun _ hk=>⟨⟨hk.1.1.1,⟨hk.2,hk.1.1.2⟩⟩,hk.1.2⟩))) hg hat);replace Aa:=y0.mk (blk_grown (qk Aa.out) hg (Kd.N_away Bp.out (fun _ hk=>hk.1.2)));replace Bg:=y0.mk (Kd.V_afterv (ok:=(fun k_=>(P0_ k_∨w.heap.size≤k_)∧some k_≠(.slice Ff Bh.length Fg:Value).ownBlock∧k_≠Ac)) (qV (Kd.V_mono Bg.out (fun _ hk=>⟨⟨hk.1.1.1,⟨hk.2,hk.1.1.2⟩⟩,hk.1.2⟩))) hg hat);replace HB:=y0.mk (hb);have Dk:=y0.mk (ho);clear Bp Cx;clear ho hb hg hat;have Hg:(Ad:Int)≤((l0.length:Int):Int):=of_decide_eq_true qy1;obtain⟨Jh,Em,_,En,_⟩:=info_parts info36;have hroom57:l0.length≤c0:=(Kd.V_reads' Ae.out).2.1;have Gh:Kd.F k36 _ _ A0 l0.length l0:=(Kd.V_at (base:=w.heap.size) Ae.out).2.2;have Hh:(0:Int)≤(Ad:Int):=of_decide_eq_true qy1;have Fi:=cut_from (P:=Tryz.prog) 30 36 .i64 Tryz.underlying30 Em 1 En A0 l0.length c0 Ad Hh Hg;have Dl:=Kd.F_cut (m:=(Ad:Int).toNat) (c:=c0) Gh (by omega) hroom57;obtain⟨In,Dy⟩:∃ A1,A1=(if c0=(Ad:Int).toNat then A0 else(A0:Option Addr).map (·.add ((Ad:Int).toNat * 1))):=⟨_,rfl⟩;obtain⟨Io,Dz⟩:∃ c1,c1=c0 - (Ad:Int).toNat:=⟨_,rfl⟩;have Dm:Al.length=l0.length - (Ad:Int).toNat:=(by rw [Ek.out,qD_] <;> omega);rw [show(l0).drop (Ad:Int).toNat=Al from Ek.out.symm]at Dl;replace Dl:Kd.F k36 _ _ In Al.length Al:=(by rw [Dy];exact Dl);rw [← Dm,← Dy,← Dz]at Fi;have Dn:=y0.mk (show Kd.V k36 36 _ w.heap.size _ (.slice In Al.length Io) Al from Kd.V_mk (by rw [Dm,Dz];exact Nat.sub_le_sub_right hroom57 _) Dl);have Ip:=y0.mk (show Al.length≤Io from by rw [Dm,Dz];exact Nat.sub_le_sub_right hroom57 _);clear Dl Gh hroom57 Em En Dz;have Ji:=y0.mk Dm;have Jj:=y0.mk Dy;clear Dm Dy;replace Hg:=eq_true Hg)|((with_reducible refine gate_builtin (b:=.append) (xs:=#[.tmp 47,.tmp 50]) rfl ?_);at_builtin;refine Kd.N_append_rows k36 (w0:=w) w.heap.size rfl (.tmp 47) (.tmp 50) 30 36 (.agg #[(.slice none 0 0)]) 24 rfl Tryz.underlying30 info36 rfl (by decide) (by omega) Fh Ba Al _ _ _ (fun k_=>(P0_ k_∨w.heap.size≤k_)∧k_≠Ac) (fun k_=>((fun k_=>(P0_ k_∨w.heap.size≤k_)∧k_≠Ac)) k_∧some k_≠(Fh:Value).ownBlock) rfl rfl ?aO ?aR (fun _ hk=>hk) ?aF ?aB ?aS ?aL ?_;(case aR=>exact(by skip;exact Kd.V_F (Kd.V_mono (ok':=(fun k_=>((fun k_=>(P0_ k_∨w.heap.size≤k_)∧k_≠Ac)) k_∧some k_≠(Fh:Value).ownBlock)) (Dn.out) (fun k_ hk=>⟨⟨hk.1.1,hk.1.2.2⟩,hk.2⟩))));(case aB=>exact qb);(case aF=>exact(fun k_ hk=>⟨(.inr (Nat.le_trans (y7 qb) hk)),Kd.freshB (g:=Ac) (o:=.cells #[.slice Am Ah.length Ap] 36 (0,0)) (qk Aa.out) k_ hk⟩));(case aO=>exact(qN Dk.out));(case aS=>exact(y7 qb));(case aL=>have:=Gd.out;omega);intro Jk Kb ho hb hg hat;rw [← Ge.out]at ho;replace Ae:=y0.mk (Kd.V_afterv (ok:=(fun k_=>(P0_ k_∨w.heap.size≤k_)∧k_≠Ac)) (qV (Kd.V_mono Ae.out (fun _ hk=>⟨⟨hk.1.1,hk.1.2.2⟩,hk.2⟩))) hg hat);replace Aa:=y0.mk (blk_grown (qk Aa.out) hg (Kd.N_away Dk.out (fun _ hk=>hk.2)));replace Bg:=y0.mk (Kd.V_afterv (ok:=(fun k_=>(P0_ k_∨w.heap.size≤k_)∧k_≠Ac)) (qV (Kd.V_mono Bg.out (fun _ hk=>⟨⟨hk.1.1,hk.1.2.2⟩,hk.2⟩))) hg hat);replace Dn:=y0.mk (Kd.V_afterv (ok:=(fun k_=>(P0_ k_∨w.heap.size≤k_)∧k_≠Ac)) (qV (Kd.V_mono Dn.out (fun _ hk=>⟨⟨hk.1.1,hk.1.2.2⟩,hk.2⟩))) hg hat);replace HB:=y0.mk (hb);have Gi:=y0.mk (ho);clear Dk;clear ho hb hg hat))
    go_ret2
    exact⟨_,by first|rfl|(simp [y17,y18] <;> rfl)|(simp [*,y17,y18] <;> rfl),Kd.N_lower (qN (Kd.N_mono Gi.out (fun _ hk=>hk.1))) HBB.out,qb⟩
end Go.Proofs.YtkajecadkkgfmaaGreatDoor.Pn
end
section
namespace Go.Proofs.YtkajecadkkgfmaaGreatDoor.Pn
open Go.RowKit Go.Proofs.YtkajecadkkgfmaaGreatDoorW.PrintWords Go.Proofs.YtkajecadkkgfmaaGreatDoorW.PrintLast Go.Proofs.YtkajecadkkgfmaaGreatDoorW.PrintMore
attribute [local go_sem] max2_int min2_int max_two min_two max_three min_three max_four min_four   -- for this text's walks alone
set_option linter.unusedVariables false
set_option linter.unusedSimpArgs false
def spec_RelPut.j0:Nat→Bool→Int→List (S36)→List ByteArray→Option (Int×(List (S36))×Bool)
 | 0,_,_,_,_=>none
 | k + 1,x24,x264000,x264001,x265000=>if x24=true then(some (0,([]:List (S36)),false))else((spec_l02Copy.f k x264000 x264001).bind fun bt268=>((spec_l02Put.f k bt268.2 x265000).bind fun bt273=>(if(bt273.1.length:Int) > 400 then(some (0,([]:List (S36)),false))else(some (bt268.1,bt273.1,bt273.2)))))
def spec_RelPut.f (k:Nat) (a0_0:Int) (l0_1:List (S36)) (l1_0:List ByteArray):Option (Int×(List (S36))×Bool):=(spec_RelOk.f k a0_0 l0_1).bind fun t266=>(if t266=true then(if(l1_0.length:Int)=a0_0 then((spec_TupleOk.f k l1_0).bind fun t267=>(spec_RelPut.j0 k (!t267) a0_0 l0_1 l1_0))else(spec_RelPut.j0 k true a0_0 l0_1 l1_0))else(spec_RelPut.j0 k true a0_0 l0_1 l1_0))
set_option maxHeartbeats 8000000 in
set_option maxRecDepth 100000 in
theorem spec_RelPut.calls (k:Nat) (Ah:Int) (Be:Option Addr) (Bf:Nat) (Ak:List (S36)) (Bj:Option Addr) (Bk:Nat) (Aj:List ByteArray) (r1:Int) (r2:List (S36)) (r3:Bool) (w:World) (Cb:Kd.C k36 w Be Ak.length Ak) (Cc:Ak.length≤Bf) (Cd:Kd.C Kd.string w Bj Aj.length Aj) (Ce:Aj.length≤Bk) (h:spec_RelPut.f k Ah Ak Aj=some (r1,r2,r3)) :
  Calls Tryz.prog 10 #[.agg #[.int .i64 Ah,.slice Be Ak.length Bf],.agg #[.slice Bj Aj.length Bk]] w fun e w'=>∃ v1_:Value,e=.returned (.tuple #[.agg #[.int .i64 r1,v1_],.bool r3])∧Kd.N k36 36 w' w.heap.size (fun k_=>(w.heap.size≤k_)) v1_ r2∧Below w.heap.size w w':=by
 have Ht:=Tryz.underlying32
 have Hu:=Tryz.underlying36
 have Bm:=y0.mk Cb
 have Bn:=y0.mk Cc
 clear Cb Cc
 have Bu:=y0.mk Cd
 have Bv:=y0.mk Ce
 clear Cd Ce
 have HB:=y0.mk (Below.refl w.heap.size w)
 have H:((spec_RelOk.f k Ah Ak).bind fun Cf=>(if Cf=true then(if(Aj.length:Int)=Ah then((spec_TupleOk.f k Aj).bind fun Ca=>(spec_RelPut.j0 k (!Ca) Ah Ak Aj))else(spec_RelPut.j0 k true Ah Ak Aj))else(spec_RelPut.j0 k true Ah Ak Aj)))=some (r1,r2,r3):=h
 clear h
 have Fk:=y0.mk H
 clear H
 go_enter Tryz.func10,Tryz.ntmps10
 go_upto_region 1 with(first|((with_reducible refine y20 (N:=2) rfl ?_);(try(refine y21 (by rfl) ?_;dsimp only));refine qe 2 #[.int .i64 Ah,.slice Be Ak.length Bf] 32 ?_;intro Av hg w4 hbox hb;have Aa:=y0.mk (hbox);have Fs:=y0.mk (qg (w:=w) hg);have Ft:=y0.mk (qg (w:=w) hg);replace HB:=y0.mk (y8 qb hb);clear hb hbox hg)|((with_reducible refine y20 (N:=3) rfl ?_);(try(refine y21 (by rfl) ?_;dsimp only));refine qe 3 #[.slice Bj Aj.length Bk] 36 ?_;intro Aw hg w5 hbox hb;have Ac:=y0.mk (hbox);have Fu:=y0.mk (qg (w:=w) hg);have Fv:=y0.mk (qg (w:=w) hg);replace HB:=y0.mk (y8 qb hb);have Ay:=y0.mk (qn Aa.out hg);have Az:=y0.mk (qm Aa.out hg);replace Aa:=y0.mk (qK Aa.out hb);clear hb hbox hg)|((with_reducible refine y20 (N:=4) rfl ?_);(try(refine y21 (by rfl) ?_;dsimp only));refine qe 4 #[.int .i64 0,.slice none 0 0] 32 ?_;intro Ag hg w6 hbox hb;have Ad:=y0.mk (hbox);have Fw:=y0.mk (qg (w:=w) hg);have Fx:=y0.mk (qg (w:=w) hg);replace HB:=y0.mk (y8 qb hb);have Aq:=y0.mk (qn Aa.out hg);have Au:=y0.mk (qm Aa.out hg);replace Aa:=y0.mk (qK Aa.out hb);have Ba:=y0.mk (qn Ac.out hg);have Bb:=y0.mk (qm Ac.out hg);replace Ac:=y0.mk (qK Ac.out hb);clear hb hbox hg))
 (try simp only [Act.put,qS_,qZ_,qC_])
 go_cut [24] (fun Hv wc=>∃(kq:Nat) (Bo:Bool),Hv=.bool Bo∧y0 (spec_RelPut.j0 kq Bo Ah Ak Aj=some (r1,r2,r3))∧y0 (kq≤k)∧y0 (wc.heap[Av]?=some (.cells #[.int .i64 Ah,(.slice Be Ak.length Bf)] 32 (0,0)))∧y0 (wc.heap[Aw]?=some (.cells #[(.slice Bj Aj.length Bk)] 36 (0,0)))∧y0 (wc.heap[Ag]?=some (.cells #[.int .i64 0,(.slice none 0 0)] 32 (0,0)))∧y0 (Below w.heap.size w wc))
 case first =>
  have H:=Fk.out
  clear Fk
  obtain⟨Cf,A7,H⟩:=qB H
  by_cases c8:Cf=true
  ·subst c8
   replace H:=qT H
   by_cases c9:(Aj.length:Int)=Ah
   ·rw [if_pos c9]at H
    have Bw:((Aj.length:Int) == Ah)=true:=beq_iff_eq.mpr c9
    have Fl:((Aj.length:Int) != Ah)=false:=bne_eq_false_iff_eq.mpr c9
    clear c9
    (first|rw [Bw]|(simp only [i64_w,i32_w];rw [Bw])|skip)
    obtain⟨Ca,Hw,H⟩:=qB H
    have H':=y0.mk H
    clear H
    have Fy:=Ay.out
    have Fz:=Az.out
    have Ga:=Aq.out
    have Gb:=Au.out
    obtain⟨Cr,Cs,Ct,Cu⟩:=qz2 Aa.out
    go_wp2_with (first|((with_reducible refine y19 (f:=22) rfl ?_);refine y22 (some 10) rfl rfl Tryz.func22 (by kernel_rfl) rfl #[.agg #[.int .i64 Ah,.slice Be Ak.length Bf]] rfl qy0 ?_;(with_reducible refine(spec_RelOk.calls k Ah _ _ Ak true _ (qc (Kd.C_below Bm.out HB.out)) Bn.out A7.out).mono ?_);rintro e Ib ⟨rfl,hb⟩;refine⟨_,rfl, ?_⟩;replace Aa:=y0.mk (qK Aa.out hb);replace Ac:=y0.mk (qK Ac.out hb);replace Ad:=y0.mk (qK Ad.out hb);replace HB:=y0.mk (y8 qb hb);(try clear hb);have Gc:=Ba.out;have Gd:=Bb.out;obtain⟨Cv,Cw⟩:=qz1 Ac.out;obtain⟨Cx,Cy,Cz,Da⟩:=qz2 Aa.out)|(go_at_call 35;(with_reducible refine(spec_TupleOk.calls k _ _ Aj Ca _ (qc (Kd.C_below Bu.out HB.out)) Bv.out Hw.out).mono ?_);rintro e Ic ⟨rfl,hb⟩;replace Aa:=y0.mk (qK Aa.out hb);replace Ac:=y0.mk (qK Ac.out hb);replace Ad:=y0.mk (qK Ad.out hb);replace HB:=y0.mk (y8 qb hb);(try clear hb)))
    go_meet
    exact⟨_,(!Ca),qy2,H',⟨by first|omega|exact Nat.le_refl _⟩,⟨qk Aa.out⟩,⟨qk Ac.out⟩,⟨qk Ad.out⟩,⟨qb⟩⟩
   ·rw [if_neg c9]at H
    have Bw:((Aj.length:Int) == Ah)=false:=beq_eq_false_iff_ne.mpr c9
    have Fl:((Aj.length:Int) != Ah)=true:=bne_iff_ne.mpr c9
    (first|rw [Bw]|(simp only [i64_w,i32_w];rw [Bw])|skip)
    have H':=y0.mk H
    clear H
    have Ge:=Ay.out
    have Gf:=Az.out
    have Gg:=Aq.out
    have Gh:=Au.out
    obtain⟨Db,Dc,Dd,De⟩:=qz2 Aa.out
    go_wp2_with (first|((with_reducible refine y19 (f:=22) rfl ?_);refine y22 (some 10) rfl rfl Tryz.func22 (by kernel_rfl) rfl #[.agg #[.int .i64 Ah,.slice Be Ak.length Bf]] rfl qy0 ?_;(with_reducible refine(spec_RelOk.calls k Ah _ _ Ak true _ (qc (Kd.C_below Bm.out HB.out)) Bn.out A7.out).mono ?_);rintro e Id ⟨rfl,hb⟩;refine⟨_,rfl, ?_⟩;replace Aa:=y0.mk (qK Aa.out hb);replace Ac:=y0.mk (qK Ac.out hb);replace Ad:=y0.mk (qK Ad.out hb);replace HB:=y0.mk (y8 qb hb);(try clear hb);have Gi:=Ba.out;have Gj:=Bb.out;obtain⟨Df,Dg⟩:=qz1 Ac.out;obtain⟨Dh,Di,Dj,Dk⟩:=qz2 Aa.out))
    go_meet
    exact⟨_,(true),qy2,H',⟨by first|omega|exact Nat.le_refl _⟩,⟨qk Aa.out⟩,⟨qk Ac.out⟩,⟨qk Ad.out⟩,⟨qb⟩⟩
  ·replace c8:=Bool.eq_false_iff.mpr c8
   subst c8
   replace H:=qF H
   have H':=y0.mk H
   clear H
   have Gk:=Ay.out
   have Gl:=Az.out
   have Gm:=Aq.out
   have Gn:=Au.out
   obtain⟨Dl,Dm,Dn,Do⟩:=qz2 Aa.out
   go_wp2_with (first|((with_reducible refine y19 (f:=22) rfl ?_);refine y22 (some 10) rfl rfl Tryz.func22 (by kernel_rfl) rfl #[.agg #[.int .i64 Ah,.slice Be Ak.length Bf]] rfl qy0 ?_;(with_reducible refine(spec_RelOk.calls k Ah _ _ Ak false _ (qc (Kd.C_below Bm.out HB.out)) Bn.out A7.out).mono ?_);rintro e Ie ⟨rfl,hb⟩;refine⟨_,rfl, ?_⟩;replace Aa:=y0.mk (qK Aa.out hb);replace Ac:=y0.mk (qK Ac.out hb);replace Ad:=y0.mk (qK Ad.out hb);replace HB:=y0.mk (y8 qb hb);(try clear hb)))
   go_meet
   exact⟨_,(true),qy2,H',⟨by first|omega|exact Nat.le_refl _⟩,⟨qk Aa.out⟩,⟨qk Ac.out⟩,⟨qk Ad.out⟩,⟨qb⟩⟩
 case rest =>
  clear Fk
  obtain⟨kq,Bo,rfl,HA,Ig,Aa,Ac,Ad,HB⟩:=hcut
  cases kq with
  | zero=>exact absurd HA.out (by simp [spec_RelPut.j0])
  | succ Cm =>
   have H:=HA.out
   clear HA
   simp only [spec_RelPut.j0]at H
   by_cases Dp:Bo=true
   ·subst Dp
    replace H:=qT H
    simp only [Option.some.injEq,Prod.mk.injEq]at H
    obtain⟨rfl,rfl,rfl⟩:=H
    have Gp:=Au.out
    have Gq:=Aq.out
    have Gr:=Bb.out
    have Gs:=Ba.out
    obtain⟨Dq,Dr,Ds,Dt⟩:=qz2 Ad.out
    go_wp2
    refine bodyPost_ret (results_ct rfl _ _ Ag 32 #[.int .i64 0,.slice none 0 0] (0,0) _ rfl (by(with_reducible repeat(first|refine y13 ?_ _|refine y12 ?_|refine y9 ?_ _));refine y16 (cs:=#[.int .i64 0,.slice none 0 0]) ?_ 1 _ rfl;(with_reducible repeat(first|refine y13 ?_ _|refine y12 ?_|refine y9 ?_ _));refine y16 (cs:=#[.int .i64 0,.slice none 0 0]) ?_ 0 _ rfl;(with_reducible repeat(first|refine y13 ?_ _|refine y12 ?_|refine y9 ?_ _));exact Ad.out) Tryz.underlying32 rfl (by kernel_rfl)) rfl ?_
    exact⟨_,by first|rfl|(simp [y17,y18] <;> rfl)|(simp [*,y17,y18] <;> rfl),by first|exact Kd.S_nil _ _ _ _ _|exact Kd.N_nil _ _ _ _ _|exact Kd.V_nil _ _ _ _ _|exact Kd.Q_nil _ _ _ _ _|exact Kd.R_nil _ _ _ _ _,qb⟩
   ·replace Dp:=Bool.eq_false_iff.mpr Dp
    subst Dp
    replace H:=qF H
    obtain⟨⟨Bd,Bc⟩,Gt,H⟩:=qB H
    replace H:((spec_l02Put.f Cm Bc Aj).bind fun Bx=>(if(Bx.1.length:Int) > 400 then(some (0,([]:List (S36)),false))else(some (Bd,Bx.1,Bx.2))))=some (r1,r2,r3):=H
    obtain⟨⟨Bl,Cg⟩,Gu,H⟩:=qB H
    replace H:(if(Bl.length:Int) > 400 then(some (0,([]:List (S36)),false))else(some (Bd,Bl,Cg)))=some (r1,r2,r3):=H
    by_cases Cj:(Bl.length:Int) > 400
    ·rw [if_pos Cj]at H
     have Cn:decide (400 < (Bl.length:Int))=true:=decide_eq_true Cj
     have Co:decide (400 < Bl.length)=true:=decide_eq_true (by omega)
     clear Cj
     simp only [Option.some.injEq,Prod.mk.injEq]at H
     obtain⟨rfl,rfl,rfl⟩:=H
     have Gv:=Ay.out
     have Gw:=Az.out
     have Gx:=Aq.out
     have Gy:=Au.out
     obtain⟨Du,Dv,Dw,Dx⟩:=qz2 Aa.out
     go_wp2_with (first|((with_reducible refine y19 (f:=36) rfl ?_);refine y22 (some 27) rfl rfl Tryz.func36 (by kernel_rfl) rfl #[.agg #[.int .i64 Ah,.slice Be Ak.length Bf]] rfl qy0 ?_;(with_reducible refine(spec_l02Copy.calls Cm Ah _ _ Ak Bd Bc _ ?side1 ?side2 Gt.out).mono ?_);(case side1=>repeat(first|exact(Kd.C_below Bm.out HB.out)|(with_reducible refine Kd.C_alloc ?_ _)|(with_reducible refine Kd.C_drewN ?_ _)|(with_reducible refine Kd.C_drew ?_)));(case side2=>exact Bn.out);rintro e Ih ⟨Fm,rfl,Bz,hb⟩;refine⟨_,rfl, ?_⟩;have Ae:=y0.mk (Kd.N_lower (Kd.N_mono (ok':=fun k_=>(w.heap.size≤k_)∧k_≠Av∧k_≠Aw∧k_≠Ag) (Kd.S_N (Kd.S_bound Bz)) (fun k_ hk_=>⟨(Nat.le_trans (y7 qb) hk_.2.1),(Kd.freshB (g:=Av) (o:=.cells #[.int .i64 Ah,.slice Be Ak.length Bf] 32 (0,0)) (qk Aa.out) k_ hk_.2.1),(Kd.freshB (g:=Aw) (o:=.cells #[.slice Bj Aj.length Bk] 36 (0,0)) (qk Ac.out) k_ hk_.2.1),(Kd.freshB (g:=Ag) (o:=.cells #[.int .i64 0,.slice none 0 0] 32 (0,0)) (qk Ad.out) k_ hk_.2.1)⟩)) (y7 qb));replace Aa:=y0.mk (qK Aa.out hb);replace Ac:=y0.mk (qK Ac.out hb);replace Ad:=y0.mk (qK Ad.out hb);replace HB:=y0.mk (y8 qb hb);(try clear hb);(try clear Bz))|((with_reducible refine y20 (N:=6) rfl ?_);(try(refine y21 (by rfl) ?_;dsimp only));refine qe 6 #[.int .i64 0,.slice none 0 0] 32 ?_;intro Af hg Hx hbox hb;replace Ae:=y0.mk (Kd.N_below (Kd.N_elderB (qN Ae.out) Af (Nat.le_of_eq hg.symm)) hb);have Al:=y0.mk (hbox);have Cp:=y0.mk (qg (w:=w) hg);have Cq:=y0.mk (qg (w:=w) hg);replace HB:=y0.mk (y8 qb hb);have Am:=y0.mk (qn Aa.out hg);have Bg:=y0.mk (qm Aa.out hg);replace Aa:=y0.mk (qK Aa.out hb);have Ap:=y0.mk (qn Ac.out hg);have Bh:=y0.mk (qm Ac.out hg);replace Ac:=y0.mk (qK Ac.out hb);have Ai:=y0.mk (qn Ad.out hg);have Bi:=y0.mk (qm Ad.out hg);replace Ad:=y0.mk (qK Ad.out hb);clear hb hbox hg;have Gz:=Bg.out;have Ha:=Am.out;have Hb:=Bh.out;have Hc:=Ap.out;have Hd:=Bi.out;have He:=Ai.out;obtain⟨Dy,Dz,Ea,Eb⟩:=qz2 Al.out;obtain⟨Bq,Br,Fn⟩:=Kd.N_slice Ae.out;subst Fn)|((with_reducible refine gate_store (t:=32) (p:=6) rfl ?_);refine store_event (t:=32) (p:=6) (v:=?vo_w47) (w1:=((Hx.setCell ⟨Af,0,none⟩ (.int .i64 Bd)).setCell ⟨Af,1,none⟩ (.slice Bq Bc.length Br))) ?hg ?ho ?hn ?hr ?_;(case ho=>rfl);(case hg=>rfl);(case hn=>rfl);(case hr=>(first|(obtain⟨_,_,eo_⟩:=Kd.R_slice Ae.out;subst eo_)|(obtain⟨_,_,eo_⟩:=Kd.S_slice Ae.out;subst eo_)|(obtain⟨_,_,eo_⟩:=Kd.N_slice Ae.out;subst eo_)|skip);first|(go_simp;done)|(go_simp;rfl));intro Ck hw;have n0_:y0 (Kd.N k36 36 Ck w.heap.size (fun k_=>(w.heap.size≤k_)∧k_≠Av∧k_≠Aw∧k_≠Ag∧k_≠Af) (.slice Bq Bc.length Br) Bc):=⟨(by rw [hw];exact(qN (Kd.N_mono (Kd.N_far (p:=⟨Af,1,none⟩) (Kd.N_far (p:=⟨Af,0,none⟩) (Kd.N_mono Ae.out (fun k_ hk=>(⟨hk,hk.2⟩:_∧k_≠Af))) (fun _ hk=>hk.2) (.int .i64 Bd)) (fun _ hk=>hk.2) (.slice Bq Bc.length Br)) (fun _ hk=>⟨hk.1.1.1,⟨hk.1.1.2.1,⟨hk.1.1.2.2.1,⟨hk.1.1.2.2.2,hk.1.2⟩⟩⟩⟩))))⟩;have n1_:y0 (Ck.heap[Av]?=some (.cells #[.int .i64 Ah,.slice Be Ak.length Bf] 32 (0,0))):=⟨(by rw [hw];exact(by(with_reducible repeat(first|refine y13 ?_ _|refine y12 ?_|refine y9 ?_ _));refine y14 ?_ Am.out _;(with_reducible repeat(first|refine y13 ?_ _|refine y12 ?_|refine y9 ?_ _));refine y14 ?_ Am.out _;(with_reducible repeat(first|refine y13 ?_ _|refine y12 ?_|refine y9 ?_ _));exact Aa.out))⟩;have n2_:y0 (Ck.heap[Aw]?=some (.cells #[.slice Bj Aj.length Bk] 36 (0,0))):=⟨(by rw [hw];exact(by(with_reducible repeat(first|refine y13 ?_ _|refine y12 ?_|refine y9 ?_ _));refine y14 ?_ Ap.out _;(with_reducible repeat(first|refine y13 ?_ _|refine y12 ?_|refine y9 ?_ _));refine y14 ?_ Ap.out _;(with_reducible repeat(first|refine y13 ?_ _|refine y12 ?_|refine y9 ?_ _));exact Ac.out))⟩;have n3_:y0 (Ck.heap[Ag]?=some (.cells #[.int .i64 0,.slice none 0 0] 32 (0,0))):=⟨(by rw [hw];exact(by(with_reducible repeat(first|refine y13 ?_ _|refine y12 ?_|refine y9 ?_ _));refine y14 ?_ Ai.out _;(with_reducible repeat(first|refine y13 ?_ _|refine y12 ?_|refine y9 ?_ _));refine y14 ?_ Ai.out _;(with_reducible repeat(first|refine y13 ?_ _|refine y12 ?_|refine y9 ?_ _));exact Ad.out))⟩;have n4_:y0 (Ck.heap[Af]?=some (.cells #[.int .i64 Bd,.slice Bq Bc.length Br] 32 (0,0))):=⟨(by rw [hw];exact(by(with_reducible repeat(first|refine y13 ?_ _|refine y12 ?_|refine y9 ?_ _));refine y16 (cs:=#[.int .i64 Bd,.slice none 0 0]) ?_ 1 _ rfl;(with_reducible repeat(first|refine y13 ?_ _|refine y12 ?_|refine y9 ?_ _));refine y16 (cs:=#[.int .i64 0,.slice none 0 0]) ?_ 0 _ rfl;(with_reducible repeat(first|refine y13 ?_ _|refine y12 ?_|refine y9 ?_ _));exact Al.out))⟩;have n5_:y0 (Below w.heap.size w Ck):=⟨(by rw [hw];exact qb)⟩;clear hw;clear Ae;clear Aa;clear Ac;clear Ad;clear Al;clear HB;have Ae:=n0_;have Aa:=n1_;have Ac:=n2_;have Ad:=n3_;have Al:=n4_;have HB:=n5_;clear n0_ n1_ n2_ n3_ n4_ n5_;obtain⟨Ec,Ed,Ee,Ef⟩:=qz2 Al.out;have Hf:=Ba.out;have Hg:=Bb.out;obtain⟨Eg,Eh⟩:=qz1 Ac.out)|((with_reducible refine y19 (f:=37) rfl ?_);refine y22 (some 32) rfl rfl Tryz.func37 (by kernel_rfl) rfl #[.slice Bq Bc.length Br,.agg #[.slice Bj Aj.length Bk]] rfl qy0 ?_;(with_reducible refine(spec_l02Put.calls (b:=w.heap.size) Cm (fun k_=>((w.heap.size≤k_)∧(k_≠Av∧(k_≠Aw∧(k_≠Ag∧k_≠Af))))) _ _ Bc _ _ Aj Bl Cg _ ?side1 ?sideb ?side2 ?side3 Gu.out).mono ?_);(case side1=>exact Ae.out);(case sideb=>exact(y7 qb));(case side2=>repeat(first|exact(Kd.C_below Bu.out HB.out)|(with_reducible refine Kd.C_alloc ?_ _)|(with_reducible refine Kd.C_drewN ?_ _)|(with_reducible refine Kd.C_drew ?_)));(case side3=>exact Bv.out);rintro e Ii ⟨Fo,rfl,Bz,hb⟩;refine⟨_,rfl, ?_⟩;replace Ae:=y0.mk (Kd.N_below (qN Ae.out) hb);have Bp:=y0.mk (Kd.N_lower (Kd.N_mono (ok':=fun k_=>(w.heap.size≤k_)∧k_≠Av∧k_≠Aw∧k_≠Ag∧k_≠Af) Bz (fun k_ hk_=>⟨Or.elim hk_ (fun hs_=>hs_.1) (fun hn_=>(Nat.le_trans (y7 qb) hn_)),Or.elim hk_ (fun hs_=>hs_.2.1) (fun hn_=>(Kd.freshB (g:=Av) (o:=.cells #[.int .i64 Ah,.slice Be Ak.length Bf] 32 (0,0)) (qk Aa.out) k_ hn_)),Or.elim hk_ (fun hs_=>hs_.2.2.1) (fun hn_=>(Kd.freshB (g:=Aw) (o:=.cells #[.slice Bj Aj.length Bk] 36 (0,0)) (qk Ac.out) k_ hn_)),Or.elim hk_ (fun hs_=>hs_.2.2.2.1) (fun hn_=>(Kd.freshB (g:=Ag) (o:=.cells #[.int .i64 0,.slice none 0 0] 32 (0,0)) (qk Ad.out) k_ hn_)),Or.elim hk_ (fun hs_=>hs_.2.2.2.2) (fun hn_=>(Kd.freshB (g:=Af) (o:=.cells #[.int .i64 Bd,.slice Bq Bc.length Br] 32 (0,0)) (qk Al.out) k_ hn_))⟩)) (Nat.le_refl _));replace Aa:=y0.mk (qK Aa.out hb);replace Ac:=y0.mk (qK Ac.out hb);replace Ad:=y0.mk (qK Ad.out hb);replace Al:=y0.mk (qK Al.out hb);replace HB:=y0.mk (y8 qb hb);(try clear hb);(try clear Bz);obtain⟨Hy,Hz,Fp⟩:=Kd.N_slice Bp.out;subst Fp;obtain⟨Ei,Ej,Ek,El⟩:=qz2 Ad.out))
     refine bodyPost_ret (results_ct rfl _ _ Ag 32 #[.int .i64 0,.slice none 0 0] (0,0) _ rfl (by(with_reducible repeat(first|refine y13 ?_ _|refine y12 ?_|refine y9 ?_ _));refine y16 (cs:=#[.int .i64 0,.slice none 0 0]) ?_ 1 _ rfl;(with_reducible repeat(first|refine y13 ?_ _|refine y12 ?_|refine y9 ?_ _));refine y16 (cs:=#[.int .i64 0,.slice none 0 0]) ?_ 0 _ rfl;(with_reducible repeat(first|refine y13 ?_ _|refine y12 ?_|refine y9 ?_ _));exact Ad.out) Tryz.underlying32 rfl (by kernel_rfl)) rfl ?_
     exact⟨_,by first|rfl|(simp [y17,y18] <;> rfl)|(simp [*,y17,y18] <;> rfl),by first|exact Kd.S_nil _ _ _ _ _|exact Kd.N_nil _ _ _ _ _|exact Kd.V_nil _ _ _ _ _|exact Kd.Q_nil _ _ _ _ _|exact Kd.R_nil _ _ _ _ _,qb⟩
    ·rw [if_neg Cj]at H
     have Cn:decide (400 < (Bl.length:Int))=false:=decide_eq_false Cj
     have Co:decide (400 < Bl.length)=false:=decide_eq_false (by omega)
     clear Cj
     simp only [Option.some.injEq,Prod.mk.injEq]at H
     obtain⟨rfl,rfl,rfl⟩:=H
     have Hh:=Ay.out
     have Hi:=Az.out
     have Hj:=Aq.out
     have Hk:=Au.out
     obtain⟨Em,En,Eo,Ep⟩:=qz2 Aa.out
     go_wp2_with (first|((with_reducible refine y19 (f:=36) rfl ?_);refine y22 (some 27) rfl rfl Tryz.func36 (by kernel_rfl) rfl #[.agg #[.int .i64 Ah,.slice Be Ak.length Bf]] rfl qy0 ?_;(with_reducible refine(spec_l02Copy.calls Cm Ah _ _ Ak Bd Bc _ ?side1 ?side2 Gt.out).mono ?_);(case side1=>repeat(first|exact(Kd.C_below Bm.out HB.out)|(with_reducible refine Kd.C_alloc ?_ _)|(with_reducible refine Kd.C_drewN ?_ _)|(with_reducible refine Kd.C_drew ?_)));(case side2=>exact Bn.out);rintro e Ij ⟨Fm,rfl,Bz,hb⟩;refine⟨_,rfl, ?_⟩;have Ae:=y0.mk (Kd.N_lower (Kd.N_mono (ok':=fun k_=>(w.heap.size≤k_)∧k_≠Av∧k_≠Aw∧k_≠Ag) (Kd.S_N (Kd.S_bound Bz)) (fun k_ hk_=>⟨(Nat.le_trans (y7 qb) hk_.2.1),(Kd.freshB (g:=Av) (o:=.cells #[.int .i64 Ah,.slice Be Ak.length Bf] 32 (0,0)) (qk Aa.out) k_ hk_.2.1),(Kd.freshB (g:=Aw) (o:=.cells #[.slice Bj Aj.length Bk] 36 (0,0)) (qk Ac.out) k_ hk_.2.1),(Kd.freshB (g:=Ag) (o:=.cells #[.int .i64 0,.slice none 0 0] 32 (0,0)) (qk Ad.out) k_ hk_.2.1)⟩)) (y7 qb));replace Aa:=y0.mk (qK Aa.out hb);replace Ac:=y0.mk (qK Ac.out hb);replace Ad:=y0.mk (qK Ad.out hb);replace HB:=y0.mk (y8 qb hb);(try clear hb);(try clear Bz))|((with_reducible refine y20 (N:=6) rfl ?_);(try(refine y21 (by rfl) ?_;dsimp only));refine qe 6 #[.int .i64 0,.slice none 0 0] 32 ?_;intro Af hg Ia hbox hb;replace Ae:=y0.mk (Kd.N_below (Kd.N_elderB (qN Ae.out) Af (Nat.le_of_eq hg.symm)) hb);have Al:=y0.mk (hbox);have Cp:=y0.mk (qg (w:=w) hg);have Cq:=y0.mk (qg (w:=w) hg);replace HB:=y0.mk (y8 qb hb);have Am:=y0.mk (qn Aa.out hg);have Bg:=y0.mk (qm Aa.out hg);replace Aa:=y0.mk (qK Aa.out hb);have Ap:=y0.mk (qn Ac.out hg);have Bh:=y0.mk (qm Ac.out hg);replace Ac:=y0.mk (qK Ac.out hb);have Ai:=y0.mk (qn Ad.out hg);have Bi:=y0.mk (qm Ad.out hg);replace Ad:=y0.mk (qK Ad.out hb);clear hb hbox hg;have Hl:=Bg.out;have Hm:=Am.out;have Hn:=Bh.out;have Ho:=Ap.out;have Hp:=Bi.out;have Hq:=Ai.out;obtain⟨Er,Es,Et,Eu⟩:=qz2 Al.out;obtain⟨Bs,Bt,Fq⟩:=Kd.N_slice Ae.out;subst Fq)|((with_reducible refine gate_store (t:=32) (p:=6) rfl ?_);refine store_event (t:=32) (p:=6) (v:=?vo_w64) (w1:=((Ia.setCell ⟨Af,0,none⟩ (.int .i64 Bd)).setCell ⟨Af,1,none⟩ (.slice Bs Bc.length Bt))) ?hg ?ho ?hn ?hr ?_;(case ho=>rfl);(case hg=>rfl);(case hn=>rfl);(case hr=>(first|(obtain⟨_,_,eo_⟩:=Kd.R_slice Ae.out;subst eo_)|(obtain⟨_,_,eo_⟩:=Kd.S_slice Ae.out;subst eo_)|(obtain⟨_,_,eo_⟩:=Kd.N_slice Ae.out;subst eo_)|skip);first|(go_simp;done)|(go_simp;rfl));intro Cl hw;have n0_:y0 (Kd.N k36 36 Cl w.heap.size (fun k_=>(w.heap.size≤k_)∧k_≠Av∧k_≠Aw∧k_≠Ag∧k_≠Af) (.slice Bs Bc.length Bt) Bc):=⟨(by rw [hw];exact(qN (Kd.N_mono (Kd.N_far (p:=⟨Af,1,none⟩) (Kd.N_far (p:=⟨Af,0,none⟩) (Kd.N_mono Ae.out (fun k_ hk=>(⟨hk,hk.2⟩:_∧k_≠Af))) (fun _ hk=>hk.2) (.int .i64 Bd)) (fun _ hk=>hk.2) (.slice Bs Bc.length Bt)) (fun _ hk=>⟨hk.1.1.1,⟨hk.1.1.2.1,⟨hk.1.1.2.2.1,⟨hk.1.1.2.2.2,hk.1.2⟩⟩⟩⟩))))⟩;have n1_:y0 (Cl.heap[Av]?=some (.cells #[.int .i64 Ah,.slice Be Ak.length Bf] 32 (0,0))):=⟨(by rw [hw];exact(by(with_reducible repeat(first|refine y13 ?_ _|refine y12 ?_|refine y9 ?_ _));refine y14 ?_ Am.out _;(with_reducible repeat(first|refine y13 ?_ _|refine y12 ?_|refine y9 ?_ _));refine y14 ?_ Am.out _;(with_reducible repeat(first|refine y13 ?_ _|refine y12 ?_|refine y9 ?_ _));exact Aa.out))⟩;have n2_:y0 (Cl.heap[Aw]?=some (.cells #[.slice Bj Aj.length Bk] 36 (0,0))):=⟨(by rw [hw];exact(by(with_reducible repeat(first|refine y13 ?_ _|refine y12 ?_|refine y9 ?_ _));refine y14 ?_ Ap.out _;(with_reducible repeat(first|refine y13 ?_ _|refine y12 ?_|refine y9 ?_ _));refine y14 ?_ Ap.out _;(with_reducible repeat(first|refine y13 ?_ _|refine y12 ?_|refine y9 ?_ _));exact Ac.out))⟩;have n3_:y0 (Cl.heap[Ag]?=some (.cells #[.int .i64 0,.slice none 0 0] 32 (0,0))):=⟨(by rw [hw];exact(by(with_reducible repeat(first|refine y13 ?_ _|refine y12 ?_|refine y9 ?_ _));refine y14 ?_ Ai.out _;(with_reducible repeat(first|refine y13 ?_ _|refine y12 ?_|refine y9 ?_ _));refine y14 ?_ Ai.out _;(with_reducible repeat(first|refine y13 ?_ _|refine y12 ?_|refine y9 ?_ _));exact Ad.out))⟩;have n4_:y0 (Cl.heap[Af]?=some (.cells #[.int .i64 Bd,.slice Bs Bc.length Bt] 32 (0,0))):=⟨(by rw [hw];exact(by(with_reducible repeat(first|refine y13 ?_ _|refine y12 ?_|refine y9 ?_ _));refine y16 (cs:=#[.int .i64 Bd,.slice none 0 0]) ?_ 1 _ rfl;(with_reducible repeat(first|refine y13 ?_ _|refine y12 ?_|refine y9 ?_ _));refine y16 (cs:=#[.int .i64 0,.slice none 0 0]) ?_ 0 _ rfl;(with_reducible repeat(first|refine y13 ?_ _|refine y12 ?_|refine y9 ?_ _));exact Al.out))⟩;have n5_:y0 (Below w.heap.size w Cl):=⟨(by rw [hw];exact qb)⟩;clear hw;clear Ae;clear Aa;clear Ac;clear Ad;clear Al;clear HB;have Ae:=n0_;have Aa:=n1_;have Ac:=n2_;have Ad:=n3_;have Al:=n4_;have HB:=n5_;clear n0_ n1_ n2_ n3_ n4_ n5_;obtain⟨Ew,Ex,Ey,Ez⟩:=qz2 Al.out;have Hr:=Ba.out;have Hs:=Bb.out;obtain⟨Fa,Fb⟩:=qz1 Ac.out)|((with_reducible refine y19 (f:=37) rfl ?_);refine y22 (some 32) rfl rfl Tryz.func37 (by kernel_rfl) rfl #[.slice Bs Bc.length Bt,.agg #[.slice Bj Aj.length Bk]] rfl qy0 ?_;(with_reducible refine(spec_l02Put.calls (b:=w.heap.size) Cm (fun k_=>((w.heap.size≤k_)∧(k_≠Av∧(k_≠Aw∧(k_≠Ag∧k_≠Af))))) _ _ Bc _ _ Aj Bl Cg _ ?side1 ?sideb ?side2 ?side3 Gu.out).mono ?_);(case side1=>exact Ae.out);(case sideb=>exact(y7 qb));(case side2=>repeat(first|exact(Kd.C_below Bu.out HB.out)|(with_reducible refine Kd.C_alloc ?_ _)|(with_reducible refine Kd.C_drewN ?_ _)|(with_reducible refine Kd.C_drew ?_)));(case side3=>exact Bv.out);rintro e Ik ⟨Fo,rfl,Bz,hb⟩;refine⟨_,rfl, ?_⟩;replace Ae:=y0.mk (Kd.N_below (qN Ae.out) hb);have Bp:=y0.mk (Kd.N_lower (Kd.N_mono (ok':=fun k_=>(w.heap.size≤k_)∧k_≠Av∧k_≠Aw∧k_≠Ag∧k_≠Af) Bz (fun k_ hk_=>⟨Or.elim hk_ (fun hs_=>hs_.1) (fun hn_=>(Nat.le_trans (y7 qb) hn_)),Or.elim hk_ (fun hs_=>hs_.2.1) (fun hn_=>(Kd.freshB (g:=Av) (o:=.cells #[.int .i64 Ah,.slice Be Ak.length Bf] 32 (0,0)) (qk Aa.out) k_ hn_)),Or.elim hk_ (fun hs_=>hs_.2.2.1) (fun hn_=>(Kd.freshB (g:=Aw) (o:=.cells #[.slice Bj Aj.length Bk] 36 (0,0)) (qk Ac.out) k_ hn_)),Or.elim hk_ (fun hs_=>hs_.2.2.2.1) (fun hn_=>(Kd.freshB (g:=Ag) (o:=.cells #[.int .i64 0,.slice none 0 0] 32 (0,0)) (qk Ad.out) k_ hn_)),Or.elim hk_ (fun hs_=>hs_.2.2.2.2) (fun hn_=>(Kd.freshB (g:=Af) (o:=.cells #[.int .i64 Bd,.slice Bs Bc.length Bt] 32 (0,0)) (qk Al.out) k_ hn_))⟩)) (Nat.le_refl _));replace Aa:=y0.mk (qK Aa.out hb);replace Ac:=y0.mk (qK Ac.out hb);replace Ad:=y0.mk (qK Ad.out hb);replace Al:=y0.mk (qK Al.out hb);replace HB:=y0.mk (y8 qb hb);(try clear hb);(try clear Bz);obtain⟨Ch,Ci,Fr⟩:=Kd.N_slice Bp.out;subst Fr;obtain⟨Fc,Fd,Fe,Ff⟩:=qz2 Al.out;obtain⟨Fg,Fh,Fi,Fj⟩:=qz2 Ad.out))
     refine bodyPost_ret (results_ct rfl _ _ Ag 32 #[.int .i64 Bd,.slice Ch Bl.length Ci] (0,0) _ rfl (by(with_reducible repeat(first|refine y13 ?_ _|refine y12 ?_|refine y9 ?_ _));refine y16 (cs:=#[.int .i64 Bd,.slice none 0 0]) ?_ 1 _ rfl;(with_reducible repeat(first|refine y13 ?_ _|refine y12 ?_|refine y9 ?_ _));refine y16 (cs:=#[.int .i64 0,.slice none 0 0]) ?_ 0 _ rfl;(with_reducible repeat(first|refine y13 ?_ _|refine y12 ?_|refine y9 ?_ _));refine y14 ?_ Ai.out _;(with_reducible repeat(first|refine y13 ?_ _|refine y12 ?_|refine y9 ?_ _));exact Ad.out) Tryz.underlying32 rfl (by kernel_rfl)) rfl ?_
     exact⟨_,by first|rfl|(simp [y17,y18] <;> rfl)|(simp [*,y17,y18] <;> rfl),by(with_reducible repeat(first|apply Kd.N_alloc|apply Kd.N_drewN|apply Kd.N_drew));exact Kd.N_mono (Kd.N_far (p:=⟨Ag,1,none⟩) (Kd.N_far (p:=⟨Ag,0,none⟩) (Kd.N_far (p:=⟨Af,1,none⟩) (Kd.N_mono (Kd.N_mono Bp.out (fun k_ hk=>(⟨hk,hk.2.2.2.2⟩:_∧k_≠Af))) (fun k_ hk=>(⟨hk,hk.1.2.2.2.1⟩:_∧k_≠Ag))) (fun _ hk=>hk.1.2) (.slice Ch Bl.length Ci)) (fun _ hk=>hk.2) (.int .i64 Bd)) (fun _ hk=>hk.2) (.slice Ch Bl.length Ci)) (fun _ hk=>hk.1.1.1),qb⟩
def impl_in.f (a0:Int) (a1:Int) (a2:Int):Option (Bool):=if a0≥a1 then(some (decide (a0≤a2)))else(some false)
set_option maxHeartbeats 8000000 in
set_option maxRecDepth 100000 in
theorem impl_in.calls (a0:Int) (a1:Int) (a2:Int) (r:Bool) (w:World) (h:impl_in.f a0 a1 a2=some r) :
  Calls Tryz.prog 69 #[.int .i64 a0,.int .i64 a1,.int .i64 a2] w fun e w'=>e=.returned (.bool r)∧y1 w w':=by
 have H:(if a0≥a1 then(some (decide (a0≤a2)))else(some false))=some r:=h
 clear h
 by_cases c4:a0≥a1
 ·rw [if_pos c4]at H
  have c4b0:decide (a1≤a0)=true:=decide_eq_true c4
  clear c4
  obtain rfl:=Option.some.inj H
  go_enter Tryz.func69,Tryz.ntmps69
  go_wp2
  go_ret
  exact qf2
 ·rw [if_neg c4]at H
  have c4b0:decide (a1≤a0)=false:=decide_eq_false c4
  clear c4
  obtain rfl:=Option.some.inj H
  go_enter Tryz.func69,Tryz.ntmps69
  go_wp2
  go_ret
  exact qf2
mutual
def impl_symbolLong.l0:Nat→ByteArray→Int→Option (Int)
 | 0,_,_=>none
 | k + 1,x0,x3=>if x3 < (x0.size:Int)then(impl_symbolLong.j1 k x0 x3 (decide (x3≤21)))else(impl_symbolLong.j1 k x0 x3 false)
def impl_symbolLong.j1:Nat→ByteArray→Int→Bool→Option (Int)
 | 0,_,_,_=>none
 | k + 1,x0,x3,x11=>if x11=true then(if 0≤x3 then(if x3 < (x0.size:Int)then(if(bt x0 x3)=34 then(some (wrap64 (x3 + 1)))else(if(bt x0 x3) < 32 then(some 0)else(if(bt x0 x3) > 126 then(some 0)else(if(bt x0 x3)=92 then(some 0)else(impl_symbolLong.l0 k x0 (wrap64 (x3 + 1)))))))else(none))else(none))else(some 0)
end
def impl_symbolLong.f (k:Nat) (a0:ByteArray):Option (Int):=impl_symbolLong.l0 k a0 1
set_option maxHeartbeats 8000000 in
set_option maxRecDepth 100000 in
theorem impl_symbolLong.calls (k:Nat) (a0:ByteArray) (r:Int) (w:World) (h:impl_symbolLong.f k a0=some r) :
  Calls Tryz.prog 118 #[.string a0] w fun e w'=>e=.returned (.int .i64 r)∧y1 w w':=by
 have H:(impl_symbolLong.l0 k a0 1)=some r:=h
 clear h
 have H':=y0.mk H
 clear H
 go_enter Tryz.func118,Tryz.ntmps118
 go_wp2
 go_loopg [3] k (fun kq v3 w'=>∃(Aa:Int),v3=.int .i64 Aa∧y0 (impl_symbolLong.l0 kq a0 Aa=some r)∧y0 (kq≤k)∧y1 w w')
 case atStart=>exact⟨(1),qy2,H',⟨Nat.le_refl _⟩,by repeat(first|exact y1.refl _|apply y1.step)⟩
 case round =>
  clear H'
  obtain⟨Aa,rfl,HA,Al,⟨m1,rfl⟩⟩:=hrel
  cases gk with
  | zero=>exact absurd HA.out (by simp [impl_symbolLong.l0])
  | succ k1 =>
   have H:=HA.out
   clear HA
   simp only [impl_symbolLong.l0]at H
   have Am:=y0.mk H
   clear H
   go_upto_region 2 with(fail)
   go_cut [11] (fun Ba wc=>∃(kq:Nat) (Ac:Bool),Ba=.bool Ac∧y0 (impl_symbolLong.j1 kq a0 Aa Ac=some r)∧y0 (kq≤k1)∧y1 w wc)
   case first =>
    have H:=Am.out
    clear Am
    by_cases c3:Aa < (a0.size:Int)
    ·rw [if_pos c3]at H
     have Ad:=decide_eq_true c3
     clear c3
     (first|rw [Ad]|(simp only [i64_w,i32_w];rw [Ad])|skip)
     have H':=y0.mk H
     clear H
     go_wp2
     go_meet
     exact⟨_,(decide (Aa≤21)),qy2,H',⟨by have:=Al.out;first|omega|exact Nat.le_refl _⟩,by repeat(first|exact y1.refl _|apply y1.step)⟩
    ·rw [if_neg c3]at H
     have Ad:=decide_eq_false c3
     clear c3
     (first|rw [Ad]|(simp only [i64_w,i32_w];rw [Ad])|skip)
     have H':=y0.mk H
     clear H
     go_wp2
     go_meet
     exact⟨_,(false),qy2,H',⟨by have:=Al.out;first|omega|exact Nat.le_refl _⟩,by repeat(first|exact y1.refl _|apply y1.step)⟩
   case rest =>
    clear Am
    obtain⟨kq,Ac,rfl,HA,Au,⟨Bh,rfl⟩⟩:=hcut
    cases kq with
    | zero=>exact absurd HA.out (by simp [impl_symbolLong.j1])
    | succ Bb =>
     have H:=HA.out
     clear HA
     simp only [impl_symbolLong.j1]at H
     by_cases c4:Ac=true
     ·subst c4
      replace H:=qT H
      obtain⟨c5,H⟩:=qo H
      have Bc:decide (0≤Aa)=true:=decide_eq_true c5
      clear c5
      obtain⟨c6,H⟩:=qo H
      have Bd:decide (Aa < (a0.size:Int))=true:=decide_eq_true c6
      clear c6
      by_cases c8:(bt a0 Aa)=34
      ·rw [if_pos c8]at H
       have Ap:((bt a0 Aa) == 34)=true:=beq_iff_eq.mpr c8
       have Aq:((bt a0 Aa) != 34)=false:=bne_eq_false_iff_eq.mpr c8
       clear c8
       obtain rfl:=Option.some.inj H
       have p7:0≤(Aa:Int):=of_decide_eq_true qy1
       have q7:Aa < (a0.size:Int):=of_decide_eq_true qy1
       have Be:=bt_at a0 Aa
       replace p7:=eq_true p7
       replace q7:=eq_true q7
       go_wp2
       go_ret
       exact qf2
      ·rw [if_neg c8]at H
       have Ap:((bt a0 Aa) == 34)=false:=beq_eq_false_iff_ne.mpr c8
       have Aq:((bt a0 Aa) != 34)=true:=bne_iff_ne.mpr c8
       have p7:0≤(Aa:Int):=of_decide_eq_true qy1
       have q7:Aa < (a0.size:Int):=of_decide_eq_true qy1
       have Be:=bt_at a0 Aa
       replace p7:=eq_true p7
       replace q7:=eq_true q7
       have p9:0≤(Aa:Int):=of_decide_eq_true qy1
       have q9:Aa < (a0.size:Int):=of_decide_eq_true qy1
       have Bi:=bt_at a0 Aa
       replace p9:=eq_true p9
       replace q9:=eq_true q9
       by_cases Af:(bt a0 Aa) < 32
       ·rw [if_pos Af]at H
        have Ah:=decide_eq_true Af
        clear Af
        obtain rfl:=Option.some.inj H
        go_wp2
        go_ret
        exact qf2
       ·rw [if_neg Af]at H
        have Ah:=decide_eq_false Af
        clear Af
        have Av:0≤(Aa:Int):=of_decide_eq_true qy1
        have Aw:Aa < (a0.size:Int):=of_decide_eq_true qy1
        have Bf:=bt_at a0 Aa
        replace Av:=eq_true Av
        replace Aw:=eq_true Aw
        by_cases Ag:(bt a0 Aa) > 126
        ·rw [if_pos Ag]at H
         have Ai:decide (126 < (bt a0 Aa))=true:=decide_eq_true Ag
         clear Ag
         obtain rfl:=Option.some.inj H
         go_wp2
         go_ret
         exact qf2
        ·rw [if_neg Ag]at H
         have Ai:decide (126 < (bt a0 Aa))=false:=decide_eq_false Ag
         clear Ag
         have Ay:0≤(Aa:Int):=of_decide_eq_true qy1
         have Az:Aa < (a0.size:Int):=of_decide_eq_true qy1
         have Bg:=bt_at a0 Aa
         replace Ay:=eq_true Ay
         replace Az:=eq_true Az
         by_cases Ae:(bt a0 Aa)=92
         ·rw [if_pos Ae]at H
          have Aj:((bt a0 Aa) == 92)=true:=beq_iff_eq.mpr Ae
          have Ak:((bt a0 Aa) != 92)=false:=bne_eq_false_iff_eq.mpr Ae
          clear Ae
          obtain rfl:=Option.some.inj H
          go_wp2
          go_ret
          exact qf2
         ·rw [if_neg Ae]at H
          have Aj:((bt a0 Aa) == 92)=false:=beq_eq_false_iff_ne.mpr Ae
          have Ak:((bt a0 Aa) != 92)=true:=bne_iff_ne.mpr Ae
          have H':=y0.mk H
          clear H
          go_wp2
          go_roundg Bb
          case measure=>have:=Al.out;have:=Au.out;omega
          exact⟨(wrap64 (Aa + 1)),qy2,H',⟨by have:=Al.out;have:=Au.out;omega⟩,by repeat(first|exact y1.refl _|apply y1.step)⟩
     ·replace c4:=Bool.eq_false_iff.mpr c4
      subst c4
      replace H:=qF H
      obtain rfl:=Option.some.inj H
      go_wp2
      go_ret
      exact qf2
def impl_isDigit.f (a0:Int):Option (Bool):=if a0≥48 then(some (decide (a0≤57)))else(some false)
set_option maxHeartbeats 8000000 in
set_option maxRecDepth 100000 in
theorem impl_isDigit.calls (a0:Int) (r:Bool) (w:World) (h:impl_isDigit.f a0=some r) :
  Calls Tryz.prog 119 #[.int .u8 a0] w fun e w'=>e=.returned (.bool r)∧y1 w w':=by
 have H:(if a0≥48 then(some (decide (a0≤57)))else(some false))=some r:=h
 clear h
 by_cases c2:a0≥48
 ·rw [if_pos c2]at H
  have c2b0:decide (48≤a0)=true:=decide_eq_true c2
  clear c2
  obtain rfl:=Option.some.inj H
  go_enter Tryz.func119,Tryz.ntmps119
  go_wp2
  go_ret
  exact qf2
 ·rw [if_neg c2]at H
  have c2b0:decide (48≤a0)=false:=decide_eq_false c2
  clear c2
  obtain rfl:=Option.some.inj H
  go_enter Tryz.func119,Tryz.ntmps119
  go_wp2
  go_ret
  exact qf2
def ErrIs:Option Int→Value→Prop
 | none,ev=>ev=.nilIface
 | some _,ev=>∃ te pe,ev=.iface te pe
theorem errIs_none {ev:Value} (h:ErrIs none ev):ev=.nilIface:=h
theorem errIs_some {q:Int} {ev:Value} (h:ErrIs (some q) ev):∃ te pe,ev=.iface te pe:=h
/-- strconv.Atoi: the number, and whether there is an error. -/
def strconv_Atoi.f (a0:ByteArray):Option (Int×Option Int) :=
 if a0.size≤281474976710656 then(match Lib.atoiAll a0.data.toList with
  | .ok v=>some (v,none)
  | .range=>some (Lib.atoiSat a0.data.toList,some 1)
  | _=>some (0,some 0))else none
theorem strconv_Atoi.calls (a0:ByteArray) (r1:Int) (r2:Option Int) (w:World) (hT:Tb w) (h:strconv_Atoi.f a0=some (r1,r2)) :
  Calls Tryz.prog 120 #[.string a0] w fun e w'=>∃ ev,e=.returned (.tuple #[.int .i64 r1,ev])∧ErrIs r2 ev∧Below w.heap.size w w':=by
 unfold strconv_Atoi.f at h
 by_cases h0:a0.size≤281474976710656
 ·rw [if_pos h0]at h
  rcases hn:Lib.atoiAll a0.data.toList with v|_|_
  ·
   simp only [hn,Option.some.injEq,Prod.mk.injEq]at h
   obtain⟨rfl,rfl⟩:=h
   refine(Tryz.strconv_Atoi_ok a0 (by omega) v hn w).mono ?_
   rintro e w' ⟨rfl,hw⟩
   refine⟨_,rfl,rfl, ?_⟩
   rcases hw with rfl|⟨t,rfl⟩
   ·exact Below.refl _ _
   ·exact bytes_below (Below.refl _ _) (Nat.le_refl _) _ _
  ·
   simp only [hn,Option.some.injEq,Prod.mk.injEq]at h
   obtain⟨rfl,rfl⟩:=h
   obtain⟨ev,h1,h2⟩:=hT.es
   refine(Tryz.strconv_Atoi_syntax a0 h0 hn ev w h1 h2).mono ?_
   rintro e w' ⟨n,rfl,_,_,hb⟩
   exact⟨_,rfl,⟨_,_,rfl⟩,hb⟩
  ·
   simp only [hn,Option.some.injEq,Prod.mk.injEq]at h
   obtain⟨rfl,rfl⟩:=h
   obtain⟨ev,h1,h2⟩:=hT.er
   refine(Tryz.strconv_Atoi_range a0 h0 hn ev w h1 h2).mono ?_
   rintro e w' ⟨n,rfl,_,_,hb⟩
   exact⟨_,rfl,⟨_,_,rfl⟩,hb⟩
 ·rw [if_neg h0]at h
  cases h
def strconv_Itoa.f (a0:Int):Option ByteArray:=if -9223372036854775808≤a0 then if a0≤9223372036854775807 then some ⟨(Lib.itoa a0).toArray⟩else none else none
theorem strconv_Itoa.calls (a0:Int) (r:ByteArray) (w:World) (hT:Tb w) (h:strconv_Itoa.f a0=some r) :
  Calls Tryz.prog 121 #[.int .i64 a0] w fun e w'=>e=.returned (.string r)∧Below w.heap.size w w':=by
 unfold strconv_Itoa.f at h
 by_cases h0:-9223372036854775808≤a0
 ·by_cases h1:a0≤9223372036854775807
  ·rw [if_pos h0,if_pos h1]at h
   obtain rfl:=Option.some.inj h
   refine(Tryz.strconv_Itoa a0 h0 h1 w hT.pow).mono ?_
   rintro e w' ⟨rfl,k,os,rfl⟩
   exact⟨rfl,QRead.below_grow_drewN w k os⟩
  ·rw [if_pos h0,if_neg h1]at h
   cases h
 ·rw [if_neg h0]at h
  cases h
end Go.Proofs.YtkajecadkkgfmaaGreatDoor.Pn
end
section
namespace Go.Proofs.YtkajecadkkgfmaaGreatDoor.Pn
open Go.RowKit Go.Proofs.YtkajecadkkgfmaaGreatDoorW.PrintWords Go.Proofs.YtkajecadkkgfmaaGreatDoorW.PrintLast Go.Proofs.YtkajecadkkgfmaaGreatDoorW.PrintMore
attribute [local go_sem] max2_int min2_int max_two min_two max_three min_three max_four min_four   -- for this text's walks alone
set_option linter.unusedVariables false
set_option linter.unusedSimpArgs false
def impl_isLetter.f (a0:Int):Option (Bool):=if a0≥97 then(if a0≤122 then(some true)else(if a0≥65 then(some (decide (a0≤90)))else(some false)))else(if a0≥65 then(some (decide (a0≤90)))else(some false))
set_option maxHeartbeats 8000000 in
set_option maxRecDepth 100000 in
theorem impl_isLetter.calls (a0:Int) (r:Bool) (w:World) (h:impl_isLetter.f a0=some r) :
  Calls Tryz.prog 137 #[.int .u8 a0] w fun e w'=>e=.returned (.bool r)∧y1 w w':=by
 have H:(if a0≥97 then(if a0≤122 then(some true)else(if a0≥65 then(some (decide (a0≤90)))else(some false)))else(if a0≥65 then(some (decide (a0≤90)))else(some false)))=some r:=h
 clear h
 by_cases c2:a0≥97
 ·rw [if_pos c2]at H
  have Aa:decide (97≤a0)=true:=decide_eq_true c2
  clear c2
  by_cases c3:a0≤122
  ·rw [if_pos c3]at H
   have Ac:=decide_eq_true c3
   clear c3
   obtain rfl:=Option.some.inj H
   go_enter Tryz.func137,Tryz.ntmps137
   go_wp2
   go_ret
   exact qf2
  ·rw [if_neg c3]at H
   have Ac:=decide_eq_false c3
   clear c3
   by_cases c4:a0≥65
   ·rw [if_pos c4]at H
    have Ad:decide (65≤a0)=true:=decide_eq_true c4
    clear c4
    obtain rfl:=Option.some.inj H
    go_enter Tryz.func137,Tryz.ntmps137
    go_wp2
    go_ret
    exact qf2
   ·rw [if_neg c4]at H
    have Ad:decide (65≤a0)=false:=decide_eq_false c4
    clear c4
    obtain rfl:=Option.some.inj H
    go_enter Tryz.func137,Tryz.ntmps137
    go_wp2
    go_ret
    exact qf2
 ·rw [if_neg c2]at H
  have Aa:decide (97≤a0)=false:=decide_eq_false c2
  clear c2
  by_cases c5:a0≥65
  ·rw [if_pos c5]at H
   have Ae:decide (65≤a0)=true:=decide_eq_true c5
   clear c5
   obtain rfl:=Option.some.inj H
   go_enter Tryz.func137,Tryz.ntmps137
   go_wp2
   go_ret
   exact qf2
  ·rw [if_neg c5]at H
   have Ae:decide (65≤a0)=false:=decide_eq_false c5
   clear c5
   obtain rfl:=Option.some.inj H
   go_enter Tryz.func137,Tryz.ntmps137
   go_wp2
   go_ret
   exact qf2
def impl_isWordByte.f (a0:Int):Option (Bool):=(impl_isLetter.f a0).bind fun t277=>(if t277=true then(some true)else((impl_isDigit.f a0).bind fun t278=>(if t278=true then(some true)else(some (a0 == 95)))))
set_option maxHeartbeats 8000000 in
set_option maxRecDepth 100000 in
theorem impl_isWordByte.calls (a0:Int) (r:Bool) (w:World) (h:impl_isWordByte.f a0=some r) :
  Calls Tryz.prog 136 #[.int .u8 a0] w fun e w'=>e=.returned (.bool r)∧y1 w w':=by
 have H:((impl_isLetter.f a0).bind fun Aa=>(if Aa=true then(some true)else((impl_isDigit.f a0).bind fun Ac=>(if Ac=true then(some true)else(some (a0 == 95))))))=some r:=h
 clear h
 obtain⟨Aa,A2,H⟩:=qB H
 by_cases c3:Aa=true
 ·subst c3
  replace H:=qT H
  obtain rfl:=Option.some.inj H
  go_enter Tryz.func136,Tryz.ntmps136
  go_wp2_with (first|((with_reducible refine y19 (f:=137) rfl ?_);refine y22 (some 4) rfl rfl Tryz.func137 (by kernel_rfl) rfl #[.int .u8 a0] rfl qy0 ?_;(with_reducible refine(impl_isLetter.calls a0 true _ A2.out).mono ?_);rintro e w' ⟨rfl,⟨nd,rfl⟩⟩;refine⟨_,rfl, ?_⟩))
  go_ret
  exact qf2
 ·replace c3:=Bool.eq_false_iff.mpr c3
  subst c3
  replace H:=qF H
  obtain⟨Ac,A4,H⟩:=qB H
  by_cases c5:Ac=true
  ·subst c5
   replace H:=qT H
   obtain rfl:=Option.some.inj H
   go_enter Tryz.func136,Tryz.ntmps136
   go_wp2_with (first|((with_reducible refine y19 (f:=137) rfl ?_);refine y22 (some 4) rfl rfl Tryz.func137 (by kernel_rfl) rfl #[.int .u8 a0] rfl qy0 ?_;(with_reducible refine(impl_isLetter.calls a0 false _ A2.out).mono ?_);rintro e w' ⟨rfl,⟨nd,rfl⟩⟩;refine⟨_,rfl, ?_⟩)|(go_at_call 119;(with_reducible refine(impl_isDigit.calls a0 true _ A4.out).mono ?_);rintro e w' ⟨rfl,⟨nd,rfl⟩⟩))
   go_ret
   exact qf2
  ·replace c5:=Bool.eq_false_iff.mpr c5
   subst c5
   replace H:=qF H
   obtain rfl:=Option.some.inj H
   go_enter Tryz.func136,Tryz.ntmps136
   go_wp2_with (first|((with_reducible refine y19 (f:=137) rfl ?_);refine y22 (some 4) rfl rfl Tryz.func137 (by kernel_rfl) rfl #[.int .u8 a0] rfl qy0 ?_;(with_reducible refine(impl_isLetter.calls a0 false _ A2.out).mono ?_);rintro e w' ⟨rfl,⟨nd,rfl⟩⟩;refine⟨_,rfl, ?_⟩)|(go_at_call 119;(with_reducible refine(impl_isDigit.calls a0 false _ A4.out).mono ?_);rintro e w' ⟨rfl,⟨nd,rfl⟩⟩))
   go_ret
   exact qf2
def impl_nameLong.l0:Nat→ByteArray→Int→Option (Int)
 | 0,_,_=>none
 | k + 1,x0,x3=>if x3 < (x0.size:Int)then(if 0≤x3 then((impl_isWordByte.f (bt x0 x3)).bind fun t279=>(if t279=true then(if x3 > 0 then(impl_nameLong.l0 k x0 (wrap64 (x3 + 1)))else(if 0 < (x0.size:Int)then((impl_isLetter.f (bt x0 0)).bind fun t280=>(if t280=true then(impl_nameLong.l0 k x0 (wrap64 (x3 + 1)))else(some x3)))else(none)))else(some x3)))else(none))else(some x3)
def impl_nameLong.f (k:Nat) (a0:ByteArray):Option (Int):=impl_nameLong.l0 k a0 0
set_option maxHeartbeats 8000000 in
set_option maxRecDepth 100000 in
theorem impl_nameLong.calls (k:Nat) (a0:ByteArray) (r:Int) (w:World) (h:impl_nameLong.f k a0=some r) :
  Calls Tryz.prog 122 #[.string a0] w fun e w'=>e=.returned (.int .i64 r)∧y1 w w':=by
 have H:(impl_nameLong.l0 k a0 0)=some r:=h
 clear h
 have H':=y0.mk H
 clear H
 go_enter Tryz.func122,Tryz.ntmps122
 go_wp2
 go_loopg [3] k (fun kq v3 w'=>∃(Aa:Int),v3=.int .i64 Aa∧y0 (impl_nameLong.l0 kq a0 Aa=some r)∧y0 (kq≤k)∧y1 w w')
 case atStart=>exact⟨(0),qy2,H',⟨Nat.le_refl _⟩,by repeat(first|exact y1.refl _|apply y1.step)⟩
 case round =>
  clear H'
  obtain⟨Aa,rfl,HA,Ac,⟨m1,rfl⟩⟩:=hrel
  cases gk with
  | zero=>exact absurd HA.out (by simp [impl_nameLong.l0])
  | succ k1 =>
   have H:=HA.out
   clear HA
   simp only [impl_nameLong.l0]at H
   by_cases c2:Aa < (a0.size:Int)
   ·rw [if_pos c2]at H
    have Ae:=decide_eq_true c2
    clear c2
    obtain⟨c3,H⟩:=qo H
    have Ak:decide (0≤Aa)=true:=decide_eq_true c3
    clear c3
    obtain⟨Af,A5,H⟩:=qB H
    by_cases c6:Af=true
    ·subst c6
     replace H:=qT H
     by_cases c7:Aa > 0
     ·rw [if_pos c7]at H
      have Ag:decide (0 < Aa)=true:=decide_eq_true c7
      clear c7
      have H':=y0.mk H
      clear H
      have p4:0≤(Aa:Int):=of_decide_eq_true qy1
      have q4:Aa < (a0.size:Int):=of_decide_eq_true qy1
      have Ah:=bt_at a0 Aa
      replace p4:=eq_true p4
      replace q4:=eq_true q4
      go_wp2_with (first|(go_at_call 136;(with_reducible refine(impl_isWordByte.calls (bt a0 Aa) true _ A5.out).mono ?_);rintro e w' ⟨rfl,⟨nd,rfl⟩⟩))
      go_roundg k1
      case measure=>have:=Ac.out;omega
      exact⟨(wrap64 (Aa + 1)),qy2,H',⟨by have:=Ac.out;omega⟩,by repeat(first|exact y1.refl _|apply y1.step)⟩
     ·rw [if_neg c7]at H
      have Ag:decide (0 < Aa)=false:=decide_eq_false c7
      clear c7
      obtain⟨c8,H⟩:=qo H
      have Al:decide (0 < (a0.size:Int))=true:=decide_eq_true c8
      have Am:decide (0 < a0.size)=true:=decide_eq_true (by omega)
      clear c8
      obtain⟨Ai,Aj,H⟩:=qB H
      by_cases Ad:Ai=true
      ·subst Ad
       replace H:=qT H
       have H':=y0.mk H
       clear H
       have p4:0≤(Aa:Int):=of_decide_eq_true qy1
       have q4:Aa < (a0.size:Int):=of_decide_eq_true qy1
       have Ah:=bt_at a0 Aa
       replace p4:=eq_true p4
       replace q4:=eq_true q4
       go_wp2_with (first|(go_at_call 136;(with_reducible refine(impl_isWordByte.calls (bt a0 Aa) true _ A5.out).mono ?_);rintro e w' ⟨rfl,⟨nd,rfl⟩⟩;have p9:0≤(0:Int):=(by omega);have q9:0 < a0.size:=qy3;have Ap:∀ h:0 < a0.size,((a0[0]'h).toNat:Int)=bt a0 0:=bt_at a0 0;clear p9;have Aq:(0 < (a0.size:Int))=True:=eq_true (of_decide_eq_true qy1);replace q9:=eq_true q9)|(go_at_call 137;(with_reducible refine(impl_isLetter.calls (bt a0 0) true _ Aj.out).mono ?_);rintro e w' ⟨rfl,⟨nd,rfl⟩⟩))
       go_roundg k1
       case measure=>have:=Ac.out;omega
       exact⟨(wrap64 (Aa + 1)),qy2,H',⟨by have:=Ac.out;omega⟩,by repeat(first|exact y1.refl _|apply y1.step)⟩
      ·replace Ad:=Bool.eq_false_iff.mpr Ad
       subst Ad
       replace H:=qF H
       obtain rfl:=Option.some.inj H
       have p4:0≤(Aa:Int):=of_decide_eq_true qy1
       have q4:Aa < (a0.size:Int):=of_decide_eq_true qy1
       have Ah:=bt_at a0 Aa
       replace p4:=eq_true p4
       replace q4:=eq_true q4
       go_wp2_with (first|(go_at_call 136;(with_reducible refine(impl_isWordByte.calls (bt a0 Aa) true _ A5.out).mono ?_);rintro e w' ⟨rfl,⟨nd,rfl⟩⟩;have p9:0≤(0:Int):=(by omega);have q9:0 < a0.size:=qy3;have Ap:∀ h:0 < a0.size,((a0[0]'h).toNat:Int)=bt a0 0:=bt_at a0 0;clear p9;have Aq:(0 < (a0.size:Int))=True:=eq_true (of_decide_eq_true qy1);replace q9:=eq_true q9)|(go_at_call 137;(with_reducible refine(impl_isLetter.calls (bt a0 0) false _ Aj.out).mono ?_);rintro e w' ⟨rfl,⟨nd,rfl⟩⟩))
       go_ret
       exact qf2
    ·replace c6:=Bool.eq_false_iff.mpr c6
     subst c6
     replace H:=qF H
     obtain rfl:=Option.some.inj H
     have p4:0≤(Aa:Int):=of_decide_eq_true qy1
     have q4:Aa < (a0.size:Int):=of_decide_eq_true qy1
     have Ah:=bt_at a0 Aa
     replace p4:=eq_true p4
     replace q4:=eq_true q4
     go_wp2_with (first|(go_at_call 136;(with_reducible refine(impl_isWordByte.calls (bt a0 Aa) false _ A5.out).mono ?_);rintro e w' ⟨rfl,⟨nd,rfl⟩⟩))
     go_ret
     exact qf2
   ·rw [if_neg c2]at H
    have Ae:=decide_eq_false c2
    clear c2
    obtain rfl:=Option.some.inj H
    go_wp2
    go_ret
    exact qf2
end Go.Proofs.YtkajecadkkgfmaaGreatDoor.Pn
end
