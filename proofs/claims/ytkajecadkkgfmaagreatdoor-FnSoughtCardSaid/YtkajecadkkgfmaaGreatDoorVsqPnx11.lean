-- Cut by prune.py, a program of this session, out of the texts of this claim: Lean checks it.
import Derived.Test.YtkajecadkkgfmaaGreatDoorVsqPnx0
import Derived.Test.YtkajecadkkgfmaaGreatDoorVsqPnx7
import Derived.Test.YtkajecadkkgfmaaGreatDoorVsqPnx9
section
namespace Go.Proofs.YtkajecadkkgfmaaGreatDoor.Pn
open Go.RowKit Go.Proofs.YtkajecadkkgfmaaGreatDoorW.PrintWords Go.Proofs.YtkajecadkkgfmaaGreatDoorW.PrintLast Go.Proofs.YtkajecadkkgfmaaGreatDoorW.PrintMore
attribute [local go_sem] max2_int min2_int max_two min_two max_three min_three max_four min_four   -- for this text's walks alone
set_option linter.unusedVariables false
set_option linter.unusedSimpArgs false
mutual
def spec_l02Put.j1:Nat→List (S36)→Int→List ByteArray→Option ((List (S36))×Bool)
 | 0,_,_,_=>none
 | k + 1,x0,x6,x264000=>if x6 < (x0.length:Int)then(if 0≤x6 then((spec_l02Cmp.f k ((y20 x0 x6).f0) x264000).bind fun t267=>(if t267=0 then(some (x0,false))else((some (([]:List (S36)):List (S36))).bind fun y268=>(if x6≤(x0.length:Int)then((some (x0.take (x6:Int).toNat:List (S36))).bind fun y271=>(if y268.length + y271.length < 5864062014805 then((some (y268 ++ y271:List (S36))).bind fun y276=>((spec_l02Tuple.f x264000).bind fun t279=>(if y276.length < 5864062014805 then((some (y276 ++ [(⟨t279⟩:S36)]:List (S36))).bind fun y282=>((some (x0.drop (x6:Int).toNat:List (S36))).bind fun y285=>(if y282.length + y285.length < 5864062014805 then(some ((y282 ++ y285),true))else(none))))else(none))))else(none)))else(none)))))else(none))else((some (([]:List (S36)):List (S36))).bind fun y293=>(if 0≤x6 then(if x6≤(x0.length:Int)then((some (x0.take (x6:Int).toNat:List (S36))).bind fun y296=>(if y293.length + y296.length < 5864062014805 then((some (y293 ++ y296:List (S36))).bind fun y301=>((spec_l02Tuple.f x264000).bind fun t304=>(if y301.length < 5864062014805 then((some (y301 ++ [(⟨t304⟩:S36)]:List (S36))).bind fun y307=>((some (x0.drop (x6:Int).toNat:List (S36))).bind fun y310=>(if y307.length + y310.length < 5864062014805 then(some ((y307 ++ y310),true))else(none))))else(none))))else(none)))else(none))else(none)))
def spec_l02Put.l0:Nat→List (S36)→Int→List ByteArray→Option ((List (S36))×Bool)
 | 0,_,_,_=>none
 | k + 1,x0,x6,x264000=>if x6 < (x0.length:Int)then(if 0≤x6 then((spec_l02Cmp.f k ((y20 x0 x6).f0) x264000).bind fun t265=>(if t265 < 0 then(spec_l02Put.l0 k x0 (wrap64 (x6 + 1)) x264000)else(spec_l02Put.j1 k x0 x6 x264000)))else(none))else(spec_l02Put.j1 k x0 x6 x264000)
end
def spec_l02Put.f (k:Nat) (l0:List (S36)) (l1_0:List ByteArray):Option ((List (S36))×Bool):=spec_l02Put.l0 k l0 0 l1_0
def spec_l02Put.T2:Bool×List (List Nat×List Nat):=(true,[([],[]),([],[]),([1],[1]),([0,2],[0,2]),([3],[3]),([4],[4]),([4],[4]),([5,6,4],[4,5,6]),([7,4],[4,7]),([4],[4]),([8,9,4,4],[4,8,9]),([10,4],[4,10]),([4,11],[4,11])])
def spec_l02Put.B2:List Nat:=[0,0,2,7,15,31,31,127,255,31,1023,2047,4095]
theorem spec_l02Put.tab2:rtab .any (opsOf Tryz.f37 2)=spec_l02Put.T2:=by kernel_rfl
theorem spec_l02Put.bits2:waitsOk spec_l02Put.T2.2 spec_l02Put.B2=true:=by kernel_rfl
def spec_l02Put.T4:Bool×List (List Nat×List Nat):=(true,[([],[]),([],[]),([1],[1]),([0,2],[0,2]),([3],[3]),([4],[4]),([4],[4]),([5,6,4],[4,5,6]),([7,4],[4,7]),([4],[4]),([8,9,4,4],[4,8,9]),([10,4],[4,10]),([4,11],[4,11])])
def spec_l02Put.B4:List Nat:=[0,0,2,7,15,31,31,127,255,31,1023,2047,4095]
theorem spec_l02Put.tab4:rtab .any (opsOf Tryz.f37 4)=spec_l02Put.T4:=by kernel_rfl
theorem spec_l02Put.bits4:waitsOk spec_l02Put.T4.2 spec_l02Put.B4=true:=by kernel_rfl
set_option maxHeartbeats 8000000 in
set_option maxRecDepth 100000 in
theorem spec_l02Put.calls (k:Nat) (P0_:Nat→Prop) (A0:Option Addr) (c0:Nat) (l0:List (S36)) (Al:Option Addr) (Am:Nat) (Ag:List ByteArray) (r1:List (S36)) (r2:Bool) (w:World) {b:Nat} (Hd:Kd.N k36 36 w b (fun k_=>P0_ k_) (.slice A0 l0.length c0) l0) (Il:b≤w.heap.size) (Dv:Kd.C Kd.string w Al Ag.length Ag) (Dw:Ag.length≤Am) (h:spec_l02Put.f k l0 Ag=some (r1,r2)) :
  Calls Tryz.prog 37 #[.slice A0 l0.length c0,.agg #[.slice Al Ag.length Am]] w fun e w'=>∃ v0_:Value,e=.returned (.tuple #[v0_,.bool r2])∧Kd.N k36 36 w' b (fun k_=>(P0_ k_∨w.heap.size≤k_)) v0_ r1∧Below w.heap.size w w':=by
 have Im:=Tryz.underlying36
 have KN:y0 (∀ W,Below w.heap.size w W→Kd.N k36 36 W b (fun k_=>(P0_ k_∨w.heap.size≤k_)) (.slice A0 l0.length c0) l0):=⟨fun W hW=>Kd.N_mono (Kd.N_below Hd hW) (fun k_ hk=>.inl hk)⟩
 have HBB:=y0.mk Il
 have Gl:=y0.mk (show Kd.V k36 36 w w.heap.size (fun k_=>(P0_ k_∨w.heap.size≤k_)) (.slice A0 l0.length c0) l0 from Kd.V_mono (Kd.N_V Hd) (fun k_ hk=>.inl hk))
 have Bn:=y0.mk Dv
 have Bo:=y0.mk Dw
 clear Dv Dw
 have HB:=y0.mk (Below.refl w.heap.size w)
 have H:(spec_l02Put.l0 k l0 0 Ag)=some (r1,r2):=h
 clear h
 have Gm:=y0.mk H
 clear H
 go_enter Tryz.func37,Tryz.ntmps37
 go_upto_block 0 with(first|((with_reducible refine y17 (N:=3) rfl ?_);refine qe 3 #[.slice Al Ag.length Am] 36 ?_;intro Ab hg w4 hbox hb;replace Gl:=y0.mk (Kd.V_below (Kd.V_elderB (qV Gl.out) Ab (Nat.le_of_eq hg.symm)) hb);have Aa:=y0.mk (hbox);have He:=y0.mk (qg (w:=w) hg);have Hf:=y0.mk (qg (w:=w) hg);replace HB:=y0.mk (y8 qb hb);clear hb hbox hg))
 (try simp only [Act.put,qS_,qZ_,qC_])
 go_cut [6] (fun v6 wc=>∃(kq:Nat) (Ac:Int),v6=.int .i64 Ac∧y0 (spec_l02Put.j1 kq l0 Ac Ag=some (r1,r2))∧y0 (kq≤k)∧y0 (Kd.V k36 36 wc w.heap.size (fun k_=>(P0_ k_∨w.heap.size≤k_)∧k_≠Ab) (.slice A0 l0.length c0) l0)∧y0 (wc.heap[Ab]?=some (.cells #[(.slice Al Ag.length Am)] 36 (0,0)))∧y0 (Below w.heap.size w wc))
 case first =>
  have H:=Gm.out
  clear Gm
  have H':=y0.mk H
  clear H
  go_wp2
  go_loopg [6] k (fun kq v6 w'=>∃(Ao:Int),v6=.int .i64 Ao∧y0 (spec_l02Put.l0 kq l0 Ao Ag=some (r1,r2))∧y0 (kq≤k)∧y0 (Kd.V k36 36 w' w.heap.size (fun k_=>(P0_ k_∨w.heap.size≤k_)∧k_≠Ab) (.slice A0 l0.length c0) l0)∧y0 (w'.heap[Ab]?=some (.cells #[(.slice Al Ag.length Am)] 36 (0,0)))∧y0 (Below w.heap.size w w'))
  case atStart=>exact⟨(0),qy2,H',⟨Nat.le_refl _⟩,⟨qV Gl.out⟩,⟨qk Aa.out⟩,⟨qb⟩⟩
  case round =>
   clear H'
   obtain⟨Ao,rfl,HA,Ge,Ad,Aa,HB⟩:=hrel
   cases gk with
   | zero=>exact absurd HA.out (by simp [spec_l02Put.l0])
   | succ k1 =>
    have H:=HA.out
    clear HA
    simp only [spec_l02Put.l0]at H
    by_cases c5:Ao < (l0.length:Int)
    ·rw [if_pos c5]at H
     have Cx:=decide_eq_true c5
     clear c5
     (first|rw [Cx]|(simp only [i64_w,i32_w];rw [Cx])|skip)
     obtain⟨c6,H⟩:=qo H
     have In:decide (0≤Ao)=true:=decide_eq_true c6
     clear c6
     obtain⟨Ej,A7,H⟩:=qB H
     try go_wp2
     replace Ad:=y0.mk (Kd.V_drew Ad.out)
     replace Aa:=y0.mk (y11 Aa.out)
     replace HB:=y0.mk (y5 HB.out)
     have Dj:0≤(Ao:Int):=of_decide_eq_true qy1
     have Dk:Ao < (l0.length:Int):=of_decide_eq_true qy1
     obtain⟨Ff,Ci,Cj,Gn,Bp,Co,Cp⟩:=at_T36 (Kd.V_reads' Ad.out).2.2 Ao Dj Dk
     cases Gn
     obtain⟨Hg,Ek,El,Cy⟩:=Kd.V_get Ad.out z36 Ao Dj (by first|exact Dk|exact of_decide_eq_true qy1|(have e_:=(Kd.V_reads' Ad.out).1;omega))
     obtain⟨Gf,Gg,rfl,Bq,Br⟩:=k36_openF El
     have Bd:=Cy 0 _ rfl
     rw [Nat.add_zero,show(k36).sz=1 from rfl,Nat.mul_one]at Bd
     replace Bd:=Option.some.inj (Bd.symm.trans Bp)
     injection Bd with hva_ hvn_ hvc_
     rw [hva_]at Br
     rw [hvc_]at Bq
     have Aw:=y0.mk (show Kd.V Kd.string 9 _ w.heap.size _ _ ((y20 l0 Ao).f0)from Kd.V_mk Bq Br)
     clear hva_ hvn_ hvc_ Br Bq
     clear Cy Ek
     have Ah:=y0.mk Cp
     have Cq:=y0.mk Co
     clear Cp Co
     replace Dj:=eq_true Dj
     replace Dk:=eq_true Dk
     refine start_ (n:=13) (S:=fun w'=>w'.cell? ⟨Ab,0,none⟩=some (.slice Al Ag.length Am)∧w'.cell? (Ff.add (Ao).toNat)=some (.slice Ci ((y20 l0 Ao).f0).length Cj)) (ds:=[]) (fl_ 13 0) (by kernel_rfl) rfl rfl ⟨(y10 Aa.out 0).trans rfl,Bp⟩ (fun hHeld=>?_);refine with_tabW spec_l02Put.tab2 spec_l02Put.bits2 (fun HT_ HW_=>?_)
     generalize wr.drew=w9 at Ad Aa HB Aw Ah Bp hHeld ⊢
     refine qp6 0 8 13 ?_
     refine qp2 6 14 13 ?_
     by_cases c8:Ej < 0
     ·rw [if_pos c8]at H
      have Gp:=decide_eq_true c8
      clear c8
      have H':=y0.mk H
      clear H
      refine qt 8 16 (fl_ 13 511) hHeld ?_
      refine qt 9 17 (fl_ 13 1023) hHeld ?_
      refine qO 10 18 (fl_ 13 2047) (fun K hK=>?_)
      refine goes_ Tryz.func57 (by kernel_rfl) rfl #[.agg #[.slice Ci ((y20 l0 Ao).f0).length Cj],.agg #[.slice Al Ag.length Am]] (by rfl) rfl rfl qy0 ?_
      with_reducible refine(spec_l02Cmp.calls k1 _ _ ((y20 l0 Ao).f0) _ _ Ag Ej _ (qc (by repeat(first|(with_reducible exact Ah.out)|(with_reducible refine Kd.C_alloc ?_ _)|(with_reducible refine Kd.C_drewN ?_ _)|(with_reducible refine Kd.C_drew ?_)|exact Ah.out))) Cq.out (qc (Kd.C_below Bn.out HB.out)) Bo.out A7.out).mono ?_
      rintro e Jg ⟨rfl,hb⟩
      have HS1_:=(hb.cell (World.block_lt_of_cell? _ _ (hHeld.2))).trans (hHeld.2)
      refine⟨_,rfl, ?_⟩
      replace Ad:=y0.mk (Kd.V_below (qV Ad.out) hb)
      replace Aw:=y0.mk (Kd.V_below (qV Aw.out) hb)
      replace Aa:=y0.mk (qK Aa.out hb)
      replace Ah:=y0.mk (Kd.C_below (by repeat(first|(with_reducible exact Ah.out)|(with_reducible refine Kd.C_alloc ?_ _)|(with_reducible refine Kd.C_drewN ?_ _)|(with_reducible refine Kd.C_drew ?_)|exact Ah.out)) hb)
      replace HB:=y0.mk (y8 qb hb)
      (try clear hb)
      refine hK.out _ _ ⟨(y10 Aa.out 0).trans rfl,HS1_⟩ (fun hHeld=>?_)
      clear hK K
      refine qx 18 ?_
      refine qp2 11 19 13 ?_
      refine done_ (done_of HT_.out (by kernel_rfl)) ?_
      try go_wp2
      go_roundg k1
      case measure=>have:=Ge.out;omega
      exact⟨(wrap64 (Ao + 1)),qy2,H',⟨by have:=Ge.out;omega⟩,⟨qV Ad.out⟩,⟨qk Aa.out⟩,⟨qb⟩⟩
     ·rw [if_neg c8]at H
      have Gp:=decide_eq_false c8
      clear c8
      have H':=y0.mk H
      clear H
      refine qt 8 16 (fl_ 13 511) hHeld ?_
      refine qt 9 17 (fl_ 13 1023) hHeld ?_
      refine qO 10 18 (fl_ 13 2047) (fun K hK=>?_)
      refine goes_ Tryz.func57 (by kernel_rfl) rfl #[.agg #[.slice Ci ((y20 l0 Ao).f0).length Cj],.agg #[.slice Al Ag.length Am]] (by rfl) rfl rfl qy0 ?_
      with_reducible refine(spec_l02Cmp.calls k1 _ _ ((y20 l0 Ao).f0) _ _ Ag Ej _ (qc (by repeat(first|(with_reducible exact Ah.out)|(with_reducible refine Kd.C_alloc ?_ _)|(with_reducible refine Kd.C_drewN ?_ _)|(with_reducible refine Kd.C_drew ?_)|exact Ah.out))) Cq.out (qc (Kd.C_below Bn.out HB.out)) Bo.out A7.out).mono ?_
      rintro e Jh ⟨rfl,hb⟩
      have HS1_:=(hb.cell (World.block_lt_of_cell? _ _ (hHeld.2))).trans (hHeld.2)
      refine⟨_,rfl, ?_⟩
      replace Ad:=y0.mk (Kd.V_below (qV Ad.out) hb)
      replace Aw:=y0.mk (Kd.V_below (qV Aw.out) hb)
      replace Aa:=y0.mk (qK Aa.out hb)
      replace Ah:=y0.mk (Kd.C_below (by repeat(first|(with_reducible exact Ah.out)|(with_reducible refine Kd.C_alloc ?_ _)|(with_reducible refine Kd.C_drewN ?_ _)|(with_reducible refine Kd.C_drew ?_)|exact Ah.out)) hb)
      replace HB:=y0.mk (y8 qb hb)
      (try clear hb)
      refine hK.out _ _ ⟨(y10 Aa.out 0).trans rfl,HS1_⟩ (fun hHeld=>?_)
      clear hK K
      refine qx 18 ?_
      refine qp2 11 19 13 ?_
      refine done_ (done_of HT_.out (by kernel_rfl)) ?_
      try go_wp2
      go_meet
      exact⟨_,(Ao),qy2,H',⟨by have:=Ge.out;first|omega|exact Nat.le_refl _⟩,⟨qV Ad.out⟩,⟨qk Aa.out⟩,⟨qb⟩⟩
    ·rw [if_neg c5]at H
     have Cx:=decide_eq_false c5
     clear c5
     (first|rw [Cx]|(simp only [i64_w,i32_w];rw [Cx])|skip)
     have H':=y0.mk H
     clear H
     try go_wp2
     replace Ad:=y0.mk (Kd.V_drew Ad.out)
     replace Aa:=y0.mk (y11 Aa.out)
     replace HB:=y0.mk (y5 HB.out)
     refine start_ (n:=13) (S:=fun w'=>True) (ds:=[]) (fl_ 13 0) (by kernel_rfl) rfl rfl trivial (fun hHeld=>?_);refine with_tabW spec_l02Put.tab2 spec_l02Put.bits2 (fun HT_ HW_=>?_)
     generalize wr.drew=Ji at Ad Aa HB hHeld ⊢
     refine qp10 0 8 13 ?_
     refine qp3 10 18 13 ?_
     refine done_ (done_of HT_.out (by kernel_rfl)) ?_
     try go_wp2
     go_meet
     exact⟨_,(Ao),qy2,H',⟨by have:=Ge.out;first|omega|exact Nat.le_refl _⟩,⟨qV Ad.out⟩,⟨qk Aa.out⟩,⟨qb⟩⟩
 case rest =>
  clear Gm
  obtain⟨kq,Ac,rfl,HA,Jj,Ad,Aa,HB⟩:=hcut
  cases kq with
  | zero=>exact absurd HA.out (by simp [spec_l02Put.j1])
  | succ Hh =>
   have H:=HA.out
   clear HA
   simp only [spec_l02Put.j1]at H
   by_cases Fe:Ac < (l0.length:Int)
   ·rw [if_pos Fe]at H
    have Fg:=decide_eq_true Fe
    clear Fe
    obtain⟨Hi,H⟩:=qo H
    have Hj:decide (0≤Ac)=true:=decide_eq_true Hi
    clear Hi
    obtain⟨Ck,Hk,H⟩:=qB H
    by_cases Em:Ck=0
    ·rw [if_pos Em]at H
     have Fh:(Ck == 0)=true:=beq_iff_eq.mpr Em
     have Fi:(Ck != 0)=false:=bne_eq_false_iff_eq.mpr Em
     clear Em
     simp only [Option.some.injEq,Prod.mk.injEq]at H
     obtain⟨rfl,rfl⟩:=H
     try go_wp2
     replace Ad:=y0.mk (Kd.V_drew Ad.out)
     replace Aa:=y0.mk (y11 Aa.out)
     replace HB:=y0.mk (y5 HB.out)
     have Bs:0≤(Ac:Int):=of_decide_eq_true qy1
     have Bt:Ac < (l0.length:Int):=of_decide_eq_true qy1
     obtain⟨At,Be,Bf,En,Ap,Ax,Ay⟩:=at_T36 (Kd.V_reads' Ad.out).2.2 Ac Bs Bt
     cases En
     obtain⟨Fj,Cl,Cm,Bg⟩:=Kd.V_get Ad.out z36 Ac Bs (by first|exact Bt|exact of_decide_eq_true qy1|(have e_:=(Kd.V_reads' Ad.out).1;omega))
     obtain⟨Dl,Dm,rfl,Aq,As⟩:=k36_openF Cm
     have Ai:=Bg 0 _ rfl
     rw [Nat.add_zero,show(k36).sz=1 from rfl,Nat.mul_one]at Ai
     replace Ai:=Option.some.inj (Ai.symm.trans Ap)
     injection Ai with hva_ hvn_ hvc_
     rw [hva_]at As
     rw [hvc_]at Aq
     have Ae:=y0.mk (show Kd.V Kd.string 9 _ w.heap.size _ _ ((y20 l0 Ac).f0)from Kd.V_mk Aq As)
     clear hva_ hvn_ hvc_ As Aq
     clear Bg Cl
     have Af:=y0.mk Ay
     have Bu:=y0.mk Ax
     clear Ay Ax
     replace Bs:=eq_true Bs
     replace Bt:=eq_true Bt
     refine start_ (n:=13) (S:=fun w'=>w'.cell? ⟨Ab,0,none⟩=some (.slice Al Ag.length Am)∧w'.cell? (At.add (Ac).toNat)=some (.slice Be ((y20 l0 Ac).f0).length Bf)) (ds:=[]) (fl_ 13 0) (by kernel_rfl) rfl rfl ⟨(y10 Aa.out 0).trans rfl,Ap⟩ (fun hHeld=>?_);refine with_tabW spec_l02Put.tab4 spec_l02Put.bits4 (fun HT_ HW_=>?_)
     generalize wc.drew=Jk at Ad Aa HB Ae Af Ap hHeld ⊢
     refine qp6 0 23 13 ?_
     refine qp2 6 29 13 ?_
     refine qt 8 31 (fl_ 13 511) hHeld ?_
     refine qt 9 32 (fl_ 13 1023) hHeld ?_
     refine qO 10 33 (fl_ 13 2047) (fun K hK=>?_)
     refine goes_ Tryz.func57 (by kernel_rfl) rfl #[.agg #[.slice Be ((y20 l0 Ac).f0).length Bf],.agg #[.slice Al Ag.length Am]] (by rfl) rfl rfl qy0 ?_
     with_reducible refine(spec_l02Cmp.calls Hh _ _ ((y20 l0 Ac).f0) _ _ Ag Ck _ (qc (by repeat(first|(with_reducible exact Af.out)|(with_reducible refine Kd.C_alloc ?_ _)|(with_reducible refine Kd.C_drewN ?_ _)|(with_reducible refine Kd.C_drew ?_)|exact Af.out))) Bu.out (qc (Kd.C_below Bn.out HB.out)) Bo.out Hk.out).mono ?_
     rintro e Jl ⟨rfl,hb⟩
     have HS1_:=(hb.cell (World.block_lt_of_cell? _ _ (hHeld.2))).trans (hHeld.2)
     refine⟨_,rfl, ?_⟩
     replace Ad:=y0.mk (Kd.V_below (qV Ad.out) hb)
     replace Ae:=y0.mk (Kd.V_below (qV Ae.out) hb)
     replace Aa:=y0.mk (qK Aa.out hb)
     replace Af:=y0.mk (Kd.C_below (by repeat(first|(with_reducible exact Af.out)|(with_reducible refine Kd.C_alloc ?_ _)|(with_reducible refine Kd.C_drewN ?_ _)|(with_reducible refine Kd.C_drew ?_)|exact Af.out)) hb)
     replace HB:=y0.mk (y8 qb hb)
     (try clear hb)
     refine hK.out _ _ ⟨(y10 Aa.out 0).trans rfl,HS1_⟩ (fun hHeld=>?_)
     clear hK K
     refine qx 33 ?_
     refine qp2 11 34 13 ?_
     refine done_ (done_of HT_.out (by kernel_rfl)) ?_
     try go_wp2
     go_ret2
     exact⟨_,by first|rfl|(simp [y14,y15] <;> rfl)|(simp [*,y14,y15] <;> rfl),KN.out _ qb,qb⟩
    ·rw [if_neg Em]at H
     have Fh:(Ck == 0)=false:=beq_eq_false_iff_ne.mpr Em
     have Fi:(Ck != 0)=true:=bne_iff_ne.mpr Em
     obtain⟨Ct,Bv⟩:∃ y_:List (S36),y_=(([]:List (S36))):=⟨_,rfl⟩
     replace H:(if Ac≤(l0.length:Int)then((some (l0.take (Ac:Int).toNat:List (S36))).bind fun Bh=>(if Ct.length + Bh.length < 5864062014805 then((some (Ct ++ Bh:List (S36))).bind fun Bl=>((spec_l02Tuple.f Ag).bind fun Az=>(if Bl.length < 5864062014805 then((some (Bl ++ [(⟨Az⟩:S36)]:List (S36))).bind fun Au=>((some (l0.drop (Ac:Int).toNat:List (S36))).bind fun Aj=>(if Au.length + Aj.length < 5864062014805 then(some ((Au ++ Aj),true))else(none))))else(none))))else(none)))else(none))=some (r1,r2):=by first|(rw [Bv];with_reducible exact H)|(have H2_:=(Option.bind_some _ _).symm.trans H;rw [Bv];with_reducible exact H2_)|(have H2_:=(Option.bind_some _ _).symm.trans H;with_reducible exact H2_)|with_reducible exact H|(rw [Bv];exact H)|exact H
     have Dx:=y0.mk Bv
     clear Bv
     have Hl:=eq_true (of_decide_eq_true qy1:0≤Ac)
     obtain⟨Gq,H⟩:=qo H
     have Hm:=eq_true Gq
     have Hn:=decide_eq_true Gq
     clear Gq
     obtain⟨Bh,Bw⟩:∃ y_:List (S36),y_=(l0.take (Ac:Int).toNat):=⟨_,rfl⟩
     replace H:(if Ct.length + Bh.length < 5864062014805 then((some (Ct ++ Bh:List (S36))).bind fun Bl=>((spec_l02Tuple.f Ag).bind fun Az=>(if Bl.length < 5864062014805 then((some (Bl ++ [(⟨Az⟩:S36)]:List (S36))).bind fun Au=>((some (l0.drop (Ac:Int).toNat:List (S36))).bind fun Aj=>(if Au.length + Aj.length < 5864062014805 then(some ((Au ++ Aj),true))else(none))))else(none))))else(none))=some (r1,r2):=by first|(rw [Bw];with_reducible exact H)|(have H2_:=(Option.bind_some _ _).symm.trans H;rw [Bw];with_reducible exact H2_)|(have H2_:=(Option.bind_some _ _).symm.trans H;with_reducible exact H2_)|with_reducible exact H|(rw [Bw];exact H)|exact H
     have Dy:=y0.mk Bw
     clear Bw
     obtain⟨Ho,H⟩:=qo H
     have Fk:=y0.mk Ho
     clear Ho
     obtain⟨Bl,Bx⟩:∃ y_:List (S36),y_=(Ct ++ Bh):=⟨_,rfl⟩
     replace H:((spec_l02Tuple.f Ag).bind fun Az=>(if Bl.length < 5864062014805 then((some (Bl ++ [(⟨Az⟩:S36)]:List (S36))).bind fun Au=>((some (l0.drop (Ac:Int).toNat:List (S36))).bind fun Aj=>(if Au.length + Aj.length < 5864062014805 then(some ((Au ++ Aj),true))else(none))))else(none)))=some (r1,r2):=by first|(rw [Bx];with_reducible exact H)|(have H2_:=(Option.bind_some _ _).symm.trans H;rw [Bx];with_reducible exact H2_)|(have H2_:=(Option.bind_some _ _).symm.trans H;with_reducible exact H2_)|with_reducible exact H|(rw [Bx];exact H)|exact H
     have Fl:=y0.mk Bx
     clear Bx
     obtain⟨Az,Io,H⟩:=qB H
     obtain⟨Hp,H⟩:=qo H
     have Fm:=y0.mk Hp
     clear Hp
     obtain⟨Au,Bz⟩:∃ y_:List (S36),y_=(Bl ++ [(⟨Az⟩:S36)]):=⟨_,rfl⟩
     replace H:((some (l0.drop (Ac:Int).toNat:List (S36))).bind fun Aj=>(if Au.length + Aj.length < 5864062014805 then(some ((Au ++ Aj),true))else(none)))=some (r1,r2):=by first|(rw [Bz];with_reducible exact H)|(have H2_:=(Option.bind_some _ _).symm.trans H;rw [Bz];with_reducible exact H2_)|(have H2_:=(Option.bind_some _ _).symm.trans H;with_reducible exact H2_)|with_reducible exact H|(rw [Bz];exact H)|exact H
     have Fn:=y0.mk Bz
     clear Bz
     have Hq:=eq_true (of_decide_eq_true qy1:0≤Ac)
     have Hr:=eq_true (of_decide_eq_true qy1:Ac≤(l0.length:Int))
     obtain⟨Aj,Ca⟩:∃ y_:List (S36),y_=(l0.drop (Ac:Int).toNat):=⟨_,rfl⟩
     replace H:(if Au.length + Aj.length < 5864062014805 then(some ((Au ++ Aj),true))else(none))=some (r1,r2):=by first|(rw [Ca];with_reducible exact H)|(have H2_:=(Option.bind_some _ _).symm.trans H;rw [Ca];with_reducible exact H2_)|(have H2_:=(Option.bind_some _ _).symm.trans H;with_reducible exact H2_)|with_reducible exact H|(rw [Ca];exact H)|exact H
     have Dz:=y0.mk Ca
     clear Ca
     obtain⟨Hs,H⟩:=qo H
     have Fo:=y0.mk Hs
     clear Hs
     obtain⟨Gr,Cb⟩:∃ y_:List (S36),y_=(Au ++ Aj):=⟨_,rfl⟩
     replace H:(some (Gr,true))=some (r1,r2):=by first|(rw [Cb];with_reducible exact H)|(have H2_:=(Option.bind_some _ _).symm.trans H;rw [Cb];with_reducible exact H2_)|(have H2_:=(Option.bind_some _ _).symm.trans H;with_reducible exact H2_)|with_reducible exact H|(rw [Cb];exact H)|exact H
     have Fp:=y0.mk Cb
     clear Cb
     simp only [Option.some.injEq,Prod.mk.injEq]at H
     obtain⟨rfl,rfl⟩:=H
     try go_wp2
     replace Ad:=y0.mk (Kd.V_drew Ad.out)
     replace Aa:=y0.mk (y11 Aa.out)
     replace HB:=y0.mk (y5 HB.out)
     have Bs:0≤(Ac:Int):=of_decide_eq_true qy1
     have Bt:Ac < (l0.length:Int):=of_decide_eq_true qy1
     obtain⟨At,Be,Bf,En,Ap,Ax,Ay⟩:=at_T36 (Kd.V_reads' Ad.out).2.2 Ac Bs Bt
     cases En
     obtain⟨Fj,Cl,Cm,Bg⟩:=Kd.V_get Ad.out z36 Ac Bs (by first|exact Bt|exact of_decide_eq_true qy1|(have e_:=(Kd.V_reads' Ad.out).1;omega))
     obtain⟨Dl,Dm,rfl,Aq,As⟩:=k36_openF Cm
     have Ai:=Bg 0 _ rfl
     rw [Nat.add_zero,show(k36).sz=1 from rfl,Nat.mul_one]at Ai
     replace Ai:=Option.some.inj (Ai.symm.trans Ap)
     injection Ai with hva_ hvn_ hvc_
     rw [hva_]at As
     rw [hvc_]at Aq
     have Ae:=y0.mk (show Kd.V Kd.string 9 _ w.heap.size _ _ ((y20 l0 Ac).f0)from Kd.V_mk Aq As)
     clear hva_ hvn_ hvc_ As Aq
     clear Bg Cl
     have Af:=y0.mk Ay
     have Bu:=y0.mk Ax
     clear Ay Ax
     replace Bs:=eq_true Bs
     replace Bt:=eq_true Bt
     refine start_ (n:=13) (S:=fun w'=>w'.cell? ⟨Ab,0,none⟩=some (.slice Al Ag.length Am)∧w'.cell? (At.add (Ac).toNat)=some (.slice Be ((y20 l0 Ac).f0).length Bf)) (ds:=[]) (fl_ 13 0) (by kernel_rfl) rfl rfl ⟨(y10 Aa.out 0).trans rfl,Ap⟩ (fun hHeld=>?_);refine with_tabW spec_l02Put.tab4 spec_l02Put.bits4 (fun HT_ HW_=>?_)
     generalize wc.drew=Jm at Ad Aa HB Ae Af Ap hHeld ⊢
     refine qp6 0 23 13 ?_
     refine qp2 6 29 13 ?_
     refine qt 8 31 (fl_ 13 511) hHeld ?_
     refine qt 9 32 (fl_ 13 1023) hHeld ?_
     refine qO 10 33 (fl_ 13 2047) (fun K hK=>?_)
     refine goes_ Tryz.func57 (by kernel_rfl) rfl #[.agg #[.slice Be ((y20 l0 Ac).f0).length Bf],.agg #[.slice Al Ag.length Am]] (by rfl) rfl rfl qy0 ?_
     with_reducible refine(spec_l02Cmp.calls Hh _ _ ((y20 l0 Ac).f0) _ _ Ag Ck _ (qc (by repeat(first|(with_reducible exact Af.out)|(with_reducible refine Kd.C_alloc ?_ _)|(with_reducible refine Kd.C_drewN ?_ _)|(with_reducible refine Kd.C_drew ?_)|exact Af.out))) Bu.out (qc (Kd.C_below Bn.out HB.out)) Bo.out Hk.out).mono ?_
     rintro e Ip ⟨rfl,hb⟩
     have HS1_:=(hb.cell (World.block_lt_of_cell? _ _ (hHeld.2))).trans (hHeld.2)
     refine⟨_,rfl, ?_⟩
     replace Ad:=y0.mk (Kd.V_below (qV Ad.out) hb)
     replace Ae:=y0.mk (Kd.V_below (qV Ae.out) hb)
     replace Aa:=y0.mk (qK Aa.out hb)
     replace Af:=y0.mk (Kd.C_below (by repeat(first|(with_reducible exact Af.out)|(with_reducible refine Kd.C_alloc ?_ _)|(with_reducible refine Kd.C_drewN ?_ _)|(with_reducible refine Kd.C_drew ?_)|exact Af.out)) hb)
     replace HB:=y0.mk (y8 qb hb)
     (try clear hb)
     refine hK.out _ _ ⟨(y10 Aa.out 0).trans rfl,HS1_⟩ (fun hHeld=>?_)
     clear hK K
     refine qx 33 ?_
     refine qp2 11 34 13 ?_
     refine done_ (done_of HT_.out (by kernel_rfl)) ?_
     try go_wp2_with (first|((with_reducible refine y17 (N:=37) rfl ?_);refine Kd.N_lit k36 _ 36 ?hg (N':=37) ?hd (xs:=([]:List (S36))) (inner:=[]) (ok:=(fun k_=>(P0_ k_∨w.heap.size≤k_)∧k_≠Ab)) (okp:=(fun k_=>(P0_ k_∨w.heap.size≤k_)∧k_≠Ab)) ?hr ?hp (fun _ hk=>hk) ((show ∀ k_,Ip.heap.size≤k_→(fun k_=>(P0_ k_∨w.heap.size≤k_)∧k_≠Ab) k_ from fun k_ hk=>⟨(.inr (Nat.le_trans (y7 qb) hk)),Kd.freshB (g:=Ab) (o:=.cells #[.slice Al Ag.length Am] 36 (0,0)) (qk Aa.out) k_ hk⟩) _ (Nat.le_refl _)) (Below.refl _ _) (Nat.le_refl _) (by simp) ?_;(case hd=>rfl);(case hg=>rfl);(case hr=>first|(go_simp;done)|(go_simp;rfl));(case hp=>exact(Reps.none _ _));intro Eo Jn Cn hb hg_ hnew_;clear hg_ hnew_;(first|rw [← Dx.out]at Cn|(simp only [Int.reduceToNat]at Cn;rw [← Dx.out]at Cn));replace Ad:=y0.mk (Kd.V_elder' (qV Ad.out) (Kd.N_base Cn) hb);replace Ae:=y0.mk (Kd.V_elder' (qV Ae.out) (Kd.N_base Cn) hb);have Cz:=y0.mk (Kd.N_lower Cn (y7 qb));replace Aa:=y0.mk (qK Aa.out hb);replace Af:=y0.mk (Kd.C_below (by repeat(first|(with_reducible exact Af.out)|(with_reducible refine Kd.C_alloc ?_ _)|(with_reducible refine Kd.C_drewN ?_ _)|(with_reducible refine Kd.C_drew ?_)|exact Af.out)) hb);replace HB:=y0.mk (y8 qb hb);clear hb Cn;have Gs:(Ac:Int)≤((l0.length:Int):Int):=of_decide_eq_true qy1;obtain⟨Iq,Ea,_,Fq,_⟩:=info_parts info36;have hroom32:l0.length≤c0:=(Kd.V_reads' Ad.out).2.1;have Fr:Kd.F k36 _ _ (some At) l0.length l0:=(Kd.V_at (base:=w.heap.size) Ad.out).2.2;have Ep:=cut_to (P:=Tryz.prog) 30 36 .i64 Tryz.underlying30 Ea (some At) l0.length c0 Ac (of_decide_eq_true qy1) Gs hroom32;have Er:=Kd.F_take (m:=(Ac:Int).toNat) Fr (by omega);have Es:Bh.length=(Ac:Int).toNat:=(by rw [Dy.out,qT_];omega);rw [← Dy.out]at Er;rw [← Es]at Ep;have Ba:=y0.mk (show Kd.V k36 36 _ w.heap.size _ (.slice (some At) Bh.length c0) Bh from Kd.V_mk (by omega) Er);have Ht:=y0.mk (show Bh.length≤c0 from by omega);clear Er Fr hroom32 Ea Fq;have Ir:=y0.mk Es;clear Es;replace Gs:=eq_true Gs)|((with_reducible refine gate_builtin (b:=.append) (xs:=#[.tmp 37,.tmp 40]) rfl ?_);at_builtin;refine Kd.N_append_rows k36 (w0:=w) w.heap.size rfl (.tmp 37) (.tmp 40) 30 36 (.agg #[(.slice none 0 0)]) 24 rfl Tryz.underlying30 info36 rfl (by decide) (by omega) Eo Ct Bh _ _ _ (fun k_=>(P0_ k_∨w.heap.size≤k_)∧k_≠Ab) (fun k_=>((fun k_=>(P0_ k_∨w.heap.size≤k_)∧k_≠Ab)) k_∧some k_≠(Eo:Value).ownBlock) rfl rfl ?aO ?aR (fun _ hk=>hk) ?aF ?aB ?aS ?aL ?_;(case aR=>exact(by skip;exact Kd.V_F (Kd.V_mono (ok':=(fun k_=>((fun k_=>(P0_ k_∨w.heap.size≤k_)∧k_≠Ab)) k_∧some k_≠(Eo:Value).ownBlock)) (Ba.out) (fun k_ hk=>⟨⟨hk.1.1,hk.1.2⟩,hk.2⟩))));(case aB=>exact qb);(case aF=>exact(fun k_ hk=>⟨(.inr (Nat.le_trans (y7 qb) hk)),Kd.freshB (g:=Ab) (o:=.cells #[.slice Al Ag.length Am] 36 (0,0)) (qk Aa.out) k_ hk⟩));(case aO=>exact(qN Cz.out));(case aS=>exact(y7 qb));(case aL=>have:=Fk.out;omega);intro Dn Jo ho hb hg hat;rw [← Fl.out]at ho;replace Ad:=y0.mk (Kd.V_afterv (ok:=(fun k_=>(P0_ k_∨w.heap.size≤k_)∧k_≠Ab)) (qV Ad.out) hg hat);replace Aa:=y0.mk (blk_grown (qk Aa.out) hg (Kd.N_away Cz.out (fun _ hk=>hk.2)));replace Ae:=y0.mk (Kd.V_afterv (ok:=(fun k_=>(P0_ k_∨w.heap.size≤k_)∧k_≠Ab)) (qV Ae.out) hg hat);replace Ba:=y0.mk (Kd.V_afterv (ok:=(fun k_=>(P0_ k_∨w.heap.size≤k_)∧k_≠Ab)) (qV Ba.out) hg hat);replace HB:=y0.mk (hb);have Bi:=y0.mk (ho);clear Cz;clear ho hb hg hat;obtain⟨Gh,Gi⟩:=qz1 Aa.out)|((with_reducible refine y16 (f:=58) rfl ?_);refine y18 (some 44) rfl rfl Tryz.func58 (by kernel_rfl) rfl #[.agg #[.slice Al Ag.length Am]] rfl qy0 ?_;(with_reducible refine(spec_l02Tuple.calls _ _ Ag Az _ (qc (Kd.C_below Bn.out HB.out)) Bo.out Io.out).mono ?_);rintro e Jp ⟨Is,rfl,Cw,hb⟩;refine⟨_,rfl, ?_⟩;replace Ad:=y0.mk (Kd.V_elder' (qV Ad.out) (Kd.R_base Cw) hb);replace Ae:=y0.mk (Kd.V_elder' (qV Ae.out) (Kd.R_base Cw) hb);replace Ba:=y0.mk (Kd.V_elder' (qV Ba.out) (Kd.R_base Cw) hb);replace Bi:=y0.mk (Kd.N_elder' (qN Bi.out) (Kd.R_base Cw) hb);have Cr:=y0.mk (Kd.R_lower (Kd.R_newM (M:=fun k_=>(w.heap.size≤k_)) Cw (y7 qb) (fun k_ h_=>h_)) (y7 qb));replace Aa:=y0.mk (qK Aa.out hb);replace HB:=y0.mk (y8 qb hb);(try clear hb);(try clear Cw);obtain⟨Do,Dp,Gt⟩:=Kd.R_slice Cr.out;subst Gt)|((with_reducible refine gate_builtin (b:=.append) (xs:=#[.tmp 42,.tmp 45]) rfl ?_);at_builtin;refine Kd.N_append k36 (w0:=w) w.heap.size rfl (.tmp 42) (.tmp 45) 30 36 (.agg #[(.slice none 0 0)]) 24 rfl Tryz.underlying30 info36 rfl (by decide) (by omega) Dn Bl (⟨Az⟩:S36) [.slice Do Az.length Dp] (fun k_=>(P0_ k_∨w.heap.size≤k_)∧k_≠Ab) (fun k_=>((fun k_=>(P0_ k_∨w.heap.size≤k_)∧k_≠Ab)) k_∧some k_≠(Dn:Value).ownBlock) rfl rfl ?aP (fun _ hk=>hk) ?aF ?aO ?aB ?aS ?aL ?_;(case aP=>exact(k36_mkF _ _ (⟨Az⟩:S36) (Kd.R_reads' (Kd.R_mono (ok':=(fun k_=>((fun k_=>(P0_ k_∨w.heap.size≤k_)∧k_≠Ab)) k_∧some k_≠(Dn:Value).ownBlock)) (Kd.R_types (Kd.R_apart' (Cr.out) (Kd.N_typed Bi.out) (by decide)) Aa.out (by decide)) (fun k_ hk=>⟨⟨(.inr (hk.1.1.1)),hk.2⟩,hk.1.2⟩))).2.1 (Kd.R_F (Kd.R_mono (ok':=(fun k_=>((fun k_=>(P0_ k_∨w.heap.size≤k_)∧k_≠Ab)) k_∧some k_≠(Dn:Value).ownBlock)) (Kd.R_types (Kd.R_apart' (Cr.out) (Kd.N_typed Bi.out) (by decide)) Aa.out (by decide)) (fun k_ hk=>⟨⟨(.inr (hk.1.1.1)),hk.2⟩,hk.1.2⟩)))));(case aB=>exact qb);(case aF=>exact(fun k_ hk=>⟨(.inr (Nat.le_trans (y7 qb) hk)),Kd.freshB (g:=Ab) (o:=.cells #[.slice Al Ag.length Am] 36 (0,0)) (qk Aa.out) k_ hk⟩));(case aO=>exact(qN (Kd.N_mono Bi.out (fun _ hk=>⟨hk.1.1,hk.1.2⟩))));(case aS=>exact(y7 qb));(case aL=>have:=Fm.out;omega);intro Et Jq ho hb hg hat;rw [← Fn.out]at ho;replace Ad:=y0.mk (Kd.V_afterv (ok:=(fun k_=>(P0_ k_∨w.heap.size≤k_)∧some k_≠(.slice Do Az.length Dp:Value).ownBlock∧k_≠Ab)) (qV (Kd.V_mono Ad.out (fun _ hk=>⟨⟨hk.1.1.1,⟨hk.2,hk.1.1.2⟩⟩,hk.1.2⟩))) hg hat);replace Aa:=y0.mk (blk_grown (qk Aa.out) hg (Kd.N_away Bi.out (fun _ hk=>hk.1.2)));replace Ae:=y0.mk (Kd.V_afterv (ok:=(fun k_=>(P0_ k_∨w.heap.size≤k_)∧some k_≠(.slice Do Az.length Dp:Value).ownBlock∧k_≠Ab)) (qV (Kd.V_mono Ae.out (fun _ hk=>⟨⟨hk.1.1.1,⟨hk.2,hk.1.1.2⟩⟩,hk.1.2⟩))) hg hat);replace Ba:=y0.mk (Kd.V_afterv (ok:=(fun k_=>(P0_ k_∨w.heap.size≤k_)∧some k_≠(.slice Do Az.length Dp:Value).ownBlock∧k_≠Ab)) (qV (Kd.V_mono Ba.out (fun _ hk=>⟨⟨hk.1.1.1,⟨hk.2,hk.1.1.2⟩⟩,hk.1.2⟩))) hg hat);replace HB:=y0.mk (hb);have Da:=y0.mk (ho);clear Bi Cr;clear ho hb hg hat;have Gu:(Ac:Int)≤((l0.length:Int):Int):=of_decide_eq_true qy1;obtain⟨It,Eb,_,Ec,_⟩:=info_parts info36;have hroom38:l0.length≤c0:=(Kd.V_reads' Ad.out).2.1;have Fs:Kd.F k36 _ _ (some At) l0.length l0:=(Kd.V_at (base:=w.heap.size) Ad.out).2.2;have Gv:(0:Int)≤(Ac:Int):=of_decide_eq_true qy1;have Eu:=cut_from (P:=Tryz.prog) 30 36 .i64 Tryz.underlying30 Eb 1 Ec (some At) l0.length c0 Ac Gv Gu;have Db:=Kd.F_cut (m:=(Ac:Int).toNat) (c:=c0) Fs (by omega) hroom38;obtain⟨Hu,Dq⟩:∃ A1,A1=(if c0=(Ac:Int).toNat then(some At)else((some At):Option Addr).map (·.add ((Ac:Int).toNat * 1))):=⟨_,rfl⟩;obtain⟨Hv,Dr⟩:∃ c1,c1=c0 - (Ac:Int).toNat:=⟨_,rfl⟩;have Dc:Aj.length=l0.length - (Ac:Int).toNat:=(by rw [Dz.out,qD_] <;> omega);rw [show(l0).drop (Ac:Int).toNat=Aj from Dz.out.symm]at Db;replace Db:Kd.F k36 _ _ Hu Aj.length Aj:=(by rw [Dq];exact Db);rw [← Dc,← Dq,← Dr]at Eu;have Dd:=y0.mk (show Kd.V k36 36 _ w.heap.size _ (.slice Hu Aj.length Hv) Aj from Kd.V_mk (by rw [Dc,Dr];exact Nat.sub_le_sub_right hroom38 _) Db);have Hw:=y0.mk (show Aj.length≤Hv from by rw [Dc,Dr];exact Nat.sub_le_sub_right hroom38 _);clear Db Fs hroom38 Eb Ec Dr;have Iu:=y0.mk Dc;have Iv:=y0.mk Dq;clear Dc Dq;replace Gu:=eq_true Gu)|((with_reducible refine gate_builtin (b:=.append) (xs:=#[.tmp 47,.tmp 50]) rfl ?_);at_builtin;refine Kd.N_append_rows k36 (w0:=w) w.heap.size rfl (.tmp 47) (.tmp 50) 30 36 (.agg #[(.slice none 0 0)]) 24 rfl Tryz.underlying30 info36 rfl (by decide) (by omega) Et Au Aj _ _ _ (fun k_=>(P0_ k_∨w.heap.size≤k_)∧k_≠Ab) (fun k_=>((fun k_=>(P0_ k_∨w.heap.size≤k_)∧k_≠Ab)) k_∧some k_≠(Et:Value).ownBlock) rfl rfl ?aO ?aR (fun _ hk=>hk) ?aF ?aB ?aS ?aL ?_;(case aR=>exact(by skip;exact Kd.V_F (Kd.V_mono (ok':=(fun k_=>((fun k_=>(P0_ k_∨w.heap.size≤k_)∧k_≠Ab)) k_∧some k_≠(Et:Value).ownBlock)) (Dd.out) (fun k_ hk=>⟨⟨hk.1.1,hk.1.2.2⟩,hk.2⟩))));(case aB=>exact qb);(case aF=>exact(fun k_ hk=>⟨(.inr (Nat.le_trans (y7 qb) hk)),Kd.freshB (g:=Ab) (o:=.cells #[.slice Al Ag.length Am] 36 (0,0)) (qk Aa.out) k_ hk⟩));(case aO=>exact(qN Da.out));(case aS=>exact(y7 qb));(case aL=>have:=Fo.out;omega);intro Iw Jr ho hb hg hat;rw [← Fp.out]at ho;replace Ad:=y0.mk (Kd.V_afterv (ok:=(fun k_=>(P0_ k_∨w.heap.size≤k_)∧k_≠Ab)) (qV (Kd.V_mono Ad.out (fun _ hk=>⟨⟨hk.1.1,hk.1.2.2⟩,hk.2⟩))) hg hat);replace Aa:=y0.mk (blk_grown (qk Aa.out) hg (Kd.N_away Da.out (fun _ hk=>hk.2)));replace Ae:=y0.mk (Kd.V_afterv (ok:=(fun k_=>(P0_ k_∨w.heap.size≤k_)∧k_≠Ab)) (qV (Kd.V_mono Ae.out (fun _ hk=>⟨⟨hk.1.1,hk.1.2.2⟩,hk.2⟩))) hg hat);replace Ba:=y0.mk (Kd.V_afterv (ok:=(fun k_=>(P0_ k_∨w.heap.size≤k_)∧k_≠Ab)) (qV (Kd.V_mono Ba.out (fun _ hk=>⟨⟨hk.1.1,hk.1.2.2⟩,hk.2⟩))) hg hat);replace Dd:=y0.mk (Kd.V_afterv (ok:=(fun k_=>(P0_ k_∨w.heap.size≤k_)∧k_≠Ab)) (qV (Kd.V_mono Dd.out (fun _ hk=>⟨⟨hk.1.1,hk.1.2.2⟩,hk.2⟩))) hg hat);replace HB:=y0.mk (hb);have Ft:=y0.mk (ho);clear Da;clear ho hb hg hat))
     go_ret2
     exact⟨_,by first|rfl|(simp [y14,y15] <;> rfl)|(simp [*,y14,y15] <;> rfl),Kd.N_lower (qN (Kd.N_mono Ft.out (fun _ hk=>hk.1))) HBB.out,qb⟩
   ·rw [if_neg Fe]at H
    have Fg:=decide_eq_false Fe
    clear Fe
    obtain⟨Cu,Cc⟩:∃ y_:List (S36),y_=(([]:List (S36))):=⟨_,rfl⟩
    replace H:(if 0≤Ac then(if Ac≤(l0.length:Int)then((some (l0.take (Ac:Int).toNat:List (S36))).bind fun Bj=>(if Cu.length + Bj.length < 5864062014805 then((some (Cu ++ Bj:List (S36))).bind fun Bm=>((spec_l02Tuple.f Ag).bind fun Bc=>(if Bm.length < 5864062014805 then((some (Bm ++ [(⟨Bc⟩:S36)]:List (S36))).bind fun Av=>((some (l0.drop (Ac:Int).toNat:List (S36))).bind fun Ak=>(if Av.length + Ak.length < 5864062014805 then(some ((Av ++ Ak),true))else(none))))else(none))))else(none)))else(none))else(none))=some (r1,r2):=by first|(rw [Cc];with_reducible exact H)|(have H2_:=(Option.bind_some _ _).symm.trans H;rw [Cc];with_reducible exact H2_)|(have H2_:=(Option.bind_some _ _).symm.trans H;with_reducible exact H2_)|with_reducible exact H|(rw [Cc];exact H)|exact H
    have Ed:=y0.mk Cc
    clear Cc
    obtain⟨Gw,H⟩:=qo H
    have Hx:=eq_true Gw
    have Hy:=decide_eq_true Gw
    clear Gw
    obtain⟨Gx,H⟩:=qo H
    have Hz:=eq_true Gx
    have Ia:=decide_eq_true Gx
    clear Gx
    obtain⟨Bj,Cd⟩:∃ y_:List (S36),y_=(l0.take (Ac:Int).toNat):=⟨_,rfl⟩
    replace H:(if Cu.length + Bj.length < 5864062014805 then((some (Cu ++ Bj:List (S36))).bind fun Bm=>((spec_l02Tuple.f Ag).bind fun Bc=>(if Bm.length < 5864062014805 then((some (Bm ++ [(⟨Bc⟩:S36)]:List (S36))).bind fun Av=>((some (l0.drop (Ac:Int).toNat:List (S36))).bind fun Ak=>(if Av.length + Ak.length < 5864062014805 then(some ((Av ++ Ak),true))else(none))))else(none))))else(none))=some (r1,r2):=by first|(rw [Cd];with_reducible exact H)|(have H2_:=(Option.bind_some _ _).symm.trans H;rw [Cd];with_reducible exact H2_)|(have H2_:=(Option.bind_some _ _).symm.trans H;with_reducible exact H2_)|with_reducible exact H|(rw [Cd];exact H)|exact H
    have Ee:=y0.mk Cd
    clear Cd
    obtain⟨Ib,H⟩:=qo H
    have Fu:=y0.mk Ib
    clear Ib
    obtain⟨Bm,Ce⟩:∃ y_:List (S36),y_=(Cu ++ Bj):=⟨_,rfl⟩
    replace H:((spec_l02Tuple.f Ag).bind fun Bc=>(if Bm.length < 5864062014805 then((some (Bm ++ [(⟨Bc⟩:S36)]:List (S36))).bind fun Av=>((some (l0.drop (Ac:Int).toNat:List (S36))).bind fun Ak=>(if Av.length + Ak.length < 5864062014805 then(some ((Av ++ Ak),true))else(none))))else(none)))=some (r1,r2):=by first|(rw [Ce];with_reducible exact H)|(have H2_:=(Option.bind_some _ _).symm.trans H;rw [Ce];with_reducible exact H2_)|(have H2_:=(Option.bind_some _ _).symm.trans H;with_reducible exact H2_)|with_reducible exact H|(rw [Ce];exact H)|exact H
    have Fv:=y0.mk Ce
    clear Ce
    obtain⟨Bc,Ix,H⟩:=qB H
    obtain⟨Ic,H⟩:=qo H
    have Fw:=y0.mk Ic
    clear Ic
    obtain⟨Av,Cf⟩:∃ y_:List (S36),y_=(Bm ++ [(⟨Bc⟩:S36)]):=⟨_,rfl⟩
    replace H:((some (l0.drop (Ac:Int).toNat:List (S36))).bind fun Ak=>(if Av.length + Ak.length < 5864062014805 then(some ((Av ++ Ak),true))else(none)))=some (r1,r2):=by first|(rw [Cf];with_reducible exact H)|(have H2_:=(Option.bind_some _ _).symm.trans H;rw [Cf];with_reducible exact H2_)|(have H2_:=(Option.bind_some _ _).symm.trans H;with_reducible exact H2_)|with_reducible exact H|(rw [Cf];exact H)|exact H
    have Fx:=y0.mk Cf
    clear Cf
    have Id:=eq_true (of_decide_eq_true qy1:0≤Ac)
    have Ie:=eq_true (of_decide_eq_true qy1:Ac≤(l0.length:Int))
    obtain⟨Ak,Cg⟩:∃ y_:List (S36),y_=(l0.drop (Ac:Int).toNat):=⟨_,rfl⟩
    replace H:(if Av.length + Ak.length < 5864062014805 then(some ((Av ++ Ak),true))else(none))=some (r1,r2):=by first|(rw [Cg];with_reducible exact H)|(have H2_:=(Option.bind_some _ _).symm.trans H;rw [Cg];with_reducible exact H2_)|(have H2_:=(Option.bind_some _ _).symm.trans H;with_reducible exact H2_)|with_reducible exact H|(rw [Cg];exact H)|exact H
    have Ef:=y0.mk Cg
    clear Cg
    obtain⟨Ig,H⟩:=qo H
    have Fy:=y0.mk Ig
    clear Ig
    obtain⟨Gy,Ch⟩:∃ y_:List (S36),y_=(Av ++ Ak):=⟨_,rfl⟩
    replace H:(some (Gy,true))=some (r1,r2):=by first|(rw [Ch];with_reducible exact H)|(have H2_:=(Option.bind_some _ _).symm.trans H;rw [Ch];with_reducible exact H2_)|(have H2_:=(Option.bind_some _ _).symm.trans H;with_reducible exact H2_)|with_reducible exact H|(rw [Ch];exact H)|exact H
    have Fz:=y0.mk Ch
    clear Ch
    simp only [Option.some.injEq,Prod.mk.injEq]at H
    obtain⟨rfl,rfl⟩:=H
    try go_wp2
    replace Ad:=y0.mk (Kd.V_drew Ad.out)
    replace Aa:=y0.mk (y11 Aa.out)
    replace HB:=y0.mk (y5 HB.out)
    refine start_ (n:=13) (S:=fun w'=>True) (ds:=[]) (fl_ 13 0) (by kernel_rfl) rfl rfl trivial (fun hHeld=>?_);refine with_tabW spec_l02Put.tab4 spec_l02Put.bits4 (fun HT_ HW_=>?_)
    generalize wc.drew=Iy at Ad Aa HB hHeld ⊢
    refine qp10 0 23 13 ?_
    refine qp3 10 33 13 ?_
    refine done_ (done_of HT_.out (by kernel_rfl)) ?_
    try go_wp2_with (first|((with_reducible refine y17 (N:=37) rfl ?_);refine Kd.N_lit k36 _ 36 ?hg (N':=37) ?hd (xs:=([]:List (S36))) (inner:=[]) (ok:=(fun k_=>(P0_ k_∨w.heap.size≤k_)∧k_≠Ab)) (okp:=(fun k_=>(P0_ k_∨w.heap.size≤k_)∧k_≠Ab)) ?hr ?hp (fun _ hk=>hk) ((show ∀ k_,Iy.heap.size≤k_→(fun k_=>(P0_ k_∨w.heap.size≤k_)∧k_≠Ab) k_ from fun k_ hk=>⟨(.inr (Nat.le_trans (y7 qb) hk)),Kd.freshB (g:=Ab) (o:=.cells #[.slice Al Ag.length Am] 36 (0,0)) (qk Aa.out) k_ hk⟩) _ (Nat.le_refl _)) (Below.refl _ _) (Nat.le_refl _) (by simp) ?_;(case hd=>rfl);(case hg=>rfl);(case hr=>first|(go_simp;done)|(go_simp;rfl));(case hp=>exact(Reps.none _ _));intro Ew Js Cv hb hg_ hnew_;clear hg_ hnew_;(first|rw [← Ed.out]at Cv|(simp only [Int.reduceToNat]at Cv;rw [← Ed.out]at Cv));replace Ad:=y0.mk (Kd.V_elder' (qV Ad.out) (Kd.N_base Cv) hb);have De:=y0.mk (Kd.N_lower Cv (y7 qb));replace Aa:=y0.mk (qK Aa.out hb);replace HB:=y0.mk (y8 qb hb);clear hb Cv;have Gz:(Ac:Int)≤((l0.length:Int):Int):=of_decide_eq_true qy1;obtain⟨Iz,Eg,_,Ga,_⟩:=info_parts info36;have hroom51:l0.length≤c0:=(Kd.V_reads' Ad.out).2.1;have Gb:Kd.F k36 _ _ A0 l0.length l0:=(Kd.V_at (base:=w.heap.size) Ad.out).2.2;have Ex:=cut_to (P:=Tryz.prog) 30 36 .i64 Tryz.underlying30 Eg A0 l0.length c0 Ac (of_decide_eq_true qy1) Gz hroom51;have Ey:=Kd.F_take (m:=(Ac:Int).toNat) Gb (by omega);have Ez:Bj.length=(Ac:Int).toNat:=(by rw [Ee.out,qT_];omega);rw [← Ee.out]at Ey;rw [← Ez]at Ex;have Bb:=y0.mk (show Kd.V k36 36 _ w.heap.size _ (.slice A0 Bj.length c0) Bj from Kd.V_mk (by omega) Ey);have Ih:=y0.mk (show Bj.length≤c0 from by omega);clear Ey Gb hroom51 Eg Ga;have Ja:=y0.mk Ez;clear Ez;replace Gz:=eq_true Gz)|((with_reducible refine gate_builtin (b:=.append) (xs:=#[.tmp 37,.tmp 40]) rfl ?_);at_builtin;refine Kd.N_append_rows k36 (w0:=w) w.heap.size rfl (.tmp 37) (.tmp 40) 30 36 (.agg #[(.slice none 0 0)]) 24 rfl Tryz.underlying30 info36 rfl (by decide) (by omega) Ew Cu Bj _ _ _ (fun k_=>(P0_ k_∨w.heap.size≤k_)∧k_≠Ab) (fun k_=>((fun k_=>(P0_ k_∨w.heap.size≤k_)∧k_≠Ab)) k_∧some k_≠(Ew:Value).ownBlock) rfl rfl ?aO ?aR (fun _ hk=>hk) ?aF ?aB ?aS ?aL ?_;(case aR=>exact(by skip;exact Kd.V_F (Kd.V_mono (ok':=(fun k_=>((fun k_=>(P0_ k_∨w.heap.size≤k_)∧k_≠Ab)) k_∧some k_≠(Ew:Value).ownBlock)) (Bb.out) (fun k_ hk=>⟨⟨hk.1.1,hk.1.2⟩,hk.2⟩))));(case aB=>exact qb);(case aF=>exact(fun k_ hk=>⟨(.inr (Nat.le_trans (y7 qb) hk)),Kd.freshB (g:=Ab) (o:=.cells #[.slice Al Ag.length Am] 36 (0,0)) (qk Aa.out) k_ hk⟩));(case aO=>exact(qN De.out));(case aS=>exact(y7 qb));(case aL=>have:=Fu.out;omega);intro Ds Jt ho hb hg hat;rw [← Fv.out]at ho;replace Ad:=y0.mk (Kd.V_afterv (ok:=(fun k_=>(P0_ k_∨w.heap.size≤k_)∧k_≠Ab)) (qV Ad.out) hg hat);replace Aa:=y0.mk (blk_grown (qk Aa.out) hg (Kd.N_away De.out (fun _ hk=>hk.2)));replace Bb:=y0.mk (Kd.V_afterv (ok:=(fun k_=>(P0_ k_∨w.heap.size≤k_)∧k_≠Ab)) (qV Bb.out) hg hat);replace HB:=y0.mk (hb);have Bk:=y0.mk (ho);clear De;clear ho hb hg hat;obtain⟨Gj,Gk⟩:=qz1 Aa.out)|((with_reducible refine y16 (f:=58) rfl ?_);refine y18 (some 44) rfl rfl Tryz.func58 (by kernel_rfl) rfl #[.agg #[.slice Al Ag.length Am]] rfl qy0 ?_;(with_reducible refine(spec_l02Tuple.calls _ _ Ag Bc _ (qc (Kd.C_below Bn.out HB.out)) Bo.out Ix.out).mono ?_);rintro e Ju ⟨Jb,rfl,Cw,hb⟩;refine⟨_,rfl, ?_⟩;replace Ad:=y0.mk (Kd.V_elder' (qV Ad.out) (Kd.R_base Cw) hb);replace Bb:=y0.mk (Kd.V_elder' (qV Bb.out) (Kd.R_base Cw) hb);replace Bk:=y0.mk (Kd.N_elder' (qN Bk.out) (Kd.R_base Cw) hb);have Cs:=y0.mk (Kd.R_lower (Kd.R_newM (M:=fun k_=>(w.heap.size≤k_)) Cw (y7 qb) (fun k_ h_=>h_)) (y7 qb));replace Aa:=y0.mk (qK Aa.out hb);replace HB:=y0.mk (y8 qb hb);(try clear hb);(try clear Cw);obtain⟨Fa,Fb,Ha⟩:=Kd.R_slice Cs.out;subst Ha)|((with_reducible refine gate_builtin (b:=.append) (xs:=#[.tmp 42,.tmp 45]) rfl ?_);at_builtin;refine Kd.N_append k36 (w0:=w) w.heap.size rfl (.tmp 42) (.tmp 45) 30 36 (.agg #[(.slice none 0 0)]) 24 rfl Tryz.underlying30 info36 rfl (by decide) (by omega) Ds Bm (⟨Bc⟩:S36) [.slice Fa Bc.length Fb] (fun k_=>(P0_ k_∨w.heap.size≤k_)∧k_≠Ab) (fun k_=>((fun k_=>(P0_ k_∨w.heap.size≤k_)∧k_≠Ab)) k_∧some k_≠(Ds:Value).ownBlock) rfl rfl ?aP (fun _ hk=>hk) ?aF ?aO ?aB ?aS ?aL ?_;(case aP=>exact(k36_mkF _ _ (⟨Bc⟩:S36) (Kd.R_reads' (Kd.R_mono (ok':=(fun k_=>((fun k_=>(P0_ k_∨w.heap.size≤k_)∧k_≠Ab)) k_∧some k_≠(Ds:Value).ownBlock)) (Kd.R_types (Kd.R_apart' (Cs.out) (Kd.N_typed Bk.out) (by decide)) Aa.out (by decide)) (fun k_ hk=>⟨⟨(.inr (hk.1.1.1)),hk.2⟩,hk.1.2⟩))).2.1 (Kd.R_F (Kd.R_mono (ok':=(fun k_=>((fun k_=>(P0_ k_∨w.heap.size≤k_)∧k_≠Ab)) k_∧some k_≠(Ds:Value).ownBlock)) (Kd.R_types (Kd.R_apart' (Cs.out) (Kd.N_typed Bk.out) (by decide)) Aa.out (by decide)) (fun k_ hk=>⟨⟨(.inr (hk.1.1.1)),hk.2⟩,hk.1.2⟩)))));(case aB=>exact qb);(case aF=>exact(fun k_ hk=>⟨(.inr (Nat.le_trans (y7 qb) hk)),Kd.freshB (g:=Ab) (o:=.cells #[.slice Al Ag.length Am] 36 (0,0)) (qk Aa.out) k_ hk⟩));(case aO=>exact(qN (Kd.N_mono Bk.out (fun _ hk=>⟨hk.1.1,hk.1.2⟩))));(case aS=>exact(y7 qb));(case aL=>have:=Fw.out;omega);intro Fc Jv ho hb hg hat;rw [← Fx.out]at ho;replace Ad:=y0.mk (Kd.V_afterv (ok:=(fun k_=>(P0_ k_∨w.heap.size≤k_)∧some k_≠(.slice Fa Bc.length Fb:Value).ownBlock∧k_≠Ab)) (qV (Kd.V_mono Ad.out (fun _ hk=>⟨⟨hk.1.1.1,⟨hk.2,hk.1.1.2⟩⟩,hk.1.2⟩))) hg hat);replace Aa:=y0.mk (blk_grown (qk Aa.out) hg (Kd.N_away Bk.out (fun _ hk=>hk.1.2)));replace Bb:=y0.mk (Kd.V_afterv (ok:=(fun k_=>(P0_ k_∨w.heap.size≤k_)∧some k_≠(.slice Fa Bc.length Fb:Value).ownBlock∧k_≠Ab)) (qV (Kd.V_mono Bb.out (fun _ hk=>⟨⟨hk.1.1.1,⟨hk.2,hk.1.1.2⟩⟩,hk.1.2⟩))) hg hat);replace HB:=y0.mk (hb);have Df:=y0.mk (ho);clear Bk Cs;clear ho hb hg hat;have Hb:(Ac:Int)≤((l0.length:Int):Int):=of_decide_eq_true qy1;obtain⟨Jc,Eh,_,Ei,_⟩:=info_parts info36;have hroom57:l0.length≤c0:=(Kd.V_reads' Ad.out).2.1;have Gc:Kd.F k36 _ _ A0 l0.length l0:=(Kd.V_at (base:=w.heap.size) Ad.out).2.2;have Hc:(0:Int)≤(Ac:Int):=of_decide_eq_true qy1;have Fd:=cut_from (P:=Tryz.prog) 30 36 .i64 Tryz.underlying30 Eh 1 Ei A0 l0.length c0 Ac Hc Hb;have Dg:=Kd.F_cut (m:=(Ac:Int).toNat) (c:=c0) Gc (by omega) hroom57;obtain⟨Ii,Dt⟩:∃ A1,A1=(if c0=(Ac:Int).toNat then A0 else(A0:Option Addr).map (·.add ((Ac:Int).toNat * 1))):=⟨_,rfl⟩;obtain⟨Ij,Du⟩:∃ c1,c1=c0 - (Ac:Int).toNat:=⟨_,rfl⟩;have Dh:Ak.length=l0.length - (Ac:Int).toNat:=(by rw [Ef.out,qD_] <;> omega);rw [show(l0).drop (Ac:Int).toNat=Ak from Ef.out.symm]at Dg;replace Dg:Kd.F k36 _ _ Ii Ak.length Ak:=(by rw [Dt];exact Dg);rw [← Dh,← Dt,← Du]at Fd;have Di:=y0.mk (show Kd.V k36 36 _ w.heap.size _ (.slice Ii Ak.length Ij) Ak from Kd.V_mk (by rw [Dh,Du];exact Nat.sub_le_sub_right hroom57 _) Dg);have Ik:=y0.mk (show Ak.length≤Ij from by rw [Dh,Du];exact Nat.sub_le_sub_right hroom57 _);clear Dg Gc hroom57 Eh Ei Du;have Jd:=y0.mk Dh;have Je:=y0.mk Dt;clear Dh Dt;replace Hb:=eq_true Hb)|((with_reducible refine gate_builtin (b:=.append) (xs:=#[.tmp 47,.tmp 50]) rfl ?_);at_builtin;refine Kd.N_append_rows k36 (w0:=w) w.heap.size rfl (.tmp 47) (.tmp 50) 30 36 (.agg #[(.slice none 0 0)]) 24 rfl Tryz.underlying30 info36 rfl (by decide) (by omega) Fc Av Ak _ _ _ (fun k_=>(P0_ k_∨w.heap.size≤k_)∧k_≠Ab) (fun k_=>((fun k_=>(P0_ k_∨w.heap.size≤k_)∧k_≠Ab)) k_∧some k_≠(Fc:Value).ownBlock) rfl rfl ?aO ?aR (fun _ hk=>hk) ?aF ?aB ?aS ?aL ?_;(case aR=>exact(by skip;exact Kd.V_F (Kd.V_mono (ok':=(fun k_=>((fun k_=>(P0_ k_∨w.heap.size≤k_)∧k_≠Ab)) k_∧some k_≠(Fc:Value).ownBlock)) (Di.out) (fun k_ hk=>⟨⟨hk.1.1,hk.1.2.2⟩,hk.2⟩))));(case aB=>exact qb);(case aF=>exact(fun k_ hk=>⟨(.inr (Nat.le_trans (y7 qb) hk)),Kd.freshB (g:=Ab) (o:=.cells #[.slice Al Ag.length Am] 36 (0,0)) (qk Aa.out) k_ hk⟩));(case aO=>exact(qN Df.out));(case aS=>exact(y7 qb));(case aL=>have:=Fy.out;omega);intro Jf Jw ho hb hg hat;rw [← Fz.out]at ho;replace Ad:=y0.mk (Kd.V_afterv (ok:=(fun k_=>(P0_ k_∨w.heap.size≤k_)∧k_≠Ab)) (qV (Kd.V_mono Ad.out (fun _ hk=>⟨⟨hk.1.1,hk.1.2.2⟩,hk.2⟩))) hg hat);replace Aa:=y0.mk (blk_grown (qk Aa.out) hg (Kd.N_away Df.out (fun _ hk=>hk.2)));replace Bb:=y0.mk (Kd.V_afterv (ok:=(fun k_=>(P0_ k_∨w.heap.size≤k_)∧k_≠Ab)) (qV (Kd.V_mono Bb.out (fun _ hk=>⟨⟨hk.1.1,hk.1.2.2⟩,hk.2⟩))) hg hat);replace Di:=y0.mk (Kd.V_afterv (ok:=(fun k_=>(P0_ k_∨w.heap.size≤k_)∧k_≠Ab)) (qV (Kd.V_mono Di.out (fun _ hk=>⟨⟨hk.1.1,hk.1.2.2⟩,hk.2⟩))) hg hat);replace HB:=y0.mk (hb);have Gd:=y0.mk (ho);clear Df;clear ho hb hg hat))
    go_ret2
    exact⟨_,by first|rfl|(simp [y14,y15] <;> rfl)|(simp [*,y14,y15] <;> rfl),Kd.N_lower (qN (Kd.N_mono Gd.out (fun _ hk=>hk.1))) HBB.out,qb⟩
end Go.Proofs.YtkajecadkkgfmaaGreatDoor.Pn
end
section
namespace Go.Proofs.YtkajecadkkgfmaaGreatDoor.Pn
open Go.RowKit Go.Proofs.YtkajecadkkgfmaaGreatDoorW.PrintWords Go.Proofs.YtkajecadkkgfmaaGreatDoorW.PrintLast Go.Proofs.YtkajecadkkgfmaaGreatDoorW.PrintMore
attribute [local go_sem] max2_int min2_int max_two min_two max_three min_three max_four min_four   -- for this text's walks alone
set_option linter.unusedVariables false
set_option linter.unusedSimpArgs false
mutual
def z8_.j0:Nat→Int→Int→Bool→List Int→Int→Int→Option (ByteArray×Int×Int)
 | 0,_,_,_,_,_,_=>none
 | k + 1,x1,x5,x13,x1000,x1001,x1002=>if x13=true then(z8_.j1 k x1 (wrap64 (x5 - 4)) x1000 x1001 x1002)else(z8_.j1 k x1 x5 x1000 x1001 x1002)
def z8_.j1:Nat→Int→Int→List Int→Int→Int→Option (ByteArray×Int×Int)
 | 0,_,_,_,_,_=>none
 | k + 1,x1,x5,x1000,x1001,x1002=>if x5=0 then(z8_.j2 k x1 x5 (x5 == 0) x1000 x1001 x1002)else(if x5=1 then(z8_.j2 k x1 x5 (x5 == 1) x1000 x1001 x1002)else(z8_.j2 k x1 x5 (x5 == 2) x1000 x1001 x1002))
def z8_.j2:Nat→Int→Int→Bool→List Int→Int→Int→Option (ByteArray×Int×Int)
 | 0,_,_,_,_,_,_=>none
 | k + 1,x1,x16,x17,x1000,x1001,x1002=>if x17=true then((some (([0,1,2,3,(-1),10,1000000,(-1000000)]:List Int):List Int)).bind fun y413=>((z6_.f x1000 x1001 x1002 8).bind fun bt416=>(if 0≤bt416.1 then(if bt416.1 < (y413.length:Int)then((spec_NumText.f k (rd y413 bt416.1)).bind fun t420=>(some (t420,bt416.2.1,bt416.2.2)))else(none))else(none))))else(if x16=3 then((some (([(⟨#[34,34]⟩:ByteArray),(⟨#[34,97,34]⟩:ByteArray),(⟨#[34,98,32,99,34]⟩:ByteArray),(⟨#[34,40,44,41,34]⟩:ByteArray),(⟨#[34,120,34]⟩:ByteArray)]:List ByteArray):List ByteArray)).bind fun y421=>((z6_.f x1000 x1001 x1002 5).bind fun bt424=>(if 0≤bt424.1 then(if bt424.1 < (y421.length:Int)then(some (rdOf ByteArray.empty y421 bt424.1,bt424.2.1,bt424.2.2))else(none))else(none))))else(if x16=4 then((some (([(⟨#[78,105,108]⟩:ByteArray),(⟨#[76,101,97,102]⟩:ByteArray),(⟨#[65]⟩:ByteArray),(⟨#[90,101,114,111]⟩:ByteArray)]:List ByteArray):List ByteArray)).bind fun y428=>((z6_.f x1000 x1001 x1002 4).bind fun bt431=>(if 0≤bt431.1 then(if bt431.1 < (y428.length:Int)then(some (rdOf ByteArray.empty y428 bt431.1,bt431.2.1,bt431.2.2))else(none))else(none))))else(if x16=5 then(z8_.j3 k x1 x16 (x16 == 5) x1000 x1001 x1002)else(z8_.j3 k x1 x16 (x16 == 6) x1000 x1001 x1002))))
def z8_.j3:Nat→Int→Int→Bool→List Int→Int→Int→Option (ByteArray×Int×Int)
 | 0,_,_,_,_,_,_=>none
 | k + 1,x1,x16,x41,x1000,x1001,x1002=>if x41=true then((z8_.f k x1000 x1001 x1002 (wrap64 (x1 - 1))).bind fun bt435=>(if 5 + bt435.1.size≤9223372036854775807 then(if((⟨#[67,111,110,115,40]⟩:ByteArray) ++ bt435.1).size + 1≤9223372036854775807 then((z8_.f k x1000 bt435.2.1 bt435.2.2 (wrap64 (x1 - 1))).bind fun bt438=>(if(((⟨#[67,111,110,115,40]⟩:ByteArray) ++ bt435.1) ++ (⟨#[44]⟩:ByteArray)).size + bt438.1.size≤9223372036854775807 then(if((((⟨#[67,111,110,115,40]⟩:ByteArray) ++ bt435.1) ++ (⟨#[44]⟩:ByteArray)) ++ bt438.1).size + 1≤9223372036854775807 then(some (((((⟨#[67,111,110,115,40]⟩:ByteArray) ++ bt435.1) ++ (⟨#[44]⟩:ByteArray)) ++ bt438.1) ++ (⟨#[41]⟩:ByteArray),bt438.2.1,bt438.2.2))else(none))else(none)))else(none))else(none)))else(if x16=7 then((z8_.f k x1000 x1001 x1002 (wrap64 (x1 - 1))).bind fun bt441=>(if 2 + bt441.1.size≤9223372036854775807 then(if((⟨#[83,40]⟩:ByteArray) ++ bt441.1).size + 1≤9223372036854775807 then(some (((⟨#[83,40]⟩:ByteArray) ++ bt441.1) ++ (⟨#[41]⟩:ByteArray),bt441.2.1,bt441.2.2))else(none))else(none)))else((z8_.f k x1000 x1001 x1002 (wrap64 (x1 - 1))).bind fun bt444=>(if 5 + bt444.1.size≤9223372036854775807 then(if((⟨#[78,111,100,101,40]⟩:ByteArray) ++ bt444.1).size + 1≤9223372036854775807 then((z8_.f k x1000 bt444.2.1 bt444.2.2 (wrap64 (x1 - 1))).bind fun bt447=>(if(((⟨#[78,111,100,101,40]⟩:ByteArray) ++ bt444.1) ++ (⟨#[44]⟩:ByteArray)).size + bt447.1.size≤9223372036854775807 then(if((((⟨#[78,111,100,101,40]⟩:ByteArray) ++ bt444.1) ++ (⟨#[44]⟩:ByteArray)) ++ bt447.1).size + 1≤9223372036854775807 then((z8_.f k x1000 bt447.2.1 bt447.2.2 (wrap64 (x1 - 1))).bind fun bt450=>(if(((((⟨#[78,111,100,101,40]⟩:ByteArray) ++ bt444.1) ++ (⟨#[44]⟩:ByteArray)) ++ bt447.1) ++ (⟨#[44]⟩:ByteArray)).size + bt450.1.size≤9223372036854775807 then(if((((((⟨#[78,111,100,101,40]⟩:ByteArray) ++ bt444.1) ++ (⟨#[44]⟩:ByteArray)) ++ bt447.1) ++ (⟨#[44]⟩:ByteArray)) ++ bt450.1).size + 1≤9223372036854775807 then(some (((((((⟨#[78,111,100,101,40]⟩:ByteArray) ++ bt444.1) ++ (⟨#[44]⟩:ByteArray)) ++ bt447.1) ++ (⟨#[44]⟩:ByteArray)) ++ bt450.1) ++ (⟨#[41]⟩:ByteArray),bt450.2.1,bt450.2.2))else(none))else(none)))else(none))else(none)))else(none))else(none))))
def z8_.f:Nat→List Int→Int→Int→Int→Option (ByteArray×Int×Int)
 | 0,_,_,_,_=>none
 | k + 1,s0_0,s0_1,s0_2,a1=>(z6_.f s0_0 s0_1 s0_2 9).bind fun bt410=>(if a1≤0 then(z8_.j0 k a1 bt410.1 (decide (bt410.1 > 4)) s0_0 bt410.2.1 bt410.2.2)else(z8_.j0 k a1 bt410.1 false s0_0 bt410.2.1 bt410.2.2))
end
set_option maxHeartbeats 8000000 in
set_option maxRecDepth 100000 in
theorem z8_.calls (k:Nat):∀(g:Nat) (Ab:List Int) (Bg:Int) (Bh:Int) (a1:Int) (r1:ByteArray) (r2:Int) (r3:Int) (w0 w:World) (hI:y2 w0 w g Ab Bg Bh) (hB:Below w0.heap.size w0 w) (h:z8_.f k Ab Bg Bh a1=some (r1,r2,r3)),
  Calls Tryz.prog 84 #[.pointer (some ⟨g,0,none⟩),.int .i64 a1] w fun e w'=>e=.returned (.string r1)∧y2 w0 w' g Ab r2 r3∧Below w0.heap.size w0 w'∧y3 w w' g none:=by
 induction k using Nat.strongRecOn with
 | _ k ih =>
 intro g Ab Bg Bh a1 r1 r2 r3 w0 w hI hB h
 cases k with
 | zero=>exact absurd h (by simp [z8_.f])
 | succ k =>
 simp only [z8_.f]at h
 have HI0:=y0.mk hI
 have HK:=y0.mk (y3.refl w g none)
 have HL:=y0.mk hB.size
 clear hI
 have Hx:=y0.mk hB.size
 have HB:=y0.mk hB
 clear hB
 have H:((z6_.f Ab Bg Bh 9).bind fun Ae=>(if a1≤0 then(z8_.j0 k a1 Ae.1 (decide (Ae.1 > 4)) Ab Ae.2.1 Ae.2.2)else(z8_.j0 k a1 Ae.1 false Ab Ae.2.1 Ae.2.2)))=some (r1,r2,r3):=h
 clear h
 obtain⟨⟨Ak,Ac,Ad⟩,A3,H⟩:=qB H
 replace H:(if a1≤0 then(z8_.j0 k a1 Ak (decide (Ak > 4)) Ab Ac Ad)else(z8_.j0 k a1 Ak false Ab Ac Ad))=some (r1,r2,r3):=H
 have Dw:=y0.mk H
 clear H
 go_enter Tryz.func84,Tryz.ntmps84
 go_upto_region 2 with(first|((with_reducible refine y16 (f:=54) rfl ?_);refine y18 (some 7) rfl rfl Tryz.func54 (by kernel_rfl) rfl #[.pointer (some ⟨g,0,none⟩),.int .i64 9] rfl qy0 ?_;(with_reducible refine(z6_.calls g Ab Bg Bh 9 Ak Ac Ad w0 _ (by repeat(first|(with_reducible first|exact HI0.out|apply y2.alloc|apply y2.drewN|apply y2.drew|apply y2.set_1|apply y2.set_2)|exact HI0.out)) (by repeat(first|(with_reducible first|exact HB.out|apply y4|apply y19|apply y5|refine y6 ?_ (y2.ge HI0.out))|exact HB.out)) A3.out).mono ?_);rintro e w5 ⟨rfl,hi,hb,hk⟩;refine⟨_,rfl, ?_⟩;replace HK:=y0.mk (y3.trans (qh (w:=w) (g:=g)) hk (.inl rfl));replace HB:=y0.mk (hb);replace HI0:=y0.mk (hi);(try clear hb hk hi)))
 (try simp only [Act.put,qS_,qZ_,qC_])
 go_cut [13] (fun Gz wc=>∃(kq:Nat) (Aw:Bool),Gz=.bool Aw∧y0 (z8_.j0 kq a1 Ak Aw Ab Ac Ad=some (r1,r2,r3))∧y0 (kq≤k)∧y0 (y2 w0 wc g Ab Ac Ad)∧y0 (y3 w wc g none)∧y0 (Below w0.heap.size w0 wc))
 case first =>
  have H:=Dw.out
  clear Dw
  by_cases c6:a1≤0
  ·rw [if_pos c6]at H
   have Bi:=decide_eq_true c6
   clear c6
   (first|rw [Bi]|(simp only [i64_w,i32_w];rw [Bi])|skip)
   have H':=y0.mk H
   clear H
   go_wp2
   go_meet
   exact⟨_,(decide (Ak > 4)),qy2,H',⟨by first|omega|exact Nat.le_refl _⟩,⟨(y2.qj (w0:=w0) (g:=g))⟩,⟨(qh (w:=w) (g:=g))⟩,⟨y2.qbI⟩⟩
  ·rw [if_neg c6]at H
   have Bi:=decide_eq_false c6
   clear c6
   (first|rw [Bi]|(simp only [i64_w,i32_w];rw [Bi])|skip)
   have H':=y0.mk H
   clear H
   go_wp2
   go_meet
   exact⟨_,(false),qy2,H',⟨by first|omega|exact Nat.le_refl _⟩,⟨(y2.qj (w0:=w0) (g:=g))⟩,⟨(qh (w:=w) (g:=g))⟩,⟨y2.qbI⟩⟩
 case rest =>
  clear Dw
  obtain⟨kq,Aw,rfl,HA,Ba,HI0,HK,HB⟩:=hcut
  cases kq with
  | zero=>exact absurd HA.out (by simp [z8_.j0])
  | succ Ha =>
   have H:=HA.out
   clear HA
   simp only [z8_.j0]at H
   have Dx:=y0.mk H
   clear H
   go_upto_if 13 with(fail)
   go_cut [5] (fun v5 wc=>∃(kq:Nat) (Aa:Int),v5=.int .i64 Aa∧y0 (z8_.j1 kq a1 Aa Ab Ac Ad=some (r1,r2,r3))∧y0 (kq≤Ha)∧y0 (y2 w0 wc g Ab Ac Ad)∧y0 (y3 w wc g none)∧y0 (Below w0.heap.size w0 wc))
   case first =>
    have H:=Dx.out
    clear Dx
    by_cases c8:Aw=true
    ·subst c8
     replace H:=qT H
     have H':=y0.mk H
     clear H
     go_wp2
     go_meet
     exact⟨_,(wrap64 (Ak - 4)),qy2,H',⟨by have:=Ba.out;first|omega|exact Nat.le_refl _⟩,⟨(y2.qj (w0:=w0) (g:=g))⟩,⟨(qh (w:=w) (g:=g))⟩,⟨y2.qbI⟩⟩
    ·replace c8:=Bool.eq_false_iff.mpr c8
     subst c8
     replace H:=qF H
     have H':=y0.mk H
     clear H
     go_wp2
     go_meet
     exact⟨_,(Ak),qy2,H',⟨by have:=Ba.out;first|omega|exact Nat.le_refl _⟩,⟨(y2.qj (w0:=w0) (g:=g))⟩,⟨(qh (w:=w) (g:=g))⟩,⟨y2.qbI⟩⟩
   case rest =>
    clear Dx
    obtain⟨kq,Aa,rfl,HA,Bj,HI0,HK,HB⟩:=hcut
    cases kq with
    | zero=>exact absurd HA.out (by simp [z8_.j1])
    | succ Hb =>
     have H:=HA.out
     clear HA
     simp only [z8_.j1]at H
     have Dy:=y0.mk H
     clear H
     go_upto_if 17 with(fail)
     go_cut [17] (fun Hc wc=>∃(kq:Nat) (Ax:Bool),Hc=.bool Ax∧y0 (z8_.j2 kq a1 Aa Ax Ab Ac Ad=some (r1,r2,r3))∧y0 (kq≤Hb)∧y0 (y2 w0 wc g Ab Ac Ad)∧y0 (y3 w wc g none)∧y0 (Below w0.heap.size w0 wc))
     case first =>
      have H:=Dy.out
      clear Dy
      by_cases Bz:Aa=0
      ·rw [if_pos Bz]at H
       have Al:(Aa == 0)=true:=beq_iff_eq.mpr Bz
       have Co:(Aa != 0)=false:=bne_eq_false_iff_eq.mpr Bz
       clear Bz
       (first|rw [Al]|(simp only [i64_w,i32_w];rw [Al])|skip)
       have H':=y0.mk H
       clear H
       go_wp2
       go_meet
       exact⟨_,((Aa == 0)),qy2,H',⟨by have:=Ba.out;have:=Bj.out;first|omega|exact Nat.le_refl _⟩,⟨(y2.qj (w0:=w0) (g:=g))⟩,⟨(qh (w:=w) (g:=g))⟩,⟨y2.qbI⟩⟩
      ·rw [if_neg Bz]at H
       have Al:(Aa == 0)=false:=beq_eq_false_iff_ne.mpr Bz
       have Co:(Aa != 0)=true:=bne_iff_ne.mpr Bz
       (first|rw [Al]|(simp only [i64_w,i32_w];rw [Al])|skip)
       by_cases Ca:Aa=1
       ·rw [if_pos Ca]at H
        have Cp:(Aa == 1)=true:=beq_iff_eq.mpr Ca
        have Cq:(Aa != 1)=false:=bne_eq_false_iff_eq.mpr Ca
        clear Ca
        have H':=y0.mk H
        clear H
        go_wp2
        go_meet
        exact⟨_,((Aa == 1)),qy2,H',⟨by have:=Ba.out;have:=Bj.out;first|omega|exact Nat.le_refl _⟩,⟨(y2.qj (w0:=w0) (g:=g))⟩,⟨(qh (w:=w) (g:=g))⟩,⟨y2.qbI⟩⟩
       ·rw [if_neg Ca]at H
        have Cp:(Aa == 1)=false:=beq_eq_false_iff_ne.mpr Ca
        have Cq:(Aa != 1)=true:=bne_iff_ne.mpr Ca
        have H':=y0.mk H
        clear H
        go_wp2
        go_meet
        exact⟨_,((Aa == 2)),qy2,H',⟨by have:=Ba.out;have:=Bj.out;first|omega|exact Nat.le_refl _⟩,⟨(y2.qj (w0:=w0) (g:=g))⟩,⟨(qh (w:=w) (g:=g))⟩,⟨y2.qbI⟩⟩
     case rest =>
      clear Dy
      obtain⟨kq,Ax,rfl,HA,Bq,HI0,HK,HB⟩:=hcut
      cases kq with
      | zero=>exact absurd HA.out (by simp [z8_.j2])
      | succ Dr =>
       have H:=HA.out
       clear HA
       simp only [z8_.j2]at H
       by_cases Cr:Ax=true
       ·subst Cr
        replace H:=qT H
        obtain⟨Am,Ao⟩:∃ y_:List Int,y_=(([0,1,2,3,(-1),10,1000000,(-1000000)]:List Int)):=⟨_,rfl⟩
        replace H:((z6_.f Ab Ac Ad 8).bind fun Ap=>(if 0≤Ap.1 then(if Ap.1 < (Am.length:Int)then((spec_NumText.f Dr (rd Am Ap.1)).bind fun Bk=>(some (Bk,Ap.2.1,Ap.2.2)))else(none))else(none)))=some (r1,r2,r3):=by first|(rw [Ao];with_reducible exact H)|(have H2_:=(Option.bind_some _ _).symm.trans H;rw [Ao];with_reducible exact H2_)|(have H2_:=(Option.bind_some _ _).symm.trans H;with_reducible exact H2_)|with_reducible exact H|(rw [Ao];exact H)|exact H
        have Br:=y0.mk Ao
        clear Ao
        obtain⟨⟨Af,Cs,Ct⟩,Hd,H⟩:=qB H
        replace H:(if 0≤Af then(if Af < (Am.length:Int)then((spec_NumText.f Dr (rd Am Af)).bind fun Bk=>(some (Bk,Cs,Ct)))else(none))else(none))=some (r1,r2,r3):=H
        obtain⟨Ez,H⟩:=qo H
        have Fa:decide (0≤Af)=true:=decide_eq_true Ez
        clear Ez
        obtain⟨Fb,H⟩:=qo H
        have Fc:decide (Af < (Am.length:Int))=true:=decide_eq_true Fb
        clear Fb
        obtain⟨Bk,He,H⟩:=qB H
        simp only [Option.some.injEq,Prod.mk.injEq]at H
        obtain⟨rfl,rfl,rfl⟩:=H
        go_wp2_with (first|((with_reducible refine y17 (N:=21) rfl ?_);refine qL (Kd.int .i64) 3 21 ([0,1,2,3,(-1),10,1000000,(-1000000)]:List Int) ?_;intro Hf Hy Bl hb hg_ hnew_;clear hg_ hnew_;(first|rw [← Br.out]at Bl|(simp only [Int.reduceToNat]at Bl;rw [← Br.out]at Bl));have Ag:=y0.mk (Kd.R_lower Bl (keep_size (w:=w) (g:=g) (row:=none) (qh (w:=w) (g:=g))));replace HI0:=y0.mk (y2.below (y2.qj (w0:=w0) (g:=g)) hb);replace HK:=y0.mk (y3.trans (qh (w:=w) (g:=g)) (y3.of_below hb g none) (.inl rfl));replace HB:=y0.mk (y8 y2.qbI hb);clear hb Bl)|((with_reducible refine y16 (f:=54) rfl ?_);refine y18 (some 23) rfl rfl Tryz.func54 (by kernel_rfl) rfl #[.pointer (some ⟨g,0,none⟩),.int .i64 8] rfl qy0 ?_;(with_reducible refine(z6_.calls g Ab Ac Ad 8 Af Cs Ct w0 _ (by repeat(first|(with_reducible first|exact HI0.out|apply y2.alloc|apply y2.drewN|apply y2.drew|apply y2.set_1|apply y2.set_2)|exact HI0.out)) (by repeat(first|(with_reducible first|exact HB.out|apply y4|apply y19|apply y5|refine y6 ?_ (y2.ge HI0.out))|exact HB.out)) Hd.out).mono ?_);rintro e Hz ⟨rfl,hi,hb,hk⟩;refine⟨_,rfl, ?_⟩;replace Ag:=y0.mk (Kd.R_mono (Kd.R_keep (y2.apart (show y2 w0 _ g Ab Ac Ad from(y2.qj (w0:=w0) (g:=g))) (qR Ag.out) (by decide)) hk (fun _ h=>h.2)) (fun _ h=>h.1));replace HK:=y0.mk (y3.trans (qh (w:=w) (g:=g)) hk (.inl rfl));replace HB:=y0.mk (hb);replace HI0:=y0.mk (hi);(try clear hb hk hi);obtain⟨Hg,Hh,Dz⟩:=Kd.R_slice Ag.out;subst Dz;have Cb:0≤(Af:Int):=of_decide_eq_true qy1;have Cc:Af < (Am.length:Int):=of_decide_eq_true qy1;obtain⟨Fd,Ea,Ds⟩:=Kd.at_int (Kd.R_reads' Ag.out).2.2 Af Cb Cc;cases Ea;replace Cb:=eq_true Cb;replace Cc:=eq_true Cc)|((with_reducible refine y16 (f:=81) rfl ?_);refine y18 (some 26) rfl rfl Tryz.func81 (by kernel_rfl) rfl #[.int .i64 (rd Am Af)] rfl qy0 ?_;(with_reducible refine(spec_NumText.calls Dr (rd Am Af) Bk _ He.out).mono ?_);rintro e Ia ⟨rfl,hb⟩;refine⟨_,rfl, ?_⟩;replace Ag:=y0.mk (Kd.R_below (qR Ag.out) hb);replace HI0:=y0.mk (y2.below (y2.qj (w0:=w0) (g:=g)) hb);replace HK:=y0.mk (y3.trans (qh (w:=w) (g:=g)) (y3.of_below hb g none) (.inl rfl));replace HB:=y0.mk (y8 y2.qbI hb);(try clear hb)))
        go_ret
        exact⟨qf,(y2.qj (w0:=w0) (g:=g)),y2.qbI,(qh (w:=w) (g:=g))⟩
       ·replace Cr:=Bool.eq_false_iff.mpr Cr
        subst Cr
        replace H:=qF H
        by_cases Cd:Aa=3
        ·rw [if_pos Cd]at H
         have Bs:(Aa == 3)=true:=beq_iff_eq.mpr Cd
         have Bt:(Aa != 3)=false:=bne_eq_false_iff_eq.mpr Cd
         clear Cd
         obtain⟨Bb,Aq⟩:∃ y_:List ByteArray,y_=(([(⟨#[34,34]⟩:ByteArray),(⟨#[34,97,34]⟩:ByteArray),(⟨#[34,98,32,99,34]⟩:ByteArray),(⟨#[34,40,44,41,34]⟩:ByteArray),(⟨#[34,120,34]⟩:ByteArray)]:List ByteArray)):=⟨_,rfl⟩
         replace H:((z6_.f Ab Ac Ad 5).bind fun As=>(if 0≤As.1 then(if As.1 < (Bb.length:Int)then(some (rdOf ByteArray.empty Bb As.1,As.2.1,As.2.2))else(none))else(none)))=some (r1,r2,r3):=by first|(rw [Aq];with_reducible exact H)|(have H2_:=(Option.bind_some _ _).symm.trans H;rw [Aq];with_reducible exact H2_)|(have H2_:=(Option.bind_some _ _).symm.trans H;with_reducible exact H2_)|with_reducible exact H|(rw [Aq];exact H)|exact H
         have Bu:=y0.mk Aq
         clear Aq
         obtain⟨⟨Ah,Cu,Cv⟩,Hi,H⟩:=qB H
         replace H:(if 0≤Ah then(if Ah < (Bb.length:Int)then(some (rdOf ByteArray.empty Bb Ah,Cu,Cv))else(none))else(none))=some (r1,r2,r3):=H
         obtain⟨Fe,H⟩:=qo H
         have Ff:decide (0≤Ah)=true:=decide_eq_true Fe
         clear Fe
         obtain⟨Fg,H⟩:=qo H
         have Fh:decide (Ah < (Bb.length:Int))=true:=decide_eq_true Fg
         clear Fg
         simp only [Option.some.injEq,Prod.mk.injEq]at H
         obtain⟨rfl,rfl,rfl⟩:=H
         go_wp2_with (first|((with_reducible refine y17 (N:=29) rfl ?_);refine qL Kd.string 9 29 ([(⟨#[34,34]⟩:ByteArray),(⟨#[34,97,34]⟩:ByteArray),(⟨#[34,98,32,99,34]⟩:ByteArray),(⟨#[34,40,44,41,34]⟩:ByteArray),(⟨#[34,120,34]⟩:ByteArray)]:List ByteArray) ?_;intro Hj Ib Bm hb hg_ hnew_;clear hg_ hnew_;(first|rw [← Bu.out]at Bm|(simp only [Int.reduceToNat]at Bm;rw [← Bu.out]at Bm));have Ay:=y0.mk (Kd.R_lower Bm (keep_size (w:=w) (g:=g) (row:=none) (qh (w:=w) (g:=g))));replace HI0:=y0.mk (y2.below (y2.qj (w0:=w0) (g:=g)) hb);replace HK:=y0.mk (y3.trans (qh (w:=w) (g:=g)) (y3.of_below hb g none) (.inl rfl));replace HB:=y0.mk (y8 y2.qbI hb);clear hb Bm)|((with_reducible refine y16 (f:=54) rfl ?_);refine y18 (some 31) rfl rfl Tryz.func54 (by kernel_rfl) rfl #[.pointer (some ⟨g,0,none⟩),.int .i64 5] rfl qy0 ?_;(with_reducible refine(z6_.calls g Ab Ac Ad 5 Ah Cu Cv w0 _ (by repeat(first|(with_reducible first|exact HI0.out|apply y2.alloc|apply y2.drewN|apply y2.drew|apply y2.set_1|apply y2.set_2)|exact HI0.out)) (by repeat(first|(with_reducible first|exact HB.out|apply y4|apply y19|apply y5|refine y6 ?_ (y2.ge HI0.out))|exact HB.out)) Hi.out).mono ?_);rintro e Ic ⟨rfl,hi,hb,hk⟩;refine⟨_,rfl, ?_⟩;replace Ay:=y0.mk (Kd.R_mono (Kd.R_keep (y2.apart (show y2 w0 _ g Ab Ac Ad from(y2.qj (w0:=w0) (g:=g))) (qR Ay.out) (by decide)) hk (fun _ h=>h.2)) (fun _ h=>h.1));replace HK:=y0.mk (y3.trans (qh (w:=w) (g:=g)) hk (.inl rfl));replace HB:=y0.mk (hb);replace HI0:=y0.mk (hi);(try clear hb hk hi);obtain⟨Hk,Hl,Eb⟩:=Kd.R_slice Ay.out;subst Eb;have Ce:0≤(Ah:Int):=of_decide_eq_true qy1;have Cf:Ah < (Bb.length:Int):=of_decide_eq_true qy1;obtain⟨Fi,Ec,Dt⟩:=Kd.at_string (Kd.R_reads' Ay.out).2.2 Ah Ce Cf;cases Ec;replace Ce:=eq_true Ce;replace Cf:=eq_true Cf))
         go_ret
         exact⟨qf,(y2.qj (w0:=w0) (g:=g)),y2.qbI,(qh (w:=w) (g:=g))⟩
        ·rw [if_neg Cd]at H
         have Bs:(Aa == 3)=false:=beq_eq_false_iff_ne.mpr Cd
         have Bt:(Aa != 3)=true:=bne_iff_ne.mpr Cd
         by_cases Cg:Aa=4
         ·rw [if_pos Cg]at H
          have Bv:(Aa == 4)=true:=beq_iff_eq.mpr Cg
          have Bw:(Aa != 4)=false:=bne_eq_false_iff_eq.mpr Cg
          clear Cg
          obtain⟨Bc,At⟩:∃ y_:List ByteArray,y_=(([(⟨#[78,105,108]⟩:ByteArray),(⟨#[76,101,97,102]⟩:ByteArray),(⟨#[65]⟩:ByteArray),(⟨#[90,101,114,111]⟩:ByteArray)]:List ByteArray)):=⟨_,rfl⟩
          replace H:((z6_.f Ab Ac Ad 4).bind fun Au=>(if 0≤Au.1 then(if Au.1 < (Bc.length:Int)then(some (rdOf ByteArray.empty Bc Au.1,Au.2.1,Au.2.2))else(none))else(none)))=some (r1,r2,r3):=by first|(rw [At];with_reducible exact H)|(have H2_:=(Option.bind_some _ _).symm.trans H;rw [At];with_reducible exact H2_)|(have H2_:=(Option.bind_some _ _).symm.trans H;with_reducible exact H2_)|with_reducible exact H|(rw [At];exact H)|exact H
          have Bx:=y0.mk At
          clear At
          obtain⟨⟨Ai,Cw,Cx⟩,Hm,H⟩:=qB H
          replace H:(if 0≤Ai then(if Ai < (Bc.length:Int)then(some (rdOf ByteArray.empty Bc Ai,Cw,Cx))else(none))else(none))=some (r1,r2,r3):=H
          obtain⟨Fj,H⟩:=qo H
          have Fk:decide (0≤Ai)=true:=decide_eq_true Fj
          clear Fj
          obtain⟨Fl,H⟩:=qo H
          have Fm:decide (Ai < (Bc.length:Int))=true:=decide_eq_true Fl
          clear Fl
          simp only [Option.some.injEq,Prod.mk.injEq]at H
          obtain⟨rfl,rfl,rfl⟩:=H
          go_wp2_with (first|((with_reducible refine y17 (N:=36) rfl ?_);refine qL Kd.string 9 36 ([(⟨#[78,105,108]⟩:ByteArray),(⟨#[76,101,97,102]⟩:ByteArray),(⟨#[65]⟩:ByteArray),(⟨#[90,101,114,111]⟩:ByteArray)]:List ByteArray) ?_;intro Hn Id Bn hb hg_ hnew_;clear hg_ hnew_;(first|rw [← Bx.out]at Bn|(simp only [Int.reduceToNat]at Bn;rw [← Bx.out]at Bn));have Az:=y0.mk (Kd.R_lower Bn (keep_size (w:=w) (g:=g) (row:=none) (qh (w:=w) (g:=g))));replace HI0:=y0.mk (y2.below (y2.qj (w0:=w0) (g:=g)) hb);replace HK:=y0.mk (y3.trans (qh (w:=w) (g:=g)) (y3.of_below hb g none) (.inl rfl));replace HB:=y0.mk (y8 y2.qbI hb);clear hb Bn)|((with_reducible refine y16 (f:=54) rfl ?_);refine y18 (some 38) rfl rfl Tryz.func54 (by kernel_rfl) rfl #[.pointer (some ⟨g,0,none⟩),.int .i64 4] rfl qy0 ?_;(with_reducible refine(z6_.calls g Ab Ac Ad 4 Ai Cw Cx w0 _ (by repeat(first|(with_reducible first|exact HI0.out|apply y2.alloc|apply y2.drewN|apply y2.drew|apply y2.set_1|apply y2.set_2)|exact HI0.out)) (by repeat(first|(with_reducible first|exact HB.out|apply y4|apply y19|apply y5|refine y6 ?_ (y2.ge HI0.out))|exact HB.out)) Hm.out).mono ?_);rintro e Ie ⟨rfl,hi,hb,hk⟩;refine⟨_,rfl, ?_⟩;replace Az:=y0.mk (Kd.R_mono (Kd.R_keep (y2.apart (show y2 w0 _ g Ab Ac Ad from(y2.qj (w0:=w0) (g:=g))) (qR Az.out) (by decide)) hk (fun _ h=>h.2)) (fun _ h=>h.1));replace HK:=y0.mk (y3.trans (qh (w:=w) (g:=g)) hk (.inl rfl));replace HB:=y0.mk (hb);replace HI0:=y0.mk (hi);(try clear hb hk hi);obtain⟨Ho,Hp,Ed⟩:=Kd.R_slice Az.out;subst Ed;have Ch:0≤(Ai:Int):=of_decide_eq_true qy1;have Ci:Ai < (Bc.length:Int):=of_decide_eq_true qy1;obtain⟨Fn,Ee,Du⟩:=Kd.at_string (Kd.R_reads' Az.out).2.2 Ai Ch Ci;cases Ee;replace Ch:=eq_true Ch;replace Ci:=eq_true Ci))
          go_ret
          exact⟨qf,(y2.qj (w0:=w0) (g:=g)),y2.qbI,(qh (w:=w) (g:=g))⟩
         ·rw [if_neg Cg]at H
          have Bv:(Aa == 4)=false:=beq_eq_false_iff_ne.mpr Cg
          have Bw:(Aa != 4)=true:=bne_iff_ne.mpr Cg
          have Cj:=y0.mk H
          clear H
          go_upto_if 41 with(fail)
          go_cut [41] (fun Hq wc=>∃(kq:Nat) (Aj:Bool),Hq=.bool Aj∧y0 (z8_.j3 kq a1 Aa Aj Ab Ac Ad=some (r1,r2,r3))∧y0 (kq≤Dr)∧y0 (y2 w0 wc g Ab Ac Ad)∧y0 (y3 w wc g none)∧y0 (Below w0.heap.size w0 wc))
          case first =>
           have H:=Cj.out
           clear Cj
           by_cases Ck:Aa=5
           ·rw [if_pos Ck]at H
            have Av:(Aa == 5)=true:=beq_iff_eq.mpr Ck
            have Cy:(Aa != 5)=false:=bne_eq_false_iff_eq.mpr Ck
            clear Ck
            (first|rw [Av]|(simp only [i64_w,i32_w];rw [Av])|skip)
            have H':=y0.mk H
            clear H
            go_wp2
            go_meet
            exact⟨_,((Aa == 5)),qy2,H',⟨by have:=Ba.out;have:=Bj.out;have:=Bq.out;first|omega|exact Nat.le_refl _⟩,⟨(y2.qj (w0:=w0) (g:=g))⟩,⟨(qh (w:=w) (g:=g))⟩,⟨y2.qbI⟩⟩
           ·rw [if_neg Ck]at H
            have Av:(Aa == 5)=false:=beq_eq_false_iff_ne.mpr Ck
            have Cy:(Aa != 5)=true:=bne_iff_ne.mpr Ck
            (first|rw [Av]|(simp only [i64_w,i32_w];rw [Av])|skip)
            have H':=y0.mk H
            clear H
            go_wp2
            go_meet
            exact⟨_,((Aa == 6)),qy2,H',⟨by have:=Ba.out;have:=Bj.out;have:=Bq.out;first|omega|exact Nat.le_refl _⟩,⟨(y2.qj (w0:=w0) (g:=g))⟩,⟨(qh (w:=w) (g:=g))⟩,⟨y2.qbI⟩⟩
          case rest =>
           clear Cj
           (try clear Cr Bs Bt Bv Bw)
           obtain⟨kq,Aj,rfl,HA,Bd,HI0,HK,HB⟩:=hcut
           cases kq with
           | zero=>exact absurd HA.out (by simp [z8_.j3])
           | succ Be =>
            have H:=HA.out
            clear HA
            simp only [z8_.j3]at H
            by_cases Dv:Aj=true
            ·subst Dv
             replace H:=qT H
             obtain⟨⟨Bp,Cz,Da⟩,Hr,H⟩:=qB H
             dsimp only at H
             obtain⟨Ef,H⟩:=qo H
             have Fo:=eq_true Ef
             have Fp:=decide_eq_true Ef
             have Fq:=eq_false (Nat.not_lt.2 Ef)
             obtain⟨Eg,H⟩:=qo H
             have Fr:=eq_true Eg
             have Fs:=decide_eq_true Eg
             have Db:=eq_false (Nat.not_lt.2 Eg)
             have Ft:(9223372036854775807 < 5 + Bp.size + 1)=False:=qs Db
             obtain⟨⟨Cl,Eh,Ei⟩,Hs,H⟩:=qB H
             dsimp only at H
             obtain⟨Ej,H⟩:=qo H
             have Fu:=eq_true Ej
             have Fv:=decide_eq_true Ej
             have Dc:=eq_false (Nat.not_lt.2 Ej)
             have Fw:(9223372036854775807 < 5 + Bp.size + 1 + Cl.size)=False:=qs Dc
             obtain⟨Ek,H⟩:=qo H
             have Fx:=eq_true Ek
             have Fy:=decide_eq_true Ek
             have Dd:=eq_false (Nat.not_lt.2 Ek)
             have Fz:(9223372036854775807 < 5 + Bp.size + 1 + Cl.size + 1)=False:=qs Dd
             simp only [Option.some.injEq,Prod.mk.injEq]at H
             obtain⟨rfl,rfl,rfl⟩:=H
             go_wp2_with (first|((with_reducible refine y16 (f:=84) rfl ?_);refine y18 (some 47) rfl rfl Tryz.func84 (by kernel_rfl) rfl #[.pointer (some ⟨g,0,none⟩),.int .i64 (wrap64 (a1 - 1))] rfl qy0 ?_;(with_reducible refine(ih Be (by have:=Ba.out;have:=Bj.out;have:=Bq.out;have:=Bd.out;omega) g Ab Ac Ad (wrap64 (a1 - 1)) Bp Cz Da w0 _ (by repeat(first|(with_reducible first|exact HI0.out|apply y2.alloc|apply y2.drewN|apply y2.drew|apply y2.set_1|apply y2.set_2)|exact HI0.out)) (by repeat(first|(with_reducible first|exact HB.out|apply y4|apply y19|apply y5|refine y6 ?_ (y2.ge HI0.out))|exact HB.out)) Hr.out).mono ?_);rintro e Ig ⟨rfl,hi,hb,hk⟩;refine⟨_,rfl, ?_⟩;replace HK:=y0.mk (y3.trans (qh (w:=w) (g:=g)) hk (.inl rfl));replace HB:=y0.mk (hb);replace HI0:=y0.mk (hi);(try clear hb hk hi))|((with_reducible refine y16 (f:=84) rfl ?_);refine y18 (some 53) rfl rfl Tryz.func84 (by kernel_rfl) rfl #[.pointer (some ⟨g,0,none⟩),.int .i64 (wrap64 (a1 - 1))] rfl qy0 ?_;(with_reducible refine(ih Be (by have:=Ba.out;have:=Bj.out;have:=Bq.out;have:=Bd.out;omega) g Ab Cz Da (wrap64 (a1 - 1)) Cl Eh Ei w0 _ (by repeat(first|(with_reducible first|exact HI0.out|apply y2.alloc|apply y2.drewN|apply y2.drew|apply y2.set_1|apply y2.set_2)|exact HI0.out)) (by repeat(first|(with_reducible first|exact HB.out|apply y4|apply y19|apply y5|refine y6 ?_ (y2.ge HI0.out))|exact HB.out)) Hs.out).mono ?_);rintro e Ih ⟨rfl,hi,hb,hk⟩;refine⟨_,rfl, ?_⟩;replace HK:=y0.mk (y3.trans (qh (w:=w) (g:=g)) hk (.inl rfl));replace HB:=y0.mk (hb);replace HI0:=y0.mk (hi);(try clear hb hk hi)))
             go_ret
             exact⟨qf,(y2.qj (w0:=w0) (g:=g)),y2.qbI,(qh (w:=w) (g:=g))⟩
            ·replace Dv:=Bool.eq_false_iff.mpr Dv
             subst Dv
             replace H:=qF H
             by_cases Cm:Aa=7
             ·rw [if_pos Cm]at H
              have De:(Aa == 7)=true:=beq_iff_eq.mpr Cm
              have Df:(Aa != 7)=false:=bne_eq_false_iff_eq.mpr Cm
              clear Cm
              obtain⟨⟨Dg,El,Em⟩,Ht,H⟩:=qB H
              dsimp only at H
              obtain⟨En,H⟩:=qo H
              have Ga:=eq_true En
              have Gb:=decide_eq_true En
              have Gc:=eq_false (Nat.not_lt.2 En)
              obtain⟨Eo,H⟩:=qo H
              have Gd:=eq_true Eo
              have Ge:=decide_eq_true Eo
              have Dh:=eq_false (Nat.not_lt.2 Eo)
              have Gf:(9223372036854775807 < 2 + Dg.size + 1)=False:=qs Dh
              simp only [Option.some.injEq,Prod.mk.injEq]at H
              obtain⟨rfl,rfl,rfl⟩:=H
              go_wp2_with (first|((with_reducible refine y16 (f:=84) rfl ?_);refine y18 (some 61) rfl rfl Tryz.func84 (by kernel_rfl) rfl #[.pointer (some ⟨g,0,none⟩),.int .i64 (wrap64 (a1 - 1))] rfl qy0 ?_;(with_reducible refine(ih Be (by have:=Ba.out;have:=Bj.out;have:=Bq.out;have:=Bd.out;omega) g Ab Ac Ad (wrap64 (a1 - 1)) Dg El Em w0 _ (by repeat(first|(with_reducible first|exact HI0.out|apply y2.alloc|apply y2.drewN|apply y2.drew|apply y2.set_1|apply y2.set_2)|exact HI0.out)) (by repeat(first|(with_reducible first|exact HB.out|apply y4|apply y19|apply y5|refine y6 ?_ (y2.ge HI0.out))|exact HB.out)) Ht.out).mono ?_);rintro e Ii ⟨rfl,hi,hb,hk⟩;refine⟨_,rfl, ?_⟩;replace HK:=y0.mk (y3.trans (qh (w:=w) (g:=g)) hk (.inl rfl));replace HB:=y0.mk (hb);replace HI0:=y0.mk (hi);(try clear hb hk hi)))
              go_ret
              exact⟨qf,(y2.qj (w0:=w0) (g:=g)),y2.qbI,(qh (w:=w) (g:=g))⟩
             ·rw [if_neg Cm]at H
              have De:(Aa == 7)=false:=beq_eq_false_iff_ne.mpr Cm
              have Df:(Aa != 7)=true:=bne_iff_ne.mpr Cm
              obtain⟨⟨Bf,Di,Dj⟩,Hu,H⟩:=qB H
              dsimp only at H
              obtain⟨Ep,H⟩:=qo H
              have Gg:=eq_true Ep
              have Gh:=decide_eq_true Ep
              have Gi:=eq_false (Nat.not_lt.2 Ep)
              obtain⟨Er,H⟩:=qo H
              have Gj:=eq_true Er
              have Gk:=decide_eq_true Er
              have Dk:=eq_false (Nat.not_lt.2 Er)
              have Gl:(9223372036854775807 < 5 + Bf.size + 1)=False:=qs Dk
              obtain⟨⟨Bo,Dl,Dm⟩,Hv,H⟩:=qB H
              dsimp only at H
              obtain⟨Es,H⟩:=qo H
              have Gm:=eq_true Es
              have Gn:=decide_eq_true Es
              have Dn:=eq_false (Nat.not_lt.2 Es)
              have Gp:(9223372036854775807 < 5 + Bf.size + 1 + Bo.size)=False:=qs Dn
              obtain⟨Et,H⟩:=qo H
              have Gq:=eq_true Et
              have Gr:=decide_eq_true Et
              have Do:=eq_false (Nat.not_lt.2 Et)
              have Gs:(9223372036854775807 < 5 + Bf.size + 1 + Bo.size + 1)=False:=qs Do
              obtain⟨⟨Cn,Eu,Ew⟩,Hw,H⟩:=qB H
              dsimp only at H
              obtain⟨Ex,H⟩:=qo H
              have Gt:=eq_true Ex
              have Gu:=decide_eq_true Ex
              have Dp:=eq_false (Nat.not_lt.2 Ex)
              have Gv:(9223372036854775807 < 5 + Bf.size + 1 + Bo.size + 1 + Cn.size)=False:=qs Dp
              obtain⟨Ey,H⟩:=qo H
              have Gw:=eq_true Ey
              have Gx:=decide_eq_true Ey
              have Dq:=eq_false (Nat.not_lt.2 Ey)
              have Gy:(9223372036854775807 < 5 + Bf.size + 1 + Bo.size + 1 + Cn.size + 1)=False:=qs Dq
              simp only [Option.some.injEq,Prod.mk.injEq]at H
              obtain⟨rfl,rfl,rfl⟩:=H
              go_wp2_with (first|((with_reducible refine y16 (f:=84) rfl ?_);refine y18 (some 67) rfl rfl Tryz.func84 (by kernel_rfl) rfl #[.pointer (some ⟨g,0,none⟩),.int .i64 (wrap64 (a1 - 1))] rfl qy0 ?_;(with_reducible refine(ih Be (by have:=Ba.out;have:=Bj.out;have:=Bq.out;have:=Bd.out;omega) g Ab Ac Ad (wrap64 (a1 - 1)) Bf Di Dj w0 _ (by repeat(first|(with_reducible first|exact HI0.out|apply y2.alloc|apply y2.drewN|apply y2.drew|apply y2.set_1|apply y2.set_2)|exact HI0.out)) (by repeat(first|(with_reducible first|exact HB.out|apply y4|apply y19|apply y5|refine y6 ?_ (y2.ge HI0.out))|exact HB.out)) Hu.out).mono ?_);rintro e Ij ⟨rfl,hi,hb,hk⟩;refine⟨_,rfl, ?_⟩;replace HK:=y0.mk (y3.trans (qh (w:=w) (g:=g)) hk (.inl rfl));replace HB:=y0.mk (hb);replace HI0:=y0.mk (hi);(try clear hb hk hi))|((with_reducible refine y16 (f:=84) rfl ?_);refine y18 (some 73) rfl rfl Tryz.func84 (by kernel_rfl) rfl #[.pointer (some ⟨g,0,none⟩),.int .i64 (wrap64 (a1 - 1))] rfl qy0 ?_;(with_reducible refine(ih Be (by have:=Ba.out;have:=Bj.out;have:=Bq.out;have:=Bd.out;omega) g Ab Di Dj (wrap64 (a1 - 1)) Bo Dl Dm w0 _ (by repeat(first|(with_reducible first|exact HI0.out|apply y2.alloc|apply y2.drewN|apply y2.drew|apply y2.set_1|apply y2.set_2)|exact HI0.out)) (by repeat(first|(with_reducible first|exact HB.out|apply y4|apply y19|apply y5|refine y6 ?_ (y2.ge HI0.out))|exact HB.out)) Hv.out).mono ?_);rintro e Ik ⟨rfl,hi,hb,hk⟩;refine⟨_,rfl, ?_⟩;replace HK:=y0.mk (y3.trans (qh (w:=w) (g:=g)) hk (.inl rfl));replace HB:=y0.mk (hb);replace HI0:=y0.mk (hi);(try clear hb hk hi))|((with_reducible refine y16 (f:=84) rfl ?_);refine y18 (some 79) rfl rfl Tryz.func84 (by kernel_rfl) rfl #[.pointer (some ⟨g,0,none⟩),.int .i64 (wrap64 (a1 - 1))] rfl qy0 ?_;(with_reducible refine(ih Be (by have:=Ba.out;have:=Bj.out;have:=Bq.out;have:=Bd.out;omega) g Ab Dl Dm (wrap64 (a1 - 1)) Cn Eu Ew w0 _ (by repeat(first|(with_reducible first|exact HI0.out|apply y2.alloc|apply y2.drewN|apply y2.drew|apply y2.set_1|apply y2.set_2)|exact HI0.out)) (by repeat(first|(with_reducible first|exact HB.out|apply y4|apply y19|apply y5|refine y6 ?_ (y2.ge HI0.out))|exact HB.out)) Hw.out).mono ?_);rintro e Il ⟨rfl,hi,hb,hk⟩;refine⟨_,rfl, ?_⟩;replace HK:=y0.mk (y3.trans (qh (w:=w) (g:=g)) hk (.inl rfl));replace HB:=y0.mk (hb);replace HI0:=y0.mk (hi);(try clear hb hk hi)))
              go_ret
              exact⟨qf,(y2.qj (w0:=w0) (g:=g)),y2.qbI,(qh (w:=w) (g:=g))⟩
end Go.Proofs.YtkajecadkkgfmaaGreatDoor.Pn
end
