-- Cut by prune.py, a program of this session, out of the texts of this claim: Lean checks it.
import Derived.Test.YtkdabljlfbmpdaaVolPox0
import Derived.Test.YtkdabljlfbmpdaaVolPox4
import Derived.Test.YtkdabljlfbmpdaaVolPox8
namespace Go.Proofs.Ytkdabljlfbmpdaa.Po
open Go.RowKit Go.Proofs.YtkdabljlfbmpdaaW.PrintWords Go.Proofs.YtkdabljlfbmpdaaW.PrintLast Go.Proofs.YtkdabljlfbmpdaaW.PrintMore
attribute [local go_sem] max2_int min2_int max_two min_two max_three min_three max_four min_four   -- for this text's walks alone
set_option linter.unusedVariables false
set_option linter.unusedSimpArgs false
mutual
def spec_l08Old.l0:Nat→List ByteArray→List Bool→Int→List (S63)→Int→ByteArray→List Int→List (S33)→Option (List ByteArray)
 | 0,_,_,_,_,_,_,_,_=>none
 | k + 1,x3,x4,x5,x283000,x283001,x283002,x283003,x283004=>if x5 < (x283004.length:Int)then(spec_l08Old.l1 k x3 x4 x5 0 x283000 x283001 x283002 x283003 x283004)else(spec_l08Old.l3 k x3 x283000 x283001 x283002 x283003 x283004)
def spec_l08Old.l1:Nat→List ByteArray→List Bool→Int→Int→List (S63)→Int→ByteArray→List Int→List (S33)→Option (List ByteArray)
 | 0,_,_,_,_,_,_,_,_,_=>none
 | k + 1,x3,x4,x5,x6,x283000,x283001,x283002,x283003,x283004=>if 0≤x5 then(if x5 < (x283004.length:Int)then(if x6 < (((y20 x283004 x5).f2).length:Int)then(spec_l08Old.j2 k x3 x4 x5 x6 (((y20 x283004 x5).f0) == 1) x283000 x283001 x283002 x283003 x283004)else(spec_l08Old.j2 k x3 x4 x5 x6 false x283000 x283001 x283002 x283003 x283004))else(none))else(none)
def spec_l08Old.j2:Nat→List ByteArray→List Bool→Int→Int→Bool→List (S63)→Int→ByteArray→List Int→List (S33)→Option (List ByteArray)
 | 0,_,_,_,_,_,_,_,_,_,_=>none
 | k + 1,x3,x4,x5,x6,x44,x283000,x283001,x283002,x283003,x283004=>if x44=true then(if 0≤x5 then(if x5 < (x283004.length:Int)then(if 0≤x6 then(if x6 < (((y20 x283004 x5).f2).length:Int)then((z10_.f k x283000 x283001 x283002 x283003 x283004 (rd ((y20 x283004 x5).f2) x6)).bind fun t293=>(spec_l08Old.l2 k x3 x4 x5 x6 t293 0 x283000 x283001 x283002 x283003 x283004))else(none))else(none))else(none))else(none))else(spec_l08Old.l0 k x3 x4 (wrap64 (x5 + 1)) x283000 x283001 x283002 x283003 x283004)
def spec_l08Old.l2:Nat→List ByteArray→List Bool→Int→Int→List Bool→Int→List (S63)→Int→ByteArray→List Int→List (S33)→Option (List ByteArray)
 | 0,_,_,_,_,_,_,_,_,_,_,_=>none
 | k + 1,x3,x4,x5,x6,x7,x8,x283000,x283001,x283002,x283003,x283004=>if x8 < (x7.length:Int)then(if 0≤x8 then(if rdOf false x7 x8=true then(if x8 < (x283000.length:Int)then(if((y21 x283000 x8).f0)=1 then(if x8 < (x4.length:Int)then(if rdOf false x4 x8=true then(spec_l08Old.l2 k x3 x4 x5 x6 x7 (wrap64 (x8 + 1)) x283000 x283001 x283002 x283003 x283004)else(if x3.length < 8796093022208 then(spec_l08Old.l2 k (x3 ++ [(y21 x283000 x8).f1]) x4 x5 x6 x7 (wrap64 (x8 + 1)) x283000 x283001 x283002 x283003 x283004)else(none)))else(none))else(spec_l08Old.l2 k x3 x4 x5 x6 x7 (wrap64 (x8 + 1)) x283000 x283001 x283002 x283003 x283004))else(none))else(spec_l08Old.l2 k x3 x4 x5 x6 x7 (wrap64 (x8 + 1)) x283000 x283001 x283002 x283003 x283004))else(none))else(spec_l08Old.l1 k x3 x4 x5 (wrap64 (x6 + 1)) x283000 x283001 x283002 x283003 x283004)
def spec_l08Old.l3:Nat→List ByteArray→List (S63)→Int→ByteArray→List Int→List (S33)→Option (List ByteArray)
 | 0,_,_,_,_,_,_=>none
 | k + 1,x3,x283000,x283001,x283002,x283003,x283004=>spec_l08Old.l4 k x3 false 0 x283000 x283001 x283002 x283003 x283004
def spec_l08Old.l4:Nat→List ByteArray→Bool→Int→List (S63)→Int→ByteArray→List Int→List (S33)→Option (List ByteArray)
 | 0,_,_,_,_,_,_,_,_=>none
 | k + 1,x3,x9,x10,x283000,x283001,x283002,x283003,x283004=>if x10 < (x283004.length:Int)then(if 0≤x10 then(spec_l08Old.l5 k x3 x9 x10 0 x283000 x283001 x283002 x283003 x283004 ((y20 x283004 x10).f0) ((y20 x283004 x10).f1) ((y20 x283004 x10).f2))else(none))else(if x9=true then(spec_l08Old.l3 k x3 x283000 x283001 x283002 x283003 x283004)else(some x3))
def spec_l08Old.l5:Nat→List ByteArray→Bool→Int→Int→List (S63)→Int→ByteArray→List Int→List (S33)→Int→ByteArray→List Int→Option (List ByteArray)
 | 0,_,_,_,_,_,_,_,_,_,_,_,_=>none
 | k + 1,x3,x9,x10,x12,x283000,x283001,x283002,x283003,x283004,x305000,x305001,x305002=>if x12 < 2 then(if x305000=3 then(spec_l08Old.j7 k x3 x9 x10 x12 (x305001.toList == ([61]:List UInt8)) x283000 x283001 x283002 x283003 x283004 x305000 x305001 x305002)else(spec_l08Old.j7 k x3 x9 x10 x12 false x283000 x283001 x283002 x283003 x283004 x305000 x305001 x305002))else(spec_l08Old.j7 k x3 x9 x10 x12 false x283000 x283001 x283002 x283003 x283004 x305000 x305001 x305002)
def spec_l08Old.j7:Nat→List ByteArray→Bool→Int→Int→Bool→List (S63)→Int→ByteArray→List Int→List (S33)→Int→ByteArray→List Int→Option (List ByteArray)
 | 0,_,_,_,_,_,_,_,_,_,_,_,_,_=>none
 | k + 1,x3,x9,x10,x12,x116,x283000,x283001,x283002,x283003,x283004,x305000,x305001,x305002=>if x116=true then(if 0≤x12 then(if x12 < (x305002.length:Int)then(if 0≤(wrap64 (1 - x12))then(if(wrap64 (1 - x12)) < (x305002.length:Int)then(if 0≤(rd x305002 x12)then(if(rd x305002 x12) < (x283000.length:Int)then(if((y21 x283000 (rd x305002 x12)).f0)=1 then((spec_l05In.f k x3 ((y21 x283000 (rd x305002 x12)).f1)).bind fun t309=>(if t309=true then((spec_l06HasKind.f k x283000 x283001 x283002 x283003 x283004 (rd x305002 (wrap64 (1 - x12))) 5 7).bind fun t310=>(spec_l08Old.j8 k x3 x9 x10 x12 (rd x305002 (wrap64 (1 - x12))) t310 x283000 x283001 x283002 x283003 x283004 x305000 x305001 x305002))else(spec_l08Old.j8 k x3 x9 x10 x12 (rd x305002 (wrap64 (1 - x12))) true x283000 x283001 x283002 x283003 x283004 x305000 x305001 x305002)))else(spec_l08Old.j8 k x3 x9 x10 x12 (rd x305002 (wrap64 (1 - x12))) true x283000 x283001 x283002 x283003 x283004 x305000 x305001 x305002))else(none))else(none))else(none))else(none))else(none))else(none))else(spec_l08Old.l4 k x3 x9 (wrap64 (x10 + 1)) x283000 x283001 x283002 x283003 x283004)
def spec_l08Old.j8:Nat→List ByteArray→Bool→Int→Int→Int→Bool→List (S63)→Int→ByteArray→List Int→List (S33)→Int→ByteArray→List Int→Option (List ByteArray)
 | 0,_,_,_,_,_,_,_,_,_,_,_,_,_,_=>none
 | k + 1,x3,x9,x10,x12,x14,x152,x283000,x283001,x283002,x283003,x283004,x305000,x305001,x305002=>if x152=true then(spec_l08Old.l5 k x3 x9 x10 (wrap64 (x12 + 1)) x283000 x283001 x283002 x283003 x283004 x305000 x305001 x305002)else((spec_l06Vars.f k x283000 x283001 x283002 x283003 x283004 x14).bind fun t311=>(spec_l08Old.l6 k x3 x9 x10 x12 t311 0 x283000 x283001 x283002 x283003 x283004 x305000 x305001 x305002))
def spec_l08Old.l6:Nat→List ByteArray→Bool→Int→Int→List ByteArray→Int→List (S63)→Int→ByteArray→List Int→List (S33)→Int→ByteArray→List Int→Option (List ByteArray)
 | 0,_,_,_,_,_,_,_,_,_,_,_,_,_,_=>none
 | k + 1,x3,x9,x10,x12,x15,x16,x283000,x283001,x283002,x283003,x283004,x305000,x305001,x305002=>if x16 < (x15.length:Int)then(if 0≤x16 then((spec_l05In.f k x3 (rdOf ByteArray.empty x15 x16)).bind fun t315=>(if t315=true then(spec_l08Old.l6 k x3 x9 x10 x12 x15 (wrap64 (x16 + 1)) x283000 x283001 x283002 x283003 x283004 x305000 x305001 x305002)else(if x3.length < 8796093022208 then(spec_l08Old.l6 k (x3 ++ [rdOf ByteArray.empty x15 x16]) true x10 x12 x15 (wrap64 (x16 + 1)) x283000 x283001 x283002 x283003 x283004 x305000 x305001 x305002)else(none))))else(none))else(spec_l08Old.l5 k x3 x9 x10 (wrap64 (x12 + 1)) x283000 x283001 x283002 x283003 x283004 x305000 x305001 x305002)
end
def spec_l08Old.f (k:Nat) (l0_0:List (S63)) (a0_1:Int) (a0_2:ByteArray) (l0_3:List Int) (l0_4:List (S33)):Option (List ByteArray):=(z9_.f k l0_0 a0_1 a0_2 l0_3 l0_4).bind fun t286=>(spec_l08Old.l0 k (([]:List ByteArray)) t286 0 l0_0 a0_1 a0_2 l0_3 l0_4)
def spec_l08Old.T9:Bool×List (List Nat×List Nat):=(true,[([],[]),([],[]),([1],[1]),([],[]),([2,3],[2,3]),([4],[4]),([5],[5]),([],[]),([6,7],[6,7]),([8],[8]),([0,9],[0,9]),([10,10,0,1,2,3,4,5,6,7,8,9,10],[10])])
def spec_l08Old.B9:List Nat:=[0,0,2,0,14,30,62,0,254,510,1023,2047]
theorem spec_l08Old.tab9:rtab .any (opsOf Try.f38 9)=spec_l08Old.T9:=by kernel_rfl
theorem spec_l08Old.bits9:waitsOk spec_l08Old.T9.2 spec_l08Old.B9=true:=by kernel_rfl
def spec_l08Old.T23:Bool×List (List Nat×List Nat):=(true,[([],[]),([0],[0]),([],[]),([1,2],[1,2]),([3],[3]),([],[]),([5],[5]),([],[]),([7],[7]),([6,8],[6,8]),([9],[9]),([4,0,1,2,3,4],[4]),([10,11,0,1,2,3,4,5,6,7,8,9,10,11],[10])])
def spec_l08Old.B23:List Nat:=[0,1,0,7,15,0,32,0,128,480,992,31,4095]
theorem spec_l08Old.tab23:rtab .any (opsOf Try.f38 23)=spec_l08Old.T23:=by kernel_rfl
theorem spec_l08Old.bits23:waitsOk spec_l08Old.T23.2 spec_l08Old.B23=true:=by kernel_rfl
set_option maxHeartbeats 8000000 in
set_option maxRecDepth 100000 in
theorem spec_l08Old.calls (k:Nat) (Bh:Option Addr) (Bi:Nat) (Ad:List (S63)) (Ak:Int) (Am:ByteArray) (Bj:Option Addr) (Bk:Nat) (Ai:List Int) (Dg:Option Addr) (Bl:Nat) (Ab:List (S33)) (r:List ByteArray) (w:World) (Hx:Kd.C k63 w Bh Ad.length Ad) (Hy:Ad.length≤Bi) (Hz:Kd.C (Kd.int .i64) w Bj Ai.length Ai) (Ia:Ai.length≤Bk) (Ib:Kd.C k33 w Dg Ab.length Ab) (Ic:Ab.length≤Bl) (h:spec_l08Old.f k Ad Ak Am Ai Ab=some r) :
  Calls Try.prog 38 #[.agg #[.slice Bh Ad.length Bi,.int .i64 Ak,.string Am,.slice Bj Ai.length Bk,.slice Dg Ab.length Bl]] w fun e w'=>∃ v0_:Value,e=.returned (v0_)∧Kd.R Kd.string 9 w' w.heap.size (fun _=>True) v0_ r∧Below w.heap.size w w':=by
 have Tv:=Try.underlying36
 have Tw:=Try.underlying33
 have Bw:=y0.mk Hx
 have Eg:=y0.mk Hy
 clear Hx Hy
 have Eh:=y0.mk Hz
 have Ei:=y0.mk Ia
 clear Hz Ia
 have Ch:=y0.mk Ib
 have Ej:=y0.mk Ic
 clear Ib Ic
 have HB:=y0.mk (Below.refl w.heap.size w)
 have H:((z9_.f k Ad Ak Am Ai Ab).bind fun Ay=>(spec_l08Old.l0 k (([]:List ByteArray)) Ay 0 Ad Ak Am Ai Ab))=some r:=h
 clear h
 obtain⟨Kj,Dt⟩:∃ y_:List ByteArray,y_=(([]:List ByteArray)):=⟨_,rfl⟩
 replace H:((z9_.f k Ad Ak Am Ai Ab).bind fun Ay=>(spec_l08Old.l0 k Kj Ay 0 Ad Ak Am Ai Ab))=some r:=by first|(rw [Dt];with_reducible exact H)|(have H2_:=(Option.bind_some _ _).symm.trans H;rw [Dt];with_reducible exact H2_)|(have H2_:=(Option.bind_some _ _).symm.trans H;with_reducible exact H2_)|with_reducible exact H|(rw [Dt];exact H)|exact H
 have Id:=y0.mk Dt
 clear Dt
 obtain⟨Ay,A2,H⟩:=qB H
 have H':=y0.mk H
 clear H
 go_enter Try.func38,Try.ntmps38
 go_wp2_with (first|((with_reducible refine y17 (N:=1) rfl ?_);refine qe 1 #[.slice Bh Ad.length Bi,.int .i64 Ak,.string Am,.slice Bj Ai.length Bk,.slice Dg Ab.length Bl] 36 ?_;intro Bb hg w3 hbox hb;have Ac:=y0.mk (hbox);have Sf:=y0.mk (qg (w:=w) hg);have Sg:=y0.mk (qg (w:=w) hg);replace HB:=y0.mk (y5 qb hb);clear hb hbox hg)|((with_reducible refine y17 (N:=17) rfl ?_);refine qL Kd.string 9 17 ([]:List ByteArray) ?_;intro Tx w4 Kk hb hg_ hnew_;clear hg_ hnew_;(first|rw [← Id.out]at Kk|(simp only [Int.reduceToNat]at Kk;rw [← Id.out]at Kk));have Fj:=y0.mk (Kd.R_lower Kk (y4 qb));replace Ac:=y0.mk (qK Ac.out hb);replace HB:=y0.mk (y5 qb hb);clear hb Kk;obtain⟨Ii,Ij,Ik,Il,Im,Io,Ip,Iq,Ir,Is⟩:=qz5 Ac.out)|((with_reducible refine y16 (f:=58) rfl ?_);refine y18 (some 19) rfl rfl Try.func58 (by kernel_rfl) rfl #[.agg #[.slice Bh Ad.length Bi,.int .i64 Ak,.string Am,.slice Bj Ai.length Bk,.slice Dg Ab.length Bl]] rfl qy1 ?_;(with_reducible refine(z9_.calls k _ _ Ad Ak Am _ _ Ai _ _ Ab Ay _ (qc (Kd.C_below Bw.out HB.out)) Eg.out (qc (Kd.C_below Eh.out HB.out)) Ei.out (qc (Kd.C_below Ch.out HB.out)) Ej.out A2.out).mono ?_);rintro e w7 ⟨Fk,rfl,Fy,hb⟩;refine⟨_,rfl, ?_⟩;replace Fj:=y0.mk (Kd.R_below (qR Fj.out) hb);have Kl:=y0.mk (Kd.R_lower Fy (y4 qb));replace Ac:=y0.mk (qK Ac.out hb);replace HB:=y0.mk (y5 qb hb);(try clear hb);(try clear Fy)))
 go_loopg [3,5] k (fun kq v3 v5 w'=>∃(Fl:List ByteArray) (Ap:Int),v5=.int .i64 Ap∧y0 (spec_l08Old.l0 kq Fl Ay Ap Ad Ak Am Ai Ab=some r)∧y0 (kq≤k)∧y0 (Kd.R Kd.string 9 w' w.heap.size (fun _=>True) v3 Fl)∧y0 (Kd.R Kd.bool 4 w' w.heap.size (fun _=>True) Fk Ay)∧y0 (w'.heap[Bb]?=some (.cells #[(.slice Bh Ad.length Bi),.int .i64 Ak,.string Am,(.slice Bj Ai.length Bk),(.slice Dg Ab.length Bl)] 36 (0,0)))∧y0 (Below w.heap.size w w'))
 case atStart=>exact⟨(Kj),(0),qy2,H',⟨Nat.le_refl _⟩,⟨qR Fj.out⟩,⟨qR Kl.out⟩,⟨qk Ac.out⟩,⟨qb⟩⟩
 case round =>
  clear H'
  (try clear Ii Ij Ik Il Im Io Ip Iq Ir Is)
  obtain⟨Fl,Ap,rfl,HA,Bx,Af,Az,Ac,HB⟩:=hrel
  cases gk with
  | zero=>exact absurd HA.out (by simp [spec_l08Old.l0])
  | succ k1 =>
   have H:=HA.out
   clear HA
   simp only [spec_l08Old.l0]at H
   by_cases c8:Ap < (Ab.length:Int)
   ·as_aux_lemma =>
    rw [if_pos c8]at H
    have Iu:=decide_eq_true c8
    clear c8
    have H':=y0.mk H
    clear H
    obtain⟨Iv,Iw,Ix,Iy,Iz,Ja,Jb,Jc,Jd,Je⟩:=qz5 Ac.out
    go_wp2
    go_loopg [3,6] k1 (fun kq v3 v6 w'=>∃(Cj:List ByteArray) (Bc:Int),v6=.int .i64 Bc∧y0 (spec_l08Old.l1 kq Cj Ay Ap Bc Ad Ak Am Ai Ab=some r)∧y0 (kq≤k1)∧y0 (Kd.R Kd.string 9 w' w.heap.size (fun _=>True) v3 Cj)∧y0 (Kd.R Kd.bool 4 w' w.heap.size (fun _=>True) Fk Ay)∧y0 (w'.heap[Bb]?=some (.cells #[(.slice Bh Ad.length Bi),.int .i64 Ak,.string Am,(.slice Bj Ai.length Bk),(.slice Dg Ab.length Bl)] 36 (0,0)))∧y0 (Below w.heap.size w w'))
    case atStart=>exact⟨(Fl),(0),qy2,H',⟨Nat.le_refl _⟩,⟨qR Af.out⟩,⟨qR Az.out⟩,⟨qk Ac.out⟩,⟨qb⟩⟩
    case round =>
     clear H'
     (try clear Iu Iv Iw Ix Iy Iz Ja Jb Jc Jd Je)
     obtain⟨Cj,Bc,rfl,HA,Bt,Af,Az,Ac,HB⟩:=hrel
     cases gk with
     | zero=>exact absurd HA.out (by simp [spec_l08Old.l1])
     | succ k2 =>
      have H:=HA.out
      clear HA
      simp only [spec_l08Old.l1]at H
      have Jf:=y0.mk H
      clear H
      go_upto_region 7 with(fail)
      go_cut [44] (fun Ty wc=>∃(kq:Nat) (Ek:Bool),Ty=.bool Ek∧y0 (spec_l08Old.j2 kq Cj Ay Ap Bc Ek Ad Ak Am Ai Ab=some r)∧y0 (kq≤k2)∧y0 (Kd.R Kd.string 9 wc w.heap.size (fun _=>True) u3 Cj)∧y0 (Kd.R Kd.bool 4 wc w.heap.size (fun _=>True) Fk Ay)∧y0 (wc.heap[Bb]?=some (.cells #[(.slice Bh Ad.length Bi),.int .i64 Ak,.string Am,(.slice Bj Ai.length Bk),(.slice Dg Ab.length Bl)] 36 (0,0)))∧y0 (Below w.heap.size w wc))
      case first =>
       have H:=Jf.out
       clear Jf
       obtain⟨Sh,H⟩:=qo H
       have Ie:decide (0≤Ap)=true:=decide_eq_true Sh
       clear Sh
       (first|rw [Ie]|(simp only [i64_w,i32_w];rw [Ie])|skip)
       obtain⟨Si,H⟩:=qo H
       have Sj:decide (Ap < (Ab.length:Int))=true:=decide_eq_true Si
       clear Si
       obtain⟨Mq,Mr,Ms,Mt,Mu,Mv,Mw,Mx,My,Mz⟩:=qz5 Ac.out
       have Jg:0≤(Ap:Int):=of_decide_eq_true qy0
       have Jh:Ap < (Ab.length:Int):=of_decide_eq_true qy0
       obtain⟨Km,Ql,Qm,Qn,Dh,Di,Cl,El,Em⟩:=at_T33 Ch.out Ap Jg Jh
       cases Qn
       replace Dh:=(HB.out.cell (World.block_lt_of_cell? w _ Dh)).trans Dh
       replace Di:=(HB.out.cell (World.block_lt_of_cell? w _ Di)).trans Di
       replace Cl:=(HB.out.cell (World.block_lt_of_cell? w _ Cl)).trans Cl
       have Na:=y0.mk Em
       have Nb:=y0.mk El
       clear Em El
       replace Jg:=eq_true Jg
       replace Jh:=eq_true Jh
       by_cases Kb:Bc < (((y20 Ab Ap).f2).length:Int)
       ·as_aux_lemma =>
        rw [if_pos Kb]at H
        have Kn:=decide_eq_true Kb
        clear Kb
        have H':=y0.mk H
        clear H
        have Ji:0≤(Ap:Int):=of_decide_eq_true qy0
        have Jj:Ap < (Ab.length:Int):=of_decide_eq_true qy0
        obtain⟨Ko,Qo,Qp,Qq,Dj,Dk,Cm,En,Eo⟩:=at_T33 Ch.out Ap Ji Jj
        obtain rfl:Km=Ko:=(by injection Qq)
        replace Dj:=(HB.out.cell (World.block_lt_of_cell? w _ Dj)).trans Dj
        replace Dk:=(HB.out.cell (World.block_lt_of_cell? w _ Dk)).trans Dk
        replace Cm:=(HB.out.cell (World.block_lt_of_cell? w _ Cm)).trans Cm
        have Nc:=y0.mk Eo
        have Nd:=y0.mk En
        clear Eo En
        replace Ji:=eq_true Ji
        replace Jj:=eq_true Jj
        have ea_:=Option.some.inj (Cl.symm.trans Cm)
        injection ea_ with ea_ en_ ec_
        subst ea_
        subst ec_
        clear en_
        go_wp2
        go_meet
        exact⟨_,((((y20 Ab Ap).f0) == 1)),qy2,H',⟨by have:=Bx.out;have:=Bt.out;first|omega|exact Nat.le_refl _⟩,⟨qR Af.out⟩,⟨qR Az.out⟩,⟨qk Ac.out⟩,⟨qb⟩⟩
       ·as_aux_lemma =>
        rw [if_neg Kb]at H
        have Kn:=decide_eq_false Kb
        clear Kb
        have H':=y0.mk H
        clear H
        go_wp2
        go_meet
        exact⟨_,(false),qy2,H',⟨by have:=Bx.out;have:=Bt.out;first|omega|exact Nat.le_refl _⟩,⟨qR Af.out⟩,⟨qR Az.out⟩,⟨qk Ac.out⟩,⟨qb⟩⟩
      case rest =>
       clear Jf
       obtain⟨kq,Ek,rfl,HA,Fi,Af,Az,Ac,HB⟩:=hcut
       cases kq with
       | zero=>exact absurd HA.out (by simp [spec_l08Old.j2])
       | succ Nf =>
        have H:=HA.out
        clear HA
        simp only [spec_l08Old.j2]at H
        by_cases Kp:Ek=true
        ·subst Kp
         replace H:=qT H
         obtain⟨Sk,H⟩:=qo H
         have Kq:decide (0≤Ap)=true:=decide_eq_true Sk
         clear Sk
         obtain⟨Sl,H⟩:=qo H
         have Kr:decide (Ap < (Ab.length:Int))=true:=decide_eq_true Sl
         clear Sl
         obtain⟨Sm,H⟩:=qo H
         have Ks:decide (0≤Bc)=true:=decide_eq_true Sm
         clear Sm
         obtain⟨Sn,H⟩:=qo H
         have Kt:decide (Bc < (((y20 Ab Ap).f2).length:Int))=true:=decide_eq_true Sn
         clear Sn
         obtain⟨Bu,Tz,H⟩:=qB H
         have H':=y0.mk H
         clear H
         try go_wp2
         replace Af:=y0.mk (Kd.R_drew Af.out)
         replace Az:=y0.mk (Kd.R_drew Az.out)
         replace Ac:=y0.mk (y9 Ac.out)
         replace HB:=y0.mk (y2 HB.out)
         have Fz:0≤(Ap:Int):=of_decide_eq_true qy0
         have Ga:Ap < (Ab.length:Int):=of_decide_eq_true qy0
         obtain⟨Ci,Qr,Jk,Qs,Bn,Bo,Bp,Ep,Eq⟩:=at_T33 Ch.out Ap Fz Ga
         have Cn:=Bp
         have Cp:=Bo
         have Cq:=Bn
         cases Qs
         replace Bn:=(HB.out.cell (World.block_lt_of_cell? w _ Bn)).trans Bn
         replace Bo:=(HB.out.cell (World.block_lt_of_cell? w _ Bo)).trans Bo
         replace Bp:=(HB.out.cell (World.block_lt_of_cell? w _ Bp)).trans Bp
         have Er:=y0.mk Eq
         have Ng:=y0.mk Ep
         clear Eq Ep
         replace Fz:=eq_true Fz
         replace Ga:=eq_true Ga
         have Gb:0≤(Bc:Int):=of_decide_eq_true qy0
         have Gc:Bc < (((y20 Ab Ap).f2).length:Int):=of_decide_eq_true qy0
         obtain⟨If,Qt,Bq⟩:=Kd.at_int Er.out Bc Gb Gc
         have Cr:=Bq
         cases Qt
         replace Bq:=(HB.out.cell (World.block_lt_of_cell? w _ Bq)).trans Bq
         replace Gb:=eq_true Gb
         replace Gc:=eq_true Gc
         refine start_ (n:=12) (S:=fun w'=>w'.cell? ⟨Bb,0,none⟩=some (.slice Bh Ad.length Bi)∧w'.cell? ⟨Bb,1,none⟩=some (.int .i64 Ak)∧w'.cell? ⟨Bb,2,none⟩=some (.string Am)∧w'.cell? ⟨Bb,3,none⟩=some (.slice Bj Ai.length Bk)∧w'.cell? ⟨Bb,4,none⟩=some (.slice (some Ci) Ab.length Bl)∧w'.cell? (Ci.add ((Ap).toNat * 3))=some (.int .i64 ((y20 Ab Ap).f0))∧w'.cell? ⟨(Ci.add ((Ap).toNat * 3)).block,(Ci.add ((Ap).toNat * 3)).off + 1,none⟩=some (.string ((y20 Ab Ap).f1))∧w'.cell? ⟨(Ci.add ((Ap).toNat * 3)).block,(Ci.add ((Ap).toNat * 3)).off + 2,none⟩=some (.slice (some If) ((y20 Ab Ap).f2).length Jk)∧w'.cell? (If.add (Bc).toNat)=some (.int .i64 (rd ((y20 Ab Ap).f2) Bc))) (ds:=[]) (fl_ 12 0) (by kernel_rfl) rfl rfl ⟨(y8 Ac.out 0).trans rfl,(y8 Ac.out 1).trans rfl,(y8 Ac.out 2).trans rfl,(y8 Ac.out 3).trans rfl,(y8 Ac.out 4).trans rfl,((HB.out.cell (World.block_lt_of_cell? w _ Cq)).trans Cq),((HB.out.cell (World.block_lt_of_cell? w _ Cp)).trans Cp),((HB.out.cell (World.block_lt_of_cell? w _ Cn)).trans Cn),((HB.out.cell (World.block_lt_of_cell? w _ Cr)).trans Cr)⟩ (fun hHeld=>?_);refine with_tabW spec_l08Old.tab9 spec_l08Old.bits9 (fun HT_ HW_=>?_)
         generalize wc.drew=Vd at Af Az Ac HB Er Bn Bo Bp Bq hHeld ⊢
         refine qp 1 48 (fl_ 12 2) ?_
         refine qp 3 50 (fl_ 12 10) ?_
         refine qp 7 54 (fl_ 12 138) ?_
         refine qt 0 47 (fl_ 12 139) hHeld ?_
         refine qt 2 49 (fl_ 12 143) hHeld ?_
         refine qp 4 51 (fl_ 12 159) ?_
         refine qp 5 52 (fl_ 12 191) ?_
         refine qt 6 53 (fl_ 12 255) hHeld ?_
         refine qp 8 55 (fl_ 12 511) ?_
         refine qt 9 56 (fl_ 12 1023) hHeld ?_
         refine qO 10 57 (fl_ 12 2047) (fun K hK=>?_)
         refine goes_ Try.func49 (by kernel_rfl) rfl #[.agg #[.slice Bh Ad.length Bi,.int .i64 Ak,.string Am,.slice Bj Ai.length Bk,.slice (some Ci) Ab.length Bl],.int .i64 (rd ((y20 Ab Ap).f2) Bc)] (by rfl) rfl rfl qy1 ?_
         with_reducible refine(z10_.calls Nf _ _ Ad Ak Am _ _ Ai _ _ Ab (rd ((y20 Ab Ap).f2) Bc) Bu _ (qc (Kd.C_below Bw.out HB.out)) Eg.out (qc (Kd.C_below Eh.out HB.out)) Ei.out (qc (Kd.C_below Ch.out HB.out)) Ej.out Tz.out).mono ?_
         rintro e Ve ⟨Ku,rfl,Fy,hb⟩
         refine⟨_,rfl, ?_⟩
         replace Af:=y0.mk (Kd.R_below (qR Af.out) hb)
         have Kv:=y0.mk (Kd.R_lower (Kd.R_new' Fy (Kd.R_lt (qR Az.out))) (y4 qb))
         replace Az:=y0.mk (Kd.R_elder' (qR Az.out) (Kd.R_base Fy) hb)
         replace Ac:=y0.mk (qK Ac.out hb)
         replace HB:=y0.mk (y5 qb hb)
         (try clear hb)
         (try clear Fy)
         refine hK.out _ _ ⟨(y8 Ac.out 0).trans rfl,(y8 Ac.out 1).trans rfl,(y8 Ac.out 2).trans rfl,(y8 Ac.out 3).trans rfl,(y8 Ac.out 4).trans rfl,((HB.out.cell (World.block_lt_of_cell? w _ Cq)).trans Cq),((HB.out.cell (World.block_lt_of_cell? w _ Cp)).trans Cp),((HB.out.cell (World.block_lt_of_cell? w _ Cn)).trans Cn),((HB.out.cell (World.block_lt_of_cell? w _ Cr)).trans Cr)⟩ (fun hHeld=>?_)
         clear hK K
         refine qx 57 ?_
         refine qp 11 7 (fl_ 12 4095) ?_
         refine done_ (done_of HT_.out (by kernel_rfl)) ?_
         try go_wp2
         go_loopg [3,8] Nf (fun kq v3 v8 w'=>∃(As:List ByteArray) (Ag:Int),v8=.int .i64 Ag∧y0 (spec_l08Old.l2 kq As Ay Ap Bc Bu Ag Ad Ak Am Ai Ab=some r)∧y0 (kq≤Nf)∧y0 (Kd.R Kd.string 9 w' w.heap.size (fun _=>True) v3 As)∧y0 (Kd.R Kd.bool 4 w' w.heap.size (fun k_=>some k_≠(Ku:Value).ownBlock) Fk Ay)∧y0 (Kd.R Kd.bool 4 w' w.heap.size (fun k_=>some k_≠(Fk:Value).ownBlock) Ku Bu)∧y0 (w'.heap[Bb]?=some (.cells #[(.slice Bh Ad.length Bi),.int .i64 Ak,.string Am,(.slice Bj Ai.length Bk),(.slice (some Ci) Ab.length Bl)] 36 (0,0)))∧y0 (Below w.heap.size w w'))
         case atStart=>exact⟨(Cj),(0),qy2,H',⟨Nat.le_refl _⟩,⟨qR Af.out⟩,⟨qR (Kd.R_mono Az.out (fun _ hk=>hk.2))⟩,⟨qR (Kd.R_mono Kv.out (fun _ hk=>hk.2))⟩,⟨qk Ac.out⟩,⟨qb⟩⟩
         case round =>
          clear H'
          (try clear Kp Kq Kr Ks Kt Bn Bo Bp Bq Fz Gb Ga Gc)
          obtain⟨As,Ag,rfl,HA,Ce,Af,Az,Ca,Ac,HB⟩:=hrel
          cases gk with
          | zero=>exact absurd HA.out (by simp [spec_l08Old.l2])
          | succ k4 =>
           have H:=HA.out
           clear HA
           simp only [spec_l08Old.l2]at H
           by_cases Ke:Ag < (Bu.length:Int)
           ·as_aux_lemma =>
            rw [if_pos Ke]at H
            have Kw:=decide_eq_true Ke
            clear Ke
            obtain⟨So,H⟩:=qo H
            have Sp:decide (0≤Ag)=true:=decide_eq_true So
            clear So
            obtain⟨Kx,Fm⟩:∃ b_:Bool,b_=(rdOf false Bu Ag):=⟨_,rfl⟩
            replace H:(if Kx=true then(if Ag < (Ad.length:Int)then(if((y21 Ad Ag).f0)=1 then(if Ag < (Ay.length:Int)then(if rdOf false Ay Ag=true then(spec_l08Old.l2 k4 As Ay Ap Bc Bu (wrap64 (Ag + 1)) Ad Ak Am Ai Ab)else(if As.length < 8796093022208 then(spec_l08Old.l2 k4 (As ++ [(y21 Ad Ag).f1]) Ay Ap Bc Bu (wrap64 (Ag + 1)) Ad Ak Am Ai Ab)else(none)))else(none))else(spec_l08Old.l2 k4 As Ay Ap Bc Bu (wrap64 (Ag + 1)) Ad Ak Am Ai Ab))else(none))else(spec_l08Old.l2 k4 As Ay Ap Bc Bu (wrap64 (Ag + 1)) Ad Ak Am Ai Ab))=some r:=by rw [← Fm]at H;exact H
            have De:=y0.mk Fm
            clear Fm
            by_cases Nh:Kx=true
            ·subst Nh
             replace H:=qT H
             obtain⟨Sq,H⟩:=qo H
             have Sr:decide (Ag < (Ad.length:Int))=true:=decide_eq_true Sq
             clear Sq
             by_cases Jl:((y21 Ad Ag).f0)=1
             ·as_aux_lemma =>
              rw [if_pos Jl]at H
              have Ky:(((y21 Ad Ag).f0) == 1)=true:=beq_iff_eq.mpr Jl
              have Kz:(((y21 Ad Ag).f0) != 1)=false:=bne_eq_false_iff_eq.mpr Jl
              clear Jl
              obtain⟨Ss,H⟩:=qo H
              have St:decide (Ag < (Ay.length:Int))=true:=decide_eq_true Ss
              clear Ss
              obtain⟨La,Fn⟩:∃ b_:Bool,b_=(rdOf false Ay Ag):=⟨_,rfl⟩
              replace H:(if La=true then(spec_l08Old.l2 k4 As Ay Ap Bc Bu (wrap64 (Ag + 1)) Ad Ak Am Ai Ab)else(if As.length < 8796093022208 then(spec_l08Old.l2 k4 (As ++ [(y21 Ad Ag).f1]) Ay Ap Bc Bu (wrap64 (Ag + 1)) Ad Ak Am Ai Ab)else(none)))=some r:=by rw [← Fn]at H;exact H
              have Es:=y0.mk Fn
              clear Fn
              by_cases Ni:La=true
              ·subst Ni
               replace H:=qT H
               have H':=y0.mk H
               clear H
               obtain⟨Ua,Ub,Qu⟩:=Kd.R_slice Ca.out
               subst Qu
               have Cb:0≤(Ag:Int):=of_decide_eq_true qy0
               have Cc:Ag < (Bu.length:Int):=of_decide_eq_true qy0
               obtain⟨Fo,Ea,Ba⟩:=Kd.at_bool (Kd.R_reads' Ca.out).2.2 Ag Cb Cc
               (try rw [← De.out]at Ba)
               (try rw [← Es.out]at Ba)
               cases Ea
               replace Cb:=eq_true Cb
               replace Cc:=eq_true Cc
               obtain⟨Nj,Nk,Nl,Nm,Nn,Np,Nq,Nr,Ns,Nt⟩:=qz5 Ac.out
               have Da:0≤(Ag:Int):=of_decide_eq_true qy0
               have Db:Ag < (Ad.length:Int):=of_decide_eq_true qy0
               obtain⟨Fp,Fq,Fr,Fs,Av,Aw,At,Bd,Be⟩:=at_T63 Bw.out Ag Da Db
               cases Fs
               replace Av:=(HB.out.cell (World.block_lt_of_cell? w _ Av)).trans Av
               replace Aw:=(HB.out.cell (World.block_lt_of_cell? w _ Aw)).trans Aw
               replace At:=(HB.out.cell (World.block_lt_of_cell? w _ At)).trans At
               have Et:=y0.mk Be
               have Eu:=y0.mk Bd
               clear Be Bd
               replace Da:=eq_true Da
               replace Db:=eq_true Db
               obtain⟨Uc,Ud,Qv⟩:=Kd.R_slice Az.out
               subst Qv
               have Eb:0≤(Ag:Int):=of_decide_eq_true qy0
               have Ec:Ag < (Ay.length:Int):=of_decide_eq_true qy0
               obtain⟨Lb,Jm,Cd⟩:=Kd.at_bool (Kd.R_reads' Az.out).2.2 Ag Eb Ec
               (try rw [← De.out]at Cd)
               (try rw [← Es.out]at Cd)
               cases Jm
               replace Eb:=eq_true Eb
               replace Ec:=eq_true Ec
               go_wp2
               go_roundg k4
               case measure=>have:=Bx.out;have:=Bt.out;have:=Fi.out;have:=Ce.out;omega
               exact⟨(As),(wrap64 (Ag + 1)),qy2,H',⟨by have:=Bx.out;have:=Bt.out;have:=Fi.out;have:=Ce.out;omega⟩,⟨qR Af.out⟩,⟨qR Az.out⟩,⟨qR Ca.out⟩,⟨qk Ac.out⟩,⟨qb⟩⟩
              ·replace Ni:=Bool.eq_false_iff.mpr Ni
               subst Ni
               replace H:=qF H
               obtain⟨Su,H⟩:=qo H
               have Lc:=y0.mk Su
               clear Su
               obtain⟨Ld,Du⟩:∃ y_:List ByteArray,y_=(As ++ [(y21 Ad Ag).f1]):=⟨_,rfl⟩
               replace H:(spec_l08Old.l2 k4 Ld Ay Ap Bc Bu (wrap64 (Ag + 1)) Ad Ak Am Ai Ab)=some r:=by first|(rw [Du];with_reducible exact H)|(have H2_:=(Option.bind_some _ _).symm.trans H;rw [Du];with_reducible exact H2_)|(have H2_:=(Option.bind_some _ _).symm.trans H;with_reducible exact H2_)|with_reducible exact H|(rw [Du];exact H)|exact H
               have Le:=y0.mk Du
               clear Du
               have H':=y0.mk H
               clear H
               obtain⟨Ue,Uf,Qw⟩:=Kd.R_slice Ca.out
               subst Qw
               have Cb:0≤(Ag:Int):=of_decide_eq_true qy0
               have Cc:Ag < (Bu.length:Int):=of_decide_eq_true qy0
               obtain⟨Fo,Ea,Ba⟩:=Kd.at_bool (Kd.R_reads' Ca.out).2.2 Ag Cb Cc
               (try rw [← De.out]at Ba)
               (try rw [← Es.out]at Ba)
               cases Ea
               replace Cb:=eq_true Cb
               replace Cc:=eq_true Cc
               obtain⟨Nu,Nv,Nw,Nx,Ny,Nz,Oa,Ob,Oc,Od⟩:=qz5 Ac.out
               have Da:0≤(Ag:Int):=of_decide_eq_true qy0
               have Db:Ag < (Ad.length:Int):=of_decide_eq_true qy0
               obtain⟨Fp,Fq,Fr,Fs,Av,Aw,At,Bd,Be⟩:=at_T63 Bw.out Ag Da Db
               cases Fs
               replace Av:=(HB.out.cell (World.block_lt_of_cell? w _ Av)).trans Av
               replace Aw:=(HB.out.cell (World.block_lt_of_cell? w _ Aw)).trans Aw
               replace At:=(HB.out.cell (World.block_lt_of_cell? w _ At)).trans At
               have Et:=y0.mk Be
               have Eu:=y0.mk Bd
               clear Be Bd
               replace Da:=eq_true Da
               replace Db:=eq_true Db
               obtain⟨Ug,Uh,Qx⟩:=Kd.R_slice Az.out
               subst Qx
               have Eb:0≤(Ag:Int):=of_decide_eq_true qy0
               have Ec:Ag < (Ay.length:Int):=of_decide_eq_true qy0
               obtain⟨Lb,Jm,Cd⟩:=Kd.at_bool (Kd.R_reads' Az.out).2.2 Ag Eb Ec
               (try rw [← De.out]at Cd)
               (try rw [← Es.out]at Cd)
               cases Jm
               replace Eb:=eq_true Eb
               replace Ec:=eq_true Ec
               have Jn:0≤(Ag:Int):=of_decide_eq_true qy0
               have Jo:Ag < (Ad.length:Int):=of_decide_eq_true qy0
               obtain⟨Lf,Qy,Qz,Ra,Dl,Dm,Cs,Ew,Ex⟩:=at_T63 Bw.out Ag Jn Jo
               obtain rfl:Fp=Lf:=(by injection Ra)
               replace Dl:=(HB.out.cell (World.block_lt_of_cell? w _ Dl)).trans Dl
               replace Dm:=(HB.out.cell (World.block_lt_of_cell? w _ Dm)).trans Dm
               replace Cs:=(HB.out.cell (World.block_lt_of_cell? w _ Cs)).trans Cs
               have Oe:=y0.mk Ex
               have Of:=y0.mk Ew
               clear Ex Ew
               replace Jn:=eq_true Jn
               replace Jo:=eq_true Jo
               have ea_:=Option.some.inj (At.symm.trans Cs)
               injection ea_ with ea_ en_ ec_
               subst ea_
               subst ec_
               clear en_
               go_wp2_with (first|((with_reducible refine gate_builtin (b:=.append) (xs:=#[.tmp 84,.tmp 91]) rfl ?_);at_builtin;refine Kd.R_append Kd.string (w0:=w) w.heap.size rfl (.tmp 84) (.tmp 91) 30 9 (.string ⟨#[]⟩) 16 rfl Try.underlying30 info9 rfl (by decide) (by omega) u3 As ((y21 Ad Ag).f1) [.string ((y21 Ad Ag).f1)] (fun _=>True) (fun _=>False) rfl rfl ?aP (fun _ hk=>hk.elim) ?aF ?aO ?aB ?aS ?aL ?_;(case aP=>exact rfl);(case aB=>exact qb);(case aF=>exact(fun _ _=>trivial));(case aO=>exact(qR Af.out));(case aS=>exact(y4 qb));(case aL=>have:=Lc.out;omega);intro Ui Vf ho hb hg hat;rw [← Le.out]at ho;replace Az:=y0.mk (Kd.R_over' (qR Az.out) (Kd.R_typed (qR Af.out)) (by decide) hg);replace Ca:=y0.mk (Kd.R_over' (qR Ca.out) (Kd.R_typed (qR Af.out)) (by decide) hg);replace Ac:=y0.mk (blk_grown (qk Ac.out) hg (Kd.R_ne Af.out Ac.out (by decide)));replace HB:=y0.mk (hb);have Lg:=y0.mk (ho);clear Af;clear ho hb hg hat))
               go_roundg k4
               case measure=>have:=Bx.out;have:=Bt.out;have:=Fi.out;have:=Ce.out;omega
               exact⟨(Ld),(wrap64 (Ag + 1)),qy2,H',⟨by have:=Bx.out;have:=Bt.out;have:=Fi.out;have:=Ce.out;omega⟩,⟨qR Lg.out⟩,⟨qR Az.out⟩,⟨qR Ca.out⟩,⟨qk Ac.out⟩,⟨qb⟩⟩
             ·as_aux_lemma =>
              rw [if_neg Jl]at H
              have Ky:(((y21 Ad Ag).f0) == 1)=false:=beq_eq_false_iff_ne.mpr Jl
              have Kz:(((y21 Ad Ag).f0) != 1)=true:=bne_iff_ne.mpr Jl
              have H':=y0.mk H
              clear H
              obtain⟨Uj,Uk,Rb⟩:=Kd.R_slice Ca.out
              subst Rb
              have Cb:0≤(Ag:Int):=of_decide_eq_true qy0
              have Cc:Ag < (Bu.length:Int):=of_decide_eq_true qy0
              obtain⟨Fo,Ea,Ba⟩:=Kd.at_bool (Kd.R_reads' Ca.out).2.2 Ag Cb Cc
              (try rw [← De.out]at Ba)
              cases Ea
              replace Cb:=eq_true Cb
              replace Cc:=eq_true Cc
              obtain⟨Og,Oh,Oi,Oj,Ok,Ol,Om,On,Oo,Oq⟩:=qz5 Ac.out
              have Da:0≤(Ag:Int):=of_decide_eq_true qy0
              have Db:Ag < (Ad.length:Int):=of_decide_eq_true qy0
              obtain⟨Fp,Fq,Fr,Fs,Av,Aw,At,Bd,Be⟩:=at_T63 Bw.out Ag Da Db
              cases Fs
              replace Av:=(HB.out.cell (World.block_lt_of_cell? w _ Av)).trans Av
              replace Aw:=(HB.out.cell (World.block_lt_of_cell? w _ Aw)).trans Aw
              replace At:=(HB.out.cell (World.block_lt_of_cell? w _ At)).trans At
              have Et:=y0.mk Be
              have Eu:=y0.mk Bd
              clear Be Bd
              replace Da:=eq_true Da
              replace Db:=eq_true Db
              go_wp2
              go_roundg k4
              case measure=>have:=Bx.out;have:=Bt.out;have:=Fi.out;have:=Ce.out;omega
              exact⟨(As),(wrap64 (Ag + 1)),qy2,H',⟨by have:=Bx.out;have:=Bt.out;have:=Fi.out;have:=Ce.out;omega⟩,⟨qR Af.out⟩,⟨qR Az.out⟩,⟨qR Ca.out⟩,⟨qk Ac.out⟩,⟨qb⟩⟩
            ·replace Nh:=Bool.eq_false_iff.mpr Nh
             subst Nh
             replace H:=qF H
             have H':=y0.mk H
             clear H
             obtain⟨Ul,Um,Rc⟩:=Kd.R_slice Ca.out
             subst Rc
             have Cb:0≤(Ag:Int):=of_decide_eq_true qy0
             have Cc:Ag < (Bu.length:Int):=of_decide_eq_true qy0
             obtain⟨Fo,Ea,Ba⟩:=Kd.at_bool (Kd.R_reads' Ca.out).2.2 Ag Cb Cc
             (try rw [← De.out]at Ba)
             cases Ea
             replace Cb:=eq_true Cb
             replace Cc:=eq_true Cc
             go_wp2
             go_roundg k4
             case measure=>have:=Bx.out;have:=Bt.out;have:=Fi.out;have:=Ce.out;omega
             exact⟨(As),(wrap64 (Ag + 1)),qy2,H',⟨by have:=Bx.out;have:=Bt.out;have:=Fi.out;have:=Ce.out;omega⟩,⟨qR Af.out⟩,⟨qR Az.out⟩,⟨qR Ca.out⟩,⟨qk Ac.out⟩,⟨qb⟩⟩
           ·as_aux_lemma =>
            rw [if_neg Ke]at H
            have Kw:=decide_eq_false Ke
            clear Ke
            have H':=y0.mk H
            clear H
            obtain⟨Uo,Up,Rf⟩:=Kd.R_slice Ca.out
            subst Rf
            go_wp2
            go_roundg k4
            case measure=>have:=Bx.out;have:=Bt.out;have:=Fi.out;have:=Ce.out;omega
            exact⟨(As),(wrap64 (Bc + 1)),qy2,H',⟨by have:=Bx.out;have:=Bt.out;have:=Fi.out;have:=Ce.out;omega⟩,⟨qR Af.out⟩,⟨qR (Kd.R_mono Az.out (fun _ hk=>trivial))⟩,⟨qk Ac.out⟩,⟨qb⟩⟩
        ·replace Kp:=Bool.eq_false_iff.mpr Kp
         subst Kp
         replace H:=qF H
         have H':=y0.mk H
         clear H
         go_wp2
         go_roundg Nf
         case measure=>have:=Bx.out;have:=Bt.out;have:=Fi.out;omega
         exact⟨(Cj),(wrap64 (Ap + 1)),qy2,H',⟨by have:=Bx.out;have:=Bt.out;have:=Fi.out;omega⟩,⟨qR Af.out⟩,⟨qR Az.out⟩,⟨qk Ac.out⟩,⟨qb⟩⟩
   ·as_aux_lemma =>
    rw [if_neg c8]at H
    have Iu:=decide_eq_false c8
    clear c8
    have H':=y0.mk H
    clear H
    obtain⟨Gd,Ge,Gf,Gg,Gh,Gi,Gj,Gk,Gl,Gm⟩:=qz5 Ac.out
    go_wp2
    go_loopg [3] k1 (fun kq v3 w'=>∃(Cj:List ByteArray),y0 (spec_l08Old.l3 kq Cj Ad Ak Am Ai Ab=some r)∧y0 (kq≤k1)∧y0 (Kd.R Kd.string 9 w' w.heap.size (fun _=>True) v3 Cj)∧y0 (w'.heap[Bb]?=some (.cells #[(.slice Bh Ad.length Bi),.int .i64 Ak,.string Am,(.slice Bj Ai.length Bk),(.slice Dg Ab.length Bl)] 36 (0,0)))∧y0 (Below w.heap.size w w'))
    case atStart=>exact⟨(Fl),H',⟨Nat.le_refl _⟩,⟨qR Af.out⟩,⟨qk Ac.out⟩,⟨qb⟩⟩
    case round =>
     clear H'
     (try clear Iu Gd Ge Gf Gg Gh Gi Gj Gk Gl Gm)
     obtain⟨Cj,HA,Bt,Af,Ac,HB⟩:=hrel
     cases gk with
     | zero=>exact absurd HA.out (by simp [spec_l08Old.l3])
     | succ k2 =>
      have H:=HA.out
      clear HA
      simp only [spec_l08Old.l3]at H
      have H':=y0.mk H
      clear H
      go_wp2
      go_loopg [3,9,10] k2 (fun kq v3 v9 Uq w'=>∃(Ft:List ByteArray) (Fu:Bool) (Aa:Int),v9=.bool Fu∧Uq=.int .i64 Aa∧y0 (spec_l08Old.l4 kq Ft Fu Aa Ad Ak Am Ai Ab=some r)∧y0 (kq≤k2)∧y0 (Kd.R Kd.string 9 w' w.heap.size (fun _=>True) v3 Ft)∧y0 (w'.heap[Bb]?=some (.cells #[(.slice Bh Ad.length Bi),.int .i64 Ak,.string Am,(.slice Bj Ai.length Bk),(.slice Dg Ab.length Bl)] 36 (0,0)))∧y0 (Below w.heap.size w w'))
      case atStart=>exact⟨(Cj),(false),(0),qy2,qy2,H',⟨Nat.le_refl _⟩,⟨qR Af.out⟩,⟨qk Ac.out⟩,⟨qb⟩⟩
      case round =>
       clear H'
       obtain⟨Ft,Fu,Aa,rfl,rfl,HA,Ds,Af,Ac,HB⟩:=hrel
       cases gk with
       | zero=>exact absurd HA.out (by simp [spec_l08Old.l4])
       | succ k3 =>
        have H:=HA.out
        clear HA
        simp only [spec_l08Old.l4]at H
        by_cases Kf:Aa < (Ab.length:Int)
        ·as_aux_lemma =>
         rw [if_pos Kf]at H
         have Ig:=decide_eq_true Kf
         clear Kf
         obtain⟨Sv,H⟩:=qo H
         have Lh:decide (0≤Aa)=true:=decide_eq_true Sv
         clear Sv
         have H':=y0.mk H
         clear H
         obtain⟨Gn,Gp,Gq,Gr,Gs,Gt,Gu,Gv,Gw,Gx⟩:=qz5 Ac.out
         have Gy:0≤(Aa:Int):=of_decide_eq_true qy0
         have Gz:Aa < (Ab.length:Int):=of_decide_eq_true qy0
         obtain⟨Dw,Ed,Cf,Rg,Ct,Cu,Cv,Ey,Ez⟩:=at_T33 Ch.out Aa Gy Gz
         cases Rg
         replace Ct:=(HB.out.cell (World.block_lt_of_cell? w _ Ct)).trans Ct
         replace Cu:=(HB.out.cell (World.block_lt_of_cell? w _ Cu)).trans Cu
         replace Cv:=(HB.out.cell (World.block_lt_of_cell? w _ Cv)).trans Cv
         have Fa:=y0.mk Ez
         have Ot:=y0.mk Ey
         clear Ez Ey
         replace Gy:=eq_true Gy
         replace Gz:=eq_true Gz
         go_wp2_with (first|((with_reducible refine y17 (N:=11) rfl ?_);refine qe 11 #[.int .i64 0,.string (⟨#[]⟩:ByteArray),.slice none 0 0] 33 ?_;intro Bz hg Vg hbox hb;replace Af:=y0.mk (Kd.R_below (qR Af.out) hb);have Aj:=y0.mk (hbox);have Sw:=y0.mk (qg (w:=w) hg);have Sx:=y0.mk (qg (w:=w) hg);replace HB:=y0.mk (y5 qb hb);have Au:=y0.mk (qn Ac.out hg);have Bf:=y0.mk (qm Ac.out hg);replace Ac:=y0.mk (qK Ac.out hb);clear hb hbox hg;have Sy:=Bf.out;have Sz:=Au.out;obtain⟨Ha,Hb,Hc,Hd,He,Hf⟩:=qz3 Aj.out))
         go_loopg [3,9,12] k3 (fun kq v3 v9 Ur w'=>∃(As:List ByteArray) (Dc:Bool) (Ah:Int),v9=.bool Dc∧Ur=.int .i64 Ah∧y0 (spec_l08Old.l5 kq As Dc Aa Ah Ad Ak Am Ai Ab ((y20 Ab Aa).f0) ((y20 Ab Aa).f1) ((y20 Ab Aa).f2)=some r)∧y0 (kq≤k3)∧y0 (Kd.R Kd.string 9 w' w.heap.size (fun _=>True) v3 As)∧y0 (w'.heap[Bb]?=some (.cells #[(.slice Bh Ad.length Bi),.int .i64 Ak,.string Am,(.slice Bj Ai.length Bk),(.slice (some Dw) Ab.length Bl)] 36 (0,0)))∧y0 (w'.heap[Bz]?=some (.cells #[.int .i64 ((y20 Ab Aa).f0),.string ((y20 Ab Aa).f1),(.slice Ed ((y20 Ab Aa).f2).length Cf)] 33 (0,0)))∧y0 (Below w.heap.size w w'))
         case atStart=>exact⟨(Ft),(Fu),(0),qy2,qy2,H',⟨Nat.le_refl _⟩,⟨qR (Kd.R_mono (Kd.R_far (p:=⟨Bz,2,none⟩) (Kd.R_far (p:=⟨Bz,1,none⟩) (Kd.R_far (p:=⟨Bz,0,none⟩) (Kd.R_types Af.out Aj.out (by decide)) (fun _ hk=>hk.2) (.int .i64 ((y20 Ab Aa).f0))) (fun _ hk=>hk.2) (.string ((y20 Ab Aa).f1))) (fun _ hk=>hk.2) (.slice Ed ((y20 Ab Aa).f2).length Cf)) (fun _ hk=>trivial))⟩,⟨by(with_reducible repeat(first|refine y10 ?_ _|refine y9 ?_|refine y6 ?_ _));refine y11 ?_ Au.out _;(with_reducible repeat(first|refine y10 ?_ _|refine y9 ?_|refine y6 ?_ _));refine y11 ?_ Au.out _;(with_reducible repeat(first|refine y10 ?_ _|refine y9 ?_|refine y6 ?_ _));refine y11 ?_ Au.out _;(with_reducible repeat(first|refine y10 ?_ _|refine y9 ?_|refine y6 ?_ _));exact Ac.out⟩,⟨by(with_reducible repeat(first|refine y10 ?_ _|refine y9 ?_|refine y6 ?_ _));refine blk_put (cs:=#[.int .i64 ((y20 Ab Aa).f0),.string ((y20 Ab Aa).f1),.slice none 0 0]) ?_ 2 _ rfl;(with_reducible repeat(first|refine y10 ?_ _|refine y9 ?_|refine y6 ?_ _));refine blk_put (cs:=#[.int .i64 ((y20 Ab Aa).f0),.string (⟨#[]⟩:ByteArray),.slice none 0 0]) ?_ 1 _ rfl;(with_reducible repeat(first|refine y10 ?_ _|refine y9 ?_|refine y6 ?_ _));refine blk_put (cs:=#[.int .i64 0,.string (⟨#[]⟩:ByteArray),.slice none 0 0]) ?_ 0 _ rfl;(with_reducible repeat(first|refine y10 ?_ _|refine y9 ?_|refine y6 ?_ _));exact Aj.out⟩,⟨qb⟩⟩
         case round =>
          clear H'
          (try clear Ig Lh Gn Gp Gq Gr Gs Ha Hb Hc Gt Gu Gv Gw Gx Hd He Hf Ct Cu Cv Gy Gz)
          obtain⟨As,Dc,Ah,rfl,rfl,HA,Ce,Af,Ac,Aj,HB⟩:=hrel
          cases gk with
          | zero=>exact absurd HA.out (by simp [spec_l08Old.l5])
          | succ k4 =>
           have H:=HA.out
           clear HA
           simp only [spec_l08Old.l5]at H
           have Jp:=y0.mk H
           clear H
           go_upto_region 21 with(fail)
           go_cut [116] (fun Rh wc=>∃(kq:Nat) (Cw:Bool),Rh=.bool Cw∧y0 (spec_l08Old.j7 kq As Dc Aa Ah Cw Ad Ak Am Ai Ab ((y20 Ab Aa).f0) ((y20 Ab Aa).f1) ((y20 Ab Aa).f2)=some r)∧y0 (kq≤k4)∧y0 (Kd.R Kd.string 9 wc w.heap.size (fun _=>True) u3 As)∧y0 (wc.heap[Bb]?=some (.cells #[(.slice Bh Ad.length Bi),.int .i64 Ak,.string Am,(.slice Bj Ai.length Bk),(.slice (some Dw) Ab.length Bl)] 36 (0,0)))∧y0 (wc.heap[Bz]?=some (.cells #[.int .i64 ((y20 Ab Aa).f0),.string ((y20 Ab Aa).f1),(.slice Ed ((y20 Ab Aa).f2).length Cf)] 33 (0,0)))∧y0 (Below w.heap.size w wc))
           case first =>
            have H:=Jp.out
            clear Jp
            by_cases Kg:Ah < 2
            ·as_aux_lemma =>
             rw [if_pos Kg]at H
             have Dx:=decide_eq_true Kg
             clear Kg
             (first|rw [Dx]|(simp only [i64_w,i32_w];rw [Dx])|skip)
             by_cases Jq:((y20 Ab Aa).f0)=3
             ·as_aux_lemma =>
              rw [if_pos Jq]at H
              have Li:(((y20 Ab Aa).f0) == 3)=true:=beq_iff_eq.mpr Jq
              have Lj:(((y20 Ab Aa).f0) != 3)=false:=bne_eq_false_iff_eq.mpr Jq
              clear Jq
              have H':=y0.mk H
              clear H
              have Ta:=Bf.out
              have Tc:=Au.out
              obtain⟨Ou,Ov,Ow,Ox,Oy,Oz⟩:=qz3 Aj.out
              go_wp2
              go_meet
              exact⟨_,((((y20 Ab Aa).f1).toList == ([61]:List UInt8))),qy2,H',⟨by have:=Bx.out;have:=Bt.out;have:=Ds.out;have:=Ce.out;first|omega|exact Nat.le_refl _⟩,⟨qR Af.out⟩,⟨qk Ac.out⟩,⟨qk Aj.out⟩,⟨qb⟩⟩
             ·as_aux_lemma =>
              rw [if_neg Jq]at H
              have Li:(((y20 Ab Aa).f0) == 3)=false:=beq_eq_false_iff_ne.mpr Jq
              have Lj:(((y20 Ab Aa).f0) != 3)=true:=bne_iff_ne.mpr Jq
              have H':=y0.mk H
              clear H
              have Td:=Bf.out
              have Te:=Au.out
              obtain⟨Pa,Pb,Pc,Pd,Pe,Pf⟩:=qz3 Aj.out
              go_wp2
              go_meet
              exact⟨_,(false),qy2,H',⟨by have:=Bx.out;have:=Bt.out;have:=Ds.out;have:=Ce.out;first|omega|exact Nat.le_refl _⟩,⟨qR Af.out⟩,⟨qk Ac.out⟩,⟨qk Aj.out⟩,⟨qb⟩⟩
            ·as_aux_lemma =>
             rw [if_neg Kg]at H
             have Dx:=decide_eq_false Kg
             clear Kg
             (first|rw [Dx]|(simp only [i64_w,i32_w];rw [Dx])|skip)
             have H':=y0.mk H
             clear H
             go_wp2
             go_meet
             exact⟨_,(false),qy2,H',⟨by have:=Bx.out;have:=Bt.out;have:=Ds.out;have:=Ce.out;first|omega|exact Nat.le_refl _⟩,⟨qR Af.out⟩,⟨qk Ac.out⟩,⟨qk Aj.out⟩,⟨qb⟩⟩
           case rest =>
            clear Jp
            obtain⟨kq,Cw,rfl,HA,Cg,Af,Ac,Aj,HB⟩:=hcut
            cases kq with
            | zero=>exact absurd HA.out (by simp [spec_l08Old.j7])
            | succ Dd =>
             have H:=HA.out
             clear HA
             simp only [spec_l08Old.j7]at H
             by_cases Lk:Cw=true
             ·subst Lk
              replace H:=qT H
              obtain⟨Tf,H⟩:=qo H
              have Ll:decide (0≤Ah)=true:=decide_eq_true Tf
              clear Tf
              obtain⟨Tg,H⟩:=qo H
              have Lm:decide (Ah < (((y20 Ab Aa).f2).length:Int))=true:=decide_eq_true Tg
              clear Tg
              obtain⟨Bg,Fb⟩:∃ j_:Int,(wrap64 (1 - Ah))=j_:=⟨_,rfl⟩
              replace H:(if 0≤(Bg)then(if(Bg) < (((y20 Ab Aa).f2).length:Int)then(if 0≤(rd ((y20 Ab Aa).f2) Ah)then(if(rd ((y20 Ab Aa).f2) Ah) < (Ad.length:Int)then(if((y21 Ad (rd ((y20 Ab Aa).f2) Ah)).f0)=1 then((spec_l05In.f Dd As ((y21 Ad (rd ((y20 Ab Aa).f2) Ah)).f1)).bind fun Jr=>(if Jr=true then((spec_l06HasKind.f Dd Ad Ak Am Ai Ab (rd ((y20 Ab Aa).f2) (Bg)) 5 7).bind fun Hg=>(spec_l08Old.j8 Dd As Dc Aa Ah (rd ((y20 Ab Aa).f2) (Bg)) Hg Ad Ak Am Ai Ab ((y20 Ab Aa).f0) ((y20 Ab Aa).f1) ((y20 Ab Aa).f2)))else(spec_l08Old.j8 Dd As Dc Aa Ah (rd ((y20 Ab Aa).f2) (Bg)) true Ad Ak Am Ai Ab ((y20 Ab Aa).f0) ((y20 Ab Aa).f1) ((y20 Ab Aa).f2))))else(spec_l08Old.j8 Dd As Dc Aa Ah (rd ((y20 Ab Aa).f2) (Bg)) true Ad Ak Am Ai Ab ((y20 Ab Aa).f0) ((y20 Ab Aa).f1) ((y20 Ab Aa).f2)))else(none))else(none))else(none))else(none))=some r:=by first|(rw [Fb]at H;exact H)|(simp only [Fb]at H ⊢;exact H)
              have hji62w:(IntKind.i64.wrap (1 - Ah))=Bg:=(i64_w _).trans Fb
              obtain⟨Th,H⟩:=qo H
              have Ln:decide (0≤(Bg))=true:=decide_eq_true Th
              clear Th
              obtain⟨Ti,H⟩:=qo H
              have Lo:decide ((Bg) < (((y20 Ab Aa).f2).length:Int))=true:=decide_eq_true Ti
              clear Ti
              have Js:=y0.mk H
              clear H
              try go_wp2
              replace Af:=y0.mk (Kd.R_drew Af.out)
              replace Ac:=y0.mk (y9 Ac.out)
              replace Aj:=y0.mk (y9 Aj.out)
              replace HB:=y0.mk (y2 HB.out)
              have Hh:0≤(Ah:Int):=of_decide_eq_true qy0
              have Hi:Ah < (((y20 Ab Aa).f2).length:Int):=of_decide_eq_true qy0
              obtain⟨Df,Ri,Br⟩:=Kd.at_int Fa.out Ah Hh Hi
              have Fc:=Br
              cases Ri
              replace Br:=(HB.out.cell (World.block_lt_of_cell? w _ Br)).trans Br
              replace Hh:=eq_true Hh
              replace Hi:=eq_true Hi
              have Hj:0≤((Bg):Int):=of_decide_eq_true qy0
              have Hk:(Bg) < (((y20 Ab Aa).f2).length:Int):=of_decide_eq_true qy0
              obtain⟨Lp,Rj,Bs⟩:=Kd.at_int Fa.out (Bg) Hj Hk
              have Fd:=Bs
              obtain rfl:Df=Lp:=(by injection Rj)
              replace Bs:=(HB.out.cell (World.block_lt_of_cell? w _ Bs)).trans Bs
              replace Hj:=eq_true Hj
              replace Hk:=eq_true Hk
              refine start_ (n:=13) (S:=fun w'=>w'.cell? ⟨Bz,0,none⟩=some (.int .i64 ((y20 Ab Aa).f0))∧w'.cell? ⟨Bz,1,none⟩=some (.string ((y20 Ab Aa).f1))∧w'.cell? ⟨Bz,2,none⟩=some (.slice (some Df) ((y20 Ab Aa).f2).length Cf)∧w'.cell? (Df.add (Ah).toNat)=some (.int .i64 (rd ((y20 Ab Aa).f2) Ah))∧w'.cell? (Df.add ((Bg)).toNat)=some (.int .i64 (rd ((y20 Ab Aa).f2) (Bg)))) (ds:=[]) (fl_ 13 0) (by kernel_rfl) rfl rfl ⟨(y8 Aj.out 0).trans rfl,(y8 Aj.out 1).trans rfl,(y8 Aj.out 2).trans rfl,((HB.out.cell (World.block_lt_of_cell? w _ Fc)).trans Fc),((HB.out.cell (World.block_lt_of_cell? w _ Fd)).trans Fd)⟩ (fun hHeld=>?_);refine with_tabW spec_l08Old.tab23 spec_l08Old.bits23 (fun HT_ HW_=>?_)
              generalize wc.drew=Vh at Af Ac Aj HB Br Bs hHeld ⊢
              refine qp 0 119 (fl_ 13 1) ?_
              refine qp 2 121 (fl_ 13 5) ?_
              refine qp 5 124 (fl_ 13 37) ?_
              refine qp 7 126 (fl_ 13 165) ?_
              refine qp 8 127 (fl_ 13 421) ?_
              refine qt 1 120 (fl_ 13 423) hHeld ?_
              refine qp 3 122 (fl_ 13 431) ?_
              refine qt 4 123 (fl_ 13 447) hHeld ?_
              refine qp 11 13 (fl_ 13 2495) ?_
              refine qt 6 125 (fl_ 13 2559) hHeld ?_
              refine qp 9 128 (fl_ 13 3071) ?_
              refine qt 10 129 (fl_ 13 4095) hHeld ?_
              refine qp 12 14 (fl_ 13 8191) ?_
              refine done_ (done_of HT_.out (by kernel_rfl)) ?_
              go_upto_region 24 with(fail)
              go_cut [152] (fun Rl wc=>∃(kq:Nat) (Cx:Bool),Rl=.bool Cx∧y0 (spec_l08Old.j8 kq As Dc Aa Ah (rd ((y20 Ab Aa).f2) (Bg)) Cx Ad Ak Am Ai Ab ((y20 Ab Aa).f0) ((y20 Ab Aa).f1) ((y20 Ab Aa).f2)=some r)∧y0 (kq≤Dd)∧y0 (Kd.R Kd.string 9 wc w.heap.size (fun _=>True) u3 As)∧y0 (wc.heap[Bb]?=some (.cells #[(.slice Bh Ad.length Bi),.int .i64 Ak,.string Am,(.slice Bj Ai.length Bk),(.slice (some Dw) Ab.length Bl)] 36 (0,0)))∧y0 (wc.heap[Bz]?=some (.cells #[.int .i64 ((y20 Ab Aa).f0),.string ((y20 Ab Aa).f1),(.slice (some Df) ((y20 Ab Aa).f2).length Cf)] 33 (0,0)))∧y0 (Below w.heap.size w wc))
              case first =>
               have H:=Js.out
               clear Js
               obtain⟨Tj,H⟩:=qo H
               have Ih:decide (0≤(rd ((y20 Ab Aa).f2) Ah))=true:=decide_eq_true Tj
               clear Tj
               (first|rw [Ih]|(simp only [i64_w,i32_w];rw [Ih])|skip)
               obtain⟨Tk,H⟩:=qo H
               have Tl:decide ((rd ((y20 Ab Aa).f2) Ah) < (Ad.length:Int))=true:=decide_eq_true Tk
               clear Tk
               have Tm:=Au.out
               have Tn:=Bf.out
               obtain⟨Pg,Ph,Pj,Pk,Pm,Pn,Pp,Pq,Pr,Ps⟩:=qz5 Ac.out
               have Jt:0≤((rd ((y20 Ab Aa).f2) Ah):Int):=of_decide_eq_true qy0
               have Ju:(rd ((y20 Ab Aa).f2) Ah) < (Ad.length:Int):=of_decide_eq_true qy0
               obtain⟨Lq,Rn,Ro,Rp,Do,Dp,Cy,Fe,Ff⟩:=at_T63 Bw.out (rd ((y20 Ab Aa).f2) Ah) Jt Ju
               cases Rp
               replace Do:=(HB.out.cell (World.block_lt_of_cell? w _ Do)).trans Do
               replace Dp:=(HB.out.cell (World.block_lt_of_cell? w _ Dp)).trans Dp
               replace Cy:=(HB.out.cell (World.block_lt_of_cell? w _ Cy)).trans Cy
               have Pt:=y0.mk Ff
               have Pu:=y0.mk Fe
               clear Ff Fe
               replace Jt:=eq_true Jt
               replace Ju:=eq_true Ju
               by_cases Jv:((y21 Ad (rd ((y20 Ab Aa).f2) Ah)).f0)=1
               ·as_aux_lemma =>
                rw [if_pos Jv]at H
                have Lr:(((y21 Ad (rd ((y20 Ab Aa).f2) Ah)).f0) == 1)=true:=beq_iff_eq.mpr Jv
                have Ls:(((y21 Ad (rd ((y20 Ab Aa).f2) Ah)).f0) != 1)=false:=bne_eq_false_iff_eq.mpr Jv
                clear Jv
                obtain⟨Jr,To,H⟩:=qB H
                have Jw:0≤((rd ((y20 Ab Aa).f2) Ah):Int):=of_decide_eq_true qy0
                have Jx:(rd ((y20 Ab Aa).f2) Ah) < (Ad.length:Int):=of_decide_eq_true qy0
                obtain⟨Lt,Rq,Rs,Rt,Dq,Dr,Cz,Fg,Fh⟩:=at_T63 Bw.out (rd ((y20 Ab Aa).f2) Ah) Jw Jx
                obtain rfl:Lq=Lt:=(by injection Rt)
                replace Dq:=(HB.out.cell (World.block_lt_of_cell? w _ Dq)).trans Dq
                replace Dr:=(HB.out.cell (World.block_lt_of_cell? w _ Dr)).trans Dr
                replace Cz:=(HB.out.cell (World.block_lt_of_cell? w _ Cz)).trans Cz
                have Pv:=y0.mk Fh
                have Pw:=y0.mk Fg
                clear Fh Fg
                replace Jw:=eq_true Jw
                replace Jx:=eq_true Jx
                have ea_:=Option.some.inj (Cy.symm.trans Cz)
                injection ea_ with ea_ en_ ec_
                subst ea_
                subst ec_
                clear en_
                obtain⟨Us,Ut,Ru⟩:=Kd.R_slice Af.out
                subst Ru
                by_cases Px:Jr=true
                ·subst Px
                 replace H:=qT H
                 obtain⟨Hg,Uu,H⟩:=qB H
                 have H':=y0.mk H
                 clear H
                 go_wp2_with (first|(go_at_call 39;(with_reducible refine(spec_l05In.calls Dd _ _ As ((y21 Ad (rd ((y20 Ab Aa).f2) Ah)).f1) true _ (qc ((Kd.R_reads' Af.out).2.2)) (by exact(Kd.R_reads' Af.out).2.1) To.out).mono ?_);rintro e w' ⟨rfl,⟨nd,rfl⟩⟩)|(go_at_call 43;(with_reducible refine(spec_l06HasKind.calls Dd _ _ Ad Ak Am _ _ Ai _ _ Ab (rd ((y20 Ab Aa).f2) (Bg)) 5 7 Hg _ (qc (Kd.C_below Bw.out qb)) Eg.out (qc (Kd.C_below Eh.out qb)) Ei.out (qc (Kd.C_below Ch.out qb)) Ej.out Uu.out).mono ?_);rintro e Vi ⟨rfl,hb⟩;replace Af:=y0.mk (Kd.R_below (qR Af.out) hb);replace Ac:=y0.mk (qK Ac.out hb);replace Aj:=y0.mk (qK Aj.out hb);replace HB:=y0.mk (y5 qb hb);(try clear hb)))
                 go_meet
                 exact⟨_,(Hg),qy2,H',⟨by have:=Bx.out;have:=Bt.out;have:=Ds.out;have:=Ce.out;have:=Cg.out;first|omega|exact Nat.le_refl _⟩,⟨qR Af.out⟩,⟨qk Ac.out⟩,⟨qk Aj.out⟩,⟨qb⟩⟩
                ·replace Px:=Bool.eq_false_iff.mpr Px
                 subst Px
                 replace H:=qF H
                 have H':=y0.mk H
                 clear H
                 go_wp2_with (first|(go_at_call 39;(with_reducible refine(spec_l05In.calls Dd _ _ As ((y21 Ad (rd ((y20 Ab Aa).f2) Ah)).f1) false _ (qc ((Kd.R_reads' Af.out).2.2)) (by exact(Kd.R_reads' Af.out).2.1) To.out).mono ?_);rintro e w' ⟨rfl,⟨nd,rfl⟩⟩))
                 go_meet
                 exact⟨_,(true),qy2,H',⟨by have:=Bx.out;have:=Bt.out;have:=Ds.out;have:=Ce.out;have:=Cg.out;first|omega|exact Nat.le_refl _⟩,⟨qR Af.out⟩,⟨qk Ac.out⟩,⟨qk Aj.out⟩,⟨qb⟩⟩
               ·as_aux_lemma =>
                rw [if_neg Jv]at H
                have Lr:(((y21 Ad (rd ((y20 Ab Aa).f2) Ah)).f0) == 1)=false:=beq_eq_false_iff_ne.mpr Jv
                have Ls:(((y21 Ad (rd ((y20 Ab Aa).f2) Ah)).f0) != 1)=true:=bne_iff_ne.mpr Jv
                have H':=y0.mk H
                clear H
                go_wp2
                go_meet
                exact⟨_,(true),qy2,H',⟨by have:=Bx.out;have:=Bt.out;have:=Ds.out;have:=Ce.out;have:=Cg.out;first|omega|exact Nat.le_refl _⟩,⟨qR Af.out⟩,⟨qk Ac.out⟩,⟨qk Aj.out⟩,⟨qb⟩⟩
              case rest =>
               clear Js
               (try clear Lk Ll Lm Ln Lo Br Bs Hh Hj Hi Hk)
               obtain⟨kq,Cx,rfl,HA,Dy,Af,Ac,Aj,HB⟩:=hcut
               cases kq with
               | zero=>exact absurd HA.out (by simp [spec_l08Old.j8])
               | succ Hl =>
                have H:=HA.out
                clear HA
                simp only [spec_l08Old.j8]at H
                by_cases Lu:Cx=true
                ·subst Lu
                 replace H:=qT H
                 have H':=y0.mk H
                 clear H
                 go_wp2
                 go_roundg Hl
                 case measure=>have:=Bx.out;have:=Bt.out;have:=Ds.out;have:=Ce.out;have:=Cg.out;have:=Dy.out;omega
                 exact⟨(As),(Dc),(wrap64 (Ah + 1)),qy2,qy2,H',⟨by have:=Bx.out;have:=Bt.out;have:=Ds.out;have:=Ce.out;have:=Cg.out;have:=Dy.out;omega⟩,⟨qR Af.out⟩,⟨qk Ac.out⟩,⟨qk Aj.out⟩,⟨qb⟩⟩
                ·replace Lu:=Bool.eq_false_iff.mpr Lu
                 subst Lu
                 replace H:=qF H
                 obtain⟨Bv,Uv,H⟩:=qB H
                 have H':=y0.mk H
                 clear H
                 have Tp:=Au.out
                 have Tq:=Bf.out
                 obtain⟨Hm,Hn,Ho,Hp,Hq,Hr,Hs,Ht,Hu,Hv⟩:=qz5 Ac.out
                 go_wp2_with (first|((with_reducible refine y16 (f:=24) rfl ?_);refine y18 (some 155) rfl rfl Try.func24 (by kernel_rfl) rfl #[.agg #[.slice Bh Ad.length Bi,.int .i64 Ak,.string Am,.slice Bj Ai.length Bk,.slice (some Dw) Ab.length Bl],.int .i64 (rd ((y20 Ab Aa).f2) (Bg))] rfl (by(try simp only [qM_,List.map_cons,List.map_nil]);first|done|(simp only [Fb];rfl)|rfl|(simp only [qD_,qT_];rfl)) ?_;(with_reducible refine(spec_l06Vars.calls Hl _ _ Ad Ak Am _ _ Ai _ _ Ab (rd ((y20 Ab Aa).f2) (Bg)) Bv _ (qc (Kd.C_below Bw.out HB.out)) Eg.out (qc (Kd.C_below Eh.out HB.out)) Ei.out (qc (Kd.C_below Ch.out HB.out)) Ej.out Uv.out).mono ?_);rintro e Vj ⟨Lv,rfl,Fy,hb⟩;refine⟨_,rfl, ?_⟩;have Lw:=y0.mk (Kd.R_lower (Kd.R_new' Fy (Kd.R_lt (qR Af.out))) (y4 qb));replace Af:=y0.mk (Kd.R_elder' (qR Af.out) (Kd.R_base Fy) hb);replace Ac:=y0.mk (qK Ac.out hb);replace Aj:=y0.mk (qK Aj.out hb);replace HB:=y0.mk (y5 qb hb);(try clear hb);(try clear Fy)))
                 go_loopg [3,9,16] Hl (fun kq v3 v9 Uw w'=>∃(Ck:List ByteArray) (Fv:Bool) (Ar:Int),v9=.bool Fv∧Uw=.int .i64 Ar∧y0 (spec_l08Old.l6 kq Ck Fv Aa Ah Bv Ar Ad Ak Am Ai Ab ((y20 Ab Aa).f0) ((y20 Ab Aa).f1) ((y20 Ab Aa).f2)=some r)∧y0 (kq≤Hl)∧y0 (Kd.R Kd.string 9 w' w.heap.size (fun k_=>some k_≠(Lv:Value).ownBlock) v3 Ck)∧y0 (Kd.R Kd.string 9 w' w.heap.size (fun k_=>some k_≠(v3:Value).ownBlock) Lv Bv)∧y0 (w'.heap[Bb]?=some (.cells #[(.slice Bh Ad.length Bi),.int .i64 Ak,.string Am,(.slice Bj Ai.length Bk),(.slice (some Dw) Ab.length Bl)] 36 (0,0)))∧y0 (w'.heap[Bz]?=some (.cells #[.int .i64 ((y20 Ab Aa).f0),.string ((y20 Ab Aa).f1),(.slice (some Df) ((y20 Ab Aa).f2).length Cf)] 33 (0,0)))∧y0 (Below w.heap.size w w'))
                 case atStart=>exact⟨(As),(Dc),(0),qy2,qy2,H',⟨Nat.le_refl _⟩,⟨qR (Kd.R_mono Af.out (fun _ hk=>hk.2))⟩,⟨qR (Kd.R_mono Lw.out (fun _ hk=>hk.2))⟩,⟨qk Ac.out⟩,⟨qk Aj.out⟩,⟨qb⟩⟩
                 case round =>
                  clear H'
                  (try clear Lu Hm Hn Ho Hp Hq Hr Hs Ht Hu Hv)
                  obtain⟨Ck,Fv,Ar,rfl,rfl,HA,Kh,Af,Bm,Ac,Aj,HB⟩:=hrel
                  cases gk with
                  | zero=>exact absurd HA.out (by simp [spec_l08Old.l6])
                  | succ k7 =>
                   have H:=HA.out
                   clear HA
                   simp only [spec_l08Old.l6]at H
                   by_cases Ki:Ar < (Bv.length:Int)
                   ·as_aux_lemma =>
                    rw [if_pos Ki]at H
                    have Lx:=decide_eq_true Ki
                    clear Ki
                    obtain⟨Tr,H⟩:=qo H
                    have Ts:decide (0≤Ar)=true:=decide_eq_true Tr
                    clear Tr
                    obtain⟨Rv,Tt,H⟩:=qB H
                    by_cases Py:Rv=true
                    ·subst Py
                     replace H:=qT H
                     have H':=y0.mk H
                     clear H
                     obtain⟨Ux,Uy,Rw⟩:=Kd.R_slice Bm.out
                     subst Rw
                     have Ee:0≤(Ar:Int):=of_decide_eq_true qy0
                     have Ef:Ar < (Bv.length:Int):=of_decide_eq_true qy0
                     obtain⟨Fx,Jy,Hw⟩:=Kd.at_string (Kd.R_reads' Bm.out).2.2 Ar Ee Ef
                     cases Jy
                     replace Ee:=eq_true Ee
                     replace Ef:=eq_true Ef
                     obtain⟨Rx,Ry,Rz⟩:=Kd.R_slice Af.out
                     subst Rz
                     go_wp2_with (first|((with_reducible refine y16 (f:=39) rfl ?_);refine y18 (some 167) rfl rfl Try.func39 (by kernel_rfl) rfl #[.slice Rx Ck.length Ry,.string (rdOf ByteArray.empty Bv Ar)] rfl qy1 ?_;(with_reducible refine(spec_l05In.calls k7 _ _ Ck (rdOf ByteArray.empty Bv Ar) true _ (qc ((Kd.R_reads' Af.out).2.2)) (by exact(Kd.R_reads' Af.out).2.1) Tt.out).mono ?_);rintro e w' ⟨rfl,⟨nd,rfl⟩⟩;refine⟨_,rfl, ?_⟩))
                     go_roundg k7
                     case measure=>have:=Bx.out;have:=Bt.out;have:=Ds.out;have:=Ce.out;have:=Cg.out;have:=Dy.out;have:=Kh.out;omega
                     exact⟨(Ck),(Fv),(wrap64 (Ar + 1)),qy2,qy2,H',⟨by have:=Bx.out;have:=Bt.out;have:=Ds.out;have:=Ce.out;have:=Cg.out;have:=Dy.out;have:=Kh.out;omega⟩,⟨qR Af.out⟩,⟨qR Bm.out⟩,⟨qk Ac.out⟩,⟨qk Aj.out⟩,⟨qb⟩⟩
                    ·replace Py:=Bool.eq_false_iff.mpr Py
                     subst Py
                     replace H:=qF H
                     obtain⟨Tu,H⟩:=qo H
                     have Ly:=y0.mk Tu
                     clear Tu
                     obtain⟨Lz,Dz⟩:∃ y_:List ByteArray,y_=(Ck ++ [rdOf ByteArray.empty Bv Ar]):=⟨_,rfl⟩
                     replace H:(spec_l08Old.l6 k7 Lz true Aa Ah Bv (wrap64 (Ar + 1)) Ad Ak Am Ai Ab ((y20 Ab Aa).f0) ((y20 Ab Aa).f1) ((y20 Ab Aa).f2))=some r:=by first|(rw [Dz];with_reducible exact H)|(have H2_:=(Option.bind_some _ _).symm.trans H;rw [Dz];with_reducible exact H2_)|(have H2_:=(Option.bind_some _ _).symm.trans H;with_reducible exact H2_)|with_reducible exact H|(rw [Dz];exact H)|exact H
                     have Ma:=y0.mk Dz
                     clear Dz
                     have H':=y0.mk H
                     clear H
                     obtain⟨Uz,Sa,Sb⟩:=Kd.R_slice Bm.out
                     subst Sb
                     have Ee:0≤(Ar:Int):=of_decide_eq_true qy0
                     have Ef:Ar < (Bv.length:Int):=of_decide_eq_true qy0
                     obtain⟨Fx,Jy,Hw⟩:=Kd.at_string (Kd.R_reads' Bm.out).2.2 Ar Ee Ef
                     cases Jy
                     replace Ee:=eq_true Ee
                     replace Ef:=eq_true Ef
                     obtain⟨Mb,Mc,Sc⟩:=Kd.R_slice Af.out
                     subst Sc
                     go_wp2_with (first|((with_reducible refine y16 (f:=39) rfl ?_);refine y18 (some 167) rfl rfl Try.func39 (by kernel_rfl) rfl #[.slice Mb Ck.length Mc,.string (rdOf ByteArray.empty Bv Ar)] rfl qy1 ?_;(with_reducible refine(spec_l05In.calls k7 _ _ Ck (rdOf ByteArray.empty Bv Ar) false _ (qc ((Kd.R_reads' Af.out).2.2)) (by exact(Kd.R_reads' Af.out).2.1) Tt.out).mono ?_);rintro e w' ⟨rfl,⟨nd,rfl⟩⟩;refine⟨_,rfl, ?_⟩;have Jz:0≤(Ar:Int):=of_decide_eq_true qy0;have Ka:Ar < (Bv.length:Int):=of_decide_eq_true qy0;obtain⟨Md,Sd,Pz⟩:=Kd.at_string (Kd.R_reads' Bm.out).2.2 Ar Jz Ka;obtain rfl:Fx=Md:=(by injection Sd);replace Jz:=eq_true Jz;replace Ka:=eq_true Ka)|((with_reducible refine gate_builtin (b:=.append) (xs:=#[.tmp 169,.tmp 174]) rfl ?_);at_builtin;refine Kd.R_append Kd.string (w0:=w) w.heap.size rfl (.tmp 169) (.tmp 174) 30 9 (.string ⟨#[]⟩) 16 rfl Try.underlying30 info9 rfl (by decide) (by omega) (.slice Mb Ck.length Mc) Ck (rdOf ByteArray.empty Bv Ar) [.string (rdOf ByteArray.empty Bv Ar)] (fun k_=>some k_≠(.slice (some Fx) Bv.length Sa:Value).ownBlock) (fun _=>False) rfl rfl ?aP (fun _ hk=>hk.elim) ?aF ?aO ?aB ?aS ?aL ?_;(case aP=>exact rfl);(case aB=>exact qb);(case aF=>exact(fun k_ hk=>Kd.fresh' (Kd.R_lt (qR Bm.out)) k_ hk));(case aO=>exact(qR Af.out));(case aS=>exact(y4 qb));(case aL=>have:=Ly.out;omega);intro Va Vk ho hb hg hat;rw [← Ma.out]at ho;replace Bm:=y0.mk (Kd.R_after (ok:=(fun _=>True)) (qR (Kd.R_mono Bm.out (fun _ hk=>⟨trivial,hk⟩))) hg hat);replace Ac:=y0.mk (blk_grown (qk Ac.out) hg (Kd.R_ne Af.out Ac.out (by decide)));replace Aj:=y0.mk (blk_grown (qk Aj.out) hg (Kd.R_ne Af.out Aj.out (by decide)));replace HB:=y0.mk (hb);have Me:=y0.mk (ho);clear Af;clear ho hb hg hat))
                     go_roundg k7
                     case measure=>have:=Bx.out;have:=Bt.out;have:=Ds.out;have:=Ce.out;have:=Cg.out;have:=Dy.out;have:=Kh.out;omega
                     exact⟨(Lz),(true),(wrap64 (Ar + 1)),qy2,qy2,H',⟨by have:=Bx.out;have:=Bt.out;have:=Ds.out;have:=Ce.out;have:=Cg.out;have:=Dy.out;have:=Kh.out;omega⟩,⟨qR Me.out⟩,⟨qR (Kd.R_mono Bm.out (fun _ hk=>hk.2))⟩,⟨qk Ac.out⟩,⟨qk Aj.out⟩,⟨qb⟩⟩
                   ·as_aux_lemma =>
                    rw [if_neg Ki]at H
                    have Lx:=decide_eq_false Ki
                    clear Ki
                    have H':=y0.mk H
                    clear H
                    obtain⟨Vb,Vc,Se⟩:=Kd.R_slice Bm.out
                    subst Se
                    go_wp2
                    go_roundg k7
                    case measure=>have:=Bx.out;have:=Bt.out;have:=Ds.out;have:=Ce.out;have:=Cg.out;have:=Dy.out;have:=Kh.out;omega
                    exact⟨(Ck),(Fv),(wrap64 (Ah + 1)),qy2,qy2,H',⟨by have:=Bx.out;have:=Bt.out;have:=Ds.out;have:=Ce.out;have:=Cg.out;have:=Dy.out;have:=Kh.out;omega⟩,⟨qR (Kd.R_mono Af.out (fun _ hk=>trivial))⟩,⟨qk Ac.out⟩,⟨qk Aj.out⟩,⟨qb⟩⟩
             ·replace Lk:=Bool.eq_false_iff.mpr Lk
              subst Lk
              replace H:=qF H
              have H':=y0.mk H
              clear H
              go_wp2
              go_roundg Dd
              case measure=>have:=Bx.out;have:=Bt.out;have:=Ds.out;have:=Ce.out;have:=Cg.out;omega
              exact⟨(As),(Dc),(wrap64 (Aa + 1)),qy2,qy2,H',⟨by have:=Bx.out;have:=Bt.out;have:=Ds.out;have:=Ce.out;have:=Cg.out;omega⟩,⟨qR Af.out⟩,⟨qk Ac.out⟩,⟨qb⟩⟩
        ·as_aux_lemma =>
         rw [if_neg Kf]at H
         have Ig:=decide_eq_false Kf
         clear Kf
         by_cases Qa:Fu=true
         ·subst Qa
          replace H:=qT H
          have H':=y0.mk H
          clear H
          obtain⟨Qb,Qc,Qd,Qe,Qf,Qg,Qh,Qi,Qj,Qk⟩:=qz5 Ac.out
          go_wp2
          go_roundg k3
          case measure=>have:=Bx.out;have:=Bt.out;have:=Ds.out;omega
          exact⟨(Ft),H',⟨by have:=Bx.out;have:=Bt.out;have:=Ds.out;omega⟩,⟨qR Af.out⟩,⟨qk Ac.out⟩,⟨qb⟩⟩
         ·replace Qa:=Bool.eq_false_iff.mpr Qa
          subst Qa
          replace H:=qF H
          obtain rfl:=Option.some.inj H
          obtain⟨Mf,Mg,Mh,Mi,Mj,Ml,Mm,Mn,Mo,Mp⟩:=qz5 Ac.out
          go_wp2
          go_ret
          exact⟨_,by first|rfl|(simp [y13,y14] <;> rfl)|(simp [*,y13,y14] <;> rfl),by(with_reducible repeat(first|apply Kd.R_alloc|apply Kd.R_drewN|apply Kd.R_drew));exact Af.out,qb⟩
end Go.Proofs.Ytkdabljlfbmpdaa.Po
