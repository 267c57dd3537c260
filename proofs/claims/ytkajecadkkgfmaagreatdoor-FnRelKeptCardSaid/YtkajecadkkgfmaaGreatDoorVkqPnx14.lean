-- Cut by prune.py, a program of this session, out of the texts of this claim: Lean checks it.
import Derived.Test.YtkajecadkkgfmaaGreatDoorVkqPnx0
import Derived.Test.YtkajecadkkgfmaaGreatDoorVkqPnx11
section
namespace Go.Proofs.YtkajecadkkgfmaaGreatDoor.Pn
open Go.RowKit Go.Proofs.YtkajecadkkgfmaaGreatDoorW.PrintWords Go.Proofs.YtkajecadkkgfmaaGreatDoorW.PrintLast Go.Proofs.YtkajecadkkgfmaaGreatDoorW.PrintMore
attribute [local go_sem] max2_int min2_int max_two min_two max_three min_three max_four min_four   -- for this text's walks alone
set_option linter.unusedVariables false
set_option linter.unusedSimpArgs false
mutual
def impl_termAt.j0:Nat→ByteArray→Bool→Option (Int×Int)
 | 0,_,_=>none
 | k + 1,x0,x23=>if x23=true then(impl_termAt.l0 k x0 1)else(if 0 < (x0.size:Int)then(if(bt x0 0)≥65 then(impl_termAt.j3 k x0 (decide ((bt x0 0)≤90)))else(impl_termAt.j3 k x0 false))else(none))
def impl_termAt.j2:Nat→ByteArray→Int→Option (Int×Int)
 | 0,_,_=>none
 | k + 1,x0,x5=>if 0≤x5 then(if x5≤(x0.size:Int)then((strconv_Atoi.f (x0.extract 0 (x5:Int).toNat)).bind fun bt284=>(if bt284.2.isNone=true then((impl_in.f bt284.1 (-1000000) 1000000).bind fun t287=>(if t287=true then((strconv_Itoa.f bt284.1).bind fun t288=>(if t288.toList=(x0.extract 0 (x5:Int).toNat).toList then(some (1,x5))else(some (0,0))))else(some (0,0))))else(some (0,0))))else(none))else(none)
def impl_termAt.l0:Nat→ByteArray→Int→Option (Int×Int)
 | 0,_,_=>none
 | k + 1,x0,x5=>if x5 < (x0.size:Int)then(if 0≤x5 then((impl_isDigit.f (bt x0 x5)).bind fun t283=>(if t283=true then(impl_termAt.l0 k x0 (wrap64 (x5 + 1)))else(impl_termAt.j2 k x0 x5)))else(none))else(impl_termAt.j2 k x0 x5)
def impl_termAt.j3:Nat→ByteArray→Bool→Option (Int×Int)
 | 0,_,_=>none
 | k + 1,x0,x66=>if x66=true then((impl_nameLong.f k x0).bind fun t289=>(if t289 > 20 then(some (0,0))else(if t289=(x0.size:Int)then(impl_termAt.j4 k x0 t289 true)else(if 0≤t289 then(if t289 < (x0.size:Int)then(impl_termAt.j4 k x0 t289 ((bt x0 t289) != 40))else(none))else(none)))))else(some (0,0))
def impl_termAt.j4:Nat→ByteArray→Int→Bool→Option (Int×Int)
 | 0,_,_,_=>none
 | k + 1,x0,x8,x88=>if x88=true then(some (3,x8))else(impl_termAt.l1 k x0 x8 true)
def impl_termAt.l1:Nat→ByteArray→Int→Bool→Option (Int×Int)
 | 0,_,_,_=>none
 | k + 1,x0,x8,x9=>if x9=true then(if 0≤(wrap64 (x8 + 1))then(if(wrap64 (x8 + 1))≤(x0.size:Int)then((impl_termAt.f k (x0.extract ((wrap64 (x8 + 1)):Int).toNat x0.size)).bind fun bt290=>(if bt290.1=0 then(some (0,0))else(if(wrap64 (x8 + (wrap64 (1 + bt290.2)))) < (x0.size:Int)then(if 0≤(wrap64 (x8 + (wrap64 (1 + bt290.2))))then(impl_termAt.l1 k x0 (wrap64 (x8 + (wrap64 (1 + bt290.2)))) ((bt x0 (wrap64 (x8 + (wrap64 (1 + bt290.2))))) == 44))else(none))else(impl_termAt.l1 k x0 (wrap64 (x8 + (wrap64 (1 + bt290.2)))) false))))else(none))else(none))else(if x8 < (x0.size:Int)then(if 0≤x8 then(if(bt x0 x8)=41 then(some (3,wrap64 (x8 + 1)))else(some (0,0)))else(none))else(some (0,0)))
def impl_termAt.f:Nat→ByteArray→Option (Int×Int)
 | 0,_=>none
 | k + 1,a0=>if a0.toList=([]:List UInt8)then(some (0,0))else(if 0 < (a0.size:Int)then(if(bt a0 0)=34 then((impl_symbolLong.f k a0).bind fun t281=>(if t281 > 0 then(some (2,t281))else(some (0,0))))else(if(bt a0 0)=45 then(impl_termAt.j0 k a0 true)else((impl_isDigit.f (bt a0 0)).bind fun t282=>(impl_termAt.j0 k a0 t282))))else(none))
end
def impl_termAt.T12:Bool×List (List Nat×List Nat):=(true,[([],[]),([0],[0]),([1],[1]),([2],[2]),([3,2,2],[2,3]),([2,4],[2,4]),([5,4],[5]),([6],[6]),([7,6,6],[6,7]),([6],[6]),([6],[6]),([9,10,6],[6,9,10]),([8,11,6],[6,8,11]),([6,12],[6,12])])
def impl_termAt.B12:List Nat:=[0,1,3,7,15,31,63,127,255,127,127,1663,4095,8191]
theorem impl_termAt.tab12:rtab .any (opsOf Tryz.f96 12)=impl_termAt.T12:=by kernel_rfl
theorem impl_termAt.bits12:waitsOk impl_termAt.T12.2 impl_termAt.B12=true:=by kernel_rfl
set_option maxHeartbeats 8000000 in
set_option maxRecDepth 100000 in
theorem impl_termAt.calls (k:Nat):∀(a0:ByteArray) (r1:Int) (r2:Int) (w:World) (hT:Tb w) (h:impl_termAt.f k a0=some (r1,r2)),
  Calls Tryz.prog 96 #[.string a0] w fun e w'=>e=.returned (.tuple #[.int .i64 r1,.int .i64 r2])∧Below w.heap.size w w':=by
 induction k using Nat.strongRecOn with
 | _ k ih =>
 intro a0 r1 r2 w hT h
 cases k with
 | zero=>exact absurd h (by simp [impl_termAt.f])
 | succ k =>
 simp only [impl_termAt.f]at h
 have Dt:=Tryz.underlying124
 have HT:=y0.mk hT
 clear hT
 have HB:=y0.mk (Below.refl w.heap.size w)
 have H:(if a0.toList=([]:List UInt8)then(some (0,0))else(if 0 < (a0.size:Int)then(if(bt a0 0)=34 then((impl_symbolLong.f k a0).bind fun Au=>(if Au > 0 then(some (2,Au))else(some (0,0))))else(if(bt a0 0)=45 then(impl_termAt.j0 k a0 true)else((impl_isDigit.f (bt a0 0)).bind fun Be=>(impl_termAt.j0 k a0 Be))))else(none)))=some (r1,r2):=h
 clear h
 by_cases c2:a0.toList=([]:List UInt8)
 ·rw [if_pos c2]at H
  have Cb:(a0.toList == ([]:List UInt8))=true:=beq_iff_eq.mpr c2
  have Cc:(a0.toList != ([]:List UInt8))=false:=bne_eq_false_iff_eq.mpr c2
  clear c2
  simp only [Option.some.injEq,Prod.mk.injEq]at H
  obtain⟨rfl,rfl⟩:=H
  go_enter Tryz.func96,Tryz.ntmps96
  go_wp2
  go_ret2
  exact⟨qf,qb⟩
 ·rw [if_neg c2]at H
  have Cb:(a0.toList == ([]:List UInt8))=false:=beq_eq_false_iff_ne.mpr c2
  have Cc:(a0.toList != ([]:List UInt8))=true:=bne_iff_ne.mpr c2
  obtain⟨c3,H⟩:=qo H
  have De:decide (0 < (a0.size:Int))=true:=decide_eq_true c3
  have Df:decide (0 < a0.size)=true:=decide_eq_true (by omega)
  clear c3
  by_cases c5:(bt a0 0)=34
  ·rw [if_pos c5]at H
   have Cd:((bt a0 0) == 34)=true:=beq_iff_eq.mpr c5
   have Ce:((bt a0 0) != 34)=false:=bne_eq_false_iff_eq.mpr c5
   clear c5
   obtain⟨Au,A6,H⟩:=qB H
   by_cases c7:Au > 0
   ·rw [if_pos c7]at H
    have Dg:decide (0 < Au)=true:=decide_eq_true c7
    clear c7
    simp only [Option.some.injEq,Prod.mk.injEq]at H
    obtain⟨rfl,rfl⟩:=H
    have p4:0≤(0:Int):=(by omega)
    have q4:0 < a0.size:=qy3
    have Dh:∀ h:0 < a0.size,((a0[0]'h).toNat:Int)=bt a0 0:=bt_at a0 0
    clear p4
    have Di:(0 < (a0.size:Int))=True:=eq_true (of_decide_eq_true qy1)
    replace q4:=eq_true q4
    go_enter Tryz.func96,Tryz.ntmps96
    go_wp2_with (first|((with_reducible refine y19 (f:=118) rfl ?_);refine y22 (some 19) rfl rfl Tryz.func118 (by kernel_rfl) rfl #[.string a0] rfl qy0 ?_;(with_reducible refine(impl_symbolLong.calls k a0 Au _ A6.out).mono ?_);rintro e w' ⟨rfl,⟨nd,rfl⟩⟩;refine⟨_,rfl, ?_⟩))
    go_ret2
    exact⟨qf,qb⟩
   ·rw [if_neg c7]at H
    have Dg:decide (0 < Au)=false:=decide_eq_false c7
    clear c7
    simp only [Option.some.injEq,Prod.mk.injEq]at H
    obtain⟨rfl,rfl⟩:=H
    have p4:0≤(0:Int):=(by omega)
    have q4:0 < a0.size:=qy3
    have Dh:∀ h:0 < a0.size,((a0[0]'h).toNat:Int)=bt a0 0:=bt_at a0 0
    clear p4
    have Di:(0 < (a0.size:Int))=True:=eq_true (of_decide_eq_true qy1)
    replace q4:=eq_true q4
    go_enter Tryz.func96,Tryz.ntmps96
    go_wp2_with (first|((with_reducible refine y19 (f:=118) rfl ?_);refine y22 (some 19) rfl rfl Tryz.func118 (by kernel_rfl) rfl #[.string a0] rfl qy0 ?_;(with_reducible refine(impl_symbolLong.calls k a0 Au _ A6.out).mono ?_);rintro e w' ⟨rfl,⟨nd,rfl⟩⟩;refine⟨_,rfl, ?_⟩))
    go_ret2
    exact⟨qf,qb⟩
  ·rw [if_neg c5]at H
   have Cd:((bt a0 0) == 34)=false:=beq_eq_false_iff_ne.mpr c5
   have Ce:((bt a0 0) != 34)=true:=bne_iff_ne.mpr c5
   have Dj:=y0.mk H
   clear H
   have p4:0≤(0:Int):=(by omega)
   have q4:0 < a0.size:=qy3
   have Dh:∀ h:0 < a0.size,((a0[0]'h).toNat:Int)=bt a0 0:=bt_at a0 0
   clear p4
   have Di:(0 < (a0.size:Int))=True:=eq_true (of_decide_eq_true qy1)
   replace q4:=eq_true q4
   go_enter Tryz.func96,Tryz.ntmps96
   go_upto_region 7 with(fail)
   go_cut [23] (fun Fc wc=>∃(kq:Nat) (Bd:Bool),Fc=.bool Bd∧y0 (impl_termAt.j0 kq a0 Bd=some (r1,r2))∧y0 (kq≤k)∧y0 (Below w.heap.size w wc))
   case first =>
    have H:=Dj.out
    clear Dj
    by_cases Bj:(bt a0 0)=45
    ·rw [if_pos Bj]at H
     have Av:((bt a0 0) == 45)=true:=beq_iff_eq.mpr Bj
     have Cf:((bt a0 0) != 45)=false:=bne_eq_false_iff_eq.mpr Bj
     clear Bj
     (first|rw [Av]|(simp only [i64_w,i32_w];rw [Av])|skip)
     have H':=y0.mk H
     clear H
     have p9:0≤(0:Int):=(by omega)
     have q9:0 < a0.size:=qy3
     have Fd:∀ h:0 < a0.size,((a0[0]'h).toNat:Int)=bt a0 0:=bt_at a0 0
     clear p9
     have Fe:(0 < (a0.size:Int))=True:=eq_true (of_decide_eq_true qy1)
     replace q9:=eq_true q9
     go_wp2
     go_meet
     exact⟨_,(true),qy2,H',⟨by first|omega|exact Nat.le_refl _⟩,⟨qb⟩⟩
    ·rw [if_neg Bj]at H
     have Av:((bt a0 0) == 45)=false:=beq_eq_false_iff_ne.mpr Bj
     have Cf:((bt a0 0) != 45)=true:=bne_iff_ne.mpr Bj
     (first|rw [Av]|(simp only [i64_w,i32_w];rw [Av])|skip)
     obtain⟨Be,Ff,H⟩:=qB H
     have H':=y0.mk H
     clear H
     have p9:0≤(0:Int):=(by omega)
     have q9:0 < a0.size:=qy3
     have Fd:∀ h:0 < a0.size,((a0[0]'h).toNat:Int)=bt a0 0:=bt_at a0 0
     clear p9
     have Fe:(0 < (a0.size:Int))=True:=eq_true (of_decide_eq_true qy1)
     replace q9:=eq_true q9
     have Fg:0≤(0:Int):=(by omega)
     have Du:0 < a0.size:=qy3
     have Fh:∀ h:0 < a0.size,((a0[0]'h).toNat:Int)=bt a0 0:=bt_at a0 0
     clear Fg
     have Fi:(0 < (a0.size:Int))=True:=eq_true (of_decide_eq_true qy1)
     replace Du:=eq_true Du
     go_wp2_with (first|(go_at_call 119;(with_reducible refine(impl_isDigit.calls (bt a0 0) Be _ Ff.out).mono ?_);rintro e w' ⟨rfl,⟨nd,rfl⟩⟩))
     go_meet
     exact⟨_,(Be),qy2,H',⟨by first|omega|exact Nat.le_refl _⟩,⟨qb⟩⟩
   case rest =>
    clear Dj
    (try clear Cb Cc De Df q4 Dh Di Cd Ce q4)
    obtain⟨kq,Bd,rfl,HA,Ba,HB⟩:=hcut
    cases kq with
    | zero=>exact absurd HA.out (by simp [impl_termAt.j0])
    | succ Cx =>
     have H:=HA.out
     clear HA
     simp only [impl_termAt.j0]at H
     by_cases Bu:Bd=true
     ·subst Bu
      replace H:=qT H
      have Bk:=y0.mk H
      clear H
      go_upto_block 1 with(fail)
      go_cut [5] (fun v5 wc=>∃(kq:Nat) (Aa:Int),v5=.int .i64 Aa∧y0 (impl_termAt.j2 kq a0 Aa=some (r1,r2))∧y0 (kq≤Cx)∧y0 (Below w.heap.size w wc))
      case first =>
       have H:=Bk.out
       clear Bk
       have H':=y0.mk H
       clear H
       go_wp2
       go_loopg [5] Cx (fun kq v5 w'=>∃(Ae:Int),v5=.int .i64 Ae∧y0 (impl_termAt.l0 kq a0 Ae=some (r1,r2))∧y0 (kq≤Cx)∧y0 (Below w.heap.size w w'))
       case atStart=>exact⟨(1),qy2,H',⟨Nat.le_refl _⟩,⟨qb⟩⟩
       case round =>
        clear H'
        (try clear Bu)
        obtain⟨Ae,rfl,HA,Cy,HB⟩:=hrel
        cases gk with
        | zero=>exact absurd HA.out (by simp [impl_termAt.l0])
        | succ k2 =>
         have H:=HA.out
         clear HA
         simp only [impl_termAt.l0]at H
         by_cases Bv:Ae < (a0.size:Int)
         ·rw [if_pos Bv]at H
          have Aw:=decide_eq_true Bv
          clear Bv
          (first|rw [Aw]|(simp only [i64_w,i32_w];rw [Aw])|skip)
          obtain⟨Dv,H⟩:=qo H
          have Dw:decide (0≤Ae)=true:=decide_eq_true Dv
          clear Dv
          obtain⟨Dk,Dx,H⟩:=qB H
          by_cases Cz:Dk=true
          ·subst Cz
           replace H:=qT H
           have H':=y0.mk H
           clear H
           have Cg:0≤(Ae:Int):=of_decide_eq_true qy1
           have Ch:Ae < (a0.size:Int):=of_decide_eq_true qy1
           have Dl:=bt_at a0 Ae
           replace Cg:=eq_true Cg
           replace Ch:=eq_true Ch
           go_wp2_with (first|(go_at_call 119;(with_reducible refine(impl_isDigit.calls (bt a0 Ae) true _ Dx.out).mono ?_);rintro e w' ⟨rfl,⟨nd,rfl⟩⟩))
           go_roundg k2
           case measure=>have:=Ba.out;have:=Cy.out;omega
           exact⟨(wrap64 (Ae + 1)),qy2,H',⟨by have:=Ba.out;have:=Cy.out;omega⟩,⟨qb⟩⟩
          ·replace Cz:=Bool.eq_false_iff.mpr Cz
           subst Cz
           replace H:=qF H
           have H':=y0.mk H
           clear H
           have Cg:0≤(Ae:Int):=of_decide_eq_true qy1
           have Ch:Ae < (a0.size:Int):=of_decide_eq_true qy1
           have Dl:=bt_at a0 Ae
           replace Cg:=eq_true Cg
           replace Ch:=eq_true Ch
           go_wp2_with (first|(go_at_call 119;(with_reducible refine(impl_isDigit.calls (bt a0 Ae) false _ Dx.out).mono ?_);rintro e w' ⟨rfl,⟨nd,rfl⟩⟩))
           go_meet
           exact⟨_,(Ae),qy2,H',⟨by have:=Ba.out;have:=Cy.out;first|omega|exact Nat.le_refl _⟩,⟨qb⟩⟩
         ·rw [if_neg Bv]at H
          have Aw:=decide_eq_false Bv
          clear Bv
          (first|rw [Aw]|(simp only [i64_w,i32_w];rw [Aw])|skip)
          have H':=y0.mk H
          clear H
          go_wp2
          go_meet
          exact⟨_,(Ae),qy2,H',⟨by have:=Ba.out;have:=Cy.out;first|omega|exact Nat.le_refl _⟩,⟨qb⟩⟩
      case rest =>
       clear Bk
       obtain⟨kq,Aa,rfl,HA,Fj,HB⟩:=hcut
       cases kq with
       | zero=>exact absurd HA.out (by simp [impl_termAt.j2])
       | succ Fk =>
        have H:=HA.out
        clear HA
        simp only [impl_termAt.j2]at H
        obtain⟨Dm,H⟩:=qo H
        have Dy:=eq_true Dm
        have Dz:=decide_eq_true Dm
        clear Dm
        obtain⟨Dn,H⟩:=qo H
        have Ea:=eq_true Dn
        have Eb:=decide_eq_true Dn
        clear Dn
        obtain⟨⟨Af,Do⟩,Da,H⟩:=qB H
        dsimp only at H
        rcases Do with _|Ci
        ·have H1:((impl_in.f Af (-1000000) 1000000).bind fun Bl=>(if Bl=true then((strconv_Itoa.f Af).bind fun Al=>(if Al.toList=(a0.extract 0 (Aa:Int).toNat).toList then(some (1,Aa))else(some (0,0))))else(some (0,0))))=some (r1,r2):=by rw [if_pos (show(none:Option Int).isNone=true by rfl)]at H;exact H
         clear H
         have H:=H1
         clear H1
         try simp only [y17,y18]
         obtain⟨Bl,Dp,H⟩:=qB H
         by_cases Db:Bl=true
         ·subst Db
          replace H:=qT H
          obtain⟨Al,Ec,H⟩:=qB H
          have Ed:=eq_true (of_decide_eq_true qy1:0≤Aa)
          have Ee:=eq_true (of_decide_eq_true qy1:Aa≤(a0.size:Int))
          by_cases Bm:Al.toList=(a0.extract 0 (Aa:Int).toNat).toList
          ·rw [if_pos Bm]at H
           have Cj:(Al.toList == (a0.extract 0 (Aa:Int).toNat).toList)=true:=beq_iff_eq.mpr Bm
           have Ck:(Al.toList != (a0.extract 0 (Aa:Int).toNat).toList)=false:=bne_eq_false_iff_eq.mpr Bm
           clear Bm
           simp only [Option.some.injEq,Prod.mk.injEq]at H
           obtain⟨rfl,rfl⟩:=H
           try go_wp2_with (first|((with_reducible refine y19 (f:=120) rfl ?_);refine y22 (some 48) rfl rfl Tryz.func120 (by kernel_rfl) rfl #[.string (a0.extract 0 (Aa:Int).toNat)] rfl qy0 ?_;(with_reducible refine(strconv_Atoi.calls (a0.extract 0 (Aa:Int).toNat) Af none _ (by exact Tb.below HT.out qb) Da.out).mono ?_);rintro e Fl ⟨ev_,rfl,hev_,hb⟩;obtain rfl:=errIs_none hev_;refine⟨_,rfl, ?_⟩;replace HB:=y0.mk (y8 qb hb);(try clear hb);(try simp only [y17,y18])))
           replace HB:=y0.mk (y5 HB.out)
           refine start_ (n:=14) (S:=fun w'=>True) (ds:=[]) (fl_ 14 0) (by kernel_rfl) rfl rfl trivial (fun hHeld=>?_);refine with_tabW impl_termAt.tab12 impl_termAt.bits12 (fun HT_ HW_=>?_)
           generalize Fl.drew=Fz at HB hHeld ⊢
           refine qp4 0 51 14 ?_
           refine qO 4 55 (fl_ 14 31) (fun K hK=>?_)
           refine goes_ Tryz.func69 (by kernel_rfl) rfl #[.int .i64 Af,.int .i64 (-1000000),.int .i64 1000000] (by rfl) rfl rfl qy0 ?_
           with_reducible refine(impl_in.calls Af (-1000000) 1000000 true _ Dp.out).mono ?_
           rintro e w' ⟨rfl,⟨nd,rfl⟩⟩
           refine⟨_,rfl, ?_⟩
           refine hK.out _ _ trivial (fun hHeld=>?_)
           clear hK K
           refine qx 55 ?_
           refine qp3 5 56 14 ?_
           refine qp 9 60 (fl_ 14 767) ?_
           refine qp 10 61 (fl_ 14 1791) ?_
           refine qp 11 62 (fl_ 14 3839) ?_
           refine qO 8 59 (fl_ 14 4095) (fun K hK=>?_)
           refine goes_ Tryz.func121 (by kernel_rfl) rfl #[.int .i64 Af] (by rfl) rfl rfl qy0 ?_
           with_reducible refine(strconv_Itoa.calls Af Al _ (by exact Tb.below HT.out qb) Ec.out).mono ?_
           rintro e Ga ⟨rfl,hb⟩
           refine⟨_,rfl, ?_⟩
           replace HB:=y0.mk (y8 qb hb)
           (try clear hb)
           refine hK.out _ _ trivial (fun hHeld=>?_)
           clear hK K
           refine qx 59 ?_
           refine qp2 12 63 14 ?_
           refine done_ (done_of HT_.out (by kernel_rfl)) ?_
           try go_wp2
           go_ret2
           exact⟨qf,qb⟩
          ·rw [if_neg Bm]at H
           have Cj:(Al.toList == (a0.extract 0 (Aa:Int).toNat).toList)=false:=beq_eq_false_iff_ne.mpr Bm
           have Ck:(Al.toList != (a0.extract 0 (Aa:Int).toNat).toList)=true:=bne_iff_ne.mpr Bm
           simp only [Option.some.injEq,Prod.mk.injEq]at H
           obtain⟨rfl,rfl⟩:=H
           try go_wp2_with (first|((with_reducible refine y19 (f:=120) rfl ?_);refine y22 (some 48) rfl rfl Tryz.func120 (by kernel_rfl) rfl #[.string (a0.extract 0 (Aa:Int).toNat)] rfl qy0 ?_;(with_reducible refine(strconv_Atoi.calls (a0.extract 0 (Aa:Int).toNat) Af none _ (by exact Tb.below HT.out qb) Da.out).mono ?_);rintro e Fm ⟨ev_,rfl,hev_,hb⟩;obtain rfl:=errIs_none hev_;refine⟨_,rfl, ?_⟩;replace HB:=y0.mk (y8 qb hb);(try clear hb);(try simp only [y17,y18])))
           replace HB:=y0.mk (y5 HB.out)
           refine start_ (n:=14) (S:=fun w'=>True) (ds:=[]) (fl_ 14 0) (by kernel_rfl) rfl rfl trivial (fun hHeld=>?_);refine with_tabW impl_termAt.tab12 impl_termAt.bits12 (fun HT_ HW_=>?_)
           generalize Fm.drew=Gb at HB hHeld ⊢
           refine qp4 0 51 14 ?_
           refine qO 4 55 (fl_ 14 31) (fun K hK=>?_)
           refine goes_ Tryz.func69 (by kernel_rfl) rfl #[.int .i64 Af,.int .i64 (-1000000),.int .i64 1000000] (by rfl) rfl rfl qy0 ?_
           with_reducible refine(impl_in.calls Af (-1000000) 1000000 true _ Dp.out).mono ?_
           rintro e w' ⟨rfl,⟨nd,rfl⟩⟩
           refine⟨_,rfl, ?_⟩
           refine hK.out _ _ trivial (fun hHeld=>?_)
           clear hK K
           refine qx 55 ?_
           refine qp3 5 56 14 ?_
           refine qp 9 60 (fl_ 14 767) ?_
           refine qp 10 61 (fl_ 14 1791) ?_
           refine qp 11 62 (fl_ 14 3839) ?_
           refine qO 8 59 (fl_ 14 4095) (fun K hK=>?_)
           refine goes_ Tryz.func121 (by kernel_rfl) rfl #[.int .i64 Af] (by rfl) rfl rfl qy0 ?_
           with_reducible refine(strconv_Itoa.calls Af Al _ (by exact Tb.below HT.out qb) Ec.out).mono ?_
           rintro e Gc ⟨rfl,hb⟩
           refine⟨_,rfl, ?_⟩
           replace HB:=y0.mk (y8 qb hb)
           (try clear hb)
           refine hK.out _ _ trivial (fun hHeld=>?_)
           clear hK K
           refine qx 59 ?_
           refine qp2 12 63 14 ?_
           refine done_ (done_of HT_.out (by kernel_rfl)) ?_
           try go_wp2
           go_ret2
           exact⟨qf,qb⟩
         ·replace Db:=Bool.eq_false_iff.mpr Db
          subst Db
          replace H:=qF H
          simp only [Option.some.injEq,Prod.mk.injEq]at H
          obtain⟨rfl,rfl⟩:=H
          try go_wp2_with (first|((with_reducible refine y19 (f:=120) rfl ?_);refine y22 (some 48) rfl rfl Tryz.func120 (by kernel_rfl) rfl #[.string (a0.extract 0 (Aa:Int).toNat)] rfl qy0 ?_;(with_reducible refine(strconv_Atoi.calls (a0.extract 0 (Aa:Int).toNat) Af none _ (by exact Tb.below HT.out qb) Da.out).mono ?_);rintro e Fn ⟨ev_,rfl,hev_,hb⟩;obtain rfl:=errIs_none hev_;refine⟨_,rfl, ?_⟩;replace HB:=y0.mk (y8 qb hb);(try clear hb);(try simp only [y17,y18])))
          replace HB:=y0.mk (y5 HB.out)
          refine start_ (n:=14) (S:=fun w'=>True) (ds:=[]) (fl_ 14 0) (by kernel_rfl) rfl rfl trivial (fun hHeld=>?_);refine with_tabW impl_termAt.tab12 impl_termAt.bits12 (fun HT_ HW_=>?_)
          generalize Fn.drew=Gd at HB hHeld ⊢
          refine qp4 0 51 14 ?_
          refine qO 4 55 (fl_ 14 31) (fun K hK=>?_)
          refine goes_ Tryz.func69 (by kernel_rfl) rfl #[.int .i64 Af,.int .i64 (-1000000),.int .i64 1000000] (by rfl) rfl rfl qy0 ?_
          with_reducible refine(impl_in.calls Af (-1000000) 1000000 false _ Dp.out).mono ?_
          rintro e w' ⟨rfl,⟨nd,rfl⟩⟩
          refine⟨_,rfl, ?_⟩
          refine hK.out _ _ trivial (fun hHeld=>?_)
          clear hK K
          refine qx 55 ?_
          refine qp6 5 56 14 ?_
          refine qp3 11 62 14 ?_
          refine done_ (done_of HT_.out (by kernel_rfl)) ?_
          try go_wp2
          go_ret2
          exact⟨qf,qb⟩
        ·have H1:(some (0,0))=some (r1,r2):=by rw [if_neg (show ¬(some Ci).isNone=true by simp)]at H;exact H
         clear H
         have H:=H1
         clear H1
         try simp only [y17,y18]
         simp only [Option.some.injEq,Prod.mk.injEq]at H
         obtain⟨rfl,rfl⟩:=H
         try go_wp2_with (first|((with_reducible refine y19 (f:=120) rfl ?_);refine y22 (some 48) rfl rfl Tryz.func120 (by kernel_rfl) rfl #[.string (a0.extract 0 (Aa:Int).toNat)] rfl qy0 ?_;(with_reducible refine(strconv_Atoi.calls (a0.extract 0 (Aa:Int).toNat) Af (some Ci) _ (by exact Tb.below HT.out qb) Da.out).mono ?_);rintro e Fo ⟨ev_,rfl,hev_,hb⟩;obtain⟨te_,pe_,rfl⟩:=errIs_some hev_;refine⟨_,rfl, ?_⟩;replace HB:=y0.mk (y8 qb hb);(try clear hb);(try simp only [y17,y18])))
         replace HB:=y0.mk (y5 HB.out)
         refine start_ (n:=14) (S:=fun w'=>True) (ds:=[]) (fl_ 14 0) (by kernel_rfl) rfl rfl trivial (fun hHeld=>?_);refine with_tabW impl_termAt.tab12 impl_termAt.bits12 (fun HT_ HW_=>?_)
         generalize Fo.drew=Ge at HB hHeld ⊢
         refine qp10 0 51 14 ?_
         refine qp4 10 61 14 ?_
         refine done_ (done_of HT_.out (by kernel_rfl)) ?_
         try go_wp2
         go_ret2
         exact⟨qf,qb⟩
     ·replace Bu:=Bool.eq_false_iff.mpr Bu
      subst Bu
      replace H:=qF H
      have Bn:=y0.mk H
      clear H
      go_upto_region 14 with(fail)
      go_cut [66] (fun Fp wc=>∃(kq:Nat) (Am:Bool),Fp=.bool Am∧y0 (impl_termAt.j3 kq a0 Am=some (r1,r2))∧y0 (kq≤Cx)∧y0 (Below w.heap.size w wc))
      case first =>
       have H:=Bn.out
       clear Bn
       obtain⟨Ef,H⟩:=qo H
       have Bg:decide (0 < (a0.size:Int))=true:=decide_eq_true Ef
       have Eg:decide (0 < a0.size)=true:=decide_eq_true (by omega)
       clear Ef
       (first|rw [Bg]|(simp only [i64_w,i32_w];rw [Bg])|skip)
       have Fq:0≤(0:Int):=(by omega)
       have Eh:0 < a0.size:=qy3
       have Fr:∀ h:0 < a0.size,((a0[0]'h).toNat:Int)=bt a0 0:=bt_at a0 0
       clear Fq
       have Fs:(0 < (a0.size:Int))=True:=eq_true (of_decide_eq_true qy1)
       replace Eh:=eq_true Eh
       by_cases Bw:(bt a0 0)≥65
       ·rw [if_pos Bw]at H
        have Cl:decide (65≤(bt a0 0))=true:=decide_eq_true Bw
        clear Bw
        have H':=y0.mk H
        clear H
        have Ft:0≤(0:Int):=(by omega)
        have Ei:0 < a0.size:=qy3
        have Fu:∀ h:0 < a0.size,((a0[0]'h).toNat:Int)=bt a0 0:=bt_at a0 0
        clear Ft
        have Fv:(0 < (a0.size:Int))=True:=eq_true (of_decide_eq_true qy1)
        replace Ei:=eq_true Ei
        go_wp2
        go_meet
        exact⟨_,(decide ((bt a0 0)≤90)),qy2,H',⟨by have:=Ba.out;first|omega|exact Nat.le_refl _⟩,⟨qb⟩⟩
       ·rw [if_neg Bw]at H
        have Cl:decide (65≤(bt a0 0))=false:=decide_eq_false Bw
        clear Bw
        have H':=y0.mk H
        clear H
        go_wp2
        go_meet
        exact⟨_,(false),qy2,H',⟨by have:=Ba.out;first|omega|exact Nat.le_refl _⟩,⟨qb⟩⟩
      case rest =>
       clear Bn
       (try clear Bu)
       obtain⟨kq,Am,rfl,HA,Ap,HB⟩:=hcut
       cases kq with
       | zero=>exact absurd HA.out (by simp [impl_termAt.j3])
       | succ Bo =>
        have H:=HA.out
        clear HA
        simp only [impl_termAt.j3]at H
        by_cases Cm:Am=true
        ·subst Cm
         replace H:=qT H
         obtain⟨Ad,Ej,H⟩:=qB H
         by_cases Bx:Ad > 20
         ·rw [if_pos Bx]at H
          have Bh:decide (20 < Ad)=true:=decide_eq_true Bx
          clear Bx
          simp only [Option.some.injEq,Prod.mk.injEq]at H
          obtain⟨rfl,rfl⟩:=H
          go_wp2_with (first|((with_reducible refine y19 (f:=122) rfl ?_);refine y22 (some 76) rfl rfl Tryz.func122 (by kernel_rfl) rfl #[.string a0] rfl qy0 ?_;(with_reducible refine(impl_nameLong.calls Bo a0 Ad _ Ej.out).mono ?_);rintro e w' ⟨rfl,⟨nd,rfl⟩⟩;refine⟨_,rfl, ?_⟩))
          go_ret2
          exact⟨qf,qb⟩
         ·rw [if_neg Bx]at H
          have Bh:decide (20 < Ad)=false:=decide_eq_false Bx
          clear Bx
          have Bp:=y0.mk H
          clear H
          go_upto_region 18 with(first|((with_reducible refine y19 (f:=122) rfl ?_);refine y22 (some 76) rfl rfl Tryz.func122 (by kernel_rfl) rfl #[.string a0] rfl qy0 ?_;(with_reducible refine(impl_nameLong.calls Bo a0 Ad _ Ej.out).mono ?_);rintro e w' ⟨rfl,⟨nd,rfl⟩⟩;refine⟨_,rfl, ?_⟩))
          (try simp only [Act.put,qS_,qZ_,qC_])
          go_cut [88] (fun Fw wc=>∃(kq:Nat) (Aq:Bool),Fw=.bool Aq∧y0 (impl_termAt.j4 kq a0 Ad Aq=some (r1,r2))∧y0 (kq≤Bo)∧y0 (Below w.heap.size w wc))
          case first =>
           have H:=Bp.out
           clear Bp
           by_cases Bq:Ad=(a0.size:Int)
           ·rw [if_pos Bq]at H
            have Ay:(Ad == (a0.size:Int))=true:=beq_iff_eq.mpr Bq
            have Cn:(Ad != (a0.size:Int))=false:=bne_eq_false_iff_eq.mpr Bq
            clear Bq
            (first|rw [Ay]|(simp only [i64_w,i32_w];rw [Ay])|skip)
            have H':=y0.mk H
            clear H
            go_wp2
            go_meet
            exact⟨_,(true),qy2,H',⟨by have:=Ba.out;have:=Ap.out;first|omega|exact Nat.le_refl _⟩,⟨qb⟩⟩
           ·rw [if_neg Bq]at H
            have Ay:(Ad == (a0.size:Int))=false:=beq_eq_false_iff_ne.mpr Bq
            have Cn:(Ad != (a0.size:Int))=true:=bne_iff_ne.mpr Bq
            (first|rw [Ay]|(simp only [i64_w,i32_w];rw [Ay])|skip)
            obtain⟨Ek,H⟩:=qo H
            have El:decide (0≤Ad)=true:=decide_eq_true Ek
            clear Ek
            obtain⟨Em,H⟩:=qo H
            have En:decide (Ad < (a0.size:Int))=true:=decide_eq_true Em
            clear Em
            have H':=y0.mk H
            clear H
            have Eo:0≤(Ad:Int):=of_decide_eq_true qy1
            have Ep:Ad < (a0.size:Int):=of_decide_eq_true qy1
            have Fx:=bt_at a0 Ad
            replace Eo:=eq_true Eo
            replace Ep:=eq_true Ep
            go_wp2
            go_meet
            exact⟨_,(((bt a0 Ad) != 40)),qy2,H',⟨by have:=Ba.out;have:=Ap.out;first|omega|exact Nat.le_refl _⟩,⟨qb⟩⟩
          case rest =>
           clear Bp
           (try clear Cm Bh)
           obtain⟨kq,Aq,rfl,HA,Bb,HB⟩:=hcut
           cases kq with
           | zero=>exact absurd HA.out (by simp [impl_termAt.j4])
           | succ Co =>
            have H:=HA.out
            clear HA
            simp only [impl_termAt.j4]at H
            by_cases Cp:Aq=true
            ·subst Cp
             replace H:=qT H
             simp only [Option.some.injEq,Prod.mk.injEq]at H
             obtain⟨rfl,rfl⟩:=H
             go_wp2
             go_ret2
             exact⟨qf,qb⟩
            ·replace Cp:=Bool.eq_false_iff.mpr Cp
             subst Cp
             replace H:=qF H
             have H':=y0.mk H
             clear H
             go_wp2
             go_loopg [8,9] Co (fun kq v8 v9 w'=>∃(Ac:Int) (Bf:Bool),v8=.int .i64 Ac∧v9=.bool Bf∧y0 (impl_termAt.l1 kq a0 Ac Bf=some (r1,r2))∧y0 (kq≤Co)∧y0 (Below w.heap.size w w'))
             case atStart=>exact⟨(Ad),(true),qy2,qy2,H',⟨Nat.le_refl _⟩,⟨qb⟩⟩
             case round =>
              clear H'
              (try clear Cp)
              obtain⟨Ac,Bf,rfl,rfl,HA,Br,HB⟩:=hrel
              cases gk with
              | zero=>exact absurd HA.out (by simp [impl_termAt.l1])
              | succ k4 =>
               have H:=HA.out
               clear HA
               simp only [impl_termAt.l1]at H
               by_cases Dc:Bf=true
               ·subst Dc
                replace H:=qT H
                obtain⟨Ai,Ag⟩:∃ j_:Int,(wrap64 (Ac + 1))=j_:=⟨_,rfl⟩
                replace H:(if 0≤(Ai)then(if(Ai)≤(a0.size:Int)then((impl_termAt.f k4 (a0.extract ((Ai):Int).toNat a0.size)).bind fun Ak=>(if Ak.1=0 then(some (0,0))else(if(wrap64 (Ac + (wrap64 (1 + Ak.2)))) < (a0.size:Int)then(if 0≤(wrap64 (Ac + (wrap64 (1 + Ak.2))))then(impl_termAt.l1 k4 a0 (wrap64 (Ac + (wrap64 (1 + Ak.2)))) ((bt a0 (wrap64 (Ac + (wrap64 (1 + Ak.2))))) == 44))else(none))else(impl_termAt.l1 k4 a0 (wrap64 (Ac + (wrap64 (1 + Ak.2)))) false))))else(none))else(none))=some (r1,r2):=by first|(rw [Ag]at H;exact H)|(simp only [Ag]at H ⊢;exact H)
                have hji54w:(IntKind.i64.wrap (Ac + 1))=Ai:=(i64_w _).trans Ag
                obtain⟨Dq,H⟩:=qo H
                have Er:=eq_true Dq
                have Es:=decide_eq_true Dq
                clear Dq
                obtain⟨Dr,H⟩:=qo H
                have Et:=eq_true Dr
                have Eu:=decide_eq_true Dr
                clear Dr
                obtain⟨⟨Az,Bc⟩,Dd,H⟩:=qB H
                dsimp only at H
                by_cases Bs:Az=0
                ·rw [if_pos Bs]at H
                 have Cq:(Az == 0)=true:=beq_iff_eq.mpr Bs
                 have Cr:(Az != 0)=false:=bne_eq_false_iff_eq.mpr Bs
                 clear Bs
                 simp only [Option.some.injEq,Prod.mk.injEq]at H
                 obtain⟨rfl,rfl⟩:=H
                 go_wp2_with (first|((with_reducible refine y19 (f:=96) rfl ?_);refine y22 (some 106) rfl rfl Tryz.func96 (by kernel_rfl) rfl #[.string (a0.extract ((Ai):Int).toNat a0.size)] rfl (by(try simp only [qM_,List.map_cons,List.map_nil]);first|done|(simp only [Ag];rfl)|rfl|(simp only [qD_,qT_];rfl)) ?_;(with_reducible refine(ih k4 (by have:=Ba.out;have:=Ap.out;have:=Bb.out;have:=Br.out;omega) (a0.extract ((Ai):Int).toNat a0.size) Az Bc _ (by exact Tb.below HT.out qb) Dd.out).mono ?_);rintro e Gf ⟨rfl,hb⟩;refine⟨_,rfl, ?_⟩;replace HB:=y0.mk (y8 qb hb);(try clear hb)))
                 go_ret2
                 exact⟨by first|rfl|(simp [y17,y18] <;> rfl)|(simp only [← Ag];first|rfl|(simp [y17,y18] <;> rfl))|(simp [*,y17,y18] <;> rfl),qb⟩
                ·rw [if_neg Bs]at H
                 have Cq:(Az == 0)=false:=beq_eq_false_iff_ne.mpr Bs
                 have Cr:(Az != 0)=true:=bne_iff_ne.mpr Bs
                 by_cases Bz:(wrap64 (Ac + (wrap64 (1 + Bc)))) < (a0.size:Int)
                 ·rw [if_pos Bz]at H
                  have Bi:=decide_eq_true Bz
                  clear Bz
                  obtain⟨Aj,Ah⟩:∃ j_:Int,(wrap64 (Ac + (wrap64 (1 + Bc))))=j_:=⟨_,rfl⟩
                  replace H:(if 0≤(Aj)then(impl_termAt.l1 k4 a0 Aj ((bt a0 (Aj)) == 44))else(none))=some (r1,r2):=by first|(rw [Ah]at H;exact H)|(simp only [Ah]at H ⊢;exact H)
                  (try rw [Ah]at Bi)
                  (try rw [Ah]at Dd)
                  have hji61w:(IntKind.i64.wrap (Ac + (wrap64 (1 + Bc))))=Aj:=(i64_w _).trans Ah
                  obtain⟨Ew,H⟩:=qo H
                  have Ex:decide (0≤(Aj))=true:=decide_eq_true Ew
                  clear Ew
                  have H':=y0.mk H
                  clear H
                  go_wp2_with (first|((with_reducible refine y19 (f:=96) rfl ?_);refine y22 (some 106) rfl rfl Tryz.func96 (by kernel_rfl) rfl #[.string (a0.extract ((Ai):Int).toNat a0.size)] rfl (by(try simp only [qM_,List.map_cons,List.map_nil]);first|done|(simp only [Ag];rfl)|rfl|(simp only [qD_,qT_];rfl)) ?_;(with_reducible refine(ih k4 (by have:=Ba.out;have:=Ap.out;have:=Bb.out;have:=Br.out;omega) (a0.extract ((Ai):Int).toNat a0.size) Az Bc _ (by exact Tb.below HT.out qb) Dd.out).mono ?_);rintro e Gg ⟨rfl,hb⟩;refine⟨_,rfl, ?_⟩;replace HB:=y0.mk (y8 qb hb);(try clear hb);have Ey:0≤((Aj):Int):=of_decide_eq_true qy1;have Ez:(Aj) < (a0.size:Int):=of_decide_eq_true qy1;have Fy:=bt_at a0 (Aj);replace Ey:=eq_true Ey;replace Ez:=eq_true Ez))
                  go_roundg k4
                  case measure=>have:=Ba.out;have:=Ap.out;have:=Bb.out;have:=Br.out;omega
                  exact⟨(Aj),(((bt a0 (Aj)) == 44)),(by first|rfl|(simp;done)|(simp only [← Ah] <;> (first|rfl|simp))|(simp [*];done)),(by first|rfl|(simp;done)|(simp only [← Ah] <;> (first|rfl|simp))|(simp [*];done)),H',⟨by have:=Ba.out;have:=Ap.out;have:=Bb.out;have:=Br.out;omega⟩,⟨qb⟩⟩
                 ·rw [if_neg Bz]at H
                  have Bi:=decide_eq_false Bz
                  clear Bz
                  have H':=y0.mk H
                  clear H
                  go_wp2_with (first|((with_reducible refine y19 (f:=96) rfl ?_);refine y22 (some 106) rfl rfl Tryz.func96 (by kernel_rfl) rfl #[.string (a0.extract ((Ai):Int).toNat a0.size)] rfl (by(try simp only [qM_,List.map_cons,List.map_nil]);first|done|(simp only [Ag];rfl)|rfl|(simp only [qD_,qT_];rfl)) ?_;(with_reducible refine(ih k4 (by have:=Ba.out;have:=Ap.out;have:=Bb.out;have:=Br.out;omega) (a0.extract ((Ai):Int).toNat a0.size) Az Bc _ (by exact Tb.below HT.out qb) Dd.out).mono ?_);rintro e Gh ⟨rfl,hb⟩;refine⟨_,rfl, ?_⟩;replace HB:=y0.mk (y8 qb hb);(try clear hb)))
                  go_roundg k4
                  case measure=>have:=Ba.out;have:=Ap.out;have:=Bb.out;have:=Br.out;omega
                  exact⟨(wrap64 (Ac + (wrap64 (1 + Bc)))),(false),qy2,qy2,H',⟨by have:=Ba.out;have:=Ap.out;have:=Bb.out;have:=Br.out;omega⟩,⟨qb⟩⟩
               ·replace Dc:=Bool.eq_false_iff.mpr Dc
                subst Dc
                replace H:=qF H
                by_cases Ca:Ac < (a0.size:Int)
                ·rw [if_pos Ca]at H
                 have Cs:=decide_eq_true Ca
                 clear Ca
                 obtain⟨Fa,H⟩:=qo H
                 have Fb:decide (0≤Ac)=true:=decide_eq_true Fa
                 clear Fa
                 by_cases Bt:(bt a0 Ac)=41
                 ·rw [if_pos Bt]at H
                  have Ct:((bt a0 Ac) == 41)=true:=beq_iff_eq.mpr Bt
                  have Cu:((bt a0 Ac) != 41)=false:=bne_eq_false_iff_eq.mpr Bt
                  clear Bt
                  simp only [Option.some.injEq,Prod.mk.injEq]at H
                  obtain⟨rfl,rfl⟩:=H
                  have Cv:0≤(Ac:Int):=of_decide_eq_true qy1
                  have Cw:Ac < (a0.size:Int):=of_decide_eq_true qy1
                  have Ds:=bt_at a0 Ac
                  replace Cv:=eq_true Cv
                  replace Cw:=eq_true Cw
                  go_wp2
                  go_ret2
                  exact⟨qf,qb⟩
                 ·rw [if_neg Bt]at H
                  have Ct:((bt a0 Ac) == 41)=false:=beq_eq_false_iff_ne.mpr Bt
                  have Cu:((bt a0 Ac) != 41)=true:=bne_iff_ne.mpr Bt
                  simp only [Option.some.injEq,Prod.mk.injEq]at H
                  obtain⟨rfl,rfl⟩:=H
                  have Cv:0≤(Ac:Int):=of_decide_eq_true qy1
                  have Cw:Ac < (a0.size:Int):=of_decide_eq_true qy1
                  have Ds:=bt_at a0 Ac
                  replace Cv:=eq_true Cv
                  replace Cw:=eq_true Cw
                  go_wp2
                  go_ret2
                  exact⟨qf,qb⟩
                ·rw [if_neg Ca]at H
                 have Cs:=decide_eq_false Ca
                 clear Ca
                 simp only [Option.some.injEq,Prod.mk.injEq]at H
                 obtain⟨rfl,rfl⟩:=H
                 go_wp2
                 go_ret2
                 exact⟨qf,qb⟩
        ·replace Cm:=Bool.eq_false_iff.mpr Cm
         subst Cm
         replace H:=qF H
         simp only [Option.some.injEq,Prod.mk.injEq]at H
         obtain⟨rfl,rfl⟩:=H
         go_wp2
         go_ret2
         exact⟨qf,qb⟩
end Go.Proofs.YtkajecadkkgfmaaGreatDoor.Pn
end
section
namespace Go.Proofs.YtkajecadkkgfmaaGreatDoor.Pn
open Go.RowKit Go.Proofs.YtkajecadkkgfmaaGreatDoorW.PrintWords Go.Proofs.YtkajecadkkgfmaaGreatDoorW.PrintLast Go.Proofs.YtkajecadkkgfmaaGreatDoorW.PrintMore
attribute [local go_sem] max2_int min2_int max_two min_two max_three min_three max_four min_four   -- for this text's walks alone
set_option linter.unusedVariables false
set_option linter.unusedSimpArgs false
def impl_kindOf.f (k:Nat) (a0:ByteArray):Option (Int):=(impl_termAt.f k a0).bind fun bt292=>(if(a0.size:Int) > 200 then(some 0)else(if bt292.2=(a0.size:Int)then(some bt292.1)else(some 0)))
set_option maxHeartbeats 8000000 in
set_option maxRecDepth 100000 in
theorem impl_kindOf.calls (k:Nat) (a0:ByteArray) (r:Int) (w:World) (hT:Tb w) (h:impl_kindOf.f k a0=some r) :
  Calls Tryz.prog 72 #[.string a0] w fun e w'=>e=.returned (.int .i64 r)∧Below w.heap.size w w':=by
 have HT:=y0.mk hT
 clear hT
 have HB:=y0.mk (Below.refl w.heap.size w)
 have H:((impl_termAt.f k a0).bind fun Ad=>(if(a0.size:Int) > 200 then(some 0)else(if Ad.2=(a0.size:Int)then(some Ad.1)else(some 0))))=some r:=h
 clear h
 obtain⟨⟨Ac,Aa⟩,A2,H⟩:=qB H
 replace H:(if(a0.size:Int) > 200 then(some 0)else(if Aa=(a0.size:Int)then(some Ac)else(some 0)))=some r:=H
 by_cases c3:(a0.size:Int) > 200
 ·rw [if_pos c3]at H
  have Ae:decide (200 < (a0.size:Int))=true:=decide_eq_true c3
  have Af:decide (200 < a0.size)=true:=decide_eq_true (by omega)
  clear c3
  obtain rfl:=Option.some.inj H
  go_enter Tryz.func72,Tryz.ntmps72
  go_wp2_with (first|((with_reducible refine y19 (f:=96) rfl ?_);refine y22 (some 7) rfl rfl Tryz.func96 (by kernel_rfl) rfl #[.string a0] rfl qy0 ?_;(with_reducible refine(impl_termAt.calls k a0 Ac Aa _ (by exact Tb.below HT.out qb) A2.out).mono ?_);rintro e w4 ⟨rfl,hb⟩;refine⟨_,rfl, ?_⟩;replace HB:=y0.mk (y8 qb hb);(try clear hb)))
  go_ret
  exact⟨qf,qb⟩
 ·rw [if_neg c3]at H
  have Ae:decide (200 < (a0.size:Int))=false:=decide_eq_false c3
  have Af:decide (200 < a0.size)=false:=decide_eq_false (by omega)
  clear c3
  by_cases c5:Aa=(a0.size:Int)
  ·rw [if_pos c5]at H
   have Ag:(Aa == (a0.size:Int))=true:=beq_iff_eq.mpr c5
   have Ah:(Aa != (a0.size:Int))=false:=bne_eq_false_iff_eq.mpr c5
   clear c5
   obtain rfl:=Option.some.inj H
   go_enter Tryz.func72,Tryz.ntmps72
   go_wp2_with (first|((with_reducible refine y19 (f:=96) rfl ?_);refine y22 (some 7) rfl rfl Tryz.func96 (by kernel_rfl) rfl #[.string a0] rfl qy0 ?_;(with_reducible refine(impl_termAt.calls k a0 Ac Aa _ (by exact Tb.below HT.out qb) A2.out).mono ?_);rintro e w6 ⟨rfl,hb⟩;refine⟨_,rfl, ?_⟩;replace HB:=y0.mk (y8 qb hb);(try clear hb)))
   go_ret
   exact⟨qf,qb⟩
  ·rw [if_neg c5]at H
   have Ag:(Aa == (a0.size:Int))=false:=beq_eq_false_iff_ne.mpr c5
   have Ah:(Aa != (a0.size:Int))=true:=bne_iff_ne.mpr c5
   obtain rfl:=Option.some.inj H
   go_enter Tryz.func72,Tryz.ntmps72
   go_wp2_with (first|((with_reducible refine y19 (f:=96) rfl ?_);refine y22 (some 7) rfl rfl Tryz.func96 (by kernel_rfl) rfl #[.string a0] rfl qy0 ?_;(with_reducible refine(impl_termAt.calls k a0 Ac Aa _ (by exact Tb.below HT.out qb) A2.out).mono ?_);rintro e w7 ⟨rfl,hb⟩;refine⟨_,rfl, ?_⟩;replace HB:=y0.mk (y8 qb hb);(try clear hb)))
   go_ret
   exact⟨qf,qb⟩
def impl_isTuple_1.f (k:Nat) (a0:ByteArray):Option (Bool):=(impl_kindOf.f k a0).bind fun t294=>(some (t294 == 0))
set_option maxHeartbeats 8000000 in
set_option maxRecDepth 100000 in
theorem impl_isTuple_1.calls (k:Nat) (a0:ByteArray) (r:Bool) (w:World) (hT:Tb w) (h:impl_isTuple_1.f k a0=some r) :
  Calls Tryz.prog 71 #[.string a0] w fun e w'=>e=.returned (.bool r)∧Below w.heap.size w w':=by
 have HT:=y0.mk hT
 clear hT
 have HB:=y0.mk (Below.refl w.heap.size w)
 have H:((impl_kindOf.f k a0).bind fun t294=>(some (t294 == 0)))=some r:=h
 clear h
 obtain⟨t294,A2,H⟩:=qB H
 obtain rfl:=Option.some.inj H
 go_enter Tryz.func71,Tryz.ntmps71
 go_wp2_with (first|((with_reducible refine y19 (f:=72) rfl ?_);refine y22 (some 4) rfl rfl Tryz.func72 (by kernel_rfl) rfl #[.string a0] rfl qy0 ?_;(with_reducible refine(impl_kindOf.calls k a0 t294 _ (by exact Tb.below HT.out qb) A2.out).mono ?_);rintro e w3 ⟨rfl,hb⟩;refine⟨_,rfl, ?_⟩;replace HB:=y0.mk (y8 qb hb);(try clear hb)))
 go_ret
 exact⟨qf,qb⟩
def z2_.l0:Nat→List ByteArray→Int→Int→Option (Int)
 | 0,_,_,_=>none
 | k + 1,x0,x7,x8=>if x8 < x7 then(if 0≤x8 then(if x8 < (x0.length:Int)then((impl_isTuple_1.f k (rdOf ByteArray.empty x0 x8)).bind fun t296=>(if t296=true then(some x8)else(z2_.l0 k x0 x7 (wrap64 (x8 + 1)))))else(none))else(none))else(some (-1))
def z2_.f (k:Nat) (l0:List ByteArray) :Option (Int):=z2_.l0 k l0 (l0.length:Int) 0
set_option maxHeartbeats 8000000 in
set_option maxRecDepth 100000 in
theorem z2_.calls (k:Nat) (A0:Option Addr) (c0:Nat) (l0:List ByteArray)  (r:Int) (w:World) (Ai:Kd.C Kd.string w A0 l0.length l0) (Aj:l0.length≤c0) (hT:Tb w) (h:z2_.f k l0=some r) :
  Calls Tryz.prog 95 #[.slice A0 l0.length c0,.func (.func 71) #[] #[]] w fun e w'=>e=.returned (.int .i64 r)∧Below w.heap.size w w':=by
 have HT:=y0.mk hT
 clear hT
 have Am:=y0.mk Ai
 have Au:=y0.mk Aj
 clear Ai Aj
 have HB:=y0.mk (Below.refl w.heap.size w)
 have H:(z2_.l0 k l0 (l0.length:Int) 0)=some r:=h
 clear h
 have H':=y0.mk H
 clear H
 go_enter Tryz.func95,Tryz.ntmps95
 go_wp2
 go_loopg [8] k (fun kq v8 w'=>∃(Aa:Int),v8=.int .i64 Aa∧y0 (z2_.l0 kq l0 (l0.length:Int) Aa=some r)∧y0 (kq≤k)∧y0 (Below w.heap.size w w'))
 case atStart=>exact⟨(0),qy2,H',⟨Nat.le_refl _⟩,⟨qb⟩⟩
 case round =>
  clear H'
  obtain⟨Aa,rfl,HA,Ak,HB⟩:=hrel
  cases gk with
  | zero=>exact absurd HA.out (by simp [z2_.l0])
  | succ k1 =>
   have H:=HA.out
   clear HA
   simp only [z2_.l0]at H
   by_cases c3:Aa < (l0.length:Int)
   ·rw [if_pos c3]at H
    have Af:=decide_eq_true c3
    clear c3
    obtain⟨c4,H⟩:=qo H
    have Ap:decide (0≤Aa)=true:=decide_eq_true c4
    clear c4
    obtain⟨c5,H⟩:=qo H
    have Aq:decide (Aa < (l0.length:Int))=true:=decide_eq_true c5
    clear c5
    obtain⟨Ag,A6,H⟩:=qB H
    have Ad:0≤(Aa:Int):=of_decide_eq_true qy1
    have Ae:Aa < (l0.length:Int):=of_decide_eq_true qy1
    obtain⟨Al,Ah,Ac⟩:=Kd.at_string Am.out Aa Ad Ae
    cases Ah
    replace Ac:=(HB.out.cell (World.block_lt_of_cell? w _ Ac)).trans Ac
    replace Ad:=eq_true Ad
    replace Ae:=eq_true Ae
    by_cases c7:Ag=true
    ·subst c7
     replace H:=qT H
     obtain rfl:=Option.some.inj H
     go_wp2_with (first|(go_at_call 71;(with_reducible refine(impl_isTuple_1.calls k1 (rdOf ByteArray.empty l0 Aa) true _ (by exact Tb.below HT.out qb) A6.out).mono ?_);rintro e w8 ⟨rfl,hb⟩;replace HB:=y0.mk (y8 qb hb);(try clear hb)))
     go_ret
     exact⟨qf,qb⟩
    ·replace c7:=Bool.eq_false_iff.mpr c7
     subst c7
     replace H:=qF H
     have H':=y0.mk H
     clear H
     go_wp2_with (first|(go_at_call 71;(with_reducible refine(impl_isTuple_1.calls k1 (rdOf ByteArray.empty l0 Aa) false _ (by exact Tb.below HT.out qb) A6.out).mono ?_);rintro e w9 ⟨rfl,hb⟩;replace HB:=y0.mk (y8 qb hb);(try clear hb)))
     go_roundg k1
     case measure=>have:=Ak.out;omega
     exact⟨(wrap64 (Aa + 1)),qy2,H',⟨by have:=Ak.out;omega⟩,⟨qb⟩⟩
   ·rw [if_neg c3]at H
    have Af:=decide_eq_false c3
    clear c3
    obtain rfl:=Option.some.inj H
    go_wp2
    go_ret
    exact⟨qf,qb⟩
def slices_ContainsFunc_string_string_impl_isTuple_1.f (k:Nat) (l0:List ByteArray) :Option (Bool):=(z2_.f k l0).bind fun t297=>(some (decide (t297≥0)))
set_option maxHeartbeats 8000000 in
set_option maxRecDepth 100000 in
theorem slices_ContainsFunc_string_string_impl_isTuple_1.calls (k:Nat) (A0:Option Addr) (c0:Nat) (l0:List ByteArray)  (r:Bool) (w:World) (hr0:Kd.C Kd.string w A0 l0.length l0) (hc0:l0.length≤c0) (hT:Tb w) (h:slices_ContainsFunc_string_string_impl_isTuple_1.f k l0=some r) :
  Calls Tryz.prog 70 #[.slice A0 l0.length c0,.func (.func 71) #[] #[]] w fun e w'=>e=.returned (.bool r)∧Below w.heap.size w w':=by
 have HT:=y0.mk hT
 clear hT
 have HR0:=y0.mk hr0
 have HC0:=y0.mk hc0
 clear hr0 hc0
 have HB:=y0.mk (Below.refl w.heap.size w)
 have H:((z2_.f k l0).bind fun t297=>(some (decide (t297≥0))))=some r:=h
 clear h
 obtain⟨t297,A3,H⟩:=qB H
 obtain rfl:=Option.some.inj H
 go_enter Tryz.func70,Tryz.ntmps70
 go_wp2_with (first|((with_reducible refine y19 (f:=95) rfl ?_);refine y22 (some 7) rfl rfl Tryz.func95 (by kernel_rfl) rfl #[.slice A0 l0.length c0,.func (.func 71) #[] #[]] rfl qy0 ?_;(with_reducible refine(z2_.calls k _ _ l0  t297 _ (qc HR0.out) HC0.out (by exact Tb.below HT.out qb) A3.out).mono ?_);rintro e w4 ⟨rfl,hb⟩;refine⟨_,rfl, ?_⟩;replace HB:=y0.mk (y8 qb hb);(try clear hb)))
 go_ret
 exact⟨qf,qb⟩
def impl_isTuple.f (k:Nat) (l0_0:List ByteArray):Option (Bool):=if(l0_0.length:Int)≤6 then((slices_ContainsFunc_string_string_impl_isTuple_1.f k l0_0).bind fun t299=>(some (!t299)))else(some false)
set_option maxHeartbeats 8000000 in
set_option maxRecDepth 100000 in
theorem impl_isTuple.calls (k:Nat) (Ad:Option Addr) (Ae:Nat) (Aa:List ByteArray) (r:Bool) (w:World) (Af:Kd.C Kd.string w Ad Aa.length Aa) (Ag:Aa.length≤Ae) (hT:Tb w) (h:impl_isTuple.f k Aa=some r) :
  Calls Tryz.prog 41 #[.agg #[.slice Ad Aa.length Ae]] w fun e w'=>e=.returned (.bool r)∧Below w.heap.size w w':=by
 have Az:=Tryz.underlying36
 have HT:=y0.mk hT
 clear hT
 have Ai:=y0.mk Af
 have Aj:=y0.mk Ag
 clear Af Ag
 have HB:=y0.mk (Below.refl w.heap.size w)
 have H:(if(Aa.length:Int)≤6 then((slices_ContainsFunc_string_string_impl_isTuple_1.f k Aa).bind fun Ah=>(some (!Ah)))else(some false))=some r:=h
 clear h
 by_cases c2:(Aa.length:Int)≤6
 ·rw [if_pos c2]at H
  have Ap:=decide_eq_true c2
  have Aq:decide (Aa.length≤6)=true:=decide_eq_true (by omega)
  clear c2
  obtain⟨Ah,A3,H⟩:=qB H
  obtain rfl:=Option.some.inj H
  go_enter Tryz.func41,Tryz.ntmps41
  go_wp2_with (first|((with_reducible refine y20 (N:=1) rfl ?_);refine qe 1 #[.slice Ad Aa.length Ae] 36 ?_;intro Ak hg w4 hbox hb;have Ac:=y0.mk (hbox);have Al:=y0.mk (qg (w:=w) hg);have Am:=y0.mk (qg (w:=w) hg);replace HB:=y0.mk (y8 qb hb);clear hb hbox hg;obtain⟨Au,Av⟩:=qz1 Ac.out)|(go_at_call 70;(with_reducible refine(slices_ContainsFunc_string_string_impl_isTuple_1.calls k _ _ Aa  Ah _ (qc (Kd.C_below Ai.out HB.out)) Aj.out (by exact Tb.below HT.out qb) A3.out).mono ?_);rintro e w6 ⟨rfl,hb⟩;replace Ac:=y0.mk (qK Ac.out hb);replace HB:=y0.mk (y8 qb hb);(try clear hb)))
  go_ret
  exact⟨qf,qb⟩
 ·rw [if_neg c2]at H
  have Ap:=decide_eq_false c2
  have Aq:decide (Aa.length≤6)=false:=decide_eq_false (by omega)
  clear c2
  obtain rfl:=Option.some.inj H
  go_enter Tryz.func41,Tryz.ntmps41
  go_wp2_with (first|((with_reducible refine y20 (N:=1) rfl ?_);refine qe 1 #[.slice Ad Aa.length Ae] 36 ?_;intro Ak hg w7 hbox hb;have Ac:=y0.mk (hbox);have Al:=y0.mk (qg (w:=w) hg);have Am:=y0.mk (qg (w:=w) hg);replace HB:=y0.mk (y8 qb hb);clear hb hbox hg;obtain⟨Aw,Ay⟩:=qz1 Ac.out))
  go_ret
  exact⟨qf,qb⟩
def cmp_isNaN_int.f (a0:Int):Option (Bool):=some (a0 != a0)
set_option maxHeartbeats 8000000 in
set_option maxRecDepth 100000 in
theorem cmp_isNaN_int.calls (a0:Int) (r:Bool) (w:World) (h:cmp_isNaN_int.f a0=some r) :
  Calls Tryz.prog 123 #[.int .i64 a0] w fun e w'=>e=.returned (.bool r)∧y1 w w':=by
 have H:(some (a0 != a0))=some r:=h
 clear h
 obtain rfl:=Option.some.inj H
 go_enter Tryz.func123,Tryz.ntmps123
 go_wp2
 go_ret
 exact qf2
def cmp_Compare_int.f (a0:Int) (a1:Int):Option (Int):=(cmp_isNaN_int.f a0).bind fun t300=>((cmp_isNaN_int.f a1).bind fun t301=>(if t300=true then(if t301=true then(some 0)else(some (-1)))else(if t301=true then(some 1)else(if a0 < a1 then(some (-1))else(if a0 > a1 then(some 1)else(some 0))))))
set_option maxHeartbeats 8000000 in
set_option maxRecDepth 100000 in
theorem cmp_Compare_int.calls (a0:Int) (a1:Int) (r:Int) (w:World) (h:cmp_Compare_int.f a0 a1=some r) :
  Calls Tryz.prog 97 #[.int .i64 a0,.int .i64 a1] w fun e w'=>e=.returned (.int .i64 r)∧y1 w w':=by
 have H:((cmp_isNaN_int.f a0).bind fun Ac=>((cmp_isNaN_int.f a1).bind fun Aa=>(if Ac=true then(if Aa=true then(some 0)else(some (-1)))else(if Aa=true then(some 1)else(if a0 < a1 then(some (-1))else(if a0 > a1 then(some 1)else(some 0)))))))=some r:=h
 clear h
 obtain⟨Ac,A3,H⟩:=qB H
 obtain⟨Aa,A4,H⟩:=qB H
 by_cases c5:Ac=true
 ·subst c5
  replace H:=qT H
  by_cases c6:Aa=true
  ·subst c6
   replace H:=qT H
   obtain rfl:=Option.some.inj H
   go_enter Tryz.func97,Tryz.ntmps97
   go_wp2_with (first|((with_reducible refine y19 (f:=123) rfl ?_);refine y22 (some 8) rfl rfl Tryz.func123 (by kernel_rfl) rfl #[.int .i64 a0] rfl qy0 ?_;(with_reducible refine(cmp_isNaN_int.calls a0 true _ A3.out).mono ?_);rintro e w' ⟨rfl,⟨nd,rfl⟩⟩;refine⟨_,rfl, ?_⟩)|((with_reducible refine y19 (f:=123) rfl ?_);refine y22 (some 10) rfl rfl Tryz.func123 (by kernel_rfl) rfl #[.int .i64 a1] rfl qy0 ?_;(with_reducible refine(cmp_isNaN_int.calls a1 true _ A4.out).mono ?_);rintro e w' ⟨rfl,⟨nd,rfl⟩⟩;refine⟨_,rfl, ?_⟩))
   go_ret
   exact qf2
  ·replace c6:=Bool.eq_false_iff.mpr c6
   subst c6
   replace H:=qF H
   obtain rfl:=Option.some.inj H
   go_enter Tryz.func97,Tryz.ntmps97
   go_wp2_with (first|((with_reducible refine y19 (f:=123) rfl ?_);refine y22 (some 8) rfl rfl Tryz.func123 (by kernel_rfl) rfl #[.int .i64 a0] rfl qy0 ?_;(with_reducible refine(cmp_isNaN_int.calls a0 true _ A3.out).mono ?_);rintro e w' ⟨rfl,⟨nd,rfl⟩⟩;refine⟨_,rfl, ?_⟩)|((with_reducible refine y19 (f:=123) rfl ?_);refine y22 (some 10) rfl rfl Tryz.func123 (by kernel_rfl) rfl #[.int .i64 a1] rfl qy0 ?_;(with_reducible refine(cmp_isNaN_int.calls a1 false _ A4.out).mono ?_);rintro e w' ⟨rfl,⟨nd,rfl⟩⟩;refine⟨_,rfl, ?_⟩))
   go_ret
   exact qf2
 ·replace c5:=Bool.eq_false_iff.mpr c5
  subst c5
  replace H:=qF H
  by_cases c7:Aa=true
  ·subst c7
   replace H:=qT H
   obtain rfl:=Option.some.inj H
   go_enter Tryz.func97,Tryz.ntmps97
   go_wp2_with (first|((with_reducible refine y19 (f:=123) rfl ?_);refine y22 (some 8) rfl rfl Tryz.func123 (by kernel_rfl) rfl #[.int .i64 a0] rfl qy0 ?_;(with_reducible refine(cmp_isNaN_int.calls a0 false _ A3.out).mono ?_);rintro e w' ⟨rfl,⟨nd,rfl⟩⟩;refine⟨_,rfl, ?_⟩)|((with_reducible refine y19 (f:=123) rfl ?_);refine y22 (some 10) rfl rfl Tryz.func123 (by kernel_rfl) rfl #[.int .i64 a1] rfl qy0 ?_;(with_reducible refine(cmp_isNaN_int.calls a1 true _ A4.out).mono ?_);rintro e w' ⟨rfl,⟨nd,rfl⟩⟩;refine⟨_,rfl, ?_⟩))
   go_ret
   exact qf2
  ·replace c7:=Bool.eq_false_iff.mpr c7
   subst c7
   replace H:=qF H
   by_cases c8:a0 < a1
   ·rw [if_pos c8]at H
    have Ad:=decide_eq_true c8
    clear c8
    obtain rfl:=Option.some.inj H
    go_enter Tryz.func97,Tryz.ntmps97
    go_wp2_with (first|((with_reducible refine y19 (f:=123) rfl ?_);refine y22 (some 8) rfl rfl Tryz.func123 (by kernel_rfl) rfl #[.int .i64 a0] rfl qy0 ?_;(with_reducible refine(cmp_isNaN_int.calls a0 false _ A3.out).mono ?_);rintro e w' ⟨rfl,⟨nd,rfl⟩⟩;refine⟨_,rfl, ?_⟩)|((with_reducible refine y19 (f:=123) rfl ?_);refine y22 (some 10) rfl rfl Tryz.func123 (by kernel_rfl) rfl #[.int .i64 a1] rfl qy0 ?_;(with_reducible refine(cmp_isNaN_int.calls a1 false _ A4.out).mono ?_);rintro e w' ⟨rfl,⟨nd,rfl⟩⟩;refine⟨_,rfl, ?_⟩))
    go_ret
    exact qf2
   ·rw [if_neg c8]at H
    have Ad:=decide_eq_false c8
    clear c8
    by_cases c9:a0 > a1
    ·rw [if_pos c9]at H
     have Ae:decide (a1 < a0)=true:=decide_eq_true c9
     clear c9
     obtain rfl:=Option.some.inj H
     go_enter Tryz.func97,Tryz.ntmps97
     go_wp2_with (first|((with_reducible refine y19 (f:=123) rfl ?_);refine y22 (some 8) rfl rfl Tryz.func123 (by kernel_rfl) rfl #[.int .i64 a0] rfl qy0 ?_;(with_reducible refine(cmp_isNaN_int.calls a0 false _ A3.out).mono ?_);rintro e w' ⟨rfl,⟨nd,rfl⟩⟩;refine⟨_,rfl, ?_⟩)|((with_reducible refine y19 (f:=123) rfl ?_);refine y22 (some 10) rfl rfl Tryz.func123 (by kernel_rfl) rfl #[.int .i64 a1] rfl qy0 ?_;(with_reducible refine(cmp_isNaN_int.calls a1 false _ A4.out).mono ?_);rintro e w' ⟨rfl,⟨nd,rfl⟩⟩;refine⟨_,rfl, ?_⟩))
     go_ret
     exact qf2
    ·rw [if_neg c9]at H
     have Ae:decide (a1 < a0)=false:=decide_eq_false c9
     clear c9
     obtain rfl:=Option.some.inj H
     go_enter Tryz.func97,Tryz.ntmps97
     go_wp2_with (first|((with_reducible refine y19 (f:=123) rfl ?_);refine y22 (some 8) rfl rfl Tryz.func123 (by kernel_rfl) rfl #[.int .i64 a0] rfl qy0 ?_;(with_reducible refine(cmp_isNaN_int.calls a0 false _ A3.out).mono ?_);rintro e w' ⟨rfl,⟨nd,rfl⟩⟩;refine⟨_,rfl, ?_⟩)|((with_reducible refine y19 (f:=123) rfl ?_);refine y22 (some 10) rfl rfl Tryz.func123 (by kernel_rfl) rfl #[.int .i64 a1] rfl qy0 ?_;(with_reducible refine(cmp_isNaN_int.calls a1 false _ A4.out).mono ?_);rintro e w' ⟨rfl,⟨nd,rfl⟩⟩;refine⟨_,rfl, ?_⟩))
     go_ret
     exact qf2
def impl_numOf.f (a0:ByteArray):Option (Int):=(strconv_Atoi.f a0).bind fun bt302=>(some bt302.1)
set_option maxHeartbeats 8000000 in
set_option maxRecDepth 100000 in
theorem impl_numOf.calls (a0:ByteArray) (r:Int) (w:World) (hT:Tb w) (h:impl_numOf.f a0=some r) :
  Calls Tryz.prog 98 #[.string a0] w fun e w'=>e=.returned (.int .i64 r)∧Below w.heap.size w w':=by
 have HT:=y0.mk hT
 clear hT
 have HB:=y0.mk (Below.refl w.heap.size w)
 have H:((strconv_Atoi.f a0).bind fun bt302=>(some bt302.1))=some r:=h
 clear h
 obtain⟨⟨t302,t303⟩,A2,H⟩:=qB H
 replace H:(some t302)=some r:=H
 obtain rfl:=Option.some.inj H
 go_enter Tryz.func98,Tryz.ntmps98
 go_wp2_with (first|((with_reducible refine y19 (f:=120) rfl ?_);refine y22 (some 7) rfl rfl Tryz.func120 (by kernel_rfl) rfl #[.string a0] rfl qy0 ?_;(with_reducible refine(strconv_Atoi.calls a0 t302 t303 _ (by exact Tb.below HT.out qb) A2.out).mono ?_);rintro e w3 ⟨ev_,rfl,hev_,hb⟩;refine⟨_,rfl, ?_⟩;replace HB:=y0.mk (y8 qb hb);(try clear hb);(try simp only [y17,y18])))
 go_ret
 exact⟨qf,qb⟩
def cmp_isNaN_string.f (a0:ByteArray):Option (Bool):=some (a0.toList != a0.toList)
set_option maxHeartbeats 8000000 in
set_option maxRecDepth 100000 in
theorem cmp_isNaN_string.calls (a0:ByteArray) (r:Bool) (w:World) (h:cmp_isNaN_string.f a0=some r) :
  Calls Tryz.prog 124 #[.string a0] w fun e w'=>e=.returned (.bool r)∧y1 w w':=by
 have H:(some (a0.toList != a0.toList))=some r:=h
 clear h
 obtain rfl:=Option.some.inj H
 go_enter Tryz.func124,Tryz.ntmps124
 go_wp2
 go_ret
 exact qf2
def cmp_Compare_string.f (a0:ByteArray) (a1:ByteArray):Option (Int):=(cmp_isNaN_string.f a0).bind fun t304=>((cmp_isNaN_string.f a1).bind fun t305=>(if t304=true then(if t305=true then(some 0)else(some (-1)))else(if t305=true then(some 1)else(if(Op.bytesLess a0.toList a1.toList)=true then(some (-1))else(if(Op.bytesLess a1.toList a0.toList)=true then(some 1)else(some 0))))))
theorem cmp_Compare_string.bl:∀ x y:List UInt8,(!(Op.bytesLess x y || x == y))=Op.bytesLess y x
 | [],[]=>rfl
 | [],b :: y=>rfl
 | a :: x,[]=>rfl
 | a :: x,b :: y=>by
  have ih:=cmp_Compare_string.bl x y
  have e1:(decide (a < b))=(decide (a.toNat < b.toNat)):=rfl
  have e2:(decide (b < a))=(decide (b.toNat < a.toNat)):=rfl
  rw [Op.bytesLess,Op.bytesLess,e1,e2,← ih]
  by_cases h:a=b
  ·subst h
   simp
  ·have hn:a.toNat≠b.toNat:=fun h'=>h (UInt8.toNat_inj.1 h')
   have h1:(a == b)=false:=by simpa using h
   have h2:(b == a)=false:=by simpa using fun h'=>h (Eq.symm h')
   have h3:((a :: x) == (b :: y))=false:=by simp [h]
   rw [h1,h2,h3]
   by_cases hl:a.toNat < b.toNat
   ·have:¬ b.toNat < a.toNat:=by omega
    simp [hl,this]
   ·have:b.toNat < a.toNat:=by omega
    simp [hl,this]
theorem cmp_Compare_string.gtr (t:TypeId) (a b:ByteArray):binOp .gtr t (.string a) (.string b)=pure (.bool (Op.bytesLess b.toList a.toList)):=by
 rw [← cmp_Compare_string.bl]
 simp [binOp,Op.stringOp]
attribute [local go_sem] cmp_Compare_string.gtr
set_option maxHeartbeats 8000000 in
set_option maxRecDepth 100000 in
theorem cmp_Compare_string.calls (a0:ByteArray) (a1:ByteArray) (r:Int) (w:World) (h:cmp_Compare_string.f a0 a1=some r) :
  Calls Tryz.prog 99 #[.string a0,.string a1] w fun e w'=>e=.returned (.int .i64 r)∧y1 w w':=by
 have H:((cmp_isNaN_string.f a0).bind fun Ac=>((cmp_isNaN_string.f a1).bind fun Aa=>(if Ac=true then(if Aa=true then(some 0)else(some (-1)))else(if Aa=true then(some 1)else(if(Op.bytesLess a0.toList a1.toList)=true then(some (-1))else(if(Op.bytesLess a1.toList a0.toList)=true then(some 1)else(some 0)))))))=some r:=h
 clear h
 obtain⟨Ac,A3,H⟩:=qB H
 obtain⟨Aa,A4,H⟩:=qB H
 by_cases c5:Ac=true
 ·subst c5
  replace H:=qT H
  by_cases c6:Aa=true
  ·subst c6
   replace H:=qT H
   obtain rfl:=Option.some.inj H
   go_enter Tryz.func99,Tryz.ntmps99
   go_wp2_with (first|((with_reducible refine y19 (f:=124) rfl ?_);refine y22 (some 8) rfl rfl Tryz.func124 (by kernel_rfl) rfl #[.string a0] rfl qy0 ?_;(with_reducible refine(cmp_isNaN_string.calls a0 true _ A3.out).mono ?_);rintro e w' ⟨rfl,⟨nd,rfl⟩⟩;refine⟨_,rfl, ?_⟩)|((with_reducible refine y19 (f:=124) rfl ?_);refine y22 (some 10) rfl rfl Tryz.func124 (by kernel_rfl) rfl #[.string a1] rfl qy0 ?_;(with_reducible refine(cmp_isNaN_string.calls a1 true _ A4.out).mono ?_);rintro e w' ⟨rfl,⟨nd,rfl⟩⟩;refine⟨_,rfl, ?_⟩))
   go_ret
   exact qf2
  ·replace c6:=Bool.eq_false_iff.mpr c6
   subst c6
   replace H:=qF H
   obtain rfl:=Option.some.inj H
   go_enter Tryz.func99,Tryz.ntmps99
   go_wp2_with (first|((with_reducible refine y19 (f:=124) rfl ?_);refine y22 (some 8) rfl rfl Tryz.func124 (by kernel_rfl) rfl #[.string a0] rfl qy0 ?_;(with_reducible refine(cmp_isNaN_string.calls a0 true _ A3.out).mono ?_);rintro e w' ⟨rfl,⟨nd,rfl⟩⟩;refine⟨_,rfl, ?_⟩)|((with_reducible refine y19 (f:=124) rfl ?_);refine y22 (some 10) rfl rfl Tryz.func124 (by kernel_rfl) rfl #[.string a1] rfl qy0 ?_;(with_reducible refine(cmp_isNaN_string.calls a1 false _ A4.out).mono ?_);rintro e w' ⟨rfl,⟨nd,rfl⟩⟩;refine⟨_,rfl, ?_⟩))
   go_ret
   exact qf2
 ·replace c5:=Bool.eq_false_iff.mpr c5
  subst c5
  replace H:=qF H
  by_cases c7:Aa=true
  ·subst c7
   replace H:=qT H
   obtain rfl:=Option.some.inj H
   go_enter Tryz.func99,Tryz.ntmps99
   go_wp2_with (first|((with_reducible refine y19 (f:=124) rfl ?_);refine y22 (some 8) rfl rfl Tryz.func124 (by kernel_rfl) rfl #[.string a0] rfl qy0 ?_;(with_reducible refine(cmp_isNaN_string.calls a0 false _ A3.out).mono ?_);rintro e w' ⟨rfl,⟨nd,rfl⟩⟩;refine⟨_,rfl, ?_⟩)|((with_reducible refine y19 (f:=124) rfl ?_);refine y22 (some 10) rfl rfl Tryz.func124 (by kernel_rfl) rfl #[.string a1] rfl qy0 ?_;(with_reducible refine(cmp_isNaN_string.calls a1 true _ A4.out).mono ?_);rintro e w' ⟨rfl,⟨nd,rfl⟩⟩;refine⟨_,rfl, ?_⟩))
   go_ret
   exact qf2
  ·replace c7:=Bool.eq_false_iff.mpr c7
   subst c7
   replace H:=qF H
   by_cases c8:(Op.bytesLess a0.toList a1.toList)=true
   ·rw [if_pos c8]at H
    have Ad:(Op.bytesLess a0.toList a1.toList)=true:=c8
    clear c8
    obtain rfl:=Option.some.inj H
    go_enter Tryz.func99,Tryz.ntmps99
    go_wp2_with (first|((with_reducible refine y19 (f:=124) rfl ?_);refine y22 (some 8) rfl rfl Tryz.func124 (by kernel_rfl) rfl #[.string a0] rfl qy0 ?_;(with_reducible refine(cmp_isNaN_string.calls a0 false _ A3.out).mono ?_);rintro e w' ⟨rfl,⟨nd,rfl⟩⟩;refine⟨_,rfl, ?_⟩)|((with_reducible refine y19 (f:=124) rfl ?_);refine y22 (some 10) rfl rfl Tryz.func124 (by kernel_rfl) rfl #[.string a1] rfl qy0 ?_;(with_reducible refine(cmp_isNaN_string.calls a1 false _ A4.out).mono ?_);rintro e w' ⟨rfl,⟨nd,rfl⟩⟩;refine⟨_,rfl, ?_⟩))
    go_ret
    exact qf2
   ·rw [if_neg c8]at H
    have Ad:(Op.bytesLess a0.toList a1.toList)=false:=by simpa using c8
    clear c8
    by_cases c9:(Op.bytesLess a1.toList a0.toList)=true
    ·rw [if_pos c9]at H
     have Ae:(Op.bytesLess a1.toList a0.toList)=true:=c9
     clear c9
     obtain rfl:=Option.some.inj H
     go_enter Tryz.func99,Tryz.ntmps99
     go_wp2_with (first|((with_reducible refine y19 (f:=124) rfl ?_);refine y22 (some 8) rfl rfl Tryz.func124 (by kernel_rfl) rfl #[.string a0] rfl qy0 ?_;(with_reducible refine(cmp_isNaN_string.calls a0 false _ A3.out).mono ?_);rintro e w' ⟨rfl,⟨nd,rfl⟩⟩;refine⟨_,rfl, ?_⟩)|((with_reducible refine y19 (f:=124) rfl ?_);refine y22 (some 10) rfl rfl Tryz.func124 (by kernel_rfl) rfl #[.string a1] rfl qy0 ?_;(with_reducible refine(cmp_isNaN_string.calls a1 false _ A4.out).mono ?_);rintro e w' ⟨rfl,⟨nd,rfl⟩⟩;refine⟨_,rfl, ?_⟩))
     go_ret
     exact qf2
    ·rw [if_neg c9]at H
     have Ae:(Op.bytesLess a1.toList a0.toList)=false:=by simpa using c9
     clear c9
     obtain rfl:=Option.some.inj H
     go_enter Tryz.func99,Tryz.ntmps99
     go_wp2_with (first|((with_reducible refine y19 (f:=124) rfl ?_);refine y22 (some 8) rfl rfl Tryz.func124 (by kernel_rfl) rfl #[.string a0] rfl qy0 ?_;(with_reducible refine(cmp_isNaN_string.calls a0 false _ A3.out).mono ?_);rintro e w' ⟨rfl,⟨nd,rfl⟩⟩;refine⟨_,rfl, ?_⟩)|((with_reducible refine y19 (f:=124) rfl ?_);refine y22 (some 10) rfl rfl Tryz.func124 (by kernel_rfl) rfl #[.string a1] rfl qy0 ?_;(with_reducible refine(cmp_isNaN_string.calls a1 false _ A4.out).mono ?_);rintro e w' ⟨rfl,⟨nd,rfl⟩⟩;refine⟨_,rfl, ?_⟩))
     go_ret
     exact qf2
def strings_Cut.f (a0 a1:ByteArray):Option (ByteArray×ByteArray×Bool):=if a0.size < 4294967281 then some (⟨(Lib.cut a0.data.toList a1.data.toList).1.toArray⟩,⟨(Lib.cut a0.data.toList a1.data.toList).2.1.toArray⟩,(Lib.cut a0.data.toList a1.data.toList).2.2)else none
theorem strings_Cut.calls (a0 a1:ByteArray) (r1 r2:ByteArray) (r3:Bool) (w:World) (hT:Tb w) (h:strings_Cut.f a0 a1=some (r1,r2,r3)) :
  Calls Tryz.prog 138 #[.string a0,.string a1] w fun e w'=>e=.returned (.tuple #[.string r1,.string r2,.bool r3])∧y1 w w':=by
 unfold strings_Cut.f at h
 by_cases h0:a0.size < 4294967281
 ·rw [if_pos h0]at h
  simp only [Option.some.injEq,Prod.mk.injEq]at h
  obtain⟨rfl,rfl,rfl⟩:=h
  obtain⟨m,hm⟩:=hT.ml
  refine(Tryz.strings_Cut a0 a1 m w h0 hm).mono ?_
  rintro e w' ⟨rfl,n,rfl⟩
  exact⟨rfl,⟨⟨n,rfl⟩⟩⟩
 ·rw [if_neg h0]at h
  cases h
def impl_isBigName.f (k:Nat) (a0:ByteArray):Option (Bool):=(impl_in.f (a0.size:Int) 1 20).bind fun t306=>(if t306=true then((impl_nameLong.f k a0).bind fun t307=>(if t307=(a0.size:Int)then(if 0 < (a0.size:Int)then(some (decide ((bt a0 0)≤90)))else(none))else(some false)))else(some false))
set_option maxHeartbeats 8000000 in
set_option maxRecDepth 100000 in
theorem impl_isBigName.calls (k:Nat) (a0:ByteArray) (r:Bool) (w:World) (h:impl_isBigName.f k a0=some r) :
  Calls Tryz.prog 139 #[.string a0] w fun e w'=>e=.returned (.bool r)∧y1 w w':=by
 have H:((impl_in.f (a0.size:Int) 1 20).bind fun Ac=>(if Ac=true then((impl_nameLong.f k a0).bind fun Aa=>(if Aa=(a0.size:Int)then(if 0 < (a0.size:Int)then(some (decide ((bt a0 0)≤90)))else(none))else(some false)))else(some false)))=some r:=h
 clear h
 obtain⟨Ac,A2,H⟩:=qB H
 by_cases c3:Ac=true
 ·subst c3
  replace H:=qT H
  obtain⟨Aa,A4,H⟩:=qB H
  by_cases c5:Aa=(a0.size:Int)
  ·rw [if_pos c5]at H
   have Ad:(Aa == (a0.size:Int))=true:=beq_iff_eq.mpr c5
   have Ae:(Aa != (a0.size:Int))=false:=bne_eq_false_iff_eq.mpr c5
   clear c5
   obtain⟨c6,H⟩:=qo H
   have Af:decide (0 < (a0.size:Int))=true:=decide_eq_true c6
   have Ag:decide (0 < a0.size)=true:=decide_eq_true (by omega)
   clear c6
   obtain rfl:=Option.some.inj H
   go_enter Tryz.func139,Tryz.ntmps139
   go_wp2_with (first|((with_reducible refine y19 (f:=69) rfl ?_);refine y22 (some 5) rfl rfl Tryz.func69 (by kernel_rfl) rfl #[.int .i64 (a0.size:Int),.int .i64 1,.int .i64 20] rfl qy0 ?_;(with_reducible refine(impl_in.calls (a0.size:Int) 1 20 true _ A2.out).mono ?_);rintro e w' ⟨rfl,⟨nd,rfl⟩⟩;refine⟨_,rfl, ?_⟩)|(go_at_call 122;(with_reducible refine(impl_nameLong.calls k a0 Aa _ A4.out).mono ?_);rintro e w' ⟨rfl,⟨nd,rfl⟩⟩;have p7:0≤(0:Int):=(by omega);have q7:0 < a0.size:=qy3;have Ah:∀ h:0 < a0.size,((a0[0]'h).toNat:Int)=bt a0 0:=bt_at a0 0;clear p7;have Ai:(0 < (a0.size:Int))=True:=eq_true (of_decide_eq_true qy1);replace q7:=eq_true q7))
   go_ret
   exact qf2
  ·rw [if_neg c5]at H
   have Ad:(Aa == (a0.size:Int))=false:=beq_eq_false_iff_ne.mpr c5
   have Ae:(Aa != (a0.size:Int))=true:=bne_iff_ne.mpr c5
   obtain rfl:=Option.some.inj H
   go_enter Tryz.func139,Tryz.ntmps139
   go_wp2_with (first|((with_reducible refine y19 (f:=69) rfl ?_);refine y22 (some 5) rfl rfl Tryz.func69 (by kernel_rfl) rfl #[.int .i64 (a0.size:Int),.int .i64 1,.int .i64 20] rfl qy0 ?_;(with_reducible refine(impl_in.calls (a0.size:Int) 1 20 true _ A2.out).mono ?_);rintro e w' ⟨rfl,⟨nd,rfl⟩⟩;refine⟨_,rfl, ?_⟩)|(go_at_call 122;(with_reducible refine(impl_nameLong.calls k a0 Aa _ A4.out).mono ?_);rintro e w' ⟨rfl,⟨nd,rfl⟩⟩))
   go_ret
   exact qf2
 ·replace c3:=Bool.eq_false_iff.mpr c3
  subst c3
  replace H:=qF H
  obtain rfl:=Option.some.inj H
  go_enter Tryz.func139,Tryz.ntmps139
  go_wp2_with (first|((with_reducible refine y19 (f:=69) rfl ?_);refine y22 (some 5) rfl rfl Tryz.func69 (by kernel_rfl) rfl #[.int .i64 (a0.size:Int),.int .i64 1,.int .i64 20] rfl qy0 ?_;(with_reducible refine(impl_in.calls (a0.size:Int) 1 20 false _ A2.out).mono ?_);rintro e w' ⟨rfl,⟨nd,rfl⟩⟩;refine⟨_,rfl, ?_⟩))
  go_ret
  exact qf2
def strings_HasPrefix.f (a0 a1:ByteArray):Option Bool:=some (Lib.hasPrefix a0.data.toList a1.data.toList)
theorem strings_HasPrefix.calls (a0 a1:ByteArray) (r:Bool) (w:World) (h:strings_HasPrefix.f a0 a1=some r) :
  Calls Tryz.prog 140 #[.string a0,.string a1] w fun e w'=>e=.returned (.bool r)∧y1 w w':=by
 obtain rfl:=Option.some.inj h
 refine(Tryz.strings_HasPrefix a0 a1 w).mono ?_
 rintro e w' ⟨rfl,rfl⟩
 exact⟨rfl,y1.refl _⟩
end Go.Proofs.YtkajecadkkgfmaaGreatDoor.Pn
end
section
namespace Go.Proofs.YtkajecadkkgfmaaGreatDoor.Pn
open Go.RowKit Go.Proofs.YtkajecadkkgfmaaGreatDoorW.PrintWords Go.Proofs.YtkajecadkkgfmaaGreatDoorW.PrintLast Go.Proofs.YtkajecadkkgfmaaGreatDoorW.PrintMore
attribute [local go_sem] max2_int min2_int max_two min_two max_three min_three max_four min_four   -- for this text's walks alone
set_option linter.unusedVariables false
set_option linter.unusedSimpArgs false
mutual
def z0_.j0:Nat→ByteArray→ByteArray→ByteArray→Bool→Option (ByteArray×List ByteArray)
 | 0,_,_,_,_=>none
 | k + 1,x0,x4,x5,x22=>if x22=true then(some (x0,([]:List ByteArray)))else(z0_.l0 k x4 x5 (([]:List ByteArray)))
def z0_.l0:Nat→ByteArray→ByteArray→List ByteArray→Option (ByteArray×List ByteArray)
 | 0,_,_,_=>none
 | k + 1,x4,x5,x7=>if x5.toList=([]:List UInt8)then(z0_.j2 k x4 x5 x7 false)else(z0_.j2 k x4 x5 x7 (x5.toList != ([41]:List UInt8)))
def z0_.j2:Nat→ByteArray→ByteArray→List ByteArray→Bool→Option (ByteArray×List ByteArray)
 | 0,_,_,_,_=>none
 | k + 1,x4,x5,x7,x30=>if x30=true then((impl_termAt.f k x5).bind fun bt315=>(if 0≤bt315.2 then(if bt315.2≤(x5.size:Int)then(if x7.length < 8796093022208 then((some (x7 ++ [x5.extract 0 (bt315.2:Int).toNat]:List ByteArray)).bind fun y317=>((strings_HasPrefix.f (x5.extract (bt315.2:Int).toNat x5.size) (⟨#[44]⟩:ByteArray)).bind fun t320=>(if t320=true then(if 1≤((x5.extract (bt315.2:Int).toNat x5.size).size:Int)then(z0_.l0 k x4 ((x5.extract (bt315.2:Int).toNat x5.size).extract 1 (x5.extract (bt315.2:Int).toNat x5.size).size) y317)else(none))else(z0_.l0 k x4 (x5.extract (bt315.2:Int).toNat x5.size) y317))))else(none))else(none))else(none)))else(some (x4,x7))
end
def z0_.f (k:Nat) (a0:ByteArray):Option (ByteArray×List ByteArray):=(strings_Cut.f a0 (⟨#[40]⟩:ByteArray)).bind fun bt308=>((impl_isBigName.f k bt308.1).bind fun t311=>(if t311=true then(z0_.j0 k a0 bt308.1 bt308.2.1 (!bt308.2.2))else(z0_.j0 k a0 bt308.1 bt308.2.1 true)))
set_option maxHeartbeats 8000000 in
set_option maxRecDepth 100000 in
theorem z0_.calls (k:Nat) (a0:ByteArray) (r1:ByteArray) (r2:List ByteArray) (w:World) (hT:Tb w) (h:z0_.f k a0=some (r1,r2)) :
  Calls Tryz.prog 125 #[.string a0] w fun e w'=>∃ v1_:Value,e=.returned (.tuple #[.string r1,v1_])∧Kd.R Kd.string 9 w' w.heap.size (fun _=>True) v1_ r2∧Below w.heap.size w w':=by
 have HT:=y0.mk hT
 clear hT
 have HB:=y0.mk (Below.refl w.heap.size w)
 have H:((strings_Cut.f a0 (⟨#[40]⟩:ByteArray)).bind fun Af=>((impl_isBigName.f k Af.1).bind fun Ap=>(if Ap=true then(z0_.j0 k a0 Af.1 Af.2.1 (!Af.2.2))else(z0_.j0 k a0 Af.1 Af.2.1 true))))=some (r1,r2):=h
 clear h
 obtain⟨⟨Ad,Am,Az⟩,A2,H⟩:=qB H
 replace H:((impl_isBigName.f k Ad).bind fun Ap=>(if Ap=true then(z0_.j0 k a0 Ad Am (!Az))else(z0_.j0 k a0 Ad Am true)))=some (r1,r2):=H
 have Bo:=y0.mk H
 clear H
 go_enter Tryz.func125,Tryz.ntmps125
 go_upto_region 2 with(first|((with_reducible refine y19 (f:=138) rfl ?_);refine y22 (some 12) rfl rfl Tryz.func138 (by kernel_rfl) rfl #[.string a0,.string (⟨#[40]⟩:ByteArray)] rfl qy0 ?_;(with_reducible refine(strings_Cut.calls a0 (⟨#[40]⟩:ByteArray) Ad Am Az _ (by exact Tb.below HT.out qb) A2.out).mono ?_);rintro e w' ⟨rfl,⟨nd,rfl⟩⟩;refine⟨_,rfl, ?_⟩))
 (try simp only [Act.put,qS_,qZ_,qC_])
 go_cut [22] (fun Ci wc=>∃(kq:Nat) (Ak:Bool),Ci=.bool Ak∧y0 (z0_.j0 kq a0 Ad Am Ak=some (r1,r2))∧y0 (kq≤k)∧y0 (Below w.heap.size w wc))
 case first =>
  have H:=Bo.out
  clear Bo
  obtain⟨Ap,A4,H⟩:=qB H
  by_cases c5:Ap=true
  ·subst c5
   replace H:=qT H
   have H':=y0.mk H
   clear H
   go_wp2_with (first|((with_reducible refine y19 (f:=139) rfl ?_);refine y22 (some 17) rfl rfl Tryz.func139 (by kernel_rfl) rfl #[.string Ad] rfl qy0 ?_;(with_reducible refine(impl_isBigName.calls k Ad true _ A4.out).mono ?_);rintro e w' ⟨rfl,⟨nd,rfl⟩⟩;refine⟨_,rfl, ?_⟩))
   go_meet
   exact⟨_,(!Az),qy2,H',⟨by first|omega|exact Nat.le_refl _⟩,⟨qb⟩⟩
  ·replace c5:=Bool.eq_false_iff.mpr c5
   subst c5
   replace H:=qF H
   have H':=y0.mk H
   clear H
   go_wp2_with (first|((with_reducible refine y19 (f:=139) rfl ?_);refine y22 (some 17) rfl rfl Tryz.func139 (by kernel_rfl) rfl #[.string Ad] rfl qy0 ?_;(with_reducible refine(impl_isBigName.calls k Ad false _ A4.out).mono ?_);rintro e w' ⟨rfl,⟨nd,rfl⟩⟩;refine⟨_,rfl, ?_⟩))
   go_meet
   exact⟨_,(true),qy2,H',⟨by first|omega|exact Nat.le_refl _⟩,⟨qb⟩⟩
 case rest =>
  clear Bo
  obtain⟨kq,Ak,rfl,HA,Bc,HB⟩:=hcut
  cases kq with
  | zero=>exact absurd HA.out (by simp [z0_.j0])
  | succ Bp =>
   have H:=HA.out
   clear HA
   simp only [z0_.j0]at H
   by_cases c6:Ak=true
   ·subst c6
    replace H:=qT H
    simp only [Option.some.injEq,Prod.mk.injEq]at H
    obtain⟨rfl,rfl⟩:=H
    go_wp2
    go_ret2
    exact⟨_,by first|rfl|(simp [y17,y18] <;> rfl)|(simp [*,y17,y18] <;> rfl),by first|exact Kd.R_nil _ _ _ _ _|exact Kd.N_nil _ _ _ _ _|exact Kd.V_nil _ _ _ _ _|exact Kd.Q_nil _ _ _ _ _|exact Kd.S_nil _ _ _ _ _,qb⟩
   ·replace c6:=Bool.eq_false_iff.mpr c6
    subst c6
    replace H:=qF H
    obtain⟨Bf,Ag⟩:∃ y_:List ByteArray,y_=(([]:List ByteArray)):=⟨_,rfl⟩
    replace H:(z0_.l0 Bp Ad Am Bf)=some (r1,r2):=by first|(rw [Ag];with_reducible exact H)|(have H2_:=(Option.bind_some _ _).symm.trans H;rw [Ag];with_reducible exact H2_)|(have H2_:=(Option.bind_some _ _).symm.trans H;with_reducible exact H2_)|with_reducible exact H|(rw [Ag];exact H)|exact H
    have Av:=y0.mk Ag
    clear Ag
    have H':=y0.mk H
    clear H
    go_wp2_with (first|((with_reducible refine y20 (N:=24) rfl ?_);refine qL Kd.string 9 24 ([]:List ByteArray) ?_;intro Cj w7 Bg hb hg_ hnew_;clear hg_ hnew_;(first|rw [← Av.out]at Bg|(simp only [Int.reduceToNat]at Bg;rw [← Av.out]at Bg));have Bh:=y0.mk (Kd.R_lower Bg (y7 qb));replace HB:=y0.mk (y8 qb hb);clear hb Bg))
    go_loopg [5,7] Bp (fun kq v5 v7 w'=>∃(Aa:ByteArray) (Ah:List ByteArray),v5=.string Aa∧y0 (z0_.l0 kq Ad Aa Ah=some (r1,r2))∧y0 (kq≤Bp)∧y0 (Kd.R Kd.string 9 w' w.heap.size (fun _=>True) v7 Ah)∧y0 (Below w.heap.size w w'))
    case atStart=>exact⟨(Am),(Bf),qy2,H',⟨Nat.le_refl _⟩,⟨qR Bh.out⟩,⟨qb⟩⟩
    case round =>
     clear H'
     (try clear c6)
     obtain⟨Aa,Ah,rfl,HA,Bd,Ae,HB⟩:=hrel
     cases gk with
     | zero=>exact absurd HA.out (by simp [z0_.l0])
     | succ k2 =>
      have H:=HA.out
      clear HA
      simp only [z0_.l0]at H
      have Bq:=y0.mk H
      clear H
      go_upto_region 5 with(fail)
      go_cut [30] (fun Ck wc=>∃(kq:Nat) (Al:Bool),Ck=.bool Al∧y0 (z0_.j2 kq Ad Aa Ah Al=some (r1,r2))∧y0 (kq≤k2)∧y0 (Kd.R Kd.string 9 wc w.heap.size (fun _=>True) u7 Ah)∧y0 (Below w.heap.size w wc))
      case first =>
       have H:=Bq.out
       clear Bq
       by_cases Ba:Aa.toList=([]:List UInt8)
       ·rw [if_pos Ba]at H
        have Ai:(Aa.toList == ([]:List UInt8))=true:=beq_iff_eq.mpr Ba
        have Bi:(Aa.toList != ([]:List UInt8))=false:=bne_eq_false_iff_eq.mpr Ba
        clear Ba
        (first|rw [Ai]|(simp only [i64_w,i32_w];rw [Ai])|skip)
        have H':=y0.mk H
        clear H
        go_wp2
        go_meet
        exact⟨_,(false),qy2,H',⟨by have:=Bc.out;have:=Bd.out;first|omega|exact Nat.le_refl _⟩,⟨qR Ae.out⟩,⟨qb⟩⟩
       ·rw [if_neg Ba]at H
        have Ai:(Aa.toList == ([]:List UInt8))=false:=beq_eq_false_iff_ne.mpr Ba
        have Bi:(Aa.toList != ([]:List UInt8))=true:=bne_iff_ne.mpr Ba
        (first|rw [Ai]|(simp only [i64_w,i32_w];rw [Ai])|skip)
        have H':=y0.mk H
        clear H
        go_wp2
        go_meet
        exact⟨_,((Aa.toList != ([41]:List UInt8))),qy2,H',⟨by have:=Bc.out;have:=Bd.out;first|omega|exact Nat.le_refl _⟩,⟨qR Ae.out⟩,⟨qb⟩⟩
      case rest =>
       clear Bq
       obtain⟨kq,Al,rfl,HA,Bl,Ae,HB⟩:=hcut
       cases kq with
       | zero=>exact absurd HA.out (by simp [z0_.j2])
       | succ Be =>
        have H:=HA.out
        clear HA
        simp only [z0_.j2]at H
        by_cases Bm:Al=true
        ·subst Bm
         replace H:=qT H
         obtain⟨⟨Bj,Ac⟩,Bu,H⟩:=qB H
         dsimp only at H
         obtain⟨Br,H⟩:=qo H
         have Bv:=eq_true Br
         have Bw:=decide_eq_true Br
         clear Br
         obtain⟨Bs,H⟩:=qo H
         have Bx:=eq_true Bs
         have Bz:=decide_eq_true Bs
         clear Bs
         obtain⟨Ca,H⟩:=qo H
         have Aw:=y0.mk Ca
         clear Ca
         obtain⟨Au,Aj⟩:∃ y_:List ByteArray,y_=(Ah ++ [Aa.extract 0 (Ac:Int).toNat]):=⟨_,rfl⟩
         replace H:((strings_HasPrefix.f (Aa.extract (Ac:Int).toNat Aa.size) (⟨#[44]⟩:ByteArray)).bind fun Bb=>(if Bb=true then(if 1≤((Aa.extract (Ac:Int).toNat Aa.size).size:Int)then(z0_.l0 Be Ad ((Aa.extract (Ac:Int).toNat Aa.size).extract 1 (Aa.extract (Ac:Int).toNat Aa.size).size) Au)else(none))else(z0_.l0 Be Ad (Aa.extract (Ac:Int).toNat Aa.size) Au)))=some (r1,r2):=by first|(rw [Aj];with_reducible exact H)|(have H2_:=(Option.bind_some _ _).symm.trans H;rw [Aj];with_reducible exact H2_)|(have H2_:=(Option.bind_some _ _).symm.trans H;with_reducible exact H2_)|with_reducible exact H|(rw [Aj];exact H)|exact H
         have Ay:=y0.mk Aj
         clear Aj
         have Cb:=eq_true (of_decide_eq_true qy1:0≤Ac)
         have Cc:=eq_true (of_decide_eq_true qy1:Ac≤(Aa.size:Int))
         obtain⟨Bb,Cd,H⟩:=qB H
         by_cases Bn:Bb=true
         ·subst Bn
          replace H:=qT H
          obtain⟨Bk,H⟩:=qo H
          have Ce:=eq_true Bk
          have Cf:=decide_eq_true Bk
          have Cg:((1:Int)≤((Aa.size - (Ac:Int).toNat:Nat):Int))=True:=eq_true (by have h_:=Bk;simp only [ByteArray.size_extract]at h_;omega)
          have Ch:(((Aa.size - (Ac:Int).toNat:Nat):Int) < 1)=False:=eq_false (by have h_:=Bk;simp only [ByteArray.size_extract]at h_;omega)
          clear Bk
          have H':=y0.mk H
          clear H
          go_wp2_with (first|((with_reducible refine y19 (f:=96) rfl ?_);refine y22 (some 33) rfl rfl Tryz.func96 (by kernel_rfl) rfl #[.string Aa] rfl qy0 ?_;(with_reducible refine(impl_termAt.calls Be Aa Bj Ac _ (by exact Tb.below HT.out qb) Bu.out).mono ?_);rintro e Cl ⟨rfl,hb⟩;refine⟨_,rfl, ?_⟩;replace Ae:=y0.mk (Kd.R_below (qR Ae.out) hb);replace HB:=y0.mk (y8 qb hb);(try clear hb))|((with_reducible refine gate_builtin (b:=.append) (xs:=#[.tmp 36,.tmp 40]) rfl ?_);at_builtin;refine Kd.R_append Kd.string (w0:=w) w.heap.size rfl (.tmp 36) (.tmp 40) 25 9 (.string ⟨#[]⟩) 16 rfl Tryz.underlying25 info9 rfl (by decide) (by omega) u7 Ah (Aa.extract 0 (Ac:Int).toNat) [.string (Aa.extract 0 (Ac:Int).toNat)] (fun _=>True) (fun _=>False) rfl rfl ?aP (fun _ hk=>hk.elim) ?aF ?aO ?aB ?aS ?aL ?_;(case aP=>exact rfl);(case aB=>exact qb);(case aF=>exact(fun _ _=>trivial));(case aO=>exact(qR Ae.out));(case aS=>exact(y7 qb));(case aL=>have:=Aw.out;omega);intro Bt Cm ho hb hg hat;rw [← Ay.out]at ho;replace HB:=y0.mk (hb);have Aq:=y0.mk (ho);clear Ae;clear ho hb hg hat)|((with_reducible refine y19 (f:=140) rfl ?_);refine y22 (some 46) rfl rfl Tryz.func140 (by kernel_rfl) rfl #[.string (Aa.extract (Ac:Int).toNat Aa.size),.string (⟨#[44]⟩:ByteArray)] rfl qy0 ?_;(with_reducible refine(strings_HasPrefix.calls (Aa.extract (Ac:Int).toNat Aa.size) (⟨#[44]⟩:ByteArray) true _ Cd.out).mono ?_);rintro e w' ⟨rfl,⟨nd,rfl⟩⟩;refine⟨_,rfl, ?_⟩))
          go_roundg Be
          case measure=>have:=Bc.out;have:=Bd.out;have:=Bl.out;omega
          exact⟨((Aa.extract (Ac:Int).toNat Aa.size).extract 1 (Aa.extract (Ac:Int).toNat Aa.size).size),(Au),qy2,H',⟨by have:=Bc.out;have:=Bd.out;have:=Bl.out;omega⟩,⟨qR Aq.out⟩,⟨qb⟩⟩
         ·replace Bn:=Bool.eq_false_iff.mpr Bn
          subst Bn
          replace H:=qF H
          have H':=y0.mk H
          clear H
          go_wp2_with (first|((with_reducible refine y19 (f:=96) rfl ?_);refine y22 (some 33) rfl rfl Tryz.func96 (by kernel_rfl) rfl #[.string Aa] rfl qy0 ?_;(with_reducible refine(impl_termAt.calls Be Aa Bj Ac _ (by exact Tb.below HT.out qb) Bu.out).mono ?_);rintro e Cn ⟨rfl,hb⟩;refine⟨_,rfl, ?_⟩;replace Ae:=y0.mk (Kd.R_below (qR Ae.out) hb);replace HB:=y0.mk (y8 qb hb);(try clear hb))|((with_reducible refine gate_builtin (b:=.append) (xs:=#[.tmp 36,.tmp 40]) rfl ?_);at_builtin;refine Kd.R_append Kd.string (w0:=w) w.heap.size rfl (.tmp 36) (.tmp 40) 25 9 (.string ⟨#[]⟩) 16 rfl Tryz.underlying25 info9 rfl (by decide) (by omega) u7 Ah (Aa.extract 0 (Ac:Int).toNat) [.string (Aa.extract 0 (Ac:Int).toNat)] (fun _=>True) (fun _=>False) rfl rfl ?aP (fun _ hk=>hk.elim) ?aF ?aO ?aB ?aS ?aL ?_;(case aP=>exact rfl);(case aB=>exact qb);(case aF=>exact(fun _ _=>trivial));(case aO=>exact(qR Ae.out));(case aS=>exact(y7 qb));(case aL=>have:=Aw.out;omega);intro Bt Co ho hb hg hat;rw [← Ay.out]at ho;replace HB:=y0.mk (hb);have Aq:=y0.mk (ho);clear Ae;clear ho hb hg hat)|((with_reducible refine y19 (f:=140) rfl ?_);refine y22 (some 46) rfl rfl Tryz.func140 (by kernel_rfl) rfl #[.string (Aa.extract (Ac:Int).toNat Aa.size),.string (⟨#[44]⟩:ByteArray)] rfl qy0 ?_;(with_reducible refine(strings_HasPrefix.calls (Aa.extract (Ac:Int).toNat Aa.size) (⟨#[44]⟩:ByteArray) false _ Cd.out).mono ?_);rintro e w' ⟨rfl,⟨nd,rfl⟩⟩;refine⟨_,rfl, ?_⟩))
          go_roundg Be
          case measure=>have:=Bc.out;have:=Bd.out;have:=Bl.out;omega
          exact⟨(Aa.extract (Ac:Int).toNat Aa.size),(Au),qy2,H',⟨by have:=Bc.out;have:=Bd.out;have:=Bl.out;omega⟩,⟨qR Aq.out⟩,⟨qb⟩⟩
        ·replace Bm:=Bool.eq_false_iff.mpr Bm
         subst Bm
         replace H:=qF H
         simp only [Option.some.injEq,Prod.mk.injEq]at H
         obtain⟨rfl,rfl⟩:=H
         go_wp2
         go_ret2
         exact⟨_,by first|rfl|(simp [y17,y18] <;> rfl)|(simp [*,y17,y18] <;> rfl),by(with_reducible repeat(first|apply Kd.R_alloc|apply Kd.R_drewN|apply Kd.R_drew));exact Ae.out,qb⟩
def cmp_Or_int.l0:Nat→Int→List Int→Int→Int→Option (Int)
 | 0,_,_,_,_=>none
 | k + 1,x3,x6,x7,x8=>if x8 < x7 then(if 0≤x8 then(if x8 < (x6.length:Int)then(if(rd x6 x8)=x3 then(cmp_Or_int.l0 k x3 x6 x7 (wrap64 (x8 + 1)))else(some (rd x6 x8)))else(none))else(none))else(some x3)
def cmp_Or_int.f (k:Nat) (l0:List Int):Option (Int):=cmp_Or_int.l0 k 0 l0 (l0.length:Int) 0
set_option maxHeartbeats 8000000 in
set_option maxRecDepth 100000 in
theorem cmp_Or_int.calls (k:Nat) (A0:Option Addr) (c0:Nat) (l0:List Int) (r:Int) (w:World) (Aj:Kd.C (Kd.int .i64) w A0 l0.length l0) (Ak:l0.length≤c0) (h:cmp_Or_int.f k l0=some r) :
  Calls Tryz.prog 126 #[.slice A0 l0.length c0] w fun e w'=>e=.returned (.int .i64 r)∧y1 w w':=by
 have Ap:=y0.mk Aj
 have Av:=y0.mk Ak
 clear Aj Ak
 have H:(cmp_Or_int.l0 k 0 l0 (l0.length:Int) 0)=some r:=h
 clear h
 have H':=y0.mk H
 clear H
 go_enter Tryz.func126,Tryz.ntmps126
 go_wp2
 go_loopg [8] k (fun kq v8 w'=>∃(Aa:Int),v8=.int .i64 Aa∧y0 (cmp_Or_int.l0 kq 0 l0 (l0.length:Int) Aa=some r)∧y0 (kq≤k)∧y1 w w')
 case atStart=>exact⟨(0),qy2,H',⟨Nat.le_refl _⟩,by repeat(first|exact y1.refl _|apply y1.step)⟩
 case round =>
  clear H'
  obtain⟨Aa,rfl,HA,Al,⟨m1,rfl⟩⟩:=hrel
  cases gk with
  | zero=>exact absurd HA.out (by simp [cmp_Or_int.l0])
  | succ k1 =>
   have H:=HA.out
   clear HA
   simp only [cmp_Or_int.l0]at H
   by_cases c2:Aa < (l0.length:Int)
   ·rw [if_pos c2]at H
    have Af:=decide_eq_true c2
    clear c2
    obtain⟨c3,H⟩:=qo H
    have Aq:decide (0≤Aa)=true:=decide_eq_true c3
    clear c3
    obtain⟨c4,H⟩:=qo H
    have Au:decide (Aa < (l0.length:Int))=true:=decide_eq_true c4
    clear c4
    have Ac:0≤(Aa:Int):=of_decide_eq_true qy1
    have Ad:Aa < (l0.length:Int):=of_decide_eq_true qy1
    obtain⟨Am,Ag,Ae⟩:=Kd.at_int Ap.out Aa Ac Ad
    cases Ag
    replace Ac:=eq_true Ac
    replace Ad:=eq_true Ad
    by_cases c5:(rd l0 Aa)=0
    ·rw [if_pos c5]at H
     have Ah:((rd l0 Aa) == 0)=true:=beq_iff_eq.mpr c5
     have Ai:((rd l0 Aa) != 0)=false:=bne_eq_false_iff_eq.mpr c5
     clear c5
     have H':=y0.mk H
     clear H
     go_wp2
     go_roundg k1
     case measure=>have:=Al.out;omega
     exact⟨(wrap64 (Aa + 1)),qy2,H',⟨by have:=Al.out;omega⟩,by repeat(first|exact y1.refl _|apply y1.step)⟩
    ·rw [if_neg c5]at H
     have Ah:((rd l0 Aa) == 0)=false:=beq_eq_false_iff_ne.mpr c5
     have Ai:((rd l0 Aa) != 0)=true:=bne_iff_ne.mpr c5
     obtain rfl:=Option.some.inj H
     go_wp2
     go_ret
     exact qf2
   ·rw [if_neg c2]at H
    have Af:=decide_eq_false c2
    clear c2
    obtain rfl:=Option.some.inj H
    go_wp2
    go_ret
    exact qf2
end Go.Proofs.YtkajecadkkgfmaaGreatDoor.Pn
end
