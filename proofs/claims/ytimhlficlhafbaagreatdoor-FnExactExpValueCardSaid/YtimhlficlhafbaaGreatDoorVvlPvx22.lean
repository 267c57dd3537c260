-- Cut by prune.py.
import Derived.Test.YtimhlficlhafbaaGreatDoorVvlPvx18
set_option maxHeartbeats 8000000
set_option maxRecDepth 100000
section
namespace Go.Proofs.YtimhlficlhafbaaGreatDoor.Pv
open RowKit YtimhlficlhafbaaGreatDoorW.PrintWords YtimhlficlhafbaaGreatDoorW.PrintLast YtimhlficlhafbaaGreatDoorW.PrintMore
set_option linter.unusedVariables false
set_option linter.unusedSimpArgs false
mutual
def impl_termAt.j0:Nat→ByteArray→Bool→Option (Int×Int)
 | 0,_,_=>none
 | k + 1,x0,Ae=>if Ae=true then(impl_termAt.l0 k x0 1)else(if 0 < (x0.size:Int)then(if(bt x0 0)≥65 then(impl_termAt.j3 k x0 (decide ((bt x0 0)≤90)))else(impl_termAt.j3 k x0 false))else(none))
def impl_termAt.j2:Nat→ByteArray→Int→Option (Int×Int)
 | 0,_,_=>none
 | k + 1,x0,x5=>if 0≤x5 then(if x5≤(x0.size:Int)then((strconv_Atoi.f (x0.extract 0 (x5:Int).toNat)).bind fun bt476=>(if bt476.2.isNone=true then((impl_in.f bt476.1 (-1000000) 1000000).bind fun Ae=>(if Ae=true then((strconv_Itoa.f bt476.1).bind fun An=>(if An.toList=(x0.extract 0 (x5:Int).toNat).toList then(some (1,x5))else(some (0,0))))else(some (0,0))))else(some (0,0))))else(none))else(none)
def impl_termAt.l0:Nat→ByteArray→Int→Option (Int×Int)
 | 0,_,_=>none
 | k + 1,x0,x5=>if x5 < (x0.size:Int)then(if 0≤x5 then((impl_isDigit.f (bt x0 x5)).bind fun Ae=>(if Ae=true then(impl_termAt.l0 k x0 (wrap64 (x5 + 1)))else(impl_termAt.j2 k x0 x5)))else(none))else(impl_termAt.j2 k x0 x5)
def impl_termAt.j3:Nat→ByteArray→Bool→Option (Int×Int)
 | 0,_,_=>none
 | k + 1,x0,An=>if An=true then((impl_nameLong.f k x0).bind fun Ae=>(if Ae > 20 then(some (0,0))else(if Ae=(x0.size:Int)then(impl_termAt.j4 k x0 Ae true)else(if 0≤Ae then(if Ae < (x0.size:Int)then(impl_termAt.j4 k x0 Ae ((bt x0 Ae) != 40))else(none))else(none)))))else(some (0,0))
def impl_termAt.j4:Nat→ByteArray→Int→Bool→Option (Int×Int)
 | 0,_,_,_=>none
 | k + 1,x0,x8,Ae=>if Ae=true then(some (3,x8))else(impl_termAt.l1 k x0 x8 true)
def impl_termAt.l1:Nat→ByteArray→Int→Bool→Option (Int×Int)
 | 0,_,_,_=>none
 | k + 1,x0,x8,x9=>if x9=true then(if 0≤(wrap64 (x8 + 1))then(if(wrap64 (x8 + 1))≤(x0.size:Int)then((impl_termAt.f k (x0.extract ((wrap64 (x8 + 1)):Int).toNat x0.size)).bind fun bt482=>(if bt482.1=0 then(some (0,0))else(if(wrap64 (x8 + (wrap64 (1 + bt482.2)))) < (x0.size:Int)then(if 0≤(wrap64 (x8 + (wrap64 (1 + bt482.2))))then(impl_termAt.l1 k x0 (wrap64 (x8 + (wrap64 (1 + bt482.2)))) ((bt x0 (wrap64 (x8 + (wrap64 (1 + bt482.2))))) == 44))else(none))else(impl_termAt.l1 k x0 (wrap64 (x8 + (wrap64 (1 + bt482.2)))) false))))else(none))else(none))else(if x8 < (x0.size:Int)then(if 0≤x8 then(if(bt x0 x8)=41 then(some (3,wrap64 (x8 + 1)))else(some (0,0)))else(none))else(some (0,0)))
def impl_termAt.f:Nat→ByteArray→Option (Int×Int)
 | 0,_=>none
 | k + 1,a0=>if a0.toList=([]:List UInt8)then(some (0,0))else(if 0 < (a0.size:Int)then(if(bt a0 0)=34 then((impl_symbolLong.f k a0).bind fun Ae=>(if Ae > 0 then(some (2,Ae))else(some (0,0))))else(if(bt a0 0)=45 then(impl_termAt.j0 k a0 true)else((impl_isDigit.f (bt a0 0)).bind fun An=>(impl_termAt.j0 k a0 An))))else(none))
end
def impl_termAt.T12:Bool×List (List Nat×List Nat):=(true,[([],[]),([0],[0]),([1],[1]),([2],[2]),([3,2,2],[2,3]),([2,4],[2,4]),([5,4],[5]),([6],[6]),([7,6,6],[6,7]),([6],[6]),([6],[6]),([9,10,6],[6,9,10]),([8,11,6],[6,8,11]),([6,12],[6,12])])
def impl_termAt.B12:List Nat:=[0,1,3,7,15,31,63,127,255,127,127,1663,4095,8191]
theorem impl_termAt.tab12:rtab .any (opsOf Tryz.f58 12)=impl_termAt.T12:=by kernel_rfl
theorem impl_termAt.bits12:waitsOk impl_termAt.T12.2 impl_termAt.B12=true:=by kernel_rfl
theorem impl_termAt.calls (k:Nat):∀(a0:ByteArray) (r1:Int) (r2:Int) (w:World) (hT:Tb w) (h:impl_termAt.f k a0=some (r1,r2)),
  Calls Tryz.prog 58 #[.string a0] w fun e w'=>e=.returned (.tuple #[.int .i64 r1,.int .i64 r2])∧Below w.heap.size w w':=by
 induction k using Nat.strongRecOn with
 | _ k ih =>
 intro a0 r1 r2 w hT h
 cases k with
 | zero=>exact absurd h (by simp [impl_termAt.f])
 | succ k =>
 simp only [impl_termAt.f]at h
 have Ey:=Tryz.underlying94
 replace hT:=y0.mk hT
 have HB:=y0.mk (Below.refl w.heap.size w)
 have H:(if a0.toList=([]:List UInt8)then(some (0,0))else(if 0 < (a0.size:Int)then(if(bt a0 0)=34 then((impl_symbolLong.f k a0).bind fun Ar=>(if Ar > 0 then(some (2,Ar))else(some (0,0))))else(if(bt a0 0)=45 then(impl_termAt.j0 k a0 true)else((impl_isDigit.f (bt a0 0)).bind fun Ba=>(impl_termAt.j0 k a0 Ba))))else(none)))=some (r1,r2):=h
 clear h
 by_cases c2:a0.toList=([]:List UInt8)
 ·rw [if_pos c2]at H
  have Bw:(a0.toList == ([]:List UInt8))=true:=beq_iff_eq.mpr c2
  have Bx:(a0.toList != ([]:List UInt8))=false:=bne_eq_false_iff_eq.mpr c2
  clear c2
  simp only [Option.some.injEq,Prod.mk.injEq]at H
  obtain⟨rfl,rfl⟩:=H
  go_enter Tryz.func58,Tryz.ntmps58
  go_wp2
  go_ret2
  exact⟨qf,qb⟩
 ·rw [if_neg c2]at H
  have Bw:(a0.toList == ([]:List UInt8))=false:=beq_eq_false_iff_ne.mpr c2
  have Bx:(a0.toList != ([]:List UInt8))=true:=bne_iff_ne.mpr c2
  obtain⟨c3,H⟩:=qo H
  have Da:decide (0 < (a0.size:Int))=true:=decide_eq_true c3
  have Db:decide (0 < a0.size)=true:=decide_eq_true (by omega)
  clear c3
  by_cases c5:(bt a0 0)=34
  ·rw [if_pos c5]at H
   have Bz:((bt a0 0) == 34)=true:=beq_iff_eq.mpr c5
   have Ca:((bt a0 0) != 34)=false:=bne_eq_false_iff_eq.mpr c5
   clear c5
   obtain⟨Ar,A6,H⟩:=qB H
   by_cases c7:Ar > 0
   ·rw [if_pos c7]at H
    have Dc:decide (0 < Ar)=true:=decide_eq_true c7
    clear c7
    simp only [Option.some.injEq,Prod.mk.injEq]at H
    obtain⟨rfl,rfl⟩:=H
    have p4:0≤(0:Int):=(by omega)
    have q4:0 < a0.size:=qy3
    have Dd:∀ h:0 < a0.size,((a0[0]'h).toNat:Int)=bt a0 0:=bt_at a0 0
    clear p4
    have De:(0 < (a0.size:Int))=True:=eq_true (of_decide_eq_true qy0)
    replace q4:=eq_true q4
    go_enter Tryz.func58,Tryz.ntmps58
    go_wp2_with (first|((with_reducible refine y18 (f:=77) rfl ?_);refine y21 (some 19) rfl rfl Tryz.func77 (by kernel_rfl) rfl #[.string a0] rfl qy1 ?_;(with_reducible refine(impl_symbolLong.calls k a0 Ar _ A6.out).mono ?_);rintro e w' ⟨rfl,⟨nd,rfl⟩⟩;refine⟨_,rfl, ?_⟩))
    go_ret2
    exact⟨qf,qb⟩
   ·rw [if_neg c7]at H
    have Dc:decide (0 < Ar)=false:=decide_eq_false c7
    clear c7
    simp only [Option.some.injEq,Prod.mk.injEq]at H
    obtain⟨rfl,rfl⟩:=H
    have p4:0≤(0:Int):=(by omega)
    have q4:0 < a0.size:=qy3
    have Dd:∀ h:0 < a0.size,((a0[0]'h).toNat:Int)=bt a0 0:=bt_at a0 0
    clear p4
    have De:(0 < (a0.size:Int))=True:=eq_true (of_decide_eq_true qy0)
    replace q4:=eq_true q4
    go_enter Tryz.func58,Tryz.ntmps58
    go_wp2_with (first|((with_reducible refine y18 (f:=77) rfl ?_);refine y21 (some 19) rfl rfl Tryz.func77 (by kernel_rfl) rfl #[.string a0] rfl qy1 ?_;(with_reducible refine(impl_symbolLong.calls k a0 Ar _ A6.out).mono ?_);rintro e w' ⟨rfl,⟨nd,rfl⟩⟩;refine⟨_,rfl, ?_⟩))
    go_ret2
    exact⟨qf,qb⟩
  ·rw [if_neg c5]at H
   have Bz:((bt a0 0) == 34)=false:=beq_eq_false_iff_ne.mpr c5
   have Ca:((bt a0 0) != 34)=true:=bne_iff_ne.mpr c5
   have Df:=y0.mk H
   clear H
   have p4:0≤(0:Int):=(by omega)
   have q4:0 < a0.size:=qy3
   have Dd:∀ h:0 < a0.size,((a0[0]'h).toNat:Int)=bt a0 0:=bt_at a0 0
   clear p4
   have De:(0 < (a0.size:Int))=True:=eq_true (of_decide_eq_true qy0)
   replace q4:=eq_true q4
   go_enter Tryz.func58,Tryz.ntmps58
   go_upto_region 7 with(fail)
   go_cut [23] (fun Ez wc=>∃(kq:Nat) (Az:Bool),Ez=.bool Az∧y0 (impl_termAt.j0 kq a0 Az=some (r1,r2))∧y0 (kq≤k)∧y0 (Below w.heap.size w wc))
   case first =>
    have H:=Df.out
    clear Df
    by_cases Bf:(bt a0 0)=45
    ·rw [if_pos Bf]at H
     have As:((bt a0 0) == 45)=true:=beq_iff_eq.mpr Bf
     have Cb:((bt a0 0) != 45)=false:=bne_eq_false_iff_eq.mpr Bf
     clear Bf
     (first|rw [As]|(simp only [i64_w,i32_w];rw [As])|skip)
     have H':=y0.mk H
     clear H
     have p9:0≤(0:Int):=(by omega)
     have q9:0 < a0.size:=qy3
     have Fa:∀ h:0 < a0.size,((a0[0]'h).toNat:Int)=bt a0 0:=bt_at a0 0
     clear p9
     have Fb:(0 < (a0.size:Int))=True:=eq_true (of_decide_eq_true qy0)
     replace q9:=eq_true q9
     go_wp2
     go_meet
     exact⟨_,(true),qy2,H',⟨by first|omega|exact Nat.le_refl _⟩,⟨qb⟩⟩
    ·rw [if_neg Bf]at H
     have As:((bt a0 0) == 45)=false:=beq_eq_false_iff_ne.mpr Bf
     have Cb:((bt a0 0) != 45)=true:=bne_iff_ne.mpr Bf
     (first|rw [As]|(simp only [i64_w,i32_w];rw [As])|skip)
     obtain⟨Ba,Fc,H⟩:=qB H
     have H':=y0.mk H
     clear H
     have p9:0≤(0:Int):=(by omega)
     have q9:0 < a0.size:=qy3
     have Fa:∀ h:0 < a0.size,((a0[0]'h).toNat:Int)=bt a0 0:=bt_at a0 0
     clear p9
     have Fb:(0 < (a0.size:Int))=True:=eq_true (of_decide_eq_true qy0)
     replace q9:=eq_true q9
     have Fd:0≤(0:Int):=(by omega)
     have Dq:0 < a0.size:=qy3
     have Fe:∀ h:0 < a0.size,((a0[0]'h).toNat:Int)=bt a0 0:=bt_at a0 0
     clear Fd
     have Ff:(0 < (a0.size:Int))=True:=eq_true (of_decide_eq_true qy0)
     replace Dq:=eq_true Dq
     go_wp2_with (first|(go_at_call 78;(with_reducible refine(impl_isDigit.calls (bt a0 0) Ba _ Fc.out).mono ?_);rintro e w' ⟨rfl,⟨nd,rfl⟩⟩))
     go_meet
     exact⟨_,(Ba),qy2,H',⟨by first|omega|exact Nat.le_refl _⟩,⟨qb⟩⟩
   case rest =>
    clear Df
    (try clear Bw Bx Da Db q4 Dd De Bz Ca q4)
    obtain⟨kq,Az,rfl,HA,Aw,HB⟩:=hcut
    cases kq with
    | zero=>exact absurd HA.out (by simp [impl_termAt.j0])
    | succ Ct =>
     have H:=HA.out
     clear HA
     simp only [impl_termAt.j0]at H
     by_cases Bq:Az=true
     ·subst Bq
      replace H:=qT H
      have Bg:=y0.mk H
      clear H
      go_upto_block 1 with(fail)
      go_cut [5] (fun v5 wc=>∃(kq:Nat) (Aa:Int),v5=.int .i64 Aa∧y0 (impl_termAt.j2 kq a0 Aa=some (r1,r2))∧y0 (kq≤Ct)∧y0 (Below w.heap.size w wc))
      case first =>
       have H:=Bg.out
       clear Bg
       have H':=y0.mk H
       clear H
       go_wp2
       go_loopg [5] Ct (fun kq v5 w'=>∃(Ad:Int),v5=.int .i64 Ad∧y0 (impl_termAt.l0 kq a0 Ad=some (r1,r2))∧y0 (kq≤Ct)∧y0 (Below w.heap.size w w'))
       case atStart=>exact⟨(1),qy2,H',⟨Nat.le_refl _⟩,⟨qb⟩⟩
       case round =>
        clear H'
        (try clear Bq)
        obtain⟨Ad,rfl,HA,Cu,HB⟩:=hrel
        cases gk with
        | zero=>exact absurd HA.out (by simp [impl_termAt.l0])
        | succ k2 =>
         have H:=HA.out
         clear HA
         simp only [impl_termAt.l0]at H
         by_cases Br:Ad < (a0.size:Int)
         ·rw [if_pos Br]at H
          have At:=decide_eq_true Br
          clear Br
          (first|rw [At]|(simp only [i64_w,i32_w];rw [At])|skip)
          obtain⟨Dr,H⟩:=qo H
          have Ds:decide (0≤Ad)=true:=decide_eq_true Dr
          clear Dr
          obtain⟨Dg,Dt,H⟩:=qB H
          by_cases Cv:Dg=true
          ·subst Cv
           replace H:=qT H
           have H':=y0.mk H
           clear H
           have Cc:0≤(Ad:Int):=qd
           have Cd:Ad < (a0.size:Int):=qd
           have Dh:=bt_at a0 Ad
           replace Cc:=eq_true Cc
           replace Cd:=eq_true Cd
           go_wp2_with (first|(go_at_call 78;(with_reducible refine(impl_isDigit.calls (bt a0 Ad) true _ Dt.out).mono ?_);rintro e w' ⟨rfl,⟨nd,rfl⟩⟩))
           go_roundg k2
           case measure=>have:=Aw.out;have:=Cu.out;omega
           exact⟨(wrap64 (Ad + 1)),qy2,H',⟨by have:=Aw.out;have:=Cu.out;omega⟩,⟨qb⟩⟩
          ·replace Cv:=Bool.eq_false_iff.mpr Cv
           subst Cv
           replace H:=qF H
           have H':=y0.mk H
           clear H
           have Cc:0≤(Ad:Int):=qd
           have Cd:Ad < (a0.size:Int):=qd
           have Dh:=bt_at a0 Ad
           replace Cc:=eq_true Cc
           replace Cd:=eq_true Cd
           go_wp2_with (first|(go_at_call 78;(with_reducible refine(impl_isDigit.calls (bt a0 Ad) false _ Dt.out).mono ?_);rintro e w' ⟨rfl,⟨nd,rfl⟩⟩))
           go_meet
           exact⟨_,(Ad),qy2,H',⟨by have:=Aw.out;have:=Cu.out;first|omega|exact Nat.le_refl _⟩,⟨qb⟩⟩
         ·rw [if_neg Br]at H
          have At:=decide_eq_false Br
          clear Br
          (first|rw [At]|(simp only [i64_w,i32_w];rw [At])|skip)
          have H':=y0.mk H
          clear H
          go_wp2
          go_meet
          exact⟨_,(Ad),qy2,H',⟨by have:=Aw.out;have:=Cu.out;first|omega|exact Nat.le_refl _⟩,⟨qb⟩⟩
      case rest =>
       clear Bg
       obtain⟨kq,Aa,rfl,HA,Fg,HB⟩:=hcut
       cases kq with
       | zero=>exact absurd HA.out (by simp [impl_termAt.j2])
       | succ Fh =>
        have H:=HA.out
        clear HA
        simp only [impl_termAt.j2]at H
        obtain⟨Di,H⟩:=qo H
        have Du:=eq_true Di
        have Dv:=decide_eq_true Di
        clear Di
        obtain⟨Dj,H⟩:=qo H
        have Dw:=eq_true Dj
        have Dx:=decide_eq_true Dj
        clear Dj
        obtain⟨⟨Af,Dk⟩,Cw,H⟩:=qB H
        dsimp only at H
        rcases Dk with _|Ce
        ·have H1:((impl_in.f Af (-1000000) 1000000).bind fun Bh=>(if Bh=true then((strconv_Itoa.f Af).bind fun Al=>(if Al.toList=(a0.extract 0 (Aa:Int).toNat).toList then(some (1,Aa))else(some (0,0))))else(some (0,0))))=some (r1,r2):=by rw [if_pos (show(none:Option Int).isNone=true by rfl)]at H;exact H
         clear H
         have H:=H1
         clear H1
         try simp only [y15,y16]
         obtain⟨Bh,Dl,H⟩:=qB H
         by_cases Cx:Bh=true
         ·subst Cx
          replace H:=qT H
          obtain⟨Al,Dy,H⟩:=qB H
          have Dz:=eq_true (of_decide_eq_true qy0:0≤Aa)
          have Ea:=eq_true (of_decide_eq_true qy0:Aa≤(a0.size:Int))
          by_cases Bi:Al.toList=(a0.extract 0 (Aa:Int).toNat).toList
          ·rw [if_pos Bi]at H
           have Cf:(Al.toList == (a0.extract 0 (Aa:Int).toNat).toList)=true:=beq_iff_eq.mpr Bi
           have Cg:(Al.toList != (a0.extract 0 (Aa:Int).toNat).toList)=false:=bne_eq_false_iff_eq.mpr Bi
           clear Bi
           simp only [Option.some.injEq,Prod.mk.injEq]at H
           obtain⟨rfl,rfl⟩:=H
           try go_wp2_with (first|((with_reducible refine y18 (f:=60) rfl ?_);refine y21 (some 48) rfl rfl Tryz.func60 (by kernel_rfl) rfl #[.string (a0.extract 0 (Aa:Int).toNat)] rfl qy1 ?_;(with_reducible refine(strconv_Atoi.calls (a0.extract 0 (Aa:Int).toNat) Af none _ (by exact Tb.below hT.out qb) Cw.out).mono ?_);rintro e Fi ⟨ev_,rfl,hev_,hb⟩;obtain rfl:=errIs_none hev_;refine⟨_,rfl, ?_⟩;replace HB:=y0.mk (y5 qb hb);(try clear hb);(try simp only [y15,y16])))
           replace HB:=y0.mk (below_drew1 HB.out)
           refine start_ (n:=14) (S:=fun w'=>True) (ds:=[]) (fl_ 14 0) (by kernel_rfl) rfl rfl trivial (fun hHeld=>?_);refine with_tabW impl_termAt.tab12 impl_termAt.bits12 (fun HT_ HW_=>?_)
           generalize Fi.drew=Fx at HB hHeld ⊢
           refine qp4 0 51 14 ?_
           refine qO 4 55 (fl_ 14 31) (fun K hK=>?_)
           refine goes_ Tryz.func22 (by kernel_rfl) rfl #[.int .i64 Af,.int .i64 (-1000000),.int .i64 1000000] (by rfl) rfl rfl qy1 ?_
           with_reducible refine(impl_in.calls Af (-1000000) 1000000 true _ Dl.out).mono ?_
           rintro e w' ⟨rfl,⟨nd,rfl⟩⟩
           refine⟨_,rfl, ?_⟩
           refine hK.out _ _ trivial (fun hHeld=>?_)
           clear hK K
           refine qx 55 ?_
           refine qp3 5 56 14 ?_
           refine qp 9 60 (fl_ 14 767) ?_
           refine qp 10 61 (fl_ 14 1791) ?_
           refine qp 11 62 (fl_ 14 3839) ?_
           refine qO 8 59 (fl_ 14 4095) (fun K hK=>?_)
           refine goes_ Tryz.func59 (by kernel_rfl) rfl #[.int .i64 Af] (by rfl) rfl rfl qy1 ?_
           with_reducible refine(strconv_Itoa.calls Af Al _ (by exact Tb.below hT.out qb) Dy.out).mono ?_
           rintro e Fy ⟨rfl,hb⟩
           refine⟨_,rfl, ?_⟩
           replace HB:=y0.mk (y5 qb hb)
           (try clear hb)
           refine hK.out _ _ trivial (fun hHeld=>?_)
           clear hK K
           refine qx 59 ?_
           refine qp2 12 63 14 ?_
           refine done_ (done_of HT_.out (by kernel_rfl)) ?_
           try go_wp2
           go_ret2
           exact⟨qf,qb⟩
          ·rw [if_neg Bi]at H
           have Cf:(Al.toList == (a0.extract 0 (Aa:Int).toNat).toList)=false:=beq_eq_false_iff_ne.mpr Bi
           have Cg:(Al.toList != (a0.extract 0 (Aa:Int).toNat).toList)=true:=bne_iff_ne.mpr Bi
           simp only [Option.some.injEq,Prod.mk.injEq]at H
           obtain⟨rfl,rfl⟩:=H
           try go_wp2_with (first|((with_reducible refine y18 (f:=60) rfl ?_);refine y21 (some 48) rfl rfl Tryz.func60 (by kernel_rfl) rfl #[.string (a0.extract 0 (Aa:Int).toNat)] rfl qy1 ?_;(with_reducible refine(strconv_Atoi.calls (a0.extract 0 (Aa:Int).toNat) Af none _ (by exact Tb.below hT.out qb) Cw.out).mono ?_);rintro e Fj ⟨ev_,rfl,hev_,hb⟩;obtain rfl:=errIs_none hev_;refine⟨_,rfl, ?_⟩;replace HB:=y0.mk (y5 qb hb);(try clear hb);(try simp only [y15,y16])))
           replace HB:=y0.mk (below_drew1 HB.out)
           refine start_ (n:=14) (S:=fun w'=>True) (ds:=[]) (fl_ 14 0) (by kernel_rfl) rfl rfl trivial (fun hHeld=>?_);refine with_tabW impl_termAt.tab12 impl_termAt.bits12 (fun HT_ HW_=>?_)
           generalize Fj.drew=Fz at HB hHeld ⊢
           refine qp4 0 51 14 ?_
           refine qO 4 55 (fl_ 14 31) (fun K hK=>?_)
           refine goes_ Tryz.func22 (by kernel_rfl) rfl #[.int .i64 Af,.int .i64 (-1000000),.int .i64 1000000] (by rfl) rfl rfl qy1 ?_
           with_reducible refine(impl_in.calls Af (-1000000) 1000000 true _ Dl.out).mono ?_
           rintro e w' ⟨rfl,⟨nd,rfl⟩⟩
           refine⟨_,rfl, ?_⟩
           refine hK.out _ _ trivial (fun hHeld=>?_)
           clear hK K
           refine qx 55 ?_
           refine qp3 5 56 14 ?_
           refine qp 9 60 (fl_ 14 767) ?_
           refine qp 10 61 (fl_ 14 1791) ?_
           refine qp 11 62 (fl_ 14 3839) ?_
           refine qO 8 59 (fl_ 14 4095) (fun K hK=>?_)
           refine goes_ Tryz.func59 (by kernel_rfl) rfl #[.int .i64 Af] (by rfl) rfl rfl qy1 ?_
           with_reducible refine(strconv_Itoa.calls Af Al _ (by exact Tb.below hT.out qb) Dy.out).mono ?_
           rintro e Ga ⟨rfl,hb⟩
           refine⟨_,rfl, ?_⟩
           replace HB:=y0.mk (y5 qb hb)
           (try clear hb)
           refine hK.out _ _ trivial (fun hHeld=>?_)
           clear hK K
           refine qx 59 ?_
           refine qp2 12 63 14 ?_
           refine done_ (done_of HT_.out (by kernel_rfl)) ?_
           try go_wp2
           go_ret2
           exact⟨qf,qb⟩
         ·replace Cx:=Bool.eq_false_iff.mpr Cx
          subst Cx
          replace H:=qF H
          simp only [Option.some.injEq,Prod.mk.injEq]at H
          obtain⟨rfl,rfl⟩:=H
          try go_wp2_with (first|((with_reducible refine y18 (f:=60) rfl ?_);refine y21 (some 48) rfl rfl Tryz.func60 (by kernel_rfl) rfl #[.string (a0.extract 0 (Aa:Int).toNat)] rfl qy1 ?_;(with_reducible refine(strconv_Atoi.calls (a0.extract 0 (Aa:Int).toNat) Af none _ (by exact Tb.below hT.out qb) Cw.out).mono ?_);rintro e Fk ⟨ev_,rfl,hev_,hb⟩;obtain rfl:=errIs_none hev_;refine⟨_,rfl, ?_⟩;replace HB:=y0.mk (y5 qb hb);(try clear hb);(try simp only [y15,y16])))
          replace HB:=y0.mk (below_drew1 HB.out)
          refine start_ (n:=14) (S:=fun w'=>True) (ds:=[]) (fl_ 14 0) (by kernel_rfl) rfl rfl trivial (fun hHeld=>?_);refine with_tabW impl_termAt.tab12 impl_termAt.bits12 (fun HT_ HW_=>?_)
          generalize Fk.drew=Gb at HB hHeld ⊢
          refine qp4 0 51 14 ?_
          refine qO 4 55 (fl_ 14 31) (fun K hK=>?_)
          refine goes_ Tryz.func22 (by kernel_rfl) rfl #[.int .i64 Af,.int .i64 (-1000000),.int .i64 1000000] (by rfl) rfl rfl qy1 ?_
          with_reducible refine(impl_in.calls Af (-1000000) 1000000 false _ Dl.out).mono ?_
          rintro e w' ⟨rfl,⟨nd,rfl⟩⟩
          refine⟨_,rfl, ?_⟩
          refine hK.out _ _ trivial (fun hHeld=>?_)
          clear hK K
          refine qx 55 ?_
          refine qp6 5 56 14 ?_
          refine qp3 11 62 14 ?_
          refine done_ (done_of HT_.out (by kernel_rfl)) ?_
          try go_wp2
          go_ret2
          exact⟨qf,qb⟩
        ·have H1:(some (0,0))=some (r1,r2):=by rw [if_neg (show ¬(some Ce).isNone=true by simp)]at H;exact H
         clear H
         have H:=H1
         clear H1
         try simp only [y15,y16]
         simp only [Option.some.injEq,Prod.mk.injEq]at H
         obtain⟨rfl,rfl⟩:=H
         try go_wp2_with (first|((with_reducible refine y18 (f:=60) rfl ?_);refine y21 (some 48) rfl rfl Tryz.func60 (by kernel_rfl) rfl #[.string (a0.extract 0 (Aa:Int).toNat)] rfl qy1 ?_;(with_reducible refine(strconv_Atoi.calls (a0.extract 0 (Aa:Int).toNat) Af (some Ce) _ (by exact Tb.below hT.out qb) Cw.out).mono ?_);rintro e Fl ⟨ev_,rfl,hev_,hb⟩;obtain⟨te_,pe_,rfl⟩:=errIs_some hev_;refine⟨_,rfl, ?_⟩;replace HB:=y0.mk (y5 qb hb);(try clear hb);(try simp only [y15,y16])))
         replace HB:=y0.mk (below_drew1 HB.out)
         refine start_ (n:=14) (S:=fun w'=>True) (ds:=[]) (fl_ 14 0) (by kernel_rfl) rfl rfl trivial (fun hHeld=>?_);refine with_tabW impl_termAt.tab12 impl_termAt.bits12 (fun HT_ HW_=>?_)
         generalize Fl.drew=Gc at HB hHeld ⊢
         refine qp10 0 51 14 ?_
         refine qp4 10 61 14 ?_
         refine done_ (done_of HT_.out (by kernel_rfl)) ?_
         try go_wp2
         go_ret2
         exact⟨qf,qb⟩
     ·replace Bq:=Bool.eq_false_iff.mpr Bq
      subst Bq
      replace H:=qF H
      have Bj:=y0.mk H
      clear H
      go_upto_region 14 with(fail)
      go_cut [66] (fun Fm wc=>∃(kq:Nat) (Am:Bool),Fm=.bool Am∧y0 (impl_termAt.j3 kq a0 Am=some (r1,r2))∧y0 (kq≤Ct)∧y0 (Below w.heap.size w wc))
      case first =>
       have H:=Bj.out
       clear Bj
       obtain⟨Eb,H⟩:=qo H
       have Bc:decide (0 < (a0.size:Int))=true:=decide_eq_true Eb
       have Ec:decide (0 < a0.size)=true:=decide_eq_true (by omega)
       clear Eb
       (first|rw [Bc]|(simp only [i64_w,i32_w];rw [Bc])|skip)
       have Fn:0≤(0:Int):=(by omega)
       have Ed:0 < a0.size:=qy3
       have Fo:∀ h:0 < a0.size,((a0[0]'h).toNat:Int)=bt a0 0:=bt_at a0 0
       clear Fn
       have Fp:(0 < (a0.size:Int))=True:=eq_true (of_decide_eq_true qy0)
       replace Ed:=eq_true Ed
       by_cases Bs:(bt a0 0)≥65
       ·rw [if_pos Bs]at H
        have Ch:decide (65≤(bt a0 0))=true:=decide_eq_true Bs
        clear Bs
        have H':=y0.mk H
        clear H
        have Fq:0≤(0:Int):=(by omega)
        have Ee:0 < a0.size:=qy3
        have Fr:∀ h:0 < a0.size,((a0[0]'h).toNat:Int)=bt a0 0:=bt_at a0 0
        clear Fq
        have Fs:(0 < (a0.size:Int))=True:=eq_true (of_decide_eq_true qy0)
        replace Ee:=eq_true Ee
        go_wp2
        go_meet
        exact⟨_,(decide ((bt a0 0)≤90)),qy2,H',⟨by have:=Aw.out;first|omega|exact Nat.le_refl _⟩,⟨qb⟩⟩
       ·rw [if_neg Bs]at H
        have Ch:decide (65≤(bt a0 0))=false:=decide_eq_false Bs
        clear Bs
        have H':=y0.mk H
        clear H
        go_wp2
        go_meet
        exact⟨_,(false),qy2,H',⟨by have:=Aw.out;first|omega|exact Nat.le_refl _⟩,⟨qb⟩⟩
      case rest =>
       clear Bj
       (try clear Bq)
       obtain⟨kq,Am,rfl,HA,Ap,HB⟩:=hcut
       cases kq with
       | zero=>exact absurd HA.out (by simp [impl_termAt.j3])
       | succ Bk =>
        have H:=HA.out
        clear HA
        simp only [impl_termAt.j3]at H
        by_cases Ci:Am=true
        ·subst Ci
         replace H:=qT H
         obtain⟨Ac,Ef,H⟩:=qB H
         by_cases Bt:Ac > 20
         ·rw [if_pos Bt]at H
          have Bd:decide (20 < Ac)=true:=decide_eq_true Bt
          clear Bt
          simp only [Option.some.injEq,Prod.mk.injEq]at H
          obtain⟨rfl,rfl⟩:=H
          go_wp2_with (first|((with_reducible refine y18 (f:=76) rfl ?_);refine y21 (some 76) rfl rfl Tryz.func76 (by kernel_rfl) rfl #[.string a0] rfl qy1 ?_;(with_reducible refine(impl_nameLong.calls Bk a0 Ac _ Ef.out).mono ?_);rintro e w' ⟨rfl,⟨nd,rfl⟩⟩;refine⟨_,rfl, ?_⟩))
          go_ret2
          exact⟨qf,qb⟩
         ·rw [if_neg Bt]at H
          have Bd:decide (20 < Ac)=false:=decide_eq_false Bt
          clear Bt
          have Bl:=y0.mk H
          clear H
          go_upto_region 18 with(first|((with_reducible refine y18 (f:=76) rfl ?_);refine y21 (some 76) rfl rfl Tryz.func76 (by kernel_rfl) rfl #[.string a0] rfl qy1 ?_;(with_reducible refine(impl_nameLong.calls Bk a0 Ac _ Ef.out).mono ?_);rintro e w' ⟨rfl,⟨nd,rfl⟩⟩;refine⟨_,rfl, ?_⟩))
          (try simp only [Act.put,qS_,qZ_,qC_])
          go_cut [88] (fun Ft wc=>∃(kq:Nat) (Aq:Bool),Ft=.bool Aq∧y0 (impl_termAt.j4 kq a0 Ac Aq=some (r1,r2))∧y0 (kq≤Bk)∧y0 (Below w.heap.size w wc))
          case first =>
           have H:=Bl.out
           clear Bl
           by_cases Bm:Ac=(a0.size:Int)
           ·rw [if_pos Bm]at H
            have Au:(Ac == (a0.size:Int))=true:=beq_iff_eq.mpr Bm
            have Cj:(Ac != (a0.size:Int))=false:=bne_eq_false_iff_eq.mpr Bm
            clear Bm
            (first|rw [Au]|(simp only [i64_w,i32_w];rw [Au])|skip)
            have H':=y0.mk H
            clear H
            go_wp2
            go_meet
            exact⟨_,(true),qy2,H',⟨by have:=Aw.out;have:=Ap.out;first|omega|exact Nat.le_refl _⟩,⟨qb⟩⟩
           ·rw [if_neg Bm]at H
            have Au:(Ac == (a0.size:Int))=false:=beq_eq_false_iff_ne.mpr Bm
            have Cj:(Ac != (a0.size:Int))=true:=bne_iff_ne.mpr Bm
            (first|rw [Au]|(simp only [i64_w,i32_w];rw [Au])|skip)
            obtain⟨Eg,H⟩:=qo H
            have Eh:decide (0≤Ac)=true:=decide_eq_true Eg
            clear Eg
            obtain⟨Ei,H⟩:=qo H
            have Ej:decide (Ac < (a0.size:Int))=true:=decide_eq_true Ei
            clear Ei
            have H':=y0.mk H
            clear H
            have Ek:0≤(Ac:Int):=qd
            have El:Ac < (a0.size:Int):=qd
            have Fu:=bt_at a0 Ac
            replace Ek:=eq_true Ek
            replace El:=eq_true El
            go_wp2
            go_meet
            exact⟨_,(((bt a0 Ac) != 40)),qy2,H',⟨by have:=Aw.out;have:=Ap.out;first|omega|exact Nat.le_refl _⟩,⟨qb⟩⟩
          case rest =>
           clear Bl
           (try clear Ci Bd)
           obtain⟨kq,Aq,rfl,HA,Ax,HB⟩:=hcut
           cases kq with
           | zero=>exact absurd HA.out (by simp [impl_termAt.j4])
           | succ Ck =>
            have H:=HA.out
            clear HA
            simp only [impl_termAt.j4]at H
            by_cases Cl:Aq=true
            ·subst Cl
             replace H:=qT H
             simp only [Option.some.injEq,Prod.mk.injEq]at H
             obtain⟨rfl,rfl⟩:=H
             go_wp2
             go_ret2
             exact⟨qf,qb⟩
            ·replace Cl:=Bool.eq_false_iff.mpr Cl
             subst Cl
             replace H:=qF H
             have H':=y0.mk H
             clear H
             go_wp2
             go_loopg [8,9] Ck (fun kq v8 v9 w'=>∃(Ab:Int) (Bb:Bool),v8=.int .i64 Ab∧v9=.bool Bb∧y0 (impl_termAt.l1 kq a0 Ab Bb=some (r1,r2))∧y0 (kq≤Ck)∧y0 (Below w.heap.size w w'))
             case atStart=>exact⟨(Ac),(true),qy2,qy2,H',⟨Nat.le_refl _⟩,⟨qb⟩⟩
             case round =>
              clear H'
              (try clear Cl)
              obtain⟨Ab,Bb,rfl,rfl,HA,Bn,HB⟩:=hrel
              cases gk with
              | zero=>exact absurd HA.out (by simp [impl_termAt.l1])
              | succ k4 =>
               have H:=HA.out
               clear HA
               simp only [impl_termAt.l1]at H
               by_cases Cy:Bb=true
               ·subst Cy
                replace H:=qT H
                obtain⟨Ai,Ag⟩:∃ j_:Int,(wrap64 (Ab + 1))=j_:=⟨_,rfl⟩
                replace H:(if 0≤(Ai)then(if(Ai)≤(a0.size:Int)then((impl_termAt.f k4 (a0.extract ((Ai):Int).toNat a0.size)).bind fun Ak=>(if Ak.1=0 then(some (0,0))else(if(wrap64 (Ab + (wrap64 (1 + Ak.2)))) < (a0.size:Int)then(if 0≤(wrap64 (Ab + (wrap64 (1 + Ak.2))))then(impl_termAt.l1 k4 a0 (wrap64 (Ab + (wrap64 (1 + Ak.2)))) ((bt a0 (wrap64 (Ab + (wrap64 (1 + Ak.2))))) == 44))else(none))else(impl_termAt.l1 k4 a0 (wrap64 (Ab + (wrap64 (1 + Ak.2)))) false))))else(none))else(none))=some (r1,r2):=by first|(rw [Ag]at H;exact H)|(simp only [Ag]at H ⊢;exact H)
                have hji54w:(IntKind.i64.wrap (Ab + 1))=Ai:=(i64_w _).trans Ag
                obtain⟨Dm,H⟩:=qo H
                have Em:=eq_true Dm
                have En:=decide_eq_true Dm
                clear Dm
                obtain⟨Do,H⟩:=qo H
                have Eo:=eq_true Do
                have Ep:=decide_eq_true Do
                clear Do
                obtain⟨⟨Av,Ay⟩,Cz,H⟩:=qB H
                dsimp only at H
                by_cases Bo:Av=0
                ·rw [if_pos Bo]at H
                 have Cm:(Av == 0)=true:=beq_iff_eq.mpr Bo
                 have Cn:(Av != 0)=false:=bne_eq_false_iff_eq.mpr Bo
                 clear Bo
                 simp only [Option.some.injEq,Prod.mk.injEq]at H
                 obtain⟨rfl,rfl⟩:=H
                 go_wp2_with (first|((with_reducible refine y18 (f:=58) rfl ?_);refine y21 (some 106) rfl rfl Tryz.func58 (by kernel_rfl) rfl #[.string (a0.extract ((Ai):Int).toNat a0.size)] rfl (by(try simp only [qM_,List.map_cons,List.map_nil]);first|done|(simp only [Ag];rfl)|rfl|(simp only [qD_,qT_];rfl)) ?_;(with_reducible refine(ih k4 (by have:=Aw.out;have:=Ap.out;have:=Ax.out;have:=Bn.out;omega) (a0.extract ((Ai):Int).toNat a0.size) Av Ay _ (by exact Tb.below hT.out qb) Cz.out).mono ?_);rintro e Gd ⟨rfl,hb⟩;refine⟨_,rfl, ?_⟩;replace HB:=y0.mk (y5 qb hb);(try clear hb)))
                 go_ret2
                 exact⟨by first|rfl|(simp [y15,y16] <;> rfl)|(simp only [← Ag];first|rfl|(simp [y15,y16] <;> rfl))|(simp [*,y15,y16] <;> rfl),qb⟩
                ·rw [if_neg Bo]at H
                 have Cm:(Av == 0)=false:=beq_eq_false_iff_ne.mpr Bo
                 have Cn:(Av != 0)=true:=bne_iff_ne.mpr Bo
                 by_cases Bu:(wrap64 (Ab + (wrap64 (1 + Ay)))) < (a0.size:Int)
                 ·rw [if_pos Bu]at H
                  have Be:=decide_eq_true Bu
                  clear Bu
                  obtain⟨Aj,Ah⟩:∃ j_:Int,(wrap64 (Ab + (wrap64 (1 + Ay))))=j_:=⟨_,rfl⟩
                  replace H:(if 0≤(Aj)then(impl_termAt.l1 k4 a0 Aj ((bt a0 (Aj)) == 44))else(none))=some (r1,r2):=by first|(rw [Ah]at H;exact H)|(simp only [Ah]at H ⊢;exact H)
                  (try rw [Ah]at Be)
                  (try rw [Ah]at Cz)
                  have hji61w:(IntKind.i64.wrap (Ab + (wrap64 (1 + Ay))))=Aj:=(i64_w _).trans Ah
                  obtain⟨Er,H⟩:=qo H
                  have Es:decide (0≤(Aj))=true:=decide_eq_true Er
                  clear Er
                  have H':=y0.mk H
                  clear H
                  go_wp2_with (first|((with_reducible refine y18 (f:=58) rfl ?_);refine y21 (some 106) rfl rfl Tryz.func58 (by kernel_rfl) rfl #[.string (a0.extract ((Ai):Int).toNat a0.size)] rfl (by(try simp only [qM_,List.map_cons,List.map_nil]);first|done|(simp only [Ag];rfl)|rfl|(simp only [qD_,qT_];rfl)) ?_;(with_reducible refine(ih k4 (by have:=Aw.out;have:=Ap.out;have:=Ax.out;have:=Bn.out;omega) (a0.extract ((Ai):Int).toNat a0.size) Av Ay _ (by exact Tb.below hT.out qb) Cz.out).mono ?_);rintro e Ge ⟨rfl,hb⟩;refine⟨_,rfl, ?_⟩;replace HB:=y0.mk (y5 qb hb);(try clear hb);have Et:0≤((Aj):Int):=qd;have Eu:(Aj) < (a0.size:Int):=qd;have Fv:=bt_at a0 (Aj);replace Et:=eq_true Et;replace Eu:=eq_true Eu))
                  go_roundg k4
                  case measure=>have:=Aw.out;have:=Ap.out;have:=Ax.out;have:=Bn.out;omega
                  exact⟨(Aj),(((bt a0 (Aj)) == 44)),(by first|rfl|(simp;done)|(simp only [← Ah] <;> (first|rfl|simp))|(simp [*];done)),(by first|rfl|(simp;done)|(simp only [← Ah] <;> (first|rfl|simp))|(simp [*];done)),H',⟨by have:=Aw.out;have:=Ap.out;have:=Ax.out;have:=Bn.out;omega⟩,⟨qb⟩⟩
                 ·rw [if_neg Bu]at H
                  have Be:=decide_eq_false Bu
                  clear Bu
                  have H':=y0.mk H
                  clear H
                  go_wp2_with (first|((with_reducible refine y18 (f:=58) rfl ?_);refine y21 (some 106) rfl rfl Tryz.func58 (by kernel_rfl) rfl #[.string (a0.extract ((Ai):Int).toNat a0.size)] rfl (by(try simp only [qM_,List.map_cons,List.map_nil]);first|done|(simp only [Ag];rfl)|rfl|(simp only [qD_,qT_];rfl)) ?_;(with_reducible refine(ih k4 (by have:=Aw.out;have:=Ap.out;have:=Ax.out;have:=Bn.out;omega) (a0.extract ((Ai):Int).toNat a0.size) Av Ay _ (by exact Tb.below hT.out qb) Cz.out).mono ?_);rintro e Gf ⟨rfl,hb⟩;refine⟨_,rfl, ?_⟩;replace HB:=y0.mk (y5 qb hb);(try clear hb)))
                  go_roundg k4
                  case measure=>have:=Aw.out;have:=Ap.out;have:=Ax.out;have:=Bn.out;omega
                  exact⟨(wrap64 (Ab + (wrap64 (1 + Ay)))),(false),qy2,qy2,H',⟨by have:=Aw.out;have:=Ap.out;have:=Ax.out;have:=Bn.out;omega⟩,⟨qb⟩⟩
               ·replace Cy:=Bool.eq_false_iff.mpr Cy
                subst Cy
                replace H:=qF H
                by_cases Bv:Ab < (a0.size:Int)
                ·rw [if_pos Bv]at H
                 have Co:=decide_eq_true Bv
                 clear Bv
                 obtain⟨Ew,H⟩:=qo H
                 have Ex:decide (0≤Ab)=true:=decide_eq_true Ew
                 clear Ew
                 by_cases Bp:(bt a0 Ab)=41
                 ·rw [if_pos Bp]at H
                  have Cp:((bt a0 Ab) == 41)=true:=beq_iff_eq.mpr Bp
                  have Cq:((bt a0 Ab) != 41)=false:=bne_eq_false_iff_eq.mpr Bp
                  clear Bp
                  simp only [Option.some.injEq,Prod.mk.injEq]at H
                  obtain⟨rfl,rfl⟩:=H
                  have Cr:0≤(Ab:Int):=qd
                  have Cs:Ab < (a0.size:Int):=qd
                  have Dp:=bt_at a0 Ab
                  replace Cr:=eq_true Cr
                  replace Cs:=eq_true Cs
                  go_wp2
                  go_ret2
                  exact⟨qf,qb⟩
                 ·rw [if_neg Bp]at H
                  have Cp:((bt a0 Ab) == 41)=false:=beq_eq_false_iff_ne.mpr Bp
                  have Cq:((bt a0 Ab) != 41)=true:=bne_iff_ne.mpr Bp
                  simp only [Option.some.injEq,Prod.mk.injEq]at H
                  obtain⟨rfl,rfl⟩:=H
                  have Cr:0≤(Ab:Int):=qd
                  have Cs:Ab < (a0.size:Int):=qd
                  have Dp:=bt_at a0 Ab
                  replace Cr:=eq_true Cr
                  replace Cs:=eq_true Cs
                  go_wp2
                  go_ret2
                  exact⟨qf,qb⟩
                ·rw [if_neg Bv]at H
                 have Co:=decide_eq_false Bv
                 clear Bv
                 simp only [Option.some.injEq,Prod.mk.injEq]at H
                 obtain⟨rfl,rfl⟩:=H
                 go_wp2
                 go_ret2
                 exact⟨qf,qb⟩
        ·replace Ci:=Bool.eq_false_iff.mpr Ci
         subst Ci
         replace H:=qF H
         simp only [Option.some.injEq,Prod.mk.injEq]at H
         obtain⟨rfl,rfl⟩:=H
         go_wp2
         go_ret2
         exact⟨qf,qb⟩
def impl_kindOf.f (k:Nat) (a0:ByteArray):Option (Int):=(impl_termAt.f k a0).bind fun bt484=>(if(a0.size:Int) > 200 then(some 0)else(if bt484.2=(a0.size:Int)then(some bt484.1)else(some 0)))
theorem impl_kindOf.calls (k:Nat) (a0:ByteArray) (r:Int) (w:World) (hT:Tb w) (h:impl_kindOf.f k a0=some r) :
  Calls Tryz.prog 42 #[.string a0] w fun e w'=>e=.returned (.int .i64 r)∧Below w.heap.size w w':=by
 replace hT:=y0.mk hT
 have HB:=y0.mk (Below.refl w.heap.size w)
 have H:((impl_termAt.f k a0).bind fun Ac=>(if(a0.size:Int) > 200 then(some 0)else(if Ac.2=(a0.size:Int)then(some Ac.1)else(some 0))))=some r:=h
 clear h
 obtain⟨⟨Ab,Aa⟩,A2,H⟩:=qB H
 replace H:(if(a0.size:Int) > 200 then(some 0)else(if Aa=(a0.size:Int)then(some Ab)else(some 0)))=some r:=H
 by_cases c3:(a0.size:Int) > 200
 ·rw [if_pos c3]at H
  have Ad:decide (200 < (a0.size:Int))=true:=decide_eq_true c3
  have Af:decide (200 < a0.size)=true:=decide_eq_true (by omega)
  clear c3
  obtain rfl:=Option.some.inj H
  go_enter Tryz.func42,Tryz.ntmps42
  go_wp2_with (first|((with_reducible refine y18 (f:=58) rfl ?_);refine y21 (some 7) rfl rfl Tryz.func58 (by kernel_rfl) rfl #[.string a0] rfl qy1 ?_;(with_reducible refine(impl_termAt.calls k a0 Ab Aa _ (by exact Tb.below hT.out qb) A2.out).mono ?_);rintro e w4 ⟨rfl,hb⟩;refine⟨_,rfl, ?_⟩;replace HB:=y0.mk (y5 qb hb);(try clear hb)))
  go_ret
  exact⟨qf,qb⟩
 ·rw [if_neg c3]at H
  have Ad:decide (200 < (a0.size:Int))=false:=decide_eq_false c3
  have Af:decide (200 < a0.size)=false:=decide_eq_false (by omega)
  clear c3
  by_cases c5:Aa=(a0.size:Int)
  ·rw [if_pos c5]at H
   have Ag:(Aa == (a0.size:Int))=true:=beq_iff_eq.mpr c5
   have Ah:(Aa != (a0.size:Int))=false:=bne_eq_false_iff_eq.mpr c5
   clear c5
   obtain rfl:=Option.some.inj H
   go_enter Tryz.func42,Tryz.ntmps42
   go_wp2_with (first|((with_reducible refine y18 (f:=58) rfl ?_);refine y21 (some 7) rfl rfl Tryz.func58 (by kernel_rfl) rfl #[.string a0] rfl qy1 ?_;(with_reducible refine(impl_termAt.calls k a0 Ab Aa _ (by exact Tb.below hT.out qb) A2.out).mono ?_);rintro e w6 ⟨rfl,hb⟩;refine⟨_,rfl, ?_⟩;replace HB:=y0.mk (y5 qb hb);(try clear hb)))
   go_ret
   exact⟨qf,qb⟩
  ·rw [if_neg c5]at H
   have Ag:(Aa == (a0.size:Int))=false:=beq_eq_false_iff_ne.mpr c5
   have Ah:(Aa != (a0.size:Int))=true:=bne_iff_ne.mpr c5
   obtain rfl:=Option.some.inj H
   go_enter Tryz.func42,Tryz.ntmps42
   go_wp2_with (first|((with_reducible refine y18 (f:=58) rfl ?_);refine y21 (some 7) rfl rfl Tryz.func58 (by kernel_rfl) rfl #[.string a0] rfl qy1 ?_;(with_reducible refine(impl_termAt.calls k a0 Ab Aa _ (by exact Tb.below hT.out qb) A2.out).mono ?_);rintro e w7 ⟨rfl,hb⟩;refine⟨_,rfl, ?_⟩;replace HB:=y0.mk (y5 qb hb);(try clear hb)))
   go_ret
   exact⟨qf,qb⟩
def impl_conText.f (a0:ByteArray) (l1:List ByteArray):Option (ByteArray):=if(l1.length:Int)=0 then(some a0)else(if a0.size + 1≤9223372036854775807 then((strings_Join.f l1 (⟨#[44]⟩:ByteArray)).bind fun Ae=>(if(a0 ++ (⟨#[40]⟩:ByteArray)).size + Ae.size≤9223372036854775807 then(if((a0 ++ (⟨#[40]⟩:ByteArray)) ++ Ae).size + 1≤9223372036854775807 then(some (((a0 ++ (⟨#[40]⟩:ByteArray)) ++ Ae) ++ (⟨#[41]⟩:ByteArray)))else(none))else(none)))else(none))
theorem impl_conText.calls (a0:ByteArray) (A1:Option Addr) (c1:Nat) (l1:List ByteArray) (r:ByteArray) (w:World) (Ag:Kd.C Kd.string w A1 l1.length l1) (Ah:l1.length≤c1) (h:impl_conText.f a0 l1=some r) :
  Calls Tryz.prog 56 #[.string a0,.slice A1 l1.length c1] w fun e w'=>e=.returned (.string r)∧Below w.heap.size w w':=by
 have Ai:=y0.mk Ag
 have Aj:=y0.mk Ah
 clear Ag Ah
 have HB:=y0.mk (Below.refl w.heap.size w)
 have H:(if(l1.length:Int)=0 then(some a0)else(if a0.size + 1≤9223372036854775807 then((strings_Join.f l1 (⟨#[44]⟩:ByteArray)).bind fun Aa=>(if(a0 ++ (⟨#[40]⟩:ByteArray)).size + Aa.size≤9223372036854775807 then(if((a0 ++ (⟨#[40]⟩:ByteArray)) ++ Aa).size + 1≤9223372036854775807 then(some (((a0 ++ (⟨#[40]⟩:ByteArray)) ++ Aa) ++ (⟨#[41]⟩:ByteArray)))else(none))else(none)))else(none)))=some r:=h
 clear h
 by_cases c3:(l1.length:Int)=0
 ·rw [if_pos c3]at H
  have Ab:((l1.length:Int) == 0)=true:=beq_iff_eq.mpr c3
  have Ac:((l1.length:Int) != 0)=false:=bne_eq_false_iff_eq.mpr c3
  clear c3
  obtain rfl:=Option.some.inj H
  go_enter Tryz.func56,Tryz.ntmps56
  go_wp2
  go_ret
  exact⟨qf,qb⟩
 ·rw [if_neg c3]at H
  have Ab:((l1.length:Int) == 0)=false:=beq_eq_false_iff_ne.mpr c3
  have Ac:((l1.length:Int) != 0)=true:=bne_iff_ne.mpr c3
  have Ak:¬(l1=[]):=fun h_=>c3 (by rw [h_];rfl)
  obtain⟨c4,H⟩:=qo H
  have Al:=eq_true c4
  have Am:=decide_eq_true c4
  have Ap:=eq_false (Nat.not_lt.2 c4)
  obtain⟨Aa,A5,H⟩:=qB H
  obtain⟨c6,H⟩:=qo H
  have Aq:=eq_true c6
  have Ar:=decide_eq_true c6
  have Ad:=eq_false (Nat.not_lt.2 c6)
  have As:(9223372036854775807 < a0.size + 1 + Aa.size)=False:=qs Ad
  obtain⟨c7,H⟩:=qo H
  have At:=eq_true c7
  have Au:=decide_eq_true c7
  have Af:=eq_false (Nat.not_lt.2 c7)
  have Av:(9223372036854775807 < a0.size + 1 + Aa.size + 1)=False:=qs Af
  obtain rfl:=Option.some.inj H
  go_enter Tryz.func56,Tryz.ntmps56
  go_wp2_with (first|((with_reducible refine y18 (f:=54) rfl ?_);refine y21 (some 12) rfl rfl Tryz.func54 (by kernel_rfl) rfl #[.slice A1 l1.length c1,.string (⟨#[44]⟩:ByteArray)] rfl qy1 ?_;(with_reducible refine(strings_Join.calls _ _ l1 (⟨#[44]⟩:ByteArray) Aa _ (qc Ai.out) Aj.out A5.out).mono ?_);rintro e w8 ⟨rfl,hb⟩;refine⟨_,rfl, ?_⟩;replace HB:=y0.mk (y5 qb hb);(try clear hb)))
  go_ret
  exact⟨qf,qb⟩
def impl_isBigName.f (k:Nat) (a0:ByteArray):Option (Bool):=(impl_in.f (a0.size:Int) 1 20).bind fun Ae=>(if Ae=true then((impl_nameLong.f k a0).bind fun An=>(if An=(a0.size:Int)then(if 0 < (a0.size:Int)then(some (decide ((bt a0 0)≤90)))else(none))else(some false)))else(some false))
theorem impl_isBigName.calls (k:Nat) (a0:ByteArray) (r:Bool) (w:World) (h:impl_isBigName.f k a0=some r) :
  Calls Tryz.prog 57 #[.string a0] w fun e w'=>e=.returned (.bool r)∧y1 w w':=by
 have H:((impl_in.f (a0.size:Int) 1 20).bind fun Ab=>(if Ab=true then((impl_nameLong.f k a0).bind fun Aa=>(if Aa=(a0.size:Int)then(if 0 < (a0.size:Int)then(some (decide ((bt a0 0)≤90)))else(none))else(some false)))else(some false)))=some r:=h
 clear h
 obtain⟨Ab,A2,H⟩:=qB H
 by_cases c3:Ab=true
 ·subst c3
  replace H:=qT H
  obtain⟨Aa,A4,H⟩:=qB H
  by_cases c5:Aa=(a0.size:Int)
  ·rw [if_pos c5]at H
   have Ac:(Aa == (a0.size:Int))=true:=beq_iff_eq.mpr c5
   have Ad:(Aa != (a0.size:Int))=false:=bne_eq_false_iff_eq.mpr c5
   clear c5
   obtain⟨c6,H⟩:=qo H
   have Af:=decide_eq_true c6
   have Ag:decide (0 < a0.size)=true:=decide_eq_true (by omega)
   clear c6
   obtain rfl:=Option.some.inj H
   go_enter Tryz.func57,Tryz.ntmps57
   go_wp2_with (first|((with_reducible refine y18 (f:=22) rfl ?_);refine y21 (some 5) rfl rfl Tryz.func22 (by kernel_rfl) rfl #[.int .i64 (a0.size:Int),.int .i64 1,.int .i64 20] rfl qy1 ?_;(with_reducible refine(impl_in.calls (a0.size:Int) 1 20 true _ A2.out).mono ?_);rintro e w' ⟨rfl,⟨nd,rfl⟩⟩;refine⟨_,rfl, ?_⟩)|(go_at_call 76;(with_reducible refine(impl_nameLong.calls k a0 Aa _ A4.out).mono ?_);rintro e w' ⟨rfl,⟨nd,rfl⟩⟩;have p7:0≤(0:Int):=(by omega);have q7:0 < a0.size:=qy3;have Ah:∀ h:0 < a0.size,((a0[0]'h).toNat:Int)=bt a0 0:=bt_at a0 0;clear p7;have Ai:(0 < (a0.size:Int))=True:=eq_true (of_decide_eq_true qy0);replace q7:=eq_true q7))
   go_ret
   exact qf2
  ·rw [if_neg c5]at H
   have Ac:(Aa == (a0.size:Int))=false:=beq_eq_false_iff_ne.mpr c5
   have Ad:(Aa != (a0.size:Int))=true:=bne_iff_ne.mpr c5
   obtain rfl:=Option.some.inj H
   go_enter Tryz.func57,Tryz.ntmps57
   go_wp2_with (first|((with_reducible refine y18 (f:=22) rfl ?_);refine y21 (some 5) rfl rfl Tryz.func22 (by kernel_rfl) rfl #[.int .i64 (a0.size:Int),.int .i64 1,.int .i64 20] rfl qy1 ?_;(with_reducible refine(impl_in.calls (a0.size:Int) 1 20 true _ A2.out).mono ?_);rintro e w' ⟨rfl,⟨nd,rfl⟩⟩;refine⟨_,rfl, ?_⟩)|(go_at_call 76;(with_reducible refine(impl_nameLong.calls k a0 Aa _ A4.out).mono ?_);rintro e w' ⟨rfl,⟨nd,rfl⟩⟩))
   go_ret
   exact qf2
 ·replace c3:=Bool.eq_false_iff.mpr c3
  subst c3
  replace H:=qF H
  obtain rfl:=Option.some.inj H
  go_enter Tryz.func57,Tryz.ntmps57
  go_wp2_with (first|((with_reducible refine y18 (f:=22) rfl ?_);refine y21 (some 5) rfl rfl Tryz.func22 (by kernel_rfl) rfl #[.int .i64 (a0.size:Int),.int .i64 1,.int .i64 20] rfl qy1 ?_;(with_reducible refine(impl_in.calls (a0.size:Int) 1 20 false _ A2.out).mono ?_);rintro e w' ⟨rfl,⟨nd,rfl⟩⟩;refine⟨_,rfl, ?_⟩))
  go_ret
  exact qf2
def impl_TermMake.l0:Nat→ByteArray→List ByteArray→List ByteArray→Int→Int→Option (ByteArray×Bool)
 | 0,_,_,_,_,_=>none
 | k + 1,x0,x1,x9,An,Ae=>if Ae < An then(if 0≤Ae then(if Ae < (x9.length:Int)then((impl_kindOf.f k (rdOf ByteArray.empty x9 Ae)).bind fun By=>(if By=0 then(some ((⟨#[]⟩:ByteArray),false))else(impl_TermMake.l0 k x0 x1 x9 An (wrap64 (Ae + 1)))))else(none))else(none))else((impl_conText.f x0 x1).bind fun Ao=>((impl_isBigName.f k x0).bind fun Dd=>(if Dd=true then(if(Ao.size:Int) > 200 then(some ((⟨#[]⟩:ByteArray),false))else(some (Ao,true)))else(some ((⟨#[]⟩:ByteArray),false)))))
def impl_TermMake.f (k:Nat) (a0:ByteArray) (l1:List ByteArray):Option (ByteArray×Bool):=impl_TermMake.l0 k a0 l1 l1 (l1.length:Int) 0
theorem impl_TermMake.calls (k:Nat) (a0:ByteArray) (A1:Option Addr) (c1:Nat) (l1:List ByteArray) (r1:ByteArray) (r2:Bool) (w:World) (Ax:Kd.C Kd.string w A1 l1.length l1) (Ay:l1.length≤c1) (hT:Tb w) (h:impl_TermMake.f k a0 l1=some (r1,r2)) :
  Calls Tryz.prog 41 #[.string a0,.slice A1 l1.length c1] w fun e w'=>e=.returned (.tuple #[.string r1,.bool r2])∧Below w.heap.size w w':=by
 replace hT:=y0.mk hT
 have Aj:=y0.mk Ax
 have Aq:=y0.mk Ay
 clear Ax Ay
 have HB:=y0.mk (Below.refl w.heap.size w)
 have H:(impl_TermMake.l0 k a0 l1 l1 (l1.length:Int) 0)=some (r1,r2):=h
 clear h
 have H':=y0.mk H
 clear H
 go_enter Tryz.func41,Tryz.ntmps41
 go_wp2
 go_loopg [11] k (fun kq Ba w'=>∃(Aa:Int),Ba=.int .i64 Aa∧y0 (impl_TermMake.l0 kq a0 l1 l1 (l1.length:Int) Aa=some (r1,r2))∧y0 (kq≤k)∧y0 (Below w.heap.size w w'))
 case atStart=>exact⟨(0),qy2,H',⟨Nat.le_refl _⟩,⟨qb⟩⟩
 case round =>
  clear H'
  obtain⟨Aa,rfl,HA,Az,HB⟩:=hrel
  cases gk with
  | zero=>exact absurd HA.out (by simp [impl_TermMake.l0])
  | succ k1 =>
   have H:=HA.out
   clear HA
   simp only [impl_TermMake.l0]at H
   by_cases c3:Aa < (l1.length:Int)
   ·rw [if_pos c3]at H
    have Ar:=decide_eq_true c3
    clear c3
    obtain⟨c4,H⟩:=qo H
    have Bb:=decide_eq_true c4
    clear c4
    obtain⟨c5,H⟩:=qo H
    have Bc:decide (Aa < (l1.length:Int))=true:=decide_eq_true c5
    clear c5
    obtain⟨Ad,A6,H⟩:=qB H
    by_cases c7:Ad=0
    ·rw [if_pos c7]at H
     have As:(Ad == 0)=true:=beq_iff_eq.mpr c7
     have At:(Ad != 0)=false:=bne_eq_false_iff_eq.mpr c7
     clear c7
     simp only [Option.some.injEq,Prod.mk.injEq]at H
     obtain⟨rfl,rfl⟩:=H
     have Af:0≤(Aa:Int):=qd
     have Ag:Aa < (l1.length:Int):=qd
     obtain⟨Ak,Ah,Ab⟩:=Kd.at_string Aj.out Aa Af Ag
     cases Ah
     replace Ab:=qC Ab HB
     replace Af:=eq_true Af
     replace Ag:=eq_true Ag
     go_wp2_with (first|((with_reducible refine y18 (f:=42) rfl ?_);refine y21 (some 16) rfl rfl Tryz.func42 (by kernel_rfl) rfl #[.string (rdOf ByteArray.empty l1 Aa)] rfl qy1 ?_;(with_reducible refine(impl_kindOf.calls k1 (rdOf ByteArray.empty l1 Aa) Ad _ (by exact Tb.below hT.out qb) A6.out).mono ?_);rintro e w8 ⟨rfl,hb⟩;refine⟨_,rfl, ?_⟩;replace HB:=y0.mk (y5 qb hb);(try clear hb)))
     go_ret2
     exact⟨qf,qb⟩
    ·rw [if_neg c7]at H
     have As:(Ad == 0)=false:=beq_eq_false_iff_ne.mpr c7
     have At:(Ad != 0)=true:=bne_iff_ne.mpr c7
     have H':=y0.mk H
     clear H
     have Af:0≤(Aa:Int):=qd
     have Ag:Aa < (l1.length:Int):=qd
     obtain⟨Ak,Ah,Ab⟩:=Kd.at_string Aj.out Aa Af Ag
     cases Ah
     replace Ab:=qC Ab HB
     replace Af:=eq_true Af
     replace Ag:=eq_true Ag
     go_wp2_with (first|((with_reducible refine y18 (f:=42) rfl ?_);refine y21 (some 16) rfl rfl Tryz.func42 (by kernel_rfl) rfl #[.string (rdOf ByteArray.empty l1 Aa)] rfl qy1 ?_;(with_reducible refine(impl_kindOf.calls k1 (rdOf ByteArray.empty l1 Aa) Ad _ (by exact Tb.below hT.out qb) A6.out).mono ?_);rintro e w9 ⟨rfl,hb⟩;refine⟨_,rfl, ?_⟩;replace HB:=y0.mk (y5 qb hb);(try clear hb)))
     go_roundg k1
     case measure=>have:=Az.out;omega
     exact⟨(wrap64 (Aa + 1)),qy2,H',⟨by have:=Az.out;omega⟩,⟨qb⟩⟩
   ·rw [if_neg c3]at H
    have Ar:=decide_eq_false c3
    clear c3
    obtain⟨Ac,Au,H⟩:=qB H
    obtain⟨Av,Aw,H⟩:=qB H
    by_cases Ap:Av=true
    ·subst Ap
     replace H:=qT H
     by_cases Ai:(Ac.size:Int) > 200
     ·rw [if_pos Ai]at H
      have Al:decide (200 < (Ac.size:Int))=true:=decide_eq_true Ai
      have Am:decide (200 < Ac.size)=true:=decide_eq_true (by omega)
      clear Ai
      simp only [Option.some.injEq,Prod.mk.injEq]at H
      obtain⟨rfl,rfl⟩:=H
      go_wp2_with (first|((with_reducible refine y18 (f:=56) rfl ?_);refine y21 (some 21) rfl rfl Tryz.func56 (by kernel_rfl) rfl #[.string a0,.slice A1 l1.length c1] rfl qy1 ?_;(with_reducible refine(impl_conText.calls a0 _ _ l1 Ac _ (qc (Kd.C_below Aj.out HB.out)) Aq.out Au.out).mono ?_);rintro e Bd ⟨rfl,hb⟩;refine⟨_,rfl, ?_⟩;replace HB:=y0.mk (y5 qb hb);(try clear hb))|((with_reducible refine y18 (f:=57) rfl ?_);refine y21 (some 23) rfl rfl Tryz.func57 (by kernel_rfl) rfl #[.string a0] rfl qy1 ?_;(with_reducible refine(impl_isBigName.calls k1 a0 true _ Aw.out).mono ?_);rintro e w' ⟨rfl,⟨nd,rfl⟩⟩;refine⟨_,rfl, ?_⟩))
      go_ret2
      exact⟨qf,qb⟩
     ·rw [if_neg Ai]at H
      have Al:decide (200 < (Ac.size:Int))=false:=decide_eq_false Ai
      have Am:decide (200 < Ac.size)=false:=decide_eq_false (by omega)
      clear Ai
      simp only [Option.some.injEq,Prod.mk.injEq]at H
      obtain⟨rfl,rfl⟩:=H
      go_wp2_with (first|((with_reducible refine y18 (f:=56) rfl ?_);refine y21 (some 21) rfl rfl Tryz.func56 (by kernel_rfl) rfl #[.string a0,.slice A1 l1.length c1] rfl qy1 ?_;(with_reducible refine(impl_conText.calls a0 _ _ l1 Ac _ (qc (Kd.C_below Aj.out HB.out)) Aq.out Au.out).mono ?_);rintro e Be ⟨rfl,hb⟩;refine⟨_,rfl, ?_⟩;replace HB:=y0.mk (y5 qb hb);(try clear hb))|((with_reducible refine y18 (f:=57) rfl ?_);refine y21 (some 23) rfl rfl Tryz.func57 (by kernel_rfl) rfl #[.string a0] rfl qy1 ?_;(with_reducible refine(impl_isBigName.calls k1 a0 true _ Aw.out).mono ?_);rintro e w' ⟨rfl,⟨nd,rfl⟩⟩;refine⟨_,rfl, ?_⟩))
      go_ret2
      exact⟨qf,qb⟩
    ·replace Ap:=Bool.eq_false_iff.mpr Ap
     subst Ap
     replace H:=qF H
     simp only [Option.some.injEq,Prod.mk.injEq]at H
     obtain⟨rfl,rfl⟩:=H
     go_wp2_with (first|((with_reducible refine y18 (f:=56) rfl ?_);refine y21 (some 21) rfl rfl Tryz.func56 (by kernel_rfl) rfl #[.string a0,.slice A1 l1.length c1] rfl qy1 ?_;(with_reducible refine(impl_conText.calls a0 _ _ l1 Ac _ (qc (Kd.C_below Aj.out HB.out)) Aq.out Au.out).mono ?_);rintro e Bf ⟨rfl,hb⟩;refine⟨_,rfl, ?_⟩;replace HB:=y0.mk (y5 qb hb);(try clear hb))|((with_reducible refine y18 (f:=57) rfl ?_);refine y21 (some 23) rfl rfl Tryz.func57 (by kernel_rfl) rfl #[.string a0] rfl qy1 ?_;(with_reducible refine(impl_isBigName.calls k1 a0 false _ Aw.out).mono ?_);rintro e w' ⟨rfl,⟨nd,rfl⟩⟩;refine⟨_,rfl, ?_⟩))
     go_ret2
     exact⟨qf,qb⟩
def impl_numOf.f (a0:ByteArray):Option (Int):=(strconv_Atoi.f a0).bind fun bt493=>(some bt493.1)
theorem impl_numOf.calls (a0:ByteArray) (r:Int) (w:World) (hT:Tb w) (h:impl_numOf.f a0=some r) :
  Calls Tryz.prog 45 #[.string a0] w fun e w'=>e=.returned (.int .i64 r)∧Below w.heap.size w w':=by
 replace hT:=y0.mk hT
 have HB:=y0.mk (Below.refl w.heap.size w)
 have H:((strconv_Atoi.f a0).bind fun bt493=>(some bt493.1))=some r:=h
 clear h
 obtain⟨⟨t493,t494⟩,A2,H⟩:=qB H
 replace H:(some t493)=some r:=H
 obtain rfl:=Option.some.inj H
 go_enter Tryz.func45,Tryz.ntmps45
 go_wp2_with (first|((with_reducible refine y18 (f:=60) rfl ?_);refine y21 (some 7) rfl rfl Tryz.func60 (by kernel_rfl) rfl #[.string a0] rfl qy1 ?_;(with_reducible refine(strconv_Atoi.calls a0 t493 t494 _ (by exact Tb.below hT.out qb) A2.out).mono ?_);rintro e w3 ⟨ev_,rfl,hev_,hb⟩;refine⟨_,rfl, ?_⟩;replace HB:=y0.mk (y5 qb hb);(try clear hb);(try simp only [y15,y16])))
 go_ret
 exact⟨qf,qb⟩
def impl_reckon.f (a0:Int) (a1:Int) (a2:Int):Option (Int):=if a0=5 then(some (wrap64 (a1 + a2)))else(if a0=6 then(some (wrap64 (a1 - a2)))else(some (wrap64 (a1 * a2))))
theorem impl_reckon.calls (a0:Int) (a1:Int) (a2:Int) (r:Int) (w:World) (h:impl_reckon.f a0 a1 a2=some r) :
  Calls Tryz.prog 44 #[.int .i64 a0,.int .i64 a1,.int .i64 a2] w fun e w'=>e=.returned (.int .i64 r)∧y1 w w':=by
 have H:(if a0=5 then(some (wrap64 (a1 + a2)))else(if a0=6 then(some (wrap64 (a1 - a2)))else(some (wrap64 (a1 * a2)))))=some r:=h
 clear h
 by_cases c4:a0=5
 ·rw [if_pos c4]at H
  have c4b0:(a0 == 5)=true:=beq_iff_eq.mpr c4
  have c4b1:(a0 != 5)=false:=bne_eq_false_iff_eq.mpr c4
  clear c4
  obtain rfl:=Option.some.inj H
  go_enter Tryz.func44,Tryz.ntmps44
  go_wp2
  go_ret
  exact qf2
 ·rw [if_neg c4]at H
  have c4b0:(a0 == 5)=false:=beq_eq_false_iff_ne.mpr c4
  have c4b1:(a0 != 5)=true:=bne_iff_ne.mpr c4
  by_cases c5:a0=6
  ·rw [if_pos c5]at H
   have c5b0:(a0 == 6)=true:=beq_iff_eq.mpr c5
   have c5b1:(a0 != 6)=false:=bne_eq_false_iff_eq.mpr c5
   clear c5
   obtain rfl:=Option.some.inj H
   go_enter Tryz.func44,Tryz.ntmps44
   go_wp2
   go_ret
   exact qf2
  ·rw [if_neg c5]at H
   have c5b0:(a0 == 6)=false:=beq_eq_false_iff_ne.mpr c5
   have c5b1:(a0 != 6)=true:=bne_iff_ne.mpr c5
   obtain rfl:=Option.some.inj H
   go_enter Tryz.func44,Tryz.ntmps44
   go_wp2
   go_ret
   exact qf2
def impl_NumTerm.f (a0:Int):Option (ByteArray):=(impl_in.f a0 (-1000000) 1000000).bind fun Ae=>(if Ae=true then((strconv_Itoa.f a0).bind fun An=>(some An))else(some (⟨#[]⟩:ByteArray)))
theorem impl_NumTerm.calls (a0:Int) (r:ByteArray) (w:World) (hT:Tb w) (h:impl_NumTerm.f a0=some r) :
  Calls Tryz.prog 43 #[.int .i64 a0] w fun e w'=>e=.returned (.string r)∧Below w.heap.size w w':=by
 replace hT:=y0.mk hT
 have HB:=y0.mk (Below.refl w.heap.size w)
 have H:((impl_in.f a0 (-1000000) 1000000).bind fun Aa=>(if Aa=true then((strconv_Itoa.f a0).bind fun Ab=>(some Ab))else(some (⟨#[]⟩:ByteArray))))=some r:=h
 clear h
 obtain⟨Aa,A2,H⟩:=qB H
 by_cases c3:Aa=true
 ·subst c3
  replace H:=qT H
  obtain⟨Ab,A4,H⟩:=qB H
  obtain rfl:=Option.some.inj H
  go_enter Tryz.func43,Tryz.ntmps43
  go_wp2_with (first|((with_reducible refine y18 (f:=22) rfl ?_);refine y21 (some 4) rfl rfl Tryz.func22 (by kernel_rfl) rfl #[.int .i64 a0,.int .i64 (-1000000),.int .i64 1000000] rfl qy1 ?_;(with_reducible refine(impl_in.calls a0 (-1000000) 1000000 true _ A2.out).mono ?_);rintro e w' ⟨rfl,⟨nd,rfl⟩⟩;refine⟨_,rfl, ?_⟩)|((with_reducible refine y18 (f:=59) rfl ?_);refine y21 (some 7) rfl rfl Tryz.func59 (by kernel_rfl) rfl #[.int .i64 a0] rfl qy1 ?_;(with_reducible refine(strconv_Itoa.calls a0 Ab _ (by exact Tb.below hT.out qb) A4.out).mono ?_);rintro e w5 ⟨rfl,hb⟩;refine⟨_,rfl, ?_⟩;replace HB:=y0.mk (y5 qb hb);(try clear hb)))
  go_ret
  exact⟨qf,qb⟩
 ·replace c3:=Bool.eq_false_iff.mpr c3
  subst c3
  replace H:=qF H
  obtain rfl:=Option.some.inj H
  go_enter Tryz.func43,Tryz.ntmps43
  go_wp2_with (first|((with_reducible refine y18 (f:=22) rfl ?_);refine y21 (some 4) rfl rfl Tryz.func22 (by kernel_rfl) rfl #[.int .i64 a0,.int .i64 (-1000000),.int .i64 1000000] rfl qy1 ?_;(with_reducible refine(impl_in.calls a0 (-1000000) 1000000 false _ A2.out).mono ?_);rintro e w' ⟨rfl,⟨nd,rfl⟩⟩;refine⟨_,rfl, ?_⟩))
  go_ret
  exact⟨qf,qb⟩
def vlKids (F:Int→Option ByteArray) (ks:List Int):List ByteArray:=ks.map fun c=>(F c).getD ⟨#[]⟩
def vlStep (k:Nat) (l2 l3:List ByteArray) (F:Int→Option ByteArray) (e:S67):Option (ByteArray ⊕ Int) :=
 if e.f0=2 then some (.inr 1)else
 if e.f0=1 then((slices_Index_string_string.f k l2 e.f1).bind fun t=>(impl_in.f t 0 (wrap64 ((l3.length:Int) - 1))).bind fun b=>if b=true then(if 0≤t∧t < (l3.length:Int)then some (.inl (rdOf ByteArray.empty l3 t))else none)else some (.inr 1))else
 if e.f0=3 then some (.inl e.f1)else
 if e.f0=4 then((impl_TermMake.f k e.f1 (vlKids F e.f2)).bind fun p=>if p.2=true then some (.inl p.1)else some (.inr 2))else
 if 2≤e.f2.length then((impl_kindOf.f k (rdOf ByteArray.empty (vlKids F e.f2) 0)).bind fun a=>if a=1 then((impl_kindOf.f k (rdOf ByteArray.empty (vlKids F e.f2) 1)).bind fun b=>if b=1 then((impl_numOf.f (rdOf ByteArray.empty (vlKids F e.f2) 0)).bind fun x=>(impl_numOf.f (rdOf ByteArray.empty (vlKids F e.f2) 1)).bind fun y=>(impl_reckon.f e.f0 x y).bind fun z=>(impl_NumTerm.f z).bind fun s=>if s.toList=([]:List UInt8)then some (.inr 2)else some (.inl s))else some (.inr 1))else some (.inr 1))else none
def vlOk (es:List (S67)) (x:Int):Bool:=decide (0≤x) && (decide (x < (es.length:Int)) && (decide (x < 4294967296) && (decide ((y23 es x).f2.length≤1048576) && (y23 es x).f2.all (fun c=>decide (0≤c) && decide (c < 4294967296)))))
def vlRun (k:Nat) (es:List (S67)) (l2 l3:List ByteArray):List Int→(Int→Option ByteArray)→Option ((Int→Option ByteArray) ⊕ Int)
 | [],F=>some (.inl F)
 | x :: r,F=>if vlOk es x=true then((vlStep k l2 l3 F (y23 es x)).bind fun v=>match v with|.inl s=>(if s.size≤1099511627776 then vlRun k es l2 l3 r (fun c=>if c=x then some s else F c)else none)|.inr c=>some (.inr c))else none
def vlFin (k:Nat) (n:Int):((Int→Option ByteArray) ⊕ Int)→Option (ByteArray×Int)
 | .inr c=>some (⟨#[]⟩,c)
 | .inl F=>(impl_kindOf.f k ((F n).getD ⟨#[]⟩)).bind fun q=>if q=0 then some (⟨#[]⟩,2)else some ((F n).getD ⟨#[]⟩,0)
def impl_Rule_value.f (k:Nat) (Ae:List (S67)) (An:Int) (Ao:ByteArray) (By:List Int) (Dd:List (S35)) (a1:Int) (l2 l3:List ByteArray):Option (ByteArray×Int) :=
 (impl_Rule_within.f k Ae An Ao By Dd a1).bind fun xs=>if xs.length≤1048576∧(0≤a1∧a1 < 4294967296)then(vlRun k Ae l2 l3 xs (fun _=>none)).bind (vlFin k a1)else none
theorem vlKids_at (F:Int→Option ByteArray) (ks:List Int) (i:Nat) (h:i < ks.length):vlKids F (ks.take (i + 1))=vlKids F (ks.take i) ++ [(F ks[i]).getD ⟨#[]⟩]:=by
 unfold vlKids
 rw [List.take_succ_eq_append_getElem h,List.map_append,List.map_cons,List.map_nil]
theorem vlOk_spec {es:List (S67)} {x:Int} (h:vlOk es x=true):0≤x∧x < (es.length:Int)∧x < 4294967296∧(y23 es x).f2.length≤1048576∧∀ c∈(y23 es x).f2,0≤c∧c < 4294967296:=by
 unfold vlOk at h
 simp only [Bool.and_eq_true,decide_eq_true_eq,List.all_eq_true]at h
 exact⟨h.1,h.2.1,h.2.2.1,h.2.2.2.1,fun c hc=>h.2.2.2.2 c hc⟩
set_option maxHeartbeats 32000000 in
set_option maxRecDepth 100000 in
theorem impl_Rule_value.calls (k:Nat) (Bi:Option Addr) (Az:Nat) (At:List (S67)) (Aw:Int) (Ax:ByteArray) (Ba:Option Addr) (Bb:Nat) (Au:List Int) (Bc:Option Addr) (Bd:Nat) (Av:List (S35)) (a1:Int) (A2:Option Addr) (c2:Nat) (l2:List ByteArray) (A3:Option Addr) (c3:Nat) (l3:List ByteArray) (r1:ByteArray) (r2:Int) (w:World) (Bm:Kd.C k67 w Bi At.length At) (Bn:At.length≤Az) (Bo:Kd.C (Kd.int .i64) w Ba Au.length Au) (Bp:Au.length≤Bb) (Bq:Kd.C k35 w Bc Av.length Av) (Br:Av.length≤Bd) (Cq:Kd.C Kd.string w A2 l2.length l2) (Cr:l2.length≤c2) (Cs:Kd.C Kd.string w A3 l3.length l3) (Ct:l3.length≤c3) (hT:Tb w)
  (h:impl_Rule_value.f k At Aw Ax Au Av a1 l2 l3=some (r1,r2)) :
  Calls Tryz.prog 23 #[.agg #[.slice Bi At.length Az,.int .i64 Aw,.string Ax,.slice Ba Au.length Bb,.slice Bc Av.length Bd],.int .i64 a1,.slice A2 l2.length c2,.slice A3 l3.length c3] w fun e w'=>e=.returned (.tuple #[.string r1,.int .i64 r2])∧Below w.heap.size w w':=by
 replace Bm:=y0.mk Bm
 replace Bn:=y0.mk Bn
 replace Bo:=y0.mk Bo
 replace Bp:=y0.mk Bp
 replace Bq:=y0.mk Bq
 replace Br:=y0.mk Br
 replace Cq:=y0.mk Cq
 replace Cr:=y0.mk Cr
 replace Cs:=y0.mk Cs
 replace Ct:=y0.mk Ct
 replace hT:=y0.mk hT
 unfold impl_Rule_value.f at h
 obtain⟨xs,E1,h⟩:=Option.bind_eq_some_iff.1 h
 by_cases hg:xs.length≤1048576∧(0≤a1∧a1 < 4294967296)
 case neg=>rw [if_neg hg]at h;cases h
 rw [if_pos hg]at h
 have H:=y0.mk h
 have HG:=y0.mk hg
 replace E1:=y0.mk E1
 clear h hg
 have HB:=y0.mk (Below.refl w.heap.size w)
 have Dl:=Tryz.underlying38
 have Dm:=Tryz.underlying67
 go_enter Tryz.func23,Tryz.ntmps23
 go_wp2_with (first
  | ((with_reducible refine y19 (N:=4) rfl ?_);refine qe 4 #[.slice Bi At.length Az,.int .i64 Aw,.string Ax,.slice Ba Au.length Bb,.slice Bc Av.length Bd] 38 ?_;intro gr hg w1 hbox hb;have BKr:=y0.mk (hbox);have GEr:=y0.mk ((by rw [hg];exact HB.out.size:w.heap.size≤gr));replace HB:=y0.mk (y5 HB.out hb);clear hb hg hbox;obtain⟨Aa,Ab,Ac,Ad,Af,Ag,Ah,Ai,Aj,Ak⟩:=QMapI.bx5 BKr.out)
  | ((with_reducible refine y19 (N:=21) rfl ?_);refine QMapI.make_event rfl rfl ?_;intro gm hg w2 hM_ hb;(repeat first|clear Aa|clear Ag|clear Ab|clear Ah|clear Ac|clear Ai|clear Ad|clear Aj|clear Af|clear Ak);have HM:=y0.mk (hM_);have GEm:=y0.mk ((by rw [hg];exact HB.out.size:w.heap.size≤gm));have Nr_m:=y0.mk ((by rw [hg];exact Nat.ne_of_lt (blk_lt BKr.out):gr≠gm));replace BKr:=y0.mk (y7 BKr.out hb);replace HB:=y0.mk (y5 HB.out hb);clear hb hg hM_;obtain⟨Aa,Ab,Ac,Ad,Af,Ag,Ah,Ai,Aj,Ak⟩:=QMapI.bx5 BKr.out)
  | (go_at_call 39;(with_reducible refine(impl_Rule_within.calls k _ _ At Aw Ax _ _ Au _ _ Av a1 xs _ (Kd.C_below Bm.out HB.out) Bn.out (Kd.C_below Bo.out HB.out) Bp.out (Kd.C_below Bq.out HB.out) Br.out E1.out).mono ?_);rintro e_ w3 ⟨v_,rfl,ho,hb⟩;obtain⟨AK,cK,eK_⟩:=Kd.R_slice ho;subst eK_;(repeat first|clear Aa|clear Ag|clear Ab|clear Ah|clear Ac|clear Ai|clear Ad|clear Aj|clear Af|clear Ak);have HOK:=y0.mk (Kd.R_lower ho (y4 HB.out));replace BKr:=y0.mk (y7 BKr.out hb);replace HM:=y0.mk (QMapI.IM.below HM.out hb);replace HB:=y0.mk (y5 HB.out hb);(try clear hb);(try clear hd_);(try clear ho);obtain⟨Aa,Ab,Ac,Ad,Af,Ag,Ah,Ai,Aj,Ak⟩:=QMapI.bx5 BKr.out))
 (repeat first|clear Aa|clear Ag|clear Ab|clear Ah|clear Ac|clear Ai|clear Ad|clear Aj|clear Af|clear Ak)
 go_loopg [26] xs.length (fun kq De w'=>∃(xi:Int) (i:Nat) (F:Int→Option ByteArray),De=.int .i64 xi∧y0 (xi=(i:Int))∧y0 (kq + i=xs.length)∧y0 ((vlRun k At l2 l3 (xs.drop i) F).bind (vlFin k a1)=some (r1,r2))∧y0 (Kd.R (Kd.int .i64) 3 w' w.heap.size (fun _=>True) (.slice AK (xs).length cK) (xs))∧y0 (w'.heap[gr]?=some (.cells #[.slice Bi At.length Az,.int .i64 Aw,.string Ax,.slice Ba Au.length Bb,.slice Bc Av.length Bd] 38 (0,0)))∧y0 (QMapI.IM w' gm (i) (F))∧y0 (Below w.heap.size w w'))
 case atStart=>exact⟨0,0,fun _=>none,rfl,⟨rfl⟩,⟨Nat.add_zero _⟩,⟨by rw [List.drop_zero];exact H.out⟩,⟨qR HOK.out⟩,⟨BKr.out⟩,⟨HM.out⟩,⟨HB.out⟩⟩
 case round =>
  clear H HOK BKr HM HB
  obtain⟨xi,i,F,rfl,HXI,HK,H,HOK,BKr,HM,HB⟩:=hrel
  by_cases c:xi < (xs.length:Int)
  ·skip
   have Cd:decide (xi < (xs.length:Int))=true:=decide_eq_true c
   have hi:i < xs.length:=by have:=HXI.out;omega
   have p1:0≤xi:=by have:=HXI.out;omega
   obtain⟨adk,e1,Cl⟩:=Kd.at_int (Kd.R_reads' HOK.out).2.2 xi p1 c
   have rg:rd xs xi=xs[i]:=by rw [HXI.out];unfold rd;rw [show((i:Int)).toNat=i from rfl,List.getD_eq_getElem?_getD,List.getElem?_eq_getElem hi];rfl
   rw [rg]at Cl
   clear rg
   replace H:=y0.mk (List.drop_eq_getElem_cons hi ▸ H.out)
   generalize xs[i]=x at Cl H
   replace hi:=y0.mk hi
   cases e1
   have h_:=H.out
   rw [vlRun]at h_
   by_cases hG:vlOk At x=true
   case neg=>rw [if_neg hG]at h_;cases h_
   rw [if_pos hG]at h_
   replace H:=y0.mk h_
   clear h_
   obtain⟨py,qy,ry,sy,ty⟩:=vlOk_spec hG
   clear hG
   have HPY:=y0.mk (And.intro py ry)
   obtain⟨ade,Ae,ce,e2,Ce,Cf,Cg,Cm,Cn⟩:=at_T67 Bm.out x py qy
   generalize y23 At x=e0 at Ce Cf Cg Cm Cn sy ty H
   have HRe:=y0.mk Cn
   have HCe:=y0.mk Cm
   have HSY:=y0.mk sy
   have HTY:=y0.mk ty
   clear Cm Cn sy ty ry
   cases e2
   replace Ce:=qC Ce HB
   replace Cf:=qC Cf HB
   replace Cg:=qC Cg HB
   replace py:=eq_true py
   replace qy:=eq_true qy
   have q1:=eq_true c
   replace p1:=eq_true p1
   clear c
   obtain⟨Aa,Ab,Ac,Ad,Af,Ag,Ah,Ai,Aj,Ak⟩:=QMapI.bx5 BKr.out
   go_upto_region 6 with(first
    | ((with_reducible refine y19 (N:=13) rfl ?_);refine qe 13 #[.int .i64 0,.string (⟨#[]⟩:ByteArray),.slice none 0 0] 67 ?_;intro ge hg w4 hbox hb;(repeat first|clear Aa|clear Ag|clear Ab|clear Ah|clear Ac|clear Ai|clear Ad|clear Aj|clear Af|clear Ak);have BKe:=y0.mk (hbox);have GEe:=y0.mk ((by rw [hg];exact HB.out.size:w.heap.size≤ge));have Nr_e:=y0.mk ((by rw [hg];exact Nat.ne_of_lt (blk_lt BKr.out):gr≠ge));have Nm_e:=y0.mk ((by rw [hg];exact Nat.ne_of_lt HM.out.lt:gm≠ge));replace HOK:=y0.mk (Kd.R_below HOK.out hb);replace BKr:=y0.mk (y7 BKr.out hb);replace HM:=y0.mk (QMapI.IM.below HM.out hb);replace HB:=y0.mk (y5 HB.out hb);clear hb hg hbox;obtain⟨Aa,Ab,Ac,Ad,Af,Ag,Ah,Ai,Aj,Ak⟩:=QMapI.bx5 BKr.out;obtain⟨Al,Am,Ap,Aq,Ar,As⟩:=QMapI.bx3 BKe.out))
   (repeat first|clear Aa|clear Ag|clear Ab|clear Ah|clear Ac|clear Ai|clear Ad|clear Aj|clear Af|clear Ak|clear Al|clear Aq|clear Am|clear Ar|clear Ap|clear As)
   have nHOK_:=y0.mk ((Kd.R_set (Kd.R_set (Kd.R_set HOK.out BKe.out (by decide) 0 _) (blk_set BKe.out 0 (.int .i64 e0.f0)) (by decide) 1 _) (blk_set (blk_set BKe.out 0 (.int .i64 e0.f0)) 1 (.string e0.f1)) (by decide) 2 _):Kd.R (Kd.int .i64) 3 (((w4.setCell ⟨ge,0,none⟩ (.int .i64 e0.f0)).setCell ⟨ge,1,none⟩ (.string e0.f1)).setCell ⟨ge,2,none⟩ (.slice Ae e0.f2.length ce)) w.heap.size (fun _=>True) (.slice (some adk) (xs).length cK) (xs))
   have nBKr_:=y0.mk ((y11 (y11 (y11 BKr.out (Nr_e.out) _) (Nr_e.out) _) (Nr_e.out) _):(((w4.setCell ⟨ge,0,none⟩ (.int .i64 e0.f0)).setCell ⟨ge,1,none⟩ (.string e0.f1)).setCell ⟨ge,2,none⟩ (.slice Ae e0.f2.length ce)).heap[gr]?=some (.cells #[.slice (some ade) At.length Az,.int .i64 Aw,.string Ax,.slice Ba Au.length Bb,.slice Bc Av.length Bd] 38 (0,0)))
   have nBKe_:=y0.mk ((blk_set (blk_set (blk_set BKe.out 0 (.int .i64 e0.f0)) 1 (.string e0.f1)) 2 (.slice Ae e0.f2.length ce)):(((w4.setCell ⟨ge,0,none⟩ (.int .i64 e0.f0)).setCell ⟨ge,1,none⟩ (.string e0.f1)).setCell ⟨ge,2,none⟩ (.slice Ae e0.f2.length ce)).heap[ge]?=some (.cells #[.int .i64 e0.f0,.string e0.f1,.slice Ae e0.f2.length ce] 67 (0,0)))
   have nHM_:=y0.mk ((QMapI.IM.set (QMapI.IM.set (QMapI.IM.set HM.out Nm_e.out 0 _) Nm_e.out 1 _) Nm_e.out 2 _):QMapI.IM (((w4.setCell ⟨ge,0,none⟩ (.int .i64 e0.f0)).setCell ⟨ge,1,none⟩ (.string e0.f1)).setCell ⟨ge,2,none⟩ (.slice Ae e0.f2.length ce)) gm (i) (F))
   have nHB_:=y0.mk ((below_set (below_set (below_set HB.out GEe.out) GEe.out) GEe.out):Below w.heap.size w (((w4.setCell ⟨ge,0,none⟩ (.int .i64 e0.f0)).setCell ⟨ge,1,none⟩ (.string e0.f1)).setCell ⟨ge,2,none⟩ (.slice Ae e0.f2.length ce)))
   clear HOK
   clear BKr
   clear BKe
   clear HM
   clear HB
   generalize (((w4.setCell ⟨ge,0,none⟩ (.int .i64 e0.f0)).setCell ⟨ge,1,none⟩ (.string e0.f1)).setCell ⟨ge,2,none⟩ (.slice Ae e0.f2.length ce))=w5 at nHOK_ nBKr_ nBKe_ nHM_ nHB_ ⊢
   have HOK:=nHOK_
   clear nHOK_
   have BKr:=nBKr_
   clear nBKr_
   have BKe:=nBKe_
   clear nBKe_
   have HM:=nHM_
   clear nHM_
   have HB:=nHB_
   clear nHB_
   obtain⟨Aa,Ab,Ac,Ad,Af,Ag,Ah,Ai,Aj,Ak⟩:=QMapI.bx5 BKr.out
   obtain⟨Al,Am,Ap,Aq,Ar,As⟩:=QMapI.bx3 BKe.out
   clear Cl Ce Cf Cg py qy p1 q1 Cd
   go_wp2_with (first
    | ((with_reducible refine y19 (N:=35) rfl ?_);refine qL Kd.string 9 35 ([]:List ByteArray) ?_;intro vo w6 ho hb hg_ hnew_;clear hg_ hnew_;(repeat first|clear Aa|clear Ag|clear Ab|clear Ah|clear Ac|clear Ai|clear Ad|clear Aj|clear Af|clear Ak|clear Al|clear Aq|clear Am|clear Ar|clear Ap|clear As);have HOo:=y0.mk (Kd.R_lower ho (y4 HB.out));replace HOK:=y0.mk (Kd.R_below HOK.out hb);replace BKr:=y0.mk (y7 BKr.out hb);replace BKe:=y0.mk (y7 BKe.out hb);replace HM:=y0.mk (QMapI.IM.below HM.out hb);replace HB:=y0.mk (y5 HB.out hb);clear hb ho;obtain⟨Aa,Ab,Ac,Ad,Af,Ag,Ah,Ai,Aj,Ak⟩:=QMapI.bx5 BKr.out;obtain⟨Al,Am,Ap,Aq,Ar,As⟩:=QMapI.bx3 BKe.out))
   (repeat first|clear Aa|clear Ag|clear Ab|clear Ah|clear Ac|clear Ai|clear Ad|clear Aj|clear Af|clear Ak|clear Al|clear Aq|clear Am|clear Ar|clear Ap|clear As)
   go_loopg [14,39] e0.f2.length (fun kq Df Dg w'=>∃(xj:Int) (j:Nat),Dg=.int .i64 xj∧y0 (xj=(j:Int))∧y0 (kq + j=e0.f2.length)∧y0 (Kd.R (Kd.int .i64) 3 w' w.heap.size (fun _=>True) (.slice (some adk) (xs).length cK) (xs))∧y0 (Kd.R Kd.string 9 w' w.heap.size (fun _=>True) (Df) (vlKids F (e0.f2.take j)))∧y0 (w'.heap[gr]?=some (.cells #[.slice (some ade) At.length Az,.int .i64 Aw,.string Ax,.slice Ba Au.length Bb,.slice Bc Av.length Bd] 38 (0,0)))∧y0 (w'.heap[ge]?=some (.cells #[.int .i64 e0.f0,.string e0.f1,.slice Ae e0.f2.length ce] 67 (0,0)))∧y0 (QMapI.IM w' gm (i) (F))∧y0 (Below w.heap.size w w'))
   case atStart=>exact⟨0,0,rfl,⟨rfl⟩,⟨Nat.add_zero _⟩,⟨qR HOK.out⟩,⟨qR HOo.out⟩,⟨BKr.out⟩,⟨BKe.out⟩,⟨HM.out⟩,⟨HB.out⟩⟩
   case round =>
    clear HOK HOo BKr BKe HM HB
    obtain⟨xj,j,rfl,HXJ,Cj,HOK,HOo,BKr,BKe,HM,HB⟩:=hrel
    obtain⟨Ao,co,eo_⟩:=Kd.R_slice HOo.out
    subst eo_
    by_cases c:xj < (e0.f2.length:Int)
    ·skip
     have Cd:decide (xj < (e0.f2.length:Int))=true:=decide_eq_true c
     have hj:j < e0.f2.length:=by have:=HXJ.out;omega
     have p1:0≤xj:=by have:=HXJ.out;omega
     obtain⟨adx,e1,Ay⟩:=Kd.at_int HRe.out xj p1 c
     have rg:rd e0.f2 xj=e0.f2[j]:=by rw [HXJ.out];unfold rd;rw [show((j:Int)).toNat=j from rfl,List.getD_eq_getElem?_getD,List.getElem?_eq_getElem hj];rfl
     rw [rg]at Ay
     clear rg
     have HTX:=y0.mk (HTY.out _ (List.getElem_mem hj))
     have HKA:=y0.mk (vlKids_at F e0.f2 j hj)
     generalize e0.f2[j]=y at Ay HTX HKA
     replace hj:=y0.mk hj
     cases e1
     have HLN:y0 ((vlKids F (e0.f2.take j)).length≤1048576):=⟨by unfold vlKids;rw [List.length_map,qT_];have:=HSY.out;omega⟩
     replace Ay:=qC Ay HB
     have q1:=eq_true c
     replace p1:=eq_true p1
     clear c
     obtain⟨s,hs⟩:∃ s,(F y).getD ⟨#[]⟩=s:=⟨_,rfl⟩
     rw [hs]at HKA
     have HS:=y0.mk hs
     clear hs
     obtain⟨Aa,Ab,Ac,Ad,Af,Ag,Ah,Ai,Aj,Ak⟩:=QMapI.bx5 BKr.out
     obtain⟨Al,Am,Ap,Aq,Ar,As⟩:=QMapI.bx3 BKe.out
     go_wp2_with (first
      | ((with_reducible refine y19 (N:=46) rfl ?_);refine QMapI.look_event rfl (.tmp 44) (.tmp 45) rfl rfl (i:=y) rfl HM.out HTX.out ?_;rw [HS.out])
      | ((with_reducible refine gate_builtin (b:=.append) (xs:=#[.tmp 43,.tmp 47]) rfl ?_);at_builtin;refine Kd.R_append Kd.string (w0:=w) w.heap.size rfl (.tmp 43) (.tmp 47) 29 9 (.string ⟨#[]⟩) 16 rfl Tryz.underlying29 info9 rfl (by decide) (by omega) (.slice Ao (vlKids F (e0.f2.take j)).length co) (vlKids F (e0.f2.take j)) s [.string s] (fun _=>True) (fun _=>False) rfl (by first|(go_simp;done)|(go_simp;rfl)) ?aP (fun _ hk=>hk.elim) ?aF ?aO ?aB ?aS ?aL ?_;(case aP=>exact rfl);(case aB=>exact qb);(case aF=>exact(fun _ _=>trivial));(case aO=>exact(qR HOo.out));(case aS=>exact(y4 qb));(case aL=>have:=HLN.out;omega);intro v9 w9 ho hb hg hat;(repeat first|clear Aa|clear Ag|clear Ab|clear Ah|clear Ac|clear Ai|clear Ad|clear Aj|clear Af|clear Ak|clear Al|clear Aq|clear Am|clear Ar|clear Ap|clear As);have nBKr_:=y0.mk (y12 (g:=gr) (o:=(.cells #[.slice (some ade) At.length Az,.int .i64 Aw,.string Ax,.slice Ba Au.length Bb,.slice Bc Av.length Bd] 38 (0,0))) (qk BKr.out) hg (Kd.R_ne HOo.out BKr.out (by decide)));have nBKe_:=y0.mk (y12 (g:=ge) (o:=(.cells #[.int .i64 e0.f0,.string e0.f1,.slice (some adx) e0.f2.length ce] 67 (0,0))) (qk BKe.out) hg (Kd.R_ne HOo.out BKe.out (by decide)));have nHM_:=y0.mk ((QMapI.IM.below HM.out (by repeat(first|exact Below.refl _ _|apply below_alloc))).over (qR HOo.out) hg);have nHOK_:=y0.mk (Kd.R_over' (qR HOK.out) (Kd.R_typed (qR HOo.out)) (by decide) hg);have nHOo_:=y0.mk (ho);have nHB_:=y0.mk (hb);clear BKr BKe HM HOK HOo HB ho hb hg hat;have BKr:=nBKr_;have BKe:=nBKe_;have HM:=nHM_;have HOK:=nHOK_;have HOo:=nHOo_;have HB:=nHB_;clear nBKr_ nBKe_ nHM_ nHOK_ nHOo_ nHB_;obtain⟨Aa,Ab,Ac,Ad,Af,Ag,Ah,Ai,Aj,Ak⟩:=QMapI.bx5 BKr.out;obtain⟨Al,Am,Ap,Aq,Ar,As⟩:=QMapI.bx3 BKe.out))
     (repeat first|clear Aa|clear Ag|clear Ab|clear Ah|clear Ac|clear Ai|clear Ad|clear Aj|clear Af|clear Ak|clear Al|clear Aq|clear Am|clear Ar|clear Ap|clear As)
     clear Ay Cd p1 q1
     rw [← HKA.out]at HOo
     go_roundg (e0.f2.length - j - 1)
     case measure=>have:=Cj.out;have:=hj.out;omega
     exact⟨wrap64 (xj + 1),j + 1,qy2,⟨by rw [HXJ.out];exact QIv.step_u (by have:=hj.out;have:=HSY.out;omega)⟩,⟨by have:=Cj.out;have:=hj.out;omega⟩,⟨qR HOK.out⟩,⟨qR HOo.out⟩,⟨BKr.out⟩,⟨BKe.out⟩,⟨HM.out⟩,⟨HB.out⟩⟩
    ·skip
     have Cd:decide (xj < (e0.f2.length:Int))=false:=decide_eq_false c
     have HE:y0 (e0.f2.take j=e0.f2):=⟨List.take_of_length_le (by have:=HXJ.out;have:=Cj.out;omega)⟩
     rw [HE.out]at HOo ⊢
     clear c HXJ Cj HE
     have HKL:y0 ((vlKids F e0.f2).length=e0.f2.length):=⟨by unfold vlKids;rw [List.length_map]⟩
     generalize hks:vlKids F e0.f2=ks at HOo HKL ⊢
     replace hks:=y0.mk hks
     by_cases k2_:e0.f0=2
     ·skip
      have k2:(e0.f0 == 2)=true:=beq_iff_eq.mpr k2_
      have HK2_:=y0.mk k2_
      clear k2_
      obtain⟨Aa,Ab,Ac,Ad,Af,Ag,Ah,Ai,Aj,Ak⟩:=QMapI.bx5 BKr.out
      obtain⟨Al,Am,Ap,Aq,Ar,As⟩:=QMapI.bx3 BKe.out
      go_wp2
      have HF:y0 (r1=(⟨#[]⟩:ByteArray)∧r2=1):=⟨by
       have h_:=H.out
       rw [vlStep,if_pos HK2_.out]at h_
       simp only [Option.bind_some,vlFin]at h_
       injection h_ with h_
       injection h_ with h1 h2
       exact⟨h1.symm,h2.symm⟩⟩
      obtain⟨e1_,e2_⟩:=HF.out
      subst e1_
      subst e2_
      refine bodyPost_ret (results_tmp2 rfl _ _ _) rfl ?_
      exact⟨by first|rfl|(simp [y15,y16] <;> rfl),HB.out⟩
     have k2:(e0.f0 == 2)=false:=beq_eq_false_iff_ne.mpr k2_
     replace k2_:=y0.mk k2_
     by_cases k1_:e0.f0=1
     ·skip
      have k1:(e0.f0 == 1)=true:=beq_iff_eq.mpr k1_
      have HK1_:=y0.mk k1_
      clear k1_
      have h_:=H.out
      rw [vlStep,if_neg k2_.out,if_pos HK1_.out]at h_
      obtain⟨z,hz_,hf_⟩:=Option.bind_eq_some_iff.1 h_
      obtain⟨v,hv_,hf2_⟩:=Option.bind_eq_some_iff.1 hz_
      obtain⟨t,ht_,hv_⟩:=Option.bind_eq_some_iff.1 hv_
      obtain⟨b,hb_,hv_⟩:=Option.bind_eq_some_iff.1 hv_
      have Bt:=y0.mk ht_
      have Bj:=y0.mk hb_
      clear h_ ht_ hb_
      cases b with
      | false =>
       obtain⟨Aa,Ab,Ac,Ad,Af,Ag,Ah,Ai,Aj,Ak⟩:=QMapI.bx5 BKr.out
       obtain⟨Al,Am,Ap,Aq,Ar,As⟩:=QMapI.bx3 BKe.out
       rw [if_neg (by decide)]at hv_
       injection hv_ with hv_
       subst hv_
       injection hf2_ with hf2_
       subst hf2_
       have Dh:=y0.mk hf_
       clear hz_ hf_
       go_wp2_with (first
        | (go_at_call 40;(with_reducible refine(slices_Index_string_string.calls k _ _ l2 e0.f1 t _ (Kd.C_below Cq.out HB.out) Cr.out Bt.out).mono ?_);rintro e_ w7 ⟨rfl,hd_⟩;have hb:=hd_.below;(repeat first|clear Aa|clear Ag|clear Ab|clear Ah|clear Ac|clear Ai|clear Ad|clear Aj|clear Af|clear Ak|clear Al|clear Aq|clear Am|clear Ar|clear Ap|clear As);replace HOK:=y0.mk (Kd.R_below HOK.out hb);replace HOo:=y0.mk (Kd.R_below HOo.out hb);replace BKr:=y0.mk (y7 BKr.out hb);replace BKe:=y0.mk (y7 BKe.out hb);replace HM:=y0.mk (QMapI.IM.below HM.out hb);replace HB:=y0.mk (y5 HB.out hb);(try clear hb);(try clear hd_);(try clear ho);obtain⟨Aa,Ab,Ac,Ad,Af,Ag,Ah,Ai,Aj,Ak⟩:=QMapI.bx5 BKr.out;obtain⟨Al,Am,Ap,Aq,Ar,As⟩:=QMapI.bx3 BKe.out)
        | (go_at_call 22;(with_reducible refine(impl_in.calls t 0 (wrap64 ((l3.length:Int) - 1)) false _ Bj.out).mono ?_);rintro e_ w8 ⟨rfl,hd_⟩;have hb:=hd_.below;(repeat first|clear Aa|clear Ag|clear Ab|clear Ah|clear Ac|clear Ai|clear Ad|clear Aj|clear Af|clear Ak|clear Al|clear Aq|clear Am|clear Ar|clear Ap|clear As);replace HOK:=y0.mk (Kd.R_below HOK.out hb);replace HOo:=y0.mk (Kd.R_below HOo.out hb);replace BKr:=y0.mk (y7 BKr.out hb);replace BKe:=y0.mk (y7 BKe.out hb);replace HM:=y0.mk (QMapI.IM.below HM.out hb);replace HB:=y0.mk (y5 HB.out hb);(try clear hb);(try clear hd_);(try clear ho);obtain⟨Aa,Ab,Ac,Ad,Af,Ag,Ah,Ai,Aj,Ak⟩:=QMapI.bx5 BKr.out;obtain⟨Al,Am,Ap,Aq,Ar,As⟩:=QMapI.bx3 BKe.out))
       replace H:=Dh
       have HF:y0 (r1=(⟨#[]⟩:ByteArray)∧r2=1):=⟨by
        have h_:=H.out
        skip
        simp only [Option.bind_some,vlFin]at h_
        injection h_ with h_
        injection h_ with h1 h2
        exact⟨h1.symm,h2.symm⟩⟩
       obtain⟨e1_,e2_⟩:=HF.out
       subst e1_
       subst e2_
       refine bodyPost_ret (results_tmp2 rfl _ _ _) rfl ?_
       exact⟨by first|rfl|(simp [y15,y16] <;> rfl),HB.out⟩
      | true =>
       obtain⟨Aa,Ab,Ac,Ad,Af,Ag,Ah,Ai,Aj,Ak⟩:=QMapI.bx5 BKr.out
       obtain⟨Al,Am,Ap,Aq,Ar,As⟩:=QMapI.bx3 BKe.out
       rw [if_pos rfl]at hv_
       by_cases hin:0≤t∧t < (l3.length:Int)
       case neg=>rw [if_neg hin]at hv_;cases hv_
       rw [if_pos hin]at hv_
       injection hv_ with hv_
       subst hv_
       clear hz_ hf_ hf2_ z
       have Cw:y0 (vlStep k l2 l3 F e0=some (.inl (rdOf ByteArray.empty l3 t))):=⟨by rw [vlStep,if_neg k2_.out,if_pos HK1_.out,Bt.out,Option.bind_some,Bj.out,Option.bind_some,if_pos rfl,if_pos hin]⟩
       obtain⟨pt,qt⟩:=hin
       obtain⟨adv,ev_,Ch⟩:=Kd.at_string Cs.out t pt qt
       generalize rdOf ByteArray.empty l3 t=s at Ch Cw
       cases ev_
       have Ck:=y0.mk Ch
       clear Ch
       replace pt:=eq_true pt
       replace qt:=eq_true qt
       have HN:y0 (s.size≤1099511627776∧(vlRun k At l2 l3 (xs.drop (i + 1)) (fun c=>if c=x then some (s)else F c)).bind (vlFin k a1)=some (r1,r2)):=⟨by
        have h_:=H.out
        rw [Cw.out]at h_
        simp only [Option.bind_some]at h_
        by_cases hz:s.size≤1099511627776
        ·rw [if_pos hz]at h_
         exact⟨hz,h_⟩
        ·rw [if_neg hz]at h_
         cases h_⟩
       have HZ:=y0.mk HN.out.1
       replace HN:=y0.mk HN.out.2
       go_wp2_with (first
        | (go_at_call 40;(with_reducible refine(slices_Index_string_string.calls k _ _ l2 e0.f1 t _ (Kd.C_below Cq.out HB.out) Cr.out Bt.out).mono ?_);rintro e_ w7 ⟨rfl,hd_⟩;have hb:=hd_.below;(repeat first|clear Aa|clear Ag|clear Ab|clear Ah|clear Ac|clear Ai|clear Ad|clear Aj|clear Af|clear Ak|clear Al|clear Aq|clear Am|clear Ar|clear Ap|clear As);replace HOK:=y0.mk (Kd.R_below HOK.out hb);replace HOo:=y0.mk (Kd.R_below HOo.out hb);replace BKr:=y0.mk (y7 BKr.out hb);replace BKe:=y0.mk (y7 BKe.out hb);replace HM:=y0.mk (QMapI.IM.below HM.out hb);replace HB:=y0.mk (y5 HB.out hb);(try clear hb);(try clear hd_);(try clear ho);obtain⟨Aa,Ab,Ac,Ad,Af,Ag,Ah,Ai,Aj,Ak⟩:=QMapI.bx5 BKr.out;obtain⟨Al,Am,Ap,Aq,Ar,As⟩:=QMapI.bx3 BKe.out;have Ch:=qC Ck.out HB)
        | (go_at_call 22;(with_reducible refine(impl_in.calls t 0 (wrap64 ((l3.length:Int) - 1)) true _ Bj.out).mono ?_);rintro e_ w8 ⟨rfl,hd_⟩;have hb:=hd_.below;(repeat first|clear Aa|clear Ag|clear Ab|clear Ah|clear Ac|clear Ai|clear Ad|clear Aj|clear Af|clear Ak|clear Al|clear Aq|clear Am|clear Ar|clear Ap|clear As);replace HOK:=y0.mk (Kd.R_below HOK.out hb);replace HOo:=y0.mk (Kd.R_below HOo.out hb);replace BKr:=y0.mk (y7 BKr.out hb);replace BKe:=y0.mk (y7 BKe.out hb);replace HM:=y0.mk (QMapI.IM.below HM.out hb);replace HB:=y0.mk (y5 HB.out hb);(try clear hb);(try clear hd_);(try clear ho);obtain⟨Aa,Ab,Ac,Ad,Af,Ag,Ah,Ai,Aj,Ak⟩:=QMapI.bx5 BKr.out;obtain⟨Al,Am,Ap,Aq,Ar,As⟩:=QMapI.bx3 BKe.out;have Ch:=qC Ck.out HB)
        | ((with_reducible refine QMapI.gate_put (m:=.tmp 97) (x:=.tmp 98) rfl ?_);(refine QMapI.put_event rfl (.tmp 97) (.tmp 98) _ rfl rfl (i:=x) rfl (s:=s) rfl HM.out (by have:=hi.out;have:=HG.out.1;unfold maxLen;omega) (HPY.out) (by have:=HZ.out;unfold maxLen;omega) ?_);intro w9 hM_ hg_;(repeat first|clear Aa|clear Ag|clear Ab|clear Ah|clear Ac|clear Ai|clear Ad|clear Aj|clear Af|clear Ak|clear Al|clear Aq|clear Am|clear Ar|clear Ap|clear As);have nHOK_:=y0.mk (QMapI.IM.row HM.out HOK.out hg_);have nHOo_:=y0.mk (QMapI.IM.row HM.out HOo.out hg_);have nBKr_:=y0.mk (QMapI.IM.blk BKr.out (Nr_m.out) hg_);have nBKe_:=y0.mk (QMapI.IM.blk BKe.out (Ne.symm Nm_e.out) hg_);have nHB_:=y0.mk (QMapI.IM.low HB.out hg_ GEm.out);have nHMn_:=y0.mk (hM_);clear HOK HOo BKr BKe HB HM hM_ hg_;have HOK:=nHOK_;clear nHOK_;have HOo:=nHOo_;clear nHOo_;have BKr:=nBKr_;clear nBKr_;have BKe:=nBKe_;clear nBKe_;have HB:=nHB_;clear nHB_;have HM:=nHMn_;clear nHMn_;obtain⟨Aa,Ab,Ac,Ad,Af,Ag,Ah,Ai,Aj,Ak⟩:=QMapI.bx5 BKr.out;obtain⟨Al,Am,Ap,Aq,Ar,As⟩:=QMapI.bx3 BKe.out))
       (repeat first|clear Aa|clear Ag|clear Ab|clear Ah|clear Ac|clear Ai|clear Ad|clear Aj|clear Af|clear Ak|clear Al|clear Aq|clear Am|clear Ar|clear Ap|clear As)
       go_roundg (xs.length - i - 1)
       case measure=>have:=HK.out;have:=hi.out;omega
       exact⟨wrap64 (xi + 1),i + 1,(fun c=>if c=x then some (s)else F c),qy2,⟨by rw [HXI.out];exact QIv.step_u (by have:=hi.out;have:=HG.out.1;omega)⟩,⟨by have:=HK.out;have:=hi.out;omega⟩,⟨HN.out⟩,⟨qR HOK.out⟩,⟨BKr.out⟩,⟨HM.out⟩,⟨HB.out⟩⟩
     ·skip
      have k1:(e0.f0 == 1)=false:=beq_eq_false_iff_ne.mpr k1_
      replace k1_:=y0.mk k1_
      by_cases k3_:e0.f0=3
      ·skip
       obtain⟨Aa,Ab,Ac,Ad,Af,Ag,Ah,Ai,Aj,Ak⟩:=QMapI.bx5 BKr.out
       obtain⟨Al,Am,Ap,Aq,Ar,As⟩:=QMapI.bx3 BKe.out
       have k3:(e0.f0 == 3)=true:=beq_iff_eq.mpr k3_
       have HK3_:=y0.mk k3_
       clear k3_
       have HN:y0 (e0.f1.size≤1099511627776∧(vlRun k At l2 l3 (xs.drop (i + 1)) (fun c=>if c=x then some (e0.f1)else F c)).bind (vlFin k a1)=some (r1,r2)):=⟨by
        have h_:=H.out
        rw [vlStep,if_neg k2_.out,if_neg k1_.out,if_pos HK3_.out]at h_
        simp only [Option.bind_some]at h_
        by_cases hz:e0.f1.size≤1099511627776
        ·rw [if_pos hz]at h_
         exact⟨hz,h_⟩
        ·rw [if_neg hz]at h_
         cases h_⟩
       have HZ:=y0.mk HN.out.1
       replace HN:=y0.mk HN.out.2
       go_wp2_with (first
        | ((with_reducible refine QMapI.gate_put (m:=.tmp 107) (x:=.tmp 108) rfl ?_);(refine QMapI.put_event rfl (.tmp 107) (.tmp 108) _ rfl rfl (i:=x) rfl (s:=e0.f1) rfl HM.out (by have:=hi.out;have:=HG.out.1;unfold maxLen;omega) (HPY.out) (by have:=HZ.out;unfold maxLen;omega) ?_);intro w7 hM_ hg_;(repeat first|clear Aa|clear Ag|clear Ab|clear Ah|clear Ac|clear Ai|clear Ad|clear Aj|clear Af|clear Ak|clear Al|clear Aq|clear Am|clear Ar|clear Ap|clear As);have nHOK_:=y0.mk (QMapI.IM.row HM.out HOK.out hg_);have nHOo_:=y0.mk (QMapI.IM.row HM.out HOo.out hg_);have nBKr_:=y0.mk (QMapI.IM.blk BKr.out (Nr_m.out) hg_);have nBKe_:=y0.mk (QMapI.IM.blk BKe.out (Ne.symm Nm_e.out) hg_);have nHB_:=y0.mk (QMapI.IM.low HB.out hg_ GEm.out);have nHMn_:=y0.mk (hM_);clear HOK HOo BKr BKe HB HM hM_ hg_;have HOK:=nHOK_;clear nHOK_;have HOo:=nHOo_;clear nHOo_;have BKr:=nBKr_;clear nBKr_;have BKe:=nBKe_;clear nBKe_;have HB:=nHB_;clear nHB_;have HM:=nHMn_;clear nHMn_;obtain⟨Aa,Ab,Ac,Ad,Af,Ag,Ah,Ai,Aj,Ak⟩:=QMapI.bx5 BKr.out;obtain⟨Al,Am,Ap,Aq,Ar,As⟩:=QMapI.bx3 BKe.out))
       (repeat first|clear Aa|clear Ag|clear Ab|clear Ah|clear Ac|clear Ai|clear Ad|clear Aj|clear Af|clear Ak|clear Al|clear Aq|clear Am|clear Ar|clear Ap|clear As)
       go_roundg (xs.length - i - 1)
       case measure=>have:=HK.out;have:=hi.out;omega
       exact⟨wrap64 (xi + 1),i + 1,(fun c=>if c=x then some (e0.f1)else F c),qy2,⟨by rw [HXI.out];exact QIv.step_u (by have:=hi.out;have:=HG.out.1;omega)⟩,⟨by have:=HK.out;have:=hi.out;omega⟩,⟨HN.out⟩,⟨qR HOK.out⟩,⟨BKr.out⟩,⟨HM.out⟩,⟨HB.out⟩⟩
      ·skip
       have k3:(e0.f0 == 3)=false:=beq_eq_false_iff_ne.mpr k3_
       replace k3_:=y0.mk k3_
       by_cases k4_:e0.f0=4
       ·skip
        have k4:(e0.f0 == 4)=true:=beq_iff_eq.mpr k4_
        have HK4_:=y0.mk k4_
        clear k4_
        have h_:=H.out
        rw [vlStep,if_neg k2_.out,if_neg k1_.out,if_neg k3_.out,if_pos HK4_.out,hks.out]at h_
        obtain⟨z,hz_,hf_⟩:=Option.bind_eq_some_iff.1 h_
        obtain⟨v,hv_,hf2_⟩:=Option.bind_eq_some_iff.1 hz_
        obtain⟨⟨s,b⟩,ht_,hw_⟩:=Option.bind_eq_some_iff.1 hv_
        have Bt:=y0.mk ht_
        clear hw_ hv_ hz_ hf_ hf2_ ht_ z v h_
        cases b with
        | false =>
         obtain⟨Aa,Ab,Ac,Ad,Af,Ag,Ah,Ai,Aj,Ak⟩:=QMapI.bx5 BKr.out
         obtain⟨Al,Am,Ap,Aq,Ar,As⟩:=QMapI.bx3 BKe.out
         go_wp2_with (first
          | (go_at_call 41;(with_reducible refine(impl_TermMake.calls k e0.f1 _ _ ks s false _ (Kd.R_reads' HOo.out).2.2 (Kd.R_reads' HOo.out).2.1 (Tb.below hT.out HB.out) Bt.out).mono ?_);rintro e_ w7 ⟨rfl,hb⟩;(repeat first|clear Aa|clear Ag|clear Ab|clear Ah|clear Ac|clear Ai|clear Ad|clear Aj|clear Af|clear Ak|clear Al|clear Aq|clear Am|clear Ar|clear Ap|clear As);replace HOK:=y0.mk (Kd.R_below HOK.out hb);replace HOo:=y0.mk (Kd.R_below HOo.out hb);replace BKr:=y0.mk (y7 BKr.out hb);replace BKe:=y0.mk (y7 BKe.out hb);replace HM:=y0.mk (QMapI.IM.below HM.out hb);replace HB:=y0.mk (y5 HB.out hb);(try clear hb);(try clear hd_);(try clear ho);obtain⟨Aa,Ab,Ac,Ad,Af,Ag,Ah,Ai,Aj,Ak⟩:=QMapI.bx5 BKr.out;obtain⟨Al,Am,Ap,Aq,Ar,As⟩:=QMapI.bx3 BKe.out))
         have HF:y0 (r1=(⟨#[]⟩:ByteArray)∧r2=2):=⟨by
          have h_:=H.out
          rw [vlStep,if_neg k2_.out,if_neg k1_.out,if_neg k3_.out,if_pos HK4_.out,hks.out,Bt.out,Option.bind_some]at h_
          simp only [Bool.false_eq_true,↓reduceIte]at h_
          simp only [Option.bind_some,vlFin]at h_
          injection h_ with h_
          injection h_ with h1 h2
          exact⟨h1.symm,h2.symm⟩⟩
         obtain⟨e1_,e2_⟩:=HF.out
         subst e1_
         subst e2_
         refine bodyPost_ret (results_tmp2 rfl _ _ _) rfl ?_
         exact⟨by first|rfl|(simp [y15,y16] <;> rfl),HB.out⟩
        | true =>
         obtain⟨Aa,Ab,Ac,Ad,Af,Ag,Ah,Ai,Aj,Ak⟩:=QMapI.bx5 BKr.out
         obtain⟨Al,Am,Ap,Aq,Ar,As⟩:=QMapI.bx3 BKe.out
         have HN:y0 (s.size≤1099511627776∧(vlRun k At l2 l3 (xs.drop (i + 1)) (fun c=>if c=x then some (s)else F c)).bind (vlFin k a1)=some (r1,r2)):=⟨by
          have h_:=H.out
          rw [vlStep,if_neg k2_.out,if_neg k1_.out,if_neg k3_.out,if_pos HK4_.out,hks.out,Bt.out,Option.bind_some]at h_
          rw [if_pos rfl]at h_
          simp only [Option.bind_some]at h_
          by_cases hz:s.size≤1099511627776
          ·rw [if_pos hz]at h_
           exact⟨hz,h_⟩
          ·rw [if_neg hz]at h_
           cases h_⟩
         have HZ:=y0.mk HN.out.1
         replace HN:=y0.mk HN.out.2
         go_wp2_with (first
          | (go_at_call 41;(with_reducible refine(impl_TermMake.calls k e0.f1 _ _ ks s true _ (Kd.R_reads' HOo.out).2.2 (Kd.R_reads' HOo.out).2.1 (Tb.below hT.out HB.out) Bt.out).mono ?_);rintro e_ w7 ⟨rfl,hb⟩;(repeat first|clear Aa|clear Ag|clear Ab|clear Ah|clear Ac|clear Ai|clear Ad|clear Aj|clear Af|clear Ak|clear Al|clear Aq|clear Am|clear Ar|clear Ap|clear As);replace HOK:=y0.mk (Kd.R_below HOK.out hb);replace HOo:=y0.mk (Kd.R_below HOo.out hb);replace BKr:=y0.mk (y7 BKr.out hb);replace BKe:=y0.mk (y7 BKe.out hb);replace HM:=y0.mk (QMapI.IM.below HM.out hb);replace HB:=y0.mk (y5 HB.out hb);(try clear hb);(try clear hd_);(try clear ho);obtain⟨Aa,Ab,Ac,Ad,Af,Ag,Ah,Ai,Aj,Ak⟩:=QMapI.bx5 BKr.out;obtain⟨Al,Am,Ap,Aq,Ar,As⟩:=QMapI.bx3 BKe.out)
          | ((with_reducible refine QMapI.gate_put (m:=.tmp 124) (x:=.tmp 125) rfl ?_);(refine QMapI.put_event rfl (.tmp 124) (.tmp 125) _ rfl rfl (i:=x) rfl (s:=s) rfl HM.out (by have:=hi.out;have:=HG.out.1;unfold maxLen;omega) (HPY.out) (by have:=HZ.out;unfold maxLen;omega) ?_);intro w8 hM_ hg_;(repeat first|clear Aa|clear Ag|clear Ab|clear Ah|clear Ac|clear Ai|clear Ad|clear Aj|clear Af|clear Ak|clear Al|clear Aq|clear Am|clear Ar|clear Ap|clear As);have nHOK_:=y0.mk (QMapI.IM.row HM.out HOK.out hg_);have nHOo_:=y0.mk (QMapI.IM.row HM.out HOo.out hg_);have nBKr_:=y0.mk (QMapI.IM.blk BKr.out (Nr_m.out) hg_);have nBKe_:=y0.mk (QMapI.IM.blk BKe.out (Ne.symm Nm_e.out) hg_);have nHB_:=y0.mk (QMapI.IM.low HB.out hg_ GEm.out);have nHMn_:=y0.mk (hM_);clear HOK HOo BKr BKe HB HM hM_ hg_;have HOK:=nHOK_;clear nHOK_;have HOo:=nHOo_;clear nHOo_;have BKr:=nBKr_;clear nBKr_;have BKe:=nBKe_;clear nBKe_;have HB:=nHB_;clear nHB_;have HM:=nHMn_;clear nHMn_;obtain⟨Aa,Ab,Ac,Ad,Af,Ag,Ah,Ai,Aj,Ak⟩:=QMapI.bx5 BKr.out;obtain⟨Al,Am,Ap,Aq,Ar,As⟩:=QMapI.bx3 BKe.out))
         (repeat first|clear Aa|clear Ag|clear Ab|clear Ah|clear Ac|clear Ai|clear Ad|clear Aj|clear Af|clear Ak|clear Al|clear Aq|clear Am|clear Ar|clear Ap|clear As)
         go_roundg (xs.length - i - 1)
         case measure=>have:=HK.out;have:=hi.out;omega
         exact⟨wrap64 (xi + 1),i + 1,(fun c=>if c=x then some (s)else F c),qy2,⟨by rw [HXI.out];exact QIv.step_u (by have:=hi.out;have:=HG.out.1;omega)⟩,⟨by have:=HK.out;have:=hi.out;omega⟩,⟨HN.out⟩,⟨qR HOK.out⟩,⟨BKr.out⟩,⟨HM.out⟩,⟨HB.out⟩⟩
       ·skip
        have k4:(e0.f0 == 4)=false:=beq_eq_false_iff_ne.mpr k4_
        replace k4_:=y0.mk k4_
        have h_:=H.out
        rw [vlStep,if_neg k2_.out,if_neg k1_.out,if_neg k3_.out,if_neg k4_.out,hks.out]at h_
        by_cases h2:2≤e0.f2.length
        case neg=>rw [if_neg h2]at h_;cases h_
        rw [if_pos h2]at h_
        obtain⟨z,hz_,hf_⟩:=Option.bind_eq_some_iff.1 h_
        obtain⟨v,hv_,hf2_⟩:=Option.bind_eq_some_iff.1 hz_
        obtain⟨a,ha_,hv_⟩:=Option.bind_eq_some_iff.1 hv_
        have Bl:=y0.mk ha_
        have H2:=y0.mk h2
        clear hz_ hf_ hf2_ ha_ z h_
        have z0:(0:Int) < (ks.length:Int):=by have:=HKL.out;omega
        have z1:(1:Int) < (ks.length:Int):=by have:=HKL.out;omega
        clear hv_
        obtain⟨ado,e1,Ay⟩:=Kd.at_string (Kd.R_reads' HOo.out).2.2 0 (by decide) z0
        clear Ay
        cases e1
        obtain⟨s0,Co⟩:∃ s,rdOf ByteArray.empty ks 0=s:=⟨_,rfl⟩
        obtain⟨s1,Cx⟩:∃ s,rdOf ByteArray.empty ks 1=s:=⟨_,rfl⟩
        have Bw:=y0.mk Co
        have Ci:=y0.mk Cx
        rw [Co]at Bl
        clear Co Cx
        have Z0:=y0.mk z0
        have Z1:=y0.mk z1
        have Be:y0 (∀ W,Kd.R Kd.string 9 W w.heap.size (fun _=>True) (.slice (some ado) ks.length co) ks→W.cell? ado=some (.string s0)):=by
         refine⟨fun W h_=>?_⟩
         obtain⟨Di,e_,hx_⟩:=Kd.at_string (Kd.R_reads' h_).2.2 0 (by decide) Z0.out
         injection e_ with e_
         subst e_
         rw [Bw.out]at hx_
         exact hx_
        have Bf:y0 (∀ W,Kd.R Kd.string 9 W w.heap.size (fun _=>True) (.slice (some ado) ks.length co) ks→W.cell? ⟨ado.block,ado.off + 1,none⟩=some (.string s1)):=by
         refine⟨fun W h_=>?_⟩
         obtain⟨Di,e_,hx_⟩:=Kd.at_string (Kd.R_reads' h_).2.2 1 (by decide) Z1.out
         injection e_ with e_
         subst e_
         rw [Ci.out]at hx_
         exact hx_
        have z2:(0 < ks.length)=True:=eq_true (by have:=Z0.out;omega)
        have z3:(1 < ks.length)=True:=eq_true (by have:=Z1.out;omega)
        replace z0:=eq_true z0
        replace z1:=eq_true z1
        by_cases ka_:a=1
        ·skip
         subst ka_
         have ka:((1:Int) != 1)=false:=rfl
         have h_:=H.out
         rw [vlStep,if_neg k2_.out,if_neg k1_.out,if_neg k3_.out,if_neg k4_.out,hks.out,if_pos H2.out,Bw.out,Bl.out,Option.bind_some]at h_
         rw [if_pos rfl,Ci.out]at h_
         obtain⟨z,hz_,hf_⟩:=Option.bind_eq_some_iff.1 h_
         obtain⟨v,hv_,hf2_⟩:=Option.bind_eq_some_iff.1 hz_
         obtain⟨b,hb_,hw_⟩:=Option.bind_eq_some_iff.1 hv_
         have Bj:=y0.mk hb_
         clear hw_ hv_ hf2_ hf_ hz_ h_ hb_ z v
         by_cases kb_:b=1
         ·skip
          subst kb_
          have h_:=H.out
          rw [vlStep,if_neg k2_.out,if_neg k1_.out,if_neg k3_.out,if_neg k4_.out,hks.out,if_pos H2.out,Bw.out,Bl.out,Option.bind_some]at h_
          rw [if_pos rfl,Ci.out,Bj.out,Option.bind_some]at h_
          rw [if_pos rfl]at h_
          obtain⟨z,hz_,hf_⟩:=Option.bind_eq_some_iff.1 h_
          obtain⟨v,hv_,hf2_⟩:=Option.bind_eq_some_iff.1 hz_
          obtain⟨x1,hx1_,hw_⟩:=Option.bind_eq_some_iff.1 hv_
          obtain⟨x2,hx2_,hw_⟩:=Option.bind_eq_some_iff.1 hw_
          obtain⟨x3,hx3_,hw_⟩:=Option.bind_eq_some_iff.1 hw_
          obtain⟨s,hx4_,hw_⟩:=Option.bind_eq_some_iff.1 hw_
          have Cy:=y0.mk hx1_
          have Cz:=y0.mk hx2_
          have Da:=y0.mk hx3_
          have Db:=y0.mk hx4_
          clear hx1_ hx2_ hx3_ hx4_ hf_ hf2_ hz_ h_
          have HSTEP:y0 (vlStep k l2 l3 F e0=if s.toList=([]:List UInt8)then some (.inr 2)else some (.inl s)):=⟨by
           rw [vlStep,if_neg k2_.out,if_neg k1_.out,if_neg k3_.out,if_neg k4_.out,hks.out,if_pos H2.out,Bw.out,Bl.out,Option.bind_some,if_pos rfl,Ci.out,Bj.out,Option.bind_some,if_pos rfl,Cy.out,Option.bind_some,Cz.out,Option.bind_some,Da.out,Option.bind_some,Db.out,Option.bind_some]⟩
          obtain⟨Aa,Ab,Ac,Ad,Af,Ag,Ah,Ai,Aj,Ak⟩:=QMapI.bx5 BKr.out
          obtain⟨Al,Am,Ap,Aq,Ar,As⟩:=QMapI.bx3 BKe.out
          have Ay:=Be.out _ HOo.out
          have Bu:=Bf.out _ HOo.out
          go_upto_region 14 with(first
           | (go_at_call 42;(with_reducible refine(impl_kindOf.calls k s0 1 _ (Tb.below hT.out HB.out) Bl.out).mono ?_);rintro e_ w9 ⟨rfl,hb⟩;(repeat first|clear Aa|clear Ag|clear Ab|clear Ah|clear Ac|clear Ai|clear Ad|clear Aj|clear Af|clear Ak|clear Al|clear Aq|clear Am|clear Ar|clear Ap|clear As);replace HOK:=y0.mk (Kd.R_below HOK.out hb);replace HOo:=y0.mk (Kd.R_below HOo.out hb);replace BKr:=y0.mk (y7 BKr.out hb);replace BKe:=y0.mk (y7 BKe.out hb);replace HM:=y0.mk (QMapI.IM.below HM.out hb);replace HB:=y0.mk (y5 HB.out hb);(try clear hb);(try clear hd_);(try clear ho);obtain⟨Aa,Ab,Ac,Ad,Af,Ag,Ah,Ai,Aj,Ak⟩:=QMapI.bx5 BKr.out;obtain⟨Al,Am,Ap,Aq,Ar,As⟩:=QMapI.bx3 BKe.out;have Ay:=Be.out _ HOo.out;have Bu:=Bf.out _ HOo.out)
           | ((try(refine y20 (by rfl) ?_;dsimp only));go_at_call 42;(with_reducible refine(impl_kindOf.calls k s1 1 _ (Tb.below hT.out HB.out) Bj.out).mono ?_);rintro e_ Cp ⟨rfl,hb⟩;(repeat first|clear Aa|clear Ag|clear Ab|clear Ah|clear Ac|clear Ai|clear Ad|clear Aj|clear Af|clear Ak|clear Al|clear Aq|clear Am|clear Ar|clear Ap|clear As);replace HOK:=y0.mk (Kd.R_below HOK.out hb);replace HOo:=y0.mk (Kd.R_below HOo.out hb);replace BKr:=y0.mk (y7 BKr.out hb);replace BKe:=y0.mk (y7 BKe.out hb);replace HM:=y0.mk (QMapI.IM.below HM.out hb);replace HB:=y0.mk (y5 HB.out hb);(try clear hb);(try clear hd_);(try clear ho);obtain⟨Aa,Ab,Ac,Ad,Af,Ag,Ah,Ai,Aj,Ak⟩:=QMapI.bx5 BKr.out;obtain⟨Al,Am,Ap,Aq,Ar,As⟩:=QMapI.bx3 BKe.out;have Ay:=Be.out _ HOo.out;have Bu:=Bf.out _ HOo.out))
          (repeat first|clear Aa|clear Ag|clear Ab|clear Ah|clear Ac|clear Ai|clear Ad|clear Aj|clear Af|clear Ak|clear Al|clear Aq|clear Am|clear Ar|clear Ap|clear As)
          (repeat first|clear Ay|clear Bu)
          refine start_ (n:=13) (S:=fun w'=>w'.cell? ⟨ge,0,none⟩=some (.int .i64 e0.f0)∧w'.cell? ado=some (.string s0)∧w'.cell? ⟨ado.block,ado.off + 1,none⟩=some (.string s1)) (ds:=[]) (fl_ 13 0) (by kernel_rfl) rfl rfl ⟨(y8 BKe.out 0).trans rfl,Be.out _ HOo.out,Bf.out _ HOo.out⟩ (fun hHeld=>?_)
          replace HOK:=y0.mk (Kd.R_drew HOK.out)
          replace HOo:=y0.mk (Kd.R_drew HOo.out)
          replace BKr:=y0.mk (y9 BKr.out)
          replace BKe:=y0.mk (y9 BKe.out)
          replace HM:=y0.mk (QMapI.IM.drew HM.out)
          replace HB:=y0.mk (below_drew1 HB.out)
          generalize Cp.drew=Do at HOK HOo BKr BKe HM HB hHeld ⊢
          refine qp 0 62 (fl_ 13 1) ?_
          refine qp 2 64 (fl_ 13 5) ?_
          refine qp 3 65 (fl_ 13 13) ?_
          refine qp 6 68 (fl_ 13 77) ?_
          refine qp 7 69 (fl_ 13 205) ?_
          refine qt 1 63 (fl_ 13 207) hHeld ?_
          refine qt 4 66 (fl_ 13 223) hHeld ?_
          refine qt 8 70 (fl_ 13 479) hHeld ?_
          refine qO 5 67 (fl_ 13 511) (fun K hK=>?_)
          refine goes_ Tryz.func45 (by kernel_rfl) rfl #[.string s0] (by rfl) rfl rfl (by(try simp only [qM_,List.map_cons,List.map_nil]);first|done|rfl) ?_
          with_reducible refine(impl_numOf.calls s0 x1 _ (Tb.below hT.out HB.out) Cy.out).mono ?_
          rintro e_ Dj ⟨rfl,hb⟩
          refine⟨_,rfl, ?_⟩
          replace HOK:=y0.mk (Kd.R_below HOK.out hb)
          replace HOo:=y0.mk (Kd.R_below HOo.out hb)
          replace BKr:=y0.mk (y7 BKr.out hb)
          replace BKe:=y0.mk (y7 BKe.out hb)
          replace HM:=y0.mk (QMapI.IM.below HM.out hb)
          replace HB:=y0.mk (y5 HB.out hb)
          clear hb
          refine hK.out _ _ ⟨(y8 BKe.out 0).trans rfl,Be.out _ HOo.out,Bf.out _ HOo.out⟩ (fun hHeld=>?_)
          clear hK K
          refine qx 67 ?_
          refine qO 9 71 (fl_ 13 1023) (fun K hK=>?_)
          refine goes_ Tryz.func45 (by kernel_rfl) rfl #[.string s1] (by rfl) rfl rfl (by(try simp only [qM_,List.map_cons,List.map_nil]);first|done|rfl) ?_
          with_reducible refine(impl_numOf.calls s1 x2 _ (Tb.below hT.out HB.out) Cz.out).mono ?_
          rintro e_ Dp ⟨rfl,hb⟩
          refine⟨_,rfl, ?_⟩
          replace HOK:=y0.mk (Kd.R_below HOK.out hb)
          replace HOo:=y0.mk (Kd.R_below HOo.out hb)
          replace BKr:=y0.mk (y7 BKr.out hb)
          replace BKe:=y0.mk (y7 BKe.out hb)
          replace HM:=y0.mk (QMapI.IM.below HM.out hb)
          replace HB:=y0.mk (y5 HB.out hb)
          clear hb
          refine hK.out _ _ ⟨(y8 BKe.out 0).trans rfl,Be.out _ HOo.out,Bf.out _ HOo.out⟩ (fun hHeld=>?_)
          clear hK K
          refine qx 71 ?_
          refine qO 10 72 (fl_ 13 2047) (fun K hK=>?_)
          refine goes_ Tryz.func44 (by kernel_rfl) rfl #[.int .i64 e0.f0,.int .i64 x1,.int .i64 x2] (by rfl) rfl rfl (by(try simp only [qM_,List.map_cons,List.map_nil]);first|done|rfl) ?_
          with_reducible refine(impl_reckon.calls e0.f0 x1 x2 x3 _ Da.out).mono ?_
          rintro e_ Dq ⟨rfl,hd_⟩
          refine⟨_,rfl, ?_⟩
          have hb:=hd_.below
          replace HOK:=y0.mk (Kd.R_below HOK.out hb)
          replace HOo:=y0.mk (Kd.R_below HOo.out hb)
          replace BKr:=y0.mk (y7 BKr.out hb)
          replace BKe:=y0.mk (y7 BKe.out hb)
          replace HM:=y0.mk (QMapI.IM.below HM.out hb)
          replace HB:=y0.mk (y5 HB.out hb)
          clear hb
          clear hd_
          refine hK.out _ _ ⟨(y8 BKe.out 0).trans rfl,Be.out _ HOo.out,Bf.out _ HOo.out⟩ (fun hHeld=>?_)
          clear hK K
          refine qx 72 ?_
          refine qO 11 73 (fl_ 13 4095) (fun K hK=>?_)
          refine goes_ Tryz.func43 (by kernel_rfl) rfl #[.int .i64 x3] (by rfl) rfl rfl (by(try simp only [qM_,List.map_cons,List.map_nil]);first|done|rfl) ?_
          with_reducible refine(impl_NumTerm.calls x3 s _ (Tb.below hT.out HB.out) Db.out).mono ?_
          rintro e_ Dr ⟨rfl,hb⟩
          refine⟨_,rfl, ?_⟩
          replace HOK:=y0.mk (Kd.R_below HOK.out hb)
          replace HOo:=y0.mk (Kd.R_below HOo.out hb)
          replace BKr:=y0.mk (y7 BKr.out hb)
          replace BKe:=y0.mk (y7 BKe.out hb)
          replace HM:=y0.mk (QMapI.IM.below HM.out hb)
          replace HB:=y0.mk (y5 HB.out hb)
          clear hb
          refine hK.out _ _ ⟨(y8 BKe.out 0).trans rfl,Be.out _ HOo.out,Bf.out _ HOo.out⟩ (fun hHeld=>?_)
          clear hK K
          refine qx 73 ?_
          refine qp 12 20 (fl_ 13 8191) ?_
          refine done_ (by kernel_rfl) ?_
          clear hHeld
          clear z0 z1 z2 z3
          by_cases ks_:s.toList=([]:List UInt8)
          ·skip
           have ksb:(s.toList == ([]:List UInt8))=true:=beq_iff_eq.mpr ks_
           have HKZ:=y0.mk ks_
           obtain⟨Aa,Ab,Ac,Ad,Af,Ag,Ah,Ai,Aj,Ak⟩:=QMapI.bx5 BKr.out
           obtain⟨Al,Am,Ap,Aq,Ar,As⟩:=QMapI.bx3 BKe.out
           go_wp2
           have HF:y0 (r1=(⟨#[]⟩:ByteArray)∧r2=2):=⟨by
            have h_:=H.out
            rw [HSTEP.out,if_pos HKZ.out]at h_
            simp only [Option.bind_some,vlFin]at h_
            injection h_ with h_
            injection h_ with h1 h2
            exact⟨h1.symm,h2.symm⟩⟩
           obtain⟨e1_,e2_⟩:=HF.out
           subst e1_
           subst e2_
           refine bodyPost_ret (results_tmp2 rfl _ _ _) rfl ?_
           exact⟨by first|rfl|(simp [y15,y16] <;> rfl),HB.out⟩
          ·skip
           have ksb:(s.toList == ([]:List UInt8))=false:=beq_eq_false_iff_ne.mpr ks_
           have HKZ:=y0.mk ks_
           clear ks_
           obtain⟨Aa,Ab,Ac,Ad,Af,Ag,Ah,Ai,Aj,Ak⟩:=QMapI.bx5 BKr.out
           obtain⟨Al,Am,Ap,Aq,Ar,As⟩:=QMapI.bx3 BKe.out
           have HN:y0 (s.size≤1099511627776∧(vlRun k At l2 l3 (xs.drop (i + 1)) (fun c=>if c=x then some (s)else F c)).bind (vlFin k a1)=some (r1,r2)):=⟨by
            have h_:=H.out
            rw [HSTEP.out,if_neg HKZ.out]at h_
            simp only [Option.bind_some]at h_
            by_cases hz:s.size≤1099511627776
            ·rw [if_pos hz]at h_
             exact⟨hz,h_⟩
            ·rw [if_neg hz]at h_
             cases h_⟩
           have HZ:=y0.mk HN.out.1
           replace HN:=y0.mk HN.out.2
           go_wp2_with (first
            | ((with_reducible refine QMapI.gate_put (m:=.tmp 76) (x:=.tmp 77) rfl ?_);(refine QMapI.put_event rfl (.tmp 76) (.tmp 77) _ rfl rfl (i:=x) rfl (s:=s) rfl HM.out (by have:=hi.out;have:=HG.out.1;unfold maxLen;omega) (HPY.out) (by have:=HZ.out;unfold maxLen;omega) ?_);intro Ds hM_ hg_;(repeat first|clear Aa|clear Ag|clear Ab|clear Ah|clear Ac|clear Ai|clear Ad|clear Aj|clear Af|clear Ak|clear Al|clear Aq|clear Am|clear Ar|clear Ap|clear As);have nHOK_:=y0.mk (QMapI.IM.row HM.out HOK.out hg_);have nHOo_:=y0.mk (QMapI.IM.row HM.out HOo.out hg_);have nBKr_:=y0.mk (QMapI.IM.blk BKr.out (Nr_m.out) hg_);have nBKe_:=y0.mk (QMapI.IM.blk BKe.out (Ne.symm Nm_e.out) hg_);have nHB_:=y0.mk (QMapI.IM.low HB.out hg_ GEm.out);have nHMn_:=y0.mk (hM_);clear HOK HOo BKr BKe HB HM hM_ hg_;have HOK:=nHOK_;clear nHOK_;have HOo:=nHOo_;clear nHOo_;have BKr:=nBKr_;clear nBKr_;have BKe:=nBKe_;clear nBKe_;have HB:=nHB_;clear nHB_;have HM:=nHMn_;clear nHMn_;obtain⟨Aa,Ab,Ac,Ad,Af,Ag,Ah,Ai,Aj,Ak⟩:=QMapI.bx5 BKr.out;obtain⟨Al,Am,Ap,Aq,Ar,As⟩:=QMapI.bx3 BKe.out))
           (repeat first|clear Aa|clear Ag|clear Ab|clear Ah|clear Ac|clear Ai|clear Ad|clear Aj|clear Af|clear Ak|clear Al|clear Aq|clear Am|clear Ar|clear Ap|clear As)
           go_roundg (xs.length - i - 1)
           case measure=>have:=HK.out;have:=hi.out;omega
           exact⟨wrap64 (xi + 1),i + 1,(fun c=>if c=x then some (s)else F c),qy2,⟨by rw [HXI.out];exact QIv.step_u (by have:=hi.out;have:=HG.out.1;omega)⟩,⟨by have:=HK.out;have:=hi.out;omega⟩,⟨HN.out⟩,⟨qR HOK.out⟩,⟨BKr.out⟩,⟨HM.out⟩,⟨HB.out⟩⟩
         ·skip
          obtain⟨Aa,Ab,Ac,Ad,Af,Ag,Ah,Ai,Aj,Ak⟩:=QMapI.bx5 BKr.out
          obtain⟨Al,Am,Ap,Aq,Ar,As⟩:=QMapI.bx3 BKe.out
          have Ay:=Be.out _ HOo.out
          have Bu:=Bf.out _ HOo.out
          have kb:(b != 1)=true:=bne_iff_ne.mpr kb_
          replace kb_:=y0.mk kb_
          go_wp2_with (first
           | (go_at_call 42;(with_reducible refine(impl_kindOf.calls k s0 1 _ (Tb.below hT.out HB.out) Bl.out).mono ?_);rintro e_ w9 ⟨rfl,hb⟩;(repeat first|clear Aa|clear Ag|clear Ab|clear Ah|clear Ac|clear Ai|clear Ad|clear Aj|clear Af|clear Ak|clear Al|clear Aq|clear Am|clear Ar|clear Ap|clear As);replace HOK:=y0.mk (Kd.R_below HOK.out hb);replace HOo:=y0.mk (Kd.R_below HOo.out hb);replace BKr:=y0.mk (y7 BKr.out hb);replace BKe:=y0.mk (y7 BKe.out hb);replace HM:=y0.mk (QMapI.IM.below HM.out hb);replace HB:=y0.mk (y5 HB.out hb);(try clear hb);(try clear hd_);(try clear ho);obtain⟨Aa,Ab,Ac,Ad,Af,Ag,Ah,Ai,Aj,Ak⟩:=QMapI.bx5 BKr.out;obtain⟨Al,Am,Ap,Aq,Ar,As⟩:=QMapI.bx3 BKe.out;have Ay:=Be.out _ HOo.out;have Bu:=Bf.out _ HOo.out)
           | ((try(refine y20 (by rfl) ?_;dsimp only));go_at_call 42;(with_reducible refine(impl_kindOf.calls k s1 b _ (Tb.below hT.out HB.out) Bj.out).mono ?_);rintro e_ Cp ⟨rfl,hb⟩;(repeat first|clear Aa|clear Ag|clear Ab|clear Ah|clear Ac|clear Ai|clear Ad|clear Aj|clear Af|clear Ak|clear Al|clear Aq|clear Am|clear Ar|clear Ap|clear As);replace HOK:=y0.mk (Kd.R_below HOK.out hb);replace HOo:=y0.mk (Kd.R_below HOo.out hb);replace BKr:=y0.mk (y7 BKr.out hb);replace BKe:=y0.mk (y7 BKe.out hb);replace HM:=y0.mk (QMapI.IM.below HM.out hb);replace HB:=y0.mk (y5 HB.out hb);(try clear hb);(try clear hd_);(try clear ho);obtain⟨Aa,Ab,Ac,Ad,Af,Ag,Ah,Ai,Aj,Ak⟩:=QMapI.bx5 BKr.out;obtain⟨Al,Am,Ap,Aq,Ar,As⟩:=QMapI.bx3 BKe.out;have Ay:=Be.out _ HOo.out;have Bu:=Bf.out _ HOo.out))
          have HF:y0 (r1=(⟨#[]⟩:ByteArray)∧r2=1):=⟨by
           have h_:=H.out
           rw [vlStep,if_neg k2_.out,if_neg k1_.out,if_neg k3_.out,if_neg k4_.out,hks.out,if_pos H2.out,Bw.out,Bl.out,Option.bind_some]at h_
           rw [if_pos rfl,Ci.out,Bj.out,Option.bind_some]at h_
           rw [if_neg kb_.out]at h_
           simp only [Option.bind_some,vlFin]at h_
           injection h_ with h_
           injection h_ with h1 h2
           exact⟨h1.symm,h2.symm⟩⟩
          obtain⟨e1_,e2_⟩:=HF.out
          subst e1_
          subst e2_
          refine bodyPost_ret (results_tmp2 rfl _ _ _) rfl ?_
          exact⟨by first|rfl|(simp [y15,y16] <;> rfl),HB.out⟩
        ·skip
         obtain⟨Aa,Ab,Ac,Ad,Af,Ag,Ah,Ai,Aj,Ak⟩:=QMapI.bx5 BKr.out
         obtain⟨Al,Am,Ap,Aq,Ar,As⟩:=QMapI.bx3 BKe.out
         have Ay:=Be.out _ HOo.out
         have Bu:=Bf.out _ HOo.out
         have ka:(a != 1)=true:=bne_iff_ne.mpr ka_
         replace ka_:=y0.mk ka_
         go_wp2_with (first
          | (go_at_call 42;(with_reducible refine(impl_kindOf.calls k s0 a _ (Tb.below hT.out HB.out) Bl.out).mono ?_);rintro e_ w9 ⟨rfl,hb⟩;(repeat first|clear Aa|clear Ag|clear Ab|clear Ah|clear Ac|clear Ai|clear Ad|clear Aj|clear Af|clear Ak|clear Al|clear Aq|clear Am|clear Ar|clear Ap|clear As);replace HOK:=y0.mk (Kd.R_below HOK.out hb);replace HOo:=y0.mk (Kd.R_below HOo.out hb);replace BKr:=y0.mk (y7 BKr.out hb);replace BKe:=y0.mk (y7 BKe.out hb);replace HM:=y0.mk (QMapI.IM.below HM.out hb);replace HB:=y0.mk (y5 HB.out hb);(try clear hb);(try clear hd_);(try clear ho);obtain⟨Aa,Ab,Ac,Ad,Af,Ag,Ah,Ai,Aj,Ak⟩:=QMapI.bx5 BKr.out;obtain⟨Al,Am,Ap,Aq,Ar,As⟩:=QMapI.bx3 BKe.out;have Ay:=Be.out _ HOo.out;have Bu:=Bf.out _ HOo.out))
         have HF:y0 (r1=(⟨#[]⟩:ByteArray)∧r2=1):=⟨by
          have h_:=H.out
          rw [vlStep,if_neg k2_.out,if_neg k1_.out,if_neg k3_.out,if_neg k4_.out,hks.out,if_pos H2.out,Bw.out,Bl.out,Option.bind_some]at h_
          rw [if_neg ka_.out]at h_
          simp only [Option.bind_some,vlFin]at h_
          injection h_ with h_
          injection h_ with h1 h2
          exact⟨h1.symm,h2.symm⟩⟩
         obtain⟨e1_,e2_⟩:=HF.out
         subst e1_
         subst e2_
         refine bodyPost_ret (results_tmp2 rfl _ _ _) rfl ?_
         exact⟨by first|rfl|(simp [y15,y16] <;> rfl),HB.out⟩
  ·skip
   have Cd:decide (xi < (xs.length:Int))=false:=decide_eq_false c
   replace H:y0 (vlFin k a1 (.inl F)=some (r1,r2)):=⟨by
    have h_:=H.out
    rw [List.drop_of_length_le (by have:=HXI.out;have:=HK.out;omega)]at h_
    exact h_⟩
   obtain⟨s,hs⟩:∃ s,(F a1).getD ⟨#[]⟩=s:=⟨_,rfl⟩
   have HS:=y0.mk hs
   clear hs
   have h_:=H.out
   rw [vlFin,HS.out]at h_
   obtain⟨z,hz_,hf_⟩:=Option.bind_eq_some_iff.1 h_
   have Dc:=y0.mk hz_
   clear hz_ h_
   by_cases kz_:z=0
   ·skip
    obtain⟨Aa,Ab,Ac,Ad,Af,Ag,Ah,Ai,Aj,Ak⟩:=QMapI.bx5 BKr.out
    have kzb:(z == 0)=true:=beq_iff_eq.mpr kz_
    rw [if_pos kz_]at hf_
    injection hf_ with hf_
    injection hf_ with h1 h2
    subst h1
    subst h2
    go_wp2_with (first
     | ((with_reducible refine y19 (N:=130) rfl ?_);refine QMapI.look_event rfl (.tmp 128) (.tmp 129) rfl rfl (i:=a1) rfl HM.out HG.out.2 ?_;rw [HS.out])
     | (go_at_call 42;(with_reducible refine(impl_kindOf.calls k s z _ (Tb.below hT.out HB.out) Dc.out).mono ?_);rintro e_ Cp ⟨rfl,hb⟩;(repeat first|clear Aa|clear Ag|clear Ab|clear Ah|clear Ac|clear Ai|clear Ad|clear Aj|clear Af|clear Ak);replace HOK:=y0.mk (Kd.R_below HOK.out hb);replace BKr:=y0.mk (y7 BKr.out hb);replace HM:=y0.mk (QMapI.IM.below HM.out hb);replace HB:=y0.mk (y5 HB.out hb);(try clear hb);(try clear hd_);(try clear ho);obtain⟨Aa,Ab,Ac,Ad,Af,Ag,Ah,Ai,Aj,Ak⟩:=QMapI.bx5 BKr.out))
    refine bodyPost_ret (results_tmp2 rfl _ _ _) rfl ?_
    exact⟨by first|rfl|(simp [y15,y16] <;> rfl),HB.out⟩
   ·skip
    obtain⟨Aa,Ab,Ac,Ad,Af,Ag,Ah,Ai,Aj,Ak⟩:=QMapI.bx5 BKr.out
    have kzb:(z == 0)=false:=beq_eq_false_iff_ne.mpr kz_
    rw [if_neg kz_]at hf_
    injection hf_ with hf_
    injection hf_ with h1 h2
    subst h1
    subst h2
    go_wp2_with (first
     | ((with_reducible refine y19 (N:=130) rfl ?_);refine QMapI.look_event rfl (.tmp 128) (.tmp 129) rfl rfl (i:=a1) rfl HM.out HG.out.2 ?_;rw [HS.out])
     | (go_at_call 42;(with_reducible refine(impl_kindOf.calls k s z _ (Tb.below hT.out HB.out) Dc.out).mono ?_);rintro e_ Dj ⟨rfl,hb⟩;(repeat first|clear Aa|clear Ag|clear Ab|clear Ah|clear Ac|clear Ai|clear Ad|clear Aj|clear Af|clear Ak);replace HOK:=y0.mk (Kd.R_below HOK.out hb);replace BKr:=y0.mk (y7 BKr.out hb);replace HM:=y0.mk (QMapI.IM.below HM.out hb);replace HB:=y0.mk (y5 HB.out hb);(try clear hb);(try clear hd_);(try clear ho);obtain⟨Aa,Ab,Ac,Ad,Af,Ag,Ah,Ai,Aj,Ak⟩:=QMapI.bx5 BKr.out)
     | ((with_reducible refine y19 (N:=135) rfl ?_);refine QMapI.look_event rfl (.tmp 133) (.tmp 134) rfl rfl (i:=a1) rfl HM.out HG.out.2 ?_;rw [HS.out]))
    refine bodyPost_ret (results_tmp2 rfl _ _ _) rfl ?_
    exact⟨by first|rfl|(simp [y15,y16] <;> rfl),HB.out⟩
end Go.Proofs.YtimhlficlhafbaaGreatDoor.Pv
end
