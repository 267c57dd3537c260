-- Cut by prune.py.
import Derived.Test.YtimhlficlhafbaaGreatDoorVvlPvx4
set_option maxHeartbeats 8000000
set_option maxRecDepth 100000
section
namespace Go.Proofs.YtimhlficlhafbaaGreatDoor.Pv
open RowKit YtimhlficlhafbaaGreatDoorW.PrintWords YtimhlficlhafbaaGreatDoorW.PrintLast YtimhlficlhafbaaGreatDoorW.PrintMore
set_option linter.unusedVariables false
set_option linter.unusedSimpArgs false
mutual
def z7_.j1:Nat→ByteArray→Int→Option (ByteArray×List ByteArray×Bool)
 | 0,_,_=>none
 | k + 1,x0,x5=>if x5=(x0.size:Int)then(some (x0,(([]:List ByteArray)),true))else(z7_.l1 k x0 x5 (([]:List ByteArray)) 0 false (wrap64 (x5 + 1)) x5)
def z7_.l1:Nat→ByteArray→Int→List ByteArray→Int→Bool→Int→Int→Option (ByteArray×List ByteArray×Bool)
 | 0,_,_,_,_,_,_,_=>none
 | k + 1,x0,x5,x6,x7,x8,x9,Ae=>if Ae < (x0.size:Int)then(if 0≤Ae then(if(bt x0 Ae)=34 then(z7_.l1 k x0 x5 x6 x7 (!x8) x9 (wrap64 (Ae + 1)))else(if x8=true then(z7_.l1 k x0 x5 x6 x7 x8 x9 (wrap64 (Ae + 1)))else(if(bt x0 Ae)=40 then(z7_.l1 k x0 x5 x6 (wrap64 (x7 + 1)) x8 x9 (wrap64 (Ae + 1)))else(if(bt x0 Ae)=41 then(if(wrap64 (x7 - 1))=0 then(if 0≤x5 then(if x5≤(x0.size:Int)then(if 0≤x9 then(if x9≤Ae then(if Ae≤(x0.size:Int)then(if x6.length < 8796093022208 then(some (x0.extract 0 (x5:Int).toNat,(x6 ++ [x0.extract (x9:Int).toNat (Ae:Int).toNat]),(Ae == (wrap64 ((x0.size:Int) - 1)))))else(none))else(none))else(none))else(none))else(none))else(none))else(z7_.l1 k x0 x5 x6 (wrap64 (x7 - 1)) x8 x9 (wrap64 (Ae + 1))))else(if(bt x0 Ae)=44 then(if x7=1 then(if 0≤x9 then(if x9≤Ae then(if Ae≤(x0.size:Int)then(if x6.length < 8796093022208 then(z7_.l1 k x0 x5 (x6 ++ [x0.extract (x9:Int).toNat (Ae:Int).toNat]) x7 x8 (wrap64 (Ae + 1)) (wrap64 (Ae + 1)))else(none))else(none))else(none))else(none))else(z7_.l1 k x0 x5 x6 x7 x8 x9 (wrap64 (Ae + 1))))else(z7_.l1 k x0 x5 x6 x7 x8 x9 (wrap64 (Ae + 1))))))))else(none))else(some ((⟨#[]⟩:ByteArray),(([]:List ByteArray)),false))
def z7_.l0:Nat→ByteArray→Int→Option (ByteArray×List ByteArray×Bool)
 | 0,_,_=>none
 | k + 1,x0,x5=>if x5 < (x0.size:Int)then(if 0≤x5 then(if(bt x0 x5)=40 then(z7_.j1 k x0 x5)else(z7_.l0 k x0 (wrap64 (x5 + 1))))else(none))else(z7_.j1 k x0 x5)
end
def z7_.f (k:Nat) (a0:ByteArray):Option (ByteArray×List ByteArray×Bool):=z7_.l0 k a0 0
def z7_.T21:Bool×List (List Nat×List Nat):=(true,[([],[]),([],[]),([0,1],[0,1]),([],[]),([],[]),([],[]),([],[]),([4,5,6],[4,5,6]),([7],[7]),([3,8],[3,8]),([],[]),([],[]),([11],[11]),([12],[12]),([10,13],[10,13]),([2,9,0,1,2],[2]),([9,15,0,1,2,3,4,5,6,7,8,9,15],[9]),([14,16,0,1,2,3,4,5,6,7,8,9,10,11,12,13,14,15,16],[14])])
def z7_.B21:List Nat:=[0,0,3,0,0,0,0,112,240,504,0,0,2048,6144,15360,1023,33791,131071]
theorem z7_.tab21:rtab .any (opsOf Tryz.f51 21)=z7_.T21:=by kernel_rfl
theorem z7_.bits21:waitsOk z7_.T21.2 z7_.B21=true:=by kernel_rfl
theorem z7_.calls (k:Nat) (a0:ByteArray) (r1:ByteArray) (r2:List ByteArray) (r3:Bool) (w:World) (h:z7_.f k a0=some (r1,r2,r3)) :
  Calls Tryz.prog 51 #[.string a0] w fun e w'=>∃ v1_:Value,e=.returned (.tuple #[.string r1,v1_,.bool r3])∧Kd.R Kd.string 9 w' w.heap.size (fun _=>True) v1_ r2∧Below w.heap.size w w':=by
 have HB:=y0.mk (Below.refl w.heap.size w)
 have H:(z7_.l0 k a0 0)=some (r1,r2,r3):=h
 clear h
 have Cu:=y0.mk H
 clear H
 go_enter Tryz.func51,Tryz.ntmps51
 go_upto_block 0 with(fail)
 go_cut [5] (fun v5 wc=>∃(kq:Nat) (Ab:Int),v5=.int .i64 Ab∧y0 (z7_.j1 kq a0 Ab=some (r1,r2,r3))∧y0 (kq≤k)∧y0 (Below w.heap.size w wc))
 case first =>
  have H:=Cu.out
  clear Cu
  have H':=y0.mk H
  clear H
  go_wp2
  go_loopg [5] k (fun kq v5 w'=>∃(Ab:Int),v5=.int .i64 Ab∧y0 (z7_.l0 kq a0 Ab=some (r1,r2,r3))∧y0 (kq≤k)∧y0 (Below w.heap.size w w'))
  case atStart=>exact⟨(0),qy2,H',⟨Nat.le_refl _⟩,⟨qb⟩⟩
  case round =>
   clear H'
   obtain⟨Ab,rfl,HA,Cs,HB⟩:=hrel
   cases gk with
   | zero=>exact absurd HA.out (by simp [z7_.l0])
   | succ k1 =>
    have H:=HA.out
    clear HA
    simp only [z7_.l0]at H
    by_cases c3:Ab < (a0.size:Int)
    ·rw [if_pos c3]at H
     have Ay:=decide_eq_true c3
     clear c3
     (first|rw [Ay]|(simp only [i64_w,i32_w];rw [Ay])|skip)
     obtain⟨c4,H⟩:=qo H
     have Ee:decide (0≤Ab)=true:=decide_eq_true c4
     clear c4
     by_cases c6:(bt a0 Ab)=40
     ·rw [if_pos c6]at H
      have Cv:((bt a0 Ab) == 40)=true:=beq_iff_eq.mpr c6
      have Cw:((bt a0 Ab) != 40)=false:=bne_eq_false_iff_eq.mpr c6
      clear c6
      have H':=y0.mk H
      clear H
      have p5:0≤(Ab:Int):=qd
      have q5:Ab < (a0.size:Int):=qd
      have Ef:=bt_at a0 Ab
      replace p5:=eq_true p5
      replace q5:=eq_true q5
      go_wp2
      go_meet
      exact⟨_,(Ab),qy2,H',⟨by have:=Cs.out;first|omega|exact Nat.le_refl _⟩,⟨qb⟩⟩
     ·rw [if_neg c6]at H
      have Cv:((bt a0 Ab) == 40)=false:=beq_eq_false_iff_ne.mpr c6
      have Cw:((bt a0 Ab) != 40)=true:=bne_iff_ne.mpr c6
      have H':=y0.mk H
      clear H
      have p5:0≤(Ab:Int):=qd
      have q5:Ab < (a0.size:Int):=qd
      have Ef:=bt_at a0 Ab
      replace p5:=eq_true p5
      replace q5:=eq_true q5
      go_wp2
      go_roundg k1
      case measure=>have:=Cs.out;omega
      exact⟨(wrap64 (Ab + 1)),qy2,H',⟨by have:=Cs.out;omega⟩,⟨qb⟩⟩
    ·rw [if_neg c3]at H
     have Ay:=decide_eq_false c3
     clear c3
     (first|rw [Ay]|(simp only [i64_w,i32_w];rw [Ay])|skip)
     have H':=y0.mk H
     clear H
     go_wp2
     go_meet
     exact⟨_,(Ab),qy2,H',⟨by have:=Cs.out;first|omega|exact Nat.le_refl _⟩,⟨qb⟩⟩
 case rest =>
  clear Cu
  obtain⟨kq,Ab,rfl,HA,At,HB⟩:=hcut
  cases kq with
  | zero=>exact absurd HA.out (by simp [z7_.j1])
  | succ Cx =>
   have H:=HA.out
   clear HA
   simp only [z7_.j1]at H
   by_cases c7:Ab=(a0.size:Int)
   ·rw [if_pos c7]at H
    have Bp:(Ab == (a0.size:Int))=true:=beq_iff_eq.mpr c7
    have Bq:(Ab != (a0.size:Int))=false:=bne_eq_false_iff_eq.mpr c7
    clear c7
    obtain⟨Cy,Aj⟩:∃ y_:List ByteArray,y_=(([]:List ByteArray)):=⟨_,rfl⟩
    replace H:(some (a0,Cy,true))=some (r1,r2,r3):=by first|exact Aj ▸ H|exact Aj ▸ (Option.bind_some _ _).symm.trans H
    replace Aj:=y0.mk Aj
    simp only [Option.some.injEq,Prod.mk.injEq]at H
    obtain⟨rfl,rfl,rfl⟩:=H
    go_wp2_with (first|((with_reducible refine y19 (N:=28) rfl ?_);refine qL Kd.string 9 28 ([]:List ByteArray) ?_;intro Eg w8 Br hb hg_ hnew_;clear hg_ hnew_;(first|rw [← Aj.out]at Br|(simp only [Int.reduceToNat]at Br;rw [← Aj.out]at Br));have Bs:=y0.mk (Kd.R_lower Br (y4 qb));replace HB:=y0.mk (y5 qb hb);clear hb Br))
    go_ret3
    exact⟨_,by first|rfl|(simp [y15,y16] <;> rfl)|(simp [*,y15,y16] <;> rfl),by(with_reducible repeat(first|apply Kd.R_alloc|apply Kd.R_drewN|apply Kd.R_drew));exact Bs.out,qb⟩
   ·rw [if_neg c7]at H
    have Bp:(Ab == (a0.size:Int))=false:=beq_eq_false_iff_ne.mpr c7
    have Bq:(Ab != (a0.size:Int))=true:=bne_iff_ne.mpr c7
    obtain⟨Bt,Ak⟩:∃ y_:List ByteArray,y_=(([]:List ByteArray)):=⟨_,rfl⟩
    replace H:(z7_.l1 Cx a0 Ab Bt 0 false (wrap64 (Ab + 1)) Ab)=some (r1,r2,r3):=by first|exact Ak ▸ H|exact Ak ▸ (Option.bind_some _ _).symm.trans H
    replace Ak:=y0.mk Ak
    have H':=y0.mk H
    clear H
    go_wp2_with (first|((with_reducible refine y19 (N:=29) rfl ?_);refine qL Kd.string 9 29 ([]:List ByteArray) ?_;intro Eh Em Az hb hg_ hnew_;clear hg_ hnew_;(first|rw [← Ak.out]at Az|(simp only [Int.reduceToNat]at Az;rw [← Ak.out]at Az));have Bu:=y0.mk (Kd.R_lower Az (y4 qb));replace HB:=y0.mk (y5 qb hb);clear hb Az))
    go_loopg [6,7,8,9,10] Cx (fun kq v6 v7 v8 v9 Ei w'=>∃(Ag:List ByteArray) (Ac:Int) (Ba:Bool) (Af:Int) (Aa:Int),v7=.int .i64 Ac∧v8=.bool Ba∧v9=.int .i64 Af∧Ei=.int .i64 Aa∧y0 (z7_.l1 kq a0 Ab Ag Ac Ba Af Aa=some (r1,r2,r3))∧y0 (kq≤Cx)∧y0 (Kd.R Kd.string 9 w' w.heap.size (fun _=>True) v6 Ag)∧y0 (Below w.heap.size w w'))
    case atStart=>exact⟨(Bt),(0),(false),(wrap64 (Ab + 1)),(Ab),qy2,qy2,qy2,qy2,H',⟨Nat.le_refl _⟩,⟨qR Bu.out⟩,⟨qb⟩⟩
    case round =>
     clear H'
     (try clear Bp Bq)
     obtain⟨Ag,Ac,Ba,Af,Aa,rfl,rfl,rfl,rfl,HA,Au,Ad,HB⟩:=hrel
     cases gk with
     | zero=>exact absurd HA.out (by simp [z7_.l1])
     | succ k2 =>
      have H:=HA.out
      clear HA
      simp only [z7_.l1]at H
      by_cases Bo:Aa < (a0.size:Int)
      ·rw [if_pos Bo]at H
       have Bv:=decide_eq_true Bo
       clear Bo
       obtain⟨Dj,H⟩:=qo H
       have Dk:decide (0≤Aa)=true:=decide_eq_true Dj
       clear Dj
       by_cases Bi:(bt a0 Aa)=34
       ·rw [if_pos Bi]at H
        have Bw:((bt a0 Aa) == 34)=true:=beq_iff_eq.mpr Bi
        have Bx:((bt a0 Aa) != 34)=false:=bne_eq_false_iff_eq.mpr Bi
        clear Bi
        have H':=y0.mk H
        clear H
        have Ah:0≤(Aa:Int):=qd
        have Ai:Aa < (a0.size:Int):=qd
        have As:=bt_at a0 Aa
        replace Ah:=eq_true Ah
        replace Ai:=eq_true Ai
        go_wp2
        go_roundg k2
        case measure=>have:=At.out;have:=Au.out;omega
        exact⟨(Ag),(Ac),(!Ba),(Af),(wrap64 (Aa + 1)),qy2,qy2,qy2,qy2,H',⟨by have:=At.out;have:=Au.out;omega⟩,⟨qR Ad.out⟩,⟨qb⟩⟩
       ·rw [if_neg Bi]at H
        have Bw:((bt a0 Aa) == 34)=false:=beq_eq_false_iff_ne.mpr Bi
        have Bx:((bt a0 Aa) != 34)=true:=bne_iff_ne.mpr Bi
        by_cases Ct:Ba=true
        ·subst Ct
         replace H:=qT H
         have H':=y0.mk H
         clear H
         have Ah:0≤(Aa:Int):=qd
         have Ai:Aa < (a0.size:Int):=qd
         have As:=bt_at a0 Aa
         replace Ah:=eq_true Ah
         replace Ai:=eq_true Ai
         go_wp2
         go_roundg k2
         case measure=>have:=At.out;have:=Au.out;omega
         exact⟨(Ag),(Ac),(true),(Af),(wrap64 (Aa + 1)),qy2,qy2,qy2,qy2,H',⟨by have:=At.out;have:=Au.out;omega⟩,⟨qR Ad.out⟩,⟨qb⟩⟩
        ·replace Ct:=Bool.eq_false_iff.mpr Ct
         subst Ct
         replace H:=qF H
         by_cases Bj:(bt a0 Aa)=40
         ·rw [if_pos Bj]at H
          have Bz:((bt a0 Aa) == 40)=true:=beq_iff_eq.mpr Bj
          have Ca:((bt a0 Aa) != 40)=false:=bne_eq_false_iff_eq.mpr Bj
          clear Bj
          have H':=y0.mk H
          clear H
          have Ah:0≤(Aa:Int):=qd
          have Ai:Aa < (a0.size:Int):=qd
          have As:=bt_at a0 Aa
          replace Ah:=eq_true Ah
          replace Ai:=eq_true Ai
          have Al:0≤(Aa:Int):=qd
          have Am:Aa < (a0.size:Int):=qd
          have Bb:=bt_at a0 Aa
          replace Al:=eq_true Al
          replace Am:=eq_true Am
          go_wp2
          go_roundg k2
          case measure=>have:=At.out;have:=Au.out;omega
          exact⟨(Ag),(wrap64 (Ac + 1)),(false),(Af),(wrap64 (Aa + 1)),qy2,qy2,qy2,qy2,H',⟨by have:=At.out;have:=Au.out;omega⟩,⟨qR Ad.out⟩,⟨qb⟩⟩
         ·rw [if_neg Bj]at H
          have Bz:((bt a0 Aa) == 40)=false:=beq_eq_false_iff_ne.mpr Bj
          have Ca:((bt a0 Aa) != 40)=true:=bne_iff_ne.mpr Bj
          by_cases Bk:(bt a0 Aa)=41
          ·rw [if_pos Bk]at H
           have Cb:((bt a0 Aa) == 41)=true:=beq_iff_eq.mpr Bk
           have Cc:((bt a0 Aa) != 41)=false:=bne_eq_false_iff_eq.mpr Bk
           clear Bk
           by_cases Bl:(wrap64 (Ac - 1))=0
           ·rw [if_pos Bl]at H
            have Cd:((wrap64 (Ac - 1)) == 0)=true:=beq_iff_eq.mpr Bl
            have Ce:((wrap64 (Ac - 1)) != 0)=false:=bne_eq_false_iff_eq.mpr Bl
            clear Bl
            obtain⟨Cz,H⟩:=qo H
            have Dl:=eq_true Cz
            have Dm:=decide_eq_true Cz
            clear Cz
            obtain⟨Da,H⟩:=qo H
            have Do:=eq_true Da
            have Dp:=decide_eq_true Da
            clear Da
            obtain⟨Db,H⟩:=qo H
            have Dq:=eq_true Db
            have Dr:=decide_eq_true Db
            clear Db
            obtain⟨Dc,H⟩:=qo H
            have Ds:=eq_true Dc
            have Dt:=decide_eq_true Dc
            clear Dc
            obtain⟨Dd,H⟩:=qo H
            have Du:=eq_true Dd
            have Dv:=decide_eq_true Dd
            clear Dd
            obtain⟨Dw,H⟩:=qo H
            replace Dw:=y0.mk Dw
            obtain⟨De,Ap⟩:∃ y_:List ByteArray,y_=(Ag ++ [a0.extract (Af:Int).toNat (Aa:Int).toNat]):=⟨_,rfl⟩
            replace H:(some (a0.extract 0 (Ab:Int).toNat,De,(Aa == (wrap64 ((a0.size:Int) - 1)))))=some (r1,r2,r3):=by first|exact Ap ▸ H|exact Ap ▸ (Option.bind_some _ _).symm.trans H
            replace Ap:=y0.mk Ap
            simp only [Option.some.injEq,Prod.mk.injEq]at H
            obtain⟨rfl,rfl,rfl⟩:=H
            have Ah:0≤(Aa:Int):=qd
            have Ai:Aa < (a0.size:Int):=qd
            have As:=bt_at a0 Aa
            replace Ah:=eq_true Ah
            replace Ai:=eq_true Ai
            have Al:0≤(Aa:Int):=qd
            have Am:Aa < (a0.size:Int):=qd
            have Bb:=bt_at a0 Aa
            replace Al:=eq_true Al
            replace Am:=eq_true Am
            have Av:0≤(Aa:Int):=qd
            have Aw:Aa < (a0.size:Int):=qd
            have Bc:=bt_at a0 Aa
            replace Av:=eq_true Av
            replace Aw:=eq_true Aw
            try go_wp2
            replace Ad:=y0.mk (Kd.R_drew Ad.out)
            replace HB:=y0.mk (below_drew1 HB.out)
            refine start_ (n:=18) (S:=fun w'=>True) (ds:=[]) (fl_ 18 0) (by kernel_rfl) rfl rfl trivial (fun hHeld=>?_);refine with_tabW z7_.tab21 z7_.bits21 (fun HT_ HW_=>?_)
            generalize wr.drew=En at Ad HB hHeld ⊢
            refine qp6 0 64 18 ?_
            refine qp2 6 70 18 ?_
            refine qp 10 74 (fl_ 18 1279) ?_
            refine qp 11 75 (fl_ 18 3327) ?_
            refine qp 12 76 (fl_ 18 7423) ?_
            refine qp 13 77 (fl_ 18 15615) ?_
            refine qp 14 78 (fl_ 18 31999) ?_
            refine qO 8 72 (fl_ 18 32255) (fun K hK=>?_)
            refine value_ (w1:=?_) (v:=?_) (by rfl) rfl ?_ ?_
            rotate_left 2
            ·go_simp
             constructor
             ·rfl
             ·rfl
            refine hK.out _ _ trivial (fun hHeld=>?_)
            clear hK K
            refine qx 72 ?_
            refine qO 9 73 (fl_ 18 32767) (fun K hK=>?_)
            refine Kd.R_append_step Kd.string (w0:=w) w.heap.size (by rfl) (.tmp 67) (.tmp 72) 29 9 (.string ⟨#[]⟩) 16 rfl Tryz.underlying29 info9 rfl (by decide) (by omega) u6 Ag (a0.extract (Af:Int).toNat (Aa:Int).toNat) [.string (a0.extract (Af:Int).toNat (Aa:Int).toNat)] (fun _=>True) (fun _=>False) rfl rfl ?aP (fun _ hk=>hk.elim) ?aF ?aO ?aB ?aS ?aL ?_
            (case aP=>exact rfl)
            (case aB=>exact qb)
            (case aF=>exact(fun _ _=>trivial))
            (case aO=>exact(qR Ad.out))
            (case aS=>exact(y4 qb))
            (case aL=>have:=Dw.out;omega)
            intro Ej Eo ho hb hg hat
            rw [← Ap.out]at ho
            replace HB:=y0.mk (hb)
            have Ch:=y0.mk (ho)
            clear Ad
            clear ho hb hg hat
            refine hK.out _ _ trivial (fun hHeld=>?_)
            clear hK K
            refine qx 73 ?_
            refine qp3 15 2 18 ?_
            refine done_ (done_of HT_.out (by kernel_rfl)) ?_
            try go_wp2
            go_ret3
            exact⟨_,by first|rfl|(simp [y15,y16] <;> rfl)|(simp [*,y15,y16] <;> rfl),by(with_reducible repeat(first|apply Kd.R_alloc|apply Kd.R_drewN|apply Kd.R_drew));exact Ch.out,qb⟩
           ·rw [if_neg Bl]at H
            have Cd:((wrap64 (Ac - 1)) == 0)=false:=beq_eq_false_iff_ne.mpr Bl
            have Ce:((wrap64 (Ac - 1)) != 0)=true:=bne_iff_ne.mpr Bl
            have H':=y0.mk H
            clear H
            have Ah:0≤(Aa:Int):=qd
            have Ai:Aa < (a0.size:Int):=qd
            have As:=bt_at a0 Aa
            replace Ah:=eq_true Ah
            replace Ai:=eq_true Ai
            have Al:0≤(Aa:Int):=qd
            have Am:Aa < (a0.size:Int):=qd
            have Bb:=bt_at a0 Aa
            replace Al:=eq_true Al
            replace Am:=eq_true Am
            have Av:0≤(Aa:Int):=qd
            have Aw:Aa < (a0.size:Int):=qd
            have Bc:=bt_at a0 Aa
            replace Av:=eq_true Av
            replace Aw:=eq_true Aw
            go_wp2
            go_roundg k2
            case measure=>have:=At.out;have:=Au.out;omega
            exact⟨(Ag),(wrap64 (Ac - 1)),(false),(Af),(wrap64 (Aa + 1)),qy2,qy2,qy2,qy2,H',⟨by have:=At.out;have:=Au.out;omega⟩,⟨qR Ad.out⟩,⟨qb⟩⟩
          ·rw [if_neg Bk]at H
           have Cb:((bt a0 Aa) == 41)=false:=beq_eq_false_iff_ne.mpr Bk
           have Cc:((bt a0 Aa) != 41)=true:=bne_iff_ne.mpr Bk
           by_cases Bm:(bt a0 Aa)=44
           ·rw [if_pos Bm]at H
            have Ci:((bt a0 Aa) == 44)=true:=beq_iff_eq.mpr Bm
            have Cj:((bt a0 Aa) != 44)=false:=bne_eq_false_iff_eq.mpr Bm
            clear Bm
            by_cases Bn:Ac=1
            ·rw [if_pos Bn]at H
             have Ck:(Ac == 1)=true:=beq_iff_eq.mpr Bn
             have Cl:(Ac != 1)=false:=bne_eq_false_iff_eq.mpr Bn
             clear Bn
             obtain⟨Df,H⟩:=qo H
             have Dx:=eq_true Df
             have Dy:=decide_eq_true Df
             clear Df
             obtain⟨Dg,H⟩:=qo H
             have Dz:=eq_true Dg
             have Ea:=decide_eq_true Dg
             clear Dg
             obtain⟨Dh,H⟩:=qo H
             have Eb:=eq_true Dh
             have Ec:=decide_eq_true Dh
             clear Dh
             obtain⟨Ed,H⟩:=qo H
             replace Ed:=y0.mk Ed
             obtain⟨Cn,Aq⟩:∃ y_:List ByteArray,y_=(Ag ++ [a0.extract (Af:Int).toNat (Aa:Int).toNat]):=⟨_,rfl⟩
             replace H:(z7_.l1 k2 a0 Ab Cn Ac false (wrap64 (Aa + 1)) (wrap64 (Aa + 1)))=some (r1,r2,r3):=by first|exact Aq ▸ H|exact Aq ▸ (Option.bind_some _ _).symm.trans H
             replace Aq:=y0.mk Aq
             have H':=y0.mk H
             clear H
             have Ah:0≤(Aa:Int):=qd
             have Ai:Aa < (a0.size:Int):=qd
             have As:=bt_at a0 Aa
             replace Ah:=eq_true Ah
             replace Ai:=eq_true Ai
             have Al:0≤(Aa:Int):=qd
             have Am:Aa < (a0.size:Int):=qd
             have Bb:=bt_at a0 Aa
             replace Al:=eq_true Al
             replace Am:=eq_true Am
             have Av:0≤(Aa:Int):=qd
             have Aw:Aa < (a0.size:Int):=qd
             have Bc:=bt_at a0 Aa
             replace Av:=eq_true Av
             replace Aw:=eq_true Aw
             have Bf:0≤(Aa:Int):=qd
             have Bg:Aa < (a0.size:Int):=qd
             have Cp:=bt_at a0 Aa
             replace Bf:=eq_true Bf
             replace Bg:=eq_true Bg
             go_wp2_with (first|((with_reducible refine gate_builtin (b:=.append) (xs:=#[.tmp 88,.tmp 93]) rfl ?_);at_builtin;refine Kd.R_append Kd.string (w0:=w) w.heap.size rfl (.tmp 88) (.tmp 93) 29 9 (.string ⟨#[]⟩) 16 rfl Tryz.underlying29 info9 rfl (by decide) (by omega) u6 Ag (a0.extract (Af:Int).toNat (Aa:Int).toNat) [.string (a0.extract (Af:Int).toNat (Aa:Int).toNat)] (fun _=>True) (fun _=>False) rfl rfl ?aP (fun _ hk=>hk.elim) ?aF ?aO ?aB ?aS ?aL ?_;(case aP=>exact rfl);(case aB=>exact qb);(case aF=>exact(fun _ _=>trivial));(case aO=>exact(qR Ad.out));(case aS=>exact(y4 qb));(case aL=>have:=Ed.out;omega);intro Ek Ep ho hb hg hat;rw [← Aq.out]at ho;replace HB:=y0.mk (hb);have Cq:=y0.mk (ho);clear Ad;clear ho hb hg hat))
             go_roundg k2
             case measure=>have:=At.out;have:=Au.out;omega
             exact⟨(Cn),(Ac),(false),(wrap64 (Aa + 1)),(wrap64 (Aa + 1)),qy2,qy2,qy2,qy2,H',⟨by have:=At.out;have:=Au.out;omega⟩,⟨qR Cq.out⟩,⟨qb⟩⟩
            ·rw [if_neg Bn]at H
             have Ck:(Ac == 1)=false:=beq_eq_false_iff_ne.mpr Bn
             have Cl:(Ac != 1)=true:=bne_iff_ne.mpr Bn
             have H':=y0.mk H
             clear H
             have Ah:0≤(Aa:Int):=qd
             have Ai:Aa < (a0.size:Int):=qd
             have As:=bt_at a0 Aa
             replace Ah:=eq_true Ah
             replace Ai:=eq_true Ai
             have Al:0≤(Aa:Int):=qd
             have Am:Aa < (a0.size:Int):=qd
             have Bb:=bt_at a0 Aa
             replace Al:=eq_true Al
             replace Am:=eq_true Am
             have Av:0≤(Aa:Int):=qd
             have Aw:Aa < (a0.size:Int):=qd
             have Bc:=bt_at a0 Aa
             replace Av:=eq_true Av
             replace Aw:=eq_true Aw
             have Bf:0≤(Aa:Int):=qd
             have Bg:Aa < (a0.size:Int):=qd
             have Cp:=bt_at a0 Aa
             replace Bf:=eq_true Bf
             replace Bg:=eq_true Bg
             go_wp2
             go_roundg k2
             case measure=>have:=At.out;have:=Au.out;omega
             exact⟨(Ag),(Ac),(false),(Af),(wrap64 (Aa + 1)),qy2,qy2,qy2,qy2,H',⟨by have:=At.out;have:=Au.out;omega⟩,⟨qR Ad.out⟩,⟨qb⟩⟩
           ·rw [if_neg Bm]at H
            have Ci:((bt a0 Aa) == 44)=false:=beq_eq_false_iff_ne.mpr Bm
            have Cj:((bt a0 Aa) != 44)=true:=bne_iff_ne.mpr Bm
            have H':=y0.mk H
            clear H
            have Ah:0≤(Aa:Int):=qd
            have Ai:Aa < (a0.size:Int):=qd
            have As:=bt_at a0 Aa
            replace Ah:=eq_true Ah
            replace Ai:=eq_true Ai
            have Al:0≤(Aa:Int):=qd
            have Am:Aa < (a0.size:Int):=qd
            have Bb:=bt_at a0 Aa
            replace Al:=eq_true Al
            replace Am:=eq_true Am
            have Av:0≤(Aa:Int):=qd
            have Aw:Aa < (a0.size:Int):=qd
            have Bc:=bt_at a0 Aa
            replace Av:=eq_true Av
            replace Aw:=eq_true Aw
            have Bf:0≤(Aa:Int):=qd
            have Bg:Aa < (a0.size:Int):=qd
            have Cp:=bt_at a0 Aa
            replace Bf:=eq_true Bf
            replace Bg:=eq_true Bg
            go_wp2
            go_roundg k2
            case measure=>have:=At.out;have:=Au.out;omega
            exact⟨(Ag),(Ac),(false),(Af),(wrap64 (Aa + 1)),qy2,qy2,qy2,qy2,H',⟨by have:=At.out;have:=Au.out;omega⟩,⟨qR Ad.out⟩,⟨qb⟩⟩
      ·rw [if_neg Bo]at H
       have Bv:=decide_eq_false Bo
       clear Bo
       obtain⟨Di,Ar⟩:∃ y_:List ByteArray,y_=(([]:List ByteArray)):=⟨_,rfl⟩
       replace H:(some ((⟨#[]⟩:ByteArray),Di,false))=some (r1,r2,r3):=by first|exact Ar ▸ H|exact Ar ▸ (Option.bind_some _ _).symm.trans H
       replace Ar:=y0.mk Ar
       simp only [Option.some.injEq,Prod.mk.injEq]at H
       obtain⟨rfl,rfl,rfl⟩:=H
       go_wp2_with (first|((with_reducible refine y19 (N:=97) rfl ?_);refine qL Kd.string 9 97 ([]:List ByteArray) ?_;intro El Er Ax hb hg_ hnew_;clear hg_ hnew_;(first|rw [← Ar.out]at Ax|(simp only [Int.reduceToNat]at Ax;rw [← Ar.out]at Ax));have Cr:=y0.mk (Kd.R_lower (Kd.R_new' Ax (Kd.R_lt (qR Ad.out))) (y4 qb));replace Ad:=y0.mk (Kd.R_elder' (qR Ad.out) (Kd.R_base Ax) hb);replace HB:=y0.mk (y5 qb hb);clear hb Ax))
       go_ret3
       exact⟨_,by first|rfl|(simp [y15,y16] <;> rfl)|(simp [*,y15,y16] <;> rfl),by(with_reducible repeat(first|apply Kd.R_alloc|apply Kd.R_drewN|apply Kd.R_drew));exact Kd.R_mono Cr.out (fun _ hk=>trivial),qb⟩
mutual
def z6_.j0:Nat→ByteArray→Bool→Option (Int)
 | 0,_,_=>none
 | k + 1,x0,Ae=>if Ae=true then(some 0)else((z9_.f k x0).bind fun bt245=>(if bt245.2=true then(some 1)else(if 0 < (x0.size:Int)then(if(bt x0 0)=34 then((z8_.f (x0.size:Int) 2 22).bind fun An=>(if An=true then(if 0≤(wrap64 ((x0.size:Int) - 1))then(if(wrap64 ((x0.size:Int) - 1)) < (x0.size:Int)then(z6_.j1 k x0 ((bt x0 (wrap64 ((x0.size:Int) - 1))) != 34))else(none))else(none))else(z6_.j1 k x0 true)))else((z7_.f k x0).bind fun bt249=>(if bt249.2.2=true then((spec_l01Name.f k bt249.1 true).bind fun Ao=>(z6_.j3 k bt249.2.1 (!Ao)))else(z6_.j3 k bt249.2.1 true))))else(none))))
def z6_.j1:Nat→ByteArray→Bool→Option (Int)
 | 0,_,_=>none
 | k + 1,x0,Ae=>if Ae=true then(some 0)else(z6_.l0 k x0 1)
def z6_.l0:Nat→ByteArray→Int→Option (Int)
 | 0,_,_=>none
 | k + 1,x0,x5=>if(wrap64 (x5 + 1)) < (x0.size:Int)then(if 0≤x5 then(if x5 < (x0.size:Int)then((z8_.f (wrap64 (bt x0 x5)) 32 126).bind fun Ae=>(if Ae=true then(if(bt x0 x5)=34 then(some 0)else(if(bt x0 x5)=92 then(some 0)else(z6_.l0 k x0 (wrap64 (x5 + 1)))))else(some 0)))else(none))else(none))else(some 2)
def z6_.j3:Nat→List ByteArray→Bool→Option (Int)
 | 0,_,_=>none
 | k + 1,x7,Ae=>if Ae=true then(some 0)else(z6_.l1 k x7 0)
def z6_.l1:Nat→List ByteArray→Int→Option (Int)
 | 0,_,_=>none
 | k + 1,x7,x9=>if x9 < (x7.length:Int)then(if 0≤x9 then((z6_.f k (rdOf ByteArray.empty x7 x9)).bind fun Ae=>(if Ae=0 then(some 0)else(z6_.l1 k x7 (wrap64 (x9 + 1)))))else(none))else(some 3)
def z6_.f:Nat→ByteArray→Option (Int)
 | 0,_=>none
 | k + 1,a0=>if a0.toList=([]:List UInt8)then(z6_.j0 k a0 true)else(z6_.j0 k a0 (decide ((a0.size:Int) > 200)))
end
theorem z6_.calls (k:Nat):∀(a0:ByteArray) (r:Int) (w:World) (h:z6_.f k a0=some r),
  Calls Tryz.prog 35 #[.string a0] w fun e w'=>e=.returned (.int .i64 r)∧Below w.heap.size w w':=by
 induction k using Nat.strongRecOn with
 | _ k ih =>
 intro a0 r w h
 cases k with
 | zero=>exact absurd h (by simp [z6_.f])
 | succ k =>
 simp only [z6_.f]at h
 have HB:=y0.mk (Below.refl w.heap.size w)
 have H:(if a0.toList=([]:List UInt8)then(z6_.j0 k a0 true)else(z6_.j0 k a0 (decide ((a0.size:Int) > 200))))=some r:=h
 clear h
 have Cm:=y0.mk H
 clear H
 go_enter Tryz.func35,Tryz.ntmps35
 go_upto_region 1 with(fail)
 go_cut [16] (fun Dp wc=>∃(kq:Nat) (Ak:Bool),Dp=.bool Ak∧y0 (z6_.j0 kq a0 Ak=some r)∧y0 (kq≤k)∧y0 (Below w.heap.size w wc))
 case first =>
  have H:=Cm.out
  clear Cm
  by_cases c3:a0.toList=([]:List UInt8)
  ·rw [if_pos c3]at H
   have Al:(a0.toList == ([]:List UInt8))=true:=beq_iff_eq.mpr c3
   have Cn:(a0.toList != ([]:List UInt8))=false:=bne_eq_false_iff_eq.mpr c3
   clear c3
   (first|rw [Al]|(simp only [i64_w,i32_w];rw [Al])|skip)
   have H':=y0.mk H
   clear H
   go_wp2
   go_meet
   exact⟨_,(true),qy2,H',⟨by first|omega|exact Nat.le_refl _⟩,⟨qb⟩⟩
  ·rw [if_neg c3]at H
   have Al:(a0.toList == ([]:List UInt8))=false:=beq_eq_false_iff_ne.mpr c3
   have Cn:(a0.toList != ([]:List UInt8))=true:=bne_iff_ne.mpr c3
   (first|rw [Al]|(simp only [i64_w,i32_w];rw [Al])|skip)
   have H':=y0.mk H
   clear H
   go_wp2
   go_meet
   exact⟨_,(decide ((a0.size:Int) > 200)),qy2,H',⟨by first|omega|exact Nat.le_refl _⟩,⟨qb⟩⟩
 case rest =>
  clear Cm
  obtain⟨kq,Ak,rfl,HA,At,HB⟩:=hcut
  cases kq with
  | zero=>exact absurd HA.out (by simp [z6_.j0])
  | succ Am =>
   have H:=HA.out
   clear HA
   simp only [z6_.j0]at H
   by_cases c4:Ak=true
   ·subst c4
    replace H:=qT H
    obtain rfl:=Option.some.inj H
    go_wp2
    go_ret
    exact⟨qf,qb⟩
   ·replace c4:=Bool.eq_false_iff.mpr c4
    subst c4
    replace H:=qF H
    obtain⟨⟨Ba,Co⟩,A5,H⟩:=qB H
    dsimp only at H
    by_cases c6:Co=true
    ·subst c6
     replace H:=qT H
     obtain rfl:=Option.some.inj H
     go_wp2_with (first|((with_reducible refine y18 (f:=50) rfl ?_);refine y21 (some 19) rfl rfl Tryz.func50 (by kernel_rfl) rfl #[.string a0] rfl qy1 ?_;(with_reducible refine(z9_.calls Am a0 Ba true _ A5.out).mono ?_);rintro e w7 ⟨rfl,hb⟩;refine⟨_,rfl, ?_⟩;replace HB:=y0.mk (y5 qb hb);(try clear hb)))
     go_ret
     exact⟨qf,qb⟩
    ·replace c6:=Bool.eq_false_iff.mpr c6
     subst c6
     replace H:=qF H
     obtain⟨c8,H⟩:=qo H
     have Cp:decide (0 < (a0.size:Int))=true:=decide_eq_true c8
     have Cq:decide (0 < a0.size)=true:=decide_eq_true (by omega)
     clear c8
     by_cases Bb:(bt a0 0)=34
     ·rw [if_pos Bb]at H
      have Ap:((bt a0 0) == 34)=true:=beq_iff_eq.mpr Bb
      have Aq:((bt a0 0) != 34)=false:=bne_eq_false_iff_eq.mpr Bb
      clear Bb
      have Bc:=y0.mk H
      clear H
      go_upto_region 7 with(first|((with_reducible refine y18 (f:=50) rfl ?_);refine y21 (some 19) rfl rfl Tryz.func50 (by kernel_rfl) rfl #[.string a0] rfl qy1 ?_;(with_reducible refine(z9_.calls Am a0 Ba false _ A5.out).mono ?_);rintro e Dz ⟨rfl,hb⟩;refine⟨_,rfl, ?_⟩;replace HB:=y0.mk (y5 qb hb);(try clear hb);have p9:0≤(0:Int):=(by omega);have q9:0 < a0.size:=qy3;have Cr:∀ h:0 < a0.size,((a0[0]'h).toNat:Int)=bt a0 0:=bt_at a0 0;clear p9;have Cs:(0 < (a0.size:Int))=True:=eq_true (of_decide_eq_true qy0);replace q9:=eq_true q9))
      (try simp only [Act.put,qS_,qZ_,qC_])
      go_cut [37] (fun Dq wc=>∃(kq:Nat) (Ag:Bool),Dq=.bool Ag∧y0 (z6_.j1 kq a0 Ag=some r)∧y0 (kq≤Am)∧y0 (Below w.heap.size w wc))
      case first =>
       have H:=Bc.out
       clear Bc
       obtain⟨Ct,Cu,H⟩:=qB H
       by_cases Ch:Ct=true
       ·subst Ch
        replace H:=qT H
        obtain⟨Ad,Ai⟩:∃ j_:Int,(wrap64 ((a0.size:Int) - 1))=j_:=⟨_,rfl⟩
        replace H:(if 0≤(Ad)then(if(Ad) < (a0.size:Int)then(z6_.j1 Am a0 ((bt a0 (Ad)) != 34))else(none))else(none))=some r:=by first|(rw [Ai]at H;exact H)|(simp only [Ai]at H ⊢;exact H)
        (try rw [Ai]at Cu)
        have hji15w:(IntKind.i64.wrap ((a0.size:Int) - 1))=Ad:=(i64_w _).trans Ai
        obtain⟨Da,H⟩:=qo H
        have Aw:decide (0≤(Ad))=true:=decide_eq_true Da
        clear Da
        (first|rw [Aw]|(simp only [i64_w,i32_w];rw [Aw])|skip)
        obtain⟨Db,H⟩:=qo H
        have Dc:decide ((Ad) < (a0.size:Int))=true:=decide_eq_true Db
        clear Db
        have H':=y0.mk H
        clear H
        go_wp2_with (first|((with_reducible refine y18 (f:=16) rfl ?_);refine y21 (some 28) rfl rfl Tryz.func16 (by kernel_rfl) rfl #[.int .i64 (a0.size:Int),.int .i64 2,.int .i64 22] rfl qy1 ?_;(with_reducible refine(z8_.calls (a0.size:Int) 2 22 true _ Cu.out).mono ?_);rintro e w' ⟨rfl,⟨nd,rfl⟩⟩;refine⟨_,rfl, ?_⟩;have Dd:0≤((Ad):Int):=qd;have De:(Ad) < (a0.size:Int):=qd;have Dr:=bt_at a0 (Ad);replace Dd:=eq_true Dd;replace De:=eq_true De))
        go_meet
        exact⟨_,(((bt a0 (Ad)) != 34)),(by first|rfl|(simp;done)|(simp only [← Ai] <;> (first|rfl|simp))|(simp [*];done)),H',⟨by have:=At.out;first|omega|exact Nat.le_refl _⟩,⟨qb⟩⟩
       ·replace Ch:=Bool.eq_false_iff.mpr Ch
        subst Ch
        replace H:=qF H
        have H':=y0.mk H
        clear H
        go_wp2_with (first|((with_reducible refine y18 (f:=16) rfl ?_);refine y21 (some 28) rfl rfl Tryz.func16 (by kernel_rfl) rfl #[.int .i64 (a0.size:Int),.int .i64 2,.int .i64 22] rfl qy1 ?_;(with_reducible refine(z8_.calls (a0.size:Int) 2 22 false _ Cu.out).mono ?_);rintro e w' ⟨rfl,⟨nd,rfl⟩⟩;refine⟨_,rfl, ?_⟩))
        go_meet
        exact⟨_,(true),qy2,H',⟨by have:=At.out;first|omega|exact Nat.le_refl _⟩,⟨qb⟩⟩
      case rest =>
       clear Bc
       (try clear c4 c6 Cp Cq p9 q9 Cr Cs Ap Aq p9 q9)
       obtain⟨kq,Ag,rfl,HA,Bp,HB⟩:=hcut
       cases kq with
       | zero=>exact absurd HA.out (by simp [z6_.j1])
       | succ Bq =>
        have H:=HA.out
        clear HA
        simp only [z6_.j1]at H
        by_cases Br:Ag=true
        ·subst Br
         replace H:=qT H
         obtain rfl:=Option.some.inj H
         go_wp2
         go_ret
         exact⟨qf,qb⟩
        ·replace Br:=Bool.eq_false_iff.mpr Br
         subst Br
         replace H:=qF H
         have H':=y0.mk H
         clear H
         go_wp2
         go_loopg [5] Bq (fun kq v5 w'=>∃(Aa:Int),v5=.int .i64 Aa∧y0 (z6_.l0 kq a0 Aa=some r)∧y0 (kq≤Bq)∧y0 (Below w.heap.size w w'))
         case atStart=>exact⟨(1),qy2,H',⟨Nat.le_refl _⟩,⟨qb⟩⟩
         case round =>
          clear H'
          (try clear Br)
          obtain⟨Aa,rfl,HA,Bd,HB⟩:=hrel
          cases gk with
          | zero=>exact absurd HA.out (by simp [z6_.l0])
          | succ k3 =>
           have H:=HA.out
           clear HA
           simp only [z6_.l0]at H
           by_cases Bn:(wrap64 (Aa + 1)) < (a0.size:Int)
           ·rw [if_pos Bn]at H
            have Bs:=decide_eq_true Bn
            clear Bn
            obtain⟨Df,H⟩:=qo H
            have Dg:decide (0≤Aa)=true:=decide_eq_true Df
            clear Df
            obtain⟨Dh,H⟩:=qo H
            have Di:=decide_eq_true Dh
            clear Dh
            obtain⟨Cv,Ci,H⟩:=qB H
            by_cases Cj:Cv=true
            ·subst Cj
             replace H:=qT H
             by_cases Be:(bt a0 Aa)=34
             ·rw [if_pos Be]at H
              have Bt:((bt a0 Aa) == 34)=true:=beq_iff_eq.mpr Be
              have Bu:((bt a0 Aa) != 34)=false:=bne_eq_false_iff_eq.mpr Be
              clear Be
              obtain rfl:=Option.some.inj H
              have Ar:0≤(Aa:Int):=qd
              have As:Aa < (a0.size:Int):=qd
              have Bf:=bt_at a0 Aa
              replace Ar:=eq_true Ar
              replace As:=eq_true As
              go_wp2_with (first|((with_reducible refine y18 (f:=16) rfl ?_);refine y21 (some 49) rfl rfl Tryz.func16 (by kernel_rfl) rfl #[.int .i64 (wrap64 (bt a0 Aa)),.int .i64 32,.int .i64 126] rfl qy1 ?_;(with_reducible refine(z8_.calls (wrap64 (bt a0 Aa)) 32 126 true _ Ci.out).mono ?_);rintro e w' ⟨rfl,⟨nd,rfl⟩⟩;refine⟨_,rfl, ?_⟩;have Ax:0≤(Aa:Int):=qd;have Ay:Aa < (a0.size:Int):=qd;have Bv:=bt_at a0 Aa;replace Ax:=eq_true Ax;replace Ay:=eq_true Ay))
              go_ret
              exact⟨qf,qb⟩
             ·rw [if_neg Be]at H
              have Bt:((bt a0 Aa) == 34)=false:=beq_eq_false_iff_ne.mpr Be
              have Bu:((bt a0 Aa) != 34)=true:=bne_iff_ne.mpr Be
              by_cases Bg:(bt a0 Aa)=92
              ·rw [if_pos Bg]at H
               have Bw:((bt a0 Aa) == 92)=true:=beq_iff_eq.mpr Bg
               have Bx:((bt a0 Aa) != 92)=false:=bne_eq_false_iff_eq.mpr Bg
               clear Bg
               obtain rfl:=Option.some.inj H
               have Ar:0≤(Aa:Int):=qd
               have As:Aa < (a0.size:Int):=qd
               have Bf:=bt_at a0 Aa
               replace Ar:=eq_true Ar
               replace As:=eq_true As
               go_wp2_with (first|((with_reducible refine y18 (f:=16) rfl ?_);refine y21 (some 49) rfl rfl Tryz.func16 (by kernel_rfl) rfl #[.int .i64 (wrap64 (bt a0 Aa)),.int .i64 32,.int .i64 126] rfl qy1 ?_;(with_reducible refine(z8_.calls (wrap64 (bt a0 Aa)) 32 126 true _ Ci.out).mono ?_);rintro e w' ⟨rfl,⟨nd,rfl⟩⟩;refine⟨_,rfl, ?_⟩;have Ax:0≤(Aa:Int):=qd;have Ay:Aa < (a0.size:Int):=qd;have Bv:=bt_at a0 Aa;replace Ax:=eq_true Ax;replace Ay:=eq_true Ay;have Bz:0≤(Aa:Int):=qd;have Ca:Aa < (a0.size:Int):=qd;have Cw:=bt_at a0 Aa;replace Bz:=eq_true Bz;replace Ca:=eq_true Ca))
               go_ret
               exact⟨qf,qb⟩
              ·rw [if_neg Bg]at H
               have Bw:((bt a0 Aa) == 92)=false:=beq_eq_false_iff_ne.mpr Bg
               have Bx:((bt a0 Aa) != 92)=true:=bne_iff_ne.mpr Bg
               have H':=y0.mk H
               clear H
               have Ar:0≤(Aa:Int):=qd
               have As:Aa < (a0.size:Int):=qd
               have Bf:=bt_at a0 Aa
               replace Ar:=eq_true Ar
               replace As:=eq_true As
               go_wp2_with (first|((with_reducible refine y18 (f:=16) rfl ?_);refine y21 (some 49) rfl rfl Tryz.func16 (by kernel_rfl) rfl #[.int .i64 (wrap64 (bt a0 Aa)),.int .i64 32,.int .i64 126] rfl qy1 ?_;(with_reducible refine(z8_.calls (wrap64 (bt a0 Aa)) 32 126 true _ Ci.out).mono ?_);rintro e w' ⟨rfl,⟨nd,rfl⟩⟩;refine⟨_,rfl, ?_⟩;have Ax:0≤(Aa:Int):=qd;have Ay:Aa < (a0.size:Int):=qd;have Bv:=bt_at a0 Aa;replace Ax:=eq_true Ax;replace Ay:=eq_true Ay;have Bz:0≤(Aa:Int):=qd;have Ca:Aa < (a0.size:Int):=qd;have Cw:=bt_at a0 Aa;replace Bz:=eq_true Bz;replace Ca:=eq_true Ca))
               go_roundg k3
               case measure=>have:=At.out;have:=Bp.out;have:=Bd.out;omega
               exact⟨(wrap64 (Aa + 1)),qy2,H',⟨by have:=At.out;have:=Bp.out;have:=Bd.out;omega⟩,⟨qb⟩⟩
            ·replace Cj:=Bool.eq_false_iff.mpr Cj
             subst Cj
             replace H:=qF H
             obtain rfl:=Option.some.inj H
             have Ar:0≤(Aa:Int):=qd
             have As:Aa < (a0.size:Int):=qd
             have Bf:=bt_at a0 Aa
             replace Ar:=eq_true Ar
             replace As:=eq_true As
             go_wp2_with (first|((with_reducible refine y18 (f:=16) rfl ?_);refine y21 (some 49) rfl rfl Tryz.func16 (by kernel_rfl) rfl #[.int .i64 (wrap64 (bt a0 Aa)),.int .i64 32,.int .i64 126] rfl qy1 ?_;(with_reducible refine(z8_.calls (wrap64 (bt a0 Aa)) 32 126 false _ Ci.out).mono ?_);rintro e w' ⟨rfl,⟨nd,rfl⟩⟩;refine⟨_,rfl, ?_⟩))
             go_ret
             exact⟨qf,qb⟩
           ·rw [if_neg Bn]at H
            have Bs:=decide_eq_false Bn
            clear Bn
            obtain rfl:=Option.some.inj H
            go_wp2
            go_ret
            exact⟨qf,qb⟩
     ·rw [if_neg Bb]at H
      have Ap:((bt a0 0) == 34)=false:=beq_eq_false_iff_ne.mpr Bb
      have Aq:((bt a0 0) != 34)=true:=bne_iff_ne.mpr Bb
      obtain⟨⟨Bh,Ab,Bi⟩,Ds,H⟩:=qB H
      replace H:(if Bi=true then((spec_l01Name.f Am Bh true).bind fun Au=>(z6_.j3 Am Ab (!Au)))else(z6_.j3 Am Ab true))=some r:=H
      have Bj:=y0.mk H
      clear H
      go_upto_region 16 with(first|((with_reducible refine y18 (f:=50) rfl ?_);refine y21 (some 19) rfl rfl Tryz.func50 (by kernel_rfl) rfl #[.string a0] rfl qy1 ?_;(with_reducible refine(z9_.calls Am a0 Ba false _ A5.out).mono ?_);rintro e Ea ⟨rfl,hb⟩;refine⟨_,rfl, ?_⟩;replace HB:=y0.mk (y5 qb hb);(try clear hb);have p9:0≤(0:Int):=(by omega);have q9:0 < a0.size:=qy3;have Cr:∀ h:0 < a0.size,((a0[0]'h).toNat:Int)=bt a0 0:=bt_at a0 0;clear p9;have Cs:(0 < (a0.size:Int))=True:=eq_true (of_decide_eq_true qy0);replace q9:=eq_true q9)|((with_reducible refine y18 (f:=51) rfl ?_);refine y21 (some 65) rfl rfl Tryz.func51 (by kernel_rfl) rfl #[.string a0] rfl qy1 ?_;(with_reducible refine(z7_.calls Am a0 Bh Ab Bi _ Ds.out).mono ?_);rintro e Eb ⟨Cb,rfl,Dj,hb⟩;refine⟨_,rfl, ?_⟩;have Az:=y0.mk (Kd.R_lower Dj (y4 qb));replace HB:=y0.mk (y5 qb hb);(try clear hb);(try clear Dj)))
      (try simp only [Act.put,qS_,qZ_,qC_])
      go_cut [75] (fun Dt wc=>∃(kq:Nat) (Ah:Bool),Dt=.bool Ah∧y0 (z6_.j3 kq Ab Ah=some r)∧y0 (kq≤Am)∧y0 (Kd.R Kd.string 9 wc w.heap.size (fun _=>True) Cb Ab)∧y0 (Below w.heap.size w wc))
      case first =>
       have H:=Bj.out
       clear Bj
       by_cases Ck:Bi=true
       ·subst Ck
        replace H:=qT H
        obtain⟨Au,Du,H⟩:=qB H
        have H':=y0.mk H
        clear H
        go_wp2_with (first|(go_at_call 49;(with_reducible refine(spec_l01Name.calls Am Bh true Au _ Du.out).mono ?_);rintro e w' ⟨rfl,⟨nd,rfl⟩⟩))
        go_meet
        exact⟨_,(!Au),qy2,H',⟨by have:=At.out;first|omega|exact Nat.le_refl _⟩,⟨qR Az.out⟩,⟨qb⟩⟩
       ·replace Ck:=Bool.eq_false_iff.mpr Ck
        subst Ck
        replace H:=qF H
        have H':=y0.mk H
        clear H
        go_wp2
        go_meet
        exact⟨_,(true),qy2,H',⟨by have:=At.out;first|omega|exact Nat.le_refl _⟩,⟨qR Az.out⟩,⟨qb⟩⟩
      case rest =>
       clear Bj
       (try clear p9 q9 Cr Cs Ap Aq p9 q9)
       obtain⟨kq,Ah,rfl,HA,Av,Af,HB⟩:=hcut
       cases kq with
       | zero=>exact absurd HA.out (by simp [z6_.j3])
       | succ Cc =>
        have H:=HA.out
        clear HA
        simp only [z6_.j3]at H
        by_cases Cd:Ah=true
        ·subst Cd
         replace H:=qT H
         obtain rfl:=Option.some.inj H
         go_wp2
         go_ret
         exact⟨qf,qb⟩
        ·replace Cd:=Bool.eq_false_iff.mpr Cd
         subst Cd
         replace H:=qF H
         have H':=y0.mk H
         clear H
         go_wp2
         go_loopg [9] Cc (fun kq v9 w'=>∃(Ac:Int),v9=.int .i64 Ac∧y0 (z6_.l1 kq Ab Ac=some r)∧y0 (kq≤Cc)∧y0 (Kd.R Kd.string 9 w' w.heap.size (fun _=>True) Cb Ab)∧y0 (Below w.heap.size w w'))
         case atStart=>exact⟨(0),qy2,H',⟨Nat.le_refl _⟩,⟨qR Af.out⟩,⟨qb⟩⟩
         case round =>
          clear H'
          (try clear Cd)
          obtain⟨Ac,rfl,HA,Bd,Af,HB⟩:=hrel
          cases gk with
          | zero=>exact absurd HA.out (by simp [z6_.l1])
          | succ k3 =>
           have H:=HA.out
           clear HA
           simp only [z6_.l1]at H
           by_cases Bo:Ac < (Ab.length:Int)
           ·rw [if_pos Bo]at H
            have Ce:=decide_eq_true Bo
            clear Bo
            obtain⟨Dk,H⟩:=qo H
            have Dl:decide (0≤Ac)=true:=decide_eq_true Dk
            clear Dk
            obtain⟨Aj,Dm,H⟩:=qB H
            obtain⟨Dv,Dw,Cx⟩:=Kd.R_slice Af.out
            subst Cx
            have Bk:0≤(Ac:Int):=qd
            have Bl:Ac < (Ab.length:Int):=qd
            obtain⟨Do,Cy,Cl⟩:=Kd.at_string (Kd.R_reads' Af.out).2.2 Ac Bk Bl
            cases Cy
            replace Bk:=eq_true Bk
            replace Bl:=eq_true Bl
            by_cases Bm:Aj=0
            ·rw [if_pos Bm]at H
             have Cf:(Aj == 0)=true:=beq_iff_eq.mpr Bm
             have Cg:(Aj != 0)=false:=bne_eq_false_iff_eq.mpr Bm
             clear Bm
             obtain rfl:=Option.some.inj H
             go_wp2_with (first|((with_reducible refine y18 (f:=35) rfl ?_);refine y21 (some 86) rfl rfl Tryz.func35 (by kernel_rfl) rfl #[.string (rdOf ByteArray.empty Ab Ac)] rfl qy1 ?_;(with_reducible refine(ih k3 (by have:=At.out;have:=Av.out;have:=Bd.out;omega) (rdOf ByteArray.empty Ab Ac) Aj _ Dm.out).mono ?_);rintro e Ec ⟨rfl,hb⟩;refine⟨_,rfl, ?_⟩;replace Af:=y0.mk (Kd.R_below (qR Af.out) hb);replace HB:=y0.mk (y5 qb hb);(try clear hb)))
             go_ret
             exact⟨qf,qb⟩
            ·rw [if_neg Bm]at H
             have Cf:(Aj == 0)=false:=beq_eq_false_iff_ne.mpr Bm
             have Cg:(Aj != 0)=true:=bne_iff_ne.mpr Bm
             have H':=y0.mk H
             clear H
             go_wp2_with (first|((with_reducible refine y18 (f:=35) rfl ?_);refine y21 (some 86) rfl rfl Tryz.func35 (by kernel_rfl) rfl #[.string (rdOf ByteArray.empty Ab Ac)] rfl qy1 ?_;(with_reducible refine(ih k3 (by have:=At.out;have:=Av.out;have:=Bd.out;omega) (rdOf ByteArray.empty Ab Ac) Aj _ Dm.out).mono ?_);rintro e Ed ⟨rfl,hb⟩;refine⟨_,rfl, ?_⟩;replace Af:=y0.mk (Kd.R_below (qR Af.out) hb);replace HB:=y0.mk (y5 qb hb);(try clear hb)))
             go_roundg k3
             case measure=>have:=At.out;have:=Av.out;have:=Bd.out;omega
             exact⟨(wrap64 (Ac + 1)),qy2,H',⟨by have:=At.out;have:=Av.out;have:=Bd.out;omega⟩,⟨qR Af.out⟩,⟨qb⟩⟩
           ·rw [if_neg Bo]at H
            have Ce:=decide_eq_false Bo
            clear Bo
            obtain rfl:=Option.some.inj H
            obtain⟨Dx,Dy,Cz⟩:=Kd.R_slice Af.out
            subst Cz
            go_wp2
            go_ret
            exact⟨qf,qb⟩
mutual
def spec_TermMake.j0:Nat→ByteArray→List ByteArray→Bool→Option (ByteArray×Bool)
 | 0,_,_,_=>none
 | k + 1,x0,x1,Ae=>if Ae=true then(some ((⟨#[]⟩:ByteArray),false))else(spec_TermMake.l0 k x1 x0 0)
def spec_TermMake.l0:Nat→List ByteArray→ByteArray→Int→Option (ByteArray×Bool)
 | 0,_,_,_=>none
 | k + 1,x1,x6,x7=>if x7 < (x1.length:Int)then(if 0≤x7 then((z6_.f k (rdOf ByteArray.empty x1 x7)).bind fun Ae=>(if Ae=0 then(some ((⟨#[]⟩:ByteArray),false))else(if x7=0 then(if x6.size + 1≤9223372036854775807 then(if(x6 ++ (⟨#[40]⟩:ByteArray)).size + (rdOf ByteArray.empty x1 x7).size≤9223372036854775807 then(spec_TermMake.l0 k x1 ((x6 ++ (⟨#[40]⟩:ByteArray)) ++ (rdOf ByteArray.empty x1 x7)) (wrap64 (x7 + 1)))else(none))else(none))else(if x6.size + 1≤9223372036854775807 then(if(x6 ++ (⟨#[44]⟩:ByteArray)).size + (rdOf ByteArray.empty x1 x7).size≤9223372036854775807 then(spec_TermMake.l0 k x1 ((x6 ++ (⟨#[44]⟩:ByteArray)) ++ (rdOf ByteArray.empty x1 x7)) (wrap64 (x7 + 1)))else(none))else(none)))))else(none))else(if(x1.length:Int) > 0 then(if x6.size + 1≤9223372036854775807 then((z6_.f k (x6 ++ (⟨#[41]⟩:ByteArray))).bind fun An=>(if An=3 then(some (x6 ++ (⟨#[41]⟩:ByteArray),true))else(some ((⟨#[]⟩:ByteArray),false))))else(none))else((z6_.f k x6).bind fun Ao=>(if Ao=3 then(some (x6,true))else(some ((⟨#[]⟩:ByteArray),false)))))
end
def spec_TermMake.f (k:Nat) (a0:ByteArray) (l1:List ByteArray):Option (ByteArray×Bool):=(spec_l01Name.f k a0 true).bind fun Ae=>(if Ae=true then(spec_TermMake.j0 k a0 l1 (decide ((l1.length:Int) > 200)))else(spec_TermMake.j0 k a0 l1 true))
theorem spec_TermMake.calls (k:Nat) (a0:ByteArray) (A1:Option Addr) (c1:Nat) (l1:List ByteArray) (r1:ByteArray) (r2:Bool) (w:World) (Cb:Kd.C Kd.string w A1 l1.length l1) (Cc:l1.length≤c1) (h:spec_TermMake.f k a0 l1=some (r1,r2)) :
  Calls Tryz.prog 32 #[.string a0,.slice A1 l1.length c1] w fun e w'=>e=.returned (.tuple #[.string r1,.bool r2])∧Below w.heap.size w w':=by
 have Ba:=y0.mk Cb
 have Cx:=y0.mk Cc
 clear Cb Cc
 have HB:=y0.mk (Below.refl w.heap.size w)
 have H:((spec_l01Name.f k a0 true).bind fun Aq=>(if Aq=true then(spec_TermMake.j0 k a0 l1 (decide ((l1.length:Int) > 200)))else(spec_TermMake.j0 k a0 l1 true)))=some (r1,r2):=h
 clear h
 have Br:=y0.mk H
 clear H
 go_enter Tryz.func32,Tryz.ntmps32
 go_upto_region 1 with(fail)
 go_cut [15] (fun Cv wc=>∃(kq:Nat) (Al:Bool),Cv=.bool Al∧y0 (spec_TermMake.j0 kq a0 l1 Al=some (r1,r2))∧y0 (kq≤k)∧y0 (Below w.heap.size w wc))
 case first =>
  have H:=Br.out
  clear Br
  obtain⟨Aq,A4,H⟩:=qB H
  by_cases c5:Aq=true
  ·subst c5
   replace H:=qT H
   have H':=y0.mk H
   clear H
   go_wp2_with (first|((with_reducible refine y18 (f:=49) rfl ?_);refine y21 (some 9) rfl rfl Tryz.func49 (by kernel_rfl) rfl #[.string a0,.bool true] rfl qy1 ?_;(with_reducible refine(spec_l01Name.calls k a0 true true _ A4.out).mono ?_);rintro e w' ⟨rfl,⟨nd,rfl⟩⟩;refine⟨_,rfl, ?_⟩))
   go_meet
   exact⟨_,(decide ((l1.length:Int) > 200)),qy2,H',⟨by first|omega|exact Nat.le_refl _⟩,⟨qb⟩⟩
  ·replace c5:=Bool.eq_false_iff.mpr c5
   subst c5
   replace H:=qF H
   have H':=y0.mk H
   clear H
   go_wp2_with (first|((with_reducible refine y18 (f:=49) rfl ?_);refine y21 (some 9) rfl rfl Tryz.func49 (by kernel_rfl) rfl #[.string a0,.bool true] rfl qy1 ?_;(with_reducible refine(spec_l01Name.calls k a0 true false _ A4.out).mono ?_);rintro e w' ⟨rfl,⟨nd,rfl⟩⟩;refine⟨_,rfl, ?_⟩))
   go_meet
   exact⟨_,(true),qy2,H',⟨by first|omega|exact Nat.le_refl _⟩,⟨qb⟩⟩
 case rest =>
  clear Br
  obtain⟨kq,Al,rfl,HA,Bp,HB⟩:=hcut
  cases kq with
  | zero=>exact absurd HA.out (by simp [spec_TermMake.j0])
  | succ Cd =>
   have H:=HA.out
   clear HA
   simp only [spec_TermMake.j0]at H
   by_cases c6:Al=true
   ·subst c6
    replace H:=qT H
    simp only [Option.some.injEq,Prod.mk.injEq]at H
    obtain⟨rfl,rfl⟩:=H
    go_wp2
    go_ret2
    exact⟨qf,qb⟩
   ·replace c6:=Bool.eq_false_iff.mpr c6
    subst c6
    replace H:=qF H
    have H':=y0.mk H
    clear H
    go_wp2
    go_loopg [6,7] Cd (fun kq v6 v7 w'=>∃(Ac:ByteArray) (Aa:Int),v6=.string Ac∧v7=.int .i64 Aa∧y0 (spec_TermMake.l0 kq l1 Ac Aa=some (r1,r2))∧y0 (kq≤Cd)∧y0 (Below w.heap.size w w'))
    case atStart=>exact⟨(a0),(0),qy2,qy2,H',⟨Nat.le_refl _⟩,⟨qb⟩⟩
    case round =>
     clear H'
     (try clear c6)
     obtain⟨Ac,Aa,rfl,rfl,HA,Bq,HB⟩:=hrel
     cases gk with
     | zero=>exact absurd HA.out (by simp [spec_TermMake.l0])
     | succ k2 =>
      have H:=HA.out
      clear HA
      simp only [spec_TermMake.l0]at H
      by_cases c7:Aa < (l1.length:Int)
      ·rw [if_pos c7]at H
       have Bs:=decide_eq_true c7
       clear c7
       obtain⟨c8,H⟩:=qo H
       have Cw:decide (0≤Aa)=true:=decide_eq_true c8
       clear c8
       obtain⟨Ai,A9,H⟩:=qB H
       by_cases Ar:Ai=0
       ·rw [if_pos Ar]at H
        have Bb:(Ai == 0)=true:=beq_iff_eq.mpr Ar
        have Bc:(Ai != 0)=false:=bne_eq_false_iff_eq.mpr Ar
        clear Ar
        simp only [Option.some.injEq,Prod.mk.injEq]at H
        obtain⟨rfl,rfl⟩:=H
        have Ad:0≤(Aa:Int):=qd
        have Af:Aa < (l1.length:Int):=qd
        obtain⟨Am,Ap,Ab⟩:=Kd.at_string Ba.out Aa Ad Af
        cases Ap
        replace Ab:=qC Ab HB
        replace Ad:=eq_true Ad
        replace Af:=eq_true Af
        go_wp2_with (first|((with_reducible refine y18 (f:=35) rfl ?_);refine y21 (some 27) rfl rfl Tryz.func35 (by kernel_rfl) rfl #[.string (rdOf ByteArray.empty l1 Aa)] rfl qy1 ?_;(with_reducible refine(z6_.calls k2 (rdOf ByteArray.empty l1 Aa) Ai _ A9.out).mono ?_);rintro e Cy ⟨rfl,hb⟩;refine⟨_,rfl, ?_⟩;replace HB:=y0.mk (y5 qb hb);(try clear hb)))
        go_ret2
        exact⟨qf,qb⟩
       ·rw [if_neg Ar]at H
        have Bb:(Ai == 0)=false:=beq_eq_false_iff_ne.mpr Ar
        have Bc:(Ai != 0)=true:=bne_iff_ne.mpr Ar
        by_cases As:Aa=0
        ·rw [if_pos As]at H
         have Bd:(Aa == 0)=true:=beq_iff_eq.mpr As
         have Be:(Aa != 0)=false:=bne_eq_false_iff_eq.mpr As
         clear As
         obtain⟨Bt,H⟩:=qo H
         have Ce:=eq_true Bt
         have Cf:=decide_eq_true Bt
         have Cg:=eq_false (Nat.not_lt.2 Bt)
         obtain⟨Bu,H⟩:=qo H
         have Ch:=eq_true Bu
         have Ci:=decide_eq_true Bu
         have Bf:=eq_false (Nat.not_lt.2 Bu)
         have Cj:(9223372036854775807 < Ac.size + 1 + (rdOf ByteArray.empty l1 Aa).size)=False:=qs Bf
         have H':=y0.mk H
         clear H
         have Ad:0≤(Aa:Int):=qd
         have Af:Aa < (l1.length:Int):=qd
         obtain⟨Am,Ap,Ab⟩:=Kd.at_string Ba.out Aa Ad Af
         cases Ap
         replace Ab:=qC Ab HB
         replace Ad:=eq_true Ad
         replace Af:=eq_true Af
         go_wp2_with (first|((with_reducible refine y18 (f:=35) rfl ?_);refine y21 (some 27) rfl rfl Tryz.func35 (by kernel_rfl) rfl #[.string (rdOf ByteArray.empty l1 Aa)] rfl qy1 ?_;(with_reducible refine(z6_.calls k2 (rdOf ByteArray.empty l1 Aa) Ai _ A9.out).mono ?_);rintro e Cz ⟨rfl,hb⟩;refine⟨_,rfl, ?_⟩;replace HB:=y0.mk (y5 qb hb);(try clear hb);have At:0≤(Aa:Int):=qd;have Au:Aa < (l1.length:Int):=qd;obtain⟨Bg,Bv,Ag⟩:=Kd.at_string Ba.out Aa At Au;obtain rfl:Am=Bg:=(by injection Bv);replace Ag:=qC Ag HB;replace At:=eq_true At;replace Au:=eq_true Au))
         go_roundg k2
         case measure=>have:=Bp.out;have:=Bq.out;omega
         exact⟨((Ac ++ (⟨#[40]⟩:ByteArray)) ++ (rdOf ByteArray.empty l1 Aa)),(wrap64 (Aa + 1)),qy2,qy2,H',⟨by have:=Bp.out;have:=Bq.out;omega⟩,⟨qb⟩⟩
        ·rw [if_neg As]at H
         have Bd:(Aa == 0)=false:=beq_eq_false_iff_ne.mpr As
         have Be:(Aa != 0)=true:=bne_iff_ne.mpr As
         obtain⟨Bw,H⟩:=qo H
         have Ck:=eq_true Bw
         have Cl:=decide_eq_true Bw
         have Cm:=eq_false (Nat.not_lt.2 Bw)
         obtain⟨Bx,H⟩:=qo H
         have Cn:=eq_true Bx
         have Co:=decide_eq_true Bx
         have Bh:=eq_false (Nat.not_lt.2 Bx)
         have Cp:(9223372036854775807 < Ac.size + 1 + (rdOf ByteArray.empty l1 Aa).size)=False:=qs Bh
         have H':=y0.mk H
         clear H
         have Ad:0≤(Aa:Int):=qd
         have Af:Aa < (l1.length:Int):=qd
         obtain⟨Am,Ap,Ab⟩:=Kd.at_string Ba.out Aa Ad Af
         cases Ap
         replace Ab:=qC Ab HB
         replace Ad:=eq_true Ad
         replace Af:=eq_true Af
         go_wp2_with (first|((with_reducible refine y18 (f:=35) rfl ?_);refine y21 (some 27) rfl rfl Tryz.func35 (by kernel_rfl) rfl #[.string (rdOf ByteArray.empty l1 Aa)] rfl qy1 ?_;(with_reducible refine(z6_.calls k2 (rdOf ByteArray.empty l1 Aa) Ai _ A9.out).mono ?_);rintro e Da ⟨rfl,hb⟩;refine⟨_,rfl, ?_⟩;replace HB:=y0.mk (y5 qb hb);(try clear hb);have Av:0≤(Aa:Int):=qd;have Aw:Aa < (l1.length:Int):=qd;obtain⟨Bi,Bz,Ah⟩:=Kd.at_string Ba.out Aa Av Aw;obtain rfl:Am=Bi:=(by injection Bz);replace Ah:=qC Ah HB;replace Av:=eq_true Av;replace Aw:=eq_true Aw))
         go_roundg k2
         case measure=>have:=Bp.out;have:=Bq.out;omega
         exact⟨((Ac ++ (⟨#[44]⟩:ByteArray)) ++ (rdOf ByteArray.empty l1 Aa)),(wrap64 (Aa + 1)),qy2,qy2,H',⟨by have:=Bp.out;have:=Bq.out;omega⟩,⟨qb⟩⟩
      ·rw [if_neg c7]at H
       have Bs:=decide_eq_false c7
       clear c7
       by_cases Az:(l1.length:Int) > 0
       ·rw [if_pos Az]at H
        have Bj:decide (0 < (l1.length:Int))=true:=decide_eq_true Az
        have Bk:decide (0 < l1.length)=true:=decide_eq_true (by omega)
        clear Az
        obtain⟨Ca,H⟩:=qo H
        have Cq:=eq_true Ca
        have Cr:=decide_eq_true Ca
        have Cs:=eq_false (Nat.not_lt.2 Ca)
        obtain⟨Aj,Ct,H⟩:=qB H
        by_cases Ax:Aj=3
        ·rw [if_pos Ax]at H
         have Bl:(Aj == 3)=true:=beq_iff_eq.mpr Ax
         have Bm:(Aj != 3)=false:=bne_eq_false_iff_eq.mpr Ax
         clear Ax
         simp only [Option.some.injEq,Prod.mk.injEq]at H
         obtain⟨rfl,rfl⟩:=H
         go_wp2_with (first|((with_reducible refine y18 (f:=35) rfl ?_);refine y21 (some 47) rfl rfl Tryz.func35 (by kernel_rfl) rfl #[.string (Ac ++ (⟨#[41]⟩:ByteArray))] rfl qy1 ?_;(with_reducible refine(z6_.calls k2 (Ac ++ (⟨#[41]⟩:ByteArray)) Aj _ Ct.out).mono ?_);rintro e Db ⟨rfl,hb⟩;refine⟨_,rfl, ?_⟩;replace HB:=y0.mk (y5 qb hb);(try clear hb)))
         go_ret2
         exact⟨qf,qb⟩
        ·rw [if_neg Ax]at H
         have Bl:(Aj == 3)=false:=beq_eq_false_iff_ne.mpr Ax
         have Bm:(Aj != 3)=true:=bne_iff_ne.mpr Ax
         simp only [Option.some.injEq,Prod.mk.injEq]at H
         obtain⟨rfl,rfl⟩:=H
         go_wp2_with (first|((with_reducible refine y18 (f:=35) rfl ?_);refine y21 (some 47) rfl rfl Tryz.func35 (by kernel_rfl) rfl #[.string (Ac ++ (⟨#[41]⟩:ByteArray))] rfl qy1 ?_;(with_reducible refine(z6_.calls k2 (Ac ++ (⟨#[41]⟩:ByteArray)) Aj _ Ct.out).mono ?_);rintro e Dc ⟨rfl,hb⟩;refine⟨_,rfl, ?_⟩;replace HB:=y0.mk (y5 qb hb);(try clear hb)))
         go_ret2
         exact⟨qf,qb⟩
       ·rw [if_neg Az]at H
        have Bj:decide (0 < (l1.length:Int))=false:=decide_eq_false Az
        have Bk:decide (0 < l1.length)=false:=decide_eq_false (by omega)
        clear Az
        obtain⟨Ak,Cu,H⟩:=qB H
        by_cases Ay:Ak=3
        ·rw [if_pos Ay]at H
         have Bn:(Ak == 3)=true:=beq_iff_eq.mpr Ay
         have Bo:(Ak != 3)=false:=bne_eq_false_iff_eq.mpr Ay
         clear Ay
         simp only [Option.some.injEq,Prod.mk.injEq]at H
         obtain⟨rfl,rfl⟩:=H
         go_wp2_with (first|((with_reducible refine y18 (f:=35) rfl ?_);refine y21 (some 47) rfl rfl Tryz.func35 (by kernel_rfl) rfl #[.string Ac] rfl qy1 ?_;(with_reducible refine(z6_.calls k2 Ac Ak _ Cu.out).mono ?_);rintro e Dd ⟨rfl,hb⟩;refine⟨_,rfl, ?_⟩;replace HB:=y0.mk (y5 qb hb);(try clear hb)))
         go_ret2
         exact⟨qf,qb⟩
        ·rw [if_neg Ay]at H
         have Bn:(Ak == 3)=false:=beq_eq_false_iff_ne.mpr Ay
         have Bo:(Ak != 3)=true:=bne_iff_ne.mpr Ay
         simp only [Option.some.injEq,Prod.mk.injEq]at H
         obtain⟨rfl,rfl⟩:=H
         go_wp2_with (first|((with_reducible refine y18 (f:=35) rfl ?_);refine y21 (some 47) rfl rfl Tryz.func35 (by kernel_rfl) rfl #[.string Ac] rfl qy1 ?_;(with_reducible refine(z6_.calls k2 Ac Ak _ Cu.out).mono ?_);rintro e De ⟨rfl,hb⟩;refine⟨_,rfl, ?_⟩;replace HB:=y0.mk (y5 qb hb);(try clear hb)))
         go_ret2
         exact⟨qf,qb⟩
def spec_TermNum.f (k:Nat) (a0:ByteArray):Option (Int×Bool):=(z9_.f k a0).bind fun bt264=>(if bt264.2=true then(some (bt264.1,true))else(some (0,false)))
theorem spec_TermNum.calls (k:Nat) (a0:ByteArray) (r1:Int) (r2:Bool) (w:World) (h:spec_TermNum.f k a0=some (r1,r2)) :
  Calls Tryz.prog 33 #[.string a0] w fun e w'=>e=.returned (.tuple #[.int .i64 r1,.bool r2])∧Below w.heap.size w w':=by
 have HB:=y0.mk (Below.refl w.heap.size w)
 have H:((z9_.f k a0).bind fun Aa=>(if Aa.2=true then(some (Aa.1,true))else(some (0,false))))=some (r1,r2):=h
 clear h
 obtain⟨⟨Ab,Ac⟩,A2,H⟩:=qB H
 replace H:(if Ac=true then(some (Ab,true))else(some (0,false)))=some (r1,r2):=H
 by_cases c3:Ac=true
 ·subst c3
  replace H:=qT H
  simp only [Option.some.injEq,Prod.mk.injEq]at H
  obtain⟨rfl,rfl⟩:=H
  go_enter Tryz.func33,Tryz.ntmps33
  go_wp2_with (first|((with_reducible refine y18 (f:=50) rfl ?_);refine y21 (some 8) rfl rfl Tryz.func50 (by kernel_rfl) rfl #[.string a0] rfl qy1 ?_;(with_reducible refine(z9_.calls k a0 Ab true _ A2.out).mono ?_);rintro e w4 ⟨rfl,hb⟩;refine⟨_,rfl, ?_⟩;replace HB:=y0.mk (y5 qb hb);(try clear hb)))
  go_ret2
  exact⟨qf,qb⟩
 ·replace c3:=Bool.eq_false_iff.mpr c3
  subst c3
  replace H:=qF H
  simp only [Option.some.injEq,Prod.mk.injEq]at H
  obtain⟨rfl,rfl⟩:=H
  go_enter Tryz.func33,Tryz.ntmps33
  go_wp2_with (first|((with_reducible refine y18 (f:=50) rfl ?_);refine y21 (some 8) rfl rfl Tryz.func50 (by kernel_rfl) rfl #[.string a0] rfl qy1 ?_;(with_reducible refine(z9_.calls k a0 Ab false _ A2.out).mono ?_);rintro e w5 ⟨rfl,hb⟩;refine⟨_,rfl, ?_⟩;replace HB:=y0.mk (y5 qb hb);(try clear hb)))
  go_ret2
  exact⟨qf,qb⟩
end Go.Proofs.YtimhlficlhafbaaGreatDoor.Pv
end
