-- Cut by prune.py.
import Derived.Test.YtkdabljlfbmpdaaVgrPwx12
namespace Go.Proofs.Ytkdabljlfbmpdaa.Pw
open RowKit YtkdabljlfbmpdaaW.PrintWords YtkdabljlfbmpdaaW.PrintLast YtkdabljlfbmpdaaW.PrintMore
set_option linter.unusedVariables false
set_option linter.unusedSimpArgs false
mutual
def z9_.l0:Nat→List ByteArray→List Bool→Int→List (S63)→Int→ByteArray→List Int→List (S33)→Option (List ByteArray)
 | 0,_,_,_,_,_,_,_,_=>none
 | k + 1,x3,x4,x5,Al,An,Ao,Aq,Ae=>if x5 < (Ae.length:Int)then(z9_.l1 k x3 x4 x5 0 Al An Ao Aq Ae)else(z9_.l3 k x3 Al An Ao Aq Ae)
def z9_.l1:Nat→List ByteArray→List Bool→Int→Int→List (S63)→Int→ByteArray→List Int→List (S33)→Option (List ByteArray)
 | 0,_,_,_,_,_,_,_,_,_=>none
 | k + 1,x3,x4,x5,x6,Al,An,Ao,Aq,Ae=>if 0≤x5 then(if x5 < (Ae.length:Int)then(if x6 < (((y18 Ae x5).f2).length:Int)then(z9_.j2 k x3 x4 x5 x6 (((y18 Ae x5).f0) == 1) Al An Ao Aq Ae)else(z9_.j2 k x3 x4 x5 x6 false Al An Ao Aq Ae))else(none))else(none)
def z9_.j2:Nat→List ByteArray→List Bool→Int→Int→Bool→List (S63)→Int→ByteArray→List Int→List (S33)→Option (List ByteArray)
 | 0,_,_,_,_,_,_,_,_,_,_=>none
 | k + 1,x3,x4,x5,x6,By,Al,An,Ao,Aq,Ae=>if By=true then(if 0≤x5 then(if x5 < (Ae.length:Int)then(if 0≤x6 then(if x6 < (((y18 Ae x5).f2).length:Int)then((z12_.f k Al An Ao Aq Ae (rd ((y18 Ae x5).f2) x6)).bind fun Di=>(z9_.l2 k x3 x4 x5 x6 Di 0 Al An Ao Aq Ae))else(none))else(none))else(none))else(none))else(z9_.l0 k x3 x4 (wrap64 (x5 + 1)) Al An Ao Aq Ae)
def z9_.l2:Nat→List ByteArray→List Bool→Int→Int→List Bool→Int→List (S63)→Int→ByteArray→List Int→List (S33)→Option (List ByteArray)
 | 0,_,_,_,_,_,_,_,_,_,_,_=>none
 | k + 1,x3,x4,x5,x6,x7,x8,Ae,Al,An,Ao,Aq=>if x8 < (x7.length:Int)then(if 0≤x8 then(if rdOf false x7 x8=true then(if x8 < (Ae.length:Int)then(if((y19 Ae x8).f0)=1 then(if x8 < (x4.length:Int)then(if rdOf false x4 x8=true then(z9_.l2 k x3 x4 x5 x6 x7 (wrap64 (x8 + 1)) Ae Al An Ao Aq)else((spec_l05In.f k x3 ((y19 Ae x8).f1)).bind fun By=>(if By=true then(z9_.l2 k x3 x4 x5 x6 x7 (wrap64 (x8 + 1)) Ae Al An Ao Aq)else(if x3.length < 8796093022208 then(z9_.l2 k (x3 ++ [(y19 Ae x8).f1]) x4 x5 x6 x7 (wrap64 (x8 + 1)) Ae Al An Ao Aq)else(none)))))else(none))else(z9_.l2 k x3 x4 x5 x6 x7 (wrap64 (x8 + 1)) Ae Al An Ao Aq))else(none))else(z9_.l2 k x3 x4 x5 x6 x7 (wrap64 (x8 + 1)) Ae Al An Ao Aq))else(none))else(z9_.l1 k x3 x4 x5 (wrap64 (x6 + 1)) Ae Al An Ao Aq)
def z9_.l3:Nat→List ByteArray→List (S63)→Int→ByteArray→List Int→List (S33)→Option (List ByteArray)
 | 0,_,_,_,_,_,_=>none
 | k + 1,x3,Ae,Al,An,Ao,Aq=>z9_.l4 k x3 (x3.length:Int) 0 Ae Al An Ao Aq
def z9_.l4:Nat→List ByteArray→Int→Int→List (S63)→Int→ByteArray→List Int→List (S33)→Option (List ByteArray)
 | 0,_,_,_,_,_,_,_,_=>none
 | k + 1,x3,x9,Ae,An,Ao,Aq,By,Al=>if Ae < (Al.length:Int)then(if 0≤Ae then(if((y18 Al Ae).f0)=3 then(z9_.j6 k x3 x9 Ae (((y18 Al Ae).f1).toList != ([61]:List UInt8)) An Ao Aq By Al ((y18 Al Ae).f0) ((y18 Al Ae).f1) ((y18 Al Ae).f2))else(z9_.j6 k x3 x9 Ae true An Ao Aq By Al ((y18 Al Ae).f0) ((y18 Al Ae).f1) ((y18 Al Ae).f2)))else(none))else(if(x3.length:Int)=x9 then(some x3)else(z9_.l3 k x3 An Ao Aq By Al))
def z9_.j6:Nat→List ByteArray→Int→Int→Bool→List (S63)→Int→ByteArray→List Int→List (S33)→Int→ByteArray→List Int→Option (List ByteArray)
 | 0,_,_,_,_,_,_,_,_,_,_,_,_=>none
 | k + 1,x3,x9,Ae,Di,Al,An,Ao,Aq,By,Du,Ea,Fd=>if Di=true then(z9_.l4 k x3 x9 (wrap64 (Ae + 1)) Al An Ao Aq By)else(z9_.l5 k x3 x9 Ae 0 Al An Ao Aq By Du Ea Fd)
def z9_.l5:Nat→List ByteArray→Int→Int→Int→List (S63)→Int→ByteArray→List Int→List (S33)→Int→ByteArray→List Int→Option (List ByteArray)
 | 0,_,_,_,_,_,_,_,_,_,_,_,_=>none
 | k + 1,x3,x9,Du,Ae,An,Ao,Aq,By,Di,Ea,Fd,Al=>if Ae < 2 then(if 0≤Ae then(if Ae < (Al.length:Int)then(if 0≤(wrap64 (1 - Ae))then(if(wrap64 (1 - Ae)) < (Al.length:Int)then((z10_.f k An Ao Aq By Di (rd Al Ae) 2 2).bind fun Ff=>(if Ff=true then(z9_.j8 k x3 x9 Du Ae (rd Al (wrap64 (1 - Ae))) true An Ao Aq By Di Ea Fd Al)else((spec_l06Vars.f k An Ao Aq By Di (rd Al Ae)).bind fun Fj=>((spec_l06All.f k Fj x3).bind fun Fk=>(if Fk=true then((z10_.f k An Ao Aq By Di (rd Al (wrap64 (1 - Ae))) 5 7).bind fun Fn=>(z9_.j8 k x3 x9 Du Ae (rd Al (wrap64 (1 - Ae))) Fn An Ao Aq By Di Ea Fd Al))else(z9_.j8 k x3 x9 Du Ae (rd Al (wrap64 (1 - Ae))) true An Ao Aq By Di Ea Fd Al))))))else(none))else(none))else(none))else(none))else(z9_.l4 k x3 x9 (wrap64 (Du + 1)) An Ao Aq By Di)
def z9_.j8:Nat→List ByteArray→Int→Int→Int→Int→Bool→List (S63)→Int→ByteArray→List Int→List (S33)→Int→ByteArray→List Int→Option (List ByteArray)
 | 0,_,_,_,_,_,_,_,_,_,_,_,_,_,_=>none
 | k + 1,x3,x9,By,Di,Ff,Fj,Ae,Al,An,Ao,Aq,Du,Ea,Fd=>if Fj=true then(z9_.l5 k x3 x9 By (wrap64 (Di + 1)) Ae Al An Ao Aq Du Ea Fd)else((spec_l06Vars.f k Ae Al An Ao Aq Ff).bind fun Fk=>(z9_.l6 k x3 x9 By Di Fk 0 Ae Al An Ao Aq Du Ea Fd))
def z9_.l6:Nat→List ByteArray→Int→Int→Int→List ByteArray→Int→List (S63)→Int→ByteArray→List Int→List (S33)→Int→ByteArray→List Int→Option (List ByteArray)
 | 0,_,_,_,_,_,_,_,_,_,_,_,_,_,_=>none
 | k + 1,x3,x9,An,Ao,Al,Ae,Aq,By,Di,Du,Ea,Fd,Ff,Fj=>if Ae < (Al.length:Int)then(if 0≤Ae then((spec_l05In.f k x3 (rdOf ByteArray.empty Al Ae)).bind fun Fk=>(if Fk=true then(z9_.l6 k x3 x9 An Ao Al (wrap64 (Ae + 1)) Aq By Di Du Ea Fd Ff Fj)else(if x3.length < 8796093022208 then(z9_.l6 k (x3 ++ [rdOf ByteArray.empty Al Ae]) x9 An Ao Al (wrap64 (Ae + 1)) Aq By Di Du Ea Fd Ff Fj)else(none))))else(none))else(z9_.l5 k x3 x9 An (wrap64 (Ao + 1)) Aq By Di Du Ea Fd Ff Fj)
end
def z9_.f (k:Nat) (Ae:List (S63)) (Al:Int) (An:ByteArray) (Ao:List Int) (Aq:List (S33)):Option (List ByteArray):=(z11_.f k Ae Al An Ao Aq).bind fun By=>(z9_.l0 k (([]:List ByteArray)) By 0 Ae Al An Ao Aq)
def z9_.T9:Bool×List (List Nat×List Nat):=(true,[([],[]),([],[]),([1],[1]),([],[]),([2,3],[2,3]),([4],[4]),([5],[5]),([],[]),([6,7],[6,7]),([8],[8]),([0,9],[0,9]),([10,10,0,1,2,3,4,5,6,7,8,9,10],[10])])
def z9_.B9:List Nat:=[0,0,2,0,14,30,62,0,254,510,1023,2047]
theorem z9_.tab9:rtab .any (opsOf Try.f61 9)=z9_.T9:=by kernel_rfl
theorem z9_.bits9:waitsOk z9_.T9.2 z9_.B9=true:=by kernel_rfl
def z9_.T24:Bool×List (List Nat×List Nat):=(true,[([],[]),([0],[0]),([],[]),([1,2],[1,2]),([3],[3]),([],[]),([5],[5]),([],[]),([7],[7]),([6,8],[6,8]),([9],[9]),([4,0,1,2,3,4],[4]),([10,11,0,1,2,3,4,5,6,7,8,9,10,11],[10])])
def z9_.B24:List Nat:=[0,1,0,7,15,0,32,0,128,480,992,31,4095]
theorem z9_.tab24:rtab .any (opsOf Try.f61 24)=z9_.T24:=by kernel_rfl
theorem z9_.bits24:waitsOk z9_.T24.2 z9_.B24=true:=by kernel_rfl
set_option maxHeartbeats 8000000 in
set_option maxRecDepth 100000 in
theorem z9_.calls (k:Nat) (Bj:Option Addr) (Bk:Nat) (Af:List (S63)) (Aj:Int) (Ak:ByteArray) (Bl:Option Addr) (Bm:Nat) (Ai:List Int) (Dt:Option Addr) (Bn:Nat) (Aa:List (S33)) (r:List ByteArray) (w:World) (Id:Kd.C k63 w Bj Af.length Af) (Ie:Af.length≤Bk) (If:Kd.C (Kd.int .i64) w Bl Ai.length Ai) (Ig:Ai.length≤Bm) (Ih:Kd.C k33 w Dt Aa.length Aa) (Ii:Aa.length≤Bn) (h:z9_.f k Af Aj Ak Ai Aa=some r) :
  Calls Try.prog 61 #[.agg #[.slice Bj Af.length Bk,.int .i64 Aj,.string Ak,.slice Bl Ai.length Bm,.slice Dt Aa.length Bn]] w fun e w'=>∃ v0_:Value,e=.returned (v0_)∧Kd.R Kd.string 9 w' w.heap.size (fun _=>True) v0_ r∧Below w.heap.size w w':=by
 have Wx:=Try.underlying36
 have Wy:=Try.underlying33
 have Bf:=y0.mk Id
 have Cn:=y0.mk Ie
 clear Id Ie
 have Cp:=y0.mk If
 have Cq:=y0.mk Ig
 clear If Ig
 have Bo:=y0.mk Ih
 have Cr:=y0.mk Ii
 clear Ih Ii
 have HB:=y0.mk (Below.refl w.heap.size w)
 have H:((z11_.f k Af Aj Ak Ai Aa).bind fun Ax=>(z9_.l0 k (([]:List ByteArray)) Ax 0 Af Aj Ak Ai Aa))=some r:=h
 clear h
 obtain⟨Kv,Eh⟩:∃ y_:List ByteArray,y_=(([]:List ByteArray)):=⟨_,rfl⟩
 replace H:((z11_.f k Af Aj Ak Ai Aa).bind fun Ax=>(z9_.l0 k Kv Ax 0 Af Aj Ak Ai Aa))=some r:=by first|exact Eh ▸ H|exact Eh ▸ (Option.bind_some _ _).symm.trans H
 replace Eh:=y0.mk Eh
 obtain⟨Ax,A2,H⟩:=qB H
 have H':=y0.mk H
 clear H
 go_enter Try.func61,Try.ntmps61
 go_wp2_with (first|((with_reducible refine y16 (N:=1) rfl ?_);refine qe 1 #[.slice Bj Af.length Bk,.int .i64 Aj,.string Ak,.slice Bl Ai.length Bm,.slice Dt Aa.length Bn] 36 ?_;intro Bh hg w3 hbox hb;have Ab:=y0.mk (hbox);have Vb:=y0.mk (qg (w:=w) hg);have Vc:=y0.mk (qg (w:=w) hg);replace HB:=y0.mk (y4 qb hb);clear hb hbox hg)|((with_reducible refine y16 (N:=17) rfl ?_);refine qL Kd.string 9 17 ([]:List ByteArray) ?_;intro Wz w4 Kw hb hg_ hnew_;clear hg_ hnew_;(first|rw [← Eh.out]at Kw|(simp only [Int.reduceToNat]at Kw;rw [← Eh.out]at Kw));have Fq:=y0.mk (Kd.R_lower Kw (y3 qb));replace Ab:=y0.mk (qK Ab.out hb);replace HB:=y0.mk (y4 qb hb);clear hb Kw;obtain⟨Is,Iu,Iv,Iw,Ix,Iy,Iz,Ja,Jb,Jc⟩:=qz5 Ab.out)|((with_reducible refine y15 (f:=58) rfl ?_);refine y17 (some 19) rfl rfl Try.func58 (by kernel_rfl) rfl #[.agg #[.slice Bj Af.length Bk,.int .i64 Aj,.string Ak,.slice Bl Ai.length Bm,.slice Dt Aa.length Bn]] rfl qy1 ?_;(with_reducible refine(z11_.calls k _ _ Af Aj Ak _ _ Ai _ _ Aa Ax _ (qc (Kd.C_below Bf.out HB.out)) Cn.out (qc (Kd.C_below Cp.out HB.out)) Cq.out (qc (Kd.C_below Bo.out HB.out)) Cr.out A2.out).mono ?_);rintro e w7 ⟨Fr,rfl,Eg,hb⟩;refine⟨_,rfl, ?_⟩;replace Fq:=y0.mk (Kd.R_below (qR Fq.out) hb);have Kx:=y0.mk (Kd.R_lower Eg (y3 qb));replace Ab:=y0.mk (qK Ab.out hb);replace HB:=y0.mk (y4 qb hb);(try clear hb);(try clear Eg)))
 go_loopg [3,5] k (fun kq v3 v5 w'=>∃(Fs:List ByteArray) (As:Int),v5=.int .i64 As∧y0 (z9_.l0 kq Fs Ax As Af Aj Ak Ai Aa=some r)∧y0 (kq≤k)∧y0 (Kd.R Kd.string 9 w' w.heap.size (fun _=>True) v3 Fs)∧y0 (Kd.R Kd.bool 4 w' w.heap.size (fun _=>True) Fr Ax)∧y0 (w'.heap[Bh]?=some (.cells #[(.slice Bj Af.length Bk),.int .i64 Aj,.string Ak,(.slice Bl Ai.length Bm),(.slice Dt Aa.length Bn)] 36 (0,0)))∧y0 (Below w.heap.size w w'))
 case atStart=>exact⟨(Kv),(0),qy2,H',⟨Nat.le_refl _⟩,⟨qR Fq.out⟩,⟨qR Kx.out⟩,⟨qk Ab.out⟩,⟨qb⟩⟩
 case round =>
  clear H'
  (try clear Is Iu Iv Iw Ix Iy Iz Ja Jb Jc)
  obtain⟨Fs,As,rfl,HA,Bz,Ad,Ba,Ab,HB⟩:=hrel
  cases gk with
  | zero=>exact absurd HA.out (by simp [z9_.l0])
  | succ k1 =>
   have H:=HA.out
   clear HA
   simp only [z9_.l0]at H
   by_cases c8:As < (Aa.length:Int)
   ·as_aux_lemma =>
    rw [if_pos c8]at H
    have Jd:=decide_eq_true c8
    clear c8
    have H':=y0.mk H
    clear H
    obtain⟨Je,Jf,Jg,Jh,Ji,Jj,Jk,Jl,Jm,Jn⟩:=qz5 Ab.out
    go_wp2
    go_loopg [3,6] k1 (fun kq v3 v6 w'=>∃(Bb:List ByteArray) (Bd:Int),v6=.int .i64 Bd∧y0 (z9_.l1 kq Bb Ax As Bd Af Aj Ak Ai Aa=some r)∧y0 (kq≤k1)∧y0 (Kd.R Kd.string 9 w' w.heap.size (fun _=>True) v3 Bb)∧y0 (Kd.R Kd.bool 4 w' w.heap.size (fun _=>True) Fr Ax)∧y0 (w'.heap[Bh]?=some (.cells #[(.slice Bj Af.length Bk),.int .i64 Aj,.string Ak,(.slice Bl Ai.length Bm),(.slice Dt Aa.length Bn)] 36 (0,0)))∧y0 (Below w.heap.size w w'))
    case atStart=>exact⟨(Fs),(0),qy2,H',⟨Nat.le_refl _⟩,⟨qR Ad.out⟩,⟨qR Ba.out⟩,⟨qk Ab.out⟩,⟨qb⟩⟩
    case round =>
     clear H'
     (try clear Jd Je Jf Jg Jh Ji Jj Jk Jl Jm Jn)
     obtain⟨Bb,Bd,rfl,HA,Bx,Ad,Ba,Ab,HB⟩:=hrel
     cases gk with
     | zero=>exact absurd HA.out (by simp [z9_.l1])
     | succ k2 =>
      have H:=HA.out
      clear HA
      simp only [z9_.l1]at H
      have Jo:=y0.mk H
      clear H
      go_upto_region 7 with(fail)
      go_cut [44] (fun Xa wc=>∃(kq:Nat) (Et:Bool),Xa=.bool Et∧y0 (z9_.j2 kq Bb Ax As Bd Et Af Aj Ak Ai Aa=some r)∧y0 (kq≤k2)∧y0 (Kd.R Kd.string 9 wc w.heap.size (fun _=>True) u3 Bb)∧y0 (Kd.R Kd.bool 4 wc w.heap.size (fun _=>True) Fr Ax)∧y0 (wc.heap[Bh]?=some (.cells #[(.slice Bj Af.length Bk),.int .i64 Aj,.string Ak,(.slice Bl Ai.length Bm),(.slice Dt Aa.length Bn)] 36 (0,0)))∧y0 (Below w.heap.size w wc))
      case first =>
       have H:=Jo.out
       clear Jo
       obtain⟨Vd,H⟩:=qo H
       have Ik:decide (0≤As)=true:=decide_eq_true Vd
       clear Vd
       (first|rw [Ik]|(simp only [i64_w,i32_w];rw [Ik])|skip)
       obtain⟨Ve,H⟩:=qo H
       have Vf:decide (As < (Aa.length:Int))=true:=decide_eq_true Ve
       clear Ve
       obtain⟨Nq,Nr,Ns,Nt,Nu,Nv,Nw,Nx,Ny,Nz⟩:=qz5 Ab.out
       have Jp:0≤(As:Int):=qd
       have Jq:As < (Aa.length:Int):=qd
       obtain⟨Ky,Tj,Tk,Tl,Du,Dw,Da,Eu,Ew⟩:=at_T33 Bo.out As Jp Jq
       cases Tl
       replace Du:=qC Du HB
       replace Dw:=qC Dw HB
       replace Da:=qC Da HB
       have Oa:=y0.mk Ew
       have Ob:=y0.mk Eu
       clear Ew Eu
       replace Jp:=eq_true Jp
       replace Jq:=eq_true Jq
       by_cases Kq:Bd < (((y18 Aa As).f2).length:Int)
       ·as_aux_lemma =>
        rw [if_pos Kq]at H
        have Kz:=decide_eq_true Kq
        clear Kq
        have H':=y0.mk H
        clear H
        have Jr:0≤(As:Int):=qd
        have Js:As < (Aa.length:Int):=qd
        obtain⟨La,Tm,Tn,To,Dx,Dy,Db,Ex,Ey⟩:=at_T33 Bo.out As Jr Js
        obtain rfl:Ky=La:=(by injection To)
        replace Dx:=qC Dx HB
        replace Dy:=qC Dy HB
        replace Db:=qC Db HB
        have Oc:=y0.mk Ey
        have Od:=y0.mk Ex
        clear Ey Ex
        replace Jr:=eq_true Jr
        replace Js:=eq_true Js
        have ea_:=Option.some.inj (Da.symm.trans Db)
        injection ea_ with ea_ en_ ec_
        subst ea_
        subst ec_
        clear en_
        go_wp2
        go_meet
        exact⟨_,((((y18 Aa As).f0) == 1)),qy2,H',⟨by have:=Bz.out;have:=Bx.out;first|omega|exact Nat.le_refl _⟩,⟨qR Ad.out⟩,⟨qR Ba.out⟩,⟨qk Ab.out⟩,⟨qb⟩⟩
       ·as_aux_lemma =>
        rw [if_neg Kq]at H
        have Kz:=decide_eq_false Kq
        clear Kq
        have H':=y0.mk H
        clear H
        go_wp2
        go_meet
        exact⟨_,(false),qy2,H',⟨by have:=Bz.out;have:=Bx.out;first|omega|exact Nat.le_refl _⟩,⟨qR Ad.out⟩,⟨qR Ba.out⟩,⟨qk Ab.out⟩,⟨qb⟩⟩
      case rest =>
       clear Jo
       obtain⟨kq,Et,rfl,HA,Ez,Ad,Ba,Ab,HB⟩:=hcut
       cases kq with
       | zero=>exact absurd HA.out (by simp [z9_.j2])
       | succ Oe =>
        have H:=HA.out
        clear HA
        simp only [z9_.j2]at H
        by_cases Lb:Et=true
        ·subst Lb
         replace H:=qT H
         obtain⟨Vg,H⟩:=qo H
         have Lc:decide (0≤As)=true:=decide_eq_true Vg
         clear Vg
         obtain⟨Vh,H⟩:=qo H
         have Ld:decide (As < (Aa.length:Int))=true:=decide_eq_true Vh
         clear Vh
         obtain⟨Vi,H⟩:=qo H
         have Le:decide (0≤Bd)=true:=decide_eq_true Vi
         clear Vi
         obtain⟨Vj,H⟩:=qo H
         have Lf:decide (Bd < (((y18 Aa As).f2).length:Int))=true:=decide_eq_true Vj
         clear Vj
         obtain⟨Bq,Xb,H⟩:=qB H
         have H':=y0.mk H
         clear H
         try go_wp2
         replace Ad:=y0.mk (Kd.R_drew Ad.out)
         replace Ba:=y0.mk (Kd.R_drew Ba.out)
         replace Ab:=y0.mk (y8 Ab.out)
         replace HB:=y0.mk (y2 HB.out)
         have Gl:0≤(As:Int):=qd
         have Gm:As < (Aa.length:Int):=qd
         obtain⟨Cw,Tp,Jt,Tq,Cb,Cc,Cd,Fa,Fb⟩:=at_T33 Bo.out As Gl Gm
         have Dc:=Cd
         have Dd:=Cc
         have De:=Cb
         cases Tq
         replace Cb:=qC Cb HB
         replace Cc:=qC Cc HB
         replace Cd:=qC Cd HB
         have Fc:=y0.mk Fb
         have Of:=y0.mk Fa
         clear Fb Fa
         replace Gl:=eq_true Gl
         replace Gm:=eq_true Gm
         have Gn:0≤(Bd:Int):=qd
         have Gp:Bd < (((y18 Aa As).f2).length:Int):=qd
         obtain⟨Il,Tr,Ce⟩:=Kd.at_int Fc.out Bd Gn Gp
         have Df:=Ce
         cases Tr
         replace Ce:=qC Ce HB
         replace Gn:=eq_true Gn
         replace Gp:=eq_true Gp
         refine start_ (n:=12) (S:=fun w'=>w'.cell? ⟨Bh,0,none⟩=some (.slice Bj Af.length Bk)∧w'.cell? ⟨Bh,1,none⟩=some (.int .i64 Aj)∧w'.cell? ⟨Bh,2,none⟩=some (.string Ak)∧w'.cell? ⟨Bh,3,none⟩=some (.slice Bl Ai.length Bm)∧w'.cell? ⟨Bh,4,none⟩=some (.slice (some Cw) Aa.length Bn)∧w'.cell? (Cw.add ((As).toNat * 3))=some (.int .i64 ((y18 Aa As).f0))∧w'.cell? ⟨(Cw.add ((As).toNat * 3)).block,(Cw.add ((As).toNat * 3)).off + 1,none⟩=some (.string ((y18 Aa As).f1))∧w'.cell? ⟨(Cw.add ((As).toNat * 3)).block,(Cw.add ((As).toNat * 3)).off + 2,none⟩=some (.slice (some Il) ((y18 Aa As).f2).length Jt)∧w'.cell? (Il.add (Bd).toNat)=some (.int .i64 (rd ((y18 Aa As).f2) Bd))) (ds:=[]) (fl_ 12 0) (by kernel_rfl) rfl rfl ⟨(y7 Ab.out 0).trans rfl,(y7 Ab.out 1).trans rfl,(y7 Ab.out 2).trans rfl,(y7 Ab.out 3).trans rfl,(y7 Ab.out 4).trans rfl,(qC De HB),(qC Dd HB),(qC Dc HB),(qC Df HB)⟩ (fun hHeld=>?_);refine with_tabW z9_.tab9 z9_.bits9 (fun HT_ HW_=>?_)
         generalize wc.drew=Yo at Ad Ba Ab HB Fc Cb Cc Cd Ce hHeld ⊢
         refine qp 1 48 (fl_ 12 2) ?_
         refine qp 3 50 (fl_ 12 10) ?_
         refine qp 7 54 (fl_ 12 138) ?_
         refine qt 0 47 (fl_ 12 139) hHeld ?_
         refine qt 2 49 (fl_ 12 143) hHeld ?_
         refine qp 4 51 (fl_ 12 159) ?_
         refine qp 5 52 (fl_ 12 191) ?_
         refine qt 6 53 (fl_ 12 255) hHeld ?_
         refine qp 8 55 (fl_ 12 511) ?_
         refine qt 9 56 (fl_ 12 1023) hHeld ?_
         refine qO 10 57 (fl_ 12 2047) (fun K hK=>?_)
         refine goes_ Try.func49 (by kernel_rfl) rfl #[.agg #[.slice Bj Af.length Bk,.int .i64 Aj,.string Ak,.slice Bl Ai.length Bm,.slice (some Cw) Aa.length Bn],.int .i64 (rd ((y18 Aa As).f2) Bd)] (by rfl) rfl rfl qy1 ?_
         with_reducible refine(z12_.calls Oe _ _ Af Aj Ak _ _ Ai _ _ Aa (rd ((y18 Aa As).f2) Bd) Bq _ (qc (Kd.C_below Bf.out HB.out)) Cn.out (qc (Kd.C_below Cp.out HB.out)) Cq.out (qc (Kd.C_below Bo.out HB.out)) Cr.out Xb.out).mono ?_
         rintro e Yp ⟨Lg,rfl,Eg,hb⟩
         refine⟨_,rfl, ?_⟩
         replace Ad:=y0.mk (Kd.R_below (qR Ad.out) hb)
         have Lh:=y0.mk (Kd.R_lower (Kd.R_new' Eg (Kd.R_lt (qR Ba.out))) (y3 qb))
         replace Ba:=y0.mk (Kd.R_elder' (qR Ba.out) (Kd.R_base Eg) hb)
         replace Ab:=y0.mk (qK Ab.out hb)
         replace HB:=y0.mk (y4 qb hb)
         (try clear hb)
         (try clear Eg)
         refine hK.out _ _ ⟨(y7 Ab.out 0).trans rfl,(y7 Ab.out 1).trans rfl,(y7 Ab.out 2).trans rfl,(y7 Ab.out 3).trans rfl,(y7 Ab.out 4).trans rfl,(qC De HB),(qC Dd HB),(qC Dc HB),(qC Df HB)⟩ (fun hHeld=>?_)
         clear hK K
         refine qx 57 ?_
         refine qp 11 7 (fl_ 12 4095) ?_
         refine done_ (done_of HT_.out (by kernel_rfl)) ?_
         try go_wp2
         go_loopg [3,8] Oe (fun kq v3 v8 w'=>∃(Be:List ByteArray) (Ag:Int),v8=.int .i64 Ag∧y0 (z9_.l2 kq Be Ax As Bd Bq Ag Af Aj Ak Ai Aa=some r)∧y0 (kq≤Oe)∧y0 (Kd.R Kd.string 9 w' w.heap.size (fun _=>True) v3 Be)∧y0 (Kd.R Kd.bool 4 w' w.heap.size (fun k_=>some k_≠(Lg:Value).ownBlock) Fr Ax)∧y0 (Kd.R Kd.bool 4 w' w.heap.size (fun k_=>some k_≠(Fr:Value).ownBlock) Lg Bq)∧y0 (w'.heap[Bh]?=some (.cells #[(.slice Bj Af.length Bk),.int .i64 Aj,.string Ak,(.slice Bl Ai.length Bm),(.slice (some Cw) Aa.length Bn)] 36 (0,0)))∧y0 (Below w.heap.size w w'))
         case atStart=>exact⟨(Bb),(0),qy2,H',⟨Nat.le_refl _⟩,⟨qR Ad.out⟩,⟨qR (Kd.R_mono Ba.out (fun _ hk=>hk.2))⟩,⟨qR (Kd.R_mono Lh.out (fun _ hk=>hk.2))⟩,⟨qk Ab.out⟩,⟨qb⟩⟩
         case round =>
          clear H'
          (try clear Lb Lc Ld Le Lf Cb Cc Cd Ce Gl Gn Gm Gp)
          obtain⟨Be,Ag,rfl,HA,Fp,Ad,Ba,Bv,Ab,HB⟩:=hrel
          cases gk with
          | zero=>exact absurd HA.out (by simp [z9_.l2])
          | succ k4 =>
           have H:=HA.out
           clear HA
           simp only [z9_.l2]at H
           by_cases Kr:Ag < (Bq.length:Int)
           ·as_aux_lemma =>
            rw [if_pos Kr]at H
            have Li:=decide_eq_true Kr
            clear Kr
            obtain⟨Vk,H⟩:=qo H
            have Vl:decide (0≤Ag)=true:=decide_eq_true Vk
            clear Vk
            obtain⟨Lj,Ft⟩:∃ b_:Bool,b_=(rdOf false Bq Ag):=⟨_,rfl⟩
            replace H:(if Lj=true then(if Ag < (Af.length:Int)then(if((y19 Af Ag).f0)=1 then(if Ag < (Ax.length:Int)then(if rdOf false Ax Ag=true then(z9_.l2 k4 Be Ax As Bd Bq (wrap64 (Ag + 1)) Af Aj Ak Ai Aa)else((spec_l05In.f k4 Be ((y19 Af Ag).f1)).bind fun Fu=>(if Fu=true then(z9_.l2 k4 Be Ax As Bd Bq (wrap64 (Ag + 1)) Af Aj Ak Ai Aa)else(if Be.length < 8796093022208 then(z9_.l2 k4 (Be ++ [(y19 Af Ag).f1]) Ax As Bd Bq (wrap64 (Ag + 1)) Af Aj Ak Ai Aa)else(none)))))else(none))else(z9_.l2 k4 Be Ax As Bd Bq (wrap64 (Ag + 1)) Af Aj Ak Ai Aa))else(none))else(z9_.l2 k4 Be Ax As Bd Bq (wrap64 (Ag + 1)) Af Aj Ak Ai Aa))=some r:=by rw [← Ft]at H;exact H
            replace Ft:=y0.mk Ft
            by_cases Og:Lj=true
            ·subst Og
             replace H:=qT H
             obtain⟨Vm,H⟩:=qo H
             have Vn:decide (Ag < (Af.length:Int))=true:=decide_eq_true Vm
             clear Vm
             by_cases Ju:((y19 Af Ag).f0)=1
             ·as_aux_lemma =>
              rw [if_pos Ju]at H
              have Lk:(((y19 Af Ag).f0) == 1)=true:=beq_iff_eq.mpr Ju
              have Ll:(((y19 Af Ag).f0) != 1)=false:=bne_eq_false_iff_eq.mpr Ju
              clear Ju
              obtain⟨Vo,H⟩:=qo H
              have Vp:decide (Ag < (Ax.length:Int))=true:=decide_eq_true Vo
              clear Vo
              obtain⟨Lm,Fv⟩:∃ b_:Bool,b_=(rdOf false Ax Ag):=⟨_,rfl⟩
              replace H:(if Lm=true then(z9_.l2 k4 Be Ax As Bd Bq (wrap64 (Ag + 1)) Af Aj Ak Ai Aa)else((spec_l05In.f k4 Be ((y19 Af Ag).f1)).bind fun Fu=>(if Fu=true then(z9_.l2 k4 Be Ax As Bd Bq (wrap64 (Ag + 1)) Af Aj Ak Ai Aa)else(if Be.length < 8796093022208 then(z9_.l2 k4 (Be ++ [(y19 Af Ag).f1]) Ax As Bd Bq (wrap64 (Ag + 1)) Af Aj Ak Ai Aa)else(none)))))=some r:=by rw [← Fv]at H;exact H
              replace Fv:=y0.mk Fv
              by_cases Oh:Lm=true
              ·subst Oh
               replace H:=qT H
               have H':=y0.mk H
               clear H
               obtain⟨Xc,Xd,Ts⟩:=Kd.R_slice Bv.out
               subst Ts
               have Br:0≤(Ag:Int):=qd
               have Bs:Ag < (Bq.length:Int):=qd
               obtain⟨Fd,Dz,Aw⟩:=Kd.at_bool (Kd.R_reads' Bv.out).2.2 Ag Br Bs
               (try rw [← Ft.out]at Aw)
               (try rw [← Fv.out]at Aw)
               cases Dz
               replace Br:=eq_true Br
               replace Bs:=eq_true Bs
               obtain⟨Oi,Oj,Ok,Ol,Om,On,Oo,Oq,Ot,Ou⟩:=qz5 Ab.out
               have Ci:0≤(Ag:Int):=qd
               have Cj:Ag < (Af.length:Int):=qd
               obtain⟨Dr,Em,En,Eo,At,Au,Ar,Ay,Az⟩:=at_T63 Bf.out Ag Ci Cj
               cases Eo
               replace At:=qC At HB
               replace Au:=qC Au HB
               replace Ar:=qC Ar HB
               have Ea:=y0.mk Az
               have Eb:=y0.mk Ay
               clear Az Ay
               replace Ci:=eq_true Ci
               replace Cj:=eq_true Cj
               obtain⟨Xe,Xf,Tt⟩:=Kd.R_slice Ba.out
               subst Tt
               have Dm:0≤(Ag:Int):=qd
               have Do:Ag < (Ax.length:Int):=qd
               obtain⟨Im,Fx,Bi⟩:=Kd.at_bool (Kd.R_reads' Ba.out).2.2 Ag Dm Do
               (try rw [← Ft.out]at Bi)
               (try rw [← Fv.out]at Bi)
               cases Fx
               replace Dm:=eq_true Dm
               replace Do:=eq_true Do
               go_wp2
               go_roundg k4
               case measure=>have:=Bz.out;have:=Bx.out;have:=Ez.out;have:=Fp.out;omega
               exact⟨(Be),(wrap64 (Ag + 1)),qy2,H',⟨by have:=Bz.out;have:=Bx.out;have:=Ez.out;have:=Fp.out;omega⟩,⟨qR Ad.out⟩,⟨qR Ba.out⟩,⟨qR Bv.out⟩,⟨qk Ab.out⟩,⟨qb⟩⟩
              ·replace Oh:=Bool.eq_false_iff.mpr Oh
               subst Oh
               replace H:=qF H
               obtain⟨Fu,Vq,H⟩:=qB H
               by_cases Ov:Fu=true
               ·subst Ov
                replace H:=qT H
                have H':=y0.mk H
                clear H
                obtain⟨Xg,Xh,Tu⟩:=Kd.R_slice Bv.out
                subst Tu
                have Br:0≤(Ag:Int):=qd
                have Bs:Ag < (Bq.length:Int):=qd
                obtain⟨Fd,Dz,Aw⟩:=Kd.at_bool (Kd.R_reads' Bv.out).2.2 Ag Br Bs
                (try rw [← Ft.out]at Aw)
                (try rw [← Fv.out]at Aw)
                cases Dz
                replace Br:=eq_true Br
                replace Bs:=eq_true Bs
                obtain⟨Ow,Ox,Oy,Oz,Pa,Pb,Pc,Pd,Pe,Pf⟩:=qz5 Ab.out
                have Ci:0≤(Ag:Int):=qd
                have Cj:Ag < (Af.length:Int):=qd
                obtain⟨Dr,Em,En,Eo,At,Au,Ar,Ay,Az⟩:=at_T63 Bf.out Ag Ci Cj
                cases Eo
                replace At:=qC At HB
                replace Au:=qC Au HB
                replace Ar:=qC Ar HB
                have Ea:=y0.mk Az
                have Eb:=y0.mk Ay
                clear Az Ay
                replace Ci:=eq_true Ci
                replace Cj:=eq_true Cj
                obtain⟨Xi,Xj,Tv⟩:=Kd.R_slice Ba.out
                subst Tv
                have Dm:0≤(Ag:Int):=qd
                have Do:Ag < (Ax.length:Int):=qd
                obtain⟨Im,Fx,Bi⟩:=Kd.at_bool (Kd.R_reads' Ba.out).2.2 Ag Dm Do
                (try rw [← Ft.out]at Bi)
                (try rw [← Fv.out]at Bi)
                cases Fx
                replace Dm:=eq_true Dm
                replace Do:=eq_true Do
                have Ep:0≤(Ag:Int):=qd
                have Eq:Ag < (Af.length:Int):=qd
                obtain⟨Fy,Jv,Jw,Jx,Bt,Bu,Bg,Cs,Ct⟩:=at_T63 Bf.out Ag Ep Eq
                obtain rfl:Dr=Fy:=(by injection Jx)
                replace Bt:=qC Bt HB
                replace Bu:=qC Bu HB
                replace Bg:=qC Bg HB
                have Gq:=y0.mk Ct
                have Gr:=y0.mk Cs
                clear Ct Cs
                replace Ep:=eq_true Ep
                replace Eq:=eq_true Eq
                have ea_:=Option.some.inj (Ar.symm.trans Bg)
                injection ea_ with ea_ en_ ec_
                subst ea_
                subst ec_
                clear en_
                obtain⟨Xk,Xl,Tw⟩:=Kd.R_slice Ad.out
                subst Tw
                go_wp2_with (first|(go_at_call 39;(with_reducible refine(spec_l05In.calls k4 _ _ Be ((y19 Af Ag).f1) true _ (qc ((Kd.R_reads' Ad.out).2.2)) (by exact(Kd.R_reads' Ad.out).2.1) Vq.out).mono ?_);rintro e w' ⟨rfl,⟨nd,rfl⟩⟩))
                go_roundg k4
                case measure=>have:=Bz.out;have:=Bx.out;have:=Ez.out;have:=Fp.out;omega
                exact⟨(Be),(wrap64 (Ag + 1)),qy2,H',⟨by have:=Bz.out;have:=Bx.out;have:=Ez.out;have:=Fp.out;omega⟩,⟨qR Ad.out⟩,⟨qR Ba.out⟩,⟨qR Bv.out⟩,⟨qk Ab.out⟩,⟨qb⟩⟩
               ·replace Ov:=Bool.eq_false_iff.mpr Ov
                subst Ov
                replace H:=qF H
                obtain⟨Vr,H⟩:=qo H
                replace Vr:=y0.mk Vr
                obtain⟨Lo,Ei⟩:∃ y_:List ByteArray,y_=(Be ++ [(y19 Af Ag).f1]):=⟨_,rfl⟩
                replace H:(z9_.l2 k4 Lo Ax As Bd Bq (wrap64 (Ag + 1)) Af Aj Ak Ai Aa)=some r:=by first|exact Ei ▸ H|exact Ei ▸ (Option.bind_some _ _).symm.trans H
                replace Ei:=y0.mk Ei
                have H':=y0.mk H
                clear H
                obtain⟨Xm,Xn,Tx⟩:=Kd.R_slice Bv.out
                subst Tx
                have Br:0≤(Ag:Int):=qd
                have Bs:Ag < (Bq.length:Int):=qd
                obtain⟨Fd,Dz,Aw⟩:=Kd.at_bool (Kd.R_reads' Bv.out).2.2 Ag Br Bs
                (try rw [← Ft.out]at Aw)
                (try rw [← Fv.out]at Aw)
                cases Dz
                replace Br:=eq_true Br
                replace Bs:=eq_true Bs
                obtain⟨Pg,Ph,Pj,Pk,Pm,Pn,Po,Pp,Pq,Pr⟩:=qz5 Ab.out
                have Ci:0≤(Ag:Int):=qd
                have Cj:Ag < (Af.length:Int):=qd
                obtain⟨Dr,Em,En,Eo,At,Au,Ar,Ay,Az⟩:=at_T63 Bf.out Ag Ci Cj
                cases Eo
                replace At:=qC At HB
                replace Au:=qC Au HB
                replace Ar:=qC Ar HB
                have Ea:=y0.mk Az
                have Eb:=y0.mk Ay
                clear Az Ay
                replace Ci:=eq_true Ci
                replace Cj:=eq_true Cj
                obtain⟨Xo,Xp,Ty⟩:=Kd.R_slice Ba.out
                subst Ty
                have Dm:0≤(Ag:Int):=qd
                have Do:Ag < (Ax.length:Int):=qd
                obtain⟨Im,Fx,Bi⟩:=Kd.at_bool (Kd.R_reads' Ba.out).2.2 Ag Dm Do
                (try rw [← Ft.out]at Bi)
                (try rw [← Fv.out]at Bi)
                cases Fx
                replace Dm:=eq_true Dm
                replace Do:=eq_true Do
                have Ep:0≤(Ag:Int):=qd
                have Eq:Ag < (Af.length:Int):=qd
                obtain⟨Fy,Jv,Jw,Jx,Bt,Bu,Bg,Cs,Ct⟩:=at_T63 Bf.out Ag Ep Eq
                obtain rfl:Dr=Fy:=(by injection Jx)
                replace Bt:=qC Bt HB
                replace Bu:=qC Bu HB
                replace Bg:=qC Bg HB
                have Gq:=y0.mk Ct
                have Gr:=y0.mk Cs
                clear Ct Cs
                replace Ep:=eq_true Ep
                replace Eq:=eq_true Eq
                have ea_:=Option.some.inj (Ar.symm.trans Bg)
                injection ea_ with ea_ en_ ec_
                subst ea_
                subst ec_
                clear en_
                obtain⟨Tz,Ua,Ub⟩:=Kd.R_slice Ad.out
                subst Ub
                go_wp2_with (first|(go_at_call 39;(with_reducible refine(spec_l05In.calls k4 _ _ Be ((y19 Af Ag).f1) false _ (qc ((Kd.R_reads' Ad.out).2.2)) (by exact(Kd.R_reads' Ad.out).2.1) Vq.out).mono ?_);rintro e w' ⟨rfl,⟨nd,rfl⟩⟩;have Jy:0≤(Ag:Int):=qd;have Jz:Ag < (Af.length:Int):=qd;obtain⟨Lq,Uc,Ud,Ue,Ec,Ed,Dg,Fe,Ff⟩:=at_T63 Bf.out Ag Jy Jz;obtain rfl:Dr=Lq:=(by injection Ue);replace Ec:=qC Ec HB;replace Ed:=qC Ed HB;replace Dg:=qC Dg HB;have Ps:=y0.mk Ff;have Pt:=y0.mk Fe;clear Ff Fe;replace Jy:=eq_true Jy;replace Jz:=eq_true Jz;have ea_:=Option.some.inj (Ar.symm.trans Dg);injection ea_ with ea_ en_ ec_;subst ea_;subst ec_;clear en_)|((with_reducible refine gate_builtin (b:=.append) (xs:=#[.tmp 95,.tmp 102]) rfl ?_);at_builtin;refine Kd.R_append Kd.string (w0:=w) w.heap.size rfl (.tmp 95) (.tmp 102) 30 9 (.string ⟨#[]⟩) 16 rfl Try.underlying30 info9 rfl (by decide) (by omega) (.slice Tz Be.length Ua) Be ((y19 Af Ag).f1) [.string ((y19 Af Ag).f1)] (fun _=>True) (fun _=>False) rfl rfl ?aP (fun _ hk=>hk.elim) ?aF ?aO ?aB ?aS ?aL ?_;(case aP=>exact rfl);(case aB=>exact qb);(case aF=>exact(fun _ _=>trivial));(case aO=>exact(qR Ad.out));(case aS=>exact(y3 qb));(case aL=>have:=Vr.out;omega);intro Xq Yq ho hb hg hat;rw [← Ei.out]at ho;replace Ba:=y0.mk (Kd.R_over' (qR Ba.out) (Kd.R_typed (qR Ad.out)) (by decide) hg);replace Bv:=y0.mk (Kd.R_over' (qR Bv.out) (Kd.R_typed (qR Ad.out)) (by decide) hg);replace Ab:=y0.mk (blk_grown (qk Ab.out) hg (Kd.R_ne Ad.out Ab.out (by decide)));replace HB:=y0.mk (hb);have Lr:=y0.mk (ho);clear Ad;clear ho hb hg hat))
                go_roundg k4
                case measure=>have:=Bz.out;have:=Bx.out;have:=Ez.out;have:=Fp.out;omega
                exact⟨(Lo),(wrap64 (Ag + 1)),qy2,H',⟨by have:=Bz.out;have:=Bx.out;have:=Ez.out;have:=Fp.out;omega⟩,⟨qR Lr.out⟩,⟨qR Ba.out⟩,⟨qR Bv.out⟩,⟨qk Ab.out⟩,⟨qb⟩⟩
             ·as_aux_lemma =>
              rw [if_neg Ju]at H
              have Lk:(((y19 Af Ag).f0) == 1)=false:=beq_eq_false_iff_ne.mpr Ju
              have Ll:(((y19 Af Ag).f0) != 1)=true:=bne_iff_ne.mpr Ju
              have H':=y0.mk H
              clear H
              obtain⟨Xr,Xs,Uf⟩:=Kd.R_slice Bv.out
              subst Uf
              have Br:0≤(Ag:Int):=qd
              have Bs:Ag < (Bq.length:Int):=qd
              obtain⟨Fd,Dz,Aw⟩:=Kd.at_bool (Kd.R_reads' Bv.out).2.2 Ag Br Bs
              (try rw [← Ft.out]at Aw)
              cases Dz
              replace Br:=eq_true Br
              replace Bs:=eq_true Bs
              obtain⟨Pu,Pv,Px,Py,Pz,Qa,Qb,Qc,Qd,Qe⟩:=qz5 Ab.out
              have Ci:0≤(Ag:Int):=qd
              have Cj:Ag < (Af.length:Int):=qd
              obtain⟨Dr,Em,En,Eo,At,Au,Ar,Ay,Az⟩:=at_T63 Bf.out Ag Ci Cj
              cases Eo
              replace At:=qC At HB
              replace Au:=qC Au HB
              replace Ar:=qC Ar HB
              have Ea:=y0.mk Az
              have Eb:=y0.mk Ay
              clear Az Ay
              replace Ci:=eq_true Ci
              replace Cj:=eq_true Cj
              go_wp2
              go_roundg k4
              case measure=>have:=Bz.out;have:=Bx.out;have:=Ez.out;have:=Fp.out;omega
              exact⟨(Be),(wrap64 (Ag + 1)),qy2,H',⟨by have:=Bz.out;have:=Bx.out;have:=Ez.out;have:=Fp.out;omega⟩,⟨qR Ad.out⟩,⟨qR Ba.out⟩,⟨qR Bv.out⟩,⟨qk Ab.out⟩,⟨qb⟩⟩
            ·replace Og:=Bool.eq_false_iff.mpr Og
             subst Og
             replace H:=qF H
             have H':=y0.mk H
             clear H
             obtain⟨Xt,Xu,Ug⟩:=Kd.R_slice Bv.out
             subst Ug
             have Br:0≤(Ag:Int):=qd
             have Bs:Ag < (Bq.length:Int):=qd
             obtain⟨Fd,Dz,Aw⟩:=Kd.at_bool (Kd.R_reads' Bv.out).2.2 Ag Br Bs
             (try rw [← Ft.out]at Aw)
             cases Dz
             replace Br:=eq_true Br
             replace Bs:=eq_true Bs
             go_wp2
             go_roundg k4
             case measure=>have:=Bz.out;have:=Bx.out;have:=Ez.out;have:=Fp.out;omega
             exact⟨(Be),(wrap64 (Ag + 1)),qy2,H',⟨by have:=Bz.out;have:=Bx.out;have:=Ez.out;have:=Fp.out;omega⟩,⟨qR Ad.out⟩,⟨qR Ba.out⟩,⟨qR Bv.out⟩,⟨qk Ab.out⟩,⟨qb⟩⟩
           ·as_aux_lemma =>
            rw [if_neg Kr]at H
            have Li:=decide_eq_false Kr
            clear Kr
            have H':=y0.mk H
            clear H
            obtain⟨Xv,Xw,Uh⟩:=Kd.R_slice Bv.out
            subst Uh
            go_wp2
            go_roundg k4
            case measure=>have:=Bz.out;have:=Bx.out;have:=Ez.out;have:=Fp.out;omega
            exact⟨(Be),(wrap64 (Bd + 1)),qy2,H',⟨by have:=Bz.out;have:=Bx.out;have:=Ez.out;have:=Fp.out;omega⟩,⟨qR Ad.out⟩,⟨qR (Kd.R_mono Ba.out (fun _ hk=>trivial))⟩,⟨qk Ab.out⟩,⟨qb⟩⟩
        ·replace Lb:=Bool.eq_false_iff.mpr Lb
         subst Lb
         replace H:=qF H
         have H':=y0.mk H
         clear H
         go_wp2
         go_roundg Oe
         case measure=>have:=Bz.out;have:=Bx.out;have:=Ez.out;omega
         exact⟨(Bb),(wrap64 (As + 1)),qy2,H',⟨by have:=Bz.out;have:=Bx.out;have:=Ez.out;omega⟩,⟨qR Ad.out⟩,⟨qR Ba.out⟩,⟨qk Ab.out⟩,⟨qb⟩⟩
   ·as_aux_lemma =>
    rw [if_neg c8]at H
    have Jd:=decide_eq_false c8
    clear c8
    have H':=y0.mk H
    clear H
    obtain⟨Gs,Gt,Gu,Gv,Gw,Gx,Gz,Ha,Hb,Hc⟩:=qz5 Ab.out
    go_wp2
    go_loopg [3] k1 (fun kq v3 w'=>∃(Bb:List ByteArray),y0 (z9_.l3 kq Bb Af Aj Ak Ai Aa=some r)∧y0 (kq≤k1)∧y0 (Kd.R Kd.string 9 w' w.heap.size (fun _=>True) v3 Bb)∧y0 (w'.heap[Bh]?=some (.cells #[(.slice Bj Af.length Bk),.int .i64 Aj,.string Ak,(.slice Bl Ai.length Bm),(.slice Dt Aa.length Bn)] 36 (0,0)))∧y0 (Below w.heap.size w w'))
    case atStart=>exact⟨(Fs),H',⟨Nat.le_refl _⟩,⟨qR Ad.out⟩,⟨qk Ab.out⟩,⟨qb⟩⟩
    case round =>
     clear H'
     (try clear Jd Gs Gt Gu Gv Gw Gx Gz Ha Hb Hc)
     obtain⟨Bb,HA,Bx,Ad,Ab,HB⟩:=hrel
     cases gk with
     | zero=>exact absurd HA.out (by simp [z9_.l3])
     | succ k2 =>
      have H:=HA.out
      clear HA
      simp only [z9_.l3]at H
      have H':=y0.mk H
      clear H
      obtain⟨Xx,Xy,Ui⟩:=Kd.R_slice Ad.out
      subst Ui
      go_wp2
      go_loopg [3,10] k2 (fun kq v3 Xz w'=>∃(Ck:List ByteArray) (Ac:Int),Xz=.int .i64 Ac∧y0 (z9_.l4 kq Ck (Bb.length:Int) Ac Af Aj Ak Ai Aa=some r)∧y0 (kq≤k2)∧y0 (Kd.R Kd.string 9 w' w.heap.size (fun _=>True) v3 Ck)∧y0 (w'.heap[Bh]?=some (.cells #[(.slice Bj Af.length Bk),.int .i64 Aj,.string Ak,(.slice Bl Ai.length Bm),(.slice Dt Aa.length Bn)] 36 (0,0)))∧y0 (Below w.heap.size w w'))
      case atStart=>exact⟨(Bb),(0),qy2,H',⟨Nat.le_refl _⟩,⟨qR Ad.out⟩,⟨qk Ab.out⟩,⟨qb⟩⟩
      case round =>
       clear H'
       obtain⟨Ck,Ac,rfl,HA,Ee,Ad,Ab,HB⟩:=hrel
       cases gk with
       | zero=>exact absurd HA.out (by simp [z9_.l4])
       | succ k3 =>
        have H:=HA.out
        clear HA
        simp only [z9_.l4]at H
        by_cases Ks:Ac < (Aa.length:Int)
        ·as_aux_lemma =>
         rw [if_pos Ks]at H
         have Io:=decide_eq_true Ks
         clear Ks
         obtain⟨Vs,H⟩:=qo H
         have Ls:decide (0≤Ac)=true:=decide_eq_true Vs
         clear Vs
         have Ka:=y0.mk H
         clear H
         obtain⟨Hd,He,Hf,Hg,Hh,Hi,Hj,Hk,Hl,Hm⟩:=qz5 Ab.out
         have Hn:0≤(Ac:Int):=qd
         have Ho:Ac < (Aa.length:Int):=qd
         obtain⟨Cy,Ef,Cl,Uj,Dh,Di,Dj,Fg,Fh⟩:=at_T33 Bo.out Ac Hn Ho
         cases Uj
         replace Dh:=qC Dh HB
         replace Di:=qC Di HB
         replace Dj:=qC Dj HB
         have Fi:=y0.mk Fh
         have Qf:=y0.mk Fg
         clear Fh Fg
         replace Hn:=eq_true Hn
         replace Ho:=eq_true Ho
         go_upto_region 20 with(first|((with_reducible refine y16 (N:=11) rfl ?_);refine qe 11 #[.int .i64 0,.string (⟨#[]⟩:ByteArray),.slice none 0 0] 33 ?_;intro Bp hg Yr hbox hb;replace Ad:=y0.mk (Kd.R_below (qR Ad.out) hb);have Ah:=y0.mk (hbox);have Vt:=y0.mk (qg (w:=w) hg);have Vu:=y0.mk (qg (w:=w) hg);replace HB:=y0.mk (y4 qb hb);have Am:=y0.mk (qn Ab.out hg);have Bc:=y0.mk (qm Ab.out hg);replace Ab:=y0.mk (qK Ab.out hb);clear hb hbox hg;have Vv:=Bc.out;have Vw:=Am.out;obtain⟨Hp,Hq,Hr,Hs,Ht,Hu⟩:=qz3 Ah.out))
         (try simp only [Act.put,qS_,qZ_,qC_])
         go_cut [125] (fun Uk wc=>∃(kq:Nat) (Dk:Bool),Uk=.bool Dk∧y0 (z9_.j6 kq Ck (Bb.length:Int) Ac Dk Af Aj Ak Ai Aa ((y18 Aa Ac).f0) ((y18 Aa Ac).f1) ((y18 Aa Ac).f2)=some r)∧y0 (kq≤k3)∧y0 (Kd.R Kd.string 9 wc w.heap.size (fun _=>True) u3 Ck)∧y0 (wc.heap[Bh]?=some (.cells #[(.slice Bj Af.length Bk),.int .i64 Aj,.string Ak,(.slice Bl Ai.length Bm),(.slice (some Cy) Aa.length Bn)] 36 (0,0)))∧y0 (wc.heap[Bp]?=some (.cells #[.int .i64 ((y18 Aa Ac).f0),.string ((y18 Aa Ac).f1),(.slice Ef ((y18 Aa Ac).f2).length Cl)] 33 (0,0)))∧y0 (Below w.heap.size w wc))
         case first =>
          have H:=Ka.out
          clear Ka
          by_cases Kb:((y18 Aa Ac).f0)=3
          ·as_aux_lemma =>
           rw [if_pos Kb]at H
           have Ej:(((y18 Aa Ac).f0) == 3)=true:=beq_iff_eq.mpr Kb
           have Lt:(((y18 Aa Ac).f0) != 3)=false:=bne_eq_false_iff_eq.mpr Kb
           clear Kb
           (first|rw [Ej]|(simp only [i64_w,i32_w];rw [Ej])|skip)
           have H':=y0.mk H
           clear H
           have Vx:=Bc.out
           have Vy:=Am.out
           obtain⟨Qg,Qh,Qi,Qj,Qk,Ql⟩:=qz3 Ah.out
           go_wp2
           go_meet
           exact⟨_,((((y18 Aa Ac).f1).toList != ([61]:List UInt8))),qy2,H',⟨by have:=Bz.out;have:=Bx.out;have:=Ee.out;first|omega|exact Nat.le_refl _⟩,⟨qR (Kd.R_mono (qfR Bp (Kd.R_types Ad.out Ah.out (by decide)) (.int .i64 ((y18 Aa Ac).f0)) (.string ((y18 Aa Ac).f1)) (.slice Ef ((y18 Aa Ac).f2).length Cl)) (fun _ hk=>trivial))⟩,⟨by(with_reducible repeat(first|refine y9 ?_ _|refine y8 ?_|refine y5 ?_ _));refine y10 ?_ Am.out _;refine y10 ?_ Am.out _;refine y10 ?_ Am.out _;(with_reducible repeat(first|refine y9 ?_ _|refine y8 ?_|refine y5 ?_ _));exact Ab.out⟩,⟨by(with_reducible repeat(first|refine y9 ?_ _|refine y8 ?_|refine y5 ?_ _));refine y11 (cs:=#[.int .i64 ((y18 Aa Ac).f0),.string ((y18 Aa Ac).f1),.slice none 0 0]) ?_ 2 _ rfl;refine y11 (cs:=#[.int .i64 ((y18 Aa Ac).f0),.string (⟨#[]⟩:ByteArray),.slice none 0 0]) ?_ 1 _ rfl;refine y11 (cs:=#[.int .i64 0,.string (⟨#[]⟩:ByteArray),.slice none 0 0]) ?_ 0 _ rfl;(with_reducible repeat(first|refine y9 ?_ _|refine y8 ?_|refine y5 ?_ _));exact Ah.out⟩,⟨qb⟩⟩
          ·as_aux_lemma =>
           rw [if_neg Kb]at H
           have Ej:(((y18 Aa Ac).f0) == 3)=false:=beq_eq_false_iff_ne.mpr Kb
           have Lt:(((y18 Aa Ac).f0) != 3)=true:=bne_iff_ne.mpr Kb
           (first|rw [Ej]|(simp only [i64_w,i32_w];rw [Ej])|skip)
           have H':=y0.mk H
           clear H
           have Vz:=Bc.out
           have Wa:=Am.out
           obtain⟨Qm,Qn,Qo,Qp,Qq,Qr⟩:=qz3 Ah.out
           go_wp2
           go_meet
           exact⟨_,(true),qy2,H',⟨by have:=Bz.out;have:=Bx.out;have:=Ee.out;first|omega|exact Nat.le_refl _⟩,⟨qR (Kd.R_mono (qfR Bp (Kd.R_types Ad.out Ah.out (by decide)) (.int .i64 ((y18 Aa Ac).f0)) (.string ((y18 Aa Ac).f1)) (.slice Ef ((y18 Aa Ac).f2).length Cl)) (fun _ hk=>trivial))⟩,⟨by(with_reducible repeat(first|refine y9 ?_ _|refine y8 ?_|refine y5 ?_ _));refine y10 ?_ Am.out _;refine y10 ?_ Am.out _;refine y10 ?_ Am.out _;(with_reducible repeat(first|refine y9 ?_ _|refine y8 ?_|refine y5 ?_ _));exact Ab.out⟩,⟨by(with_reducible repeat(first|refine y9 ?_ _|refine y8 ?_|refine y5 ?_ _));refine y11 (cs:=#[.int .i64 ((y18 Aa Ac).f0),.string ((y18 Aa Ac).f1),.slice none 0 0]) ?_ 2 _ rfl;refine y11 (cs:=#[.int .i64 ((y18 Aa Ac).f0),.string (⟨#[]⟩:ByteArray),.slice none 0 0]) ?_ 1 _ rfl;refine y11 (cs:=#[.int .i64 0,.string (⟨#[]⟩:ByteArray),.slice none 0 0]) ?_ 0 _ rfl;(with_reducible repeat(first|refine y9 ?_ _|refine y8 ?_|refine y5 ?_ _));exact Ah.out⟩,⟨qb⟩⟩
         case rest =>
          clear Ka
          (try clear Io Ls Hd He Hf Hg Hh Hp Hq Hr Hi Hj Hk Hl Hm Hs Ht Hu Dh Di Dj Hn Ho)
          obtain⟨kq,Dk,rfl,HA,Cm,Ad,Ab,Ah,HB⟩:=hcut
          cases kq with
          | zero=>exact absurd HA.out (by simp [z9_.j6])
          | succ Ke =>
           have H:=HA.out
           clear HA
           simp only [z9_.j6]at H
           by_cases Lu:Dk=true
           ·subst Lu
            replace H:=qT H
            have H':=y0.mk H
            clear H
            go_wp2
            go_roundg Ke
            case measure=>have:=Bz.out;have:=Bx.out;have:=Ee.out;have:=Cm.out;omega
            exact⟨(Ck),(wrap64 (Ac + 1)),qy2,H',⟨by have:=Bz.out;have:=Bx.out;have:=Ee.out;have:=Cm.out;omega⟩,⟨qR Ad.out⟩,⟨qk Ab.out⟩,⟨qb⟩⟩
           ·replace Lu:=Bool.eq_false_iff.mpr Lu
            subst Lu
            replace H:=qF H
            have H':=y0.mk H
            clear H
            go_wp2
            go_loopg [3,12] Ke (fun kq v3 Ya w'=>∃(Cu:List ByteArray) (Ap:Int),Ya=.int .i64 Ap∧y0 (z9_.l5 kq Cu (Bb.length:Int) Ac Ap Af Aj Ak Ai Aa ((y18 Aa Ac).f0) ((y18 Aa Ac).f1) ((y18 Aa Ac).f2)=some r)∧y0 (kq≤Ke)∧y0 (Kd.R Kd.string 9 w' w.heap.size (fun _=>True) v3 Cu)∧y0 (w'.heap[Bh]?=some (.cells #[(.slice Bj Af.length Bk),.int .i64 Aj,.string Ak,(.slice Bl Ai.length Bm),(.slice (some Cy) Aa.length Bn)] 36 (0,0)))∧y0 (w'.heap[Bp]?=some (.cells #[.int .i64 ((y18 Aa Ac).f0),.string ((y18 Aa Ac).f1),(.slice Ef ((y18 Aa Ac).f2).length Cl)] 33 (0,0)))∧y0 (Below w.heap.size w w'))
            case atStart=>exact⟨(Ck),(0),qy2,H',⟨Nat.le_refl _⟩,⟨qR Ad.out⟩,⟨qk Ab.out⟩,⟨qk Ah.out⟩,⟨qb⟩⟩
            case round =>
             clear H'
             (try clear Lu)
             obtain⟨Cu,Ap,rfl,HA,Fm,Ad,Ab,Ah,HB⟩:=hrel
             cases gk with
             | zero=>exact absurd HA.out (by simp [z9_.l5])
             | succ k5 =>
              have H:=HA.out
              clear HA
              simp only [z9_.l5]at H
              by_cases Kt:Ap < 2
              ·as_aux_lemma =>
               rw [if_pos Kt]at H
               have Ip:=decide_eq_true Kt
               clear Kt
               obtain⟨Wb,H⟩:=qo H
               have Lv:decide (0≤Ap)=true:=decide_eq_true Wb
               clear Wb
               obtain⟨Wc,H⟩:=qo H
               have Lw:decide (Ap < (((y18 Aa Ac).f2).length:Int))=true:=decide_eq_true Wc
               clear Wc
               obtain⟨Bw,Fj⟩:∃ j_:Int,(wrap64 (1 - Ap))=j_:=⟨_,rfl⟩
               replace H:(if 0≤(Bw)then(if(Bw) < (((y18 Aa Ac).f2).length:Int)then((z10_.f k5 Af Aj Ak Ai Aa (rd ((y18 Aa Ac).f2) Ap) 2 2).bind fun Kf=>(if Kf=true then(z9_.j8 k5 Cu (Bb.length:Int) Ac Ap (rd ((y18 Aa Ac).f2) (Bw)) true Af Aj Ak Ai Aa ((y18 Aa Ac).f0) ((y18 Aa Ac).f1) ((y18 Aa Ac).f2))else((spec_l06Vars.f k5 Af Aj Ak Ai Aa (rd ((y18 Aa Ac).f2) Ap)).bind fun Fn=>((spec_l06All.f k5 Fn Cu).bind fun Kg=>(if Kg=true then((z10_.f k5 Af Aj Ak Ai Aa (rd ((y18 Aa Ac).f2) (Bw)) 5 7).bind fun Hv=>(z9_.j8 k5 Cu (Bb.length:Int) Ac Ap (rd ((y18 Aa Ac).f2) (Bw)) Hv Af Aj Ak Ai Aa ((y18 Aa Ac).f0) ((y18 Aa Ac).f1) ((y18 Aa Ac).f2)))else(z9_.j8 k5 Cu (Bb.length:Int) Ac Ap (rd ((y18 Aa Ac).f2) (Bw)) true Af Aj Ak Ai Aa ((y18 Aa Ac).f0) ((y18 Aa Ac).f1) ((y18 Aa Ac).f2)))))))else(none))else(none))=some r:=by first|(rw [Fj]at H;exact H)|(simp only [Fj]at H ⊢;exact H)
               have hji70w:(IntKind.i64.wrap (1 - Ap))=Bw:=(i64_w _).trans Fj
               obtain⟨Wd,H⟩:=qo H
               have Lx:decide (0≤(Bw))=true:=decide_eq_true Wd
               clear Wd
               obtain⟨We,H⟩:=qo H
               have Ly:decide ((Bw) < (((y18 Aa Ac).f2).length:Int))=true:=decide_eq_true We
               clear We
               have Kh:=y0.mk H
               clear H
               try go_wp2
               replace Ad:=y0.mk (Kd.R_drew Ad.out)
               replace Ab:=y0.mk (y8 Ab.out)
               replace Ah:=y0.mk (y8 Ah.out)
               replace HB:=y0.mk (y2 HB.out)
               have Hw:0≤(Ap:Int):=qd
               have Hx:Ap < (((y18 Aa Ac).f2).length:Int):=qd
               obtain⟨Ds,Ul,Cf⟩:=Kd.at_int Fi.out Ap Hw Hx
               have Fk:=Cf
               cases Ul
               replace Cf:=qC Cf HB
               replace Hw:=eq_true Hw
               replace Hx:=eq_true Hx
               have Hy:0≤((Bw):Int):=qd
               have Hz:(Bw) < (((y18 Aa Ac).f2).length:Int):=qd
               obtain⟨Lz,Um,Cg⟩:=Kd.at_int Fi.out (Bw) Hy Hz
               have Fl:=Cg
               obtain rfl:Ds=Lz:=(by injection Um)
               replace Cg:=qC Cg HB
               replace Hy:=eq_true Hy
               replace Hz:=eq_true Hz
               refine start_ (n:=13) (S:=fun w'=>w'.cell? ⟨Bp,0,none⟩=some (.int .i64 ((y18 Aa Ac).f0))∧w'.cell? ⟨Bp,1,none⟩=some (.string ((y18 Aa Ac).f1))∧w'.cell? ⟨Bp,2,none⟩=some (.slice (some Ds) ((y18 Aa Ac).f2).length Cl)∧w'.cell? (Ds.add (Ap).toNat)=some (.int .i64 (rd ((y18 Aa Ac).f2) Ap))∧w'.cell? (Ds.add ((Bw)).toNat)=some (.int .i64 (rd ((y18 Aa Ac).f2) (Bw)))) (ds:=[]) (fl_ 13 0) (by kernel_rfl) rfl rfl ⟨(y7 Ah.out 0).trans rfl,(y7 Ah.out 1).trans rfl,(y7 Ah.out 2).trans rfl,(qC Fk HB),(qC Fl HB)⟩ (fun hHeld=>?_);refine with_tabW z9_.tab24 z9_.bits24 (fun HT_ HW_=>?_)
               generalize wr.drew=Ys at Ad Ab Ah HB Cf Cg hHeld ⊢
               refine qp 0 130 (fl_ 13 1) ?_
               refine qp 2 132 (fl_ 13 5) ?_
               refine qp 5 135 (fl_ 13 37) ?_
               refine qp 7 137 (fl_ 13 165) ?_
               refine qp 8 138 (fl_ 13 421) ?_
               refine qt 1 131 (fl_ 13 423) hHeld ?_
               refine qp 3 133 (fl_ 13 431) ?_
               refine qt 4 134 (fl_ 13 447) hHeld ?_
               refine qp 11 13 (fl_ 13 2495) ?_
               refine qt 6 136 (fl_ 13 2559) hHeld ?_
               refine qp 9 139 (fl_ 13 3071) ?_
               refine qt 10 140 (fl_ 13 4095) hHeld ?_
               refine qp 12 14 (fl_ 13 8191) ?_
               refine done_ (done_of HT_.out (by kernel_rfl)) ?_
               go_upto_region 25 with(fail)
               go_cut [156] (fun Uo wc=>∃(kq:Nat) (Dl:Bool),Uo=.bool Dl∧y0 (z9_.j8 kq Cu (Bb.length:Int) Ac Ap (rd ((y18 Aa Ac).f2) (Bw)) Dl Af Aj Ak Ai Aa ((y18 Aa Ac).f0) ((y18 Aa Ac).f1) ((y18 Aa Ac).f2)=some r)∧y0 (kq≤k5)∧y0 (Kd.R Kd.string 9 wc w.heap.size (fun _=>True) u3 Cu)∧y0 (wc.heap[Bh]?=some (.cells #[(.slice Bj Af.length Bk),.int .i64 Aj,.string Ak,(.slice Bl Ai.length Bm),(.slice (some Cy) Aa.length Bn)] 36 (0,0)))∧y0 (wc.heap[Bp]?=some (.cells #[.int .i64 ((y18 Aa Ac).f0),.string ((y18 Aa Ac).f1),(.slice (some Ds) ((y18 Aa Ac).f2).length Cl)] 33 (0,0)))∧y0 (Below w.heap.size w wc))
               case first =>
                have H:=Kh.out
                clear Kh
                obtain⟨Kf,Up,H⟩:=qB H
                by_cases Qs:Kf=true
                ·subst Qs
                 replace H:=qT H
                 have H':=y0.mk H
                 clear H
                 have Wf:=Am.out
                 have Wg:=Bc.out
                 obtain⟨Qt,Qu,Qv,Qw,Qx,Qy,Qz,Ra,Rb,Rc⟩:=qz5 Ab.out
                 go_wp2_with (first|((with_reducible refine y15 (f:=43) rfl ?_);refine y17 (some 143) rfl rfl Try.func43 (by kernel_rfl) rfl #[.agg #[.slice Bj Af.length Bk,.int .i64 Aj,.string Ak,.slice Bl Ai.length Bm,.slice (some Cy) Aa.length Bn],.int .i64 (rd ((y18 Aa Ac).f2) Ap),.int .i64 2,.int .i64 2] rfl qy1 ?_;(with_reducible refine(z10_.calls k5 _ _ Af Aj Ak _ _ Ai _ _ Aa (rd ((y18 Aa Ac).f2) Ap) 2 2 true _ (qc (Kd.C_below Bf.out HB.out)) Cn.out (qc (Kd.C_below Cp.out HB.out)) Cq.out (qc (Kd.C_below Bo.out HB.out)) Cr.out Up.out).mono ?_);rintro e Yt ⟨rfl,hb⟩;refine⟨_,rfl, ?_⟩;replace Ad:=y0.mk (Kd.R_below (qR Ad.out) hb);replace Ab:=y0.mk (qK Ab.out hb);replace Ah:=y0.mk (qK Ah.out hb);replace HB:=y0.mk (y4 qb hb);(try clear hb)))
                 go_meet
                 exact⟨_,(true),qy2,H',⟨by have:=Bz.out;have:=Bx.out;have:=Ee.out;have:=Cm.out;have:=Fm.out;first|omega|exact Nat.le_refl _⟩,⟨qR Ad.out⟩,⟨qk Ab.out⟩,⟨qk Ah.out⟩,⟨qb⟩⟩
                ·replace Qs:=Bool.eq_false_iff.mpr Qs
                 subst Qs
                 replace H:=qF H
                 obtain⟨Fn,Wh,H⟩:=qB H
                 obtain⟨Kg,Wj,H⟩:=qB H
                 by_cases Rf:Kg=true
                 ·subst Rf
                  replace H:=qT H
                  obtain⟨Hv,Yb,H⟩:=qB H
                  have H':=y0.mk H
                  clear H
                  have Wk:=Am.out
                  have Wl:=Bc.out
                  obtain⟨Rg,Rh,Ri,Rj,Rl,Rn,Ro,Rp,Rq,Rs⟩:=qz5 Ab.out
                  go_wp2_with (first|((with_reducible refine y15 (f:=43) rfl ?_);refine y17 (some 143) rfl rfl Try.func43 (by kernel_rfl) rfl #[.agg #[.slice Bj Af.length Bk,.int .i64 Aj,.string Ak,.slice Bl Ai.length Bm,.slice (some Cy) Aa.length Bn],.int .i64 (rd ((y18 Aa Ac).f2) Ap),.int .i64 2,.int .i64 2] rfl qy1 ?_;(with_reducible refine(z10_.calls k5 _ _ Af Aj Ak _ _ Ai _ _ Aa (rd ((y18 Aa Ac).f2) Ap) 2 2 false _ (qc (Kd.C_below Bf.out HB.out)) Cn.out (qc (Kd.C_below Cp.out HB.out)) Cq.out (qc (Kd.C_below Bo.out HB.out)) Cr.out Up.out).mono ?_);rintro e Yu ⟨rfl,hb⟩;refine⟨_,rfl, ?_⟩;replace Ad:=y0.mk (Kd.R_below (qR Ad.out) hb);replace Ab:=y0.mk (qK Ab.out hb);replace Ah:=y0.mk (qK Ah.out hb);replace HB:=y0.mk (y4 qb hb);(try clear hb);obtain⟨Rt,Ru,Rv,Rw,Rx,Ry,Rz,Sa,Sb,Sc⟩:=qz5 Ab.out)|(go_at_call 24;(with_reducible refine(spec_l06Vars.calls k5 _ _ Af Aj Ak _ _ Ai _ _ Aa (rd ((y18 Aa Ac).f2) Ap) Fn _ (qc (Kd.C_below Bf.out HB.out)) Cn.out (qc (Kd.C_below Cp.out HB.out)) Cq.out (qc (Kd.C_below Bo.out HB.out)) Cr.out Wh.out).mono ?_);rintro e Yv ⟨Uq,rfl,Eg,hb⟩;have Cv:=y0.mk (Kd.R_lower (Kd.R_new' Eg (Kd.R_lt (qR Ad.out))) (y3 qb));replace Ad:=y0.mk (Kd.R_elder' (qR Ad.out) (Kd.R_base Eg) hb);replace Ab:=y0.mk (qK Ab.out hb);replace Ah:=y0.mk (qK Ah.out hb);replace HB:=y0.mk (y4 qb hb);(try clear hb);(try clear Eg);obtain⟨Yc,Yd,Ur⟩:=Kd.R_slice Cv.out;subst Ur;obtain⟨Ye,Yf,Us⟩:=Kd.R_slice Ad.out;subst Us)|(go_at_call 41;(with_reducible refine(spec_l06All.calls k5 _ _ Fn _ _ Cu true _ (qc ((Kd.R_reads' Cv.out).2.2)) (by exact(Kd.R_reads' Cv.out).2.1) (qc ((Kd.R_reads' Ad.out).2.2)) (by exact(Kd.R_reads' Ad.out).2.1) Wj.out).mono ?_);rintro e w' ⟨rfl,⟨nd,rfl⟩⟩;obtain⟨Sd,Se,Sf,Sg,Sh,Si,Sj,Sk,Sl,Sm⟩:=qz5 Ab.out)|(go_at_call 43;(with_reducible refine(z10_.calls k5 _ _ Af Aj Ak _ _ Ai _ _ Aa (rd ((y18 Aa Ac).f2) (Bw)) 5 7 Hv _ (qc (Kd.C_below Bf.out qb)) Cn.out (qc (Kd.C_below Cp.out qb)) Cq.out (qc (Kd.C_below Bo.out qb)) Cr.out Yb.out).mono ?_);rintro e Yw ⟨rfl,hb⟩;replace Ad:=y0.mk (Kd.R_below (qR Ad.out) hb);replace Cv:=y0.mk (Kd.R_below (qR Cv.out) hb);replace Ab:=y0.mk (qK Ab.out hb);replace Ah:=y0.mk (qK Ah.out hb);replace HB:=y0.mk (y4 qb hb);(try clear hb)))
                  go_meet
                  exact⟨_,(Hv),qy2,H',⟨by have:=Bz.out;have:=Bx.out;have:=Ee.out;have:=Cm.out;have:=Fm.out;first|omega|exact Nat.le_refl _⟩,⟨qR (Kd.R_mono Ad.out (fun _ hk=>trivial))⟩,⟨qk Ab.out⟩,⟨qk Ah.out⟩,⟨qb⟩⟩
                 ·replace Rf:=Bool.eq_false_iff.mpr Rf
                  subst Rf
                  replace H:=qF H
                  have H':=y0.mk H
                  clear H
                  have Wm:=Am.out
                  have Wn:=Bc.out
                  obtain⟨Sn,So,Sp,Sq,Sr,Ss,St,Su,Sv,Sw⟩:=qz5 Ab.out
                  go_wp2_with (first|((with_reducible refine y15 (f:=43) rfl ?_);refine y17 (some 143) rfl rfl Try.func43 (by kernel_rfl) rfl #[.agg #[.slice Bj Af.length Bk,.int .i64 Aj,.string Ak,.slice Bl Ai.length Bm,.slice (some Cy) Aa.length Bn],.int .i64 (rd ((y18 Aa Ac).f2) Ap),.int .i64 2,.int .i64 2] rfl qy1 ?_;(with_reducible refine(z10_.calls k5 _ _ Af Aj Ak _ _ Ai _ _ Aa (rd ((y18 Aa Ac).f2) Ap) 2 2 false _ (qc (Kd.C_below Bf.out HB.out)) Cn.out (qc (Kd.C_below Cp.out HB.out)) Cq.out (qc (Kd.C_below Bo.out HB.out)) Cr.out Up.out).mono ?_);rintro e Yx ⟨rfl,hb⟩;refine⟨_,rfl, ?_⟩;replace Ad:=y0.mk (Kd.R_below (qR Ad.out) hb);replace Ab:=y0.mk (qK Ab.out hb);replace Ah:=y0.mk (qK Ah.out hb);replace HB:=y0.mk (y4 qb hb);(try clear hb);obtain⟨Sx,Sy,Sz,Ta,Tc,Td,Te,Tf,Tg,Th⟩:=qz5 Ab.out)|(go_at_call 24;(with_reducible refine(spec_l06Vars.calls k5 _ _ Af Aj Ak _ _ Ai _ _ Aa (rd ((y18 Aa Ac).f2) Ap) Fn _ (qc (Kd.C_below Bf.out HB.out)) Cn.out (qc (Kd.C_below Cp.out HB.out)) Cq.out (qc (Kd.C_below Bo.out HB.out)) Cr.out Wh.out).mono ?_);rintro e Yy ⟨Uq,rfl,Eg,hb⟩;have Cv:=y0.mk (Kd.R_lower (Kd.R_new' Eg (Kd.R_lt (qR Ad.out))) (y3 qb));replace Ad:=y0.mk (Kd.R_elder' (qR Ad.out) (Kd.R_base Eg) hb);replace Ab:=y0.mk (qK Ab.out hb);replace Ah:=y0.mk (qK Ah.out hb);replace HB:=y0.mk (y4 qb hb);(try clear hb);(try clear Eg);obtain⟨Yg,Yh,Ut⟩:=Kd.R_slice Cv.out;subst Ut;obtain⟨Yi,Yj,Uu⟩:=Kd.R_slice Ad.out;subst Uu)|(go_at_call 41;(with_reducible refine(spec_l06All.calls k5 _ _ Fn _ _ Cu false _ (qc ((Kd.R_reads' Cv.out).2.2)) (by exact(Kd.R_reads' Cv.out).2.1) (qc ((Kd.R_reads' Ad.out).2.2)) (by exact(Kd.R_reads' Ad.out).2.1) Wj.out).mono ?_);rintro e w' ⟨rfl,⟨nd,rfl⟩⟩))
                  go_meet
                  exact⟨_,(true),qy2,H',⟨by have:=Bz.out;have:=Bx.out;have:=Ee.out;have:=Cm.out;have:=Fm.out;first|omega|exact Nat.le_refl _⟩,⟨qR (Kd.R_mono Ad.out (fun _ hk=>trivial))⟩,⟨qk Ab.out⟩,⟨qk Ah.out⟩,⟨qb⟩⟩
               case rest =>
                clear Kh
                (try clear Ip Lv Lw Lx Ly Cf Cg Hw Hy Hx Hz)
                obtain⟨kq,Dl,rfl,HA,Ek,Ad,Ab,Ah,HB⟩:=hcut
                cases kq with
                | zero=>exact absurd HA.out (by simp [z9_.j8])
                | succ Ia =>
                 have H:=HA.out
                 clear HA
                 simp only [z9_.j8]at H
                 by_cases Fz:Dl=true
                 ·subst Fz
                  replace H:=qT H
                  have H':=y0.mk H
                  clear H
                  go_wp2
                  go_roundg Ia
                  case measure=>have:=Bz.out;have:=Bx.out;have:=Ee.out;have:=Cm.out;have:=Fm.out;have:=Ek.out;omega
                  exact⟨(Cu),(wrap64 (Ap + 1)),qy2,H',⟨by have:=Bz.out;have:=Bx.out;have:=Ee.out;have:=Cm.out;have:=Fm.out;have:=Ek.out;omega⟩,⟨qR Ad.out⟩,⟨qk Ab.out⟩,⟨qk Ah.out⟩,⟨qb⟩⟩
                 ·replace Fz:=Bool.eq_false_iff.mpr Fz
                  subst Fz
                  replace H:=qF H
                  obtain⟨Ch,Uv,H⟩:=qB H
                  have H':=y0.mk H
                  clear H
                  have Uw:=Am.out
                  have Ux:=Bc.out
                  obtain⟨Ga,Gb,Gc,Gd,Ge,Gf,Gg,Gh,Gi,Gj⟩:=qz5 Ab.out
                  go_wp2_with (first|((with_reducible refine y15 (f:=24) rfl ?_);refine y17 (some 159) rfl rfl Try.func24 (by kernel_rfl) rfl #[.agg #[.slice Bj Af.length Bk,.int .i64 Aj,.string Ak,.slice Bl Ai.length Bm,.slice (some Cy) Aa.length Bn],.int .i64 (rd ((y18 Aa Ac).f2) (Bw))] rfl (by(try simp only [qM_,List.map_cons,List.map_nil]);first|done|(simp only [Fj];rfl)|rfl|(simp only [qD_,qT_];rfl)) ?_;(with_reducible refine(spec_l06Vars.calls Ia _ _ Af Aj Ak _ _ Ai _ _ Aa (rd ((y18 Aa Ac).f2) (Bw)) Ch _ (qc (Kd.C_below Bf.out HB.out)) Cn.out (qc (Kd.C_below Cp.out HB.out)) Cq.out (qc (Kd.C_below Bo.out HB.out)) Cr.out Uv.out).mono ?_);rintro e Yk ⟨Ma,rfl,Eg,hb⟩;refine⟨_,rfl, ?_⟩;have Mb:=y0.mk (Kd.R_lower (Kd.R_new' Eg (Kd.R_lt (qR Ad.out))) (y3 qb));replace Ad:=y0.mk (Kd.R_elder' (qR Ad.out) (Kd.R_base Eg) hb);replace Ab:=y0.mk (qK Ab.out hb);replace Ah:=y0.mk (qK Ah.out hb);replace HB:=y0.mk (y4 qb hb);(try clear hb);(try clear Eg)))
                  go_loopg [3,16] Ia (fun kq v3 Yl w'=>∃(Cz:List ByteArray) (Av:Int),Yl=.int .i64 Av∧y0 (z9_.l6 kq Cz (Bb.length:Int) Ac Ap Ch Av Af Aj Ak Ai Aa ((y18 Aa Ac).f0) ((y18 Aa Ac).f1) ((y18 Aa Ac).f2)=some r)∧y0 (kq≤Ia)∧y0 (Kd.R Kd.string 9 w' w.heap.size (fun k_=>some k_≠(Ma:Value).ownBlock) v3 Cz)∧y0 (Kd.R Kd.string 9 w' w.heap.size (fun k_=>some k_≠(v3:Value).ownBlock) Ma Ch)∧y0 (w'.heap[Bh]?=some (.cells #[(.slice Bj Af.length Bk),.int .i64 Aj,.string Ak,(.slice Bl Ai.length Bm),(.slice (some Cy) Aa.length Bn)] 36 (0,0)))∧y0 (w'.heap[Bp]?=some (.cells #[.int .i64 ((y18 Aa Ac).f0),.string ((y18 Aa Ac).f1),(.slice (some Ds) ((y18 Aa Ac).f2).length Cl)] 33 (0,0)))∧y0 (Below w.heap.size w w'))
                  case atStart=>exact⟨(Cu),(0),qy2,H',⟨Nat.le_refl _⟩,⟨qR (Kd.R_mono Ad.out (fun _ hk=>hk.2))⟩,⟨qR (Kd.R_mono Mb.out (fun _ hk=>hk.2))⟩,⟨qk Ab.out⟩,⟨qk Ah.out⟩,⟨qb⟩⟩
                  case round =>
                   clear H'
                   (try clear Fz Ga Gb Gc Gd Ge Gf Gg Gh Gi Gj)
                   obtain⟨Cz,Av,rfl,HA,Ku,Ad,Ca,Ab,Ah,HB⟩:=hrel
                   cases gk with
                   | zero=>exact absurd HA.out (by simp [z9_.l6])
                   | succ k7 =>
                    have H:=HA.out
                    clear HA
                    simp only [z9_.l6]at H
                    by_cases Fo:Av < (Ch.length:Int)
                    ·as_aux_lemma =>
                     rw [if_pos Fo]at H
                     have Ki:=decide_eq_true Fo
                     clear Fo
                     obtain⟨Mc,H⟩:=qo H
                     have Uy:decide (0≤Av)=true:=decide_eq_true Mc
                     clear Mc
                     obtain⟨Uz,Md,H⟩:=qB H
                     by_cases Ib:Uz=true
                     ·subst Ib
                      replace H:=qT H
                      have H':=y0.mk H
                      clear H
                      obtain⟨Wo,Wp,Me⟩:=Kd.R_slice Ca.out
                      subst Me
                      have Er:0≤(Av:Int):=qd
                      have Es:Av < (Ch.length:Int):=qd
                      obtain⟨Gk,Kj,Ic⟩:=Kd.at_string (Kd.R_reads' Ca.out).2.2 Av Er Es
                      cases Kj
                      replace Er:=eq_true Er
                      replace Es:=eq_true Es
                      obtain⟨Mf,Mg,Mh⟩:=Kd.R_slice Ad.out
                      subst Mh
                      go_wp2_with (first|((with_reducible refine y15 (f:=39) rfl ?_);refine y17 (some 171) rfl rfl Try.func39 (by kernel_rfl) rfl #[.slice Mf Cz.length Mg,.string (rdOf ByteArray.empty Ch Av)] rfl qy1 ?_;(with_reducible refine(spec_l05In.calls k7 _ _ Cz (rdOf ByteArray.empty Ch Av) true _ (qc ((Kd.R_reads' Ad.out).2.2)) (by exact(Kd.R_reads' Ad.out).2.1) Md.out).mono ?_);rintro e w' ⟨rfl,⟨nd,rfl⟩⟩;refine⟨_,rfl, ?_⟩))
                      go_roundg k7
                      case measure=>have:=Bz.out;have:=Bx.out;have:=Ee.out;have:=Cm.out;have:=Fm.out;have:=Ek.out;have:=Ku.out;omega
                      exact⟨(Cz),(wrap64 (Av + 1)),qy2,H',⟨by have:=Bz.out;have:=Bx.out;have:=Ee.out;have:=Cm.out;have:=Fm.out;have:=Ek.out;have:=Ku.out;omega⟩,⟨qR Ad.out⟩,⟨qR Ca.out⟩,⟨qk Ab.out⟩,⟨qk Ah.out⟩,⟨qb⟩⟩
                     ·replace Ib:=Bool.eq_false_iff.mpr Ib
                      subst Ib
                      replace H:=qF H
                      obtain⟨Mi,H⟩:=qo H
                      replace Mi:=y0.mk Mi
                      obtain⟨Mj,El⟩:∃ y_:List ByteArray,y_=(Cz ++ [rdOf ByteArray.empty Ch Av]):=⟨_,rfl⟩
                      replace H:(z9_.l6 k7 Mj (Bb.length:Int) Ac Ap Ch (wrap64 (Av + 1)) Af Aj Ak Ai Aa ((y18 Aa Ac).f0) ((y18 Aa Ac).f1) ((y18 Aa Ac).f2))=some r:=by first|exact El ▸ H|exact El ▸ (Option.bind_some _ _).symm.trans H
                      replace El:=y0.mk El
                      have H':=y0.mk H
                      clear H
                      obtain⟨Wq,Mm,Mn⟩:=Kd.R_slice Ca.out
                      subst Mn
                      have Er:0≤(Av:Int):=qd
                      have Es:Av < (Ch.length:Int):=qd
                      obtain⟨Gk,Kj,Ic⟩:=Kd.at_string (Kd.R_reads' Ca.out).2.2 Av Er Es
                      cases Kj
                      replace Er:=eq_true Er
                      replace Es:=eq_true Es
                      obtain⟨Iq,Ir,Mo⟩:=Kd.R_slice Ad.out
                      subst Mo
                      go_wp2_with (first|((with_reducible refine y15 (f:=39) rfl ?_);refine y17 (some 171) rfl rfl Try.func39 (by kernel_rfl) rfl #[.slice Iq Cz.length Ir,.string (rdOf ByteArray.empty Ch Av)] rfl qy1 ?_;(with_reducible refine(spec_l05In.calls k7 _ _ Cz (rdOf ByteArray.empty Ch Av) false _ (qc ((Kd.R_reads' Ad.out).2.2)) (by exact(Kd.R_reads' Ad.out).2.1) Md.out).mono ?_);rintro e w' ⟨rfl,⟨nd,rfl⟩⟩;refine⟨_,rfl, ?_⟩;have Kl:0≤(Av:Int):=qd;have Km:Av < (Ch.length:Int):=qd;obtain⟨Mp,Va,Ti⟩:=Kd.at_string (Kd.R_reads' Ca.out).2.2 Av Kl Km;obtain rfl:Gk=Mp:=(by injection Va);replace Kl:=eq_true Kl;replace Km:=eq_true Km)|((with_reducible refine gate_builtin (b:=.append) (xs:=#[.tmp 173,.tmp 178]) rfl ?_);at_builtin;refine Kd.R_append Kd.string (w0:=w) w.heap.size rfl (.tmp 173) (.tmp 178) 30 9 (.string ⟨#[]⟩) 16 rfl Try.underlying30 info9 rfl (by decide) (by omega) (.slice Iq Cz.length Ir) Cz (rdOf ByteArray.empty Ch Av) [.string (rdOf ByteArray.empty Ch Av)] (fun k_=>some k_≠(.slice (some Gk) Ch.length Mm:Value).ownBlock) (fun _=>False) rfl rfl ?aP (fun _ hk=>hk.elim) ?aF ?aO ?aB ?aS ?aL ?_;(case aP=>exact rfl);(case aB=>exact qb);(case aF=>exact(fun k_ hk=>Kd.fresh' (Kd.R_lt (qR Ca.out)) k_ hk));(case aO=>exact(qR Ad.out));(case aS=>exact(y3 qb));(case aL=>have:=Mi.out;omega);intro Ym Yn ho hb hg hat;rw [← El.out]at ho;replace Ca:=y0.mk (Kd.R_after (ok:=(fun _=>True)) (qR (Kd.R_mono Ca.out (fun _ hk=>⟨trivial,hk⟩))) hg hat);replace Ab:=y0.mk (blk_grown (qk Ab.out) hg (Kd.R_ne Ad.out Ab.out (by decide)));replace Ah:=y0.mk (blk_grown (qk Ah.out) hg (Kd.R_ne Ad.out Ah.out (by decide)));replace HB:=y0.mk (hb);have Mq:=y0.mk (ho);clear Ad;clear ho hb hg hat))
                      go_roundg k7
                      case measure=>have:=Bz.out;have:=Bx.out;have:=Ee.out;have:=Cm.out;have:=Fm.out;have:=Ek.out;have:=Ku.out;omega
                      exact⟨(Mj),(wrap64 (Av + 1)),qy2,H',⟨by have:=Bz.out;have:=Bx.out;have:=Ee.out;have:=Cm.out;have:=Fm.out;have:=Ek.out;have:=Ku.out;omega⟩,⟨qR Mq.out⟩,⟨qR (Kd.R_mono Ca.out (fun _ hk=>hk.2))⟩,⟨qk Ab.out⟩,⟨qk Ah.out⟩,⟨qb⟩⟩
                    ·as_aux_lemma =>
                     rw [if_neg Fo]at H
                     have Ki:=decide_eq_false Fo
                     clear Fo
                     have H':=y0.mk H
                     clear H
                     obtain⟨Wr,Ws,Mr⟩:=Kd.R_slice Ca.out
                     subst Mr
                     go_wp2
                     go_roundg k7
                     case measure=>have:=Bz.out;have:=Bx.out;have:=Ee.out;have:=Cm.out;have:=Fm.out;have:=Ek.out;have:=Ku.out;omega
                     exact⟨(Cz),(wrap64 (Ap + 1)),qy2,H',⟨by have:=Bz.out;have:=Bx.out;have:=Ee.out;have:=Cm.out;have:=Fm.out;have:=Ek.out;have:=Ku.out;omega⟩,⟨qR (Kd.R_mono Ad.out (fun _ hk=>trivial))⟩,⟨qk Ab.out⟩,⟨qk Ah.out⟩,⟨qb⟩⟩
              ·as_aux_lemma =>
               rw [if_neg Kt]at H
               have Ip:=decide_eq_false Kt
               clear Kt
               have H':=y0.mk H
               clear H
               go_wp2
               go_roundg k5
               case measure=>have:=Bz.out;have:=Bx.out;have:=Ee.out;have:=Cm.out;have:=Fm.out;omega
               exact⟨(Cu),(wrap64 (Ac + 1)),qy2,H',⟨by have:=Bz.out;have:=Bx.out;have:=Ee.out;have:=Cm.out;have:=Fm.out;omega⟩,⟨qR Ad.out⟩,⟨qk Ab.out⟩,⟨qb⟩⟩
        ·as_aux_lemma =>
         rw [if_neg Ks]at H
         have Io:=decide_eq_false Ks
         clear Ks
         by_cases Dp:(Ck.length:Int)=(Bb.length:Int)
         ·as_aux_lemma =>
          rw [if_pos Dp]at H
          have Kn:((Ck.length:Int) == (Bb.length:Int))=true:=beq_iff_eq.mpr Dp
          have Ko:((Ck.length:Int) != (Bb.length:Int))=false:=bne_eq_false_iff_eq.mpr Dp
          have Kp:(Ck.length == Bb.length)=true:=by first|simpa using Dp|(simp at Dp ⊢;omega)
          clear Dp
          obtain rfl:=Option.some.inj H
          obtain⟨Ms,Mt,Mu,Mv,Mw,Mx,My,Mz,Na,Nb⟩:=qz5 Ab.out
          obtain⟨Wt,Wu,Nc⟩:=Kd.R_slice Ad.out
          subst Nc
          go_wp2
          go_ret
          exact⟨_,by first|rfl|(simp [y12,y13] <;> rfl)|(simp [*,y12,y13] <;> rfl),by(with_reducible repeat(first|apply Kd.R_alloc|apply Kd.R_drewN|apply Kd.R_drew));exact Ad.out,qb⟩
         ·as_aux_lemma =>
          rw [if_neg Dp]at H
          have Kn:((Ck.length:Int) == (Bb.length:Int))=false:=beq_eq_false_iff_ne.mpr Dp
          have Ko:((Ck.length:Int) != (Bb.length:Int))=true:=bne_iff_ne.mpr Dp
          have Kp:(Ck.length == Bb.length)=false:=by first|simpa using Dp|(simp at Dp ⊢;omega)
          have H':=y0.mk H
          clear H
          obtain⟨Nd,Nf,Ng,Nh,Ni,Nj,Nk,Nl,Nm,Nn⟩:=qz5 Ab.out
          obtain⟨Wv,Ww,Np⟩:=Kd.R_slice Ad.out
          subst Np
          go_wp2
          go_roundg k3
          case measure=>have:=Bz.out;have:=Bx.out;have:=Ee.out;omega
          exact⟨(Ck),H',⟨by have:=Bz.out;have:=Bx.out;have:=Ee.out;omega⟩,⟨qR Ad.out⟩,⟨qk Ab.out⟩,⟨qb⟩⟩
end Go.Proofs.Ytkdabljlfbmpdaa.Pw
