-- Cut by prune.py, a program of this session, out of the texts of this claim: Lean checks it.
import Derived.Test.YtkajecadkkgfmaaGreatDoorVsqPnx0
import Derived.Test.YtkajecadkkgfmaaGreatDoorVsqPnx9
import Derived.Test.YtkajecadkkgfmaaGreatDoorVsqPnx11
section
namespace Go.Proofs.YtkajecadkkgfmaaGreatDoor.Pn
open Go.RowKit Go.Proofs.YtkajecadkkgfmaaGreatDoorW.PrintWords Go.Proofs.YtkajecadkkgfmaaGreatDoorW.PrintLast Go.Proofs.YtkajecadkkgfmaaGreatDoorW.PrintMore
attribute [local go_sem] max2_int min2_int max_two min_two max_three min_three max_four min_four   -- for this text's walks alone
set_option linter.unusedVariables false
set_option linter.unusedSimpArgs false
mutual
def spec_l01Cur_any.j0:Nat→ByteArray→List Int→Int→Int→Option (ByteArray×Int×Int)
 | 0,_,_,_,_=>none
 | k + 1,x3,x1000,x1001,x1002=>(spec_l01Cur_once.f x1000 x1001 x1002 5).bind fun bt456=>(if bt456.1=true then((z6_.f x1000 bt456.2.1 bt456.2.2 3).bind fun bt459=>(if bt459.1=0 then((some (([(⟨#[]⟩:ByteArray),(⟨#[48,49]⟩:ByteArray),(⟨#[45,48]⟩:ByteArray),(⟨#[49,48,48,48,48,48,49]⟩:ByteArray),(⟨#[120]⟩:ByteArray),(⟨#[78,105,108,40,41]⟩:ByteArray),(⟨#[78,105,108,40]⟩:ByteArray),(⟨#[67,111,110,115,40,49,44,41]⟩:ByteArray),(⟨#[67,111,110,115,40,49]⟩:ByteArray),(⟨#[34,97]⟩:ByteArray),(⟨#[97,34]⟩:ByteArray),(⟨#[34,97,34,98,34]⟩:ByteArray),(⟨#[34,92,34]⟩:ByteArray),(⟨#[83,32,40,49,41]⟩:ByteArray),(⟨#[83,40,49,41,41]⟩:ByteArray),(⟨#[83,40,120,41]⟩:ByteArray),(⟨#[65,98,99,100,101,102,103,104,105,106,107,108,109,110,111,112,113,114,115,116,117]⟩:ByteArray),(⟨#[34,97,98,99,100,101,102,103,104,105,106,107,108,109,110,111,112,113,114,115,116,117,34]⟩:ByteArray),(⟨#[45]⟩:ByteArray),(⟨#[45,45,49]⟩:ByteArray),(⟨#[65,95,49,40,34,41,44,40,34,41]⟩:ByteArray),(⟨#[43,49]⟩:ByteArray)]:List ByteArray):List ByteArray)).bind fun y462=>((z6_.f x1000 bt459.2.1 bt459.2.2 22).bind fun bt465=>(if 0≤bt465.1 then(if bt465.1 < (y462.length:Int)then(some (rdOf ByteArray.empty y462 bt465.1,bt465.2.1,bt465.2.2))else(none))else(none))))else(if bt459.1=1 then((z6_.f x1000 bt459.2.1 bt459.2.2 (wrap64 ((x3.size:Int) + 1))).bind fun bt469=>(if 0≤bt469.1 then(if bt469.1≤(x3.size:Int)then((some (([(⟨#[40]⟩:ByteArray),(⟨#[41]⟩:ByteArray),(⟨#[44]⟩:ByteArray),(⟨#[34]⟩:ByteArray),(⟨#[49]⟩:ByteArray),(⟨#[32]⟩:ByteArray)]:List ByteArray):List ByteArray)).bind fun y472=>((z6_.f x1000 bt469.2.1 bt469.2.2 6).bind fun bt475=>(if 0≤bt475.1 then(if bt475.1 < (y472.length:Int)then(if(x3.extract 0 (bt469.1:Int).toNat).size + (rdOf ByteArray.empty y472 bt475.1).size≤9223372036854775807 then(if((x3.extract 0 (bt469.1:Int).toNat) ++ (rdOf ByteArray.empty y472 bt475.1)).size + (x3.extract (bt469.1:Int).toNat x3.size).size≤9223372036854775807 then(some (((x3.extract 0 (bt469.1:Int).toNat) ++ (rdOf ByteArray.empty y472 bt475.1)) ++ (x3.extract (bt469.1:Int).toNat x3.size),bt475.2.1,bt475.2.2))else(none))else(none))else(none))else(none))))else(none))else(none)))else(spec_l01Cur_any.l0 k x3 x1000 bt459.2.1 bt459.2.2))))else(some (x3,bt456.2.1,bt456.2.2)))
def spec_l01Cur_any.l0:Nat→ByteArray→List Int→Int→Int→Option (ByteArray×Int×Int)
 | 0,_,_,_,_=>none
 | k + 1,x3,x1000,x1001,x1002=>if(x3.size:Int)≤200 then(if 2 + x3.size≤9223372036854775807 then(if((⟨#[83,40]⟩:ByteArray) ++ x3).size + 1≤9223372036854775807 then(spec_l01Cur_any.l0 k (((⟨#[83,40]⟩:ByteArray) ++ x3) ++ (⟨#[41]⟩:ByteArray)) x1000 x1001 x1002)else(none))else(none))else(some (x3,x1001,x1002))
end
def spec_l01Cur_any.f (k:Nat) (s0_0:List Int) (s0_1:Int) (s0_2:Int):Option (ByteArray×Int×Int):=(z8_.f k s0_0 s0_1 s0_2 2).bind fun bt453=>(if(bt453.1.size:Int) > 200 then(spec_l01Cur_any.j0 k (⟨#[78,105,108]⟩:ByteArray) s0_0 bt453.2.1 bt453.2.2)else(spec_l01Cur_any.j0 k bt453.1 s0_0 bt453.2.1 bt453.2.2))
def spec_l01Cur_any.T10:Bool×List (List Nat×List Nat):=(true,[([],[]),([],[]),([0,1],[0,1]),([],[]),([],[]),([4],[4]),([3,5],[3,5]),([6],[6]),([2,7],[2,7]),([],[]),([],[]),([9,10],[9,10]),([8,11],[8,11]),([12,5,0,1,2,3,4,5,6,7,8,9,10,11,12],[12])])
def spec_l01Cur_any.B10:List Nat:=[0,0,3,0,0,16,56,120,255,0,0,1536,4095,8191]
theorem spec_l01Cur_any.tab10:rtab .any (opsOf Tryz.f85 10)=spec_l01Cur_any.T10:=by kernel_rfl
theorem spec_l01Cur_any.bits10:waitsOk spec_l01Cur_any.T10.2 spec_l01Cur_any.B10=true:=by kernel_rfl
set_option maxHeartbeats 8000000 in
set_option maxRecDepth 100000 in
theorem spec_l01Cur_any.calls (k:Nat) (g:Nat) (Ad:List Int) (Bq:Int) (Br:Int) (r1:ByteArray) (r2:Int) (r3:Int) (w0 w:World) (hI:y2 w0 w g Ad Bq Br) (hB:Below w0.heap.size w0 w) (h:spec_l01Cur_any.f k Ad Bq Br=some (r1,r2,r3)) :
  Calls Tryz.prog 85 #[.pointer (some ⟨g,0,none⟩)] w fun e w'=>e=.returned (.string r1)∧y2 w0 w' g Ad r2 r3∧Below w0.heap.size w0 w'∧y3 w w' g none:=by
 have HI0:=y0.mk hI
 have HK:=y0.mk (y3.refl w g none)
 have HL:=y0.mk hB.size
 clear hI
 have El:=y0.mk hB.size
 have HB:=y0.mk hB
 clear hB
 have H:((z8_.f k Ad Bq Br 2).bind fun Ak=>(if(Ak.1.size:Int) > 200 then(spec_l01Cur_any.j0 k (⟨#[78,105,108]⟩:ByteArray) Ad Ak.2.1 Ak.2.2)else(spec_l01Cur_any.j0 k Ak.1 Ad Ak.2.1 Ak.2.2)))=some (r1,r2,r3):=h
 clear h
 obtain⟨⟨Aq,As,At⟩,A2,H⟩:=qB H
 replace H:(if(Aq.size:Int) > 200 then(spec_l01Cur_any.j0 k (⟨#[78,105,108]⟩:ByteArray) Ad As At)else(spec_l01Cur_any.j0 k Aq Ad As At))=some (r1,r2,r3):=H
 have Ct:=y0.mk H
 clear H
 go_enter Tryz.func85,Tryz.ntmps85
 go_upto_if 9 with(first|((with_reducible refine y16 (f:=84) rfl ?_);refine y18 (some 6) rfl rfl Tryz.func84 (by kernel_rfl) rfl #[.pointer (some ⟨g,0,none⟩),.int .i64 2] rfl qy0 ?_;(with_reducible refine(z8_.calls k g Ad Bq Br 2 Aq As At w0 _ (by repeat(first|(with_reducible first|exact HI0.out|apply y2.alloc|apply y2.drewN|apply y2.drew|apply y2.set_1|apply y2.set_2)|exact HI0.out)) (by repeat(first|(with_reducible first|exact HB.out|apply y4|apply y19|apply y5|refine y6 ?_ (y2.ge HI0.out))|exact HB.out)) A2.out).mono ?_);rintro e w4 ⟨rfl,hi,hb,hk⟩;refine⟨_,rfl, ?_⟩;replace HK:=y0.mk (y3.trans (qh (w:=w) (g:=g)) hk (.inl rfl));replace HB:=y0.mk (hb);replace HI0:=y0.mk (hi);(try clear hb hk hi)))
 (try simp only [Act.put,qS_,qZ_,qC_])
 go_cut [3] (fun v3 wc=>∃(kq:Nat) (Aa:ByteArray),v3=.string Aa∧y0 (spec_l01Cur_any.j0 kq Aa Ad As At=some (r1,r2,r3))∧y0 (kq≤k)∧y0 (y2 w0 wc g Ad As At)∧y0 (y3 w wc g none)∧y0 (Below w0.heap.size w0 wc))
 case first =>
  have H:=Ct.out
  clear Ct
  by_cases c5:(Aq.size:Int) > 200
  ·rw [if_pos c5]at H
   have Bg:decide (200 < (Aq.size:Int))=true:=decide_eq_true c5
   have Cu:decide (200 < Aq.size)=true:=decide_eq_true (by omega)
   clear c5
   (first|rw [Bg]|(simp only [i64_w,i32_w];rw [Bg])|skip)
   have H':=y0.mk H
   clear H
   go_wp2
   go_meet
   exact⟨_,((⟨#[78,105,108]⟩:ByteArray)),qy2,H',⟨by first|omega|exact Nat.le_refl _⟩,⟨(y2.qj (w0:=w0) (g:=g))⟩,⟨(qh (w:=w) (g:=g))⟩,⟨y2.qbI⟩⟩
  ·rw [if_neg c5]at H
   have Bg:decide (200 < (Aq.size:Int))=false:=decide_eq_false c5
   have Cu:decide (200 < Aq.size)=false:=decide_eq_false (by omega)
   clear c5
   (first|rw [Bg]|(simp only [i64_w,i32_w];rw [Bg])|skip)
   have H':=y0.mk H
   clear H
   go_wp2
   go_meet
   exact⟨_,(Aq),qy2,H',⟨by first|omega|exact Nat.le_refl _⟩,⟨(y2.qj (w0:=w0) (g:=g))⟩,⟨(qh (w:=w) (g:=g))⟩,⟨y2.qbI⟩⟩
 case rest =>
  clear Ct
  obtain⟨kq,Aa,rfl,HA,De,HI0,HK,HB⟩:=hcut
  cases kq with
  | zero=>exact absurd HA.out (by simp [spec_l01Cur_any.j0])
  | succ Df =>
   have H:=HA.out
   clear HA
   simp only [spec_l01Cur_any.j0]at H
   obtain⟨⟨Cv,Ba,Bb⟩,A6,H⟩:=qB H
   dsimp only at H
   by_cases c7:Cv=true
   ·subst c7
    replace H:=qT H
    obtain⟨⟨Ah,Au,Av⟩,A8,H⟩:=qB H
    dsimp only at H
    by_cases c9:Ah=0
    ·rw [if_pos c9]at H
     have Ci:(Ah == 0)=true:=beq_iff_eq.mpr c9
     have Cj:(Ah != 0)=false:=bne_eq_false_iff_eq.mpr c9
     clear c9
     obtain⟨Bf,Ax⟩:∃ y_:List ByteArray,y_=(([(⟨#[]⟩:ByteArray),(⟨#[48,49]⟩:ByteArray),(⟨#[45,48]⟩:ByteArray),(⟨#[49,48,48,48,48,48,49]⟩:ByteArray),(⟨#[120]⟩:ByteArray),(⟨#[78,105,108,40,41]⟩:ByteArray),(⟨#[78,105,108,40]⟩:ByteArray),(⟨#[67,111,110,115,40,49,44,41]⟩:ByteArray),(⟨#[67,111,110,115,40,49]⟩:ByteArray),(⟨#[34,97]⟩:ByteArray),(⟨#[97,34]⟩:ByteArray),(⟨#[34,97,34,98,34]⟩:ByteArray),(⟨#[34,92,34]⟩:ByteArray),(⟨#[83,32,40,49,41]⟩:ByteArray),(⟨#[83,40,49,41,41]⟩:ByteArray),(⟨#[83,40,120,41]⟩:ByteArray),(⟨#[65,98,99,100,101,102,103,104,105,106,107,108,109,110,111,112,113,114,115,116,117]⟩:ByteArray),(⟨#[34,97,98,99,100,101,102,103,104,105,106,107,108,109,110,111,112,113,114,115,116,117,34]⟩:ByteArray),(⟨#[45]⟩:ByteArray),(⟨#[45,45,49]⟩:ByteArray),(⟨#[65,95,49,40,34,41,44,40,34,41]⟩:ByteArray),(⟨#[43,49]⟩:ByteArray)]:List ByteArray)):=⟨_,rfl⟩
     replace H:((z6_.f Ad Au Av 22).bind fun Ay=>(if 0≤Ay.1 then(if Ay.1 < (Bf.length:Int)then(some (rdOf ByteArray.empty Bf Ay.1,Ay.2.1,Ay.2.2))else(none))else(none)))=some (r1,r2,r3):=by first|(rw [Ax];with_reducible exact H)|(have H2_:=(Option.bind_some _ _).symm.trans H;rw [Ax];with_reducible exact H2_)|(have H2_:=(Option.bind_some _ _).symm.trans H;with_reducible exact H2_)|with_reducible exact H|(rw [Ax];exact H)|exact H
     have Bs:=y0.mk Ax
     clear Ax
     obtain⟨⟨Aw,Ck,Cl⟩,Ea,H⟩:=qB H
     replace H:(if 0≤Aw then(if Aw < (Bf.length:Int)then(some (rdOf ByteArray.empty Bf Aw,Ck,Cl))else(none))else(none))=some (r1,r2,r3):=H
     obtain⟨Dg,H⟩:=qo H
     have Dh:decide (0≤Aw)=true:=decide_eq_true Dg
     clear Dg
     obtain⟨Di,H⟩:=qo H
     have Dj:decide (Aw < (Bf.length:Int))=true:=decide_eq_true Di
     clear Di
     simp only [Option.some.injEq,Prod.mk.injEq]at H
     obtain⟨rfl,rfl,rfl⟩:=H
     go_wp2_with (first|((with_reducible refine y16 (f:=67) rfl ?_);refine y18 (some 11) rfl rfl Tryz.func67 (by kernel_rfl) rfl #[.pointer (some ⟨g,0,none⟩),.int .i64 5] rfl qy0 ?_;(with_reducible refine(spec_l01Cur_once.calls g Ad As At 5 true Ba Bb w0 _ (by repeat(first|(with_reducible first|exact HI0.out|apply y2.alloc|apply y2.drewN|apply y2.drew|apply y2.set_1|apply y2.set_2)|exact HI0.out)) (by repeat(first|(with_reducible first|exact HB.out|apply y4|apply y19|apply y5|refine y6 ?_ (y2.ge HI0.out))|exact HB.out)) A6.out).mono ?_);rintro e Em ⟨rfl,hi,hb,hk⟩;refine⟨_,rfl, ?_⟩;replace HK:=y0.mk (y3.trans (qh (w:=w) (g:=g)) hk (.inl rfl));replace HB:=y0.mk (hb);replace HI0:=y0.mk (hi);(try clear hb hk hi))|((with_reducible refine y16 (f:=54) rfl ?_);refine y18 (some 13) rfl rfl Tryz.func54 (by kernel_rfl) rfl #[.pointer (some ⟨g,0,none⟩),.int .i64 3] rfl qy0 ?_;(with_reducible refine(z6_.calls g Ad Ba Bb 3 Ah Au Av w0 _ (by repeat(first|(with_reducible first|exact HI0.out|apply y2.alloc|apply y2.drewN|apply y2.drew|apply y2.set_1|apply y2.set_2)|exact HI0.out)) (by repeat(first|(with_reducible first|exact HB.out|apply y4|apply y19|apply y5|refine y6 ?_ (y2.ge HI0.out))|exact HB.out)) A8.out).mono ?_);rintro e En ⟨rfl,hi,hb,hk⟩;refine⟨_,rfl, ?_⟩;replace HK:=y0.mk (y3.trans (qh (w:=w) (g:=g)) hk (.inl rfl));replace HB:=y0.mk (hb);replace HI0:=y0.mk (hi);(try clear hb hk hi))|((with_reducible refine y17 (N:=16) rfl ?_);refine qL Kd.string 9 16 ([(⟨#[]⟩:ByteArray),(⟨#[48,49]⟩:ByteArray),(⟨#[45,48]⟩:ByteArray),(⟨#[49,48,48,48,48,48,49]⟩:ByteArray),(⟨#[120]⟩:ByteArray),(⟨#[78,105,108,40,41]⟩:ByteArray),(⟨#[78,105,108,40]⟩:ByteArray),(⟨#[67,111,110,115,40,49,44,41]⟩:ByteArray),(⟨#[67,111,110,115,40,49]⟩:ByteArray),(⟨#[34,97]⟩:ByteArray),(⟨#[97,34]⟩:ByteArray),(⟨#[34,97,34,98,34]⟩:ByteArray),(⟨#[34,92,34]⟩:ByteArray),(⟨#[83,32,40,49,41]⟩:ByteArray),(⟨#[83,40,49,41,41]⟩:ByteArray),(⟨#[83,40,120,41]⟩:ByteArray),(⟨#[65,98,99,100,101,102,103,104,105,106,107,108,109,110,111,112,113,114,115,116,117]⟩:ByteArray),(⟨#[34,97,98,99,100,101,102,103,104,105,106,107,108,109,110,111,112,113,114,115,116,117,34]⟩:ByteArray),(⟨#[45]⟩:ByteArray),(⟨#[45,45,49]⟩:ByteArray),(⟨#[65,95,49,40,34,41,44,40,34,41]⟩:ByteArray),(⟨#[43,49]⟩:ByteArray)]:List ByteArray) ?_;intro Eb Eo Bh hb hg_ hnew_;clear hg_ hnew_;(first|rw [← Bs.out]at Bh|(simp only [Int.reduceToNat]at Bh;rw [← Bs.out]at Bh));have Be:=y0.mk (Kd.R_lower Bh (keep_size (w:=w) (g:=g) (row:=none) (qh (w:=w) (g:=g))));replace HI0:=y0.mk (y2.below (y2.qj (w0:=w0) (g:=g)) hb);replace HK:=y0.mk (y3.trans (qh (w:=w) (g:=g)) (y3.of_below hb g none) (.inl rfl));replace HB:=y0.mk (y8 y2.qbI hb);clear hb Bh)|((with_reducible refine y16 (f:=54) rfl ?_);refine y18 (some 18) rfl rfl Tryz.func54 (by kernel_rfl) rfl #[.pointer (some ⟨g,0,none⟩),.int .i64 22] rfl qy0 ?_;(with_reducible refine(z6_.calls g Ad Au Av 22 Aw Ck Cl w0 _ (by repeat(first|(with_reducible first|exact HI0.out|apply y2.alloc|apply y2.drewN|apply y2.drew|apply y2.set_1|apply y2.set_2)|exact HI0.out)) (by repeat(first|(with_reducible first|exact HB.out|apply y4|apply y19|apply y5|refine y6 ?_ (y2.ge HI0.out))|exact HB.out)) Ea.out).mono ?_);rintro e Ep ⟨rfl,hi,hb,hk⟩;refine⟨_,rfl, ?_⟩;replace Be:=y0.mk (Kd.R_mono (Kd.R_keep (y2.apart (show y2 w0 _ g Ad Au Av from(y2.qj (w0:=w0) (g:=g))) (qR Be.out) (by decide)) hk (fun _ h=>h.2)) (fun _ h=>h.1));replace HK:=y0.mk (y3.trans (qh (w:=w) (g:=g)) hk (.inl rfl));replace HB:=y0.mk (hb);replace HI0:=y0.mk (hi);(try clear hb hk hi);obtain⟨Ec,Ed,Cw⟩:=Kd.R_slice Be.out;subst Cw;have Bx:0≤(Aw:Int):=of_decide_eq_true qy1;have Bz:Aw < (Bf.length:Int):=of_decide_eq_true qy1;obtain⟨Dk,Cx,Cr⟩:=Kd.at_string (Kd.R_reads' Be.out).2.2 Aw Bx Bz;cases Cx;replace Bx:=eq_true Bx;replace Bz:=eq_true Bz))
     go_ret
     exact⟨qf,(y2.qj (w0:=w0) (g:=g)),y2.qbI,(qh (w:=w) (g:=g))⟩
    ·rw [if_neg c9]at H
     have Ci:(Ah == 0)=false:=beq_eq_false_iff_ne.mpr c9
     have Cj:(Ah != 0)=true:=bne_iff_ne.mpr c9
     by_cases Ca:Ah=1
     ·rw [if_pos Ca]at H
      have Bt:(Ah == 1)=true:=beq_iff_eq.mpr Ca
      have Bu:(Ah != 1)=false:=bne_eq_false_iff_eq.mpr Ca
      clear Ca
      obtain⟨⟨Ab,Bc,Bd⟩,Ee,H⟩:=qB H
      dsimp only at H
      obtain⟨Cy,H⟩:=qo H
      have Bi:=eq_true Cy
      have Dl:=decide_eq_true Cy
      clear Cy
      obtain⟨Cz,H⟩:=qo H
      have Bj:=eq_true Cz
      have Dm:=decide_eq_true Cz
      clear Cz
      obtain⟨Ae,Az⟩:∃ y_:List ByteArray,y_=(([(⟨#[40]⟩:ByteArray),(⟨#[41]⟩:ByteArray),(⟨#[44]⟩:ByteArray),(⟨#[34]⟩:ByteArray),(⟨#[49]⟩:ByteArray),(⟨#[32]⟩:ByteArray)]:List ByteArray)):=⟨_,rfl⟩
      replace H:((z6_.f Ad Bc Bd 6).bind fun Ai=>(if 0≤Ai.1 then(if Ai.1 < (Ae.length:Int)then(if(Aa.extract 0 (Ab:Int).toNat).size + (rdOf ByteArray.empty Ae Ai.1).size≤9223372036854775807 then(if((Aa.extract 0 (Ab:Int).toNat) ++ (rdOf ByteArray.empty Ae Ai.1)).size + (Aa.extract (Ab:Int).toNat Aa.size).size≤9223372036854775807 then(some (((Aa.extract 0 (Ab:Int).toNat) ++ (rdOf ByteArray.empty Ae Ai.1)) ++ (Aa.extract (Ab:Int).toNat Aa.size),Ai.2.1,Ai.2.2))else(none))else(none))else(none))else(none)))=some (r1,r2,r3):=by first|(rw [Az];with_reducible exact H)|(have H2_:=(Option.bind_some _ _).symm.trans H;rw [Az];with_reducible exact H2_)|(have H2_:=(Option.bind_some _ _).symm.trans H;with_reducible exact H2_)|with_reducible exact H|(rw [Az];exact H)|exact H
      have Bk:=y0.mk Az
      clear Az
      obtain⟨⟨Ac,Cb,Cc⟩,Ef,H⟩:=qB H
      dsimp only at H
      obtain⟨Dn,H⟩:=qo H
      have Al:decide (0≤Ac)=true:=decide_eq_true Dn
      clear Dn
      obtain⟨Do,H⟩:=qo H
      have Am:decide (Ac < (Ae.length:Int))=true:=decide_eq_true Do
      clear Do
      obtain⟨Cd,H⟩:=qo H
      have Ao:=eq_true Cd
      have Dp:=decide_eq_true Cd
      have Cm:=eq_false (Nat.not_lt.2 Cd)
      try have Dq:(9223372036854775807 < (Ab:Int).toNat + (rdOf ByteArray.empty Ae Ac).size)=False:=(congrArg (fun n_=>(9223372036854775807 < n_)) (show(Ab:Int).toNat + (rdOf ByteArray.empty Ae Ac).size=(Aa.extract 0 (Ab:Int).toNat).size + (rdOf ByteArray.empty Ae Ac).size by(simp only [ByteArray.size_append,(show(Aa.extract 0 (Ab:Int).toNat).size=(Ab:Int).toNat from by rw [ByteArray.size_extract,Nat.sub_zero];exact Nat.min_eq_left (Int.toNat_le.2 (of_eq_true (by assumption))))];try rfl))).trans Cm
      have Bl:=eq_true (of_decide_eq_true qy1:0≤Ab)
      have Bm:=eq_true (of_decide_eq_true qy1:Ab≤(Aa.size:Int))
      obtain⟨Ce,H⟩:=qo H
      have Bn:=eq_true Ce
      have Dr:=decide_eq_true Ce
      have Bv:=eq_false (Nat.not_lt.2 Ce)
      have Ds:(9223372036854775807 < (Aa.extract 0 (Ab:Int).toNat).size + (rdOf ByteArray.empty Ae Ac).size + (Aa.extract (Ab:Int).toNat Aa.size).size)=False:=qs Bv
      try have Dt:(9223372036854775807 < (Ab:Int).toNat + (rdOf ByteArray.empty Ae Ac).size + (Aa.size - (Ab:Int).toNat))=False:=(congrArg (fun n_=>(9223372036854775807 < n_)) (show(Ab:Int).toNat + (rdOf ByteArray.empty Ae Ac).size + (Aa.size - (Ab:Int).toNat)=((Aa.extract 0 (Ab:Int).toNat) ++ (rdOf ByteArray.empty Ae Ac)).size + (Aa.extract (Ab:Int).toNat Aa.size).size by(simp only [ByteArray.size_append,(show(Aa.extract 0 (Ab:Int).toNat).size=(Ab:Int).toNat from by rw [ByteArray.size_extract,Nat.sub_zero];exact Nat.min_eq_left (Int.toNat_le.2 (of_eq_true (by assumption)))),(show(Aa.extract (Ab:Int).toNat Aa.size).size=Aa.size - (Ab:Int).toNat from by rw [ByteArray.size_extract,Nat.min_self])];try rfl))).trans Bv
      simp only [Option.some.injEq,Prod.mk.injEq]at H
      obtain⟨rfl,rfl,rfl⟩:=H
      try go_wp2_with (first|((with_reducible refine y16 (f:=67) rfl ?_);refine y18 (some 11) rfl rfl Tryz.func67 (by kernel_rfl) rfl #[.pointer (some ⟨g,0,none⟩),.int .i64 5] rfl qy0 ?_;(with_reducible refine(spec_l01Cur_once.calls g Ad As At 5 true Ba Bb w0 _ (by repeat(first|(with_reducible first|exact HI0.out|apply y2.alloc|apply y2.drewN|apply y2.drew|apply y2.set_1|apply y2.set_2)|exact HI0.out)) (by repeat(first|(with_reducible first|exact HB.out|apply y4|apply y19|apply y5|refine y6 ?_ (y2.ge HI0.out))|exact HB.out)) A6.out).mono ?_);rintro e Er ⟨rfl,hi,hb,hk⟩;refine⟨_,rfl, ?_⟩;replace HK:=y0.mk (y3.trans (qh (w:=w) (g:=g)) hk (.inl rfl));replace HB:=y0.mk (hb);replace HI0:=y0.mk (hi);(try clear hb hk hi))|((with_reducible refine y16 (f:=54) rfl ?_);refine y18 (some 13) rfl rfl Tryz.func54 (by kernel_rfl) rfl #[.pointer (some ⟨g,0,none⟩),.int .i64 3] rfl qy0 ?_;(with_reducible refine(z6_.calls g Ad Ba Bb 3 Ah Au Av w0 _ (by repeat(first|(with_reducible first|exact HI0.out|apply y2.alloc|apply y2.drewN|apply y2.drew|apply y2.set_1|apply y2.set_2)|exact HI0.out)) (by repeat(first|(with_reducible first|exact HB.out|apply y4|apply y19|apply y5|refine y6 ?_ (y2.ge HI0.out))|exact HB.out)) A8.out).mono ?_);rintro e Es ⟨rfl,hi,hb,hk⟩;refine⟨_,rfl, ?_⟩;replace HK:=y0.mk (y3.trans (qh (w:=w) (g:=g)) hk (.inl rfl));replace HB:=y0.mk (hb);replace HI0:=y0.mk (hi);(try clear hb hk hi))|((with_reducible refine y16 (f:=54) rfl ?_);refine y18 (some 27) rfl rfl Tryz.func54 (by kernel_rfl) rfl #[.pointer (some ⟨g,0,none⟩),.int .i64 (wrap64 ((Aa.size:Int) + 1))] rfl qy0 ?_;(with_reducible refine(z6_.calls g Ad Au Av (wrap64 ((Aa.size:Int) + 1)) Ab Bc Bd w0 _ (by repeat(first|(with_reducible first|exact HI0.out|apply y2.alloc|apply y2.drewN|apply y2.drew|apply y2.set_1|apply y2.set_2)|exact HI0.out)) (by repeat(first|(with_reducible first|exact HB.out|apply y4|apply y19|apply y5|refine y6 ?_ (y2.ge HI0.out))|exact HB.out)) Ee.out).mono ?_);rintro e Eg ⟨rfl,hi,hb,hk⟩;refine⟨_,rfl, ?_⟩;replace HK:=y0.mk (y3.trans (qh (w:=w) (g:=g)) hk (.inl rfl));replace HB:=y0.mk (hb);replace HI0:=y0.mk (hi);(try clear hb hk hi)))
      have Cn:(0≤(Ac:Int))=True:=eq_true (of_decide_eq_true qy1)
      have Co:(Ac < (Ae.length:Int))=True:=eq_true (of_decide_eq_true qy1)
      replace HI0:=y0.mk (y2.drew HI0.out)
      replace HK:=y0.mk (keep_drew HK.out)
      replace HB:=y0.mk (y5 HB.out)
      refine start_ (n:=14) (S:=fun w'=>True) (ds:=[]) (fl_ 14 0) (by kernel_rfl) rfl rfl trivial (fun hHeld=>?_);refine with_tabW spec_l01Cur_any.tab10 spec_l01Cur_any.bits10 (fun HT_ HW_=>?_)
      generalize Eg.drew=Et at HI0 HK HB hHeld ⊢
      refine qp2 0 28 14 ?_
      refine qp 4 32 (fl_ 14 19) ?_
      refine qp 9 37 (fl_ 14 531) ?_
      refine qp 10 38 (fl_ 14 1555) ?_
      refine inv_at [2,3,5,6,7,8,11,12,13] (fun a0_ b a w'=>∃(Af:Value) (adz_v473:Addr) (m6_:Value),a=putSel a0_ b [(2,30,.string (Aa.extract 0 (Ab:Int).toNat)),(3,31,Af),(5,33,.int .i64 Ac),(6,34,m6_),(7,35,.string (rdOf ByteArray.empty Ae Ac)),(8,36,.string ((Aa.extract 0 (Ab:Int).toNat) ++ (rdOf ByteArray.empty Ae Ac))),(11,39,.string (Aa.extract (Ab:Int).toNat Aa.size)),(12,40,.string (((Aa.extract 0 (Ab:Int).toNat) ++ (rdOf ByteArray.empty Ae Ac)) ++ (Aa.extract (Ab:Int).toNat Aa.size))),(13,2,.string (((Aa.extract 0 (Ab:Int).toNat) ++ (rdOf ByteArray.empty Ae Ac)) ++ (Aa.extract (Ab:Int).toNat Aa.size)))]∧(b 5=false→y2 w0 w' g Ad Bc Bd)∧(y3 w w' g none)∧(Below w0.heap.size w0 w')∧(b 3=true→Kd.R Kd.string 9 w' w.heap.size (fun _=>True) Af Ae)∧(b 3=true→∃ c_,(Af:Value)=.slice (some adz_v473) Ae.length c_)∧(b 5=true→y2 w0 w' g Ad Cb Cc)∧(b 6=true→(m6_:Value)=.pointer (some (adz_v473.add (Ac).toNat)))) HT_.out HW_.out (by kernel_rfl) (by kernel_rfl) ?_ ?_ ?_
      ·exact⟨.bool false,⟨0,0,none⟩,.bool false,by simp only [putSel,Bool.false_eq_true,if_false],fun _=>HI0.out,HK.out,HB.out,fun h_=>absurd h_ (by decide),fun h_=>absurd h_ (by decide),fun h_=>absurd h_ (by decide),fun h_=>absurd h_ (by decide)⟩
      ·skip
       clear HB HI0 HK
       refine steps_cons ?_ ?_
       ·rintro b a w' ⟨Af,adz_v473,m6_,ha,Q_HI0,Q_HK,Q_HB,Q_HO474,Q_HA_HO474,Q_HI0_e5,Q_X6_⟩ hb_ hon hoff
        refine⟨_,rfl,fun K hK=>?_⟩
        have Eu:a.tmps[28]?=some (.string Aa):=by rw [ha];exact(putSel_off rfl).trans rfl
        have Ew:a.tmps[29]?=some (.int .i64 Ab):=by rw [ha];exact(putSel_off rfl).trans rfl
        replace ha:=y0.mk ha
        have HK:=y0.mk Q_HK
        have HB:=y0.mk Q_HB
        refine value_ (w1:=w') (v:=.string (Aa.extract 0 (Ab:Int).toNat)) (by rfl) rfl ?_ ?_
        ·go_simp
         (try simp only [i64_w])
         try rfl
        refine hK.out _ _ ⟨Af,adz_v473,m6_,(by rw [ha.out];exact putSel_upk 0 hb_ rfl rfl rfl),Q_HI0,Q_HK,Q_HB,Q_HO474,Q_HA_HO474,Q_HI0_e5,Q_X6_⟩
       refine steps_cons ?_ ?_
       ·rintro b a w' ⟨Af,adz_v473,m6_,ha,Q_HI0,Q_HK,Q_HB,Q_HO474,Q_HA_HO474,Q_HI0_e5,Q_X6_⟩ hb_ hon hoff
        refine⟨_,rfl,fun K hK=>?_⟩
        replace ha:=y0.mk ha
        have HK:=y0.mk Q_HK
        have HB:=y0.mk Q_HB
        refine qLs Kd.string 9 31 ([(⟨#[40]⟩:ByteArray),(⟨#[41]⟩:ByteArray),(⟨#[44]⟩:ByteArray),(⟨#[34]⟩:ByteArray),(⟨#[49]⟩:ByteArray),(⟨#[32]⟩:ByteArray)]:List ByteArray) ?_
        intro Af Cs Bo hb hg_ hnew_
        clear hg_ hnew_
        (first|rw [← Bk.out]at Bo|(simp only [Int.reduceToNat]at Bo;rw [← Bk.out]at Bo))
        have n0_:=y0.mk (Kd.R_lower Bo (keep_size (w:=w) (g:=g) (row:=none) (qh (w:=w) (g:=g))))
        have n2_:=y0.mk (y3.trans (qh (w:=w) (g:=g)) (y3.of_below hb g none) (.inl rfl))
        have n3_:=y0.mk (y8 qb hb)
        have z_HI0:=fun(h0_:b 5=false)=>(show y2 w0 Cs g Ad Bc Bd from by first|exact(y2.below (by repeat(first|(with_reducible first|exact(Q_HI0 h0_)|apply y2.alloc|apply y2.drewN|apply y2.drew|apply y2.set_1|apply y2.set_2)|exact(Q_HI0 h0_))) hb))
        have z_HI0_e5:=fun(h0_:b 5=true)=>(show y2 w0 Cs g Ad Cb Cc from by first|exact(y2.below (by repeat(first|(with_reducible first|exact(Q_HI0_e5 h0_)|apply y2.alloc|apply y2.drewN|apply y2.drew|apply y2.set_1|apply y2.set_2)|exact(Q_HI0_e5 h0_))) hb))
        clear HK
        clear HB
        have Ag:=n0_
        have HK:=n2_
        have HB:=n3_
        clear n0_ n2_ n3_
        clear hb Bo
        obtain⟨Eh,Da,Db⟩:=Kd.R_slice Ag.out
        subst Db
        obtain⟨Bw,Dc,_⟩:=Kd.at_string (Kd.R_reads' Ag.out).2.2 0 (by decide) (by rw [Bk.out];simp)
        cases Dc
        refine hK.out _ _ ⟨.slice (some Bw) Ae.length Da,Bw,m6_,(by rw [ha.out];exact putSel_upk 1 hb_ rfl rfl rfl),z_HI0,(qh (w:=w) (g:=g)),qb,fun _=>(qR Ag.out),fun _=>⟨_,rfl⟩,z_HI0_e5,fun h0_=>absurd ((hoff 6 (by kernel_rfl)).symm.trans h0_) (by decide)⟩
       refine steps_cons ?_ ?_
       ·rintro b a w' ⟨Af,adz_v473,m6_,ha,Q_HI0,Q_HK,Q_HB,Q_HO474,Q_HA_HO474,Q_HI0_e5,Q_X6_⟩ hb_ hon hoff
        refine⟨_,rfl,fun K hK=>?_⟩
        have Du:a.tmps[32]?=some (.pointer (some ⟨g,0,none⟩)):=by rw [ha];exact(putSel_off rfl).trans rfl
        replace ha:=y0.mk ha
        have HI0:=y0.mk (Q_HI0 hb_)
        have HK:=y0.mk Q_HK
        have HB:=y0.mk Q_HB
        refine goes_ Tryz.func54 (by kernel_rfl) rfl #[.pointer (some ⟨g,0,none⟩),.int .i64 6] (by rfl) rfl rfl (by first|(simp only [qM_,List.map_cons,List.map_nil,Act.eval,Array.getD_eq_getD_getElem?,Option.getD_some,Du];done)|(simp only [qM_,List.map_cons,List.map_nil,Act.eval,Array.getD_eq_getD_getElem?,Option.getD_some,Du];rfl)) ?_
        with_reducible refine(z6_.calls g Ad Bc Bd 6 Ac Cb Cc w0 _ (by repeat(first|(with_reducible first|exact HI0.out|apply y2.alloc|apply y2.drewN|apply y2.drew|apply y2.set_1|apply y2.set_2)|exact HI0.out)) (by repeat(first|(with_reducible first|exact HB.out|apply y4|apply y19|apply y5|refine y6 ?_ (y2.ge HI0.out))|exact HB.out)) Ef.out).mono ?_
        rintro e Cs ⟨rfl,hi,hb,hk⟩
        refine⟨_,rfl, ?_⟩
        have n0_:=y0.mk (y3.trans (qh (w:=w) (g:=g)) hk (.inl rfl))
        have n1_:=y0.mk (hb)
        have n2_:=y0.mk (hi)
        have z_HO474:=fun(h0_:b 3=true)=>(show Kd.R Kd.string 9 Cs w.heap.size (fun _=>True) Af Ae from by first|exact(Kd.R_mono (Kd.R_keep (y2.apart (show y2 w0 _ g Ad Bc Bd from(y2.qj (w0:=w0) (g:=g))) (qR ((Q_HO474 h0_))) (by decide)) hk (fun _ h=>h.2)) (fun _ h=>h.1))|exact Kd.R_mono (Kd.R_mono (Kd.R_keep (y2.apart (show y2 w0 _ g Ad Bc Bd from(y2.qj (w0:=w0) (g:=g))) (qR ((Q_HO474 h0_))) (by decide)) hk (fun _ h=>h.2)) (fun _ h=>h.1)) (fun _ h_=>by first|trivial|exact h_|exact h_.1))
        clear HK
        clear HB
        clear HI0
        have HK:=n0_
        have HB:=n1_
        have HI0:=n2_
        clear n0_ n1_ n2_
        (try clear hb hk hi)
        refine hK.out _ _ ⟨Af,adz_v473,m6_,(by rw [ha.out];exact putSel_upk 2 hb_ rfl rfl rfl),fun h0_=>absurd ((up_self b 5).symm.trans h0_) (by decide),(qh (w:=w) (g:=g)),y2.qbI,z_HO474,Q_HA_HO474,fun _=>(y2.qj (w0:=w0) (g:=g)),fun h0_=>absurd ((hoff 6 (by kernel_rfl)).symm.trans h0_) (by decide)⟩
       refine steps_cons ?_ ?_
       ·rintro b a w' ⟨Af,adz_v473,m6_,ha,Q_HI0,Q_HK,Q_HB,Q_HO474,Q_HA_HO474,Q_HI0_e5,Q_X6_⟩ hb_ hon hoff
        refine⟨_,rfl,fun K hK=>?_⟩
        have Ei:a.tmps[31]?=some (Af):=by rw [ha];exact putSel_on (e:=(3,31,Af)) 1 rfl rfl (hon 3 (by kernel_rfl)) rfl
        have Ex:a.tmps[33]?=some (.int .i64 Ac):=by rw [ha];exact putSel_on (e:=(5,33,.int .i64 Ac)) 2 rfl rfl (hon 5 (by kernel_rfl)) rfl
        replace ha:=y0.mk ha
        have HK:=y0.mk Q_HK
        have HB:=y0.mk Q_HB
        have Ag:=y0.mk (Q_HO474 (hon 3 (by kernel_rfl)))
        have HA_HO474:=y0.mk (Q_HA_HO474 (hon 3 (by kernel_rfl)))
        have HI0:=y0.mk (Q_HI0_e5 (hon 5 (by kernel_rfl)))
        obtain⟨c_,hv_⟩:=HA_HO474.out
        rw [hv_]at Ei
        refine value_ (w1:=w') (v:=.pointer (some (adz_v473.add (Ac).toNat))) (by rfl) rfl ?_ ?_
        ·go_simp
         (try simp only [i64_w])
         try rfl
        refine hK.out _ _ ⟨Af,adz_v473,(.pointer (some (adz_v473.add (Ac).toNat))),(by rw [ha.out];exact putSel_upk 3 hb_ rfl rfl rfl),fun h0_=>absurd ((hon 5 (by kernel_rfl)).symm.trans h0_) (by decide),Q_HK,Q_HB,Q_HO474,Q_HA_HO474,Q_HI0_e5,fun _=>rfl⟩
       refine steps_cons ?_ ?_
       ·rintro b a w' ⟨Af,adz_v473,m6_,ha,Q_HI0,Q_HK,Q_HB,Q_HO474,Q_HA_HO474,Q_HI0_e5,Q_X6_⟩ hb_ hon hoff
        refine⟨_,rfl,fun K hK=>?_⟩
        have Ej:a.tmps[34]?=some (m6_):=by rw [ha];exact putSel_on (e:=(6,34,m6_)) 3 rfl rfl (hon 6 (by kernel_rfl)) rfl
        rw [Q_X6_ (hon 6 (by kernel_rfl))]at Ej
        replace ha:=y0.mk ha
        have HK:=y0.mk Q_HK
        have HB:=y0.mk Q_HB
        have Ag:=y0.mk (Q_HO474 (hon 3 (by kernel_rfl)))
        have HA_HO474:=y0.mk (Q_HA_HO474 (hon 3 (by kernel_rfl)))
        have HI0:=y0.mk (Q_HI0_e5 (hon 5 (by kernel_rfl)))
        obtain⟨c_,hv_⟩:=HA_HO474.out
        have hF_:=Ag.out
        rw [hv_]at hF_
        obtain⟨ad_,ea_,hx_⟩:=Kd.at_string (Kd.R_reads' hF_).2.2 Ac (of_eq_true Cn) (of_eq_true Co)
        cases ea_
        refine value_ (w1:=w') (v:=.string (rdOf ByteArray.empty Ae Ac)) (by rfl) rfl ?_ ?_
        ·go_simp
         (try simp only [i64_w])
         try rfl
        refine hK.out _ _ ⟨Af,adz_v473,m6_,(by rw [ha.out];exact putSel_upk 4 hb_ rfl rfl rfl),fun h0_=>absurd ((hon 5 (by kernel_rfl)).symm.trans h0_) (by decide),Q_HK,Q_HB,Q_HO474,Q_HA_HO474,Q_HI0_e5,Q_X6_⟩
       refine steps_cons ?_ ?_
       ·rintro b a w' ⟨Af,adz_v473,m6_,ha,Q_HI0,Q_HK,Q_HB,Q_HO474,Q_HA_HO474,Q_HI0_e5,Q_X6_⟩ hb_ hon hoff
        refine⟨_,rfl,fun K hK=>?_⟩
        have Ey:a.tmps[30]?=some (.string (Aa.extract 0 (Ab:Int).toNat)):=by rw [ha];exact putSel_on (e:=(2,30,.string (Aa.extract 0 (Ab:Int).toNat))) 0 rfl rfl (hon 2 (by kernel_rfl)) rfl
        have Ez:a.tmps[35]?=some (.string (rdOf ByteArray.empty Ae Ac)):=by rw [ha];exact putSel_on (e:=(7,35,.string (rdOf ByteArray.empty Ae Ac))) 4 rfl rfl (hon 7 (by kernel_rfl)) rfl
        replace ha:=y0.mk ha
        have HK:=y0.mk Q_HK
        have HB:=y0.mk Q_HB
        have Ag:=y0.mk (Q_HO474 (hon 3 (by kernel_rfl)))
        have HA_HO474:=y0.mk (Q_HA_HO474 (hon 3 (by kernel_rfl)))
        have HI0:=y0.mk (Q_HI0_e5 (hon 5 (by kernel_rfl)))
        refine value_ (w1:=w') (v:=.string ((Aa.extract 0 (Ab:Int).toNat) ++ (rdOf ByteArray.empty Ae Ac))) (by rfl) rfl ?_ ?_
        ·go_simp
         (try simp only [i64_w])
         try first|rfl|(have hz_:=Cd;(try have hy20_:=of_eq_true c20b0);(try have hy21_:=of_eq_true Bi);(try have hy22_:=of_eq_true Bj);(try have hy23_:=of_eq_true c23b0);(try have hy24_:=of_eq_true Al);(try have hy25_:=of_eq_true Am);(try have hy26_:=of_eq_true Ao);(try simp only [ByteArray.size_append,ByteArray.size_extract]at hz_);omega)|(have hz_:=Ce;(try have hy23_:=of_eq_true c23b0);(try have hy24_:=of_eq_true Al);(try have hy25_:=of_eq_true Am);(try have hy26_:=of_eq_true Ao);(try have hy27_:=of_eq_true Bl);(try have hy28_:=of_eq_true Bm);(try have hy29_:=of_eq_true Bn);(try simp only [ByteArray.size_append,ByteArray.size_extract]at hz_);omega)|(have hz_:=Cf;(try have hy37_:=of_eq_true c37b0);(try have hy38_:=of_eq_true c38b0);(try have hy39_:=of_eq_true c39b0);(try have hy40_:=of_eq_true c40b0);(try have hy41_:=of_eq_true c41b0);(try have hy42_:=of_eq_true Aj);(try have hy43_:=of_eq_true Ap);(try simp only [ByteArray.size_append,ByteArray.size_extract]at hz_);omega)|(have hz_:=Cg;(try have hy38_:=of_eq_true c38b0);(try have hy39_:=of_eq_true c39b0);(try have hy40_:=of_eq_true c40b0);(try have hy41_:=of_eq_true c41b0);(try have hy42_:=of_eq_true Aj);(try have hy43_:=of_eq_true Ap);(try have hy44_:=of_eq_true Bp);(try simp only [ByteArray.size_append,ByteArray.size_extract]at hz_);omega)
        refine hK.out _ _ ⟨Af,adz_v473,m6_,(by rw [ha.out];exact putSel_upk 5 hb_ rfl rfl rfl),fun h0_=>absurd ((hon 5 (by kernel_rfl)).symm.trans h0_) (by decide),Q_HK,Q_HB,Q_HO474,Q_HA_HO474,Q_HI0_e5,Q_X6_⟩
       refine steps_cons ?_ ?_
       ·rintro b a w' ⟨Af,adz_v473,m6_,ha,Q_HI0,Q_HK,Q_HB,Q_HO474,Q_HA_HO474,Q_HI0_e5,Q_X6_⟩ hb_ hon hoff
        refine⟨_,rfl,fun K hK=>?_⟩
        have Fa:a.tmps[37]?=some (.string Aa):=by rw [ha];exact(putSel_off rfl).trans rfl
        have Fb:a.tmps[38]?=some (.int .i64 Ab):=by rw [ha];exact(putSel_off rfl).trans rfl
        replace ha:=y0.mk ha
        have HK:=y0.mk Q_HK
        have HB:=y0.mk Q_HB
        refine value_ (w1:=w') (v:=.string (Aa.extract (Ab:Int).toNat Aa.size)) (by rfl) rfl ?_ ?_
        ·go_simp
         (try simp only [i64_w])
         try rfl
        refine hK.out _ _ ⟨Af,adz_v473,m6_,(by rw [ha.out];exact putSel_upk 6 hb_ rfl rfl rfl),Q_HI0,Q_HK,Q_HB,Q_HO474,Q_HA_HO474,Q_HI0_e5,Q_X6_⟩
       refine steps_cons ?_ ?_
       ·rintro b a w' ⟨Af,adz_v473,m6_,ha,Q_HI0,Q_HK,Q_HB,Q_HO474,Q_HA_HO474,Q_HI0_e5,Q_X6_⟩ hb_ hon hoff
        refine⟨_,rfl,fun K hK=>?_⟩
        have Fc:a.tmps[36]?=some (.string ((Aa.extract 0 (Ab:Int).toNat) ++ (rdOf ByteArray.empty Ae Ac))):=by rw [ha];exact putSel_on (e:=(8,36,.string ((Aa.extract 0 (Ab:Int).toNat) ++ (rdOf ByteArray.empty Ae Ac)))) 5 rfl rfl (hon 8 (by kernel_rfl)) rfl
        have Fd:a.tmps[39]?=some (.string (Aa.extract (Ab:Int).toNat Aa.size)):=by rw [ha];exact putSel_on (e:=(11,39,.string (Aa.extract (Ab:Int).toNat Aa.size))) 6 rfl rfl (hon 11 (by kernel_rfl)) rfl
        replace ha:=y0.mk ha
        have HK:=y0.mk Q_HK
        have HB:=y0.mk Q_HB
        have Ag:=y0.mk (Q_HO474 (hon 3 (by kernel_rfl)))
        have HA_HO474:=y0.mk (Q_HA_HO474 (hon 3 (by kernel_rfl)))
        have HI0:=y0.mk (Q_HI0_e5 (hon 5 (by kernel_rfl)))
        refine value_ (w1:=w') (v:=.string (((Aa.extract 0 (Ab:Int).toNat) ++ (rdOf ByteArray.empty Ae Ac)) ++ (Aa.extract (Ab:Int).toNat Aa.size))) (by rfl) rfl ?_ ?_
        ·go_simp
         (try simp only [i64_w])
         try first|rfl|(have hz_:=Cd;(try have hy20_:=of_eq_true c20b0);(try have hy21_:=of_eq_true Bi);(try have hy22_:=of_eq_true Bj);(try have hy23_:=of_eq_true c23b0);(try have hy24_:=of_eq_true Al);(try have hy25_:=of_eq_true Am);(try have hy26_:=of_eq_true Ao);(try simp only [ByteArray.size_append,ByteArray.size_extract]at hz_);omega)|(have hz_:=Ce;(try have hy23_:=of_eq_true c23b0);(try have hy24_:=of_eq_true Al);(try have hy25_:=of_eq_true Am);(try have hy26_:=of_eq_true Ao);(try have hy27_:=of_eq_true Bl);(try have hy28_:=of_eq_true Bm);(try have hy29_:=of_eq_true Bn);(try simp only [ByteArray.size_append,ByteArray.size_extract]at hz_);omega)|(have hz_:=Cf;(try have hy37_:=of_eq_true c37b0);(try have hy38_:=of_eq_true c38b0);(try have hy39_:=of_eq_true c39b0);(try have hy40_:=of_eq_true c40b0);(try have hy41_:=of_eq_true c41b0);(try have hy42_:=of_eq_true Aj);(try have hy43_:=of_eq_true Ap);(try simp only [ByteArray.size_append,ByteArray.size_extract]at hz_);omega)|(have hz_:=Cg;(try have hy38_:=of_eq_true c38b0);(try have hy39_:=of_eq_true c39b0);(try have hy40_:=of_eq_true c40b0);(try have hy41_:=of_eq_true c41b0);(try have hy42_:=of_eq_true Aj);(try have hy43_:=of_eq_true Ap);(try have hy44_:=of_eq_true Bp);(try simp only [ByteArray.size_append,ByteArray.size_extract]at hz_);omega)
        refine hK.out _ _ ⟨Af,adz_v473,m6_,(by rw [ha.out];exact putSel_upk 7 hb_ rfl rfl rfl),fun h0_=>absurd ((hon 5 (by kernel_rfl)).symm.trans h0_) (by decide),Q_HK,Q_HB,Q_HO474,Q_HA_HO474,Q_HI0_e5,Q_X6_⟩
       refine steps_cons ?_ ?_
       ·rintro b a w' ⟨Af,adz_v473,m6_,ha,Q_HI0,Q_HK,Q_HB,Q_HO474,Q_HA_HO474,Q_HI0_e5,Q_X6_⟩ hb_ hon hoff
        refine⟨_,rfl,fun K hK=>?_⟩
        have Fe:a.tmps[40]?=some (.string (((Aa.extract 0 (Ab:Int).toNat) ++ (rdOf ByteArray.empty Ae Ac)) ++ (Aa.extract (Ab:Int).toNat Aa.size))):=by rw [ha];exact putSel_on (e:=(12,40,.string (((Aa.extract 0 (Ab:Int).toNat) ++ (rdOf ByteArray.empty Ae Ac)) ++ (Aa.extract (Ab:Int).toNat Aa.size)))) 7 rfl rfl (hon 12 (by kernel_rfl)) rfl
        replace ha:=y0.mk ha
        have HK:=y0.mk Q_HK
        have HB:=y0.mk Q_HB
        have Ag:=y0.mk (Q_HO474 (hon 3 (by kernel_rfl)))
        have HA_HO474:=y0.mk (Q_HA_HO474 (hon 3 (by kernel_rfl)))
        have HI0:=y0.mk (Q_HI0_e5 (hon 5 (by kernel_rfl)))
        refine value_ (w1:=w') (v:=.string (((Aa.extract 0 (Ab:Int).toNat) ++ (rdOf ByteArray.empty Ae Ac)) ++ (Aa.extract (Ab:Int).toNat Aa.size))) (by rfl) rfl ?_ ?_
        ·go_simp
         (try simp only [i64_w])
         try first|rfl|(have hz_:=Cd;(try have hy20_:=of_eq_true c20b0);(try have hy21_:=of_eq_true Bi);(try have hy22_:=of_eq_true Bj);(try have hy23_:=of_eq_true c23b0);(try have hy24_:=of_eq_true Al);(try have hy25_:=of_eq_true Am);(try have hy26_:=of_eq_true Ao);(try simp only [ByteArray.size_append,ByteArray.size_extract]at hz_);omega)|(have hz_:=Ce;(try have hy23_:=of_eq_true c23b0);(try have hy24_:=of_eq_true Al);(try have hy25_:=of_eq_true Am);(try have hy26_:=of_eq_true Ao);(try have hy27_:=of_eq_true Bl);(try have hy28_:=of_eq_true Bm);(try have hy29_:=of_eq_true Bn);(try simp only [ByteArray.size_append,ByteArray.size_extract]at hz_);omega)|(have hz_:=Cf;(try have hy37_:=of_eq_true c37b0);(try have hy38_:=of_eq_true c38b0);(try have hy39_:=of_eq_true c39b0);(try have hy40_:=of_eq_true c40b0);(try have hy41_:=of_eq_true c41b0);(try have hy42_:=of_eq_true Aj);(try have hy43_:=of_eq_true Ap);(try simp only [ByteArray.size_append,ByteArray.size_extract]at hz_);omega)|(have hz_:=Cg;(try have hy38_:=of_eq_true c38b0);(try have hy39_:=of_eq_true c39b0);(try have hy40_:=of_eq_true c40b0);(try have hy41_:=of_eq_true c41b0);(try have hy42_:=of_eq_true Aj);(try have hy43_:=of_eq_true Ap);(try have hy44_:=of_eq_true Bp);(try simp only [ByteArray.size_append,ByteArray.size_extract]at hz_);omega)
        refine hK.out _ _ ⟨Af,adz_v473,m6_,(by rw [ha.out];exact putSel_upk 8 hb_ rfl rfl rfl),fun h0_=>absurd ((hon 5 (by kernel_rfl)).symm.trans h0_) (by decide),Q_HK,Q_HB,Q_HO474,Q_HA_HO474,Q_HI0_e5,Q_X6_⟩
       exact steps_nil
      rintro b a Ff hall ⟨Af,adz_v473,m6_,ha,Q_HI0,Q_HK,Q_HB,Q_HO474,Q_HA_HO474,Q_HI0_e5,Q_X6_⟩
      clear HB HI0 HK
      have hb2_:=hall 2 (by kernel_rfl)
      have hb3_:=hall 3 (by kernel_rfl)
      have hb5_:=hall 5 (by kernel_rfl)
      have hb6_:=hall 6 (by kernel_rfl)
      have hb7_:=hall 7 (by kernel_rfl)
      have hb8_:=hall 8 (by kernel_rfl)
      have hb11_:=hall 11 (by kernel_rfl)
      have hb12_:=hall 12 (by kernel_rfl)
      have hb13_:=hall 13 (by kernel_rfl)
      subst ha
      obtain rfl:=Q_X6_ hb6_
      simp only [putSel,hb2_,hb3_,hb5_,hb6_,hb7_,hb8_,hb11_,hb12_,hb13_,if_true,Act.put,qS_,qZ_,qC_]
      clear Q_HI0
      have HK:=y0.mk Q_HK
      clear Q_HK
      have HB:=y0.mk Q_HB
      clear Q_HB
      have Ag:=y0.mk (Q_HO474 hb3_)
      clear Q_HO474
      have HA_HO474:=y0.mk (Q_HA_HO474 hb3_)
      clear Q_HA_HO474
      have HI0:=y0.mk (Q_HI0_e5 hb5_)
      clear Q_HI0_e5
      clear hall hb2_ hb3_ hb5_ hb6_ hb7_ hb8_ hb11_ hb12_ hb13_
      obtain⟨Ek,Dd⟩:=HA_HO474.out
      clear HA_HO474
      subst Dd
      try go_wp2
      go_ret
      exact⟨qf,(y2.qj (w0:=w0) (g:=g)),y2.qbI,(qh (w:=w) (g:=g))⟩
     ·rw [if_neg Ca]at H
      have Bt:(Ah == 1)=false:=beq_eq_false_iff_ne.mpr Ca
      have Bu:(Ah != 1)=true:=bne_iff_ne.mpr Ca
      have H':=y0.mk H
      clear H
      go_wp2_with (first|((with_reducible refine y16 (f:=67) rfl ?_);refine y18 (some 11) rfl rfl Tryz.func67 (by kernel_rfl) rfl #[.pointer (some ⟨g,0,none⟩),.int .i64 5] rfl qy0 ?_;(with_reducible refine(spec_l01Cur_once.calls g Ad As At 5 true Ba Bb w0 _ (by repeat(first|(with_reducible first|exact HI0.out|apply y2.alloc|apply y2.drewN|apply y2.drew|apply y2.set_1|apply y2.set_2)|exact HI0.out)) (by repeat(first|(with_reducible first|exact HB.out|apply y4|apply y19|apply y5|refine y6 ?_ (y2.ge HI0.out))|exact HB.out)) A6.out).mono ?_);rintro e Fg ⟨rfl,hi,hb,hk⟩;refine⟨_,rfl, ?_⟩;replace HK:=y0.mk (y3.trans (qh (w:=w) (g:=g)) hk (.inl rfl));replace HB:=y0.mk (hb);replace HI0:=y0.mk (hi);(try clear hb hk hi))|((with_reducible refine y16 (f:=54) rfl ?_);refine y18 (some 13) rfl rfl Tryz.func54 (by kernel_rfl) rfl #[.pointer (some ⟨g,0,none⟩),.int .i64 3] rfl qy0 ?_;(with_reducible refine(z6_.calls g Ad Ba Bb 3 Ah Au Av w0 _ (by repeat(first|(with_reducible first|exact HI0.out|apply y2.alloc|apply y2.drewN|apply y2.drew|apply y2.set_1|apply y2.set_2)|exact HI0.out)) (by repeat(first|(with_reducible first|exact HB.out|apply y4|apply y19|apply y5|refine y6 ?_ (y2.ge HI0.out))|exact HB.out)) A8.out).mono ?_);rintro e Fh ⟨rfl,hi,hb,hk⟩;refine⟨_,rfl, ?_⟩;replace HK:=y0.mk (y3.trans (qh (w:=w) (g:=g)) hk (.inl rfl));replace HB:=y0.mk (hb);replace HI0:=y0.mk (hi);(try clear hb hk hi)))
      go_loopg [3] Df (fun kq v3 w'=>∃(Aa:ByteArray),v3=.string Aa∧y0 (spec_l01Cur_any.l0 kq Aa Ad Au Av=some (r1,r2,r3))∧y0 (kq≤Df)∧y0 (y2 w0 w' g Ad Au Av)∧y0 (y3 w w' g none)∧y0 (Below w0.heap.size w0 w'))
      case atStart=>exact⟨(Aa),qy2,H',⟨Nat.le_refl _⟩,⟨(y2.qj (w0:=w0) (g:=g))⟩,⟨(qh (w:=w) (g:=g))⟩,⟨y2.qbI⟩⟩
      case round =>
       clear H'
       (try clear c7 Ci Cj Bt Bu)
       obtain⟨Aa,rfl,HA,Dv,HI0,HK,HB⟩:=hrel
       cases gk with
       | zero=>exact absurd HA.out (by simp [spec_l01Cur_any.l0])
       | succ k2 =>
        have H:=HA.out
        clear HA
        simp only [spec_l01Cur_any.l0]at H
        by_cases Ch:(Aa.size:Int)≤200
        ·rw [if_pos Ch]at H
         have Aj:=decide_eq_true Ch
         have Cp:decide (Aa.size≤200)=true:=decide_eq_true (by omega)
         clear Ch
         obtain⟨Cf,H⟩:=qo H
         have Ap:=eq_true Cf
         have Dw:=decide_eq_true Cf
         have Dx:=eq_false (Nat.not_lt.2 Cf)
         obtain⟨Cg,H⟩:=qo H
         have Bp:=eq_true Cg
         have Dy:=decide_eq_true Cg
         have Cq:=eq_false (Nat.not_lt.2 Cg)
         have Dz:(9223372036854775807 < 2 + Aa.size + 1)=False:=qs Cq
         have H':=y0.mk H
         clear H
         go_wp2
         go_roundg k2
         case measure=>have:=De.out;have:=Dv.out;omega
         exact⟨(((⟨#[83,40]⟩:ByteArray) ++ Aa) ++ (⟨#[41]⟩:ByteArray)),qy2,H',⟨by have:=De.out;have:=Dv.out;omega⟩,⟨(y2.qj (w0:=w0) (g:=g))⟩,⟨(qh (w:=w) (g:=g))⟩,⟨y2.qbI⟩⟩
        ·rw [if_neg Ch]at H
         have Aj:=decide_eq_false Ch
         have Cp:decide (Aa.size≤200)=false:=decide_eq_false (by omega)
         clear Ch
         simp only [Option.some.injEq,Prod.mk.injEq]at H
         obtain⟨rfl,rfl,rfl⟩:=H
         go_wp2
         go_ret
         exact⟨qf,(y2.qj (w0:=w0) (g:=g)),y2.qbI,(qh (w:=w) (g:=g))⟩
   ·replace c7:=Bool.eq_false_iff.mpr c7
    subst c7
    replace H:=qF H
    simp only [Option.some.injEq,Prod.mk.injEq]at H
    obtain⟨rfl,rfl,rfl⟩:=H
    go_wp2_with (first|((with_reducible refine y16 (f:=67) rfl ?_);refine y18 (some 11) rfl rfl Tryz.func67 (by kernel_rfl) rfl #[.pointer (some ⟨g,0,none⟩),.int .i64 5] rfl qy0 ?_;(with_reducible refine(spec_l01Cur_once.calls g Ad As At 5 false Ba Bb w0 _ (by repeat(first|(with_reducible first|exact HI0.out|apply y2.alloc|apply y2.drewN|apply y2.drew|apply y2.set_1|apply y2.set_2)|exact HI0.out)) (by repeat(first|(with_reducible first|exact HB.out|apply y4|apply y19|apply y5|refine y6 ?_ (y2.ge HI0.out))|exact HB.out)) A6.out).mono ?_);rintro e Fi ⟨rfl,hi,hb,hk⟩;refine⟨_,rfl, ?_⟩;replace HK:=y0.mk (y3.trans (qh (w:=w) (g:=g)) hk (.inl rfl));replace HB:=y0.mk (hb);replace HI0:=y0.mk (hi);(try clear hb hk hi)))
    go_ret
    exact⟨qf,(y2.qj (w0:=w0) (g:=g)),y2.qbI,(qh (w:=w) (g:=g))⟩
end Go.Proofs.YtkajecadkkgfmaaGreatDoor.Pn
end
section
namespace Go.Proofs.YtkajecadkkgfmaaGreatDoor.Pn
open Go.RowKit Go.Proofs.YtkajecadkkgfmaaGreatDoorW.PrintWords Go.Proofs.YtkajecadkkgfmaaGreatDoorW.PrintLast Go.Proofs.YtkajecadkkgfmaaGreatDoorW.PrintMore
attribute [local go_sem] max2_int min2_int max_two min_two max_three min_three max_four min_four   -- for this text's walks alone
set_option linter.unusedVariables false
set_option linter.unusedSimpArgs false
def z9_.l0:Nat→Int→Int→List Int→Int→Int→List ByteArray→Option (List ByteArray×Int×Int)
 | 0,_,_,_,_,_,_=>none
 | k + 1,x1,x6,x1000,x1001,x1002,x481000=>if x6 < x1 then((z8_.f k x1000 x1001 x1002 1).bind fun bt481=>(if x481000.length < 8796093022208 then(z9_.l0 k x1 (wrap64 (x6 + 1)) x1000 bt481.2.1 bt481.2.2 (x481000 ++ [bt481.1]))else(none)))else((spec_l01Cur_once.f x1000 x1001 x1002 20).bind fun bt487=>(if bt487.1=true then((spec_l01Cur_any.f k x1000 bt487.2.1 bt487.2.2).bind fun bt490=>(if x481000.length < 8796093022208 then(some ((x481000 ++ [bt490.1]),bt490.2.1,bt490.2.2))else(none)))else(some (x481000,bt487.2.1,bt487.2.2))))
def z9_.f (k:Nat) (s0_0:List Int) (s0_1:Int) (s0_2:Int) (a1:Int):Option (List ByteArray×Int×Int):=z9_.l0 k a1 0 s0_0 s0_1 s0_2 ([]:List ByteArray)
def z9_.T5:Bool×List (List Nat×List Nat):=(true,[([],[]),([0],[0]),([],[]),([2],[2]),([3],[3]),([1,4,3],[1,4]),([0,1,2,3,4,5],[]),([6,5,5,0,1,2,3,4,5],[5,6])])
def z9_.B5:List Nat:=[0,1,0,4,12,31,63,127]
theorem z9_.tab5:rtab .any (opsOf Tryz.f59 5)=z9_.T5:=by kernel_rfl
theorem z9_.bits5:waitsOk z9_.T5.2 z9_.B5=true:=by kernel_rfl
def z9_.T7:Bool×List (List Nat×List Nat):=(true,[([],[]),([0],[0]),([],[]),([2],[2]),([3],[3]),([1,4,3],[1,4]),([0,1,2,3,4,5],[]),([6,5,5,0,1,2,3,4,5],[5,6])])
def z9_.B7:List Nat:=[0,1,0,4,12,31,63,127]
theorem z9_.tab7:rtab .any (opsOf Tryz.f59 7)=z9_.T7:=by kernel_rfl
theorem z9_.bits7:waitsOk z9_.T7.2 z9_.B7=true:=by kernel_rfl
set_option maxHeartbeats 8000000 in
set_option maxRecDepth 100000 in
theorem z9_.calls (k:Nat) (g:Nat) (Ak:List Int) (As:Int) (At:Int) (a1:Int) (r1:List ByteArray) (r2:Int) (r3:Int) (w0 w:World) (hI:y2 w0 w g Ak As At) (hB:Below w0.heap.size w0 w) (h:z9_.f k Ak As At a1=some (r1,r2,r3)) :
  Calls Tryz.prog 59 #[.pointer (some ⟨g,0,none⟩),.int .i64 a1] w fun e w'=>∃ v0_:Value,e=.returned (.agg #[v0_])∧Kd.R Kd.string 9 w' w.heap.size (fun _=>True) v0_ r1∧y2 w0 w' g Ak r2 r3∧Below w0.heap.size w0 w'∧y3 w w' g none:=by
 have Dl:=Tryz.underlying36
 have HI0:=y0.mk hI
 have HK:=y0.mk (y3.refl w g none)
 have HL:=y0.mk hB.size
 clear hI
 have Cq:=y0.mk hB.size
 have HB:=y0.mk hB
 clear hB
 have H:(z9_.l0 k a1 0 Ak As At ([]:List ByteArray))=some (r1,r2,r3):=h
 clear h
 have H':=y0.mk H
 clear H
 go_enter Tryz.func59,Tryz.ntmps59
 go_wp2_with (first|((with_reducible refine y17 (N:=4) rfl ?_);refine qe 4 #[.slice none 0 0] 36 ?_;intro Aj hg w3 hbox hb;replace HB:=y0.mk (y8 y2.qbI hb);have Ac:=y0.mk (hbox);have Cr:=y0.mk ((by rw [hg];exact(keep_size (w:=w) (g:=g) (row:=none) (qh (w:=w) (g:=g))):w.heap.size≤Aj));have Ax:=y0.mk ((Nat.le_trans Cq.out (by rw [hg];exact(keep_size (w:=w) (g:=g) (row:=none) (qh (w:=w) (g:=g))):w.heap.size≤Aj):w0.heap.size≤Aj));replace HK:=y0.mk (y3.trans (qh (w:=w) (g:=g)) (y3.of_below hb g none) (.inl rfl));have Ap:=y0.mk ((by rw [hg];exact Nat.ne_of_lt (y2.lt (show y2 w0 _ g Ak As At from(y2.qj (w0:=w0) (g:=g)))):g≠Aj));have Aq:=y0.mk ((by rw [hg];exact Nat.ne_of_gt (y2.lt (show y2 w0 _ g Ak As At from(y2.qj (w0:=w0) (g:=g)))):Aj≠g));replace HI0:=y0.mk (y2.below (y2.qj (w0:=w0) (g:=g)) hb);clear hb hbox hg)|((with_reducible refine y17 (N:=5) rfl ?_);refine qe 5 #[.slice none 0 0] 36 ?_;intro Ag hg w4 hbox hb;replace HB:=y0.mk (y8 y2.qbI hb);have Ab:=y0.mk (hbox);have Cs:=y0.mk ((by rw [hg];exact(keep_size (w:=w) (g:=g) (row:=none) (qh (w:=w) (g:=g))):w.heap.size≤Ag));have Ay:=y0.mk ((Nat.le_trans Cq.out (by rw [hg];exact(keep_size (w:=w) (g:=g) (row:=none) (qh (w:=w) (g:=g))):w.heap.size≤Ag):w0.heap.size≤Ag));replace HK:=y0.mk (y3.trans (qh (w:=w) (g:=g)) (y3.of_below hb g none) (.inl rfl));have Af:=y0.mk (qn Ac.out hg);have Al:=y0.mk (qm Ac.out hg);replace Ac:=y0.mk (qK Ac.out hb);have Am:=y0.mk ((by rw [hg];exact Nat.ne_of_lt (y2.lt (show y2 w0 _ g Ak As At from(y2.qj (w0:=w0) (g:=g)))):g≠Ag));have Ao:=y0.mk ((by rw [hg];exact Nat.ne_of_gt (y2.lt (show y2 w0 _ g Ak As At from(y2.qj (w0:=w0) (g:=g)))):Ag≠g));replace HI0:=y0.mk (y2.below (y2.qj (w0:=w0) (g:=g)) hb);clear hb hbox hg;have Dm:=Al.out;have Dn:=Af.out;have Do:=Ao.out;have Dp:=Am.out;obtain⟨Bj,Bk⟩:=qz1 Ab.out))
 go_loopg [6] k (fun kq v6 w'=>∃(Aw:Int) (Ah:Int) (Ai:Int) (Ad:List ByteArray) (Ae:Value),v6=.int .i64 Aw∧y0 (z9_.l0 kq a1 Aw Ak Ah Ai Ad=some (r1,r2,r3))∧y0 (kq≤k)∧y0 (Kd.R Kd.string 9 w' w.heap.size (fun _=>True) Ae Ad)∧y0 (w'.heap[Aj]?=some (.cells #[(.slice none 0 0)] 36 (0,0)))∧y0 (w'.heap[Ag]?=some (.cells #[Ae] 36 (0,0)))∧y0 (y2 w0 w' g Ak Ah Ai)∧y0 (y3 w w' g none)∧y0 (Below w0.heap.size w0 w'))
 case atStart=>exact⟨(0),(As),(At),(([]:List ByteArray)),(.slice none 0 0),qy2,H',⟨Nat.le_refl _⟩,⟨by first|exact Kd.R_nil _ _ _ _ _|exact Kd.N_nil _ _ _ _ _|exact Kd.V_nil _ _ _ _ _|exact Kd.Q_nil _ _ _ _ _|exact Kd.S_nil _ _ _ _ _⟩,⟨by(with_reducible repeat(first|refine y12 ?_ _|refine y11 ?_|refine y9 ?_ _));refine blk_far ?_ Af.out _;(with_reducible repeat(first|refine y12 ?_ _|refine y11 ?_|refine y9 ?_ _));exact Ac.out⟩,⟨by(with_reducible repeat(first|refine y12 ?_ _|refine y11 ?_|refine y9 ?_ _));refine y13 (cs:=#[.slice none 0 0]) ?_ 0 _ rfl;(with_reducible repeat(first|refine y12 ?_ _|refine y11 ?_|refine y9 ?_ _));exact Ab.out⟩,⟨(y2.qj (w0:=w0) (g:=g))⟩,⟨(qh (w:=w) (g:=g))⟩,⟨y2.qbI⟩⟩
 case round =>
  clear H'
  (try clear Bj Bk)
  obtain⟨Aw,Ah,Ai,Ad,Ae,rfl,HA,Ct,Aa,Ac,Ab,HI0,HK,HB⟩:=hrel
  cases gk with
  | zero=>exact absurd HA.out (by simp [z9_.l0])
  | succ k1 =>
   have H:=HA.out
   clear HA
   simp only [z9_.l0]at H
   by_cases c8:Aw < a1
   ·rw [if_pos c8]at H
    have Cn:=decide_eq_true c8
    clear c8
    obtain⟨⟨Az,Bb,Bc⟩,A9,H⟩:=qB H
    replace H:(if Ad.length < 8796093022208 then(z9_.l0 k1 a1 (wrap64 (Aw + 1)) Ak Bb Bc (Ad ++ [Az]))else(none))=some (r1,r2,r3):=H
    obtain⟨Cu,H⟩:=qo H
    have Bp:=y0.mk Cu
    clear Cu
    obtain⟨Bd,Au⟩:∃ y_:List ByteArray,y_=(Ad ++ [Az]):=⟨_,rfl⟩
    replace H:(z9_.l0 k1 a1 (wrap64 (Aw + 1)) Ak Bb Bc Bd)=some (r1,r2,r3):=by first|(rw [Au];with_reducible exact H)|(have H2_:=(Option.bind_some _ _).symm.trans H;rw [Au];with_reducible exact H2_)|(have H2_:=(Option.bind_some _ _).symm.trans H;with_reducible exact H2_)|with_reducible exact H|(rw [Au];exact H)|exact H
    have Bq:=y0.mk Au
    clear Au
    have H':=y0.mk H
    clear H
    try go_wp2
    replace Aa:=y0.mk (Kd.R_drew Aa.out)
    replace Ac:=y0.mk (y11 Ac.out)
    replace Ab:=y0.mk (y11 Ab.out)
    replace HI0:=y0.mk (y2.drew HI0.out)
    replace HK:=y0.mk (keep_drew HK.out)
    replace HB:=y0.mk (y5 HB.out)
    refine start_ (n:=8) (S:=fun w'=>w'.cell? ⟨Ag,0,none⟩=some (Ae)) (ds:=[7]) (fl_ 8 0) (by kernel_rfl) rfl rfl ((y10 Ab.out 0).trans rfl) (fun hHeld=>?_);refine with_tabW z9_.tab5 z9_.bits5 (fun HT_ HW_=>?_)
    generalize wr.drew=Dy at Aa Ac Ab HI0 HK HB hHeld ⊢
    refine qp 0 13 (fl_ 8 1) ?_
    refine qp 2 15 (fl_ 8 5) ?_
    refine qt 1 14 (fl_ 8 7) hHeld ?_
    refine qO 3 16 (fl_ 8 15) (fun K hK=>?_)
    refine goes_ Tryz.func84 (by kernel_rfl) rfl #[.pointer (some ⟨g,0,none⟩),.int .i64 1] (by rfl) rfl rfl qy0 ?_
    with_reducible refine(z8_.calls k1 g Ak Ah Ai 1 Az Bb Bc w0 _ (by repeat(first|(with_reducible first|exact HI0.out|apply y2.alloc|apply y2.drewN|apply y2.drew|apply y2.set_1|apply y2.set_2|refine y2.far ?_ Ap.out _|refine y2.far ?_ Am.out _)|exact HI0.out)) (by repeat(first|(with_reducible first|exact HB.out|apply y4|apply y19|apply y5|refine y6 ?_ (y2.ge HI0.out)|refine y6 ?_ Ax.out|refine y6 ?_ Ay.out)|exact HB.out)) A9.out).mono ?_
    rintro e Dz ⟨rfl,hi,hb,hk⟩
    refine⟨_,rfl, ?_⟩
    replace Aa:=y0.mk (Kd.R_mono (Kd.R_keep (y2.apart (show y2 w0 _ g Ak Ah Ai from(y2.qj (w0:=w0) (g:=g))) (qR Aa.out) (by decide)) hk (fun _ h=>h.2)) (fun _ h=>h.1))
    replace Ac:=y0.mk (y3.blk hk (g':=Aj) (o:=.cells #[.slice none 0 0] 36 (0,0)) (qk Ac.out) Aq.out (by simp))
    replace Ab:=y0.mk (y3.blk hk (g':=Ag) (o:=.cells #[Ae] 36 (0,0)) (qk Ab.out) Ao.out (by simp))
    replace HK:=y0.mk (y3.trans (qh (w:=w) (g:=g)) hk (.inl rfl))
    replace HB:=y0.mk (hb)
    replace HI0:=y0.mk (hi)
    (try clear hb hk hi)
    refine hK.out _ _ ((y10 Ab.out 0).trans rfl) (fun hHeld=>?_)
    clear hK K
    refine qx 16 ?_
    refine qO 4 17 (fl_ 8 31) (fun K hK=>?_)
    refine value_ (w1:=?_) (v:=?_) (by rfl) rfl ?_ ?_
    rotate_left 2
    ·go_simp
     constructor
     ·rfl
     ·rfl
    refine hK.out _ _ ((y10 (y9 Ab.out _) 0).trans rfl) (fun hHeld=>?_)
    clear hK K
    refine qx 17 ?_
    refine qO 5 18 (fl_ 8 63) (fun K hK=>?_)
    refine Kd.R_append_step Kd.string w.heap.size (by rfl) (.tmp 14) (.tmp 17) 25 9 (.string ⟨#[]⟩) 16 rfl Tryz.underlying25 info9 rfl (by decide) (by omega) Ae Ad Az [.string Az] (fun _=>True) (fun _=>False) rfl rfl ?aP (fun _ hk=>hk.elim) ?aF ?aO (Below.refl _ _) ?aS ?aL ?_
    (case aP=>exact rfl)
    (case aF=>exact(fun _ _=>trivial))
    (case aO=>exact(qR Aa.out))
    (case aS=>exact(keep_size (w:=w) (g:=g) (row:=none) (qh (w:=w) (g:=g))))
    (case aL=>have:=Bp.out;omega)
    intro Dq Dr ho hb hg hat
    rw [← Bq.out]at ho
    replace Ac:=y0.mk (blk_grown (qk Ac.out) hg (Kd.R_ne Aa.out Ac.out (by decide)))
    replace Ab:=y0.mk (blk_grown (qk Ab.out) hg (Kd.R_ne Aa.out Ab.out (by decide)))
    replace HI0:=y0.mk (y2.grown (y2.qj (w0:=w0) (g:=g)) hg (y2.own_ne HI0.out Aa.out (by decide)))
    replace HB:=y0.mk (below_weaken y2.qbI HL.out hb)
    replace HK:=y0.mk (y3.trans (qh (w:=w) (g:=g)) (y3.of_grown hg g) (Kd.R_base2 Aa.out))
    have Bh:=y0.mk (ho)
    clear Aa
    clear ho hb hg hat
    obtain⟨Br,Bs,Bt⟩:=Kd.R_slice Bh.out
    (first|subst Bt|(injection Bt with f1_ f2_ f3_;have f4_:=f1_.symm;have f5_:=f3_.symm;clear f1_ f2_ f3_;subst f4_;subst f5_))
    refine hK.out _ _ ((y10 Ab.out 0).trans rfl) (fun hHeld=>?_)
    clear hK K
    refine qx 18 ?_
    refine qp 6 19 (fl_ 8 127) ?_
    refine last_ (i:=7) (N:=none) (fl_ 8 255) rfl rfl (one_of HT_.out (by kernel_rfl)) (by decide) (fun K hK=>?_)
    have Ds:Dr.cell? ⟨Ag,0,none⟩=some (Ae):=(y10 Ab.out 0).trans rfl
    have Cv:=blk_frozen Ab.out 0
    have Ca:=Af.out
    have Cb:=Al.out
    refine skip_ (w1:=?_) (by rfl) rfl ?_ ?_
    rotate_left
    ·go_simp
     rfl
    refine hK.out _ _ ?_
    clear hK K
    refine done_ (done_of HT_.out (by kernel_rfl)) ?_
    try go_wp2
    go_roundg k1
    case measure=>have:=Ct.out;omega
    exact⟨(wrap64 (Aw + 1)),(Bb),(Bc),(Bd),(.slice Br Bd.length Bs),qy2,H',⟨by have:=Ct.out;omega⟩,⟨qR (Kd.R_mono (Kd.R_far (p:=⟨Ag,0,none⟩) (Kd.R_types Bh.out Ab.out (by decide)) (fun _ hk=>hk.2) (.slice Br Bd.length Bs)) (fun _ hk=>trivial))⟩,⟨by(with_reducible repeat(first|refine y12 ?_ _|refine y11 ?_|refine y9 ?_ _));refine blk_far ?_ Af.out _;(with_reducible repeat(first|refine y12 ?_ _|refine y11 ?_|refine y9 ?_ _));exact Ac.out⟩,⟨by(with_reducible repeat(first|refine y12 ?_ _|refine y11 ?_|refine y9 ?_ _));refine y13 (cs:=#[Ae]) ?_ 0 _ rfl;(with_reducible repeat(first|refine y12 ?_ _|refine y11 ?_|refine y9 ?_ _));exact Ab.out⟩,⟨(y2.qj (w0:=w0) (g:=g))⟩,⟨(qh (w:=w) (g:=g))⟩,⟨y2.qbI⟩⟩
   ·rw [if_neg c8]at H
    have Cn:=decide_eq_false c8
    clear c8
    obtain⟨⟨Co,Be,Bf⟩,Cw,H⟩:=qB H
    dsimp only at H
    by_cases Cc:Co=true
    ·subst Cc
     replace H:=qT H
     obtain⟨⟨Ba,Bl,Bm⟩,Dt,H⟩:=qB H
     replace H:(if Ad.length < 8796093022208 then(some ((Ad ++ [Ba]),Bl,Bm))else(none))=some (r1,r2,r3):=H
     obtain⟨Cx,H⟩:=qo H
     have Bu:=y0.mk Cx
     clear Cx
     obtain⟨Bg,Av⟩:∃ y_:List ByteArray,y_=(Ad ++ [Ba]):=⟨_,rfl⟩
     replace H:(some (Bg,Bl,Bm))=some (r1,r2,r3):=by first|(rw [Av];with_reducible exact H)|(have H2_:=(Option.bind_some _ _).symm.trans H;rw [Av];with_reducible exact H2_)|(have H2_:=(Option.bind_some _ _).symm.trans H;with_reducible exact H2_)|with_reducible exact H|(rw [Av];exact H)|exact H
     have Bv:=y0.mk Av
     clear Av
     simp only [Option.some.injEq,Prod.mk.injEq]at H
     obtain⟨rfl,rfl,rfl⟩:=H
     try go_wp2_with (first|((with_reducible refine y16 (f:=67) rfl ?_);refine y18 (some 21) rfl rfl Tryz.func67 (by kernel_rfl) rfl #[.pointer (some ⟨g,0,none⟩),.int .i64 20] rfl qy0 ?_;(with_reducible refine(spec_l01Cur_once.calls g Ak Ah Ai 20 true Be Bf w0 _ (by repeat(first|(with_reducible first|exact HI0.out|apply y2.alloc|apply y2.drewN|apply y2.drew|apply y2.set_1|apply y2.set_2|refine y2.far ?_ Ap.out _|refine y2.far ?_ Am.out _)|exact HI0.out)) (by repeat(first|(with_reducible first|exact HB.out|apply y4|apply y19|apply y5|refine y6 ?_ (y2.ge HI0.out)|refine y6 ?_ Ax.out|refine y6 ?_ Ay.out)|exact HB.out)) Cw.out).mono ?_);rintro e Du ⟨rfl,hi,hb,hk⟩;refine⟨_,rfl, ?_⟩;replace Aa:=y0.mk (Kd.R_mono (Kd.R_keep (y2.apart (show y2 w0 _ g Ak Ah Ai from(y2.qj (w0:=w0) (g:=g))) (qR Aa.out) (by decide)) hk (fun _ h=>h.2)) (fun _ h=>h.1));replace Ac:=y0.mk (y3.blk hk (g':=Aj) (o:=.cells #[.slice none 0 0] 36 (0,0)) (qk Ac.out) Aq.out (by simp));replace Ab:=y0.mk (y3.blk hk (g':=Ag) (o:=.cells #[Ae] 36 (0,0)) (qk Ab.out) Ao.out (by simp));replace HK:=y0.mk (y3.trans (qh (w:=w) (g:=g)) hk (.inl rfl));replace HB:=y0.mk (hb);replace HI0:=y0.mk (hi);(try clear hb hk hi)))
     replace Aa:=y0.mk (Kd.R_drew Aa.out)
     replace Ac:=y0.mk (y11 Ac.out)
     replace Ab:=y0.mk (y11 Ab.out)
     replace HI0:=y0.mk (y2.drew HI0.out)
     replace HK:=y0.mk (keep_drew HK.out)
     replace HB:=y0.mk (y5 HB.out)
     refine start_ (n:=8) (S:=fun w'=>w'.cell? ⟨Ag,0,none⟩=some (Ae)) (ds:=[7]) (fl_ 8 0) (by kernel_rfl) rfl rfl ((y10 Ab.out 0).trans rfl) (fun hHeld=>?_);refine with_tabW z9_.tab7 z9_.bits7 (fun HT_ HW_=>?_)
     generalize Du.drew=Ea at Aa Ac Ab HI0 HK HB hHeld ⊢
     refine qp 0 22 (fl_ 8 1) ?_
     refine qp 2 24 (fl_ 8 5) ?_
     refine qt 1 23 (fl_ 8 7) hHeld ?_
     refine qO 3 25 (fl_ 8 15) (fun K hK=>?_)
     refine goes_ Tryz.func85 (by kernel_rfl) rfl #[.pointer (some ⟨g,0,none⟩)] (by rfl) rfl rfl qy0 ?_
     with_reducible refine(spec_l01Cur_any.calls k1 g Ak Be Bf Ba Bl Bm w0 _ (by repeat(first|(with_reducible first|exact HI0.out|apply y2.alloc|apply y2.drewN|apply y2.drew|apply y2.set_1|apply y2.set_2|refine y2.far ?_ Ap.out _|refine y2.far ?_ Am.out _)|exact HI0.out)) (by repeat(first|(with_reducible first|exact HB.out|apply y4|apply y19|apply y5|refine y6 ?_ (y2.ge HI0.out)|refine y6 ?_ Ax.out|refine y6 ?_ Ay.out)|exact HB.out)) Dt.out).mono ?_
     rintro e Eb ⟨rfl,hi,hb,hk⟩
     refine⟨_,rfl, ?_⟩
     replace Aa:=y0.mk (Kd.R_mono (Kd.R_keep (y2.apart (show y2 w0 _ g Ak Be Bf from(y2.qj (w0:=w0) (g:=g))) (qR Aa.out) (by decide)) hk (fun _ h=>h.2)) (fun _ h=>h.1))
     replace Ac:=y0.mk (y3.blk hk (g':=Aj) (o:=.cells #[.slice none 0 0] 36 (0,0)) (qk Ac.out) Aq.out (by simp))
     replace Ab:=y0.mk (y3.blk hk (g':=Ag) (o:=.cells #[Ae] 36 (0,0)) (qk Ab.out) Ao.out (by simp))
     replace HK:=y0.mk (y3.trans (qh (w:=w) (g:=g)) hk (.inl rfl))
     replace HB:=y0.mk (hb)
     replace HI0:=y0.mk (hi)
     (try clear hb hk hi)
     refine hK.out _ _ ((y10 Ab.out 0).trans rfl) (fun hHeld=>?_)
     clear hK K
     refine qx 25 ?_
     refine qO 4 26 (fl_ 8 31) (fun K hK=>?_)
     refine value_ (w1:=?_) (v:=?_) (by rfl) rfl ?_ ?_
     rotate_left 2
     ·go_simp
      constructor
      ·rfl
      ·rfl
     refine hK.out _ _ ((y10 (y9 Ab.out _) 0).trans rfl) (fun hHeld=>?_)
     clear hK K
     refine qx 26 ?_
     refine qO 5 27 (fl_ 8 63) (fun K hK=>?_)
     refine Kd.R_append_step Kd.string w.heap.size (by rfl) (.tmp 23) (.tmp 26) 25 9 (.string ⟨#[]⟩) 16 rfl Tryz.underlying25 info9 rfl (by decide) (by omega) Ae Ad Ba [.string Ba] (fun _=>True) (fun _=>False) rfl rfl ?aP (fun _ hk=>hk.elim) ?aF ?aO (Below.refl _ _) ?aS ?aL ?_
     (case aP=>exact rfl)
     (case aF=>exact(fun _ _=>trivial))
     (case aO=>exact(qR Aa.out))
     (case aS=>exact(keep_size (w:=w) (g:=g) (row:=none) (qh (w:=w) (g:=g))))
     (case aL=>have:=Bu.out;omega)
     intro Dv Dw ho hb hg hat
     rw [← Bv.out]at ho
     replace Ac:=y0.mk (blk_grown (qk Ac.out) hg (Kd.R_ne Aa.out Ac.out (by decide)))
     replace Ab:=y0.mk (blk_grown (qk Ab.out) hg (Kd.R_ne Aa.out Ab.out (by decide)))
     replace HI0:=y0.mk (y2.grown (y2.qj (w0:=w0) (g:=g)) hg (y2.own_ne HI0.out Aa.out (by decide)))
     replace HB:=y0.mk (below_weaken y2.qbI HL.out hb)
     replace HK:=y0.mk (y3.trans (qh (w:=w) (g:=g)) (y3.of_grown hg g) (Kd.R_base2 Aa.out))
     have Bi:=y0.mk (ho)
     clear Aa
     clear ho hb hg hat
     obtain⟨Bn,Bo,Bw⟩:=Kd.R_slice Bi.out
     (first|subst Bw|(injection Bw with f1_ f2_ f3_;have f4_:=f1_.symm;have f5_:=f3_.symm;clear f1_ f2_ f3_;subst f4_;subst f5_))
     refine hK.out _ _ ((y10 Ab.out 0).trans rfl) (fun hHeld=>?_)
     clear hK K
     refine qx 27 ?_
     refine qp 6 28 (fl_ 8 127) ?_
     refine last_ (i:=7) (N:=none) (fl_ 8 255) rfl rfl (one_of HT_.out (by kernel_rfl)) (by decide) (fun K hK=>?_)
     have Dx:Dw.cell? ⟨Ag,0,none⟩=some (Ae):=(y10 Ab.out 0).trans rfl
     have Cy:=blk_frozen Ab.out 0
     have Cd:=Af.out
     have Ce:=Al.out
     refine skip_ (w1:=?_) (by rfl) rfl ?_ ?_
     rotate_left
     ·go_simp
      rfl
     refine hK.out _ _ ?_
     clear hK K
     refine done_ (done_of HT_.out (by kernel_rfl)) ?_
     have Cz:=Al.out
     have Da:=Af.out
     have Db:=Ao.out
     have Dc:=Am.out
     obtain⟨Cf,Cg⟩:=qz1 Ab.out
     have Dd:=Aq.out
     have De:=Ap.out
     obtain⟨Ch,Ci⟩:=qz1 Ac.out
     try go_wp2
     refine bodyPost_ret (results_cell_row rfl _ _ Aj 36 #[.slice Bn Bg.length Bo] (0,0) _ rfl (by(with_reducible repeat(first|refine y12 ?_ _|refine y11 ?_|refine y9 ?_ _));refine y13 (cs:=#[.slice none 0 0]) ?_ 0 _ rfl;(with_reducible repeat(first|refine y12 ?_ _|refine y11 ?_|refine y9 ?_ _));refine blk_far ?_ Af.out _;(with_reducible repeat(first|refine y12 ?_ _|refine y11 ?_|refine y9 ?_ _));exact Ac.out) Tryz.underlying36 rfl (by kernel_rfl)) rfl ?_
     exact⟨_,by first|rfl|(simp [y14,y15] <;> rfl)|(simp [*,y14,y15] <;> rfl),by(with_reducible repeat(first|apply Kd.R_alloc|apply Kd.R_drewN|apply Kd.R_drew));exact Kd.R_mono (Kd.R_far (p:=⟨Aj,0,none⟩) (Kd.R_far (p:=⟨Ag,0,none⟩) (Kd.R_types (Kd.R_types Bi.out Ab.out (by decide)) Ac.out (by decide)) (fun _ hk=>hk.1.2) (.slice Bn Bg.length Bo)) (fun _ hk=>hk.2) (.slice Bn Bg.length Bo)) (fun _ hk=>trivial),(y2.qj (w0:=w0) (g:=g)),y2.qbI,(qh (w:=w) (g:=g))⟩
    ·replace Cc:=Bool.eq_false_iff.mpr Cc
     subst Cc
     replace H:=qF H
     simp only [Option.some.injEq,Prod.mk.injEq]at H
     obtain⟨rfl,rfl,rfl⟩:=H
     go_wp2_with (first|((with_reducible refine y16 (f:=67) rfl ?_);refine y18 (some 21) rfl rfl Tryz.func67 (by kernel_rfl) rfl #[.pointer (some ⟨g,0,none⟩),.int .i64 20] rfl qy0 ?_;(with_reducible refine(spec_l01Cur_once.calls g Ak Ah Ai 20 false Be Bf w0 _ (by repeat(first|(with_reducible first|exact HI0.out|apply y2.alloc|apply y2.drewN|apply y2.drew|apply y2.set_1|apply y2.set_2|refine y2.far ?_ Ap.out _|refine y2.far ?_ Am.out _)|exact HI0.out)) (by repeat(first|(with_reducible first|exact HB.out|apply y4|apply y19|apply y5|refine y6 ?_ (y2.ge HI0.out)|refine y6 ?_ Ax.out|refine y6 ?_ Ay.out)|exact HB.out)) Cw.out).mono ?_);rintro e Ec ⟨rfl,hi,hb,hk⟩;refine⟨_,rfl, ?_⟩;replace Aa:=y0.mk (Kd.R_mono (Kd.R_keep (y2.apart (show y2 w0 _ g Ak Ah Ai from(y2.qj (w0:=w0) (g:=g))) (qR Aa.out) (by decide)) hk (fun _ h=>h.2)) (fun _ h=>h.1));replace Ac:=y0.mk (y3.blk hk (g':=Aj) (o:=.cells #[.slice none 0 0] 36 (0,0)) (qk Ac.out) Aq.out (by simp));replace Ab:=y0.mk (y3.blk hk (g':=Ag) (o:=.cells #[Ae] 36 (0,0)) (qk Ab.out) Ao.out (by simp));replace HK:=y0.mk (y3.trans (qh (w:=w) (g:=g)) hk (.inl rfl));replace HB:=y0.mk (hb);replace HI0:=y0.mk (hi);(try clear hb hk hi);have Df:=Al.out;have Dg:=Af.out;have Dh:=Ao.out;have Di:=Am.out;obtain⟨Cj,Ck⟩:=qz1 Ab.out;obtain⟨Bx,Bz,Cp⟩:=Kd.R_slice Aa.out;subst Cp;have Dj:=Aq.out;have Dk:=Ap.out;obtain⟨Cl,Cm⟩:=qz1 Ac.out))
     refine bodyPost_ret (results_cell_row rfl _ _ Aj 36 #[.slice Bx Ad.length Bz] (0,0) _ rfl (by(with_reducible repeat(first|refine y12 ?_ _|refine y11 ?_|refine y9 ?_ _));refine y13 (cs:=#[.slice none 0 0]) ?_ 0 _ rfl;(with_reducible repeat(first|refine y12 ?_ _|refine y11 ?_|refine y9 ?_ _));exact Ac.out) Tryz.underlying36 rfl (by kernel_rfl)) rfl ?_
     exact⟨_,by first|rfl|(simp [y14,y15] <;> rfl)|(simp [*,y14,y15] <;> rfl),by(with_reducible repeat(first|apply Kd.R_alloc|apply Kd.R_drewN|apply Kd.R_drew));exact Kd.R_mono (Kd.R_far (p:=⟨Aj,0,none⟩) (Kd.R_types Aa.out Ac.out (by decide)) (fun _ hk=>hk.2) (.slice Bx Ad.length Bz)) (fun _ hk=>trivial),(y2.qj (w0:=w0) (g:=g)),y2.qbI,(qh (w:=w) (g:=g))⟩
def spec_l01Cur_size.f (s0_0:List Int) (s0_1:Int) (s0_2:Int) (a1:Int):Option (Int×Int×Int):=if(wrap64 (1 + (wrap64 ((s0_0.length:Int) / 8)))) > a1 then((z6_.f s0_0 s0_1 s0_2 (wrap64 (a1 + 1))).bind fun bt496=>(some (bt496.1,bt496.2.1,bt496.2.2)))else((z6_.f s0_0 s0_1 s0_2 (wrap64 ((wrap64 (1 + (wrap64 ((s0_0.length:Int) / 8)))) + 1))).bind fun bt499=>(some (bt499.1,bt499.2.1,bt499.2.2)))
set_option maxHeartbeats 8000000 in
set_option maxRecDepth 100000 in
theorem spec_l01Cur_size.calls (g:Nat) (Aa:List Int) (Ab:Int) (Ac:Int) (a1:Int) (r1:Int) (r2:Int) (r3:Int) (w0 w:World) (hI:y2 w0 w g Aa Ab Ac) (hB:Below w0.heap.size w0 w) (h:spec_l01Cur_size.f Aa Ab Ac a1=some (r1,r2,r3)) :
  Calls Tryz.prog 79 #[.pointer (some ⟨g,0,none⟩),.int .i64 a1] w fun e w'=>e=.returned (.int .i64 r1)∧y2 w0 w' g Aa r2 r3∧Below w0.heap.size w0 w'∧y3 w w' g none:=by
 have HI0:=y0.mk hI
 have HK:=y0.mk (y3.refl w g none)
 have HL:=y0.mk hB.size
 clear hI
 have Bi:=y0.mk hB.size
 have HB:=y0.mk hB
 clear hB
 have H:(if(wrap64 (1 + (wrap64 ((Aa.length:Int) / 8)))) > a1 then((z6_.f Aa Ab Ac (wrap64 (a1 + 1))).bind fun Af=>(some (Af.1,Af.2.1,Af.2.2)))else((z6_.f Aa Ab Ac (wrap64 ((wrap64 (1 + (wrap64 ((Aa.length:Int) / 8)))) + 1))).bind fun Ag=>(some (Ag.1,Ag.2.1,Ag.2.2))))=some (r1,r2,r3):=h
 clear h
 by_cases c3:(wrap64 (1 + (wrap64 ((Aa.length:Int) / 8)))) > a1
 ·rw [if_pos c3]at H
  have Ao:decide (a1 < (wrap64 (1 + (wrap64 ((Aa.length:Int) / 8)))))=true:=decide_eq_true c3
  clear c3
  obtain⟨⟨Ah,Ai,Aj⟩,A4,H⟩:=qB H
  replace H:(some (Ah,Ai,Aj))=some (r1,r2,r3):=H
  simp only [Option.some.injEq,Prod.mk.injEq]at H
  obtain⟨rfl,rfl,rfl⟩:=H
  obtain⟨Ap,Aq,Ad,As,At⟩:=HI0.out
  have Au:=cellS93_0 Ad
  have Av:=cellS93_1 Ad
  have Aw:=cellS93_2 Ad
  have Ax:=blk_frozen Ad 1
  have Ay:=blk_frozen Ad 2
  clear Ad As
  go_enter Tryz.func79,Tryz.ntmps79
  go_wp2_with (first|((with_reducible refine y16 (f:=54) rfl ?_);refine y18 (some 20) rfl rfl Tryz.func54 (by kernel_rfl) rfl #[.pointer (some ⟨g,0,none⟩),.int .i64 (wrap64 (a1 + 1))] rfl qy0 ?_;(with_reducible refine(z6_.calls g Aa Ab Ac (wrap64 (a1 + 1)) Ah Ai Aj w0 _ (by repeat(first|(with_reducible first|exact HI0.out|apply y2.alloc|apply y2.drewN|apply y2.drew|apply y2.set_1|apply y2.set_2)|exact HI0.out)) (by repeat(first|(with_reducible first|exact HB.out|apply y4|apply y19|apply y5|refine y6 ?_ (y2.ge HI0.out))|exact HB.out)) A4.out).mono ?_);rintro e w6 ⟨rfl,hi,hb,hk⟩;refine⟨_,rfl, ?_⟩;replace HK:=y0.mk (y3.trans (qh (w:=w) (g:=g)) hk (.inl rfl));replace HB:=y0.mk (hb);replace HI0:=y0.mk (hi);(try clear hb hk hi)))
  go_ret
  exact⟨qf,(y2.qj (w0:=w0) (g:=g)),y2.qbI,(qh (w:=w) (g:=g))⟩
 ·rw [if_neg c3]at H
  have Ao:decide (a1 < (wrap64 (1 + (wrap64 ((Aa.length:Int) / 8)))))=false:=decide_eq_false c3
  clear c3
  obtain⟨⟨Ak,Al,Am⟩,A7,H⟩:=qB H
  replace H:(some (Ak,Al,Am))=some (r1,r2,r3):=H
  simp only [Option.some.injEq,Prod.mk.injEq]at H
  obtain⟨rfl,rfl,rfl⟩:=H
  obtain⟨Az,Ba,Ae,Bb,Bc⟩:=HI0.out
  have Bd:=cellS93_0 Ae
  have Be:=cellS93_1 Ae
  have Bf:=cellS93_2 Ae
  have Bg:=blk_frozen Ae 1
  have Bh:=blk_frozen Ae 2
  clear Ae Bb
  go_enter Tryz.func79,Tryz.ntmps79
  go_wp2_with (first|((with_reducible refine y16 (f:=54) rfl ?_);refine y18 (some 20) rfl rfl Tryz.func54 (by kernel_rfl) rfl #[.pointer (some ⟨g,0,none⟩),.int .i64 (wrap64 ((wrap64 (1 + (wrap64 ((Aa.length:Int) / 8)))) + 1))] rfl qy0 ?_;(with_reducible refine(z6_.calls g Aa Ab Ac (wrap64 ((wrap64 (1 + (wrap64 ((Aa.length:Int) / 8)))) + 1)) Ak Al Am w0 _ (by repeat(first|(with_reducible first|exact HI0.out|apply y2.alloc|apply y2.drewN|apply y2.drew|apply y2.set_1|apply y2.set_2)|exact HI0.out)) (by repeat(first|(with_reducible first|exact HB.out|apply y4|apply y19|apply y5|refine y6 ?_ (y2.ge HI0.out))|exact HB.out)) A7.out).mono ?_);rintro e w9 ⟨rfl,hi,hb,hk⟩;refine⟨_,rfl, ?_⟩;replace HK:=y0.mk (y3.trans (qh (w:=w) (g:=g)) hk (.inl rfl));replace HB:=y0.mk (hb);replace HI0:=y0.mk (hi);(try clear hb hk hi)))
  go_ret
  exact⟨qf,(y2.qj (w0:=w0) (g:=g)),y2.qbI,(qh (w:=w) (g:=g))⟩
def spec_l01Cur_raw.f (s0_0:List Int) (s0_1:Int) (s0_2:Int):Option (Int×Int×Int):=(z6_.f s0_0 s0_1 s0_2 8).bind fun bt502=>(if bt502.1=0 then((z6_.f s0_0 bt502.2.1 bt502.2.2 256).bind fun bt505=>(some (wrap64 (bt505.1 - 128),bt505.2.1,bt505.2.2)))else(if bt502.1=1 then((some (([9223372036854775807,(-9223372036854775808),4611686018427387904,1000,1001,(-1000),100000,100001]:List Int):List Int)).bind fun y508=>((z6_.f s0_0 bt502.2.1 bt502.2.2 8).bind fun bt511=>(if 0≤bt511.1 then(if bt511.1 < (y508.length:Int)then(some (rd y508 bt511.1,bt511.2.1,bt511.2.2))else(none))else(none))))else((z6_.f s0_0 bt502.2.1 bt502.2.2 14).bind fun bt515=>(some (wrap64 (bt515.1 - 3),bt515.2.1,bt515.2.2)))))
set_option maxHeartbeats 8000000 in
set_option maxRecDepth 100000 in
theorem spec_l01Cur_raw.calls (g:Nat) (Ab:List Int) (Ak:Int) (Al:Int) (r1:Int) (r2:Int) (r3:Int) (w0 w:World) (hI:y2 w0 w g Ab Ak Al) (hB:Below w0.heap.size w0 w) (h:spec_l01Cur_raw.f Ab Ak Al=some (r1,r2,r3)) :
  Calls Tryz.prog 80 #[.pointer (some ⟨g,0,none⟩)] w fun e w'=>e=.returned (.int .i64 r1)∧y2 w0 w' g Ab r2 r3∧Below w0.heap.size w0 w'∧y3 w w' g none:=by
 have HI0:=y0.mk hI
 have HK:=y0.mk (y3.refl w g none)
 have HL:=y0.mk hB.size
 clear hI
 have Br:=y0.mk hB.size
 have HB:=y0.mk hB
 clear hB
 have H:((z6_.f Ab Ak Al 8).bind fun Ad=>(if Ad.1=0 then((z6_.f Ab Ad.2.1 Ad.2.2 256).bind fun Am=>(some (wrap64 (Am.1 - 128),Am.2.1,Am.2.2)))else(if Ad.1=1 then((some (([9223372036854775807,(-9223372036854775808),4611686018427387904,1000,1001,(-1000),100000,100001]:List Int):List Int)).bind fun Ae=>((z6_.f Ab Ad.2.1 Ad.2.2 8).bind fun Aa=>(if 0≤Aa.1 then(if Aa.1 < (Ae.length:Int)then(some (rd Ae Aa.1,Aa.2.1,Aa.2.2))else(none))else(none))))else((z6_.f Ab Ad.2.1 Ad.2.2 14).bind fun Ao=>(some (wrap64 (Ao.1 - 3),Ao.2.1,Ao.2.2))))))=some (r1,r2,r3):=h
 clear h
 obtain⟨⟨Ac,Ag,Ah⟩,A2,H⟩:=qB H
 dsimp only at H
 by_cases c3:Ac=0
 ·rw [if_pos c3]at H
  have Bd:(Ac == 0)=true:=beq_iff_eq.mpr c3
  have Be:(Ac != 0)=false:=bne_eq_false_iff_eq.mpr c3
  clear c3
  obtain⟨⟨Au,Av,Aw⟩,A4,H⟩:=qB H
  replace H:(some (wrap64 (Au - 128),Av,Aw))=some (r1,r2,r3):=H
  simp only [Option.some.injEq,Prod.mk.injEq]at H
  obtain⟨rfl,rfl,rfl⟩:=H
  go_enter Tryz.func80,Tryz.ntmps80
  go_wp2_with (first|((with_reducible refine y16 (f:=54) rfl ?_);refine y18 (some 4) rfl rfl Tryz.func54 (by kernel_rfl) rfl #[.pointer (some ⟨g,0,none⟩),.int .i64 8] rfl qy0 ?_;(with_reducible refine(z6_.calls g Ab Ak Al 8 Ac Ag Ah w0 _ (by repeat(first|(with_reducible first|exact HI0.out|apply y2.alloc|apply y2.drewN|apply y2.drew|apply y2.set_1|apply y2.set_2)|exact HI0.out)) (by repeat(first|(with_reducible first|exact HB.out|apply y4|apply y19|apply y5|refine y6 ?_ (y2.ge HI0.out))|exact HB.out)) A2.out).mono ?_);rintro e w5 ⟨rfl,hi,hb,hk⟩;refine⟨_,rfl, ?_⟩;replace HK:=y0.mk (y3.trans (qh (w:=w) (g:=g)) hk (.inl rfl));replace HB:=y0.mk (hb);replace HI0:=y0.mk (hi);(try clear hb hk hi))|((with_reducible refine y16 (f:=54) rfl ?_);refine y18 (some 8) rfl rfl Tryz.func54 (by kernel_rfl) rfl #[.pointer (some ⟨g,0,none⟩),.int .i64 256] rfl qy0 ?_;(with_reducible refine(z6_.calls g Ab Ag Ah 256 Au Av Aw w0 _ (by repeat(first|(with_reducible first|exact HI0.out|apply y2.alloc|apply y2.drewN|apply y2.drew|apply y2.set_1|apply y2.set_2)|exact HI0.out)) (by repeat(first|(with_reducible first|exact HB.out|apply y4|apply y19|apply y5|refine y6 ?_ (y2.ge HI0.out))|exact HB.out)) A4.out).mono ?_);rintro e w6 ⟨rfl,hi,hb,hk⟩;refine⟨_,rfl, ?_⟩;replace HK:=y0.mk (y3.trans (qh (w:=w) (g:=g)) hk (.inl rfl));replace HB:=y0.mk (hb);replace HI0:=y0.mk (hi);(try clear hb hk hi)))
  go_ret
  exact⟨qf,(y2.qj (w0:=w0) (g:=g)),y2.qbI,(qh (w:=w) (g:=g))⟩
 ·rw [if_neg c3]at H
  have Bd:(Ac == 0)=false:=beq_eq_false_iff_ne.mpr c3
  have Be:(Ac != 0)=true:=bne_iff_ne.mpr c3
  by_cases c7:Ac=1
  ·rw [if_pos c7]at H
   have Bf:(Ac == 1)=true:=beq_iff_eq.mpr c7
   have Bg:(Ac != 1)=false:=bne_eq_false_iff_eq.mpr c7
   clear c7
   obtain⟨Ae,Ai⟩:∃ y_:List Int,y_=(([9223372036854775807,(-9223372036854775808),4611686018427387904,1000,1001,(-1000),100000,100001]:List Int)):=⟨_,rfl⟩
   replace H:((z6_.f Ab Ag Ah 8).bind fun Aa=>(if 0≤Aa.1 then(if Aa.1 < (Ae.length:Int)then(some (rd Ae Aa.1,Aa.2.1,Aa.2.2))else(none))else(none)))=some (r1,r2,r3):=by first|(rw [Ai];with_reducible exact H)|(have H2_:=(Option.bind_some _ _).symm.trans H;rw [Ai];with_reducible exact H2_)|(have H2_:=(Option.bind_some _ _).symm.trans H;with_reducible exact H2_)|with_reducible exact H|(rw [Ai];exact H)|exact H
   have Aq:=y0.mk Ai
   clear Ai
   obtain⟨⟨Af,Ax,Ay⟩,A8,H⟩:=qB H
   replace H:(if 0≤Af then(if Af < (Ae.length:Int)then(some (rd Ae Af,Ax,Ay))else(none))else(none))=some (r1,r2,r3):=H
   obtain⟨c9,H⟩:=qo H
   have Bm:decide (0≤Af)=true:=decide_eq_true c9
   clear c9
   obtain⟨Bj,H⟩:=qo H
   have Bk:decide (Af < (Ae.length:Int))=true:=decide_eq_true Bj
   clear Bj
   simp only [Option.some.injEq,Prod.mk.injEq]at H
   obtain⟨rfl,rfl,rfl⟩:=H
   go_enter Tryz.func80,Tryz.ntmps80
   go_wp2_with (first|((with_reducible refine y16 (f:=54) rfl ?_);refine y18 (some 4) rfl rfl Tryz.func54 (by kernel_rfl) rfl #[.pointer (some ⟨g,0,none⟩),.int .i64 8] rfl qy0 ?_;(with_reducible refine(z6_.calls g Ab Ak Al 8 Ac Ag Ah w0 _ (by repeat(first|(with_reducible first|exact HI0.out|apply y2.alloc|apply y2.drewN|apply y2.drew|apply y2.set_1|apply y2.set_2)|exact HI0.out)) (by repeat(first|(with_reducible first|exact HB.out|apply y4|apply y19|apply y5|refine y6 ?_ (y2.ge HI0.out))|exact HB.out)) A2.out).mono ?_);rintro e Bs ⟨rfl,hi,hb,hk⟩;refine⟨_,rfl, ?_⟩;replace HK:=y0.mk (y3.trans (qh (w:=w) (g:=g)) hk (.inl rfl));replace HB:=y0.mk (hb);replace HI0:=y0.mk (hi);(try clear hb hk hi))|((with_reducible refine y17 (N:=12) rfl ?_);refine qL (Kd.int .i64) 3 12 ([9223372036854775807,(-9223372036854775808),4611686018427387904,1000,1001,(-1000),100000,100001]:List Int) ?_;intro Bn Bt Ap hb hg_ hnew_;clear hg_ hnew_;(first|rw [← Aq.out]at Ap|(simp only [Int.reduceToNat]at Ap;rw [← Aq.out]at Ap));have Aj:=y0.mk (Kd.R_lower Ap (keep_size (w:=w) (g:=g) (row:=none) (qh (w:=w) (g:=g))));replace HI0:=y0.mk (y2.below (y2.qj (w0:=w0) (g:=g)) hb);replace HK:=y0.mk (y3.trans (qh (w:=w) (g:=g)) (y3.of_below hb g none) (.inl rfl));replace HB:=y0.mk (y8 y2.qbI hb);clear hb Ap)|((with_reducible refine y16 (f:=54) rfl ?_);refine y18 (some 14) rfl rfl Tryz.func54 (by kernel_rfl) rfl #[.pointer (some ⟨g,0,none⟩),.int .i64 8] rfl qy0 ?_;(with_reducible refine(z6_.calls g Ab Ag Ah 8 Af Ax Ay w0 _ (by repeat(first|(with_reducible first|exact HI0.out|apply y2.alloc|apply y2.drewN|apply y2.drew|apply y2.set_1|apply y2.set_2)|exact HI0.out)) (by repeat(first|(with_reducible first|exact HB.out|apply y4|apply y19|apply y5|refine y6 ?_ (y2.ge HI0.out))|exact HB.out)) A8.out).mono ?_);rintro e Bu ⟨rfl,hi,hb,hk⟩;refine⟨_,rfl, ?_⟩;replace Aj:=y0.mk (Kd.R_mono (Kd.R_keep (y2.apart (show y2 w0 _ g Ab Ag Ah from(y2.qj (w0:=w0) (g:=g))) (qR Aj.out) (by decide)) hk (fun _ h=>h.2)) (fun _ h=>h.1));replace HK:=y0.mk (y3.trans (qh (w:=w) (g:=g)) hk (.inl rfl));replace HB:=y0.mk (hb);replace HI0:=y0.mk (hi);(try clear hb hk hi);obtain⟨Bo,Bp,Bh⟩:=Kd.R_slice Aj.out;subst Bh;have As:0≤(Af:Int):=of_decide_eq_true qy1;have At:Af < (Ae.length:Int):=of_decide_eq_true qy1;obtain⟨Bl,Bi,Bc⟩:=Kd.at_int (Kd.R_reads' Aj.out).2.2 Af As At;cases Bi;replace As:=eq_true As;replace At:=eq_true At))
   go_ret
   exact⟨qf,(y2.qj (w0:=w0) (g:=g)),y2.qbI,(qh (w:=w) (g:=g))⟩
  ·rw [if_neg c7]at H
   have Bf:(Ac == 1)=false:=beq_eq_false_iff_ne.mpr c7
   have Bg:(Ac != 1)=true:=bne_iff_ne.mpr c7
   obtain⟨⟨Az,Ba,Bb⟩,Bq,H⟩:=qB H
   replace H:(some (wrap64 (Az - 3),Ba,Bb))=some (r1,r2,r3):=H
   simp only [Option.some.injEq,Prod.mk.injEq]at H
   obtain⟨rfl,rfl,rfl⟩:=H
   go_enter Tryz.func80,Tryz.ntmps80
   go_wp2_with (first|((with_reducible refine y16 (f:=54) rfl ?_);refine y18 (some 4) rfl rfl Tryz.func54 (by kernel_rfl) rfl #[.pointer (some ⟨g,0,none⟩),.int .i64 8] rfl qy0 ?_;(with_reducible refine(z6_.calls g Ab Ak Al 8 Ac Ag Ah w0 _ (by repeat(first|(with_reducible first|exact HI0.out|apply y2.alloc|apply y2.drewN|apply y2.drew|apply y2.set_1|apply y2.set_2)|exact HI0.out)) (by repeat(first|(with_reducible first|exact HB.out|apply y4|apply y19|apply y5|refine y6 ?_ (y2.ge HI0.out))|exact HB.out)) A2.out).mono ?_);rintro e Bv ⟨rfl,hi,hb,hk⟩;refine⟨_,rfl, ?_⟩;replace HK:=y0.mk (y3.trans (qh (w:=w) (g:=g)) hk (.inl rfl));replace HB:=y0.mk (hb);replace HI0:=y0.mk (hi);(try clear hb hk hi))|((with_reducible refine y16 (f:=54) rfl ?_);refine y18 (some 18) rfl rfl Tryz.func54 (by kernel_rfl) rfl #[.pointer (some ⟨g,0,none⟩),.int .i64 14] rfl qy0 ?_;(with_reducible refine(z6_.calls g Ab Ag Ah 14 Az Ba Bb w0 _ (by repeat(first|(with_reducible first|exact HI0.out|apply y2.alloc|apply y2.drewN|apply y2.drew|apply y2.set_1|apply y2.set_2)|exact HI0.out)) (by repeat(first|(with_reducible first|exact HB.out|apply y4|apply y19|apply y5|refine y6 ?_ (y2.ge HI0.out))|exact HB.out)) Bq.out).mono ?_);rintro e Bw ⟨rfl,hi,hb,hk⟩;refine⟨_,rfl, ?_⟩;replace HK:=y0.mk (y3.trans (qh (w:=w) (g:=g)) hk (.inl rfl));replace HB:=y0.mk (hb);replace HI0:=y0.mk (hi);(try clear hb hk hi)))
   go_ret
   exact⟨qf,(y2.qj (w0:=w0) (g:=g)),y2.qbI,(qh (w:=w) (g:=g))⟩
end Go.Proofs.YtkajecadkkgfmaaGreatDoor.Pn
end
