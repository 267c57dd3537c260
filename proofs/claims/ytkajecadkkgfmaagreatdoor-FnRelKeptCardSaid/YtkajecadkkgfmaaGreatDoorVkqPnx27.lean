-- Cut by prune.py, a program of this session, out of the texts of this claim: Lean checks it.
import Derived.Test.YtkajecadkkgfmaaGreatDoorVkqPnx0
import Derived.Test.YtkajecadkkgfmaaGreatDoorVkqPnx19
section
namespace Go.Proofs.YtkajecadkkgfmaaGreatDoor.Pn
open Go.RowKit Go.Proofs.YtkajecadkkgfmaaGreatDoorW.PrintWords Go.Proofs.YtkajecadkkgfmaaGreatDoorW.PrintLast Go.Proofs.YtkajecadkkgfmaaGreatDoorW.PrintMore
attribute [local go_sem] max2_int min2_int max_two min_two max_three min_three max_four min_four   -- for this text's walks alone
set_option linter.unusedVariables false
set_option linter.unusedSimpArgs false
mutual
def spec_l01Cur_any.j0:Nat→ByteArray→List Int→Int→Int→Option (ByteArray×Int×Int)
 | 0,_,_,_,_=>none
 | k + 1,x3,x1000,x1001,x1002=>(spec_l01Cur_once.f x1000 x1001 x1002 5).bind fun bt456=>(if bt456.1=true then((z5_.f x1000 bt456.2.1 bt456.2.2 3).bind fun bt459=>(if bt459.1=0 then((some (([(⟨#[]⟩:ByteArray),(⟨#[48,49]⟩:ByteArray),(⟨#[45,48]⟩:ByteArray),(⟨#[49,48,48,48,48,48,49]⟩:ByteArray),(⟨#[120]⟩:ByteArray),(⟨#[78,105,108,40,41]⟩:ByteArray),(⟨#[78,105,108,40]⟩:ByteArray),(⟨#[67,111,110,115,40,49,44,41]⟩:ByteArray),(⟨#[67,111,110,115,40,49]⟩:ByteArray),(⟨#[34,97]⟩:ByteArray),(⟨#[97,34]⟩:ByteArray),(⟨#[34,97,34,98,34]⟩:ByteArray),(⟨#[34,92,34]⟩:ByteArray),(⟨#[83,32,40,49,41]⟩:ByteArray),(⟨#[83,40,49,41,41]⟩:ByteArray),(⟨#[83,40,120,41]⟩:ByteArray),(⟨#[65,98,99,100,101,102,103,104,105,106,107,108,109,110,111,112,113,114,115,116,117]⟩:ByteArray),(⟨#[34,97,98,99,100,101,102,103,104,105,106,107,108,109,110,111,112,113,114,115,116,117,34]⟩:ByteArray),(⟨#[45]⟩:ByteArray),(⟨#[45,45,49]⟩:ByteArray),(⟨#[65,95,49,40,34,41,44,40,34,41]⟩:ByteArray),(⟨#[43,49]⟩:ByteArray)]:List ByteArray):List ByteArray)).bind fun y462=>((z5_.f x1000 bt459.2.1 bt459.2.2 22).bind fun bt465=>(if 0≤bt465.1 then(if bt465.1 < (y462.length:Int)then(some (rdOf ByteArray.empty y462 bt465.1,bt465.2.1,bt465.2.2))else(none))else(none))))else(if bt459.1=1 then((z5_.f x1000 bt459.2.1 bt459.2.2 (wrap64 ((x3.size:Int) + 1))).bind fun bt469=>(if 0≤bt469.1 then(if bt469.1≤(x3.size:Int)then((some (([(⟨#[40]⟩:ByteArray),(⟨#[41]⟩:ByteArray),(⟨#[44]⟩:ByteArray),(⟨#[34]⟩:ByteArray),(⟨#[49]⟩:ByteArray),(⟨#[32]⟩:ByteArray)]:List ByteArray):List ByteArray)).bind fun y472=>((z5_.f x1000 bt469.2.1 bt469.2.2 6).bind fun bt475=>(if 0≤bt475.1 then(if bt475.1 < (y472.length:Int)then(if(x3.extract 0 (bt469.1:Int).toNat).size + (rdOf ByteArray.empty y472 bt475.1).size≤9223372036854775807 then(if((x3.extract 0 (bt469.1:Int).toNat) ++ (rdOf ByteArray.empty y472 bt475.1)).size + (x3.extract (bt469.1:Int).toNat x3.size).size≤9223372036854775807 then(some (((x3.extract 0 (bt469.1:Int).toNat) ++ (rdOf ByteArray.empty y472 bt475.1)) ++ (x3.extract (bt469.1:Int).toNat x3.size),bt475.2.1,bt475.2.2))else(none))else(none))else(none))else(none))))else(none))else(none)))else(spec_l01Cur_any.l0 k x3 x1000 bt459.2.1 bt459.2.2))))else(some (x3,bt456.2.1,bt456.2.2)))
def spec_l01Cur_any.l0:Nat→ByteArray→List Int→Int→Int→Option (ByteArray×Int×Int)
 | 0,_,_,_,_=>none
 | k + 1,x3,x1000,x1001,x1002=>if(x3.size:Int)≤200 then(if 2 + x3.size≤9223372036854775807 then(if((⟨#[83,40]⟩:ByteArray) ++ x3).size + 1≤9223372036854775807 then(spec_l01Cur_any.l0 k (((⟨#[83,40]⟩:ByteArray) ++ x3) ++ (⟨#[41]⟩:ByteArray)) x1000 x1001 x1002)else(none))else(none))else(some (x3,x1001,x1002))
end
def spec_l01Cur_any.f (k:Nat) (s0_0:List Int) (s0_1:Int) (s0_2:Int):Option (ByteArray×Int×Int):=(z7_.f k s0_0 s0_1 s0_2 2).bind fun bt453=>(if(bt453.1.size:Int) > 200 then(spec_l01Cur_any.j0 k (⟨#[78,105,108]⟩:ByteArray) s0_0 bt453.2.1 bt453.2.2)else(spec_l01Cur_any.j0 k bt453.1 s0_0 bt453.2.1 bt453.2.2))
def spec_l01Cur_any.T10:Bool×List (List Nat×List Nat):=(true,[([],[]),([],[]),([0,1],[0,1]),([],[]),([],[]),([4],[4]),([3,5],[3,5]),([6],[6]),([2,7],[2,7]),([],[]),([],[]),([9,10],[9,10]),([8,11],[8,11]),([12,5,0,1,2,3,4,5,6,7,8,9,10,11,12],[12])])
def spec_l01Cur_any.B10:List Nat:=[0,0,3,0,0,16,56,120,255,0,0,1536,4095,8191]
theorem spec_l01Cur_any.tab10:rtab .any (opsOf Tryz.f85 10)=spec_l01Cur_any.T10:=by kernel_rfl
theorem spec_l01Cur_any.bits10:waitsOk spec_l01Cur_any.T10.2 spec_l01Cur_any.B10=true:=by kernel_rfl
set_option maxHeartbeats 8000000 in
set_option maxRecDepth 100000 in
theorem spec_l01Cur_any.calls (k:Nat) (g:Nat) (Ae:List Int) (Bv:Int) (Bw:Int) (r1:ByteArray) (r2:Int) (r3:Int) (w0 w:World) (hI:y2 w0 w g Ae Bv Bw) (hB:Below w0.heap.size w0 w) (h:spec_l01Cur_any.f k Ae Bv Bw=some (r1,r2,r3)) :
  Calls Tryz.prog 85 #[.pointer (some ⟨g,0,none⟩)] w fun e w'=>e=.returned (.string r1)∧y2 w0 w' g Ae r2 r3∧Below w0.heap.size w0 w'∧y3 w w' g none:=by
 have HI0:=y0.mk hI
 have HK:=y0.mk (y3.refl w g none)
 have HL:=y0.mk hB.size
 clear hI
 have Er:=y0.mk hB.size
 have HB:=y0.mk hB
 clear hB
 have H:((z7_.f k Ae Bv Bw 2).bind fun Al=>(if(Al.1.size:Int) > 200 then(spec_l01Cur_any.j0 k (⟨#[78,105,108]⟩:ByteArray) Ae Al.2.1 Al.2.2)else(spec_l01Cur_any.j0 k Al.1 Ae Al.2.1 Al.2.2)))=some (r1,r2,r3):=h
 clear h
 obtain⟨⟨Av,Aw,Ay⟩,A2,H⟩:=qB H
 replace H:(if(Av.size:Int) > 200 then(spec_l01Cur_any.j0 k (⟨#[78,105,108]⟩:ByteArray) Ae Aw Ay)else(spec_l01Cur_any.j0 k Av Ae Aw Ay))=some (r1,r2,r3):=H
 have Cy:=y0.mk H
 clear H
 go_enter Tryz.func85,Tryz.ntmps85
 go_upto_if 9 with(first|((with_reducible refine y19 (f:=84) rfl ?_);refine y22 (some 6) rfl rfl Tryz.func84 (by kernel_rfl) rfl #[.pointer (some ⟨g,0,none⟩),.int .i64 2] rfl qy0 ?_;(with_reducible refine(z7_.calls k g Ae Bv Bw 2 Av Aw Ay w0 _ (by repeat(first|(with_reducible first|exact HI0.out|apply y2.alloc|apply y2.drewN|apply y2.drew|apply y2.set_1|apply y2.set_2)|exact HI0.out)) (by repeat(first|(with_reducible first|exact HB.out|apply y4|apply y23|apply y5|refine y6 ?_ (y2.ge HI0.out))|exact HB.out)) A2.out).mono ?_);rintro e w4 ⟨rfl,hi,hb,hk⟩;refine⟨_,rfl, ?_⟩;replace HK:=y0.mk (y3.trans (qh (w:=w) (g:=g)) hk (.inl rfl));replace HB:=y0.mk (hb);replace HI0:=y0.mk (hi);(try clear hb hk hi)))
 (try simp only [Act.put,qS_,qZ_,qC_])
 go_cut [3] (fun v3 wc=>∃(kq:Nat) (Aa:ByteArray),v3=.string Aa∧y0 (spec_l01Cur_any.j0 kq Aa Ae Aw Ay=some (r1,r2,r3))∧y0 (kq≤k)∧y0 (y2 w0 wc g Ae Aw Ay)∧y0 (y3 w wc g none)∧y0 (Below w0.heap.size w0 wc))
 case first =>
  have H:=Cy.out
  clear Cy
  by_cases c5:(Av.size:Int) > 200
  ·rw [if_pos c5]at H
   have Bl:decide (200 < (Av.size:Int))=true:=decide_eq_true c5
   have Cz:decide (200 < Av.size)=true:=decide_eq_true (by omega)
   clear c5
   (first|rw [Bl]|(simp only [i64_w,i32_w];rw [Bl])|skip)
   have H':=y0.mk H
   clear H
   go_wp2
   go_meet
   exact⟨_,((⟨#[78,105,108]⟩:ByteArray)),qy2,H',⟨by first|omega|exact Nat.le_refl _⟩,⟨(y2.qj (w0:=w0) (g:=g))⟩,⟨(qh (w:=w) (g:=g))⟩,⟨y2.qbI⟩⟩
  ·rw [if_neg c5]at H
   have Bl:decide (200 < (Av.size:Int))=false:=decide_eq_false c5
   have Cz:decide (200 < Av.size)=false:=decide_eq_false (by omega)
   clear c5
   (first|rw [Bl]|(simp only [i64_w,i32_w];rw [Bl])|skip)
   have H':=y0.mk H
   clear H
   go_wp2
   go_meet
   exact⟨_,(Av),qy2,H',⟨by first|omega|exact Nat.le_refl _⟩,⟨(y2.qj (w0:=w0) (g:=g))⟩,⟨(qh (w:=w) (g:=g))⟩,⟨y2.qbI⟩⟩
 case rest =>
  clear Cy
  obtain⟨kq,Aa,rfl,HA,Dj,HI0,HK,HB⟩:=hcut
  cases kq with
  | zero=>exact absurd HA.out (by simp [spec_l01Cur_any.j0])
  | succ Dk =>
   have H:=HA.out
   clear HA
   simp only [spec_l01Cur_any.j0]at H
   obtain⟨⟨Da,Bf,Bg⟩,A6,H⟩:=qB H
   dsimp only at H
   by_cases c7:Da=true
   ·subst c7
    replace H:=qT H
    obtain⟨⟨Ai,Az,Ba⟩,A8,H⟩:=qB H
    dsimp only at H
    by_cases c9:Ai=0
    ·rw [if_pos c9]at H
     have Cn:(Ai == 0)=true:=beq_iff_eq.mpr c9
     have Co:(Ai != 0)=false:=bne_eq_false_iff_eq.mpr c9
     clear c9
     obtain⟨Bk,Bc⟩:∃ y_:List ByteArray,y_=(([(⟨#[]⟩:ByteArray),(⟨#[48,49]⟩:ByteArray),(⟨#[45,48]⟩:ByteArray),(⟨#[49,48,48,48,48,48,49]⟩:ByteArray),(⟨#[120]⟩:ByteArray),(⟨#[78,105,108,40,41]⟩:ByteArray),(⟨#[78,105,108,40]⟩:ByteArray),(⟨#[67,111,110,115,40,49,44,41]⟩:ByteArray),(⟨#[67,111,110,115,40,49]⟩:ByteArray),(⟨#[34,97]⟩:ByteArray),(⟨#[97,34]⟩:ByteArray),(⟨#[34,97,34,98,34]⟩:ByteArray),(⟨#[34,92,34]⟩:ByteArray),(⟨#[83,32,40,49,41]⟩:ByteArray),(⟨#[83,40,49,41,41]⟩:ByteArray),(⟨#[83,40,120,41]⟩:ByteArray),(⟨#[65,98,99,100,101,102,103,104,105,106,107,108,109,110,111,112,113,114,115,116,117]⟩:ByteArray),(⟨#[34,97,98,99,100,101,102,103,104,105,106,107,108,109,110,111,112,113,114,115,116,117,34]⟩:ByteArray),(⟨#[45]⟩:ByteArray),(⟨#[45,45,49]⟩:ByteArray),(⟨#[65,95,49,40,34,41,44,40,34,41]⟩:ByteArray),(⟨#[43,49]⟩:ByteArray)]:List ByteArray)):=⟨_,rfl⟩
     replace H:((z5_.f Ae Az Ba 22).bind fun Bd=>(if 0≤Bd.1 then(if Bd.1 < (Bk.length:Int)then(some (rdOf ByteArray.empty Bk Bd.1,Bd.2.1,Bd.2.2))else(none))else(none)))=some (r1,r2,r3):=by first|(rw [Bc];with_reducible exact H)|(have H2_:=(Option.bind_some _ _).symm.trans H;rw [Bc];with_reducible exact H2_)|(have H2_:=(Option.bind_some _ _).symm.trans H;with_reducible exact H2_)|with_reducible exact H|(rw [Bc];exact H)|exact H
     have Bx:=y0.mk Bc
     clear Bc
     obtain⟨⟨Bb,Cp,Cq⟩,Ef,H⟩:=qB H
     replace H:(if 0≤Bb then(if Bb < (Bk.length:Int)then(some (rdOf ByteArray.empty Bk Bb,Cp,Cq))else(none))else(none))=some (r1,r2,r3):=H
     obtain⟨Dl,H⟩:=qo H
     have Dm:decide (0≤Bb)=true:=decide_eq_true Dl
     clear Dl
     obtain⟨Dn,H⟩:=qo H
     have Do:decide (Bb < (Bk.length:Int))=true:=decide_eq_true Dn
     clear Dn
     simp only [Option.some.injEq,Prod.mk.injEq]at H
     obtain⟨rfl,rfl,rfl⟩:=H
     go_wp2_with (first|((with_reducible refine y19 (f:=67) rfl ?_);refine y22 (some 11) rfl rfl Tryz.func67 (by kernel_rfl) rfl #[.pointer (some ⟨g,0,none⟩),.int .i64 5] rfl qy0 ?_;(with_reducible refine(spec_l01Cur_once.calls g Ae Aw Ay 5 true Bf Bg w0 _ (by repeat(first|(with_reducible first|exact HI0.out|apply y2.alloc|apply y2.drewN|apply y2.drew|apply y2.set_1|apply y2.set_2)|exact HI0.out)) (by repeat(first|(with_reducible first|exact HB.out|apply y4|apply y23|apply y5|refine y6 ?_ (y2.ge HI0.out))|exact HB.out)) A6.out).mono ?_);rintro e Es ⟨rfl,hi,hb,hk⟩;refine⟨_,rfl, ?_⟩;replace HK:=y0.mk (y3.trans (qh (w:=w) (g:=g)) hk (.inl rfl));replace HB:=y0.mk (hb);replace HI0:=y0.mk (hi);(try clear hb hk hi))|((with_reducible refine y19 (f:=54) rfl ?_);refine y22 (some 13) rfl rfl Tryz.func54 (by kernel_rfl) rfl #[.pointer (some ⟨g,0,none⟩),.int .i64 3] rfl qy0 ?_;(with_reducible refine(z5_.calls g Ae Bf Bg 3 Ai Az Ba w0 _ (by repeat(first|(with_reducible first|exact HI0.out|apply y2.alloc|apply y2.drewN|apply y2.drew|apply y2.set_1|apply y2.set_2)|exact HI0.out)) (by repeat(first|(with_reducible first|exact HB.out|apply y4|apply y23|apply y5|refine y6 ?_ (y2.ge HI0.out))|exact HB.out)) A8.out).mono ?_);rintro e Et ⟨rfl,hi,hb,hk⟩;refine⟨_,rfl, ?_⟩;replace HK:=y0.mk (y3.trans (qh (w:=w) (g:=g)) hk (.inl rfl));replace HB:=y0.mk (hb);replace HI0:=y0.mk (hi);(try clear hb hk hi))|((with_reducible refine y20 (N:=16) rfl ?_);refine qL Kd.string 9 16 ([(⟨#[]⟩:ByteArray),(⟨#[48,49]⟩:ByteArray),(⟨#[45,48]⟩:ByteArray),(⟨#[49,48,48,48,48,48,49]⟩:ByteArray),(⟨#[120]⟩:ByteArray),(⟨#[78,105,108,40,41]⟩:ByteArray),(⟨#[78,105,108,40]⟩:ByteArray),(⟨#[67,111,110,115,40,49,44,41]⟩:ByteArray),(⟨#[67,111,110,115,40,49]⟩:ByteArray),(⟨#[34,97]⟩:ByteArray),(⟨#[97,34]⟩:ByteArray),(⟨#[34,97,34,98,34]⟩:ByteArray),(⟨#[34,92,34]⟩:ByteArray),(⟨#[83,32,40,49,41]⟩:ByteArray),(⟨#[83,40,49,41,41]⟩:ByteArray),(⟨#[83,40,120,41]⟩:ByteArray),(⟨#[65,98,99,100,101,102,103,104,105,106,107,108,109,110,111,112,113,114,115,116,117]⟩:ByteArray),(⟨#[34,97,98,99,100,101,102,103,104,105,106,107,108,109,110,111,112,113,114,115,116,117,34]⟩:ByteArray),(⟨#[45]⟩:ByteArray),(⟨#[45,45,49]⟩:ByteArray),(⟨#[65,95,49,40,34,41,44,40,34,41]⟩:ByteArray),(⟨#[43,49]⟩:ByteArray)]:List ByteArray) ?_;intro Eg Eu Bm hb hg_ hnew_;clear hg_ hnew_;(first|rw [← Bx.out]at Bm|(simp only [Int.reduceToNat]at Bm;rw [← Bx.out]at Bm));have Bj:=y0.mk (Kd.R_lower Bm (keep_size (w:=w) (g:=g) (row:=none) (qh (w:=w) (g:=g))));replace HI0:=y0.mk (y2.below (y2.qj (w0:=w0) (g:=g)) hb);replace HK:=y0.mk (y3.trans (qh (w:=w) (g:=g)) (y3.of_below hb g none) (.inl rfl));replace HB:=y0.mk (y8 y2.qbI hb);clear hb Bm)|((with_reducible refine y19 (f:=54) rfl ?_);refine y22 (some 18) rfl rfl Tryz.func54 (by kernel_rfl) rfl #[.pointer (some ⟨g,0,none⟩),.int .i64 22] rfl qy0 ?_;(with_reducible refine(z5_.calls g Ae Az Ba 22 Bb Cp Cq w0 _ (by repeat(first|(with_reducible first|exact HI0.out|apply y2.alloc|apply y2.drewN|apply y2.drew|apply y2.set_1|apply y2.set_2)|exact HI0.out)) (by repeat(first|(with_reducible first|exact HB.out|apply y4|apply y23|apply y5|refine y6 ?_ (y2.ge HI0.out))|exact HB.out)) Ef.out).mono ?_);rintro e Ew ⟨rfl,hi,hb,hk⟩;refine⟨_,rfl, ?_⟩;replace Bj:=y0.mk (Kd.R_mono (Kd.R_keep (y2.apart (show y2 w0 _ g Ae Az Ba from(y2.qj (w0:=w0) (g:=g))) (qR Bj.out) (by decide)) hk (fun _ h=>h.2)) (fun _ h=>h.1));replace HK:=y0.mk (y3.trans (qh (w:=w) (g:=g)) hk (.inl rfl));replace HB:=y0.mk (hb);replace HI0:=y0.mk (hi);(try clear hb hk hi);obtain⟨Eh,Ei,Db⟩:=Kd.R_slice Bj.out;subst Db;have Cd:0≤(Bb:Int):=of_decide_eq_true qy1;have Ce:Bb < (Bk.length:Int):=of_decide_eq_true qy1;obtain⟨Dp,Dc,Cw⟩:=Kd.at_string (Kd.R_reads' Bj.out).2.2 Bb Cd Ce;cases Dc;replace Cd:=eq_true Cd;replace Ce:=eq_true Ce))
     go_ret
     exact⟨qf,(y2.qj (w0:=w0) (g:=g)),y2.qbI,(qh (w:=w) (g:=g))⟩
    ·rw [if_neg c9]at H
     have Cn:(Ai == 0)=false:=beq_eq_false_iff_ne.mpr c9
     have Co:(Ai != 0)=true:=bne_iff_ne.mpr c9
     by_cases Cf:Ai=1
     ·rw [if_pos Cf]at H
      have Bz:(Ai == 1)=true:=beq_iff_eq.mpr Cf
      have Ca:(Ai != 1)=false:=bne_eq_false_iff_eq.mpr Cf
      clear Cf
      obtain⟨⟨Ac,Bh,Bi⟩,Ej,H⟩:=qB H
      dsimp only at H
      obtain⟨Dd,H⟩:=qo H
      have Bn:=eq_true Dd
      have Dq:=decide_eq_true Dd
      clear Dd
      obtain⟨De,H⟩:=qo H
      have Bo:=eq_true De
      have Dr:=decide_eq_true De
      clear De
      obtain⟨Af,Be⟩:∃ y_:List ByteArray,y_=(([(⟨#[40]⟩:ByteArray),(⟨#[41]⟩:ByteArray),(⟨#[44]⟩:ByteArray),(⟨#[34]⟩:ByteArray),(⟨#[49]⟩:ByteArray),(⟨#[32]⟩:ByteArray)]:List ByteArray)):=⟨_,rfl⟩
      replace H:((z5_.f Ae Bh Bi 6).bind fun Aj=>(if 0≤Aj.1 then(if Aj.1 < (Af.length:Int)then(if(Aa.extract 0 (Ac:Int).toNat).size + (rdOf ByteArray.empty Af Aj.1).size≤9223372036854775807 then(if((Aa.extract 0 (Ac:Int).toNat) ++ (rdOf ByteArray.empty Af Aj.1)).size + (Aa.extract (Ac:Int).toNat Aa.size).size≤9223372036854775807 then(some (((Aa.extract 0 (Ac:Int).toNat) ++ (rdOf ByteArray.empty Af Aj.1)) ++ (Aa.extract (Ac:Int).toNat Aa.size),Aj.2.1,Aj.2.2))else(none))else(none))else(none))else(none)))=some (r1,r2,r3):=by first|(rw [Be];with_reducible exact H)|(have H2_:=(Option.bind_some _ _).symm.trans H;rw [Be];with_reducible exact H2_)|(have H2_:=(Option.bind_some _ _).symm.trans H;with_reducible exact H2_)|with_reducible exact H|(rw [Be];exact H)|exact H
      have Bp:=y0.mk Be
      clear Be
      obtain⟨⟨Ad,Cg,Ch⟩,Ek,H⟩:=qB H
      dsimp only at H
      obtain⟨Ds,H⟩:=qo H
      have Am:decide (0≤Ad)=true:=decide_eq_true Ds
      clear Ds
      obtain⟨Dt,H⟩:=qo H
      have Ap:decide (Ad < (Af.length:Int))=true:=decide_eq_true Dt
      clear Dt
      obtain⟨Ci,H⟩:=qo H
      have Aq:=eq_true Ci
      have Du:=decide_eq_true Ci
      have Cr:=eq_false (Nat.not_lt.2 Ci)
      try have Dv:(9223372036854775807 < (Ac:Int).toNat + (rdOf ByteArray.empty Af Ad).size)=False:=(congrArg (fun n_=>(9223372036854775807 < n_)) (show(Ac:Int).toNat + (rdOf ByteArray.empty Af Ad).size=(Aa.extract 0 (Ac:Int).toNat).size + (rdOf ByteArray.empty Af Ad).size by(simp only [ByteArray.size_append,(show(Aa.extract 0 (Ac:Int).toNat).size=(Ac:Int).toNat from by rw [ByteArray.size_extract,Nat.sub_zero];exact Nat.min_eq_left (Int.toNat_le.2 (of_eq_true (by assumption))))];try rfl))).trans Cr
      have Bq:=eq_true (of_decide_eq_true qy1:0≤Ac)
      have Br:=eq_true (of_decide_eq_true qy1:Ac≤(Aa.size:Int))
      obtain⟨Cj,H⟩:=qo H
      have Bs:=eq_true Cj
      have Dw:=decide_eq_true Cj
      have Cb:=eq_false (Nat.not_lt.2 Cj)
      have Dx:(9223372036854775807 < (Aa.extract 0 (Ac:Int).toNat).size + (rdOf ByteArray.empty Af Ad).size + (Aa.extract (Ac:Int).toNat Aa.size).size)=False:=qs Cb
      try have Dy:(9223372036854775807 < (Ac:Int).toNat + (rdOf ByteArray.empty Af Ad).size + (Aa.size - (Ac:Int).toNat))=False:=(congrArg (fun n_=>(9223372036854775807 < n_)) (show(Ac:Int).toNat + (rdOf ByteArray.empty Af Ad).size + (Aa.size - (Ac:Int).toNat)=((Aa.extract 0 (Ac:Int).toNat) ++ (rdOf ByteArray.empty Af Ad)).size + (Aa.extract (Ac:Int).toNat Aa.size).size by(simp only [ByteArray.size_append,(show(Aa.extract 0 (Ac:Int).toNat).size=(Ac:Int).toNat from by rw [ByteArray.size_extract,Nat.sub_zero];exact Nat.min_eq_left (Int.toNat_le.2 (of_eq_true (by assumption)))),(show(Aa.extract (Ac:Int).toNat Aa.size).size=Aa.size - (Ac:Int).toNat from by rw [ByteArray.size_extract,Nat.min_self])];try rfl))).trans Cb
      simp only [Option.some.injEq,Prod.mk.injEq]at H
      obtain⟨rfl,rfl,rfl⟩:=H
      try go_wp2_with (first|((with_reducible refine y19 (f:=67) rfl ?_);refine y22 (some 11) rfl rfl Tryz.func67 (by kernel_rfl) rfl #[.pointer (some ⟨g,0,none⟩),.int .i64 5] rfl qy0 ?_;(with_reducible refine(spec_l01Cur_once.calls g Ae Aw Ay 5 true Bf Bg w0 _ (by repeat(first|(with_reducible first|exact HI0.out|apply y2.alloc|apply y2.drewN|apply y2.drew|apply y2.set_1|apply y2.set_2)|exact HI0.out)) (by repeat(first|(with_reducible first|exact HB.out|apply y4|apply y23|apply y5|refine y6 ?_ (y2.ge HI0.out))|exact HB.out)) A6.out).mono ?_);rintro e Ex ⟨rfl,hi,hb,hk⟩;refine⟨_,rfl, ?_⟩;replace HK:=y0.mk (y3.trans (qh (w:=w) (g:=g)) hk (.inl rfl));replace HB:=y0.mk (hb);replace HI0:=y0.mk (hi);(try clear hb hk hi))|((with_reducible refine y19 (f:=54) rfl ?_);refine y22 (some 13) rfl rfl Tryz.func54 (by kernel_rfl) rfl #[.pointer (some ⟨g,0,none⟩),.int .i64 3] rfl qy0 ?_;(with_reducible refine(z5_.calls g Ae Bf Bg 3 Ai Az Ba w0 _ (by repeat(first|(with_reducible first|exact HI0.out|apply y2.alloc|apply y2.drewN|apply y2.drew|apply y2.set_1|apply y2.set_2)|exact HI0.out)) (by repeat(first|(with_reducible first|exact HB.out|apply y4|apply y23|apply y5|refine y6 ?_ (y2.ge HI0.out))|exact HB.out)) A8.out).mono ?_);rintro e Ey ⟨rfl,hi,hb,hk⟩;refine⟨_,rfl, ?_⟩;replace HK:=y0.mk (y3.trans (qh (w:=w) (g:=g)) hk (.inl rfl));replace HB:=y0.mk (hb);replace HI0:=y0.mk (hi);(try clear hb hk hi))|((with_reducible refine y19 (f:=54) rfl ?_);refine y22 (some 27) rfl rfl Tryz.func54 (by kernel_rfl) rfl #[.pointer (some ⟨g,0,none⟩),.int .i64 (wrap64 ((Aa.size:Int) + 1))] rfl qy0 ?_;(with_reducible refine(z5_.calls g Ae Az Ba (wrap64 ((Aa.size:Int) + 1)) Ac Bh Bi w0 _ (by repeat(first|(with_reducible first|exact HI0.out|apply y2.alloc|apply y2.drewN|apply y2.drew|apply y2.set_1|apply y2.set_2)|exact HI0.out)) (by repeat(first|(with_reducible first|exact HB.out|apply y4|apply y23|apply y5|refine y6 ?_ (y2.ge HI0.out))|exact HB.out)) Ej.out).mono ?_);rintro e El ⟨rfl,hi,hb,hk⟩;refine⟨_,rfl, ?_⟩;replace HK:=y0.mk (y3.trans (qh (w:=w) (g:=g)) hk (.inl rfl));replace HB:=y0.mk (hb);replace HI0:=y0.mk (hi);(try clear hb hk hi)))
      have Cs:(0≤(Ad:Int))=True:=eq_true (of_decide_eq_true qy1)
      have Ct:(Ad < (Af.length:Int))=True:=eq_true (of_decide_eq_true qy1)
      replace HI0:=y0.mk (y2.drew HI0.out)
      replace HK:=y0.mk (keep_drew HK.out)
      replace HB:=y0.mk (y5 HB.out)
      refine start_ (n:=14) (S:=fun w'=>True) (ds:=[]) (fl_ 14 0) (by kernel_rfl) rfl rfl trivial (fun hHeld=>?_);refine with_tabW spec_l01Cur_any.tab10 spec_l01Cur_any.bits10 (fun HT_ HW_=>?_)
      generalize El.drew=Ez at HI0 HK HB hHeld ⊢
      refine qp2 0 28 14 ?_
      refine qp 4 32 (fl_ 14 19) ?_
      refine qp 9 37 (fl_ 14 531) ?_
      refine qp 10 38 (fl_ 14 1555) ?_
      refine inv_at [2,3,5,6,7,8,11,12,13] (fun a0_ b a w'=>∃(Ag:Value) (adz_v473:Addr) (m6_:Value),a=putSel a0_ b [(2,30,.string (Aa.extract 0 (Ac:Int).toNat)),(3,31,Ag),(5,33,.int .i64 Ad),(6,34,m6_),(7,35,.string (rdOf ByteArray.empty Af Ad)),(8,36,.string ((Aa.extract 0 (Ac:Int).toNat) ++ (rdOf ByteArray.empty Af Ad))),(11,39,.string (Aa.extract (Ac:Int).toNat Aa.size)),(12,40,.string (((Aa.extract 0 (Ac:Int).toNat) ++ (rdOf ByteArray.empty Af Ad)) ++ (Aa.extract (Ac:Int).toNat Aa.size))),(13,2,.string (((Aa.extract 0 (Ac:Int).toNat) ++ (rdOf ByteArray.empty Af Ad)) ++ (Aa.extract (Ac:Int).toNat Aa.size)))]∧(b 5=false→y2 w0 w' g Ae Bh Bi)∧(y3 w w' g none)∧(Below w0.heap.size w0 w')∧(b 3=true→Kd.R Kd.string 9 w' w.heap.size (fun _=>True) Ag Af)∧(b 3=true→∃ c_,(Ag:Value)=.slice (some adz_v473) Af.length c_)∧(b 5=true→y2 w0 w' g Ae Cg Ch)∧(b 6=true→(m6_:Value)=.pointer (some (adz_v473.add (Ad).toNat)))) HT_.out HW_.out (by kernel_rfl) (by kernel_rfl) ?_ ?_ ?_
      ·exact⟨.bool false,⟨0,0,none⟩,.bool false,by simp only [putSel,Bool.false_eq_true,if_false],fun _=>HI0.out,HK.out,HB.out,fun h_=>absurd h_ (by decide),fun h_=>absurd h_ (by decide),fun h_=>absurd h_ (by decide),fun h_=>absurd h_ (by decide)⟩
      ·skip
       clear HB HI0 HK
       refine steps_cons ?_ ?_
       ·rintro b a w' ⟨Ag,adz_v473,m6_,ha,Q_HI0,Q_HK,Q_HB,Q_HO474,Q_HA_HO474,Q_HI0_e5,Q_X6_⟩ hb_ hon hoff
        refine⟨_,rfl,fun K hK=>?_⟩
        have Fa:a.tmps[28]?=some (.string Aa):=by rw [ha];exact(putSel_off rfl).trans rfl
        have Fb:a.tmps[29]?=some (.int .i64 Ac):=by rw [ha];exact(putSel_off rfl).trans rfl
        replace ha:=y0.mk ha
        have HK:=y0.mk Q_HK
        have HB:=y0.mk Q_HB
        refine value_ (w1:=w') (v:=.string (Aa.extract 0 (Ac:Int).toNat)) (by rfl) rfl ?_ ?_
        ·go_simp
         (try simp only [i64_w])
         try rfl
        refine hK.out _ _ ⟨Ag,adz_v473,m6_,(by rw [ha.out];exact putSel_upk 0 hb_ rfl rfl rfl),Q_HI0,Q_HK,Q_HB,Q_HO474,Q_HA_HO474,Q_HI0_e5,Q_X6_⟩
       refine steps_cons ?_ ?_
       ·rintro b a w' ⟨Ag,adz_v473,m6_,ha,Q_HI0,Q_HK,Q_HB,Q_HO474,Q_HA_HO474,Q_HI0_e5,Q_X6_⟩ hb_ hon hoff
        refine⟨_,rfl,fun K hK=>?_⟩
        replace ha:=y0.mk ha
        have HK:=y0.mk Q_HK
        have HB:=y0.mk Q_HB
        refine qLs Kd.string 9 31 ([(⟨#[40]⟩:ByteArray),(⟨#[41]⟩:ByteArray),(⟨#[44]⟩:ByteArray),(⟨#[34]⟩:ByteArray),(⟨#[49]⟩:ByteArray),(⟨#[32]⟩:ByteArray)]:List ByteArray) ?_
        intro Ag Cx Bt hb hg_ hnew_
        clear hg_ hnew_
        (first|rw [← Bp.out]at Bt|(simp only [Int.reduceToNat]at Bt;rw [← Bp.out]at Bt))
        have n0_:=y0.mk (Kd.R_lower Bt (keep_size (w:=w) (g:=g) (row:=none) (qh (w:=w) (g:=g))))
        have n2_:=y0.mk (y3.trans (qh (w:=w) (g:=g)) (y3.of_below hb g none) (.inl rfl))
        have n3_:=y0.mk (y8 qb hb)
        have z_HI0:=fun(h0_:b 5=false)=>(show y2 w0 Cx g Ae Bh Bi from by first|exact(y2.below (by repeat(first|(with_reducible first|exact(Q_HI0 h0_)|apply y2.alloc|apply y2.drewN|apply y2.drew|apply y2.set_1|apply y2.set_2)|exact(Q_HI0 h0_))) hb))
        have z_HI0_e5:=fun(h0_:b 5=true)=>(show y2 w0 Cx g Ae Cg Ch from by first|exact(y2.below (by repeat(first|(with_reducible first|exact(Q_HI0_e5 h0_)|apply y2.alloc|apply y2.drewN|apply y2.drew|apply y2.set_1|apply y2.set_2)|exact(Q_HI0_e5 h0_))) hb))
        clear HK
        clear HB
        have Ah:=n0_
        have HK:=n2_
        have HB:=n3_
        clear n0_ n2_ n3_
        clear hb Bt
        obtain⟨Em,Df,Dg⟩:=Kd.R_slice Ah.out
        subst Dg
        obtain⟨Cc,Dh,_⟩:=Kd.at_string (Kd.R_reads' Ah.out).2.2 0 (by decide) (by rw [Bp.out];simp)
        cases Dh
        refine hK.out _ _ ⟨.slice (some Cc) Af.length Df,Cc,m6_,(by rw [ha.out];exact putSel_upk 1 hb_ rfl rfl rfl),z_HI0,(qh (w:=w) (g:=g)),qb,fun _=>(qR Ah.out),fun _=>⟨_,rfl⟩,z_HI0_e5,fun h0_=>absurd ((hoff 6 (by kernel_rfl)).symm.trans h0_) (by decide)⟩
       refine steps_cons ?_ ?_
       ·rintro b a w' ⟨Ag,adz_v473,m6_,ha,Q_HI0,Q_HK,Q_HB,Q_HO474,Q_HA_HO474,Q_HI0_e5,Q_X6_⟩ hb_ hon hoff
        refine⟨_,rfl,fun K hK=>?_⟩
        have Dz:a.tmps[32]?=some (.pointer (some ⟨g,0,none⟩)):=by rw [ha];exact(putSel_off rfl).trans rfl
        replace ha:=y0.mk ha
        have HI0:=y0.mk (Q_HI0 hb_)
        have HK:=y0.mk Q_HK
        have HB:=y0.mk Q_HB
        refine goes_ Tryz.func54 (by kernel_rfl) rfl #[.pointer (some ⟨g,0,none⟩),.int .i64 6] (by rfl) rfl rfl (by first|(simp only [qM_,List.map_cons,List.map_nil,Act.eval,Array.getD_eq_getD_getElem?,Option.getD_some,Dz];done)|(simp only [qM_,List.map_cons,List.map_nil,Act.eval,Array.getD_eq_getD_getElem?,Option.getD_some,Dz];rfl)) ?_
        with_reducible refine(z5_.calls g Ae Bh Bi 6 Ad Cg Ch w0 _ (by repeat(first|(with_reducible first|exact HI0.out|apply y2.alloc|apply y2.drewN|apply y2.drew|apply y2.set_1|apply y2.set_2)|exact HI0.out)) (by repeat(first|(with_reducible first|exact HB.out|apply y4|apply y23|apply y5|refine y6 ?_ (y2.ge HI0.out))|exact HB.out)) Ek.out).mono ?_
        rintro e Cx ⟨rfl,hi,hb,hk⟩
        refine⟨_,rfl, ?_⟩
        have n0_:=y0.mk (y3.trans (qh (w:=w) (g:=g)) hk (.inl rfl))
        have n1_:=y0.mk (hb)
        have n2_:=y0.mk (hi)
        have z_HO474:=fun(h0_:b 3=true)=>(show Kd.R Kd.string 9 Cx w.heap.size (fun _=>True) Ag Af from by first|exact(Kd.R_mono (Kd.R_keep (y2.apart (show y2 w0 _ g Ae Bh Bi from(y2.qj (w0:=w0) (g:=g))) (qR ((Q_HO474 h0_))) (by decide)) hk (fun _ h=>h.2)) (fun _ h=>h.1))|exact Kd.R_mono (Kd.R_mono (Kd.R_keep (y2.apart (show y2 w0 _ g Ae Bh Bi from(y2.qj (w0:=w0) (g:=g))) (qR ((Q_HO474 h0_))) (by decide)) hk (fun _ h=>h.2)) (fun _ h=>h.1)) (fun _ h_=>by first|trivial|exact h_|exact h_.1))
        clear HK
        clear HB
        clear HI0
        have HK:=n0_
        have HB:=n1_
        have HI0:=n2_
        clear n0_ n1_ n2_
        (try clear hb hk hi)
        refine hK.out _ _ ⟨Ag,adz_v473,m6_,(by rw [ha.out];exact putSel_upk 2 hb_ rfl rfl rfl),fun h0_=>absurd ((up_self b 5).symm.trans h0_) (by decide),(qh (w:=w) (g:=g)),y2.qbI,z_HO474,Q_HA_HO474,fun _=>(y2.qj (w0:=w0) (g:=g)),fun h0_=>absurd ((hoff 6 (by kernel_rfl)).symm.trans h0_) (by decide)⟩
       refine steps_cons ?_ ?_
       ·rintro b a w' ⟨Ag,adz_v473,m6_,ha,Q_HI0,Q_HK,Q_HB,Q_HO474,Q_HA_HO474,Q_HI0_e5,Q_X6_⟩ hb_ hon hoff
        refine⟨_,rfl,fun K hK=>?_⟩
        have En:a.tmps[31]?=some (Ag):=by rw [ha];exact putSel_on (e:=(3,31,Ag)) 1 rfl rfl (hon 3 (by kernel_rfl)) rfl
        have Fc:a.tmps[33]?=some (.int .i64 Ad):=by rw [ha];exact putSel_on (e:=(5,33,.int .i64 Ad)) 2 rfl rfl (hon 5 (by kernel_rfl)) rfl
        replace ha:=y0.mk ha
        have HK:=y0.mk Q_HK
        have HB:=y0.mk Q_HB
        have Ah:=y0.mk (Q_HO474 (hon 3 (by kernel_rfl)))
        have HA_HO474:=y0.mk (Q_HA_HO474 (hon 3 (by kernel_rfl)))
        have HI0:=y0.mk (Q_HI0_e5 (hon 5 (by kernel_rfl)))
        obtain⟨c_,hv_⟩:=HA_HO474.out
        rw [hv_]at En
        refine value_ (w1:=w') (v:=.pointer (some (adz_v473.add (Ad).toNat))) (by rfl) rfl ?_ ?_
        ·go_simp
         (try simp only [i64_w])
         try rfl
        refine hK.out _ _ ⟨Ag,adz_v473,(.pointer (some (adz_v473.add (Ad).toNat))),(by rw [ha.out];exact putSel_upk 3 hb_ rfl rfl rfl),fun h0_=>absurd ((hon 5 (by kernel_rfl)).symm.trans h0_) (by decide),Q_HK,Q_HB,Q_HO474,Q_HA_HO474,Q_HI0_e5,fun _=>rfl⟩
       refine steps_cons ?_ ?_
       ·rintro b a w' ⟨Ag,adz_v473,m6_,ha,Q_HI0,Q_HK,Q_HB,Q_HO474,Q_HA_HO474,Q_HI0_e5,Q_X6_⟩ hb_ hon hoff
        refine⟨_,rfl,fun K hK=>?_⟩
        have Eo:a.tmps[34]?=some (m6_):=by rw [ha];exact putSel_on (e:=(6,34,m6_)) 3 rfl rfl (hon 6 (by kernel_rfl)) rfl
        rw [Q_X6_ (hon 6 (by kernel_rfl))]at Eo
        replace ha:=y0.mk ha
        have HK:=y0.mk Q_HK
        have HB:=y0.mk Q_HB
        have Ah:=y0.mk (Q_HO474 (hon 3 (by kernel_rfl)))
        have HA_HO474:=y0.mk (Q_HA_HO474 (hon 3 (by kernel_rfl)))
        have HI0:=y0.mk (Q_HI0_e5 (hon 5 (by kernel_rfl)))
        obtain⟨c_,hv_⟩:=HA_HO474.out
        have hF_:=Ah.out
        rw [hv_]at hF_
        obtain⟨ad_,ea_,hx_⟩:=Kd.at_string (Kd.R_reads' hF_).2.2 Ad (of_eq_true Cs) (of_eq_true Ct)
        cases ea_
        refine value_ (w1:=w') (v:=.string (rdOf ByteArray.empty Af Ad)) (by rfl) rfl ?_ ?_
        ·go_simp
         (try simp only [i64_w])
         try rfl
        refine hK.out _ _ ⟨Ag,adz_v473,m6_,(by rw [ha.out];exact putSel_upk 4 hb_ rfl rfl rfl),fun h0_=>absurd ((hon 5 (by kernel_rfl)).symm.trans h0_) (by decide),Q_HK,Q_HB,Q_HO474,Q_HA_HO474,Q_HI0_e5,Q_X6_⟩
       refine steps_cons ?_ ?_
       ·rintro b a w' ⟨Ag,adz_v473,m6_,ha,Q_HI0,Q_HK,Q_HB,Q_HO474,Q_HA_HO474,Q_HI0_e5,Q_X6_⟩ hb_ hon hoff
        refine⟨_,rfl,fun K hK=>?_⟩
        have Fd:a.tmps[30]?=some (.string (Aa.extract 0 (Ac:Int).toNat)):=by rw [ha];exact putSel_on (e:=(2,30,.string (Aa.extract 0 (Ac:Int).toNat))) 0 rfl rfl (hon 2 (by kernel_rfl)) rfl
        have Fe:a.tmps[35]?=some (.string (rdOf ByteArray.empty Af Ad)):=by rw [ha];exact putSel_on (e:=(7,35,.string (rdOf ByteArray.empty Af Ad))) 4 rfl rfl (hon 7 (by kernel_rfl)) rfl
        replace ha:=y0.mk ha
        have HK:=y0.mk Q_HK
        have HB:=y0.mk Q_HB
        have Ah:=y0.mk (Q_HO474 (hon 3 (by kernel_rfl)))
        have HA_HO474:=y0.mk (Q_HA_HO474 (hon 3 (by kernel_rfl)))
        have HI0:=y0.mk (Q_HI0_e5 (hon 5 (by kernel_rfl)))
        refine value_ (w1:=w') (v:=.string ((Aa.extract 0 (Ac:Int).toNat) ++ (rdOf ByteArray.empty Af Ad))) (by rfl) rfl ?_ ?_
        ·go_simp
         (try simp only [i64_w])
         try first|rfl|(have hz_:=Ci;(try have hy20_:=of_eq_true c20b0);(try have hy21_:=of_eq_true Bn);(try have hy22_:=of_eq_true Bo);(try have hy23_:=of_eq_true c23b0);(try have hy24_:=of_eq_true Am);(try have hy25_:=of_eq_true Ap);(try have hy26_:=of_eq_true Aq);(try simp only [ByteArray.size_append,ByteArray.size_extract]at hz_);omega)|(have hz_:=Cj;(try have hy23_:=of_eq_true c23b0);(try have hy24_:=of_eq_true Am);(try have hy25_:=of_eq_true Ap);(try have hy26_:=of_eq_true Aq);(try have hy27_:=of_eq_true Bq);(try have hy28_:=of_eq_true Br);(try have hy29_:=of_eq_true Bs);(try simp only [ByteArray.size_append,ByteArray.size_extract]at hz_);omega)|(have hz_:=Ck;(try have hy37_:=of_eq_true c37b0);(try have hy38_:=of_eq_true c38b0);(try have hy39_:=of_eq_true c39b0);(try have hy40_:=of_eq_true c40b0);(try have hy41_:=of_eq_true c41b0);(try have hy42_:=of_eq_true Ak);(try have hy43_:=of_eq_true Au);(try simp only [ByteArray.size_append,ByteArray.size_extract]at hz_);omega)|(have hz_:=Cl;(try have hy38_:=of_eq_true c38b0);(try have hy39_:=of_eq_true c39b0);(try have hy40_:=of_eq_true c40b0);(try have hy41_:=of_eq_true c41b0);(try have hy42_:=of_eq_true Ak);(try have hy43_:=of_eq_true Au);(try have hy44_:=of_eq_true Bu);(try simp only [ByteArray.size_append,ByteArray.size_extract]at hz_);omega)
        refine hK.out _ _ ⟨Ag,adz_v473,m6_,(by rw [ha.out];exact putSel_upk 5 hb_ rfl rfl rfl),fun h0_=>absurd ((hon 5 (by kernel_rfl)).symm.trans h0_) (by decide),Q_HK,Q_HB,Q_HO474,Q_HA_HO474,Q_HI0_e5,Q_X6_⟩
       refine steps_cons ?_ ?_
       ·rintro b a w' ⟨Ag,adz_v473,m6_,ha,Q_HI0,Q_HK,Q_HB,Q_HO474,Q_HA_HO474,Q_HI0_e5,Q_X6_⟩ hb_ hon hoff
        refine⟨_,rfl,fun K hK=>?_⟩
        have Ff:a.tmps[37]?=some (.string Aa):=by rw [ha];exact(putSel_off rfl).trans rfl
        have Fg:a.tmps[38]?=some (.int .i64 Ac):=by rw [ha];exact(putSel_off rfl).trans rfl
        replace ha:=y0.mk ha
        have HK:=y0.mk Q_HK
        have HB:=y0.mk Q_HB
        refine value_ (w1:=w') (v:=.string (Aa.extract (Ac:Int).toNat Aa.size)) (by rfl) rfl ?_ ?_
        ·go_simp
         (try simp only [i64_w])
         try rfl
        refine hK.out _ _ ⟨Ag,adz_v473,m6_,(by rw [ha.out];exact putSel_upk 6 hb_ rfl rfl rfl),Q_HI0,Q_HK,Q_HB,Q_HO474,Q_HA_HO474,Q_HI0_e5,Q_X6_⟩
       refine steps_cons ?_ ?_
       ·rintro b a w' ⟨Ag,adz_v473,m6_,ha,Q_HI0,Q_HK,Q_HB,Q_HO474,Q_HA_HO474,Q_HI0_e5,Q_X6_⟩ hb_ hon hoff
        refine⟨_,rfl,fun K hK=>?_⟩
        have Fh:a.tmps[36]?=some (.string ((Aa.extract 0 (Ac:Int).toNat) ++ (rdOf ByteArray.empty Af Ad))):=by rw [ha];exact putSel_on (e:=(8,36,.string ((Aa.extract 0 (Ac:Int).toNat) ++ (rdOf ByteArray.empty Af Ad)))) 5 rfl rfl (hon 8 (by kernel_rfl)) rfl
        have Fi:a.tmps[39]?=some (.string (Aa.extract (Ac:Int).toNat Aa.size)):=by rw [ha];exact putSel_on (e:=(11,39,.string (Aa.extract (Ac:Int).toNat Aa.size))) 6 rfl rfl (hon 11 (by kernel_rfl)) rfl
        replace ha:=y0.mk ha
        have HK:=y0.mk Q_HK
        have HB:=y0.mk Q_HB
        have Ah:=y0.mk (Q_HO474 (hon 3 (by kernel_rfl)))
        have HA_HO474:=y0.mk (Q_HA_HO474 (hon 3 (by kernel_rfl)))
        have HI0:=y0.mk (Q_HI0_e5 (hon 5 (by kernel_rfl)))
        refine value_ (w1:=w') (v:=.string (((Aa.extract 0 (Ac:Int).toNat) ++ (rdOf ByteArray.empty Af Ad)) ++ (Aa.extract (Ac:Int).toNat Aa.size))) (by rfl) rfl ?_ ?_
        ·go_simp
         (try simp only [i64_w])
         try first|rfl|(have hz_:=Ci;(try have hy20_:=of_eq_true c20b0);(try have hy21_:=of_eq_true Bn);(try have hy22_:=of_eq_true Bo);(try have hy23_:=of_eq_true c23b0);(try have hy24_:=of_eq_true Am);(try have hy25_:=of_eq_true Ap);(try have hy26_:=of_eq_true Aq);(try simp only [ByteArray.size_append,ByteArray.size_extract]at hz_);omega)|(have hz_:=Cj;(try have hy23_:=of_eq_true c23b0);(try have hy24_:=of_eq_true Am);(try have hy25_:=of_eq_true Ap);(try have hy26_:=of_eq_true Aq);(try have hy27_:=of_eq_true Bq);(try have hy28_:=of_eq_true Br);(try have hy29_:=of_eq_true Bs);(try simp only [ByteArray.size_append,ByteArray.size_extract]at hz_);omega)|(have hz_:=Ck;(try have hy37_:=of_eq_true c37b0);(try have hy38_:=of_eq_true c38b0);(try have hy39_:=of_eq_true c39b0);(try have hy40_:=of_eq_true c40b0);(try have hy41_:=of_eq_true c41b0);(try have hy42_:=of_eq_true Ak);(try have hy43_:=of_eq_true Au);(try simp only [ByteArray.size_append,ByteArray.size_extract]at hz_);omega)|(have hz_:=Cl;(try have hy38_:=of_eq_true c38b0);(try have hy39_:=of_eq_true c39b0);(try have hy40_:=of_eq_true c40b0);(try have hy41_:=of_eq_true c41b0);(try have hy42_:=of_eq_true Ak);(try have hy43_:=of_eq_true Au);(try have hy44_:=of_eq_true Bu);(try simp only [ByteArray.size_append,ByteArray.size_extract]at hz_);omega)
        refine hK.out _ _ ⟨Ag,adz_v473,m6_,(by rw [ha.out];exact putSel_upk 7 hb_ rfl rfl rfl),fun h0_=>absurd ((hon 5 (by kernel_rfl)).symm.trans h0_) (by decide),Q_HK,Q_HB,Q_HO474,Q_HA_HO474,Q_HI0_e5,Q_X6_⟩
       refine steps_cons ?_ ?_
       ·rintro b a w' ⟨Ag,adz_v473,m6_,ha,Q_HI0,Q_HK,Q_HB,Q_HO474,Q_HA_HO474,Q_HI0_e5,Q_X6_⟩ hb_ hon hoff
        refine⟨_,rfl,fun K hK=>?_⟩
        have Fj:a.tmps[40]?=some (.string (((Aa.extract 0 (Ac:Int).toNat) ++ (rdOf ByteArray.empty Af Ad)) ++ (Aa.extract (Ac:Int).toNat Aa.size))):=by rw [ha];exact putSel_on (e:=(12,40,.string (((Aa.extract 0 (Ac:Int).toNat) ++ (rdOf ByteArray.empty Af Ad)) ++ (Aa.extract (Ac:Int).toNat Aa.size)))) 7 rfl rfl (hon 12 (by kernel_rfl)) rfl
        replace ha:=y0.mk ha
        have HK:=y0.mk Q_HK
        have HB:=y0.mk Q_HB
        have Ah:=y0.mk (Q_HO474 (hon 3 (by kernel_rfl)))
        have HA_HO474:=y0.mk (Q_HA_HO474 (hon 3 (by kernel_rfl)))
        have HI0:=y0.mk (Q_HI0_e5 (hon 5 (by kernel_rfl)))
        refine value_ (w1:=w') (v:=.string (((Aa.extract 0 (Ac:Int).toNat) ++ (rdOf ByteArray.empty Af Ad)) ++ (Aa.extract (Ac:Int).toNat Aa.size))) (by rfl) rfl ?_ ?_
        ·go_simp
         (try simp only [i64_w])
         try first|rfl|(have hz_:=Ci;(try have hy20_:=of_eq_true c20b0);(try have hy21_:=of_eq_true Bn);(try have hy22_:=of_eq_true Bo);(try have hy23_:=of_eq_true c23b0);(try have hy24_:=of_eq_true Am);(try have hy25_:=of_eq_true Ap);(try have hy26_:=of_eq_true Aq);(try simp only [ByteArray.size_append,ByteArray.size_extract]at hz_);omega)|(have hz_:=Cj;(try have hy23_:=of_eq_true c23b0);(try have hy24_:=of_eq_true Am);(try have hy25_:=of_eq_true Ap);(try have hy26_:=of_eq_true Aq);(try have hy27_:=of_eq_true Bq);(try have hy28_:=of_eq_true Br);(try have hy29_:=of_eq_true Bs);(try simp only [ByteArray.size_append,ByteArray.size_extract]at hz_);omega)|(have hz_:=Ck;(try have hy37_:=of_eq_true c37b0);(try have hy38_:=of_eq_true c38b0);(try have hy39_:=of_eq_true c39b0);(try have hy40_:=of_eq_true c40b0);(try have hy41_:=of_eq_true c41b0);(try have hy42_:=of_eq_true Ak);(try have hy43_:=of_eq_true Au);(try simp only [ByteArray.size_append,ByteArray.size_extract]at hz_);omega)|(have hz_:=Cl;(try have hy38_:=of_eq_true c38b0);(try have hy39_:=of_eq_true c39b0);(try have hy40_:=of_eq_true c40b0);(try have hy41_:=of_eq_true c41b0);(try have hy42_:=of_eq_true Ak);(try have hy43_:=of_eq_true Au);(try have hy44_:=of_eq_true Bu);(try simp only [ByteArray.size_append,ByteArray.size_extract]at hz_);omega)
        refine hK.out _ _ ⟨Ag,adz_v473,m6_,(by rw [ha.out];exact putSel_upk 8 hb_ rfl rfl rfl),fun h0_=>absurd ((hon 5 (by kernel_rfl)).symm.trans h0_) (by decide),Q_HK,Q_HB,Q_HO474,Q_HA_HO474,Q_HI0_e5,Q_X6_⟩
       exact steps_nil
      rintro b a Fk hall ⟨Ag,adz_v473,m6_,ha,Q_HI0,Q_HK,Q_HB,Q_HO474,Q_HA_HO474,Q_HI0_e5,Q_X6_⟩
      clear HB HI0 HK
      have hb2_:=hall 2 (by kernel_rfl)
      have hb3_:=hall 3 (by kernel_rfl)
      have hb5_:=hall 5 (by kernel_rfl)
      have hb6_:=hall 6 (by kernel_rfl)
      have hb7_:=hall 7 (by kernel_rfl)
      have hb8_:=hall 8 (by kernel_rfl)
      have hb11_:=hall 11 (by kernel_rfl)
      have hb12_:=hall 12 (by kernel_rfl)
      have hb13_:=hall 13 (by kernel_rfl)
      subst ha
      obtain rfl:=Q_X6_ hb6_
      simp only [putSel,hb2_,hb3_,hb5_,hb6_,hb7_,hb8_,hb11_,hb12_,hb13_,if_true,Act.put,qS_,qZ_,qC_]
      clear Q_HI0
      have HK:=y0.mk Q_HK
      clear Q_HK
      have HB:=y0.mk Q_HB
      clear Q_HB
      have Ah:=y0.mk (Q_HO474 hb3_)
      clear Q_HO474
      have HA_HO474:=y0.mk (Q_HA_HO474 hb3_)
      clear Q_HA_HO474
      have HI0:=y0.mk (Q_HI0_e5 hb5_)
      clear Q_HI0_e5
      clear hall hb2_ hb3_ hb5_ hb6_ hb7_ hb8_ hb11_ hb12_ hb13_
      obtain⟨Ep,Di⟩:=HA_HO474.out
      clear HA_HO474
      subst Di
      try go_wp2
      go_ret
      exact⟨qf,(y2.qj (w0:=w0) (g:=g)),y2.qbI,(qh (w:=w) (g:=g))⟩
     ·rw [if_neg Cf]at H
      have Bz:(Ai == 1)=false:=beq_eq_false_iff_ne.mpr Cf
      have Ca:(Ai != 1)=true:=bne_iff_ne.mpr Cf
      have H':=y0.mk H
      clear H
      go_wp2_with (first|((with_reducible refine y19 (f:=67) rfl ?_);refine y22 (some 11) rfl rfl Tryz.func67 (by kernel_rfl) rfl #[.pointer (some ⟨g,0,none⟩),.int .i64 5] rfl qy0 ?_;(with_reducible refine(spec_l01Cur_once.calls g Ae Aw Ay 5 true Bf Bg w0 _ (by repeat(first|(with_reducible first|exact HI0.out|apply y2.alloc|apply y2.drewN|apply y2.drew|apply y2.set_1|apply y2.set_2)|exact HI0.out)) (by repeat(first|(with_reducible first|exact HB.out|apply y4|apply y23|apply y5|refine y6 ?_ (y2.ge HI0.out))|exact HB.out)) A6.out).mono ?_);rintro e Fl ⟨rfl,hi,hb,hk⟩;refine⟨_,rfl, ?_⟩;replace HK:=y0.mk (y3.trans (qh (w:=w) (g:=g)) hk (.inl rfl));replace HB:=y0.mk (hb);replace HI0:=y0.mk (hi);(try clear hb hk hi))|((with_reducible refine y19 (f:=54) rfl ?_);refine y22 (some 13) rfl rfl Tryz.func54 (by kernel_rfl) rfl #[.pointer (some ⟨g,0,none⟩),.int .i64 3] rfl qy0 ?_;(with_reducible refine(z5_.calls g Ae Bf Bg 3 Ai Az Ba w0 _ (by repeat(first|(with_reducible first|exact HI0.out|apply y2.alloc|apply y2.drewN|apply y2.drew|apply y2.set_1|apply y2.set_2)|exact HI0.out)) (by repeat(first|(with_reducible first|exact HB.out|apply y4|apply y23|apply y5|refine y6 ?_ (y2.ge HI0.out))|exact HB.out)) A8.out).mono ?_);rintro e Fm ⟨rfl,hi,hb,hk⟩;refine⟨_,rfl, ?_⟩;replace HK:=y0.mk (y3.trans (qh (w:=w) (g:=g)) hk (.inl rfl));replace HB:=y0.mk (hb);replace HI0:=y0.mk (hi);(try clear hb hk hi)))
      go_loopg [3] Dk (fun kq v3 w'=>∃(Aa:ByteArray),v3=.string Aa∧y0 (spec_l01Cur_any.l0 kq Aa Ae Az Ba=some (r1,r2,r3))∧y0 (kq≤Dk)∧y0 (y2 w0 w' g Ae Az Ba)∧y0 (y3 w w' g none)∧y0 (Below w0.heap.size w0 w'))
      case atStart=>exact⟨(Aa),qy2,H',⟨Nat.le_refl _⟩,⟨(y2.qj (w0:=w0) (g:=g))⟩,⟨(qh (w:=w) (g:=g))⟩,⟨y2.qbI⟩⟩
      case round =>
       clear H'
       (try clear c7 Cn Co Bz Ca)
       obtain⟨Aa,rfl,HA,Ea,HI0,HK,HB⟩:=hrel
       cases gk with
       | zero=>exact absurd HA.out (by simp [spec_l01Cur_any.l0])
       | succ k2 =>
        have H:=HA.out
        clear HA
        simp only [spec_l01Cur_any.l0]at H
        by_cases Cm:(Aa.size:Int)≤200
        ·rw [if_pos Cm]at H
         have Ak:=decide_eq_true Cm
         have Cu:decide (Aa.size≤200)=true:=decide_eq_true (by omega)
         clear Cm
         obtain⟨Ck,H⟩:=qo H
         have Au:=eq_true Ck
         have Eb:=decide_eq_true Ck
         have Ec:=eq_false (Nat.not_lt.2 Ck)
         obtain⟨Cl,H⟩:=qo H
         have Bu:=eq_true Cl
         have Ed:=decide_eq_true Cl
         have Cv:=eq_false (Nat.not_lt.2 Cl)
         have Ee:(9223372036854775807 < 2 + Aa.size + 1)=False:=qs Cv
         have H':=y0.mk H
         clear H
         go_wp2
         go_roundg k2
         case measure=>have:=Dj.out;have:=Ea.out;omega
         exact⟨(((⟨#[83,40]⟩:ByteArray) ++ Aa) ++ (⟨#[41]⟩:ByteArray)),qy2,H',⟨by have:=Dj.out;have:=Ea.out;omega⟩,⟨(y2.qj (w0:=w0) (g:=g))⟩,⟨(qh (w:=w) (g:=g))⟩,⟨y2.qbI⟩⟩
        ·rw [if_neg Cm]at H
         have Ak:=decide_eq_false Cm
         have Cu:decide (Aa.size≤200)=false:=decide_eq_false (by omega)
         clear Cm
         simp only [Option.some.injEq,Prod.mk.injEq]at H
         obtain⟨rfl,rfl,rfl⟩:=H
         go_wp2
         go_ret
         exact⟨qf,(y2.qj (w0:=w0) (g:=g)),y2.qbI,(qh (w:=w) (g:=g))⟩
   ·replace c7:=Bool.eq_false_iff.mpr c7
    subst c7
    replace H:=qF H
    simp only [Option.some.injEq,Prod.mk.injEq]at H
    obtain⟨rfl,rfl,rfl⟩:=H
    go_wp2_with (first|((with_reducible refine y19 (f:=67) rfl ?_);refine y22 (some 11) rfl rfl Tryz.func67 (by kernel_rfl) rfl #[.pointer (some ⟨g,0,none⟩),.int .i64 5] rfl qy0 ?_;(with_reducible refine(spec_l01Cur_once.calls g Ae Aw Ay 5 false Bf Bg w0 _ (by repeat(first|(with_reducible first|exact HI0.out|apply y2.alloc|apply y2.drewN|apply y2.drew|apply y2.set_1|apply y2.set_2)|exact HI0.out)) (by repeat(first|(with_reducible first|exact HB.out|apply y4|apply y23|apply y5|refine y6 ?_ (y2.ge HI0.out))|exact HB.out)) A6.out).mono ?_);rintro e Fn ⟨rfl,hi,hb,hk⟩;refine⟨_,rfl, ?_⟩;replace HK:=y0.mk (y3.trans (qh (w:=w) (g:=g)) hk (.inl rfl));replace HB:=y0.mk (hb);replace HI0:=y0.mk (hi);(try clear hb hk hi)))
    go_ret
    exact⟨qf,(y2.qj (w0:=w0) (g:=g)),y2.qbI,(qh (w:=w) (g:=g))⟩
end Go.Proofs.YtkajecadkkgfmaaGreatDoor.Pn
end
section
namespace Go.Proofs.YtkajecadkkgfmaaGreatDoor.Pn
open Go.RowKit Go.Proofs.YtkajecadkkgfmaaGreatDoorW.PrintWords Go.Proofs.YtkajecadkkgfmaaGreatDoorW.PrintLast Go.Proofs.YtkajecadkkgfmaaGreatDoorW.PrintMore
attribute [local go_sem] max2_int min2_int max_two min_two max_three min_three max_four min_four   -- for this text's walks alone
set_option linter.unusedVariables false
set_option linter.unusedSimpArgs false
def z8_.l0:Nat→Int→Int→List Int→Int→Int→List ByteArray→Option (List ByteArray×Int×Int)
 | 0,_,_,_,_,_,_=>none
 | k + 1,x1,x6,x1000,x1001,x1002,x481000=>if x6 < x1 then((z7_.f k x1000 x1001 x1002 1).bind fun bt481=>(if x481000.length < 8796093022208 then(z8_.l0 k x1 (wrap64 (x6 + 1)) x1000 bt481.2.1 bt481.2.2 (x481000 ++ [bt481.1]))else(none)))else((spec_l01Cur_once.f x1000 x1001 x1002 20).bind fun bt487=>(if bt487.1=true then((spec_l01Cur_any.f k x1000 bt487.2.1 bt487.2.2).bind fun bt490=>(if x481000.length < 8796093022208 then(some ((x481000 ++ [bt490.1]),bt490.2.1,bt490.2.2))else(none)))else(some (x481000,bt487.2.1,bt487.2.2))))
def z8_.f (k:Nat) (s0_0:List Int) (s0_1:Int) (s0_2:Int) (a1:Int):Option (List ByteArray×Int×Int):=z8_.l0 k a1 0 s0_0 s0_1 s0_2 ([]:List ByteArray)
def z8_.T5:Bool×List (List Nat×List Nat):=(true,[([],[]),([0],[0]),([],[]),([2],[2]),([3],[3]),([1,4,3],[1,4]),([0,1,2,3,4,5],[]),([6,5,5,0,1,2,3,4,5],[5,6])])
def z8_.B5:List Nat:=[0,1,0,4,12,31,63,127]
theorem z8_.tab5:rtab .any (opsOf Tryz.f59 5)=z8_.T5:=by kernel_rfl
theorem z8_.bits5:waitsOk z8_.T5.2 z8_.B5=true:=by kernel_rfl
def z8_.T7:Bool×List (List Nat×List Nat):=(true,[([],[]),([0],[0]),([],[]),([2],[2]),([3],[3]),([1,4,3],[1,4]),([0,1,2,3,4,5],[]),([6,5,5,0,1,2,3,4,5],[5,6])])
def z8_.B7:List Nat:=[0,1,0,4,12,31,63,127]
theorem z8_.tab7:rtab .any (opsOf Tryz.f59 7)=z8_.T7:=by kernel_rfl
theorem z8_.bits7:waitsOk z8_.T7.2 z8_.B7=true:=by kernel_rfl
set_option maxHeartbeats 8000000 in
set_option maxRecDepth 100000 in
theorem z8_.calls (k:Nat) (g:Nat) (Al:List Int) (Aw:Int) (Ay:Int) (a1:Int) (r1:List ByteArray) (r2:Int) (r3:Int) (w0 w:World) (hI:y2 w0 w g Al Aw Ay) (hB:Below w0.heap.size w0 w) (h:z8_.f k Al Aw Ay a1=some (r1,r2,r3)) :
  Calls Tryz.prog 59 #[.pointer (some ⟨g,0,none⟩),.int .i64 a1] w fun e w'=>∃ v0_:Value,e=.returned (.agg #[v0_])∧Kd.R Kd.string 9 w' w.heap.size (fun _=>True) v0_ r1∧y2 w0 w' g Al r2 r3∧Below w0.heap.size w0 w'∧y3 w w' g none:=by
 have Dq:=Tryz.underlying36
 have HI0:=y0.mk hI
 have HK:=y0.mk (y3.refl w g none)
 have HL:=y0.mk hB.size
 clear hI
 have Cv:=y0.mk hB.size
 have HB:=y0.mk hB
 clear hB
 have H:(z8_.l0 k a1 0 Al Aw Ay ([]:List ByteArray))=some (r1,r2,r3):=h
 clear h
 have H':=y0.mk H
 clear H
 go_enter Tryz.func59,Tryz.ntmps59
 go_wp2_with (first|((with_reducible refine y20 (N:=4) rfl ?_);refine qe 4 #[.slice none 0 0] 36 ?_;intro Ak hg w3 hbox hb;replace HB:=y0.mk (y8 y2.qbI hb);have Ad:=y0.mk (hbox);have Cw:=y0.mk ((by rw [hg];exact(keep_size (w:=w) (g:=g) (row:=none) (qh (w:=w) (g:=g))):w.heap.size≤Ak));have Bc:=y0.mk ((Nat.le_trans Cv.out (by rw [hg];exact(keep_size (w:=w) (g:=g) (row:=none) (qh (w:=w) (g:=g))):w.heap.size≤Ak):w0.heap.size≤Ak));replace HK:=y0.mk (y3.trans (qh (w:=w) (g:=g)) (y3.of_below hb g none) (.inl rfl));have Au:=y0.mk ((by rw [hg];exact Nat.ne_of_lt (y2.lt (show y2 w0 _ g Al Aw Ay from(y2.qj (w0:=w0) (g:=g)))):g≠Ak));have Av:=y0.mk ((by rw [hg];exact Nat.ne_of_gt (y2.lt (show y2 w0 _ g Al Aw Ay from(y2.qj (w0:=w0) (g:=g)))):Ak≠g));replace HI0:=y0.mk (y2.below (y2.qj (w0:=w0) (g:=g)) hb);clear hb hbox hg)|((with_reducible refine y20 (N:=5) rfl ?_);refine qe 5 #[.slice none 0 0] 36 ?_;intro Ah hg w4 hbox hb;replace HB:=y0.mk (y8 y2.qbI hb);have Ac:=y0.mk (hbox);have Cx:=y0.mk ((by rw [hg];exact(keep_size (w:=w) (g:=g) (row:=none) (qh (w:=w) (g:=g))):w.heap.size≤Ah));have Bd:=y0.mk ((Nat.le_trans Cv.out (by rw [hg];exact(keep_size (w:=w) (g:=g) (row:=none) (qh (w:=w) (g:=g))):w.heap.size≤Ah):w0.heap.size≤Ah));replace HK:=y0.mk (y3.trans (qh (w:=w) (g:=g)) (y3.of_below hb g none) (.inl rfl));have Ag:=y0.mk (qn Ad.out hg);have Am:=y0.mk (qm Ad.out hg);replace Ad:=y0.mk (qK Ad.out hb);have Ap:=y0.mk ((by rw [hg];exact Nat.ne_of_lt (y2.lt (show y2 w0 _ g Al Aw Ay from(y2.qj (w0:=w0) (g:=g)))):g≠Ah));have Aq:=y0.mk ((by rw [hg];exact Nat.ne_of_gt (y2.lt (show y2 w0 _ g Al Aw Ay from(y2.qj (w0:=w0) (g:=g)))):Ah≠g));replace HI0:=y0.mk (y2.below (y2.qj (w0:=w0) (g:=g)) hb);clear hb hbox hg;have Dr:=Am.out;have Ds:=Ag.out;have Dt:=Aq.out;have Du:=Ap.out;obtain⟨Bo,Bp⟩:=qz1 Ac.out))
 go_loopg [6] k (fun kq v6 w'=>∃(Bb:Int) (Ai:Int) (Aj:Int) (Ae:List ByteArray) (Af:Value),v6=.int .i64 Bb∧y0 (z8_.l0 kq a1 Bb Al Ai Aj Ae=some (r1,r2,r3))∧y0 (kq≤k)∧y0 (Kd.R Kd.string 9 w' w.heap.size (fun _=>True) Af Ae)∧y0 (w'.heap[Ak]?=some (.cells #[(.slice none 0 0)] 36 (0,0)))∧y0 (w'.heap[Ah]?=some (.cells #[Af] 36 (0,0)))∧y0 (y2 w0 w' g Al Ai Aj)∧y0 (y3 w w' g none)∧y0 (Below w0.heap.size w0 w'))
 case atStart=>exact⟨(0),(Aw),(Ay),(([]:List ByteArray)),(.slice none 0 0),qy2,H',⟨Nat.le_refl _⟩,⟨by first|exact Kd.R_nil _ _ _ _ _|exact Kd.N_nil _ _ _ _ _|exact Kd.V_nil _ _ _ _ _|exact Kd.Q_nil _ _ _ _ _|exact Kd.S_nil _ _ _ _ _⟩,⟨by(with_reducible repeat(first|refine y13 ?_ _|refine y12 ?_|refine y9 ?_ _));refine y14 ?_ Ag.out _;(with_reducible repeat(first|refine y13 ?_ _|refine y12 ?_|refine y9 ?_ _));exact Ad.out⟩,⟨by(with_reducible repeat(first|refine y13 ?_ _|refine y12 ?_|refine y9 ?_ _));refine y16 (cs:=#[.slice none 0 0]) ?_ 0 _ rfl;(with_reducible repeat(first|refine y13 ?_ _|refine y12 ?_|refine y9 ?_ _));exact Ac.out⟩,⟨(y2.qj (w0:=w0) (g:=g))⟩,⟨(qh (w:=w) (g:=g))⟩,⟨y2.qbI⟩⟩
 case round =>
  clear H'
  (try clear Bo Bp)
  obtain⟨Bb,Ai,Aj,Ae,Af,rfl,HA,Cy,Aa,Ad,Ac,HI0,HK,HB⟩:=hrel
  cases gk with
  | zero=>exact absurd HA.out (by simp [z8_.l0])
  | succ k1 =>
   have H:=HA.out
   clear HA
   simp only [z8_.l0]at H
   by_cases c8:Bb < a1
   ·rw [if_pos c8]at H
    have Cs:=decide_eq_true c8
    clear c8
    obtain⟨⟨Be,Bg,Bh⟩,A9,H⟩:=qB H
    replace H:(if Ae.length < 8796093022208 then(z8_.l0 k1 a1 (wrap64 (Bb + 1)) Al Bg Bh (Ae ++ [Be]))else(none))=some (r1,r2,r3):=H
    obtain⟨Cz,H⟩:=qo H
    have Bu:=y0.mk Cz
    clear Cz
    obtain⟨Bi,Az⟩:∃ y_:List ByteArray,y_=(Ae ++ [Be]):=⟨_,rfl⟩
    replace H:(z8_.l0 k1 a1 (wrap64 (Bb + 1)) Al Bg Bh Bi)=some (r1,r2,r3):=by first|(rw [Az];with_reducible exact H)|(have H2_:=(Option.bind_some _ _).symm.trans H;rw [Az];with_reducible exact H2_)|(have H2_:=(Option.bind_some _ _).symm.trans H;with_reducible exact H2_)|with_reducible exact H|(rw [Az];exact H)|exact H
    have Bv:=y0.mk Az
    clear Az
    have H':=y0.mk H
    clear H
    try go_wp2
    replace Aa:=y0.mk (Kd.R_drew Aa.out)
    replace Ad:=y0.mk (y12 Ad.out)
    replace Ac:=y0.mk (y12 Ac.out)
    replace HI0:=y0.mk (y2.drew HI0.out)
    replace HK:=y0.mk (keep_drew HK.out)
    replace HB:=y0.mk (y5 HB.out)
    refine start_ (n:=8) (S:=fun w'=>w'.cell? ⟨Ah,0,none⟩=some (Af)) (ds:=[7]) (fl_ 8 0) (by kernel_rfl) rfl rfl ((y11 Ac.out 0).trans rfl) (fun hHeld=>?_);refine with_tabW z8_.tab5 z8_.bits5 (fun HT_ HW_=>?_)
    generalize wr.drew=Ed at Aa Ad Ac HI0 HK HB hHeld ⊢
    refine qp 0 13 (fl_ 8 1) ?_
    refine qp 2 15 (fl_ 8 5) ?_
    refine qt 1 14 (fl_ 8 7) hHeld ?_
    refine qO 3 16 (fl_ 8 15) (fun K hK=>?_)
    refine goes_ Tryz.func84 (by kernel_rfl) rfl #[.pointer (some ⟨g,0,none⟩),.int .i64 1] (by rfl) rfl rfl qy0 ?_
    with_reducible refine(z7_.calls k1 g Al Ai Aj 1 Be Bg Bh w0 _ (by repeat(first|(with_reducible first|exact HI0.out|apply y2.alloc|apply y2.drewN|apply y2.drew|apply y2.set_1|apply y2.set_2|refine y2.far ?_ Au.out _|refine y2.far ?_ Ap.out _)|exact HI0.out)) (by repeat(first|(with_reducible first|exact HB.out|apply y4|apply y23|apply y5|refine y6 ?_ (y2.ge HI0.out)|refine y6 ?_ Bc.out|refine y6 ?_ Bd.out)|exact HB.out)) A9.out).mono ?_
    rintro e Ee ⟨rfl,hi,hb,hk⟩
    refine⟨_,rfl, ?_⟩
    replace Aa:=y0.mk (Kd.R_mono (Kd.R_keep (y2.apart (show y2 w0 _ g Al Ai Aj from(y2.qj (w0:=w0) (g:=g))) (qR Aa.out) (by decide)) hk (fun _ h=>h.2)) (fun _ h=>h.1))
    replace Ad:=y0.mk (y3.blk hk (g':=Ak) (o:=.cells #[.slice none 0 0] 36 (0,0)) (qk Ad.out) Av.out (by simp))
    replace Ac:=y0.mk (y3.blk hk (g':=Ah) (o:=.cells #[Af] 36 (0,0)) (qk Ac.out) Aq.out (by simp))
    replace HK:=y0.mk (y3.trans (qh (w:=w) (g:=g)) hk (.inl rfl))
    replace HB:=y0.mk (hb)
    replace HI0:=y0.mk (hi)
    (try clear hb hk hi)
    refine hK.out _ _ ((y11 Ac.out 0).trans rfl) (fun hHeld=>?_)
    clear hK K
    refine qx 16 ?_
    refine qO 4 17 (fl_ 8 31) (fun K hK=>?_)
    refine value_ (w1:=?_) (v:=?_) (by rfl) rfl ?_ ?_
    rotate_left 2
    ·go_simp
     constructor
     ·rfl
     ·rfl
    refine hK.out _ _ ((y11 (y9 Ac.out _) 0).trans rfl) (fun hHeld=>?_)
    clear hK K
    refine qx 17 ?_
    refine qO 5 18 (fl_ 8 63) (fun K hK=>?_)
    refine Kd.R_append_step Kd.string w.heap.size (by rfl) (.tmp 14) (.tmp 17) 25 9 (.string ⟨#[]⟩) 16 rfl Tryz.underlying25 info9 rfl (by decide) (by omega) Af Ae Be [.string Be] (fun _=>True) (fun _=>False) rfl rfl ?aP (fun _ hk=>hk.elim) ?aF ?aO (Below.refl _ _) ?aS ?aL ?_
    (case aP=>exact rfl)
    (case aF=>exact(fun _ _=>trivial))
    (case aO=>exact(qR Aa.out))
    (case aS=>exact(keep_size (w:=w) (g:=g) (row:=none) (qh (w:=w) (g:=g))))
    (case aL=>have:=Bu.out;omega)
    intro Dv Dw ho hb hg hat
    rw [← Bv.out]at ho
    replace Ad:=y0.mk (blk_grown (qk Ad.out) hg (Kd.R_ne Aa.out Ad.out (by decide)))
    replace Ac:=y0.mk (blk_grown (qk Ac.out) hg (Kd.R_ne Aa.out Ac.out (by decide)))
    replace HI0:=y0.mk (y2.grown (y2.qj (w0:=w0) (g:=g)) hg (y2.own_ne HI0.out Aa.out (by decide)))
    replace HB:=y0.mk (below_weaken y2.qbI HL.out hb)
    replace HK:=y0.mk (y3.trans (qh (w:=w) (g:=g)) (y3.of_grown hg g) (Kd.R_base2 Aa.out))
    have Bm:=y0.mk (ho)
    clear Aa
    clear ho hb hg hat
    obtain⟨Bw,Bx,Bz⟩:=Kd.R_slice Bm.out
    (first|subst Bz|(injection Bz with f1_ f2_ f3_;have f4_:=f1_.symm;have f5_:=f3_.symm;clear f1_ f2_ f3_;subst f4_;subst f5_))
    refine hK.out _ _ ((y11 Ac.out 0).trans rfl) (fun hHeld=>?_)
    clear hK K
    refine qx 18 ?_
    refine qp 6 19 (fl_ 8 127) ?_
    refine last_ (i:=7) (N:=none) (fl_ 8 255) rfl rfl (one_of HT_.out (by kernel_rfl)) (by decide) (fun K hK=>?_)
    have Dx:Dw.cell? ⟨Ah,0,none⟩=some (Af):=(y11 Ac.out 0).trans rfl
    have Da:=y15 Ac.out 0
    have Cf:=Ag.out
    have Cg:=Am.out
    refine skip_ (w1:=?_) (by rfl) rfl ?_ ?_
    rotate_left
    ·go_simp
     rfl
    refine hK.out _ _ ?_
    clear hK K
    refine done_ (done_of HT_.out (by kernel_rfl)) ?_
    try go_wp2
    go_roundg k1
    case measure=>have:=Cy.out;omega
    exact⟨(wrap64 (Bb + 1)),(Bg),(Bh),(Bi),(.slice Bw Bi.length Bx),qy2,H',⟨by have:=Cy.out;omega⟩,⟨qR (Kd.R_mono (Kd.R_far (p:=⟨Ah,0,none⟩) (Kd.R_types Bm.out Ac.out (by decide)) (fun _ hk=>hk.2) (.slice Bw Bi.length Bx)) (fun _ hk=>trivial))⟩,⟨by(with_reducible repeat(first|refine y13 ?_ _|refine y12 ?_|refine y9 ?_ _));refine y14 ?_ Ag.out _;(with_reducible repeat(first|refine y13 ?_ _|refine y12 ?_|refine y9 ?_ _));exact Ad.out⟩,⟨by(with_reducible repeat(first|refine y13 ?_ _|refine y12 ?_|refine y9 ?_ _));refine y16 (cs:=#[Af]) ?_ 0 _ rfl;(with_reducible repeat(first|refine y13 ?_ _|refine y12 ?_|refine y9 ?_ _));exact Ac.out⟩,⟨(y2.qj (w0:=w0) (g:=g))⟩,⟨(qh (w:=w) (g:=g))⟩,⟨y2.qbI⟩⟩
   ·rw [if_neg c8]at H
    have Cs:=decide_eq_false c8
    clear c8
    obtain⟨⟨Ct,Bj,Bk⟩,Db,H⟩:=qB H
    dsimp only at H
    by_cases Ch:Ct=true
    ·subst Ch
     replace H:=qT H
     obtain⟨⟨Bf,Bq,Br⟩,Dy,H⟩:=qB H
     replace H:(if Ae.length < 8796093022208 then(some ((Ae ++ [Bf]),Bq,Br))else(none))=some (r1,r2,r3):=H
     obtain⟨Dc,H⟩:=qo H
     have Ca:=y0.mk Dc
     clear Dc
     obtain⟨Bl,Ba⟩:∃ y_:List ByteArray,y_=(Ae ++ [Bf]):=⟨_,rfl⟩
     replace H:(some (Bl,Bq,Br))=some (r1,r2,r3):=by first|(rw [Ba];with_reducible exact H)|(have H2_:=(Option.bind_some _ _).symm.trans H;rw [Ba];with_reducible exact H2_)|(have H2_:=(Option.bind_some _ _).symm.trans H;with_reducible exact H2_)|with_reducible exact H|(rw [Ba];exact H)|exact H
     have Cb:=y0.mk Ba
     clear Ba
     simp only [Option.some.injEq,Prod.mk.injEq]at H
     obtain⟨rfl,rfl,rfl⟩:=H
     try go_wp2_with (first|((with_reducible refine y19 (f:=67) rfl ?_);refine y22 (some 21) rfl rfl Tryz.func67 (by kernel_rfl) rfl #[.pointer (some ⟨g,0,none⟩),.int .i64 20] rfl qy0 ?_;(with_reducible refine(spec_l01Cur_once.calls g Al Ai Aj 20 true Bj Bk w0 _ (by repeat(first|(with_reducible first|exact HI0.out|apply y2.alloc|apply y2.drewN|apply y2.drew|apply y2.set_1|apply y2.set_2|refine y2.far ?_ Au.out _|refine y2.far ?_ Ap.out _)|exact HI0.out)) (by repeat(first|(with_reducible first|exact HB.out|apply y4|apply y23|apply y5|refine y6 ?_ (y2.ge HI0.out)|refine y6 ?_ Bc.out|refine y6 ?_ Bd.out)|exact HB.out)) Db.out).mono ?_);rintro e Dz ⟨rfl,hi,hb,hk⟩;refine⟨_,rfl, ?_⟩;replace Aa:=y0.mk (Kd.R_mono (Kd.R_keep (y2.apart (show y2 w0 _ g Al Ai Aj from(y2.qj (w0:=w0) (g:=g))) (qR Aa.out) (by decide)) hk (fun _ h=>h.2)) (fun _ h=>h.1));replace Ad:=y0.mk (y3.blk hk (g':=Ak) (o:=.cells #[.slice none 0 0] 36 (0,0)) (qk Ad.out) Av.out (by simp));replace Ac:=y0.mk (y3.blk hk (g':=Ah) (o:=.cells #[Af] 36 (0,0)) (qk Ac.out) Aq.out (by simp));replace HK:=y0.mk (y3.trans (qh (w:=w) (g:=g)) hk (.inl rfl));replace HB:=y0.mk (hb);replace HI0:=y0.mk (hi);(try clear hb hk hi)))
     replace Aa:=y0.mk (Kd.R_drew Aa.out)
     replace Ad:=y0.mk (y12 Ad.out)
     replace Ac:=y0.mk (y12 Ac.out)
     replace HI0:=y0.mk (y2.drew HI0.out)
     replace HK:=y0.mk (keep_drew HK.out)
     replace HB:=y0.mk (y5 HB.out)
     refine start_ (n:=8) (S:=fun w'=>w'.cell? ⟨Ah,0,none⟩=some (Af)) (ds:=[7]) (fl_ 8 0) (by kernel_rfl) rfl rfl ((y11 Ac.out 0).trans rfl) (fun hHeld=>?_);refine with_tabW z8_.tab7 z8_.bits7 (fun HT_ HW_=>?_)
     generalize Dz.drew=Ef at Aa Ad Ac HI0 HK HB hHeld ⊢
     refine qp 0 22 (fl_ 8 1) ?_
     refine qp 2 24 (fl_ 8 5) ?_
     refine qt 1 23 (fl_ 8 7) hHeld ?_
     refine qO 3 25 (fl_ 8 15) (fun K hK=>?_)
     refine goes_ Tryz.func85 (by kernel_rfl) rfl #[.pointer (some ⟨g,0,none⟩)] (by rfl) rfl rfl qy0 ?_
     with_reducible refine(spec_l01Cur_any.calls k1 g Al Bj Bk Bf Bq Br w0 _ (by repeat(first|(with_reducible first|exact HI0.out|apply y2.alloc|apply y2.drewN|apply y2.drew|apply y2.set_1|apply y2.set_2|refine y2.far ?_ Au.out _|refine y2.far ?_ Ap.out _)|exact HI0.out)) (by repeat(first|(with_reducible first|exact HB.out|apply y4|apply y23|apply y5|refine y6 ?_ (y2.ge HI0.out)|refine y6 ?_ Bc.out|refine y6 ?_ Bd.out)|exact HB.out)) Dy.out).mono ?_
     rintro e Eg ⟨rfl,hi,hb,hk⟩
     refine⟨_,rfl, ?_⟩
     replace Aa:=y0.mk (Kd.R_mono (Kd.R_keep (y2.apart (show y2 w0 _ g Al Bj Bk from(y2.qj (w0:=w0) (g:=g))) (qR Aa.out) (by decide)) hk (fun _ h=>h.2)) (fun _ h=>h.1))
     replace Ad:=y0.mk (y3.blk hk (g':=Ak) (o:=.cells #[.slice none 0 0] 36 (0,0)) (qk Ad.out) Av.out (by simp))
     replace Ac:=y0.mk (y3.blk hk (g':=Ah) (o:=.cells #[Af] 36 (0,0)) (qk Ac.out) Aq.out (by simp))
     replace HK:=y0.mk (y3.trans (qh (w:=w) (g:=g)) hk (.inl rfl))
     replace HB:=y0.mk (hb)
     replace HI0:=y0.mk (hi)
     (try clear hb hk hi)
     refine hK.out _ _ ((y11 Ac.out 0).trans rfl) (fun hHeld=>?_)
     clear hK K
     refine qx 25 ?_
     refine qO 4 26 (fl_ 8 31) (fun K hK=>?_)
     refine value_ (w1:=?_) (v:=?_) (by rfl) rfl ?_ ?_
     rotate_left 2
     ·go_simp
      constructor
      ·rfl
      ·rfl
     refine hK.out _ _ ((y11 (y9 Ac.out _) 0).trans rfl) (fun hHeld=>?_)
     clear hK K
     refine qx 26 ?_
     refine qO 5 27 (fl_ 8 63) (fun K hK=>?_)
     refine Kd.R_append_step Kd.string w.heap.size (by rfl) (.tmp 23) (.tmp 26) 25 9 (.string ⟨#[]⟩) 16 rfl Tryz.underlying25 info9 rfl (by decide) (by omega) Af Ae Bf [.string Bf] (fun _=>True) (fun _=>False) rfl rfl ?aP (fun _ hk=>hk.elim) ?aF ?aO (Below.refl _ _) ?aS ?aL ?_
     (case aP=>exact rfl)
     (case aF=>exact(fun _ _=>trivial))
     (case aO=>exact(qR Aa.out))
     (case aS=>exact(keep_size (w:=w) (g:=g) (row:=none) (qh (w:=w) (g:=g))))
     (case aL=>have:=Ca.out;omega)
     intro Ea Eb ho hb hg hat
     rw [← Cb.out]at ho
     replace Ad:=y0.mk (blk_grown (qk Ad.out) hg (Kd.R_ne Aa.out Ad.out (by decide)))
     replace Ac:=y0.mk (blk_grown (qk Ac.out) hg (Kd.R_ne Aa.out Ac.out (by decide)))
     replace HI0:=y0.mk (y2.grown (y2.qj (w0:=w0) (g:=g)) hg (y2.own_ne HI0.out Aa.out (by decide)))
     replace HB:=y0.mk (below_weaken y2.qbI HL.out hb)
     replace HK:=y0.mk (y3.trans (qh (w:=w) (g:=g)) (y3.of_grown hg g) (Kd.R_base2 Aa.out))
     have Bn:=y0.mk (ho)
     clear Aa
     clear ho hb hg hat
     obtain⟨Bs,Bt,Cc⟩:=Kd.R_slice Bn.out
     (first|subst Cc|(injection Cc with f1_ f2_ f3_;have f4_:=f1_.symm;have f5_:=f3_.symm;clear f1_ f2_ f3_;subst f4_;subst f5_))
     refine hK.out _ _ ((y11 Ac.out 0).trans rfl) (fun hHeld=>?_)
     clear hK K
     refine qx 27 ?_
     refine qp 6 28 (fl_ 8 127) ?_
     refine last_ (i:=7) (N:=none) (fl_ 8 255) rfl rfl (one_of HT_.out (by kernel_rfl)) (by decide) (fun K hK=>?_)
     have Ec:Eb.cell? ⟨Ah,0,none⟩=some (Af):=(y11 Ac.out 0).trans rfl
     have Dd:=y15 Ac.out 0
     have Ci:=Ag.out
     have Cj:=Am.out
     refine skip_ (w1:=?_) (by rfl) rfl ?_ ?_
     rotate_left
     ·go_simp
      rfl
     refine hK.out _ _ ?_
     clear hK K
     refine done_ (done_of HT_.out (by kernel_rfl)) ?_
     have De:=Am.out
     have Df:=Ag.out
     have Dg:=Aq.out
     have Dh:=Ap.out
     obtain⟨Ck,Cl⟩:=qz1 Ac.out
     have Di:=Av.out
     have Dj:=Au.out
     obtain⟨Cm,Cn⟩:=qz1 Ad.out
     try go_wp2
     refine bodyPost_ret (results_cell_row rfl _ _ Ak 36 #[.slice Bs Bl.length Bt] (0,0) _ rfl (by(with_reducible repeat(first|refine y13 ?_ _|refine y12 ?_|refine y9 ?_ _));refine y16 (cs:=#[.slice none 0 0]) ?_ 0 _ rfl;(with_reducible repeat(first|refine y13 ?_ _|refine y12 ?_|refine y9 ?_ _));refine y14 ?_ Ag.out _;(with_reducible repeat(first|refine y13 ?_ _|refine y12 ?_|refine y9 ?_ _));exact Ad.out) Tryz.underlying36 rfl (by kernel_rfl)) rfl ?_
     exact⟨_,by first|rfl|(simp [y17,y18] <;> rfl)|(simp [*,y17,y18] <;> rfl),by(with_reducible repeat(first|apply Kd.R_alloc|apply Kd.R_drewN|apply Kd.R_drew));exact Kd.R_mono (Kd.R_far (p:=⟨Ak,0,none⟩) (Kd.R_far (p:=⟨Ah,0,none⟩) (Kd.R_types (Kd.R_types Bn.out Ac.out (by decide)) Ad.out (by decide)) (fun _ hk=>hk.1.2) (.slice Bs Bl.length Bt)) (fun _ hk=>hk.2) (.slice Bs Bl.length Bt)) (fun _ hk=>trivial),(y2.qj (w0:=w0) (g:=g)),y2.qbI,(qh (w:=w) (g:=g))⟩
    ·replace Ch:=Bool.eq_false_iff.mpr Ch
     subst Ch
     replace H:=qF H
     simp only [Option.some.injEq,Prod.mk.injEq]at H
     obtain⟨rfl,rfl,rfl⟩:=H
     go_wp2_with (first|((with_reducible refine y19 (f:=67) rfl ?_);refine y22 (some 21) rfl rfl Tryz.func67 (by kernel_rfl) rfl #[.pointer (some ⟨g,0,none⟩),.int .i64 20] rfl qy0 ?_;(with_reducible refine(spec_l01Cur_once.calls g Al Ai Aj 20 false Bj Bk w0 _ (by repeat(first|(with_reducible first|exact HI0.out|apply y2.alloc|apply y2.drewN|apply y2.drew|apply y2.set_1|apply y2.set_2|refine y2.far ?_ Au.out _|refine y2.far ?_ Ap.out _)|exact HI0.out)) (by repeat(first|(with_reducible first|exact HB.out|apply y4|apply y23|apply y5|refine y6 ?_ (y2.ge HI0.out)|refine y6 ?_ Bc.out|refine y6 ?_ Bd.out)|exact HB.out)) Db.out).mono ?_);rintro e Eh ⟨rfl,hi,hb,hk⟩;refine⟨_,rfl, ?_⟩;replace Aa:=y0.mk (Kd.R_mono (Kd.R_keep (y2.apart (show y2 w0 _ g Al Ai Aj from(y2.qj (w0:=w0) (g:=g))) (qR Aa.out) (by decide)) hk (fun _ h=>h.2)) (fun _ h=>h.1));replace Ad:=y0.mk (y3.blk hk (g':=Ak) (o:=.cells #[.slice none 0 0] 36 (0,0)) (qk Ad.out) Av.out (by simp));replace Ac:=y0.mk (y3.blk hk (g':=Ah) (o:=.cells #[Af] 36 (0,0)) (qk Ac.out) Aq.out (by simp));replace HK:=y0.mk (y3.trans (qh (w:=w) (g:=g)) hk (.inl rfl));replace HB:=y0.mk (hb);replace HI0:=y0.mk (hi);(try clear hb hk hi);have Dk:=Am.out;have Dl:=Ag.out;have Dm:=Aq.out;have Dn:=Ap.out;obtain⟨Co,Cp⟩:=qz1 Ac.out;obtain⟨Cd,Ce,Cu⟩:=Kd.R_slice Aa.out;subst Cu;have Do:=Av.out;have Dp:=Au.out;obtain⟨Cq,Cr⟩:=qz1 Ad.out))
     refine bodyPost_ret (results_cell_row rfl _ _ Ak 36 #[.slice Cd Ae.length Ce] (0,0) _ rfl (by(with_reducible repeat(first|refine y13 ?_ _|refine y12 ?_|refine y9 ?_ _));refine y16 (cs:=#[.slice none 0 0]) ?_ 0 _ rfl;(with_reducible repeat(first|refine y13 ?_ _|refine y12 ?_|refine y9 ?_ _));exact Ad.out) Tryz.underlying36 rfl (by kernel_rfl)) rfl ?_
     exact⟨_,by first|rfl|(simp [y17,y18] <;> rfl)|(simp [*,y17,y18] <;> rfl),by(with_reducible repeat(first|apply Kd.R_alloc|apply Kd.R_drewN|apply Kd.R_drew));exact Kd.R_mono (Kd.R_far (p:=⟨Ak,0,none⟩) (Kd.R_types Aa.out Ad.out (by decide)) (fun _ hk=>hk.2) (.slice Cd Ae.length Ce)) (fun _ hk=>trivial),(y2.qj (w0:=w0) (g:=g)),y2.qbI,(qh (w:=w) (g:=g))⟩
def spec_l01Cur_size.f (s0_0:List Int) (s0_1:Int) (s0_2:Int) (a1:Int):Option (Int×Int×Int):=if(wrap64 (1 + (wrap64 ((s0_0.length:Int) / 8)))) > a1 then((z5_.f s0_0 s0_1 s0_2 (wrap64 (a1 + 1))).bind fun bt496=>(some (bt496.1,bt496.2.1,bt496.2.2)))else((z5_.f s0_0 s0_1 s0_2 (wrap64 ((wrap64 (1 + (wrap64 ((s0_0.length:Int) / 8)))) + 1))).bind fun bt499=>(some (bt499.1,bt499.2.1,bt499.2.2)))
set_option maxHeartbeats 8000000 in
set_option maxRecDepth 100000 in
theorem spec_l01Cur_size.calls (g:Nat) (Aa:List Int) (Ac:Int) (Ad:Int) (a1:Int) (r1:Int) (r2:Int) (r3:Int) (w0 w:World) (hI:y2 w0 w g Aa Ac Ad) (hB:Below w0.heap.size w0 w) (h:spec_l01Cur_size.f Aa Ac Ad a1=some (r1,r2,r3)) :
  Calls Tryz.prog 79 #[.pointer (some ⟨g,0,none⟩),.int .i64 a1] w fun e w'=>e=.returned (.int .i64 r1)∧y2 w0 w' g Aa r2 r3∧Below w0.heap.size w0 w'∧y3 w w' g none:=by
 have HI0:=y0.mk hI
 have HK:=y0.mk (y3.refl w g none)
 have HL:=y0.mk hB.size
 clear hI
 have Bn:=y0.mk hB.size
 have HB:=y0.mk hB
 clear hB
 have H:(if(wrap64 (1 + (wrap64 ((Aa.length:Int) / 8)))) > a1 then((z5_.f Aa Ac Ad (wrap64 (a1 + 1))).bind fun Ag=>(some (Ag.1,Ag.2.1,Ag.2.2)))else((z5_.f Aa Ac Ad (wrap64 ((wrap64 (1 + (wrap64 ((Aa.length:Int) / 8)))) + 1))).bind fun Ah=>(some (Ah.1,Ah.2.1,Ah.2.2))))=some (r1,r2,r3):=h
 clear h
 by_cases c3:(wrap64 (1 + (wrap64 ((Aa.length:Int) / 8)))) > a1
 ·rw [if_pos c3]at H
  have Aq:decide (a1 < (wrap64 (1 + (wrap64 ((Aa.length:Int) / 8)))))=true:=decide_eq_true c3
  clear c3
  obtain⟨⟨Ai,Aj,Ak⟩,A4,H⟩:=qB H
  replace H:(some (Ai,Aj,Ak))=some (r1,r2,r3):=H
  simp only [Option.some.injEq,Prod.mk.injEq]at H
  obtain⟨rfl,rfl,rfl⟩:=H
  obtain⟨Au,Av,Ae,Aw,Ay⟩:=HI0.out
  have Az:=cellS93_0 Ae
  have Ba:=cellS93_1 Ae
  have Bb:=cellS93_2 Ae
  have Bc:=y15 Ae 1
  have Bd:=y15 Ae 2
  clear Ae Aw
  go_enter Tryz.func79,Tryz.ntmps79
  go_wp2_with (first|((with_reducible refine y19 (f:=54) rfl ?_);refine y22 (some 20) rfl rfl Tryz.func54 (by kernel_rfl) rfl #[.pointer (some ⟨g,0,none⟩),.int .i64 (wrap64 (a1 + 1))] rfl qy0 ?_;(with_reducible refine(z5_.calls g Aa Ac Ad (wrap64 (a1 + 1)) Ai Aj Ak w0 _ (by repeat(first|(with_reducible first|exact HI0.out|apply y2.alloc|apply y2.drewN|apply y2.drew|apply y2.set_1|apply y2.set_2)|exact HI0.out)) (by repeat(first|(with_reducible first|exact HB.out|apply y4|apply y23|apply y5|refine y6 ?_ (y2.ge HI0.out))|exact HB.out)) A4.out).mono ?_);rintro e w6 ⟨rfl,hi,hb,hk⟩;refine⟨_,rfl, ?_⟩;replace HK:=y0.mk (y3.trans (qh (w:=w) (g:=g)) hk (.inl rfl));replace HB:=y0.mk (hb);replace HI0:=y0.mk (hi);(try clear hb hk hi)))
  go_ret
  exact⟨qf,(y2.qj (w0:=w0) (g:=g)),y2.qbI,(qh (w:=w) (g:=g))⟩
 ·rw [if_neg c3]at H
  have Aq:decide (a1 < (wrap64 (1 + (wrap64 ((Aa.length:Int) / 8)))))=false:=decide_eq_false c3
  clear c3
  obtain⟨⟨Al,Am,Ap⟩,A7,H⟩:=qB H
  replace H:(some (Al,Am,Ap))=some (r1,r2,r3):=H
  simp only [Option.some.injEq,Prod.mk.injEq]at H
  obtain⟨rfl,rfl,rfl⟩:=H
  obtain⟨Be,Bf,Af,Bg,Bh⟩:=HI0.out
  have Bi:=cellS93_0 Af
  have Bj:=cellS93_1 Af
  have Bk:=cellS93_2 Af
  have Bl:=y15 Af 1
  have Bm:=y15 Af 2
  clear Af Bg
  go_enter Tryz.func79,Tryz.ntmps79
  go_wp2_with (first|((with_reducible refine y19 (f:=54) rfl ?_);refine y22 (some 20) rfl rfl Tryz.func54 (by kernel_rfl) rfl #[.pointer (some ⟨g,0,none⟩),.int .i64 (wrap64 ((wrap64 (1 + (wrap64 ((Aa.length:Int) / 8)))) + 1))] rfl qy0 ?_;(with_reducible refine(z5_.calls g Aa Ac Ad (wrap64 ((wrap64 (1 + (wrap64 ((Aa.length:Int) / 8)))) + 1)) Al Am Ap w0 _ (by repeat(first|(with_reducible first|exact HI0.out|apply y2.alloc|apply y2.drewN|apply y2.drew|apply y2.set_1|apply y2.set_2)|exact HI0.out)) (by repeat(first|(with_reducible first|exact HB.out|apply y4|apply y23|apply y5|refine y6 ?_ (y2.ge HI0.out))|exact HB.out)) A7.out).mono ?_);rintro e w9 ⟨rfl,hi,hb,hk⟩;refine⟨_,rfl, ?_⟩;replace HK:=y0.mk (y3.trans (qh (w:=w) (g:=g)) hk (.inl rfl));replace HB:=y0.mk (hb);replace HI0:=y0.mk (hi);(try clear hb hk hi)))
  go_ret
  exact⟨qf,(y2.qj (w0:=w0) (g:=g)),y2.qbI,(qh (w:=w) (g:=g))⟩
def spec_l01Cur_raw.f (s0_0:List Int) (s0_1:Int) (s0_2:Int):Option (Int×Int×Int):=(z5_.f s0_0 s0_1 s0_2 8).bind fun bt502=>(if bt502.1=0 then((z5_.f s0_0 bt502.2.1 bt502.2.2 256).bind fun bt505=>(some (wrap64 (bt505.1 - 128),bt505.2.1,bt505.2.2)))else(if bt502.1=1 then((some (([9223372036854775807,(-9223372036854775808),4611686018427387904,1000,1001,(-1000),100000,100001]:List Int):List Int)).bind fun y508=>((z5_.f s0_0 bt502.2.1 bt502.2.2 8).bind fun bt511=>(if 0≤bt511.1 then(if bt511.1 < (y508.length:Int)then(some (rd y508 bt511.1,bt511.2.1,bt511.2.2))else(none))else(none))))else((z5_.f s0_0 bt502.2.1 bt502.2.2 14).bind fun bt515=>(some (wrap64 (bt515.1 - 3),bt515.2.1,bt515.2.2)))))
set_option maxHeartbeats 8000000 in
set_option maxRecDepth 100000 in
theorem spec_l01Cur_raw.calls (g:Nat) (Ac:List Int) (Al:Int) (Am:Int) (r1:Int) (r2:Int) (r3:Int) (w0 w:World) (hI:y2 w0 w g Ac Al Am) (hB:Below w0.heap.size w0 w) (h:spec_l01Cur_raw.f Ac Al Am=some (r1,r2,r3)) :
  Calls Tryz.prog 80 #[.pointer (some ⟨g,0,none⟩)] w fun e w'=>e=.returned (.int .i64 r1)∧y2 w0 w' g Ac r2 r3∧Below w0.heap.size w0 w'∧y3 w w' g none:=by
 have HI0:=y0.mk hI
 have HK:=y0.mk (y3.refl w g none)
 have HL:=y0.mk hB.size
 clear hI
 have Bw:=y0.mk hB.size
 have HB:=y0.mk hB
 clear hB
 have H:((z5_.f Ac Al Am 8).bind fun Ae=>(if Ae.1=0 then((z5_.f Ac Ae.2.1 Ae.2.2 256).bind fun Ap=>(some (wrap64 (Ap.1 - 128),Ap.2.1,Ap.2.2)))else(if Ae.1=1 then((some (([9223372036854775807,(-9223372036854775808),4611686018427387904,1000,1001,(-1000),100000,100001]:List Int):List Int)).bind fun Af=>((z5_.f Ac Ae.2.1 Ae.2.2 8).bind fun Aa=>(if 0≤Aa.1 then(if Aa.1 < (Af.length:Int)then(some (rd Af Aa.1,Aa.2.1,Aa.2.2))else(none))else(none))))else((z5_.f Ac Ae.2.1 Ae.2.2 14).bind fun Aq=>(some (wrap64 (Aq.1 - 3),Aq.2.1,Aq.2.2))))))=some (r1,r2,r3):=h
 clear h
 obtain⟨⟨Ad,Ah,Ai⟩,A2,H⟩:=qB H
 dsimp only at H
 by_cases c3:Ad=0
 ·rw [if_pos c3]at H
  have Bi:(Ad == 0)=true:=beq_iff_eq.mpr c3
  have Bj:(Ad != 0)=false:=bne_eq_false_iff_eq.mpr c3
  clear c3
  obtain⟨⟨Az,Ba,Bb⟩,A4,H⟩:=qB H
  replace H:(some (wrap64 (Az - 128),Ba,Bb))=some (r1,r2,r3):=H
  simp only [Option.some.injEq,Prod.mk.injEq]at H
  obtain⟨rfl,rfl,rfl⟩:=H
  go_enter Tryz.func80,Tryz.ntmps80
  go_wp2_with (first|((with_reducible refine y19 (f:=54) rfl ?_);refine y22 (some 4) rfl rfl Tryz.func54 (by kernel_rfl) rfl #[.pointer (some ⟨g,0,none⟩),.int .i64 8] rfl qy0 ?_;(with_reducible refine(z5_.calls g Ac Al Am 8 Ad Ah Ai w0 _ (by repeat(first|(with_reducible first|exact HI0.out|apply y2.alloc|apply y2.drewN|apply y2.drew|apply y2.set_1|apply y2.set_2)|exact HI0.out)) (by repeat(first|(with_reducible first|exact HB.out|apply y4|apply y23|apply y5|refine y6 ?_ (y2.ge HI0.out))|exact HB.out)) A2.out).mono ?_);rintro e w5 ⟨rfl,hi,hb,hk⟩;refine⟨_,rfl, ?_⟩;replace HK:=y0.mk (y3.trans (qh (w:=w) (g:=g)) hk (.inl rfl));replace HB:=y0.mk (hb);replace HI0:=y0.mk (hi);(try clear hb hk hi))|((with_reducible refine y19 (f:=54) rfl ?_);refine y22 (some 8) rfl rfl Tryz.func54 (by kernel_rfl) rfl #[.pointer (some ⟨g,0,none⟩),.int .i64 256] rfl qy0 ?_;(with_reducible refine(z5_.calls g Ac Ah Ai 256 Az Ba Bb w0 _ (by repeat(first|(with_reducible first|exact HI0.out|apply y2.alloc|apply y2.drewN|apply y2.drew|apply y2.set_1|apply y2.set_2)|exact HI0.out)) (by repeat(first|(with_reducible first|exact HB.out|apply y4|apply y23|apply y5|refine y6 ?_ (y2.ge HI0.out))|exact HB.out)) A4.out).mono ?_);rintro e w6 ⟨rfl,hi,hb,hk⟩;refine⟨_,rfl, ?_⟩;replace HK:=y0.mk (y3.trans (qh (w:=w) (g:=g)) hk (.inl rfl));replace HB:=y0.mk (hb);replace HI0:=y0.mk (hi);(try clear hb hk hi)))
  go_ret
  exact⟨qf,(y2.qj (w0:=w0) (g:=g)),y2.qbI,(qh (w:=w) (g:=g))⟩
 ·rw [if_neg c3]at H
  have Bi:(Ad == 0)=false:=beq_eq_false_iff_ne.mpr c3
  have Bj:(Ad != 0)=true:=bne_iff_ne.mpr c3
  by_cases c7:Ad=1
  ·rw [if_pos c7]at H
   have Bk:(Ad == 1)=true:=beq_iff_eq.mpr c7
   have Bl:(Ad != 1)=false:=bne_eq_false_iff_eq.mpr c7
   clear c7
   obtain⟨Af,Aj⟩:∃ y_:List Int,y_=(([9223372036854775807,(-9223372036854775808),4611686018427387904,1000,1001,(-1000),100000,100001]:List Int)):=⟨_,rfl⟩
   replace H:((z5_.f Ac Ah Ai 8).bind fun Aa=>(if 0≤Aa.1 then(if Aa.1 < (Af.length:Int)then(some (rd Af Aa.1,Aa.2.1,Aa.2.2))else(none))else(none)))=some (r1,r2,r3):=by first|(rw [Aj];with_reducible exact H)|(have H2_:=(Option.bind_some _ _).symm.trans H;rw [Aj];with_reducible exact H2_)|(have H2_:=(Option.bind_some _ _).symm.trans H;with_reducible exact H2_)|with_reducible exact H|(rw [Aj];exact H)|exact H
   have Av:=y0.mk Aj
   clear Aj
   obtain⟨⟨Ag,Bc,Bd⟩,A8,H⟩:=qB H
   replace H:(if 0≤Ag then(if Ag < (Af.length:Int)then(some (rd Af Ag,Bc,Bd))else(none))else(none))=some (r1,r2,r3):=H
   obtain⟨c9,H⟩:=qo H
   have Br:decide (0≤Ag)=true:=decide_eq_true c9
   clear c9
   obtain⟨Bo,H⟩:=qo H
   have Bp:decide (Ag < (Af.length:Int))=true:=decide_eq_true Bo
   clear Bo
   simp only [Option.some.injEq,Prod.mk.injEq]at H
   obtain⟨rfl,rfl,rfl⟩:=H
   go_enter Tryz.func80,Tryz.ntmps80
   go_wp2_with (first|((with_reducible refine y19 (f:=54) rfl ?_);refine y22 (some 4) rfl rfl Tryz.func54 (by kernel_rfl) rfl #[.pointer (some ⟨g,0,none⟩),.int .i64 8] rfl qy0 ?_;(with_reducible refine(z5_.calls g Ac Al Am 8 Ad Ah Ai w0 _ (by repeat(first|(with_reducible first|exact HI0.out|apply y2.alloc|apply y2.drewN|apply y2.drew|apply y2.set_1|apply y2.set_2)|exact HI0.out)) (by repeat(first|(with_reducible first|exact HB.out|apply y4|apply y23|apply y5|refine y6 ?_ (y2.ge HI0.out))|exact HB.out)) A2.out).mono ?_);rintro e Bx ⟨rfl,hi,hb,hk⟩;refine⟨_,rfl, ?_⟩;replace HK:=y0.mk (y3.trans (qh (w:=w) (g:=g)) hk (.inl rfl));replace HB:=y0.mk (hb);replace HI0:=y0.mk (hi);(try clear hb hk hi))|((with_reducible refine y20 (N:=12) rfl ?_);refine qL (Kd.int .i64) 3 12 ([9223372036854775807,(-9223372036854775808),4611686018427387904,1000,1001,(-1000),100000,100001]:List Int) ?_;intro Bs Bz Au hb hg_ hnew_;clear hg_ hnew_;(first|rw [← Av.out]at Au|(simp only [Int.reduceToNat]at Au;rw [← Av.out]at Au));have Ak:=y0.mk (Kd.R_lower Au (keep_size (w:=w) (g:=g) (row:=none) (qh (w:=w) (g:=g))));replace HI0:=y0.mk (y2.below (y2.qj (w0:=w0) (g:=g)) hb);replace HK:=y0.mk (y3.trans (qh (w:=w) (g:=g)) (y3.of_below hb g none) (.inl rfl));replace HB:=y0.mk (y8 y2.qbI hb);clear hb Au)|((with_reducible refine y19 (f:=54) rfl ?_);refine y22 (some 14) rfl rfl Tryz.func54 (by kernel_rfl) rfl #[.pointer (some ⟨g,0,none⟩),.int .i64 8] rfl qy0 ?_;(with_reducible refine(z5_.calls g Ac Ah Ai 8 Ag Bc Bd w0 _ (by repeat(first|(with_reducible first|exact HI0.out|apply y2.alloc|apply y2.drewN|apply y2.drew|apply y2.set_1|apply y2.set_2)|exact HI0.out)) (by repeat(first|(with_reducible first|exact HB.out|apply y4|apply y23|apply y5|refine y6 ?_ (y2.ge HI0.out))|exact HB.out)) A8.out).mono ?_);rintro e Ca ⟨rfl,hi,hb,hk⟩;refine⟨_,rfl, ?_⟩;replace Ak:=y0.mk (Kd.R_mono (Kd.R_keep (y2.apart (show y2 w0 _ g Ac Ah Ai from(y2.qj (w0:=w0) (g:=g))) (qR Ak.out) (by decide)) hk (fun _ h=>h.2)) (fun _ h=>h.1));replace HK:=y0.mk (y3.trans (qh (w:=w) (g:=g)) hk (.inl rfl));replace HB:=y0.mk (hb);replace HI0:=y0.mk (hi);(try clear hb hk hi);obtain⟨Bt,Bu,Bm⟩:=Kd.R_slice Ak.out;subst Bm;have Aw:0≤(Ag:Int):=of_decide_eq_true qy1;have Ay:Ag < (Af.length:Int):=of_decide_eq_true qy1;obtain⟨Bq,Bn,Bh⟩:=Kd.at_int (Kd.R_reads' Ak.out).2.2 Ag Aw Ay;cases Bn;replace Aw:=eq_true Aw;replace Ay:=eq_true Ay))
   go_ret
   exact⟨qf,(y2.qj (w0:=w0) (g:=g)),y2.qbI,(qh (w:=w) (g:=g))⟩
  ·rw [if_neg c7]at H
   have Bk:(Ad == 1)=false:=beq_eq_false_iff_ne.mpr c7
   have Bl:(Ad != 1)=true:=bne_iff_ne.mpr c7
   obtain⟨⟨Be,Bf,Bg⟩,Bv,H⟩:=qB H
   replace H:(some (wrap64 (Be - 3),Bf,Bg))=some (r1,r2,r3):=H
   simp only [Option.some.injEq,Prod.mk.injEq]at H
   obtain⟨rfl,rfl,rfl⟩:=H
   go_enter Tryz.func80,Tryz.ntmps80
   go_wp2_with (first|((with_reducible refine y19 (f:=54) rfl ?_);refine y22 (some 4) rfl rfl Tryz.func54 (by kernel_rfl) rfl #[.pointer (some ⟨g,0,none⟩),.int .i64 8] rfl qy0 ?_;(with_reducible refine(z5_.calls g Ac Al Am 8 Ad Ah Ai w0 _ (by repeat(first|(with_reducible first|exact HI0.out|apply y2.alloc|apply y2.drewN|apply y2.drew|apply y2.set_1|apply y2.set_2)|exact HI0.out)) (by repeat(first|(with_reducible first|exact HB.out|apply y4|apply y23|apply y5|refine y6 ?_ (y2.ge HI0.out))|exact HB.out)) A2.out).mono ?_);rintro e Cb ⟨rfl,hi,hb,hk⟩;refine⟨_,rfl, ?_⟩;replace HK:=y0.mk (y3.trans (qh (w:=w) (g:=g)) hk (.inl rfl));replace HB:=y0.mk (hb);replace HI0:=y0.mk (hi);(try clear hb hk hi))|((with_reducible refine y19 (f:=54) rfl ?_);refine y22 (some 18) rfl rfl Tryz.func54 (by kernel_rfl) rfl #[.pointer (some ⟨g,0,none⟩),.int .i64 14] rfl qy0 ?_;(with_reducible refine(z5_.calls g Ac Ah Ai 14 Be Bf Bg w0 _ (by repeat(first|(with_reducible first|exact HI0.out|apply y2.alloc|apply y2.drewN|apply y2.drew|apply y2.set_1|apply y2.set_2)|exact HI0.out)) (by repeat(first|(with_reducible first|exact HB.out|apply y4|apply y23|apply y5|refine y6 ?_ (y2.ge HI0.out))|exact HB.out)) Bv.out).mono ?_);rintro e Cc ⟨rfl,hi,hb,hk⟩;refine⟨_,rfl, ?_⟩;replace HK:=y0.mk (y3.trans (qh (w:=w) (g:=g)) hk (.inl rfl));replace HB:=y0.mk (hb);replace HI0:=y0.mk (hi);(try clear hb hk hi)))
   go_ret
   exact⟨qf,(y2.qj (w0:=w0) (g:=g)),y2.qbI,(qh (w:=w) (g:=g))⟩
end Go.Proofs.YtkajecadkkgfmaaGreatDoor.Pn
end
