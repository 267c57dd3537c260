-- Cut by prune.py, a program of this session, out of the texts of this claim: Lean checks it.
import Derived.Test.YtkajecadkkgfmaaGreatDoorVsqPnx0
import Derived.Test.YtkajecadkkgfmaaGreatDoorVsqPnx9
import Derived.Test.YtkajecadkkgfmaaGreatDoorVsqPnx29
import Derived.Test.YtkajecadkkgfmaaGreatDoorVsqPnx11
section
namespace Go.Proofs.YtkajecadkkgfmaaGreatDoor.Pn
open Go.RowKit Go.Proofs.YtkajecadkkgfmaaGreatDoorW.PrintWords Go.Proofs.YtkajecadkkgfmaaGreatDoorW.PrintLast Go.Proofs.YtkajecadkkgfmaaGreatDoorW.PrintMore
attribute [local go_sem] max2_int min2_int max_two min_two max_three min_three max_four min_four   -- for this text's walks alone
set_option linter.unusedVariables false
set_option linter.unusedSimpArgs false
def z3_.j0:Nat→Bool→List Int→Int→Int→Int→List (S36)→Option (Int×(List (S36))×List ByteArray)
 | 0,_,_,_,_,_,_=>none
 | k + 1,x22,x576000,x576001,x576002,x586000,x586001=>if x22=true then((z6_.f x576000 x576001 x576002 (x586001.length:Int)).bind fun bt589=>(if 0≤bt589.1 then(if bt589.1 < (x586001.length:Int)then((some (([]:List ByteArray):List ByteArray)).bind fun y593=>((z6_.f x576000 bt589.2.1 bt589.2.2 (wrap64 ((((y20 x586001 bt589.1).f0).length:Int) + 1))).bind fun bt596=>(if 0≤bt596.1 then(if bt596.1≤(((y20 x586001 bt589.1).f0).length:Int)then((some (((y20 x586001 bt589.1).f0).take (bt596.1:Int).toNat:List ByteArray)).bind fun y599=>(if y593.length + y599.length < 8796093022208 then(some (x586000,x586001,(y593 ++ y599)))else(none)))else(none))else(none))))else(none))else(none)))else((some (([(⟨#[49]⟩:ByteArray),(⟨#[120]⟩:ByteArray)]:List ByteArray):List ByteArray)).bind fun y607=>((z6_.f x576000 x576001 x576002 3).bind fun bt610=>(if 0≤bt610.1 then(if bt610.1≤(y607.length:Int)then(some (x586000,x586001,(y607.take (bt610.1:Int).toNat)))else(none))else(none))))
def z3_.f (k:Nat) (l0:List Int):Option (Int×(List (S36))×List ByteArray):=(spec_l01Open.f l0).bind fun bt572=>((z6_.f bt572.1 bt572.2.1 bt572.2.2 2).bind fun bt576=>((z7_.f k bt572.1 bt576.2.1 bt576.2.2 (wrap64 (1 + bt576.1))).bind fun bt579=>(if(bt579.2.1.length:Int) > 0 then((z6_.f bt572.1 bt579.2.2.1 bt579.2.2.2 4).bind fun bt586=>(z3_.j0 k (decide (bt586.1 > 0)) bt572.1 bt586.2.1 bt586.2.2 bt579.1 bt579.2.1))else(z3_.j0 k false bt572.1 bt579.2.2.1 bt579.2.2.2 bt579.1 bt579.2.1))))
def z3_.T4:Bool×List (List Nat×List Nat):=(true,[([],[]),([0],[0]),([],[]),([],[]),([3],[3]),([4],[4]),([2,5],[2,5]),([1,6],[1,6]),([7],[7]),([8],[8]),([9,6,0,1,2,3,4,5,6,7,8,9],[9])])
def z3_.B4:List Nat:=[0,1,0,0,8,24,60,127,255,511,1023]
theorem z3_.tab4:rtab .any (opsOf Tryz.f20 4)=z3_.T4:=by kernel_rfl
theorem z3_.bits4:waitsOk z3_.T4.2 z3_.B4=true:=by kernel_rfl
def z3_.T5:Bool×List (List Nat×List Nat):=(true,[([],[]),([],[]),([],[]),([],[]),([],[]),([4],[4]),([5],[5]),([3,6],[3,6]),([2,7],[2,7]),([1,8,7],[1,8]),([0,9,0],[0]),([9,10,0,1,2,3,4,5,6,7,8,9,10],[9])])
def z3_.B5:List Nat:=[0,0,0,0,0,16,48,120,252,510,1023,2047]
theorem z3_.tab5:rtab .any (opsOf Tryz.f20 5)=z3_.T5:=by kernel_rfl
theorem z3_.bits5:waitsOk z3_.T5.2 z3_.B5=true:=by kernel_rfl
set_option maxHeartbeats 8000000 in
set_option maxRecDepth 100000 in
theorem z3_.calls (k:Nat) (A0:Option Addr) (c0:Nat) (l0:List Int) (r1:Int) (r2:List (S36)) (r3:List ByteArray) (w:World) (Gg:Kd.C (Kd.int .u8) w A0 l0.length l0) (Gh:l0.length≤c0) (h:z3_.f k l0=some (r1,r2,r3)) :
  Calls Tryz.prog 20 #[.slice A0 l0.length c0] w fun e w'=>∃ v1_ v2_:Value,e=.returned (.tuple #[.agg #[.int .i64 r1,v1_],v2_])∧Kd.N k36 36 w' w.heap.size (fun k_=>(w.heap.size≤k_)∧some k_≠(v2_:Value).ownBlock) v1_ r2∧Kd.R Kd.string 9 w' w.heap.size (fun k_=>(w.heap.size≤k_)) v2_ r3∧Below w.heap.size w w':=by
 have Hw:=Tryz.underlying32
 have Hx:=y0.mk Gg
 have Hy:=y0.mk Gh
 clear Gg Gh
 have HB:=y0.mk (Below.refl w.heap.size w)
 have H:((spec_l01Open.f l0).bind fun Br=>((z6_.f Br.1 Br.2.1 Br.2.2 2).bind fun Cy=>((z7_.f k Br.1 Cy.2.1 Cy.2.2 (wrap64 (1 + Cy.1))).bind fun Bl=>(if(Bl.2.1.length:Int) > 0 then((z6_.f Br.1 Bl.2.2.1 Bl.2.2.2 4).bind fun Cz=>(z3_.j0 k (decide (Cz.1 > 0)) Br.1 Cz.2.1 Cz.2.2 Bl.1 Bl.2.1))else(z3_.j0 k false Br.1 Bl.2.2.1 Bl.2.2.2 Bl.1 Bl.2.1)))))=some (r1,r2,r3):=h
 clear h
 obtain⟨⟨Bc,El,Em⟩,A2,H⟩:=qB H
 dsimp only at H
 obtain⟨⟨Eb,En,Eo⟩,A3,H⟩:=qB H
 dsimp only at H
 obtain⟨⟨Aq,Ah,Da,Db⟩,A4,H⟩:=qB H
 dsimp only at H
 have Fw:=y0.mk H
 clear H
 go_enter Tryz.func20,Tryz.ntmps20
 go_upto_region 3 with(first|((with_reducible refine y17 (N:=2) rfl ?_);refine qe 2 #[.int .i64 0,.slice none 0 0] 32 ?_;intro Ac hg w6 hbox hb;have Ad:=y0.mk (hbox);have Gi:=y0.mk (qg (w:=w) hg);have Ak:=y0.mk (qg (w:=w) hg);replace HB:=y0.mk (y8 qb hb);clear hb hbox hg)|((with_reducible refine y16 (f:=52) rfl ?_);refine y18 (some 8) rfl rfl Tryz.func52 (by kernel_rfl) rfl #[.slice A0 l0.length c0] rfl qy0 ?_;(with_reducible refine(spec_l01Open.calls _ _ l0 Bc El Em w _ (by repeat(first|(with_reducible first|exact HB.out|apply y4|apply y19|apply y5|refine y6 ?_ Ak.out)|exact HB.out)) Hx.out Hy.out A2.out).mono ?_);rintro e w7 ⟨Am,rfl,hi,hb,Fb⟩;refine⟨_,rfl, ?_⟩;replace HB:=y0.mk (hb);have Aa:=y0.mk (hi);have Ag:=y0.mk (y2.ne_blk hi (qK Ad.out Fb) (by decide));have Aw:=y0.mk (Ne.symm (y2.ne_blk hi (qK Ad.out Fb) (by decide)));replace Ad:=y0.mk (qK Ad.out Fb);(try clear hb Fb hi))|((with_reducible refine y16 (f:=54) rfl ?_);refine y18 (some 11) rfl rfl Tryz.func54 (by kernel_rfl) rfl #[.pointer (some ⟨Am,0,none⟩),.int .i64 2] rfl qy0 ?_;(with_reducible refine(z6_.calls Am Bc El Em 2 Eb En Eo w _ (by repeat(first|(with_reducible first|exact Aa.out|apply y2.alloc|apply y2.drewN|apply y2.drew|apply y2.set_1|apply y2.set_2|refine y2.far ?_ Ag.out _)|exact Aa.out)) (by repeat(first|(with_reducible first|exact HB.out|apply y4|apply y19|apply y5|refine y6 ?_ (y2.ge Aa.out)|refine y6 ?_ Ak.out)|exact HB.out)) A3.out).mono ?_);rintro e w8 ⟨rfl,hi,hb,hk⟩;refine⟨_,rfl, ?_⟩;replace Ad:=y0.mk (y3.blk hk (g':=Ac) (o:=.cells #[.int .i64 0,.slice none 0 0] 32 (0,0)) (qk Ad.out) Aw.out (by simp));replace HB:=y0.mk (hb);replace Aa:=y0.mk (hi);(try clear hb hk hi))|((with_reducible refine y16 (f:=53) rfl ?_);refine y18 (some 13) rfl rfl Tryz.func53 (by kernel_rfl) rfl #[.pointer (some ⟨Am,0,none⟩),.int .i64 (wrap64 (1 + Eb))] rfl qy0 ?_;(with_reducible refine(z7_.calls k Am Bc En Eo (wrap64 (1 + Eb)) Aq Ah Da Db w _ (by repeat(first|(with_reducible first|exact Aa.out|apply y2.alloc|apply y2.drewN|apply y2.drew|apply y2.set_1|apply y2.set_2|refine y2.far ?_ Ag.out _)|exact Aa.out)) (by repeat(first|(with_reducible first|exact HB.out|apply y4|apply y19|apply y5|refine y6 ?_ (y2.ge Aa.out)|refine y6 ?_ Ak.out)|exact HB.out)) A4.out).mono ?_);rintro e w9 ⟨Hz,rfl,Gj,hi,hb,hk⟩;refine⟨_,rfl, ?_⟩;have Bs:=y0.mk (Kd.N_lower (Kd.N_mono (ok':=fun k_=>(w.heap.size≤k_)∧k_≠Ac∧k_≠Am) Gj (fun k_ hk_=>⟨(Nat.le_trans (y7 (by repeat(first|(with_reducible first|exact HB.out|apply y4|apply y19|apply y5|refine y6 ?_ (y2.ge Aa.out)|refine y6 ?_ Ak.out)|exact HB.out))) hk_),(Kd.freshB (g:=Ac) (o:=.cells #[.int .i64 0,.slice none 0 0] 32 (0,0)) (qk Ad.out) k_ hk_),(y2.fresh (by repeat(first|(with_reducible first|exact Aa.out|apply y2.alloc|apply y2.drewN|apply y2.drew|apply y2.set_1|apply y2.set_2|refine y2.far ?_ Ag.out _)|exact Aa.out)) k_ hk_)⟩)) (y7 (by repeat(first|(with_reducible first|exact HB.out|apply y4|apply y19|apply y5|refine y6 ?_ (y2.ge Aa.out)|refine y6 ?_ Ak.out)|exact HB.out))));replace Ad:=y0.mk (y3.blk hk (g':=Ac) (o:=.cells #[.int .i64 0,.slice none 0 0] 32 (0,0)) (qk Ad.out) Aw.out (by simp));replace HB:=y0.mk (hb);replace Aa:=y0.mk (hi);(try clear hb hk hi);(try clear Gj))|((with_reducible refine y17 (N:=5) rfl ?_);refine qe 5 #[.int .i64 0,.slice none 0 0] 32 ?_;intro Aj hg Im hbox hb;replace Bs:=y0.mk (Kd.N_below (Kd.N_elderB (qN Bs.out) Aj (Nat.le_of_eq hg.symm)) hb);have Af:=y0.mk (hbox);have Gk:=y0.mk ((by rw [hg];exact(y7 (by repeat(first|(with_reducible first|exact HB.out|apply y4|apply y19|apply y5|refine y6 ?_ (y2.ge Aa.out)|refine y6 ?_ Ak.out)|exact HB.out))):w.heap.size≤Aj));have Ap:=y0.mk ((by rw [hg];exact(y7 (by repeat(first|(with_reducible first|exact HB.out|apply y4|apply y19|apply y5|refine y6 ?_ (y2.ge Aa.out)|refine y6 ?_ Ak.out)|exact HB.out))):w.heap.size≤Aj));replace HB:=y0.mk (y8 (by repeat(first|(with_reducible first|exact HB.out|apply y4|apply y19|apply y5|refine y6 ?_ (y2.ge Aa.out)|refine y6 ?_ Ak.out)|exact HB.out)) hb);have Ao:=y0.mk (qn Ad.out hg);have Ae:=y0.mk (qm Ad.out hg);replace Ad:=y0.mk (qK Ad.out hb);have Ai:=y0.mk ((by rw [hg];exact Nat.ne_of_lt (y2.lt (show y2 w _ Am Bc Da Db from by repeat(first|(with_reducible first|exact Aa.out|apply y2.alloc|apply y2.drewN|apply y2.drew|apply y2.set_1|apply y2.set_2|refine y2.far ?_ Ag.out _)|exact Aa.out))):Am≠Aj));have At:=y0.mk ((by rw [hg];exact Nat.ne_of_gt (y2.lt (show y2 w _ Am Bc Da Db from by repeat(first|(with_reducible first|exact Aa.out|apply y2.alloc|apply y2.drewN|apply y2.drew|apply y2.set_1|apply y2.set_2|refine y2.far ?_ Ag.out _)|exact Aa.out))):Aj≠Am));replace Aa:=y0.mk (y2.below (by repeat(first|(with_reducible first|exact Aa.out|apply y2.alloc|apply y2.drewN|apply y2.drew|apply y2.set_1|apply y2.set_2|refine y2.far ?_ Ag.out _)|exact Aa.out)) hb);clear hb hbox hg;have Gl:=Ae.out;have Gm:=Ao.out;have Gn:=At.out;have Gp:=Ai.out;obtain⟨Dl,Dm,Dn,Do⟩:=qz2 Af.out;obtain⟨Ba,As,Fx⟩:=Kd.N_slice Bs.out;subst Fx))
 (try simp only [Act.put,qS_,qZ_,qC_])
 go_cut [22] (fun Ia wc=>∃(kq:Nat) (Cq:Bool) (Ax:Int) (Ay:Int),Ia=.bool Cq∧y0 (z3_.j0 kq Cq Bc Ax Ay Aq Ah=some (r1,r2,r3))∧y0 (kq≤k)∧y0 (Kd.N k36 36 wc w.heap.size (fun k_=>(w.heap.size≤k_)∧k_≠Ac∧k_≠Aj∧k_≠Am) (.slice Ba Ah.length As) Ah)∧y0 (wc.heap[Ac]?=some (.cells #[.int .i64 0,(.slice none 0 0)] 32 (0,0)))∧y0 (wc.heap[Aj]?=some (.cells #[.int .i64 Aq,(.slice Ba Ah.length As)] 32 (0,0)))∧y0 (y2 w wc Am Bc Ax Ay)∧y0 (Below w.heap.size w wc))
 case first =>
  have H:=Fw.out
  clear Fw
  by_cases Ek:(Ah.length:Int) > 0
  ·rw [if_pos Ek]at H
   have Ce:decide (0 < (Ah.length:Int))=true:=decide_eq_true Ek
   have Ep:decide (0 < Ah.length)=true:=decide_eq_true (by omega)
   clear Ek
   (first|rw [Ce]|(simp only [i64_w,i32_w];rw [Ce])|skip)
   obtain⟨⟨Ec,Ed,Ee⟩,Ib,H⟩:=qB H
   replace H:(z3_.j0 k (decide (Ec > 0)) Bc Ed Ee Aq Ah)=some (r1,r2,r3):=H
   have H':=y0.mk H
   clear H
   have Gq:=Ae.out
   have Gr:=Ao.out
   have Gs:=At.out
   have Gt:=Ai.out
   obtain⟨Fc,Fd,Fe,Ff⟩:=qz2 Af.out
   go_wp2_with (first|(go_at_call 54;(with_reducible refine(z6_.calls Am Bc Da Db 4 Ec Ed Ee w _ (by repeat(first|(with_reducible first|exact Aa.out|apply y2.alloc|apply y2.drewN|apply y2.drew|apply y2.set_1|apply y2.set_2|refine y2.far ?_ Ag.out _|refine y2.far ?_ Ai.out _)|exact Aa.out)) (by repeat(first|(with_reducible first|exact HB.out|apply y4|apply y19|apply y5|refine y6 ?_ (y2.ge Aa.out)|refine y6 ?_ Ak.out|refine y6 ?_ Ap.out)|exact HB.out)) Ib.out).mono ?_);rintro e In ⟨rfl,hi,hb,hk⟩;replace Ad:=y0.mk (y3.blk hk (g':=Ac) (o:=.cells #[.int .i64 0,.slice none 0 0] 32 (0,0)) (by(with_reducible repeat(first|refine y12 ?_ _|refine y11 ?_|refine y9 ?_ _));refine blk_far ?_ Ao.out _;(with_reducible repeat(first|refine y12 ?_ _|refine y11 ?_|refine y9 ?_ _));refine blk_far ?_ Ao.out _;(with_reducible repeat(first|refine y12 ?_ _|refine y11 ?_|refine y9 ?_ _));exact Ad.out) Aw.out (by simp));replace Bs:=y0.mk (Kd.N_mono (Kd.N_keep (Kd.N_mono (ok:=fun k_=>((((w.heap.size≤k_))∧(k_≠Ac∧k_≠Am))∧k_≠Aj)) (qN ((Kd.N_mono (Kd.N_far (p:=⟨Aj,1,none⟩) (Kd.N_far (p:=⟨Aj,0,none⟩) (Kd.N_mono Bs.out (fun k_ hk=>(⟨hk,hk.2⟩:_∧k_≠Aj))) (fun _ hk=>hk.2) (.int .i64 Aq)) (fun _ hk=>hk.2) (.slice Ba Ah.length As)) (fun _ h_=>h_.1)))) (fun k_ hk_=>(⟨hk_,hk_.1.2.2⟩:_∧k_≠Am))) hk (fun _ h=>h.2)) (fun _ h=>h.1));replace Af:=y0.mk (y3.blk hk (g':=Aj) (o:=.cells #[.int .i64 Aq,.slice Ba Ah.length As] 32 (0,0)) (by(with_reducible repeat(first|refine y12 ?_ _|refine y11 ?_|refine y9 ?_ _));refine y13 (cs:=#[.int .i64 Aq,.slice none 0 0]) ?_ 1 _ rfl;(with_reducible repeat(first|refine y12 ?_ _|refine y11 ?_|refine y9 ?_ _));refine y13 (cs:=#[.int .i64 0,.slice none 0 0]) ?_ 0 _ rfl;(with_reducible repeat(first|refine y12 ?_ _|refine y11 ?_|refine y9 ?_ _));exact Af.out) At.out (by simp));replace HB:=y0.mk (hb);replace Aa:=y0.mk (hi);(try clear hb hk hi)))
   go_meet
   exact⟨_,(decide (Ec > 0)),(Ed),(Ee),qy2,H',⟨by first|omega|exact Nat.le_refl _⟩,⟨qN (Kd.N_mono Bs.out (fun _ hk=>⟨hk.1.1,⟨hk.1.2.1,⟨hk.2,hk.1.2.2⟩⟩⟩))⟩,⟨qk Ad.out⟩,⟨qk Af.out⟩,⟨by repeat(first|(with_reducible first|exact Aa.out|apply y2.alloc|apply y2.drewN|apply y2.drew|apply y2.set_1|apply y2.set_2|refine y2.far ?_ Ag.out _|refine y2.far ?_ Ai.out _)|exact Aa.out)⟩,⟨by repeat(first|(with_reducible first|exact HB.out|apply y4|apply y19|apply y5|refine y6 ?_ (y2.ge Aa.out)|refine y6 ?_ Ak.out|refine y6 ?_ Ap.out)|exact HB.out)⟩⟩
  ·rw [if_neg Ek]at H
   have Ce:decide (0 < (Ah.length:Int))=false:=decide_eq_false Ek
   have Ep:decide (0 < Ah.length)=false:=decide_eq_false (by omega)
   clear Ek
   (first|rw [Ce]|(simp only [i64_w,i32_w];rw [Ce])|skip)
   have H':=y0.mk H
   clear H
   have Gu:=Ae.out
   have Gv:=Ao.out
   have Gw:=At.out
   have Gx:=Ai.out
   obtain⟨Fg,Fh,Fi,Fj⟩:=qz2 Af.out
   go_wp2
   go_meet
   exact⟨_,(false),(Da),(Db),qy2,H',⟨by first|omega|exact Nat.le_refl _⟩,⟨qN (Kd.N_mono (Kd.N_far (p:=⟨Aj,1,none⟩) (Kd.N_far (p:=⟨Aj,0,none⟩) (Kd.N_mono Bs.out (fun k_ hk=>(⟨hk,hk.2⟩:_∧k_≠Aj))) (fun _ hk=>hk.2) (.int .i64 Aq)) (fun _ hk=>hk.2) (.slice Ba Ah.length As)) (fun _ hk=>⟨hk.1.1.1,⟨hk.1.1.2.1,⟨hk.1.2,hk.1.1.2.2⟩⟩⟩))⟩,⟨by(with_reducible repeat(first|refine y12 ?_ _|refine y11 ?_|refine y9 ?_ _));refine blk_far ?_ Ao.out _;(with_reducible repeat(first|refine y12 ?_ _|refine y11 ?_|refine y9 ?_ _));refine blk_far ?_ Ao.out _;(with_reducible repeat(first|refine y12 ?_ _|refine y11 ?_|refine y9 ?_ _));exact Ad.out⟩,⟨by(with_reducible repeat(first|refine y12 ?_ _|refine y11 ?_|refine y9 ?_ _));refine y13 (cs:=#[.int .i64 Aq,.slice none 0 0]) ?_ 1 _ rfl;(with_reducible repeat(first|refine y12 ?_ _|refine y11 ?_|refine y9 ?_ _));refine y13 (cs:=#[.int .i64 0,.slice none 0 0]) ?_ 0 _ rfl;(with_reducible repeat(first|refine y12 ?_ _|refine y11 ?_|refine y9 ?_ _));exact Af.out⟩,⟨by repeat(first|(with_reducible first|exact Aa.out|apply y2.alloc|apply y2.drewN|apply y2.drew|apply y2.set_1|apply y2.set_2|refine y2.far ?_ Ag.out _|refine y2.far ?_ Ai.out _)|exact Aa.out)⟩,⟨by repeat(first|(with_reducible first|exact HB.out|apply y4|apply y19|apply y5|refine y6 ?_ (y2.ge Aa.out)|refine y6 ?_ Ak.out|refine y6 ?_ Ap.out)|exact HB.out)⟩⟩
 case rest =>
  clear Fw
  (try clear Dl Dm Dn Do)
  obtain⟨kq,Cq,Ax,Ay,rfl,HA,Io,Ab,Ad,Af,Aa,HB⟩:=hcut
  cases kq with
  | zero=>exact absurd HA.out (by simp [z3_.j0])
  | succ Ip =>
   have H:=HA.out
   clear HA
   simp only [z3_.j0]at H
   by_cases Fk:Cq=true
   ·subst Fk
    replace H:=qT H
    obtain⟨⟨Av,Dc,Dd⟩,Ic,H⟩:=qB H
    dsimp only at H
    obtain⟨Gy,H⟩:=qo H
    have Gz:decide (0≤Av)=true:=decide_eq_true Gy
    clear Gy
    obtain⟨Ha,H⟩:=qo H
    have Hb:decide (Av < (Ah.length:Int))=true:=decide_eq_true Ha
    clear Ha
    obtain⟨Cf,Cg⟩:∃ y_:List ByteArray,y_=(([]:List ByteArray)):=⟨_,rfl⟩
    replace H:((z6_.f Bc Dc Dd (wrap64 ((((y20 Ah Av).f0).length:Int) + 1))).bind fun De=>(if 0≤De.1 then(if De.1≤(((y20 Ah Av).f0).length:Int)then((some (((y20 Ah Av).f0).take (De.1:Int).toNat:List ByteArray)).bind fun Bm=>(if Cf.length + Bm.length < 8796093022208 then(some (Aq,Ah,(Cf ++ Bm)))else(none)))else(none))else(none)))=some (r1,r2,r3):=by first|(rw [Cg];with_reducible exact H)|(have H2_:=(Option.bind_some _ _).symm.trans H;rw [Cg];with_reducible exact H2_)|(have H2_:=(Option.bind_some _ _).symm.trans H;with_reducible exact H2_)|with_reducible exact H|(rw [Cg];exact H)|exact H
    have Cr:=y0.mk Cg
    clear Cg
    obtain⟨⟨Bn,Dp,Dq⟩,Hc,H⟩:=qB H
    dsimp only at H
    obtain⟨Fy,H⟩:=qo H
    have Hd:=eq_true Fy
    have He:=decide_eq_true Fy
    clear Fy
    obtain⟨Fz,H⟩:=qo H
    have Hf:=eq_true Fz
    have Hg:=decide_eq_true Fz
    clear Fz
    obtain⟨Bm,Ch⟩:∃ y_:List ByteArray,y_=(((y20 Ah Av).f0).take (Bn:Int).toNat):=⟨_,rfl⟩
    replace H:(if Cf.length + Bm.length < 8796093022208 then(some (Aq,Ah,(Cf ++ Bm)))else(none))=some (r1,r2,r3):=by first|(rw [Ch];with_reducible exact H)|(have H2_:=(Option.bind_some _ _).symm.trans H;rw [Ch];with_reducible exact H2_)|(have H2_:=(Option.bind_some _ _).symm.trans H;with_reducible exact H2_)|with_reducible exact H|(rw [Ch];exact H)|exact H
    have Cs:=y0.mk Ch
    clear Ch
    obtain⟨Hh,H⟩:=qo H
    have Er:=y0.mk Hh
    clear Hh
    obtain⟨Ga,Ci⟩:∃ y_:List ByteArray,y_=(Cf ++ Bm):=⟨_,rfl⟩
    replace H:(some (Aq,Ah,Ga))=some (r1,r2,r3):=by first|(rw [Ci];with_reducible exact H)|(have H2_:=(Option.bind_some _ _).symm.trans H;rw [Ci];with_reducible exact H2_)|(have H2_:=(Option.bind_some _ _).symm.trans H;with_reducible exact H2_)|with_reducible exact H|(rw [Ci];exact H)|exact H
    have Es:=y0.mk Ci
    clear Ci
    simp only [Option.some.injEq,Prod.mk.injEq]at H
    obtain⟨rfl,rfl,rfl⟩:=H
    try go_wp2
    replace Ab:=y0.mk (Kd.N_drew Ab.out)
    replace Ad:=y0.mk (y11 Ad.out)
    replace Af:=y0.mk (y11 Af.out)
    replace Aa:=y0.mk (y2.drew Aa.out)
    replace HB:=y0.mk (y5 HB.out)
    have Dr:0≤(Av:Int):=of_decide_eq_true qy1
    have Ds:Av < (Ah.length:Int):=of_decide_eq_true qy1
    obtain⟨Au,Bg,Bd,Gb,Bz,Ct,Cu⟩:=at_T36 (Kd.N_reads' Ab.out).2.2 Av Dr Ds
    cases Gb
    obtain⟨Hi,Ef,Eg,Df⟩:=Kd.N_get Ab.out z36 Av Dr (by first|exact Ds|exact of_decide_eq_true qy1|(have e_:=(Kd.N_reads' Ab.out).1;omega))
    obtain⟨Fl,Fm,rfl,Ca,Cb⟩:=k36_openF Eg
    have Bq:=Df 0 _ rfl
    rw [Nat.add_zero,show(k36).sz=1 from rfl,Nat.mul_one]at Bq
    replace Bq:=Option.some.inj (Bq.symm.trans Bz)
    injection Bq with hva_ hvn_ hvc_
    rw [hva_]at Cb
    rw [hvc_]at Ca
    have Al:=y0.mk (show Kd.V Kd.string 9 _ w.heap.size _ _ ((y20 Ah Av).f0)from Kd.V_mk Ca Cb)
    clear hva_ hvn_ hvc_ Cb Ca
    clear Df Ef
    have Bb:=y0.mk Cu
    have Cc:=y0.mk Ct
    clear Cu Ct
    replace Dr:=eq_true Dr
    replace Ds:=eq_true Ds
    refine start_ (n:=11) (S:=fun w'=>w'.cell? ⟨Aj,0,none⟩=some (.int .i64 Aq)∧w'.cell? ⟨Aj,1,none⟩=some (.slice (some Au) Ah.length As)∧w'.cell? (Au.add (Av).toNat)=some (.slice Bg ((y20 Ah Av).f0).length Bd)) (ds:=[]) (fl_ 11 0) (by kernel_rfl) rfl rfl ⟨(y10 Af.out 0).trans rfl,(y10 Af.out 1).trans rfl,Bz⟩ (fun hHeld=>?_);refine with_tabW z3_.tab4 z3_.bits4 (fun HT_ HW_=>?_)
    generalize wc.drew=Iq at Ab Ad Af Aa HB Al Bb Bz hHeld ⊢
    refine qp 0 23 (fl_ 11 1) ?_
    refine qp 2 25 (fl_ 11 5) ?_
    refine qp 3 26 (fl_ 11 13) ?_
    refine qt 1 24 (fl_ 11 15) hHeld ?_
    refine qt 4 27 (fl_ 11 31) hHeld ?_
    refine qp 5 28 (fl_ 11 63) ?_
    refine qO 6 29 (fl_ 11 127) (fun K hK=>?_)
    refine goes_ Tryz.func54 (by kernel_rfl) rfl #[.pointer (some ⟨Am,0,none⟩),.int .i64 (Ah.length:Int)] (by rfl) rfl rfl qy0 ?_
    with_reducible refine(z6_.calls Am Bc Ax Ay (Ah.length:Int) Av Dc Dd w _ (by repeat(first|(with_reducible first|exact Aa.out|apply y2.alloc|apply y2.drewN|apply y2.drew|apply y2.set_1|apply y2.set_2|refine y2.far ?_ Ag.out _|refine y2.far ?_ Ai.out _)|exact Aa.out)) (by repeat(first|(with_reducible first|exact HB.out|apply y4|apply y19|apply y5|refine y6 ?_ (y2.ge Aa.out)|refine y6 ?_ Ak.out|refine y6 ?_ Ap.out)|exact HB.out)) Ic.out).mono ?_
    rintro e Id ⟨rfl,hi,hb,hk⟩
    have HS2_:=keep_cell hk (hHeld.2.2) (by first|(rw [add_block];exact Kd.own_blk (y2.own_neN Aa.out Ab.out (by decide)))|(show(Addr.add _ _).block≠_;rw [add_block];exact Kd.own_blk (y2.own_neN Aa.out Ab.out (by decide)))|exact Kd.own_blk (y2.own_neN Aa.out Ab.out (by decide)))
    refine⟨_,rfl, ?_⟩
    replace Al:=y0.mk (Kd.V_mono (Kd.V_keep (Kd.V_mono (ok:=fun k_=>(((w.heap.size≤k_))∧(k_≠Ac∧(k_≠Aj∧k_≠Am)))∧some k_≠(.slice (some Au) Ah.length As:Value).ownBlock) Al.out (fun k_ hk_=>(⟨hk_,hk_.1.2.2.2⟩:_∧k_≠Am))) hk (fun _ h=>h.2)) (fun _ h=>h.1))
    replace Bb:=y0.mk (Kd.V_reads' Al.out).2.2
    replace Ab:=y0.mk (Kd.N_mono (Kd.N_keep (Kd.N_mono (ok:=fun k_=>(((w.heap.size≤k_))∧(k_≠Ac∧(k_≠Aj∧k_≠Am)))) (qN Ab.out) (fun k_ hk_=>(⟨hk_,hk_.2.2.2⟩:_∧k_≠Am))) hk (fun _ h=>h.2)) (fun _ h=>h.1))
    replace Ad:=y0.mk (y3.blk hk (g':=Ac) (o:=.cells #[.int .i64 0,.slice none 0 0] 32 (0,0)) (qk Ad.out) Aw.out (by simp))
    replace Af:=y0.mk (y3.blk hk (g':=Aj) (o:=.cells #[.int .i64 Aq,.slice (some Au) Ah.length As] 32 (0,0)) (qk Af.out) At.out (by simp))
    replace HB:=y0.mk (hb)
    replace Aa:=y0.mk (hi)
    (try clear hb hk hi)
    refine hK.out _ _ ⟨(y10 Af.out 0).trans rfl,(y10 Af.out 1).trans rfl,HS2_⟩ (fun hHeld=>?_)
    clear hK K
    refine qx 29 ?_
    refine qp2 7 30 11 ?_
    refine qt 9 32 (fl_ 11 1023) hHeld ?_
    refine qp 10 6 (fl_ 11 2047) ?_
    refine done_ (done_of HT_.out (by kernel_rfl)) ?_
    try go_wp2
    replace Ab:=y0.mk (Kd.N_drew Ab.out)
    replace Al:=y0.mk (Kd.V_drew Al.out)
    replace Ad:=y0.mk (y11 Ad.out)
    replace Af:=y0.mk (y11 Af.out)
    replace Bb:=y0.mk (Kd.C_drew Bb.out)
    replace Aa:=y0.mk (y2.drew Aa.out)
    replace HB:=y0.mk (y5 HB.out)
    refine start_ (n:=12) (S:=fun w'=>w'.cell? ⟨Aj,0,none⟩=some (.int .i64 Aq)∧w'.cell? ⟨Aj,1,none⟩=some (.slice (some Au) Ah.length As)) (ds:=[]) (fl_ 12 0) (by kernel_rfl) rfl rfl ⟨(y10 Af.out 0).trans rfl,(y10 Af.out 1).trans rfl⟩ (fun hHeld=>?_);refine with_tabW z3_.tab5 z3_.bits5 (fun HT_ HW_=>?_)
    generalize Id.drew=Ir at Ab Al Ad Af Bb Aa HB hHeld ⊢
    refine qp 2 35 (fl_ 12 4) ?_
    refine qp 3 36 (fl_ 12 12) ?_
    refine qp 4 37 (fl_ 12 28) ?_
    refine qp 5 38 (fl_ 12 60) ?_
    refine qp 6 39 (fl_ 12 124) ?_
    refine qt 0 33 (fl_ 12 125) hHeld ?_
    refine join_ (σ:=Value) 3 (fl_ 12 511) (fun s_=>[(34,s_),(40,.int .i64 Bn),(41,.slice Bg Bm.length Bd)]) (fun s_ w'=>(w'.cell? ⟨Aj,0,none⟩=some (.int .i64 Aq)∧w'.cell? ⟨Aj,1,none⟩=some (.slice (some Au) Ah.length As))∧(Kd.V Kd.string 9 w' w.heap.size (fun k_=>(w.heap.size≤k_)∧some k_≠(s_:Value).ownBlock∧some k_≠(.slice (some Au) Ah.length As:Value).ownBlock∧k_≠Ac∧k_≠Am∧k_≠Aj) (.slice Bg ((y20 Ah Av).f0).length Bd) ((y20 Ah Av).f0))∧(Kd.R Kd.string 9 w' w.heap.size (fun k_=>(w.heap.size≤k_)) s_ Cf)∧(Kd.N k36 36 w' w.heap.size (fun k_=>(w.heap.size≤k_)∧some k_≠(s_:Value).ownBlock∧k_≠Ac∧k_≠Am∧k_≠Aj) (.slice (some Au) Ah.length As) Ah)∧(w'.heap[Ac]?=some (.cells #[.int .i64 0,.slice none 0 0] 32 (0,0)))∧(w'.heap[Aj]?=some (.cells #[.int .i64 Aq,.slice (some Au) Ah.length As] 32 (0,0)))∧(y2 w w' Am Bc Dp Dq)∧(Below w.heap.size w w')) ?_ ?_
    rotate_left
    ·intro hCont
     refine two_ (i:=1) (j:=7) (Ni:=some 34) (Nj:=some 40) (fl_ 12 127) (fl_ 12 253) rfl rfl rfl rfl (two_of HT_.out (by kernel_rfl)) (by decide) (by decide) (fun K hK=>?_) (fun K hK=>?_)
     ·skip
      refine qLs Kd.string 9 34 ([]:List ByteArray) ?_
      intro Bw Ie Cn hb hg_ hnew_
      clear hg_ hnew_
      (first|rw [← Cr.out]at Cn|(simp only [Int.reduceToNat]at Cn;rw [← Cr.out]at Cn))
      have n0_:=y0.mk (Kd.N_elder' (qN Ab.out) (Kd.R_base Cn) hb)
      have n1_:=y0.mk (Kd.V_elder' (qV Al.out) (Kd.R_base Cn) hb)
      have n2_:=y0.mk (Kd.R_lower (Kd.R_newM (M:=fun k_=>(w.heap.size≤k_)) Cn (y7 (by repeat(first|(with_reducible first|exact HB.out|apply y4|apply y19|apply y5|refine y6 ?_ (y2.ge Aa.out)|refine y6 ?_ Ak.out|refine y6 ?_ Ap.out)|exact HB.out))) (fun k_ h_=>h_)) (y7 (by repeat(first|(with_reducible first|exact HB.out|apply y4|apply y19|apply y5|refine y6 ?_ (y2.ge Aa.out)|refine y6 ?_ Ak.out|refine y6 ?_ Ap.out)|exact HB.out))))
      have n3_:=y0.mk (qK Ad.out hb)
      have n4_:=y0.mk (qK Af.out hb)
      have n5_:=y0.mk (y2.below (by repeat(first|(with_reducible first|exact Aa.out|apply y2.alloc|apply y2.drewN|apply y2.drew|apply y2.set_1|apply y2.set_2|refine y2.far ?_ Ag.out _|refine y2.far ?_ Ai.out _)|exact Aa.out)) hb)
      have n6_:=Bb
      have n7_:=y0.mk (y8 (by repeat(first|(with_reducible first|exact HB.out|apply y4|apply y19|apply y5|refine y6 ?_ (y2.ge Aa.out)|refine y6 ?_ Ak.out|refine y6 ?_ Ap.out)|exact HB.out)) hb)
      clear Ab
      clear Al
      clear Ad
      clear Af
      clear Aa
      clear Bb
      clear HB
      have Ab:=n0_
      have Al:=n1_
      have Bh:=n2_
      have Ad:=n3_
      have Af:=n4_
      have Aa:=n5_
      have Bb:=n6_
      have HB:=n7_
      clear n0_ n1_ n2_ n3_ n4_ n5_ n6_ n7_
      clear hb Cn
      refine hK.out _ _ ⟨(y10 Af.out 0).trans rfl,(y10 Af.out 1).trans rfl⟩ (fun hHeld=>?_)
      clear hK K
      refine qx 34 ?_
      refine qO 7 40 (fl_ 12 255) (fun K hK=>?_)
      refine goes_ Tryz.func54 (by kernel_rfl) rfl #[.pointer (some ⟨Am,0,none⟩),.int .i64 (wrap64 ((((y20 Ah Av).f0).length:Int) + 1))] (by rfl) rfl rfl qy0 ?_
      with_reducible refine(z6_.calls Am Bc Dc Dd (wrap64 ((((y20 Ah Av).f0).length:Int) + 1)) Bn Dp Dq w _ (by repeat(first|(with_reducible first|exact Aa.out|apply y2.alloc|apply y2.drewN|apply y2.drew|apply y2.set_1|apply y2.set_2|refine y2.far ?_ Ag.out _|refine y2.far ?_ Ai.out _)|exact Aa.out)) (by repeat(first|(with_reducible first|exact HB.out|apply y4|apply y19|apply y5|refine y6 ?_ (y2.ge Aa.out)|refine y6 ?_ Ak.out|refine y6 ?_ Ap.out)|exact HB.out)) Hc.out).mono ?_
      rintro e Is ⟨rfl,hi,hb,hk⟩
      refine⟨_,rfl, ?_⟩
      replace Ab:=y0.mk (Kd.N_mono (Kd.N_keep (Kd.N_mono (ok:=fun k_=>((((w.heap.size≤k_))∧(k_≠Ac∧(k_≠Aj∧k_≠Am)))∧some k_≠(Bw:Value).ownBlock)) (qN Ab.out) (fun k_ hk_=>(⟨hk_,hk_.1.2.2.2⟩:_∧k_≠Am))) hk (fun _ h=>h.2)) (fun _ h=>h.1))
      replace Ad:=y0.mk (y3.blk hk (g':=Ac) (o:=.cells #[.int .i64 0,.slice none 0 0] 32 (0,0)) (qk Ad.out) Aw.out (by simp))
      replace Af:=y0.mk (y3.blk hk (g':=Aj) (o:=.cells #[.int .i64 Aq,.slice (some Au) Ah.length As] 32 (0,0)) (qk Af.out) At.out (by simp))
      replace Al:=y0.mk (Kd.V_mono (Kd.V_keep (Kd.V_mono (ok:=fun k_=>(((((w.heap.size≤k_))∧(k_≠Ac∧(k_≠Aj∧k_≠Am)))∧some k_≠(.slice (some Au) Ah.length As:Value).ownBlock)∧some k_≠(Bw:Value).ownBlock)) (qV Al.out) (fun k_ hk_=>(⟨hk_,hk_.1.1.2.2.2⟩:_∧k_≠Am))) hk (fun _ h=>h.2)) (fun _ h=>h.1))
      replace Bh:=y0.mk (Kd.R_mono (Kd.R_keep (y2.apart (show y2 w _ Am Bc Dc Dd from by repeat(first|(with_reducible first|exact Aa.out|apply y2.alloc|apply y2.drewN|apply y2.drew|apply y2.set_1|apply y2.set_2|refine y2.far ?_ Ag.out _|refine y2.far ?_ Ai.out _)|exact Aa.out)) (qR Bh.out) (by decide)) hk (fun _ h=>h.2)) (fun _ h=>h.1))
      replace HB:=y0.mk (hb)
      replace Aa:=y0.mk (hi)
      (try clear hb hk hi)
      refine hK.out _ _ ⟨(y10 Af.out 0).trans rfl,(y10 Af.out 1).trans rfl⟩ (fun hHeld=>?_)
      clear hK K
      refine qx 40 ?_
      have Eh:(Bn:Int)≤((((y20 Ah Av).f0).length:Int):Int):=of_decide_eq_true qy1
      obtain⟨Et,Bp,_,Cj,_⟩:=info_parts info9
      have Bt:=cut_to (P:=Tryz.prog) 25 9 .i64 Tryz.underlying25 Bp Bg ((y20 Ah Av).f0).length Bd Bn (of_decide_eq_true qy1) Eh Cc.out
      have Cd:Bm.length=(Bn:Int).toNat:=(by rw [Cs.out,qT_];omega)
      rw [← Cd]at Bt
      clear Cd Bp Cj
      refine qp 8 41 (fl_ 12 511) ?_
      exact norm_ qy4 (hCont (Bw) _ ⟨hHeld,(qV (Kd.V_mono Al.out (fun _ hk=>⟨hk.1.1.1,⟨hk.2,⟨hk.1.2,⟨hk.1.1.2.1,⟨hk.1.1.2.2.2,hk.1.1.2.2.1⟩⟩⟩⟩⟩))),(qR (Kd.R_mono Bh.out (fun _ hk=>hk.1))),(qN (Kd.N_mono Ab.out (fun _ hk=>⟨hk.1.1,⟨hk.2,⟨hk.1.2.1,⟨hk.1.2.2.2,hk.1.2.2.1⟩⟩⟩⟩))),(qk Ad.out),(qk Af.out),(by repeat(first|(with_reducible first|exact Aa.out|apply y2.alloc|apply y2.drewN|apply y2.drew|apply y2.set_1|apply y2.set_2|refine y2.far ?_ Ag.out _|refine y2.far ?_ Ai.out _)|exact Aa.out)),(by repeat(first|(with_reducible first|exact HB.out|apply y4|apply y19|apply y5|refine y6 ?_ (y2.ge Aa.out)|refine y6 ?_ Ak.out|refine y6 ?_ Ap.out)|exact HB.out))⟩)
     ·skip
      refine goes_ Tryz.func54 (by kernel_rfl) rfl #[.pointer (some ⟨Am,0,none⟩),.int .i64 (wrap64 ((((y20 Ah Av).f0).length:Int) + 1))] (by rfl) rfl rfl qy0 ?_
      with_reducible refine(z6_.calls Am Bc Dc Dd (wrap64 ((((y20 Ah Av).f0).length:Int) + 1)) Bn Dp Dq w _ (by repeat(first|(with_reducible first|exact Aa.out|apply y2.alloc|apply y2.drewN|apply y2.drew|apply y2.set_1|apply y2.set_2|refine y2.far ?_ Ag.out _|refine y2.far ?_ Ai.out _)|exact Aa.out)) (by repeat(first|(with_reducible first|exact HB.out|apply y4|apply y19|apply y5|refine y6 ?_ (y2.ge Aa.out)|refine y6 ?_ Ak.out|refine y6 ?_ Ap.out)|exact HB.out)) Hc.out).mono ?_
      rintro e Ie ⟨rfl,hi,hb,hk⟩
      refine⟨_,rfl, ?_⟩
      replace Ab:=y0.mk (Kd.N_mono (Kd.N_keep (Kd.N_mono (ok:=fun k_=>(((w.heap.size≤k_))∧(k_≠Ac∧(k_≠Aj∧k_≠Am)))) (qN Ab.out) (fun k_ hk_=>(⟨hk_,hk_.2.2.2⟩:_∧k_≠Am))) hk (fun _ h=>h.2)) (fun _ h=>h.1))
      replace Ad:=y0.mk (y3.blk hk (g':=Ac) (o:=.cells #[.int .i64 0,.slice none 0 0] 32 (0,0)) (qk Ad.out) Aw.out (by simp))
      replace Af:=y0.mk (y3.blk hk (g':=Aj) (o:=.cells #[.int .i64 Aq,.slice (some Au) Ah.length As] 32 (0,0)) (qk Af.out) At.out (by simp))
      replace Al:=y0.mk (Kd.V_mono (Kd.V_keep (Kd.V_mono (ok:=fun k_=>((((w.heap.size≤k_))∧(k_≠Ac∧(k_≠Aj∧k_≠Am)))∧some k_≠(.slice (some Au) Ah.length As:Value).ownBlock)) (qV Al.out) (fun k_ hk_=>(⟨hk_,hk_.1.2.2.2⟩:_∧k_≠Am))) hk (fun _ h=>h.2)) (fun _ h=>h.1))
      replace HB:=y0.mk (hb)
      replace Aa:=y0.mk (hi)
      (try clear hb hk hi)
      refine hK.out _ _ ⟨(y10 Af.out 0).trans rfl,(y10 Af.out 1).trans rfl⟩ (fun hHeld=>?_)
      clear hK K
      refine qx 40 ?_
      have Eh:(Bn:Int)≤((((y20 Ah Av).f0).length:Int):Int):=of_decide_eq_true qy1
      obtain⟨Et,Bp,_,Cj,_⟩:=info_parts info9
      have Bt:=cut_to (P:=Tryz.prog) 25 9 .i64 Tryz.underlying25 Bp Bg ((y20 Ah Av).f0).length Bd Bn (of_decide_eq_true qy1) Eh Cc.out
      have Cd:Bm.length=(Bn:Int).toNat:=(by rw [Cs.out,qT_];omega)
      rw [← Cd]at Bt
      clear Cd Bp Cj
      refine qp 8 41 (fl_ 12 509) ?_
      refine qO 1 34 (fl_ 12 511) (fun K hK=>?_)
      refine qLs Kd.string 9 34 ([]:List ByteArray) ?_
      intro Bw It Co hb hg_ hnew_
      clear hg_ hnew_
      (first|rw [← Cr.out]at Co|(simp only [Int.reduceToNat]at Co;rw [← Cr.out]at Co))
      replace Ab:=y0.mk (Kd.N_elder' (qN Ab.out) (Kd.R_base Co) hb)
      replace Al:=y0.mk (Kd.V_elder' (qV Al.out) (Kd.R_base Co) hb)
      have Bh:=y0.mk (Kd.R_lower (Kd.R_newM (M:=fun k_=>(w.heap.size≤k_)) Co (y7 (by repeat(first|(with_reducible first|exact HB.out|apply y4|apply y19|apply y5|refine y6 ?_ (y2.ge Aa.out)|refine y6 ?_ Ak.out|refine y6 ?_ Ap.out)|exact HB.out))) (fun k_ h_=>h_)) (y7 (by repeat(first|(with_reducible first|exact HB.out|apply y4|apply y19|apply y5|refine y6 ?_ (y2.ge Aa.out)|refine y6 ?_ Ak.out|refine y6 ?_ Ap.out)|exact HB.out))))
      replace Ad:=y0.mk (qK Ad.out hb)
      replace Af:=y0.mk (qK Af.out hb)
      replace HB:=y0.mk (y8 (by repeat(first|(with_reducible first|exact HB.out|apply y4|apply y19|apply y5|refine y6 ?_ (y2.ge Aa.out)|refine y6 ?_ Ak.out|refine y6 ?_ Ap.out)|exact HB.out)) hb)
      replace Aa:=y0.mk (y2.below (by repeat(first|(with_reducible first|exact Aa.out|apply y2.alloc|apply y2.drewN|apply y2.drew|apply y2.set_1|apply y2.set_2|refine y2.far ?_ Ag.out _|refine y2.far ?_ Ai.out _)|exact Aa.out)) hb)
      clear hb Co
      refine hK.out _ _ ⟨(y10 Af.out 0).trans rfl,(y10 Af.out 1).trans rfl⟩ (fun hHeld=>?_)
      clear hK K
      refine qx 34 ?_
      exact norm_ qy4 (hCont (Bw) _ ⟨hHeld,(qV (Kd.V_mono Al.out (fun _ hk=>⟨hk.1.1.1,⟨hk.2,⟨hk.1.2,⟨hk.1.1.2.1,⟨hk.1.1.2.2.2,hk.1.1.2.2.1⟩⟩⟩⟩⟩))),(qR (Kd.R_mono Bh.out (fun _ hk=>hk.1))),(qN (Kd.N_mono Ab.out (fun _ hk=>⟨hk.1.1,⟨hk.2,⟨hk.1.2.1,⟨hk.1.2.2.2,hk.1.2.2.1⟩⟩⟩⟩))),(qk Ad.out),(qk Af.out),(by repeat(first|(with_reducible first|exact Aa.out|apply y2.alloc|apply y2.drewN|apply y2.drew|apply y2.set_1|apply y2.set_2|refine y2.far ?_ Ag.out _|refine y2.far ?_ Ai.out _)|exact Aa.out)),(by repeat(first|(with_reducible first|exact HB.out|apply y4|apply y19|apply y5|refine y6 ?_ (y2.ge Aa.out)|refine y6 ?_ Ak.out|refine y6 ?_ Ap.out)|exact HB.out))⟩)
    rintro Bw Dt ⟨hS_,h0_,h1_,h2_,h3_,h4_,h5_,h6_⟩
    have n0_:y0 (Kd.V Kd.string 9 Dt w.heap.size (fun k_=>(w.heap.size≤k_)∧some k_≠(Bw:Value).ownBlock∧some k_≠(.slice (some Au) Ah.length As:Value).ownBlock∧k_≠Ac∧k_≠Am∧k_≠Aj) (.slice Bg ((y20 Ah Av).f0).length Bd) ((y20 Ah Av).f0)):=⟨h0_⟩
    have n1_:y0 (Kd.R Kd.string 9 Dt w.heap.size (fun k_=>(w.heap.size≤k_)) Bw Cf):=⟨h1_⟩
    have n2_:y0 (Kd.N k36 36 Dt w.heap.size (fun k_=>(w.heap.size≤k_)∧some k_≠(Bw:Value).ownBlock∧k_≠Ac∧k_≠Am∧k_≠Aj) (.slice (some Au) Ah.length As) Ah):=⟨h2_⟩
    have n3_:y0 (Dt.heap[Ac]?=some (.cells #[.int .i64 0,.slice none 0 0] 32 (0,0))):=⟨h3_⟩
    have n4_:y0 (Dt.heap[Aj]?=some (.cells #[.int .i64 Aq,.slice (some Au) Ah.length As] 32 (0,0))):=⟨h4_⟩
    have n5_:y0 (y2 w Dt Am Bc Dp Dq):=⟨h5_⟩
    have n6_:y0 (Below w.heap.size w Dt):=⟨h6_⟩
    clear Ab
    clear Al
    clear Ad
    clear Af
    clear Bb
    clear Aa
    clear HB
    clear h0_ h1_ h2_ h3_ h4_ h5_ h6_
    have Al:=n0_
    have Bh:=n1_
    have Ab:=n2_
    have Ad:=n3_
    have Af:=n4_
    have Aa:=n5_
    have HB:=n6_
    clear n0_ n1_ n2_ n3_ n4_ n5_ n6_
    have hHeld:Dt.cell? ⟨Aj,0,none⟩=some (.int .i64 Aq)∧Dt.cell? ⟨Aj,1,none⟩=some (.slice (some Au) Ah.length As):=hS_
    have Eh:(Bn:Int)≤((((y20 Ah Av).f0).length:Int):Int):=of_decide_eq_true qy1
    obtain⟨Et,Bp,_,Cj,_⟩:=info_parts info9
    have hroom39:((y20 Ah Av).f0).length≤Bd:=Cc.out
    have Eu:Kd.F Kd.string _ _ Bg ((y20 Ah Av).f0).length ((y20 Ah Av).f0):=(Kd.V_at (base:=w.heap.size) Al.out).2.2
    have Bt:=cut_to (P:=Tryz.prog) 25 9 .i64 Tryz.underlying25 Bp Bg ((y20 Ah Av).f0).length Bd Bn (of_decide_eq_true qy1) Eh hroom39
    have Ei:=Kd.F_take (m:=(Bn:Int).toNat) Eu (by omega)
    have Cd:Bm.length=(Bn:Int).toNat:=(by rw [Cs.out,qT_];omega)
    rw [← Cs.out]at Ei
    rw [← Cd]at Bt
    have Dg:=y0.mk (show Kd.V Kd.string 9 _ w.heap.size _ (.slice Bg Bm.length Bd) Bm from Kd.V_mk (by omega) Ei)
    have Hj:=y0.mk (show Bm.length≤Bd from by omega)
    clear Ei Eu hroom39 Bp Cj
    have Ig:=y0.mk Cd
    clear Cd
    replace Eh:=eq_true Eh
    refine norm_ (a':=?_) ?_ ?_
    rotate_left
    ·simp only [putAll,Act.put,qS_,qZ_,qC_]
     rfl
    refine qO 9 42 (fl_ 12 1023) (fun K hK=>?_)
    refine Kd.R_append_rows_step Kd.string (w0:=w) w.heap.size (by rfl) (.tmp 34) (.tmp 41) 25 9 (.string ⟨#[]⟩) 16 rfl Tryz.underlying25 info9 rfl (by decide) (by omega) Bw Cf Bm _ _ _ (fun k_=>(w.heap.size≤k_)) (fun _=>False) rfl rfl ?aO ?aR (fun _ _ h=>h) (fun _ h=>h.elim) ?aF ?aB ?aS ?aL ?_
    (case aR=>repeat(first|exact(Kd.V_reads' Dg.out).2.2|(with_reducible refine Kd.C_alloc ?_ _)|(with_reducible refine Kd.C_drewN ?_ _)|(with_reducible refine Kd.C_drew ?_)))
    (case aB=>exact(by repeat(first|(with_reducible first|exact HB.out|apply y4|apply y19|apply y5|refine y6 ?_ (y2.ge Aa.out)|refine y6 ?_ Ak.out|refine y6 ?_ Ap.out)|exact HB.out)))
    (case aF=>exact(fun k_ hk=>(Nat.le_trans (y7 (by repeat(first|(with_reducible first|exact HB.out|apply y4|apply y19|apply y5|refine y6 ?_ (y2.ge Aa.out)|refine y6 ?_ Ak.out|refine y6 ?_ Ap.out)|exact HB.out))) hk)))
    (case aO=>exact(qR Bh.out))
    (case aS=>exact(y7 (by repeat(first|(with_reducible first|exact HB.out|apply y4|apply y19|apply y5|refine y6 ?_ (y2.ge Aa.out)|refine y6 ?_ Ak.out|refine y6 ?_ Ap.out)|exact HB.out))))
    (case aL=>have:=Er.out;omega)
    intro Ih Hk ho hb hg hat
    rw [← Es.out]at ho
    replace Ab:=y0.mk (Kd.N_afterv (ok:=(fun k_=>(w.heap.size≤k_)∧k_≠Ac∧k_≠Am∧k_≠Aj)) (qN (Kd.N_mono Ab.out (fun _ hk=>⟨⟨hk.1,⟨hk.2.2.1,⟨hk.2.2.2.1,hk.2.2.2.2⟩⟩⟩,hk.2.1⟩))) hg hat)
    replace Ad:=y0.mk (blk_grown (qk Ad.out) hg (Kd.R_ne Bh.out Ad.out (by decide)))
    replace Af:=y0.mk (blk_grown (qk Af.out) hg (Kd.R_ne Bh.out Af.out (by decide)))
    replace Aa:=y0.mk (y2.grown (by repeat(first|(with_reducible first|exact Aa.out|apply y2.alloc|apply y2.drewN|apply y2.drew|apply y2.set_1|apply y2.set_2|refine y2.far ?_ Ag.out _|refine y2.far ?_ Ai.out _)|exact Aa.out)) hg (y2.own_ne Aa.out Bh.out (by decide)))
    replace Al:=y0.mk (Kd.V_afterv (ok:=(fun k_=>(w.heap.size≤k_)∧some k_≠(.slice (some Au) Ah.length As:Value).ownBlock∧k_≠Ac∧k_≠Am∧k_≠Aj)) (qV (Kd.V_mono Al.out (fun _ hk=>⟨⟨hk.1,⟨hk.2.2.1,⟨hk.2.2.2.1,⟨hk.2.2.2.2.1,hk.2.2.2.2.2⟩⟩⟩⟩,hk.2.1⟩))) hg hat)
    replace Dg:=y0.mk (Kd.V_afterv (ok:=(fun k_=>(w.heap.size≤k_)∧some k_≠(.slice (some Au) Ah.length As:Value).ownBlock∧k_≠Ac∧k_≠Am∧k_≠Aj)) (qV (Kd.V_mono Dg.out (fun _ hk=>⟨⟨hk.1,⟨hk.2.2.1,⟨hk.2.2.2.1,⟨hk.2.2.2.2.1,hk.2.2.2.2.2⟩⟩⟩⟩,hk.2.1⟩))) hg hat)
    replace HB:=y0.mk (hb)
    have Ew:=y0.mk (ho)
    clear Bh
    clear ho hb hg hat
    refine hK.out _ _ ⟨(y10 Af.out 0).trans rfl,(y10 Af.out 1).trans rfl⟩ (fun hHeld=>?_)
    clear hK K
    refine qx 42 ?_
    refine one_ (i:=10) (N:=none) (fl_ 12 2047) rfl rfl (one_of HT_.out (by kernel_rfl)) (by decide) (fun K hK=>?_)
    have Ii:Hk.cell? ⟨Ac,0,none⟩=some (.int .i64 0):=(y10 Ad.out 0).trans rfl
    have Hl:=blk_frozen Ad.out 0
    have Fn:=Ae.out
    have Fo:=Ao.out
    have Ij:Hk.cell? ⟨Ac,1,none⟩=some (.slice none 0 0):=(y10 Ad.out 1).trans rfl
    have Hm:=blk_frozen Ad.out 1
    have Fp:=Ae.out
    have Fq:=Ao.out
    refine skip_ (w1:=?_) (by rfl) rfl ?_ ?_
    rotate_left
    ·go_simp
     rfl
    refine hK.out _ _ ⟨((cell_far (p:=⟨Ac,_,none⟩) Ae.out _).trans (((cell_far (p:=⟨Ac,_,none⟩) Ae.out _).trans (hHeld.1)))),((cell_far (p:=⟨Ac,_,none⟩) Ae.out _).trans (((cell_far (p:=⟨Ac,_,none⟩) Ae.out _).trans (hHeld.2))))⟩ (fun hHeld=>?_)
    clear hK K
    refine qp 11 3 (fl_ 12 4095) ?_
    refine done_ (done_of HT_.out (by kernel_rfl)) ?_
    try go_wp2
    refine bodyPost_ret (results_ct rfl _ _ Ac 32 #[.int .i64 Aq,.slice (some Au) Ah.length As] (0,0) _ rfl (by(with_reducible repeat(first|refine y12 ?_ _|refine y11 ?_|refine y9 ?_ _));refine y13 (cs:=#[.int .i64 Aq,.slice none 0 0]) ?_ 1 _ rfl;(with_reducible repeat(first|refine y12 ?_ _|refine y11 ?_|refine y9 ?_ _));refine y13 (cs:=#[.int .i64 0,.slice none 0 0]) ?_ 0 _ rfl;(with_reducible repeat(first|refine y12 ?_ _|refine y11 ?_|refine y9 ?_ _));exact Ad.out) Tryz.underlying32 rfl (by kernel_rfl)) rfl ?_
    exact⟨_,_,by first|rfl|(simp [y14,y15] <;> rfl)|(simp [*,y14,y15] <;> rfl),by(with_reducible repeat(first|apply Kd.N_alloc|apply Kd.N_drewN|apply Kd.N_drew));exact Kd.N_mono (Kd.N_far (p:=⟨Ac,1,none⟩) (Kd.N_far (p:=⟨Ac,0,none⟩) (Kd.N_mono Ab.out (fun k_ hk=>(⟨hk,hk.1.2.1⟩:_∧k_≠Ac))) (fun _ hk=>hk.2) (.int .i64 Aq)) (fun _ hk=>hk.2) (.slice (some Au) Ah.length As)) (fun _ hk=>⟨hk.1.1.1,hk.1.2⟩),by(with_reducible repeat(first|apply Kd.R_alloc|apply Kd.R_drewN|apply Kd.R_drew));exact Kd.R_mono (Kd.R_far (p:=⟨Ac,1,none⟩) (Kd.R_far (p:=⟨Ac,0,none⟩) (Kd.R_types Ew.out Ad.out (by decide)) (fun _ hk=>hk.2) (.int .i64 Aq)) (fun _ hk=>hk.2) (.slice (some Au) Ah.length As)) (fun _ hk=>hk.1),by repeat(first|(with_reducible first|exact HB.out|apply y4|apply y19|apply y5|refine y6 ?_ (y2.ge Aa.out)|refine y6 ?_ Ak.out|refine y6 ?_ Ap.out)|exact HB.out)⟩
   ·replace Fk:=Bool.eq_false_iff.mpr Fk
    subst Fk
    replace H:=qF H
    obtain⟨Be,Ck⟩:∃ y_:List ByteArray,y_=(([(⟨#[49]⟩:ByteArray),(⟨#[120]⟩:ByteArray)]:List ByteArray)):=⟨_,rfl⟩
    replace H:((z6_.f Bc Ax Ay 3).bind fun Dh=>(if 0≤Dh.1 then(if Dh.1≤(Be.length:Int)then(some (Aq,Ah,(Be.take (Dh.1:Int).toNat)))else(none))else(none)))=some (r1,r2,r3):=by first|(rw [Ck];with_reducible exact H)|(have H2_:=(Option.bind_some _ _).symm.trans H;rw [Ck];with_reducible exact H2_)|(have H2_:=(Option.bind_some _ _).symm.trans H;with_reducible exact H2_)|with_reducible exact H|(rw [Ck];exact H)|exact H
    have Bx:=y0.mk Ck
    clear Ck
    obtain⟨⟨Bf,Di,Dj⟩,Hn,H⟩:=qB H
    replace H:(if 0≤Bf then(if Bf≤(Be.length:Int)then(some (Aq,Ah,(Be.take (Bf:Int).toNat)))else(none))else(none))=some (r1,r2,r3):=H
    obtain⟨Gc,H⟩:=qo H
    have Ho:=eq_true Gc
    have Hp:=decide_eq_true Gc
    clear Gc
    obtain⟨Gd,H⟩:=qo H
    have Hq:=eq_true Gd
    have Hr:=decide_eq_true Gd
    clear Gd
    obtain⟨Cp,Cl⟩:∃ y_:List ByteArray,y_=(Be.take (Bf:Int).toNat):=⟨_,rfl⟩
    replace H:(some (Aq,Ah,Cp))=some (r1,r2,r3):=by first|(rw [Cl];with_reducible exact H)|(have H2_:=(Option.bind_some _ _).symm.trans H;rw [Cl];with_reducible exact H2_)|(have H2_:=(Option.bind_some _ _).symm.trans H;with_reducible exact H2_)|with_reducible exact H|(rw [Cl];exact H)|exact H
    have Cm:=y0.mk Cl
    clear Cl
    simp only [Option.some.injEq,Prod.mk.injEq]at H
    obtain⟨rfl,rfl,rfl⟩:=H
    try go_wp2
    replace Ab:=y0.mk (Kd.N_drew Ab.out)
    replace Ad:=y0.mk (y11 Ad.out)
    replace Af:=y0.mk (y11 Af.out)
    replace Aa:=y0.mk (y2.drew Aa.out)
    replace HB:=y0.mk (y5 HB.out)
    refine start_ (n:=7) (S:=fun w'=>w'.cell? ⟨Aj,0,none⟩=some (.int .i64 Aq)∧w'.cell? ⟨Aj,1,none⟩=some (.slice Ba Ah.length As)) (ds:=[]) #[false,false,false,false,false,false,false] (by kernel_rfl) rfl rfl ⟨(y10 Af.out 0).trans rfl,(y10 Af.out 1).trans rfl⟩ (fun hHeld=>?_)
    generalize wc.drew=Iu at Ab Ad Af Aa HB hHeld ⊢
    refine qp 2 45 #[false,false,true,false,false,false,false] ?_
    refine qt 0 43 #[true,false,true,false,false,false,false] hHeld ?_
    refine join_ (σ:=Option Addr×Nat) 1 #[true,true,true,true,true,true,false] (fun s_=>[(44,.slice s_.1 Be.length s_.2),(46,.int .i64 Bf),(47,.slice s_.1 Cp.length s_.2)]) (fun s_ w'=>(w'.cell? ⟨Aj,0,none⟩=some (.int .i64 Aq)∧w'.cell? ⟨Aj,1,none⟩=some (.slice Ba Ah.length As))∧(Kd.R Kd.string 9 w' w.heap.size (fun k_=>(w.heap.size≤k_)) (Value.slice s_.1 Be.length s_.2) Be)∧(Kd.N k36 36 w' w.heap.size (fun k_=>(w.heap.size≤k_)∧some k_≠(Value.slice s_.1 Be.length s_.2).ownBlock∧k_≠Ac∧k_≠Am∧k_≠Aj) (.slice Ba Ah.length As) Ah)∧(w'.heap[Ac]?=some (.cells #[.int .i64 Aq,.slice Ba Ah.length As] 32 (0,0)))∧(w'.heap[Aj]?=some (.cells #[.int .i64 Aq,.slice Ba Ah.length As] 32 (0,0)))∧(y2 w w' Am Bc Di Dj)∧(Below w.heap.size w w')) ?_ ?_
    rotate_left
    ·intro hCont
     refine two_ (i:=1) (j:=3) (Ni:=some 44) (Nj:=some 46) #[true,true,true,false,false,false,false] #[true,false,true,true,false,false,false] rfl rfl rfl rfl (by kernel_rfl) (by decide) (by decide) (fun K hK=>?_) (fun K hK=>?_)
     ·skip
      refine qLs Kd.string 9 44 ([(⟨#[49]⟩:ByteArray),(⟨#[120]⟩:ByteArray)]:List ByteArray) ?_
      intro Ex Fr Cv hb hg_ hnew_
      clear hg_ hnew_
      (first|rw [← Bx.out]at Cv|(simp only [Int.reduceToNat]at Cv;rw [← Bx.out]at Cv))
      replace Ab:=y0.mk (Kd.N_elder' (qN Ab.out) (Kd.R_base Cv) hb)
      have Az:=y0.mk (Kd.R_lower (Kd.R_newM (M:=fun k_=>(w.heap.size≤k_)) Cv (y7 (by repeat(first|(with_reducible first|exact HB.out|apply y4|apply y19|apply y5|refine y6 ?_ (y2.ge Aa.out)|refine y6 ?_ Ak.out|refine y6 ?_ Ap.out)|exact HB.out))) (fun k_ h_=>h_)) (y7 (by repeat(first|(with_reducible first|exact HB.out|apply y4|apply y19|apply y5|refine y6 ?_ (y2.ge Aa.out)|refine y6 ?_ Ak.out|refine y6 ?_ Ap.out)|exact HB.out))))
      replace Ad:=y0.mk (qK Ad.out hb)
      replace Af:=y0.mk (qK Af.out hb)
      replace HB:=y0.mk (y8 (by repeat(first|(with_reducible first|exact HB.out|apply y4|apply y19|apply y5|refine y6 ?_ (y2.ge Aa.out)|refine y6 ?_ Ak.out|refine y6 ?_ Ap.out)|exact HB.out)) hb)
      replace Aa:=y0.mk (y2.below (by repeat(first|(with_reducible first|exact Aa.out|apply y2.alloc|apply y2.drewN|apply y2.drew|apply y2.set_1|apply y2.set_2|refine y2.far ?_ Ag.out _|refine y2.far ?_ Ai.out _)|exact Aa.out)) hb)
      clear hb Cv
      obtain⟨Bj,Bo,Dk⟩:=Kd.R_slice Az.out
      subst Dk
      refine hK.out _ _ ⟨(y10 Af.out 0).trans rfl,(y10 Af.out 1).trans rfl⟩ (fun hHeld=>?_)
      clear hK K
      refine qx 44 ?_
      refine qO 3 46 #[true,true,true,true,false,false,false] (fun K hK=>?_)
      refine goes_ Tryz.func54 (by kernel_rfl) rfl #[.pointer (some ⟨Am,0,none⟩),.int .i64 3] (by rfl) rfl rfl qy0 ?_
      with_reducible refine(z6_.calls Am Bc Ax Ay 3 Bf Di Dj w _ (by repeat(first|(with_reducible first|exact Aa.out|apply y2.alloc|apply y2.drewN|apply y2.drew|apply y2.set_1|apply y2.set_2|refine y2.far ?_ Ag.out _|refine y2.far ?_ Ai.out _)|exact Aa.out)) (by repeat(first|(with_reducible first|exact HB.out|apply y4|apply y19|apply y5|refine y6 ?_ (y2.ge Aa.out)|refine y6 ?_ Ak.out|refine y6 ?_ Ap.out)|exact HB.out)) Hn.out).mono ?_
      rintro e Hs ⟨rfl,hi,hb,hk⟩
      refine⟨_,rfl, ?_⟩
      replace Ab:=y0.mk (Kd.N_mono (Kd.N_keep (Kd.N_mono (ok:=fun k_=>((((w.heap.size≤k_))∧(k_≠Ac∧(k_≠Aj∧k_≠Am)))∧some k_≠(Value.slice Bj Be.length Bo).ownBlock)) (qN Ab.out) (fun k_ hk_=>(⟨hk_,hk_.1.2.2.2⟩:_∧k_≠Am))) hk (fun _ h=>h.2)) (fun _ h=>h.1))
      replace Ad:=y0.mk (y3.blk hk (g':=Ac) (o:=.cells #[.int .i64 0,.slice none 0 0] 32 (0,0)) (qk Ad.out) Aw.out (by simp))
      replace Af:=y0.mk (y3.blk hk (g':=Aj) (o:=.cells #[.int .i64 Aq,.slice Ba Ah.length As] 32 (0,0)) (qk Af.out) At.out (by simp))
      replace Az:=y0.mk (Kd.R_mono (Kd.R_keep (y2.apart (show y2 w _ Am Bc Ax Ay from by repeat(first|(with_reducible first|exact Aa.out|apply y2.alloc|apply y2.drewN|apply y2.drew|apply y2.set_1|apply y2.set_2|refine y2.far ?_ Ag.out _|refine y2.far ?_ Ai.out _)|exact Aa.out)) (qR Az.out) (by decide)) hk (fun _ h=>h.2)) (fun _ h=>h.1))
      replace HB:=y0.mk (hb)
      replace Aa:=y0.mk (hi)
      (try clear hb hk hi)
      refine hK.out _ _ ⟨(y10 Af.out 0).trans rfl,(y10 Af.out 1).trans rfl⟩ (fun hHeld=>?_)
      clear hK K
      refine qx 46 ?_
      have Du:(Bf:Int)≤((Be.length:Int):Int):=of_decide_eq_true qy1
      obtain⟨Ej,Bi,_,Bu,_⟩:=info_parts info9
      have Bk:=cut_to (P:=Tryz.prog) 25 9 .i64 Tryz.underlying25 Bi Bj Be.length Bo Bf (of_decide_eq_true qy1) Du (Kd.R_reads' Az.out).2.1
      have Bv:Cp.length=(Bf:Int).toNat:=(by rw [Cm.out,qT_];omega)
      rw [← Bv]at Bk
      clear Bv Bi Bu
      refine qp 4 47 #[true,true,true,true,true,false,false] ?_
      refine one_ (i:=5) (N:=none) #[true,true,true,true,true,true,false] rfl rfl (by kernel_rfl) (by decide) (fun K hK=>?_)
      have Ge:Hs.cell? ⟨Ac,0,none⟩=some (.int .i64 0):=(y10 Ad.out 0).trans rfl
      have Ey:=blk_frozen Ad.out 0
      have Dv:=Ae.out
      have Dw:=Ao.out
      have Gf:Hs.cell? ⟨Ac,1,none⟩=some (.slice none 0 0):=(y10 Ad.out 1).trans rfl
      have Ez:=blk_frozen Ad.out 1
      have Dx:=Ae.out
      have Dy:=Ao.out
      refine skip_ (w1:=?_) (by rfl) rfl ?_ ?_
      rotate_left
      ·go_simp
       rfl
      refine hK.out _ _ ⟨((cell_far (p:=⟨Ac,_,none⟩) Ae.out _).trans (((cell_far (p:=⟨Ac,_,none⟩) Ae.out _).trans (hHeld.1)))),((cell_far (p:=⟨Ac,_,none⟩) Ae.out _).trans (((cell_far (p:=⟨Ac,_,none⟩) Ae.out _).trans (hHeld.2))))⟩ (fun hHeld=>?_)
      clear hK K
      exact norm_ qy4 (hCont (Bj,Bo) _ ⟨hHeld,(qR (Kd.R_mono (Kd.R_far (p:=⟨Ac,1,none⟩) (Kd.R_far (p:=⟨Ac,0,none⟩) (Kd.R_types Az.out Ad.out (by decide)) (fun _ hk=>hk.2) (.int .i64 Aq)) (fun _ hk=>hk.2) (.slice Ba Ah.length As)) (fun _ hk=>hk.1.1))),(qN (Kd.N_mono (Kd.N_far (p:=⟨Ac,1,none⟩) (Kd.N_far (p:=⟨Ac,0,none⟩) (Kd.N_mono Ab.out (fun k_ hk=>(⟨hk,hk.1.2.1⟩:_∧k_≠Ac))) (fun _ hk=>hk.2) (.int .i64 Aq)) (fun _ hk=>hk.2) (.slice Ba Ah.length As)) (fun _ hk=>⟨hk.1.1.1,⟨hk.1.2,⟨hk.1.1.2.1,⟨hk.1.1.2.2.2,hk.1.1.2.2.1⟩⟩⟩⟩))),(by(with_reducible repeat(first|refine y12 ?_ _|refine y11 ?_|refine y9 ?_ _));refine y13 (cs:=#[.int .i64 Aq,.slice none 0 0]) ?_ 1 _ rfl;(with_reducible repeat(first|refine y12 ?_ _|refine y11 ?_|refine y9 ?_ _));refine y13 (cs:=#[.int .i64 0,.slice none 0 0]) ?_ 0 _ rfl;(with_reducible repeat(first|refine y12 ?_ _|refine y11 ?_|refine y9 ?_ _));exact Ad.out),(by(with_reducible repeat(first|refine y12 ?_ _|refine y11 ?_|refine y9 ?_ _));refine blk_far ?_ Ae.out _;(with_reducible repeat(first|refine y12 ?_ _|refine y11 ?_|refine y9 ?_ _));refine blk_far ?_ Ae.out _;(with_reducible repeat(first|refine y12 ?_ _|refine y11 ?_|refine y9 ?_ _));exact Af.out),(by repeat(first|(with_reducible first|exact Aa.out|apply y2.alloc|apply y2.drewN|apply y2.drew|apply y2.set_1|apply y2.set_2|refine y2.far ?_ Ag.out _|refine y2.far ?_ Ai.out _)|exact Aa.out)),(by repeat(first|(with_reducible first|exact HB.out|apply y4|apply y19|apply y5|refine y6 ?_ (y2.ge Aa.out)|refine y6 ?_ Ak.out|refine y6 ?_ Ap.out)|exact HB.out))⟩)
     ·skip
      refine goes_ Tryz.func54 (by kernel_rfl) rfl #[.pointer (some ⟨Am,0,none⟩),.int .i64 3] (by rfl) rfl rfl qy0 ?_
      with_reducible refine(z6_.calls Am Bc Ax Ay 3 Bf Di Dj w _ (by repeat(first|(with_reducible first|exact Aa.out|apply y2.alloc|apply y2.drewN|apply y2.drew|apply y2.set_1|apply y2.set_2|refine y2.far ?_ Ag.out _|refine y2.far ?_ Ai.out _)|exact Aa.out)) (by repeat(first|(with_reducible first|exact HB.out|apply y4|apply y19|apply y5|refine y6 ?_ (y2.ge Aa.out)|refine y6 ?_ Ak.out|refine y6 ?_ Ap.out)|exact HB.out)) Hn.out).mono ?_
      rintro e Fr ⟨rfl,hi,hb,hk⟩
      refine⟨_,rfl, ?_⟩
      replace Ab:=y0.mk (Kd.N_mono (Kd.N_keep (Kd.N_mono (ok:=fun k_=>(((w.heap.size≤k_))∧(k_≠Ac∧(k_≠Aj∧k_≠Am)))) (qN Ab.out) (fun k_ hk_=>(⟨hk_,hk_.2.2.2⟩:_∧k_≠Am))) hk (fun _ h=>h.2)) (fun _ h=>h.1))
      replace Ad:=y0.mk (y3.blk hk (g':=Ac) (o:=.cells #[.int .i64 0,.slice none 0 0] 32 (0,0)) (qk Ad.out) Aw.out (by simp))
      replace Af:=y0.mk (y3.blk hk (g':=Aj) (o:=.cells #[.int .i64 Aq,.slice Ba Ah.length As] 32 (0,0)) (qk Af.out) At.out (by simp))
      replace HB:=y0.mk (hb)
      replace Aa:=y0.mk (hi)
      (try clear hb hk hi)
      refine hK.out _ _ ⟨(y10 Af.out 0).trans rfl,(y10 Af.out 1).trans rfl⟩ (fun hHeld=>?_)
      clear hK K
      refine qx 46 ?_
      refine two_ (i:=1) (j:=5) (Ni:=some 44) (Nj:=none) #[true,true,true,true,false,false,false] #[true,false,true,true,false,true,false] rfl rfl rfl rfl (by kernel_rfl) (by decide) (by decide) (fun K hK=>?_) (fun K hK=>?_)
      ·skip
       refine qLs Kd.string 9 44 ([(⟨#[49]⟩:ByteArray),(⟨#[120]⟩:ByteArray)]:List ByteArray) ?_
       intro Ex Ht Cw hb hg_ hnew_
       clear hg_ hnew_
       (first|rw [← Bx.out]at Cw|(simp only [Int.reduceToNat]at Cw;rw [← Bx.out]at Cw))
       replace Ab:=y0.mk (Kd.N_elder' (qN Ab.out) (Kd.R_base Cw) hb)
       have Az:=y0.mk (Kd.R_lower (Kd.R_newM (M:=fun k_=>(w.heap.size≤k_)) Cw (y7 (by repeat(first|(with_reducible first|exact HB.out|apply y4|apply y19|apply y5|refine y6 ?_ (y2.ge Aa.out)|refine y6 ?_ Ak.out|refine y6 ?_ Ap.out)|exact HB.out))) (fun k_ h_=>h_)) (y7 (by repeat(first|(with_reducible first|exact HB.out|apply y4|apply y19|apply y5|refine y6 ?_ (y2.ge Aa.out)|refine y6 ?_ Ak.out|refine y6 ?_ Ap.out)|exact HB.out))))
       replace Ad:=y0.mk (qK Ad.out hb)
       replace Af:=y0.mk (qK Af.out hb)
       replace HB:=y0.mk (y8 (by repeat(first|(with_reducible first|exact HB.out|apply y4|apply y19|apply y5|refine y6 ?_ (y2.ge Aa.out)|refine y6 ?_ Ak.out|refine y6 ?_ Ap.out)|exact HB.out)) hb)
       replace Aa:=y0.mk (y2.below (by repeat(first|(with_reducible first|exact Aa.out|apply y2.alloc|apply y2.drewN|apply y2.drew|apply y2.set_1|apply y2.set_2|refine y2.far ?_ Ag.out _|refine y2.far ?_ Ai.out _)|exact Aa.out)) hb)
       clear hb Cw
       obtain⟨Bj,Bo,Dk⟩:=Kd.R_slice Az.out
       subst Dk
       refine hK.out _ _ ⟨(y10 Af.out 0).trans rfl,(y10 Af.out 1).trans rfl⟩ (fun hHeld=>?_)
       clear hK K
       refine qx 44 ?_
       have Du:(Bf:Int)≤((Be.length:Int):Int):=of_decide_eq_true qy1
       obtain⟨Ej,Bi,_,Bu,_⟩:=info_parts info9
       have Bk:=cut_to (P:=Tryz.prog) 25 9 .i64 Tryz.underlying25 Bi Bj Be.length Bo Bf (of_decide_eq_true qy1) Du (Kd.R_reads' Az.out).2.1
       have Bv:Cp.length=(Bf:Int).toNat:=(by rw [Cm.out,qT_];omega)
       rw [← Bv]at Bk
       clear Bv Bi Bu
       refine qp 4 47 #[true,true,true,true,true,false,false] ?_
       refine one_ (i:=5) (N:=none) #[true,true,true,true,true,true,false] rfl rfl (by kernel_rfl) (by decide) (fun K hK=>?_)
       have Ge:Ht.cell? ⟨Ac,0,none⟩=some (.int .i64 0):=(y10 Ad.out 0).trans rfl
       have Ey:=blk_frozen Ad.out 0
       have Dv:=Ae.out
       have Dw:=Ao.out
       have Gf:Ht.cell? ⟨Ac,1,none⟩=some (.slice none 0 0):=(y10 Ad.out 1).trans rfl
       have Ez:=blk_frozen Ad.out 1
       have Dx:=Ae.out
       have Dy:=Ao.out
       refine skip_ (w1:=?_) (by rfl) rfl ?_ ?_
       rotate_left
       ·go_simp
        rfl
       refine hK.out _ _ ⟨((cell_far (p:=⟨Ac,_,none⟩) Ae.out _).trans (((cell_far (p:=⟨Ac,_,none⟩) Ae.out _).trans (hHeld.1)))),((cell_far (p:=⟨Ac,_,none⟩) Ae.out _).trans (((cell_far (p:=⟨Ac,_,none⟩) Ae.out _).trans (hHeld.2))))⟩ (fun hHeld=>?_)
       clear hK K
       exact norm_ qy4 (hCont (Bj,Bo) _ ⟨hHeld,(qR (Kd.R_mono (Kd.R_far (p:=⟨Ac,1,none⟩) (Kd.R_far (p:=⟨Ac,0,none⟩) (Kd.R_types Az.out Ad.out (by decide)) (fun _ hk=>hk.2) (.int .i64 Aq)) (fun _ hk=>hk.2) (.slice Ba Ah.length As)) (fun _ hk=>hk.1.1))),(qN (Kd.N_mono (Kd.N_far (p:=⟨Ac,1,none⟩) (Kd.N_far (p:=⟨Ac,0,none⟩) (Kd.N_mono Ab.out (fun k_ hk=>(⟨hk,hk.1.2.1⟩:_∧k_≠Ac))) (fun _ hk=>hk.2) (.int .i64 Aq)) (fun _ hk=>hk.2) (.slice Ba Ah.length As)) (fun _ hk=>⟨hk.1.1.1,⟨hk.1.2,⟨hk.1.1.2.1,⟨hk.1.1.2.2.2,hk.1.1.2.2.1⟩⟩⟩⟩))),(by(with_reducible repeat(first|refine y12 ?_ _|refine y11 ?_|refine y9 ?_ _));refine y13 (cs:=#[.int .i64 Aq,.slice none 0 0]) ?_ 1 _ rfl;(with_reducible repeat(first|refine y12 ?_ _|refine y11 ?_|refine y9 ?_ _));refine y13 (cs:=#[.int .i64 0,.slice none 0 0]) ?_ 0 _ rfl;(with_reducible repeat(first|refine y12 ?_ _|refine y11 ?_|refine y9 ?_ _));exact Ad.out),(by(with_reducible repeat(first|refine y12 ?_ _|refine y11 ?_|refine y9 ?_ _));refine blk_far ?_ Ae.out _;(with_reducible repeat(first|refine y12 ?_ _|refine y11 ?_|refine y9 ?_ _));refine blk_far ?_ Ae.out _;(with_reducible repeat(first|refine y12 ?_ _|refine y11 ?_|refine y9 ?_ _));exact Af.out),(by repeat(first|(with_reducible first|exact Aa.out|apply y2.alloc|apply y2.drewN|apply y2.drew|apply y2.set_1|apply y2.set_2|refine y2.far ?_ Ag.out _|refine y2.far ?_ Ai.out _)|exact Aa.out)),(by repeat(first|(with_reducible first|exact HB.out|apply y4|apply y19|apply y5|refine y6 ?_ (y2.ge Aa.out)|refine y6 ?_ Ak.out|refine y6 ?_ Ap.out)|exact HB.out))⟩)
      ·skip
       have Ik:Fr.cell? ⟨Ac,0,none⟩=some (.int .i64 0):=(y10 Ad.out 0).trans rfl
       have Hu:=blk_frozen Ad.out 0
       have Fs:=Ae.out
       have Ft:=Ao.out
       have Il:Fr.cell? ⟨Ac,1,none⟩=some (.slice none 0 0):=(y10 Ad.out 1).trans rfl
       have Hv:=blk_frozen Ad.out 1
       have Fu:=Ae.out
       have Fv:=Ao.out
       refine skip_ (w1:=?_) (by rfl) rfl ?_ ?_
       rotate_left
       ·go_simp
        rfl
       refine hK.out _ _ ⟨((cell_far (p:=⟨Ac,_,none⟩) Ae.out _).trans (((cell_far (p:=⟨Ac,_,none⟩) Ae.out _).trans (hHeld.1)))),((cell_far (p:=⟨Ac,_,none⟩) Ae.out _).trans (((cell_far (p:=⟨Ac,_,none⟩) Ae.out _).trans (hHeld.2))))⟩ (fun hHeld=>?_)
       clear hK K
       refine qO 1 44 #[true,true,true,true,false,true,false] (fun K hK=>?_)
       refine qLs Kd.string 9 44 ([(⟨#[49]⟩:ByteArray),(⟨#[120]⟩:ByteArray)]:List ByteArray) ?_
       intro Ex Iv Cx hb hg_ hnew_
       clear hg_ hnew_
       (first|rw [← Bx.out]at Cx|(simp only [Int.reduceToNat]at Cx;rw [← Bx.out]at Cx))
       replace Ab:=y0.mk (Kd.N_elder' (qN ((Kd.N_mono (Kd.N_far (p:=⟨Ac,1,none⟩) (Kd.N_far (p:=⟨Ac,0,none⟩) (Kd.N_mono Ab.out (fun k_ hk=>(⟨hk,hk.2.1⟩:_∧k_≠Ac))) (fun _ hk=>hk.2) (.int .i64 Aq)) (fun _ hk=>hk.2) (.slice Ba Ah.length As)) (fun _ h_=>h_.1)))) (Kd.R_base Cx) hb)
       have Az:=y0.mk (Kd.R_lower (Kd.R_newM (M:=fun k_=>(w.heap.size≤k_)) Cx (y7 (by repeat(first|(with_reducible first|exact HB.out|apply y4|apply y19|apply y5|refine y6 ?_ (y2.ge Aa.out)|refine y6 ?_ Ak.out|refine y6 ?_ Ap.out)|exact HB.out))) (fun k_ h_=>h_)) (y7 (by repeat(first|(with_reducible first|exact HB.out|apply y4|apply y19|apply y5|refine y6 ?_ (y2.ge Aa.out)|refine y6 ?_ Ak.out|refine y6 ?_ Ap.out)|exact HB.out))))
       replace Ad:=y0.mk (blk_below (g:=Ac) (o:=.cells #[.int .i64 Aq,.slice Ba Ah.length As] 32 (0,0)) (by(with_reducible repeat(first|refine y12 ?_ _|refine y11 ?_|refine y9 ?_ _));refine y13 (cs:=#[.int .i64 Aq,.slice none 0 0]) ?_ 1 _ rfl;(with_reducible repeat(first|refine y12 ?_ _|refine y11 ?_|refine y9 ?_ _));refine y13 (cs:=#[.int .i64 0,.slice none 0 0]) ?_ 0 _ rfl;(with_reducible repeat(first|refine y12 ?_ _|refine y11 ?_|refine y9 ?_ _));exact Ad.out) hb)
       replace Af:=y0.mk (blk_below (g:=Aj) (o:=.cells #[.int .i64 Aq,.slice Ba Ah.length As] 32 (0,0)) (by(with_reducible repeat(first|refine y12 ?_ _|refine y11 ?_|refine y9 ?_ _));refine blk_far ?_ Ae.out _;(with_reducible repeat(first|refine y12 ?_ _|refine y11 ?_|refine y9 ?_ _));refine blk_far ?_ Ae.out _;(with_reducible repeat(first|refine y12 ?_ _|refine y11 ?_|refine y9 ?_ _));exact Af.out) hb)
       replace HB:=y0.mk (y8 (by repeat(first|(with_reducible first|exact HB.out|apply y4|apply y19|apply y5|refine y6 ?_ (y2.ge Aa.out)|refine y6 ?_ Ak.out|refine y6 ?_ Ap.out)|exact HB.out)) hb)
       replace Aa:=y0.mk (y2.below (show y2 w ((Fr.setCell ⟨Ac,0,none⟩ (.int .i64 Aq)).setCell ⟨Ac,1,none⟩ (.slice Ba Ah.length As)) Am Bc Di Dj from by repeat(first|(with_reducible first|exact Aa.out|apply y2.alloc|apply y2.drewN|apply y2.drew|apply y2.set_1|apply y2.set_2|refine y2.far ?_ Ag.out _|refine y2.far ?_ Ai.out _)|exact Aa.out)) hb)
       clear hb Cx
       obtain⟨Bj,Bo,Dk⟩:=Kd.R_slice Az.out
       subst Dk
       refine hK.out _ _ ⟨(y10 Af.out 0).trans rfl,(y10 Af.out 1).trans rfl⟩ (fun hHeld=>?_)
       clear hK K
       refine qx 44 ?_
       have Du:(Bf:Int)≤((Be.length:Int):Int):=of_decide_eq_true qy1
       obtain⟨Ej,Bi,_,Bu,_⟩:=info_parts info9
       have Bk:=cut_to (P:=Tryz.prog) 25 9 .i64 Tryz.underlying25 Bi Bj Be.length Bo Bf (of_decide_eq_true qy1) Du (Kd.R_reads' Az.out).2.1
       have Bv:Cp.length=(Bf:Int).toNat:=(by rw [Cm.out,qT_];omega)
       rw [← Bv]at Bk
       clear Bv Bi Bu
       refine qp 4 47 #[true,true,true,true,true,true,false] ?_
       exact norm_ qy4 (hCont (Bj,Bo) _ ⟨hHeld,(qR (Kd.R_mono Az.out (fun _ hk=>hk.1))),(qN (Kd.N_mono Ab.out (fun _ hk=>⟨hk.1.1,⟨hk.2,⟨hk.1.2.1,⟨hk.1.2.2.2,hk.1.2.2.1⟩⟩⟩⟩))),(qk Ad.out),(qk Af.out),(by repeat(first|(with_reducible first|exact Aa.out|apply y2.alloc|apply y2.drewN|apply y2.drew|apply y2.set_1|apply y2.set_2|refine y2.far ?_ Ag.out _|refine y2.far ?_ Ai.out _)|exact Aa.out)),(by repeat(first|(with_reducible first|exact HB.out|apply y4|apply y19|apply y5|refine y6 ?_ (y2.ge Aa.out)|refine y6 ?_ Ak.out|refine y6 ?_ Ap.out)|exact HB.out))⟩)
    rintro⟨Bj,Bo⟩ Ea ⟨hS_,h0_,h1_,h2_,h3_,h4_,h5_⟩
    have n0_:y0 (Kd.R Kd.string 9 Ea w.heap.size (fun k_=>(w.heap.size≤k_)) (.slice Bj Be.length Bo) Be):=⟨h0_⟩
    have n1_:y0 (Kd.N k36 36 Ea w.heap.size (fun k_=>(w.heap.size≤k_)∧some k_≠(Value.slice Bj Be.length Bo).ownBlock∧k_≠Ac∧k_≠Am∧k_≠Aj) (.slice Ba Ah.length As) Ah):=⟨h1_⟩
    have n2_:y0 (Ea.heap[Ac]?=some (.cells #[.int .i64 Aq,.slice Ba Ah.length As] 32 (0,0))):=⟨h2_⟩
    have n3_:y0 (Ea.heap[Aj]?=some (.cells #[.int .i64 Aq,.slice Ba Ah.length As] 32 (0,0))):=⟨h3_⟩
    have n4_:y0 (y2 w Ea Am Bc Di Dj):=⟨h4_⟩
    have n5_:y0 (Below w.heap.size w Ea):=⟨h5_⟩
    clear Ab
    clear Ad
    clear Af
    clear Aa
    clear HB
    clear h0_ h1_ h2_ h3_ h4_ h5_
    have Az:=n0_
    have Ab:=n1_
    have Ad:=n2_
    have Af:=n3_
    have Aa:=n4_
    have HB:=n5_
    clear n0_ n1_ n2_ n3_ n4_ n5_
    have hHeld:Ea.cell? ⟨Aj,0,none⟩=some (.int .i64 Aq)∧Ea.cell? ⟨Aj,1,none⟩=some (.slice Ba Ah.length As):=hS_
    have Du:(Bf:Int)≤((Be.length:Int):Int):=of_decide_eq_true qy1
    obtain⟨Ej,Bi,_,Bu,_⟩:=info_parts info9
    have Bk:=cut_to (P:=Tryz.prog) 25 9 .i64 Tryz.underlying25 Bi Bj Be.length Bo Bf (of_decide_eq_true qy1) Du (Kd.R_reads' Az.out).2.1
    have Dz:=Kd.R_take (m:=(Bf:Int).toNat) Az.out (by omega)
    have Bv:Cp.length=(Bf:Int).toNat:=(by rw [Cm.out,qT_];omega)
    rw [← Cm.out]at Dz
    rw [← Bv]at Dz Bk
    clear Bv Bi Bu Az
    have Fa:=y0.mk Dz
    clear Dz
    replace Du:=eq_true Du
    refine norm_ (a':=?_) ?_ ?_
    rotate_left
    ·simp only [putAll,Act.put,qS_,qZ_,qC_]
     rfl
    refine qp 6 3 #[true,true,true,true,true,true,true] ?_
    refine done_ (by kernel_rfl) ?_
    try go_wp2
    refine bodyPost_ret (results_ct rfl _ _ Ac 32 #[.int .i64 Aq,.slice Ba Ah.length As] (0,0) _ rfl (qk Ad.out) Tryz.underlying32 rfl (by kernel_rfl)) rfl ?_
    exact⟨_,.slice Bj Cp.length Bo,by first|rfl|(simp [y14,y15] <;> rfl)|(simp [*,y14,y15] <;> rfl),by(with_reducible repeat(first|apply Kd.N_alloc|apply Kd.N_drewN|apply Kd.N_drew));exact Kd.N_mono Ab.out (fun _ hk=>⟨hk.1,by have h_:=hk.2.1;simp only [Value.ownBlock]at h_ ⊢;cases Bj <;> exact h_⟩),by(with_reducible repeat(first|apply Kd.R_alloc|apply Kd.R_drewN|apply Kd.R_drew));exact Fa.out,by repeat(first|(with_reducible first|exact HB.out|apply y4|apply y19|apply y5|refine y6 ?_ (y2.ge Aa.out)|refine y6 ?_ Ak.out|refine y6 ?_ Ap.out)|exact HB.out)⟩
end Go.Proofs.YtkajecadkkgfmaaGreatDoor.Pn
end
section
namespace Go.Proofs.YtkajecadkkgfmaaGreatDoor.Pn
open Go.RowKit Go.Proofs.YtkajecadkkgfmaaGreatDoorW.PrintWords Go.Proofs.YtkajecadkkgfmaaGreatDoorW.PrintLast Go.Proofs.YtkajecadkkgfmaaGreatDoorW.PrintMore
attribute [local go_sem] max2_int min2_int max_two min_two max_three min_three max_four min_four   -- for this text's walks alone
set_option linter.unusedVariables false
set_option linter.unusedSimpArgs false
def impl_in.f (a0:Int) (a1:Int) (a2:Int):Option (Bool):=if a0≥a1 then(some (decide (a0≤a2)))else(some false)
set_option maxHeartbeats 8000000 in
set_option maxRecDepth 100000 in
theorem impl_in.calls (a0:Int) (a1:Int) (a2:Int) (r:Bool) (w:World) (h:impl_in.f a0 a1 a2=some r) :
  Calls Tryz.prog 69 #[.int .i64 a0,.int .i64 a1,.int .i64 a2] w fun e w'=>e=.returned (.bool r)∧y1 w w':=by
 have H:(if a0≥a1 then(some (decide (a0≤a2)))else(some false))=some r:=h
 clear h
 by_cases c4:a0≥a1
 ·rw [if_pos c4]at H
  have c4b0:decide (a1≤a0)=true:=decide_eq_true c4
  clear c4
  obtain rfl:=Option.some.inj H
  go_enter Tryz.func69,Tryz.ntmps69
  go_wp2
  go_ret
  exact qf2
 ·rw [if_neg c4]at H
  have c4b0:decide (a1≤a0)=false:=decide_eq_false c4
  clear c4
  obtain rfl:=Option.some.inj H
  go_enter Tryz.func69,Tryz.ntmps69
  go_wp2
  go_ret
  exact qf2
mutual
def impl_symbolLong.l0:Nat→ByteArray→Int→Option (Int)
 | 0,_,_=>none
 | k + 1,x0,x3=>if x3 < (x0.size:Int)then(impl_symbolLong.j1 k x0 x3 (decide (x3≤21)))else(impl_symbolLong.j1 k x0 x3 false)
def impl_symbolLong.j1:Nat→ByteArray→Int→Bool→Option (Int)
 | 0,_,_,_=>none
 | k + 1,x0,x3,x11=>if x11=true then(if 0≤x3 then(if x3 < (x0.size:Int)then(if(bt x0 x3)=34 then(some (wrap64 (x3 + 1)))else(if(bt x0 x3) < 32 then(some 0)else(if(bt x0 x3) > 126 then(some 0)else(if(bt x0 x3)=92 then(some 0)else(impl_symbolLong.l0 k x0 (wrap64 (x3 + 1)))))))else(none))else(none))else(some 0)
end
def impl_symbolLong.f (k:Nat) (a0:ByteArray):Option (Int):=impl_symbolLong.l0 k a0 1
set_option maxHeartbeats 8000000 in
set_option maxRecDepth 100000 in
theorem impl_symbolLong.calls (k:Nat) (a0:ByteArray) (r:Int) (w:World) (h:impl_symbolLong.f k a0=some r) :
  Calls Tryz.prog 118 #[.string a0] w fun e w'=>e=.returned (.int .i64 r)∧y1 w w':=by
 have H:(impl_symbolLong.l0 k a0 1)=some r:=h
 clear h
 have H':=y0.mk H
 clear H
 go_enter Tryz.func118,Tryz.ntmps118
 go_wp2
 go_loopg [3] k (fun kq v3 w'=>∃(Aa:Int),v3=.int .i64 Aa∧y0 (impl_symbolLong.l0 kq a0 Aa=some r)∧y0 (kq≤k)∧y1 w w')
 case atStart=>exact⟨(1),qy2,H',⟨Nat.le_refl _⟩,by repeat(first|exact y1.refl _|apply y1.step)⟩
 case round =>
  clear H'
  obtain⟨Aa,rfl,HA,Ak,⟨m1,rfl⟩⟩:=hrel
  cases gk with
  | zero=>exact absurd HA.out (by simp [impl_symbolLong.l0])
  | succ k1 =>
   have H:=HA.out
   clear HA
   simp only [impl_symbolLong.l0]at H
   have Al:=y0.mk H
   clear H
   go_upto_region 2 with(fail)
   go_cut [11] (fun Av wc=>∃(kq:Nat) (Ab:Bool),Av=.bool Ab∧y0 (impl_symbolLong.j1 kq a0 Aa Ab=some r)∧y0 (kq≤k1)∧y1 w wc)
   case first =>
    have H:=Al.out
    clear Al
    by_cases c3:Aa < (a0.size:Int)
    ·rw [if_pos c3]at H
     have Ac:=decide_eq_true c3
     clear c3
     (first|rw [Ac]|(simp only [i64_w,i32_w];rw [Ac])|skip)
     have H':=y0.mk H
     clear H
     go_wp2
     go_meet
     exact⟨_,(decide (Aa≤21)),qy2,H',⟨by have:=Ak.out;first|omega|exact Nat.le_refl _⟩,by repeat(first|exact y1.refl _|apply y1.step)⟩
    ·rw [if_neg c3]at H
     have Ac:=decide_eq_false c3
     clear c3
     (first|rw [Ac]|(simp only [i64_w,i32_w];rw [Ac])|skip)
     have H':=y0.mk H
     clear H
     go_wp2
     go_meet
     exact⟨_,(false),qy2,H',⟨by have:=Ak.out;first|omega|exact Nat.le_refl _⟩,by repeat(first|exact y1.refl _|apply y1.step)⟩
   case rest =>
    clear Al
    obtain⟨kq,Ab,rfl,HA,Ap,⟨Bc,rfl⟩⟩:=hcut
    cases kq with
    | zero=>exact absurd HA.out (by simp [impl_symbolLong.j1])
    | succ Aw =>
     have H:=HA.out
     clear HA
     simp only [impl_symbolLong.j1]at H
     by_cases c4:Ab=true
     ·subst c4
      replace H:=qT H
      obtain⟨c5,H⟩:=qo H
      have Ax:decide (0≤Aa)=true:=decide_eq_true c5
      clear c5
      obtain⟨c6,H⟩:=qo H
      have Ay:decide (Aa < (a0.size:Int))=true:=decide_eq_true c6
      clear c6
      by_cases c8:(bt a0 Aa)=34
      ·rw [if_pos c8]at H
       have Am:((bt a0 Aa) == 34)=true:=beq_iff_eq.mpr c8
       have Ao:((bt a0 Aa) != 34)=false:=bne_eq_false_iff_eq.mpr c8
       clear c8
       obtain rfl:=Option.some.inj H
       have p7:0≤(Aa:Int):=of_decide_eq_true qy1
       have q7:Aa < (a0.size:Int):=of_decide_eq_true qy1
       have Az:=bt_at a0 Aa
       replace p7:=eq_true p7
       replace q7:=eq_true q7
       go_wp2
       go_ret
       exact qf2
      ·rw [if_neg c8]at H
       have Am:((bt a0 Aa) == 34)=false:=beq_eq_false_iff_ne.mpr c8
       have Ao:((bt a0 Aa) != 34)=true:=bne_iff_ne.mpr c8
       have p7:0≤(Aa:Int):=of_decide_eq_true qy1
       have q7:Aa < (a0.size:Int):=of_decide_eq_true qy1
       have Az:=bt_at a0 Aa
       replace p7:=eq_true p7
       replace q7:=eq_true q7
       have p9:0≤(Aa:Int):=of_decide_eq_true qy1
       have q9:Aa < (a0.size:Int):=of_decide_eq_true qy1
       have Bd:=bt_at a0 Aa
       replace p9:=eq_true p9
       replace q9:=eq_true q9
       by_cases Ae:(bt a0 Aa) < 32
       ·rw [if_pos Ae]at H
        have Ag:=decide_eq_true Ae
        clear Ae
        obtain rfl:=Option.some.inj H
        go_wp2
        go_ret
        exact qf2
       ·rw [if_neg Ae]at H
        have Ag:=decide_eq_false Ae
        clear Ae
        have Aq:0≤(Aa:Int):=of_decide_eq_true qy1
        have As:Aa < (a0.size:Int):=of_decide_eq_true qy1
        have Ba:=bt_at a0 Aa
        replace Aq:=eq_true Aq
        replace As:=eq_true As
        by_cases Af:(bt a0 Aa) > 126
        ·rw [if_pos Af]at H
         have Ah:decide (126 < (bt a0 Aa))=true:=decide_eq_true Af
         clear Af
         obtain rfl:=Option.some.inj H
         go_wp2
         go_ret
         exact qf2
        ·rw [if_neg Af]at H
         have Ah:decide (126 < (bt a0 Aa))=false:=decide_eq_false Af
         clear Af
         have At:0≤(Aa:Int):=of_decide_eq_true qy1
         have Au:Aa < (a0.size:Int):=of_decide_eq_true qy1
         have Bb:=bt_at a0 Aa
         replace At:=eq_true At
         replace Au:=eq_true Au
         by_cases Ad:(bt a0 Aa)=92
         ·rw [if_pos Ad]at H
          have Ai:((bt a0 Aa) == 92)=true:=beq_iff_eq.mpr Ad
          have Aj:((bt a0 Aa) != 92)=false:=bne_eq_false_iff_eq.mpr Ad
          clear Ad
          obtain rfl:=Option.some.inj H
          go_wp2
          go_ret
          exact qf2
         ·rw [if_neg Ad]at H
          have Ai:((bt a0 Aa) == 92)=false:=beq_eq_false_iff_ne.mpr Ad
          have Aj:((bt a0 Aa) != 92)=true:=bne_iff_ne.mpr Ad
          have H':=y0.mk H
          clear H
          go_wp2
          go_roundg Aw
          case measure=>have:=Ak.out;have:=Ap.out;omega
          exact⟨(wrap64 (Aa + 1)),qy2,H',⟨by have:=Ak.out;have:=Ap.out;omega⟩,by repeat(first|exact y1.refl _|apply y1.step)⟩
     ·replace c4:=Bool.eq_false_iff.mpr c4
      subst c4
      replace H:=qF H
      obtain rfl:=Option.some.inj H
      go_wp2
      go_ret
      exact qf2
def impl_isDigit.f (a0:Int):Option (Bool):=if a0≥48 then(some (decide (a0≤57)))else(some false)
set_option maxHeartbeats 8000000 in
set_option maxRecDepth 100000 in
theorem impl_isDigit.calls (a0:Int) (r:Bool) (w:World) (h:impl_isDigit.f a0=some r) :
  Calls Tryz.prog 119 #[.int .u8 a0] w fun e w'=>e=.returned (.bool r)∧y1 w w':=by
 have H:(if a0≥48 then(some (decide (a0≤57)))else(some false))=some r:=h
 clear h
 by_cases c2:a0≥48
 ·rw [if_pos c2]at H
  have c2b0:decide (48≤a0)=true:=decide_eq_true c2
  clear c2
  obtain rfl:=Option.some.inj H
  go_enter Tryz.func119,Tryz.ntmps119
  go_wp2
  go_ret
  exact qf2
 ·rw [if_neg c2]at H
  have c2b0:decide (48≤a0)=false:=decide_eq_false c2
  clear c2
  obtain rfl:=Option.some.inj H
  go_enter Tryz.func119,Tryz.ntmps119
  go_wp2
  go_ret
  exact qf2
def ErrIs:Option Int→Value→Prop
 | none,ev=>ev=.nilIface
 | some _,ev=>∃ te pe,ev=.iface te pe
theorem errIs_none {ev:Value} (h:ErrIs none ev):ev=.nilIface:=h
theorem errIs_some {q:Int} {ev:Value} (h:ErrIs (some q) ev):∃ te pe,ev=.iface te pe:=h
/-- strconv.Atoi: the number, and whether there is an error. -/
def strconv_Atoi.f (a0:ByteArray):Option (Int×Option Int) :=
 if a0.size≤281474976710656 then(match Lib.atoiAll a0.data.toList with
  | .ok v=>some (v,none)
  | .range=>some (Lib.atoiSat a0.data.toList,some 1)
  | _=>some (0,some 0))else none
theorem strconv_Atoi.calls (a0:ByteArray) (r1:Int) (r2:Option Int) (w:World) (hT:Tb w) (h:strconv_Atoi.f a0=some (r1,r2)) :
  Calls Tryz.prog 120 #[.string a0] w fun e w'=>∃ ev,e=.returned (.tuple #[.int .i64 r1,ev])∧ErrIs r2 ev∧Below w.heap.size w w':=by
 unfold strconv_Atoi.f at h
 by_cases h0:a0.size≤281474976710656
 ·rw [if_pos h0]at h
  rcases hn:Lib.atoiAll a0.data.toList with v|_|_
  ·
   simp only [hn,Option.some.injEq,Prod.mk.injEq]at h
   obtain⟨rfl,rfl⟩:=h
   refine(Tryz.strconv_Atoi_ok a0 (by omega) v hn w).mono ?_
   rintro e w' ⟨rfl,hw⟩
   refine⟨_,rfl,rfl, ?_⟩
   rcases hw with rfl|⟨t,rfl⟩
   ·exact Below.refl _ _
   ·exact bytes_below (Below.refl _ _) (Nat.le_refl _) _ _
  ·
   simp only [hn,Option.some.injEq,Prod.mk.injEq]at h
   obtain⟨rfl,rfl⟩:=h
   obtain⟨ev,h1,h2⟩:=hT.es
   refine(Tryz.strconv_Atoi_syntax a0 h0 hn ev w h1 h2).mono ?_
   rintro e w' ⟨n,rfl,_,_,hb⟩
   exact⟨_,rfl,⟨_,_,rfl⟩,hb⟩
  ·
   simp only [hn,Option.some.injEq,Prod.mk.injEq]at h
   obtain⟨rfl,rfl⟩:=h
   obtain⟨ev,h1,h2⟩:=hT.er
   refine(Tryz.strconv_Atoi_range a0 h0 hn ev w h1 h2).mono ?_
   rintro e w' ⟨n,rfl,_,_,hb⟩
   exact⟨_,rfl,⟨_,_,rfl⟩,hb⟩
 ·rw [if_neg h0]at h
  cases h
def strconv_Itoa.f (a0:Int):Option ByteArray:=if -9223372036854775808≤a0 then if a0≤9223372036854775807 then some ⟨(Lib.itoa a0).toArray⟩else none else none
theorem strconv_Itoa.calls (a0:Int) (r:ByteArray) (w:World) (hT:Tb w) (h:strconv_Itoa.f a0=some r) :
  Calls Tryz.prog 121 #[.int .i64 a0] w fun e w'=>e=.returned (.string r)∧Below w.heap.size w w':=by
 unfold strconv_Itoa.f at h
 by_cases h0:-9223372036854775808≤a0
 ·by_cases h1:a0≤9223372036854775807
  ·rw [if_pos h0,if_pos h1]at h
   obtain rfl:=Option.some.inj h
   refine(Tryz.strconv_Itoa a0 h0 h1 w hT.pow).mono ?_
   rintro e w' ⟨rfl,k,os,rfl⟩
   exact⟨rfl,QRead.below_grow_drewN w k os⟩
  ·rw [if_pos h0,if_neg h1]at h
   cases h
 ·rw [if_neg h0]at h
  cases h
end Go.Proofs.YtkajecadkkgfmaaGreatDoor.Pn
end
section
namespace Go.Proofs.YtkajecadkkgfmaaGreatDoor.Pn
open Go.RowKit Go.Proofs.YtkajecadkkgfmaaGreatDoorW.PrintWords Go.Proofs.YtkajecadkkgfmaaGreatDoorW.PrintLast Go.Proofs.YtkajecadkkgfmaaGreatDoorW.PrintMore
attribute [local go_sem] max2_int min2_int max_two min_two max_three min_three max_four min_four   -- for this text's walks alone
set_option linter.unusedVariables false
set_option linter.unusedSimpArgs false
def impl_isLetter.f (a0:Int):Option (Bool):=if a0≥97 then(if a0≤122 then(some true)else(if a0≥65 then(some (decide (a0≤90)))else(some false)))else(if a0≥65 then(some (decide (a0≤90)))else(some false))
set_option maxHeartbeats 8000000 in
set_option maxRecDepth 100000 in
theorem impl_isLetter.calls (a0:Int) (r:Bool) (w:World) (h:impl_isLetter.f a0=some r) :
  Calls Tryz.prog 137 #[.int .u8 a0] w fun e w'=>e=.returned (.bool r)∧y1 w w':=by
 have H:(if a0≥97 then(if a0≤122 then(some true)else(if a0≥65 then(some (decide (a0≤90)))else(some false)))else(if a0≥65 then(some (decide (a0≤90)))else(some false)))=some r:=h
 clear h
 by_cases c2:a0≥97
 ·rw [if_pos c2]at H
  have Aa:decide (97≤a0)=true:=decide_eq_true c2
  clear c2
  by_cases c3:a0≤122
  ·rw [if_pos c3]at H
   have Ab:=decide_eq_true c3
   clear c3
   obtain rfl:=Option.some.inj H
   go_enter Tryz.func137,Tryz.ntmps137
   go_wp2
   go_ret
   exact qf2
  ·rw [if_neg c3]at H
   have Ab:=decide_eq_false c3
   clear c3
   by_cases c4:a0≥65
   ·rw [if_pos c4]at H
    have Ac:decide (65≤a0)=true:=decide_eq_true c4
    clear c4
    obtain rfl:=Option.some.inj H
    go_enter Tryz.func137,Tryz.ntmps137
    go_wp2
    go_ret
    exact qf2
   ·rw [if_neg c4]at H
    have Ac:decide (65≤a0)=false:=decide_eq_false c4
    clear c4
    obtain rfl:=Option.some.inj H
    go_enter Tryz.func137,Tryz.ntmps137
    go_wp2
    go_ret
    exact qf2
 ·rw [if_neg c2]at H
  have Aa:decide (97≤a0)=false:=decide_eq_false c2
  clear c2
  by_cases c5:a0≥65
  ·rw [if_pos c5]at H
   have Ad:decide (65≤a0)=true:=decide_eq_true c5
   clear c5
   obtain rfl:=Option.some.inj H
   go_enter Tryz.func137,Tryz.ntmps137
   go_wp2
   go_ret
   exact qf2
  ·rw [if_neg c5]at H
   have Ad:decide (65≤a0)=false:=decide_eq_false c5
   clear c5
   obtain rfl:=Option.some.inj H
   go_enter Tryz.func137,Tryz.ntmps137
   go_wp2
   go_ret
   exact qf2
def impl_isWordByte.f (a0:Int):Option (Bool):=(impl_isLetter.f a0).bind fun t277=>(if t277=true then(some true)else((impl_isDigit.f a0).bind fun t278=>(if t278=true then(some true)else(some (a0 == 95)))))
set_option maxHeartbeats 8000000 in
set_option maxRecDepth 100000 in
theorem impl_isWordByte.calls (a0:Int) (r:Bool) (w:World) (h:impl_isWordByte.f a0=some r) :
  Calls Tryz.prog 136 #[.int .u8 a0] w fun e w'=>e=.returned (.bool r)∧y1 w w':=by
 have H:((impl_isLetter.f a0).bind fun Aa=>(if Aa=true then(some true)else((impl_isDigit.f a0).bind fun Ab=>(if Ab=true then(some true)else(some (a0 == 95))))))=some r:=h
 clear h
 obtain⟨Aa,A2,H⟩:=qB H
 by_cases c3:Aa=true
 ·subst c3
  replace H:=qT H
  obtain rfl:=Option.some.inj H
  go_enter Tryz.func136,Tryz.ntmps136
  go_wp2_with (first|((with_reducible refine y16 (f:=137) rfl ?_);refine y18 (some 4) rfl rfl Tryz.func137 (by kernel_rfl) rfl #[.int .u8 a0] rfl qy0 ?_;(with_reducible refine(impl_isLetter.calls a0 true _ A2.out).mono ?_);rintro e w' ⟨rfl,⟨nd,rfl⟩⟩;refine⟨_,rfl, ?_⟩))
  go_ret
  exact qf2
 ·replace c3:=Bool.eq_false_iff.mpr c3
  subst c3
  replace H:=qF H
  obtain⟨Ab,A4,H⟩:=qB H
  by_cases c5:Ab=true
  ·subst c5
   replace H:=qT H
   obtain rfl:=Option.some.inj H
   go_enter Tryz.func136,Tryz.ntmps136
   go_wp2_with (first|((with_reducible refine y16 (f:=137) rfl ?_);refine y18 (some 4) rfl rfl Tryz.func137 (by kernel_rfl) rfl #[.int .u8 a0] rfl qy0 ?_;(with_reducible refine(impl_isLetter.calls a0 false _ A2.out).mono ?_);rintro e w' ⟨rfl,⟨nd,rfl⟩⟩;refine⟨_,rfl, ?_⟩)|(go_at_call 119;(with_reducible refine(impl_isDigit.calls a0 true _ A4.out).mono ?_);rintro e w' ⟨rfl,⟨nd,rfl⟩⟩))
   go_ret
   exact qf2
  ·replace c5:=Bool.eq_false_iff.mpr c5
   subst c5
   replace H:=qF H
   obtain rfl:=Option.some.inj H
   go_enter Tryz.func136,Tryz.ntmps136
   go_wp2_with (first|((with_reducible refine y16 (f:=137) rfl ?_);refine y18 (some 4) rfl rfl Tryz.func137 (by kernel_rfl) rfl #[.int .u8 a0] rfl qy0 ?_;(with_reducible refine(impl_isLetter.calls a0 false _ A2.out).mono ?_);rintro e w' ⟨rfl,⟨nd,rfl⟩⟩;refine⟨_,rfl, ?_⟩)|(go_at_call 119;(with_reducible refine(impl_isDigit.calls a0 false _ A4.out).mono ?_);rintro e w' ⟨rfl,⟨nd,rfl⟩⟩))
   go_ret
   exact qf2
def impl_nameLong.l0:Nat→ByteArray→Int→Option (Int)
 | 0,_,_=>none
 | k + 1,x0,x3=>if x3 < (x0.size:Int)then(if 0≤x3 then((impl_isWordByte.f (bt x0 x3)).bind fun t279=>(if t279=true then(if x3 > 0 then(impl_nameLong.l0 k x0 (wrap64 (x3 + 1)))else(if 0 < (x0.size:Int)then((impl_isLetter.f (bt x0 0)).bind fun t280=>(if t280=true then(impl_nameLong.l0 k x0 (wrap64 (x3 + 1)))else(some x3)))else(none)))else(some x3)))else(none))else(some x3)
def impl_nameLong.f (k:Nat) (a0:ByteArray):Option (Int):=impl_nameLong.l0 k a0 0
set_option maxHeartbeats 8000000 in
set_option maxRecDepth 100000 in
theorem impl_nameLong.calls (k:Nat) (a0:ByteArray) (r:Int) (w:World) (h:impl_nameLong.f k a0=some r) :
  Calls Tryz.prog 122 #[.string a0] w fun e w'=>e=.returned (.int .i64 r)∧y1 w w':=by
 have H:(impl_nameLong.l0 k a0 0)=some r:=h
 clear h
 have H':=y0.mk H
 clear H
 go_enter Tryz.func122,Tryz.ntmps122
 go_wp2
 go_loopg [3] k (fun kq v3 w'=>∃(Aa:Int),v3=.int .i64 Aa∧y0 (impl_nameLong.l0 kq a0 Aa=some r)∧y0 (kq≤k)∧y1 w w')
 case atStart=>exact⟨(0),qy2,H',⟨Nat.le_refl _⟩,by repeat(first|exact y1.refl _|apply y1.step)⟩
 case round =>
  clear H'
  obtain⟨Aa,rfl,HA,Ab,⟨m1,rfl⟩⟩:=hrel
  cases gk with
  | zero=>exact absurd HA.out (by simp [impl_nameLong.l0])
  | succ k1 =>
   have H:=HA.out
   clear HA
   simp only [impl_nameLong.l0]at H
   by_cases c2:Aa < (a0.size:Int)
   ·rw [if_pos c2]at H
    have Ad:=decide_eq_true c2
    clear c2
    obtain⟨c3,H⟩:=qo H
    have Aj:decide (0≤Aa)=true:=decide_eq_true c3
    clear c3
    obtain⟨Ae,A5,H⟩:=qB H
    by_cases c6:Ae=true
    ·subst c6
     replace H:=qT H
     by_cases c7:Aa > 0
     ·rw [if_pos c7]at H
      have Af:decide (0 < Aa)=true:=decide_eq_true c7
      clear c7
      have H':=y0.mk H
      clear H
      have p4:0≤(Aa:Int):=of_decide_eq_true qy1
      have q4:Aa < (a0.size:Int):=of_decide_eq_true qy1
      have Ag:=bt_at a0 Aa
      replace p4:=eq_true p4
      replace q4:=eq_true q4
      go_wp2_with (first|(go_at_call 136;(with_reducible refine(impl_isWordByte.calls (bt a0 Aa) true _ A5.out).mono ?_);rintro e w' ⟨rfl,⟨nd,rfl⟩⟩))
      go_roundg k1
      case measure=>have:=Ab.out;omega
      exact⟨(wrap64 (Aa + 1)),qy2,H',⟨by have:=Ab.out;omega⟩,by repeat(first|exact y1.refl _|apply y1.step)⟩
     ·rw [if_neg c7]at H
      have Af:decide (0 < Aa)=false:=decide_eq_false c7
      clear c7
      obtain⟨c8,H⟩:=qo H
      have Ak:decide (0 < (a0.size:Int))=true:=decide_eq_true c8
      have Al:decide (0 < a0.size)=true:=decide_eq_true (by omega)
      clear c8
      obtain⟨Ah,Ai,H⟩:=qB H
      by_cases Ac:Ah=true
      ·subst Ac
       replace H:=qT H
       have H':=y0.mk H
       clear H
       have p4:0≤(Aa:Int):=of_decide_eq_true qy1
       have q4:Aa < (a0.size:Int):=of_decide_eq_true qy1
       have Ag:=bt_at a0 Aa
       replace p4:=eq_true p4
       replace q4:=eq_true q4
       go_wp2_with (first|(go_at_call 136;(with_reducible refine(impl_isWordByte.calls (bt a0 Aa) true _ A5.out).mono ?_);rintro e w' ⟨rfl,⟨nd,rfl⟩⟩;have p9:0≤(0:Int):=(by omega);have q9:0 < a0.size:=qy3;have Am:∀ h:0 < a0.size,((a0[0]'h).toNat:Int)=bt a0 0:=bt_at a0 0;clear p9;have Ao:(0 < (a0.size:Int))=True:=eq_true (of_decide_eq_true qy1);replace q9:=eq_true q9)|(go_at_call 137;(with_reducible refine(impl_isLetter.calls (bt a0 0) true _ Ai.out).mono ?_);rintro e w' ⟨rfl,⟨nd,rfl⟩⟩))
       go_roundg k1
       case measure=>have:=Ab.out;omega
       exact⟨(wrap64 (Aa + 1)),qy2,H',⟨by have:=Ab.out;omega⟩,by repeat(first|exact y1.refl _|apply y1.step)⟩
      ·replace Ac:=Bool.eq_false_iff.mpr Ac
       subst Ac
       replace H:=qF H
       obtain rfl:=Option.some.inj H
       have p4:0≤(Aa:Int):=of_decide_eq_true qy1
       have q4:Aa < (a0.size:Int):=of_decide_eq_true qy1
       have Ag:=bt_at a0 Aa
       replace p4:=eq_true p4
       replace q4:=eq_true q4
       go_wp2_with (first|(go_at_call 136;(with_reducible refine(impl_isWordByte.calls (bt a0 Aa) true _ A5.out).mono ?_);rintro e w' ⟨rfl,⟨nd,rfl⟩⟩;have p9:0≤(0:Int):=(by omega);have q9:0 < a0.size:=qy3;have Am:∀ h:0 < a0.size,((a0[0]'h).toNat:Int)=bt a0 0:=bt_at a0 0;clear p9;have Ao:(0 < (a0.size:Int))=True:=eq_true (of_decide_eq_true qy1);replace q9:=eq_true q9)|(go_at_call 137;(with_reducible refine(impl_isLetter.calls (bt a0 0) false _ Ai.out).mono ?_);rintro e w' ⟨rfl,⟨nd,rfl⟩⟩))
       go_ret
       exact qf2
    ·replace c6:=Bool.eq_false_iff.mpr c6
     subst c6
     replace H:=qF H
     obtain rfl:=Option.some.inj H
     have p4:0≤(Aa:Int):=of_decide_eq_true qy1
     have q4:Aa < (a0.size:Int):=of_decide_eq_true qy1
     have Ag:=bt_at a0 Aa
     replace p4:=eq_true p4
     replace q4:=eq_true q4
     go_wp2_with (first|(go_at_call 136;(with_reducible refine(impl_isWordByte.calls (bt a0 Aa) false _ A5.out).mono ?_);rintro e w' ⟨rfl,⟨nd,rfl⟩⟩))
     go_ret
     exact qf2
   ·rw [if_neg c2]at H
    have Ad:=decide_eq_false c2
    clear c2
    obtain rfl:=Option.some.inj H
    go_wp2
    go_ret
    exact qf2
end Go.Proofs.YtkajecadkkgfmaaGreatDoor.Pn
end
