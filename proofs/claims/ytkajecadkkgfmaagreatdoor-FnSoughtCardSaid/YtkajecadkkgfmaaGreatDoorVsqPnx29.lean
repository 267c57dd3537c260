-- Cut by prune.py, a program of this session, out of the texts of this claim: Lean checks it.
import Derived.Test.YtkajecadkkgfmaaGreatDoorVsqPnx0
import Derived.Test.YtkajecadkkgfmaaGreatDoorVsqPnx11
import Derived.Test.YtkajecadkkgfmaaGreatDoorVsqPnx9
import Derived.Test.YtkajecadkkgfmaaGreatDoorVsqPnx27
namespace Go.Proofs.YtkajecadkkgfmaaGreatDoor.Pn
open Go.RowKit Go.Proofs.YtkajecadkkgfmaaGreatDoorW.PrintWords Go.Proofs.YtkajecadkkgfmaaGreatDoorW.PrintLast Go.Proofs.YtkajecadkkgfmaaGreatDoorW.PrintMore
attribute [local go_sem] max2_int min2_int max_two min_two max_three min_three max_four min_four   -- for this text's walks alone
set_option linter.unusedVariables false
set_option linter.unusedSimpArgs false
mutual
def z7_.l0:Nat→Int→Int→List Int→Int→Int→Int→List (S36)→Option (Int×(List (S36))×Int×Int)
 | 0,_,_,_,_,_,_,_=>none
 | k + 1,x1,x6,x1000,x1001,x1002,x520000,x520001=>if x6 > 0 then(z7_.l1 k x1 x6 0 x1000 x1001 x1002 x520000 x520001 ([]:List ByteArray))else((spec_l01Cur_once.f x1000 x1001 x1002 16).bind fun bt538=>(if bt538.1=true then((z6_.f x1000 bt538.2.1 bt538.2.2 4).bind fun bt541=>(if bt541.1=0 then((spec_l01Cur_raw.f x1000 bt541.2.1 bt541.2.2).bind fun bt544=>(some (bt544.1,x520001,bt544.2.1,bt544.2.2)))else(if bt541.1=1 then((z9_.f k x1000 bt541.2.1 bt541.2.2 x1).bind fun bt547=>(if x520001.length < 5864062014805 then(some (x520000,(x520001 ++ [(⟨bt547.1⟩:S36)]),bt547.2.1,bt547.2.2))else(none)))else(if bt541.1=2 then(if x520001.length < 5864062014805 then(some (x520000,(x520001 ++ [(⟨(([(⟨#[120]⟩:ByteArray)]:List ByteArray))⟩:S36)]),bt541.2.1,bt541.2.2))else(none))else(z7_.l2 k 0 x1000 bt541.2.1 bt541.2.2 1 ([]:List (S36)))))))else(some (x520000,x520001,bt538.2.1,bt538.2.2))))
def z7_.l1:Nat→Int→Int→Int→List Int→Int→Int→Int→List (S36)→List ByteArray→Option (Int×(List (S36))×Int×Int)
 | 0,_,_,_,_,_,_,_,_,_=>none
 | k + 1,x1,x6,x8,x1000,x1001,x1002,x520000,x520001,x524000=>if x8 < x1 then((some (([(⟨#[49]⟩:ByteArray),(⟨#[50]⟩:ByteArray),(⟨#[34,97,34]⟩:ByteArray),(⟨#[78,105,108]⟩:ByteArray),(⟨#[83,40,49,41]⟩:ByteArray),(⟨#[49,48]⟩:ByteArray),(⟨#[67,111,110,115,40,49,44,78,105,108,41]⟩:ByteArray),(⟨#[45,49]⟩:ByteArray)]:List ByteArray):List ByteArray)).bind fun y524=>((z6_.f x1000 x1001 x1002 8).bind fun bt527=>(if 0≤bt527.1 then(if bt527.1 < (y524.length:Int)then(if x524000.length < 8796093022208 then(z7_.l1 k x1 x6 (wrap64 (x8 + 1)) x1000 bt527.2.1 bt527.2.2 x520000 x520001 (x524000 ++ [rdOf ByteArray.empty y524 bt527.1]))else(none))else(none))else(none))))else((spec_l02Put.f k x520001 x524000).bind fun bt534=>(z7_.l0 k x1 (wrap64 (x6 - 1)) x1000 x1001 x1002 x520000 bt534.1))
def z7_.l2:Nat→Int→List Int→Int→Int→Int→List (S36)→Option (Int×(List (S36))×Int×Int)
 | 0,_,_,_,_,_,_=>none
 | k + 1,x11,x1000,x1001,x1002,x520000,x520001=>(z6_.f x1000 x1001 x1002 3).bind fun bt561=>(if x11 < (wrap64 (399 + bt561.1))then((spec_NumText.f k x11).bind fun t564=>(if x520001.length < 5864062014805 then(z7_.l2 k (wrap64 (x11 + 1)) x1000 bt561.2.1 bt561.2.2 x520000 (x520001 ++ [(⟨(([t564]:List ByteArray))⟩:S36)]))else(none)))else(some (x520000,x520001,bt561.2.1,bt561.2.2)))
end
def z7_.f (k:Nat) (s0_0:List Int) (s0_1:Int) (s0_2:Int) (a1:Int):Option (Int×(List (S36))×Int×Int):=(spec_l01Cur_size.f s0_0 s0_1 s0_2 7).bind fun bt520=>(z7_.l0 k a1 bt520.1 s0_0 bt520.2.1 bt520.2.2 a1 ([]:List (S36)))
def z7_.T9:Bool×List (List Nat×List Nat):=(true,[([],[]),([0],[0]),([],[]),([],[]),([3],[3]),([2,4],[2,4]),([5],[5]),([6],[6]),([1,7,4],[1,7]),([0,1,2,3,4,5,6,7,8],[]),([9,8,8,0,1,2,3,4,5,6,7,8],[8,9])])
def z7_.B9:List Nat:=[0,1,0,0,8,28,60,124,255,511,1023]
theorem z7_.tab9:rtab .any (opsOf Tryz.f53 9)=z7_.T9:=by kernel_rfl
theorem z7_.bits9:waitsOk z7_.T9.2 z7_.B9=true:=by kernel_rfl
def z7_.T18:Bool×List (List Nat×List Nat):=(true,[([],[]),([0],[0]),([],[]),([2],[2]),([3],[3]),([4],[4]),([5],[5]),([1,6,3],[1,6]),([0,1,2,3,4,5,6,7],[]),([8,7,7,0,1,2,3,4,5,6,7],[7,8])])
def z7_.B18:List Nat:=[0,1,0,4,12,28,60,127,255,511]
theorem z7_.tab18:rtab .any (opsOf Tryz.f53 18)=z7_.T18:=by kernel_rfl
theorem z7_.bits18:waitsOk z7_.T18.2 z7_.B18=true:=by kernel_rfl
def z7_.T22:Bool×List (List Nat×List Nat):=(true,[([],[]),([0],[0]),([],[]),([],[]),([2,3],[2,3]),([4],[4]),([1,5,4],[1,5]),([0,1,2,3,4,5,6],[]),([7,6,6,0,1,2,3,4,5,6],[6,7])])
def z7_.B22:List Nat:=[0,1,0,0,12,28,63,127,255]
theorem z7_.tab22:rtab .any (opsOf Tryz.f53 22)=z7_.T22:=by kernel_rfl
theorem z7_.bits22:waitsOk z7_.T22.2 z7_.B22=true:=by kernel_rfl
set_option maxHeartbeats 8000000 in
set_option maxRecDepth 100000 in
theorem z7_.calls (k:Nat) (g:Nat) (Aq:List Int) (Bw:Int) (Bx:Int) (a1:Int) (r1:Int) (r2:List (S36)) (r3:Int) (r4:Int) (w0 w:World) (hI:y2 w0 w g Aq Bw Bx) (hB:Below w0.heap.size w0 w) (h:z7_.f k Aq Bw Bx a1=some (r1,r2,r3,r4)) :
  Calls Tryz.prog 53 #[.pointer (some ⟨g,0,none⟩),.int .i64 a1] w fun e w'=>∃ v1_:Value,e=.returned (.agg #[.int .i64 r1,v1_])∧Kd.N k36 36 w' w.heap.size (fun k_=>(w.heap.size≤k_)) v1_ r2∧y2 w0 w' g Aq r3 r4∧Below w0.heap.size w0 w'∧y3 w w' g none:=by
 have Mw:=Tryz.underlying32
 have Mx:=Tryz.underlying36
 have HI0:=y0.mk hI
 have HK:=y0.mk (y3.refl w g none)
 have HL:=y0.mk hB.size
 clear hI
 have Jf:=y0.mk hB.size
 have HB:=y0.mk hB
 clear hB
 have H:((spec_l01Cur_size.f Aq Bw Bx 7).bind fun Ct=>(z7_.l0 k a1 Ct.1 Aq Ct.2.1 Ct.2.2 a1 ([]:List (S36))))=some (r1,r2,r3,r4):=h
 clear h
 obtain⟨⟨Em,En,Eo⟩,A3,H⟩:=qB H
 replace H:(z7_.l0 k a1 Em Aq En Eo a1 ([]:List (S36)))=some (r1,r2,r3,r4):=H
 have H':=y0.mk H
 clear H
 go_enter Tryz.func53,Tryz.ntmps53
 go_wp2_with (first|((with_reducible refine y17 (N:=4) rfl ?_);refine qe 4 #[.int .i64 0,.slice none 0 0] 32 ?_;intro Ad hg w4 hbox hb;replace HB:=y0.mk (y8 y2.qbI hb);have Ac:=y0.mk (hbox);have Ks:=y0.mk ((by rw [hg];exact(keep_size (w:=w) (g:=g) (row:=none) (qh (w:=w) (g:=g))):w.heap.size≤Ad));have Az:=y0.mk ((Nat.le_trans Jf.out (by rw [hg];exact(keep_size (w:=w) (g:=g) (row:=none) (qh (w:=w) (g:=g))):w.heap.size≤Ad):w0.heap.size≤Ad));replace HK:=y0.mk (y3.trans (qh (w:=w) (g:=g)) (y3.of_below hb g none) (.inl rfl));have Ao:=y0.mk ((by rw [hg];exact Nat.ne_of_lt (y2.lt (show y2 w0 _ g Aq Bw Bx from(y2.qj (w0:=w0) (g:=g)))):g≠Ad));have Ap:=y0.mk ((by rw [hg];exact Nat.ne_of_gt (y2.lt (show y2 w0 _ g Aq Bw Bx from(y2.qj (w0:=w0) (g:=g)))):Ad≠g));replace HI0:=y0.mk (y2.below (y2.qj (w0:=w0) (g:=g)) hb);clear hb hbox hg)|((with_reducible refine y17 (N:=5) rfl ?_);refine qe 5 #[.int .i64 0,.slice none 0 0] 32 ?_;intro Af hg w5 hbox hb;replace HB:=y0.mk (y8 y2.qbI hb);have Ab:=y0.mk (hbox);have Kt:=y0.mk ((by rw [hg];exact(keep_size (w:=w) (g:=g) (row:=none) (qh (w:=w) (g:=g))):w.heap.size≤Af));have Ba:=y0.mk ((Nat.le_trans Jf.out (by rw [hg];exact(keep_size (w:=w) (g:=g) (row:=none) (qh (w:=w) (g:=g))):w.heap.size≤Af):w0.heap.size≤Af));replace HK:=y0.mk (y3.trans (qh (w:=w) (g:=g)) (y3.of_below hb g none) (.inl rfl));have Aj:=y0.mk (qn Ac.out hg);have Av:=y0.mk (qm Ac.out hg);replace Ac:=y0.mk (qK Ac.out hb);have Ak:=y0.mk ((by rw [hg];exact Nat.ne_of_lt (y2.lt (show y2 w0 _ g Aq Bw Bx from(y2.qj (w0:=w0) (g:=g)))):g≠Af));have Al:=y0.mk ((by rw [hg];exact Nat.ne_of_gt (y2.lt (show y2 w0 _ g Aq Bw Bx from(y2.qj (w0:=w0) (g:=g)))):Af≠g));replace HI0:=y0.mk (y2.below (y2.qj (w0:=w0) (g:=g)) hb);clear hb hbox hg;have My:=Av.out;have Mz:=Aj.out;have Na:=Al.out;have Nb:=Ak.out;obtain⟨Ep,Er,Es,Et⟩:=qz2 Ab.out)|((with_reducible refine y16 (f:=79) rfl ?_);refine y18 (some 15) rfl rfl Tryz.func79 (by kernel_rfl) rfl #[.pointer (some ⟨g,0,none⟩),.int .i64 7] rfl qy0 ?_;(with_reducible refine(spec_l01Cur_size.calls g Aq Bw Bx 7 Em En Eo w0 _ (by repeat(first|(with_reducible first|exact HI0.out|apply y2.alloc|apply y2.drewN|apply y2.drew|apply y2.set_1|apply y2.set_2|refine y2.far ?_ Ao.out _|refine y2.far ?_ Ak.out _)|exact HI0.out)) (by repeat(first|(with_reducible first|exact HB.out|apply y4|apply y19|apply y5|refine y6 ?_ (y2.ge HI0.out)|refine y6 ?_ Az.out|refine y6 ?_ Ba.out)|exact HB.out)) A3.out).mono ?_);rintro e w9 ⟨rfl,hi,hb,hk⟩;refine⟨_,rfl, ?_⟩;replace Ac:=y0.mk (y3.blk hk (g':=Ad) (o:=.cells #[.int .i64 0,.slice none 0 0] 32 (0,0)) (by(with_reducible repeat(first|refine y12 ?_ _|refine y11 ?_|refine y9 ?_ _));refine blk_far ?_ Aj.out _;(with_reducible repeat(first|refine y12 ?_ _|refine y11 ?_|refine y9 ?_ _));refine blk_far ?_ Aj.out _;(with_reducible repeat(first|refine y12 ?_ _|refine y11 ?_|refine y9 ?_ _));exact Ac.out) Ap.out (by simp));replace Ab:=y0.mk (y3.blk hk (g':=Af) (o:=.cells #[.int .i64 a1,.slice none 0 0] 32 (0,0)) (by(with_reducible repeat(first|refine y12 ?_ _|refine y11 ?_|refine y9 ?_ _));refine y13 (cs:=#[.int .i64 a1,.slice none 0 0]) ?_ 1 _ rfl;(with_reducible repeat(first|refine y12 ?_ _|refine y11 ?_|refine y9 ?_ _));refine y13 (cs:=#[.int .i64 0,.slice none 0 0]) ?_ 0 _ rfl;(with_reducible repeat(first|refine y12 ?_ _|refine y11 ?_|refine y9 ?_ _));exact Ab.out) Al.out (by simp));replace HK:=y0.mk (y3.trans (qh (w:=w) (g:=g)) hk (.inl rfl));replace HB:=y0.mk (hb);replace HI0:=y0.mk (hi);(try clear hb hk hi)))
 go_loopg [6] k (fun kq v6 w'=>∃(Bp:Int) (Ax:Int) (Ay:Int) (Ai:List (S36)) (Ae:Value),v6=.int .i64 Bp∧y0 (z7_.l0 kq a1 Bp Aq Ax Ay a1 Ai=some (r1,r2,r3,r4))∧y0 (kq≤k)∧y0 (Kd.N k36 36 w' w.heap.size (fun k_=>(w.heap.size≤k_)∧k_≠Ad∧k_≠Af∧k_≠g) Ae Ai)∧y0 (w'.heap[Ad]?=some (.cells #[.int .i64 0,(.slice none 0 0)] 32 (0,0)))∧y0 (w'.heap[Af]?=some (.cells #[.int .i64 a1,Ae] 32 (0,0)))∧y0 (y2 w0 w' g Aq Ax Ay)∧y0 (y3 w w' g none)∧y0 (Below w0.heap.size w0 w'))
 case atStart=>exact⟨(Em),(En),(Eo),(([]:List (S36))),(.slice none 0 0),qy2,H',⟨Nat.le_refl _⟩,⟨by first|exact Kd.S_nil _ _ _ _ _|exact Kd.N_nil _ _ _ _ _|exact Kd.V_nil _ _ _ _ _|exact Kd.Q_nil _ _ _ _ _|exact Kd.R_nil _ _ _ _ _⟩,⟨qk Ac.out⟩,⟨qk Ab.out⟩,⟨(y2.qj (w0:=w0) (g:=g))⟩,⟨(qh (w:=w) (g:=g))⟩,⟨y2.qbI⟩⟩
 case round =>
  clear H'
  (try clear Ep Er Es Et)
  obtain⟨Bp,Ax,Ay,Ai,Ae,rfl,HA,Fl,Aa,Ac,Ab,HI0,HK,HB⟩:=hrel
  cases gk with
  | zero=>exact absurd HA.out (by simp [z7_.l0])
  | succ k1 =>
   have H:=HA.out
   clear HA
   simp only [z7_.l0]at H
   by_cases Fm:Bp > 0
   ·rw [if_pos Fm]at H
    have Cu:decide (0 < Bp)=true:=decide_eq_true Fm
    clear Fm
    have H':=y0.mk H
    clear H
    go_wp2_with (first|((with_reducible refine y17 (N:=7) rfl ?_);refine qe 7 #[.slice none 0 0] 36 ?_;intro As hg Oi hbox hb;replace Aa:=y0.mk (Kd.N_below (Kd.N_elderB (qN Aa.out) As (Nat.le_of_eq hg.symm)) hb);replace HB:=y0.mk (y8 y2.qbI hb);have Am:=y0.mk (hbox);have Ku:=y0.mk ((by rw [hg];exact(keep_size (w:=w) (g:=g) (row:=none) (qh (w:=w) (g:=g))):w.heap.size≤As));have Dp:=y0.mk ((Nat.le_trans Jf.out (by rw [hg];exact(keep_size (w:=w) (g:=g) (row:=none) (qh (w:=w) (g:=g))):w.heap.size≤As):w0.heap.size≤As));replace HK:=y0.mk (y3.trans (qh (w:=w) (g:=g)) (y3.of_below hb g none) (.inl rfl));have Bc:=y0.mk (qn Ac.out hg);have Bj:=y0.mk (qm Ac.out hg);replace Ac:=y0.mk (qK Ac.out hb);have Bd:=y0.mk (qn Ab.out hg);have Bk:=y0.mk (qm Ab.out hg);replace Ab:=y0.mk (qK Ab.out hb);have Bm:=y0.mk ((by rw [hg];exact Nat.ne_of_lt (y2.lt (show y2 w0 _ g Aq Ax Ay from(y2.qj (w0:=w0) (g:=g)))):g≠As));have Bn:=y0.mk ((by rw [hg];exact Nat.ne_of_gt (y2.lt (show y2 w0 _ g Aq Ax Ay from(y2.qj (w0:=w0) (g:=g)))):As≠g));replace HI0:=y0.mk (y2.below (y2.qj (w0:=w0) (g:=g)) hb);clear hb hbox hg;have Kv:=Bj.out;have Kw:=Bc.out;have Kx:=Bk.out;have Ky:=Bd.out;have Kz:=Bn.out;have La:=Bm.out;obtain⟨Dd,De⟩:=qz1 Am.out))
    go_loopg [8] k1 (fun kq v8 w'=>∃(Ch:Int) (At:Int) (Au:Int) (Ag:List ByteArray) (Bo:Value),v8=.int .i64 Ch∧y0 (z7_.l1 kq a1 Bp Ch Aq At Au a1 Ai Ag=some (r1,r2,r3,r4))∧y0 (kq≤k1)∧y0 (Kd.N k36 36 w' w.heap.size (fun k_=>(w.heap.size≤k_)∧some k_≠(Bo:Value).ownBlock∧k_≠Ad∧k_≠Af∧k_≠As∧k_≠g) Ae Ai)∧y0 (Kd.R Kd.string 9 w' w.heap.size (fun k_=>(w.heap.size≤k_)) Bo Ag)∧y0 (w'.heap[Ad]?=some (.cells #[.int .i64 0,(.slice none 0 0)] 32 (0,0)))∧y0 (w'.heap[Af]?=some (.cells #[.int .i64 a1,Ae] 32 (0,0)))∧y0 (w'.heap[As]?=some (.cells #[Bo] 36 (0,0)))∧y0 (y2 w0 w' g Aq At Au)∧y0 (y3 w w' g none)∧y0 (Below w0.heap.size w0 w'))
    case atStart=>exact⟨(0),(Ax),(Ay),(([]:List ByteArray)),(.slice none 0 0),qy2,H',⟨Nat.le_refl _⟩,⟨qN (Kd.N_mono (Kd.N_far (p:=⟨As,0,none⟩) (Kd.N_mono Aa.out (fun k_ hk=>(⟨hk,hk.2⟩:_∧k_≠As))) (fun _ hk=>hk.2) (.slice none 0 0)) (fun _ hk=>⟨hk.1.1.1,⟨(by simp [Value.ownBlock]),⟨hk.1.1.2.1,⟨hk.1.1.2.2.1,⟨hk.1.2,hk.1.1.2.2.2⟩⟩⟩⟩⟩))⟩,⟨by first|exact Kd.R_nil _ _ _ _ _|exact Kd.N_nil _ _ _ _ _|exact Kd.V_nil _ _ _ _ _|exact Kd.Q_nil _ _ _ _ _|exact Kd.S_nil _ _ _ _ _⟩,⟨by(with_reducible repeat(first|refine y12 ?_ _|refine y11 ?_|refine y9 ?_ _));refine blk_far ?_ Bc.out _;(with_reducible repeat(first|refine y12 ?_ _|refine y11 ?_|refine y9 ?_ _));exact Ac.out⟩,⟨by(with_reducible repeat(first|refine y12 ?_ _|refine y11 ?_|refine y9 ?_ _));refine blk_far ?_ Bd.out _;(with_reducible repeat(first|refine y12 ?_ _|refine y11 ?_|refine y9 ?_ _));exact Ab.out⟩,⟨by(with_reducible repeat(first|refine y12 ?_ _|refine y11 ?_|refine y9 ?_ _));refine y13 (cs:=#[.slice none 0 0]) ?_ 0 _ rfl;(with_reducible repeat(first|refine y12 ?_ _|refine y11 ?_|refine y9 ?_ _));exact Am.out⟩,⟨(y2.qj (w0:=w0) (g:=g))⟩,⟨(qh (w:=w) (g:=g))⟩,⟨y2.qbI⟩⟩
    case round =>
     clear H'
     (try clear Cu Dd De)
     obtain⟨Ch,At,Au,Ag,Bo,rfl,HA,Eu,Aa,Ah,Ac,Ab,Am,HI0,HK,HB⟩:=hrel
     cases gk with
     | zero=>exact absurd HA.out (by simp [z7_.l1])
     | succ k2 =>
      have H:=HA.out
      clear HA
      simp only [z7_.l1]at H
      by_cases Fn:Ch < a1
      ·rw [if_pos Fn]at H
       have Fq:=decide_eq_true Fn
       clear Fn
       obtain⟨Bh,Bz⟩:∃ y_:List ByteArray,y_=(([(⟨#[49]⟩:ByteArray),(⟨#[50]⟩:ByteArray),(⟨#[34,97,34]⟩:ByteArray),(⟨#[78,105,108]⟩:ByteArray),(⟨#[83,40,49,41]⟩:ByteArray),(⟨#[49,48]⟩:ByteArray),(⟨#[67,111,110,115,40,49,44,78,105,108,41]⟩:ByteArray),(⟨#[45,49]⟩:ByteArray)]:List ByteArray)):=⟨_,rfl⟩
       replace H:((z6_.f Aq At Au 8).bind fun Ca=>(if 0≤Ca.1 then(if Ca.1 < (Bh.length:Int)then(if Ag.length < 8796093022208 then(z7_.l1 k2 a1 Bp (wrap64 (Ch + 1)) Aq Ca.2.1 Ca.2.2 a1 Ai (Ag ++ [rdOf ByteArray.empty Bh Ca.1]))else(none))else(none))else(none)))=some (r1,r2,r3,r4):=by first|(rw [Bz];with_reducible exact H)|(have H2_:=(Option.bind_some _ _).symm.trans H;rw [Bz];with_reducible exact H2_)|(have H2_:=(Option.bind_some _ _).symm.trans H;with_reducible exact H2_)|with_reducible exact H|(rw [Bz];exact H)|exact H
       have Bq:=y0.mk Bz
       clear Bz
       obtain⟨⟨Bl,Cn,Co⟩,Lb,H⟩:=qB H
       dsimp only at H
       obtain⟨Lc,H⟩:=qo H
       have Ld:decide (0≤Bl)=true:=decide_eq_true Lc
       clear Lc
       obtain⟨Le,H⟩:=qo H
       have Lf:decide (Bl < (Bh.length:Int))=true:=decide_eq_true Le
       clear Le
       obtain⟨Lg,H⟩:=qo H
       have Fr:=y0.mk Lg
       clear Lg
       obtain⟨Cv,Cb⟩:∃ y_:List ByteArray,y_=(Ag ++ [rdOf ByteArray.empty Bh Bl]):=⟨_,rfl⟩
       replace H:(z7_.l1 k2 a1 Bp (wrap64 (Ch + 1)) Aq Cn Co a1 Ai Cv)=some (r1,r2,r3,r4):=by first|(rw [Cb];with_reducible exact H)|(have H2_:=(Option.bind_some _ _).symm.trans H;rw [Cb];with_reducible exact H2_)|(have H2_:=(Option.bind_some _ _).symm.trans H;with_reducible exact H2_)|with_reducible exact H|(rw [Cb];exact H)|exact H
       have Fs:=y0.mk Cb
       clear Cb
       have H':=y0.mk H
       clear H
       obtain⟨Bf,Bg,Jg⟩:=Kd.R_slice Ah.out
       subst Jg
       try go_wp2
       have Lh:(0≤(Bl:Int))=True:=eq_true (of_decide_eq_true qy1)
       have Li:(Bl < (Bh.length:Int))=True:=eq_true (of_decide_eq_true qy1)
       replace Aa:=y0.mk (Kd.N_drew Aa.out)
       replace Ah:=y0.mk (Kd.R_drew Ah.out)
       replace Ac:=y0.mk (y11 Ac.out)
       replace Ab:=y0.mk (y11 Ab.out)
       replace Am:=y0.mk (y11 Am.out)
       replace HI0:=y0.mk (y2.drew HI0.out)
       replace HK:=y0.mk (keep_drew HK.out)
       replace HB:=y0.mk (y5 HB.out)
       refine start_ (n:=11) (S:=fun w'=>w'.cell? ⟨As,0,none⟩=some (.slice Bf Ag.length Bg)) (ds:=[10]) (fl_ 11 0) (by kernel_rfl) rfl rfl ((y10 Am.out 0).trans rfl) (fun hHeld=>?_);refine with_tabW z7_.tab9 z7_.bits9 (fun HT_ HW_=>?_)
       generalize wr.drew=Oj at Aa Ah Ac Ab Am HI0 HK HB hHeld ⊢
       refine qp 0 26 (fl_ 11 1) ?_
       refine qp 3 29 (fl_ 11 9) ?_
       refine qt 1 27 (fl_ 11 11) hHeld ?_
       refine join_ (σ:=Value×Addr) 6 (fl_ 11 31) (fun s_=>[(28,s_.1),(30,.int .i64 Bl)]) (fun s_ w'=>(w'.cell? ⟨As,0,none⟩=some (.slice Bf Ag.length Bg))∧(Kd.R Kd.string 9 w' w.heap.size (fun k_=>(w.heap.size≤k_)∧some k_≠(.slice Bf Ag.length Bg:Value).ownBlock) s_.1 Bh)∧(Kd.N k36 36 w' w.heap.size (fun k_=>(w.heap.size≤k_)∧some k_≠(s_.1:Value).ownBlock∧some k_≠(.slice Bf Ag.length Bg:Value).ownBlock∧k_≠g∧k_≠Ad∧k_≠Af∧k_≠As) Ae Ai)∧(Kd.R Kd.string 9 w' w.heap.size (fun k_=>(w.heap.size≤k_)∧some k_≠(s_.1:Value).ownBlock) (.slice Bf Ag.length Bg) Ag)∧(∃ c_,(s_.1:Value)=.slice (some s_.2) Bh.length c_)∧(w'.heap[Ad]?=some (.cells #[.int .i64 0,.slice none 0 0] 32 (0,0)))∧(w'.heap[Af]?=some (.cells #[.int .i64 a1,Ae] 32 (0,0)))∧(w'.heap[As]?=some (.cells #[.slice Bf Ag.length Bg] 36 (0,0)))∧(y2 w0 w' g Aq Cn Co)∧(y3 w w' g none)∧(Below w0.heap.size w0 w')) ?_ ?_
       rotate_left
       ·intro hCont
        refine two_ (i:=2) (j:=4) (Ni:=some 28) (Nj:=some 30) (fl_ 11 15) (fl_ 11 27) rfl rfl rfl rfl (two_of HT_.out (by kernel_rfl)) (by decide) (by decide) (fun K hK=>?_) (fun K hK=>?_)
        ·skip
         refine qLs Kd.string 9 28 ([(⟨#[49]⟩:ByteArray),(⟨#[50]⟩:ByteArray),(⟨#[34,97,34]⟩:ByteArray),(⟨#[78,105,108]⟩:ByteArray),(⟨#[83,40,49,41]⟩:ByteArray),(⟨#[49,48]⟩:ByteArray),(⟨#[67,111,110,115,40,49,44,78,105,108,41]⟩:ByteArray),(⟨#[45,49]⟩:ByteArray)]:List ByteArray) ?_
         intro Cp Nc Ci hb hg_ hnew_
         clear hg_ hnew_
         (first|rw [← Bq.out]at Ci|(simp only [Int.reduceToNat]at Ci;rw [← Bq.out]at Ci))
         replace Aa:=y0.mk (Kd.N_elder' (qN Aa.out) (Kd.R_base Ci) hb)
         have Bb:=y0.mk (Kd.R_lower (Kd.R_new' (Kd.R_newM (M:=fun k_=>(w.heap.size≤k_)) Ci (keep_size (w:=w) (g:=g) (row:=none) (qh (w:=w) (g:=g))) (fun k_ h_=>h_)) (Kd.R_lt (qR Ah.out))) (keep_size (w:=w) (g:=g) (row:=none) (qh (w:=w) (g:=g))))
         replace Ah:=y0.mk (Kd.R_elder' (qR Ah.out) (Kd.R_base Ci) hb)
         replace Ac:=y0.mk (qK Ac.out hb)
         replace Ab:=y0.mk (qK Ab.out hb)
         replace Am:=y0.mk (qK Am.out hb)
         replace HI0:=y0.mk (y2.below (y2.qj (w0:=w0) (g:=g)) hb)
         replace HK:=y0.mk (y3.trans (qh (w:=w) (g:=g)) (y3.of_below hb g none) (.inl rfl))
         replace HB:=y0.mk (y8 y2.qbI hb)
         clear hb Ci
         obtain⟨Nd,Ft,Jh⟩:=Kd.R_slice Bb.out
         subst Jh
         obtain⟨Cw,Ji,_⟩:=Kd.at_string (Kd.R_reads' Bb.out).2.2 0 (by decide) (by rw [Bq.out];simp)
         cases Ji
         refine hK.out _ _ ((y10 Am.out 0).trans rfl) (fun hHeld=>?_)
         clear hK K
         refine qx 28 ?_
         refine qO 4 30 (fl_ 11 31) (fun K hK=>?_)
         refine goes_ Tryz.func54 (by kernel_rfl) rfl #[.pointer (some ⟨g,0,none⟩),.int .i64 8] (by rfl) rfl rfl qy0 ?_
         with_reducible refine(z6_.calls g Aq At Au 8 Bl Cn Co w0 _ (by repeat(first|(with_reducible first|exact HI0.out|apply y2.alloc|apply y2.drewN|apply y2.drew|apply y2.set_1|apply y2.set_2|refine y2.far ?_ Ao.out _|refine y2.far ?_ Ak.out _|refine y2.far ?_ Bm.out _)|exact HI0.out)) (by repeat(first|(with_reducible first|exact HB.out|apply y4|apply y19|apply y5|refine y6 ?_ (y2.ge HI0.out)|refine y6 ?_ Az.out|refine y6 ?_ Ba.out|refine y6 ?_ Dp.out)|exact HB.out)) Lb.out).mono ?_
         rintro e Ol ⟨rfl,hi,hb,hk⟩
         refine⟨_,rfl, ?_⟩
         replace Aa:=y0.mk (Kd.N_mono (Kd.N_keep (Kd.N_mono (ok:=fun k_=>((((w.heap.size≤k_))∧(some k_≠(.slice Bf Ag.length Bg:Value).ownBlock∧(k_≠Ad∧(k_≠Af∧(k_≠As∧k_≠g)))))∧some k_≠(.slice (some Cw) Bh.length Ft:Value).ownBlock)) (qN Aa.out) (fun k_ hk_=>(⟨hk_,hk_.1.2.2.2.2.2⟩:_∧k_≠g))) hk (fun _ h=>h.2)) (fun _ h=>h.1))
         replace Ah:=y0.mk (Kd.R_mono (Kd.R_keep (y2.apart (show y2 w0 _ g Aq At Au from(y2.qj (w0:=w0) (g:=g))) (qR Ah.out) (by decide)) hk (fun _ h=>h.2)) (fun _ h=>h.1))
         replace Ac:=y0.mk (y3.blk hk (g':=Ad) (o:=.cells #[.int .i64 0,.slice none 0 0] 32 (0,0)) (qk Ac.out) Ap.out (by simp))
         replace Ab:=y0.mk (y3.blk hk (g':=Af) (o:=.cells #[.int .i64 a1,Ae] 32 (0,0)) (qk Ab.out) Al.out (by simp))
         replace Am:=y0.mk (y3.blk hk (g':=As) (o:=.cells #[.slice Bf Ag.length Bg] 36 (0,0)) (qk Am.out) Bn.out (by simp))
         replace Bb:=y0.mk (Kd.R_mono (Kd.R_keep (y2.apart (show y2 w0 _ g Aq At Au from(y2.qj (w0:=w0) (g:=g))) (qR Bb.out) (by decide)) hk (fun _ h=>h.2)) (fun _ h=>h.1))
         replace HK:=y0.mk (y3.trans (qh (w:=w) (g:=g)) hk (.inl rfl))
         replace HB:=y0.mk (hb)
         replace HI0:=y0.mk (hi)
         (try clear hb hk hi)
         refine hK.out _ _ ((y10 Am.out 0).trans rfl) (fun hHeld=>?_)
         clear hK K
         refine qx 30 ?_
         exact norm_ qy4 (hCont (.slice (some Cw) Bh.length Ft,Cw) _ ⟨hHeld,(qR (Kd.R_mono Bb.out (fun _ hk=>⟨hk.1.1,hk.2⟩))),(qN (Kd.N_mono Aa.out (fun _ hk=>⟨hk.1.1,⟨hk.2,⟨hk.1.2.1,⟨hk.1.2.2.2.2.2,⟨hk.1.2.2.1,⟨hk.1.2.2.2.1,hk.1.2.2.2.2.1⟩⟩⟩⟩⟩⟩))),(qR Ah.out),⟨_,rfl⟩,(qk Ac.out),(qk Ab.out),(qk Am.out),(y2.qj (w0:=w0) (g:=g)),(qh (w:=w) (g:=g)),y2.qbI⟩)
        ·skip
         refine goes_ Tryz.func54 (by kernel_rfl) rfl #[.pointer (some ⟨g,0,none⟩),.int .i64 8] (by rfl) rfl rfl qy0 ?_
         with_reducible refine(z6_.calls g Aq At Au 8 Bl Cn Co w0 _ (by repeat(first|(with_reducible first|exact HI0.out|apply y2.alloc|apply y2.drewN|apply y2.drew|apply y2.set_1|apply y2.set_2|refine y2.far ?_ Ao.out _|refine y2.far ?_ Ak.out _|refine y2.far ?_ Bm.out _)|exact HI0.out)) (by repeat(first|(with_reducible first|exact HB.out|apply y4|apply y19|apply y5|refine y6 ?_ (y2.ge HI0.out)|refine y6 ?_ Az.out|refine y6 ?_ Ba.out|refine y6 ?_ Dp.out)|exact HB.out)) Lb.out).mono ?_
         rintro e Nc ⟨rfl,hi,hb,hk⟩
         refine⟨_,rfl, ?_⟩
         replace Aa:=y0.mk (Kd.N_mono (Kd.N_keep (Kd.N_mono (ok:=fun k_=>(((w.heap.size≤k_))∧(some k_≠(.slice Bf Ag.length Bg:Value).ownBlock∧(k_≠Ad∧(k_≠Af∧(k_≠As∧k_≠g)))))) (qN Aa.out) (fun k_ hk_=>(⟨hk_,hk_.2.2.2.2.2⟩:_∧k_≠g))) hk (fun _ h=>h.2)) (fun _ h=>h.1))
         replace Ah:=y0.mk (Kd.R_mono (Kd.R_keep (y2.apart (show y2 w0 _ g Aq At Au from(y2.qj (w0:=w0) (g:=g))) (qR Ah.out) (by decide)) hk (fun _ h=>h.2)) (fun _ h=>h.1))
         replace Ac:=y0.mk (y3.blk hk (g':=Ad) (o:=.cells #[.int .i64 0,.slice none 0 0] 32 (0,0)) (qk Ac.out) Ap.out (by simp))
         replace Ab:=y0.mk (y3.blk hk (g':=Af) (o:=.cells #[.int .i64 a1,Ae] 32 (0,0)) (qk Ab.out) Al.out (by simp))
         replace Am:=y0.mk (y3.blk hk (g':=As) (o:=.cells #[.slice Bf Ag.length Bg] 36 (0,0)) (qk Am.out) Bn.out (by simp))
         replace HK:=y0.mk (y3.trans (qh (w:=w) (g:=g)) hk (.inl rfl))
         replace HB:=y0.mk (hb)
         replace HI0:=y0.mk (hi)
         (try clear hb hk hi)
         refine hK.out _ _ ((y10 Am.out 0).trans rfl) (fun hHeld=>?_)
         clear hK K
         refine qx 30 ?_
         refine qO 2 28 (fl_ 11 31) (fun K hK=>?_)
         refine qLs Kd.string 9 28 ([(⟨#[49]⟩:ByteArray),(⟨#[50]⟩:ByteArray),(⟨#[34,97,34]⟩:ByteArray),(⟨#[78,105,108]⟩:ByteArray),(⟨#[83,40,49,41]⟩:ByteArray),(⟨#[49,48]⟩:ByteArray),(⟨#[67,111,110,115,40,49,44,78,105,108,41]⟩:ByteArray),(⟨#[45,49]⟩:ByteArray)]:List ByteArray) ?_
         intro Cp Om Cj hb hg_ hnew_
         clear hg_ hnew_
         (first|rw [← Bq.out]at Cj|(simp only [Int.reduceToNat]at Cj;rw [← Bq.out]at Cj))
         replace Aa:=y0.mk (Kd.N_elder' (qN Aa.out) (Kd.R_base Cj) hb)
         have Bb:=y0.mk (Kd.R_lower (Kd.R_new' (Kd.R_newM (M:=fun k_=>(w.heap.size≤k_)) Cj (keep_size (w:=w) (g:=g) (row:=none) (qh (w:=w) (g:=g))) (fun k_ h_=>h_)) (Kd.R_lt (qR Ah.out))) (keep_size (w:=w) (g:=g) (row:=none) (qh (w:=w) (g:=g))))
         replace Ah:=y0.mk (Kd.R_elder' (qR Ah.out) (Kd.R_base Cj) hb)
         replace Ac:=y0.mk (qK Ac.out hb)
         replace Ab:=y0.mk (qK Ab.out hb)
         replace Am:=y0.mk (qK Am.out hb)
         replace HI0:=y0.mk (y2.below (y2.qj (w0:=w0) (g:=g)) hb)
         replace HK:=y0.mk (y3.trans (qh (w:=w) (g:=g)) (y3.of_below hb g none) (.inl rfl))
         replace HB:=y0.mk (y8 y2.qbI hb)
         clear hb Cj
         obtain⟨Nf,Jj,Jk⟩:=Kd.R_slice Bb.out
         subst Jk
         obtain⟨Dq,Jl,_⟩:=Kd.at_string (Kd.R_reads' Bb.out).2.2 0 (by decide) (by rw [Bq.out];simp)
         cases Jl
         refine hK.out _ _ ((y10 Am.out 0).trans rfl) (fun hHeld=>?_)
         clear hK K
         refine qx 28 ?_
         exact norm_ qy4 (hCont (.slice (some Dq) Bh.length Jj,Dq) _ ⟨hHeld,(qR (Kd.R_mono Bb.out (fun _ hk=>⟨hk.1.1,hk.2⟩))),(qN (Kd.N_mono Aa.out (fun _ hk=>⟨hk.1.1,⟨hk.2,⟨hk.1.2.1,⟨hk.1.2.2.2.2.2,⟨hk.1.2.2.1,⟨hk.1.2.2.2.1,hk.1.2.2.2.2.1⟩⟩⟩⟩⟩⟩))),(qR Ah.out),⟨_,rfl⟩,(qk Ac.out),(qk Ab.out),(qk Am.out),(y2.qj (w0:=w0) (g:=g)),(qh (w:=w) (g:=g)),y2.qbI⟩)
       rintro⟨Cp,adz_v525⟩ Dc ⟨hS_,h0_,h1_,h2_,h3_,h4_,h5_,h6_,h7_,h8_,h9_⟩
       have n0_:y0 (Kd.R Kd.string 9 Dc w.heap.size (fun k_=>(w.heap.size≤k_)∧some k_≠(.slice Bf Ag.length Bg:Value).ownBlock) Cp Bh):=⟨h0_⟩
       have n1_:y0 (Kd.N k36 36 Dc w.heap.size (fun k_=>(w.heap.size≤k_)∧some k_≠(Cp:Value).ownBlock∧some k_≠(.slice Bf Ag.length Bg:Value).ownBlock∧k_≠g∧k_≠Ad∧k_≠Af∧k_≠As) Ae Ai):=⟨h1_⟩
       have n2_:y0 (Kd.R Kd.string 9 Dc w.heap.size (fun k_=>(w.heap.size≤k_)∧some k_≠(Cp:Value).ownBlock) (.slice Bf Ag.length Bg) Ag):=⟨h2_⟩
       have n3_:y0 (∃ c_,(Cp:Value)=.slice (some adz_v525) Bh.length c_):=⟨h3_⟩
       have n4_:y0 (Dc.heap[Ad]?=some (.cells #[.int .i64 0,.slice none 0 0] 32 (0,0))):=⟨h4_⟩
       have n5_:y0 (Dc.heap[Af]?=some (.cells #[.int .i64 a1,Ae] 32 (0,0))):=⟨h5_⟩
       have n6_:y0 (Dc.heap[As]?=some (.cells #[.slice Bf Ag.length Bg] 36 (0,0))):=⟨h6_⟩
       have n7_:y0 (y2 w0 Dc g Aq Cn Co):=⟨h7_⟩
       have n8_:y0 (y3 w Dc g none):=⟨h8_⟩
       have n9_:y0 (Below w0.heap.size w0 Dc):=⟨h9_⟩
       clear Aa
       clear Ah
       clear Ac
       clear Ab
       clear Am
       clear HI0
       clear HK
       clear HB
       clear h0_ h1_ h2_ h3_ h4_ h5_ h6_ h7_ h8_ h9_
       have Bb:=n0_
       have Aa:=n1_
       have Ah:=n2_
       have HA_HO526:=n3_
       have Ac:=n4_
       have Ab:=n5_
       have Am:=n6_
       have HI0:=n7_
       have HK:=n8_
       have HB:=n9_
       clear n0_ n1_ n2_ n3_ n4_ n5_ n6_ n7_ n8_ n9_
       have hHeld:Dc.cell? ⟨As,0,none⟩=some (.slice Bf Ag.length Bg):=hS_
       obtain⟨Fu,Jm⟩:=HA_HO526.out
       clear HA_HO526
       subst Jm
       refine norm_ (a':=?_) ?_ ?_
       rotate_left
       ·simp only [putAll,Act.put,qS_,qZ_,qC_]
        rfl
       refine qp 5 31 (fl_ 11 63) ?_
       refine qO 6 32 (fl_ 11 127) (fun K hK=>?_)
       (have Jn:0≤(Bl:Int):=of_decide_eq_true qy1;have Jo:Bl < (Bh.length:Int):=of_decide_eq_true qy1;obtain⟨Fv,Jp,Df⟩:=Kd.at_string (Kd.R_reads' Bb.out).2.2 Bl Jn Jo;obtain rfl:adz_v525=Fv:=(by injection Jp))
       refine value_ (w1:=?_) (v:=?_) (by rfl) rfl ?_ ?_
       rotate_left 2
       ·go_simp
        constructor
        ·rfl
        ·rfl
       clear Df
       refine hK.out _ _ ((y10 Am.out 0).trans rfl) (fun hHeld=>?_)
       clear hK K
       refine qx 32 ?_
       refine qO 7 33 (fl_ 11 255) (fun K hK=>?_)
       refine value_ (w1:=?_) (v:=?_) (by rfl) rfl ?_ ?_
       rotate_left 2
       ·go_simp
        constructor
        ·rfl
        ·rfl
       refine hK.out _ _ ((y10 (y9 Am.out _) 0).trans rfl) (fun hHeld=>?_)
       clear hK K
       refine qx 33 ?_
       refine qO 8 34 (fl_ 11 511) (fun K hK=>?_)
       refine Kd.R_append_step Kd.string w.heap.size (by rfl) (.tmp 27) (.tmp 33) 25 9 (.string ⟨#[]⟩) 16 rfl Tryz.underlying25 info9 rfl (by decide) (by omega) (.slice Bf Ag.length Bg) Ag (rdOf ByteArray.empty Bh Bl) [.string (rdOf ByteArray.empty Bh Bl)] (fun k_=>(w.heap.size≤k_)∧some k_≠(.slice (some adz_v525) Bh.length Fu:Value).ownBlock) (fun _=>False) rfl rfl ?aP (fun _ hk=>hk.elim) ?aF ?aO (Below.refl _ _) ?aS ?aL ?_
       (case aP=>exact rfl)
       (case aF=>exact(fun k_ hk=>⟨(Nat.le_trans (keep_size (w:=w) (g:=g) (row:=none) (qh (w:=w) (g:=g))) hk),Kd.fresh' (Kd.R_lt (qR Bb.out)) k_ hk⟩))
       (case aO=>exact(qR Ah.out))
       (case aS=>exact(keep_size (w:=w) (g:=g) (row:=none) (qh (w:=w) (g:=g))))
       (case aL=>have:=Fr.out;omega)
       intro Ng Nh ho hb hg hat
       rw [← Fs.out]at ho
       replace Aa:=y0.mk (Kd.N_afterv (ok:=(fun k_=>(w.heap.size≤k_)∧some k_≠(.slice (some adz_v525) Bh.length Fu:Value).ownBlock∧k_≠g∧k_≠Ad∧k_≠Af∧k_≠As)) (qN (Kd.N_mono Aa.out (fun _ hk=>⟨⟨hk.1,⟨hk.2.1,⟨hk.2.2.2.1,⟨hk.2.2.2.2.1,⟨hk.2.2.2.2.2.1,hk.2.2.2.2.2.2⟩⟩⟩⟩⟩,hk.2.2.1⟩))) hg hat)
       replace Ac:=y0.mk (blk_grown (qk Ac.out) hg (Kd.R_ne Ah.out Ac.out (by decide)))
       replace Ab:=y0.mk (blk_grown (qk Ab.out) hg (Kd.R_ne Ah.out Ab.out (by decide)))
       replace Am:=y0.mk (blk_grown (qk Am.out) hg (Kd.R_ne Ah.out Am.out (by decide)))
       replace HI0:=y0.mk (y2.grown (y2.qj (w0:=w0) (g:=g)) hg (y2.own_ne HI0.out Ah.out (by decide)))
       replace Bb:=y0.mk (Kd.R_after (ok:=(fun k_=>(w.heap.size≤k_))) (qR Bb.out) hg hat)
       replace HB:=y0.mk (below_weaken y2.qbI HL.out hb)
       replace HK:=y0.mk (y3.trans (qh (w:=w) (g:=g)) (y3.of_grown hg g) (Kd.R_base2 Ah.out))
       have Dr:=y0.mk (ho)
       clear Ah
       clear ho hb hg hat
       obtain⟨Ew,Ex,Fw⟩:=Kd.R_slice Dr.out
       (first|subst Fw|(injection Fw with f1_ f2_ f3_;have f4_:=f1_.symm;have f5_:=f3_.symm;clear f1_ f2_ f3_;subst f4_;subst f5_))
       refine hK.out _ _ ((y10 Am.out 0).trans rfl) (fun hHeld=>?_)
       clear hK K
       refine qx 34 ?_
       refine qp 9 35 (fl_ 11 1023) ?_
       refine last_ (i:=10) (N:=none) (fl_ 11 2047) rfl rfl (one_of HT_.out (by kernel_rfl)) (by decide) (fun K hK=>?_)
       have Nk:Nh.cell? ⟨As,0,none⟩=some (.slice Bf Ag.length Bg):=(y10 Am.out 0).trans rfl
       have Lj:=blk_frozen Am.out 0
       have Hl:=Bc.out
       have Hm:=Bd.out
       have Hn:=Bj.out
       have Ho:=Bk.out
       refine skip_ (w1:=?_) (by rfl) rfl ?_ ?_
       rotate_left
       ·go_simp
        rfl
       refine hK.out _ _ ?_
       clear hK K
       refine done_ (done_of HT_.out (by kernel_rfl)) ?_
       try go_wp2
       go_roundg k2
       case measure=>have:=Fl.out;have:=Eu.out;omega
       exact⟨(wrap64 (Ch + 1)),(Cn),(Co),(Cv),(.slice Ew Cv.length Ex),qy2,H',⟨by have:=Fl.out;have:=Eu.out;omega⟩,⟨qN (Kd.N_mono (Kd.N_far (p:=⟨As,0,none⟩) (Kd.N_mono Aa.out (fun k_ hk=>(⟨hk,hk.1.2.2.2.2.2⟩:_∧k_≠As))) (fun _ hk=>hk.2) (.slice Ew Cv.length Ex)) (fun _ hk=>⟨hk.1.1.1,⟨hk.1.2,⟨hk.1.1.2.2.2.1,⟨hk.1.1.2.2.2.2.1,⟨hk.1.1.2.2.2.2.2,hk.1.1.2.2.1⟩⟩⟩⟩⟩))⟩,⟨qR (Kd.R_mono (Kd.R_far (p:=⟨As,0,none⟩) (Kd.R_types Dr.out Am.out (by decide)) (fun _ hk=>hk.2) (.slice Ew Cv.length Ex)) (fun _ hk=>hk.1.1))⟩,⟨by(with_reducible repeat(first|refine y12 ?_ _|refine y11 ?_|refine y9 ?_ _));refine blk_far ?_ Bc.out _;(with_reducible repeat(first|refine y12 ?_ _|refine y11 ?_|refine y9 ?_ _));exact Ac.out⟩,⟨by(with_reducible repeat(first|refine y12 ?_ _|refine y11 ?_|refine y9 ?_ _));refine blk_far ?_ Bd.out _;(with_reducible repeat(first|refine y12 ?_ _|refine y11 ?_|refine y9 ?_ _));exact Ab.out⟩,⟨by(with_reducible repeat(first|refine y12 ?_ _|refine y11 ?_|refine y9 ?_ _));refine y13 (cs:=#[.slice Bf Ag.length Bg]) ?_ 0 _ rfl;(with_reducible repeat(first|refine y12 ?_ _|refine y11 ?_|refine y9 ?_ _));exact Am.out⟩,⟨(y2.qj (w0:=w0) (g:=g))⟩,⟨(qh (w:=w) (g:=g))⟩,⟨y2.qbI⟩⟩
      ·rw [if_neg Fn]at H
       have Fq:=decide_eq_false Fn
       clear Fn
       obtain⟨⟨Cx,Jq⟩,Nl,H⟩:=qB H
       replace H:(z7_.l0 k2 a1 (wrap64 (Bp - 1)) Aq At Au a1 Cx)=some (r1,r2,r3,r4):=H
       have H':=y0.mk H
       clear H
       have Lk:=Av.out
       have Ll:=Aj.out
       have Lm:=Bd.out
       have Ln:=Bk.out
       have Lo:=Al.out
       have Lp:=Ak.out
       obtain⟨Hp,Hq,Hr,Hs⟩:=qz2 Ab.out
       have Lq:=Bj.out
       have Lr:=Bc.out
       have Ls:=Bn.out
       have Lt:=Bm.out
       obtain⟨Ht,Hu⟩:=qz1 Am.out
       obtain⟨Ey,Ez,Jr⟩:=Kd.N_slice Aa.out
       subst Jr
       obtain⟨Dg,Dh,Js⟩:=Kd.R_slice Ah.out
       subst Js
       go_wp2_with (first|((with_reducible refine y16 (f:=37) rfl ?_);refine y18 (some 40) rfl rfl Tryz.func37 (by kernel_rfl) rfl #[.slice Ey Ai.length Ez,.agg #[.slice Dg Ag.length Dh]] rfl qy0 ?_;(with_reducible refine(spec_l02Put.calls (b:=w.heap.size) k2 (fun k_=>((w.heap.size≤k_)∧(some k_≠(.slice Dg Ag.length Dh:Value).ownBlock∧(k_≠Ad∧(k_≠Af∧(k_≠As∧k_≠g)))))) _ _ Ai _ _ Ag Cx Jq _ ?side1 ?sideb ?side2 ?side3 Nl.out).mono ?_);(case side1=>exact Aa.out);(case sideb=>exact(keep_size (w:=w) (g:=g) (row:=none) (qh (w:=w) (g:=g))));(case side2=>repeat(first|exact(Kd.R_reads' Ah.out).2.2|(with_reducible refine Kd.C_alloc ?_ _)|(with_reducible refine Kd.C_drewN ?_ _)|(with_reducible refine Kd.C_drew ?_)));(case side3=>exact(Kd.R_reads' Ah.out).2.1);rintro e On ⟨Nm,rfl,Fo,hb⟩;refine⟨_,rfl, ?_⟩;replace Aa:=y0.mk (Kd.N_below (qN Aa.out) hb);have Ds:=y0.mk (Kd.N_lower (Kd.N_mono (ok':=fun k_=>(w.heap.size≤k_)∧some k_≠(.slice Dg Ag.length Dh:Value).ownBlock∧k_≠Ad∧k_≠Af∧k_≠As∧k_≠g) Fo (fun k_ hk_=>⟨Or.elim hk_ (fun hs_=>hs_.1) (fun hn_=>(Nat.le_trans (keep_size (w:=w) (g:=g) (row:=none) (qh (w:=w) (g:=g))) hn_)),Or.elim hk_ (fun hs_=>hs_.2.1) (fun hn_=>(Kd.fresh' (Kd.R_lt (qR Ah.out)) k_ hn_)),Or.elim hk_ (fun hs_=>hs_.2.2.1) (fun hn_=>(Kd.freshB (g:=Ad) (o:=.cells #[.int .i64 0,.slice none 0 0] 32 (0,0)) (qk Ac.out) k_ hn_)),Or.elim hk_ (fun hs_=>hs_.2.2.2.1) (fun hn_=>(Kd.freshB (g:=Af) (o:=.cells #[.int .i64 a1,.slice Ey Ai.length Ez] 32 (0,0)) (qk Ab.out) k_ hn_)),Or.elim hk_ (fun hs_=>hs_.2.2.2.2.1) (fun hn_=>(Kd.freshB (g:=As) (o:=.cells #[.slice Dg Ag.length Dh] 36 (0,0)) (qk Am.out) k_ hn_)),Or.elim hk_ (fun hs_=>hs_.2.2.2.2.2) (fun hn_=>(y2.fresh (y2.qj (w0:=w0) (g:=g)) k_ hn_))⟩)) (Nat.le_refl _));replace Ah:=y0.mk (Kd.R_below (qR Ah.out) hb);replace Ac:=y0.mk (qK Ac.out hb);replace Ab:=y0.mk (qK Ab.out hb);replace Am:=y0.mk (qK Am.out hb);replace HI0:=y0.mk (y2.below (y2.qj (w0:=w0) (g:=g)) hb);replace HK:=y0.mk (y3.trans (qh (w:=w) (g:=g)) (y3.of_below hb g none) (.inl rfl));replace HB:=y0.mk (y8 y2.qbI hb);(try clear hb);(try clear Fo);obtain⟨Fx,Fy,Jt⟩:=Kd.N_slice Ds.out;subst Jt;obtain⟨Hv,Hw,Hx,Hy⟩:=qz2 Ab.out))
       go_roundg k2
       case measure=>have:=Fl.out;have:=Eu.out;omega
       exact⟨(wrap64 (Bp - 1)),(At),(Au),(Cx),(.slice Fx Cx.length Fy),qy2,H',⟨by have:=Fl.out;have:=Eu.out;omega⟩,⟨qN (Kd.N_mono (Kd.N_far (p:=⟨Af,1,none⟩) (Kd.N_mono Ds.out (fun k_ hk=>(⟨hk,hk.2.2.2.1⟩:_∧k_≠Af))) (fun _ hk=>hk.2) (.slice Fx Cx.length Fy)) (fun _ hk=>⟨hk.1.1,⟨hk.1.2.2.1,⟨hk.1.2.2.2.1,hk.1.2.2.2.2.2⟩⟩⟩))⟩,⟨by(with_reducible repeat(first|refine y12 ?_ _|refine y11 ?_|refine y9 ?_ _));refine blk_far ?_ Aj.out _;(with_reducible repeat(first|refine y12 ?_ _|refine y11 ?_|refine y9 ?_ _));exact Ac.out⟩,⟨by(with_reducible repeat(first|refine y12 ?_ _|refine y11 ?_|refine y9 ?_ _));refine y13 (cs:=#[.int .i64 a1,.slice Ey Ai.length Ez]) ?_ 1 _ rfl;(with_reducible repeat(first|refine y12 ?_ _|refine y11 ?_|refine y9 ?_ _));exact Ab.out⟩,⟨(y2.qj (w0:=w0) (g:=g))⟩,⟨(qh (w:=w) (g:=g))⟩,⟨y2.qbI⟩⟩
   ·rw [if_neg Fm]at H
    have Cu:decide (0 < Bp)=false:=decide_eq_false Fm
    clear Fm
    obtain⟨⟨Ju,Bs,Bt⟩,Fz,H⟩:=qB H
    dsimp only at H
    by_cases Ga:Ju=true
    ·subst Ga
     replace H:=qT H
     obtain⟨⟨Be,Bu,Bv⟩,Hz,H⟩:=qB H
     dsimp only at H
     by_cases Fa:Be=0
     ·rw [if_pos Fa]at H
      have Dt:(Be == 0)=true:=beq_iff_eq.mpr Fa
      have Du:(Be != 0)=false:=bne_eq_false_iff_eq.mpr Fa
      clear Fa
      obtain⟨⟨Cq,Gb,Gc⟩,Nn,H⟩:=qB H
      replace H:(some (Cq,Ai,Gb,Gc))=some (r1,r2,r3,r4):=H
      simp only [Option.some.injEq,Prod.mk.injEq]at H
      obtain⟨rfl,rfl,rfl,rfl⟩:=H
      go_wp2_with (first|((with_reducible refine y16 (f:=67) rfl ?_);refine y18 (some 46) rfl rfl Tryz.func67 (by kernel_rfl) rfl #[.pointer (some ⟨g,0,none⟩),.int .i64 16] rfl qy0 ?_;(with_reducible refine(spec_l01Cur_once.calls g Aq Ax Ay 16 true Bs Bt w0 _ (by repeat(first|(with_reducible first|exact HI0.out|apply y2.alloc|apply y2.drewN|apply y2.drew|apply y2.set_1|apply y2.set_2|refine y2.far ?_ Ao.out _|refine y2.far ?_ Ak.out _)|exact HI0.out)) (by repeat(first|(with_reducible first|exact HB.out|apply y4|apply y19|apply y5|refine y6 ?_ (y2.ge HI0.out)|refine y6 ?_ Az.out|refine y6 ?_ Ba.out)|exact HB.out)) Fz.out).mono ?_);rintro e Oo ⟨rfl,hi,hb,hk⟩;refine⟨_,rfl, ?_⟩;replace Aa:=y0.mk (Kd.N_mono (Kd.N_keep (Kd.N_mono (ok:=fun k_=>(((w.heap.size≤k_))∧(k_≠Ad∧(k_≠Af∧k_≠g)))) (qN Aa.out) (fun k_ hk_=>(⟨hk_,hk_.2.2.2⟩:_∧k_≠g))) hk (fun _ h=>h.2)) (fun _ h=>h.1));replace Ac:=y0.mk (y3.blk hk (g':=Ad) (o:=.cells #[.int .i64 0,.slice none 0 0] 32 (0,0)) (qk Ac.out) Ap.out (by simp));replace Ab:=y0.mk (y3.blk hk (g':=Af) (o:=.cells #[.int .i64 a1,Ae] 32 (0,0)) (qk Ab.out) Al.out (by simp));replace HK:=y0.mk (y3.trans (qh (w:=w) (g:=g)) hk (.inl rfl));replace HB:=y0.mk (hb);replace HI0:=y0.mk (hi);(try clear hb hk hi))|((with_reducible refine y16 (f:=54) rfl ?_);refine y18 (some 48) rfl rfl Tryz.func54 (by kernel_rfl) rfl #[.pointer (some ⟨g,0,none⟩),.int .i64 4] rfl qy0 ?_;(with_reducible refine(z6_.calls g Aq Bs Bt 4 Be Bu Bv w0 _ (by repeat(first|(with_reducible first|exact HI0.out|apply y2.alloc|apply y2.drewN|apply y2.drew|apply y2.set_1|apply y2.set_2|refine y2.far ?_ Ao.out _|refine y2.far ?_ Ak.out _)|exact HI0.out)) (by repeat(first|(with_reducible first|exact HB.out|apply y4|apply y19|apply y5|refine y6 ?_ (y2.ge HI0.out)|refine y6 ?_ Az.out|refine y6 ?_ Ba.out)|exact HB.out)) Hz.out).mono ?_);rintro e Oq ⟨rfl,hi,hb,hk⟩;refine⟨_,rfl, ?_⟩;replace Aa:=y0.mk (Kd.N_mono (Kd.N_keep (Kd.N_mono (ok:=fun k_=>(((w.heap.size≤k_))∧(k_≠Ad∧(k_≠Af∧k_≠g)))) (qN Aa.out) (fun k_ hk_=>(⟨hk_,hk_.2.2.2⟩:_∧k_≠g))) hk (fun _ h=>h.2)) (fun _ h=>h.1));replace Ac:=y0.mk (y3.blk hk (g':=Ad) (o:=.cells #[.int .i64 0,.slice none 0 0] 32 (0,0)) (qk Ac.out) Ap.out (by simp));replace Ab:=y0.mk (y3.blk hk (g':=Af) (o:=.cells #[.int .i64 a1,Ae] 32 (0,0)) (qk Ab.out) Al.out (by simp));replace HK:=y0.mk (y3.trans (qh (w:=w) (g:=g)) hk (.inl rfl));replace HB:=y0.mk (hb);replace HI0:=y0.mk (hi);(try clear hb hk hi))|((with_reducible refine y16 (f:=80) rfl ?_);refine y18 (some 69) rfl rfl Tryz.func80 (by kernel_rfl) rfl #[.pointer (some ⟨g,0,none⟩)] rfl qy0 ?_;(with_reducible refine(spec_l01Cur_raw.calls g Aq Bu Bv Cq Gb Gc w0 _ (by repeat(first|(with_reducible first|exact HI0.out|apply y2.alloc|apply y2.drewN|apply y2.drew|apply y2.set_1|apply y2.set_2|refine y2.far ?_ Ao.out _|refine y2.far ?_ Ak.out _)|exact HI0.out)) (by repeat(first|(with_reducible first|exact HB.out|apply y4|apply y19|apply y5|refine y6 ?_ (y2.ge HI0.out)|refine y6 ?_ Az.out|refine y6 ?_ Ba.out)|exact HB.out)) Nn.out).mono ?_);rintro e Ot ⟨rfl,hi,hb,hk⟩;refine⟨_,rfl, ?_⟩;replace Aa:=y0.mk (Kd.N_mono (Kd.N_keep (Kd.N_mono (ok:=fun k_=>(((w.heap.size≤k_))∧(k_≠Ad∧(k_≠Af∧k_≠g)))) (qN Aa.out) (fun k_ hk_=>(⟨hk_,hk_.2.2.2⟩:_∧k_≠g))) hk (fun _ h=>h.2)) (fun _ h=>h.1));replace Ac:=y0.mk (y3.blk hk (g':=Ad) (o:=.cells #[.int .i64 0,.slice none 0 0] 32 (0,0)) (qk Ac.out) Ap.out (by simp));replace Ab:=y0.mk (y3.blk hk (g':=Af) (o:=.cells #[.int .i64 a1,Ae] 32 (0,0)) (qk Ab.out) Al.out (by simp));replace HK:=y0.mk (y3.trans (qh (w:=w) (g:=g)) hk (.inl rfl));replace HB:=y0.mk (hb);replace HI0:=y0.mk (hi);(try clear hb hk hi);have Lu:=Av.out;have Lv:=Aj.out;have Lw:=Al.out;have Lx:=Ak.out;obtain⟨Ia,Ib,Ic,Id⟩:=qz2 Ab.out;have Ly:=Ap.out;have Lz:=Ao.out;obtain⟨Ie,Ig,Ih,Ii⟩:=qz2 Ac.out;obtain⟨Gd,Ge,Jv⟩:=Kd.N_slice Aa.out;subst Jv))
      refine bodyPost_ret (results_cell_row rfl _ _ Ad 32 #[.int .i64 Cq,.slice Gd Ai.length Ge] (0,0) _ rfl (by(with_reducible repeat(first|refine y12 ?_ _|refine y11 ?_|refine y9 ?_ _));refine y13 (cs:=#[.int .i64 Cq,.slice none 0 0]) ?_ 1 _ rfl;(with_reducible repeat(first|refine y12 ?_ _|refine y11 ?_|refine y9 ?_ _));refine y13 (cs:=#[.int .i64 0,.slice none 0 0]) ?_ 0 _ rfl;(with_reducible repeat(first|refine y12 ?_ _|refine y11 ?_|refine y9 ?_ _));refine blk_far ?_ Aj.out _;(with_reducible repeat(first|refine y12 ?_ _|refine y11 ?_|refine y9 ?_ _));exact Ac.out) Tryz.underlying32 rfl (by kernel_rfl)) rfl ?_
      exact⟨_,by first|rfl|(simp [y14,y15] <;> rfl)|(simp [*,y14,y15] <;> rfl),by(with_reducible repeat(first|apply Kd.N_alloc|apply Kd.N_drewN|apply Kd.N_drew));exact Kd.N_mono (Kd.N_far (p:=⟨Ad,1,none⟩) (Kd.N_far (p:=⟨Ad,0,none⟩) (Kd.N_far (p:=⟨Af,0,none⟩) (Kd.N_mono (Kd.N_mono Aa.out (fun k_ hk=>(⟨hk,hk.2.2.1⟩:_∧k_≠Af))) (fun k_ hk=>(⟨hk,hk.1.2.1⟩:_∧k_≠Ad))) (fun _ hk=>hk.1.2) (.int .i64 Cq)) (fun _ hk=>hk.2) (.int .i64 Cq)) (fun _ hk=>hk.2) (.slice Gd Ai.length Ge)) (fun _ hk=>hk.1.1.1),(y2.qj (w0:=w0) (g:=g)),y2.qbI,(qh (w:=w) (g:=g))⟩
     ·rw [if_neg Fa]at H
      have Dt:(Be == 0)=false:=beq_eq_false_iff_ne.mpr Fa
      have Du:(Be != 0)=true:=bne_iff_ne.mpr Fa
      by_cases Fb:Be=1
      ·rw [if_pos Fb]at H
       have Dv:(Be == 1)=true:=beq_iff_eq.mpr Fb
       have Dw:(Be != 1)=false:=bne_eq_false_iff_eq.mpr Fb
       clear Fb
       obtain⟨⟨Cr,Fc,Fd⟩,Np,H⟩:=qB H
       replace H:(if Ai.length < 5864062014805 then(some (a1,(Ai ++ [(⟨Cr⟩:S36)]),Fc,Fd))else(none))=some (r1,r2,r3,r4):=H
       obtain⟨Ma,H⟩:=qo H
       have Gf:=y0.mk Ma
       clear Ma
       obtain⟨Di,Cc⟩:∃ y_:List (S36),y_=(Ai ++ [(⟨Cr⟩:S36)]):=⟨_,rfl⟩
       replace H:(some (a1,Di,Fc,Fd))=some (r1,r2,r3,r4):=by first|(rw [Cc];with_reducible exact H)|(have H2_:=(Option.bind_some _ _).symm.trans H;rw [Cc];with_reducible exact H2_)|(have H2_:=(Option.bind_some _ _).symm.trans H;with_reducible exact H2_)|with_reducible exact H|(rw [Cc];exact H)|exact H
       have Gg:=y0.mk Cc
       clear Cc
       simp only [Option.some.injEq,Prod.mk.injEq]at H
       obtain⟨rfl,rfl,rfl,rfl⟩:=H
       try go_wp2_with (first|((with_reducible refine y16 (f:=67) rfl ?_);refine y18 (some 46) rfl rfl Tryz.func67 (by kernel_rfl) rfl #[.pointer (some ⟨g,0,none⟩),.int .i64 16] rfl qy0 ?_;(with_reducible refine(spec_l01Cur_once.calls g Aq Ax Ay 16 true Bs Bt w0 _ (by repeat(first|(with_reducible first|exact HI0.out|apply y2.alloc|apply y2.drewN|apply y2.drew|apply y2.set_1|apply y2.set_2|refine y2.far ?_ Ao.out _|refine y2.far ?_ Ak.out _)|exact HI0.out)) (by repeat(first|(with_reducible first|exact HB.out|apply y4|apply y19|apply y5|refine y6 ?_ (y2.ge HI0.out)|refine y6 ?_ Az.out|refine y6 ?_ Ba.out)|exact HB.out)) Fz.out).mono ?_);rintro e Ou ⟨rfl,hi,hb,hk⟩;refine⟨_,rfl, ?_⟩;replace Aa:=y0.mk (Kd.N_mono (Kd.N_keep (Kd.N_mono (ok:=fun k_=>(((w.heap.size≤k_))∧(k_≠Ad∧(k_≠Af∧k_≠g)))) (qN Aa.out) (fun k_ hk_=>(⟨hk_,hk_.2.2.2⟩:_∧k_≠g))) hk (fun _ h=>h.2)) (fun _ h=>h.1));replace Ac:=y0.mk (y3.blk hk (g':=Ad) (o:=.cells #[.int .i64 0,.slice none 0 0] 32 (0,0)) (qk Ac.out) Ap.out (by simp));replace Ab:=y0.mk (y3.blk hk (g':=Af) (o:=.cells #[.int .i64 a1,Ae] 32 (0,0)) (qk Ab.out) Al.out (by simp));replace HK:=y0.mk (y3.trans (qh (w:=w) (g:=g)) hk (.inl rfl));replace HB:=y0.mk (hb);replace HI0:=y0.mk (hi);(try clear hb hk hi))|((with_reducible refine y16 (f:=54) rfl ?_);refine y18 (some 48) rfl rfl Tryz.func54 (by kernel_rfl) rfl #[.pointer (some ⟨g,0,none⟩),.int .i64 4] rfl qy0 ?_;(with_reducible refine(z6_.calls g Aq Bs Bt 4 Be Bu Bv w0 _ (by repeat(first|(with_reducible first|exact HI0.out|apply y2.alloc|apply y2.drewN|apply y2.drew|apply y2.set_1|apply y2.set_2|refine y2.far ?_ Ao.out _|refine y2.far ?_ Ak.out _)|exact HI0.out)) (by repeat(first|(with_reducible first|exact HB.out|apply y4|apply y19|apply y5|refine y6 ?_ (y2.ge HI0.out)|refine y6 ?_ Az.out|refine y6 ?_ Ba.out)|exact HB.out)) Hz.out).mono ?_);rintro e Nq ⟨rfl,hi,hb,hk⟩;refine⟨_,rfl, ?_⟩;replace Aa:=y0.mk (Kd.N_mono (Kd.N_keep (Kd.N_mono (ok:=fun k_=>(((w.heap.size≤k_))∧(k_≠Ad∧(k_≠Af∧k_≠g)))) (qN Aa.out) (fun k_ hk_=>(⟨hk_,hk_.2.2.2⟩:_∧k_≠g))) hk (fun _ h=>h.2)) (fun _ h=>h.1));replace Ac:=y0.mk (y3.blk hk (g':=Ad) (o:=.cells #[.int .i64 0,.slice none 0 0] 32 (0,0)) (qk Ac.out) Ap.out (by simp));replace Ab:=y0.mk (y3.blk hk (g':=Af) (o:=.cells #[.int .i64 a1,Ae] 32 (0,0)) (qk Ab.out) Al.out (by simp));replace HK:=y0.mk (y3.trans (qh (w:=w) (g:=g)) hk (.inl rfl));replace HB:=y0.mk (hb);replace HI0:=y0.mk (hi);(try clear hb hk hi)))
       replace Aa:=y0.mk (Kd.N_drew Aa.out)
       replace Ac:=y0.mk (y11 Ac.out)
       replace Ab:=y0.mk (y11 Ab.out)
       replace HI0:=y0.mk (y2.drew HI0.out)
       replace HK:=y0.mk (keep_drew HK.out)
       replace HB:=y0.mk (y5 HB.out)
       refine start_ (n:=9) (S:=fun w'=>w'.cell? ⟨Af,0,none⟩=some (.int .i64 a1)∧w'.cell? ⟨Af,1,none⟩=some (Ae)) (ds:=[8]) (fl_ 9 0) (by kernel_rfl) rfl rfl ⟨(y10 Ab.out 0).trans rfl,(y10 Ab.out 1).trans rfl⟩ (fun hHeld=>?_);refine with_tabW z7_.tab22 z7_.bits22 (fun HT_ HW_=>?_)
       generalize Nq.drew=Ov at Aa Ac Ab HI0 HK HB hHeld ⊢
       refine qp 0 73 (fl_ 9 1) ?_
       refine qp 2 75 (fl_ 9 5) ?_
       refine qp 3 76 (fl_ 9 13) ?_
       refine qt 1 74 (fl_ 9 15) hHeld ?_
       refine qO 4 77 (fl_ 9 31) (fun K hK=>?_)
       refine goes_ Tryz.func59 (by kernel_rfl) rfl #[.pointer (some ⟨g,0,none⟩),.int .i64 a1] (by rfl) rfl rfl qy0 ?_
       with_reducible refine(z9_.calls k1 g Aq Bu Bv a1 Cr Fc Fd w0 _ (by repeat(first|(with_reducible first|exact HI0.out|apply y2.alloc|apply y2.drewN|apply y2.drew|apply y2.set_1|apply y2.set_2|refine y2.far ?_ Ao.out _|refine y2.far ?_ Ak.out _)|exact HI0.out)) (by repeat(first|(with_reducible first|exact HB.out|apply y4|apply y19|apply y5|refine y6 ?_ (y2.ge HI0.out)|refine y6 ?_ Az.out|refine y6 ?_ Ba.out)|exact HB.out)) Np.out).mono ?_
       rintro e Ow ⟨Nr,rfl,Fo,hi,hb,hk⟩
       refine⟨_,rfl, ?_⟩
       replace Aa:=y0.mk (Kd.N_mono (Kd.N_told (Kd.N_oldK (Kd.N_mono (ok:=fun k_=>(((w.heap.size≤k_))∧(k_≠Ad∧(k_≠Af∧k_≠g)))) (qN Aa.out) (fun k_ hk_=>(⟨hk_,hk_.2.2.2⟩:_∧k_≠g))) hk) (Kd.R_base Fo)) (fun _ h_=>h_.1))
       replace Ac:=y0.mk (y3.blk hk (g':=Ad) (o:=.cells #[.int .i64 0,.slice none 0 0] 32 (0,0)) (qk Ac.out) Ap.out (by simp))
       replace Ab:=y0.mk (y3.blk hk (g':=Af) (o:=.cells #[.int .i64 a1,Ae] 32 (0,0)) (qk Ab.out) Al.out (by simp))
       have Ck:=y0.mk (Kd.R_lower (Kd.R_newM (M:=fun k_=>(w.heap.size≤k_)) Fo (keep_size (w:=w) (g:=g) (row:=none) (qh (w:=w) (g:=g))) (fun k_ h_=>h_)) (keep_size (w:=w) (g:=g) (row:=none) (qh (w:=w) (g:=g))))
       replace HK:=y0.mk (y3.trans (qh (w:=w) (g:=g)) hk (.inl rfl))
       replace HB:=y0.mk (hb)
       replace HI0:=y0.mk (hi)
       (try clear hb hk hi)
       (try clear Fo)
       obtain⟨Jw,Jx,Gh⟩:=Kd.R_slice Ck.out
       (first|subst Gh|(injection Gh with f1_ f2_ f3_;have f4_:=f1_.symm;have f5_:=f3_.symm;clear f1_ f2_ f3_;subst f4_;subst f5_))
       refine hK.out _ _ ⟨(y10 Ab.out 0).trans rfl,(y10 Ab.out 1).trans rfl⟩ (fun hHeld=>?_)
       clear hK K
       refine qx 77 ?_
       refine qO 5 78 (fl_ 9 63) (fun K hK=>?_)
       refine value_ (w1:=?_) (v:=?_) (by rfl) rfl ?_ ?_
       rotate_left 2
       ·go_simp
        constructor
        ·rfl
        ·rfl
       refine hK.out _ _ ⟨(y10 (y9 Ab.out _) 0).trans rfl,(y10 (y9 Ab.out _) 1).trans rfl⟩ (fun hHeld=>?_)
       clear hK K
       refine qx 78 ?_
       refine qO 6 79 (fl_ 9 127) (fun K hK=>?_)
       refine Kd.N_append_step k36 w.heap.size (by rfl) (.tmp 74) (.tmp 78) 30 36 (.agg #[(.slice none 0 0)]) 24 rfl Tryz.underlying30 info36 rfl (by decide) (by omega) Ae Ai (⟨Cr⟩:S36) [.slice Jw Cr.length Jx] (fun k_=>(w.heap.size≤k_)∧k_≠Ad∧k_≠Af∧k_≠g) (fun k_=>((fun k_=>(w.heap.size≤k_)∧k_≠Ad∧k_≠Af∧k_≠g)) k_∧some k_≠(Ae:Value).ownBlock) rfl rfl ?aP (fun _ hk=>hk) ?aF ?aO (Below.refl _ _) ?aS ?aL ?_
       (case aP=>exact(k36_mkF _ _ (⟨Cr⟩:S36) (Kd.R_reads' (Kd.R_mono (ok':=(fun k_=>((fun k_=>(w.heap.size≤k_)∧k_≠Ad∧k_≠Af∧k_≠g)) k_∧some k_≠(Ae:Value).ownBlock)) (y2.apart HI0.out (Kd.R_types (Kd.R_types (Kd.R_apart' (Ck.out) (Kd.N_typed Aa.out) (by decide)) Ac.out (by decide)) Ab.out (by decide)) (by decide)) (fun k_ hk=>⟨⟨hk.1.1.1.1.1,⟨hk.1.1.2,⟨hk.1.2,hk.2⟩⟩⟩,hk.1.1.1.2⟩))).2.1 (Kd.R_F (Kd.R_mono (ok':=(fun k_=>((fun k_=>(w.heap.size≤k_)∧k_≠Ad∧k_≠Af∧k_≠g)) k_∧some k_≠(Ae:Value).ownBlock)) (y2.apart HI0.out (Kd.R_types (Kd.R_types (Kd.R_apart' (Ck.out) (Kd.N_typed Aa.out) (by decide)) Ac.out (by decide)) Ab.out (by decide)) (by decide)) (fun k_ hk=>⟨⟨hk.1.1.1.1.1,⟨hk.1.1.2,⟨hk.1.2,hk.2⟩⟩⟩,hk.1.1.1.2⟩)))))
       (case aF=>exact(fun k_ hk=>⟨(Nat.le_trans (keep_size (w:=w) (g:=g) (row:=none) (qh (w:=w) (g:=g))) hk),Kd.freshB (g:=Ad) (o:=.cells #[.int .i64 0,.slice none 0 0] 32 (0,0)) (qk Ac.out) k_ hk,Kd.freshB (g:=Af) (o:=.cells #[.int .i64 a1,Ae] 32 (0,0)) (qk Ab.out) k_ hk,y2.fresh (y2.qj (w0:=w0) (g:=g)) k_ hk⟩))
       (case aO=>exact(qN (Kd.N_mono Aa.out (fun _ hk=>⟨hk.1.1,⟨hk.1.2.1,⟨hk.1.2.2.1,hk.1.2.2.2⟩⟩⟩))))
       (case aS=>exact(keep_size (w:=w) (g:=g) (row:=none) (qh (w:=w) (g:=g))))
       (case aL=>have:=Gf.out;omega)
       intro Ns Nt ho hb hg hat
       rw [← Gg.out]at ho
       replace Ac:=y0.mk (blk_grown (qk Ac.out) hg (Kd.N_ne Aa.out Ac.out (by decide)))
       replace Ab:=y0.mk (blk_grown (qk Ab.out) hg (Kd.N_ne Aa.out Ab.out (by decide)))
       replace HI0:=y0.mk (y2.grown (y2.qj (w0:=w0) (g:=g)) hg (y2.own_neN HI0.out Aa.out (by decide)))
       replace HB:=y0.mk (below_weaken y2.qbI HL.out hb)
       replace HK:=y0.mk (y3.trans (qh (w:=w) (g:=g)) (y3.of_grown hg g) (Kd.N_base2 Aa.out))
       have Dx:=y0.mk (ho)
       clear Aa Ck
       clear ho hb hg hat
       obtain⟨Fe,Ff,Gi⟩:=Kd.N_slice Dx.out
       (first|subst Gi|(injection Gi with f1_ f2_ f3_;have f4_:=f1_.symm;have f5_:=f3_.symm;clear f1_ f2_ f3_;subst f4_;subst f5_))
       refine hK.out _ _ ⟨(y10 Ab.out 0).trans rfl,(y10 Ab.out 1).trans rfl⟩ (fun hHeld=>?_)
       clear hK K
       refine qx 79 ?_
       refine qp 7 80 (fl_ 9 255) ?_
       refine last_ (i:=8) (N:=none) (fl_ 9 511) rfl rfl (one_of HT_.out (by kernel_rfl)) (by decide) (fun K hK=>?_)
       have Nu:Nt.cell? ⟨Af,1,none⟩=some (Ae):=(y10 Ab.out 1).trans rfl
       have Mb:=blk_frozen Ab.out 1
       have Ij:=Aj.out
       have Ik:=Av.out
       refine skip_ (w1:=?_) (by rfl) rfl ?_ ?_
       rotate_left
       ·go_simp
        rfl
       refine hK.out _ _ ?_
       clear hK K
       refine done_ (done_of HT_.out (by kernel_rfl)) ?_
       have Mc:=Av.out
       have Md:=Aj.out
       have Me:=Al.out
       have Mf:=Ak.out
       obtain⟨Il,Im,In,Io⟩:=qz2 Ab.out
       have Mg:=Ap.out
       have Mh:=Ao.out
       obtain⟨Ip,Iq,Ir,Is⟩:=qz2 Ac.out
       try go_wp2
       refine bodyPost_ret (results_cell_row rfl _ _ Ad 32 #[.int .i64 a1,.slice Fe Di.length Ff] (0,0) _ rfl (by(with_reducible repeat(first|refine y12 ?_ _|refine y11 ?_|refine y9 ?_ _));refine y13 (cs:=#[.int .i64 a1,.slice none 0 0]) ?_ 1 _ rfl;(with_reducible repeat(first|refine y12 ?_ _|refine y11 ?_|refine y9 ?_ _));refine y13 (cs:=#[.int .i64 0,.slice none 0 0]) ?_ 0 _ rfl;(with_reducible repeat(first|refine y12 ?_ _|refine y11 ?_|refine y9 ?_ _));refine blk_far ?_ Aj.out _;(with_reducible repeat(first|refine y12 ?_ _|refine y11 ?_|refine y9 ?_ _));exact Ac.out) Tryz.underlying32 rfl (by kernel_rfl)) rfl ?_
       exact⟨_,by first|rfl|(simp [y14,y15] <;> rfl)|(simp [*,y14,y15] <;> rfl),by(with_reducible repeat(first|apply Kd.N_alloc|apply Kd.N_drewN|apply Kd.N_drew));exact Kd.N_mono (Kd.N_far (p:=⟨Ad,1,none⟩) (Kd.N_far (p:=⟨Ad,0,none⟩) (Kd.N_far (p:=⟨Af,1,none⟩) (Kd.N_mono (Kd.N_mono Dx.out (fun k_ hk=>(⟨hk,hk.2.2.1⟩:_∧k_≠Af))) (fun k_ hk=>(⟨hk,hk.1.2.1⟩:_∧k_≠Ad))) (fun _ hk=>hk.1.2) (.slice Fe Di.length Ff)) (fun _ hk=>hk.2) (.int .i64 a1)) (fun _ hk=>hk.2) (.slice Fe Di.length Ff)) (fun _ hk=>hk.1.1.1),(y2.qj (w0:=w0) (g:=g)),y2.qbI,(qh (w:=w) (g:=g))⟩
      ·rw [if_neg Fb]at H
       have Dv:(Be == 1)=false:=beq_eq_false_iff_ne.mpr Fb
       have Dw:(Be != 1)=true:=bne_iff_ne.mpr Fb
       by_cases Fg:Be=2
       ·rw [if_pos Fg]at H
        have Dy:(Be == 2)=true:=beq_iff_eq.mpr Fg
        have Dz:(Be != 2)=false:=bne_eq_false_iff_eq.mpr Fg
        clear Fg
        obtain⟨Cy,Cd⟩:∃ y_:List ByteArray,y_=(([(⟨#[120]⟩:ByteArray)]:List ByteArray)):=⟨_,rfl⟩
        replace H:(if Ai.length < 5864062014805 then(some (a1,(Ai ++ [(⟨Cy⟩:S36)]),Bu,Bv))else(none))=some (r1,r2,r3,r4):=by first|(rw [Cd];with_reducible exact H)|(have H2_:=(Option.bind_some _ _).symm.trans H;rw [Cd];with_reducible exact H2_)|(have H2_:=(Option.bind_some _ _).symm.trans H;with_reducible exact H2_)|with_reducible exact H|(rw [Cd];exact H)|exact H
        have Ea:=y0.mk Cd
        clear Cd
        obtain⟨Mi,H⟩:=qo H
        have Gj:=y0.mk Mi
        clear Mi
        obtain⟨Dj,Ce⟩:∃ y_:List (S36),y_=(Ai ++ [(⟨Cy⟩:S36)]):=⟨_,rfl⟩
        replace H:(some (a1,Dj,Bu,Bv))=some (r1,r2,r3,r4):=by first|(rw [Ce];with_reducible exact H)|(have H2_:=(Option.bind_some _ _).symm.trans H;rw [Ce];with_reducible exact H2_)|(have H2_:=(Option.bind_some _ _).symm.trans H;with_reducible exact H2_)|with_reducible exact H|(rw [Ce];exact H)|exact H
        have Gk:=y0.mk Ce
        clear Ce
        simp only [Option.some.injEq,Prod.mk.injEq]at H
        obtain⟨rfl,rfl,rfl,rfl⟩:=H
        go_wp2_with (first|((with_reducible refine y16 (f:=67) rfl ?_);refine y18 (some 46) rfl rfl Tryz.func67 (by kernel_rfl) rfl #[.pointer (some ⟨g,0,none⟩),.int .i64 16] rfl qy0 ?_;(with_reducible refine(spec_l01Cur_once.calls g Aq Ax Ay 16 true Bs Bt w0 _ (by repeat(first|(with_reducible first|exact HI0.out|apply y2.alloc|apply y2.drewN|apply y2.drew|apply y2.set_1|apply y2.set_2|refine y2.far ?_ Ao.out _|refine y2.far ?_ Ak.out _)|exact HI0.out)) (by repeat(first|(with_reducible first|exact HB.out|apply y4|apply y19|apply y5|refine y6 ?_ (y2.ge HI0.out)|refine y6 ?_ Az.out|refine y6 ?_ Ba.out)|exact HB.out)) Fz.out).mono ?_);rintro e Ox ⟨rfl,hi,hb,hk⟩;refine⟨_,rfl, ?_⟩;replace Aa:=y0.mk (Kd.N_mono (Kd.N_keep (Kd.N_mono (ok:=fun k_=>(((w.heap.size≤k_))∧(k_≠Ad∧(k_≠Af∧k_≠g)))) (qN Aa.out) (fun k_ hk_=>(⟨hk_,hk_.2.2.2⟩:_∧k_≠g))) hk (fun _ h=>h.2)) (fun _ h=>h.1));replace Ac:=y0.mk (y3.blk hk (g':=Ad) (o:=.cells #[.int .i64 0,.slice none 0 0] 32 (0,0)) (qk Ac.out) Ap.out (by simp));replace Ab:=y0.mk (y3.blk hk (g':=Af) (o:=.cells #[.int .i64 a1,Ae] 32 (0,0)) (qk Ab.out) Al.out (by simp));replace HK:=y0.mk (y3.trans (qh (w:=w) (g:=g)) hk (.inl rfl));replace HB:=y0.mk (hb);replace HI0:=y0.mk (hi);(try clear hb hk hi))|((with_reducible refine y16 (f:=54) rfl ?_);refine y18 (some 48) rfl rfl Tryz.func54 (by kernel_rfl) rfl #[.pointer (some ⟨g,0,none⟩),.int .i64 4] rfl qy0 ?_;(with_reducible refine(z6_.calls g Aq Bs Bt 4 Be Bu Bv w0 _ (by repeat(first|(with_reducible first|exact HI0.out|apply y2.alloc|apply y2.drewN|apply y2.drew|apply y2.set_1|apply y2.set_2|refine y2.far ?_ Ao.out _|refine y2.far ?_ Ak.out _)|exact HI0.out)) (by repeat(first|(with_reducible first|exact HB.out|apply y4|apply y19|apply y5|refine y6 ?_ (y2.ge HI0.out)|refine y6 ?_ Az.out|refine y6 ?_ Ba.out)|exact HB.out)) Hz.out).mono ?_);rintro e Oy ⟨rfl,hi,hb,hk⟩;refine⟨_,rfl, ?_⟩;replace Aa:=y0.mk (Kd.N_mono (Kd.N_keep (Kd.N_mono (ok:=fun k_=>(((w.heap.size≤k_))∧(k_≠Ad∧(k_≠Af∧k_≠g)))) (qN Aa.out) (fun k_ hk_=>(⟨hk_,hk_.2.2.2⟩:_∧k_≠g))) hk (fun _ h=>h.2)) (fun _ h=>h.1));replace Ac:=y0.mk (y3.blk hk (g':=Ad) (o:=.cells #[.int .i64 0,.slice none 0 0] 32 (0,0)) (qk Ac.out) Ap.out (by simp));replace Ab:=y0.mk (y3.blk hk (g':=Af) (o:=.cells #[.int .i64 a1,Ae] 32 (0,0)) (qk Ab.out) Al.out (by simp));replace HK:=y0.mk (y3.trans (qh (w:=w) (g:=g)) hk (.inl rfl));replace HB:=y0.mk (hb);replace HI0:=y0.mk (hi);(try clear hb hk hi);have Mj:=Av.out;have Mk:=Aj.out;have Ml:=Al.out;have Mm:=Ak.out;obtain⟨It,Iu,Iv,Iw⟩:=qz2 Ab.out)|((with_reducible refine y17 (N:=85) rfl ?_);refine qL Kd.string 9 85 ([(⟨#[120]⟩:ByteArray)]:List ByteArray) ?_;intro Nv Oz Cs hb hg_ hnew_;clear hg_ hnew_;(first|rw [← Ea.out]at Cs|(simp only [Int.reduceToNat]at Cs;rw [← Ea.out]at Cs));replace Aa:=y0.mk (Kd.N_elder' (qN Aa.out) (Kd.R_base Cs) hb);have Cl:=y0.mk (Kd.R_lower (Kd.R_newM (M:=fun k_=>(w.heap.size≤k_)) Cs (keep_size (w:=w) (g:=g) (row:=none) (qh (w:=w) (g:=g))) (fun k_ h_=>h_)) (keep_size (w:=w) (g:=g) (row:=none) (qh (w:=w) (g:=g))));replace Ac:=y0.mk (qK Ac.out hb);replace Ab:=y0.mk (qK Ab.out hb);replace HI0:=y0.mk (y2.below (y2.qj (w0:=w0) (g:=g)) hb);replace HK:=y0.mk (y3.trans (qh (w:=w) (g:=g)) (y3.of_below hb g none) (.inl rfl));replace HB:=y0.mk (y8 y2.qbI hb);clear hb Cs;obtain⟨Jy,Jz,Ka⟩:=Kd.R_slice Cl.out;subst Ka)|((with_reducible refine gate_builtin (b:=.append) (xs:=#[.tmp 84,.tmp 87]) rfl ?_);at_builtin;refine Kd.N_append k36 w.heap.size rfl (.tmp 84) (.tmp 87) 30 36 (.agg #[(.slice none 0 0)]) 24 rfl Tryz.underlying30 info36 rfl (by decide) (by omega) Ae Ai (⟨Cy⟩:S36) [.slice Jy Cy.length Jz] (fun k_=>(w.heap.size≤k_)∧k_≠Ad∧k_≠Af∧k_≠g) (fun k_=>((fun k_=>(w.heap.size≤k_)∧k_≠Ad∧k_≠Af∧k_≠g)) k_∧some k_≠(Ae:Value).ownBlock) rfl rfl ?aP (fun _ hk=>hk) ?aF ?aO (Below.refl _ _) ?aS ?aL ?_;(case aP=>exact(k36_mkF _ _ (⟨Cy⟩:S36) (Kd.R_reads' (Kd.R_mono (ok':=(fun k_=>((fun k_=>(w.heap.size≤k_)∧k_≠Ad∧k_≠Af∧k_≠g)) k_∧some k_≠(Ae:Value).ownBlock)) (y2.apart HI0.out (Kd.R_types (Kd.R_types (Kd.R_apart' (Cl.out) (Kd.N_typed Aa.out) (by decide)) Ac.out (by decide)) Ab.out (by decide)) (by decide)) (fun k_ hk=>⟨⟨hk.1.1.1.1.1,⟨hk.1.1.2,⟨hk.1.2,hk.2⟩⟩⟩,hk.1.1.1.2⟩))).2.1 (Kd.R_F (Kd.R_mono (ok':=(fun k_=>((fun k_=>(w.heap.size≤k_)∧k_≠Ad∧k_≠Af∧k_≠g)) k_∧some k_≠(Ae:Value).ownBlock)) (y2.apart HI0.out (Kd.R_types (Kd.R_types (Kd.R_apart' (Cl.out) (Kd.N_typed Aa.out) (by decide)) Ac.out (by decide)) Ab.out (by decide)) (by decide)) (fun k_ hk=>⟨⟨hk.1.1.1.1.1,⟨hk.1.1.2,⟨hk.1.2,hk.2⟩⟩⟩,hk.1.1.1.2⟩)))));(case aF=>exact(fun k_ hk=>⟨(Nat.le_trans (keep_size (w:=w) (g:=g) (row:=none) (qh (w:=w) (g:=g))) hk),Kd.freshB (g:=Ad) (o:=.cells #[.int .i64 0,.slice none 0 0] 32 (0,0)) (qk Ac.out) k_ hk,Kd.freshB (g:=Af) (o:=.cells #[.int .i64 a1,Ae] 32 (0,0)) (qk Ab.out) k_ hk,y2.fresh (y2.qj (w0:=w0) (g:=g)) k_ hk⟩));(case aO=>exact(qN (Kd.N_mono Aa.out (fun _ hk=>⟨hk.1.1,⟨hk.1.2.1,⟨hk.1.2.2.1,hk.1.2.2.2⟩⟩⟩))));(case aS=>exact(keep_size (w:=w) (g:=g) (row:=none) (qh (w:=w) (g:=g))));(case aL=>have:=Gj.out;omega);intro Nw Pa ho hb hg hat;rw [← Gk.out]at ho;replace Ac:=y0.mk (blk_grown (qk Ac.out) hg (Kd.N_ne Aa.out Ac.out (by decide)));replace Ab:=y0.mk (blk_grown (qk Ab.out) hg (Kd.N_ne Aa.out Ab.out (by decide)));replace HI0:=y0.mk (y2.grown (y2.qj (w0:=w0) (g:=g)) hg (y2.own_neN HI0.out Aa.out (by decide)));replace HB:=y0.mk (below_weaken y2.qbI HL.out hb);replace HK:=y0.mk (y3.trans (qh (w:=w) (g:=g)) (y3.of_grown hg g) (Kd.N_base2 Aa.out));have Eb:=y0.mk (ho);clear Aa Cl;clear ho hb hg hat;obtain⟨Fh,Fi,Kb⟩:=Kd.N_slice Eb.out;subst Kb;obtain⟨Ix,Iy,Iz,Ja⟩:=qz2 Ab.out;have Mn:=Ap.out;have Mo:=Ao.out;obtain⟨Jb,Jc,Jd,Je⟩:=qz2 Ac.out))
        refine bodyPost_ret (results_cell_row rfl _ _ Ad 32 #[.int .i64 a1,.slice Fh Dj.length Fi] (0,0) _ rfl (by(with_reducible repeat(first|refine y12 ?_ _|refine y11 ?_|refine y9 ?_ _));refine y13 (cs:=#[.int .i64 a1,.slice none 0 0]) ?_ 1 _ rfl;(with_reducible repeat(first|refine y12 ?_ _|refine y11 ?_|refine y9 ?_ _));refine y13 (cs:=#[.int .i64 0,.slice none 0 0]) ?_ 0 _ rfl;(with_reducible repeat(first|refine y12 ?_ _|refine y11 ?_|refine y9 ?_ _));refine blk_far ?_ Aj.out _;(with_reducible repeat(first|refine y12 ?_ _|refine y11 ?_|refine y9 ?_ _));exact Ac.out) Tryz.underlying32 rfl (by kernel_rfl)) rfl ?_
        exact⟨_,by first|rfl|(simp [y14,y15] <;> rfl)|(simp [*,y14,y15] <;> rfl),by(with_reducible repeat(first|apply Kd.N_alloc|apply Kd.N_drewN|apply Kd.N_drew));exact Kd.N_mono (Kd.N_far (p:=⟨Ad,1,none⟩) (Kd.N_far (p:=⟨Ad,0,none⟩) (Kd.N_far (p:=⟨Af,1,none⟩) (Kd.N_mono (Kd.N_mono Eb.out (fun k_ hk=>(⟨hk,hk.2.2.1⟩:_∧k_≠Af))) (fun k_ hk=>(⟨hk,hk.1.2.1⟩:_∧k_≠Ad))) (fun _ hk=>hk.1.2) (.slice Fh Dj.length Fi)) (fun _ hk=>hk.2) (.int .i64 a1)) (fun _ hk=>hk.2) (.slice Fh Dj.length Fi)) (fun _ hk=>hk.1.1.1),(y2.qj (w0:=w0) (g:=g)),y2.qbI,(qh (w:=w) (g:=g))⟩
       ·rw [if_neg Fg]at H
        have Dy:(Be == 2)=false:=beq_eq_false_iff_ne.mpr Fg
        have Dz:(Be != 2)=true:=bne_iff_ne.mpr Fg
        have H':=y0.mk H
        clear H
        go_wp2_with (first|((with_reducible refine y16 (f:=67) rfl ?_);refine y18 (some 46) rfl rfl Tryz.func67 (by kernel_rfl) rfl #[.pointer (some ⟨g,0,none⟩),.int .i64 16] rfl qy0 ?_;(with_reducible refine(spec_l01Cur_once.calls g Aq Ax Ay 16 true Bs Bt w0 _ (by repeat(first|(with_reducible first|exact HI0.out|apply y2.alloc|apply y2.drewN|apply y2.drew|apply y2.set_1|apply y2.set_2|refine y2.far ?_ Ao.out _|refine y2.far ?_ Ak.out _)|exact HI0.out)) (by repeat(first|(with_reducible first|exact HB.out|apply y4|apply y19|apply y5|refine y6 ?_ (y2.ge HI0.out)|refine y6 ?_ Az.out|refine y6 ?_ Ba.out)|exact HB.out)) Fz.out).mono ?_);rintro e Pb ⟨rfl,hi,hb,hk⟩;refine⟨_,rfl, ?_⟩;replace Aa:=y0.mk (Kd.N_mono (Kd.N_keep (Kd.N_mono (ok:=fun k_=>(((w.heap.size≤k_))∧(k_≠Ad∧(k_≠Af∧k_≠g)))) (qN Aa.out) (fun k_ hk_=>(⟨hk_,hk_.2.2.2⟩:_∧k_≠g))) hk (fun _ h=>h.2)) (fun _ h=>h.1));replace Ac:=y0.mk (y3.blk hk (g':=Ad) (o:=.cells #[.int .i64 0,.slice none 0 0] 32 (0,0)) (qk Ac.out) Ap.out (by simp));replace Ab:=y0.mk (y3.blk hk (g':=Af) (o:=.cells #[.int .i64 a1,Ae] 32 (0,0)) (qk Ab.out) Al.out (by simp));replace HK:=y0.mk (y3.trans (qh (w:=w) (g:=g)) hk (.inl rfl));replace HB:=y0.mk (hb);replace HI0:=y0.mk (hi);(try clear hb hk hi))|((with_reducible refine y16 (f:=54) rfl ?_);refine y18 (some 48) rfl rfl Tryz.func54 (by kernel_rfl) rfl #[.pointer (some ⟨g,0,none⟩),.int .i64 4] rfl qy0 ?_;(with_reducible refine(z6_.calls g Aq Bs Bt 4 Be Bu Bv w0 _ (by repeat(first|(with_reducible first|exact HI0.out|apply y2.alloc|apply y2.drewN|apply y2.drew|apply y2.set_1|apply y2.set_2|refine y2.far ?_ Ao.out _|refine y2.far ?_ Ak.out _)|exact HI0.out)) (by repeat(first|(with_reducible first|exact HB.out|apply y4|apply y19|apply y5|refine y6 ?_ (y2.ge HI0.out)|refine y6 ?_ Az.out|refine y6 ?_ Ba.out)|exact HB.out)) Hz.out).mono ?_);rintro e Pc ⟨rfl,hi,hb,hk⟩;refine⟨_,rfl, ?_⟩;replace Aa:=y0.mk (Kd.N_mono (Kd.N_keep (Kd.N_mono (ok:=fun k_=>(((w.heap.size≤k_))∧(k_≠Ad∧(k_≠Af∧k_≠g)))) (qN Aa.out) (fun k_ hk_=>(⟨hk_,hk_.2.2.2⟩:_∧k_≠g))) hk (fun _ h=>h.2)) (fun _ h=>h.1));replace Ac:=y0.mk (y3.blk hk (g':=Ad) (o:=.cells #[.int .i64 0,.slice none 0 0] 32 (0,0)) (qk Ac.out) Ap.out (by simp));replace Ab:=y0.mk (y3.blk hk (g':=Af) (o:=.cells #[.int .i64 a1,Ae] 32 (0,0)) (qk Ab.out) Al.out (by simp));replace HK:=y0.mk (y3.trans (qh (w:=w) (g:=g)) hk (.inl rfl));replace HB:=y0.mk (hb);replace HI0:=y0.mk (hi);(try clear hb hk hi);have Mp:=Av.out;have Mq:=Aj.out;have Mr:=Al.out;have Ms:=Ak.out;obtain⟨Dk,Dl,Dm,Dn⟩:=qz2 Ab.out))
        go_loopg [11] k1 (fun kq Nx w'=>∃(Bi:Int) (At:Int) (Au:Int) (Aw:List (S36)) (Ae:Value),Nx=.int .i64 Bi∧y0 (z7_.l2 kq Bi Aq At Au 1 Aw=some (r1,r2,r3,r4))∧y0 (kq≤k1)∧y0 (Kd.N k36 36 w' w.heap.size (fun k_=>(w.heap.size≤k_)∧k_≠Ad∧k_≠Af∧k_≠g) Ae Aw)∧y0 (w'.heap[Ad]?=some (.cells #[.int .i64 0,(.slice none 0 0)] 32 (0,0)))∧y0 (w'.heap[Af]?=some (.cells #[.int .i64 1,Ae] 32 (0,0)))∧y0 (y2 w0 w' g Aq At Au)∧y0 (y3 w w' g none)∧y0 (Below w0.heap.size w0 w'))
        case atStart=>exact⟨(0),(Bu),(Bv),(([]:List (S36))),(.slice none 0 0),qy2,H',⟨Nat.le_refl _⟩,⟨by first|exact Kd.S_nil _ _ _ _ _|exact Kd.N_nil _ _ _ _ _|exact Kd.V_nil _ _ _ _ _|exact Kd.Q_nil _ _ _ _ _|exact Kd.R_nil _ _ _ _ _⟩,⟨by(with_reducible repeat(first|refine y12 ?_ _|refine y11 ?_|refine y9 ?_ _));refine blk_far ?_ Aj.out _;(with_reducible repeat(first|refine y12 ?_ _|refine y11 ?_|refine y9 ?_ _));refine blk_far ?_ Aj.out _;(with_reducible repeat(first|refine y12 ?_ _|refine y11 ?_|refine y9 ?_ _));exact Ac.out⟩,⟨by(with_reducible repeat(first|refine y12 ?_ _|refine y11 ?_|refine y9 ?_ _));refine y13 (cs:=#[.int .i64 1,Ae]) ?_ 1 _ rfl;(with_reducible repeat(first|refine y12 ?_ _|refine y11 ?_|refine y9 ?_ _));refine y13 (cs:=#[.int .i64 a1,Ae]) ?_ 0 _ rfl;(with_reducible repeat(first|refine y12 ?_ _|refine y11 ?_|refine y9 ?_ _));exact Ab.out⟩,⟨(y2.qj (w0:=w0) (g:=g))⟩,⟨(qh (w:=w) (g:=g))⟩,⟨y2.qbI⟩⟩
        case round =>
         clear H'
         (try clear Cu Ga Dt Du Dv Dw Dy Dz Dk Dl Dm Dn)
         obtain⟨Bi,At,Au,Aw,Ae,rfl,HA,Eu,Aa,Ac,Ab,HI0,HK,HB⟩:=hrel
         cases gk with
         | zero=>exact absurd HA.out (by simp [z7_.l2])
         | succ k2 =>
          have H:=HA.out
          clear HA
          simp only [z7_.l2]at H
          obtain⟨⟨Fj,Cz,Da⟩,Mt,H⟩:=qB H
          dsimp only at H
          by_cases Fp:Bi < (wrap64 (399 + Fj))
          ·rw [if_pos Fp]at H
           have Gl:=decide_eq_true Fp
           clear Fp
           obtain⟨Fk,Ny,H⟩:=qB H
           obtain⟨Db,Cf⟩:∃ y_:List ByteArray,y_=(([Fk]:List ByteArray)):=⟨_,rfl⟩
           replace H:(if Aw.length < 5864062014805 then(z7_.l2 k2 (wrap64 (Bi + 1)) Aq Cz Da 1 (Aw ++ [(⟨Db⟩:S36)]))else(none))=some (r1,r2,r3,r4):=by first|(rw [Cf];with_reducible exact H)|(have H2_:=(Option.bind_some _ _).symm.trans H;rw [Cf];with_reducible exact H2_)|(have H2_:=(Option.bind_some _ _).symm.trans H;with_reducible exact H2_)|with_reducible exact H|(rw [Cf];exact H)|exact H
           have Ec:=y0.mk Cf
           clear Cf
           obtain⟨Mu,H⟩:=qo H
           have Gm:=y0.mk Mu
           clear Mu
           obtain⟨Do,Cg⟩:∃ y_:List (S36),y_=(Aw ++ [(⟨Db⟩:S36)]):=⟨_,rfl⟩
           replace H:(z7_.l2 k2 (wrap64 (Bi + 1)) Aq Cz Da 1 Do)=some (r1,r2,r3,r4):=by first|(rw [Cg];with_reducible exact H)|(have H2_:=(Option.bind_some _ _).symm.trans H;rw [Cg];with_reducible exact H2_)|(have H2_:=(Option.bind_some _ _).symm.trans H;with_reducible exact H2_)|with_reducible exact H|(rw [Cg];exact H)|exact H
           have Gn:=y0.mk Cg
           clear Cg
           have H':=y0.mk H
           clear H
           try go_wp2_with (first|((with_reducible refine y16 (f:=54) rfl ?_);refine y18 (some 52) rfl rfl Tryz.func54 (by kernel_rfl) rfl #[.pointer (some ⟨g,0,none⟩),.int .i64 3] rfl qy0 ?_;(with_reducible refine(z6_.calls g Aq At Au 3 Fj Cz Da w0 _ (by repeat(first|(with_reducible first|exact HI0.out|apply y2.alloc|apply y2.drewN|apply y2.drew|apply y2.set_1|apply y2.set_2|refine y2.far ?_ Ao.out _|refine y2.far ?_ Ak.out _)|exact HI0.out)) (by repeat(first|(with_reducible first|exact HB.out|apply y4|apply y19|apply y5|refine y6 ?_ (y2.ge HI0.out)|refine y6 ?_ Az.out|refine y6 ?_ Ba.out)|exact HB.out)) Mt.out).mono ?_);rintro e Nz ⟨rfl,hi,hb,hk⟩;refine⟨_,rfl, ?_⟩;replace Aa:=y0.mk (Kd.N_mono (Kd.N_keep (Kd.N_mono (ok:=fun k_=>(((w.heap.size≤k_))∧(k_≠Ad∧(k_≠Af∧k_≠g)))) (qN Aa.out) (fun k_ hk_=>(⟨hk_,hk_.2.2.2⟩:_∧k_≠g))) hk (fun _ h=>h.2)) (fun _ h=>h.1));replace Ac:=y0.mk (y3.blk hk (g':=Ad) (o:=.cells #[.int .i64 0,.slice none 0 0] 32 (0,0)) (qk Ac.out) Ap.out (by simp));replace Ab:=y0.mk (y3.blk hk (g':=Af) (o:=.cells #[.int .i64 1,Ae] 32 (0,0)) (qk Ab.out) Al.out (by simp));replace HK:=y0.mk (y3.trans (qh (w:=w) (g:=g)) hk (.inl rfl));replace HB:=y0.mk (hb);replace HI0:=y0.mk (hi);(try clear hb hk hi)))
           replace Aa:=y0.mk (Kd.N_drew Aa.out)
           replace Ac:=y0.mk (y11 Ac.out)
           replace Ab:=y0.mk (y11 Ab.out)
           replace HI0:=y0.mk (y2.drew HI0.out)
           replace HK:=y0.mk (keep_drew HK.out)
           replace HB:=y0.mk (y5 HB.out)
           refine start_ (n:=10) (S:=fun w'=>w'.cell? ⟨Af,0,none⟩=some (.int .i64 1)∧w'.cell? ⟨Af,1,none⟩=some (Ae)) (ds:=[9]) (fl_ 10 0) (by kernel_rfl) rfl rfl ⟨(y10 Ab.out 0).trans rfl,(y10 Ab.out 1).trans rfl⟩ (fun hHeld=>?_);refine with_tabW z7_.tab18 z7_.bits18 (fun HT_ HW_=>?_)
           generalize Nz.drew=Oa at Aa Ac Ab HI0 HK HB hHeld ⊢
           refine qp 0 57 (fl_ 10 1) ?_
           refine qp 2 59 (fl_ 10 5) ?_
           refine qt 1 58 (fl_ 10 7) hHeld ?_
           refine qO 3 60 (fl_ 10 15) (fun K hK=>?_)
           refine goes_ Tryz.func81 (by kernel_rfl) rfl #[.int .i64 Bi] (by rfl) rfl rfl qy0 ?_
           with_reducible refine(spec_NumText.calls k2 Bi Fk _ Ny.out).mono ?_
           rintro e Ob ⟨rfl,hb⟩
           refine⟨_,rfl, ?_⟩
           replace Aa:=y0.mk (Kd.N_below (qN Aa.out) hb)
           replace Ac:=y0.mk (qK Ac.out hb)
           replace Ab:=y0.mk (qK Ab.out hb)
           replace HI0:=y0.mk (y2.below (y2.qj (w0:=w0) (g:=g)) hb)
           replace HK:=y0.mk (y3.trans (qh (w:=w) (g:=g)) (y3.of_below hb g none) (.inl rfl))
           replace HB:=y0.mk (y8 y2.qbI hb)
           (try clear hb)
           refine hK.out _ _ ⟨(y10 Ab.out 0).trans rfl,(y10 Ab.out 1).trans rfl⟩ (fun hHeld=>?_)
           clear hK K
           refine qx 60 ?_
           refine qO 4 61 (fl_ 10 31) (fun K hK=>?_)
           refine qLs Kd.string 9 61 ([Fk]:List ByteArray) ?_
           intro Oc Od Br hb hg_ hnew_
           clear hg_ hnew_
           (first|rw [← Ec.out]at Br|(simp only [Int.reduceToNat]at Br;rw [← Ec.out]at Br))
           replace Aa:=y0.mk (Kd.N_elder' (qN Aa.out) (Kd.R_base Br) hb)
           have Cm:=y0.mk (Kd.R_lower (Kd.R_newM (M:=fun k_=>(w.heap.size≤k_)) Br (keep_size (w:=w) (g:=g) (row:=none) (qh (w:=w) (g:=g))) (fun k_ h_=>h_)) (keep_size (w:=w) (g:=g) (row:=none) (qh (w:=w) (g:=g))))
           replace Ac:=y0.mk (qK Ac.out hb)
           replace Ab:=y0.mk (qK Ab.out hb)
           replace HI0:=y0.mk (y2.below (y2.qj (w0:=w0) (g:=g)) hb)
           replace HK:=y0.mk (y3.trans (qh (w:=w) (g:=g)) (y3.of_below hb g none) (.inl rfl))
           replace HB:=y0.mk (y8 y2.qbI hb)
           clear hb Br
           obtain⟨Gp,Gq,Ed⟩:=Kd.R_slice Cm.out
           (first|subst Ed|(injection Ed with f1_ f2_ f3_;have f4_:=f1_.symm;have f5_:=f3_.symm;clear f1_ f2_ f3_;subst f4_;subst f5_))
           refine hK.out _ _ ⟨(y10 Ab.out 0).trans rfl,(y10 Ab.out 1).trans rfl⟩ (fun hHeld=>?_)
           clear hK K
           refine qx 61 ?_
           refine qp 5 62 (fl_ 10 63) ?_
           refine qO 6 63 (fl_ 10 127) (fun K hK=>?_)
           refine value_ (w1:=?_) (v:=?_) (by rfl) rfl ?_ ?_
           rotate_left 2
           ·go_simp
            constructor
            ·rfl
            ·rfl
           refine hK.out _ _ ⟨(y10 (y9 Ab.out _) 0).trans rfl,(y10 (y9 Ab.out _) 1).trans rfl⟩ (fun hHeld=>?_)
           clear hK K
           refine qx 63 ?_
           refine qO 7 64 (fl_ 10 255) (fun K hK=>?_)
           refine Kd.N_append_step k36 w.heap.size (by rfl) (.tmp 58) (.tmp 63) 30 36 (.agg #[(.slice none 0 0)]) 24 rfl Tryz.underlying30 info36 rfl (by decide) (by omega) Ae Aw (⟨Db⟩:S36) [.slice Gp Db.length Gq] (fun k_=>(w.heap.size≤k_)∧k_≠Ad∧k_≠Af∧k_≠g) (fun k_=>((fun k_=>(w.heap.size≤k_)∧k_≠Ad∧k_≠Af∧k_≠g)) k_∧some k_≠(Ae:Value).ownBlock) rfl rfl ?aP (fun _ hk=>hk) ?aF ?aO (Below.refl _ _) ?aS ?aL ?_
           (case aP=>exact(k36_mkF _ _ (⟨Db⟩:S36) (Kd.R_reads' (Kd.R_mono (ok':=(fun k_=>((fun k_=>(w.heap.size≤k_)∧k_≠Ad∧k_≠Af∧k_≠g)) k_∧some k_≠(Ae:Value).ownBlock)) (y2.apart HI0.out (Kd.R_types (Kd.R_types (Kd.R_apart' (Cm.out) (Kd.N_typed Aa.out) (by decide)) Ac.out (by decide)) Ab.out (by decide)) (by decide)) (fun k_ hk=>⟨⟨hk.1.1.1.1.1,⟨hk.1.1.2,⟨hk.1.2,hk.2⟩⟩⟩,hk.1.1.1.2⟩))).2.1 (Kd.R_F (Kd.R_mono (ok':=(fun k_=>((fun k_=>(w.heap.size≤k_)∧k_≠Ad∧k_≠Af∧k_≠g)) k_∧some k_≠(Ae:Value).ownBlock)) (y2.apart HI0.out (Kd.R_types (Kd.R_types (Kd.R_apart' (Cm.out) (Kd.N_typed Aa.out) (by decide)) Ac.out (by decide)) Ab.out (by decide)) (by decide)) (fun k_ hk=>⟨⟨hk.1.1.1.1.1,⟨hk.1.1.2,⟨hk.1.2,hk.2⟩⟩⟩,hk.1.1.1.2⟩)))))
           (case aF=>exact(fun k_ hk=>⟨(Nat.le_trans (keep_size (w:=w) (g:=g) (row:=none) (qh (w:=w) (g:=g))) hk),Kd.freshB (g:=Ad) (o:=.cells #[.int .i64 0,.slice none 0 0] 32 (0,0)) (qk Ac.out) k_ hk,Kd.freshB (g:=Af) (o:=.cells #[.int .i64 1,Ae] 32 (0,0)) (qk Ab.out) k_ hk,y2.fresh (y2.qj (w0:=w0) (g:=g)) k_ hk⟩))
           (case aO=>exact(qN (Kd.N_mono Aa.out (fun _ hk=>⟨hk.1.1,⟨hk.1.2.1,⟨hk.1.2.2.1,hk.1.2.2.2⟩⟩⟩))))
           (case aS=>exact(keep_size (w:=w) (g:=g) (row:=none) (qh (w:=w) (g:=g))))
           (case aL=>have:=Gm.out;omega)
           intro Oe Ke ho hb hg hat
           rw [← Gn.out]at ho
           replace Ac:=y0.mk (blk_grown (qk Ac.out) hg (Kd.N_ne Aa.out Ac.out (by decide)))
           replace Ab:=y0.mk (blk_grown (qk Ab.out) hg (Kd.N_ne Aa.out Ab.out (by decide)))
           replace HI0:=y0.mk (y2.grown (y2.qj (w0:=w0) (g:=g)) hg (y2.own_neN HI0.out Aa.out (by decide)))
           replace HB:=y0.mk (below_weaken y2.qbI HL.out hb)
           replace HK:=y0.mk (y3.trans (qh (w:=w) (g:=g)) (y3.of_grown hg g) (Kd.N_base2 Aa.out))
           have Ee:=y0.mk (ho)
           clear Aa Cm
           clear ho hb hg hat
           obtain⟨Ef,Eg,Eh⟩:=Kd.N_slice Ee.out
           (first|subst Eh|(injection Eh with f1_ f2_ f3_;have f4_:=f1_.symm;have f5_:=f3_.symm;clear f1_ f2_ f3_;subst f4_;subst f5_))
           refine hK.out _ _ ⟨(y10 Ab.out 0).trans rfl,(y10 Ab.out 1).trans rfl⟩ (fun hHeld=>?_)
           clear hK K
           refine qx 64 ?_
           refine qp 8 65 (fl_ 10 511) ?_
           refine last_ (i:=9) (N:=none) (fl_ 10 1023) rfl rfl (one_of HT_.out (by kernel_rfl)) (by decide) (fun K hK=>?_)
           have Mv:Ke.cell? ⟨Af,1,none⟩=some (Ae):=(y10 Ab.out 1).trans rfl
           have Kf:=blk_frozen Ab.out 1
           have Gr:=Aj.out
           have Gs:=Av.out
           refine skip_ (w1:=?_) (by rfl) rfl ?_ ?_
           rotate_left
           ·go_simp
            rfl
           refine hK.out _ _ ?_
           clear hK K
           refine done_ (done_of HT_.out (by kernel_rfl)) ?_
           try go_wp2
           go_roundg k2
           case measure=>have:=Fl.out;have:=Eu.out;omega
           exact⟨(wrap64 (Bi + 1)),(Cz),(Da),(Do),(.slice Ef Do.length Eg),qy2,H',⟨by have:=Fl.out;have:=Eu.out;omega⟩,⟨qN (Kd.N_mono (Kd.N_far (p:=⟨Af,1,none⟩) (Kd.N_mono Ee.out (fun k_ hk=>(⟨hk,hk.2.2.1⟩:_∧k_≠Af))) (fun _ hk=>hk.2) (.slice Ef Do.length Eg)) (fun _ hk=>⟨hk.1.1,⟨hk.1.2.1,⟨hk.1.2.2.1,hk.1.2.2.2⟩⟩⟩))⟩,⟨by(with_reducible repeat(first|refine y12 ?_ _|refine y11 ?_|refine y9 ?_ _));refine blk_far ?_ Aj.out _;(with_reducible repeat(first|refine y12 ?_ _|refine y11 ?_|refine y9 ?_ _));exact Ac.out⟩,⟨by(with_reducible repeat(first|refine y12 ?_ _|refine y11 ?_|refine y9 ?_ _));refine y13 (cs:=#[.int .i64 1,Ae]) ?_ 1 _ rfl;(with_reducible repeat(first|refine y12 ?_ _|refine y11 ?_|refine y9 ?_ _));exact Ab.out⟩,⟨(y2.qj (w0:=w0) (g:=g))⟩,⟨(qh (w:=w) (g:=g))⟩,⟨y2.qbI⟩⟩
          ·rw [if_neg Fp]at H
           have Gl:=decide_eq_false Fp
           clear Fp
           simp only [Option.some.injEq,Prod.mk.injEq]at H
           obtain⟨rfl,rfl,rfl,rfl⟩:=H
           go_wp2_with (first|((with_reducible refine y16 (f:=54) rfl ?_);refine y18 (some 52) rfl rfl Tryz.func54 (by kernel_rfl) rfl #[.pointer (some ⟨g,0,none⟩),.int .i64 3] rfl qy0 ?_;(with_reducible refine(z6_.calls g Aq At Au 3 Fj Cz Da w0 _ (by repeat(first|(with_reducible first|exact HI0.out|apply y2.alloc|apply y2.drewN|apply y2.drew|apply y2.set_1|apply y2.set_2|refine y2.far ?_ Ao.out _|refine y2.far ?_ Ak.out _)|exact HI0.out)) (by repeat(first|(with_reducible first|exact HB.out|apply y4|apply y19|apply y5|refine y6 ?_ (y2.ge HI0.out)|refine y6 ?_ Az.out|refine y6 ?_ Ba.out)|exact HB.out)) Mt.out).mono ?_);rintro e Og ⟨rfl,hi,hb,hk⟩;refine⟨_,rfl, ?_⟩;replace Aa:=y0.mk (Kd.N_mono (Kd.N_keep (Kd.N_mono (ok:=fun k_=>(((w.heap.size≤k_))∧(k_≠Ad∧(k_≠Af∧k_≠g)))) (qN Aa.out) (fun k_ hk_=>(⟨hk_,hk_.2.2.2⟩:_∧k_≠g))) hk (fun _ h=>h.2)) (fun _ h=>h.1));replace Ac:=y0.mk (y3.blk hk (g':=Ad) (o:=.cells #[.int .i64 0,.slice none 0 0] 32 (0,0)) (qk Ac.out) Ap.out (by simp));replace Ab:=y0.mk (y3.blk hk (g':=Af) (o:=.cells #[.int .i64 1,Ae] 32 (0,0)) (qk Ab.out) Al.out (by simp));replace HK:=y0.mk (y3.trans (qh (w:=w) (g:=g)) hk (.inl rfl));replace HB:=y0.mk (hb);replace HI0:=y0.mk (hi);(try clear hb hk hi);have Kg:=Av.out;have Kh:=Aj.out;have Ki:=Al.out;have Kj:=Ak.out;obtain⟨Gt,Gu,Gv,Gw⟩:=qz2 Ab.out;have Kk:=Ap.out;have Kl:=Ao.out;obtain⟨Gx,Gy,Gz,Ha⟩:=qz2 Ac.out;obtain⟨Ei,Ej,Hb⟩:=Kd.N_slice Aa.out;subst Hb))
           refine bodyPost_ret (results_cell_row rfl _ _ Ad 32 #[.int .i64 1,.slice Ei Aw.length Ej] (0,0) _ rfl (by(with_reducible repeat(first|refine y12 ?_ _|refine y11 ?_|refine y9 ?_ _));refine y13 (cs:=#[.int .i64 1,.slice none 0 0]) ?_ 1 _ rfl;(with_reducible repeat(first|refine y12 ?_ _|refine y11 ?_|refine y9 ?_ _));refine y13 (cs:=#[.int .i64 0,.slice none 0 0]) ?_ 0 _ rfl;(with_reducible repeat(first|refine y12 ?_ _|refine y11 ?_|refine y9 ?_ _));exact Ac.out) Tryz.underlying32 rfl (by kernel_rfl)) rfl ?_
           exact⟨_,by first|rfl|(simp [y14,y15] <;> rfl)|(simp [*,y14,y15] <;> rfl),by(with_reducible repeat(first|apply Kd.N_alloc|apply Kd.N_drewN|apply Kd.N_drew));exact Kd.N_mono (Kd.N_far (p:=⟨Ad,1,none⟩) (Kd.N_far (p:=⟨Ad,0,none⟩) (Kd.N_mono Aa.out (fun k_ hk=>(⟨hk,hk.2.1⟩:_∧k_≠Ad))) (fun _ hk=>hk.2) (.int .i64 1)) (fun _ hk=>hk.2) (.slice Ei Aw.length Ej)) (fun _ hk=>hk.1.1),(y2.qj (w0:=w0) (g:=g)),y2.qbI,(qh (w:=w) (g:=g))⟩
    ·replace Ga:=Bool.eq_false_iff.mpr Ga
     subst Ga
     replace H:=qF H
     simp only [Option.some.injEq,Prod.mk.injEq]at H
     obtain⟨rfl,rfl,rfl,rfl⟩:=H
     go_wp2_with (first|((with_reducible refine y16 (f:=67) rfl ?_);refine y18 (some 46) rfl rfl Tryz.func67 (by kernel_rfl) rfl #[.pointer (some ⟨g,0,none⟩),.int .i64 16] rfl qy0 ?_;(with_reducible refine(spec_l01Cur_once.calls g Aq Ax Ay 16 false Bs Bt w0 _ (by repeat(first|(with_reducible first|exact HI0.out|apply y2.alloc|apply y2.drewN|apply y2.drew|apply y2.set_1|apply y2.set_2|refine y2.far ?_ Ao.out _|refine y2.far ?_ Ak.out _)|exact HI0.out)) (by repeat(first|(with_reducible first|exact HB.out|apply y4|apply y19|apply y5|refine y6 ?_ (y2.ge HI0.out)|refine y6 ?_ Az.out|refine y6 ?_ Ba.out)|exact HB.out)) Fz.out).mono ?_);rintro e Oh ⟨rfl,hi,hb,hk⟩;refine⟨_,rfl, ?_⟩;replace Aa:=y0.mk (Kd.N_mono (Kd.N_keep (Kd.N_mono (ok:=fun k_=>(((w.heap.size≤k_))∧(k_≠Ad∧(k_≠Af∧k_≠g)))) (qN Aa.out) (fun k_ hk_=>(⟨hk_,hk_.2.2.2⟩:_∧k_≠g))) hk (fun _ h=>h.2)) (fun _ h=>h.1));replace Ac:=y0.mk (y3.blk hk (g':=Ad) (o:=.cells #[.int .i64 0,.slice none 0 0] 32 (0,0)) (qk Ac.out) Ap.out (by simp));replace Ab:=y0.mk (y3.blk hk (g':=Af) (o:=.cells #[.int .i64 a1,Ae] 32 (0,0)) (qk Ab.out) Al.out (by simp));replace HK:=y0.mk (y3.trans (qh (w:=w) (g:=g)) hk (.inl rfl));replace HB:=y0.mk (hb);replace HI0:=y0.mk (hi);(try clear hb hk hi);have Km:=Av.out;have Kn:=Aj.out;have Ko:=Al.out;have Kp:=Ak.out;obtain⟨Hc,Hd,He,Hf⟩:=qz2 Ab.out;have Kq:=Ap.out;have Kr:=Ao.out;obtain⟨Hg,Hh,Hi,Hj⟩:=qz2 Ac.out;obtain⟨Ek,El,Hk⟩:=Kd.N_slice Aa.out;subst Hk))
     refine bodyPost_ret (results_cell_row rfl _ _ Ad 32 #[.int .i64 a1,.slice Ek Ai.length El] (0,0) _ rfl (by(with_reducible repeat(first|refine y12 ?_ _|refine y11 ?_|refine y9 ?_ _));refine y13 (cs:=#[.int .i64 a1,.slice none 0 0]) ?_ 1 _ rfl;(with_reducible repeat(first|refine y12 ?_ _|refine y11 ?_|refine y9 ?_ _));refine y13 (cs:=#[.int .i64 0,.slice none 0 0]) ?_ 0 _ rfl;(with_reducible repeat(first|refine y12 ?_ _|refine y11 ?_|refine y9 ?_ _));exact Ac.out) Tryz.underlying32 rfl (by kernel_rfl)) rfl ?_
     exact⟨_,by first|rfl|(simp [y14,y15] <;> rfl)|(simp [*,y14,y15] <;> rfl),by(with_reducible repeat(first|apply Kd.N_alloc|apply Kd.N_drewN|apply Kd.N_drew));exact Kd.N_mono (Kd.N_far (p:=⟨Ad,1,none⟩) (Kd.N_far (p:=⟨Ad,0,none⟩) (Kd.N_mono Aa.out (fun k_ hk=>(⟨hk,hk.2.1⟩:_∧k_≠Ad))) (fun _ hk=>hk.2) (.int .i64 a1)) (fun _ hk=>hk.2) (.slice Ek Ai.length El)) (fun _ hk=>hk.1.1),(y2.qj (w0:=w0) (g:=g)),y2.qbI,(qh (w:=w) (g:=g))⟩
end Go.Proofs.YtkajecadkkgfmaaGreatDoor.Pn
