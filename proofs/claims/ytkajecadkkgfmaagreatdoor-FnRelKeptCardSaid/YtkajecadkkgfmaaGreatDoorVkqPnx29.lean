-- Cut by prune.py, a program of this session, out of the texts of this claim: Lean checks it.
import Derived.Test.YtkajecadkkgfmaaGreatDoorVkqPnx0
import Derived.Test.YtkajecadkkgfmaaGreatDoorVkqPnx11
import Derived.Test.YtkajecadkkgfmaaGreatDoorVkqPnx19
import Derived.Test.YtkajecadkkgfmaaGreatDoorVkqPnx27
import Derived.Test.YtkajecadkkgfmaaGreatDoorVkqPnx9
section
namespace Go.Proofs.YtkajecadkkgfmaaGreatDoor.Pn
open Go.RowKit Go.Proofs.YtkajecadkkgfmaaGreatDoorW.PrintWords Go.Proofs.YtkajecadkkgfmaaGreatDoorW.PrintLast Go.Proofs.YtkajecadkkgfmaaGreatDoorW.PrintMore
attribute [local go_sem] max2_int min2_int max_two min_two max_three min_three max_four min_four   -- for this text's walks alone
set_option linter.unusedVariables false
set_option linter.unusedSimpArgs false
mutual
def z6_.l0:Nat→Int→Int→List Int→Int→Int→Int→List (S36)→Option (Int×(List (S36))×Int×Int)
 | 0,_,_,_,_,_,_,_=>none
 | k + 1,x1,x6,x1000,x1001,x1002,x520000,x520001=>if x6 > 0 then(z6_.l1 k x1 x6 0 x1000 x1001 x1002 x520000 x520001 ([]:List ByteArray))else((spec_l01Cur_once.f x1000 x1001 x1002 16).bind fun bt538=>(if bt538.1=true then((z5_.f x1000 bt538.2.1 bt538.2.2 4).bind fun bt541=>(if bt541.1=0 then((spec_l01Cur_raw.f x1000 bt541.2.1 bt541.2.2).bind fun bt544=>(some (bt544.1,x520001,bt544.2.1,bt544.2.2)))else(if bt541.1=1 then((z8_.f k x1000 bt541.2.1 bt541.2.2 x1).bind fun bt547=>(if x520001.length < 5864062014805 then(some (x520000,(x520001 ++ [(⟨bt547.1⟩:S36)]),bt547.2.1,bt547.2.2))else(none)))else(if bt541.1=2 then(if x520001.length < 5864062014805 then(some (x520000,(x520001 ++ [(⟨(([(⟨#[120]⟩:ByteArray)]:List ByteArray))⟩:S36)]),bt541.2.1,bt541.2.2))else(none))else(z6_.l2 k 0 x1000 bt541.2.1 bt541.2.2 1 ([]:List (S36)))))))else(some (x520000,x520001,bt538.2.1,bt538.2.2))))
def z6_.l1:Nat→Int→Int→Int→List Int→Int→Int→Int→List (S36)→List ByteArray→Option (Int×(List (S36))×Int×Int)
 | 0,_,_,_,_,_,_,_,_,_=>none
 | k + 1,x1,x6,x8,x1000,x1001,x1002,x520000,x520001,x524000=>if x8 < x1 then((some (([(⟨#[49]⟩:ByteArray),(⟨#[50]⟩:ByteArray),(⟨#[34,97,34]⟩:ByteArray),(⟨#[78,105,108]⟩:ByteArray),(⟨#[83,40,49,41]⟩:ByteArray),(⟨#[49,48]⟩:ByteArray),(⟨#[67,111,110,115,40,49,44,78,105,108,41]⟩:ByteArray),(⟨#[45,49]⟩:ByteArray)]:List ByteArray):List ByteArray)).bind fun y524=>((z5_.f x1000 x1001 x1002 8).bind fun bt527=>(if 0≤bt527.1 then(if bt527.1 < (y524.length:Int)then(if x524000.length < 8796093022208 then(z6_.l1 k x1 x6 (wrap64 (x8 + 1)) x1000 bt527.2.1 bt527.2.2 x520000 x520001 (x524000 ++ [rdOf ByteArray.empty y524 bt527.1]))else(none))else(none))else(none))))else((spec_l02Put.f k x520001 x524000).bind fun bt534=>(z6_.l0 k x1 (wrap64 (x6 - 1)) x1000 x1001 x1002 x520000 bt534.1))
def z6_.l2:Nat→Int→List Int→Int→Int→Int→List (S36)→Option (Int×(List (S36))×Int×Int)
 | 0,_,_,_,_,_,_=>none
 | k + 1,x11,x1000,x1001,x1002,x520000,x520001=>(z5_.f x1000 x1001 x1002 3).bind fun bt561=>(if x11 < (wrap64 (399 + bt561.1))then((spec_NumText.f k x11).bind fun t564=>(if x520001.length < 5864062014805 then(z6_.l2 k (wrap64 (x11 + 1)) x1000 bt561.2.1 bt561.2.2 x520000 (x520001 ++ [(⟨(([t564]:List ByteArray))⟩:S36)]))else(none)))else(some (x520000,x520001,bt561.2.1,bt561.2.2)))
end
def z6_.f (k:Nat) (s0_0:List Int) (s0_1:Int) (s0_2:Int) (a1:Int):Option (Int×(List (S36))×Int×Int):=(spec_l01Cur_size.f s0_0 s0_1 s0_2 7).bind fun bt520=>(z6_.l0 k a1 bt520.1 s0_0 bt520.2.1 bt520.2.2 a1 ([]:List (S36)))
def z6_.T9:Bool×List (List Nat×List Nat):=(true,[([],[]),([0],[0]),([],[]),([],[]),([3],[3]),([2,4],[2,4]),([5],[5]),([6],[6]),([1,7,4],[1,7]),([0,1,2,3,4,5,6,7,8],[]),([9,8,8,0,1,2,3,4,5,6,7,8],[8,9])])
def z6_.B9:List Nat:=[0,1,0,0,8,28,60,124,255,511,1023]
theorem z6_.tab9:rtab .any (opsOf Tryz.f53 9)=z6_.T9:=by kernel_rfl
theorem z6_.bits9:waitsOk z6_.T9.2 z6_.B9=true:=by kernel_rfl
def z6_.T18:Bool×List (List Nat×List Nat):=(true,[([],[]),([0],[0]),([],[]),([2],[2]),([3],[3]),([4],[4]),([5],[5]),([1,6,3],[1,6]),([0,1,2,3,4,5,6,7],[]),([8,7,7,0,1,2,3,4,5,6,7],[7,8])])
def z6_.B18:List Nat:=[0,1,0,4,12,28,60,127,255,511]
theorem z6_.tab18:rtab .any (opsOf Tryz.f53 18)=z6_.T18:=by kernel_rfl
theorem z6_.bits18:waitsOk z6_.T18.2 z6_.B18=true:=by kernel_rfl
def z6_.T22:Bool×List (List Nat×List Nat):=(true,[([],[]),([0],[0]),([],[]),([],[]),([2,3],[2,3]),([4],[4]),([1,5,4],[1,5]),([0,1,2,3,4,5,6],[]),([7,6,6,0,1,2,3,4,5,6],[6,7])])
def z6_.B22:List Nat:=[0,1,0,0,12,28,63,127,255]
theorem z6_.tab22:rtab .any (opsOf Tryz.f53 22)=z6_.T22:=by kernel_rfl
theorem z6_.bits22:waitsOk z6_.T22.2 z6_.B22=true:=by kernel_rfl
set_option maxHeartbeats 8000000 in
set_option maxRecDepth 100000 in
theorem z6_.calls (k:Nat) (g:Nat) (Av:List Int) (Cc:Int) (Cd:Int) (a1:Int) (r1:Int) (r2:List (S36)) (r3:Int) (r4:Int) (w0 w:World) (hI:y2 w0 w g Av Cc Cd) (hB:Below w0.heap.size w0 w) (h:z6_.f k Av Cc Cd a1=some (r1,r2,r3,r4)) :
  Calls Tryz.prog 53 #[.pointer (some ⟨g,0,none⟩),.int .i64 a1] w fun e w'=>∃ v1_:Value,e=.returned (.agg #[.int .i64 r1,v1_])∧Kd.N k36 36 w' w.heap.size (fun k_=>(w.heap.size≤k_)) v1_ r2∧y2 w0 w' g Av r3 r4∧Below w0.heap.size w0 w'∧y3 w w' g none:=by
 have Nb:=Tryz.underlying32
 have Nc:=Tryz.underlying36
 have HI0:=y0.mk hI
 have HK:=y0.mk (y3.refl w g none)
 have HL:=y0.mk hB.size
 clear hI
 have Jk:=y0.mk hB.size
 have HB:=y0.mk hB
 clear hB
 have H:((spec_l01Cur_size.f Av Cc Cd 7).bind fun Cy=>(z6_.l0 k a1 Cy.1 Av Cy.2.1 Cy.2.2 a1 ([]:List (S36))))=some (r1,r2,r3,r4):=h
 clear h
 obtain⟨⟨Es,Et,Eu⟩,A3,H⟩:=qB H
 replace H:(z6_.l0 k a1 Es Av Et Eu a1 ([]:List (S36)))=some (r1,r2,r3,r4):=H
 have H':=y0.mk H
 clear H
 go_enter Tryz.func53,Tryz.ntmps53
 go_wp2_with (first|((with_reducible refine y20 (N:=4) rfl ?_);refine qe 4 #[.int .i64 0,.slice none 0 0] 32 ?_;intro Ae hg w4 hbox hb;replace HB:=y0.mk (y8 y2.qbI hb);have Ad:=y0.mk (hbox);have Kx:=y0.mk ((by rw [hg];exact(keep_size (w:=w) (g:=g) (row:=none) (qh (w:=w) (g:=g))):w.heap.size≤Ae));have Be:=y0.mk ((Nat.le_trans Jk.out (by rw [hg];exact(keep_size (w:=w) (g:=g) (row:=none) (qh (w:=w) (g:=g))):w.heap.size≤Ae):w0.heap.size≤Ae));replace HK:=y0.mk (y3.trans (qh (w:=w) (g:=g)) (y3.of_below hb g none) (.inl rfl));have Aq:=y0.mk ((by rw [hg];exact Nat.ne_of_lt (y2.lt (show y2 w0 _ g Av Cc Cd from(y2.qj (w0:=w0) (g:=g)))):g≠Ae));have Au:=y0.mk ((by rw [hg];exact Nat.ne_of_gt (y2.lt (show y2 w0 _ g Av Cc Cd from(y2.qj (w0:=w0) (g:=g)))):Ae≠g));replace HI0:=y0.mk (y2.below (y2.qj (w0:=w0) (g:=g)) hb);clear hb hbox hg)|((with_reducible refine y20 (N:=5) rfl ?_);refine qe 5 #[.int .i64 0,.slice none 0 0] 32 ?_;intro Ag hg w5 hbox hb;replace HB:=y0.mk (y8 y2.qbI hb);have Ac:=y0.mk (hbox);have Ky:=y0.mk ((by rw [hg];exact(keep_size (w:=w) (g:=g) (row:=none) (qh (w:=w) (g:=g))):w.heap.size≤Ag));have Bf:=y0.mk ((Nat.le_trans Jk.out (by rw [hg];exact(keep_size (w:=w) (g:=g) (row:=none) (qh (w:=w) (g:=g))):w.heap.size≤Ag):w0.heap.size≤Ag));replace HK:=y0.mk (y3.trans (qh (w:=w) (g:=g)) (y3.of_below hb g none) (.inl rfl));have Ak:=y0.mk (qn Ad.out hg);have Ba:=y0.mk (qm Ad.out hg);replace Ad:=y0.mk (qK Ad.out hb);have Al:=y0.mk ((by rw [hg];exact Nat.ne_of_lt (y2.lt (show y2 w0 _ g Av Cc Cd from(y2.qj (w0:=w0) (g:=g)))):g≠Ag));have Am:=y0.mk ((by rw [hg];exact Nat.ne_of_gt (y2.lt (show y2 w0 _ g Av Cc Cd from(y2.qj (w0:=w0) (g:=g)))):Ag≠g));replace HI0:=y0.mk (y2.below (y2.qj (w0:=w0) (g:=g)) hb);clear hb hbox hg;have Nd:=Ba.out;have Nf:=Ak.out;have Ng:=Am.out;have Nh:=Al.out;obtain⟨Ew,Ex,Ey,Ez⟩:=qz2 Ac.out)|((with_reducible refine y19 (f:=79) rfl ?_);refine y22 (some 15) rfl rfl Tryz.func79 (by kernel_rfl) rfl #[.pointer (some ⟨g,0,none⟩),.int .i64 7] rfl qy0 ?_;(with_reducible refine(spec_l01Cur_size.calls g Av Cc Cd 7 Es Et Eu w0 _ (by repeat(first|(with_reducible first|exact HI0.out|apply y2.alloc|apply y2.drewN|apply y2.drew|apply y2.set_1|apply y2.set_2|refine y2.far ?_ Aq.out _|refine y2.far ?_ Al.out _)|exact HI0.out)) (by repeat(first|(with_reducible first|exact HB.out|apply y4|apply y23|apply y5|refine y6 ?_ (y2.ge HI0.out)|refine y6 ?_ Be.out|refine y6 ?_ Bf.out)|exact HB.out)) A3.out).mono ?_);rintro e w9 ⟨rfl,hi,hb,hk⟩;refine⟨_,rfl, ?_⟩;replace Ad:=y0.mk (y3.blk hk (g':=Ae) (o:=.cells #[.int .i64 0,.slice none 0 0] 32 (0,0)) (by(with_reducible repeat(first|refine y13 ?_ _|refine y12 ?_|refine y9 ?_ _));refine y14 ?_ Ak.out _;(with_reducible repeat(first|refine y13 ?_ _|refine y12 ?_|refine y9 ?_ _));refine y14 ?_ Ak.out _;(with_reducible repeat(first|refine y13 ?_ _|refine y12 ?_|refine y9 ?_ _));exact Ad.out) Au.out (by simp));replace Ac:=y0.mk (y3.blk hk (g':=Ag) (o:=.cells #[.int .i64 a1,.slice none 0 0] 32 (0,0)) (by(with_reducible repeat(first|refine y13 ?_ _|refine y12 ?_|refine y9 ?_ _));refine y16 (cs:=#[.int .i64 a1,.slice none 0 0]) ?_ 1 _ rfl;(with_reducible repeat(first|refine y13 ?_ _|refine y12 ?_|refine y9 ?_ _));refine y16 (cs:=#[.int .i64 0,.slice none 0 0]) ?_ 0 _ rfl;(with_reducible repeat(first|refine y13 ?_ _|refine y12 ?_|refine y9 ?_ _));exact Ac.out) Am.out (by simp));replace HK:=y0.mk (y3.trans (qh (w:=w) (g:=g)) hk (.inl rfl));replace HB:=y0.mk (hb);replace HI0:=y0.mk (hi);(try clear hb hk hi)))
 go_loopg [6] k (fun kq v6 w'=>∃(Bu:Int) (Bc:Int) (Bd:Int) (Aj:List (S36)) (Af:Value),v6=.int .i64 Bu∧y0 (z6_.l0 kq a1 Bu Av Bc Bd a1 Aj=some (r1,r2,r3,r4))∧y0 (kq≤k)∧y0 (Kd.N k36 36 w' w.heap.size (fun k_=>(w.heap.size≤k_)∧k_≠Ae∧k_≠Ag∧k_≠g) Af Aj)∧y0 (w'.heap[Ae]?=some (.cells #[.int .i64 0,(.slice none 0 0)] 32 (0,0)))∧y0 (w'.heap[Ag]?=some (.cells #[.int .i64 a1,Af] 32 (0,0)))∧y0 (y2 w0 w' g Av Bc Bd)∧y0 (y3 w w' g none)∧y0 (Below w0.heap.size w0 w'))
 case atStart=>exact⟨(Es),(Et),(Eu),(([]:List (S36))),(.slice none 0 0),qy2,H',⟨Nat.le_refl _⟩,⟨by first|exact Kd.S_nil _ _ _ _ _|exact Kd.N_nil _ _ _ _ _|exact Kd.V_nil _ _ _ _ _|exact Kd.Q_nil _ _ _ _ _|exact Kd.R_nil _ _ _ _ _⟩,⟨qk Ad.out⟩,⟨qk Ac.out⟩,⟨(y2.qj (w0:=w0) (g:=g))⟩,⟨(qh (w:=w) (g:=g))⟩,⟨y2.qbI⟩⟩
 case round =>
  clear H'
  (try clear Ew Ex Ey Ez)
  obtain⟨Bu,Bc,Bd,Aj,Af,rfl,HA,Fq,Aa,Ad,Ac,HI0,HK,HB⟩:=hrel
  cases gk with
  | zero=>exact absurd HA.out (by simp [z6_.l0])
  | succ k1 =>
   have H:=HA.out
   clear HA
   simp only [z6_.l0]at H
   by_cases Fr:Bu > 0
   ·rw [if_pos Fr]at H
    have Cz:decide (0 < Bu)=true:=decide_eq_true Fr
    clear Fr
    have H':=y0.mk H
    clear H
    go_wp2_with (first|((with_reducible refine y20 (N:=7) rfl ?_);refine qe 7 #[.slice none 0 0] 36 ?_;intro Aw hg Oo hbox hb;replace Aa:=y0.mk (Kd.N_below (Kd.N_elderB (qN Aa.out) Aw (Nat.le_of_eq hg.symm)) hb);replace HB:=y0.mk (y8 y2.qbI hb);have Ap:=y0.mk (hbox);have Kz:=y0.mk ((by rw [hg];exact(keep_size (w:=w) (g:=g) (row:=none) (qh (w:=w) (g:=g))):w.heap.size≤Aw));have Du:=y0.mk ((Nat.le_trans Jk.out (by rw [hg];exact(keep_size (w:=w) (g:=g) (row:=none) (qh (w:=w) (g:=g))):w.heap.size≤Aw):w0.heap.size≤Aw));replace HK:=y0.mk (y3.trans (qh (w:=w) (g:=g)) (y3.of_below hb g none) (.inl rfl));have Bh:=y0.mk (qn Ad.out hg);have Bo:=y0.mk (qm Ad.out hg);replace Ad:=y0.mk (qK Ad.out hb);have Bi:=y0.mk (qn Ac.out hg);have Bp:=y0.mk (qm Ac.out hg);replace Ac:=y0.mk (qK Ac.out hb);have Br:=y0.mk ((by rw [hg];exact Nat.ne_of_lt (y2.lt (show y2 w0 _ g Av Bc Bd from(y2.qj (w0:=w0) (g:=g)))):g≠Aw));have Bs:=y0.mk ((by rw [hg];exact Nat.ne_of_gt (y2.lt (show y2 w0 _ g Av Bc Bd from(y2.qj (w0:=w0) (g:=g)))):Aw≠g));replace HI0:=y0.mk (y2.below (y2.qj (w0:=w0) (g:=g)) hb);clear hb hbox hg;have La:=Bo.out;have Lb:=Bh.out;have Lc:=Bp.out;have Ld:=Bi.out;have Le:=Bs.out;have Lf:=Br.out;obtain⟨Di,Dj⟩:=qz1 Ap.out))
    go_loopg [8] k1 (fun kq v8 w'=>∃(Cm:Int) (Ay:Int) (Az:Int) (Ah:List ByteArray) (Bt:Value),v8=.int .i64 Cm∧y0 (z6_.l1 kq a1 Bu Cm Av Ay Az a1 Aj Ah=some (r1,r2,r3,r4))∧y0 (kq≤k1)∧y0 (Kd.N k36 36 w' w.heap.size (fun k_=>(w.heap.size≤k_)∧some k_≠(Bt:Value).ownBlock∧k_≠Ae∧k_≠Ag∧k_≠Aw∧k_≠g) Af Aj)∧y0 (Kd.R Kd.string 9 w' w.heap.size (fun k_=>(w.heap.size≤k_)) Bt Ah)∧y0 (w'.heap[Ae]?=some (.cells #[.int .i64 0,(.slice none 0 0)] 32 (0,0)))∧y0 (w'.heap[Ag]?=some (.cells #[.int .i64 a1,Af] 32 (0,0)))∧y0 (w'.heap[Aw]?=some (.cells #[Bt] 36 (0,0)))∧y0 (y2 w0 w' g Av Ay Az)∧y0 (y3 w w' g none)∧y0 (Below w0.heap.size w0 w'))
    case atStart=>exact⟨(0),(Bc),(Bd),(([]:List ByteArray)),(.slice none 0 0),qy2,H',⟨Nat.le_refl _⟩,⟨qN (Kd.N_mono (Kd.N_far (p:=⟨Aw,0,none⟩) (Kd.N_mono Aa.out (fun k_ hk=>(⟨hk,hk.2⟩:_∧k_≠Aw))) (fun _ hk=>hk.2) (.slice none 0 0)) (fun _ hk=>⟨hk.1.1.1,⟨(by simp [Value.ownBlock]),⟨hk.1.1.2.1,⟨hk.1.1.2.2.1,⟨hk.1.2,hk.1.1.2.2.2⟩⟩⟩⟩⟩))⟩,⟨by first|exact Kd.R_nil _ _ _ _ _|exact Kd.N_nil _ _ _ _ _|exact Kd.V_nil _ _ _ _ _|exact Kd.Q_nil _ _ _ _ _|exact Kd.S_nil _ _ _ _ _⟩,⟨by(with_reducible repeat(first|refine y13 ?_ _|refine y12 ?_|refine y9 ?_ _));refine y14 ?_ Bh.out _;(with_reducible repeat(first|refine y13 ?_ _|refine y12 ?_|refine y9 ?_ _));exact Ad.out⟩,⟨by(with_reducible repeat(first|refine y13 ?_ _|refine y12 ?_|refine y9 ?_ _));refine y14 ?_ Bi.out _;(with_reducible repeat(first|refine y13 ?_ _|refine y12 ?_|refine y9 ?_ _));exact Ac.out⟩,⟨by(with_reducible repeat(first|refine y13 ?_ _|refine y12 ?_|refine y9 ?_ _));refine y16 (cs:=#[.slice none 0 0]) ?_ 0 _ rfl;(with_reducible repeat(first|refine y13 ?_ _|refine y12 ?_|refine y9 ?_ _));exact Ap.out⟩,⟨(y2.qj (w0:=w0) (g:=g))⟩,⟨(qh (w:=w) (g:=g))⟩,⟨y2.qbI⟩⟩
    case round =>
     clear H'
     (try clear Cz Di Dj)
     obtain⟨Cm,Ay,Az,Ah,Bt,rfl,HA,Fa,Aa,Ai,Ad,Ac,Ap,HI0,HK,HB⟩:=hrel
     cases gk with
     | zero=>exact absurd HA.out (by simp [z6_.l1])
     | succ k2 =>
      have H:=HA.out
      clear HA
      simp only [z6_.l1]at H
      by_cases Fs:Cm < a1
      ·rw [if_pos Fs]at H
       have Fv:=decide_eq_true Fs
       clear Fs
       obtain⟨Bm,Ce⟩:∃ y_:List ByteArray,y_=(([(⟨#[49]⟩:ByteArray),(⟨#[50]⟩:ByteArray),(⟨#[34,97,34]⟩:ByteArray),(⟨#[78,105,108]⟩:ByteArray),(⟨#[83,40,49,41]⟩:ByteArray),(⟨#[49,48]⟩:ByteArray),(⟨#[67,111,110,115,40,49,44,78,105,108,41]⟩:ByteArray),(⟨#[45,49]⟩:ByteArray)]:List ByteArray)):=⟨_,rfl⟩
       replace H:((z5_.f Av Ay Az 8).bind fun Cf=>(if 0≤Cf.1 then(if Cf.1 < (Bm.length:Int)then(if Ah.length < 8796093022208 then(z6_.l1 k2 a1 Bu (wrap64 (Cm + 1)) Av Cf.2.1 Cf.2.2 a1 Aj (Ah ++ [rdOf ByteArray.empty Bm Cf.1]))else(none))else(none))else(none)))=some (r1,r2,r3,r4):=by first|(rw [Ce];with_reducible exact H)|(have H2_:=(Option.bind_some _ _).symm.trans H;rw [Ce];with_reducible exact H2_)|(have H2_:=(Option.bind_some _ _).symm.trans H;with_reducible exact H2_)|with_reducible exact H|(rw [Ce];exact H)|exact H
       have Bv:=y0.mk Ce
       clear Ce
       obtain⟨⟨Bq,Cs,Ct⟩,Lg,H⟩:=qB H
       dsimp only at H
       obtain⟨Lh,H⟩:=qo H
       have Li:decide (0≤Bq)=true:=decide_eq_true Lh
       clear Lh
       obtain⟨Lj,H⟩:=qo H
       have Lk:decide (Bq < (Bm.length:Int))=true:=decide_eq_true Lj
       clear Lj
       obtain⟨Ll,H⟩:=qo H
       have Fw:=y0.mk Ll
       clear Ll
       obtain⟨Da,Cg⟩:∃ y_:List ByteArray,y_=(Ah ++ [rdOf ByteArray.empty Bm Bq]):=⟨_,rfl⟩
       replace H:(z6_.l1 k2 a1 Bu (wrap64 (Cm + 1)) Av Cs Ct a1 Aj Da)=some (r1,r2,r3,r4):=by first|(rw [Cg];with_reducible exact H)|(have H2_:=(Option.bind_some _ _).symm.trans H;rw [Cg];with_reducible exact H2_)|(have H2_:=(Option.bind_some _ _).symm.trans H;with_reducible exact H2_)|with_reducible exact H|(rw [Cg];exact H)|exact H
       have Fx:=y0.mk Cg
       clear Cg
       have H':=y0.mk H
       clear H
       obtain⟨Bk,Bl,Jl⟩:=Kd.R_slice Ai.out
       subst Jl
       try go_wp2
       have Lm:(0≤(Bq:Int))=True:=eq_true (of_decide_eq_true qy1)
       have Ln:(Bq < (Bm.length:Int))=True:=eq_true (of_decide_eq_true qy1)
       replace Aa:=y0.mk (Kd.N_drew Aa.out)
       replace Ai:=y0.mk (Kd.R_drew Ai.out)
       replace Ad:=y0.mk (y12 Ad.out)
       replace Ac:=y0.mk (y12 Ac.out)
       replace Ap:=y0.mk (y12 Ap.out)
       replace HI0:=y0.mk (y2.drew HI0.out)
       replace HK:=y0.mk (keep_drew HK.out)
       replace HB:=y0.mk (y5 HB.out)
       refine start_ (n:=11) (S:=fun w'=>w'.cell? ⟨Aw,0,none⟩=some (.slice Bk Ah.length Bl)) (ds:=[10]) (fl_ 11 0) (by kernel_rfl) rfl rfl ((y11 Ap.out 0).trans rfl) (fun hHeld=>?_);refine with_tabW z6_.tab9 z6_.bits9 (fun HT_ HW_=>?_)
       generalize wr.drew=Oq at Aa Ai Ad Ac Ap HI0 HK HB hHeld ⊢
       refine qp 0 26 (fl_ 11 1) ?_
       refine qp 3 29 (fl_ 11 9) ?_
       refine qt 1 27 (fl_ 11 11) hHeld ?_
       refine join_ (σ:=Value×Addr) 6 (fl_ 11 31) (fun s_=>[(28,s_.1),(30,.int .i64 Bq)]) (fun s_ w'=>(w'.cell? ⟨Aw,0,none⟩=some (.slice Bk Ah.length Bl))∧(Kd.R Kd.string 9 w' w.heap.size (fun k_=>(w.heap.size≤k_)∧some k_≠(.slice Bk Ah.length Bl:Value).ownBlock) s_.1 Bm)∧(Kd.N k36 36 w' w.heap.size (fun k_=>(w.heap.size≤k_)∧some k_≠(s_.1:Value).ownBlock∧some k_≠(.slice Bk Ah.length Bl:Value).ownBlock∧k_≠g∧k_≠Ae∧k_≠Ag∧k_≠Aw) Af Aj)∧(Kd.R Kd.string 9 w' w.heap.size (fun k_=>(w.heap.size≤k_)∧some k_≠(s_.1:Value).ownBlock) (.slice Bk Ah.length Bl) Ah)∧(∃ c_,(s_.1:Value)=.slice (some s_.2) Bm.length c_)∧(w'.heap[Ae]?=some (.cells #[.int .i64 0,.slice none 0 0] 32 (0,0)))∧(w'.heap[Ag]?=some (.cells #[.int .i64 a1,Af] 32 (0,0)))∧(w'.heap[Aw]?=some (.cells #[.slice Bk Ah.length Bl] 36 (0,0)))∧(y2 w0 w' g Av Cs Ct)∧(y3 w w' g none)∧(Below w0.heap.size w0 w')) ?_ ?_
       rotate_left
       ·intro hCont
        refine two_ (i:=2) (j:=4) (Ni:=some 28) (Nj:=some 30) (fl_ 11 15) (fl_ 11 27) rfl rfl rfl rfl (two_of HT_.out (by kernel_rfl)) (by decide) (by decide) (fun K hK=>?_) (fun K hK=>?_)
        ·skip
         refine qLs Kd.string 9 28 ([(⟨#[49]⟩:ByteArray),(⟨#[50]⟩:ByteArray),(⟨#[34,97,34]⟩:ByteArray),(⟨#[78,105,108]⟩:ByteArray),(⟨#[83,40,49,41]⟩:ByteArray),(⟨#[49,48]⟩:ByteArray),(⟨#[67,111,110,115,40,49,44,78,105,108,41]⟩:ByteArray),(⟨#[45,49]⟩:ByteArray)]:List ByteArray) ?_
         intro Cu Nk Cn hb hg_ hnew_
         clear hg_ hnew_
         (first|rw [← Bv.out]at Cn|(simp only [Int.reduceToNat]at Cn;rw [← Bv.out]at Cn))
         replace Aa:=y0.mk (Kd.N_elder' (qN Aa.out) (Kd.R_base Cn) hb)
         have Bg:=y0.mk (Kd.R_lower (Kd.R_new' (Kd.R_newM (M:=fun k_=>(w.heap.size≤k_)) Cn (keep_size (w:=w) (g:=g) (row:=none) (qh (w:=w) (g:=g))) (fun k_ h_=>h_)) (Kd.R_lt (qR Ai.out))) (keep_size (w:=w) (g:=g) (row:=none) (qh (w:=w) (g:=g))))
         replace Ai:=y0.mk (Kd.R_elder' (qR Ai.out) (Kd.R_base Cn) hb)
         replace Ad:=y0.mk (qK Ad.out hb)
         replace Ac:=y0.mk (qK Ac.out hb)
         replace Ap:=y0.mk (qK Ap.out hb)
         replace HI0:=y0.mk (y2.below (y2.qj (w0:=w0) (g:=g)) hb)
         replace HK:=y0.mk (y3.trans (qh (w:=w) (g:=g)) (y3.of_below hb g none) (.inl rfl))
         replace HB:=y0.mk (y8 y2.qbI hb)
         clear hb Cn
         obtain⟨Nl,Fy,Jm⟩:=Kd.R_slice Bg.out
         subst Jm
         obtain⟨Db,Jn,_⟩:=Kd.at_string (Kd.R_reads' Bg.out).2.2 0 (by decide) (by rw [Bv.out];simp)
         cases Jn
         refine hK.out _ _ ((y11 Ap.out 0).trans rfl) (fun hHeld=>?_)
         clear hK K
         refine qx 28 ?_
         refine qO 4 30 (fl_ 11 31) (fun K hK=>?_)
         refine goes_ Tryz.func54 (by kernel_rfl) rfl #[.pointer (some ⟨g,0,none⟩),.int .i64 8] (by rfl) rfl rfl qy0 ?_
         with_reducible refine(z5_.calls g Av Ay Az 8 Bq Cs Ct w0 _ (by repeat(first|(with_reducible first|exact HI0.out|apply y2.alloc|apply y2.drewN|apply y2.drew|apply y2.set_1|apply y2.set_2|refine y2.far ?_ Aq.out _|refine y2.far ?_ Al.out _|refine y2.far ?_ Br.out _)|exact HI0.out)) (by repeat(first|(with_reducible first|exact HB.out|apply y4|apply y23|apply y5|refine y6 ?_ (y2.ge HI0.out)|refine y6 ?_ Be.out|refine y6 ?_ Bf.out|refine y6 ?_ Du.out)|exact HB.out)) Lg.out).mono ?_
         rintro e Ot ⟨rfl,hi,hb,hk⟩
         refine⟨_,rfl, ?_⟩
         replace Aa:=y0.mk (Kd.N_mono (Kd.N_keep (Kd.N_mono (ok:=fun k_=>((((w.heap.size≤k_))∧(some k_≠(.slice Bk Ah.length Bl:Value).ownBlock∧(k_≠Ae∧(k_≠Ag∧(k_≠Aw∧k_≠g)))))∧some k_≠(.slice (some Db) Bm.length Fy:Value).ownBlock)) (qN Aa.out) (fun k_ hk_=>(⟨hk_,hk_.1.2.2.2.2.2⟩:_∧k_≠g))) hk (fun _ h=>h.2)) (fun _ h=>h.1))
         replace Ai:=y0.mk (Kd.R_mono (Kd.R_keep (y2.apart (show y2 w0 _ g Av Ay Az from(y2.qj (w0:=w0) (g:=g))) (qR Ai.out) (by decide)) hk (fun _ h=>h.2)) (fun _ h=>h.1))
         replace Ad:=y0.mk (y3.blk hk (g':=Ae) (o:=.cells #[.int .i64 0,.slice none 0 0] 32 (0,0)) (qk Ad.out) Au.out (by simp))
         replace Ac:=y0.mk (y3.blk hk (g':=Ag) (o:=.cells #[.int .i64 a1,Af] 32 (0,0)) (qk Ac.out) Am.out (by simp))
         replace Ap:=y0.mk (y3.blk hk (g':=Aw) (o:=.cells #[.slice Bk Ah.length Bl] 36 (0,0)) (qk Ap.out) Bs.out (by simp))
         replace Bg:=y0.mk (Kd.R_mono (Kd.R_keep (y2.apart (show y2 w0 _ g Av Ay Az from(y2.qj (w0:=w0) (g:=g))) (qR Bg.out) (by decide)) hk (fun _ h=>h.2)) (fun _ h=>h.1))
         replace HK:=y0.mk (y3.trans (qh (w:=w) (g:=g)) hk (.inl rfl))
         replace HB:=y0.mk (hb)
         replace HI0:=y0.mk (hi)
         (try clear hb hk hi)
         refine hK.out _ _ ((y11 Ap.out 0).trans rfl) (fun hHeld=>?_)
         clear hK K
         refine qx 30 ?_
         exact norm_ (by simp only [putAll,Act.put,qS_,qZ_,qC_]) (hCont (.slice (some Db) Bm.length Fy,Db) _ ⟨hHeld,(qR (Kd.R_mono Bg.out (fun _ hk=>⟨hk.1.1,hk.2⟩))),(qN (Kd.N_mono Aa.out (fun _ hk=>⟨hk.1.1,⟨hk.2,⟨hk.1.2.1,⟨hk.1.2.2.2.2.2,⟨hk.1.2.2.1,⟨hk.1.2.2.2.1,hk.1.2.2.2.2.1⟩⟩⟩⟩⟩⟩))),(qR Ai.out),⟨_,rfl⟩,(qk Ad.out),(qk Ac.out),(qk Ap.out),(y2.qj (w0:=w0) (g:=g)),(qh (w:=w) (g:=g)),y2.qbI⟩)
        ·skip
         refine goes_ Tryz.func54 (by kernel_rfl) rfl #[.pointer (some ⟨g,0,none⟩),.int .i64 8] (by rfl) rfl rfl qy0 ?_
         with_reducible refine(z5_.calls g Av Ay Az 8 Bq Cs Ct w0 _ (by repeat(first|(with_reducible first|exact HI0.out|apply y2.alloc|apply y2.drewN|apply y2.drew|apply y2.set_1|apply y2.set_2|refine y2.far ?_ Aq.out _|refine y2.far ?_ Al.out _|refine y2.far ?_ Br.out _)|exact HI0.out)) (by repeat(first|(with_reducible first|exact HB.out|apply y4|apply y23|apply y5|refine y6 ?_ (y2.ge HI0.out)|refine y6 ?_ Be.out|refine y6 ?_ Bf.out|refine y6 ?_ Du.out)|exact HB.out)) Lg.out).mono ?_
         rintro e Nk ⟨rfl,hi,hb,hk⟩
         refine⟨_,rfl, ?_⟩
         replace Aa:=y0.mk (Kd.N_mono (Kd.N_keep (Kd.N_mono (ok:=fun k_=>(((w.heap.size≤k_))∧(some k_≠(.slice Bk Ah.length Bl:Value).ownBlock∧(k_≠Ae∧(k_≠Ag∧(k_≠Aw∧k_≠g)))))) (qN Aa.out) (fun k_ hk_=>(⟨hk_,hk_.2.2.2.2.2⟩:_∧k_≠g))) hk (fun _ h=>h.2)) (fun _ h=>h.1))
         replace Ai:=y0.mk (Kd.R_mono (Kd.R_keep (y2.apart (show y2 w0 _ g Av Ay Az from(y2.qj (w0:=w0) (g:=g))) (qR Ai.out) (by decide)) hk (fun _ h=>h.2)) (fun _ h=>h.1))
         replace Ad:=y0.mk (y3.blk hk (g':=Ae) (o:=.cells #[.int .i64 0,.slice none 0 0] 32 (0,0)) (qk Ad.out) Au.out (by simp))
         replace Ac:=y0.mk (y3.blk hk (g':=Ag) (o:=.cells #[.int .i64 a1,Af] 32 (0,0)) (qk Ac.out) Am.out (by simp))
         replace Ap:=y0.mk (y3.blk hk (g':=Aw) (o:=.cells #[.slice Bk Ah.length Bl] 36 (0,0)) (qk Ap.out) Bs.out (by simp))
         replace HK:=y0.mk (y3.trans (qh (w:=w) (g:=g)) hk (.inl rfl))
         replace HB:=y0.mk (hb)
         replace HI0:=y0.mk (hi)
         (try clear hb hk hi)
         refine hK.out _ _ ((y11 Ap.out 0).trans rfl) (fun hHeld=>?_)
         clear hK K
         refine qx 30 ?_
         refine qO 2 28 (fl_ 11 31) (fun K hK=>?_)
         refine qLs Kd.string 9 28 ([(⟨#[49]⟩:ByteArray),(⟨#[50]⟩:ByteArray),(⟨#[34,97,34]⟩:ByteArray),(⟨#[78,105,108]⟩:ByteArray),(⟨#[83,40,49,41]⟩:ByteArray),(⟨#[49,48]⟩:ByteArray),(⟨#[67,111,110,115,40,49,44,78,105,108,41]⟩:ByteArray),(⟨#[45,49]⟩:ByteArray)]:List ByteArray) ?_
         intro Cu Ou Co hb hg_ hnew_
         clear hg_ hnew_
         (first|rw [← Bv.out]at Co|(simp only [Int.reduceToNat]at Co;rw [← Bv.out]at Co))
         replace Aa:=y0.mk (Kd.N_elder' (qN Aa.out) (Kd.R_base Co) hb)
         have Bg:=y0.mk (Kd.R_lower (Kd.R_new' (Kd.R_newM (M:=fun k_=>(w.heap.size≤k_)) Co (keep_size (w:=w) (g:=g) (row:=none) (qh (w:=w) (g:=g))) (fun k_ h_=>h_)) (Kd.R_lt (qR Ai.out))) (keep_size (w:=w) (g:=g) (row:=none) (qh (w:=w) (g:=g))))
         replace Ai:=y0.mk (Kd.R_elder' (qR Ai.out) (Kd.R_base Co) hb)
         replace Ad:=y0.mk (qK Ad.out hb)
         replace Ac:=y0.mk (qK Ac.out hb)
         replace Ap:=y0.mk (qK Ap.out hb)
         replace HI0:=y0.mk (y2.below (y2.qj (w0:=w0) (g:=g)) hb)
         replace HK:=y0.mk (y3.trans (qh (w:=w) (g:=g)) (y3.of_below hb g none) (.inl rfl))
         replace HB:=y0.mk (y8 y2.qbI hb)
         clear hb Co
         obtain⟨Nm,Jo,Jp⟩:=Kd.R_slice Bg.out
         subst Jp
         obtain⟨Dv,Jq,_⟩:=Kd.at_string (Kd.R_reads' Bg.out).2.2 0 (by decide) (by rw [Bv.out];simp)
         cases Jq
         refine hK.out _ _ ((y11 Ap.out 0).trans rfl) (fun hHeld=>?_)
         clear hK K
         refine qx 28 ?_
         exact norm_ (by simp only [putAll,Act.put,qS_,qZ_,qC_]) (hCont (.slice (some Dv) Bm.length Jo,Dv) _ ⟨hHeld,(qR (Kd.R_mono Bg.out (fun _ hk=>⟨hk.1.1,hk.2⟩))),(qN (Kd.N_mono Aa.out (fun _ hk=>⟨hk.1.1,⟨hk.2,⟨hk.1.2.1,⟨hk.1.2.2.2.2.2,⟨hk.1.2.2.1,⟨hk.1.2.2.2.1,hk.1.2.2.2.2.1⟩⟩⟩⟩⟩⟩))),(qR Ai.out),⟨_,rfl⟩,(qk Ad.out),(qk Ac.out),(qk Ap.out),(y2.qj (w0:=w0) (g:=g)),(qh (w:=w) (g:=g)),y2.qbI⟩)
       rintro⟨Cu,adz_v525⟩ Dh ⟨hS_,h0_,h1_,h2_,h3_,h4_,h5_,h6_,h7_,h8_,h9_⟩
       have n0_:y0 (Kd.R Kd.string 9 Dh w.heap.size (fun k_=>(w.heap.size≤k_)∧some k_≠(.slice Bk Ah.length Bl:Value).ownBlock) Cu Bm):=⟨h0_⟩
       have n1_:y0 (Kd.N k36 36 Dh w.heap.size (fun k_=>(w.heap.size≤k_)∧some k_≠(Cu:Value).ownBlock∧some k_≠(.slice Bk Ah.length Bl:Value).ownBlock∧k_≠g∧k_≠Ae∧k_≠Ag∧k_≠Aw) Af Aj):=⟨h1_⟩
       have n2_:y0 (Kd.R Kd.string 9 Dh w.heap.size (fun k_=>(w.heap.size≤k_)∧some k_≠(Cu:Value).ownBlock) (.slice Bk Ah.length Bl) Ah):=⟨h2_⟩
       have n3_:y0 (∃ c_,(Cu:Value)=.slice (some adz_v525) Bm.length c_):=⟨h3_⟩
       have n4_:y0 (Dh.heap[Ae]?=some (.cells #[.int .i64 0,.slice none 0 0] 32 (0,0))):=⟨h4_⟩
       have n5_:y0 (Dh.heap[Ag]?=some (.cells #[.int .i64 a1,Af] 32 (0,0))):=⟨h5_⟩
       have n6_:y0 (Dh.heap[Aw]?=some (.cells #[.slice Bk Ah.length Bl] 36 (0,0))):=⟨h6_⟩
       have n7_:y0 (y2 w0 Dh g Av Cs Ct):=⟨h7_⟩
       have n8_:y0 (y3 w Dh g none):=⟨h8_⟩
       have n9_:y0 (Below w0.heap.size w0 Dh):=⟨h9_⟩
       clear Aa
       clear Ai
       clear Ad
       clear Ac
       clear Ap
       clear HI0
       clear HK
       clear HB
       clear h0_ h1_ h2_ h3_ h4_ h5_ h6_ h7_ h8_ h9_
       have Bg:=n0_
       have Aa:=n1_
       have Ai:=n2_
       have HA_HO526:=n3_
       have Ad:=n4_
       have Ac:=n5_
       have Ap:=n6_
       have HI0:=n7_
       have HK:=n8_
       have HB:=n9_
       clear n0_ n1_ n2_ n3_ n4_ n5_ n6_ n7_ n8_ n9_
       have hHeld:Dh.cell? ⟨Aw,0,none⟩=some (.slice Bk Ah.length Bl):=hS_
       obtain⟨Fz,Jr⟩:=HA_HO526.out
       clear HA_HO526
       subst Jr
       refine norm_ (a':=?_) ?_ ?_
       rotate_left
       ·simp only [putAll,Act.put,qS_,qZ_,qC_]
        rfl
       refine qp 5 31 (fl_ 11 63) ?_
       refine qO 6 32 (fl_ 11 127) (fun K hK=>?_)
       (have Js:0≤(Bq:Int):=of_decide_eq_true qy1;have Jt:Bq < (Bm.length:Int):=of_decide_eq_true qy1;obtain⟨Ga,Ju,Dk⟩:=Kd.at_string (Kd.R_reads' Bg.out).2.2 Bq Js Jt;obtain rfl:adz_v525=Ga:=(by injection Ju))
       refine value_ (w1:=?_) (v:=?_) (by rfl) rfl ?_ ?_
       rotate_left 2
       ·go_simp
        constructor
        ·rfl
        ·rfl
       clear Dk
       refine hK.out _ _ ((y11 Ap.out 0).trans rfl) (fun hHeld=>?_)
       clear hK K
       refine qx 32 ?_
       refine qO 7 33 (fl_ 11 255) (fun K hK=>?_)
       refine value_ (w1:=?_) (v:=?_) (by rfl) rfl ?_ ?_
       rotate_left 2
       ·go_simp
        constructor
        ·rfl
        ·rfl
       refine hK.out _ _ ((y11 (y9 Ap.out _) 0).trans rfl) (fun hHeld=>?_)
       clear hK K
       refine qx 33 ?_
       refine qO 8 34 (fl_ 11 511) (fun K hK=>?_)
       refine Kd.R_append_step Kd.string w.heap.size (by rfl) (.tmp 27) (.tmp 33) 25 9 (.string ⟨#[]⟩) 16 rfl Tryz.underlying25 info9 rfl (by decide) (by omega) (.slice Bk Ah.length Bl) Ah (rdOf ByteArray.empty Bm Bq) [.string (rdOf ByteArray.empty Bm Bq)] (fun k_=>(w.heap.size≤k_)∧some k_≠(.slice (some adz_v525) Bm.length Fz:Value).ownBlock) (fun _=>False) rfl rfl ?aP (fun _ hk=>hk.elim) ?aF ?aO (Below.refl _ _) ?aS ?aL ?_
       (case aP=>exact rfl)
       (case aF=>exact(fun k_ hk=>⟨(Nat.le_trans (keep_size (w:=w) (g:=g) (row:=none) (qh (w:=w) (g:=g))) hk),Kd.fresh' (Kd.R_lt (qR Bg.out)) k_ hk⟩))
       (case aO=>exact(qR Ai.out))
       (case aS=>exact(keep_size (w:=w) (g:=g) (row:=none) (qh (w:=w) (g:=g))))
       (case aL=>have:=Fw.out;omega)
       intro Nn Np ho hb hg hat
       rw [← Fx.out]at ho
       replace Aa:=y0.mk (Kd.N_afterv (ok:=(fun k_=>(w.heap.size≤k_)∧some k_≠(.slice (some adz_v525) Bm.length Fz:Value).ownBlock∧k_≠g∧k_≠Ae∧k_≠Ag∧k_≠Aw)) (qN (Kd.N_mono Aa.out (fun _ hk=>⟨⟨hk.1,⟨hk.2.1,⟨hk.2.2.2.1,⟨hk.2.2.2.2.1,⟨hk.2.2.2.2.2.1,hk.2.2.2.2.2.2⟩⟩⟩⟩⟩,hk.2.2.1⟩))) hg hat)
       replace Ad:=y0.mk (blk_grown (qk Ad.out) hg (Kd.R_ne Ai.out Ad.out (by decide)))
       replace Ac:=y0.mk (blk_grown (qk Ac.out) hg (Kd.R_ne Ai.out Ac.out (by decide)))
       replace Ap:=y0.mk (blk_grown (qk Ap.out) hg (Kd.R_ne Ai.out Ap.out (by decide)))
       replace HI0:=y0.mk (y2.grown (y2.qj (w0:=w0) (g:=g)) hg (y2.own_ne HI0.out Ai.out (by decide)))
       replace Bg:=y0.mk (Kd.R_after (ok:=(fun k_=>(w.heap.size≤k_))) (qR Bg.out) hg hat)
       replace HB:=y0.mk (below_weaken y2.qbI HL.out hb)
       replace HK:=y0.mk (y3.trans (qh (w:=w) (g:=g)) (y3.of_grown hg g) (Kd.R_base2 Ai.out))
       have Dw:=y0.mk (ho)
       clear Ai
       clear ho hb hg hat
       obtain⟨Fb,Fc,Gb⟩:=Kd.R_slice Dw.out
       (first|subst Gb|(injection Gb with f1_ f2_ f3_;have f4_:=f1_.symm;have f5_:=f3_.symm;clear f1_ f2_ f3_;subst f4_;subst f5_))
       refine hK.out _ _ ((y11 Ap.out 0).trans rfl) (fun hHeld=>?_)
       clear hK K
       refine qx 34 ?_
       refine qp 9 35 (fl_ 11 1023) ?_
       refine last_ (i:=10) (N:=none) (fl_ 11 2047) rfl rfl (one_of HT_.out (by kernel_rfl)) (by decide) (fun K hK=>?_)
       have Nq:Np.cell? ⟨Aw,0,none⟩=some (.slice Bk Ah.length Bl):=(y11 Ap.out 0).trans rfl
       have Lo:=y15 Ap.out 0
       have Hq:=Bh.out
       have Hr:=Bi.out
       have Hs:=Bo.out
       have Ht:=Bp.out
       refine skip_ (w1:=?_) (by rfl) rfl ?_ ?_
       rotate_left
       ·go_simp
        rfl
       refine hK.out _ _ ?_
       clear hK K
       refine done_ (done_of HT_.out (by kernel_rfl)) ?_
       try go_wp2
       go_roundg k2
       case measure=>have:=Fq.out;have:=Fa.out;omega
       exact⟨(wrap64 (Cm + 1)),(Cs),(Ct),(Da),(.slice Fb Da.length Fc),qy2,H',⟨by have:=Fq.out;have:=Fa.out;omega⟩,⟨qN (Kd.N_mono (Kd.N_far (p:=⟨Aw,0,none⟩) (Kd.N_mono Aa.out (fun k_ hk=>(⟨hk,hk.1.2.2.2.2.2⟩:_∧k_≠Aw))) (fun _ hk=>hk.2) (.slice Fb Da.length Fc)) (fun _ hk=>⟨hk.1.1.1,⟨hk.1.2,⟨hk.1.1.2.2.2.1,⟨hk.1.1.2.2.2.2.1,⟨hk.1.1.2.2.2.2.2,hk.1.1.2.2.1⟩⟩⟩⟩⟩))⟩,⟨qR (Kd.R_mono (Kd.R_far (p:=⟨Aw,0,none⟩) (Kd.R_types Dw.out Ap.out (by decide)) (fun _ hk=>hk.2) (.slice Fb Da.length Fc)) (fun _ hk=>hk.1.1))⟩,⟨by(with_reducible repeat(first|refine y13 ?_ _|refine y12 ?_|refine y9 ?_ _));refine y14 ?_ Bh.out _;(with_reducible repeat(first|refine y13 ?_ _|refine y12 ?_|refine y9 ?_ _));exact Ad.out⟩,⟨by(with_reducible repeat(first|refine y13 ?_ _|refine y12 ?_|refine y9 ?_ _));refine y14 ?_ Bi.out _;(with_reducible repeat(first|refine y13 ?_ _|refine y12 ?_|refine y9 ?_ _));exact Ac.out⟩,⟨by(with_reducible repeat(first|refine y13 ?_ _|refine y12 ?_|refine y9 ?_ _));refine y16 (cs:=#[.slice Bk Ah.length Bl]) ?_ 0 _ rfl;(with_reducible repeat(first|refine y13 ?_ _|refine y12 ?_|refine y9 ?_ _));exact Ap.out⟩,⟨(y2.qj (w0:=w0) (g:=g))⟩,⟨(qh (w:=w) (g:=g))⟩,⟨y2.qbI⟩⟩
      ·rw [if_neg Fs]at H
       have Fv:=decide_eq_false Fs
       clear Fs
       obtain⟨⟨Dc,Jv⟩,Nr,H⟩:=qB H
       replace H:(z6_.l0 k2 a1 (wrap64 (Bu - 1)) Av Ay Az a1 Dc)=some (r1,r2,r3,r4):=H
       have H':=y0.mk H
       clear H
       have Lp:=Ba.out
       have Lq:=Ak.out
       have Lr:=Bi.out
       have Ls:=Bp.out
       have Lt:=Am.out
       have Lu:=Al.out
       obtain⟨Hu,Hv,Hw,Hx⟩:=qz2 Ac.out
       have Lv:=Bo.out
       have Lw:=Bh.out
       have Lx:=Bs.out
       have Ly:=Br.out
       obtain⟨Hy,Hz⟩:=qz1 Ap.out
       obtain⟨Fd,Fe,Jw⟩:=Kd.N_slice Aa.out
       subst Jw
       obtain⟨Dl,Dm,Jx⟩:=Kd.R_slice Ai.out
       subst Jx
       go_wp2_with (first|((with_reducible refine y19 (f:=37) rfl ?_);refine y22 (some 40) rfl rfl Tryz.func37 (by kernel_rfl) rfl #[.slice Fd Aj.length Fe,.agg #[.slice Dl Ah.length Dm]] rfl qy0 ?_;(with_reducible refine(spec_l02Put.calls (b:=w.heap.size) k2 (fun k_=>((w.heap.size≤k_)∧(some k_≠(.slice Dl Ah.length Dm:Value).ownBlock∧(k_≠Ae∧(k_≠Ag∧(k_≠Aw∧k_≠g)))))) _ _ Aj _ _ Ah Dc Jv _ ?side1 ?sideb ?side2 ?side3 Nr.out).mono ?_);(case side1=>exact Aa.out);(case sideb=>exact(keep_size (w:=w) (g:=g) (row:=none) (qh (w:=w) (g:=g))));(case side2=>repeat(first|exact(Kd.R_reads' Ai.out).2.2|(with_reducible refine Kd.C_alloc ?_ _)|(with_reducible refine Kd.C_drewN ?_ _)|(with_reducible refine Kd.C_drew ?_)));(case side3=>exact(Kd.R_reads' Ai.out).2.1);rintro e Ov ⟨Ns,rfl,Ft,hb⟩;refine⟨_,rfl, ?_⟩;replace Aa:=y0.mk (Kd.N_below (qN Aa.out) hb);have Dx:=y0.mk (Kd.N_lower (Kd.N_mono (ok':=fun k_=>(w.heap.size≤k_)∧some k_≠(.slice Dl Ah.length Dm:Value).ownBlock∧k_≠Ae∧k_≠Ag∧k_≠Aw∧k_≠g) Ft (fun k_ hk_=>⟨Or.elim hk_ (fun hs_=>hs_.1) (fun hn_=>(Nat.le_trans (keep_size (w:=w) (g:=g) (row:=none) (qh (w:=w) (g:=g))) hn_)),Or.elim hk_ (fun hs_=>hs_.2.1) (fun hn_=>(Kd.fresh' (Kd.R_lt (qR Ai.out)) k_ hn_)),Or.elim hk_ (fun hs_=>hs_.2.2.1) (fun hn_=>(Kd.freshB (g:=Ae) (o:=.cells #[.int .i64 0,.slice none 0 0] 32 (0,0)) (qk Ad.out) k_ hn_)),Or.elim hk_ (fun hs_=>hs_.2.2.2.1) (fun hn_=>(Kd.freshB (g:=Ag) (o:=.cells #[.int .i64 a1,.slice Fd Aj.length Fe] 32 (0,0)) (qk Ac.out) k_ hn_)),Or.elim hk_ (fun hs_=>hs_.2.2.2.2.1) (fun hn_=>(Kd.freshB (g:=Aw) (o:=.cells #[.slice Dl Ah.length Dm] 36 (0,0)) (qk Ap.out) k_ hn_)),Or.elim hk_ (fun hs_=>hs_.2.2.2.2.2) (fun hn_=>(y2.fresh (y2.qj (w0:=w0) (g:=g)) k_ hn_))⟩)) (Nat.le_refl _));replace Ai:=y0.mk (Kd.R_below (qR Ai.out) hb);replace Ad:=y0.mk (qK Ad.out hb);replace Ac:=y0.mk (qK Ac.out hb);replace Ap:=y0.mk (qK Ap.out hb);replace HI0:=y0.mk (y2.below (y2.qj (w0:=w0) (g:=g)) hb);replace HK:=y0.mk (y3.trans (qh (w:=w) (g:=g)) (y3.of_below hb g none) (.inl rfl));replace HB:=y0.mk (y8 y2.qbI hb);(try clear hb);(try clear Ft);obtain⟨Gc,Gd,Jy⟩:=Kd.N_slice Dx.out;subst Jy;obtain⟨Ia,Ib,Ic,Id⟩:=qz2 Ac.out))
       go_roundg k2
       case measure=>have:=Fq.out;have:=Fa.out;omega
       exact⟨(wrap64 (Bu - 1)),(Ay),(Az),(Dc),(.slice Gc Dc.length Gd),qy2,H',⟨by have:=Fq.out;have:=Fa.out;omega⟩,⟨qN (Kd.N_mono (Kd.N_far (p:=⟨Ag,1,none⟩) (Kd.N_mono Dx.out (fun k_ hk=>(⟨hk,hk.2.2.2.1⟩:_∧k_≠Ag))) (fun _ hk=>hk.2) (.slice Gc Dc.length Gd)) (fun _ hk=>⟨hk.1.1,⟨hk.1.2.2.1,⟨hk.1.2.2.2.1,hk.1.2.2.2.2.2⟩⟩⟩))⟩,⟨by(with_reducible repeat(first|refine y13 ?_ _|refine y12 ?_|refine y9 ?_ _));refine y14 ?_ Ak.out _;(with_reducible repeat(first|refine y13 ?_ _|refine y12 ?_|refine y9 ?_ _));exact Ad.out⟩,⟨by(with_reducible repeat(first|refine y13 ?_ _|refine y12 ?_|refine y9 ?_ _));refine y16 (cs:=#[.int .i64 a1,.slice Fd Aj.length Fe]) ?_ 1 _ rfl;(with_reducible repeat(first|refine y13 ?_ _|refine y12 ?_|refine y9 ?_ _));exact Ac.out⟩,⟨(y2.qj (w0:=w0) (g:=g))⟩,⟨(qh (w:=w) (g:=g))⟩,⟨y2.qbI⟩⟩
   ·rw [if_neg Fr]at H
    have Cz:decide (0 < Bu)=false:=decide_eq_false Fr
    clear Fr
    obtain⟨⟨Jz,Bx,Bz⟩,Ge,H⟩:=qB H
    dsimp only at H
    by_cases Gf:Jz=true
    ·subst Gf
     replace H:=qT H
     obtain⟨⟨Bj,Ca,Cb⟩,Ie,H⟩:=qB H
     dsimp only at H
     by_cases Ff:Bj=0
     ·rw [if_pos Ff]at H
      have Dy:(Bj == 0)=true:=beq_iff_eq.mpr Ff
      have Dz:(Bj != 0)=false:=bne_eq_false_iff_eq.mpr Ff
      clear Ff
      obtain⟨⟨Cv,Gg,Gh⟩,Nt,H⟩:=qB H
      replace H:(some (Cv,Aj,Gg,Gh))=some (r1,r2,r3,r4):=H
      simp only [Option.some.injEq,Prod.mk.injEq]at H
      obtain⟨rfl,rfl,rfl,rfl⟩:=H
      go_wp2_with (first|((with_reducible refine y19 (f:=67) rfl ?_);refine y22 (some 46) rfl rfl Tryz.func67 (by kernel_rfl) rfl #[.pointer (some ⟨g,0,none⟩),.int .i64 16] rfl qy0 ?_;(with_reducible refine(spec_l01Cur_once.calls g Av Bc Bd 16 true Bx Bz w0 _ (by repeat(first|(with_reducible first|exact HI0.out|apply y2.alloc|apply y2.drewN|apply y2.drew|apply y2.set_1|apply y2.set_2|refine y2.far ?_ Aq.out _|refine y2.far ?_ Al.out _)|exact HI0.out)) (by repeat(first|(with_reducible first|exact HB.out|apply y4|apply y23|apply y5|refine y6 ?_ (y2.ge HI0.out)|refine y6 ?_ Be.out|refine y6 ?_ Bf.out)|exact HB.out)) Ge.out).mono ?_);rintro e Ow ⟨rfl,hi,hb,hk⟩;refine⟨_,rfl, ?_⟩;replace Aa:=y0.mk (Kd.N_mono (Kd.N_keep (Kd.N_mono (ok:=fun k_=>(((w.heap.size≤k_))∧(k_≠Ae∧(k_≠Ag∧k_≠g)))) (qN Aa.out) (fun k_ hk_=>(⟨hk_,hk_.2.2.2⟩:_∧k_≠g))) hk (fun _ h=>h.2)) (fun _ h=>h.1));replace Ad:=y0.mk (y3.blk hk (g':=Ae) (o:=.cells #[.int .i64 0,.slice none 0 0] 32 (0,0)) (qk Ad.out) Au.out (by simp));replace Ac:=y0.mk (y3.blk hk (g':=Ag) (o:=.cells #[.int .i64 a1,Af] 32 (0,0)) (qk Ac.out) Am.out (by simp));replace HK:=y0.mk (y3.trans (qh (w:=w) (g:=g)) hk (.inl rfl));replace HB:=y0.mk (hb);replace HI0:=y0.mk (hi);(try clear hb hk hi))|((with_reducible refine y19 (f:=54) rfl ?_);refine y22 (some 48) rfl rfl Tryz.func54 (by kernel_rfl) rfl #[.pointer (some ⟨g,0,none⟩),.int .i64 4] rfl qy0 ?_;(with_reducible refine(z5_.calls g Av Bx Bz 4 Bj Ca Cb w0 _ (by repeat(first|(with_reducible first|exact HI0.out|apply y2.alloc|apply y2.drewN|apply y2.drew|apply y2.set_1|apply y2.set_2|refine y2.far ?_ Aq.out _|refine y2.far ?_ Al.out _)|exact HI0.out)) (by repeat(first|(with_reducible first|exact HB.out|apply y4|apply y23|apply y5|refine y6 ?_ (y2.ge HI0.out)|refine y6 ?_ Be.out|refine y6 ?_ Bf.out)|exact HB.out)) Ie.out).mono ?_);rintro e Ox ⟨rfl,hi,hb,hk⟩;refine⟨_,rfl, ?_⟩;replace Aa:=y0.mk (Kd.N_mono (Kd.N_keep (Kd.N_mono (ok:=fun k_=>(((w.heap.size≤k_))∧(k_≠Ae∧(k_≠Ag∧k_≠g)))) (qN Aa.out) (fun k_ hk_=>(⟨hk_,hk_.2.2.2⟩:_∧k_≠g))) hk (fun _ h=>h.2)) (fun _ h=>h.1));replace Ad:=y0.mk (y3.blk hk (g':=Ae) (o:=.cells #[.int .i64 0,.slice none 0 0] 32 (0,0)) (qk Ad.out) Au.out (by simp));replace Ac:=y0.mk (y3.blk hk (g':=Ag) (o:=.cells #[.int .i64 a1,Af] 32 (0,0)) (qk Ac.out) Am.out (by simp));replace HK:=y0.mk (y3.trans (qh (w:=w) (g:=g)) hk (.inl rfl));replace HB:=y0.mk (hb);replace HI0:=y0.mk (hi);(try clear hb hk hi))|((with_reducible refine y19 (f:=80) rfl ?_);refine y22 (some 69) rfl rfl Tryz.func80 (by kernel_rfl) rfl #[.pointer (some ⟨g,0,none⟩)] rfl qy0 ?_;(with_reducible refine(spec_l01Cur_raw.calls g Av Ca Cb Cv Gg Gh w0 _ (by repeat(first|(with_reducible first|exact HI0.out|apply y2.alloc|apply y2.drewN|apply y2.drew|apply y2.set_1|apply y2.set_2|refine y2.far ?_ Aq.out _|refine y2.far ?_ Al.out _)|exact HI0.out)) (by repeat(first|(with_reducible first|exact HB.out|apply y4|apply y23|apply y5|refine y6 ?_ (y2.ge HI0.out)|refine y6 ?_ Be.out|refine y6 ?_ Bf.out)|exact HB.out)) Nt.out).mono ?_);rintro e Oy ⟨rfl,hi,hb,hk⟩;refine⟨_,rfl, ?_⟩;replace Aa:=y0.mk (Kd.N_mono (Kd.N_keep (Kd.N_mono (ok:=fun k_=>(((w.heap.size≤k_))∧(k_≠Ae∧(k_≠Ag∧k_≠g)))) (qN Aa.out) (fun k_ hk_=>(⟨hk_,hk_.2.2.2⟩:_∧k_≠g))) hk (fun _ h=>h.2)) (fun _ h=>h.1));replace Ad:=y0.mk (y3.blk hk (g':=Ae) (o:=.cells #[.int .i64 0,.slice none 0 0] 32 (0,0)) (qk Ad.out) Au.out (by simp));replace Ac:=y0.mk (y3.blk hk (g':=Ag) (o:=.cells #[.int .i64 a1,Af] 32 (0,0)) (qk Ac.out) Am.out (by simp));replace HK:=y0.mk (y3.trans (qh (w:=w) (g:=g)) hk (.inl rfl));replace HB:=y0.mk (hb);replace HI0:=y0.mk (hi);(try clear hb hk hi);have Lz:=Ba.out;have Ma:=Ak.out;have Mb:=Am.out;have Mc:=Al.out;obtain⟨Ig,Ih,Ii,Ij⟩:=qz2 Ac.out;have Md:=Au.out;have Me:=Aq.out;obtain⟨Ik,Il,Im,In⟩:=qz2 Ad.out;obtain⟨Gi,Gj,Ka⟩:=Kd.N_slice Aa.out;subst Ka))
      refine bodyPost_ret (results_cell_row rfl _ _ Ae 32 #[.int .i64 Cv,.slice Gi Aj.length Gj] (0,0) _ rfl (by(with_reducible repeat(first|refine y13 ?_ _|refine y12 ?_|refine y9 ?_ _));refine y16 (cs:=#[.int .i64 Cv,.slice none 0 0]) ?_ 1 _ rfl;(with_reducible repeat(first|refine y13 ?_ _|refine y12 ?_|refine y9 ?_ _));refine y16 (cs:=#[.int .i64 0,.slice none 0 0]) ?_ 0 _ rfl;(with_reducible repeat(first|refine y13 ?_ _|refine y12 ?_|refine y9 ?_ _));refine y14 ?_ Ak.out _;(with_reducible repeat(first|refine y13 ?_ _|refine y12 ?_|refine y9 ?_ _));exact Ad.out) Tryz.underlying32 rfl (by kernel_rfl)) rfl ?_
      exact⟨_,by first|rfl|(simp [y17,y18] <;> rfl)|(simp [*,y17,y18] <;> rfl),by(with_reducible repeat(first|apply Kd.N_alloc|apply Kd.N_drewN|apply Kd.N_drew));exact Kd.N_mono (Kd.N_far (p:=⟨Ae,1,none⟩) (Kd.N_far (p:=⟨Ae,0,none⟩) (Kd.N_far (p:=⟨Ag,0,none⟩) (Kd.N_mono (Kd.N_mono Aa.out (fun k_ hk=>(⟨hk,hk.2.2.1⟩:_∧k_≠Ag))) (fun k_ hk=>(⟨hk,hk.1.2.1⟩:_∧k_≠Ae))) (fun _ hk=>hk.1.2) (.int .i64 Cv)) (fun _ hk=>hk.2) (.int .i64 Cv)) (fun _ hk=>hk.2) (.slice Gi Aj.length Gj)) (fun _ hk=>hk.1.1.1),(y2.qj (w0:=w0) (g:=g)),y2.qbI,(qh (w:=w) (g:=g))⟩
     ·rw [if_neg Ff]at H
      have Dy:(Bj == 0)=false:=beq_eq_false_iff_ne.mpr Ff
      have Dz:(Bj != 0)=true:=bne_iff_ne.mpr Ff
      by_cases Fg:Bj=1
      ·rw [if_pos Fg]at H
       have Ea:(Bj == 1)=true:=beq_iff_eq.mpr Fg
       have Eb:(Bj != 1)=false:=bne_eq_false_iff_eq.mpr Fg
       clear Fg
       obtain⟨⟨Cw,Fh,Fi⟩,Nu,H⟩:=qB H
       replace H:(if Aj.length < 5864062014805 then(some (a1,(Aj ++ [(⟨Cw⟩:S36)]),Fh,Fi))else(none))=some (r1,r2,r3,r4):=H
       obtain⟨Mf,H⟩:=qo H
       have Gk:=y0.mk Mf
       clear Mf
       obtain⟨Dn,Ch⟩:∃ y_:List (S36),y_=(Aj ++ [(⟨Cw⟩:S36)]):=⟨_,rfl⟩
       replace H:(some (a1,Dn,Fh,Fi))=some (r1,r2,r3,r4):=by first|(rw [Ch];with_reducible exact H)|(have H2_:=(Option.bind_some _ _).symm.trans H;rw [Ch];with_reducible exact H2_)|(have H2_:=(Option.bind_some _ _).symm.trans H;with_reducible exact H2_)|with_reducible exact H|(rw [Ch];exact H)|exact H
       have Gl:=y0.mk Ch
       clear Ch
       simp only [Option.some.injEq,Prod.mk.injEq]at H
       obtain⟨rfl,rfl,rfl,rfl⟩:=H
       try go_wp2_with (first|((with_reducible refine y19 (f:=67) rfl ?_);refine y22 (some 46) rfl rfl Tryz.func67 (by kernel_rfl) rfl #[.pointer (some ⟨g,0,none⟩),.int .i64 16] rfl qy0 ?_;(with_reducible refine(spec_l01Cur_once.calls g Av Bc Bd 16 true Bx Bz w0 _ (by repeat(first|(with_reducible first|exact HI0.out|apply y2.alloc|apply y2.drewN|apply y2.drew|apply y2.set_1|apply y2.set_2|refine y2.far ?_ Aq.out _|refine y2.far ?_ Al.out _)|exact HI0.out)) (by repeat(first|(with_reducible first|exact HB.out|apply y4|apply y23|apply y5|refine y6 ?_ (y2.ge HI0.out)|refine y6 ?_ Be.out|refine y6 ?_ Bf.out)|exact HB.out)) Ge.out).mono ?_);rintro e Oz ⟨rfl,hi,hb,hk⟩;refine⟨_,rfl, ?_⟩;replace Aa:=y0.mk (Kd.N_mono (Kd.N_keep (Kd.N_mono (ok:=fun k_=>(((w.heap.size≤k_))∧(k_≠Ae∧(k_≠Ag∧k_≠g)))) (qN Aa.out) (fun k_ hk_=>(⟨hk_,hk_.2.2.2⟩:_∧k_≠g))) hk (fun _ h=>h.2)) (fun _ h=>h.1));replace Ad:=y0.mk (y3.blk hk (g':=Ae) (o:=.cells #[.int .i64 0,.slice none 0 0] 32 (0,0)) (qk Ad.out) Au.out (by simp));replace Ac:=y0.mk (y3.blk hk (g':=Ag) (o:=.cells #[.int .i64 a1,Af] 32 (0,0)) (qk Ac.out) Am.out (by simp));replace HK:=y0.mk (y3.trans (qh (w:=w) (g:=g)) hk (.inl rfl));replace HB:=y0.mk (hb);replace HI0:=y0.mk (hi);(try clear hb hk hi))|((with_reducible refine y19 (f:=54) rfl ?_);refine y22 (some 48) rfl rfl Tryz.func54 (by kernel_rfl) rfl #[.pointer (some ⟨g,0,none⟩),.int .i64 4] rfl qy0 ?_;(with_reducible refine(z5_.calls g Av Bx Bz 4 Bj Ca Cb w0 _ (by repeat(first|(with_reducible first|exact HI0.out|apply y2.alloc|apply y2.drewN|apply y2.drew|apply y2.set_1|apply y2.set_2|refine y2.far ?_ Aq.out _|refine y2.far ?_ Al.out _)|exact HI0.out)) (by repeat(first|(with_reducible first|exact HB.out|apply y4|apply y23|apply y5|refine y6 ?_ (y2.ge HI0.out)|refine y6 ?_ Be.out|refine y6 ?_ Bf.out)|exact HB.out)) Ie.out).mono ?_);rintro e Nv ⟨rfl,hi,hb,hk⟩;refine⟨_,rfl, ?_⟩;replace Aa:=y0.mk (Kd.N_mono (Kd.N_keep (Kd.N_mono (ok:=fun k_=>(((w.heap.size≤k_))∧(k_≠Ae∧(k_≠Ag∧k_≠g)))) (qN Aa.out) (fun k_ hk_=>(⟨hk_,hk_.2.2.2⟩:_∧k_≠g))) hk (fun _ h=>h.2)) (fun _ h=>h.1));replace Ad:=y0.mk (y3.blk hk (g':=Ae) (o:=.cells #[.int .i64 0,.slice none 0 0] 32 (0,0)) (qk Ad.out) Au.out (by simp));replace Ac:=y0.mk (y3.blk hk (g':=Ag) (o:=.cells #[.int .i64 a1,Af] 32 (0,0)) (qk Ac.out) Am.out (by simp));replace HK:=y0.mk (y3.trans (qh (w:=w) (g:=g)) hk (.inl rfl));replace HB:=y0.mk (hb);replace HI0:=y0.mk (hi);(try clear hb hk hi)))
       replace Aa:=y0.mk (Kd.N_drew Aa.out)
       replace Ad:=y0.mk (y12 Ad.out)
       replace Ac:=y0.mk (y12 Ac.out)
       replace HI0:=y0.mk (y2.drew HI0.out)
       replace HK:=y0.mk (keep_drew HK.out)
       replace HB:=y0.mk (y5 HB.out)
       refine start_ (n:=9) (S:=fun w'=>w'.cell? ⟨Ag,0,none⟩=some (.int .i64 a1)∧w'.cell? ⟨Ag,1,none⟩=some (Af)) (ds:=[8]) (fl_ 9 0) (by kernel_rfl) rfl rfl ⟨(y11 Ac.out 0).trans rfl,(y11 Ac.out 1).trans rfl⟩ (fun hHeld=>?_);refine with_tabW z6_.tab22 z6_.bits22 (fun HT_ HW_=>?_)
       generalize Nv.drew=Pa at Aa Ad Ac HI0 HK HB hHeld ⊢
       refine qp 0 73 (fl_ 9 1) ?_
       refine qp 2 75 (fl_ 9 5) ?_
       refine qp 3 76 (fl_ 9 13) ?_
       refine qt 1 74 (fl_ 9 15) hHeld ?_
       refine qO 4 77 (fl_ 9 31) (fun K hK=>?_)
       refine goes_ Tryz.func59 (by kernel_rfl) rfl #[.pointer (some ⟨g,0,none⟩),.int .i64 a1] (by rfl) rfl rfl qy0 ?_
       with_reducible refine(z8_.calls k1 g Av Ca Cb a1 Cw Fh Fi w0 _ (by repeat(first|(with_reducible first|exact HI0.out|apply y2.alloc|apply y2.drewN|apply y2.drew|apply y2.set_1|apply y2.set_2|refine y2.far ?_ Aq.out _|refine y2.far ?_ Al.out _)|exact HI0.out)) (by repeat(first|(with_reducible first|exact HB.out|apply y4|apply y23|apply y5|refine y6 ?_ (y2.ge HI0.out)|refine y6 ?_ Be.out|refine y6 ?_ Bf.out)|exact HB.out)) Nu.out).mono ?_
       rintro e Pb ⟨Nw,rfl,Ft,hi,hb,hk⟩
       refine⟨_,rfl, ?_⟩
       replace Aa:=y0.mk (Kd.N_mono (Kd.N_told (Kd.N_oldK (Kd.N_mono (ok:=fun k_=>(((w.heap.size≤k_))∧(k_≠Ae∧(k_≠Ag∧k_≠g)))) (qN Aa.out) (fun k_ hk_=>(⟨hk_,hk_.2.2.2⟩:_∧k_≠g))) hk) (Kd.R_base Ft)) (fun _ h_=>h_.1))
       replace Ad:=y0.mk (y3.blk hk (g':=Ae) (o:=.cells #[.int .i64 0,.slice none 0 0] 32 (0,0)) (qk Ad.out) Au.out (by simp))
       replace Ac:=y0.mk (y3.blk hk (g':=Ag) (o:=.cells #[.int .i64 a1,Af] 32 (0,0)) (qk Ac.out) Am.out (by simp))
       have Cp:=y0.mk (Kd.R_lower (Kd.R_newM (M:=fun k_=>(w.heap.size≤k_)) Ft (keep_size (w:=w) (g:=g) (row:=none) (qh (w:=w) (g:=g))) (fun k_ h_=>h_)) (keep_size (w:=w) (g:=g) (row:=none) (qh (w:=w) (g:=g))))
       replace HK:=y0.mk (y3.trans (qh (w:=w) (g:=g)) hk (.inl rfl))
       replace HB:=y0.mk (hb)
       replace HI0:=y0.mk (hi)
       (try clear hb hk hi)
       (try clear Ft)
       obtain⟨Kb,Ke,Gm⟩:=Kd.R_slice Cp.out
       (first|subst Gm|(injection Gm with f1_ f2_ f3_;have f4_:=f1_.symm;have f5_:=f3_.symm;clear f1_ f2_ f3_;subst f4_;subst f5_))
       refine hK.out _ _ ⟨(y11 Ac.out 0).trans rfl,(y11 Ac.out 1).trans rfl⟩ (fun hHeld=>?_)
       clear hK K
       refine qx 77 ?_
       refine qO 5 78 (fl_ 9 63) (fun K hK=>?_)
       refine value_ (w1:=?_) (v:=?_) (by rfl) rfl ?_ ?_
       rotate_left 2
       ·go_simp
        constructor
        ·rfl
        ·rfl
       refine hK.out _ _ ⟨(y11 (y9 Ac.out _) 0).trans rfl,(y11 (y9 Ac.out _) 1).trans rfl⟩ (fun hHeld=>?_)
       clear hK K
       refine qx 78 ?_
       refine qO 6 79 (fl_ 9 127) (fun K hK=>?_)
       refine Kd.N_append_step k36 w.heap.size (by rfl) (.tmp 74) (.tmp 78) 30 36 (.agg #[(.slice none 0 0)]) 24 rfl Tryz.underlying30 info36 rfl (by decide) (by omega) Af Aj (⟨Cw⟩:S36) [.slice Kb Cw.length Ke] (fun k_=>(w.heap.size≤k_)∧k_≠Ae∧k_≠Ag∧k_≠g) (fun k_=>((fun k_=>(w.heap.size≤k_)∧k_≠Ae∧k_≠Ag∧k_≠g)) k_∧some k_≠(Af:Value).ownBlock) rfl rfl ?aP (fun _ hk=>hk) ?aF ?aO (Below.refl _ _) ?aS ?aL ?_
       (case aP=>exact(k36_mkF _ _ (⟨Cw⟩:S36) (Kd.R_reads' (Kd.R_mono (ok':=(fun k_=>((fun k_=>(w.heap.size≤k_)∧k_≠Ae∧k_≠Ag∧k_≠g)) k_∧some k_≠(Af:Value).ownBlock)) (y2.apart HI0.out (Kd.R_types (Kd.R_types (Kd.R_apart' (Cp.out) (Kd.N_typed Aa.out) (by decide)) Ad.out (by decide)) Ac.out (by decide)) (by decide)) (fun k_ hk=>⟨⟨hk.1.1.1.1.1,⟨hk.1.1.2,⟨hk.1.2,hk.2⟩⟩⟩,hk.1.1.1.2⟩))).2.1 (Kd.R_F (Kd.R_mono (ok':=(fun k_=>((fun k_=>(w.heap.size≤k_)∧k_≠Ae∧k_≠Ag∧k_≠g)) k_∧some k_≠(Af:Value).ownBlock)) (y2.apart HI0.out (Kd.R_types (Kd.R_types (Kd.R_apart' (Cp.out) (Kd.N_typed Aa.out) (by decide)) Ad.out (by decide)) Ac.out (by decide)) (by decide)) (fun k_ hk=>⟨⟨hk.1.1.1.1.1,⟨hk.1.1.2,⟨hk.1.2,hk.2⟩⟩⟩,hk.1.1.1.2⟩)))))
       (case aF=>exact(fun k_ hk=>⟨(Nat.le_trans (keep_size (w:=w) (g:=g) (row:=none) (qh (w:=w) (g:=g))) hk),Kd.freshB (g:=Ae) (o:=.cells #[.int .i64 0,.slice none 0 0] 32 (0,0)) (qk Ad.out) k_ hk,Kd.freshB (g:=Ag) (o:=.cells #[.int .i64 a1,Af] 32 (0,0)) (qk Ac.out) k_ hk,y2.fresh (y2.qj (w0:=w0) (g:=g)) k_ hk⟩))
       (case aO=>exact(qN (Kd.N_mono Aa.out (fun _ hk=>⟨hk.1.1,⟨hk.1.2.1,⟨hk.1.2.2.1,hk.1.2.2.2⟩⟩⟩))))
       (case aS=>exact(keep_size (w:=w) (g:=g) (row:=none) (qh (w:=w) (g:=g))))
       (case aL=>have:=Gk.out;omega)
       intro Nx Ny ho hb hg hat
       rw [← Gl.out]at ho
       replace Ad:=y0.mk (blk_grown (qk Ad.out) hg (Kd.N_ne Aa.out Ad.out (by decide)))
       replace Ac:=y0.mk (blk_grown (qk Ac.out) hg (Kd.N_ne Aa.out Ac.out (by decide)))
       replace HI0:=y0.mk (y2.grown (y2.qj (w0:=w0) (g:=g)) hg (y2.own_neN HI0.out Aa.out (by decide)))
       replace HB:=y0.mk (below_weaken y2.qbI HL.out hb)
       replace HK:=y0.mk (y3.trans (qh (w:=w) (g:=g)) (y3.of_grown hg g) (Kd.N_base2 Aa.out))
       have Ec:=y0.mk (ho)
       clear Aa Cp
       clear ho hb hg hat
       obtain⟨Fj,Fk,Gn⟩:=Kd.N_slice Ec.out
       (first|subst Gn|(injection Gn with f1_ f2_ f3_;have f4_:=f1_.symm;have f5_:=f3_.symm;clear f1_ f2_ f3_;subst f4_;subst f5_))
       refine hK.out _ _ ⟨(y11 Ac.out 0).trans rfl,(y11 Ac.out 1).trans rfl⟩ (fun hHeld=>?_)
       clear hK K
       refine qx 79 ?_
       refine qp 7 80 (fl_ 9 255) ?_
       refine last_ (i:=8) (N:=none) (fl_ 9 511) rfl rfl (one_of HT_.out (by kernel_rfl)) (by decide) (fun K hK=>?_)
       have Nz:Ny.cell? ⟨Ag,1,none⟩=some (Af):=(y11 Ac.out 1).trans rfl
       have Mg:=y15 Ac.out 1
       have Io:=Ak.out
       have Ip:=Ba.out
       refine skip_ (w1:=?_) (by rfl) rfl ?_ ?_
       rotate_left
       ·go_simp
        rfl
       refine hK.out _ _ ?_
       clear hK K
       refine done_ (done_of HT_.out (by kernel_rfl)) ?_
       have Mh:=Ba.out
       have Mi:=Ak.out
       have Mj:=Am.out
       have Mk:=Al.out
       obtain⟨Iq,Ir,Is,It⟩:=qz2 Ac.out
       have Ml:=Au.out
       have Mm:=Aq.out
       obtain⟨Iu,Iv,Iw,Ix⟩:=qz2 Ad.out
       try go_wp2
       refine bodyPost_ret (results_cell_row rfl _ _ Ae 32 #[.int .i64 a1,.slice Fj Dn.length Fk] (0,0) _ rfl (by(with_reducible repeat(first|refine y13 ?_ _|refine y12 ?_|refine y9 ?_ _));refine y16 (cs:=#[.int .i64 a1,.slice none 0 0]) ?_ 1 _ rfl;(with_reducible repeat(first|refine y13 ?_ _|refine y12 ?_|refine y9 ?_ _));refine y16 (cs:=#[.int .i64 0,.slice none 0 0]) ?_ 0 _ rfl;(with_reducible repeat(first|refine y13 ?_ _|refine y12 ?_|refine y9 ?_ _));refine y14 ?_ Ak.out _;(with_reducible repeat(first|refine y13 ?_ _|refine y12 ?_|refine y9 ?_ _));exact Ad.out) Tryz.underlying32 rfl (by kernel_rfl)) rfl ?_
       exact⟨_,by first|rfl|(simp [y17,y18] <;> rfl)|(simp [*,y17,y18] <;> rfl),by(with_reducible repeat(first|apply Kd.N_alloc|apply Kd.N_drewN|apply Kd.N_drew));exact Kd.N_mono (Kd.N_far (p:=⟨Ae,1,none⟩) (Kd.N_far (p:=⟨Ae,0,none⟩) (Kd.N_far (p:=⟨Ag,1,none⟩) (Kd.N_mono (Kd.N_mono Ec.out (fun k_ hk=>(⟨hk,hk.2.2.1⟩:_∧k_≠Ag))) (fun k_ hk=>(⟨hk,hk.1.2.1⟩:_∧k_≠Ae))) (fun _ hk=>hk.1.2) (.slice Fj Dn.length Fk)) (fun _ hk=>hk.2) (.int .i64 a1)) (fun _ hk=>hk.2) (.slice Fj Dn.length Fk)) (fun _ hk=>hk.1.1.1),(y2.qj (w0:=w0) (g:=g)),y2.qbI,(qh (w:=w) (g:=g))⟩
      ·rw [if_neg Fg]at H
       have Ea:(Bj == 1)=false:=beq_eq_false_iff_ne.mpr Fg
       have Eb:(Bj != 1)=true:=bne_iff_ne.mpr Fg
       by_cases Fl:Bj=2
       ·rw [if_pos Fl]at H
        have Ed:(Bj == 2)=true:=beq_iff_eq.mpr Fl
        have Ee:(Bj != 2)=false:=bne_eq_false_iff_eq.mpr Fl
        clear Fl
        obtain⟨Dd,Ci⟩:∃ y_:List ByteArray,y_=(([(⟨#[120]⟩:ByteArray)]:List ByteArray)):=⟨_,rfl⟩
        replace H:(if Aj.length < 5864062014805 then(some (a1,(Aj ++ [(⟨Dd⟩:S36)]),Ca,Cb))else(none))=some (r1,r2,r3,r4):=by first|(rw [Ci];with_reducible exact H)|(have H2_:=(Option.bind_some _ _).symm.trans H;rw [Ci];with_reducible exact H2_)|(have H2_:=(Option.bind_some _ _).symm.trans H;with_reducible exact H2_)|with_reducible exact H|(rw [Ci];exact H)|exact H
        have Ef:=y0.mk Ci
        clear Ci
        obtain⟨Mn,H⟩:=qo H
        have Gp:=y0.mk Mn
        clear Mn
        obtain⟨Do,Cj⟩:∃ y_:List (S36),y_=(Aj ++ [(⟨Dd⟩:S36)]):=⟨_,rfl⟩
        replace H:(some (a1,Do,Ca,Cb))=some (r1,r2,r3,r4):=by first|(rw [Cj];with_reducible exact H)|(have H2_:=(Option.bind_some _ _).symm.trans H;rw [Cj];with_reducible exact H2_)|(have H2_:=(Option.bind_some _ _).symm.trans H;with_reducible exact H2_)|with_reducible exact H|(rw [Cj];exact H)|exact H
        have Gq:=y0.mk Cj
        clear Cj
        simp only [Option.some.injEq,Prod.mk.injEq]at H
        obtain⟨rfl,rfl,rfl,rfl⟩:=H
        go_wp2_with (first|((with_reducible refine y19 (f:=67) rfl ?_);refine y22 (some 46) rfl rfl Tryz.func67 (by kernel_rfl) rfl #[.pointer (some ⟨g,0,none⟩),.int .i64 16] rfl qy0 ?_;(with_reducible refine(spec_l01Cur_once.calls g Av Bc Bd 16 true Bx Bz w0 _ (by repeat(first|(with_reducible first|exact HI0.out|apply y2.alloc|apply y2.drewN|apply y2.drew|apply y2.set_1|apply y2.set_2|refine y2.far ?_ Aq.out _|refine y2.far ?_ Al.out _)|exact HI0.out)) (by repeat(first|(with_reducible first|exact HB.out|apply y4|apply y23|apply y5|refine y6 ?_ (y2.ge HI0.out)|refine y6 ?_ Be.out|refine y6 ?_ Bf.out)|exact HB.out)) Ge.out).mono ?_);rintro e Pc ⟨rfl,hi,hb,hk⟩;refine⟨_,rfl, ?_⟩;replace Aa:=y0.mk (Kd.N_mono (Kd.N_keep (Kd.N_mono (ok:=fun k_=>(((w.heap.size≤k_))∧(k_≠Ae∧(k_≠Ag∧k_≠g)))) (qN Aa.out) (fun k_ hk_=>(⟨hk_,hk_.2.2.2⟩:_∧k_≠g))) hk (fun _ h=>h.2)) (fun _ h=>h.1));replace Ad:=y0.mk (y3.blk hk (g':=Ae) (o:=.cells #[.int .i64 0,.slice none 0 0] 32 (0,0)) (qk Ad.out) Au.out (by simp));replace Ac:=y0.mk (y3.blk hk (g':=Ag) (o:=.cells #[.int .i64 a1,Af] 32 (0,0)) (qk Ac.out) Am.out (by simp));replace HK:=y0.mk (y3.trans (qh (w:=w) (g:=g)) hk (.inl rfl));replace HB:=y0.mk (hb);replace HI0:=y0.mk (hi);(try clear hb hk hi))|((with_reducible refine y19 (f:=54) rfl ?_);refine y22 (some 48) rfl rfl Tryz.func54 (by kernel_rfl) rfl #[.pointer (some ⟨g,0,none⟩),.int .i64 4] rfl qy0 ?_;(with_reducible refine(z5_.calls g Av Bx Bz 4 Bj Ca Cb w0 _ (by repeat(first|(with_reducible first|exact HI0.out|apply y2.alloc|apply y2.drewN|apply y2.drew|apply y2.set_1|apply y2.set_2|refine y2.far ?_ Aq.out _|refine y2.far ?_ Al.out _)|exact HI0.out)) (by repeat(first|(with_reducible first|exact HB.out|apply y4|apply y23|apply y5|refine y6 ?_ (y2.ge HI0.out)|refine y6 ?_ Be.out|refine y6 ?_ Bf.out)|exact HB.out)) Ie.out).mono ?_);rintro e Pd ⟨rfl,hi,hb,hk⟩;refine⟨_,rfl, ?_⟩;replace Aa:=y0.mk (Kd.N_mono (Kd.N_keep (Kd.N_mono (ok:=fun k_=>(((w.heap.size≤k_))∧(k_≠Ae∧(k_≠Ag∧k_≠g)))) (qN Aa.out) (fun k_ hk_=>(⟨hk_,hk_.2.2.2⟩:_∧k_≠g))) hk (fun _ h=>h.2)) (fun _ h=>h.1));replace Ad:=y0.mk (y3.blk hk (g':=Ae) (o:=.cells #[.int .i64 0,.slice none 0 0] 32 (0,0)) (qk Ad.out) Au.out (by simp));replace Ac:=y0.mk (y3.blk hk (g':=Ag) (o:=.cells #[.int .i64 a1,Af] 32 (0,0)) (qk Ac.out) Am.out (by simp));replace HK:=y0.mk (y3.trans (qh (w:=w) (g:=g)) hk (.inl rfl));replace HB:=y0.mk (hb);replace HI0:=y0.mk (hi);(try clear hb hk hi);have Mo:=Ba.out;have Mp:=Ak.out;have Mq:=Am.out;have Mr:=Al.out;obtain⟨Iy,Iz,Ja,Jb⟩:=qz2 Ac.out)|((with_reducible refine y20 (N:=85) rfl ?_);refine qL Kd.string 9 85 ([(⟨#[120]⟩:ByteArray)]:List ByteArray) ?_;intro Oa Pe Cx hb hg_ hnew_;clear hg_ hnew_;(first|rw [← Ef.out]at Cx|(simp only [Int.reduceToNat]at Cx;rw [← Ef.out]at Cx));replace Aa:=y0.mk (Kd.N_elder' (qN Aa.out) (Kd.R_base Cx) hb);have Cq:=y0.mk (Kd.R_lower (Kd.R_newM (M:=fun k_=>(w.heap.size≤k_)) Cx (keep_size (w:=w) (g:=g) (row:=none) (qh (w:=w) (g:=g))) (fun k_ h_=>h_)) (keep_size (w:=w) (g:=g) (row:=none) (qh (w:=w) (g:=g))));replace Ad:=y0.mk (qK Ad.out hb);replace Ac:=y0.mk (qK Ac.out hb);replace HI0:=y0.mk (y2.below (y2.qj (w0:=w0) (g:=g)) hb);replace HK:=y0.mk (y3.trans (qh (w:=w) (g:=g)) (y3.of_below hb g none) (.inl rfl));replace HB:=y0.mk (y8 y2.qbI hb);clear hb Cx;obtain⟨Kf,Kg,Kh⟩:=Kd.R_slice Cq.out;subst Kh)|((with_reducible refine gate_builtin (b:=.append) (xs:=#[.tmp 84,.tmp 87]) rfl ?_);at_builtin;refine Kd.N_append k36 w.heap.size rfl (.tmp 84) (.tmp 87) 30 36 (.agg #[(.slice none 0 0)]) 24 rfl Tryz.underlying30 info36 rfl (by decide) (by omega) Af Aj (⟨Dd⟩:S36) [.slice Kf Dd.length Kg] (fun k_=>(w.heap.size≤k_)∧k_≠Ae∧k_≠Ag∧k_≠g) (fun k_=>((fun k_=>(w.heap.size≤k_)∧k_≠Ae∧k_≠Ag∧k_≠g)) k_∧some k_≠(Af:Value).ownBlock) rfl rfl ?aP (fun _ hk=>hk) ?aF ?aO (Below.refl _ _) ?aS ?aL ?_;(case aP=>exact(k36_mkF _ _ (⟨Dd⟩:S36) (Kd.R_reads' (Kd.R_mono (ok':=(fun k_=>((fun k_=>(w.heap.size≤k_)∧k_≠Ae∧k_≠Ag∧k_≠g)) k_∧some k_≠(Af:Value).ownBlock)) (y2.apart HI0.out (Kd.R_types (Kd.R_types (Kd.R_apart' (Cq.out) (Kd.N_typed Aa.out) (by decide)) Ad.out (by decide)) Ac.out (by decide)) (by decide)) (fun k_ hk=>⟨⟨hk.1.1.1.1.1,⟨hk.1.1.2,⟨hk.1.2,hk.2⟩⟩⟩,hk.1.1.1.2⟩))).2.1 (Kd.R_F (Kd.R_mono (ok':=(fun k_=>((fun k_=>(w.heap.size≤k_)∧k_≠Ae∧k_≠Ag∧k_≠g)) k_∧some k_≠(Af:Value).ownBlock)) (y2.apart HI0.out (Kd.R_types (Kd.R_types (Kd.R_apart' (Cq.out) (Kd.N_typed Aa.out) (by decide)) Ad.out (by decide)) Ac.out (by decide)) (by decide)) (fun k_ hk=>⟨⟨hk.1.1.1.1.1,⟨hk.1.1.2,⟨hk.1.2,hk.2⟩⟩⟩,hk.1.1.1.2⟩)))));(case aF=>exact(fun k_ hk=>⟨(Nat.le_trans (keep_size (w:=w) (g:=g) (row:=none) (qh (w:=w) (g:=g))) hk),Kd.freshB (g:=Ae) (o:=.cells #[.int .i64 0,.slice none 0 0] 32 (0,0)) (qk Ad.out) k_ hk,Kd.freshB (g:=Ag) (o:=.cells #[.int .i64 a1,Af] 32 (0,0)) (qk Ac.out) k_ hk,y2.fresh (y2.qj (w0:=w0) (g:=g)) k_ hk⟩));(case aO=>exact(qN (Kd.N_mono Aa.out (fun _ hk=>⟨hk.1.1,⟨hk.1.2.1,⟨hk.1.2.2.1,hk.1.2.2.2⟩⟩⟩))));(case aS=>exact(keep_size (w:=w) (g:=g) (row:=none) (qh (w:=w) (g:=g))));(case aL=>have:=Gp.out;omega);intro Ob Pf ho hb hg hat;rw [← Gq.out]at ho;replace Ad:=y0.mk (blk_grown (qk Ad.out) hg (Kd.N_ne Aa.out Ad.out (by decide)));replace Ac:=y0.mk (blk_grown (qk Ac.out) hg (Kd.N_ne Aa.out Ac.out (by decide)));replace HI0:=y0.mk (y2.grown (y2.qj (w0:=w0) (g:=g)) hg (y2.own_neN HI0.out Aa.out (by decide)));replace HB:=y0.mk (below_weaken y2.qbI HL.out hb);replace HK:=y0.mk (y3.trans (qh (w:=w) (g:=g)) (y3.of_grown hg g) (Kd.N_base2 Aa.out));have Eg:=y0.mk (ho);clear Aa Cq;clear ho hb hg hat;obtain⟨Fm,Fn,Ki⟩:=Kd.N_slice Eg.out;subst Ki;obtain⟨Jc,Jd,Je,Jf⟩:=qz2 Ac.out;have Ms:=Au.out;have Mt:=Aq.out;obtain⟨Jg,Jh,Ji,Jj⟩:=qz2 Ad.out))
        refine bodyPost_ret (results_cell_row rfl _ _ Ae 32 #[.int .i64 a1,.slice Fm Do.length Fn] (0,0) _ rfl (by(with_reducible repeat(first|refine y13 ?_ _|refine y12 ?_|refine y9 ?_ _));refine y16 (cs:=#[.int .i64 a1,.slice none 0 0]) ?_ 1 _ rfl;(with_reducible repeat(first|refine y13 ?_ _|refine y12 ?_|refine y9 ?_ _));refine y16 (cs:=#[.int .i64 0,.slice none 0 0]) ?_ 0 _ rfl;(with_reducible repeat(first|refine y13 ?_ _|refine y12 ?_|refine y9 ?_ _));refine y14 ?_ Ak.out _;(with_reducible repeat(first|refine y13 ?_ _|refine y12 ?_|refine y9 ?_ _));exact Ad.out) Tryz.underlying32 rfl (by kernel_rfl)) rfl ?_
        exact⟨_,by first|rfl|(simp [y17,y18] <;> rfl)|(simp [*,y17,y18] <;> rfl),by(with_reducible repeat(first|apply Kd.N_alloc|apply Kd.N_drewN|apply Kd.N_drew));exact Kd.N_mono (Kd.N_far (p:=⟨Ae,1,none⟩) (Kd.N_far (p:=⟨Ae,0,none⟩) (Kd.N_far (p:=⟨Ag,1,none⟩) (Kd.N_mono (Kd.N_mono Eg.out (fun k_ hk=>(⟨hk,hk.2.2.1⟩:_∧k_≠Ag))) (fun k_ hk=>(⟨hk,hk.1.2.1⟩:_∧k_≠Ae))) (fun _ hk=>hk.1.2) (.slice Fm Do.length Fn)) (fun _ hk=>hk.2) (.int .i64 a1)) (fun _ hk=>hk.2) (.slice Fm Do.length Fn)) (fun _ hk=>hk.1.1.1),(y2.qj (w0:=w0) (g:=g)),y2.qbI,(qh (w:=w) (g:=g))⟩
       ·rw [if_neg Fl]at H
        have Ed:(Bj == 2)=false:=beq_eq_false_iff_ne.mpr Fl
        have Ee:(Bj != 2)=true:=bne_iff_ne.mpr Fl
        have H':=y0.mk H
        clear H
        go_wp2_with (first|((with_reducible refine y19 (f:=67) rfl ?_);refine y22 (some 46) rfl rfl Tryz.func67 (by kernel_rfl) rfl #[.pointer (some ⟨g,0,none⟩),.int .i64 16] rfl qy0 ?_;(with_reducible refine(spec_l01Cur_once.calls g Av Bc Bd 16 true Bx Bz w0 _ (by repeat(first|(with_reducible first|exact HI0.out|apply y2.alloc|apply y2.drewN|apply y2.drew|apply y2.set_1|apply y2.set_2|refine y2.far ?_ Aq.out _|refine y2.far ?_ Al.out _)|exact HI0.out)) (by repeat(first|(with_reducible first|exact HB.out|apply y4|apply y23|apply y5|refine y6 ?_ (y2.ge HI0.out)|refine y6 ?_ Be.out|refine y6 ?_ Bf.out)|exact HB.out)) Ge.out).mono ?_);rintro e Pg ⟨rfl,hi,hb,hk⟩;refine⟨_,rfl, ?_⟩;replace Aa:=y0.mk (Kd.N_mono (Kd.N_keep (Kd.N_mono (ok:=fun k_=>(((w.heap.size≤k_))∧(k_≠Ae∧(k_≠Ag∧k_≠g)))) (qN Aa.out) (fun k_ hk_=>(⟨hk_,hk_.2.2.2⟩:_∧k_≠g))) hk (fun _ h=>h.2)) (fun _ h=>h.1));replace Ad:=y0.mk (y3.blk hk (g':=Ae) (o:=.cells #[.int .i64 0,.slice none 0 0] 32 (0,0)) (qk Ad.out) Au.out (by simp));replace Ac:=y0.mk (y3.blk hk (g':=Ag) (o:=.cells #[.int .i64 a1,Af] 32 (0,0)) (qk Ac.out) Am.out (by simp));replace HK:=y0.mk (y3.trans (qh (w:=w) (g:=g)) hk (.inl rfl));replace HB:=y0.mk (hb);replace HI0:=y0.mk (hi);(try clear hb hk hi))|((with_reducible refine y19 (f:=54) rfl ?_);refine y22 (some 48) rfl rfl Tryz.func54 (by kernel_rfl) rfl #[.pointer (some ⟨g,0,none⟩),.int .i64 4] rfl qy0 ?_;(with_reducible refine(z5_.calls g Av Bx Bz 4 Bj Ca Cb w0 _ (by repeat(first|(with_reducible first|exact HI0.out|apply y2.alloc|apply y2.drewN|apply y2.drew|apply y2.set_1|apply y2.set_2|refine y2.far ?_ Aq.out _|refine y2.far ?_ Al.out _)|exact HI0.out)) (by repeat(first|(with_reducible first|exact HB.out|apply y4|apply y23|apply y5|refine y6 ?_ (y2.ge HI0.out)|refine y6 ?_ Be.out|refine y6 ?_ Bf.out)|exact HB.out)) Ie.out).mono ?_);rintro e Ph ⟨rfl,hi,hb,hk⟩;refine⟨_,rfl, ?_⟩;replace Aa:=y0.mk (Kd.N_mono (Kd.N_keep (Kd.N_mono (ok:=fun k_=>(((w.heap.size≤k_))∧(k_≠Ae∧(k_≠Ag∧k_≠g)))) (qN Aa.out) (fun k_ hk_=>(⟨hk_,hk_.2.2.2⟩:_∧k_≠g))) hk (fun _ h=>h.2)) (fun _ h=>h.1));replace Ad:=y0.mk (y3.blk hk (g':=Ae) (o:=.cells #[.int .i64 0,.slice none 0 0] 32 (0,0)) (qk Ad.out) Au.out (by simp));replace Ac:=y0.mk (y3.blk hk (g':=Ag) (o:=.cells #[.int .i64 a1,Af] 32 (0,0)) (qk Ac.out) Am.out (by simp));replace HK:=y0.mk (y3.trans (qh (w:=w) (g:=g)) hk (.inl rfl));replace HB:=y0.mk (hb);replace HI0:=y0.mk (hi);(try clear hb hk hi);have Mu:=Ba.out;have Mv:=Ak.out;have Mw:=Am.out;have Mx:=Al.out;obtain⟨Dp,Dq,Dr,Ds⟩:=qz2 Ac.out))
        go_loopg [11] k1 (fun kq Oc w'=>∃(Bn:Int) (Ay:Int) (Az:Int) (Bb:List (S36)) (Af:Value),Oc=.int .i64 Bn∧y0 (z6_.l2 kq Bn Av Ay Az 1 Bb=some (r1,r2,r3,r4))∧y0 (kq≤k1)∧y0 (Kd.N k36 36 w' w.heap.size (fun k_=>(w.heap.size≤k_)∧k_≠Ae∧k_≠Ag∧k_≠g) Af Bb)∧y0 (w'.heap[Ae]?=some (.cells #[.int .i64 0,(.slice none 0 0)] 32 (0,0)))∧y0 (w'.heap[Ag]?=some (.cells #[.int .i64 1,Af] 32 (0,0)))∧y0 (y2 w0 w' g Av Ay Az)∧y0 (y3 w w' g none)∧y0 (Below w0.heap.size w0 w'))
        case atStart=>exact⟨(0),(Ca),(Cb),(([]:List (S36))),(.slice none 0 0),qy2,H',⟨Nat.le_refl _⟩,⟨by first|exact Kd.S_nil _ _ _ _ _|exact Kd.N_nil _ _ _ _ _|exact Kd.V_nil _ _ _ _ _|exact Kd.Q_nil _ _ _ _ _|exact Kd.R_nil _ _ _ _ _⟩,⟨by(with_reducible repeat(first|refine y13 ?_ _|refine y12 ?_|refine y9 ?_ _));refine y14 ?_ Ak.out _;(with_reducible repeat(first|refine y13 ?_ _|refine y12 ?_|refine y9 ?_ _));refine y14 ?_ Ak.out _;(with_reducible repeat(first|refine y13 ?_ _|refine y12 ?_|refine y9 ?_ _));exact Ad.out⟩,⟨by(with_reducible repeat(first|refine y13 ?_ _|refine y12 ?_|refine y9 ?_ _));refine y16 (cs:=#[.int .i64 1,Af]) ?_ 1 _ rfl;(with_reducible repeat(first|refine y13 ?_ _|refine y12 ?_|refine y9 ?_ _));refine y16 (cs:=#[.int .i64 a1,Af]) ?_ 0 _ rfl;(with_reducible repeat(first|refine y13 ?_ _|refine y12 ?_|refine y9 ?_ _));exact Ac.out⟩,⟨(y2.qj (w0:=w0) (g:=g))⟩,⟨(qh (w:=w) (g:=g))⟩,⟨y2.qbI⟩⟩
        case round =>
         clear H'
         (try clear Cz Gf Dy Dz Ea Eb Ed Ee Dp Dq Dr Ds)
         obtain⟨Bn,Ay,Az,Bb,Af,rfl,HA,Fa,Aa,Ad,Ac,HI0,HK,HB⟩:=hrel
         cases gk with
         | zero=>exact absurd HA.out (by simp [z6_.l2])
         | succ k2 =>
          have H:=HA.out
          clear HA
          simp only [z6_.l2]at H
          obtain⟨⟨Fo,De,Df⟩,My,H⟩:=qB H
          dsimp only at H
          by_cases Fu:Bn < (wrap64 (399 + Fo))
          ·rw [if_pos Fu]at H
           have Gr:=decide_eq_true Fu
           clear Fu
           obtain⟨Fp,Od,H⟩:=qB H
           obtain⟨Dg,Ck⟩:∃ y_:List ByteArray,y_=(([Fp]:List ByteArray)):=⟨_,rfl⟩
           replace H:(if Bb.length < 5864062014805 then(z6_.l2 k2 (wrap64 (Bn + 1)) Av De Df 1 (Bb ++ [(⟨Dg⟩:S36)]))else(none))=some (r1,r2,r3,r4):=by first|(rw [Ck];with_reducible exact H)|(have H2_:=(Option.bind_some _ _).symm.trans H;rw [Ck];with_reducible exact H2_)|(have H2_:=(Option.bind_some _ _).symm.trans H;with_reducible exact H2_)|with_reducible exact H|(rw [Ck];exact H)|exact H
           have Eh:=y0.mk Ck
           clear Ck
           obtain⟨Mz,H⟩:=qo H
           have Gs:=y0.mk Mz
           clear Mz
           obtain⟨Dt,Cl⟩:∃ y_:List (S36),y_=(Bb ++ [(⟨Dg⟩:S36)]):=⟨_,rfl⟩
           replace H:(z6_.l2 k2 (wrap64 (Bn + 1)) Av De Df 1 Dt)=some (r1,r2,r3,r4):=by first|(rw [Cl];with_reducible exact H)|(have H2_:=(Option.bind_some _ _).symm.trans H;rw [Cl];with_reducible exact H2_)|(have H2_:=(Option.bind_some _ _).symm.trans H;with_reducible exact H2_)|with_reducible exact H|(rw [Cl];exact H)|exact H
           have Gt:=y0.mk Cl
           clear Cl
           have H':=y0.mk H
           clear H
           try go_wp2_with (first|((with_reducible refine y19 (f:=54) rfl ?_);refine y22 (some 52) rfl rfl Tryz.func54 (by kernel_rfl) rfl #[.pointer (some ⟨g,0,none⟩),.int .i64 3] rfl qy0 ?_;(with_reducible refine(z5_.calls g Av Ay Az 3 Fo De Df w0 _ (by repeat(first|(with_reducible first|exact HI0.out|apply y2.alloc|apply y2.drewN|apply y2.drew|apply y2.set_1|apply y2.set_2|refine y2.far ?_ Aq.out _|refine y2.far ?_ Al.out _)|exact HI0.out)) (by repeat(first|(with_reducible first|exact HB.out|apply y4|apply y23|apply y5|refine y6 ?_ (y2.ge HI0.out)|refine y6 ?_ Be.out|refine y6 ?_ Bf.out)|exact HB.out)) My.out).mono ?_);rintro e Oe ⟨rfl,hi,hb,hk⟩;refine⟨_,rfl, ?_⟩;replace Aa:=y0.mk (Kd.N_mono (Kd.N_keep (Kd.N_mono (ok:=fun k_=>(((w.heap.size≤k_))∧(k_≠Ae∧(k_≠Ag∧k_≠g)))) (qN Aa.out) (fun k_ hk_=>(⟨hk_,hk_.2.2.2⟩:_∧k_≠g))) hk (fun _ h=>h.2)) (fun _ h=>h.1));replace Ad:=y0.mk (y3.blk hk (g':=Ae) (o:=.cells #[.int .i64 0,.slice none 0 0] 32 (0,0)) (qk Ad.out) Au.out (by simp));replace Ac:=y0.mk (y3.blk hk (g':=Ag) (o:=.cells #[.int .i64 1,Af] 32 (0,0)) (qk Ac.out) Am.out (by simp));replace HK:=y0.mk (y3.trans (qh (w:=w) (g:=g)) hk (.inl rfl));replace HB:=y0.mk (hb);replace HI0:=y0.mk (hi);(try clear hb hk hi)))
           replace Aa:=y0.mk (Kd.N_drew Aa.out)
           replace Ad:=y0.mk (y12 Ad.out)
           replace Ac:=y0.mk (y12 Ac.out)
           replace HI0:=y0.mk (y2.drew HI0.out)
           replace HK:=y0.mk (keep_drew HK.out)
           replace HB:=y0.mk (y5 HB.out)
           refine start_ (n:=10) (S:=fun w'=>w'.cell? ⟨Ag,0,none⟩=some (.int .i64 1)∧w'.cell? ⟨Ag,1,none⟩=some (Af)) (ds:=[9]) (fl_ 10 0) (by kernel_rfl) rfl rfl ⟨(y11 Ac.out 0).trans rfl,(y11 Ac.out 1).trans rfl⟩ (fun hHeld=>?_);refine with_tabW z6_.tab18 z6_.bits18 (fun HT_ HW_=>?_)
           generalize Oe.drew=Og at Aa Ad Ac HI0 HK HB hHeld ⊢
           refine qp 0 57 (fl_ 10 1) ?_
           refine qp 2 59 (fl_ 10 5) ?_
           refine qt 1 58 (fl_ 10 7) hHeld ?_
           refine qO 3 60 (fl_ 10 15) (fun K hK=>?_)
           refine goes_ Tryz.func81 (by kernel_rfl) rfl #[.int .i64 Bn] (by rfl) rfl rfl qy0 ?_
           with_reducible refine(spec_NumText.calls k2 Bn Fp _ Od.out).mono ?_
           rintro e Oh ⟨rfl,hb⟩
           refine⟨_,rfl, ?_⟩
           replace Aa:=y0.mk (Kd.N_below (qN Aa.out) hb)
           replace Ad:=y0.mk (qK Ad.out hb)
           replace Ac:=y0.mk (qK Ac.out hb)
           replace HI0:=y0.mk (y2.below (y2.qj (w0:=w0) (g:=g)) hb)
           replace HK:=y0.mk (y3.trans (qh (w:=w) (g:=g)) (y3.of_below hb g none) (.inl rfl))
           replace HB:=y0.mk (y8 y2.qbI hb)
           (try clear hb)
           refine hK.out _ _ ⟨(y11 Ac.out 0).trans rfl,(y11 Ac.out 1).trans rfl⟩ (fun hHeld=>?_)
           clear hK K
           refine qx 60 ?_
           refine qO 4 61 (fl_ 10 31) (fun K hK=>?_)
           refine qLs Kd.string 9 61 ([Fp]:List ByteArray) ?_
           intro Oi Oj Bw hb hg_ hnew_
           clear hg_ hnew_
           (first|rw [← Eh.out]at Bw|(simp only [Int.reduceToNat]at Bw;rw [← Eh.out]at Bw))
           replace Aa:=y0.mk (Kd.N_elder' (qN Aa.out) (Kd.R_base Bw) hb)
           have Cr:=y0.mk (Kd.R_lower (Kd.R_newM (M:=fun k_=>(w.heap.size≤k_)) Bw (keep_size (w:=w) (g:=g) (row:=none) (qh (w:=w) (g:=g))) (fun k_ h_=>h_)) (keep_size (w:=w) (g:=g) (row:=none) (qh (w:=w) (g:=g))))
           replace Ad:=y0.mk (qK Ad.out hb)
           replace Ac:=y0.mk (qK Ac.out hb)
           replace HI0:=y0.mk (y2.below (y2.qj (w0:=w0) (g:=g)) hb)
           replace HK:=y0.mk (y3.trans (qh (w:=w) (g:=g)) (y3.of_below hb g none) (.inl rfl))
           replace HB:=y0.mk (y8 y2.qbI hb)
           clear hb Bw
           obtain⟨Gu,Gv,Ei⟩:=Kd.R_slice Cr.out
           (first|subst Ei|(injection Ei with f1_ f2_ f3_;have f4_:=f1_.symm;have f5_:=f3_.symm;clear f1_ f2_ f3_;subst f4_;subst f5_))
           refine hK.out _ _ ⟨(y11 Ac.out 0).trans rfl,(y11 Ac.out 1).trans rfl⟩ (fun hHeld=>?_)
           clear hK K
           refine qx 61 ?_
           refine qp 5 62 (fl_ 10 63) ?_
           refine qO 6 63 (fl_ 10 127) (fun K hK=>?_)
           refine value_ (w1:=?_) (v:=?_) (by rfl) rfl ?_ ?_
           rotate_left 2
           ·go_simp
            constructor
            ·rfl
            ·rfl
           refine hK.out _ _ ⟨(y11 (y9 Ac.out _) 0).trans rfl,(y11 (y9 Ac.out _) 1).trans rfl⟩ (fun hHeld=>?_)
           clear hK K
           refine qx 63 ?_
           refine qO 7 64 (fl_ 10 255) (fun K hK=>?_)
           refine Kd.N_append_step k36 w.heap.size (by rfl) (.tmp 58) (.tmp 63) 30 36 (.agg #[(.slice none 0 0)]) 24 rfl Tryz.underlying30 info36 rfl (by decide) (by omega) Af Bb (⟨Dg⟩:S36) [.slice Gu Dg.length Gv] (fun k_=>(w.heap.size≤k_)∧k_≠Ae∧k_≠Ag∧k_≠g) (fun k_=>((fun k_=>(w.heap.size≤k_)∧k_≠Ae∧k_≠Ag∧k_≠g)) k_∧some k_≠(Af:Value).ownBlock) rfl rfl ?aP (fun _ hk=>hk) ?aF ?aO (Below.refl _ _) ?aS ?aL ?_
           (case aP=>exact(k36_mkF _ _ (⟨Dg⟩:S36) (Kd.R_reads' (Kd.R_mono (ok':=(fun k_=>((fun k_=>(w.heap.size≤k_)∧k_≠Ae∧k_≠Ag∧k_≠g)) k_∧some k_≠(Af:Value).ownBlock)) (y2.apart HI0.out (Kd.R_types (Kd.R_types (Kd.R_apart' (Cr.out) (Kd.N_typed Aa.out) (by decide)) Ad.out (by decide)) Ac.out (by decide)) (by decide)) (fun k_ hk=>⟨⟨hk.1.1.1.1.1,⟨hk.1.1.2,⟨hk.1.2,hk.2⟩⟩⟩,hk.1.1.1.2⟩))).2.1 (Kd.R_F (Kd.R_mono (ok':=(fun k_=>((fun k_=>(w.heap.size≤k_)∧k_≠Ae∧k_≠Ag∧k_≠g)) k_∧some k_≠(Af:Value).ownBlock)) (y2.apart HI0.out (Kd.R_types (Kd.R_types (Kd.R_apart' (Cr.out) (Kd.N_typed Aa.out) (by decide)) Ad.out (by decide)) Ac.out (by decide)) (by decide)) (fun k_ hk=>⟨⟨hk.1.1.1.1.1,⟨hk.1.1.2,⟨hk.1.2,hk.2⟩⟩⟩,hk.1.1.1.2⟩)))))
           (case aF=>exact(fun k_ hk=>⟨(Nat.le_trans (keep_size (w:=w) (g:=g) (row:=none) (qh (w:=w) (g:=g))) hk),Kd.freshB (g:=Ae) (o:=.cells #[.int .i64 0,.slice none 0 0] 32 (0,0)) (qk Ad.out) k_ hk,Kd.freshB (g:=Ag) (o:=.cells #[.int .i64 1,Af] 32 (0,0)) (qk Ac.out) k_ hk,y2.fresh (y2.qj (w0:=w0) (g:=g)) k_ hk⟩))
           (case aO=>exact(qN (Kd.N_mono Aa.out (fun _ hk=>⟨hk.1.1,⟨hk.1.2.1,⟨hk.1.2.2.1,hk.1.2.2.2⟩⟩⟩))))
           (case aS=>exact(keep_size (w:=w) (g:=g) (row:=none) (qh (w:=w) (g:=g))))
           (case aL=>have:=Gs.out;omega)
           intro Ol Kj ho hb hg hat
           rw [← Gt.out]at ho
           replace Ad:=y0.mk (blk_grown (qk Ad.out) hg (Kd.N_ne Aa.out Ad.out (by decide)))
           replace Ac:=y0.mk (blk_grown (qk Ac.out) hg (Kd.N_ne Aa.out Ac.out (by decide)))
           replace HI0:=y0.mk (y2.grown (y2.qj (w0:=w0) (g:=g)) hg (y2.own_neN HI0.out Aa.out (by decide)))
           replace HB:=y0.mk (below_weaken y2.qbI HL.out hb)
           replace HK:=y0.mk (y3.trans (qh (w:=w) (g:=g)) (y3.of_grown hg g) (Kd.N_base2 Aa.out))
           have Ej:=y0.mk (ho)
           clear Aa Cr
           clear ho hb hg hat
           obtain⟨Ek,El,Em⟩:=Kd.N_slice Ej.out
           (first|subst Em|(injection Em with f1_ f2_ f3_;have f4_:=f1_.symm;have f5_:=f3_.symm;clear f1_ f2_ f3_;subst f4_;subst f5_))
           refine hK.out _ _ ⟨(y11 Ac.out 0).trans rfl,(y11 Ac.out 1).trans rfl⟩ (fun hHeld=>?_)
           clear hK K
           refine qx 64 ?_
           refine qp 8 65 (fl_ 10 511) ?_
           refine last_ (i:=9) (N:=none) (fl_ 10 1023) rfl rfl (one_of HT_.out (by kernel_rfl)) (by decide) (fun K hK=>?_)
           have Na:Kj.cell? ⟨Ag,1,none⟩=some (Af):=(y11 Ac.out 1).trans rfl
           have Kk:=y15 Ac.out 1
           have Gw:=Ak.out
           have Gx:=Ba.out
           refine skip_ (w1:=?_) (by rfl) rfl ?_ ?_
           rotate_left
           ·go_simp
            rfl
           refine hK.out _ _ ?_
           clear hK K
           refine done_ (done_of HT_.out (by kernel_rfl)) ?_
           try go_wp2
           go_roundg k2
           case measure=>have:=Fq.out;have:=Fa.out;omega
           exact⟨(wrap64 (Bn + 1)),(De),(Df),(Dt),(.slice Ek Dt.length El),qy2,H',⟨by have:=Fq.out;have:=Fa.out;omega⟩,⟨qN (Kd.N_mono (Kd.N_far (p:=⟨Ag,1,none⟩) (Kd.N_mono Ej.out (fun k_ hk=>(⟨hk,hk.2.2.1⟩:_∧k_≠Ag))) (fun _ hk=>hk.2) (.slice Ek Dt.length El)) (fun _ hk=>⟨hk.1.1,⟨hk.1.2.1,⟨hk.1.2.2.1,hk.1.2.2.2⟩⟩⟩))⟩,⟨by(with_reducible repeat(first|refine y13 ?_ _|refine y12 ?_|refine y9 ?_ _));refine y14 ?_ Ak.out _;(with_reducible repeat(first|refine y13 ?_ _|refine y12 ?_|refine y9 ?_ _));exact Ad.out⟩,⟨by(with_reducible repeat(first|refine y13 ?_ _|refine y12 ?_|refine y9 ?_ _));refine y16 (cs:=#[.int .i64 1,Af]) ?_ 1 _ rfl;(with_reducible repeat(first|refine y13 ?_ _|refine y12 ?_|refine y9 ?_ _));exact Ac.out⟩,⟨(y2.qj (w0:=w0) (g:=g))⟩,⟨(qh (w:=w) (g:=g))⟩,⟨y2.qbI⟩⟩
          ·rw [if_neg Fu]at H
           have Gr:=decide_eq_false Fu
           clear Fu
           simp only [Option.some.injEq,Prod.mk.injEq]at H
           obtain⟨rfl,rfl,rfl,rfl⟩:=H
           go_wp2_with (first|((with_reducible refine y19 (f:=54) rfl ?_);refine y22 (some 52) rfl rfl Tryz.func54 (by kernel_rfl) rfl #[.pointer (some ⟨g,0,none⟩),.int .i64 3] rfl qy0 ?_;(with_reducible refine(z5_.calls g Av Ay Az 3 Fo De Df w0 _ (by repeat(first|(with_reducible first|exact HI0.out|apply y2.alloc|apply y2.drewN|apply y2.drew|apply y2.set_1|apply y2.set_2|refine y2.far ?_ Aq.out _|refine y2.far ?_ Al.out _)|exact HI0.out)) (by repeat(first|(with_reducible first|exact HB.out|apply y4|apply y23|apply y5|refine y6 ?_ (y2.ge HI0.out)|refine y6 ?_ Be.out|refine y6 ?_ Bf.out)|exact HB.out)) My.out).mono ?_);rintro e Om ⟨rfl,hi,hb,hk⟩;refine⟨_,rfl, ?_⟩;replace Aa:=y0.mk (Kd.N_mono (Kd.N_keep (Kd.N_mono (ok:=fun k_=>(((w.heap.size≤k_))∧(k_≠Ae∧(k_≠Ag∧k_≠g)))) (qN Aa.out) (fun k_ hk_=>(⟨hk_,hk_.2.2.2⟩:_∧k_≠g))) hk (fun _ h=>h.2)) (fun _ h=>h.1));replace Ad:=y0.mk (y3.blk hk (g':=Ae) (o:=.cells #[.int .i64 0,.slice none 0 0] 32 (0,0)) (qk Ad.out) Au.out (by simp));replace Ac:=y0.mk (y3.blk hk (g':=Ag) (o:=.cells #[.int .i64 1,Af] 32 (0,0)) (qk Ac.out) Am.out (by simp));replace HK:=y0.mk (y3.trans (qh (w:=w) (g:=g)) hk (.inl rfl));replace HB:=y0.mk (hb);replace HI0:=y0.mk (hi);(try clear hb hk hi);have Kl:=Ba.out;have Km:=Ak.out;have Kn:=Am.out;have Ko:=Al.out;obtain⟨Gy,Gz,Ha,Hb⟩:=qz2 Ac.out;have Kp:=Au.out;have Kq:=Aq.out;obtain⟨Hc,Hd,He,Hf⟩:=qz2 Ad.out;obtain⟨En,Eo,Hg⟩:=Kd.N_slice Aa.out;subst Hg))
           refine bodyPost_ret (results_cell_row rfl _ _ Ae 32 #[.int .i64 1,.slice En Bb.length Eo] (0,0) _ rfl (by(with_reducible repeat(first|refine y13 ?_ _|refine y12 ?_|refine y9 ?_ _));refine y16 (cs:=#[.int .i64 1,.slice none 0 0]) ?_ 1 _ rfl;(with_reducible repeat(first|refine y13 ?_ _|refine y12 ?_|refine y9 ?_ _));refine y16 (cs:=#[.int .i64 0,.slice none 0 0]) ?_ 0 _ rfl;(with_reducible repeat(first|refine y13 ?_ _|refine y12 ?_|refine y9 ?_ _));exact Ad.out) Tryz.underlying32 rfl (by kernel_rfl)) rfl ?_
           exact⟨_,by first|rfl|(simp [y17,y18] <;> rfl)|(simp [*,y17,y18] <;> rfl),by(with_reducible repeat(first|apply Kd.N_alloc|apply Kd.N_drewN|apply Kd.N_drew));exact Kd.N_mono (Kd.N_far (p:=⟨Ae,1,none⟩) (Kd.N_far (p:=⟨Ae,0,none⟩) (Kd.N_mono Aa.out (fun k_ hk=>(⟨hk,hk.2.1⟩:_∧k_≠Ae))) (fun _ hk=>hk.2) (.int .i64 1)) (fun _ hk=>hk.2) (.slice En Bb.length Eo)) (fun _ hk=>hk.1.1),(y2.qj (w0:=w0) (g:=g)),y2.qbI,(qh (w:=w) (g:=g))⟩
    ·replace Gf:=Bool.eq_false_iff.mpr Gf
     subst Gf
     replace H:=qF H
     simp only [Option.some.injEq,Prod.mk.injEq]at H
     obtain⟨rfl,rfl,rfl,rfl⟩:=H
     go_wp2_with (first|((with_reducible refine y19 (f:=67) rfl ?_);refine y22 (some 46) rfl rfl Tryz.func67 (by kernel_rfl) rfl #[.pointer (some ⟨g,0,none⟩),.int .i64 16] rfl qy0 ?_;(with_reducible refine(spec_l01Cur_once.calls g Av Bc Bd 16 false Bx Bz w0 _ (by repeat(first|(with_reducible first|exact HI0.out|apply y2.alloc|apply y2.drewN|apply y2.drew|apply y2.set_1|apply y2.set_2|refine y2.far ?_ Aq.out _|refine y2.far ?_ Al.out _)|exact HI0.out)) (by repeat(first|(with_reducible first|exact HB.out|apply y4|apply y23|apply y5|refine y6 ?_ (y2.ge HI0.out)|refine y6 ?_ Be.out|refine y6 ?_ Bf.out)|exact HB.out)) Ge.out).mono ?_);rintro e On ⟨rfl,hi,hb,hk⟩;refine⟨_,rfl, ?_⟩;replace Aa:=y0.mk (Kd.N_mono (Kd.N_keep (Kd.N_mono (ok:=fun k_=>(((w.heap.size≤k_))∧(k_≠Ae∧(k_≠Ag∧k_≠g)))) (qN Aa.out) (fun k_ hk_=>(⟨hk_,hk_.2.2.2⟩:_∧k_≠g))) hk (fun _ h=>h.2)) (fun _ h=>h.1));replace Ad:=y0.mk (y3.blk hk (g':=Ae) (o:=.cells #[.int .i64 0,.slice none 0 0] 32 (0,0)) (qk Ad.out) Au.out (by simp));replace Ac:=y0.mk (y3.blk hk (g':=Ag) (o:=.cells #[.int .i64 a1,Af] 32 (0,0)) (qk Ac.out) Am.out (by simp));replace HK:=y0.mk (y3.trans (qh (w:=w) (g:=g)) hk (.inl rfl));replace HB:=y0.mk (hb);replace HI0:=y0.mk (hi);(try clear hb hk hi);have Kr:=Ba.out;have Ks:=Ak.out;have Kt:=Am.out;have Ku:=Al.out;obtain⟨Hh,Hi,Hj,Hk⟩:=qz2 Ac.out;have Kv:=Au.out;have Kw:=Aq.out;obtain⟨Hl,Hm,Hn,Ho⟩:=qz2 Ad.out;obtain⟨Ep,Er,Hp⟩:=Kd.N_slice Aa.out;subst Hp))
     refine bodyPost_ret (results_cell_row rfl _ _ Ae 32 #[.int .i64 a1,.slice Ep Aj.length Er] (0,0) _ rfl (by(with_reducible repeat(first|refine y13 ?_ _|refine y12 ?_|refine y9 ?_ _));refine y16 (cs:=#[.int .i64 a1,.slice none 0 0]) ?_ 1 _ rfl;(with_reducible repeat(first|refine y13 ?_ _|refine y12 ?_|refine y9 ?_ _));refine y16 (cs:=#[.int .i64 0,.slice none 0 0]) ?_ 0 _ rfl;(with_reducible repeat(first|refine y13 ?_ _|refine y12 ?_|refine y9 ?_ _));exact Ad.out) Tryz.underlying32 rfl (by kernel_rfl)) rfl ?_
     exact⟨_,by first|rfl|(simp [y17,y18] <;> rfl)|(simp [*,y17,y18] <;> rfl),by(with_reducible repeat(first|apply Kd.N_alloc|apply Kd.N_drewN|apply Kd.N_drew));exact Kd.N_mono (Kd.N_far (p:=⟨Ae,1,none⟩) (Kd.N_far (p:=⟨Ae,0,none⟩) (Kd.N_mono Aa.out (fun k_ hk=>(⟨hk,hk.2.1⟩:_∧k_≠Ae))) (fun _ hk=>hk.2) (.int .i64 a1)) (fun _ hk=>hk.2) (.slice Ep Aj.length Er)) (fun _ hk=>hk.1.1),(y2.qj (w0:=w0) (g:=g)),y2.qbI,(qh (w:=w) (g:=g))⟩
end Go.Proofs.YtkajecadkkgfmaaGreatDoor.Pn
end
section
namespace Go.Proofs.YtkajecadkkgfmaaGreatDoor.Pn
open Go.RowKit Go.Proofs.YtkajecadkkgfmaaGreatDoorW.PrintWords Go.Proofs.YtkajecadkkgfmaaGreatDoorW.PrintLast Go.Proofs.YtkajecadkkgfmaaGreatDoorW.PrintMore
attribute [local go_sem] max2_int min2_int max_two min_two max_three min_three max_four min_four   -- for this text's walks alone
set_option linter.unusedVariables false
set_option linter.unusedSimpArgs false
def spec_DrawRelPut.j0:Nat→Int→Bool→List Int→Int→Int→Int→List (S36)→Option (Int×(List (S36))×List ByteArray)
 | 0,_,_,_,_,_,_,_=>none
 | k + 1,x5,x22,x661000,x661001,x661002,x671000,x671001=>if x22=true then((z5_.f x661000 x661001 x661002 (x671001.length:Int)).bind fun bt674=>(if 0≤bt674.1 then(if bt674.1 < (x671001.length:Int)then((spec_l02Tuple.f ((y24 x671001 bt674.1).f0)).bind fun t678=>(some (x671000,x671001,t678)))else(none))else(none)))else((z8_.f k x661000 x661001 x661002 x5).bind fun bt681=>(some (x671000,x671001,bt681.1)))
def spec_DrawRelPut.f (k:Nat) (l0:List Int):Option (Int×(List (S36))×List ByteArray):=(spec_l01Open.f l0).bind fun bt657=>((z5_.f bt657.1 bt657.2.1 bt657.2.2 3).bind fun bt661=>((z6_.f k bt657.1 bt661.2.1 bt661.2.2 bt661.1).bind fun bt664=>(if(bt664.2.1.length:Int) > 0 then((z5_.f bt657.1 bt664.2.2.1 bt664.2.2.2 3).bind fun bt671=>(spec_DrawRelPut.j0 k bt661.1 (bt671.1 == 0) bt657.1 bt671.2.1 bt671.2.2 bt664.1 bt664.2.1))else(spec_DrawRelPut.j0 k bt661.1 false bt657.1 bt664.2.2.1 bt664.2.2.2 bt664.1 bt664.2.1))))
def spec_DrawRelPut.T5:Bool×List (List Nat×List Nat):=(true,[([],[]),([],[]),([1],[1]),([],[]),([],[]),([4],[4]),([5],[5]),([3,6],[3,6]),([2,7],[2,7]),([8],[8]),([9,7],[9]),([0,10,0],[0]),([10,11,0,1,2,3,4,5,6,7,8,9,10,11],[10])])
def spec_DrawRelPut.B5:List Nat:=[0,0,2,0,0,16,48,120,254,510,1022,2047,4095]
theorem spec_DrawRelPut.tab5:rtab .any (opsOf Tryz.f24 5)=spec_DrawRelPut.T5:=by kernel_rfl
theorem spec_DrawRelPut.bits5:waitsOk spec_DrawRelPut.T5.2 spec_DrawRelPut.B5=true:=by kernel_rfl
set_option maxHeartbeats 8000000 in
set_option maxRecDepth 100000 in
theorem spec_DrawRelPut.calls (k:Nat) (A0:Option Addr) (c0:Nat) (l0:List Int) (r1:Int) (r2:List (S36)) (r3:List ByteArray) (w:World) (Fi:Kd.C (Kd.int .u8) w A0 l0.length l0) (Fj:l0.length≤c0) (h:spec_DrawRelPut.f k l0=some (r1,r2,r3)) :
  Calls Tryz.prog 24 #[.slice A0 l0.length c0] w fun e w'=>∃ v1_ v2_:Value,e=.returned (.tuple #[.agg #[.int .i64 r1,v1_],.agg #[v2_]])∧Kd.N k36 36 w' w.heap.size (fun k_=>(w.heap.size≤k_)∧some k_≠(v2_:Value).ownBlock) v1_ r2∧Kd.R Kd.string 9 w' w.heap.size (fun k_=>(w.heap.size≤k_)) v2_ r3∧Below w.heap.size w w':=by
 have Gr:=Tryz.underlying32
 have Gs:=Tryz.underlying36
 have Gt:=y0.mk Fi
 have Gu:=y0.mk Fj
 clear Fi Fj
 have HB:=y0.mk (Below.refl w.heap.size w)
 have H:((spec_l01Open.f l0).bind fun Bp=>((z5_.f Bp.1 Bp.2.1 Bp.2.2 3).bind fun Bx=>((z6_.f k Bp.1 Bx.2.1 Bx.2.2 Bx.1).bind fun Bn=>(if(Bn.2.1.length:Int) > 0 then((z5_.f Bp.1 Bn.2.2.1 Bn.2.2.2 3).bind fun Cf=>(spec_DrawRelPut.j0 k Bx.1 (Cf.1 == 0) Bp.1 Cf.2.1 Cf.2.2 Bn.1 Bn.2.1))else(spec_DrawRelPut.j0 k Bx.1 false Bp.1 Bn.2.2.1 Bn.2.2.2 Bn.1 Bn.2.1)))))=some (r1,r2,r3):=h
 clear h
 obtain⟨⟨Bq,Dh,Di⟩,A2,H⟩:=qB H
 dsimp only at H
 obtain⟨⟨Ca,Dj,Dk⟩,A3,H⟩:=qB H
 dsimp only at H
 obtain⟨⟨Bd,Ap,Cg,Ch⟩,A4,H⟩:=qB H
 dsimp only at H
 have Ez:=y0.mk H
 clear H
 go_enter Tryz.func24,Tryz.ntmps24
 go_upto_region 4 with(first|((with_reducible refine y20 (N:=2) rfl ?_);refine qe 2 #[.int .i64 0,.slice none 0 0] 32 ?_;intro Ae hg w6 hbox hb;have Ad:=y0.mk (hbox);have Fk:=y0.mk (qg (w:=w) hg);have Ay:=y0.mk (qg (w:=w) hg);replace HB:=y0.mk (y8 qb hb);clear hb hbox hg)|((with_reducible refine y20 (N:=3) rfl ?_);refine qe 3 #[.slice none 0 0] 36 ?_;intro Ak hg w7 hbox hb;have Af:=y0.mk (hbox);have Fl:=y0.mk (qg (w:=w) hg);have Az:=y0.mk (qg (w:=w) hg);replace HB:=y0.mk (y8 qb hb);have Ba:=y0.mk (qn Ad.out hg);have Am:=y0.mk (qm Ad.out hg);replace Ad:=y0.mk (qK Ad.out hb);clear hb hbox hg)|((with_reducible refine y19 (f:=52) rfl ?_);refine y22 (some 8) rfl rfl Tryz.func52 (by kernel_rfl) rfl #[.slice A0 l0.length c0] rfl qy0 ?_;(with_reducible refine(spec_l01Open.calls _ _ l0 Bq Dh Di w _ (by repeat(first|(with_reducible first|exact HB.out|apply y4|apply y23|apply y5|refine y6 ?_ Ay.out|refine y6 ?_ Az.out)|exact HB.out)) Gt.out Gu.out A2.out).mono ?_);rintro e w8 ⟨Bb,rfl,hi,hb,Cw⟩;refine⟨_,rfl, ?_⟩;replace HB:=y0.mk (hb);have Ac:=y0.mk (hi);have Ai:=y0.mk (y2.ne_blk hi (qK Ad.out Cw) (by decide));have Be:=y0.mk (Ne.symm (y2.ne_blk hi (qK Ad.out Cw) (by decide)));replace Ad:=y0.mk (qK Ad.out Cw);have Aj:=y0.mk (y2.ne_blk hi (qK Af.out Cw) (by decide));have Bf:=y0.mk (Ne.symm (y2.ne_blk hi (qK Af.out Cw) (by decide)));replace Af:=y0.mk (qK Af.out Cw);(try clear hb Cw hi))|((with_reducible refine y19 (f:=54) rfl ?_);refine y22 (some 10) rfl rfl Tryz.func54 (by kernel_rfl) rfl #[.pointer (some ⟨Bb,0,none⟩),.int .i64 3] rfl qy0 ?_;(with_reducible refine(z5_.calls Bb Bq Dh Di 3 Ca Dj Dk w _ (by repeat(first|(with_reducible first|exact Ac.out|apply y2.alloc|apply y2.drewN|apply y2.drew|apply y2.set_1|apply y2.set_2|refine y2.far ?_ Ai.out _|refine y2.far ?_ Aj.out _)|exact Ac.out)) (by repeat(first|(with_reducible first|exact HB.out|apply y4|apply y23|apply y5|refine y6 ?_ (y2.ge Ac.out)|refine y6 ?_ Ay.out|refine y6 ?_ Az.out)|exact HB.out)) A3.out).mono ?_);rintro e w9 ⟨rfl,hi,hb,hk⟩;refine⟨_,rfl, ?_⟩;replace Ad:=y0.mk (y3.blk hk (g':=Ae) (o:=.cells #[.int .i64 0,.slice none 0 0] 32 (0,0)) (qk Ad.out) Be.out (by simp));replace Af:=y0.mk (y3.blk hk (g':=Ak) (o:=.cells #[.slice none 0 0] 36 (0,0)) (qk Af.out) Bf.out (by simp));replace HB:=y0.mk (hb);replace Ac:=y0.mk (hi);(try clear hb hk hi))|((with_reducible refine y19 (f:=53) rfl ?_);refine y22 (some 13) rfl rfl Tryz.func53 (by kernel_rfl) rfl #[.pointer (some ⟨Bb,0,none⟩),.int .i64 Ca] rfl qy0 ?_;(with_reducible refine(z6_.calls k Bb Bq Dj Dk Ca Bd Ap Cg Ch w _ (by repeat(first|(with_reducible first|exact Ac.out|apply y2.alloc|apply y2.drewN|apply y2.drew|apply y2.set_1|apply y2.set_2|refine y2.far ?_ Ai.out _|refine y2.far ?_ Aj.out _)|exact Ac.out)) (by repeat(first|(with_reducible first|exact HB.out|apply y4|apply y23|apply y5|refine y6 ?_ (y2.ge Ac.out)|refine y6 ?_ Ay.out|refine y6 ?_ Az.out)|exact HB.out)) A4.out).mono ?_);rintro e Hk ⟨Gv,rfl,Ci,hi,hb,hk⟩;refine⟨_,rfl, ?_⟩;have Br:=y0.mk (Kd.N_lower (Kd.N_mono (ok':=fun k_=>(w.heap.size≤k_)∧k_≠Ae∧k_≠Ak∧k_≠Bb) Ci (fun k_ hk_=>⟨(Nat.le_trans (y7 (by repeat(first|(with_reducible first|exact HB.out|apply y4|apply y23|apply y5|refine y6 ?_ (y2.ge Ac.out)|refine y6 ?_ Ay.out|refine y6 ?_ Az.out)|exact HB.out))) hk_),(Kd.freshB (g:=Ae) (o:=.cells #[.int .i64 0,.slice none 0 0] 32 (0,0)) (qk Ad.out) k_ hk_),(Kd.freshB (g:=Ak) (o:=.cells #[.slice none 0 0] 36 (0,0)) (qk Af.out) k_ hk_),(y2.fresh (by repeat(first|(with_reducible first|exact Ac.out|apply y2.alloc|apply y2.drewN|apply y2.drew|apply y2.set_1|apply y2.set_2|refine y2.far ?_ Ai.out _|refine y2.far ?_ Aj.out _)|exact Ac.out)) k_ hk_)⟩)) (y7 (by repeat(first|(with_reducible first|exact HB.out|apply y4|apply y23|apply y5|refine y6 ?_ (y2.ge Ac.out)|refine y6 ?_ Ay.out|refine y6 ?_ Az.out)|exact HB.out))));replace Ad:=y0.mk (y3.blk hk (g':=Ae) (o:=.cells #[.int .i64 0,.slice none 0 0] 32 (0,0)) (qk Ad.out) Be.out (by simp));replace Af:=y0.mk (y3.blk hk (g':=Ak) (o:=.cells #[.slice none 0 0] 36 (0,0)) (qk Af.out) Bf.out (by simp));replace HB:=y0.mk (hb);replace Ac:=y0.mk (hi);(try clear hb hk hi);(try clear Ci))|((with_reducible refine y20 (N:=6) rfl ?_);refine qe 6 #[.int .i64 0,.slice none 0 0] 32 ?_;intro Aq hg Hl hbox hb;replace Br:=y0.mk (Kd.N_below (Kd.N_elderB (qN Br.out) Aq (Nat.le_of_eq hg.symm)) hb);have Ah:=y0.mk (hbox);have Fm:=y0.mk ((by rw [hg];exact(y7 (by repeat(first|(with_reducible first|exact HB.out|apply y4|apply y23|apply y5|refine y6 ?_ (y2.ge Ac.out)|refine y6 ?_ Ay.out|refine y6 ?_ Az.out)|exact HB.out))):w.heap.size≤Aq));have Bj:=y0.mk ((by rw [hg];exact(y7 (by repeat(first|(with_reducible first|exact HB.out|apply y4|apply y23|apply y5|refine y6 ?_ (y2.ge Ac.out)|refine y6 ?_ Ay.out|refine y6 ?_ Az.out)|exact HB.out))):w.heap.size≤Aq));replace HB:=y0.mk (y8 (by repeat(first|(with_reducible first|exact HB.out|apply y4|apply y23|apply y5|refine y6 ?_ (y2.ge Ac.out)|refine y6 ?_ Ay.out|refine y6 ?_ Az.out)|exact HB.out)) hb);have Al:=y0.mk (qn Ad.out hg);have Ag:=y0.mk (qm Ad.out hg);replace Ad:=y0.mk (qK Ad.out hb);have Au:=y0.mk (qn Af.out hg);have Av:=y0.mk (qm Af.out hg);replace Af:=y0.mk (qK Af.out hb);have Aw:=y0.mk ((by rw [hg];exact Nat.ne_of_lt (y2.lt (show y2 w _ Bb Bq Cg Ch from by repeat(first|(with_reducible first|exact Ac.out|apply y2.alloc|apply y2.drewN|apply y2.drew|apply y2.set_1|apply y2.set_2|refine y2.far ?_ Ai.out _|refine y2.far ?_ Aj.out _)|exact Ac.out))):Bb≠Aq));have Bc:=y0.mk ((by rw [hg];exact Nat.ne_of_gt (y2.lt (show y2 w _ Bb Bq Cg Ch from by repeat(first|(with_reducible first|exact Ac.out|apply y2.alloc|apply y2.drewN|apply y2.drew|apply y2.set_1|apply y2.set_2|refine y2.far ?_ Ai.out _|refine y2.far ?_ Aj.out _)|exact Ac.out))):Aq≠Bb));replace Ac:=y0.mk (y2.below (by repeat(first|(with_reducible first|exact Ac.out|apply y2.alloc|apply y2.drewN|apply y2.drew|apply y2.set_1|apply y2.set_2|refine y2.far ?_ Ai.out _|refine y2.far ?_ Aj.out _)|exact Ac.out)) hb);clear hb hbox hg;have Fn:=Ag.out;have Fo:=Al.out;have Fp:=Av.out;have Fq:=Au.out;have Fr:=Bc.out;have Fs:=Aw.out;obtain⟨Cn,Co,Cp,Cq⟩:=qz2 Ah.out;obtain⟨Bt,Bl,Fa⟩:=Kd.N_slice Br.out;subst Fa))
 (try simp only [Act.put,qS_,qZ_,qC_])
 go_cut [22] (fun Gw wc=>∃(kq:Nat) (Cb:Bool) (Bg:Int) (Bh:Int),Gw=.bool Cb∧y0 (spec_DrawRelPut.j0 kq Ca Cb Bq Bg Bh Bd Ap=some (r1,r2,r3))∧y0 (kq≤k)∧y0 (Kd.N k36 36 wc w.heap.size (fun k_=>(w.heap.size≤k_)∧k_≠Ae∧k_≠Ak∧k_≠Aq∧k_≠Bb) (.slice Bt Ap.length Bl) Ap)∧y0 (wc.heap[Ae]?=some (.cells #[.int .i64 0,(.slice none 0 0)] 32 (0,0)))∧y0 (wc.heap[Ak]?=some (.cells #[(.slice none 0 0)] 36 (0,0)))∧y0 (wc.heap[Aq]?=some (.cells #[.int .i64 Bd,(.slice Bt Ap.length Bl)] 32 (0,0)))∧y0 (y2 w wc Bb Bq Bg Bh)∧y0 (Below w.heap.size w wc))
 case first =>
  have H:=Ez.out
  clear Ez
  by_cases Dg:(Ap.length:Int) > 0
  ·rw [if_pos Dg]at H
   have Bz:decide (0 < (Ap.length:Int))=true:=decide_eq_true Dg
   have Dl:decide (0 < Ap.length)=true:=decide_eq_true (by omega)
   clear Dg
   (first|rw [Bz]|(simp only [i64_w,i32_w];rw [Bz])|skip)
   obtain⟨⟨Cx,Cy,Cz⟩,Gx,H⟩:=qB H
   replace H:(spec_DrawRelPut.j0 k Ca (Cx == 0) Bq Cy Cz Bd Ap)=some (r1,r2,r3):=H
   have H':=y0.mk H
   clear H
   have Ft:=Ag.out
   have Fu:=Al.out
   have Fv:=Av.out
   have Fw:=Au.out
   have Fx:=Bc.out
   have Fy:=Aw.out
   obtain⟨Do,Dp,Dq,Dr⟩:=qz2 Ah.out
   go_wp2_with (first|(go_at_call 54;(with_reducible refine(z5_.calls Bb Bq Cg Ch 3 Cx Cy Cz w _ (by repeat(first|(with_reducible first|exact Ac.out|apply y2.alloc|apply y2.drewN|apply y2.drew|apply y2.set_1|apply y2.set_2|refine y2.far ?_ Ai.out _|refine y2.far ?_ Aj.out _|refine y2.far ?_ Aw.out _)|exact Ac.out)) (by repeat(first|(with_reducible first|exact HB.out|apply y4|apply y23|apply y5|refine y6 ?_ (y2.ge Ac.out)|refine y6 ?_ Ay.out|refine y6 ?_ Az.out|refine y6 ?_ Bj.out)|exact HB.out)) Gx.out).mono ?_);rintro e Hm ⟨rfl,hi,hb,hk⟩;replace Ad:=y0.mk (y3.blk hk (g':=Ae) (o:=.cells #[.int .i64 0,.slice none 0 0] 32 (0,0)) (by(with_reducible repeat(first|refine y13 ?_ _|refine y12 ?_|refine y9 ?_ _));refine y14 ?_ Al.out _;(with_reducible repeat(first|refine y13 ?_ _|refine y12 ?_|refine y9 ?_ _));refine y14 ?_ Al.out _;(with_reducible repeat(first|refine y13 ?_ _|refine y12 ?_|refine y9 ?_ _));exact Ad.out) Be.out (by simp));replace Af:=y0.mk (y3.blk hk (g':=Ak) (o:=.cells #[.slice none 0 0] 36 (0,0)) (by(with_reducible repeat(first|refine y13 ?_ _|refine y12 ?_|refine y9 ?_ _));refine y14 ?_ Au.out _;(with_reducible repeat(first|refine y13 ?_ _|refine y12 ?_|refine y9 ?_ _));refine y14 ?_ Au.out _;(with_reducible repeat(first|refine y13 ?_ _|refine y12 ?_|refine y9 ?_ _));exact Af.out) Bf.out (by simp));replace Br:=y0.mk (Kd.N_mono (Kd.N_keep (Kd.N_mono (ok:=fun k_=>((((w.heap.size≤k_))∧(k_≠Ae∧(k_≠Ak∧k_≠Bb)))∧k_≠Aq)) (qN ((Kd.N_mono (Kd.N_far (p:=⟨Aq,1,none⟩) (Kd.N_far (p:=⟨Aq,0,none⟩) (Kd.N_mono Br.out (fun k_ hk=>(⟨hk,hk.2⟩:_∧k_≠Aq))) (fun _ hk=>hk.2) (.int .i64 Bd)) (fun _ hk=>hk.2) (.slice Bt Ap.length Bl)) (fun _ h_=>h_.1)))) (fun k_ hk_=>(⟨hk_,hk_.1.2.2.2⟩:_∧k_≠Bb))) hk (fun _ h=>h.2)) (fun _ h=>h.1));replace Ah:=y0.mk (y3.blk hk (g':=Aq) (o:=.cells #[.int .i64 Bd,.slice Bt Ap.length Bl] 32 (0,0)) (by(with_reducible repeat(first|refine y13 ?_ _|refine y12 ?_|refine y9 ?_ _));refine y16 (cs:=#[.int .i64 Bd,.slice none 0 0]) ?_ 1 _ rfl;(with_reducible repeat(first|refine y13 ?_ _|refine y12 ?_|refine y9 ?_ _));refine y16 (cs:=#[.int .i64 0,.slice none 0 0]) ?_ 0 _ rfl;(with_reducible repeat(first|refine y13 ?_ _|refine y12 ?_|refine y9 ?_ _));exact Ah.out) Bc.out (by simp));replace HB:=y0.mk (hb);replace Ac:=y0.mk (hi);(try clear hb hk hi)))
   go_meet
   exact⟨_,((Cx == 0)),(Cy),(Cz),qy2,H',⟨by first|omega|exact Nat.le_refl _⟩,⟨qN (Kd.N_mono Br.out (fun _ hk=>⟨hk.1.1,⟨hk.1.2.1,⟨hk.1.2.2.1,⟨hk.2,hk.1.2.2.2⟩⟩⟩⟩))⟩,⟨qk Ad.out⟩,⟨qk Af.out⟩,⟨qk Ah.out⟩,⟨by repeat(first|(with_reducible first|exact Ac.out|apply y2.alloc|apply y2.drewN|apply y2.drew|apply y2.set_1|apply y2.set_2|refine y2.far ?_ Ai.out _|refine y2.far ?_ Aj.out _|refine y2.far ?_ Aw.out _)|exact Ac.out)⟩,⟨by repeat(first|(with_reducible first|exact HB.out|apply y4|apply y23|apply y5|refine y6 ?_ (y2.ge Ac.out)|refine y6 ?_ Ay.out|refine y6 ?_ Az.out|refine y6 ?_ Bj.out)|exact HB.out)⟩⟩
  ·rw [if_neg Dg]at H
   have Bz:decide (0 < (Ap.length:Int))=false:=decide_eq_false Dg
   have Dl:decide (0 < Ap.length)=false:=decide_eq_false (by omega)
   clear Dg
   (first|rw [Bz]|(simp only [i64_w,i32_w];rw [Bz])|skip)
   have H':=y0.mk H
   clear H
   have Fz:=Ag.out
   have Ga:=Al.out
   have Gb:=Av.out
   have Gc:=Au.out
   have Gd:=Bc.out
   have Ge:=Aw.out
   obtain⟨Ds,Dt,Du,Dv⟩:=qz2 Ah.out
   go_wp2
   go_meet
   exact⟨_,(false),(Cg),(Ch),qy2,H',⟨by first|omega|exact Nat.le_refl _⟩,⟨qN (Kd.N_mono (Kd.N_far (p:=⟨Aq,1,none⟩) (Kd.N_far (p:=⟨Aq,0,none⟩) (Kd.N_mono Br.out (fun k_ hk=>(⟨hk,hk.2⟩:_∧k_≠Aq))) (fun _ hk=>hk.2) (.int .i64 Bd)) (fun _ hk=>hk.2) (.slice Bt Ap.length Bl)) (fun _ hk=>⟨hk.1.1.1,⟨hk.1.1.2.1,⟨hk.1.1.2.2.1,⟨hk.1.2,hk.1.1.2.2.2⟩⟩⟩⟩))⟩,⟨by(with_reducible repeat(first|refine y13 ?_ _|refine y12 ?_|refine y9 ?_ _));refine y14 ?_ Al.out _;(with_reducible repeat(first|refine y13 ?_ _|refine y12 ?_|refine y9 ?_ _));refine y14 ?_ Al.out _;(with_reducible repeat(first|refine y13 ?_ _|refine y12 ?_|refine y9 ?_ _));exact Ad.out⟩,⟨by(with_reducible repeat(first|refine y13 ?_ _|refine y12 ?_|refine y9 ?_ _));refine y14 ?_ Au.out _;(with_reducible repeat(first|refine y13 ?_ _|refine y12 ?_|refine y9 ?_ _));refine y14 ?_ Au.out _;(with_reducible repeat(first|refine y13 ?_ _|refine y12 ?_|refine y9 ?_ _));exact Af.out⟩,⟨by(with_reducible repeat(first|refine y13 ?_ _|refine y12 ?_|refine y9 ?_ _));refine y16 (cs:=#[.int .i64 Bd,.slice none 0 0]) ?_ 1 _ rfl;(with_reducible repeat(first|refine y13 ?_ _|refine y12 ?_|refine y9 ?_ _));refine y16 (cs:=#[.int .i64 0,.slice none 0 0]) ?_ 0 _ rfl;(with_reducible repeat(first|refine y13 ?_ _|refine y12 ?_|refine y9 ?_ _));exact Ah.out⟩,⟨by repeat(first|(with_reducible first|exact Ac.out|apply y2.alloc|apply y2.drewN|apply y2.drew|apply y2.set_1|apply y2.set_2|refine y2.far ?_ Ai.out _|refine y2.far ?_ Aj.out _|refine y2.far ?_ Aw.out _)|exact Ac.out)⟩,⟨by repeat(first|(with_reducible first|exact HB.out|apply y4|apply y23|apply y5|refine y6 ?_ (y2.ge Ac.out)|refine y6 ?_ Ay.out|refine y6 ?_ Az.out|refine y6 ?_ Bj.out)|exact HB.out)⟩⟩
 case rest =>
  clear Ez
  (try clear Cn Co Cp Cq)
  obtain⟨kq,Cb,Bg,Bh,rfl,HA,Hn,Aa,Ad,Af,Ah,Ac,HB⟩:=hcut
  cases kq with
  | zero=>exact absurd HA.out (by simp [spec_DrawRelPut.j0])
  | succ Gy =>
   have H:=HA.out
   clear HA
   simp only [spec_DrawRelPut.j0]at H
   by_cases Dw:Cb=true
   ·subst Dw
    replace H:=qT H
    obtain⟨⟨Bm,Fb,Fc⟩,Gz,H⟩:=qB H
    replace H:(if 0≤Bm then(if Bm < (Ap.length:Int)then((spec_l02Tuple.f ((y24 Ap Bm).f0)).bind fun Ce=>(some (Bd,Ap,Ce)))else(none))else(none))=some (r1,r2,r3):=H
    obtain⟨Gf,H⟩:=qo H
    have Gg:decide (0≤Bm)=true:=decide_eq_true Gf
    clear Gf
    obtain⟨Gh,H⟩:=qo H
    have Gi:decide (Bm < (Ap.length:Int))=true:=decide_eq_true Gh
    clear Gh
    obtain⟨Ce,Ha,H⟩:=qB H
    simp only [Option.some.injEq,Prod.mk.injEq]at H
    obtain⟨rfl,rfl,rfl⟩:=H
    try go_wp2
    replace Aa:=y0.mk (Kd.N_drew Aa.out)
    replace Ad:=y0.mk (y12 Ad.out)
    replace Af:=y0.mk (y12 Af.out)
    replace Ah:=y0.mk (y12 Ah.out)
    replace Ac:=y0.mk (y2.drew Ac.out)
    replace HB:=y0.mk (y5 HB.out)
    have Cr:0≤(Bm:Int):=of_decide_eq_true qy1
    have Cs:Bm < (Ap.length:Int):=of_decide_eq_true qy1
    obtain⟨Bs,Cj,Ck,Fd,Bu,Cc,Cd⟩:=at_T36 (Kd.N_reads' Aa.out).2.2 Bm Cr Cs
    cases Fd
    obtain⟨Gj,Da,Db,Cl⟩:=Kd.N_get Aa.out z36 Bm Cr (by first|exact Cs|exact of_decide_eq_true qy1|(have e_:=(Kd.N_reads' Aa.out).1;omega))
    obtain⟨Dx,Dy,rfl,Bv,Bw⟩:=k36_openF Db
    have Bo:=Cl 0 _ rfl
    rw [Nat.add_zero,show(k36).sz=1 from rfl,Nat.mul_one]at Bo
    replace Bo:=Option.some.inj (Bo.symm.trans Bu)
    injection Bo with hva_ hvn_ hvc_
    rw [hva_]at Bw
    rw [hvc_]at Bv
    have Bk:=y0.mk (show Kd.V Kd.string 9 _ w.heap.size _ _ ((y24 Ap Bm).f0)from Kd.V_mk Bv Bw)
    clear hva_ hvn_ hvc_ Bw Bv
    clear Cl Da
    have Bi:=y0.mk Cd
    have Ct:=y0.mk Cc
    clear Cd Cc
    replace Cr:=eq_true Cr
    replace Cs:=eq_true Cs
    refine start_ (n:=13) (S:=fun w'=>w'.cell? ⟨Aq,0,none⟩=some (.int .i64 Bd)∧w'.cell? ⟨Aq,1,none⟩=some (.slice (some Bs) Ap.length Bl)∧w'.cell? (Bs.add (Bm).toNat)=some (.slice Cj ((y24 Ap Bm).f0).length Ck)) (ds:=[]) (fl_ 13 0) (by kernel_rfl) rfl rfl ⟨(y11 Ah.out 0).trans rfl,(y11 Ah.out 1).trans rfl,Bu⟩ (fun hHeld=>?_);refine with_tabW spec_DrawRelPut.tab5 spec_DrawRelPut.bits5 (fun HT_ HW_=>?_)
    generalize wc.drew=Ho at Aa Ad Af Ah Ac HB Bk Bi Bu hHeld ⊢
    refine qp 1 24 (fl_ 13 2) ?_
    refine qp 3 26 (fl_ 13 10) ?_
    refine qp 4 27 (fl_ 13 26) ?_
    refine qt 0 23 (fl_ 13 27) hHeld ?_
    refine qt 2 25 (fl_ 13 31) hHeld ?_
    refine qt 5 28 (fl_ 13 63) hHeld ?_
    refine qp 6 29 (fl_ 13 127) ?_
    refine qO 7 30 (fl_ 13 255) (fun K hK=>?_)
    refine goes_ Tryz.func54 (by kernel_rfl) rfl #[.pointer (some ⟨Bb,0,none⟩),.int .i64 (Ap.length:Int)] (by rfl) rfl rfl qy0 ?_
    with_reducible refine(z5_.calls Bb Bq Bg Bh (Ap.length:Int) Bm Fb Fc w _ (by repeat(first|(with_reducible first|exact Ac.out|apply y2.alloc|apply y2.drewN|apply y2.drew|apply y2.set_1|apply y2.set_2|refine y2.far ?_ Ai.out _|refine y2.far ?_ Aj.out _|refine y2.far ?_ Aw.out _)|exact Ac.out)) (by repeat(first|(with_reducible first|exact HB.out|apply y4|apply y23|apply y5|refine y6 ?_ (y2.ge Ac.out)|refine y6 ?_ Ay.out|refine y6 ?_ Az.out|refine y6 ?_ Bj.out)|exact HB.out)) Gz.out).mono ?_
    rintro e Hp ⟨rfl,hi,hb,hk⟩
    have HS2_:=keep_cell hk (hHeld.2.2) (by first|(rw [add_block];exact Kd.own_blk (y2.own_neN Ac.out Aa.out (by decide)))|(show(Addr.add _ _).block≠_;rw [add_block];exact Kd.own_blk (y2.own_neN Ac.out Aa.out (by decide)))|exact Kd.own_blk (y2.own_neN Ac.out Aa.out (by decide)))
    refine⟨_,rfl, ?_⟩
    replace Bk:=y0.mk (Kd.V_mono (Kd.V_keep (Kd.V_mono (ok:=fun k_=>(((w.heap.size≤k_))∧(k_≠Ae∧(k_≠Ak∧(k_≠Aq∧k_≠Bb))))∧some k_≠(.slice (some Bs) Ap.length Bl:Value).ownBlock) Bk.out (fun k_ hk_=>(⟨hk_,hk_.1.2.2.2.2⟩:_∧k_≠Bb))) hk (fun _ h=>h.2)) (fun _ h=>h.1))
    replace Bi:=y0.mk (Kd.V_reads' Bk.out).2.2
    replace Aa:=y0.mk (Kd.N_mono (Kd.N_keep (Kd.N_mono (ok:=fun k_=>(((w.heap.size≤k_))∧(k_≠Ae∧(k_≠Ak∧(k_≠Aq∧k_≠Bb))))) (qN Aa.out) (fun k_ hk_=>(⟨hk_,hk_.2.2.2.2⟩:_∧k_≠Bb))) hk (fun _ h=>h.2)) (fun _ h=>h.1))
    replace Ad:=y0.mk (y3.blk hk (g':=Ae) (o:=.cells #[.int .i64 0,.slice none 0 0] 32 (0,0)) (qk Ad.out) Be.out (by simp))
    replace Af:=y0.mk (y3.blk hk (g':=Ak) (o:=.cells #[.slice none 0 0] 36 (0,0)) (qk Af.out) Bf.out (by simp))
    replace Ah:=y0.mk (y3.blk hk (g':=Aq) (o:=.cells #[.int .i64 Bd,.slice (some Bs) Ap.length Bl] 32 (0,0)) (qk Ah.out) Bc.out (by simp))
    replace HB:=y0.mk (hb)
    replace Ac:=y0.mk (hi)
    (try clear hb hk hi)
    refine hK.out _ _ ⟨(y11 Ah.out 0).trans rfl,(y11 Ah.out 1).trans rfl,HS2_⟩ (fun hHeld=>?_)
    clear hK K
    refine qx 30 ?_
    refine qp 8 31 (fl_ 13 511) ?_
    refine qt 9 32 (fl_ 13 1023) hHeld ?_
    refine qO 10 33 (fl_ 13 2047) (fun K hK=>?_)
    refine goes_ Tryz.func58 (by kernel_rfl) rfl #[.agg #[.slice Cj ((y24 Ap Bm).f0).length Ck]] (by rfl) rfl rfl qy0 ?_
    with_reducible refine(spec_l02Tuple.calls _ _ ((y24 Ap Bm).f0) Ce _ (qc (by repeat(first|(with_reducible exact Bi.out)|(with_reducible refine Kd.C_alloc ?_ _)|(with_reducible refine Kd.C_drewN ?_ _)|(with_reducible refine Kd.C_drew ?_)|exact Bi.out))) Ct.out Ha.out).mono ?_
    rintro e Fe ⟨Hb,rfl,Ci,hb⟩
    have HS2_:=(hb.cell (World.block_lt_of_cell? _ _ (hHeld.2.2))).trans (hHeld.2.2)
    refine⟨_,rfl, ?_⟩
    replace Aa:=y0.mk (Kd.N_elder' (qN Aa.out) (Kd.R_base Ci) hb)
    replace Bk:=y0.mk (Kd.V_elder' (qV Bk.out) (Kd.R_base Ci) hb)
    have Cu:=y0.mk (Kd.R_lower (Kd.R_newM (M:=fun k_=>(w.heap.size≤k_)) Ci (y7 (by repeat(first|(with_reducible first|exact HB.out|apply y4|apply y23|apply y5|refine y6 ?_ (y2.ge Ac.out)|refine y6 ?_ Ay.out|refine y6 ?_ Az.out|refine y6 ?_ Bj.out)|exact HB.out))) (fun k_ h_=>h_)) (y7 (by repeat(first|(with_reducible first|exact HB.out|apply y4|apply y23|apply y5|refine y6 ?_ (y2.ge Ac.out)|refine y6 ?_ Ay.out|refine y6 ?_ Az.out|refine y6 ?_ Bj.out)|exact HB.out))))
    replace Ad:=y0.mk (qK Ad.out hb)
    replace Af:=y0.mk (qK Af.out hb)
    replace Ah:=y0.mk (qK Ah.out hb)
    replace Bi:=y0.mk (Kd.C_below (by repeat(first|(with_reducible exact Bi.out)|(with_reducible refine Kd.C_alloc ?_ _)|(with_reducible refine Kd.C_drewN ?_ _)|(with_reducible refine Kd.C_drew ?_)|exact Bi.out)) hb)
    replace HB:=y0.mk (y8 (by repeat(first|(with_reducible first|exact HB.out|apply y4|apply y23|apply y5|refine y6 ?_ (y2.ge Ac.out)|refine y6 ?_ Ay.out|refine y6 ?_ Az.out|refine y6 ?_ Bj.out)|exact HB.out)) hb)
    replace Ac:=y0.mk (y2.below (by repeat(first|(with_reducible first|exact Ac.out|apply y2.alloc|apply y2.drewN|apply y2.drew|apply y2.set_1|apply y2.set_2|refine y2.far ?_ Ai.out _|refine y2.far ?_ Aj.out _|refine y2.far ?_ Aw.out _)|exact Ac.out)) hb)
    (try clear hb)
    (try clear Ci)
    obtain⟨Dc,Dd,Dm⟩:=Kd.R_slice Cu.out
    (first|subst Dm|(injection Dm with f1_ f2_ f3_;have f4_:=f1_.symm;have f5_:=f3_.symm;clear f1_ f2_ f3_;subst f4_;subst f5_))
    refine hK.out _ _ ⟨(y11 Ah.out 0).trans rfl,(y11 Ah.out 1).trans rfl,HS2_⟩ (fun hHeld=>?_)
    clear hK K
    refine qx 33 ?_
    refine one_ (i:=11) (N:=none) (fl_ 13 4095) rfl rfl (one_of HT_.out (by kernel_rfl)) (by decide) (fun K hK=>?_)
    have Hc:Fe.cell? ⟨Ae,0,none⟩=some (.int .i64 0):=(y11 Ad.out 0).trans rfl
    have Gk:=y15 Ad.out 0
    have Dz:=Am.out
    have Ea:=Ag.out
    have Eb:=Ba.out
    have Ec:=Al.out
    have Hd:Fe.cell? ⟨Ae,1,none⟩=some (.slice none 0 0):=(y11 Ad.out 1).trans rfl
    have Gl:=y15 Ad.out 1
    have Ed:=Am.out
    have Ee:=Ag.out
    have Ef:=Ba.out
    have Eg:=Al.out
    refine skip_ (w1:=?_) (by rfl) rfl ?_ ?_
    rotate_left
    ·go_simp
     rfl
    refine hK.out _ _ ⟨((cell_far (p:=⟨Ae,_,none⟩) Ag.out _).trans (((cell_far (p:=⟨Ae,_,none⟩) Ag.out _).trans (hHeld.1)))),((cell_far (p:=⟨Ae,_,none⟩) Ag.out _).trans (((cell_far (p:=⟨Ae,_,none⟩) Ag.out _).trans (hHeld.2.1)))),((cell_far (p:=⟨Ae,_,none⟩) (by first|exact Kd.own_blk (Kd.N_away Aa.out (fun _ hk=>hk.1.2.1))|(rw [add_block];exact Kd.own_blk (Kd.N_away Aa.out (fun _ hk=>hk.1.2.1)))|(show(Addr.add _ _).block≠_;rw [add_block];exact Kd.own_blk (Kd.N_away Aa.out (fun _ hk=>hk.1.2.1)))|(dsimp only;exact Kd.own_blk (Kd.N_away Aa.out (fun _ hk=>hk.1.2.1)))) _).trans (((cell_far (p:=⟨Ae,_,none⟩) (by first|exact Kd.own_blk (Kd.N_away Aa.out (fun _ hk=>hk.1.2.1))|(rw [add_block];exact Kd.own_blk (Kd.N_away Aa.out (fun _ hk=>hk.1.2.1)))|(show(Addr.add _ _).block≠_;rw [add_block];exact Kd.own_blk (Kd.N_away Aa.out (fun _ hk=>hk.1.2.1)))|(dsimp only;exact Kd.own_blk (Kd.N_away Aa.out (fun _ hk=>hk.1.2.1)))) _).trans (hHeld.2.2))))⟩ (fun hHeld=>?_)
    clear hK K
    refine one_ (i:=12) (N:=none) (fl_ 13 8191) rfl rfl (one_of HT_.out (by kernel_rfl)) (by decide) (fun K hK=>?_)
    have He:Fe.cell? ⟨Ak,0,none⟩=some (.slice none 0 0):=(y11 Af.out 0).trans rfl
    have Gm:=y15 Af.out 0
    have Eh:=Ba.out
    have Ei:=Av.out
    have Ej:=Am.out
    have Ek:=Au.out
    refine skip_ (w1:=?_) (by rfl) rfl ?_ ?_
    rotate_left
    ·go_simp
     rfl
    refine hK.out _ _ ⟨((cell_far (p:=⟨Ak,_,none⟩) Av.out _).trans (hHeld.1)),((cell_far (p:=⟨Ak,_,none⟩) Av.out _).trans (hHeld.2.1)),((cell_far (p:=⟨Ak,_,none⟩) (by first|exact Kd.own_blk (Kd.N_away Aa.out (fun _ hk=>hk.1.2.2.1))|(rw [add_block];exact Kd.own_blk (Kd.N_away Aa.out (fun _ hk=>hk.1.2.2.1)))|(show(Addr.add _ _).block≠_;rw [add_block];exact Kd.own_blk (Kd.N_away Aa.out (fun _ hk=>hk.1.2.2.1)))|(dsimp only;exact Kd.own_blk (Kd.N_away Aa.out (fun _ hk=>hk.1.2.2.1)))) _).trans (hHeld.2.2))⟩ (fun hHeld=>?_)
    clear hK K
    refine done_ (done_of HT_.out (by kernel_rfl)) ?_
    try go_wp2
    refine bodyPost_ret (results_cc rfl _ _ Ae Ak 32 36 #[.int .i64 Bd,.slice (some Bs) Ap.length Bl] #[.slice Dc Ce.length Dd] (0,0) (0,0) _ _ rfl (by(with_reducible repeat(first|refine y13 ?_ _|refine y12 ?_|refine y9 ?_ _));refine y14 ?_ Ba.out _;(with_reducible repeat(first|refine y13 ?_ _|refine y12 ?_|refine y9 ?_ _));refine y16 (cs:=#[.int .i64 Bd,.slice none 0 0]) ?_ 1 _ rfl;(with_reducible repeat(first|refine y13 ?_ _|refine y12 ?_|refine y9 ?_ _));refine y16 (cs:=#[.int .i64 0,.slice none 0 0]) ?_ 0 _ rfl;(with_reducible repeat(first|refine y13 ?_ _|refine y12 ?_|refine y9 ?_ _));exact Ad.out) Tryz.underlying32 rfl (by kernel_rfl) rfl (by(with_reducible repeat(first|refine y13 ?_ _|refine y12 ?_|refine y9 ?_ _));refine y16 (cs:=#[.slice none 0 0]) ?_ 0 _ rfl;(with_reducible repeat(first|refine y13 ?_ _|refine y12 ?_|refine y9 ?_ _));refine y14 ?_ Am.out _;(with_reducible repeat(first|refine y13 ?_ _|refine y12 ?_|refine y9 ?_ _));refine y14 ?_ Am.out _;(with_reducible repeat(first|refine y13 ?_ _|refine y12 ?_|refine y9 ?_ _));exact Af.out) Tryz.underlying36 rfl (by kernel_rfl)) rfl ?_
    exact⟨_,_,by first|rfl|(simp [y17,y18] <;> rfl)|(simp [*,y17,y18] <;> rfl),by(with_reducible repeat(first|apply Kd.N_alloc|apply Kd.N_drewN|apply Kd.N_drew));exact Kd.N_mono (Kd.N_far (p:=⟨Ak,0,none⟩) (Kd.N_far (p:=⟨Ae,1,none⟩) (Kd.N_far (p:=⟨Ae,0,none⟩) (Kd.N_mono (Kd.N_mono Aa.out (fun k_ hk=>(⟨hk,hk.1.2.1⟩:_∧k_≠Ae))) (fun k_ hk=>(⟨hk,hk.1.1.2.2.1⟩:_∧k_≠Ak))) (fun _ hk=>hk.1.2) (.int .i64 Bd)) (fun _ hk=>hk.1.2) (.slice (some Bs) Ap.length Bl)) (fun _ hk=>hk.2) (.slice Dc Ce.length Dd)) (fun _ hk=>⟨hk.1.1.1.1,hk.1.1.2⟩),by(with_reducible repeat(first|apply Kd.R_alloc|apply Kd.R_drewN|apply Kd.R_drew));exact Kd.R_mono (Kd.R_far (p:=⟨Ak,0,none⟩) (Kd.R_far (p:=⟨Ae,1,none⟩) (Kd.R_far (p:=⟨Ae,0,none⟩) (Kd.R_types (Kd.R_types Cu.out Ad.out (by decide)) Af.out (by decide)) (fun _ hk=>hk.1.2) (.int .i64 Bd)) (fun _ hk=>hk.1.2) (.slice (some Bs) Ap.length Bl)) (fun _ hk=>hk.2) (.slice Dc Ce.length Dd)) (fun _ hk=>hk.1.1.1),by repeat(first|(with_reducible first|exact HB.out|apply y4|apply y23|apply y5|refine y6 ?_ (y2.ge Ac.out)|refine y6 ?_ Ay.out|refine y6 ?_ Az.out|refine y6 ?_ Bj.out)|exact HB.out)⟩
   ·replace Dw:=Bool.eq_false_iff.mpr Dw
    subst Dw
    replace H:=qF H
    obtain⟨⟨Cm,Ff,Fg⟩,Hf,H⟩:=qB H
    replace H:(some (Bd,Ap,Cm))=some (r1,r2,r3):=H
    simp only [Option.some.injEq,Prod.mk.injEq]at H
    obtain⟨rfl,rfl,rfl⟩:=H
    try go_wp2
    replace Aa:=y0.mk (Kd.N_drew Aa.out)
    replace Ad:=y0.mk (y12 Ad.out)
    replace Af:=y0.mk (y12 Af.out)
    replace Ah:=y0.mk (y12 Ah.out)
    replace Ac:=y0.mk (y2.drew Ac.out)
    replace HB:=y0.mk (y5 HB.out)
    refine start_ (n:=6) (S:=fun w'=>w'.cell? ⟨Aq,0,none⟩=some (.int .i64 Bd)∧w'.cell? ⟨Aq,1,none⟩=some (.slice Bt Ap.length Bl)) (ds:=[]) #[false,false,false,false,false,false] (by kernel_rfl) rfl rfl ⟨(y11 Ah.out 0).trans rfl,(y11 Ah.out 1).trans rfl⟩ (fun hHeld=>?_)
    generalize wc.drew=Hq at Aa Ad Af Ah Ac HB hHeld ⊢
    refine qp 1 35 #[false,true,false,false,false,false] ?_
    refine qp 2 36 #[false,true,true,false,false,false] ?_
    refine qt 0 34 #[true,true,true,false,false,false] hHeld ?_
    refine qO 3 37 #[true,true,true,true,false,false] (fun K hK=>?_)
    refine goes_ Tryz.func59 (by kernel_rfl) rfl #[.pointer (some ⟨Bb,0,none⟩),.int .i64 Ca] (by rfl) rfl rfl qy0 ?_
    with_reducible refine(z8_.calls Gy Bb Bq Bg Bh Ca Cm Ff Fg w _ (by repeat(first|(with_reducible first|exact Ac.out|apply y2.alloc|apply y2.drewN|apply y2.drew|apply y2.set_1|apply y2.set_2|refine y2.far ?_ Ai.out _|refine y2.far ?_ Aj.out _|refine y2.far ?_ Aw.out _)|exact Ac.out)) (by repeat(first|(with_reducible first|exact HB.out|apply y4|apply y23|apply y5|refine y6 ?_ (y2.ge Ac.out)|refine y6 ?_ Ay.out|refine y6 ?_ Az.out|refine y6 ?_ Bj.out)|exact HB.out)) Hf.out).mono ?_
    rintro e Fh ⟨Hg,rfl,Ci,hi,hb,hk⟩
    refine⟨_,rfl, ?_⟩
    replace Aa:=y0.mk (Kd.N_mono (Kd.N_told (Kd.N_oldK (Kd.N_mono (ok:=fun k_=>(((w.heap.size≤k_))∧(k_≠Ae∧(k_≠Ak∧(k_≠Aq∧k_≠Bb))))) (qN Aa.out) (fun k_ hk_=>(⟨hk_,hk_.2.2.2.2⟩:_∧k_≠Bb))) hk) (Kd.R_base Ci)) (fun _ h_=>h_.1))
    replace Ad:=y0.mk (y3.blk hk (g':=Ae) (o:=.cells #[.int .i64 0,.slice none 0 0] 32 (0,0)) (qk Ad.out) Be.out (by simp))
    replace Af:=y0.mk (y3.blk hk (g':=Ak) (o:=.cells #[.slice none 0 0] 36 (0,0)) (qk Af.out) Bf.out (by simp))
    replace Ah:=y0.mk (y3.blk hk (g':=Aq) (o:=.cells #[.int .i64 Bd,.slice Bt Ap.length Bl] 32 (0,0)) (qk Ah.out) Bc.out (by simp))
    have Cv:=y0.mk (Kd.R_lower (Kd.R_newM (M:=fun k_=>(w.heap.size≤k_)) Ci (y7 (by repeat(first|(with_reducible first|exact HB.out|apply y4|apply y23|apply y5|refine y6 ?_ (y2.ge Ac.out)|refine y6 ?_ Ay.out|refine y6 ?_ Az.out|refine y6 ?_ Bj.out)|exact HB.out))) (fun k_ h_=>h_)) (y7 (by repeat(first|(with_reducible first|exact HB.out|apply y4|apply y23|apply y5|refine y6 ?_ (y2.ge Ac.out)|refine y6 ?_ Ay.out|refine y6 ?_ Az.out|refine y6 ?_ Bj.out)|exact HB.out))))
    replace HB:=y0.mk (hb)
    replace Ac:=y0.mk (hi)
    (try clear hb hk hi)
    (try clear Ci)
    obtain⟨De,Df,Dn⟩:=Kd.R_slice Cv.out
    (first|subst Dn|(injection Dn with f1_ f2_ f3_;have f4_:=f1_.symm;have f5_:=f3_.symm;clear f1_ f2_ f3_;subst f4_;subst f5_))
    refine hK.out _ _ ⟨(y11 Ah.out 0).trans rfl,(y11 Ah.out 1).trans rfl⟩ (fun hHeld=>?_)
    clear hK K
    refine qx 37 ?_
    refine one_ (i:=4) (N:=none) #[true,true,true,true,true,false] rfl rfl (by kernel_rfl) (by decide) (fun K hK=>?_)
    have Hh:Fh.cell? ⟨Ae,0,none⟩=some (.int .i64 0):=(y11 Ad.out 0).trans rfl
    have Gn:=y15 Ad.out 0
    have El:=Am.out
    have Em:=Ag.out
    have En:=Ba.out
    have Eo:=Al.out
    have Hi:Fh.cell? ⟨Ae,1,none⟩=some (.slice none 0 0):=(y11 Ad.out 1).trans rfl
    have Gp:=y15 Ad.out 1
    have Ep:=Am.out
    have Er:=Ag.out
    have Es:=Ba.out
    have Et:=Al.out
    refine skip_ (w1:=?_) (by rfl) rfl ?_ ?_
    rotate_left
    ·go_simp
     rfl
    refine hK.out _ _ ⟨((cell_far (p:=⟨Ae,_,none⟩) Ag.out _).trans (((cell_far (p:=⟨Ae,_,none⟩) Ag.out _).trans (hHeld.1)))),((cell_far (p:=⟨Ae,_,none⟩) Ag.out _).trans (((cell_far (p:=⟨Ae,_,none⟩) Ag.out _).trans (hHeld.2))))⟩ (fun hHeld=>?_)
    clear hK K
    refine one_ (i:=5) (N:=none) #[true,true,true,true,true,true] rfl rfl (by kernel_rfl) (by decide) (fun K hK=>?_)
    have Hj:Fh.cell? ⟨Ak,0,none⟩=some (.slice none 0 0):=(y11 Af.out 0).trans rfl
    have Gq:=y15 Af.out 0
    have Eu:=Ba.out
    have Ew:=Av.out
    have Ex:=Am.out
    have Ey:=Au.out
    refine skip_ (w1:=?_) (by rfl) rfl ?_ ?_
    rotate_left
    ·go_simp
     rfl
    refine hK.out _ _ ⟨((cell_far (p:=⟨Ak,_,none⟩) Av.out _).trans (hHeld.1)),((cell_far (p:=⟨Ak,_,none⟩) Av.out _).trans (hHeld.2))⟩ (fun hHeld=>?_)
    clear hK K
    refine done_ (by kernel_rfl) ?_
    try go_wp2
    refine bodyPost_ret (results_cc rfl _ _ Ae Ak 32 36 #[.int .i64 Bd,.slice Bt Ap.length Bl] #[.slice De Cm.length Df] (0,0) (0,0) _ _ rfl (by(with_reducible repeat(first|refine y13 ?_ _|refine y12 ?_|refine y9 ?_ _));refine y14 ?_ Ba.out _;(with_reducible repeat(first|refine y13 ?_ _|refine y12 ?_|refine y9 ?_ _));refine y16 (cs:=#[.int .i64 Bd,.slice none 0 0]) ?_ 1 _ rfl;(with_reducible repeat(first|refine y13 ?_ _|refine y12 ?_|refine y9 ?_ _));refine y16 (cs:=#[.int .i64 0,.slice none 0 0]) ?_ 0 _ rfl;(with_reducible repeat(first|refine y13 ?_ _|refine y12 ?_|refine y9 ?_ _));exact Ad.out) Tryz.underlying32 rfl (by kernel_rfl) rfl (by(with_reducible repeat(first|refine y13 ?_ _|refine y12 ?_|refine y9 ?_ _));refine y16 (cs:=#[.slice none 0 0]) ?_ 0 _ rfl;(with_reducible repeat(first|refine y13 ?_ _|refine y12 ?_|refine y9 ?_ _));refine y14 ?_ Am.out _;(with_reducible repeat(first|refine y13 ?_ _|refine y12 ?_|refine y9 ?_ _));refine y14 ?_ Am.out _;(with_reducible repeat(first|refine y13 ?_ _|refine y12 ?_|refine y9 ?_ _));exact Af.out) Tryz.underlying36 rfl (by kernel_rfl)) rfl ?_
    exact⟨_,_,by first|rfl|(simp [y17,y18] <;> rfl)|(simp [*,y17,y18] <;> rfl),by(with_reducible repeat(first|apply Kd.N_alloc|apply Kd.N_drewN|apply Kd.N_drew));exact Kd.N_mono (Kd.N_far (p:=⟨Ak,0,none⟩) (Kd.N_far (p:=⟨Ae,1,none⟩) (Kd.N_far (p:=⟨Ae,0,none⟩) (Kd.N_mono (Kd.N_mono Aa.out (fun k_ hk=>(⟨hk,hk.1.2.1⟩:_∧k_≠Ae))) (fun k_ hk=>(⟨hk,hk.1.1.2.2.1⟩:_∧k_≠Ak))) (fun _ hk=>hk.1.2) (.int .i64 Bd)) (fun _ hk=>hk.1.2) (.slice Bt Ap.length Bl)) (fun _ hk=>hk.2) (.slice De Cm.length Df)) (fun _ hk=>⟨hk.1.1.1.1,hk.1.1.2⟩),by(with_reducible repeat(first|apply Kd.R_alloc|apply Kd.R_drewN|apply Kd.R_drew));exact Kd.R_mono (Kd.R_far (p:=⟨Ak,0,none⟩) (Kd.R_far (p:=⟨Ae,1,none⟩) (Kd.R_far (p:=⟨Ae,0,none⟩) (Kd.R_types (Kd.R_types Cv.out Ad.out (by decide)) Af.out (by decide)) (fun _ hk=>hk.1.2) (.int .i64 Bd)) (fun _ hk=>hk.1.2) (.slice Bt Ap.length Bl)) (fun _ hk=>hk.2) (.slice De Cm.length Df)) (fun _ hk=>hk.1.1.1),by repeat(first|(with_reducible first|exact HB.out|apply y4|apply y23|apply y5|refine y6 ?_ (y2.ge Ac.out)|refine y6 ?_ Ay.out|refine y6 ?_ Az.out|refine y6 ?_ Bj.out)|exact HB.out)⟩
end Go.Proofs.YtkajecadkkgfmaaGreatDoor.Pn
end
