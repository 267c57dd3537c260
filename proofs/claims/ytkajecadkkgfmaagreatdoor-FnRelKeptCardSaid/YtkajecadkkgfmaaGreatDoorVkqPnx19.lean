-- Cut by prune.py, a program of this session, out of the texts of this claim: Lean checks it.
import Derived.Test.YtkajecadkkgfmaaGreatDoorVkqPnx0
import Derived.Test.YtkajecadkkgfmaaGreatDoorVkqPnx14
import Derived.Test.YtkajecadkkgfmaaGreatDoorVkqPnx17
section
namespace Go.Proofs.YtkajecadkkgfmaaGreatDoor.Pn
open Go.RowKit Go.Proofs.YtkajecadkkgfmaaGreatDoorW.PrintWords Go.Proofs.YtkajecadkkgfmaaGreatDoorW.PrintLast Go.Proofs.YtkajecadkkgfmaaGreatDoorW.PrintMore
attribute [local go_sem] max2_int min2_int max_two min_two max_three min_three max_four min_four   -- for this text's walks alone
set_option linter.unusedVariables false
set_option linter.unusedSimpArgs false
def impl_copyTuple.f (l0_0:List ByteArray):Option (List ByteArray):=(some (([]:List ByteArray):List ByteArray)).bind fun y362=>(if y362.length + l0_0.length < 8796093022208 then(some (y362 ++ l0_0))else(none))
set_option maxHeartbeats 8000000 in
set_option maxRecDepth 100000 in
theorem impl_copyTuple.calls (Au:Option Addr) (Av:Nat) (Ad:List ByteArray) (r:List ByteArray) (w:World) (Ak:Kd.C Kd.string w Au Ad.length Ad) (Al:Ad.length≤Av) (h:impl_copyTuple.f Ad=some r) :
  Calls Tryz.prog 46 #[.agg #[.slice Au Ad.length Av]] w fun e w'=>∃ v0_:Value,e=.returned (.agg #[v0_])∧Kd.R Kd.string 9 w' w.heap.size (fun _=>True) v0_ r∧Below w.heap.size w w':=by
 have Bq:=Tryz.underlying36
 have Ay:=y0.mk Ak
 have Bk:=y0.mk Al
 clear Ak Al
 have HB:=y0.mk (Below.refl w.heap.size w)
 have H:((some (([]:List ByteArray):List ByteArray)).bind fun Ag=>(if Ag.length + Ad.length < 8796093022208 then(some (Ag ++ Ad))else(none)))=some r:=h
 clear h
 obtain⟨Ag,Ae⟩:∃ y_:List ByteArray,y_=(([]:List ByteArray)):=⟨_,rfl⟩
 replace H:(if Ag.length + Ad.length < 8796093022208 then(some (Ag ++ Ad))else(none))=some r:=by first|(rw [Ae];with_reducible exact H)|(have H2_:=(Option.bind_some _ _).symm.trans H;rw [Ae];with_reducible exact H2_)|(have H2_:=(Option.bind_some _ _).symm.trans H;with_reducible exact H2_)|with_reducible exact H|(rw [Ae];exact H)|exact H
 have Am:=y0.mk Ae
 clear Ae
 obtain⟨c2,H⟩:=qo H
 have Bf:=y0.mk c2
 clear c2
 obtain⟨Aw,Af⟩:∃ y_:List ByteArray,y_=(Ag ++ Ad):=⟨_,rfl⟩
 replace H:(some Aw)=some r:=by first|(rw [Af];with_reducible exact H)|(have H2_:=(Option.bind_some _ _).symm.trans H;rw [Af];with_reducible exact H2_)|(have H2_:=(Option.bind_some _ _).symm.trans H;with_reducible exact H2_)|with_reducible exact H|(rw [Af];exact H)|exact H
 have Az:=y0.mk Af
 clear Af
 obtain rfl:=Option.some.inj H
 go_enter Tryz.func46,Tryz.ntmps46
 go_wp2_with (first|((with_reducible refine y20 (N:=1) rfl ?_);refine qe 1 #[.slice Au Ad.length Av] 36 ?_;intro Bl hg w3 hbox hb;have Aa:=y0.mk (hbox);have Bm:=y0.mk (qg (w:=w) hg);have Bn:=y0.mk (qg (w:=w) hg);replace HB:=y0.mk (y8 qb hb);clear hb hbox hg)|((with_reducible refine y20 (N:=2) rfl ?_);refine qe 2 #[.slice none 0 0] 36 ?_;intro Ap hg w4 hbox hb;have Ac:=y0.mk (hbox);have Bo:=y0.mk (qg (w:=w) hg);have Bp:=y0.mk (qg (w:=w) hg);replace HB:=y0.mk (y8 qb hb);have Ai:=y0.mk (qn Aa.out hg);have Aj:=y0.mk (qm Aa.out hg);replace Aa:=y0.mk (qK Aa.out hb);clear hb hbox hg)|((with_reducible refine y20 (N:=3) rfl ?_);refine qL Kd.string 9 3 ([]:List ByteArray) ?_;intro Bg w5 Ba hb hg_ hnew_;clear hg_ hnew_;(first|rw [← Am.out]at Ba|(simp only [Int.reduceToNat]at Ba;rw [← Am.out]at Ba));have Ah:=y0.mk (Kd.R_lower Ba (y7 qb));replace Aa:=y0.mk (qK Aa.out hb);replace Ac:=y0.mk (qK Ac.out hb);replace HB:=y0.mk (y8 qb hb);clear hb Ba;have Br:=Ai.out;have Bs:=Aj.out;obtain⟨Bh,Bi⟩:=qz1 Aa.out)|((with_reducible refine gate_builtin (b:=.append) (xs:=#[.tmp 3,.tmp 5]) rfl ?_);at_builtin;refine Kd.R_append_rows Kd.string (w0:=w) w.heap.size rfl (.tmp 3) (.tmp 5) 25 9 (.string ⟨#[]⟩) 16 rfl Tryz.underlying25 info9 rfl (by decide) (by omega) Bg Ag Ad _ _ _ (fun _=>True) (fun _=>False) rfl rfl ?aO ?aR (fun _ _ h=>h) (fun _ h=>h.elim) ?aF ?aB ?aS ?aL ?_;(case aR=>repeat(first|exact(Kd.C_below Ay.out HB.out)|(with_reducible refine Kd.C_alloc ?_ _)|(with_reducible refine Kd.C_drewN ?_ _)|(with_reducible refine Kd.C_drew ?_)));(case aB=>exact qb);(case aF=>exact(fun _ _=>trivial));(case aO=>exact(qR Ah.out));(case aS=>exact(y7 qb));(case aL=>have:=Bf.out;omega);intro Bt w9 ho hb hg hat;rw [← Az.out]at ho;replace Aa:=y0.mk (blk_grown (qk Aa.out) hg (Kd.R_ne Ah.out Aa.out (by decide)));replace Ac:=y0.mk (blk_grown (qk Ac.out) hg (Kd.R_ne Ah.out Ac.out (by decide)));replace HB:=y0.mk (hb);have Aq:=y0.mk (ho);clear Ah;clear ho hb hg hat;obtain⟨Bb,Bc,Bj⟩:=Kd.R_slice Aq.out;subst Bj;obtain⟨Bd,Be⟩:=qz1 Ac.out))
 refine bodyPost_ret (results_cell_row rfl _ _ Ap 36 #[.slice Bb Aw.length Bc] (0,0) _ rfl (by(with_reducible repeat(first|refine y13 ?_ _|refine y12 ?_|refine y9 ?_ _));refine y16 (cs:=#[.slice none 0 0]) ?_ 0 _ rfl;(with_reducible repeat(first|refine y13 ?_ _|refine y12 ?_|refine y9 ?_ _));exact Ac.out) Tryz.underlying36 rfl (by kernel_rfl)) rfl ?_
 exact⟨_,by first|rfl|(simp [y17,y18] <;> rfl)|(simp [*,y17,y18] <;> rfl),by(with_reducible repeat(first|apply Kd.R_alloc|apply Kd.R_drewN|apply Kd.R_drew));exact Kd.R_mono (Kd.R_far (p:=⟨Ap,0,none⟩) (Kd.R_types Aq.out Ac.out (by decide)) (fun _ hk=>hk.2) (.slice Bb Aw.length Bc)) (fun _ hk=>trivial),qb⟩
def impl_copyRel.l0:Nat→List (S36)→Int→Int→Int→List (S36)→Option (Int×(List (S36)))
 | 0,_,_,_,_,_=>none
 | k + 1,x10,x11,x12,x371000,x371001=>if x12 < x11 then(if 0≤x12 then(if x12 < (x10.length:Int)then((impl_copyTuple.f ((y24 x10 x12).f0)).bind fun t373=>(if x371001.length < 5864062014805 then(impl_copyRel.l0 k x10 x11 (wrap64 (x12 + 1)) x371000 (x371001 ++ [(⟨t373⟩:S36)]))else(none)))else(none))else(none))else(some (x371000,x371001))
def impl_copyRel.f (k:Nat) (a0_0:Int) (l0_1:List (S36)):Option (Int×(List (S36))):=impl_copyRel.l0 k l0_1 (l0_1.length:Int) 0 a0_0 ([]:List (S36))
def impl_copyRel.T5:Bool×List (List Nat×List Nat):=(true,[([],[]),([0],[0]),([],[]),([2],[2]),([3],[3]),([1,4,3],[1,4]),([0,1,2,3,4,5],[]),([6,5,5,0,1,2,3,4,5],[5,6])])
def impl_copyRel.B5:List Nat:=[0,1,0,4,12,31,63,127]
theorem impl_copyRel.tab5:rtab .any (opsOf Tryz.f42 5)=impl_copyRel.T5:=by kernel_rfl
theorem impl_copyRel.bits5:waitsOk impl_copyRel.T5.2 impl_copyRel.B5=true:=by kernel_rfl
set_option maxHeartbeats 8000000 in
set_option maxRecDepth 100000 in
theorem impl_copyRel.calls (k:Nat) (Au:Int) (Bp:Option Addr) (Bo:Nat) (Ah:List (S36)) (r1:Int) (r2:List (S36)) (w:World) (Bx:Kd.C k36 w Bp Ah.length Ah) (Bz:Ah.length≤Bo) (h:impl_copyRel.f k Au Ah=some (r1,r2)) :
  Calls Tryz.prog 42 #[.agg #[.int .i64 Au,.slice Bp Ah.length Bo]] w fun e w'=>∃ v1_:Value,e=.returned (.agg #[.int .i64 r1,v1_])∧Kd.S k36 36 w' w.heap.size (fun _=>True) v1_ r2∧Below w.heap.size w w':=by
 have Ey:=Tryz.underlying32
 have Ez:=Tryz.underlying36
 have Co:=y0.mk Bx
 have Du:=y0.mk Bz
 clear Bx Bz
 have HB:=y0.mk (Below.refl w.heap.size w)
 have H:(impl_copyRel.l0 k Ah (Ah.length:Int) 0 Au ([]:List (S36)))=some (r1,r2):=h
 clear h
 have H':=y0.mk H
 clear H
 go_enter Tryz.func42,Tryz.ntmps42
 go_wp2_with (first|((with_reducible refine y20 (N:=1) rfl ?_);refine qe 1 #[.int .i64 Au,.slice Bp Ah.length Bo] 32 ?_;intro Ca hg w2 hbox hb;have Ad:=y0.mk (hbox);have Dv:=y0.mk (qg (w:=w) hg);have Dw:=y0.mk (qg (w:=w) hg);replace HB:=y0.mk (y8 qb hb);clear hb hbox hg)|((with_reducible refine y20 (N:=2) rfl ?_);refine qe 2 #[.int .i64 0,.slice none 0 0] 32 ?_;intro Bg hg w3 hbox hb;have Ae:=y0.mk (hbox);have Dx:=y0.mk (qg (w:=w) hg);have Dy:=y0.mk (qg (w:=w) hg);replace HB:=y0.mk (y8 qb hb);have Az:=y0.mk (qn Ad.out hg);have Ba:=y0.mk (qm Ad.out hg);replace Ad:=y0.mk (qK Ad.out hb);clear hb hbox hg;have Fa:=Az.out;have Fb:=Ba.out;obtain⟨Cc,Cd,Ce,Cf⟩:=qz2 Ad.out)|((with_reducible refine y20 (N:=3) rfl ?_);refine qe 3 #[.int .i64 0,.slice none 0 0] 32 ?_;intro Bb hg w6 hbox hb;have Ac:=y0.mk (hbox);have Dz:=y0.mk (qg (w:=w) hg);have Ea:=y0.mk (qg (w:=w) hg);replace HB:=y0.mk (y8 qb hb);have Ap:=y0.mk (qn Ad.out hg);have Av:=y0.mk (qm Ad.out hg);replace Ad:=y0.mk (qK Ad.out hb);have Aq:=y0.mk (qn Ae.out hg);have Aw:=y0.mk (qm Ae.out hg);replace Ae:=y0.mk (qK Ae.out hb);clear hb hbox hg;have Fc:=Av.out;have Fd:=Ap.out;have Fe:=Aw.out;have Ff:=Aq.out;obtain⟨Cg,Ch,Ci,Cj⟩:=qz2 Ac.out;obtain⟨Bq,Br,Bs,Bt⟩:=qz2 Ad.out))
 go_loopg [12] k (fun kq Fg w'=>∃(Af:Int) (Ag:List (S36)) (Ai:Value),Fg=.int .i64 Af∧y0 (impl_copyRel.l0 kq Ah (Ah.length:Int) Af Au Ag=some (r1,r2))∧y0 (kq≤k)∧y0 (Kd.S k36 36 w' w.heap.size (fun _=>True) Ai Ag)∧y0 (w'.heap[Ca]?=some (.cells #[.int .i64 Au,(.slice Bp Ah.length Bo)] 32 (0,0)))∧y0 (w'.heap[Bg]?=some (.cells #[.int .i64 0,(.slice none 0 0)] 32 (0,0)))∧y0 (w'.heap[Bb]?=some (.cells #[.int .i64 Au,Ai] 32 (0,0)))∧y0 (Below w.heap.size w w'))
 case atStart=>exact⟨(0),(([]:List (S36))),(.slice none 0 0),qy2,H',⟨Nat.le_refl _⟩,⟨by first|exact Kd.S_nil _ _ _ _ _|exact Kd.N_nil _ _ _ _ _|exact Kd.V_nil _ _ _ _ _|exact Kd.Q_nil _ _ _ _ _|exact Kd.R_nil _ _ _ _ _⟩,⟨by(with_reducible repeat(first|refine y13 ?_ _|refine y12 ?_|refine y9 ?_ _));refine y14 ?_ Ap.out _;(with_reducible repeat(first|refine y13 ?_ _|refine y12 ?_|refine y9 ?_ _));refine y14 ?_ Ap.out _;(with_reducible repeat(first|refine y13 ?_ _|refine y12 ?_|refine y9 ?_ _));exact Ad.out⟩,⟨by(with_reducible repeat(first|refine y13 ?_ _|refine y12 ?_|refine y9 ?_ _));refine y14 ?_ Aq.out _;(with_reducible repeat(first|refine y13 ?_ _|refine y12 ?_|refine y9 ?_ _));refine y14 ?_ Aq.out _;(with_reducible repeat(first|refine y13 ?_ _|refine y12 ?_|refine y9 ?_ _));exact Ae.out⟩,⟨by(with_reducible repeat(first|refine y13 ?_ _|refine y12 ?_|refine y9 ?_ _));refine y16 (cs:=#[.int .i64 Au,.slice none 0 0]) ?_ 1 _ rfl;(with_reducible repeat(first|refine y13 ?_ _|refine y12 ?_|refine y9 ?_ _));refine y16 (cs:=#[.int .i64 0,.slice none 0 0]) ?_ 0 _ rfl;(with_reducible repeat(first|refine y13 ?_ _|refine y12 ?_|refine y9 ?_ _));exact Ac.out⟩,⟨qb⟩⟩
 case round =>
  clear H'
  (try clear Bq Br Cc Cd Cg Ch Bs Bt Ce Cf Ci Cj)
  obtain⟨Af,Ag,Ai,rfl,HA,Eb,Aa,Ad,Ae,Ac,HB⟩:=hrel
  cases gk with
  | zero=>exact absurd HA.out (by simp [impl_copyRel.l0])
  | succ k1 =>
   have H:=HA.out
   clear HA
   simp only [impl_copyRel.l0]at H
   by_cases Cn:Af < (Ah.length:Int)
   ·rw [if_pos Cn]at H
    have Cp:=decide_eq_true Cn
    clear Cn
    obtain⟨Ec,H⟩:=qo H
    have Ed:decide (0≤Af)=true:=decide_eq_true Ec
    clear Ec
    obtain⟨Ee,H⟩:=qo H
    have Ef:decide (Af < (Ah.length:Int))=true:=decide_eq_true Ee
    clear Ee
    obtain⟨Bl,Fh,H⟩:=qB H
    obtain⟨Eg,H⟩:=qo H
    have Cq:=y0.mk Eg
    clear Eg
    obtain⟨Bu,Bh⟩:∃ y_:List (S36),y_=(Ag ++ [(⟨Bl⟩:S36)]):=⟨_,rfl⟩
    replace H:(impl_copyRel.l0 k1 Ah (Ah.length:Int) (wrap64 (Af + 1)) Au Bu)=some (r1,r2):=by first|(rw [Bh];with_reducible exact H)|(have H2_:=(Option.bind_some _ _).symm.trans H;rw [Bh];with_reducible exact H2_)|(have H2_:=(Option.bind_some _ _).symm.trans H;with_reducible exact H2_)|with_reducible exact H|(rw [Bh];exact H)|exact H
    have Cr:=y0.mk Bh
    clear Bh
    have H':=y0.mk H
    clear H
    have Ck:0≤(Af:Int):=of_decide_eq_true qy1
    have Cl:Af < (Ah.length:Int):=of_decide_eq_true qy1
    obtain⟨Cs,Al,Am,Dr,Bf,Bi,Bj⟩:=at_T36 Co.out Af Ck Cl
    cases Dr
    replace Bf:=(HB.out.cell (World.block_lt_of_cell? w _ Bf)).trans Bf
    have Bv:=y0.mk Bj
    have Bw:=y0.mk Bi
    clear Bj Bi
    replace Ck:=eq_true Ck
    replace Cl:=eq_true Cl
    try go_wp2_with (first|((with_reducible refine y20 (N:=5) rfl ?_);refine qe 5 #[.slice none 0 0] 36 ?_;intro Ak hg Cm hbox hb;replace Aa:=y0.mk (Kd.S_below (Kd.S_elderB (qS Aa.out) Ak (Nat.le_of_eq hg.symm)) hb);have Aj:=y0.mk (hbox);have Eh:=y0.mk (qg (w:=w) hg);have Ei:=y0.mk (qg (w:=w) hg);replace HB:=y0.mk (y8 qb hb);have Bc:=y0.mk (qn Ad.out hg);have Bm:=y0.mk (qm Ad.out hg);replace Ad:=y0.mk (qK Ad.out hb);have Bd:=y0.mk (qn Ae.out hg);have Bn:=y0.mk (qm Ae.out hg);replace Ae:=y0.mk (qK Ae.out hb);have Ay:=y0.mk (qn Ac.out hg);have Be:=y0.mk (qm Ac.out hg);replace Ac:=y0.mk (qK Ac.out hb);clear hb hbox hg;have Ej:=Bm.out;have Ek:=Bc.out;have El:=Bn.out;have Em:=Bd.out;have En:=Be.out;have Eo:=Ay.out;obtain⟨Db,Dc⟩:=qz1 Aj.out))
    have n0_:y0 (Kd.S k36 36 (Cm.setCell ⟨Ak,0,none⟩ (.slice Al ((y24 Ah Af).f0).length Am)) w.heap.size (fun k_=>k_≠Ak) Ai Ag):=⟨qS (Kd.S_mono (Kd.S_far (p:=⟨Ak,0,none⟩) (Kd.S_mono Aa.out (fun k_ hk=>(⟨hk,hk.2⟩:_∧k_≠Ak))) (fun _ hk=>hk.2) (.slice Al ((y24 Ah Af).f0).length Am)) (fun _ hk=>hk.1.2))⟩
    have n1_:y0 ((Cm.setCell ⟨Ak,0,none⟩ (.slice Al ((y24 Ah Af).f0).length Am)).heap[Ca]?=some (.cells #[.int .i64 Au,.slice (some Cs) Ah.length Bo] 32 (0,0))):=⟨by(with_reducible repeat(first|refine y13 ?_ _|refine y12 ?_|refine y9 ?_ _));refine y14 ?_ Bc.out _;(with_reducible repeat(first|refine y13 ?_ _|refine y12 ?_|refine y9 ?_ _));exact Ad.out⟩
    have n2_:y0 ((Cm.setCell ⟨Ak,0,none⟩ (.slice Al ((y24 Ah Af).f0).length Am)).heap[Bg]?=some (.cells #[.int .i64 0,.slice none 0 0] 32 (0,0))):=⟨by(with_reducible repeat(first|refine y13 ?_ _|refine y12 ?_|refine y9 ?_ _));refine y14 ?_ Bd.out _;(with_reducible repeat(first|refine y13 ?_ _|refine y12 ?_|refine y9 ?_ _));exact Ae.out⟩
    have n3_:y0 ((Cm.setCell ⟨Ak,0,none⟩ (.slice Al ((y24 Ah Af).f0).length Am)).heap[Bb]?=some (.cells #[.int .i64 Au,Ai] 32 (0,0))):=⟨by(with_reducible repeat(first|refine y13 ?_ _|refine y12 ?_|refine y9 ?_ _));refine y14 ?_ Ay.out _;(with_reducible repeat(first|refine y13 ?_ _|refine y12 ?_|refine y9 ?_ _));exact Ac.out⟩
    have n4_:y0 ((Cm.setCell ⟨Ak,0,none⟩ (.slice Al ((y24 Ah Af).f0).length Am)).heap[Ak]?=some (.cells #[.slice Al ((y24 Ah Af).f0).length Am] 36 (0,0))):=⟨by(with_reducible repeat(first|refine y13 ?_ _|refine y12 ?_|refine y9 ?_ _));refine y16 (cs:=#[.slice none 0 0]) ?_ 0 _ rfl;(with_reducible repeat(first|refine y13 ?_ _|refine y12 ?_|refine y9 ?_ _));exact Aj.out⟩
    have n5_:y0 (Below w.heap.size w (Cm.setCell ⟨Ak,0,none⟩ (.slice Al ((y24 Ah Af).f0).length Am))):=⟨qb⟩
    (try clear Aa)
    (try clear Ad)
    (try clear Ae)
    (try clear Ac)
    (try clear Aj)
    (try clear HB)
    generalize (Cm.setCell ⟨Ak,0,none⟩ (.slice Al ((y24 Ah Af).f0).length Am))=Fi at n0_ n1_ n2_ n3_ n4_ n5_ ⊢
    have Aa:=n0_
    have Ad:=n1_
    have Ae:=n2_
    have Ac:=n3_
    have Aj:=n4_
    have HB:=n5_
    clear n0_ n1_ n2_ n3_ n4_ n5_
    replace Aa:=y0.mk (Kd.S_drew Aa.out)
    replace Ad:=y0.mk (y12 Ad.out)
    replace Ae:=y0.mk (y12 Ae.out)
    replace Ac:=y0.mk (y12 Ac.out)
    replace Aj:=y0.mk (y12 Aj.out)
    replace HB:=y0.mk (y5 HB.out)
    refine start_ (n:=8) (S:=fun w'=>w'.cell? ⟨Bb,0,none⟩=some (.int .i64 Au)∧w'.cell? ⟨Bb,1,none⟩=some (Ai)∧w'.cell? ⟨Ak,0,none⟩=some (.slice Al ((y24 Ah Af).f0).length Am)) (ds:=[7]) (fl_ 8 0) (by kernel_rfl) rfl rfl ⟨(y11 Ac.out 0).trans rfl,(y11 Ac.out 1).trans rfl,(y11 Aj.out 0).trans rfl⟩ (fun hHeld=>?_);refine with_tabW impl_copyRel.tab5 impl_copyRel.bits5 (fun HT_ HW_=>?_)
    generalize Fi.drew=Fn at Aa Ad Ae Ac Aj HB hHeld ⊢
    refine qp 0 16 (fl_ 8 1) ?_
    refine qt 1 17 (fl_ 8 3) hHeld ?_
    refine qt 2 18 (fl_ 8 7) hHeld ?_
    refine qO 3 19 (fl_ 8 15) (fun K hK=>?_)
    refine goes_ Tryz.func46 (by kernel_rfl) rfl #[.agg #[.slice Al ((y24 Ah Af).f0).length Am]] (by rfl) rfl rfl qy0 ?_
    with_reducible refine(impl_copyTuple.calls _ _ ((y24 Ah Af).f0) Bl _ (qc (Kd.C_below Bv.out HB.out)) Bw.out Fh.out).mono ?_
    rintro e Fo ⟨Fj,rfl,Ds,hb⟩
    refine⟨_,rfl, ?_⟩
    replace Aa:=y0.mk (Kd.S_elder' (qS Aa.out) (Kd.R_base Ds) hb)
    have Bk:=y0.mk (Kd.R_lower Ds (y7 qb))
    replace Ad:=y0.mk (qK Ad.out hb)
    replace Ae:=y0.mk (qK Ae.out hb)
    replace Ac:=y0.mk (qK Ac.out hb)
    replace Aj:=y0.mk (qK Aj.out hb)
    replace HB:=y0.mk (y8 qb hb)
    (try clear hb)
    (try clear Ds)
    obtain⟨Ct,Cu,Cv⟩:=Kd.R_slice Bk.out
    (first|subst Cv|(injection Cv with f1_ f2_ f3_;have f4_:=f1_.symm;have f5_:=f3_.symm;clear f1_ f2_ f3_;subst f4_;subst f5_))
    refine hK.out _ _ ⟨(y11 Ac.out 0).trans rfl,(y11 Ac.out 1).trans rfl,(y11 Aj.out 0).trans rfl⟩ (fun hHeld=>?_)
    clear hK K
    refine qx 19 ?_
    refine qO 4 20 (fl_ 8 31) (fun K hK=>?_)
    refine value_ (w1:=?_) (v:=?_) (by rfl) rfl ?_ ?_
    rotate_left 2
    ·go_simp
     constructor
     ·rfl
     ·rfl
    refine hK.out _ _ ⟨(y11 (y9 Ac.out _) 0).trans rfl,(y11 (y9 Ac.out _) 1).trans rfl,(y11 (y9 Aj.out _) 0).trans rfl⟩ (fun hHeld=>?_)
    clear hK K
    refine qx 20 ?_
    refine qO 5 21 (fl_ 8 63) (fun K hK=>?_)
    refine Kd.S_append_step k36 (w0:=w) w.heap.size (by rfl) (.tmp 17) (.tmp 20) 30 36 (.agg #[(.slice none 0 0)]) 24 rfl Tryz.underlying30 info36 rfl (by decide) (by omega) Ai Ag (⟨Bl⟩:S36) [.slice Ct Bl.length Cu] (fun k_=>k_≠Ak) (fun k_=>some k_=(.slice Ct Bl.length Cu:Value).ownBlock) rfl rfl ?aP (fun k_ hk_=>((Kd.R_mono (ok':=fun k_=>((fun k_=>k_≠Ak)) k_∧some k_≠(Ai:Value).ownBlock) (Kd.R_types (Kd.R_apart' (Bk.out) (Kd.S_typed Aa.out) (by decide)) Aj.out (by decide)) (fun k_ hk=>⟨hk.2,hk.1.2⟩))).1 k_ hk_.symm) ?aF ?aO ?aB ?aS ?aL ?_
    (case aP=>exact k36_mkM _ _ _ (⟨Bl⟩:S36) (Kd.R_mono (Kd.R_tight rfl (Kd.R_mono (ok':=fun k_=>((fun k_=>k_≠Ak)) k_∧some k_≠(Ai:Value).ownBlock) (Kd.R_types (Kd.R_apart' (Bk.out) (Kd.S_typed Aa.out) (by decide)) Aj.out (by decide)) (fun k_ hk=>⟨hk.2,hk.1.2⟩))) (fun _ h_=>h_)))
    (case aB=>exact qb)
    (case aF=>exact(fun k_ hk=>Kd.freshB (g:=Ak) (o:=.cells #[.slice Al ((y24 Ah Af).f0).length Am] 36 (0,0)) (qk Aj.out) k_ hk))
    (case aO=>exact(qS (Kd.S_mono Aa.out (fun k_ hk=>⟨hk.1,fun e_=>hk.2 e_⟩))))
    (case aS=>exact(y7 qb))
    (case aL=>have:=Cq.out;omega)
    intro Fk Fl ho hb hg hat
    rw [← Cr.out]at ho
    replace Ad:=y0.mk (blk_grown (qk Ad.out) hg (Kd.S_ne Aa.out Ad.out (by decide)))
    replace Ae:=y0.mk (blk_grown (qk Ae.out) hg (Kd.S_ne Aa.out Ae.out (by decide)))
    replace Ac:=y0.mk (blk_grown (qk Ac.out) hg (Kd.S_ne Aa.out Ac.out (by decide)))
    replace Aj:=y0.mk (blk_grown (qk Aj.out) hg (Kd.S_away Aa.out (fun _ hk=>hk.1)))
    replace HB:=y0.mk (hb)
    have Cb:=y0.mk (ho)
    clear Aa Bk
    clear ho hb hg hat
    obtain⟨Cw,Cx,Cy⟩:=Kd.S_slice Cb.out
    (first|subst Cy|(injection Cy with f1_ f2_ f3_;have f4_:=f1_.symm;have f5_:=f3_.symm;clear f1_ f2_ f3_;subst f4_;subst f5_))
    refine hK.out _ _ ⟨(y11 Ac.out 0).trans rfl,(y11 Ac.out 1).trans rfl,(y11 Aj.out 0).trans rfl⟩ (fun hHeld=>?_)
    clear hK K
    refine qx 21 ?_
    refine qp 6 22 (fl_ 8 127) ?_
    refine last_ (i:=7) (N:=none) (fl_ 8 255) rfl rfl (one_of HT_.out (by kernel_rfl)) (by decide) (fun K hK=>?_)
    have Fm:Fl.cell? ⟨Bb,1,none⟩=some (Ai):=(y11 Ac.out 1).trans rfl
    have Ep:=y15 Ac.out 1
    have Dd:=Ap.out
    have De:=Aq.out
    have Df:=Be.out
    have Dg:=Av.out
    have Dh:=Aw.out
    have Di:=Ay.out
    refine skip_ (w1:=?_) (by rfl) rfl ?_ ?_
    rotate_left
    ·go_simp
     rfl
    refine hK.out _ _ ?_
    clear hK K
    refine done_ (done_of HT_.out (by kernel_rfl)) ?_
    try go_wp2
    go_roundg k1
    case measure=>have:=Eb.out;omega
    exact⟨(wrap64 (Af + 1)),(Bu),(.slice Cw Bu.length Cx),qy2,H',⟨by have:=Eb.out;omega⟩,⟨qS (Kd.S_mono (Kd.S_far (p:=⟨Bb,1,none⟩) (Kd.S_types Cb.out Ac.out (by decide)) (fun _ hk=>hk.2) (.slice Cw Bu.length Cx)) (fun _ hk=>trivial))⟩,⟨by(with_reducible repeat(first|refine y13 ?_ _|refine y12 ?_|refine y9 ?_ _));refine y14 ?_ Ap.out _;(with_reducible repeat(first|refine y13 ?_ _|refine y12 ?_|refine y9 ?_ _));exact Ad.out⟩,⟨by(with_reducible repeat(first|refine y13 ?_ _|refine y12 ?_|refine y9 ?_ _));refine y14 ?_ Aq.out _;(with_reducible repeat(first|refine y13 ?_ _|refine y12 ?_|refine y9 ?_ _));exact Ae.out⟩,⟨by(with_reducible repeat(first|refine y13 ?_ _|refine y12 ?_|refine y9 ?_ _));refine y16 (cs:=#[.int .i64 Au,Ai]) ?_ 1 _ rfl;(with_reducible repeat(first|refine y13 ?_ _|refine y12 ?_|refine y9 ?_ _));exact Ac.out⟩,⟨qb⟩⟩
   ·rw [if_neg Cn]at H
    have Cp:=decide_eq_false Cn
    clear Cn
    simp only [Option.some.injEq,Prod.mk.injEq]at H
    obtain⟨rfl,rfl⟩:=H
    have Er:=Av.out
    have Es:=Ap.out
    have Et:=Aw.out
    have Eu:=Aq.out
    obtain⟨Dj,Dk,Dl,Dm⟩:=qz2 Ac.out
    have Ew:=Ba.out
    have Ex:=Az.out
    obtain⟨Dn,Do,Dp,Dq⟩:=qz2 Ae.out
    obtain⟨Cz,Da,Dt⟩:=Kd.S_slice Aa.out
    subst Dt
    go_wp2
    refine bodyPost_ret (results_cell_row rfl _ _ Bg 32 #[.int .i64 Au,.slice Cz Ag.length Da] (0,0) _ rfl (by(with_reducible repeat(first|refine y13 ?_ _|refine y12 ?_|refine y9 ?_ _));refine y16 (cs:=#[.int .i64 Au,.slice none 0 0]) ?_ 1 _ rfl;(with_reducible repeat(first|refine y13 ?_ _|refine y12 ?_|refine y9 ?_ _));refine y16 (cs:=#[.int .i64 0,.slice none 0 0]) ?_ 0 _ rfl;(with_reducible repeat(first|refine y13 ?_ _|refine y12 ?_|refine y9 ?_ _));exact Ae.out) Tryz.underlying32 rfl (by kernel_rfl)) rfl ?_
    exact⟨_,by first|rfl|(simp [y17,y18] <;> rfl)|(simp [*,y17,y18] <;> rfl),by(with_reducible repeat(first|apply Kd.S_alloc|apply Kd.S_drewN|apply Kd.S_drew));exact Kd.S_mono (Kd.S_far (p:=⟨Bg,1,none⟩) (Kd.S_far (p:=⟨Bg,0,none⟩) (Kd.S_types Aa.out Ae.out (by decide)) (fun _ hk=>hk.2) (.int .i64 Au)) (fun _ hk=>hk.2) (.slice Cz Ag.length Da)) (fun _ hk=>trivial),qb⟩
end Go.Proofs.YtkajecadkkgfmaaGreatDoor.Pn
end
section
namespace Go.Proofs.YtkajecadkkgfmaaGreatDoor.Pn
open Go.RowKit Go.Proofs.YtkajecadkkgfmaaGreatDoorW.PrintWords Go.Proofs.YtkajecadkkgfmaaGreatDoorW.PrintLast Go.Proofs.YtkajecadkkgfmaaGreatDoorW.PrintMore
attribute [local go_sem] max2_int min2_int max_two min_two max_three min_three max_four min_four   -- for this text's walks alone
set_option linter.unusedVariables false
set_option linter.unusedSimpArgs false
theorem wrap_lupB {i:Nat} (h:i≤281474976710656):wrap64 ((i:Int) + 1)=((i + 1:Nat):Int):=by
 unfold wrap64
 omega
theorem rd_atB (xs:List S36) (i:Nat) (h:i < xs.length):y24 xs (i:Int)=xs[i]:=by
 show xs.getD ((i:Int)).toNat _=_
 rw [Int.toNat_natCast,List.getD_eq_getElem?_getD,List.getElem?_eq_getElem h,Option.getD_some]
/-- 'goes_' where the callee is a value that a slot holds. -/
theorem goesV_ {P : Program} {ops : Array Oper} {Q : Exit → Act → World → Prop} {oi : Oper} {N : Option Tmp} {a : Act} {w : World} {K : Act → World → Prop} {f : FuncId} {fn : Func} {x : Operand} {xo : Array Operand} {ts : Array TypeId} (hf : P.funcs[f]? = some fn) (hname : (fn.name == "runtime.NumGoroutine") = false) (hb : fn.body.isSome = true) (args : Array Value)
  (hw:Region.wanted oi (yielded ops a.tmps)=true) (hN:oi.dst=N) (hop:oi.op=.call { callee:=.value x,args:=xo,argTypes:=ts }) (hx:a.eval x=.func (.func f) #[] #[]) (hargs:xo.map a.eval=args)
  (h:Calls P f args w fun e w'=>∃ v,e=.returned v∧K (a.put N v) w'):if Region.wanted oi (yielded ops a.tmps)=true then Oper.wp P oi a w K Q else K (a.put N undef) w:=by
 refine call_ f args hw hN ?_ h
 have he:=enters_ hf hname hb args w
 unfold execOp
 simp [hop,resolve,Deferred.ofValue,invoke,hx,hargs,he]
theorem sar1 (i j:Nat) (h:i + j < 9223372036854775807):wrap64 ((i:Int) + (j:Int))=((i + j:Nat):Int):=by
 unfold wrap64
 omega
set_option maxHeartbeats 8000000 in
set_option maxRecDepth 100000 in
theorem slices_BinarySearchFunc_T.calls (k:Nat) (A0:Option Addr) (c0:Nat) (l0:List (S36)) (At:Option Addr) (ct:Nat) (lt:List ByteArray) (cf:Nat→Int) (p:Nat) (fnd:Bool) (w:World) (Ag:Kd.C k36 w A0 l0.length l0) (Ah:l0.length≤c0) (hrt:Kd.C Kd.string w At lt.length lt) (hct:lt.length≤ct) (hT:Tb w) (hlen:l0.length≤281474976710656)
  (hcf:∀ j (h:j < l0.length),impl_compareTuples.f k l0[j].f0 lt=some (cf j)) (hp:p≤l0.length) (hm:∀ j,j < l0.length→(cf j < 0↔j < p)) (hf:fnd=(decide (p < l0.length) && decide (cf p=0))) :
  Calls Tryz.prog 43 #[.slice A0 l0.length c0,.agg #[.slice At lt.length ct],.func (.func 44) #[] #[]] w fun e w'=>e=.returned (.tuple #[.int .i64 (p:Int),.bool fnd])∧Below w.heap.size w w':=by
 have Al:=Tryz.underlying36
 have Ai:=y0.mk Ag
 have Aw:=y0.mk Ah
 have HRt:=y0.mk hrt
 have HCt:=y0.mk hct
 have HT:=y0.mk hT
 have Aj:=y0.mk hlen
 have HCF:=y0.mk hcf
 have HP:=y0.mk hp
 have HM:=y0.mk hm
 have HF:=y0.mk hf
 clear Ag Ah hrt hct hT hlen hcf hp hm hf
 have HB:=y0.mk (Below.refl w.heap.size w)
 have STEP:y0 (∀(W:World) (j:Nat) (A2:Option Addr) (c2:Nat) (r:S36) (hj:j < l0.length),l0[j]=r→Below w.heap.size w W→Kd.C Kd.string W A2 r.f0.length r.f0→r.f0.length≤c2→Calls Tryz.prog 44 #[.agg #[.slice A2 r.f0.length c2],.agg #[.slice At lt.length ct]] W fun e w'=>e=.returned (.int .i64 (cf j))∧Below W.heap.size W w') :=
  ⟨fun W j A2 c2 r hj hr hW h1 h2=>impl_compareTuples.calls k A2 c2 r.f0 At ct lt (cf j) W h1 h2 (Kd.C_below HRt.out hW) HCt.out (Tb.below HT.out hW) (by rw [← hr];exact HCF.out j hj)⟩
 go_enter Tryz.func43,Tryz.ntmps43
 go_wp2_with (first|((with_reducible refine y20 (N:=4) rfl ?_);refine qe 4 #[.slice At lt.length ct] 36 ?_;intro gt hg w1 hbox hb;have n0_:=y0.mk (y8 HB.out hb);have BK:=y0.mk hbox;clear HB hb hg hbox;have HB:=n0_;clear n0_))
 go_loopg [9,10] l0.length (fun kq v9 Am w'=>∃(xi xj:Int) (i j:Nat),v9=.int .i64 xi∧Am=.int .i64 xj∧y0 (xi=(i:Int))∧y0 (xj=(j:Int))∧y0 (i≤p)∧y0 (p≤j)∧y0 (j≤l0.length)∧y0 (j≤kq + i)∧y0 (w'.heap[gt]?=some (.cells #[.slice At lt.length ct] 36 (0,0)))∧y0 (Below w.heap.size w w'))
 case atStart=>exact⟨0,(l0.length:Int),0,l0.length,rfl,rfl,⟨rfl⟩,⟨rfl⟩,⟨Nat.zero_le _⟩,HP,⟨Nat.le_refl _⟩,⟨by omega⟩,BK,HB⟩
 case round =>
  clear HB BK
  obtain⟨xi,xj,i,j,rfl,rfl,HXI,HXJ,HIP,HPJ,HJ,Ak,BK,HB⟩:=hrel
  by_cases c:i < j
  ·have hh:(i + j) / 2 < l0.length:=by have:=HJ.out;omega
   obtain⟨xh,hxh⟩:∃ xh:Int,xh=(((i + j) / 2:Nat):Int):=⟨_,rfl⟩
   have p1:(0:Int)≤xh:=by have:=hxh;omega
   have cq:xh < (l0.length:Int):=by have:=hxh;omega
   obtain⟨ad,A2,c2,e2,Aa,Ae,Af⟩:=at_T36 Ai.out xh p1 cq
   cases e2
   replace Aa:=(HB.out.cell (World.block_lt_of_cell? w _ Aa)).trans Aa
   have hrd:y24 l0 xh=l0[(i + j) / 2]'hh:=by rw [hxh];exact rd_atB l0 _ hh
   have Ac:wr.cell? ⟨gt,0,none⟩=some (.slice At lt.length ct):=(y11 BK.out 0).trans rfl
   have CALL:y0 (∀ w1:World,Below wr.heap.size wr w1→Calls Tryz.prog 44 #[.agg #[.slice A2 ((y24 l0 xh).f0).length c2],.agg #[.slice At lt.length ct]] w1 fun e w'=>e=.returned (.int .i64 (cf ((i + j) / 2)))∧Below w1.heap.size w1 w') :=
    ⟨fun w1 h1=>STEP.out w1 _ A2 c2 _ hh hrd.symm (y8 HB.out h1) (Kd.C_below Af (y8 HB.out h1)) Ae⟩
   replace p1:=eq_true p1
   replace cq:=eq_true cq
   clear hrd Ae Af
   have hmid:wrap64 (IntKind.u64.wrap (wrap64 (xi + xj)) / 2)=xh:=by
    rw [HXI.out,HXJ.out,hxh]
    have:=HJ.out
    have:=Aj.out
    rw [sar1 i j (by omega),show IntKind.u64.wrap (((i + j:Nat):Int))=((i + j:Nat):Int)by simp only [IntKind.wrap_u64];omega]
    unfold wrap64
    omega
   have Ap:decide (xi < xj)=true:=decide_eq_true (by have:=HXI.out;have:=HXJ.out;omega)
   have HXH:=y0.mk hxh
   clear hxh
   have HC:=y0.mk c
   have HH:=y0.mk hh
   clear c hh
   by_cases cc:cf ((i + j) / 2) < 0
   ·have Aq:decide (cf ((i + j) / 2) < 0)=true:=decide_eq_true cc
    have HCC:=y0.mk cc
    clear cc
    go_upto_region 5 with fail
    rw [hmid]
    refine start_ (n:=8) (S:=fun w'=>w'.cell? (ad.add (xh).toNat)=some (.slice A2 ((y24 l0 xh).f0).length c2)∧w'.cell? ⟨gt,0,none⟩=some (.slice At lt.length ct)) (ds:=[]) (fl_ 8 0) (by kernel_rfl) rfl rfl ⟨Aa,Ac⟩ (fun hHeld=>?_)
    refine qp4 0 24 8 ?_
    refine qt 4 28 (fl_ 8 31) hHeld ?_
    refine qt 5 29 (fl_ 8 63) hHeld ?_
    refine qO 6 30 (fl_ 8 127) (fun K hK=>?_)
    refine goesV_ Tryz.func44 (by kernel_rfl) rfl #[.agg #[.slice A2 ((y24 l0 xh).f0).length c2],.agg #[.slice At lt.length ct]] (by rfl) rfl rfl (by rfl) qy4 ?_
    with_reducible refine(CALL.out _ (below_drew (Below.refl _ _))).mono ?_
    rintro e w3 ⟨rfl,hb⟩
    refine⟨_,rfl, ?_⟩
    have n0_:=y0.mk (y8 (y5 HB.out) hb)
    have n1_:=y0.mk (y10 (y12 BK.out) hb)
    have Ad:=pw_cell_below (w:=wr.drew) hb Aa
    clear HB BK
    have HB:=n0_
    have BK:=n1_
    clear n0_ n1_ hb
    refine hK.out _ _ ⟨Ad,(y11 BK.out 0).trans rfl⟩ (fun hHeld=>?_)
    clear hK K
    refine qx 30 ?_
    refine qp 7 31 (fl_ 8 255) ?_
    refine done_ (by kernel_rfl) ?_
    clear CALL Aa Ac
    go_wp2
    go_roundg (j - ((i + j) / 2 + 1))
    case measure=>have:=Ak.out;have:=HC.out;omega
    case rel =>
     refine⟨wrap64 (xh + 1),xj,(i + j) / 2 + 1,j,qy2,rfl,⟨by rw [HXH.out];exact wrap_lupB (by have:=HH.out;have:=Aj.out;omega)⟩,HXJ,⟨?_⟩,HPJ,HJ,⟨by have:=HC.out;omega⟩,BK,HB⟩
     have:=(HM.out _ HH.out).1 HCC.out
     omega
   ·have Aq:decide (cf ((i + j) / 2) < 0)=false:=decide_eq_false cc
    have HCC:=y0.mk cc
    clear cc
    go_upto_region 5 with fail
    rw [hmid]
    refine start_ (n:=8) (S:=fun w'=>w'.cell? (ad.add (xh).toNat)=some (.slice A2 ((y24 l0 xh).f0).length c2)∧w'.cell? ⟨gt,0,none⟩=some (.slice At lt.length ct)) (ds:=[]) (fl_ 8 0) (by kernel_rfl) rfl rfl ⟨Aa,Ac⟩ (fun hHeld=>?_)
    refine qp4 0 24 8 ?_
    refine qt 4 28 (fl_ 8 31) hHeld ?_
    refine qt 5 29 (fl_ 8 63) hHeld ?_
    refine qO 6 30 (fl_ 8 127) (fun K hK=>?_)
    refine goesV_ Tryz.func44 (by kernel_rfl) rfl #[.agg #[.slice A2 ((y24 l0 xh).f0).length c2],.agg #[.slice At lt.length ct]] (by rfl) rfl rfl (by rfl) qy4 ?_
    with_reducible refine(CALL.out _ (below_drew (Below.refl _ _))).mono ?_
    rintro e w3 ⟨rfl,hb⟩
    refine⟨_,rfl, ?_⟩
    have n0_:=y0.mk (y8 (y5 HB.out) hb)
    have n1_:=y0.mk (y10 (y12 BK.out) hb)
    have Ad:=pw_cell_below (w:=wr.drew) hb Aa
    clear HB BK
    have HB:=n0_
    have BK:=n1_
    clear n0_ n1_ hb
    refine hK.out _ _ ⟨Ad,(y11 BK.out 0).trans rfl⟩ (fun hHeld=>?_)
    clear hK K
    refine qx 30 ?_
    refine qp 7 31 (fl_ 8 255) ?_
    refine done_ (by kernel_rfl) ?_
    clear CALL Aa Ac
    go_wp2
    go_roundg ((i + j) / 2 - i)
    case measure=>have:=Ak.out;have:=HC.out;omega
    case rel =>
     refine⟨xi,xh,i,(i + j) / 2,rfl,rfl,HXI,HXH,HIP,⟨?_⟩,⟨by have:=HH.out;omega⟩,⟨by have:=HC.out;omega⟩,BK,HB⟩
     have:=HCC.out
     have h1:=HM.out _ HH.out
     omega
  ·have hij:i=p∧j=p:=by
    have:=HIP.out
    have:=HPJ.out
    omega
   have e2:=hij.2.symm
   have e1:=hij.1
   clear hij
   subst e1
   subst e2
   have Ap:decide (xi < xj)=false:=decide_eq_false (by have:=HXI.out;have:=HXJ.out;omega)
   clear c
   by_cases hh:i < l0.length
   ·skip
    have p1:(0:Int)≤xi:=by have:=HXI.out;omega
    have cq:xi < (l0.length:Int):=by have:=HXI.out;omega
    obtain⟨ad,A2,c2,e2,Aa,Ae,Af⟩:=at_T36 Ai.out xi p1 cq
    cases e2
    replace Aa:=(HB.out.cell (World.block_lt_of_cell? w _ Aa)).trans Aa
    have hrd:y24 l0 xi=l0[i]'hh:=by rw [HXI.out];exact rd_atB l0 _ hh
    have Ac:wr.cell? ⟨gt,0,none⟩=some (.slice At lt.length ct):=(y11 BK.out 0).trans rfl
    have CALL:y0 (∀ w1:World,Below wr.heap.size wr w1→Calls Tryz.prog 44 #[.agg #[.slice A2 ((y24 l0 xi).f0).length c2],.agg #[.slice At lt.length ct]] w1 fun e w'=>e=.returned (.int .i64 (cf (i)))∧Below w1.heap.size w1 w') :=
     ⟨fun w1 h1=>STEP.out w1 _ A2 c2 _ hh hrd.symm (y8 HB.out h1) (Kd.C_below Af (y8 HB.out h1)) Ae⟩
    replace p1:=eq_true p1
    replace cq:=eq_true cq
    clear hrd Ae Af
    have Au:decide (xi < (l0.length:Int))=true:=decide_eq_true (by have:=HXI.out;omega)
    have hfe:fnd=decide (cf i=0):=by rw [HF.out,decide_eq_true hh];rfl
    clear hh
    by_cases cc:cf i=0
    ·have Av:(cf i == 0)=true:=beq_iff_eq.mpr cc
     have hfv:fnd=true:=by rw [hfe];exact decide_eq_true cc
     clear hfe cc
     go_upto_region 8 with fail
     refine start_ (n:=16) (S:=fun w'=>w'.cell? (ad.add (xi).toNat)=some (.slice A2 ((y24 l0 xi).f0).length c2)∧w'.cell? ⟨gt,0,none⟩=some (.slice At lt.length ct)) (ds:=[]) (fl_ 16 0) (by kernel_rfl) rfl rfl ⟨Aa,Ac⟩ (fun hHeld=>?_)
     refine qp6 0 35 16 ?_
     refine qp3 6 41 16 ?_
     refine qt 9 44 (fl_ 16 1023) hHeld ?_
     refine qt 10 45 (fl_ 16 2047) hHeld ?_
     refine qO 11 46 (fl_ 16 4095) (fun K hK=>?_)
     refine goesV_ Tryz.func44 (by kernel_rfl) rfl #[.agg #[.slice A2 ((y24 l0 xi).f0).length c2],.agg #[.slice At lt.length ct]] (by rfl) rfl rfl (by rfl) qy4 ?_
     with_reducible refine(CALL.out _ (below_drew (Below.refl _ _))).mono ?_
     rintro e w3 ⟨rfl,hb⟩
     refine⟨_,rfl, ?_⟩
     have n0_:=y0.mk (y8 (y5 HB.out) hb)
     have n1_:=y0.mk (y10 (y12 BK.out) hb)
     have Ad:=pw_cell_below (w:=wr.drew) hb Aa
     clear HB BK
     have HB:=n0_
     have BK:=n1_
     clear n0_ n1_ hb
     refine hK.out _ _ ⟨Ad,(y11 BK.out 0).trans rfl⟩ (fun hHeld=>?_)
     clear hK K
     refine qx 46 ?_
     refine qp2 12 47 16 ?_
     refine qp2 14 6 16 ?_
     refine done_ (by kernel_rfl) ?_
     clear CALL Aa Ac
     go_wp2
     go_ret2
     exact⟨by rw [hfv,HXI.out];rfl,HB.out⟩
    ·have Av:(cf i == 0)=false:=beq_eq_false_iff_ne.mpr cc
     have hfv:fnd=false:=by rw [hfe];exact decide_eq_false cc
     clear hfe cc
     go_upto_region 8 with fail
     refine start_ (n:=16) (S:=fun w'=>w'.cell? (ad.add (xi).toNat)=some (.slice A2 ((y24 l0 xi).f0).length c2)∧w'.cell? ⟨gt,0,none⟩=some (.slice At lt.length ct)) (ds:=[]) (fl_ 16 0) (by kernel_rfl) rfl rfl ⟨Aa,Ac⟩ (fun hHeld=>?_)
     refine qp6 0 35 16 ?_
     refine qp3 6 41 16 ?_
     refine qt 9 44 (fl_ 16 1023) hHeld ?_
     refine qt 10 45 (fl_ 16 2047) hHeld ?_
     refine qO 11 46 (fl_ 16 4095) (fun K hK=>?_)
     refine goesV_ Tryz.func44 (by kernel_rfl) rfl #[.agg #[.slice A2 ((y24 l0 xi).f0).length c2],.agg #[.slice At lt.length ct]] (by rfl) rfl rfl (by rfl) qy4 ?_
     with_reducible refine(CALL.out _ (below_drew (Below.refl _ _))).mono ?_
     rintro e w3 ⟨rfl,hb⟩
     refine⟨_,rfl, ?_⟩
     have n0_:=y0.mk (y8 (y5 HB.out) hb)
     have n1_:=y0.mk (y10 (y12 BK.out) hb)
     have Ad:=pw_cell_below (w:=wr.drew) hb Aa
     clear HB BK
     have HB:=n0_
     have BK:=n1_
     clear n0_ n1_ hb
     refine hK.out _ _ ⟨Ad,(y11 BK.out 0).trans rfl⟩ (fun hHeld=>?_)
     clear hK K
     refine qx 46 ?_
     refine qp2 12 47 16 ?_
     refine qp2 14 6 16 ?_
     refine done_ (by kernel_rfl) ?_
     clear CALL Aa Ac
     go_wp2
     go_ret2
     exact⟨by rw [hfv,HXI.out];rfl,HB.out⟩
   ·have Au:decide (xi < (l0.length:Int))=false:=decide_eq_false (by have:=HXI.out;omega)
    have hfv:fnd=false:=by rw [HF.out,decide_eq_false hh];rfl
    clear hh
    go_upto_region 8 with fail
    refine start_ (n:=16) (S:=fun w'=>True) (ds:=[]) (fl_ 16 0) (by kernel_rfl) rfl rfl trivial (fun hHeld=>?_)
    refine qp10 0 35 16 ?_
    refine qp4 10 45 16 ?_
    refine qp2 14 6 16 ?_
    refine done_ (by kernel_rfl) ?_
    replace HB:=y0.mk (y5 HB.out)
    go_wp2
    go_ret2
    exact⟨by rw [hfv,HXI.out];rfl,HB.out⟩
/-- How the rows stand to a tuple, in order. -/
def cmps (k:Nat) (t:List ByteArray):List S36→Option (List Int)
 | []=>some []
 | r :: l=>(impl_compareTuples.f k r.f0 t).bind fun c=>(cmps k t l).bind fun cs=>some (c :: cs)
def negs:List Int→Nat
 | []=>0
 | c :: cs=>if c < 0 then negs cs + 1 else 0
/-- Where a tuple belongs among rows in order; is it there. -/
def placeB (k:Nat) (l:List S36) (t:List ByteArray):Option (Nat×Bool) :=
 (cmps k t l).bind fun cs=>if(cs.drop (negs cs)).all (fun c=>decide (0≤c))=true then some (negs cs,decide (cs[negs cs]?=some 0))else none
theorem cmps_get {k:Nat} {t:List ByteArray}:∀ {l:List S36} {cs:List Int},cmps k t l=some cs→cs.length=l.length∧∀ j (h:j < l.length),impl_compareTuples.f k l[j].f0 t=some (cs.getD j 0)
 | [],cs,h=>by
  injection h with h
  subst h
  exact⟨rfl,fun j h=>absurd h (Nat.not_lt_zero _)⟩
 | r :: l,cs,h=>by
  obtain⟨c,h1,h⟩:=Option.bind_eq_some_iff.1 h
  obtain⟨cs',h2,h⟩:=Option.bind_eq_some_iff.1 h
  injection h with h
  subst h
  obtain⟨h3,h4⟩:=cmps_get h2
  refine⟨by simp [h3],fun j hj=>?_⟩
  cases j with
  | zero=>exact h1
  | succ j=>exact h4 j (by simpa using hj)
theorem negs_le:∀ cs:List Int,negs cs≤cs.length
 | []=>Nat.le_refl _
 | c :: cs=>by
  unfold negs
  have:=negs_le cs
  split <;> simp <;> omega
theorem negs_neg:∀(cs:List Int) (j:Nat),j < negs cs→cs.getD j 0 < 0
 | [],j,h=>absurd h (Nat.not_lt_zero _)
 | c :: cs,j,h=>by
  unfold negs at h
  split at h
  ·rename_i hc
   cases j with
   | zero=>exact hc
   | succ j=>exact negs_neg cs j (by omega)
  ·exact absurd h (Nat.not_lt_zero _)
theorem placeB_spec {k:Nat} {l:List S36} {t:List ByteArray} {p:Nat} {b:Bool} (h:placeB k l t=some (p,b)):∃ cf:Nat→Int,(∀ j (h:j < l.length),impl_compareTuples.f k l[j].f0 t=some (cf j))∧p≤l.length∧(∀ j,j < l.length→(cf j < 0↔j < p))∧b=(decide (p < l.length) && decide (cf p=0)):=by
 obtain⟨cs,h1,h⟩:=Option.bind_eq_some_iff.1 h
 obtain⟨h2,h3⟩:=cmps_get h1
 by_cases hc:(cs.drop (negs cs)).all (fun c=>decide (0≤c))=true
 ·rw [if_pos hc]at h
  injection h with h
  obtain⟨rfl,rfl⟩:=Prod.mk.inj h
  refine⟨fun j=>cs.getD j 0,h3,by rw [← h2];exact negs_le cs,fun j hj=>⟨fun hn=>?_,negs_neg cs j⟩, ?_⟩
  ·refine Decidable.byContradiction fun hge=>?_
   rw [List.all_eq_true]at hc
   have hjl:j < cs.length:=by omega
   have:=hc (cs[j]) (List.mem_drop_iff_getElem.2 ⟨j - negs cs,by omega,by congr 1;omega⟩)
   replace hn:cs.getD j 0 < 0:=hn
   rw [List.getD_eq_getElem?_getD,List.getElem?_eq_getElem hjl,Option.getD_some]at hn
   have h5:=of_decide_eq_true this
   omega
  ·show decide (cs[negs cs]?=some 0)=(decide (negs cs < l.length) && decide (cs.getD (negs cs) 0=0))
   by_cases hl:negs cs < l.length
   ·rw [decide_eq_true hl,Bool.true_and,List.getElem?_eq_getElem (by omega),List.getD_eq_getElem?_getD,List.getElem?_eq_getElem (by omega),Option.getD_some]
    simp
   ·rw [decide_eq_false hl,Bool.false_and,List.getElem?_eq_none (by omega)]
    rfl
 ·rw [if_neg hc]at h
  cases h
def impl_RelPut.f (k:Nat) (a0_0:Int) (l0_1:List S36) (l1_0:List ByteArray):Option (Int×List S36×Bool) :=
 (impl_isRel.f k a0_0 l0_1).bind fun ta=>if ta=true then(impl_isTuple.f k l1_0).bind fun tb=>if tb=true then(if(l1_0.length:Int)=a0_0 then(impl_copyRel.f k a0_0 l0_1).bind fun r=>(if r.2.length≤5864062014804 then(placeB k r.2 l1_0).bind fun p=>(if p.2=true then some (r.1,r.2,false)else(if(r.2.length:Int)=400 then some (0,[],false)else(impl_copyTuple.f l1_0).bind fun c=>some (r.1,r.2.insertIdx p.1 ⟨c⟩,true)))else none)else some (0,[],false))else some (0,[],false)else some (0,[],false)
set_option maxHeartbeats 16000000 in
set_option maxRecDepth 100000 in
theorem impl_RelPut.calls (k:Nat) (Ag:Int) (Ak:Option Addr) (Al:Nat) (Ah:List (S36)) (Am:Option Addr) (Ap:Nat) (Af:List ByteArray) (r1:Int) (r2:List (S36)) (r3:Bool) (w:World) (Ay:Kd.C k36 w Ak Ah.length Ah) (Az:Ah.length≤Al) (Ba:Kd.C Kd.string w Am Af.length Af) (Bb:Af.length≤Ap) (hT:Tb w) (h:impl_RelPut.f k Ag Ah Af=some (r1,r2,r3)) :
  Calls Tryz.prog 13 #[.agg #[.int .i64 Ag,.slice Ak Ah.length Al],.agg #[.slice Am Af.length Ap]] w fun e w'=>∃ v1_:Value,e=.returned (.tuple #[.agg #[.int .i64 r1,v1_],.bool r3])∧Kd.S k36 36 w' w.heap.size (fun _=>True) v1_ r2∧Below w.heap.size w w':=by
 have Bj:=Tryz.underlying32
 have Bk:=Tryz.underlying36
 unfold impl_RelPut.f at h
 obtain⟨ta,E1,h⟩:=Option.bind_eq_some_iff.1 h
 have STA:y0 (∀ W,Below w.heap.size w W→Calls Tryz.prog 40 #[.agg #[.int .i64 Ag,.slice Ak Ah.length Al]] W fun e w'=>e=.returned (.bool ta)∧Below W.heap.size W w'):=⟨fun W hW=>impl_isRel.calls k Ag Ak Al Ah ta W (Kd.C_below Ay hW) Az (Tb.below hT hW) E1⟩
 have HB:=y0.mk (Below.refl w.heap.size w)
 clear E1
 cases ta with
 | false =>
  rw [if_neg Bool.false_ne_true]at h
  simp only [Option.some.injEq,Prod.mk.injEq]at h
  obtain⟨rfl,rfl,rfl⟩:=h
  clear Ay Az Ba Bb hT
  go_enter Tryz.func13,Tryz.ntmps13
  go_wp2_with (first
   | ((with_reducible refine y20 (N:=2) rfl ?_);refine qe 2 #[.int .i64 Ag,.slice Ak Ah.length Al] 32 ?_;intro gr hg w1 hbox hb;have BKr:=y0.mk (hbox);have GEr:=y0.mk ((by rw [hg];exact HB.out.size:w.heap.size≤gr));replace HB:=y0.mk (y8 HB.out hb);clear hb hg hbox;obtain⟨Aa,Ac,Ad,Ae⟩:=QIv.box2 BKr.out)
   | ((with_reducible refine y20 (N:=3) rfl ?_);refine qe 3 #[.slice Am Af.length Ap] 36 ?_;intro gt hg w2 hbox hb;(repeat first|clear Aa|clear Ac|clear Ad|clear Ae);have BKt:=y0.mk (hbox);have GEt:=y0.mk ((by rw [hg];exact HB.out.size:w.heap.size≤gt));have Nr_t:=y0.mk ((by rw [hg];exact Nat.ne_of_lt (QIv.ki_lt BKr.out):gr≠gt));replace BKr:=y0.mk (y10 (g:=gr) (o:=(.cells #[.int .i64 Ag,.slice Ak Ah.length Al] 32 (0,0))) BKr.out hb);replace HB:=y0.mk (y8 HB.out hb);clear hb hg hbox;obtain⟨Aa,Ac,Ad,Ae⟩:=QIv.box2 BKr.out;obtain⟨Ai,Aj⟩:=QIv.box1 BKt.out)
   | ((with_reducible refine y20 (N:=4) rfl ?_);refine qe 4 #[.int .i64 0,.slice none 0 0] 32 ?_;intro gz hg w3 hbox hb;(repeat first|clear Aa|clear Ac|clear Ai|clear Ad|clear Ae|clear Aj);have BKz:=y0.mk (hbox);have GEz:=y0.mk ((by rw [hg];exact HB.out.size:w.heap.size≤gz));have Nr_z:=y0.mk ((by rw [hg];exact Nat.ne_of_lt (QIv.ki_lt BKr.out):gr≠gz));have Nt_z:=y0.mk ((by rw [hg];exact Nat.ne_of_lt (QIv.ki_lt BKt.out):gt≠gz));replace BKr:=y0.mk (y10 (g:=gr) (o:=(.cells #[.int .i64 Ag,.slice Ak Ah.length Al] 32 (0,0))) BKr.out hb);replace BKt:=y0.mk (y10 (g:=gt) (o:=(.cells #[.slice Am Af.length Ap] 36 (0,0))) BKt.out hb);replace HB:=y0.mk (y8 HB.out hb);clear hb hg hbox;obtain⟨Aa,Ac,Ad,Ae⟩:=QIv.box2 BKr.out;obtain⟨Ai,Aj⟩:=QIv.box1 BKt.out;obtain⟨Aq,Au,Av,Aw⟩:=QIv.box2 BKz.out)
   | ((try(refine y21 (by rfl) ?_;dsimp only));go_at_call 40;(with_reducible refine(STA.out _ HB.out).mono ?_);rintro e w4 ⟨rfl,hb⟩;(repeat first|clear Aa|clear Ac|clear Ai|clear Aq|clear Au|clear Ad|clear Ae|clear Aj|clear Av|clear Aw);replace BKr:=y0.mk (y10 (g:=gr) (o:=(.cells #[.int .i64 Ag,.slice Ak Ah.length Al] 32 (0,0))) BKr.out hb);replace BKt:=y0.mk (y10 (g:=gt) (o:=(.cells #[.slice Am Af.length Ap] 36 (0,0))) BKt.out hb);replace BKz:=y0.mk (y10 (g:=gz) (o:=(.cells #[.int .i64 0,.slice none 0 0] 32 (0,0))) BKz.out hb);replace HB:=y0.mk (y8 HB.out hb);(try clear hb);obtain⟨Aa,Ac,Ad,Ae⟩:=QIv.box2 BKr.out;obtain⟨Ai,Aj⟩:=QIv.box1 BKt.out;obtain⟨Aq,Au,Av,Aw⟩:=QIv.box2 BKz.out))
  refine bodyPost_ret (results_ct rfl _ _ gz 32 #[.int .i64 0,.slice none 0 0] (0,0) _ rfl (by(with_reducible repeat(first|refine y13 ?_ _|refine y12 ?_|refine y9 ?_ _));refine y16 (cs:=#[.int .i64 0,.slice none 0 0]) ?_ 1 _ rfl;refine y16 (cs:=#[.int .i64 0,.slice none 0 0]) ?_ 0 _ rfl;exact BKz.out) Tryz.underlying32 rfl (by kernel_rfl)) rfl ?_
  exact⟨.slice none 0 0,by first|rfl|(simp [y17,y18] <;> rfl),Kd.S_nil _ _ _ _ _,y6 (y6 HB.out GEz.out) GEz.out⟩
 | true =>
  rw [if_pos rfl]at h
  obtain⟨tb,E2,h⟩:=Option.bind_eq_some_iff.1 h
  have STB:y0 (∀ W,Below w.heap.size w W→Calls Tryz.prog 41 #[.agg #[.slice Am Af.length Ap]] W fun e w'=>e=.returned (.bool tb)∧Below W.heap.size W w'):=⟨fun W hW=>impl_isTuple.calls k Am Ap Af tb W (Kd.C_below Ba hW) Bb (Tb.below hT hW) E2⟩
  clear E2
  cases tb with
  | false =>
   rw [if_neg Bool.false_ne_true]at h
   simp only [Option.some.injEq,Prod.mk.injEq]at h
   obtain⟨rfl,rfl,rfl⟩:=h
   clear Ay Az Ba Bb hT
   go_enter Tryz.func13,Tryz.ntmps13
   go_wp2_with (first
    | ((with_reducible refine y20 (N:=2) rfl ?_);refine qe 2 #[.int .i64 Ag,.slice Ak Ah.length Al] 32 ?_;intro gr hg w1 hbox hb;have BKr:=y0.mk (hbox);have GEr:=y0.mk ((by rw [hg];exact HB.out.size:w.heap.size≤gr));replace HB:=y0.mk (y8 HB.out hb);clear hb hg hbox;obtain⟨Aa,Ac,Ad,Ae⟩:=QIv.box2 BKr.out)
    | ((with_reducible refine y20 (N:=3) rfl ?_);refine qe 3 #[.slice Am Af.length Ap] 36 ?_;intro gt hg w2 hbox hb;(repeat first|clear Aa|clear Ac|clear Ad|clear Ae);have BKt:=y0.mk (hbox);have GEt:=y0.mk ((by rw [hg];exact HB.out.size:w.heap.size≤gt));have Nr_t:=y0.mk ((by rw [hg];exact Nat.ne_of_lt (QIv.ki_lt BKr.out):gr≠gt));replace BKr:=y0.mk (y10 (g:=gr) (o:=(.cells #[.int .i64 Ag,.slice Ak Ah.length Al] 32 (0,0))) BKr.out hb);replace HB:=y0.mk (y8 HB.out hb);clear hb hg hbox;obtain⟨Aa,Ac,Ad,Ae⟩:=QIv.box2 BKr.out;obtain⟨Ai,Aj⟩:=QIv.box1 BKt.out)
    | ((with_reducible refine y20 (N:=4) rfl ?_);refine qe 4 #[.int .i64 0,.slice none 0 0] 32 ?_;intro gz hg w3 hbox hb;(repeat first|clear Aa|clear Ac|clear Ai|clear Ad|clear Ae|clear Aj);have BKz:=y0.mk (hbox);have GEz:=y0.mk ((by rw [hg];exact HB.out.size:w.heap.size≤gz));have Nr_z:=y0.mk ((by rw [hg];exact Nat.ne_of_lt (QIv.ki_lt BKr.out):gr≠gz));have Nt_z:=y0.mk ((by rw [hg];exact Nat.ne_of_lt (QIv.ki_lt BKt.out):gt≠gz));replace BKr:=y0.mk (y10 (g:=gr) (o:=(.cells #[.int .i64 Ag,.slice Ak Ah.length Al] 32 (0,0))) BKr.out hb);replace BKt:=y0.mk (y10 (g:=gt) (o:=(.cells #[.slice Am Af.length Ap] 36 (0,0))) BKt.out hb);replace HB:=y0.mk (y8 HB.out hb);clear hb hg hbox;obtain⟨Aa,Ac,Ad,Ae⟩:=QIv.box2 BKr.out;obtain⟨Ai,Aj⟩:=QIv.box1 BKt.out;obtain⟨Aq,Au,Av,Aw⟩:=QIv.box2 BKz.out)
    | ((try(refine y21 (by rfl) ?_;dsimp only));go_at_call 40;(with_reducible refine(STA.out _ HB.out).mono ?_);rintro e w4 ⟨rfl,hb⟩;(repeat first|clear Aa|clear Ac|clear Ai|clear Aq|clear Au|clear Ad|clear Ae|clear Aj|clear Av|clear Aw);replace BKr:=y0.mk (y10 (g:=gr) (o:=(.cells #[.int .i64 Ag,.slice Ak Ah.length Al] 32 (0,0))) BKr.out hb);replace BKt:=y0.mk (y10 (g:=gt) (o:=(.cells #[.slice Am Af.length Ap] 36 (0,0))) BKt.out hb);replace BKz:=y0.mk (y10 (g:=gz) (o:=(.cells #[.int .i64 0,.slice none 0 0] 32 (0,0))) BKz.out hb);replace HB:=y0.mk (y8 HB.out hb);(try clear hb);obtain⟨Aa,Ac,Ad,Ae⟩:=QIv.box2 BKr.out;obtain⟨Ai,Aj⟩:=QIv.box1 BKt.out;obtain⟨Aq,Au,Av,Aw⟩:=QIv.box2 BKz.out)
    | ((try(refine y21 (by rfl) ?_;dsimp only));go_at_call 41;(with_reducible refine(STB.out _ HB.out).mono ?_);rintro e w5 ⟨rfl,hb⟩;(repeat first|clear Aa|clear Ac|clear Ai|clear Aq|clear Au|clear Ad|clear Ae|clear Aj|clear Av|clear Aw);replace BKr:=y0.mk (y10 (g:=gr) (o:=(.cells #[.int .i64 Ag,.slice Ak Ah.length Al] 32 (0,0))) BKr.out hb);replace BKt:=y0.mk (y10 (g:=gt) (o:=(.cells #[.slice Am Af.length Ap] 36 (0,0))) BKt.out hb);replace BKz:=y0.mk (y10 (g:=gz) (o:=(.cells #[.int .i64 0,.slice none 0 0] 32 (0,0))) BKz.out hb);replace HB:=y0.mk (y8 HB.out hb);(try clear hb);obtain⟨Aa,Ac,Ad,Ae⟩:=QIv.box2 BKr.out;obtain⟨Ai,Aj⟩:=QIv.box1 BKt.out;obtain⟨Aq,Au,Av,Aw⟩:=QIv.box2 BKz.out))
   refine bodyPost_ret (results_ct rfl _ _ gz 32 #[.int .i64 0,.slice none 0 0] (0,0) _ rfl (by(with_reducible repeat(first|refine y13 ?_ _|refine y12 ?_|refine y9 ?_ _));refine y16 (cs:=#[.int .i64 0,.slice none 0 0]) ?_ 1 _ rfl;refine y16 (cs:=#[.int .i64 0,.slice none 0 0]) ?_ 0 _ rfl;exact BKz.out) Tryz.underlying32 rfl (by kernel_rfl)) rfl ?_
   exact⟨.slice none 0 0,by first|rfl|(simp [y17,y18] <;> rfl),Kd.S_nil _ _ _ _ _,y6 (y6 HB.out GEz.out) GEz.out⟩
  | true =>
   rw [if_pos rfl]at h
   by_cases e0:(Af.length:Int)=Ag
   ·rw [if_pos e0]at h
    obtain⟨⟨q1,rl⟩,E3,h⟩:=Option.bind_eq_some_iff.1 h
    by_cases e1:rl.length≤5864062014804
    ·rw [if_pos e1]at h
     obtain⟨⟨p,fnd⟩,E4,h⟩:=Option.bind_eq_some_iff.1 h
     obtain⟨cf,hcf,hp,hm,hf⟩:=placeB_spec E4
     have Bi:=y0.mk e1
     have Bl:=y0.mk E3
     have Bm:=y0.mk Ay
     have Bn:=y0.mk Az
     have HRT:=y0.mk Ba
     have HCT:=y0.mk Bb
     have HT:=y0.mk hT
     have HP:=y0.mk hp
     have HCF:=y0.mk hcf
     have HM:=y0.mk hm
     have HF:=y0.mk hf
     have ce:((Af.length:Int) != Ag)=false:=by rw [e0];simp
     clear e0 e1 E3 E4 Ay Az Ba Bb hT hp hcf hm hf
     have HSH:=y0.mk h
     clear h
     go_enter Tryz.func13,Tryz.ntmps13
     go_upto_region 4 with(first
      | ((with_reducible refine y20 (N:=2) rfl ?_);refine qe 2 #[.int .i64 Ag,.slice Ak Ah.length Al] 32 ?_;intro gr hg w1 hbox hb;have BKr:=y0.mk (hbox);have GEr:=y0.mk ((by rw [hg];exact HB.out.size:w.heap.size≤gr));replace HB:=y0.mk (y8 HB.out hb);clear hb hg hbox;obtain⟨Aa,Ac,Ad,Ae⟩:=QIv.box2 BKr.out)
      | ((with_reducible refine y20 (N:=3) rfl ?_);refine qe 3 #[.slice Am Af.length Ap] 36 ?_;intro gt hg w2 hbox hb;(repeat first|clear Aa|clear Ac|clear Ad|clear Ae);have BKt:=y0.mk (hbox);have GEt:=y0.mk ((by rw [hg];exact HB.out.size:w.heap.size≤gt));have Nr_t:=y0.mk ((by rw [hg];exact Nat.ne_of_lt (QIv.ki_lt BKr.out):gr≠gt));replace BKr:=y0.mk (y10 (g:=gr) (o:=(.cells #[.int .i64 Ag,.slice Ak Ah.length Al] 32 (0,0))) BKr.out hb);replace HB:=y0.mk (y8 HB.out hb);clear hb hg hbox;obtain⟨Aa,Ac,Ad,Ae⟩:=QIv.box2 BKr.out;obtain⟨Ai,Aj⟩:=QIv.box1 BKt.out)
      | ((with_reducible refine y20 (N:=4) rfl ?_);refine qe 4 #[.int .i64 0,.slice none 0 0] 32 ?_;intro gz hg w3 hbox hb;(repeat first|clear Aa|clear Ac|clear Ai|clear Ad|clear Ae|clear Aj);have BKz:=y0.mk (hbox);have GEz:=y0.mk ((by rw [hg];exact HB.out.size:w.heap.size≤gz));have Nr_z:=y0.mk ((by rw [hg];exact Nat.ne_of_lt (QIv.ki_lt BKr.out):gr≠gz));have Nt_z:=y0.mk ((by rw [hg];exact Nat.ne_of_lt (QIv.ki_lt BKt.out):gt≠gz));replace BKr:=y0.mk (y10 (g:=gr) (o:=(.cells #[.int .i64 Ag,.slice Ak Ah.length Al] 32 (0,0))) BKr.out hb);replace BKt:=y0.mk (y10 (g:=gt) (o:=(.cells #[.slice Am Af.length Ap] 36 (0,0))) BKt.out hb);replace HB:=y0.mk (y8 HB.out hb);clear hb hg hbox;obtain⟨Aa,Ac,Ad,Ae⟩:=QIv.box2 BKr.out;obtain⟨Ai,Aj⟩:=QIv.box1 BKt.out;obtain⟨Aq,Au,Av,Aw⟩:=QIv.box2 BKz.out)
      | ((try(refine y21 (by rfl) ?_;dsimp only));go_at_call 40;(with_reducible refine(STA.out _ HB.out).mono ?_);rintro e w4 ⟨rfl,hb⟩;(repeat first|clear Aa|clear Ac|clear Ai|clear Aq|clear Au|clear Ad|clear Ae|clear Aj|clear Av|clear Aw);replace BKr:=y0.mk (y10 (g:=gr) (o:=(.cells #[.int .i64 Ag,.slice Ak Ah.length Al] 32 (0,0))) BKr.out hb);replace BKt:=y0.mk (y10 (g:=gt) (o:=(.cells #[.slice Am Af.length Ap] 36 (0,0))) BKt.out hb);replace BKz:=y0.mk (y10 (g:=gz) (o:=(.cells #[.int .i64 0,.slice none 0 0] 32 (0,0))) BKz.out hb);replace HB:=y0.mk (y8 HB.out hb);(try clear hb);obtain⟨Aa,Ac,Ad,Ae⟩:=QIv.box2 BKr.out;obtain⟨Ai,Aj⟩:=QIv.box1 BKt.out;obtain⟨Aq,Au,Av,Aw⟩:=QIv.box2 BKz.out)
      | ((try(refine y21 (by rfl) ?_;dsimp only));go_at_call 41;(with_reducible refine(STB.out _ HB.out).mono ?_);rintro e w5 ⟨rfl,hb⟩;(repeat first|clear Aa|clear Ac|clear Ai|clear Aq|clear Au|clear Ad|clear Ae|clear Aj|clear Av|clear Aw);replace BKr:=y0.mk (y10 (g:=gr) (o:=(.cells #[.int .i64 Ag,.slice Ak Ah.length Al] 32 (0,0))) BKr.out hb);replace BKt:=y0.mk (y10 (g:=gt) (o:=(.cells #[.slice Am Af.length Ap] 36 (0,0))) BKt.out hb);replace BKz:=y0.mk (y10 (g:=gz) (o:=(.cells #[.int .i64 0,.slice none 0 0] 32 (0,0))) BKz.out hb);replace HB:=y0.mk (y8 HB.out hb);(try clear hb);obtain⟨Aa,Ac,Ad,Ae⟩:=QIv.box2 BKr.out;obtain⟨Ai,Aj⟩:=QIv.box1 BKt.out;obtain⟨Aq,Au,Av,Aw⟩:=QIv.box2 BKz.out)
      | (go_at_call 42;(with_reducible refine(impl_copyRel.calls k Ag _ _ Ah q1 rl _ (Kd.C_below Bm.out HB.out) Bn.out Bl.out).mono ?_);rintro e w6 ⟨v_,rfl,ho,hb⟩;obtain⟨loO,hiO,hlo_,hhi_,hOO_⟩:=QIv.OS.new ho;obtain⟨AO,cO,eA_⟩:=hOO_.slice;subst eA_;have HLH:=y0.mk (by rw [hlo_,hhi_];exact hb.size:loO≤hiO);(repeat first|clear Aa|clear Ac|clear Ai|clear Aq|clear Au|clear Ad|clear Ae|clear Aj|clear Av|clear Aw);have OO:=y0.mk (hOO_);have LO:=y0.mk ((by rw [hhi_];exact Nat.le_refl _:hiO≤_));have BO:=y0.mk ((by rw [hlo_];exact HB.out.size:w.heap.size≤loO));have Er_O:=y0.mk ((by rw [hlo_];exact QIv.ki_lt BKr.out:gr < loO));have Et_O:=y0.mk ((by rw [hlo_];exact QIv.ki_lt BKt.out:gt < loO));have Ez_O:=y0.mk ((by rw [hlo_];exact QIv.ki_lt BKz.out:gz < loO));replace BKr:=y0.mk (y10 (g:=gr) (o:=(.cells #[.int .i64 Ag,.slice Ak Ah.length Al] 32 (0,0))) BKr.out hb);replace BKt:=y0.mk (y10 (g:=gt) (o:=(.cells #[.slice Am Af.length Ap] 36 (0,0))) BKt.out hb);replace BKz:=y0.mk (y10 (g:=gz) (o:=(.cells #[.int .i64 0,.slice none 0 0] 32 (0,0))) BKz.out hb);replace HB:=y0.mk (y8 HB.out hb);(try clear hb);(try clear ho);(try clear hlo_);(try clear hhi_);obtain⟨Aa,Ac,Ad,Ae⟩:=QIv.box2 BKr.out;obtain⟨Ai,Aj⟩:=QIv.box1 BKt.out;obtain⟨Aq,Au,Av,Aw⟩:=QIv.box2 BKz.out)
      | ((with_reducible refine y20 (N:=6) rfl ?_);refine qe 6 #[.int .i64 0,.slice none 0 0] 32 ?_;intro go hg w7 hbox hb;(repeat first|clear Aa|clear Ac|clear Ai|clear Aq|clear Au|clear Ad|clear Ae|clear Aj|clear Av|clear Aw);have BKo:=y0.mk (hbox);have GEo:=y0.mk ((by rw [hg];exact HB.out.size:w.heap.size≤go));have EO_o:=y0.mk ((by rw [hg];exact LO.out:hiO≤go));have Nr_o:=y0.mk ((by rw [hg];exact Nat.ne_of_lt (QIv.ki_lt BKr.out):gr≠go));have Nt_o:=y0.mk ((by rw [hg];exact Nat.ne_of_lt (QIv.ki_lt BKt.out):gt≠go));have Nz_o:=y0.mk ((by rw [hg];exact Nat.ne_of_lt (QIv.ki_lt BKz.out):gz≠go));replace OO:=y0.mk (OO.out.below hb);replace LO:=y0.mk (Nat.le_trans LO.out hb.size);replace BKr:=y0.mk (y10 (g:=gr) (o:=(.cells #[.int .i64 Ag,.slice Ak Ah.length Al] 32 (0,0))) BKr.out hb);replace BKt:=y0.mk (y10 (g:=gt) (o:=(.cells #[.slice Am Af.length Ap] 36 (0,0))) BKt.out hb);replace BKz:=y0.mk (y10 (g:=gz) (o:=(.cells #[.int .i64 0,.slice none 0 0] 32 (0,0))) BKz.out hb);replace HB:=y0.mk (y8 HB.out hb);clear hb hg hbox;obtain⟨Aa,Ac,Ad,Ae⟩:=QIv.box2 BKr.out;obtain⟨Ai,Aj⟩:=QIv.box1 BKt.out;obtain⟨Aq,Au,Av,Aw⟩:=QIv.box2 BKz.out;obtain⟨Bc,Bd,Be,Bf⟩:=QIv.box2 BKo.out))
     (repeat first|clear Aa|clear Ac|clear Ai|clear Aq|clear Au|clear Bc|clear Bd|clear Ad|clear Ae|clear Aj|clear Av|clear Aw|clear Be|clear Bf)
     replace OO:=y0.mk (((OO.out.set (.inr EO_o.out) _ _).set (.inr EO_o.out) _ _):QIv.OS k36 36 loO hiO (.slice AO rl.length cO) rl ((w7.setCell ⟨go,0,none⟩ (.int .i64 q1)).setCell ⟨go,1,none⟩ (.slice AO rl.length cO)))
     replace LO:=y0.mk (by simpa using LO.out:hiO≤((w7.setCell ⟨go,0,none⟩ (.int .i64 q1)).setCell ⟨go,1,none⟩ (.slice AO rl.length cO)).heap.size)
     replace BKr:=y0.mk ((y14 (y14 BKr.out (Nr_o.out) _) (Nr_o.out) _):((w7.setCell ⟨go,0,none⟩ (.int .i64 q1)).setCell ⟨go,1,none⟩ (.slice AO rl.length cO)).heap[gr]?=some (.cells #[.int .i64 Ag,.slice Ak Ah.length Al] 32 (0,0)))
     replace BKt:=y0.mk ((y14 (y14 BKt.out (Nt_o.out) _) (Nt_o.out) _):((w7.setCell ⟨go,0,none⟩ (.int .i64 q1)).setCell ⟨go,1,none⟩ (.slice AO rl.length cO)).heap[gt]?=some (.cells #[.slice Am Af.length Ap] 36 (0,0)))
     replace BKz:=y0.mk ((y14 (y14 BKz.out (Nz_o.out) _) (Nz_o.out) _):((w7.setCell ⟨go,0,none⟩ (.int .i64 q1)).setCell ⟨go,1,none⟩ (.slice AO rl.length cO)).heap[gz]?=some (.cells #[.int .i64 0,.slice none 0 0] 32 (0,0)))
     replace BKo:=y0.mk ((blk_set (blk_set BKo.out 0 (.int .i64 q1)) 1 (.slice AO rl.length cO)):((w7.setCell ⟨go,0,none⟩ (.int .i64 q1)).setCell ⟨go,1,none⟩ (.slice AO rl.length cO)).heap[go]?=some (.cells #[.int .i64 q1,.slice AO rl.length cO] 32 (0,0)))
     replace HB:=y0.mk ((y6 (y6 HB.out GEo.out) GEo.out):Below w.heap.size w ((w7.setCell ⟨go,0,none⟩ (.int .i64 q1)).setCell ⟨go,1,none⟩ (.slice AO rl.length cO)))
     generalize ((w7.setCell ⟨go,0,none⟩ (.int .i64 q1)).setCell ⟨go,1,none⟩ (.slice AO rl.length cO))=w8 at OO LO BKr BKt BKz BKo HB ⊢
     obtain⟨Aa,Ac,Ad,Ae⟩:=QIv.box2 BKr.out
     obtain⟨Ai,Aj⟩:=QIv.box1 BKt.out
     obtain⟨Aq,Au,Av,Aw⟩:=QIv.box2 BKz.out
     obtain⟨Bc,Bd,Be,Bf⟩:=QIv.box2 BKo.out
     go_upto_region 5 with(first
      | (go_at_call 43;(with_reducible refine(slices_BinarySearchFunc_T.calls k _ _ rl _ _ Af cf p _ _ OO.out.C OO.out.le (Kd.C_below HRT.out HB.out) HCT.out (Tb.below HT.out HB.out) (Nat.le_trans Bi.out (by decide)) HCF.out HP.out HM.out HF.out).mono ?_);rintro e w9 ⟨rfl,hb⟩;(repeat first|clear Aa|clear Ac|clear Ai|clear Aq|clear Au|clear Bc|clear Bd|clear Ad|clear Ae|clear Aj|clear Av|clear Aw|clear Be|clear Bf);replace OO:=y0.mk (OO.out.below hb);replace LO:=y0.mk (Nat.le_trans LO.out hb.size);replace BKr:=y0.mk (y10 (g:=gr) (o:=(.cells #[.int .i64 Ag,.slice Ak Ah.length Al] 32 (0,0))) BKr.out hb);replace BKt:=y0.mk (y10 (g:=gt) (o:=(.cells #[.slice Am Af.length Ap] 36 (0,0))) BKt.out hb);replace BKz:=y0.mk (y10 (g:=gz) (o:=(.cells #[.int .i64 0,.slice none 0 0] 32 (0,0))) BKz.out hb);replace BKo:=y0.mk (y10 (g:=go) (o:=(.cells #[.int .i64 q1,.slice AO rl.length cO] 32 (0,0))) BKo.out hb);replace HB:=y0.mk (y8 HB.out hb);(try clear hb);obtain⟨Aa,Ac,Ad,Ae⟩:=QIv.box2 BKr.out;obtain⟨Ai,Aj⟩:=QIv.box1 BKt.out;obtain⟨Aq,Au,Av,Aw⟩:=QIv.box2 BKz.out;obtain⟨Bc,Bd,Be,Bf⟩:=QIv.box2 BKo.out))
     have h:=HSH.out
     clear HSH
     cases fnd with
     | true =>
      rw [if_pos rfl]at h
      simp only [Option.some.injEq,Prod.mk.injEq]at h
      obtain⟨rfl,rfl,rfl⟩:=h
      go_wp2
      refine bodyPost_ret (results_ct rfl _ _ gz 32 #[.int .i64 q1,.slice AO rl.length cO] (0,0) _ rfl (by(with_reducible repeat(first|refine y13 ?_ _|refine y12 ?_|refine y9 ?_ _));refine y16 (cs:=#[.int .i64 q1,.slice none 0 0]) ?_ 1 _ rfl;refine y16 (cs:=#[.int .i64 0,.slice none 0 0]) ?_ 0 _ rfl;exact BKz.out) Tryz.underlying32 rfl (by kernel_rfl)) rfl ?_
      refine⟨_,by first|rfl|(simp [y17,y18] <;> rfl), ?_,y6 (y6 HB.out GEz.out) GEz.out⟩
      exact Kd.S_lower (Kd.S_mono ((OO.out.set (.inl Ez_O.out) 0 _).set (.inl Ez_O.out) 1 _) (fun _ _=>trivial)) BO.out
     | false =>
      rw [if_neg Bool.false_ne_true]at h
      by_cases e2:(rl.length:Int)=400
      ·rw [if_pos e2]at h
       simp only [Option.some.injEq,Prod.mk.injEq]at h
       obtain⟨rfl,rfl,rfl⟩:=h
       have Bo:((rl.length:Int) == 400)=true:=beq_iff_eq.mpr e2
       clear e2
       go_wp2
       refine bodyPost_ret (results_ct rfl _ _ gz 32 #[.int .i64 0,.slice none 0 0] (0,0) _ rfl (by(with_reducible repeat(first|refine y13 ?_ _|refine y12 ?_|refine y9 ?_ _));refine y16 (cs:=#[.int .i64 0,.slice none 0 0]) ?_ 1 _ rfl;refine y16 (cs:=#[.int .i64 0,.slice none 0 0]) ?_ 0 _ rfl;exact BKz.out) Tryz.underlying32 rfl (by kernel_rfl)) rfl ?_
       exact⟨.slice none 0 0,by first|rfl|(simp [y17,y18] <;> rfl),Kd.S_nil _ _ _ _ _,y6 (y6 HB.out GEz.out) GEz.out⟩
      ·rw [if_neg e2]at h
       obtain⟨lc,E6,h⟩:=Option.bind_eq_some_iff.1 h
       simp only [Option.some.injEq,Prod.mk.injEq]at h
       obtain⟨rfl,rfl,rfl⟩:=h
       have Bo:((rl.length:Int) == 400)=false:=beq_eq_false_iff_ne.mpr e2
       have Bp:=y0.mk E6
       clear e2 E6
       go_upto_region 9 with fail
       (repeat first|clear Aa|clear Ac|clear Ai|clear Aq|clear Au|clear Bc|clear Bd|clear Ad|clear Ae|clear Aj|clear Av|clear Aw|clear Be|clear Bf)
       refine start_ (n:=9) (S:=fun w'=>w'.cell? ⟨gr,0,none⟩=some (.int .i64 Ag)∧w'.cell? ⟨gr,1,none⟩=some (.slice Ak Ah.length Al)∧w'.cell? ⟨gt,0,none⟩=some (.slice Am Af.length Ap)∧w'.cell? ⟨gz,0,none⟩=some (.int .i64 0)∧w'.cell? ⟨gz,1,none⟩=some (.slice none 0 0)∧w'.cell? ⟨go,0,none⟩=some (.int .i64 q1)∧w'.cell? ⟨go,1,none⟩=some (.slice AO rl.length cO)) (ds:=[8]) (fl_ 9 0) (by kernel_rfl) rfl rfl ⟨(y11 BKr.out 0).trans rfl,(y11 BKr.out 1).trans rfl,(y11 BKt.out 0).trans rfl,(y11 BKz.out 0).trans rfl,(y11 BKz.out 1).trans rfl,(y11 BKo.out 0).trans rfl,(y11 BKo.out 1).trans rfl⟩ (fun hHeld=>?_)
       replace OO:=y0.mk (OO.out.drew)
       replace LO:=y0.mk ((show hiO≤w9.drew.heap.size from LO.out))
       replace BKr:=y0.mk (y12 BKr.out)
       replace BKt:=y0.mk (y12 BKt.out)
       replace BKz:=y0.mk (y12 BKz.out)
       replace BKo:=y0.mk (y12 BKo.out)
       replace HB:=y0.mk (y5 HB.out)
       generalize w9.drew=w9_d at OO LO BKr BKt BKz BKo HB hHeld ⊢
       have HLW:y0 (loO≤w9_d.heap.size):=⟨Nat.le_trans HLH.out LO.out⟩
       refine qp 0 42 (fl_ 9 1) ?_
       refine qp 2 44 (fl_ 9 5) ?_
       refine qt 1 43 (fl_ 9 7) hHeld ?_
       refine qt 3 45 (fl_ 9 15) hHeld ?_
       refine qO 4 46 (fl_ 9 31) (fun K hK=>?_)
       refine goes_ Tryz.func46 (by kernel_rfl) rfl #[.agg #[.slice Am Af.length Ap]] (by rfl) rfl rfl qy4 ?_
       with_reducible refine(impl_copyTuple.calls _ _ Af lc _ (Kd.C_below HRT.out HB.out) HCT.out Bp.out).mono ?_
       rintro e w9_a ⟨v_,rfl,ho,hb⟩
       refine⟨_,rfl, ?_⟩
       obtain⟨Ax,cx,eA_⟩:=Kd.R_slice ho
       subst eA_
       have HX:=y0.mk (ho)
       have HLX:=y0.mk ((LO.out:hiO≤w9_d.heap.size))
       have HGO:=y0.mk ((QIv.ki_lt BKo.out:go < w9_d.heap.size))
       have HWX:=y0.mk (hb.size)
       replace OO:=y0.mk (OO.out.below hb)
       replace LO:=y0.mk (Nat.le_trans LO.out hb.size)
       replace BKr:=y0.mk (y10 (g:=gr) (o:=(.cells #[.int .i64 Ag,.slice Ak Ah.length Al] 32 (0,0))) BKr.out hb)
       replace BKt:=y0.mk (y10 (g:=gt) (o:=(.cells #[.slice Am Af.length Ap] 36 (0,0))) BKt.out hb)
       replace BKz:=y0.mk (y10 (g:=gz) (o:=(.cells #[.int .i64 0,.slice none 0 0] 32 (0,0))) BKz.out hb)
       replace BKo:=y0.mk (y10 (g:=go) (o:=(.cells #[.int .i64 q1,.slice AO rl.length cO] 32 (0,0))) BKo.out hb)
       replace HB:=y0.mk (y8 HB.out hb)
       clear ho hb
       refine hK.out _ _ ⟨(y11 BKr.out 0).trans rfl,(y11 BKr.out 1).trans rfl,(y11 BKt.out 0).trans rfl,(y11 BKz.out 0).trans rfl,(y11 BKz.out 1).trans rfl,(y11 BKo.out 0).trans rfl,(y11 BKo.out 1).trans rfl⟩ (fun hHeld=>?_)
       clear hK K
       refine qx 46 ?_
       refine qO 5 47 (fl_ 9 63) (fun K hK=>?_)
       refine value_ (w1:=w9_a.alloc (.cells #[.slice Ax lc.length cx] 36 (0,0))) (v:=.slice (some ⟨w9_a.heap.size,0,none⟩) 1 1) (by rfl) rfl ?_ ?_
       ·first|(go_simp;done)|(go_simp;rfl)
       have hbx:=blk_new w9_a (.cells #[.slice Ax lc.length cx] 36 (0,0))
       have hb:=y4 (Below.refl w9_a.heap.size w9_a) (.cells #[.slice Ax lc.length cx] 36 (0,0))
       obtain⟨gv,hgv⟩:∃ g,g=w9_a.heap.size:=⟨_,rfl⟩
       rw [← hgv]at hbx ⊢
       generalize w9_a.alloc (.cells #[.slice Ax lc.length cx] 36 (0,0))=w9_b at hbx hb ⊢
       have BKv:=y0.mk (hbx)
       have HGV:=y0.mk ((by rw [hgv];exact HWX.out:w9_d.heap.size≤gv))
       replace OO:=y0.mk (OO.out.below hb)
       replace LO:=y0.mk (Nat.le_trans LO.out hb.size)
       replace BKr:=y0.mk (y10 (g:=gr) (o:=(.cells #[.int .i64 Ag,.slice Ak Ah.length Al] 32 (0,0))) BKr.out hb)
       replace BKt:=y0.mk (y10 (g:=gt) (o:=(.cells #[.slice Am Af.length Ap] 36 (0,0))) BKt.out hb)
       replace BKz:=y0.mk (y10 (g:=gz) (o:=(.cells #[.int .i64 0,.slice none 0 0] 32 (0,0))) BKz.out hb)
       replace BKo:=y0.mk (y10 (g:=go) (o:=(.cells #[.int .i64 q1,.slice AO rl.length cO] 32 (0,0))) BKo.out hb)
       replace HB:=y0.mk (y8 HB.out hb)
       replace HX:=y0.mk (Kd.R_below HX.out hb)
       clear hb hbx hgv
       refine hK.out _ _ ⟨(y11 BKr.out 0).trans rfl,(y11 BKr.out 1).trans rfl,(y11 BKt.out 0).trans rfl,(y11 BKz.out 0).trans rfl,(y11 BKz.out 1).trans rfl,(y11 BKo.out 0).trans rfl,(y11 BKo.out 1).trans rfl⟩ (fun hHeld=>?_)
       clear hK K
       refine qx 47 ?_
       refine qO 6 48 (fl_ 9 127) (fun K hK=>?_)
       refine goes_ Tryz.func45 (by kernel_rfl) rfl #[.slice AO rl.length cO,.int .i64 (p:Int),.slice (some ⟨gv,0,none⟩) 1 1] (by rfl) rfl rfl qy4 ?_
       with_reducible refine(QIns.insert_own k36 rfl loO hiO w9_d.heap.size AO cO rl p HP.out gv 1 (.slice Ax lc.length cx) ⟨lc⟩ (fun _=>True) w _ HB.out BO.out HLW.out HLX.out OO.out BKv.out HGV.out (k36_mkM _ _ _ ⟨lc⟩ HX.out) (by have:=Bi.out;omega)).mono ?_
       rintro e w9_c ⟨v_,rfl,ho,hb,hk⟩
       refine⟨_,rfl, ?_⟩
       obtain⟨An,cn,eA_⟩:=Kd.S_slice ho
       subst eA_
       have HS:=y0.mk (ho)
       replace BKr:=y0.mk (QIv.ki_blk BKr.out hk (.inl Er_O.out))
       replace BKt:=y0.mk (QIv.ki_blk BKt.out hk (.inl Et_O.out))
       replace BKz:=y0.mk (QIv.ki_blk BKz.out hk (.inl Ez_O.out))
       replace BKo:=y0.mk (QIv.ki_blk BKo.out hk (.inr EO_o.out))
       replace HB:=y0.mk (hb)
       clear ho hb hk OO LO HX BKv HGV
       refine hK.out _ _ ⟨(y11 BKr.out 0).trans rfl,(y11 BKr.out 1).trans rfl,(y11 BKt.out 0).trans rfl,(y11 BKz.out 0).trans rfl,(y11 BKz.out 1).trans rfl,(y11 BKo.out 0).trans rfl,(y11 BKo.out 1).trans rfl⟩ (fun hHeld=>?_)
       clear hK K
       refine qx 48 ?_
       refine qp 7 49 (fl_ 9 255) ?_
       refine last_ (i:=8) (N:=none) (fl_ 9 511) rfl rfl (by kernel_rfl) (by decide) (fun K hK=>?_)
       have Bg:w9_c.cell? ⟨go,1,none⟩=some (.slice AO rl.length cO):=(y11 BKo.out 1).trans rfl
       have Bh:=y15 BKo.out 1
       refine skip_ (w1:=w9_c.setCell ⟨go,1,none⟩ (.slice An (rl.insertIdx p (⟨lc⟩:S36)).length cn)) (by rfl) rfl ?_ ?_
       ·first|(go_simp;done)|(go_simp;rfl)
       clear Bg Bh
       refine hK.out _ _ ?_
       clear hK K
       refine done_ (by kernel_rfl) ?_
       clear hHeld
       have n0_:=y0.mk (y16 (cs:=#[.int .i64 q1,.slice AO rl.length cO]) BKo.out 1 (.slice An (rl.insertIdx p (⟨lc⟩:S36)).length cn) rfl)
       have n1_:=y0.mk (y14 (p:=⟨go,1,none⟩) BKz.out Nz_o.out (.slice An (rl.insertIdx p (⟨lc⟩:S36)).length cn))
       have n2_:=y0.mk (y6 HB.out GEo.out:Below w.heap.size w (w9_c.setCell ⟨go,1,none⟩ (.slice An (rl.insertIdx p (⟨lc⟩:S36)).length cn)))
       have n3_:=y0.mk (QIns.S_off HS.out (g:=go) (.inr (by have:=EO_o.out;have:=HGO.out;omega)) 1 (.slice An (rl.insertIdx p (⟨lc⟩:S36)).length cn))
       clear BKo BKz HB HS BKr BKt
       generalize (w9_c.setCell ⟨go,1,none⟩ (.slice An (rl.insertIdx p (⟨lc⟩:S36)).length cn))=wE at n0_ n1_ n2_ n3_ ⊢
       have BKo:=n0_
       have BKz:=n1_
       have HB:=n2_
       have HS:=n3_
       clear n0_ n1_ n2_ n3_
       have Bc:wE.cell? ⟨go,0,none⟩=some (.int .i64 q1):=(y11 BKo.out 0).trans rfl
       have Be:=y15 BKo.out 0
       have Bd:wE.cell? ⟨go,1,none⟩=some (.slice An (rl.insertIdx p (⟨lc⟩:S36)).length cn):=(y11 BKo.out 1).trans rfl
       have Bf:=y15 BKo.out 1
       have Aq:wE.cell? ⟨gz,0,none⟩=some (.int .i64 0):=(y11 BKz.out 0).trans rfl
       have Av:=y15 BKz.out 0
       have Au:wE.cell? ⟨gz,1,none⟩=some (.slice none 0 0):=(y11 BKz.out 1).trans rfl
       have Aw:=y15 BKz.out 1
       go_wp2
       refine bodyPost_ret (results_ct rfl _ _ gz 32 #[.int .i64 q1,.slice An (rl.insertIdx p (⟨lc⟩:S36)).length cn] (0,0) _ rfl (by(with_reducible repeat(first|refine y13 ?_ _|refine y12 ?_|refine y9 ?_ _));refine y16 (cs:=#[.int .i64 q1,.slice none 0 0]) ?_ 1 _ rfl;refine y16 (cs:=#[.int .i64 0,.slice none 0 0]) ?_ 0 _ rfl;exact BKz.out) Tryz.underlying32 rfl (by kernel_rfl)) rfl ?_
       refine⟨_,by first|rfl|(simp [y17,y18] <;> rfl), ?_,y6 (y6 HB.out GEz.out) GEz.out⟩
       exact Kd.S_lower (Kd.S_mono (QIns.S_off (QIns.S_off HS.out (.inl Ez_O.out) 0 _) (.inl Ez_O.out) 1 _) (fun _ _=>trivial)) BO.out
    ·rw [if_neg e1]at h
     cases h
   ·rw [if_neg e0]at h
    simp only [Option.some.injEq,Prod.mk.injEq]at h
    obtain⟨rfl,rfl,rfl⟩:=h
    have ce:((Af.length:Int) != Ag)=true:=by simp [e0]
    clear e0 Ay Az Ba Bb hT
    go_enter Tryz.func13,Tryz.ntmps13
    go_wp2_with (first
     | ((with_reducible refine y20 (N:=2) rfl ?_);refine qe 2 #[.int .i64 Ag,.slice Ak Ah.length Al] 32 ?_;intro gr hg w1 hbox hb;have BKr:=y0.mk (hbox);have GEr:=y0.mk ((by rw [hg];exact HB.out.size:w.heap.size≤gr));replace HB:=y0.mk (y8 HB.out hb);clear hb hg hbox;obtain⟨Aa,Ac,Ad,Ae⟩:=QIv.box2 BKr.out)
     | ((with_reducible refine y20 (N:=3) rfl ?_);refine qe 3 #[.slice Am Af.length Ap] 36 ?_;intro gt hg w2 hbox hb;(repeat first|clear Aa|clear Ac|clear Ad|clear Ae);have BKt:=y0.mk (hbox);have GEt:=y0.mk ((by rw [hg];exact HB.out.size:w.heap.size≤gt));have Nr_t:=y0.mk ((by rw [hg];exact Nat.ne_of_lt (QIv.ki_lt BKr.out):gr≠gt));replace BKr:=y0.mk (y10 (g:=gr) (o:=(.cells #[.int .i64 Ag,.slice Ak Ah.length Al] 32 (0,0))) BKr.out hb);replace HB:=y0.mk (y8 HB.out hb);clear hb hg hbox;obtain⟨Aa,Ac,Ad,Ae⟩:=QIv.box2 BKr.out;obtain⟨Ai,Aj⟩:=QIv.box1 BKt.out)
     | ((with_reducible refine y20 (N:=4) rfl ?_);refine qe 4 #[.int .i64 0,.slice none 0 0] 32 ?_;intro gz hg w3 hbox hb;(repeat first|clear Aa|clear Ac|clear Ai|clear Ad|clear Ae|clear Aj);have BKz:=y0.mk (hbox);have GEz:=y0.mk ((by rw [hg];exact HB.out.size:w.heap.size≤gz));have Nr_z:=y0.mk ((by rw [hg];exact Nat.ne_of_lt (QIv.ki_lt BKr.out):gr≠gz));have Nt_z:=y0.mk ((by rw [hg];exact Nat.ne_of_lt (QIv.ki_lt BKt.out):gt≠gz));replace BKr:=y0.mk (y10 (g:=gr) (o:=(.cells #[.int .i64 Ag,.slice Ak Ah.length Al] 32 (0,0))) BKr.out hb);replace BKt:=y0.mk (y10 (g:=gt) (o:=(.cells #[.slice Am Af.length Ap] 36 (0,0))) BKt.out hb);replace HB:=y0.mk (y8 HB.out hb);clear hb hg hbox;obtain⟨Aa,Ac,Ad,Ae⟩:=QIv.box2 BKr.out;obtain⟨Ai,Aj⟩:=QIv.box1 BKt.out;obtain⟨Aq,Au,Av,Aw⟩:=QIv.box2 BKz.out)
     | ((try(refine y21 (by rfl) ?_;dsimp only));go_at_call 40;(with_reducible refine(STA.out _ HB.out).mono ?_);rintro e w4 ⟨rfl,hb⟩;(repeat first|clear Aa|clear Ac|clear Ai|clear Aq|clear Au|clear Ad|clear Ae|clear Aj|clear Av|clear Aw);replace BKr:=y0.mk (y10 (g:=gr) (o:=(.cells #[.int .i64 Ag,.slice Ak Ah.length Al] 32 (0,0))) BKr.out hb);replace BKt:=y0.mk (y10 (g:=gt) (o:=(.cells #[.slice Am Af.length Ap] 36 (0,0))) BKt.out hb);replace BKz:=y0.mk (y10 (g:=gz) (o:=(.cells #[.int .i64 0,.slice none 0 0] 32 (0,0))) BKz.out hb);replace HB:=y0.mk (y8 HB.out hb);(try clear hb);obtain⟨Aa,Ac,Ad,Ae⟩:=QIv.box2 BKr.out;obtain⟨Ai,Aj⟩:=QIv.box1 BKt.out;obtain⟨Aq,Au,Av,Aw⟩:=QIv.box2 BKz.out)
     | ((try(refine y21 (by rfl) ?_;dsimp only));go_at_call 41;(with_reducible refine(STB.out _ HB.out).mono ?_);rintro e w5 ⟨rfl,hb⟩;(repeat first|clear Aa|clear Ac|clear Ai|clear Aq|clear Au|clear Ad|clear Ae|clear Aj|clear Av|clear Aw);replace BKr:=y0.mk (y10 (g:=gr) (o:=(.cells #[.int .i64 Ag,.slice Ak Ah.length Al] 32 (0,0))) BKr.out hb);replace BKt:=y0.mk (y10 (g:=gt) (o:=(.cells #[.slice Am Af.length Ap] 36 (0,0))) BKt.out hb);replace BKz:=y0.mk (y10 (g:=gz) (o:=(.cells #[.int .i64 0,.slice none 0 0] 32 (0,0))) BKz.out hb);replace HB:=y0.mk (y8 HB.out hb);(try clear hb);obtain⟨Aa,Ac,Ad,Ae⟩:=QIv.box2 BKr.out;obtain⟨Ai,Aj⟩:=QIv.box1 BKt.out;obtain⟨Aq,Au,Av,Aw⟩:=QIv.box2 BKz.out))
    refine bodyPost_ret (results_ct rfl _ _ gz 32 #[.int .i64 0,.slice none 0 0] (0,0) _ rfl (by(with_reducible repeat(first|refine y13 ?_ _|refine y12 ?_|refine y9 ?_ _));refine y16 (cs:=#[.int .i64 0,.slice none 0 0]) ?_ 1 _ rfl;refine y16 (cs:=#[.int .i64 0,.slice none 0 0]) ?_ 0 _ rfl;exact BKz.out) Tryz.underlying32 rfl (by kernel_rfl)) rfl ?_
    exact⟨.slice none 0 0,by first|rfl|(simp [y17,y18] <;> rfl),Kd.S_nil _ _ _ _ _,y6 (y6 HB.out GEz.out) GEz.out⟩
end Go.Proofs.YtkajecadkkgfmaaGreatDoor.Pn
end
section
namespace Go.Proofs.YtkajecadkkgfmaaGreatDoor.Pn
open Go.RowKit Go.Proofs.YtkajecadkkgfmaaGreatDoorW.PrintWords Go.Proofs.YtkajecadkkgfmaaGreatDoorW.PrintLast Go.Proofs.YtkajecadkkgfmaaGreatDoorW.PrintMore
attribute [local go_sem] max2_int min2_int max_two min_two max_three min_three max_four min_four   -- for this text's walks alone
set_option linter.unusedVariables false
set_option linter.unusedSimpArgs false
def laws_big.f (l0:List Int):Option (Bool):=some (decide ((l0.length:Int) > 1048576))
set_option maxHeartbeats 8000000 in
set_option maxRecDepth 100000 in
theorem laws_big.calls (A0:Option Addr) (c0:Nat) (l0:List Int) (r:Bool) (w:World) (hr0:Kd.C (Kd.int .u8) w A0 l0.length l0) (hc0:l0.length≤c0) (h:laws_big.f l0=some r) :
  Calls Tryz.prog 19 #[.slice A0 l0.length c0] w fun e w'=>e=.returned (.bool r)∧y1 w w':=by
 have HR0:=y0.mk hr0
 have HC0:=y0.mk hc0
 clear hr0 hc0
 have H:(some (decide ((l0.length:Int) > 1048576)))=some r:=h
 clear h
 obtain rfl:=Option.some.inj H
 go_enter Tryz.func19,Tryz.ntmps19
 go_wp2
 go_ret
 exact qf2
/-- A state of type 93 at block g of W; what its slices lead to came in by w0. -/
def y2 (w0 W:World) (g:Nat) (f0:List Int) (f1:Int) (f2:Int):Prop:=∃ A0 c0,W.heap[g]?=some (.cells #[.slice A0 f0.length c0,.int .i64 f1,.int .i64 f2] 93 (0,0))∧w0.heap.size≤g∧Kd.C (Kd.int .u8) w0 A0 f0.length f0
theorem y2.grown {w0 W:World} {g:Nat} {f0:List Int} {f1:Int} {f2:Int} {W1:World} {row:Option Nat} (h:y2 w0 W g f0 f1 f2) (hw:W.grownBy W1 row) (hne:some g≠row):y2 w0 W1 g f0 f1 f2:=by
 obtain⟨A0,c0,hb,hg,hr0⟩:=h
 exact⟨A0,c0,blk_grown hb hw hne,hg,hr0⟩
theorem y2.own_neN {w0 W:World} {g:Nat} {f0:List Int} {f1:Int} {f2:Int} {α:Type} {d:Kd α} {e:Nat} {base:Nat} {ok:Nat→Prop} {v:Value} {xs:List α} (h:y2 w0 W g f0 f1 f2) (ho:Kd.N d e W base ok v xs) (ht:e≠93):some g≠v.ownBlock:=by
 obtain⟨A0,c0,hb,hg,hr0⟩:=h
 exact Kd.N_ne ho hb ht
theorem y2.fresh {w0 W:World} {g:Nat} {f0:List Int} {f1:Int} {f2:Int} (h:y2 w0 W g f0 f1 f2):∀ k,W.heap.size≤k→k≠g:=by
 obtain⟨A0,c0,hb,hg,hr0⟩:=h
 exact Kd.freshB hb
theorem y2.kept {w0 W:World} {g:Nat} {f0:List Int} {f1:Int} {f2:Int} {W1:World} {S:Nat→Prop} (h:y2 w0 W g f0 f1 f2) (hk:Kept W W1 S) (hne:¬ S g):y2 w0 W1 g f0 f1 f2:=by
 obtain⟨A0,c0,hb,hg,hr0⟩:=h
 exact⟨A0,c0,blk_kept hb hk hne,hg,hr0⟩
theorem y2.below {w0 W:World} {g:Nat} {f0:List Int} {f1:Int} {f2:Int} {W1:World} (h:y2 w0 W g f0 f1 f2) (hw:Below W.heap.size W W1):y2 w0 W1 g f0 f1 f2:=h.grown (grown_of_below hw none) (by simp)
theorem y2.alloc {w0 W:World} {g:Nat} {f0:List Int} {f1:Int} {f2:Int} (h:y2 w0 W g f0 f1 f2) (o:Obj):y2 w0 (W.alloc o) g f0 f1 f2:=h.below (y4 (Below.refl _ _) o)
theorem y2.drewN {w0 W:World} {g:Nat} {f0:List Int} {f1:Int} {f2:Int} (h:y2 w0 W g f0 f1 f2) (m:Nat):y2 w0 (W.drewN m) g f0 f1 f2:=h
theorem y2.drew {w0 W:World} {g:Nat} {f0:List Int} {f1:Int} {f2:Int} (h:y2 w0 W g f0 f1 f2):y2 w0 W.drew g f0 f1 f2:=h
theorem y2.at_ {w0 W:World} {g:Nat} {f0:List Int} {f1:Int} {f2:Int} {w':World} {m:Nat} (hq:W.drewN m=w') (h:y2 w0 W g f0 f1 f2):y2 w0 w' g f0 f1 f2:=by subst hq;exact y2.drewN h m
theorem y2.apart {w0 W:World} {g:Nat} {f0:List Int} {f1:Int} {f2:Int} {α:Type} {d:Kd α} {e:Nat} {base:Nat} {ok:Nat→Prop} {v:Value} {xs:List α} (h:y2 w0 W g f0 f1 f2) (ho:d.R e W base ok v xs) (ht:∀ q,q∈e :: d.E→q≠93):d.R e W base (fun k=>ok k∧k≠g) v xs:=by
 obtain⟨A0,c0,hb,hg,hr0⟩:=h
 exact Kd.R_types ho hb ht
theorem y2.own_ne {w0 W:World} {g:Nat} {f0:List Int} {f1:Int} {f2:Int} {α:Type} {d:Kd α} {e:Nat} {base:Nat} {ok:Nat→Prop} {v:Value} {xs:List α} (h:y2 w0 W g f0 f1 f2) (ho:d.R e W base ok v xs) (ht:e≠93):some g≠v.ownBlock:=by
 obtain⟨A0,c0,hb,hg,hr0⟩:=h
 exact Kd.R_ne ho hb ht
theorem y2.lt {w0 W:World} {g:Nat} {f0:List Int} {f1:Int} {f2:Int} (h:y2 w0 W g f0 f1 f2):g < W.heap.size:=by
 obtain⟨A0,c0,hb,hg,hr0⟩:=h
 exact blk_lt hb
theorem y2.ge {w0 W:World} {g:Nat} {f0:List Int} {f1:Int} {f2:Int} (h:y2 w0 W g f0 f1 f2):w0.heap.size≤g:=by
 obtain⟨A0,c0,hb,hg,hr0⟩:=h
 exact hg
theorem y2.ne_blk {w0 W:World} {g:Nat} {f0:List Int} {f1:Int} {f2:Int} {a:Nat} {cs:Array Value} {t:TypeId} {fr:Nat×Nat} (h:y2 w0 W g f0 f1 f2) (hb2:W.heap[a]?=some (.cells cs t fr)) (ht:t≠93):g≠a:=by
 obtain⟨A0,c0,hb,hg,hr0⟩:=h
 rintro rfl
 rw [hb]at hb2
 injection hb2 with hb2
 injection hb2 with _ ht2
 exact ht ht2.symm
theorem y2.far {w0 W:World} {g:Nat} {f0:List Int} {f1:Int} {f2:Int} {p:Addr} (h:y2 w0 W g f0 f1 f2) (hne:g≠p.block) (u:Value):y2 w0 (W.setCell p u) g f0 f1 f2:=by
 obtain⟨A0,c0,hb,hg,hr0⟩:=h
 exact⟨A0,c0,y14 hb hne u,hg,hr0⟩
theorem cellS93_0 {W:World} {g:Nat} {A0:Option Addr} {c0:Nat} {f0:List Int} {f1:Int} {f2:Int} (h:W.heap[g]?=some (.cells #[.slice A0 f0.length c0,.int .i64 f1,.int .i64 f2] 93 (0,0))):W.cell? ⟨g,0,none⟩=some (.slice A0 f0.length c0):=(y11 h 0).trans rfl
theorem cellS93_1 {W:World} {g:Nat} {A0:Option Addr} {c0:Nat} {f0:List Int} {f1:Int} {f2:Int} (h:W.heap[g]?=some (.cells #[.slice A0 f0.length c0,.int .i64 f1,.int .i64 f2] 93 (0,0))):W.cell? ⟨g,1,none⟩=some (.int .i64 f1):=(y11 h 1).trans rfl
theorem y2.set_1 {w0 W:World} {g:Nat} {f0:List Int} {f1:Int} {f2:Int} (h:y2 w0 W g f0 f1 f2) (x:Int):y2 w0 (W.setCell ⟨g,1,none⟩ (.int .i64 x)) g f0 x f2:=by
 obtain⟨A0,c0,hb,hg,hr0⟩:=h
 exact⟨A0,c0,by simpa using blk_set hb 1 (.int .i64 x),hg,hr0⟩
theorem cellS93_2 {W:World} {g:Nat} {A0:Option Addr} {c0:Nat} {f0:List Int} {f1:Int} {f2:Int} (h:W.heap[g]?=some (.cells #[.slice A0 f0.length c0,.int .i64 f1,.int .i64 f2] 93 (0,0))):W.cell? ⟨g,2,none⟩=some (.int .i64 f2):=(y11 h 2).trans rfl
theorem y2.set_2 {w0 W:World} {g:Nat} {f0:List Int} {f1:Int} {f2:Int} (h:y2 w0 W g f0 f1 f2) (x:Int):y2 w0 (W.setCell ⟨g,2,none⟩ (.int .i64 x)) g f0 f1 x:=by
 obtain⟨A0,c0,hb,hg,hr0⟩:=h
 exact⟨A0,c0,by simpa using blk_set hb 2 (.int .i64 x),hg,hr0⟩
theorem y2.new (w0 W:World) (A0:Option Addr) (c0:Nat) (f0:List Int) (f1:Int) (f2:Int) (hB:Below w0.heap.size w0 W) (hr0:Kd.C (Kd.int .u8) w0 A0 f0.length f0):y2 w0 (W.alloc (.cells #[.slice A0 f0.length c0,.int .i64 f1,.int .i64 f2] 93)) W.heap.size f0 f1 f2:=⟨A0,c0,by simpa using heap_alloc_new W _,hB.size,hr0⟩
theorem y2.qj {w0 W:World} {g:Nat} {f0:List Int} {f1:Int} {f2:Int} (h:y2 w0 W g f0 f1 f2:=by repeat(first|(with_reducible first|exact HI0.out|apply y2.alloc|apply y2.drewN|apply y2.drew|apply y2.set_1|apply y2.set_2|refine y2.far ?_ (y0.out (by with_reducible assumption)) _)|exact HI0.out)):y2 w0 W g f0 f1 f2:=h
theorem y2.qbI {w0 W:World} (h:Below w0.heap.size w0 W:=by repeat(first|(with_reducible first|exact HB.out|apply y4|apply y23|apply y5|refine y6 ?_ (y2.ge HI0.out)|refine y6 ?_ (y0.out (by with_reducible assumption)))|exact HB.out)):Below w0.heap.size w0 W:=h
def spec_l01Open.f (l0:List Int):Option (List Int×Int×Int):=some (l0,0,61 + ((l0.length:Int) % 1000))
set_option maxHeartbeats 8000000 in
set_option maxRecDepth 100000 in
theorem spec_l01Open.calls (A0:Option Addr) (c0:Nat) (l0:List Int) (r1:List Int) (r2:Int) (r3:Int) (w0 w:World) (hB:Below w0.heap.size w0 w) (Af:Kd.C (Kd.int .u8) w0 A0 l0.length l0) (Ag:l0.length≤c0) (h:spec_l01Open.f l0=some (r1,r2,r3)) :
  Calls Tryz.prog 52 #[.slice A0 l0.length c0] w fun e w'=>∃ g_:Nat,e=.returned (.pointer (some ⟨g_,0,none⟩))∧y2 w0 w' g_ r1 r2 r3∧Below w0.heap.size w0 w'∧Below w.heap.size w w':=by
 have Ah:=Tryz.underlying93
 have Ai:=y0.mk Af
 have Ak:=y0.mk Ag
 clear Af Ag
 have HBW:=y0.mk (Below.refl w.heap.size w)
 have Aj:=y0.mk hB.size
 have HB:=y0.mk hB
 clear hB
 have H:(some (l0,0,61 + ((l0.length:Int) % 1000)))=some (r1,r2,r3):=h
 clear h
 simp only [Option.some.injEq,Prod.mk.injEq]at H
 obtain⟨rfl,rfl,rfl⟩:=H
 go_enter Tryz.func52,Tryz.ntmps52
 go_wp2_with (first|((with_reducible refine y20 (N:=9) rfl ?_);refine qe 9 #[.slice A0 l0.length c0,.int .i64 0,.int .i64 (61 + ((l0.length:Int) % 1000))] 93 ?_;intro Aa hg w2 hbox hb;replace HB:=y0.mk (y8 qb hb);have Ac:=y0.mk (hbox);have Ad:=y0.mk ((by rw [hg];exact(y7 (by repeat(first|(with_reducible first|exact HBW.out|apply y4|apply y23|apply y5)|exact HBW.out))):w.heap.size≤Aa));have Ae:=y0.mk ((Nat.le_trans Aj.out (by rw [hg];exact(y7 (by repeat(first|(with_reducible first|exact HBW.out|apply y4|apply y23|apply y5)|exact HBW.out))):w.heap.size≤Aa):w0.heap.size≤Aa));replace HBW:=y0.mk (y8 HBW.out hb);clear hb hbox hg))
 go_ret
 exact⟨_,rfl,(show y2 w0 _ Aa l0 0 (61 + ((l0.length:Int) % 1000))from⟨_,_,by(with_reducible repeat(first|refine y13 ?_ _|refine y12 ?_|refine y9 ?_ _));exact Ac.out,Ae.out,Ai.out⟩),qb,by repeat(first|(with_reducible first|exact HBW.out|apply y4|apply y23|apply y5|refine y6 ?_ Ad.out)|exact HBW.out)⟩
def z5_.f (s0_0:List Int) (s0_1:Int) (s0_2:Int) (a1:Int):Option (Int×Int×Int):=if a1 < 2 then(some (0,s0_1,s0_2))else(if s0_1 < (s0_0.length:Int)then(if 0≤s0_1 then(if a1=0 then(none)else(some (Int.tmod (wrap64 (rd s0_0 s0_1)) a1,wrap64 (s0_1 + 1),s0_2)))else(none))else(if(s0_0.length:Int) > 0 then(if(s0_0.length:Int)=0 then(none)else(if 0≤(Int.tmod s0_1 (s0_0.length:Int))then(if(Int.tmod s0_1 (s0_0.length:Int)) < (s0_0.length:Int)then(if a1=0 then(none)else(some (Int.tmod (wrap64 ((wrap64 (Int.tdiv (Int.tmod (wrap64 ((wrap64 (s0_2 * 1103)) + 12345)) 65521) 7)) + (wrap64 (rd s0_0 (Int.tmod s0_1 (s0_0.length:Int)))))) a1,wrap64 (s0_1 + 1),Int.tmod (wrap64 ((wrap64 (s0_2 * 1103)) + 12345)) 65521)))else(none))else(none)))else(if a1=0 then(none)else(some ((0:Int) % a1,wrap64 (s0_1 + 1),Int.tmod (wrap64 ((wrap64 (s0_2 * 1103)) + 12345)) 65521)))))
set_option maxHeartbeats 8000000 in
set_option maxRecDepth 100000 in
theorem z5_.calls (g:Nat) (Aa:List Int) (Ac:Int) (Af:Int) (a1:Int) (r1:Int) (r2:Int) (r3:Int) (w0 w:World) (hI:y2 w0 w g Aa Ac Af) (hB:Below w0.heap.size w0 w) (h:z5_.f Aa Ac Af a1=some (r1,r2,r3)) :
  Calls Tryz.prog 54 #[.pointer (some ⟨g,0,none⟩),.int .i64 a1] w fun e w'=>e=.returned (.int .i64 r1)∧y2 w0 w' g Aa r2 r3∧Below w0.heap.size w0 w'∧y3 w w' g none:=by
 have HI0:=y0.mk hI
 have HK:=y0.mk (y3.refl w g none)
 have HL:=y0.mk hB.size
 clear hI
 have Cx:=y0.mk hB.size
 have HB:=y0.mk hB
 clear hB
 have H:(if a1 < 2 then(some (0,Ac,Af))else(if Ac < (Aa.length:Int)then(if 0≤Ac then(if a1=0 then(none)else(some (Int.tmod (wrap64 (rd Aa Ac)) a1,wrap64 (Ac + 1),Af)))else(none))else(if(Aa.length:Int) > 0 then(if(Aa.length:Int)=0 then(none)else(if 0≤(Int.tmod Ac (Aa.length:Int))then(if(Int.tmod Ac (Aa.length:Int)) < (Aa.length:Int)then(if a1=0 then(none)else(some (Int.tmod (wrap64 ((wrap64 (Int.tdiv (Int.tmod (wrap64 ((wrap64 (Af * 1103)) + 12345)) 65521) 7)) + (wrap64 (rd Aa (Int.tmod Ac (Aa.length:Int)))))) a1,wrap64 (Ac + 1),Int.tmod (wrap64 ((wrap64 (Af * 1103)) + 12345)) 65521)))else(none))else(none)))else(if a1=0 then(none)else(some ((0:Int) % a1,wrap64 (Ac + 1),Int.tmod (wrap64 ((wrap64 (Af * 1103)) + 12345)) 65521))))))=some (r1,r2,r3):=h
 clear h
 by_cases c3:a1 < 2
 ·rw [if_pos c3]at H
  have Br:=decide_eq_true c3
  clear c3
  simp only [Option.some.injEq,Prod.mk.injEq]at H
  obtain⟨rfl,rfl,rfl⟩:=H
  go_enter Tryz.func54,Tryz.ntmps54
  go_wp2
  repeat(go_quiet (fail);try go_wp2)
  go_ret
  exact⟨qf,(y2.qj (w0:=w0) (g:=g)),y2.qbI,(qh (w:=w) (g:=g))⟩
 ·rw [if_neg c3]at H
  have Br:=decide_eq_false c3
  clear c3
  by_cases c4:Ac < (Aa.length:Int)
  ·rw [if_pos c4]at H
   have Bs:=decide_eq_true c4
   clear c4
   obtain⟨c5,H⟩:=qo H
   have Cr:decide (0≤Ac)=true:=decide_eq_true c5
   clear c5
   obtain⟨c6,H⟩:=qi H
   have Cs:(a1 == 0)=false:=beq_eq_false_iff_ne.mpr c6
   have Ct:(a1 != 0)=true:=bne_iff_ne.mpr c6
   simp only [Option.some.injEq,Prod.mk.injEq]at H
   obtain⟨rfl,rfl,rfl⟩:=H
   obtain⟨Bt,Bu,Ak,Bv,Ap⟩:=HI0.out
   have Bw:=cellS93_0 Ak
   have Bx:=cellS93_1 Ak
   have Bz:=cellS93_2 Ak
   have Ca:=y15 Ak 1
   have Cb:=y15 Ak 2
   clear Ak Bv
   have Aq:0≤(Ac:Int):=of_decide_eq_true qy1
   have Au:Ac < (Aa.length:Int):=of_decide_eq_true qy1
   obtain⟨Cg,Cc,Aj⟩:=Kd.at_int Ap Ac Aq Au
   cases Cc
   replace Aj:=pw_cell_below HB.out Aj
   replace Aq:=eq_true Aq
   replace Au:=eq_true Au
   go_enter Tryz.func54,Tryz.ntmps54
   go_wp2
   repeat(go_quiet (fail);try go_wp2)
   go_ret
   exact⟨qf,(y2.qj (w0:=w0) (g:=g)),y2.qbI,(qh (w:=w) (g:=g))⟩
  ·rw [if_neg c4]at H
   have Bs:=decide_eq_false c4
   clear c4
   by_cases c8:(Aa.length:Int) > 0
   ·rw [if_pos c8]at H
    have Cd:decide (0 < (Aa.length:Int))=true:=decide_eq_true c8
    have Ce:decide (0 < Aa.length)=true:=decide_eq_true (by omega)
    clear c8
    obtain⟨c9,H⟩:=qi H
    have Cu:((Aa.length:Int) == 0)=false:=beq_eq_false_iff_ne.mpr c9
    have Cv:((Aa.length:Int) != 0)=true:=bne_iff_ne.mpr c9
    have Cw:¬(Aa=[]):=fun h_=>c9 (by rw [h_];rfl)
    obtain⟨Ai,Al⟩:∃ j_:Int,(Int.tmod Ac (Aa.length:Int))=j_:=⟨_,rfl⟩
    replace H:(if 0≤(Ai)then(if(Ai) < (Aa.length:Int)then(if a1=0 then(none)else(some (Int.tmod (wrap64 ((wrap64 (Int.tdiv (Int.tmod (wrap64 ((wrap64 (Af * 1103)) + 12345)) 65521) 7)) + (wrap64 (rd Aa (Ai))))) a1,wrap64 (Ac + 1),Int.tmod (wrap64 ((wrap64 (Af * 1103)) + 12345)) 65521)))else(none))else(none))=some (r1,r2,r3):=by first|(rw [Al]at H;exact H)|(simp only [Al]at H ⊢;exact H)
    obtain⟨Ch,H⟩:=qo H
    have Ci:decide (0≤(Ai))=true:=decide_eq_true Ch
    clear Ch
    obtain⟨Cj,H⟩:=qo H
    have Ck:decide ((Ai) < (Aa.length:Int))=true:=decide_eq_true Cj
    clear Cj
    obtain⟨Cl,H⟩:=qi H
    have Cm:(a1 == 0)=false:=beq_eq_false_iff_ne.mpr Cl
    have Cn:(a1 != 0)=true:=bne_iff_ne.mpr Cl
    simp only [Option.some.injEq,Prod.mk.injEq]at H
    obtain⟨rfl,rfl,rfl⟩:=H
    obtain⟨Bb,Bc,Ag,Ay,Am⟩:=HI0.out
    have Bd:=cellS93_0 Ag
    have Be:=cellS93_1 Ag
    have Bf:=cellS93_2 Ag
    have Bg:=y15 Ag 1
    have Bh:=y15 Ag 2
    clear Ag Ay
    have Av:0≤((Ai):Int):=of_decide_eq_true qy1
    have Aw:(Ai) < (Aa.length:Int):=of_decide_eq_true qy1
    obtain⟨Az,Cf,Ad⟩:=Kd.at_int Am (Ai) Av Aw
    cases Cf
    have Ae:Az.block≠g:=Nat.ne_of_lt (Nat.lt_of_lt_of_le (by have:=World.block_lt_of_cell? _ _ Ad;first|rwa [add_block]at this|exact this) (y2.ge HI0.out))
    replace Ad:=pw_cell_below HB.out Ad
    replace Ad:=(cell_far (p:=⟨g,2,none⟩) (by first|(rw [add_block];exact Ae)|(show(Addr.add _ _).block≠_;rw [add_block];exact Ae)|exact Ae) (.int .i64 (Int.tmod (wrap64 ((wrap64 (Af * 1103)) + 12345)) 65521))).trans Ad
    (try have Bi:=fun(n_:Nat)=>(show(((w.drewN n_).setCell ⟨g,2,none⟩ (.int .i64 (Int.tmod (wrap64 ((wrap64 (Af * 1103)) + 12345)) 65521)))).cell? _=some _ from Ad))
    clear Ae
    replace Av:=eq_true Av
    replace Aw:=eq_true Aw
    go_enter Tryz.func54,Tryz.ntmps54
    go_wp2
    repeat(go_quiet (fail);try go_wp2)
    go_ret
    exact⟨by first|rfl|(simp [y17,y18] <;> rfl)|(simp only [← Al];first|rfl|(simp [y17,y18] <;> rfl))|(simp [*,y17,y18] <;> rfl),(y2.qj (w0:=w0) (g:=g)),y2.qbI,(qh (w:=w) (g:=g))⟩
   ·rw [if_neg c8]at H
    have Cd:decide (0 < (Aa.length:Int))=false:=decide_eq_false c8
    have Ce:decide (0 < Aa.length)=false:=decide_eq_false (by omega)
    clear c8
    obtain⟨Co,H⟩:=qi H
    have Cp:(a1 == 0)=false:=beq_eq_false_iff_ne.mpr Co
    have Cq:(a1 != 0)=true:=bne_iff_ne.mpr Co
    simp only [Option.some.injEq,Prod.mk.injEq]at H
    obtain⟨rfl,rfl,rfl⟩:=H
    obtain⟨Bj,Bk,Ah,Ba,Bl⟩:=HI0.out
    have Bm:=cellS93_0 Ah
    have Bn:=cellS93_1 Ah
    have Bo:=cellS93_2 Ah
    have Bp:=y15 Ah 1
    have Bq:=y15 Ah 2
    clear Ah Ba
    go_enter Tryz.func54,Tryz.ntmps54
    go_wp2
    repeat(go_quiet (fail);try go_wp2)
    go_ret
    exact⟨qf,(y2.qj (w0:=w0) (g:=g)),y2.qbI,(qh (w:=w) (g:=g))⟩
def spec_l01Cur_once.f (s0_0:List Int) (s0_1:Int) (s0_2:Int) (a1:Int):Option (Bool×Int×Int):=(z5_.f s0_0 s0_1 s0_2 a1).bind fun bt407=>(some ((bt407.1 == (wrap64 (a1 - 1))),bt407.2.1,bt407.2.2))
set_option maxHeartbeats 8000000 in
set_option maxRecDepth 100000 in
theorem spec_l01Cur_once.calls (g:Nat) (Aa:List Int) (Ad:Int) (Ae:Int) (a1:Int) (r1:Bool) (r2:Int) (r3:Int) (w0 w:World) (hI:y2 w0 w g Aa Ad Ae) (hB:Below w0.heap.size w0 w) (h:spec_l01Cur_once.f Aa Ad Ae a1=some (r1,r2,r3)) :
  Calls Tryz.prog 67 #[.pointer (some ⟨g,0,none⟩),.int .i64 a1] w fun e w'=>e=.returned (.bool r1)∧y2 w0 w' g Aa r2 r3∧Below w0.heap.size w0 w'∧y3 w w' g none:=by
 have HI0:=y0.mk hI
 have HK:=y0.mk (y3.refl w g none)
 have HL:=y0.mk hB.size
 clear hI
 have Ai:=y0.mk hB.size
 have HB:=y0.mk hB
 clear hB
 have H:((z5_.f Aa Ad Ae a1).bind fun Ac=>(some ((Ac.1 == (wrap64 (a1 - 1))),Ac.2.1,Ac.2.2)))=some (r1,r2,r3):=h
 clear h
 obtain⟨⟨Af,Ag,Ah⟩,A3,H⟩:=qB H
 replace H:(some ((Af == (wrap64 (a1 - 1))),Ag,Ah))=some (r1,r2,r3):=H
 simp only [Option.some.injEq,Prod.mk.injEq]at H
 obtain⟨rfl,rfl,rfl⟩:=H
 go_enter Tryz.func67,Tryz.ntmps67
 go_wp2_with (first|((with_reducible refine y19 (f:=54) rfl ?_);refine y22 (some 7) rfl rfl Tryz.func54 (by kernel_rfl) rfl #[.pointer (some ⟨g,0,none⟩),.int .i64 a1] rfl qy0 ?_;(with_reducible refine(z5_.calls g Aa Ad Ae a1 Af Ag Ah w0 _ (by repeat(first|(with_reducible first|exact HI0.out|apply y2.alloc|apply y2.drewN|apply y2.drew|apply y2.set_1|apply y2.set_2)|exact HI0.out)) (by repeat(first|(with_reducible first|exact HB.out|apply y4|apply y23|apply y5|refine y6 ?_ (y2.ge HI0.out))|exact HB.out)) A3.out).mono ?_);rintro e w4 ⟨rfl,hi,hb,hk⟩;refine⟨_,rfl, ?_⟩;replace HK:=y0.mk (y3.trans (qh (w:=w) (g:=g)) hk (.inl rfl));replace HB:=y0.mk (hb);replace HI0:=y0.mk (hi);(try clear hb hk hi)))
 go_ret
 exact⟨qf,(y2.qj (w0:=w0) (g:=g)),y2.qbI,(qh (w:=w) (g:=g))⟩
end Go.Proofs.YtkajecadkkgfmaaGreatDoor.Pn
end
section
namespace Go.Proofs.YtkajecadkkgfmaaGreatDoor.Pn
open Go.RowKit Go.Proofs.YtkajecadkkgfmaaGreatDoorW.PrintWords Go.Proofs.YtkajecadkkgfmaaGreatDoorW.PrintLast Go.Proofs.YtkajecadkkgfmaaGreatDoorW.PrintMore
attribute [local go_sem] max2_int min2_int max_two min_two max_three min_three max_four min_four   -- for this text's walks alone
set_option linter.unusedVariables false
set_option linter.unusedSimpArgs false
mutual
def z7_.j0:Nat→Int→Int→Bool→List Int→Int→Int→Option (ByteArray×Int×Int)
 | 0,_,_,_,_,_,_=>none
 | k + 1,x1,x5,x13,x1000,x1001,x1002=>if x13=true then(z7_.j1 k x1 (wrap64 (x5 - 4)) x1000 x1001 x1002)else(z7_.j1 k x1 x5 x1000 x1001 x1002)
def z7_.j1:Nat→Int→Int→List Int→Int→Int→Option (ByteArray×Int×Int)
 | 0,_,_,_,_,_=>none
 | k + 1,x1,x5,x1000,x1001,x1002=>if x5=0 then(z7_.j2 k x1 x5 (x5 == 0) x1000 x1001 x1002)else(if x5=1 then(z7_.j2 k x1 x5 (x5 == 1) x1000 x1001 x1002)else(z7_.j2 k x1 x5 (x5 == 2) x1000 x1001 x1002))
def z7_.j2:Nat→Int→Int→Bool→List Int→Int→Int→Option (ByteArray×Int×Int)
 | 0,_,_,_,_,_,_=>none
 | k + 1,x1,x16,x17,x1000,x1001,x1002=>if x17=true then((some (([0,1,2,3,(-1),10,1000000,(-1000000)]:List Int):List Int)).bind fun y413=>((z5_.f x1000 x1001 x1002 8).bind fun bt416=>(if 0≤bt416.1 then(if bt416.1 < (y413.length:Int)then((spec_NumText.f k (rd y413 bt416.1)).bind fun t420=>(some (t420,bt416.2.1,bt416.2.2)))else(none))else(none))))else(if x16=3 then((some (([(⟨#[34,34]⟩:ByteArray),(⟨#[34,97,34]⟩:ByteArray),(⟨#[34,98,32,99,34]⟩:ByteArray),(⟨#[34,40,44,41,34]⟩:ByteArray),(⟨#[34,120,34]⟩:ByteArray)]:List ByteArray):List ByteArray)).bind fun y421=>((z5_.f x1000 x1001 x1002 5).bind fun bt424=>(if 0≤bt424.1 then(if bt424.1 < (y421.length:Int)then(some (rdOf ByteArray.empty y421 bt424.1,bt424.2.1,bt424.2.2))else(none))else(none))))else(if x16=4 then((some (([(⟨#[78,105,108]⟩:ByteArray),(⟨#[76,101,97,102]⟩:ByteArray),(⟨#[65]⟩:ByteArray),(⟨#[90,101,114,111]⟩:ByteArray)]:List ByteArray):List ByteArray)).bind fun y428=>((z5_.f x1000 x1001 x1002 4).bind fun bt431=>(if 0≤bt431.1 then(if bt431.1 < (y428.length:Int)then(some (rdOf ByteArray.empty y428 bt431.1,bt431.2.1,bt431.2.2))else(none))else(none))))else(if x16=5 then(z7_.j3 k x1 x16 (x16 == 5) x1000 x1001 x1002)else(z7_.j3 k x1 x16 (x16 == 6) x1000 x1001 x1002))))
def z7_.j3:Nat→Int→Int→Bool→List Int→Int→Int→Option (ByteArray×Int×Int)
 | 0,_,_,_,_,_,_=>none
 | k + 1,x1,x16,x41,x1000,x1001,x1002=>if x41=true then((z7_.f k x1000 x1001 x1002 (wrap64 (x1 - 1))).bind fun bt435=>(if 5 + bt435.1.size≤9223372036854775807 then(if((⟨#[67,111,110,115,40]⟩:ByteArray) ++ bt435.1).size + 1≤9223372036854775807 then((z7_.f k x1000 bt435.2.1 bt435.2.2 (wrap64 (x1 - 1))).bind fun bt438=>(if(((⟨#[67,111,110,115,40]⟩:ByteArray) ++ bt435.1) ++ (⟨#[44]⟩:ByteArray)).size + bt438.1.size≤9223372036854775807 then(if((((⟨#[67,111,110,115,40]⟩:ByteArray) ++ bt435.1) ++ (⟨#[44]⟩:ByteArray)) ++ bt438.1).size + 1≤9223372036854775807 then(some (((((⟨#[67,111,110,115,40]⟩:ByteArray) ++ bt435.1) ++ (⟨#[44]⟩:ByteArray)) ++ bt438.1) ++ (⟨#[41]⟩:ByteArray),bt438.2.1,bt438.2.2))else(none))else(none)))else(none))else(none)))else(if x16=7 then((z7_.f k x1000 x1001 x1002 (wrap64 (x1 - 1))).bind fun bt441=>(if 2 + bt441.1.size≤9223372036854775807 then(if((⟨#[83,40]⟩:ByteArray) ++ bt441.1).size + 1≤9223372036854775807 then(some (((⟨#[83,40]⟩:ByteArray) ++ bt441.1) ++ (⟨#[41]⟩:ByteArray),bt441.2.1,bt441.2.2))else(none))else(none)))else((z7_.f k x1000 x1001 x1002 (wrap64 (x1 - 1))).bind fun bt444=>(if 5 + bt444.1.size≤9223372036854775807 then(if((⟨#[78,111,100,101,40]⟩:ByteArray) ++ bt444.1).size + 1≤9223372036854775807 then((z7_.f k x1000 bt444.2.1 bt444.2.2 (wrap64 (x1 - 1))).bind fun bt447=>(if(((⟨#[78,111,100,101,40]⟩:ByteArray) ++ bt444.1) ++ (⟨#[44]⟩:ByteArray)).size + bt447.1.size≤9223372036854775807 then(if((((⟨#[78,111,100,101,40]⟩:ByteArray) ++ bt444.1) ++ (⟨#[44]⟩:ByteArray)) ++ bt447.1).size + 1≤9223372036854775807 then((z7_.f k x1000 bt447.2.1 bt447.2.2 (wrap64 (x1 - 1))).bind fun bt450=>(if(((((⟨#[78,111,100,101,40]⟩:ByteArray) ++ bt444.1) ++ (⟨#[44]⟩:ByteArray)) ++ bt447.1) ++ (⟨#[44]⟩:ByteArray)).size + bt450.1.size≤9223372036854775807 then(if((((((⟨#[78,111,100,101,40]⟩:ByteArray) ++ bt444.1) ++ (⟨#[44]⟩:ByteArray)) ++ bt447.1) ++ (⟨#[44]⟩:ByteArray)) ++ bt450.1).size + 1≤9223372036854775807 then(some (((((((⟨#[78,111,100,101,40]⟩:ByteArray) ++ bt444.1) ++ (⟨#[44]⟩:ByteArray)) ++ bt447.1) ++ (⟨#[44]⟩:ByteArray)) ++ bt450.1) ++ (⟨#[41]⟩:ByteArray),bt450.2.1,bt450.2.2))else(none))else(none)))else(none))else(none)))else(none))else(none))))
def z7_.f:Nat→List Int→Int→Int→Int→Option (ByteArray×Int×Int)
 | 0,_,_,_,_=>none
 | k + 1,s0_0,s0_1,s0_2,a1=>(z5_.f s0_0 s0_1 s0_2 9).bind fun bt410=>(if a1≤0 then(z7_.j0 k a1 bt410.1 (decide (bt410.1 > 4)) s0_0 bt410.2.1 bt410.2.2)else(z7_.j0 k a1 bt410.1 false s0_0 bt410.2.1 bt410.2.2))
end
set_option maxHeartbeats 8000000 in
set_option maxRecDepth 100000 in
theorem z7_.calls (k:Nat):∀(g:Nat) (Ac:List Int) (Bl:Int) (Bm:Int) (a1:Int) (r1:ByteArray) (r2:Int) (r3:Int) (w0 w:World) (hI:y2 w0 w g Ac Bl Bm) (hB:Below w0.heap.size w0 w) (h:z7_.f k Ac Bl Bm a1=some (r1,r2,r3)),
  Calls Tryz.prog 84 #[.pointer (some ⟨g,0,none⟩),.int .i64 a1] w fun e w'=>e=.returned (.string r1)∧y2 w0 w' g Ac r2 r3∧Below w0.heap.size w0 w'∧y3 w w' g none:=by
 induction k using Nat.strongRecOn with
 | _ k ih =>
 intro g Ac Bl Bm a1 r1 r2 r3 w0 w hI hB h
 cases k with
 | zero=>exact absurd h (by simp [z7_.f])
 | succ k =>
 simp only [z7_.f]at h
 have HI0:=y0.mk hI
 have HK:=y0.mk (y3.refl w g none)
 have HL:=y0.mk hB.size
 clear hI
 have Ic:=y0.mk hB.size
 have HB:=y0.mk hB
 clear hB
 have H:((z5_.f Ac Bl Bm 9).bind fun Af=>(if a1≤0 then(z7_.j0 k a1 Af.1 (decide (Af.1 > 4)) Ac Af.2.1 Af.2.2)else(z7_.j0 k a1 Af.1 false Ac Af.2.1 Af.2.2)))=some (r1,r2,r3):=h
 clear h
 obtain⟨⟨Al,Ad,Ae⟩,A3,H⟩:=qB H
 replace H:(if a1≤0 then(z7_.j0 k a1 Al (decide (Al > 4)) Ac Ad Ae)else(z7_.j0 k a1 Al false Ac Ad Ae))=some (r1,r2,r3):=H
 have Eb:=y0.mk H
 clear H
 go_enter Tryz.func84,Tryz.ntmps84
 go_upto_region 2 with(first|((with_reducible refine y19 (f:=54) rfl ?_);refine y22 (some 7) rfl rfl Tryz.func54 (by kernel_rfl) rfl #[.pointer (some ⟨g,0,none⟩),.int .i64 9] rfl qy0 ?_;(with_reducible refine(z5_.calls g Ac Bl Bm 9 Al Ad Ae w0 _ (by repeat(first|(with_reducible first|exact HI0.out|apply y2.alloc|apply y2.drewN|apply y2.drew|apply y2.set_1|apply y2.set_2)|exact HI0.out)) (by repeat(first|(with_reducible first|exact HB.out|apply y4|apply y23|apply y5|refine y6 ?_ (y2.ge HI0.out))|exact HB.out)) A3.out).mono ?_);rintro e w5 ⟨rfl,hi,hb,hk⟩;refine⟨_,rfl, ?_⟩;replace HK:=y0.mk (y3.trans (qh (w:=w) (g:=g)) hk (.inl rfl));replace HB:=y0.mk (hb);replace HI0:=y0.mk (hi);(try clear hb hk hi)))
 (try simp only [Act.put,qS_,qZ_,qC_])
 go_cut [13] (fun He wc=>∃(kq:Nat) (Bb:Bool),He=.bool Bb∧y0 (z7_.j0 kq a1 Al Bb Ac Ad Ae=some (r1,r2,r3))∧y0 (kq≤k)∧y0 (y2 w0 wc g Ac Ad Ae)∧y0 (y3 w wc g none)∧y0 (Below w0.heap.size w0 wc))
 case first =>
  have H:=Eb.out
  clear Eb
  by_cases c6:a1≤0
  ·rw [if_pos c6]at H
   have Bn:=decide_eq_true c6
   clear c6
   (first|rw [Bn]|(simp only [i64_w,i32_w];rw [Bn])|skip)
   have H':=y0.mk H
   clear H
   go_wp2
   go_meet
   exact⟨_,(decide (Al > 4)),qy2,H',⟨by first|omega|exact Nat.le_refl _⟩,⟨(y2.qj (w0:=w0) (g:=g))⟩,⟨(qh (w:=w) (g:=g))⟩,⟨y2.qbI⟩⟩
  ·rw [if_neg c6]at H
   have Bn:=decide_eq_false c6
   clear c6
   (first|rw [Bn]|(simp only [i64_w,i32_w];rw [Bn])|skip)
   have H':=y0.mk H
   clear H
   go_wp2
   go_meet
   exact⟨_,(false),qy2,H',⟨by first|omega|exact Nat.le_refl _⟩,⟨(y2.qj (w0:=w0) (g:=g))⟩,⟨(qh (w:=w) (g:=g))⟩,⟨y2.qbI⟩⟩
 case rest =>
  clear Eb
  obtain⟨kq,Bb,rfl,HA,Bf,HI0,HK,HB⟩:=hcut
  cases kq with
  | zero=>exact absurd HA.out (by simp [z7_.j0])
  | succ Hf =>
   have H:=HA.out
   clear HA
   simp only [z7_.j0]at H
   have Ec:=y0.mk H
   clear H
   go_upto_if 13 with(fail)
   go_cut [5] (fun v5 wc=>∃(kq:Nat) (Aa:Int),v5=.int .i64 Aa∧y0 (z7_.j1 kq a1 Aa Ac Ad Ae=some (r1,r2,r3))∧y0 (kq≤Hf)∧y0 (y2 w0 wc g Ac Ad Ae)∧y0 (y3 w wc g none)∧y0 (Below w0.heap.size w0 wc))
   case first =>
    have H:=Ec.out
    clear Ec
    by_cases c8:Bb=true
    ·subst c8
     replace H:=qT H
     have H':=y0.mk H
     clear H
     go_wp2
     go_meet
     exact⟨_,(wrap64 (Al - 4)),qy2,H',⟨by have:=Bf.out;first|omega|exact Nat.le_refl _⟩,⟨(y2.qj (w0:=w0) (g:=g))⟩,⟨(qh (w:=w) (g:=g))⟩,⟨y2.qbI⟩⟩
    ·replace c8:=Bool.eq_false_iff.mpr c8
     subst c8
     replace H:=qF H
     have H':=y0.mk H
     clear H
     go_wp2
     go_meet
     exact⟨_,(Al),qy2,H',⟨by have:=Bf.out;first|omega|exact Nat.le_refl _⟩,⟨(y2.qj (w0:=w0) (g:=g))⟩,⟨(qh (w:=w) (g:=g))⟩,⟨y2.qbI⟩⟩
   case rest =>
    clear Ec
    obtain⟨kq,Aa,rfl,HA,Bo,HI0,HK,HB⟩:=hcut
    cases kq with
    | zero=>exact absurd HA.out (by simp [z7_.j1])
    | succ Hg =>
     have H:=HA.out
     clear HA
     simp only [z7_.j1]at H
     have Ed:=y0.mk H
     clear H
     go_upto_if 17 with(fail)
     go_cut [17] (fun Hh wc=>∃(kq:Nat) (Bc:Bool),Hh=.bool Bc∧y0 (z7_.j2 kq a1 Aa Bc Ac Ad Ae=some (r1,r2,r3))∧y0 (kq≤Hg)∧y0 (y2 w0 wc g Ac Ad Ae)∧y0 (y3 w wc g none)∧y0 (Below w0.heap.size w0 wc))
     case first =>
      have H:=Ed.out
      clear Ed
      by_cases Ce:Aa=0
      ·rw [if_pos Ce]at H
       have Am:(Aa == 0)=true:=beq_iff_eq.mpr Ce
       have Ct:(Aa != 0)=false:=bne_eq_false_iff_eq.mpr Ce
       clear Ce
       (first|rw [Am]|(simp only [i64_w,i32_w];rw [Am])|skip)
       have H':=y0.mk H
       clear H
       go_wp2
       go_meet
       exact⟨_,((Aa == 0)),qy2,H',⟨by have:=Bf.out;have:=Bo.out;first|omega|exact Nat.le_refl _⟩,⟨(y2.qj (w0:=w0) (g:=g))⟩,⟨(qh (w:=w) (g:=g))⟩,⟨y2.qbI⟩⟩
      ·rw [if_neg Ce]at H
       have Am:(Aa == 0)=false:=beq_eq_false_iff_ne.mpr Ce
       have Ct:(Aa != 0)=true:=bne_iff_ne.mpr Ce
       (first|rw [Am]|(simp only [i64_w,i32_w];rw [Am])|skip)
       by_cases Cf:Aa=1
       ·rw [if_pos Cf]at H
        have Cu:(Aa == 1)=true:=beq_iff_eq.mpr Cf
        have Cv:(Aa != 1)=false:=bne_eq_false_iff_eq.mpr Cf
        clear Cf
        have H':=y0.mk H
        clear H
        go_wp2
        go_meet
        exact⟨_,((Aa == 1)),qy2,H',⟨by have:=Bf.out;have:=Bo.out;first|omega|exact Nat.le_refl _⟩,⟨(y2.qj (w0:=w0) (g:=g))⟩,⟨(qh (w:=w) (g:=g))⟩,⟨y2.qbI⟩⟩
       ·rw [if_neg Cf]at H
        have Cu:(Aa == 1)=false:=beq_eq_false_iff_ne.mpr Cf
        have Cv:(Aa != 1)=true:=bne_iff_ne.mpr Cf
        have H':=y0.mk H
        clear H
        go_wp2
        go_meet
        exact⟨_,((Aa == 2)),qy2,H',⟨by have:=Bf.out;have:=Bo.out;first|omega|exact Nat.le_refl _⟩,⟨(y2.qj (w0:=w0) (g:=g))⟩,⟨(qh (w:=w) (g:=g))⟩,⟨y2.qbI⟩⟩
     case rest =>
      clear Ed
      obtain⟨kq,Bc,rfl,HA,Bv,HI0,HK,HB⟩:=hcut
      cases kq with
      | zero=>exact absurd HA.out (by simp [z7_.j2])
      | succ Dw =>
       have H:=HA.out
       clear HA
       simp only [z7_.j2]at H
       by_cases Cw:Bc=true
       ·subst Cw
        replace H:=qT H
        obtain⟨Ap,Aq⟩:∃ y_:List Int,y_=(([0,1,2,3,(-1),10,1000000,(-1000000)]:List Int)):=⟨_,rfl⟩
        replace H:((z5_.f Ac Ad Ae 8).bind fun Au=>(if 0≤Au.1 then(if Au.1 < (Ap.length:Int)then((spec_NumText.f Dw (rd Ap Au.1)).bind fun Bp=>(some (Bp,Au.2.1,Au.2.2)))else(none))else(none)))=some (r1,r2,r3):=by first|(rw [Aq];with_reducible exact H)|(have H2_:=(Option.bind_some _ _).symm.trans H;rw [Aq];with_reducible exact H2_)|(have H2_:=(Option.bind_some _ _).symm.trans H;with_reducible exact H2_)|with_reducible exact H|(rw [Aq];exact H)|exact H
        have Bw:=y0.mk Aq
        clear Aq
        obtain⟨⟨Ag,Cx,Cy⟩,Hi,H⟩:=qB H
        replace H:(if 0≤Ag then(if Ag < (Ap.length:Int)then((spec_NumText.f Dw (rd Ap Ag)).bind fun Bp=>(some (Bp,Cx,Cy)))else(none))else(none))=some (r1,r2,r3):=H
        obtain⟨Fe,H⟩:=qo H
        have Ff:decide (0≤Ag)=true:=decide_eq_true Fe
        clear Fe
        obtain⟨Fg,H⟩:=qo H
        have Fh:decide (Ag < (Ap.length:Int))=true:=decide_eq_true Fg
        clear Fg
        obtain⟨Bp,Hj,H⟩:=qB H
        simp only [Option.some.injEq,Prod.mk.injEq]at H
        obtain⟨rfl,rfl,rfl⟩:=H
        go_wp2_with (first|((with_reducible refine y20 (N:=21) rfl ?_);refine qL (Kd.int .i64) 3 21 ([0,1,2,3,(-1),10,1000000,(-1000000)]:List Int) ?_;intro Hk Id Bq hb hg_ hnew_;clear hg_ hnew_;(first|rw [← Bw.out]at Bq|(simp only [Int.reduceToNat]at Bq;rw [← Bw.out]at Bq));have Ah:=y0.mk (Kd.R_lower Bq (keep_size (w:=w) (g:=g) (row:=none) (qh (w:=w) (g:=g))));replace HI0:=y0.mk (y2.below (y2.qj (w0:=w0) (g:=g)) hb);replace HK:=y0.mk (y3.trans (qh (w:=w) (g:=g)) (y3.of_below hb g none) (.inl rfl));replace HB:=y0.mk (y8 y2.qbI hb);clear hb Bq)|((with_reducible refine y19 (f:=54) rfl ?_);refine y22 (some 23) rfl rfl Tryz.func54 (by kernel_rfl) rfl #[.pointer (some ⟨g,0,none⟩),.int .i64 8] rfl qy0 ?_;(with_reducible refine(z5_.calls g Ac Ad Ae 8 Ag Cx Cy w0 _ (by repeat(first|(with_reducible first|exact HI0.out|apply y2.alloc|apply y2.drewN|apply y2.drew|apply y2.set_1|apply y2.set_2)|exact HI0.out)) (by repeat(first|(with_reducible first|exact HB.out|apply y4|apply y23|apply y5|refine y6 ?_ (y2.ge HI0.out))|exact HB.out)) Hi.out).mono ?_);rintro e Ie ⟨rfl,hi,hb,hk⟩;refine⟨_,rfl, ?_⟩;replace Ah:=y0.mk (Kd.R_mono (Kd.R_keep (y2.apart (show y2 w0 _ g Ac Ad Ae from(y2.qj (w0:=w0) (g:=g))) (qR Ah.out) (by decide)) hk (fun _ h=>h.2)) (fun _ h=>h.1));replace HK:=y0.mk (y3.trans (qh (w:=w) (g:=g)) hk (.inl rfl));replace HB:=y0.mk (hb);replace HI0:=y0.mk (hi);(try clear hb hk hi);obtain⟨Hl,Hm,Ee⟩:=Kd.R_slice Ah.out;subst Ee;have Cg:0≤(Ag:Int):=of_decide_eq_true qy1;have Ch:Ag < (Ap.length:Int):=of_decide_eq_true qy1;obtain⟨Fi,Ef,Dx⟩:=Kd.at_int (Kd.R_reads' Ah.out).2.2 Ag Cg Ch;cases Ef;replace Cg:=eq_true Cg;replace Ch:=eq_true Ch)|((with_reducible refine y19 (f:=81) rfl ?_);refine y22 (some 26) rfl rfl Tryz.func81 (by kernel_rfl) rfl #[.int .i64 (rd Ap Ag)] rfl qy0 ?_;(with_reducible refine(spec_NumText.calls Dw (rd Ap Ag) Bp _ Hj.out).mono ?_);rintro e Ig ⟨rfl,hb⟩;refine⟨_,rfl, ?_⟩;replace Ah:=y0.mk (Kd.R_below (qR Ah.out) hb);replace HI0:=y0.mk (y2.below (y2.qj (w0:=w0) (g:=g)) hb);replace HK:=y0.mk (y3.trans (qh (w:=w) (g:=g)) (y3.of_below hb g none) (.inl rfl));replace HB:=y0.mk (y8 y2.qbI hb);(try clear hb)))
        go_ret
        exact⟨qf,(y2.qj (w0:=w0) (g:=g)),y2.qbI,(qh (w:=w) (g:=g))⟩
       ·replace Cw:=Bool.eq_false_iff.mpr Cw
        subst Cw
        replace H:=qF H
        by_cases Ci:Aa=3
        ·rw [if_pos Ci]at H
         have Bx:(Aa == 3)=true:=beq_iff_eq.mpr Ci
         have Bz:(Aa != 3)=false:=bne_eq_false_iff_eq.mpr Ci
         clear Ci
         obtain⟨Bg,Av⟩:∃ y_:List ByteArray,y_=(([(⟨#[34,34]⟩:ByteArray),(⟨#[34,97,34]⟩:ByteArray),(⟨#[34,98,32,99,34]⟩:ByteArray),(⟨#[34,40,44,41,34]⟩:ByteArray),(⟨#[34,120,34]⟩:ByteArray)]:List ByteArray)):=⟨_,rfl⟩
         replace H:((z5_.f Ac Ad Ae 5).bind fun Aw=>(if 0≤Aw.1 then(if Aw.1 < (Bg.length:Int)then(some (rdOf ByteArray.empty Bg Aw.1,Aw.2.1,Aw.2.2))else(none))else(none)))=some (r1,r2,r3):=by first|(rw [Av];with_reducible exact H)|(have H2_:=(Option.bind_some _ _).symm.trans H;rw [Av];with_reducible exact H2_)|(have H2_:=(Option.bind_some _ _).symm.trans H;with_reducible exact H2_)|with_reducible exact H|(rw [Av];exact H)|exact H
         have Ca:=y0.mk Av
         clear Av
         obtain⟨⟨Ai,Cz,Da⟩,Hn,H⟩:=qB H
         replace H:(if 0≤Ai then(if Ai < (Bg.length:Int)then(some (rdOf ByteArray.empty Bg Ai,Cz,Da))else(none))else(none))=some (r1,r2,r3):=H
         obtain⟨Fj,H⟩:=qo H
         have Fk:decide (0≤Ai)=true:=decide_eq_true Fj
         clear Fj
         obtain⟨Fl,H⟩:=qo H
         have Fm:decide (Ai < (Bg.length:Int))=true:=decide_eq_true Fl
         clear Fl
         simp only [Option.some.injEq,Prod.mk.injEq]at H
         obtain⟨rfl,rfl,rfl⟩:=H
         go_wp2_with (first|((with_reducible refine y20 (N:=29) rfl ?_);refine qL Kd.string 9 29 ([(⟨#[34,34]⟩:ByteArray),(⟨#[34,97,34]⟩:ByteArray),(⟨#[34,98,32,99,34]⟩:ByteArray),(⟨#[34,40,44,41,34]⟩:ByteArray),(⟨#[34,120,34]⟩:ByteArray)]:List ByteArray) ?_;intro Ho Ih Br hb hg_ hnew_;clear hg_ hnew_;(first|rw [← Ca.out]at Br|(simp only [Int.reduceToNat]at Br;rw [← Ca.out]at Br));have Bd:=y0.mk (Kd.R_lower Br (keep_size (w:=w) (g:=g) (row:=none) (qh (w:=w) (g:=g))));replace HI0:=y0.mk (y2.below (y2.qj (w0:=w0) (g:=g)) hb);replace HK:=y0.mk (y3.trans (qh (w:=w) (g:=g)) (y3.of_below hb g none) (.inl rfl));replace HB:=y0.mk (y8 y2.qbI hb);clear hb Br)|((with_reducible refine y19 (f:=54) rfl ?_);refine y22 (some 31) rfl rfl Tryz.func54 (by kernel_rfl) rfl #[.pointer (some ⟨g,0,none⟩),.int .i64 5] rfl qy0 ?_;(with_reducible refine(z5_.calls g Ac Ad Ae 5 Ai Cz Da w0 _ (by repeat(first|(with_reducible first|exact HI0.out|apply y2.alloc|apply y2.drewN|apply y2.drew|apply y2.set_1|apply y2.set_2)|exact HI0.out)) (by repeat(first|(with_reducible first|exact HB.out|apply y4|apply y23|apply y5|refine y6 ?_ (y2.ge HI0.out))|exact HB.out)) Hn.out).mono ?_);rintro e Ii ⟨rfl,hi,hb,hk⟩;refine⟨_,rfl, ?_⟩;replace Bd:=y0.mk (Kd.R_mono (Kd.R_keep (y2.apart (show y2 w0 _ g Ac Ad Ae from(y2.qj (w0:=w0) (g:=g))) (qR Bd.out) (by decide)) hk (fun _ h=>h.2)) (fun _ h=>h.1));replace HK:=y0.mk (y3.trans (qh (w:=w) (g:=g)) hk (.inl rfl));replace HB:=y0.mk (hb);replace HI0:=y0.mk (hi);(try clear hb hk hi);obtain⟨Hp,Hq,Eg⟩:=Kd.R_slice Bd.out;subst Eg;have Cj:0≤(Ai:Int):=of_decide_eq_true qy1;have Ck:Ai < (Bg.length:Int):=of_decide_eq_true qy1;obtain⟨Fn,Eh,Dy⟩:=Kd.at_string (Kd.R_reads' Bd.out).2.2 Ai Cj Ck;cases Eh;replace Cj:=eq_true Cj;replace Ck:=eq_true Ck))
         go_ret
         exact⟨qf,(y2.qj (w0:=w0) (g:=g)),y2.qbI,(qh (w:=w) (g:=g))⟩
        ·rw [if_neg Ci]at H
         have Bx:(Aa == 3)=false:=beq_eq_false_iff_ne.mpr Ci
         have Bz:(Aa != 3)=true:=bne_iff_ne.mpr Ci
         by_cases Cl:Aa=4
         ·rw [if_pos Cl]at H
          have Cb:(Aa == 4)=true:=beq_iff_eq.mpr Cl
          have Cc:(Aa != 4)=false:=bne_eq_false_iff_eq.mpr Cl
          clear Cl
          obtain⟨Bh,Ay⟩:∃ y_:List ByteArray,y_=(([(⟨#[78,105,108]⟩:ByteArray),(⟨#[76,101,97,102]⟩:ByteArray),(⟨#[65]⟩:ByteArray),(⟨#[90,101,114,111]⟩:ByteArray)]:List ByteArray)):=⟨_,rfl⟩
          replace H:((z5_.f Ac Ad Ae 4).bind fun Az=>(if 0≤Az.1 then(if Az.1 < (Bh.length:Int)then(some (rdOf ByteArray.empty Bh Az.1,Az.2.1,Az.2.2))else(none))else(none)))=some (r1,r2,r3):=by first|(rw [Ay];with_reducible exact H)|(have H2_:=(Option.bind_some _ _).symm.trans H;rw [Ay];with_reducible exact H2_)|(have H2_:=(Option.bind_some _ _).symm.trans H;with_reducible exact H2_)|with_reducible exact H|(rw [Ay];exact H)|exact H
          have Cd:=y0.mk Ay
          clear Ay
          obtain⟨⟨Aj,Db,Dc⟩,Hr,H⟩:=qB H
          replace H:(if 0≤Aj then(if Aj < (Bh.length:Int)then(some (rdOf ByteArray.empty Bh Aj,Db,Dc))else(none))else(none))=some (r1,r2,r3):=H
          obtain⟨Fo,H⟩:=qo H
          have Fp:decide (0≤Aj)=true:=decide_eq_true Fo
          clear Fo
          obtain⟨Fq,H⟩:=qo H
          have Fr:decide (Aj < (Bh.length:Int))=true:=decide_eq_true Fq
          clear Fq
          simp only [Option.some.injEq,Prod.mk.injEq]at H
          obtain⟨rfl,rfl,rfl⟩:=H
          go_wp2_with (first|((with_reducible refine y20 (N:=36) rfl ?_);refine qL Kd.string 9 36 ([(⟨#[78,105,108]⟩:ByteArray),(⟨#[76,101,97,102]⟩:ByteArray),(⟨#[65]⟩:ByteArray),(⟨#[90,101,114,111]⟩:ByteArray)]:List ByteArray) ?_;intro Hs Ij Bs hb hg_ hnew_;clear hg_ hnew_;(first|rw [← Cd.out]at Bs|(simp only [Int.reduceToNat]at Bs;rw [← Cd.out]at Bs));have Be:=y0.mk (Kd.R_lower Bs (keep_size (w:=w) (g:=g) (row:=none) (qh (w:=w) (g:=g))));replace HI0:=y0.mk (y2.below (y2.qj (w0:=w0) (g:=g)) hb);replace HK:=y0.mk (y3.trans (qh (w:=w) (g:=g)) (y3.of_below hb g none) (.inl rfl));replace HB:=y0.mk (y8 y2.qbI hb);clear hb Bs)|((with_reducible refine y19 (f:=54) rfl ?_);refine y22 (some 38) rfl rfl Tryz.func54 (by kernel_rfl) rfl #[.pointer (some ⟨g,0,none⟩),.int .i64 4] rfl qy0 ?_;(with_reducible refine(z5_.calls g Ac Ad Ae 4 Aj Db Dc w0 _ (by repeat(first|(with_reducible first|exact HI0.out|apply y2.alloc|apply y2.drewN|apply y2.drew|apply y2.set_1|apply y2.set_2)|exact HI0.out)) (by repeat(first|(with_reducible first|exact HB.out|apply y4|apply y23|apply y5|refine y6 ?_ (y2.ge HI0.out))|exact HB.out)) Hr.out).mono ?_);rintro e Ik ⟨rfl,hi,hb,hk⟩;refine⟨_,rfl, ?_⟩;replace Be:=y0.mk (Kd.R_mono (Kd.R_keep (y2.apart (show y2 w0 _ g Ac Ad Ae from(y2.qj (w0:=w0) (g:=g))) (qR Be.out) (by decide)) hk (fun _ h=>h.2)) (fun _ h=>h.1));replace HK:=y0.mk (y3.trans (qh (w:=w) (g:=g)) hk (.inl rfl));replace HB:=y0.mk (hb);replace HI0:=y0.mk (hi);(try clear hb hk hi);obtain⟨Ht,Hu,Ei⟩:=Kd.R_slice Be.out;subst Ei;have Cm:0≤(Aj:Int):=of_decide_eq_true qy1;have Cn:Aj < (Bh.length:Int):=of_decide_eq_true qy1;obtain⟨Fs,Ej,Dz⟩:=Kd.at_string (Kd.R_reads' Be.out).2.2 Aj Cm Cn;cases Ej;replace Cm:=eq_true Cm;replace Cn:=eq_true Cn))
          go_ret
          exact⟨qf,(y2.qj (w0:=w0) (g:=g)),y2.qbI,(qh (w:=w) (g:=g))⟩
         ·rw [if_neg Cl]at H
          have Cb:(Aa == 4)=false:=beq_eq_false_iff_ne.mpr Cl
          have Cc:(Aa != 4)=true:=bne_iff_ne.mpr Cl
          have Co:=y0.mk H
          clear H
          go_upto_if 41 with(fail)
          go_cut [41] (fun Hv wc=>∃(kq:Nat) (Ak:Bool),Hv=.bool Ak∧y0 (z7_.j3 kq a1 Aa Ak Ac Ad Ae=some (r1,r2,r3))∧y0 (kq≤Dw)∧y0 (y2 w0 wc g Ac Ad Ae)∧y0 (y3 w wc g none)∧y0 (Below w0.heap.size w0 wc))
          case first =>
           have H:=Co.out
           clear Co
           by_cases Cp:Aa=5
           ·rw [if_pos Cp]at H
            have Ba:(Aa == 5)=true:=beq_iff_eq.mpr Cp
            have Dd:(Aa != 5)=false:=bne_eq_false_iff_eq.mpr Cp
            clear Cp
            (first|rw [Ba]|(simp only [i64_w,i32_w];rw [Ba])|skip)
            have H':=y0.mk H
            clear H
            go_wp2
            go_meet
            exact⟨_,((Aa == 5)),qy2,H',⟨by have:=Bf.out;have:=Bo.out;have:=Bv.out;first|omega|exact Nat.le_refl _⟩,⟨(y2.qj (w0:=w0) (g:=g))⟩,⟨(qh (w:=w) (g:=g))⟩,⟨y2.qbI⟩⟩
           ·rw [if_neg Cp]at H
            have Ba:(Aa == 5)=false:=beq_eq_false_iff_ne.mpr Cp
            have Dd:(Aa != 5)=true:=bne_iff_ne.mpr Cp
            (first|rw [Ba]|(simp only [i64_w,i32_w];rw [Ba])|skip)
            have H':=y0.mk H
            clear H
            go_wp2
            go_meet
            exact⟨_,((Aa == 6)),qy2,H',⟨by have:=Bf.out;have:=Bo.out;have:=Bv.out;first|omega|exact Nat.le_refl _⟩,⟨(y2.qj (w0:=w0) (g:=g))⟩,⟨(qh (w:=w) (g:=g))⟩,⟨y2.qbI⟩⟩
          case rest =>
           clear Co
           (try clear Cw Bx Bz Cb Cc)
           obtain⟨kq,Ak,rfl,HA,Bi,HI0,HK,HB⟩:=hcut
           cases kq with
           | zero=>exact absurd HA.out (by simp [z7_.j3])
           | succ Bj =>
            have H:=HA.out
            clear HA
            simp only [z7_.j3]at H
            by_cases Ea:Ak=true
            ·subst Ea
             replace H:=qT H
             obtain⟨⟨Bu,De,Df⟩,Hw,H⟩:=qB H
             dsimp only at H
             obtain⟨Ek,H⟩:=qo H
             have Ft:=eq_true Ek
             have Fu:=decide_eq_true Ek
             have Fv:=eq_false (Nat.not_lt.2 Ek)
             obtain⟨El,H⟩:=qo H
             have Fw:=eq_true El
             have Fx:=decide_eq_true El
             have Dg:=eq_false (Nat.not_lt.2 El)
             have Fy:(9223372036854775807 < 5 + Bu.size + 1)=False:=qs Dg
             obtain⟨⟨Cq,Em,En⟩,Hx,H⟩:=qB H
             dsimp only at H
             obtain⟨Eo,H⟩:=qo H
             have Fz:=eq_true Eo
             have Ga:=decide_eq_true Eo
             have Dh:=eq_false (Nat.not_lt.2 Eo)
             have Gb:(9223372036854775807 < 5 + Bu.size + 1 + Cq.size)=False:=qs Dh
             obtain⟨Ep,H⟩:=qo H
             have Gc:=eq_true Ep
             have Gd:=decide_eq_true Ep
             have Di:=eq_false (Nat.not_lt.2 Ep)
             have Ge:(9223372036854775807 < 5 + Bu.size + 1 + Cq.size + 1)=False:=qs Di
             simp only [Option.some.injEq,Prod.mk.injEq]at H
             obtain⟨rfl,rfl,rfl⟩:=H
             go_wp2_with (first|((with_reducible refine y19 (f:=84) rfl ?_);refine y22 (some 47) rfl rfl Tryz.func84 (by kernel_rfl) rfl #[.pointer (some ⟨g,0,none⟩),.int .i64 (wrap64 (a1 - 1))] rfl qy0 ?_;(with_reducible refine(ih Bj (by have:=Bf.out;have:=Bo.out;have:=Bv.out;have:=Bi.out;omega) g Ac Ad Ae (wrap64 (a1 - 1)) Bu De Df w0 _ (by repeat(first|(with_reducible first|exact HI0.out|apply y2.alloc|apply y2.drewN|apply y2.drew|apply y2.set_1|apply y2.set_2)|exact HI0.out)) (by repeat(first|(with_reducible first|exact HB.out|apply y4|apply y23|apply y5|refine y6 ?_ (y2.ge HI0.out))|exact HB.out)) Hw.out).mono ?_);rintro e Il ⟨rfl,hi,hb,hk⟩;refine⟨_,rfl, ?_⟩;replace HK:=y0.mk (y3.trans (qh (w:=w) (g:=g)) hk (.inl rfl));replace HB:=y0.mk (hb);replace HI0:=y0.mk (hi);(try clear hb hk hi))|((with_reducible refine y19 (f:=84) rfl ?_);refine y22 (some 53) rfl rfl Tryz.func84 (by kernel_rfl) rfl #[.pointer (some ⟨g,0,none⟩),.int .i64 (wrap64 (a1 - 1))] rfl qy0 ?_;(with_reducible refine(ih Bj (by have:=Bf.out;have:=Bo.out;have:=Bv.out;have:=Bi.out;omega) g Ac De Df (wrap64 (a1 - 1)) Cq Em En w0 _ (by repeat(first|(with_reducible first|exact HI0.out|apply y2.alloc|apply y2.drewN|apply y2.drew|apply y2.set_1|apply y2.set_2)|exact HI0.out)) (by repeat(first|(with_reducible first|exact HB.out|apply y4|apply y23|apply y5|refine y6 ?_ (y2.ge HI0.out))|exact HB.out)) Hx.out).mono ?_);rintro e Im ⟨rfl,hi,hb,hk⟩;refine⟨_,rfl, ?_⟩;replace HK:=y0.mk (y3.trans (qh (w:=w) (g:=g)) hk (.inl rfl));replace HB:=y0.mk (hb);replace HI0:=y0.mk (hi);(try clear hb hk hi)))
             go_ret
             exact⟨qf,(y2.qj (w0:=w0) (g:=g)),y2.qbI,(qh (w:=w) (g:=g))⟩
            ·replace Ea:=Bool.eq_false_iff.mpr Ea
             subst Ea
             replace H:=qF H
             by_cases Cr:Aa=7
             ·rw [if_pos Cr]at H
              have Dj:(Aa == 7)=true:=beq_iff_eq.mpr Cr
              have Dk:(Aa != 7)=false:=bne_eq_false_iff_eq.mpr Cr
              clear Cr
              obtain⟨⟨Dl,Er,Es⟩,Hy,H⟩:=qB H
              dsimp only at H
              obtain⟨Et,H⟩:=qo H
              have Gf:=eq_true Et
              have Gg:=decide_eq_true Et
              have Gh:=eq_false (Nat.not_lt.2 Et)
              obtain⟨Eu,H⟩:=qo H
              have Gi:=eq_true Eu
              have Gj:=decide_eq_true Eu
              have Dm:=eq_false (Nat.not_lt.2 Eu)
              have Gk:(9223372036854775807 < 2 + Dl.size + 1)=False:=qs Dm
              simp only [Option.some.injEq,Prod.mk.injEq]at H
              obtain⟨rfl,rfl,rfl⟩:=H
              go_wp2_with (first|((with_reducible refine y19 (f:=84) rfl ?_);refine y22 (some 61) rfl rfl Tryz.func84 (by kernel_rfl) rfl #[.pointer (some ⟨g,0,none⟩),.int .i64 (wrap64 (a1 - 1))] rfl qy0 ?_;(with_reducible refine(ih Bj (by have:=Bf.out;have:=Bo.out;have:=Bv.out;have:=Bi.out;omega) g Ac Ad Ae (wrap64 (a1 - 1)) Dl Er Es w0 _ (by repeat(first|(with_reducible first|exact HI0.out|apply y2.alloc|apply y2.drewN|apply y2.drew|apply y2.set_1|apply y2.set_2)|exact HI0.out)) (by repeat(first|(with_reducible first|exact HB.out|apply y4|apply y23|apply y5|refine y6 ?_ (y2.ge HI0.out))|exact HB.out)) Hy.out).mono ?_);rintro e In ⟨rfl,hi,hb,hk⟩;refine⟨_,rfl, ?_⟩;replace HK:=y0.mk (y3.trans (qh (w:=w) (g:=g)) hk (.inl rfl));replace HB:=y0.mk (hb);replace HI0:=y0.mk (hi);(try clear hb hk hi)))
              go_ret
              exact⟨qf,(y2.qj (w0:=w0) (g:=g)),y2.qbI,(qh (w:=w) (g:=g))⟩
             ·rw [if_neg Cr]at H
              have Dj:(Aa == 7)=false:=beq_eq_false_iff_ne.mpr Cr
              have Dk:(Aa != 7)=true:=bne_iff_ne.mpr Cr
              obtain⟨⟨Bk,Dn,Do⟩,Hz,H⟩:=qB H
              dsimp only at H
              obtain⟨Ew,H⟩:=qo H
              have Gl:=eq_true Ew
              have Gm:=decide_eq_true Ew
              have Gn:=eq_false (Nat.not_lt.2 Ew)
              obtain⟨Ex,H⟩:=qo H
              have Gp:=eq_true Ex
              have Gq:=decide_eq_true Ex
              have Dp:=eq_false (Nat.not_lt.2 Ex)
              have Gr:(9223372036854775807 < 5 + Bk.size + 1)=False:=qs Dp
              obtain⟨⟨Bt,Dq,Dr⟩,Ia,H⟩:=qB H
              dsimp only at H
              obtain⟨Ey,H⟩:=qo H
              have Gs:=eq_true Ey
              have Gt:=decide_eq_true Ey
              have Ds:=eq_false (Nat.not_lt.2 Ey)
              have Gu:(9223372036854775807 < 5 + Bk.size + 1 + Bt.size)=False:=qs Ds
              obtain⟨Ez,H⟩:=qo H
              have Gv:=eq_true Ez
              have Gw:=decide_eq_true Ez
              have Dt:=eq_false (Nat.not_lt.2 Ez)
              have Gx:(9223372036854775807 < 5 + Bk.size + 1 + Bt.size + 1)=False:=qs Dt
              obtain⟨⟨Cs,Fa,Fb⟩,Ib,H⟩:=qB H
              dsimp only at H
              obtain⟨Fc,H⟩:=qo H
              have Gy:=eq_true Fc
              have Gz:=decide_eq_true Fc
              have Du:=eq_false (Nat.not_lt.2 Fc)
              have Ha:(9223372036854775807 < 5 + Bk.size + 1 + Bt.size + 1 + Cs.size)=False:=qs Du
              obtain⟨Fd,H⟩:=qo H
              have Hb:=eq_true Fd
              have Hc:=decide_eq_true Fd
              have Dv:=eq_false (Nat.not_lt.2 Fd)
              have Hd:(9223372036854775807 < 5 + Bk.size + 1 + Bt.size + 1 + Cs.size + 1)=False:=qs Dv
              simp only [Option.some.injEq,Prod.mk.injEq]at H
              obtain⟨rfl,rfl,rfl⟩:=H
              go_wp2_with (first|((with_reducible refine y19 (f:=84) rfl ?_);refine y22 (some 67) rfl rfl Tryz.func84 (by kernel_rfl) rfl #[.pointer (some ⟨g,0,none⟩),.int .i64 (wrap64 (a1 - 1))] rfl qy0 ?_;(with_reducible refine(ih Bj (by have:=Bf.out;have:=Bo.out;have:=Bv.out;have:=Bi.out;omega) g Ac Ad Ae (wrap64 (a1 - 1)) Bk Dn Do w0 _ (by repeat(first|(with_reducible first|exact HI0.out|apply y2.alloc|apply y2.drewN|apply y2.drew|apply y2.set_1|apply y2.set_2)|exact HI0.out)) (by repeat(first|(with_reducible first|exact HB.out|apply y4|apply y23|apply y5|refine y6 ?_ (y2.ge HI0.out))|exact HB.out)) Hz.out).mono ?_);rintro e Io ⟨rfl,hi,hb,hk⟩;refine⟨_,rfl, ?_⟩;replace HK:=y0.mk (y3.trans (qh (w:=w) (g:=g)) hk (.inl rfl));replace HB:=y0.mk (hb);replace HI0:=y0.mk (hi);(try clear hb hk hi))|((with_reducible refine y19 (f:=84) rfl ?_);refine y22 (some 73) rfl rfl Tryz.func84 (by kernel_rfl) rfl #[.pointer (some ⟨g,0,none⟩),.int .i64 (wrap64 (a1 - 1))] rfl qy0 ?_;(with_reducible refine(ih Bj (by have:=Bf.out;have:=Bo.out;have:=Bv.out;have:=Bi.out;omega) g Ac Dn Do (wrap64 (a1 - 1)) Bt Dq Dr w0 _ (by repeat(first|(with_reducible first|exact HI0.out|apply y2.alloc|apply y2.drewN|apply y2.drew|apply y2.set_1|apply y2.set_2)|exact HI0.out)) (by repeat(first|(with_reducible first|exact HB.out|apply y4|apply y23|apply y5|refine y6 ?_ (y2.ge HI0.out))|exact HB.out)) Ia.out).mono ?_);rintro e Ip ⟨rfl,hi,hb,hk⟩;refine⟨_,rfl, ?_⟩;replace HK:=y0.mk (y3.trans (qh (w:=w) (g:=g)) hk (.inl rfl));replace HB:=y0.mk (hb);replace HI0:=y0.mk (hi);(try clear hb hk hi))|((with_reducible refine y19 (f:=84) rfl ?_);refine y22 (some 79) rfl rfl Tryz.func84 (by kernel_rfl) rfl #[.pointer (some ⟨g,0,none⟩),.int .i64 (wrap64 (a1 - 1))] rfl qy0 ?_;(with_reducible refine(ih Bj (by have:=Bf.out;have:=Bo.out;have:=Bv.out;have:=Bi.out;omega) g Ac Dq Dr (wrap64 (a1 - 1)) Cs Fa Fb w0 _ (by repeat(first|(with_reducible first|exact HI0.out|apply y2.alloc|apply y2.drewN|apply y2.drew|apply y2.set_1|apply y2.set_2)|exact HI0.out)) (by repeat(first|(with_reducible first|exact HB.out|apply y4|apply y23|apply y5|refine y6 ?_ (y2.ge HI0.out))|exact HB.out)) Ib.out).mono ?_);rintro e Iq ⟨rfl,hi,hb,hk⟩;refine⟨_,rfl, ?_⟩;replace HK:=y0.mk (y3.trans (qh (w:=w) (g:=g)) hk (.inl rfl));replace HB:=y0.mk (hb);replace HI0:=y0.mk (hi);(try clear hb hk hi)))
              go_ret
              exact⟨qf,(y2.qj (w0:=w0) (g:=g)),y2.qbI,(qh (w:=w) (g:=g))⟩
end Go.Proofs.YtkajecadkkgfmaaGreatDoor.Pn
end
