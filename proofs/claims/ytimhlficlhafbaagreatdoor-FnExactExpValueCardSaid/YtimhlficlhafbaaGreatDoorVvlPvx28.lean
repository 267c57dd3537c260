-- Cut by prune.py.
import Derived.Test.YtimhlficlhafbaaGreatDoorVvlPvx25
namespace Go.Proofs.YtimhlficlhafbaaGreatDoor.Pv
open RowKit YtimhlficlhafbaaGreatDoorW.PrintWords YtimhlficlhafbaaGreatDoorW.PrintLast YtimhlficlhafbaaGreatDoorW.PrintMore
set_option linter.unusedVariables false
set_option linter.unusedSimpArgs false
def laws_FnExactExpValue.j0:Nat→List ByteArray→List ByteArray→List ByteArray→List ByteArray→Bool→List (S59)→Int→ByteArray→List Int→List (S25)→List (S67)→Int→ByteArray→List Int→List (S35)→Option (Bool)
 | 0,_,_,_,_,_,_,_,_,_,_,_,_,_,_,_=>none
 | k + 1,x2,x3,Ae,An,Ao,By,Dd,De,Dz,Ea,Ec,Ee,Em,Ep,Ez=>if Ao=true then(some false)else((laws_toRule.f k By Dd De Dz Ea).bind fun bt566=>((laws_eqRule.f k Ec Ee Em Ep Ez bt566.1 bt566.2.1 bt566.2.2.1 bt566.2.2.2.1 bt566.2.2.2.2).bind fun Fa=>(if Fa=true then((laws_toStringS.f k x2).bind fun Fe=>((laws_eqStringS.f k Ae Fe).bind fun Fg=>(if Fg=true then((laws_toStringS.f k x3).bind fun Fh=>((laws_eqStringS.f k An Fh).bind fun Fn=>(if Fn=true then(some true)else(some false))))else(some false))))else(some false))))
def laws_FnExactExpValue.f (k:Nat) (Ae:List (S59)) (An:Int) (Ao:ByteArray) (By:List Int) (Dd:List (S25)) (a1:Int) (l2:List ByteArray) (l3:List ByteArray):Option (Bool):=(laws_szRule.f k Ae An Ao By Dd 1048576).bind fun Ea=>(if Ea < 0 then(some true)else((laws_szStringS.f k l2 Ea).bind fun Ec=>(if Ec < 0 then(some true)else((laws_szStringS.f k l3 Ec).bind fun Ee=>(if Ee < 0 then(some true)else((laws_toRule.f k Ae An Ao By Dd).bind fun bt527=>((laws_toStringS.f k l2).bind fun Em=>((laws_toStringS.f k l3).bind fun Ep=>((spec_ExpValue.f k bt527.1 bt527.2.1 bt527.2.2.1 bt527.2.2.2.1 bt527.2.2.2.2 a1 Em Ep).bind fun bt544=>((laws_toRule.f k Ae An Ao By Dd).bind fun bt546=>((laws_toStringS.f k l2).bind fun De=>((laws_toStringS.f k l3).bind fun Dz=>((impl_ExpValue.f k bt546.1 bt546.2.1 bt546.2.2.1 bt546.2.2.2.1 bt546.2.2.2.2 a1 De Dz).bind fun bt564=>(if bt564.1.toList=bt544.1.toList then(laws_FnExactExpValue.j0 k l2 l3 De Dz (bt564.2 != bt544.2) Ae An Ao By Dd bt546.1 bt546.2.1 bt546.2.2.1 bt546.2.2.2.1 bt546.2.2.2.2)else(laws_FnExactExpValue.j0 k l2 l3 De Dz true Ae An Ao By Dd bt546.1 bt546.2.1 bt546.2.2.1 bt546.2.2.2.1 bt546.2.2.2.2)))))))))))))))
set_option maxHeartbeats 8000000 in
set_option maxRecDepth 100000 in
theorem laws_FnExactExpValue.calls (k:Nat) (Bl:Option Addr) (Bm:Nat) (Ah:List (S59)) (Al:Int) (Am:ByteArray) (Bn:Option Addr) (Bo:Nat) (Ai:List Int) (Bp:Option Addr) (Bq:Nat) (Aj:List (S25)) (a1:Int) (A2:Option Addr) (c2:Nat) (l2:List ByteArray) (A3:Option Addr) (c3:Nat) (l3:List ByteArray) (r:Bool) (w:World) (Ff:Kd.C k59 w Bl Ah.length Ah) (Fg:Ah.length≤Bm) (Fh:Kd.C (Kd.int .i64) w Bn Ai.length Ai) (Fi:Ai.length≤Bo) (Fj:Kd.C k25 w Bp Aj.length Aj) (Fk:Aj.length≤Bq) (Jm:Kd.C Kd.string w A2 l2.length l2) (Jn:l2.length≤c2) (Jo:Kd.C Kd.string w A3 l3.length l3) (Jp:l3.length≤c3) (hT:Tb w) (h:laws_FnExactExpValue.f k Ah Al Am Ai Aj a1 l2 l3=some r) (htrue_:r=true) :
  Calls Tryz.prog 3 #[.agg #[.slice Bl Ah.length Bm,.int .i64 Al,.string Am,.slice Bn Ai.length Bo,.slice Bp Aj.length Bq],.int .i64 a1,.slice A2 l2.length c2,.slice A3 l3.length c3] w fun e w'=>e=.returned (.bool r)∧Below w.heap.size w w':=by
 have Jv:=Tryz.underlying28
 have Jw:=Tryz.underlying38
 replace hT:=y0.mk hT
 have Cb:=y0.mk Ff
 have Cc:=y0.mk Fg
 clear Ff Fg
 have Cd:=y0.mk Fh
 have Ce:=y0.mk Fi
 clear Fh Fi
 have Cf:=y0.mk Fj
 have Cg:=y0.mk Fk
 clear Fj Fk
 have Ge:=y0.mk Jm
 have Gf:=y0.mk Jn
 clear Jm Jn
 have Gi:=y0.mk Jo
 have Gj:=y0.mk Jp
 clear Jo Jp
 have HB:=y0.mk (Below.refl w.heap.size w)
 have H:((laws_szRule.f k Ah Al Am Ai Aj 1048576).bind fun Bu=>(if Bu < 0 then(some true)else((laws_szStringS.f k l2 Bu).bind fun Ch=>(if Ch < 0 then(some true)else((laws_szStringS.f k l3 Ch).bind fun Ct=>(if Ct < 0 then(some true)else((laws_toRule.f k Ah Al Am Ai Aj).bind fun Cm=>((laws_toStringS.f k l2).bind fun Cu=>((laws_toStringS.f k l3).bind fun Cv=>((spec_ExpValue.f k Cm.1 Cm.2.1 Cm.2.2.1 Cm.2.2.2.1 Cm.2.2.2.2 a1 Cu Cv).bind fun Fl=>((laws_toRule.f k Ah Al Am Ai Aj).bind fun Aw=>((laws_toStringS.f k l2).bind fun Bz=>((laws_toStringS.f k l3).bind fun Ca=>((impl_ExpValue.f k Aw.1 Aw.2.1 Aw.2.2.1 Aw.2.2.2.1 Aw.2.2.2.2 a1 Bz Ca).bind fun Fm=>(if Fm.1.toList=Fl.1.toList then(laws_FnExactExpValue.j0 k l2 l3 Bz Ca (Fm.2 != Fl.2) Ah Al Am Ai Aj Aw.1 Aw.2.1 Aw.2.2.1 Aw.2.2.2.1 Aw.2.2.2.2)else(laws_FnExactExpValue.j0 k l2 l3 Bz Ca true Ah Al Am Ai Aj Aw.1 Aw.2.1 Aw.2.2.1 Aw.2.2.2.1 Aw.2.2.2.2))))))))))))))))=some r:=h
 clear h
 obtain⟨Bu,A5,H⟩:=qB H
 by_cases c6:Bu < 0
 ·rw [if_pos c6]at H
  have Gk:=decide_eq_true c6
  clear c6
  obtain rfl:=Option.some.inj H
  go_enter Tryz.func3,Tryz.ntmps3
  go_wp2_with (first|((with_reducible refine y19 (N:=4) rfl ?_);refine qe 4 #[.slice Bl Ah.length Bm,.int .i64 Al,.string Am,.slice Bn Ai.length Bo,.slice Bp Aj.length Bq] 28 ?_;intro Bk hg w7 hbox hb;have Aa:=y0.mk (hbox);have Cw:=y0.mk (qg (w:=w) hg);have Cx:=y0.mk (qg (w:=w) hg);replace HB:=y0.mk (y5 qb hb);clear hb hbox hg;obtain⟨Hq,Hr,Hs,Ht,Hu,Hv,Hw,Hx,Hy,Hz⟩:=qz5 Aa.out)|((with_reducible refine y18 (f:=4) rfl ?_);refine y21 (some 19) rfl rfl Tryz.func4 (by kernel_rfl) rfl #[.agg #[.slice Bl Ah.length Bm,.int .i64 Al,.string Am,.slice Bn Ai.length Bo,.slice Bp Aj.length Bq],.int .i64 1048576] rfl qy1 ?_;(with_reducible refine(laws_szRule.calls k _ _ Ah Al Am _ _ Ai _ _ Aj 1048576 Bu _ (qc (Kd.C_below Cb.out HB.out)) Cc.out (qc (Kd.C_below Cd.out HB.out)) Ce.out (qc (Kd.C_below Cf.out HB.out)) Cg.out A5.out).mono ?_);rintro e w9 ⟨rfl,hb⟩;refine⟨_,rfl, ?_⟩;replace Aa:=y0.mk (qK Aa.out hb);replace HB:=y0.mk (y5 qb hb);(try clear hb)))
  go_ret
  exact⟨qf,qb⟩
 ·rw [if_neg c6]at H
  have Gk:=decide_eq_false c6
  clear c6
  obtain⟨Ch,Ia,H⟩:=qB H
  by_cases Gg:Ch < 0
  ·rw [if_pos Gg]at H
   have Fn:=decide_eq_true Gg
   clear Gg
   obtain rfl:=Option.some.inj H
   go_enter Tryz.func3,Tryz.ntmps3
   go_wp2_with (first|((with_reducible refine y19 (N:=4) rfl ?_);refine qe 4 #[.slice Bl Ah.length Bm,.int .i64 Al,.string Am,.slice Bn Ai.length Bo,.slice Bp Aj.length Bq] 28 ?_;intro Bk hg Le hbox hb;have Aa:=y0.mk (hbox);have Cw:=y0.mk (qg (w:=w) hg);have Cx:=y0.mk (qg (w:=w) hg);replace HB:=y0.mk (y5 qb hb);clear hb hbox hg;obtain⟨Gs,Gt,Gu,Gv,Gw,Gx,Gy,Gz,Ha,Hb⟩:=qz5 Aa.out)|((with_reducible refine y18 (f:=4) rfl ?_);refine y21 (some 19) rfl rfl Tryz.func4 (by kernel_rfl) rfl #[.agg #[.slice Bl Ah.length Bm,.int .i64 Al,.string Am,.slice Bn Ai.length Bo,.slice Bp Aj.length Bq],.int .i64 1048576] rfl qy1 ?_;(with_reducible refine(laws_szRule.calls k _ _ Ah Al Am _ _ Ai _ _ Aj 1048576 Bu _ (qc (Kd.C_below Cb.out HB.out)) Cc.out (qc (Kd.C_below Cd.out HB.out)) Ce.out (qc (Kd.C_below Cf.out HB.out)) Cg.out A5.out).mono ?_);rintro e Lf ⟨rfl,hb⟩;refine⟨_,rfl, ?_⟩;replace Aa:=y0.mk (qK Aa.out hb);replace HB:=y0.mk (y5 qb hb);(try clear hb))|((with_reducible refine y18 (f:=5) rfl ?_);refine y21 (some 24) rfl rfl Tryz.func5 (by kernel_rfl) rfl #[.slice A2 l2.length c2,.int .i64 Bu] rfl qy1 ?_;(with_reducible refine(laws_szStringS.calls k _ _ l2 Bu Ch _ (qc (Kd.C_below Ge.out HB.out)) Gf.out Ia.out).mono ?_);rintro e w' ⟨rfl,⟨nd,rfl⟩⟩;refine⟨_,rfl, ?_⟩))
   go_ret
   exact⟨qf,qb⟩
  ·rw [if_neg Gg]at H
   have Fn:=decide_eq_false Gg
   clear Gg
   obtain⟨Ct,Jq,H⟩:=qB H
   by_cases Gh:Ct < 0
   ·rw [if_pos Gh]at H
    have Fo:=decide_eq_true Gh
    clear Gh
    obtain rfl:=Option.some.inj H
    go_enter Tryz.func3,Tryz.ntmps3
    go_wp2_with (first|((with_reducible refine y19 (N:=4) rfl ?_);refine qe 4 #[.slice Bl Ah.length Bm,.int .i64 Al,.string Am,.slice Bn Ai.length Bo,.slice Bp Aj.length Bq] 28 ?_;intro Bk hg Lg hbox hb;have Aa:=y0.mk (hbox);have Cw:=y0.mk (qg (w:=w) hg);have Cx:=y0.mk (qg (w:=w) hg);replace HB:=y0.mk (y5 qb hb);clear hb hbox hg;obtain⟨Hc,Hd,He,Hf,Hg,Hh,Hi,Hj,Hk,Hl⟩:=qz5 Aa.out)|((with_reducible refine y18 (f:=4) rfl ?_);refine y21 (some 19) rfl rfl Tryz.func4 (by kernel_rfl) rfl #[.agg #[.slice Bl Ah.length Bm,.int .i64 Al,.string Am,.slice Bn Ai.length Bo,.slice Bp Aj.length Bq],.int .i64 1048576] rfl qy1 ?_;(with_reducible refine(laws_szRule.calls k _ _ Ah Al Am _ _ Ai _ _ Aj 1048576 Bu _ (qc (Kd.C_below Cb.out HB.out)) Cc.out (qc (Kd.C_below Cd.out HB.out)) Ce.out (qc (Kd.C_below Cf.out HB.out)) Cg.out A5.out).mono ?_);rintro e Lh ⟨rfl,hb⟩;refine⟨_,rfl, ?_⟩;replace Aa:=y0.mk (qK Aa.out hb);replace HB:=y0.mk (y5 qb hb);(try clear hb))|((with_reducible refine y18 (f:=5) rfl ?_);refine y21 (some 24) rfl rfl Tryz.func5 (by kernel_rfl) rfl #[.slice A2 l2.length c2,.int .i64 Bu] rfl qy1 ?_;(with_reducible refine(laws_szStringS.calls k _ _ l2 Bu Ch _ (qc (Kd.C_below Ge.out HB.out)) Gf.out Ia.out).mono ?_);rintro e w' ⟨rfl,⟨nd,rfl⟩⟩;refine⟨_,rfl, ?_⟩)|((with_reducible refine y18 (f:=5) rfl ?_);refine y21 (some 29) rfl rfl Tryz.func5 (by kernel_rfl) rfl #[.slice A3 l3.length c3,.int .i64 Ch] rfl qy1 ?_;(with_reducible refine(laws_szStringS.calls k _ _ l3 Ch Ct _ (qc (Kd.C_below Gi.out qb)) Gj.out Jq.out).mono ?_);rintro e w' ⟨rfl,⟨nd,rfl⟩⟩;refine⟨_,rfl, ?_⟩))
    go_ret
    exact⟨qf,qb⟩
   ·rw [if_neg Gh]at H
    have Fo:=decide_eq_false Gh
    clear Gh
    obtain⟨⟨Fp,Fq,Fr,Fs,Ft⟩,Jx,H⟩:=qB H
    dsimp only at H
    obtain⟨Cu,Jy,H⟩:=qB H
    obtain⟨Cv,Jz,H⟩:=qB H
    obtain⟨⟨Cp,Gl⟩,Ka,H⟩:=qB H
    dsimp only at H
    obtain⟨⟨At,Az,Ba,Au,Bb⟩,Kb,H⟩:=qB H
    dsimp only at H
    obtain⟨Bz,Ke,H⟩:=qB H
    obtain⟨Ca,Kf,H⟩:=qB H
    obtain⟨⟨Cq,Gm⟩,Kg,H⟩:=qB H
    dsimp only at H
    have Fu:=y0.mk H
    clear H
    go_enter Tryz.func3,Tryz.ntmps3
    go_upto_region 16 with(first|((with_reducible refine y19 (N:=4) rfl ?_);refine qe 4 #[.slice Bl Ah.length Bm,.int .i64 Al,.string Am,.slice Bn Ai.length Bo,.slice Bp Aj.length Bq] 28 ?_;intro Bk hg Li hbox hb;have Aa:=y0.mk (hbox);have Cw:=y0.mk (qg (w:=w) hg);have Cx:=y0.mk (qg (w:=w) hg);replace HB:=y0.mk (y5 qb hb);clear hb hbox hg;obtain⟨Da,Db,Dc,Dd,De,Df,Dg,Dh,Di,Dj⟩:=qz5 Aa.out)|((with_reducible refine y18 (f:=4) rfl ?_);refine y21 (some 19) rfl rfl Tryz.func4 (by kernel_rfl) rfl #[.agg #[.slice Bl Ah.length Bm,.int .i64 Al,.string Am,.slice Bn Ai.length Bo,.slice Bp Aj.length Bq],.int .i64 1048576] rfl qy1 ?_;(with_reducible refine(laws_szRule.calls k _ _ Ah Al Am _ _ Ai _ _ Aj 1048576 Bu _ ?side1 ?side2 ?side3 ?side4 ?side5 ?side6 A5.out).mono ?_);(case side1=>repeat(first|exact(Kd.C_below Cb.out HB.out)|(with_reducible refine Kd.C_alloc ?_ _)|(with_reducible refine Kd.C_drewN ?_ _)|(with_reducible refine Kd.C_drew ?_)));(case side2=>exact Cc.out);(case side3=>repeat(first|exact(Kd.C_below Cd.out HB.out)|(with_reducible refine Kd.C_alloc ?_ _)|(with_reducible refine Kd.C_drewN ?_ _)|(with_reducible refine Kd.C_drew ?_)));(case side4=>exact Ce.out);(case side5=>repeat(first|exact(Kd.C_below Cf.out HB.out)|(with_reducible refine Kd.C_alloc ?_ _)|(with_reducible refine Kd.C_drewN ?_ _)|(with_reducible refine Kd.C_drew ?_)));(case side6=>exact Cg.out);rintro e Cl ⟨rfl,hb⟩;refine⟨_,rfl, ?_⟩;replace Aa:=y0.mk (qK Aa.out hb);replace HB:=y0.mk (y5 qb hb);(try clear hb))|((with_reducible refine y18 (f:=5) rfl ?_);refine y21 (some 24) rfl rfl Tryz.func5 (by kernel_rfl) rfl #[.slice A2 l2.length c2,.int .i64 Bu] rfl qy1 ?_;(with_reducible refine(laws_szStringS.calls k _ _ l2 Bu Ch _ ?side1 ?side2 Ia.out).mono ?_);(case side1=>repeat(first|exact(Kd.C_below Ge.out HB.out)|(with_reducible refine Kd.C_alloc ?_ _)|(with_reducible refine Kd.C_drewN ?_ _)|(with_reducible refine Kd.C_drew ?_)));(case side2=>exact Gf.out);rintro e w' ⟨rfl,⟨nd,rfl⟩⟩;refine⟨_,rfl, ?_⟩;(try(rw [drewN_self Cl];have e1_:∀(n_:Nat) (a_:Addr),World.cell? Cl a_=World.cell? (World.drewN Cl n_) a_:=fun _ _=>rfl;have e2_:∀(n_:Nat) (a_:Addr),World.frozen? Cl a_=World.frozen? (World.drewN Cl n_) a_:=fun _ _=>rfl;generalize hq_:World.drewN Cl _=Cl;have e3_:=(fun a_=>(e1_ _ a_).trans (congrArg (fun w_=>World.cell? w_ a_) hq_));have e4_:=(fun a_=>(e2_ _ a_).trans (congrArg (fun w_=>World.frozen? w_ a_) hq_));clear e1_ e2_;skip;clear e3_ e4_;have n0_:y0 (Cl.heap[Bk]?=some (.cells #[.slice Bl Ah.length Bm,.int .i64 Al,.string Am,.slice Bn Ai.length Bo,.slice Bp Aj.length Bq] 28 (0,0))):=⟨by rw [← hq_];exact(qk Aa.out)⟩;have n1_:y0 (Below w.heap.size w Cl):=⟨by rw [← hq_];exact qb⟩;clear Aa HB hq_;have Aa:=n0_;have HB:=n1_;clear n0_ n1_)))|((with_reducible refine y18 (f:=5) rfl ?_);refine y21 (some 29) rfl rfl Tryz.func5 (by kernel_rfl) rfl #[.slice A3 l3.length c3,.int .i64 Ch] rfl qy1 ?_;(with_reducible refine(laws_szStringS.calls k _ _ l3 Ch Ct _ ?side1 ?side2 Jq.out).mono ?_);(case side1=>repeat(first|exact(Kd.C_below Gi.out HB.out)|(with_reducible refine Kd.C_alloc ?_ _)|(with_reducible refine Kd.C_drewN ?_ _)|(with_reducible refine Kd.C_drew ?_)));(case side2=>exact Gj.out);rintro e w' ⟨rfl,⟨nd,rfl⟩⟩;refine⟨_,rfl, ?_⟩;(try(rw [drewN_self Cl];have e1_:∀(n_:Nat) (a_:Addr),World.cell? Cl a_=World.cell? (World.drewN Cl n_) a_:=fun _ _=>rfl;have e2_:∀(n_:Nat) (a_:Addr),World.frozen? Cl a_=World.frozen? (World.drewN Cl n_) a_:=fun _ _=>rfl;generalize hq_:World.drewN Cl _=Cl;have e3_:=(fun a_=>(e1_ _ a_).trans (congrArg (fun w_=>World.cell? w_ a_) hq_));have e4_:=(fun a_=>(e2_ _ a_).trans (congrArg (fun w_=>World.frozen? w_ a_) hq_));clear e1_ e2_;skip;clear e3_ e4_;have n0_:y0 (Cl.heap[Bk]?=some (.cells #[.slice Bl Ah.length Bm,.int .i64 Al,.string Am,.slice Bn Ai.length Bo,.slice Bp Aj.length Bq] 28 (0,0))):=⟨by rw [← hq_];exact(qk Aa.out)⟩;have n1_:y0 (Below w.heap.size w Cl):=⟨by rw [← hq_];exact qb⟩;clear Aa HB hq_;have Aa:=n0_;have HB:=n1_;clear n0_ n1_));obtain⟨Dk,Dl,Dm,Do,Dp,Dq,Dr,Ds,Dt,Du⟩:=qz5 Aa.out)|((with_reducible refine y18 (f:=7) rfl ?_);refine y21 (some 34) rfl rfl Tryz.func7 (by kernel_rfl) rfl #[.agg #[.slice Bl Ah.length Bm,.int .i64 Al,.string Am,.slice Bn Ai.length Bo,.slice Bp Aj.length Bq]] rfl qy1 ?_;(with_reducible refine(laws_toRule.calls k _ _ Ah Al Am _ _ Ai _ _ Aj Fp Fq Fr Fs Ft _ ?side1 ?side2 ?side3 ?side4 ?side5 ?side6 Jx.out).mono ?_);(case side1=>repeat(first|exact(Kd.C_below Cb.out HB.out)|(with_reducible refine Kd.C_alloc ?_ _)|(with_reducible refine Kd.C_drewN ?_ _)|(with_reducible refine Kd.C_drew ?_)));(case side2=>exact Cc.out);(case side3=>repeat(first|exact(Kd.C_below Cd.out HB.out)|(with_reducible refine Kd.C_alloc ?_ _)|(with_reducible refine Kd.C_drewN ?_ _)|(with_reducible refine Kd.C_drew ?_)));(case side4=>exact Ce.out);(case side5=>repeat(first|exact(Kd.C_below Cf.out HB.out)|(with_reducible refine Kd.C_alloc ?_ _)|(with_reducible refine Kd.C_drewN ?_ _)|(with_reducible refine Kd.C_drew ?_)));(case side6=>exact Cg.out);rintro e Lj ⟨Kh,Ki,Kj,rfl,Bh,Co,Cz,hb⟩;refine⟨_,rfl, ?_⟩;have Ap:=y0.mk (Kd.S_lower Bh (y4 qb));have Ak:=y0.mk (Kd.R_lower Co (y4 qb));have Aq:=y0.mk (Kd.S_lower Cz (y4 qb));replace Aa:=y0.mk (qK Aa.out hb);replace HB:=y0.mk (y5 qb hb);(try clear hb);(try clear Bh);(try clear Co);(try clear Cz))|((with_reducible refine y18 (f:=8) rfl ?_);refine y21 (some 37) rfl rfl Tryz.func8 (by kernel_rfl) rfl #[.slice A2 l2.length c2] rfl qy1 ?_;(with_reducible refine(laws_toStringS.calls k _ _ l2 Cu _ ?side1 ?side2 Jy.out).mono ?_);(case side1=>repeat(first|exact(Kd.C_below Ge.out HB.out)|(with_reducible refine Kd.C_alloc ?_ _)|(with_reducible refine Kd.C_drewN ?_ _)|(with_reducible refine Kd.C_drew ?_)));(case side2=>exact Gf.out);rintro e Lk ⟨Kk,rfl,Bh,hb⟩;refine⟨_,rfl, ?_⟩;replace Ap:=y0.mk (Kd.S_below (qS Ap.out) hb);replace Ak:=y0.mk (Kd.R_below (qR Ak.out) hb);replace Aq:=y0.mk (Kd.S_below (qS Aq.out) hb);have Ar:=y0.mk (Kd.R_lower Bh (y4 qb));replace Aa:=y0.mk (qK Aa.out hb);replace HB:=y0.mk (y5 qb hb);(try clear hb);(try clear Bh))|((with_reducible refine y18 (f:=8) rfl ?_);refine y21 (some 39) rfl rfl Tryz.func8 (by kernel_rfl) rfl #[.slice A3 l3.length c3] rfl qy1 ?_;(with_reducible refine(laws_toStringS.calls k _ _ l3 Cv _ ?side1 ?side2 Jz.out).mono ?_);(case side1=>repeat(first|exact(Kd.C_below Gi.out HB.out)|(with_reducible refine Kd.C_alloc ?_ _)|(with_reducible refine Kd.C_drewN ?_ _)|(with_reducible refine Kd.C_drew ?_)));(case side2=>exact Gj.out);rintro e Ll ⟨Kl,rfl,Bh,hb⟩;refine⟨_,rfl, ?_⟩;replace Ap:=y0.mk (Kd.S_below (qS Ap.out) hb);replace Ak:=y0.mk (Kd.R_below (qR Ak.out) hb);replace Aq:=y0.mk (Kd.S_below (qS Aq.out) hb);have As:=y0.mk (Kd.R_lower (Kd.R_new' Bh (Kd.R_lt (qR Ar.out))) (y4 qb));replace Ar:=y0.mk (Kd.R_elder' (qR Ar.out) (Kd.R_base Bh) hb);replace Aa:=y0.mk (qK Aa.out hb);replace HB:=y0.mk (y5 qb hb);(try clear hb);(try clear Bh);obtain⟨Ib,Ic,Id⟩:=Kd.S_slice Ap.out;subst Id;obtain⟨Ie,If,Ig⟩:=Kd.R_slice Ak.out;subst Ig;obtain⟨Ih,Ii,Ij⟩:=Kd.S_slice Aq.out;subst Ij;obtain⟨Ik,Il,Im⟩:=Kd.R_slice Ar.out;subst Im;obtain⟨Io,Ip,Iq⟩:=Kd.R_slice As.out;subst Iq)|((with_reducible refine y18 (f:=6) rfl ?_);refine y21 (some 40) rfl rfl Tryz.func6 (by kernel_rfl) rfl #[.agg #[.slice Ib Fp.length Ic,.int .i64 Fq,.string Fr,.slice Ie Fs.length If,.slice Ih Ft.length Ii],.int .i64 a1,.slice Ik Cu.length Il,.slice Io Cv.length Ip] rfl qy1 ?_;(with_reducible refine(spec_ExpValue.calls k _ _ Fp Fq Fr _ _ Fs _ _ Ft a1 _ _ Cu _ _ Cv Cp Gl _ ?side1 ?side2 ?side3 ?side4 ?side5 ?side6 ?side7 ?side8 ?side9 ?side10 Ka.out).mono ?_);(case side1=>repeat(first|exact(Kd.S_reads' Ap.out).2.2|(with_reducible refine Kd.C_alloc ?_ _)|(with_reducible refine Kd.C_drewN ?_ _)|(with_reducible refine Kd.C_drew ?_)));(case side2=>exact(Kd.S_reads' Ap.out).2.1);(case side3=>repeat(first|exact(Kd.R_reads' Ak.out).2.2|(with_reducible refine Kd.C_alloc ?_ _)|(with_reducible refine Kd.C_drewN ?_ _)|(with_reducible refine Kd.C_drew ?_)));(case side4=>exact(Kd.R_reads' Ak.out).2.1);(case side5=>repeat(first|exact(Kd.S_reads' Aq.out).2.2|(with_reducible refine Kd.C_alloc ?_ _)|(with_reducible refine Kd.C_drewN ?_ _)|(with_reducible refine Kd.C_drew ?_)));(case side6=>exact(Kd.S_reads' Aq.out).2.1);(case side7=>repeat(first|exact(Kd.R_reads' Ar.out).2.2|(with_reducible refine Kd.C_alloc ?_ _)|(with_reducible refine Kd.C_drewN ?_ _)|(with_reducible refine Kd.C_drew ?_)));(case side8=>exact(Kd.R_reads' Ar.out).2.1);(case side9=>repeat(first|exact(Kd.R_reads' As.out).2.2|(with_reducible refine Kd.C_alloc ?_ _)|(with_reducible refine Kd.C_drewN ?_ _)|(with_reducible refine Kd.C_drew ?_)));(case side10=>exact(Kd.R_reads' As.out).2.1);rintro e Lm ⟨rfl,hb⟩;refine⟨_,rfl, ?_⟩;replace Ap:=y0.mk (Kd.S_below (qS Ap.out) hb);replace Ak:=y0.mk (Kd.R_below (qR Ak.out) hb);replace Aq:=y0.mk (Kd.S_below (qS Aq.out) hb);replace Ar:=y0.mk (Kd.R_below (qR Ar.out) hb);replace As:=y0.mk (Kd.R_below (qR As.out) hb);replace Aa:=y0.mk (qK Aa.out hb);replace HB:=y0.mk (y5 qb hb);(try clear hb);obtain⟨Dv,Dw,Dx,Dy,Dz,Ea,Eb,Ec,Ed,Ee⟩:=qz5 Aa.out)|((with_reducible refine y18 (f:=7) rfl ?_);refine y21 (some 44) rfl rfl Tryz.func7 (by kernel_rfl) rfl #[.agg #[.slice Bl Ah.length Bm,.int .i64 Al,.string Am,.slice Bn Ai.length Bo,.slice Bp Aj.length Bq]] rfl qy1 ?_;(with_reducible refine(laws_toRule.calls k _ _ Ah Al Am _ _ Ai _ _ Aj At Az Ba Au Bb _ ?side1 ?side2 ?side3 ?side4 ?side5 ?side6 Kb.out).mono ?_);(case side1=>repeat(first|exact(Kd.C_below Cb.out HB.out)|(with_reducible refine Kd.C_alloc ?_ _)|(with_reducible refine Kd.C_drewN ?_ _)|(with_reducible refine Kd.C_drew ?_)));(case side2=>exact Cc.out);(case side3=>repeat(first|exact(Kd.C_below Cd.out HB.out)|(with_reducible refine Kd.C_alloc ?_ _)|(with_reducible refine Kd.C_drewN ?_ _)|(with_reducible refine Kd.C_drew ?_)));(case side4=>exact Ce.out);(case side5=>repeat(first|exact(Kd.C_below Cf.out HB.out)|(with_reducible refine Kd.C_alloc ?_ _)|(with_reducible refine Kd.C_drewN ?_ _)|(with_reducible refine Kd.C_drew ?_)));(case side6=>exact Cg.out);rintro e Ln ⟨Km,Kn,Ko,rfl,Bh,Co,Cz,hb⟩;refine⟨_,rfl, ?_⟩;replace Ar:=y0.mk (Kd.R_below (qR Ar.out) hb);replace As:=y0.mk (Kd.R_below (qR As.out) hb);have Bc:=y0.mk (Kd.S_lower (Kd.S_new' (Kd.S_new' Bh (Kd.S_lt (qS Ap.out))) (Kd.R_lt (qR Ak.out))) (y4 qb));replace Ap:=y0.mk (Kd.S_mono (Kd.S_told (Kd.S_told (Kd.S_old (qS Ap.out) hb) (Kd.S_base Bh)) (Kd.R_base Co)) (fun _ h_=>h_.1));have Bd:=y0.mk (Kd.R_lower (Kd.R_new' Co (Kd.R_lt (qR Ak.out))) (y4 qb));have Be:=y0.mk (Kd.S_lower (Kd.S_new' (Kd.S_new' Cz (Kd.R_lt (qR Ak.out))) (Kd.S_lt (qS Aq.out))) (y4 qb));replace Ak:=y0.mk (Kd.R_elder' (qR Ak.out) (Kd.R_base Co) hb);replace Aq:=y0.mk (Kd.S_mono (Kd.S_told (Kd.S_told (Kd.S_old (qS Aq.out) hb) (Kd.R_base Co)) (Kd.S_base Cz)) (fun _ h_=>h_.1));replace Aa:=y0.mk (qK Aa.out hb);replace HB:=y0.mk (y5 qb hb);(try clear hb);(try clear Bh);(try clear Co);(try clear Cz))|((with_reducible refine y19 (N:=12) rfl ?_);refine qe 12 #[.slice none 0 0,.int .i64 0,.string (⟨#[]⟩:ByteArray),.slice none 0 0,.slice none 0 0] 38 ?_;intro Ab hg Lo hbox hb;replace Ap:=y0.mk (Kd.S_below (qS Ap.out) hb);replace Ak:=y0.mk (Kd.R_below (qR Ak.out) hb);replace Aq:=y0.mk (Kd.S_below (qS Aq.out) hb);replace Ar:=y0.mk (Kd.R_below (qR Ar.out) hb);replace As:=y0.mk (Kd.R_below (qR As.out) hb);replace Bc:=y0.mk (Kd.S_below (qS Bc.out) hb);replace Bd:=y0.mk (Kd.R_below (qR Bd.out) hb);replace Be:=y0.mk (Kd.S_below (qS Be.out) hb);have Ac:=y0.mk (hbox);have Jr:=y0.mk (qg (w:=w) hg);have Js:=y0.mk (qg (w:=w) hg);replace HB:=y0.mk (y5 qb hb);have Av:=y0.mk (qn Aa.out hg);have Cr:=y0.mk (qm Aa.out hg);replace Aa:=y0.mk (qK Aa.out hb);clear hb hbox hg;obtain⟨Bf,Bg,Ir⟩:=Kd.S_slice Bc.out;subst Ir;have Jt:=Cr.out;have Ju:=Av.out;obtain⟨Ef,Eg,Eh,Ei,Ej,Ek,El,Em,En,Eo⟩:=qz5 Ac.out;obtain⟨Bi,Bj,Is⟩:=Kd.R_slice Bd.out;subst Is;obtain⟨Br,Bs,Iu⟩:=Kd.S_slice Be.out;subst Iu)|((with_reducible refine y18 (f:=8) rfl ?_);refine y21 (some 46) rfl rfl Tryz.func8 (by kernel_rfl) rfl #[.slice A2 l2.length c2] rfl qy1 ?_;(with_reducible refine(laws_toStringS.calls k _ _ l2 Bz _ ?side1 ?side2 Ke.out).mono ?_);(case side1=>exact Kd.C_below Ge.out qb);(case side2=>exact Gf.out);rintro e Lp ⟨Kp,rfl,Bh,hb⟩;refine⟨_,rfl, ?_⟩;replace Ap:=y0.mk (Kd.S_below (qS ((Kd.S_mono (Kd.S_far (p:=⟨Ab,4,none⟩) (Kd.S_far (p:=⟨Ab,3,none⟩) (qfS Ab (Kd.S_types Ap.out Ac.out (by decide)) (.slice Bf At.length Bg) (.int .i64 Az) (.string Ba)) (fun _ hk=>hk.2) (.slice Bi Au.length Bj)) (fun _ hk=>hk.2) (.slice Br Bb.length Bs)) (fun _ h_=>h_.1)))) hb);replace Ak:=y0.mk (Kd.R_below (qR ((Kd.R_mono (Kd.R_far (p:=⟨Ab,4,none⟩) (Kd.R_far (p:=⟨Ab,3,none⟩) (qfR Ab (Kd.R_types Ak.out Ac.out (by decide)) (.slice Bf At.length Bg) (.int .i64 Az) (.string Ba)) (fun _ hk=>hk.2) (.slice Bi Au.length Bj)) (fun _ hk=>hk.2) (.slice Br Bb.length Bs)) (fun _ h_=>h_.1)))) hb);replace Aq:=y0.mk (Kd.S_below (qS ((Kd.S_mono (Kd.S_far (p:=⟨Ab,4,none⟩) (Kd.S_far (p:=⟨Ab,3,none⟩) (qfS Ab (Kd.S_types Aq.out Ac.out (by decide)) (.slice Bf At.length Bg) (.int .i64 Az) (.string Ba)) (fun _ hk=>hk.2) (.slice Bi Au.length Bj)) (fun _ hk=>hk.2) (.slice Br Bb.length Bs)) (fun _ h_=>h_.1)))) hb);replace Bc:=y0.mk (Kd.S_below (qS ((Kd.S_mono (Kd.S_far (p:=⟨Ab,4,none⟩) (Kd.S_far (p:=⟨Ab,3,none⟩) (qfS Ab (Kd.S_types Bc.out Ac.out (by decide)) (.slice Bf At.length Bg) (.int .i64 Az) (.string Ba)) (fun _ hk=>hk.2) (.slice Bi Au.length Bj)) (fun _ hk=>hk.2) (.slice Br Bb.length Bs)) (fun _ h_=>h_.1)))) hb);replace Bd:=y0.mk (Kd.R_below (qR ((Kd.R_mono (Kd.R_far (p:=⟨Ab,4,none⟩) (Kd.R_far (p:=⟨Ab,3,none⟩) (qfR Ab (Kd.R_types Bd.out Ac.out (by decide)) (.slice Bf At.length Bg) (.int .i64 Az) (.string Ba)) (fun _ hk=>hk.2) (.slice Bi Au.length Bj)) (fun _ hk=>hk.2) (.slice Br Bb.length Bs)) (fun _ h_=>h_.1)))) hb);replace Be:=y0.mk (Kd.S_below (qS ((Kd.S_mono (Kd.S_far (p:=⟨Ab,4,none⟩) (Kd.S_far (p:=⟨Ab,3,none⟩) (qfS Ab (Kd.S_types Be.out Ac.out (by decide)) (.slice Bf At.length Bg) (.int .i64 Az) (.string Ba)) (fun _ hk=>hk.2) (.slice Bi Au.length Bj)) (fun _ hk=>hk.2) (.slice Br Bb.length Bs)) (fun _ h_=>h_.1)))) hb);have Bt:=y0.mk (Kd.R_lower (Kd.R_new' (Kd.R_new' Bh (Kd.R_lt (qR ((Kd.R_mono (Kd.R_far (p:=⟨Ab,4,none⟩) (Kd.R_far (p:=⟨Ab,3,none⟩) (qfR Ab (Kd.R_types Ar.out Ac.out (by decide)) (.slice Bf At.length Bg) (.int .i64 Az) (.string Ba)) (fun _ hk=>hk.2) (.slice Bi Au.length Bj)) (fun _ hk=>hk.2) (.slice Br Bb.length Bs)) (fun _ h_=>h_.1)))))) (Kd.R_lt (qR ((Kd.R_mono (Kd.R_far (p:=⟨Ab,4,none⟩) (Kd.R_far (p:=⟨Ab,3,none⟩) (qfR Ab (Kd.R_types As.out Ac.out (by decide)) (.slice Bf At.length Bg) (.int .i64 Az) (.string Ba)) (fun _ hk=>hk.2) (.slice Bi Au.length Bj)) (fun _ hk=>hk.2) (.slice Br Bb.length Bs)) (fun _ h_=>h_.1)))))) (y4 qb));replace Ar:=y0.mk (Kd.R_elder' (qR ((Kd.R_mono (Kd.R_far (p:=⟨Ab,4,none⟩) (Kd.R_far (p:=⟨Ab,3,none⟩) (qfR Ab (Kd.R_types Ar.out Ac.out (by decide)) (.slice Bf At.length Bg) (.int .i64 Az) (.string Ba)) (fun _ hk=>hk.2) (.slice Bi Au.length Bj)) (fun _ hk=>hk.2) (.slice Br Bb.length Bs)) (fun _ h_=>h_.1)))) (Kd.R_base Bh) hb);replace As:=y0.mk (Kd.R_elder' (qR ((Kd.R_mono (Kd.R_far (p:=⟨Ab,4,none⟩) (Kd.R_far (p:=⟨Ab,3,none⟩) (qfR Ab (Kd.R_types As.out Ac.out (by decide)) (.slice Bf At.length Bg) (.int .i64 Az) (.string Ba)) (fun _ hk=>hk.2) (.slice Bi Au.length Bj)) (fun _ hk=>hk.2) (.slice Br Bb.length Bs)) (fun _ h_=>h_.1)))) (Kd.R_base Bh) hb);replace Aa:=y0.mk (y7 (g:=Bk) (o:=.cells #[.slice Bl Ah.length Bm,.int .i64 Al,.string Am,.slice Bn Ai.length Bo,.slice Bp Aj.length Bq] 28 (0,0)) (by(with_reducible repeat(first|refine y10 ?_ _|refine y9 ?_|refine y6 ?_ _));refine y11 ?_ Av.out _;refine y11 ?_ Av.out _;refine y11 ?_ Av.out _;refine y11 ?_ Av.out _;refine y11 ?_ Av.out _;(with_reducible repeat(first|refine y10 ?_ _|refine y9 ?_|refine y6 ?_ _));exact Aa.out) hb);replace Ac:=y0.mk (y7 (g:=Ab) (o:=.cells #[.slice Bf At.length Bg,.int .i64 Az,.string Ba,.slice Bi Au.length Bj,.slice Br Bb.length Bs] 38 (0,0)) (by(with_reducible repeat(first|refine y10 ?_ _|refine y9 ?_|refine y6 ?_ _));refine y13 (cs:=#[.slice Bf At.length Bg,.int .i64 Az,.string Ba,.slice Bi Au.length Bj,.slice none 0 0]) ?_ 4 _ rfl;refine y13 (cs:=#[.slice Bf At.length Bg,.int .i64 Az,.string Ba,.slice none 0 0,.slice none 0 0]) ?_ 3 _ rfl;refine y13 (cs:=#[.slice Bf At.length Bg,.int .i64 Az,.string (⟨#[]⟩:ByteArray),.slice none 0 0,.slice none 0 0]) ?_ 2 _ rfl;refine y13 (cs:=#[.slice Bf At.length Bg,.int .i64 0,.string (⟨#[]⟩:ByteArray),.slice none 0 0,.slice none 0 0]) ?_ 1 _ rfl;refine y13 (cs:=#[.slice none 0 0,.int .i64 0,.string (⟨#[]⟩:ByteArray),.slice none 0 0,.slice none 0 0]) ?_ 0 _ rfl;(with_reducible repeat(first|refine y10 ?_ _|refine y9 ?_|refine y6 ?_ _));exact Ac.out) hb);replace HB:=y0.mk (y5 qb hb);(try clear hb);(try clear Lq);(try clear hk);(try clear hi);(try clear Bh))|((with_reducible refine y18 (f:=8) rfl ?_);refine y21 (some 48) rfl rfl Tryz.func8 (by kernel_rfl) rfl #[.slice A3 l3.length c3] rfl qy1 ?_;(with_reducible refine(laws_toStringS.calls k _ _ l3 Ca _ ?side1 ?side2 Kf.out).mono ?_);(case side1=>repeat(first|exact(Kd.C_below Gi.out HB.out)|(with_reducible refine Kd.C_alloc ?_ _)|(with_reducible refine Kd.C_drewN ?_ _)|(with_reducible refine Kd.C_drew ?_)));(case side2=>exact Gj.out);rintro e Lr ⟨Kq,rfl,Bh,hb⟩;refine⟨_,rfl, ?_⟩;replace Ap:=y0.mk (Kd.S_below (qS Ap.out) hb);replace Ak:=y0.mk (Kd.R_below (qR Ak.out) hb);replace Aq:=y0.mk (Kd.S_below (qS Aq.out) hb);replace Bc:=y0.mk (Kd.S_below (qS Bc.out) hb);replace Bd:=y0.mk (Kd.R_below (qR Bd.out) hb);replace Be:=y0.mk (Kd.S_below (qS Be.out) hb);have Ci:=y0.mk (Kd.R_lower (Kd.R_new' (Kd.R_new' (Kd.R_new' Bh (Kd.R_lt (qR Ar.out))) (Kd.R_lt (qR As.out))) (Kd.R_lt (qR Bt.out))) (y4 qb));replace Ar:=y0.mk (Kd.R_elder' (qR Ar.out) (Kd.R_base Bh) hb);replace As:=y0.mk (Kd.R_elder' (qR As.out) (Kd.R_base Bh) hb);replace Bt:=y0.mk (Kd.R_elder' (qR Bt.out) (Kd.R_base Bh) hb);replace Aa:=y0.mk (qK Aa.out hb);replace Ac:=y0.mk (qK Ac.out hb);replace HB:=y0.mk (y5 qb hb);(try clear hb);(try clear Bh);obtain⟨Ep,Er,Es,Et,Eu,Ew,Ex,Ey,Ez,Fa⟩:=qz5 Ac.out;obtain⟨Fb,Fc,Iv⟩:=Kd.R_slice Bt.out;subst Iv;obtain⟨Fd,Fe,Iw⟩:=Kd.R_slice Ci.out;subst Iw)|((with_reducible refine y18 (f:=9) rfl ?_);refine y21 (some 54) rfl rfl Tryz.func9 (by kernel_rfl) rfl #[.agg #[.slice Bf At.length Bg,.int .i64 Az,.string Ba,.slice Bi Au.length Bj,.slice Br Bb.length Bs],.int .i64 a1,.slice Fb Bz.length Fc,.slice Fd Ca.length Fe] rfl qy1 ?_;(with_reducible refine(impl_ExpValue.calls k _ _ At Az Ba _ _ Au _ _ Bb a1 _ _ Bz _ _ Ca Cq Gm _ ?side1 ?side2 ?side3 ?side4 ?side5 ?side6 ?side7 ?side8 ?side9 ?side10 ?side11 Kg.out).mono ?_);(case side1=>repeat(first|exact(Kd.S_reads' Bc.out).2.2|(with_reducible refine Kd.C_alloc ?_ _)|(with_reducible refine Kd.C_drewN ?_ _)|(with_reducible refine Kd.C_drew ?_)));(case side2=>exact(Kd.S_reads' Bc.out).2.1);(case side3=>repeat(first|exact(Kd.R_reads' Bd.out).2.2|(with_reducible refine Kd.C_alloc ?_ _)|(with_reducible refine Kd.C_drewN ?_ _)|(with_reducible refine Kd.C_drew ?_)));(case side4=>exact(Kd.R_reads' Bd.out).2.1);(case side5=>repeat(first|exact(Kd.S_reads' Be.out).2.2|(with_reducible refine Kd.C_alloc ?_ _)|(with_reducible refine Kd.C_drewN ?_ _)|(with_reducible refine Kd.C_drew ?_)));(case side6=>exact(Kd.S_reads' Be.out).2.1);(case side7=>repeat(first|exact(Kd.R_reads' Bt.out).2.2|(with_reducible refine Kd.C_alloc ?_ _)|(with_reducible refine Kd.C_drewN ?_ _)|(with_reducible refine Kd.C_drew ?_)));(case side8=>exact(Kd.R_reads' Bt.out).2.1);(case side9=>repeat(first|exact(Kd.R_reads' Ci.out).2.2|(with_reducible refine Kd.C_alloc ?_ _)|(with_reducible refine Kd.C_drewN ?_ _)|(with_reducible refine Kd.C_drew ?_)));(case side10=>exact(Kd.R_reads' Ci.out).2.1);(case side11=>exact Tb.below hT.out qb);rintro e Ls ⟨rfl,hb⟩;refine⟨_,rfl, ?_⟩;replace Ap:=y0.mk (Kd.S_below (qS Ap.out) hb);replace Ak:=y0.mk (Kd.R_below (qR Ak.out) hb);replace Aq:=y0.mk (Kd.S_below (qS Aq.out) hb);replace Ar:=y0.mk (Kd.R_below (qR Ar.out) hb);replace As:=y0.mk (Kd.R_below (qR As.out) hb);replace Bc:=y0.mk (Kd.S_below (qS Bc.out) hb);replace Bd:=y0.mk (Kd.R_below (qR Bd.out) hb);replace Be:=y0.mk (Kd.S_below (qS Be.out) hb);replace Bt:=y0.mk (Kd.R_below (qR Bt.out) hb);replace Ci:=y0.mk (Kd.R_below (qR Ci.out) hb);replace Aa:=y0.mk (qK Aa.out hb);replace Ac:=y0.mk (qK Ac.out hb);replace HB:=y0.mk (y5 qb hb);(try clear hb)))
    (try simp only [Act.put,qS_,qZ_,qC_])
    go_cut [64] (fun Kr wc=>∃(kq:Nat) (Ck:Bool),Kr=.bool Ck∧y0 (laws_FnExactExpValue.j0 kq l2 l3 Bz Ca Ck Ah Al Am Ai Aj At Az Ba Au Bb=some r)∧y0 (kq≤k)∧y0 (Kd.R Kd.string 9 wc w.heap.size (fun k_=>some k_≠((.slice Fd Ca.length Fe):Value).ownBlock) (.slice Fb Bz.length Fc) Bz)∧y0 (Kd.R Kd.string 9 wc w.heap.size (fun k_=>some k_≠((.slice Fb Bz.length Fc):Value).ownBlock) (.slice Fd Ca.length Fe) Ca)∧y0 (Kd.S k67 67 wc w.heap.size (fun k_=>some k_≠((.slice Bi Au.length Bj):Value).ownBlock) (.slice Bf At.length Bg) At)∧y0 (Kd.R (Kd.int .i64) 3 wc w.heap.size (fun _=>True) (.slice Bi Au.length Bj) Au)∧y0 (Kd.S k35 35 wc w.heap.size (fun k_=>some k_≠((.slice Bi Au.length Bj):Value).ownBlock) (.slice Br Bb.length Bs) Bb)∧y0 (wc.heap[Bk]?=some (.cells #[(.slice Bl Ah.length Bm),.int .i64 Al,.string Am,(.slice Bn Ai.length Bo),(.slice Bp Aj.length Bq)] 28 (0,0)))∧y0 (wc.heap[Ab]?=some (.cells #[(.slice Bf At.length Bg),.int .i64 Az,.string Ba,(.slice Bi Au.length Bj),(.slice Br Bb.length Bs)] 38 (0,0)))∧y0 (Below w.heap.size w wc))
    case first =>
     have H:=Fu.out
     clear Fu
     by_cases Fv:Cq.toList=Cp.toList
     ·rw [if_pos Fv]at H
      have Cn:(Cq.toList == Cp.toList)=true:=beq_iff_eq.mpr Fv
      have Gn:(Cq.toList != Cp.toList)=false:=bne_eq_false_iff_eq.mpr Fv
      clear Fv
      (first|rw [Cn]|(simp only [i64_w,i32_w];rw [Cn])|skip)
      have H':=y0.mk H
      clear H
      go_wp2
      go_meet
      exact⟨_,((Gm != Gl)),qy2,H',⟨by first|omega|exact Nat.le_refl _⟩,⟨qR (Kd.R_mono Bt.out (fun _ hk=>hk.2))⟩,⟨qR (Kd.R_mono Ci.out (fun _ hk=>hk.2))⟩,⟨qS (Kd.S_mono Bc.out (fun _ hk=>hk.1.1))⟩,⟨qR (Kd.R_mono Bd.out (fun _ hk=>trivial))⟩,⟨qS (Kd.S_mono Be.out (fun _ hk=>hk.1.1))⟩,⟨qk Aa.out⟩,⟨qk Ac.out⟩,⟨qb⟩⟩
     ·rw [if_neg Fv]at H
      have Cn:(Cq.toList == Cp.toList)=false:=beq_eq_false_iff_ne.mpr Fv
      have Gn:(Cq.toList != Cp.toList)=true:=bne_iff_ne.mpr Fv
      (first|rw [Cn]|(simp only [i64_w,i32_w];rw [Cn])|skip)
      have H':=y0.mk H
      clear H
      go_wp2
      go_meet
      exact⟨_,(true),qy2,H',⟨by first|omega|exact Nat.le_refl _⟩,⟨qR (Kd.R_mono Bt.out (fun _ hk=>hk.2))⟩,⟨qR (Kd.R_mono Ci.out (fun _ hk=>hk.2))⟩,⟨qS (Kd.S_mono Bc.out (fun _ hk=>hk.1.1))⟩,⟨qR (Kd.R_mono Bd.out (fun _ hk=>trivial))⟩,⟨qS (Kd.S_mono Be.out (fun _ hk=>hk.1.1))⟩,⟨qk Aa.out⟩,⟨qk Ac.out⟩,⟨qb⟩⟩
    case rest =>
     clear Fu
     (try clear Gk Fn Fo Da Db Dc Dd De Dk Dl Dm Do Dp Dv Dw Dx Dy Dz Ef Eg Eh Ei Ej Ep Er Es Et Eu Df Dg Dh Di Dj Dq Dr Ds Dt Du Ea Eb)
     (try clear Ec Ed Ee Ek El Em En Eo Ew Ex Ey Ez Fa)
     obtain⟨kq,Ck,rfl,HA,Ks,Ax,Ay,Af,Ad,Ag,Aa,Ac,HB⟩:=hcut
     cases kq with
     | zero=>exact absurd HA.out (by simp [laws_FnExactExpValue.j0])
     | succ Cs =>
      have H:=HA.out
      clear HA
      simp only [laws_FnExactExpValue.j0]at H
      by_cases Hm:Ck=true
      ·subst Hm
       replace H:=qT H
       exact absurd ((Option.some.inj H).trans htrue_) (by decide)
      ·replace Hm:=Bool.eq_false_iff.mpr Hm
       subst Hm
       replace H:=qF H
       obtain⟨⟨Fx,Fy,Fz,Ga,Gb⟩,Kt,H⟩:=qB H
       dsimp only at H
       obtain⟨Ix,Ku,H⟩:=qB H
       by_cases Hn:Ix=true
       ·subst Hn
        replace H:=qT H
        obtain⟨Gc,Kv,H⟩:=qB H
        obtain⟨Iy,Kw,H⟩:=qB H
        by_cases Ho:Iy=true
        ·subst Ho
         replace H:=qT H
         obtain⟨Gd,Kx,H⟩:=qB H
         obtain⟨Iz,Ky,H⟩:=qB H
         by_cases Hp:Iz=true
         ·subst Hp
          replace H:=qT H
          obtain rfl:=Option.some.inj H
          try go_wp2
          replace Ax:=y0.mk (Kd.R_drew Ax.out)
          replace Ay:=y0.mk (Kd.R_drew Ay.out)
          replace Af:=y0.mk (Kd.S_drew Af.out)
          replace Ad:=y0.mk (Kd.R_drew Ad.out)
          replace Ag:=y0.mk (Kd.S_drew Ag.out)
          replace Aa:=y0.mk (y9 Aa.out)
          replace Ac:=y0.mk (y9 Ac.out)
          replace HB:=y0.mk (below_drew1 HB.out)
          refine start_ (n:=5) (S:=fun w'=>w'.cell? ⟨Ab,0,none⟩=some (.slice Bf At.length Bg)∧w'.cell? ⟨Ab,1,none⟩=some (.int .i64 Az)∧w'.cell? ⟨Ab,2,none⟩=some (.string Ba)∧w'.cell? ⟨Ab,3,none⟩=some (.slice Bi Au.length Bj)∧w'.cell? ⟨Ab,4,none⟩=some (.slice Br Bb.length Bs)∧w'.cell? ⟨Bk,0,none⟩=some (.slice Bl Ah.length Bm)∧w'.cell? ⟨Bk,1,none⟩=some (.int .i64 Al)∧w'.cell? ⟨Bk,2,none⟩=some (.string Am)∧w'.cell? ⟨Bk,3,none⟩=some (.slice Bn Ai.length Bo)∧w'.cell? ⟨Bk,4,none⟩=some (.slice Bp Aj.length Bq)) (ds:=[]) #[false,false,false,false,false] (by kernel_rfl) rfl rfl ⟨(y8 Ac.out 0).trans rfl,(y8 Ac.out 1).trans rfl,(y8 Ac.out 2).trans rfl,(y8 Ac.out 3).trans rfl,(y8 Ac.out 4).trans rfl,(y8 Aa.out 0).trans rfl,(y8 Aa.out 1).trans rfl,(y8 Aa.out 2).trans rfl,(y8 Aa.out 3).trans rfl,(y8 Aa.out 4).trans rfl⟩ (fun hHeld=>?_)
          generalize wc.drew=Lt at Ax Ay Af Ad Ag Aa Ac HB hHeld ⊢
          refine qt 0 65 #[true,false,false,false,false] hHeld ?_
          refine qt 1 66 #[true,true,false,false,false] hHeld ?_
          refine qO 2 67 #[true,true,true,false,false] (fun K hK=>?_)
          refine goes_ Tryz.func7 (by kernel_rfl) rfl #[.agg #[.slice Bl Ah.length Bm,.int .i64 Al,.string Am,.slice Bn Ai.length Bo,.slice Bp Aj.length Bq]] (by rfl) rfl rfl qy1 ?_
          with_reducible refine(laws_toRule.calls Cs _ _ Ah Al Am _ _ Ai _ _ Aj Fx Fy Fz Ga Gb _ (qc (Kd.C_below Cb.out HB.out)) Cc.out (qc (Kd.C_below Cd.out HB.out)) Ce.out (qc (Kd.C_below Cf.out HB.out)) Cg.out Kt.out).mono ?_
          rintro e Lu ⟨Kz,La,Lb,rfl,Bh,Co,Cz,hb⟩
          refine⟨_,rfl, ?_⟩
          replace Ax:=y0.mk (Kd.R_below (qR Ax.out) hb)
          replace Ay:=y0.mk (Kd.R_below (qR Ay.out) hb)
          have Bv:=y0.mk (Kd.S_lower (Kd.S_new' (Kd.S_new' Bh (Kd.S_lt (qS Af.out))) (Kd.R_lt (qR Ad.out))) (y4 qb))
          replace Af:=y0.mk (Kd.S_mono (Kd.S_told (Kd.S_told (Kd.S_old (qS Af.out) hb) (Kd.S_base Bh)) (Kd.R_base Co)) (fun _ h_=>h_.1))
          have Bw:=y0.mk (Kd.R_lower (Kd.R_new' Co (Kd.R_lt (qR Ad.out))) (y4 qb))
          have Bx:=y0.mk (Kd.S_lower (Kd.S_new' (Kd.S_new' Cz (Kd.R_lt (qR Ad.out))) (Kd.S_lt (qS Ag.out))) (y4 qb))
          replace Ad:=y0.mk (Kd.R_elder' (qR Ad.out) (Kd.R_base Co) hb)
          replace Ag:=y0.mk (Kd.S_mono (Kd.S_told (Kd.S_told (Kd.S_old (qS Ag.out) hb) (Kd.R_base Co)) (Kd.S_base Cz)) (fun _ h_=>h_.1))
          replace Aa:=y0.mk (qK Aa.out hb)
          replace Ac:=y0.mk (qK Ac.out hb)
          replace HB:=y0.mk (y5 qb hb)
          (try clear hb)
          (try clear Bh)
          (try clear Co)
          (try clear Cz)
          obtain⟨Ja,Jb,Gp⟩:=Kd.S_slice Bv.out
          (first|subst Gp|(injection Gp with f1_ f2_ f3_;have f4_:=f1_.symm;have f5_:=f3_.symm;clear f1_ f2_ f3_;subst f4_;subst f5_))
          obtain⟨Jc,Jd,Gq⟩:=Kd.R_slice Bw.out
          (first|subst Gq|(injection Gq with f1_ f2_ f3_;have f4_:=f1_.symm;have f5_:=f3_.symm;clear f1_ f2_ f3_;subst f4_;subst f5_))
          obtain⟨Je,Jf,Gr⟩:=Kd.S_slice Bx.out
          (first|subst Gr|(injection Gr with f1_ f2_ f3_;have f4_:=f1_.symm;have f5_:=f3_.symm;clear f1_ f2_ f3_;subst f4_;subst f5_))
          refine hK.out _ _ ⟨(y8 Ac.out 0).trans rfl,(y8 Ac.out 1).trans rfl,(y8 Ac.out 2).trans rfl,(y8 Ac.out 3).trans rfl,(y8 Ac.out 4).trans rfl,(y8 Aa.out 0).trans rfl,(y8 Aa.out 1).trans rfl,(y8 Aa.out 2).trans rfl,(y8 Aa.out 3).trans rfl,(y8 Aa.out 4).trans rfl⟩ (fun hHeld=>?_)
          clear hK K
          refine qx 67 ?_
          refine qO 3 68 #[true,true,true,true,false] (fun K hK=>?_)
          refine goes_ Tryz.func10 (by kernel_rfl) rfl #[.agg #[.slice Bf At.length Bg,.int .i64 Az,.string Ba,.slice Bi Au.length Bj,.slice Br Bb.length Bs],.agg #[.slice Ja Fx.length Jb,.int .i64 Fy,.string Fz,.slice Jc Ga.length Jd,.slice Je Gb.length Jf]] (by rfl) rfl rfl qy1 ?_
          with_reducible refine(laws_eqRule.calls Cs _ _ At Az Ba _ _ Au _ _ Bb _ _ Fx Fy Fz _ _ Ga _ _ Gb true _ ?side1 ?side2 ?side3 ?side4 ?side5 ?side6 ?side7 ?side8 ?side9 ?side10 ?side11 ?side12 Ku.out).mono ?_
          (case side1=>repeat(first|exact(Kd.S_reads' Af.out).2.2|(with_reducible refine Kd.C_alloc ?_ _)|(with_reducible refine Kd.C_drewN ?_ _)|(with_reducible refine Kd.C_drew ?_)))
          (case side2=>exact(Kd.S_reads' Af.out).2.1)
          (case side3=>repeat(first|exact(Kd.R_reads' Ad.out).2.2|(with_reducible refine Kd.C_alloc ?_ _)|(with_reducible refine Kd.C_drewN ?_ _)|(with_reducible refine Kd.C_drew ?_)))
          (case side4=>exact(Kd.R_reads' Ad.out).2.1)
          (case side5=>repeat(first|exact(Kd.S_reads' Ag.out).2.2|(with_reducible refine Kd.C_alloc ?_ _)|(with_reducible refine Kd.C_drewN ?_ _)|(with_reducible refine Kd.C_drew ?_)))
          (case side6=>exact(Kd.S_reads' Ag.out).2.1)
          (case side7=>repeat(first|exact(Kd.S_reads' Bv.out).2.2|(with_reducible refine Kd.C_alloc ?_ _)|(with_reducible refine Kd.C_drewN ?_ _)|(with_reducible refine Kd.C_drew ?_)))
          (case side8=>exact(Kd.S_reads' Bv.out).2.1)
          (case side9=>repeat(first|exact(Kd.R_reads' Bw.out).2.2|(with_reducible refine Kd.C_alloc ?_ _)|(with_reducible refine Kd.C_drewN ?_ _)|(with_reducible refine Kd.C_drew ?_)))
          (case side10=>exact(Kd.R_reads' Bw.out).2.1)
          (case side11=>repeat(first|exact(Kd.S_reads' Bx.out).2.2|(with_reducible refine Kd.C_alloc ?_ _)|(with_reducible refine Kd.C_drewN ?_ _)|(with_reducible refine Kd.C_drew ?_)))
          (case side12=>exact(Kd.S_reads' Bx.out).2.1)
          rintro e Lv ⟨rfl,hb⟩
          refine⟨_,rfl, ?_⟩
          replace Ax:=y0.mk (Kd.R_below (qR Ax.out) hb)
          replace Ay:=y0.mk (Kd.R_below (qR Ay.out) hb)
          replace Af:=y0.mk (Kd.S_below (qS Af.out) hb)
          replace Ad:=y0.mk (Kd.R_below (qR Ad.out) hb)
          replace Ag:=y0.mk (Kd.S_below (qS Ag.out) hb)
          replace Bv:=y0.mk (Kd.S_below (qS Bv.out) hb)
          replace Bw:=y0.mk (Kd.R_below (qR Bw.out) hb)
          replace Bx:=y0.mk (Kd.S_below (qS Bx.out) hb)
          replace Aa:=y0.mk (qK Aa.out hb)
          replace Ac:=y0.mk (qK Ac.out hb)
          replace HB:=y0.mk (y5 qb hb)
          (try clear hb)
          refine hK.out _ _ ⟨(y8 Ac.out 0).trans rfl,(y8 Ac.out 1).trans rfl,(y8 Ac.out 2).trans rfl,(y8 Ac.out 3).trans rfl,(y8 Ac.out 4).trans rfl,(y8 Aa.out 0).trans rfl,(y8 Aa.out 1).trans rfl,(y8 Aa.out 2).trans rfl,(y8 Aa.out 3).trans rfl,(y8 Aa.out 4).trans rfl⟩ (fun hHeld=>?_)
          clear hK K
          refine qx 68 ?_
          refine qp 4 69 #[true,true,true,true,true] ?_
          refine done_ (by kernel_rfl) ?_
          try go_wp2_with (first|((with_reducible refine y18 (f:=8) rfl ?_);refine y21 (some 72) rfl rfl Tryz.func8 (by kernel_rfl) rfl #[.slice A2 l2.length c2] rfl qy1 ?_;(with_reducible refine(laws_toStringS.calls Cs _ _ l2 Gc _ (qc (Kd.C_below Ge.out HB.out)) Gf.out Kv.out).mono ?_);rintro e Lw ⟨Lc,rfl,Bh,hb⟩;refine⟨_,rfl, ?_⟩;replace Af:=y0.mk (Kd.S_below (qS Af.out) hb);replace Ad:=y0.mk (Kd.R_below (qR Ad.out) hb);replace Ag:=y0.mk (Kd.S_below (qS Ag.out) hb);replace Bv:=y0.mk (Kd.S_below (qS Bv.out) hb);replace Bw:=y0.mk (Kd.R_below (qR Bw.out) hb);replace Bx:=y0.mk (Kd.S_below (qS Bx.out) hb);have Cj:=y0.mk (Kd.R_lower (Kd.R_new' (Kd.R_new' Bh (Kd.R_lt (qR Ax.out))) (Kd.R_lt (qR Ay.out))) (y4 qb));replace Ax:=y0.mk (Kd.R_elder' (qR Ax.out) (Kd.R_base Bh) hb);replace Ay:=y0.mk (Kd.R_elder' (qR Ay.out) (Kd.R_base Bh) hb);replace Aa:=y0.mk (qK Aa.out hb);replace Ac:=y0.mk (qK Ac.out hb);replace HB:=y0.mk (y5 qb hb);(try clear hb);(try clear Bh);obtain⟨Jg,Jh,Ji⟩:=Kd.R_slice Cj.out;subst Ji)|((with_reducible refine y18 (f:=11) rfl ?_);refine y21 (some 73) rfl rfl Tryz.func11 (by kernel_rfl) rfl #[.slice Fb Bz.length Fc,.slice Jg Gc.length Jh] rfl qy1 ?_;(with_reducible refine(laws_eqStringS.calls Cs _ _ Bz _ _ Gc true _ (qc ((Kd.R_reads' Ax.out).2.2)) (by exact(Kd.R_reads' Ax.out).2.1) (qc ((Kd.R_reads' Cj.out).2.2)) (by exact(Kd.R_reads' Cj.out).2.1) Kw.out).mono ?_);rintro e w' ⟨rfl,⟨nd,rfl⟩⟩;refine⟨_,rfl, ?_⟩)|((with_reducible refine y18 (f:=8) rfl ?_);refine y21 (some 77) rfl rfl Tryz.func8 (by kernel_rfl) rfl #[.slice A3 l3.length c3] rfl qy1 ?_;(with_reducible refine(laws_toStringS.calls Cs _ _ l3 Gd _ (qc (Kd.C_below Gi.out qb)) Gj.out Kx.out).mono ?_);rintro e Lx ⟨Ld,rfl,Bh,hb⟩;refine⟨_,rfl, ?_⟩;replace Af:=y0.mk (Kd.S_below (qS Af.out) hb);replace Ad:=y0.mk (Kd.R_below (qR Ad.out) hb);replace Ag:=y0.mk (Kd.S_below (qS Ag.out) hb);replace Bv:=y0.mk (Kd.S_below (qS Bv.out) hb);replace Bw:=y0.mk (Kd.R_below (qR Bw.out) hb);replace Bx:=y0.mk (Kd.S_below (qS Bx.out) hb);have Cy:=y0.mk (Kd.R_lower (Kd.R_new' (Kd.R_new' (Kd.R_new' Bh (Kd.R_lt (qR Ax.out))) (Kd.R_lt (qR Ay.out))) (Kd.R_lt (qR Cj.out))) (y4 qb));replace Ax:=y0.mk (Kd.R_elder' (qR Ax.out) (Kd.R_base Bh) hb);replace Ay:=y0.mk (Kd.R_elder' (qR Ay.out) (Kd.R_base Bh) hb);replace Cj:=y0.mk (Kd.R_elder' (qR Cj.out) (Kd.R_base Bh) hb);replace Aa:=y0.mk (qK Aa.out hb);replace Ac:=y0.mk (qK Ac.out hb);replace HB:=y0.mk (y5 qb hb);(try clear hb);(try clear Bh);obtain⟨Jj,Jk,Jl⟩:=Kd.R_slice Cy.out;subst Jl)|((with_reducible refine y18 (f:=11) rfl ?_);refine y21 (some 78) rfl rfl Tryz.func11 (by kernel_rfl) rfl #[.slice Fd Ca.length Fe,.slice Jj Gd.length Jk] rfl qy1 ?_;(with_reducible refine(laws_eqStringS.calls Cs _ _ Ca _ _ Gd true _ (qc ((Kd.R_reads' Ay.out).2.2)) (by exact(Kd.R_reads' Ay.out).2.1) (qc ((Kd.R_reads' Cy.out).2.2)) (by exact(Kd.R_reads' Cy.out).2.1) Ky.out).mono ?_);rintro e w' ⟨rfl,⟨nd,rfl⟩⟩;refine⟨_,rfl, ?_⟩))
          go_ret
          exact⟨qf,qb⟩
         ·replace Hp:=Bool.eq_false_iff.mpr Hp
          subst Hp
          replace H:=qF H
          exact absurd ((Option.some.inj H).trans htrue_) (by decide)
        ·replace Ho:=Bool.eq_false_iff.mpr Ho
         subst Ho
         replace H:=qF H
         exact absurd ((Option.some.inj H).trans htrue_) (by decide)
       ·replace Hn:=Bool.eq_false_iff.mpr Hn
        subst Hn
        replace H:=qF H
        exact absurd ((Option.some.inj H).trans htrue_) (by decide)
def laws_FnExactExpValue.Pure:Prop:=∀(x0:S28) (a1:Int) (l2:List ByteArray) (l3:List ByteArray),okT28 x0→(fun a=>(Lit.int .i64 a).wf=true) a1→(fun l=>l.length≤maxLen∧l.length * 16≤140737488351232∧∀ x∈l,(fun a=>a.size≤140737488351232) x) l2→(fun l=>l.length≤maxLen∧l.length * 16≤140737488351232∧∀ x∈l,(fun a=>a.size≤140737488351232) x) l3→∃ k,laws_FnExactExpValue.f k x0.f0 x0.f1.f0 x0.f1.f1 x0.f1.f2 x0.f2 a1 l2 l3=some true
theorem laws_FnExactExpValue.walk (P:laws_FnExactExpValue.Pure) (x0:S28) (a1:Int) (l2:List ByteArray) (l3:List ByteArray) (A0_0:Option Addr) (c0_0:Nat) (A0_3:Option Addr) (c0_3:Nat) (A0_4:Option Addr) (c0_4:Nat) (A2:Option Addr) (c2:Nat) (A3:Option Addr) (c3:Nat) (w:World) (hr0_0:Kd.C k59 w A0_0 x0.f0.length x0.f0) (hc0_0:x0.f0.length≤c0_0) (hr0_3:Kd.C (Kd.int .i64) w A0_3 x0.f1.f2.length x0.f1.f2) (hc0_3:x0.f1.f2.length≤c0_3) (hr0_4:Kd.C k25 w A0_4 x0.f2.length x0.f2) (hc0_4:x0.f2.length≤c0_4) (hr2:Kd.C Kd.string w A2 l2.length l2) (hc2:l2.length≤c2) (hr3:Kd.C Kd.string w A3 l3.length l3) (hc3:l3.length≤c3) (k0:okT28 x0) (k1:(fun a=>(Lit.int .i64 a).wf=true) a1) (k2:(fun l=>l.length≤maxLen∧l.length * 16≤140737488351232∧∀ x∈l,(fun a=>a.size≤140737488351232) x) l2) (k3:(fun l=>l.length≤maxLen∧l.length * 16≤140737488351232∧∀ x∈l,(fun a=>a.size≤140737488351232) x) l3) (hT:Tb w) :
  Calls Tryz.prog 3 #[.agg #[.slice A0_0 x0.f0.length c0_0,.int .i64 x0.f1.f0,.string x0.f1.f1,.slice A0_3 x0.f1.f2.length c0_3,.slice A0_4 x0.f2.length c0_4],.int .i64 a1,.slice A2 l2.length c2,.slice A3 l3.length c3] w fun e w'=>e=.returned (.bool true)∧Below w.heap.size w w':=by
 obtain⟨k,h⟩:=P x0 a1 l2 l3 k0 k1 k2 k3
 refine(laws_FnExactExpValue.calls k A0_0 c0_0 x0.f0 x0.f1.f0 x0.f1.f1 A0_3 c0_3 x0.f1.f2 A0_4 c0_4 x0.f2 a1 A2 c2 l2 A3 c3 l3 true w hr0_0 hc0_0 hr0_3 hc0_3 hr0_4 hc0_4 hr2 hc2 hr3 hc3 hT h rfl).mono ?_
 rintro e w' ⟨rfl,hd⟩
 exact⟨rfl,hd⟩
end Go.Proofs.YtimhlficlhafbaaGreatDoor.Pv
