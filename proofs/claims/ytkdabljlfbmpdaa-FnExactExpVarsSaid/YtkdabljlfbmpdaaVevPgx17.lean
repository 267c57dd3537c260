-- Cut by prune.py, a program of this session, out of the texts of this claim: Lean checks it.
import Derived.Test.YtkdabljlfbmpdaaVevPgx0
import Derived.Test.YtkdabljlfbmpdaaVevPgx4
import Derived.Test.YtkdabljlfbmpdaaVevPgx11
import Derived.Test.YtkdabljlfbmpdaaVevPgx14
namespace Go.Proofs.Ytkdabljlfbmpdaa.Pg
open Go.RowKit Go.Proofs.YtkdabljlfbmpdaaW.PrintWords Go.Proofs.YtkdabljlfbmpdaaW.PrintLast Go.Proofs.YtkdabljlfbmpdaaW.PrintMore
attribute [local go_sem] max2_int min2_int max_two min_two max_three min_three max_four min_four   -- for this text's walks alone
set_option linter.unusedVariables false
set_option linter.unusedSimpArgs false
def laws_markStringS.l0:Nat→List ByteArray→Int→Int→Option (Int×List ByteArray)
 | 0,_,_,_=>none
 | k + 1,x0,x1,x5=>if x5 < (x0.length:Int)then((laws_markText.f k x1).bind fun t426=>(if 0≤x5 then(laws_markStringS.l0 k (x0.set (x5:Int).toNat t426) (wrap64 (x1 + 1)) (wrap64 (x5 + 1)))else(none)))else(some (x1,x0))
def laws_markStringS.f (k:Nat) (l0:List ByteArray) (a1:Int):Option (Int×List ByteArray):=laws_markStringS.l0 k l0 a1 0
set_option maxHeartbeats 8000000 in
set_option maxRecDepth 100000 in
theorem laws_markStringS.calls (k:Nat) (P0_:Nat→Prop) (u9000_:Value) (l0:List ByteArray) (a1:Int) (r1:Int) (r2:List ByteArray) (w0 w:World) (hB:Below w0.heap.size w0 w) (Av:Kd.R Kd.string 9 w w0.heap.size P0_ u9000_ l0) (h:laws_markStringS.f k l0 a1=some (r1,r2)) :
  Calls Try.prog 13 #[u9000_,.int .i64 a1] w fun e w'=>e=.returned (.int .i64 r1)∧Kd.R Kd.string 9 w' w0.heap.size (fun k_=>(P0_ k_∨w.heap.size≤k_)) u9000_ r2∧Below w0.heap.size w0 w'∧Kept w w' (fun k_=>P0_ k_):=by
 have Aw:=y0.mk (show Kd.R Kd.string 9 w w0.heap.size (fun k_=>(P0_ k_∨w.heap.size≤k_)) u9000_ l0 from Kd.R_mono Av (fun k_ hk=>(.inl hk)))
 have HK:=y0.mk (Kept.refl w (fun k_=>P0_ k_))
 have Bf:=y0.mk hB.size
 have HB:=y0.mk hB
 clear hB
 have H:(laws_markStringS.l0 k l0 a1 0)=some (r1,r2):=h
 clear h
 have H':=y0.mk H
 clear H
 go_enter Try.func13,Try.ntmps13
 go_wp2
 go_loopg [1,5] k (fun kq v1 v5 w'=>∃(Ad:List ByteArray) (Ae:Int) (Aa:Int),v1=.int .i64 Ae∧v5=.int .i64 Aa∧y0 (laws_markStringS.l0 kq Ad Ae Aa=some (r1,r2))∧y0 (kq≤k)∧y0 (Kd.R Kd.string 9 w' w0.heap.size (fun k_=>(P0_ k_∨w.heap.size≤k_)) u9000_ Ad)∧y0 (Kept w w' (fun k_=>P0_ k_))∧y0 (Below w0.heap.size w0 w'))
 case atStart=>exact⟨(l0),(a1),(0),qy2,qy2,H',⟨Nat.le_refl _⟩,⟨qR Aw.out⟩,⟨by repeat(first|(with_reducible first|exact HK.out|apply Kept.alloc|apply Kept.drewN|apply Kept.drew)|exact HK.out)⟩,⟨qb⟩⟩
 case round =>
  clear H'
  obtain⟨Ad,Ae,Aa,rfl,rfl,HA,Ao,Ab,HK,HB⟩:=hrel
  cases gk with
  | zero=>exact absurd HA.out (by simp [laws_markStringS.l0])
  | succ k1 =>
   have H:=HA.out
   clear HA
   simp only [laws_markStringS.l0]at H
   by_cases c3:Aa < (Ad.length:Int)
   ·rw [if_pos c3]at H
    have Aj:=decide_eq_true c3
    clear c3
    obtain⟨Af,A4,H⟩:=qB H
    obtain⟨c5,H⟩:=qo H
    have Ay:decide (0≤Aa)=true:=decide_eq_true c5
    clear c5
    obtain⟨Ag,Ac⟩:∃ y_:List ByteArray,y_=(Ad.set (Aa:Int).toNat Af):=⟨_,rfl⟩
    replace H:(laws_markStringS.l0 k1 Ag (wrap64 (Ae + 1)) (wrap64 (Aa + 1)))=some (r1,r2):=by first|(rw [Ac];with_reducible exact H)|(have H2_:=(Option.bind_some _ _).symm.trans H;rw [Ac];with_reducible exact H2_)|(have H2_:=(Option.bind_some _ _).symm.trans H;with_reducible exact H2_)|with_reducible exact H|(rw [Ac];exact H)|exact H
    have Ah:=y0.mk Ac
    clear Ac
    have H':=y0.mk H
    clear H
    obtain⟨Bg,Az,Ba⟩:=Kd.R_slice Ab.out
    subst Ba
    go_wp2_with (first|((with_reducible refine y13 (f:=37) rfl ?_);refine y15 (some 15) rfl rfl Try.func37 (by kernel_rfl) rfl #[.int .i64 Ae] rfl qy1 ?_;(with_reducible refine(laws_markText.calls k1 Ae Af _ A4.out).mono ?_);rintro e w8 ⟨rfl,hb⟩;refine⟨_,rfl, ?_⟩;replace Ab:=y0.mk (Kd.R_below (qR Ab.out) hb);replace HK:=y0.mk (Kept.below (S:=(fun k_=>P0_ k_)) (by repeat(first|(with_reducible first|exact HK.out|apply Kept.alloc|apply Kept.drewN|apply Kept.drew)|exact HK.out)) hb);replace HB:=y0.mk (y3 qb hb);(try clear hb);have p6:0≤(Aa:Int):=of_decide_eq_true qy0;have q6:(Aa:Int) < ((Ad.length:Int):Int):=of_decide_eq_true qy0;obtain⟨Ai,Bh,Ap,Aq,Bb,Bi,Ar⟩:=Kd.R_form Ab.out (by omega);(first|cases Ap|(injection Ap with ea_ en_ ec_;(first|subst ea_|(injection ea_ with ea_;subst ea_));subst ec_;clear en_));have Bc:=y0.mk Aq;have Bj:=y0.mk Ar;clear Aq Bb Ar;have As:=y0.mk (show(P0_ Ai∨w.heap.size≤Ai)from(Ab.out.1 _ rfl));obtain⟨At,Au⟩:=Kd.R_celln (⟨#[]⟩:ByteArray) Ab.out (Aa:Int) p6 q6;replace p6:=eq_true p6;replace q6:=eq_true q6;obtain⟨hy9_,hz9_⟩:=Kd.R_celln (⟨#[]⟩:ByteArray) Ab.out (Aa:Int) (of_decide_eq_true qy0) (of_decide_eq_true qy0);have Ak:=Kd.R_putg Ab.out (Aa:Int) Af)|((with_reducible refine gate_store (t:=9) (p:=16) rfl ?_);refine store_event (t:=9) (p:=16) (v:=?vo_w10) (w1:=(w8.setCell ⟨Ai,(Aa:Int).toNat,none⟩ (.string Af))) ?hg ?ho ?hn ?hr ?_;(case ho=>rfl);(case hg=>rfl);(case hn=>rfl);(case hr=>first|(go_simp;done)|(go_simp;rfl));intro Al hw;have hg:w8.grownBy Al (some Ai):=(by rw [hw];exact Ak.2);have hp_:Kd.R Kd.string 9 Al w0.heap.size (fun k_=>(P0_ k_∨w.heap.size≤k_)) (.slice (some ⟨Ai,0,none⟩) Ad.length Az) Ag:=(by rw [hw,Ah.out];exact Ak.1);clear Ak;replace HB:=y0.mk ((by rw [hw];exact below_set (HB.out) Bc.out:Below w0.heap.size w0 Al));replace HK:=y0.mk (Kept.of_grown (S:=(fun k_=>P0_ k_)) hg (by repeat(first|(with_reducible first|exact HK.out|apply Kept.alloc|apply Kept.drewN|apply Kept.drew)|exact HK.out)) (fun k_ e_=>(Ab.out.1 k_ e_)));replace Ab:=y0.mk (hp_);clear hg hw hp_))
    go_roundg k1
    case measure=>have:=Ao.out;omega
    exact⟨(Ag),(wrap64 (Ae + 1)),(wrap64 (Aa + 1)),qy2,qy2,H',⟨by have:=Ao.out;omega⟩,⟨qR Ab.out⟩,⟨by repeat(first|(with_reducible first|exact HK.out|apply Kept.alloc|apply Kept.drewN|apply Kept.drew)|exact HK.out)⟩,⟨qb⟩⟩
   ·rw [if_neg c3]at H
    have Aj:=decide_eq_false c3
    clear c3
    simp only [Option.some.injEq,Prod.mk.injEq]at H
    obtain⟨rfl,rfl⟩:=H
    obtain⟨Bd,Be,Am⟩:=Kd.R_slice Ab.out
    subst Am
    go_wp2
    go_ret
    exact⟨qf,by(with_reducible repeat(first|apply Kd.R_alloc|apply Kd.R_drewN|apply Kd.R_drew));exact Ab.out,qb,by repeat(first|(with_reducible first|exact HK.out|apply Kept.alloc|apply Kept.drewN|apply Kept.drew)|exact HK.out)⟩
def laws_heldStringS.l0:Nat→List ByteArray→Int→Int→Option (Int)
 | 0,_,_,_=>none
 | k + 1,x0,x1,x5=>if x5 < (x0.length:Int)then(if 0≤x5 then((laws_markText.f k x1).bind fun t429=>(if(rdOf ByteArray.empty x0 x5).toList=t429.toList then(laws_heldStringS.l0 k x0 (wrap64 (x1 + 1)) (wrap64 (x5 + 1)))else(some (-1))))else(none))else(some x1)
def laws_heldStringS.f (k:Nat) (l0:List ByteArray) (a1:Int):Option (Int):=laws_heldStringS.l0 k l0 a1 0
set_option maxHeartbeats 8000000 in
set_option maxRecDepth 100000 in
theorem laws_heldStringS.calls (k:Nat) (A0:Option Addr) (c0:Nat) (l0:List ByteArray) (a1:Int) (r:Int) (w:World) (Am:Kd.C Kd.string w A0 l0.length l0) (Ao:l0.length≤c0) (h:laws_heldStringS.f k l0 a1=some r) :
  Calls Try.prog 14 #[.slice A0 l0.length c0,.int .i64 a1] w fun e w'=>e=.returned (.int .i64 r)∧Below w.heap.size w w':=by
 have Ap:=y0.mk Am
 have As:=y0.mk Ao
 clear Am Ao
 have HB:=y0.mk (Below.refl w.heap.size w)
 have H:(laws_heldStringS.l0 k l0 a1 0)=some r:=h
 clear h
 have H':=y0.mk H
 clear H
 go_enter Try.func14,Try.ntmps14
 go_wp2
 go_loopg [1,5] k (fun kq v1 v5 w'=>∃(Ad:Int) (Ac:Int),v1=.int .i64 Ad∧v5=.int .i64 Ac∧y0 (laws_heldStringS.l0 kq l0 Ad Ac=some r)∧y0 (kq≤k)∧y0 (Below w.heap.size w w'))
 case atStart=>exact⟨(a1),(0),qy2,qy2,H',⟨Nat.le_refl _⟩,⟨qb⟩⟩
 case round =>
  clear H'
  obtain⟨Ad,Ac,rfl,rfl,HA,Aq,HB⟩:=hrel
  cases gk with
  | zero=>exact absurd HA.out (by simp [laws_heldStringS.l0])
  | succ k1 =>
   have H:=HA.out
   clear HA
   simp only [laws_heldStringS.l0]at H
   by_cases c3:Ac < (l0.length:Int)
   ·rw [if_pos c3]at H
    have Aj:=decide_eq_true c3
    clear c3
    obtain⟨c4,H⟩:=qo H
    have Ar:decide (0≤Ac)=true:=decide_eq_true c4
    clear c4
    obtain⟨Ae,A5,H⟩:=qB H
    by_cases c6:(rdOf ByteArray.empty l0 Ac).toList=Ae.toList
    ·rw [if_pos c6]at H
     have Ak:((rdOf ByteArray.empty l0 Ac).toList == Ae.toList)=true:=beq_iff_eq.mpr c6
     have Al:((rdOf ByteArray.empty l0 Ac).toList != Ae.toList)=false:=bne_eq_false_iff_eq.mpr c6
     clear c6
     have H':=y0.mk H
     clear H
     try go_wp2
     replace HB:=y0.mk (below_drew1 HB.out)
     have Af:0≤(Ac:Int):=of_decide_eq_true qy0
     have Ag:Ac < (l0.length:Int):=of_decide_eq_true qy0
     obtain⟨Ah,Ai,Aa⟩:=Kd.at_string Ap.out Ac Af Ag
     have Ab:=Aa
     cases Ai
     replace Aa:=(HB.out.cell (World.block_lt_of_cell? w _ Aa)).trans Aa
     replace Af:=eq_true Af
     replace Ag:=eq_true Ag
     refine start_ (n:=7) (S:=fun w'=>w'.cell? (Ah.add (Ac).toNat)=some (.string (rdOf ByteArray.empty l0 Ac))) (ds:=[]) #[false,false,false,false,false,false,false] (by kernel_rfl) rfl rfl (((HB.out.cell (World.block_lt_of_cell? w _ Ab)).trans Ab)) (fun hHeld=>?_)
     generalize wr.drew=w7 at HB Aa hHeld ⊢
     refine qp3 0 12 7 ?_
     refine qp 4 16 #[true,true,true,false,true,false,false] ?_
     refine qt 3 15 #[true,true,true,true,true,false,false] hHeld ?_
     refine qO 5 17 #[true,true,true,true,true,true,false] (fun K hK=>?_)
     refine goes_ Try.func37 (by kernel_rfl) rfl #[.int .i64 Ad] (by rfl) rfl rfl qy1 ?_
     with_reducible refine(laws_markText.calls k1 Ad Ae _ A5.out).mono ?_
     rintro e w8 ⟨rfl,hb⟩
     refine⟨_,rfl, ?_⟩
     replace HB:=y0.mk (y3 qb hb)
     (try clear hb)
     refine hK.out _ _ (((HB.out.cell (World.block_lt_of_cell? w _ Ab)).trans Ab)) (fun hHeld=>?_)
     clear hK K
     refine qx 17 ?_
     refine qp 6 18 #[true,true,true,true,true,true,true] ?_
     refine done_ (by kernel_rfl) ?_
     try go_wp2
     go_roundg k1
     case measure=>have:=Aq.out;omega
     exact⟨(wrap64 (Ad + 1)),(wrap64 (Ac + 1)),qy2,qy2,H',⟨by have:=Aq.out;omega⟩,⟨qb⟩⟩
    ·rw [if_neg c6]at H
     have Ak:((rdOf ByteArray.empty l0 Ac).toList == Ae.toList)=false:=beq_eq_false_iff_ne.mpr c6
     have Al:((rdOf ByteArray.empty l0 Ac).toList != Ae.toList)=true:=bne_iff_ne.mpr c6
     obtain rfl:=Option.some.inj H
     try go_wp2
     replace HB:=y0.mk (below_drew1 HB.out)
     have Af:0≤(Ac:Int):=of_decide_eq_true qy0
     have Ag:Ac < (l0.length:Int):=of_decide_eq_true qy0
     obtain⟨Ah,Ai,Aa⟩:=Kd.at_string Ap.out Ac Af Ag
     have Ab:=Aa
     cases Ai
     replace Aa:=(HB.out.cell (World.block_lt_of_cell? w _ Aa)).trans Aa
     replace Af:=eq_true Af
     replace Ag:=eq_true Ag
     refine start_ (n:=7) (S:=fun w'=>w'.cell? (Ah.add (Ac).toNat)=some (.string (rdOf ByteArray.empty l0 Ac))) (ds:=[]) #[false,false,false,false,false,false,false] (by kernel_rfl) rfl rfl (((HB.out.cell (World.block_lt_of_cell? w _ Ab)).trans Ab)) (fun hHeld=>?_)
     generalize wr.drew=w9 at HB Aa hHeld ⊢
     refine qp3 0 12 7 ?_
     refine qp 4 16 #[true,true,true,false,true,false,false] ?_
     refine qt 3 15 #[true,true,true,true,true,false,false] hHeld ?_
     refine qO 5 17 #[true,true,true,true,true,true,false] (fun K hK=>?_)
     refine goes_ Try.func37 (by kernel_rfl) rfl #[.int .i64 Ad] (by rfl) rfl rfl qy1 ?_
     with_reducible refine(laws_markText.calls k1 Ad Ae _ A5.out).mono ?_
     rintro e At ⟨rfl,hb⟩
     refine⟨_,rfl, ?_⟩
     replace HB:=y0.mk (y3 qb hb)
     (try clear hb)
     refine hK.out _ _ (((HB.out.cell (World.block_lt_of_cell? w _ Ab)).trans Ab)) (fun hHeld=>?_)
     clear hK K
     refine qx 17 ?_
     refine qp 6 18 #[true,true,true,true,true,true,true] ?_
     refine done_ (by kernel_rfl) ?_
     try go_wp2
     go_ret
     exact⟨qf,qb⟩
   ·rw [if_neg c3]at H
    have Aj:=decide_eq_false c3
    clear c3
    obtain rfl:=Option.some.inj H
    go_wp2
    go_ret
    exact⟨qf,qb⟩
/-- What is reckoned in the one way that a call of the law can go. -/
def laws_FnExactExpVars.Run (k:Nat) (l0:List (S69)) (a1:Int) (a2:ByteArray) (l3:List Int) (l4:List (S25)) (n:Int):Prop :=
 ∃ r,laws_szRule.f k l0 a1 a2 l3 l4 1048576=some r∧(r < 0∨(¬ r < 0∧∃(es:List (S63)) (h1:Int) (h2:ByteArray) (h3:List Int) (bs:List (S33)) (gs:List ByteArray) (m1 m3:Int) (gm:List ByteArray),
  laws_toRule.f k l0 a1 a2 l3 l4=some (es,h1,h2,h3,bs)∧spec_ExpVars.f k es h1 h2 h3 bs n=some gs∧impl_ExpVars.f k es h1 h2 h3 bs n=some gs∧laws_eqStringS.f k gs gs=some true∧laws_eqRule.f k es h1 h2 h3 bs es h1 h2 h3 bs=some true ∧
  laws_markRule.f k es h1 h2 h3 bs 1=some m1∧¬ m1 < 0∧laws_markStringS.f k gs 1=some (m3,gm)∧gm.length=gs.length∧laws_heldStringS.f k gm 1=some m3∧¬ m3 < 0))
theorem laws_markStringS.ivs (k:Nat) (lo hi:Nat) (A0:Option Addr) (c0:Nat) (l0:List ByteArray) (a1:Int) (r1:Int) (r2:List ByteArray) (w0 w:World) (hB:Below w0.heap.size w0 w) (hlo:w0.heap.size≤lo) (ho:QIv.OR Kd.string 9 lo hi (.slice A0 l0.length c0) l0 w) (h:laws_markStringS.f k l0 a1=some (r1,r2)) :
  Calls Try.prog 13 #[.slice A0 l0.length c0,.int .i64 a1] w fun e w'=>e=.returned (.int .i64 r1)∧QIv.OR Kd.string 9 lo hi (.slice A0 l0.length c0) r2 w'∧Below w0.heap.size w0 w'∧QIv.KI lo hi w w':=by
 have hR:Kd.R Kd.string 9 w w0.heap.size (fun k_=>lo≤k_∧k_ < hi) (.slice A0 l0.length c0) l0:=Kd.R_lower (Kd.R_mono (Kd.R_bound ho) (fun k hk=>⟨hk.2.1,hk.1⟩)) hlo
 refine(laws_markStringS.calls k _ _ l0 a1 r1 r2 w0 w hB hR h).mono ?_
 rintro e w5 ⟨rfl,hy,hb,hk⟩
 exact⟨rfl,Kd.R_mono (Kd.R_raise (d:=Kd.string) (b:=w0.heap.size) (b':=lo) (fun _ _ _ _ h=>h) (Kd.R_tight rfl hy) (Kd.R_base ho)) (fun k hk=>ho.1 k hk.symm),hb,hk⟩
set_option maxHeartbeats 16000000 in
set_option maxRecDepth 100000 in
theorem laws_FnExactExpVars.calls (k:Nat) (A0:Option Addr) (c0:Nat) (l0:List (S69)) (a1:Int) (a2:ByteArray) (A3:Option Addr) (c3:Nat) (l3:List Int) (A4:Option Addr) (c4:Nat) (l4:List (S25)) (n:Int) (w:World) (Bf:Kd.C k69 w A0 l0.length l0) (Bg:l0.length≤c0) (Bh:Kd.C (Kd.int .i64) w A3 l3.length l3) (Bi:l3.length≤c3) (Bj:Kd.C k25 w A4 l4.length l4) (Bk:l4.length≤c4) (h:laws_FnExactExpVars.Run k l0 a1 a2 l3 l4 n) :
  Calls Try.prog 3 #[.agg #[.slice A0 l0.length c0,.int .i64 a1,.string a2,.slice A3 l3.length c3,.slice A4 l4.length c4],.int .i64 n] w fun e w'=>e=.returned (.bool true)∧Below w.heap.size w w':=by
 have Bn:=Try.underlying28
 have Bo:=Try.underlying36
 have Av:=y0.mk Bf
 clear Bf
 have Aw:=y0.mk Bg
 clear Bg
 have Ay:=y0.mk Bh
 clear Bh
 have Az:=y0.mk Bi
 clear Bi
 have Ba:=y0.mk Bj
 clear Bj
 have Bb:=y0.mk Bk
 clear Bk
 have HB:=y0.mk (Below.refl w.heap.size w)
 obtain⟨r,E1,h⟩:=h
 have E1:=y0.mk E1
 rcases h with h|⟨h0,es,h1,h2,h3,bs,gs,m1,m3,gm,F1,F2,F3,F4,F5,F6,F7,F8,F9,Bc,Bl⟩
 ·skip
  have Bm:decide (r < 0)=true:=decide_eq_true h
  clear h
  go_enter Try.func3,Try.ntmps3
  go_wp2_with (first
   | ((with_reducible refine y14 (N:=2) rfl ?_);refine qe 2 #[.slice A0 l0.length c0,.int .i64 a1,.string a2,.slice A3 l3.length c3,.slice A4 l4.length c4] 28 ?_;intro ga hg w1 hbox hb;have BKa:=y0.mk (hbox);have GEa:=y0.mk ((by rw [hg];exact HB.out.size:w.heap.size≤ga));replace HB:=y0.mk (y3 HB.out hb);clear hb hg hbox;obtain⟨Aa,Ab,Ac,Ad,Ae,Af,Ag,Ah,Ai,Aj⟩:=QIv.box5 BKa.out)
   | (go_at_call 6;(with_reducible refine(laws_szRule.calls k _ _ l0 a1 a2 _ _ l3 _ _ l4 1048576 r _ (Kd.C_below Av.out HB.out) Aw.out (Kd.C_below Ay.out HB.out) Az.out (Kd.C_below Ba.out HB.out) Bb.out E1.out).mono ?_);rintro e w2 ⟨rfl,hb⟩;(repeat first|clear Aa|clear Ab|clear Ac|clear Ad|clear Ae|clear Af|clear Ag|clear Ah|clear Ai|clear Aj);replace BKa:=y0.mk (y5 (g:=ga) (o:=(.cells #[.slice A0 l0.length c0,.int .i64 a1,.string a2,.slice A3 l3.length c3,.slice A4 l4.length c4] 28 (0,0))) BKa.out hb);replace HB:=y0.mk (y3 HB.out hb);(try clear hb);obtain⟨Aa,Ab,Ac,Ad,Ae,Af,Ag,Ah,Ai,Aj⟩:=QIv.box5 BKa.out))
  go_ret
  exact⟨by first|rfl|(simp [y10,y11] <;> rfl),HB.out⟩
 have Bm:decide (r < 0)=false:=decide_eq_false h0
 clear h0
 replace F1:=y0.mk F1
 replace F2:=y0.mk F2
 replace F3:=y0.mk F3
 replace F4:=y0.mk F4
 replace F5:=y0.mk F5
 replace F6:=y0.mk F6
 replace F8:=y0.mk F8
 replace Bc:=y0.mk Bc
 have Bp:decide (m1 < 0)=false:=decide_eq_false F7
 have Bq:decide (m3 < 0)=false:=decide_eq_false Bl
 have Br:(m3 != m3)=false:=bne_self_eq_false m3
 clear F7 Bl
 have HELD:y0 (∀(W:World) (A:Option Addr) (c:Nat),Kd.C Kd.string W A gm.length gm→gm.length≤c→Calls Try.prog 14 #[.slice A gs.length c,.int .i64 1] W fun e w'=>e=.returned (.int .i64 m3)∧Below W.heap.size W w'):=by
  refine⟨fun W A c h1 h2=>?_⟩
  have h_:=laws_heldStringS.calls k A c gm 1 m3 W h1 h2 Bc.out
  rw [F9]at h_
  exact h_
 have HGL:=y0.mk F9
 clear F9
 go_enter Try.func3,Try.ntmps3
 go_upto_region 5 with(first
  | ((with_reducible refine y14 (N:=2) rfl ?_);refine qe 2 #[.slice A0 l0.length c0,.int .i64 a1,.string a2,.slice A3 l3.length c3,.slice A4 l4.length c4] 28 ?_;intro ga hg w1 hbox hb;have BKa:=y0.mk (hbox);have GEa:=y0.mk ((by rw [hg];exact HB.out.size:w.heap.size≤ga));replace HB:=y0.mk (y3 HB.out hb);clear hb hg hbox;obtain⟨Aa,Ab,Ac,Ad,Ae,Af,Ag,Ah,Ai,Aj⟩:=QIv.box5 BKa.out)
  | (go_at_call 6;(with_reducible refine(laws_szRule.calls k _ _ l0 a1 a2 _ _ l3 _ _ l4 1048576 r _ (Kd.C_below Av.out HB.out) Aw.out (Kd.C_below Ay.out HB.out) Az.out (Kd.C_below Ba.out HB.out) Bb.out E1.out).mono ?_);rintro e w2 ⟨rfl,hb⟩;(repeat first|clear Aa|clear Ab|clear Ac|clear Ad|clear Ae|clear Af|clear Ag|clear Ah|clear Ai|clear Aj);replace BKa:=y0.mk (y5 (g:=ga) (o:=(.cells #[.slice A0 l0.length c0,.int .i64 a1,.string a2,.slice A3 l3.length c3,.slice A4 l4.length c4] 28 (0,0))) BKa.out hb);replace HB:=y0.mk (y3 HB.out hb);(try clear hb);obtain⟨Aa,Ab,Ac,Ad,Ae,Af,Ag,Ah,Ai,Aj⟩:=QIv.box5 BKa.out))
 go_upto_region 6 with(first
  | (go_at_call 8;(with_reducible refine(laws_toRule.iv k _ _ l0 a1 a2 _ _ l3 _ _ l4 es h1 h2 h3 bs _ (Kd.C_below Av.out HB.out) Aw.out (Kd.C_below Ay.out HB.out) Az.out (Kd.C_below Ba.out HB.out) Bb.out F1.out).mono ?_);rintro e_ w3 ⟨v1_,v2_,v3_,loPe,hiPe,loPh,hiPh,loPb,hiPb,rfl,o1_,o2_,o3_,i1_,i2_,i3_,i4_,i5_,i6_,i7_,hb⟩;obtain⟨APe,cPe,eA_⟩:=o1_.slice;subst eA_;obtain⟨APh,cPh,eA_⟩:=o2_.slice;subst eA_;obtain⟨APb,cPb,eA_⟩:=o3_.slice;subst eA_;(repeat first|clear Aa|clear Ab|clear Ac|clear Ad|clear Ae|clear Af|clear Ag|clear Ah|clear Ai|clear Aj);have OPe:=y0.mk (o1_);have OPh:=y0.mk (o2_);have OPb:=y0.mk (o3_);have IPe:=y0.mk (i2_);have IPh:=y0.mk (i4_);have IPb:=y0.mk (i6_);have DPe_Ph:=y0.mk (i3_);have DPh_Pb:=y0.mk (i5_);have DPe_Pb:=y0.mk ((by omega:hiPe≤loPb));have LPe:=y0.mk ((by omega:hiPe≤w3.heap.size));have BPe:=y0.mk ((by have:=HB.out.size;omega:w.heap.size≤loPe));have Ea_Pe:=y0.mk ((by have:=QIv.ki_lt BKa.out;omega:ga < loPe));have LPh:=y0.mk ((by omega:hiPh≤w3.heap.size));have BPh:=y0.mk ((by have:=HB.out.size;omega:w.heap.size≤loPh));have Ea_Ph:=y0.mk ((by have:=QIv.ki_lt BKa.out;omega:ga < loPh));have LPb:=y0.mk ((by omega:hiPb≤w3.heap.size));have BPb:=y0.mk ((by have:=HB.out.size;omega:w.heap.size≤loPb));have Ea_Pb:=y0.mk ((by have:=QIv.ki_lt BKa.out;omega:ga < loPb));replace BKa:=y0.mk (y5 (g:=ga) (o:=(.cells #[.slice A0 l0.length c0,.int .i64 a1,.string a2,.slice A3 l3.length c3,.slice A4 l4.length c4] 28 (0,0))) BKa.out hb);replace HB:=y0.mk (y3 HB.out hb);clear o1_ o2_ o3_ i1_ i2_ i3_ i4_ i5_ i6_ i7_ hb;obtain⟨Aa,Ab,Ac,Ad,Ae,Af,Ag,Ah,Ai,Aj⟩:=QIv.box5 BKa.out)
  | (go_at_call 7;(with_reducible refine(spec_ExpVars.calls k _ _ es h1 h2 _ _ h3 _ _ bs n gs _ OPe.out.C OPe.out.le OPh.out.C OPh.out.le OPb.out.C OPb.out.le F2.out).mono ?_);rintro e w4 ⟨v_,rfl,ho,hb⟩;obtain⟨loW,hiW,hlo_,hhi_,hOW_⟩:=QIv.OR.new ho;obtain⟨AW,cW,eA_⟩:=hOW_.slice;subst eA_;(repeat first|clear Aa|clear Ab|clear Ac|clear Ad|clear Ae|clear Af|clear Ag|clear Ah|clear Ai|clear Aj);have OW:=y0.mk (hOW_);have LW:=y0.mk ((by rw [hhi_];exact Nat.le_refl _:hiW≤_));have BW:=y0.mk ((by rw [hlo_];exact HB.out.size:w.heap.size≤loW));have IW:=y0.mk ((by rw [hlo_,hhi_];exact hb.size:loW≤hiW));have DPe_W:=y0.mk ((by rw [hlo_];exact LPe.out:hiPe≤loW));have DPh_W:=y0.mk ((by rw [hlo_];exact LPh.out:hiPh≤loW));have DPb_W:=y0.mk ((by rw [hlo_];exact LPb.out:hiPb≤loW));have Ea_W:=y0.mk ((by rw [hlo_];exact QIv.ki_lt BKa.out:ga < loW));replace OPe:=y0.mk (OPe.out.below hb);replace OPh:=y0.mk (OPh.out.below hb);replace OPb:=y0.mk (OPb.out.below hb);replace LPe:=y0.mk (Nat.le_trans LPe.out hb.size);replace LPh:=y0.mk (Nat.le_trans LPh.out hb.size);replace LPb:=y0.mk (Nat.le_trans LPb.out hb.size);replace BKa:=y0.mk (y5 (g:=ga) (o:=(.cells #[.slice A0 l0.length c0,.int .i64 a1,.string a2,.slice A3 l3.length c3,.slice A4 l4.length c4] 28 (0,0))) BKa.out hb);replace HB:=y0.mk (y3 HB.out hb);(try clear hb);(try clear ho);(try clear hlo_);(try clear hhi_);obtain⟨Aa,Ab,Ac,Ad,Ae,Af,Ag,Ah,Ai,Aj⟩:=QIv.box5 BKa.out))
 clear OPe LPe
 clear OPh LPh
 clear OPb LPb
 go_upto_region 7 with(first
  | (go_at_call 8;(with_reducible refine(laws_toRule.iv k _ _ l0 a1 a2 _ _ l3 _ _ l4 es h1 h2 h3 bs _ (Kd.C_below Av.out HB.out) Aw.out (Kd.C_below Ay.out HB.out) Az.out (Kd.C_below Ba.out HB.out) Bb.out F1.out).mono ?_);rintro e_ w5 ⟨v1_,v2_,v3_,loXe,hiXe,loXh,hiXh,loXb,hiXb,rfl,o1_,o2_,o3_,i1_,i2_,i3_,i4_,i5_,i6_,i7_,hb⟩;obtain⟨AXe,cXe,eA_⟩:=o1_.slice;subst eA_;obtain⟨AXh,cXh,eA_⟩:=o2_.slice;subst eA_;obtain⟨AXb,cXb,eA_⟩:=o3_.slice;subst eA_;(repeat first|clear Aa|clear Ab|clear Ac|clear Ad|clear Ae|clear Af|clear Ag|clear Ah|clear Ai|clear Aj);have OXe:=y0.mk (o1_);have OXh:=y0.mk (o2_);have OXb:=y0.mk (o3_);have IXe:=y0.mk (i2_);have IXh:=y0.mk (i4_);have IXb:=y0.mk (i6_);have DXe_Xh:=y0.mk (i3_);have DXh_Xb:=y0.mk (i5_);have DXe_Xb:=y0.mk ((by omega:hiXe≤loXb));have LXe:=y0.mk ((by omega:hiXe≤w5.heap.size));have BXe:=y0.mk ((by have:=HB.out.size;omega:w.heap.size≤loXe));have DW_Xe:=y0.mk ((by have:=LW.out;omega:hiW≤loXe));have Ea_Xe:=y0.mk ((by have:=QIv.ki_lt BKa.out;omega:ga < loXe));have LXh:=y0.mk ((by omega:hiXh≤w5.heap.size));have BXh:=y0.mk ((by have:=HB.out.size;omega:w.heap.size≤loXh));have DW_Xh:=y0.mk ((by have:=LW.out;omega:hiW≤loXh));have Ea_Xh:=y0.mk ((by have:=QIv.ki_lt BKa.out;omega:ga < loXh));have LXb:=y0.mk ((by omega:hiXb≤w5.heap.size));have BXb:=y0.mk ((by have:=HB.out.size;omega:w.heap.size≤loXb));have DW_Xb:=y0.mk ((by have:=LW.out;omega:hiW≤loXb));have Ea_Xb:=y0.mk ((by have:=QIv.ki_lt BKa.out;omega:ga < loXb));replace OW:=y0.mk (OW.out.below hb);replace LW:=y0.mk (Nat.le_trans LW.out hb.size);replace BKa:=y0.mk (y5 (g:=ga) (o:=(.cells #[.slice A0 l0.length c0,.int .i64 a1,.string a2,.slice A3 l3.length c3,.slice A4 l4.length c4] 28 (0,0))) BKa.out hb);replace HB:=y0.mk (y3 HB.out hb);clear o1_ o2_ o3_ i1_ i2_ i3_ i4_ i5_ i6_ i7_ hb;obtain⟨Aa,Ab,Ac,Ad,Ae,Af,Ag,Ah,Ai,Aj⟩:=QIv.box5 BKa.out)
  | ((with_reducible refine y14 (N:=7) rfl ?_);refine qe 7 #[.slice none 0 0,.int .i64 0,.string (⟨#[]⟩:ByteArray),.slice none 0 0,.slice none 0 0] 36 ?_;intro gx hg w6 hbox hb;(repeat first|clear Aa|clear Ab|clear Ac|clear Ad|clear Ae|clear Af|clear Ag|clear Ah|clear Ai|clear Aj);have BKx:=y0.mk (hbox);have GEx:=y0.mk ((by rw [hg];exact HB.out.size:w.heap.size≤gx));have EW_x:=y0.mk ((by rw [hg];exact LW.out:hiW≤gx));have EXe_x:=y0.mk ((by rw [hg];exact LXe.out:hiXe≤gx));have EXh_x:=y0.mk ((by rw [hg];exact LXh.out:hiXh≤gx));have EXb_x:=y0.mk ((by rw [hg];exact LXb.out:hiXb≤gx));have Na_x:=y0.mk ((by rw [hg];exact Nat.ne_of_lt (QIv.ki_lt BKa.out):ga≠gx));replace OW:=y0.mk (OW.out.below hb);replace OXe:=y0.mk (OXe.out.below hb);replace OXh:=y0.mk (OXh.out.below hb);replace OXb:=y0.mk (OXb.out.below hb);replace LW:=y0.mk (Nat.le_trans LW.out hb.size);replace LXe:=y0.mk (Nat.le_trans LXe.out hb.size);replace LXh:=y0.mk (Nat.le_trans LXh.out hb.size);replace LXb:=y0.mk (Nat.le_trans LXb.out hb.size);replace BKa:=y0.mk (y5 (g:=ga) (o:=(.cells #[.slice A0 l0.length c0,.int .i64 a1,.string a2,.slice A3 l3.length c3,.slice A4 l4.length c4] 28 (0,0))) BKa.out hb);replace HB:=y0.mk (y3 HB.out hb);clear hb hg hbox;obtain⟨Aa,Ab,Ac,Ad,Ae,Af,Ag,Ah,Ai,Aj⟩:=QIv.box5 BKa.out;obtain⟨Ak,Al,Am,Ao,Ap,Aq,Ar,As,At,Au⟩:=QIv.box5 BKx.out))
 (repeat first|clear Aa|clear Ab|clear Ac|clear Ad|clear Ae|clear Ak|clear Al|clear Am|clear Ao|clear Ap|clear Af|clear Ag|clear Ah|clear Ai|clear Aj|clear Aq|clear Ar|clear As|clear At|clear Au)
 replace OW:=y0.mk ((((((OW.out.set (.inr EW_x.out) _ _).set (.inr EW_x.out) _ _).set (.inr EW_x.out) _ _).set (.inr EW_x.out) _ _).set (.inr EW_x.out) _ _):QIv.OR Kd.string 9 loW hiW (.slice AW gs.length cW) gs (((((w6.setCell ⟨gx,0,none⟩ (.slice AXe es.length cXe)).setCell ⟨gx,1,none⟩ (.int .i64 h1)).setCell ⟨gx,2,none⟩ (.string h2)).setCell ⟨gx,3,none⟩ (.slice AXh h3.length cXh)).setCell ⟨gx,4,none⟩ (.slice AXb bs.length cXb)))
 replace LW:=y0.mk (by simpa using LW.out:hiW≤(((((w6.setCell ⟨gx,0,none⟩ (.slice AXe es.length cXe)).setCell ⟨gx,1,none⟩ (.int .i64 h1)).setCell ⟨gx,2,none⟩ (.string h2)).setCell ⟨gx,3,none⟩ (.slice AXh h3.length cXh)).setCell ⟨gx,4,none⟩ (.slice AXb bs.length cXb)).heap.size)
 replace OXe:=y0.mk ((((((OXe.out.set (.inr EXe_x.out) _ _).set (.inr EXe_x.out) _ _).set (.inr EXe_x.out) _ _).set (.inr EXe_x.out) _ _).set (.inr EXe_x.out) _ _):QIv.OS k63 63 loXe hiXe (.slice AXe es.length cXe) es (((((w6.setCell ⟨gx,0,none⟩ (.slice AXe es.length cXe)).setCell ⟨gx,1,none⟩ (.int .i64 h1)).setCell ⟨gx,2,none⟩ (.string h2)).setCell ⟨gx,3,none⟩ (.slice AXh h3.length cXh)).setCell ⟨gx,4,none⟩ (.slice AXb bs.length cXb)))
 replace LXe:=y0.mk (by simpa using LXe.out:hiXe≤(((((w6.setCell ⟨gx,0,none⟩ (.slice AXe es.length cXe)).setCell ⟨gx,1,none⟩ (.int .i64 h1)).setCell ⟨gx,2,none⟩ (.string h2)).setCell ⟨gx,3,none⟩ (.slice AXh h3.length cXh)).setCell ⟨gx,4,none⟩ (.slice AXb bs.length cXb)).heap.size)
 replace OXh:=y0.mk ((((((OXh.out.set (.inr EXh_x.out) _ _).set (.inr EXh_x.out) _ _).set (.inr EXh_x.out) _ _).set (.inr EXh_x.out) _ _).set (.inr EXh_x.out) _ _):QIv.OR (Kd.int .i64) 3 loXh hiXh (.slice AXh h3.length cXh) h3 (((((w6.setCell ⟨gx,0,none⟩ (.slice AXe es.length cXe)).setCell ⟨gx,1,none⟩ (.int .i64 h1)).setCell ⟨gx,2,none⟩ (.string h2)).setCell ⟨gx,3,none⟩ (.slice AXh h3.length cXh)).setCell ⟨gx,4,none⟩ (.slice AXb bs.length cXb)))
 replace LXh:=y0.mk (by simpa using LXh.out:hiXh≤(((((w6.setCell ⟨gx,0,none⟩ (.slice AXe es.length cXe)).setCell ⟨gx,1,none⟩ (.int .i64 h1)).setCell ⟨gx,2,none⟩ (.string h2)).setCell ⟨gx,3,none⟩ (.slice AXh h3.length cXh)).setCell ⟨gx,4,none⟩ (.slice AXb bs.length cXb)).heap.size)
 replace OXb:=y0.mk ((((((OXb.out.set (.inr EXb_x.out) _ _).set (.inr EXb_x.out) _ _).set (.inr EXb_x.out) _ _).set (.inr EXb_x.out) _ _).set (.inr EXb_x.out) _ _):QIv.OS k33 33 loXb hiXb (.slice AXb bs.length cXb) bs (((((w6.setCell ⟨gx,0,none⟩ (.slice AXe es.length cXe)).setCell ⟨gx,1,none⟩ (.int .i64 h1)).setCell ⟨gx,2,none⟩ (.string h2)).setCell ⟨gx,3,none⟩ (.slice AXh h3.length cXh)).setCell ⟨gx,4,none⟩ (.slice AXb bs.length cXb)))
 replace LXb:=y0.mk (by simpa using LXb.out:hiXb≤(((((w6.setCell ⟨gx,0,none⟩ (.slice AXe es.length cXe)).setCell ⟨gx,1,none⟩ (.int .i64 h1)).setCell ⟨gx,2,none⟩ (.string h2)).setCell ⟨gx,3,none⟩ (.slice AXh h3.length cXh)).setCell ⟨gx,4,none⟩ (.slice AXb bs.length cXb)).heap.size)
 replace BKa:=y0.mk ((y9 (y9 (y9 (y9 (y9 BKa.out (Na_x.out) _) (Na_x.out) _) (Na_x.out) _) (Na_x.out) _) (Na_x.out) _):(((((w6.setCell ⟨gx,0,none⟩ (.slice AXe es.length cXe)).setCell ⟨gx,1,none⟩ (.int .i64 h1)).setCell ⟨gx,2,none⟩ (.string h2)).setCell ⟨gx,3,none⟩ (.slice AXh h3.length cXh)).setCell ⟨gx,4,none⟩ (.slice AXb bs.length cXb)).heap[ga]?=some (.cells #[.slice A0 l0.length c0,.int .i64 a1,.string a2,.slice A3 l3.length c3,.slice A4 l4.length c4] 28 (0,0)))
 replace BKx:=y0.mk ((blk_set (blk_set (blk_set (blk_set (blk_set BKx.out 0 (.slice AXe es.length cXe)) 1 (.int .i64 h1)) 2 (.string h2)) 3 (.slice AXh h3.length cXh)) 4 (.slice AXb bs.length cXb)):(((((w6.setCell ⟨gx,0,none⟩ (.slice AXe es.length cXe)).setCell ⟨gx,1,none⟩ (.int .i64 h1)).setCell ⟨gx,2,none⟩ (.string h2)).setCell ⟨gx,3,none⟩ (.slice AXh h3.length cXh)).setCell ⟨gx,4,none⟩ (.slice AXb bs.length cXb)).heap[gx]?=some (.cells #[.slice AXe es.length cXe,.int .i64 h1,.string h2,.slice AXh h3.length cXh,.slice AXb bs.length cXb] 36 (0,0)))
 replace HB:=y0.mk ((below_set (below_set (below_set (below_set (below_set HB.out GEx.out) GEx.out) GEx.out) GEx.out) GEx.out):Below w.heap.size w (((((w6.setCell ⟨gx,0,none⟩ (.slice AXe es.length cXe)).setCell ⟨gx,1,none⟩ (.int .i64 h1)).setCell ⟨gx,2,none⟩ (.string h2)).setCell ⟨gx,3,none⟩ (.slice AXh h3.length cXh)).setCell ⟨gx,4,none⟩ (.slice AXb bs.length cXb)))
 generalize (((((w6.setCell ⟨gx,0,none⟩ (.slice AXe es.length cXe)).setCell ⟨gx,1,none⟩ (.int .i64 h1)).setCell ⟨gx,2,none⟩ (.string h2)).setCell ⟨gx,3,none⟩ (.slice AXh h3.length cXh)).setCell ⟨gx,4,none⟩ (.slice AXb bs.length cXb))=w7 at OW LW OXe LXe OXh LXh OXb LXb BKa BKx HB ⊢
 obtain⟨Aa,Ab,Ac,Ad,Ae,Af,Ag,Ah,Ai,Aj⟩:=QIv.box5 BKa.out
 obtain⟨Ak,Al,Am,Ao,Ap,Aq,Ar,As,At,Au⟩:=QIv.box5 BKx.out
 go_upto_region 8 with(first
  | (go_at_call 9;(with_reducible refine(impl_ExpVars.calls k _ _ es h1 h2 _ _ h3 _ _ bs n gs _ OXe.out.C OXe.out.le OXh.out.C OXh.out.le OXb.out.C OXb.out.le F3.out).mono ?_);rintro e w8 ⟨v_,rfl,ho,hb⟩;obtain⟨loG,hiG,hlo_,hhi_,hOG_⟩:=QIv.OR.new ho;obtain⟨AG,cG,eA_⟩:=hOG_.slice;subst eA_;(repeat first|clear Aa|clear Ab|clear Ac|clear Ad|clear Ae|clear Ak|clear Al|clear Am|clear Ao|clear Ap|clear Af|clear Ag|clear Ah|clear Ai|clear Aj|clear Aq|clear Ar|clear As|clear At|clear Au);have OG:=y0.mk (hOG_);have LG:=y0.mk ((by rw [hhi_];exact Nat.le_refl _:hiG≤_));have BG:=y0.mk ((by rw [hlo_];exact HB.out.size:w.heap.size≤loG));have IG:=y0.mk ((by rw [hlo_,hhi_];exact hb.size:loG≤hiG));have DW_G:=y0.mk ((by rw [hlo_];exact LW.out:hiW≤loG));have DXe_G:=y0.mk ((by rw [hlo_];exact LXe.out:hiXe≤loG));have DXh_G:=y0.mk ((by rw [hlo_];exact LXh.out:hiXh≤loG));have DXb_G:=y0.mk ((by rw [hlo_];exact LXb.out:hiXb≤loG));have Ea_G:=y0.mk ((by rw [hlo_];exact QIv.ki_lt BKa.out:ga < loG));have Ex_G:=y0.mk ((by rw [hlo_];exact QIv.ki_lt BKx.out:gx < loG));replace OW:=y0.mk (OW.out.below hb);replace OXe:=y0.mk (OXe.out.below hb);replace OXh:=y0.mk (OXh.out.below hb);replace OXb:=y0.mk (OXb.out.below hb);replace LW:=y0.mk (Nat.le_trans LW.out hb.size);replace LXe:=y0.mk (Nat.le_trans LXe.out hb.size);replace LXh:=y0.mk (Nat.le_trans LXh.out hb.size);replace LXb:=y0.mk (Nat.le_trans LXb.out hb.size);replace BKa:=y0.mk (y5 (g:=ga) (o:=(.cells #[.slice A0 l0.length c0,.int .i64 a1,.string a2,.slice A3 l3.length c3,.slice A4 l4.length c4] 28 (0,0))) BKa.out hb);replace BKx:=y0.mk (y5 (g:=gx) (o:=(.cells #[.slice AXe es.length cXe,.int .i64 h1,.string h2,.slice AXh h3.length cXh,.slice AXb bs.length cXb] 36 (0,0))) BKx.out hb);replace HB:=y0.mk (y3 HB.out hb);(try clear hb);(try clear ho);(try clear hlo_);(try clear hhi_);obtain⟨Aa,Ab,Ac,Ad,Ae,Af,Ag,Ah,Ai,Aj⟩:=QIv.box5 BKa.out;obtain⟨Ak,Al,Am,Ao,Ap,Aq,Ar,As,At,Au⟩:=QIv.box5 BKx.out))
 go_upto_region 10 with(first
  | (go_at_call 10;(with_reducible refine(laws_eqStringS.calls k _ _ gs _ _ gs true _ OG.out.C OG.out.le OW.out.C OW.out.le F4.out).mono ?_);rintro e w9 ⟨rfl,hd_⟩;have hb:=hd_.below;(repeat first|clear Aa|clear Ab|clear Ac|clear Ad|clear Ae|clear Ak|clear Al|clear Am|clear Ao|clear Ap|clear Af|clear Ag|clear Ah|clear Ai|clear Aj|clear Aq|clear Ar|clear As|clear At|clear Au);replace OW:=y0.mk (OW.out.below hb);replace OXe:=y0.mk (OXe.out.below hb);replace OXh:=y0.mk (OXh.out.below hb);replace OXb:=y0.mk (OXb.out.below hb);replace OG:=y0.mk (OG.out.below hb);replace LW:=y0.mk (Nat.le_trans LW.out hb.size);replace LXe:=y0.mk (Nat.le_trans LXe.out hb.size);replace LXh:=y0.mk (Nat.le_trans LXh.out hb.size);replace LXb:=y0.mk (Nat.le_trans LXb.out hb.size);replace LG:=y0.mk (Nat.le_trans LG.out hb.size);replace BKa:=y0.mk (y5 (g:=ga) (o:=(.cells #[.slice A0 l0.length c0,.int .i64 a1,.string a2,.slice A3 l3.length c3,.slice A4 l4.length c4] 28 (0,0))) BKa.out hb);replace BKx:=y0.mk (y5 (g:=gx) (o:=(.cells #[.slice AXe es.length cXe,.int .i64 h1,.string h2,.slice AXh h3.length cXh,.slice AXb bs.length cXb] 36 (0,0))) BKx.out hb);replace HB:=y0.mk (y3 HB.out hb);(try clear hb);(try clear hd_);obtain⟨Aa,Ab,Ac,Ad,Ae,Af,Ag,Ah,Ai,Aj⟩:=QIv.box5 BKa.out;obtain⟨Ak,Al,Am,Ao,Ap,Aq,Ar,As,At,Au⟩:=QIv.box5 BKx.out))
 (repeat first|clear Aa|clear Ab|clear Ac|clear Ad|clear Ae|clear Ak|clear Al|clear Am|clear Ao|clear Ap|clear Af|clear Ag|clear Ah|clear Ai|clear Aj|clear Aq|clear Ar|clear As|clear At|clear Au)
 refine start_ (n:=5) (S:=fun w'=>w'.cell? ⟨ga,0,none⟩=some (.slice A0 l0.length c0)∧w'.cell? ⟨ga,1,none⟩=some (.int .i64 a1)∧w'.cell? ⟨ga,2,none⟩=some (.string a2)∧w'.cell? ⟨ga,3,none⟩=some (.slice A3 l3.length c3)∧w'.cell? ⟨ga,4,none⟩=some (.slice A4 l4.length c4)∧w'.cell? ⟨gx,0,none⟩=some (.slice AXe es.length cXe)∧w'.cell? ⟨gx,1,none⟩=some (.int .i64 h1)∧w'.cell? ⟨gx,2,none⟩=some (.string h2)∧w'.cell? ⟨gx,3,none⟩=some (.slice AXh h3.length cXh)∧w'.cell? ⟨gx,4,none⟩=some (.slice AXb bs.length cXb)) (ds:=[]) #[false,false,false,false,false] (by kernel_rfl) rfl rfl ⟨(y6 BKa.out 0).trans rfl,(y6 BKa.out 1).trans rfl,(y6 BKa.out 2).trans rfl,(y6 BKa.out 3).trans rfl,(y6 BKa.out 4).trans rfl,(y6 BKx.out 0).trans rfl,(y6 BKx.out 1).trans rfl,(y6 BKx.out 2).trans rfl,(y6 BKx.out 3).trans rfl,(y6 BKx.out 4).trans rfl⟩ (fun hHeld=>?_)
 replace OW:=y0.mk (OW.out.drew)
 replace OXe:=y0.mk (OXe.out.drew)
 replace OXh:=y0.mk (OXh.out.drew)
 replace OXb:=y0.mk (OXb.out.drew)
 replace OG:=y0.mk (OG.out.drew)
 replace LW:=y0.mk ((show hiW≤w9.drew.heap.size from LW.out))
 replace LXe:=y0.mk ((show hiXe≤w9.drew.heap.size from LXe.out))
 replace LXh:=y0.mk ((show hiXh≤w9.drew.heap.size from LXh.out))
 replace LXb:=y0.mk ((show hiXb≤w9.drew.heap.size from LXb.out))
 replace LG:=y0.mk ((show hiG≤w9.drew.heap.size from LG.out))
 replace BKa:=y0.mk (y7 BKa.out)
 replace BKx:=y0.mk (y7 BKx.out)
 replace HB:=y0.mk (below_drew1 HB.out)
 generalize w9.drew=Bs at OW OXe OXh OXb OG LW LXe LXh LXb LG BKa BKx HB hHeld ⊢
 refine qt 0 31 #[true,false,false,false,false] hHeld ?_
 refine qt 1 32 #[true,true,false,false,false] hHeld ?_
 refine qO 2 33 #[true,true,true,false,false] (fun K hK=>?_)
 refine goes_ Try.func8 (by kernel_rfl) rfl #[.agg #[.slice A0 l0.length c0,.int .i64 a1,.string a2,.slice A3 l3.length c3,.slice A4 l4.length c4]] (by rfl) rfl rfl (by(try simp only [qM_,List.map_cons,List.map_nil]);first|done|rfl) ?_
 (with_reducible refine(laws_toRule.iv k _ _ l0 a1 a2 _ _ l3 _ _ l4 es h1 h2 h3 bs _ (Kd.C_below Av.out HB.out) Aw.out (Kd.C_below Ay.out HB.out) Az.out (Kd.C_below Ba.out HB.out) Bb.out F1.out).mono ?_)
 rintro e_ Bd ⟨v1_,v2_,v3_,loZe,hiZe,loZh,hiZh,loZb,hiZb,rfl,o1_,o2_,o3_,i1_,i2_,i3_,i4_,i5_,i6_,i7_,hb⟩
 refine⟨_,rfl, ?_⟩
 obtain⟨AZe,cZe,eA_⟩:=o1_.slice
 subst eA_
 obtain⟨AZh,cZh,eA_⟩:=o2_.slice
 subst eA_
 obtain⟨AZb,cZb,eA_⟩:=o3_.slice
 subst eA_
 (repeat first|clear Aa|clear Ab|clear Ac|clear Ad|clear Ae|clear Ak|clear Al|clear Am|clear Ao|clear Ap|clear Af|clear Ag|clear Ah|clear Ai|clear Aj|clear Aq|clear Ar|clear As|clear At|clear Au)
 have OZe:=y0.mk (o1_)
 have OZh:=y0.mk (o2_)
 have OZb:=y0.mk (o3_)
 have IZe:=y0.mk (i2_)
 have IZh:=y0.mk (i4_)
 have IZb:=y0.mk (i6_)
 have DZe_Zh:=y0.mk (i3_)
 have DZh_Zb:=y0.mk (i5_)
 have DZe_Zb:=y0.mk ((by omega:hiZe≤loZb))
 have LZe:=y0.mk ((by omega:hiZe≤Bd.heap.size))
 have BZe:=y0.mk ((by have:=HB.out.size;omega:w.heap.size≤loZe))
 have DW_Ze:=y0.mk ((by have:=LW.out;omega:hiW≤loZe))
 have DXe_Ze:=y0.mk ((by have:=LXe.out;omega:hiXe≤loZe))
 have DXh_Ze:=y0.mk ((by have:=LXh.out;omega:hiXh≤loZe))
 have DXb_Ze:=y0.mk ((by have:=LXb.out;omega:hiXb≤loZe))
 have DG_Ze:=y0.mk ((by have:=LG.out;omega:hiG≤loZe))
 have Ea_Ze:=y0.mk ((by have:=QIv.ki_lt BKa.out;omega:ga < loZe))
 have Ex_Ze:=y0.mk ((by have:=QIv.ki_lt BKx.out;omega:gx < loZe))
 have LZh:=y0.mk ((by omega:hiZh≤Bd.heap.size))
 have BZh:=y0.mk ((by have:=HB.out.size;omega:w.heap.size≤loZh))
 have DW_Zh:=y0.mk ((by have:=LW.out;omega:hiW≤loZh))
 have DXe_Zh:=y0.mk ((by have:=LXe.out;omega:hiXe≤loZh))
 have DXh_Zh:=y0.mk ((by have:=LXh.out;omega:hiXh≤loZh))
 have DXb_Zh:=y0.mk ((by have:=LXb.out;omega:hiXb≤loZh))
 have DG_Zh:=y0.mk ((by have:=LG.out;omega:hiG≤loZh))
 have Ea_Zh:=y0.mk ((by have:=QIv.ki_lt BKa.out;omega:ga < loZh))
 have Ex_Zh:=y0.mk ((by have:=QIv.ki_lt BKx.out;omega:gx < loZh))
 have LZb:=y0.mk ((by omega:hiZb≤Bd.heap.size))
 have BZb:=y0.mk ((by have:=HB.out.size;omega:w.heap.size≤loZb))
 have DW_Zb:=y0.mk ((by have:=LW.out;omega:hiW≤loZb))
 have DXe_Zb:=y0.mk ((by have:=LXe.out;omega:hiXe≤loZb))
 have DXh_Zb:=y0.mk ((by have:=LXh.out;omega:hiXh≤loZb))
 have DXb_Zb:=y0.mk ((by have:=LXb.out;omega:hiXb≤loZb))
 have DG_Zb:=y0.mk ((by have:=LG.out;omega:hiG≤loZb))
 have Ea_Zb:=y0.mk ((by have:=QIv.ki_lt BKa.out;omega:ga < loZb))
 have Ex_Zb:=y0.mk ((by have:=QIv.ki_lt BKx.out;omega:gx < loZb))
 replace OW:=y0.mk (OW.out.below hb)
 replace OXe:=y0.mk (OXe.out.below hb)
 replace OXh:=y0.mk (OXh.out.below hb)
 replace OXb:=y0.mk (OXb.out.below hb)
 replace OG:=y0.mk (OG.out.below hb)
 replace LW:=y0.mk (Nat.le_trans LW.out hb.size)
 replace LXe:=y0.mk (Nat.le_trans LXe.out hb.size)
 replace LXh:=y0.mk (Nat.le_trans LXh.out hb.size)
 replace LXb:=y0.mk (Nat.le_trans LXb.out hb.size)
 replace LG:=y0.mk (Nat.le_trans LG.out hb.size)
 replace BKa:=y0.mk (y5 (g:=ga) (o:=(.cells #[.slice A0 l0.length c0,.int .i64 a1,.string a2,.slice A3 l3.length c3,.slice A4 l4.length c4] 28 (0,0))) BKa.out hb)
 replace BKx:=y0.mk (y5 (g:=gx) (o:=(.cells #[.slice AXe es.length cXe,.int .i64 h1,.string h2,.slice AXh h3.length cXh,.slice AXb bs.length cXb] 36 (0,0))) BKx.out hb)
 replace HB:=y0.mk (y3 HB.out hb)
 clear o1_ o2_ o3_ i1_ i2_ i3_ i4_ i5_ i6_ i7_ hb
 obtain⟨Aa,Ab,Ac,Ad,Ae,Af,Ag,Ah,Ai,Aj⟩:=QIv.box5 BKa.out
 obtain⟨Ak,Al,Am,Ao,Ap,Aq,Ar,As,At,Au⟩:=QIv.box5 BKx.out
 (repeat first|clear Aa|clear Ab|clear Ac|clear Ad|clear Ae|clear Ak|clear Al|clear Am|clear Ao|clear Ap|clear Af|clear Ag|clear Ah|clear Ai|clear Aj|clear Aq|clear Ar|clear As|clear At|clear Au)
 refine hK.out _ _ ⟨(y6 BKa.out 0).trans rfl,(y6 BKa.out 1).trans rfl,(y6 BKa.out 2).trans rfl,(y6 BKa.out 3).trans rfl,(y6 BKa.out 4).trans rfl,(y6 BKx.out 0).trans rfl,(y6 BKx.out 1).trans rfl,(y6 BKx.out 2).trans rfl,(y6 BKx.out 3).trans rfl,(y6 BKx.out 4).trans rfl⟩ (fun hHeld=>?_)
 clear hK K
 refine qx 33 ?_
 refine qO 3 34 #[true,true,true,true,false] (fun K hK=>?_)
 refine goes_ Try.func11 (by kernel_rfl) rfl #[.agg #[.slice AXe es.length cXe,.int .i64 h1,.string h2,.slice AXh h3.length cXh,.slice AXb bs.length cXb],.agg #[.slice AZe es.length cZe,.int .i64 h1,.string h2,.slice AZh h3.length cZh,.slice AZb bs.length cZb]] (by rfl) rfl rfl (by(try simp only [qM_,List.map_cons,List.map_nil]);first|done|rfl) ?_
 (with_reducible refine(laws_eqRule.calls k _ _ es h1 h2 _ _ h3 _ _ bs _ _ es h1 h2 _ _ h3 _ _ bs true _ OXe.out.C OXe.out.le OXh.out.C OXh.out.le OXb.out.C OXb.out.le OZe.out.C OZe.out.le OZh.out.C OZh.out.le OZb.out.C OZb.out.le F5.out).mono ?_)
 rintro e Bt ⟨rfl,hb⟩
 refine⟨_,rfl, ?_⟩
 (repeat first|clear Aa|clear Ab|clear Ac|clear Ad|clear Ae|clear Ak|clear Al|clear Am|clear Ao|clear Ap|clear Af|clear Ag|clear Ah|clear Ai|clear Aj|clear Aq|clear Ar|clear As|clear At|clear Au)
 replace OW:=y0.mk (OW.out.below hb)
 replace OXe:=y0.mk (OXe.out.below hb)
 replace OXh:=y0.mk (OXh.out.below hb)
 replace OXb:=y0.mk (OXb.out.below hb)
 replace OG:=y0.mk (OG.out.below hb)
 replace OZe:=y0.mk (OZe.out.below hb)
 replace OZh:=y0.mk (OZh.out.below hb)
 replace OZb:=y0.mk (OZb.out.below hb)
 replace LW:=y0.mk (Nat.le_trans LW.out hb.size)
 replace LXe:=y0.mk (Nat.le_trans LXe.out hb.size)
 replace LXh:=y0.mk (Nat.le_trans LXh.out hb.size)
 replace LXb:=y0.mk (Nat.le_trans LXb.out hb.size)
 replace LG:=y0.mk (Nat.le_trans LG.out hb.size)
 replace LZe:=y0.mk (Nat.le_trans LZe.out hb.size)
 replace LZh:=y0.mk (Nat.le_trans LZh.out hb.size)
 replace LZb:=y0.mk (Nat.le_trans LZb.out hb.size)
 replace BKa:=y0.mk (y5 (g:=ga) (o:=(.cells #[.slice A0 l0.length c0,.int .i64 a1,.string a2,.slice A3 l3.length c3,.slice A4 l4.length c4] 28 (0,0))) BKa.out hb)
 replace BKx:=y0.mk (y5 (g:=gx) (o:=(.cells #[.slice AXe es.length cXe,.int .i64 h1,.string h2,.slice AXh h3.length cXh,.slice AXb bs.length cXb] 36 (0,0))) BKx.out hb)
 replace HB:=y0.mk (y3 HB.out hb)
 (try clear hb)
 obtain⟨Aa,Ab,Ac,Ad,Ae,Af,Ag,Ah,Ai,Aj⟩:=QIv.box5 BKa.out
 obtain⟨Ak,Al,Am,Ao,Ap,Aq,Ar,As,At,Au⟩:=QIv.box5 BKx.out
 (repeat first|clear Aa|clear Ab|clear Ac|clear Ad|clear Ae|clear Ak|clear Al|clear Am|clear Ao|clear Ap|clear Af|clear Ag|clear Ah|clear Ai|clear Aj|clear Aq|clear Ar|clear As|clear At|clear Au)
 refine hK.out _ _ ⟨(y6 BKa.out 0).trans rfl,(y6 BKa.out 1).trans rfl,(y6 BKa.out 2).trans rfl,(y6 BKa.out 3).trans rfl,(y6 BKa.out 4).trans rfl,(y6 BKx.out 0).trans rfl,(y6 BKx.out 1).trans rfl,(y6 BKx.out 2).trans rfl,(y6 BKx.out 3).trans rfl,(y6 BKx.out 4).trans rfl⟩ (fun hHeld=>?_)
 clear hK K
 refine qx 34 ?_
 refine qp 4 35 #[true,true,true,true,true] ?_
 refine done_ (by kernel_rfl) ?_
 clear OZe LZe
 clear OZh LZh
 clear OZb LZb
 clear hHeld
 obtain⟨Aa,Ab,Ac,Ad,Ae,Af,Ag,Ah,Ai,Aj⟩:=QIv.box5 BKa.out
 obtain⟨Ak,Al,Am,Ao,Ap,Aq,Ar,As,At,Au⟩:=QIv.box5 BKx.out
 go_upto_region 14 with(first
  | (go_at_call 12;(with_reducible refine(laws_markRule.calls k loXe hiXe loXh hiXh loXb hiXb _ _ es h1 h2 _ _ h3 _ _ bs 1 m1 w _ HB.out BXe.out IXe.out DXe_Xh.out IXh.out DXh_Xb.out IXb.out LXb.out OXe.out OXh.out OXb.out F6.out).mono ?_);rintro e_ Bu ⟨rfl,hb,hk⟩;(repeat first|clear Aa|clear Ab|clear Ac|clear Ad|clear Ae|clear Ak|clear Al|clear Am|clear Ao|clear Ap|clear Af|clear Ag|clear Ah|clear Ai|clear Aj|clear Aq|clear Ar|clear As|clear At|clear Au);replace OW:=y0.mk (OW.out.ki hk (.inl DW_Xe.out));replace LW:=y0.mk (Nat.le_trans LW.out hk.1);replace OG:=y0.mk (OG.out.ki hk (.inr DXb_G.out));replace LG:=y0.mk (Nat.le_trans LG.out hk.1);replace BKa:=y0.mk (QIv.ki_blk BKa.out hk (.inl Ea_Xe.out));replace BKx:=y0.mk (QIv.ki_blk BKx.out hk (.inr EXb_x.out));replace HB:=y0.mk (hb);clear hb hk OXe LXe OXh LXh OXb LXb;obtain⟨Aa,Ab,Ac,Ad,Ae,Af,Ag,Ah,Ai,Aj⟩:=QIv.box5 BKa.out;obtain⟨Ak,Al,Am,Ao,Ap,Aq,Ar,As,At,Au⟩:=QIv.box5 BKx.out))
 go_upto_region 16 with(first
  | (go_at_call 10;(with_reducible refine(laws_eqStringS.calls k _ _ gs _ _ gs true _ OG.out.C OG.out.le OW.out.C OW.out.le F4.out).mono ?_);rintro e Bv ⟨rfl,hd_⟩;have hb:=hd_.below;(repeat first|clear Aa|clear Ab|clear Ac|clear Ad|clear Ae|clear Ak|clear Al|clear Am|clear Ao|clear Ap|clear Af|clear Ag|clear Ah|clear Ai|clear Aj|clear Aq|clear Ar|clear As|clear At|clear Au);replace OW:=y0.mk (OW.out.below hb);replace OG:=y0.mk (OG.out.below hb);replace LW:=y0.mk (Nat.le_trans LW.out hb.size);replace LG:=y0.mk (Nat.le_trans LG.out hb.size);replace BKa:=y0.mk (y5 (g:=ga) (o:=(.cells #[.slice A0 l0.length c0,.int .i64 a1,.string a2,.slice A3 l3.length c3,.slice A4 l4.length c4] 28 (0,0))) BKa.out hb);replace BKx:=y0.mk (y5 (g:=gx) (o:=(.cells #[.slice AXe es.length cXe,.int .i64 h1,.string h2,.slice AXh h3.length cXh,.slice AXb bs.length cXb] 36 (0,0))) BKx.out hb);replace HB:=y0.mk (y3 HB.out hb);(try clear hb);(try clear hd_);obtain⟨Aa,Ab,Ac,Ad,Ae,Af,Ag,Ah,Ai,Aj⟩:=QIv.box5 BKa.out;obtain⟨Ak,Al,Am,Ao,Ap,Aq,Ar,As,At,Au⟩:=QIv.box5 BKx.out))
 go_upto_region 18 with(first
  | (go_at_call 13;(with_reducible refine(laws_markStringS.ivs k loG hiG _ _ gs 1 m3 gm w _ HB.out BG.out OG.out F8.out).mono ?_);rintro e Bw ⟨rfl,ho,hb,hk⟩;(repeat first|clear Aa|clear Ab|clear Ac|clear Ad|clear Ae|clear Ak|clear Al|clear Am|clear Ao|clear Ap|clear Af|clear Ag|clear Ah|clear Ai|clear Aj|clear Aq|clear Ar|clear As|clear At|clear Au);replace OW:=y0.mk (OW.out.ki hk (.inl DW_G.out));replace LW:=y0.mk (Nat.le_trans LW.out hk.1);replace LG:=y0.mk (Nat.le_trans LG.out hk.1);replace BKa:=y0.mk (QIv.ki_blk BKa.out hk (.inl Ea_G.out));replace BKx:=y0.mk (QIv.ki_blk BKx.out hk (.inl Ex_G.out));replace HB:=y0.mk (hb);replace OG:=y0.mk (ho);(try clear hb);(try clear ho);(try clear hk);obtain⟨Aa,Ab,Ac,Ad,Ae,Af,Ag,Ah,Ai,Aj⟩:=QIv.box5 BKa.out;obtain⟨Ak,Al,Am,Ao,Ap,Aq,Ar,As,At,Au⟩:=QIv.box5 BKx.out))
 go_upto_region 24 with(first
  | (go_at_call 14;(with_reducible refine(HELD.out _ _ _ OG.out.C (by have h_:=QIv.OR.len OG.out;have:=HGL.out;omega)).mono ?_);rintro e Bx ⟨rfl,hb⟩;(repeat first|clear Aa|clear Ab|clear Ac|clear Ad|clear Ae|clear Ak|clear Al|clear Am|clear Ao|clear Ap|clear Af|clear Ag|clear Ah|clear Ai|clear Aj|clear Aq|clear Ar|clear As|clear At|clear Au);replace OW:=y0.mk (OW.out.below hb);replace OG:=y0.mk (OG.out.below hb);replace LW:=y0.mk (Nat.le_trans LW.out hb.size);replace LG:=y0.mk (Nat.le_trans LG.out hb.size);replace BKa:=y0.mk (y5 (g:=ga) (o:=(.cells #[.slice A0 l0.length c0,.int .i64 a1,.string a2,.slice A3 l3.length c3,.slice A4 l4.length c4] 28 (0,0))) BKa.out hb);replace BKx:=y0.mk (y5 (g:=gx) (o:=(.cells #[.slice AXe es.length cXe,.int .i64 h1,.string h2,.slice AXh h3.length cXh,.slice AXb bs.length cXb] 36 (0,0))) BKx.out hb);replace HB:=y0.mk (y3 HB.out hb);(try clear hb);obtain⟨Aa,Ab,Ac,Ad,Ae,Af,Ag,Ah,Ai,Aj⟩:=QIv.box5 BKa.out;obtain⟨Ak,Al,Am,Ao,Ap,Aq,Ar,As,At,Au⟩:=QIv.box5 BKx.out))
 go_upto_region 25 with(first
  | (go_at_call 8;(with_reducible refine(laws_toRule.iv k _ _ l0 a1 a2 _ _ l3 _ _ l4 es h1 h2 h3 bs _ (Kd.C_below Av.out HB.out) Aw.out (Kd.C_below Ay.out HB.out) Az.out (Kd.C_below Ba.out HB.out) Bb.out F1.out).mono ?_);rintro e_ Be ⟨v1_,v2_,v3_,loQe,hiQe,loQh,hiQh,loQb,hiQb,rfl,o1_,o2_,o3_,i1_,i2_,i3_,i4_,i5_,i6_,i7_,hb⟩;obtain⟨AQe,cQe,eA_⟩:=o1_.slice;subst eA_;obtain⟨AQh,cQh,eA_⟩:=o2_.slice;subst eA_;obtain⟨AQb,cQb,eA_⟩:=o3_.slice;subst eA_;(repeat first|clear Aa|clear Ab|clear Ac|clear Ad|clear Ae|clear Ak|clear Al|clear Am|clear Ao|clear Ap|clear Af|clear Ag|clear Ah|clear Ai|clear Aj|clear Aq|clear Ar|clear As|clear At|clear Au);have OQe:=y0.mk (o1_);have OQh:=y0.mk (o2_);have OQb:=y0.mk (o3_);have IQe:=y0.mk (i2_);have IQh:=y0.mk (i4_);have IQb:=y0.mk (i6_);have DQe_Qh:=y0.mk (i3_);have DQh_Qb:=y0.mk (i5_);have DQe_Qb:=y0.mk ((by omega:hiQe≤loQb));have LQe:=y0.mk ((by omega:hiQe≤Be.heap.size));have BQe:=y0.mk ((by have:=HB.out.size;omega:w.heap.size≤loQe));have DW_Qe:=y0.mk ((by have:=LW.out;omega:hiW≤loQe));have DG_Qe:=y0.mk ((by have:=LG.out;omega:hiG≤loQe));have Ea_Qe:=y0.mk ((by have:=QIv.ki_lt BKa.out;omega:ga < loQe));have Ex_Qe:=y0.mk ((by have:=QIv.ki_lt BKx.out;omega:gx < loQe));have LQh:=y0.mk ((by omega:hiQh≤Be.heap.size));have BQh:=y0.mk ((by have:=HB.out.size;omega:w.heap.size≤loQh));have DW_Qh:=y0.mk ((by have:=LW.out;omega:hiW≤loQh));have DG_Qh:=y0.mk ((by have:=LG.out;omega:hiG≤loQh));have Ea_Qh:=y0.mk ((by have:=QIv.ki_lt BKa.out;omega:ga < loQh));have Ex_Qh:=y0.mk ((by have:=QIv.ki_lt BKx.out;omega:gx < loQh));have LQb:=y0.mk ((by omega:hiQb≤Be.heap.size));have BQb:=y0.mk ((by have:=HB.out.size;omega:w.heap.size≤loQb));have DW_Qb:=y0.mk ((by have:=LW.out;omega:hiW≤loQb));have DG_Qb:=y0.mk ((by have:=LG.out;omega:hiG≤loQb));have Ea_Qb:=y0.mk ((by have:=QIv.ki_lt BKa.out;omega:ga < loQb));have Ex_Qb:=y0.mk ((by have:=QIv.ki_lt BKx.out;omega:gx < loQb));replace OW:=y0.mk (OW.out.below hb);replace OG:=y0.mk (OG.out.below hb);replace LW:=y0.mk (Nat.le_trans LW.out hb.size);replace LG:=y0.mk (Nat.le_trans LG.out hb.size);replace BKa:=y0.mk (y5 (g:=ga) (o:=(.cells #[.slice A0 l0.length c0,.int .i64 a1,.string a2,.slice A3 l3.length c3,.slice A4 l4.length c4] 28 (0,0))) BKa.out hb);replace BKx:=y0.mk (y5 (g:=gx) (o:=(.cells #[.slice AXe es.length cXe,.int .i64 h1,.string h2,.slice AXh h3.length cXh,.slice AXb bs.length cXb] 36 (0,0))) BKx.out hb);replace HB:=y0.mk (y3 HB.out hb);clear o1_ o2_ o3_ i1_ i2_ i3_ i4_ i5_ i6_ i7_ hb;obtain⟨Aa,Ab,Ac,Ad,Ae,Af,Ag,Ah,Ai,Aj⟩:=QIv.box5 BKa.out;obtain⟨Ak,Al,Am,Ao,Ap,Aq,Ar,As,At,Au⟩:=QIv.box5 BKx.out)
  | (go_at_call 9;(with_reducible refine(impl_ExpVars.calls k _ _ es h1 h2 _ _ h3 _ _ bs n gs _ OQe.out.C OQe.out.le OQh.out.C OQh.out.le OQb.out.C OQb.out.le F3.out).mono ?_);rintro e Bz ⟨v_,rfl,ho,hb⟩;obtain⟨loH,hiH,hlo_,hhi_,hOH_⟩:=QIv.OR.new ho;obtain⟨AH,cH,eA_⟩:=hOH_.slice;subst eA_;(repeat first|clear Aa|clear Ab|clear Ac|clear Ad|clear Ae|clear Ak|clear Al|clear Am|clear Ao|clear Ap|clear Af|clear Ag|clear Ah|clear Ai|clear Aj|clear Aq|clear Ar|clear As|clear At|clear Au);have OH:=y0.mk (hOH_);have LH:=y0.mk ((by rw [hhi_];exact Nat.le_refl _:hiH≤_));have BH:=y0.mk ((by rw [hlo_];exact HB.out.size:w.heap.size≤loH));have IH:=y0.mk ((by rw [hlo_,hhi_];exact hb.size:loH≤hiH));have DW_H:=y0.mk ((by rw [hlo_];exact LW.out:hiW≤loH));have DG_H:=y0.mk ((by rw [hlo_];exact LG.out:hiG≤loH));have DQe_H:=y0.mk ((by rw [hlo_];exact LQe.out:hiQe≤loH));have DQh_H:=y0.mk ((by rw [hlo_];exact LQh.out:hiQh≤loH));have DQb_H:=y0.mk ((by rw [hlo_];exact LQb.out:hiQb≤loH));have Ea_H:=y0.mk ((by rw [hlo_];exact QIv.ki_lt BKa.out:ga < loH));have Ex_H:=y0.mk ((by rw [hlo_];exact QIv.ki_lt BKx.out:gx < loH));replace OW:=y0.mk (OW.out.below hb);replace OG:=y0.mk (OG.out.below hb);replace OQe:=y0.mk (OQe.out.below hb);replace OQh:=y0.mk (OQh.out.below hb);replace OQb:=y0.mk (OQb.out.below hb);replace LW:=y0.mk (Nat.le_trans LW.out hb.size);replace LG:=y0.mk (Nat.le_trans LG.out hb.size);replace LQe:=y0.mk (Nat.le_trans LQe.out hb.size);replace LQh:=y0.mk (Nat.le_trans LQh.out hb.size);replace LQb:=y0.mk (Nat.le_trans LQb.out hb.size);replace BKa:=y0.mk (y5 (g:=ga) (o:=(.cells #[.slice A0 l0.length c0,.int .i64 a1,.string a2,.slice A3 l3.length c3,.slice A4 l4.length c4] 28 (0,0))) BKa.out hb);replace BKx:=y0.mk (y5 (g:=gx) (o:=(.cells #[.slice AXe es.length cXe,.int .i64 h1,.string h2,.slice AXh h3.length cXh,.slice AXb bs.length cXb] 36 (0,0))) BKx.out hb);replace HB:=y0.mk (y3 HB.out hb);(try clear hb);(try clear ho);(try clear hlo_);(try clear hhi_);obtain⟨Aa,Ab,Ac,Ad,Ae,Af,Ag,Ah,Ai,Aj⟩:=QIv.box5 BKa.out;obtain⟨Ak,Al,Am,Ao,Ap,Aq,Ar,As,At,Au⟩:=QIv.box5 BKx.out))
 clear OQe LQe
 clear OQh LQh
 clear OQb LQb
 go_upto_region 27 with(first
  | (go_at_call 10;(with_reducible refine(laws_eqStringS.calls k _ _ gs _ _ gs true _ OH.out.C OH.out.le OW.out.C OW.out.le F4.out).mono ?_);rintro e Ca ⟨rfl,hd_⟩;have hb:=hd_.below;(repeat first|clear Aa|clear Ab|clear Ac|clear Ad|clear Ae|clear Ak|clear Al|clear Am|clear Ao|clear Ap|clear Af|clear Ag|clear Ah|clear Ai|clear Aj|clear Aq|clear Ar|clear As|clear At|clear Au);replace OW:=y0.mk (OW.out.below hb);replace OG:=y0.mk (OG.out.below hb);replace OH:=y0.mk (OH.out.below hb);replace LW:=y0.mk (Nat.le_trans LW.out hb.size);replace LG:=y0.mk (Nat.le_trans LG.out hb.size);replace LH:=y0.mk (Nat.le_trans LH.out hb.size);replace BKa:=y0.mk (y5 (g:=ga) (o:=(.cells #[.slice A0 l0.length c0,.int .i64 a1,.string a2,.slice A3 l3.length c3,.slice A4 l4.length c4] 28 (0,0))) BKa.out hb);replace BKx:=y0.mk (y5 (g:=gx) (o:=(.cells #[.slice AXe es.length cXe,.int .i64 h1,.string h2,.slice AXh h3.length cXh,.slice AXb bs.length cXb] 36 (0,0))) BKx.out hb);replace HB:=y0.mk (y3 HB.out hb);(try clear hb);(try clear hd_);obtain⟨Aa,Ab,Ac,Ad,Ae,Af,Ag,Ah,Ai,Aj⟩:=QIv.box5 BKa.out;obtain⟨Ak,Al,Am,Ao,Ap,Aq,Ar,As,At,Au⟩:=QIv.box5 BKx.out))
 go_wp2_with (first
  | (go_at_call 14;(with_reducible refine(HELD.out _ _ _ OG.out.C (by have h_:=QIv.OR.len OG.out;have:=HGL.out;omega)).mono ?_);rintro e Cb ⟨rfl,hb⟩;(repeat first|clear Aa|clear Ab|clear Ac|clear Ad|clear Ae|clear Ak|clear Al|clear Am|clear Ao|clear Ap|clear Af|clear Ag|clear Ah|clear Ai|clear Aj|clear Aq|clear Ar|clear As|clear At|clear Au);replace OW:=y0.mk (OW.out.below hb);replace OG:=y0.mk (OG.out.below hb);replace OH:=y0.mk (OH.out.below hb);replace LW:=y0.mk (Nat.le_trans LW.out hb.size);replace LG:=y0.mk (Nat.le_trans LG.out hb.size);replace LH:=y0.mk (Nat.le_trans LH.out hb.size);replace BKa:=y0.mk (y5 (g:=ga) (o:=(.cells #[.slice A0 l0.length c0,.int .i64 a1,.string a2,.slice A3 l3.length c3,.slice A4 l4.length c4] 28 (0,0))) BKa.out hb);replace BKx:=y0.mk (y5 (g:=gx) (o:=(.cells #[.slice AXe es.length cXe,.int .i64 h1,.string h2,.slice AXh h3.length cXh,.slice AXb bs.length cXb] 36 (0,0))) BKx.out hb);replace HB:=y0.mk (y3 HB.out hb);(try clear hb);obtain⟨Aa,Ab,Ac,Ad,Ae,Af,Ag,Ah,Ai,Aj⟩:=QIv.box5 BKa.out;obtain⟨Ak,Al,Am,Ao,Ap,Aq,Ar,As,At,Au⟩:=QIv.box5 BKx.out))
 go_ret
 exact⟨by first|rfl|(simp [y10,y11] <;> rfl),HB.out⟩
/-- THE ONE PURE STATEMENT of laws_FnExactExpVars. -/
def laws_FnExactExpVars.Pure:Prop:=∀(x0:S28) (a1:Int),okT28 x0→(fun a=>(Lit.int .i64 a).wf=true) a1→∃ k,laws_FnExactExpVars.Run k x0.f0 x0.f1.f0 x0.f1.f1 x0.f1.f2 x0.f2 a1
theorem laws_FnExactExpVars.walk (P:laws_FnExactExpVars.Pure) (x0:S28) (a1:Int) (A0_0:Option Addr) (c0_0:Nat) (A0_3:Option Addr) (c0_3:Nat) (A0_4:Option Addr) (c0_4:Nat) (w:World) (hr0_0:Kd.C k69 w A0_0 x0.f0.length x0.f0) (hc0_0:x0.f0.length≤c0_0) (hr0_3:Kd.C (Kd.int .i64) w A0_3 x0.f1.f2.length x0.f1.f2) (hc0_3:x0.f1.f2.length≤c0_3) (hr0_4:Kd.C k25 w A0_4 x0.f2.length x0.f2) (hc0_4:x0.f2.length≤c0_4) (k0:okT28 x0) (k1:(fun a=>(Lit.int .i64 a).wf=true) a1) :
  Calls Try.prog 3 #[.agg #[.slice A0_0 x0.f0.length c0_0,.int .i64 x0.f1.f0,.string x0.f1.f1,.slice A0_3 x0.f1.f2.length c0_3,.slice A0_4 x0.f2.length c0_4],.int .i64 a1] w fun e w'=>e=.returned (.bool true)∧Below w.heap.size w w':=by
 obtain⟨k,h⟩:=P x0 a1 k0 k1
 refine(laws_FnExactExpVars.calls k A0_0 c0_0 x0.f0 x0.f1.f0 x0.f1.f1 A0_3 c0_3 x0.f1.f2 A0_4 c0_4 x0.f2 a1 w hr0_0 hc0_0 hr0_3 hc0_3 hr0_4 hc0_4 h).mono ?_
 rintro e w' ⟨rfl,hd⟩
 exact⟨rfl,hd⟩
end Go.Proofs.Ytkdabljlfbmpdaa.Pg
