-- Cut by prune.py, a program of this session, out of the texts of this claim: Lean checks it.
import Derived.Test.YtkajecadkkgfmaaGreatDoorVsqPnx0
import Derived.Test.YtkajecadkkgfmaaGreatDoorVsqPnx17
import Derived.Test.YtkajecadkkgfmaaGreatDoorVsqPnx9
import Derived.Test.YtkajecadkkgfmaaGreatDoorVsqPnx30
section
namespace Go.Proofs.YtkajecadkkgfmaaGreatDoor.Pn
open Go.RowKit Go.Proofs.YtkajecadkkgfmaaGreatDoorW.PrintWords Go.Proofs.YtkajecadkkgfmaaGreatDoorW.PrintLast Go.Proofs.YtkajecadkkgfmaaGreatDoorW.PrintMore
attribute [local go_sem] max2_int min2_int max_two min_two max_three min_three max_four min_four   -- for this text's walks alone
set_option linter.unusedVariables false
set_option linter.unusedSimpArgs false
def slices_Equal_string_string.l0:Nat→List ByteArray→List ByteArray→Int→Int→Option (Bool)
 | 0,_,_,_,_=>none
 | k + 1,x0,x1,x12,x13=>if x13 < x12 then(if 0≤x13 then(if x13 < (x0.length:Int)then(if x13 < (x1.length:Int)then(if(rdOf ByteArray.empty x0 x13).toList=(rdOf ByteArray.empty x1 x13).toList then(slices_Equal_string_string.l0 k x0 x1 x12 (wrap64 (x13 + 1)))else(some false))else(none))else(none))else(none))else(some true)
def slices_Equal_string_string.f (k:Nat) (l0:List ByteArray) (l1:List ByteArray):Option (Bool):=if(l0.length:Int)=(l1.length:Int)then(slices_Equal_string_string.l0 k l0 l1 (l0.length:Int) 0)else(some false)
set_option maxHeartbeats 8000000 in
set_option maxRecDepth 100000 in
theorem slices_Equal_string_string.calls (k:Nat) (A0:Option Addr) (c0:Nat) (l0:List ByteArray) (A1:Option Addr) (c1:Nat) (l1:List ByteArray) (r:Bool) (w:World) (Aq:Kd.C Kd.string w A0 l0.length l0) (As:l0.length≤c0) (At:Kd.C Kd.string w A1 l1.length l1) (Au:l1.length≤c1) (h:slices_Equal_string_string.f k l0 l1=some r) :
  Calls Tryz.prog 55 #[.slice A0 l0.length c0,.slice A1 l1.length c1] w fun e w'=>e=.returned (.bool r)∧y1 w w':=by
 have Ay:=y0.mk Aq
 have Be:=y0.mk As
 clear Aq As
 have Az:=y0.mk At
 have Bf:=y0.mk Au
 clear At Au
 have H:(if(l0.length:Int)=(l1.length:Int)then(slices_Equal_string_string.l0 k l0 l1 (l0.length:Int) 0)else(some false))=some r:=h
 clear h
 by_cases c3:(l0.length:Int)=(l1.length:Int)
 ·rw [if_pos c3]at H
  have Af:((l0.length:Int) == (l1.length:Int))=true:=beq_iff_eq.mpr c3
  have Ag:((l0.length:Int) != (l1.length:Int))=false:=bne_eq_false_iff_eq.mpr c3
  have Ah:(l0.length == l1.length)=true:=by first|simpa using c3|(simp at c3 ⊢;omega)
  clear c3
  have H':=y0.mk H
  clear H
  go_enter Tryz.func55,Tryz.ntmps55
  go_wp2
  repeat(go_quiet (fail);try go_wp2)
  go_loopg [13] k (fun kq Ba w'=>∃(Aa:Int),Ba=.int .i64 Aa∧y0 (slices_Equal_string_string.l0 kq l0 l1 (l0.length:Int) Aa=some r)∧y0 (kq≤k)∧y1 w w')
  case atStart=>exact⟨(0),qy2,H',⟨Nat.le_refl _⟩,by repeat(first|exact y1.refl _|apply y1.step)⟩
  case round =>
   clear H'
   (try clear Af Ag Ah)
   obtain⟨Aa,rfl,HA,Av,⟨m1,rfl⟩⟩:=hrel
   cases gk with
   | zero=>exact absurd HA.out (by simp [slices_Equal_string_string.l0])
   | succ k1 =>
    have H:=HA.out
    clear HA
    simp only [slices_Equal_string_string.l0]at H
    by_cases c4:Aa < (l0.length:Int)
    ·rw [if_pos c4]at H
     have Ak:=decide_eq_true c4
     clear c4
     obtain⟨c5,H⟩:=qo H
     have Bb:decide (0≤Aa)=true:=decide_eq_true c5
     clear c5
     obtain⟨c6,H⟩:=qo H
     have Bc:decide (Aa < (l0.length:Int))=true:=decide_eq_true c6
     clear c6
     obtain⟨c7,H⟩:=qo H
     have Bd:decide (Aa < (l1.length:Int))=true:=decide_eq_true c7
     clear c7
     have Ab:0≤(Aa:Int):=of_decide_eq_true qy1
     have Ac:Aa < (l0.length:Int):=of_decide_eq_true qy1
     obtain⟨Aw,Al,Ai⟩:=Kd.at_string Ay.out Aa Ab Ac
     cases Al
     replace Ab:=eq_true Ab
     replace Ac:=eq_true Ac
     have Ad:0≤(Aa:Int):=of_decide_eq_true qy1
     have Ae:Aa < (l1.length:Int):=of_decide_eq_true qy1
     obtain⟨Ax,Am,Aj⟩:=Kd.at_string Az.out Aa Ad Ae
     cases Am
     replace Ad:=eq_true Ad
     replace Ae:=eq_true Ae
     by_cases c8:(rdOf ByteArray.empty l0 Aa).toList=(rdOf ByteArray.empty l1 Aa).toList
     ·rw [if_pos c8]at H
      have Ao:((rdOf ByteArray.empty l0 Aa).toList == (rdOf ByteArray.empty l1 Aa).toList)=true:=beq_iff_eq.mpr c8
      have Ap:((rdOf ByteArray.empty l0 Aa).toList != (rdOf ByteArray.empty l1 Aa).toList)=false:=bne_eq_false_iff_eq.mpr c8
      clear c8
      have H':=y0.mk H
      clear H
      go_wp2
      repeat(go_quiet (fail);try go_wp2)
      go_roundg k1
      case measure=>have:=Av.out;omega
      exact⟨(wrap64 (Aa + 1)),qy2,H',⟨by have:=Av.out;omega⟩,by repeat(first|exact y1.refl _|apply y1.step)⟩
     ·rw [if_neg c8]at H
      have Ao:((rdOf ByteArray.empty l0 Aa).toList == (rdOf ByteArray.empty l1 Aa).toList)=false:=beq_eq_false_iff_ne.mpr c8
      have Ap:((rdOf ByteArray.empty l0 Aa).toList != (rdOf ByteArray.empty l1 Aa).toList)=true:=bne_iff_ne.mpr c8
      obtain rfl:=Option.some.inj H
      go_wp2
      repeat(go_quiet (fail);try go_wp2)
      go_ret
      exact qf2
    ·rw [if_neg c4]at H
     have Ak:=decide_eq_false c4
     clear c4
     obtain rfl:=Option.some.inj H
     go_wp2
     repeat(go_quiet (fail);try go_wp2)
     go_ret
     exact qf2
 ·rw [if_neg c3]at H
  have Af:((l0.length:Int) == (l1.length:Int))=false:=beq_eq_false_iff_ne.mpr c3
  have Ag:((l0.length:Int) != (l1.length:Int))=true:=bne_iff_ne.mpr c3
  have Ah:(l0.length == l1.length)=false:=by first|simpa using c3|(simp at c3 ⊢;omega)
  obtain rfl:=Option.some.inj H
  go_enter Tryz.func55,Tryz.ntmps55
  go_wp2
  repeat(go_quiet (fail);try go_wp2)
  go_ret
  exact qf2
def impl_RelSeek.l0:Nat→List ByteArray→List (S36)→List (S36)→Int→Int→Option ((List (S36)))
 | 0,_,_,_,_,_=>none
 | k + 1,x1,x5,x13,x14,x15=>if x15 < x14 then(if 0≤x15 then(if x15 < (x13.length:Int)then(if(x1.length:Int)≤(((y20 x13 x15).f0).length:Int)then(if 0≤(x1.length:Int)then((slices_Equal_string_string.f k (((y20 x13 x15).f0).take ((x1.length:Int):Int).toNat) x1).bind fun t626=>(if t626=true then((impl_copyTuple.f ((y20 x13 x15).f0)).bind fun t627=>(if x5.length < 5864062014805 then(impl_RelSeek.l0 k x1 (x5 ++ [(⟨t627⟩:S36)]) x13 x14 (wrap64 (x15 + 1)))else(none)))else(impl_RelSeek.l0 k x1 x5 x13 x14 (wrap64 (x15 + 1)))))else(none))else(impl_RelSeek.l0 k x1 x5 x13 x14 (wrap64 (x15 + 1))))else(none))else(none))else(some x5)
def impl_RelSeek.f (k:Nat) (a0_0:Int) (l0_1:List (S36)) (l1:List ByteArray):Option ((List (S36))):=(impl_isRel.f k a0_0 l0_1).bind fun t619=>(if t619=true then(impl_RelSeek.l0 k l1 (([]:List (S36))) l0_1 (l0_1.length:Int) 0)else(some ([]:List (S36))))
set_option maxHeartbeats 8000000 in
set_option maxRecDepth 100000 in
theorem impl_RelSeek.calls (k:Nat) (Aq:Int) (Ay:Option Addr) (Au:Nat) (Ac:List (S36)) (A1:Option Addr) (c1:Nat) (l1:List ByteArray) (r:List (S36)) (w:World) (Bl:Kd.C k36 w Ay Ac.length Ac) (Bm:Ac.length≤Au) (Dn:Kd.C Kd.string w A1 l1.length l1) (Do:l1.length≤c1) (hT:Tb w) (h:impl_RelSeek.f k Aq Ac l1=some r) :
  Calls Tryz.prog 21 #[.agg #[.int .i64 Aq,.slice Ay Ac.length Au],.slice A1 l1.length c1] w fun e w'=>∃ v0_:Value,e=.returned (v0_)∧Kd.S k36 36 w' w.heap.size (fun _=>True) v0_ r∧Below w.heap.size w w':=by
 have Eg:=Tryz.underlying32
 have Eh:=Tryz.underlying36
 have HT:=y0.mk hT
 clear hT
 have Av:=y0.mk Bl
 have Bn:=y0.mk Bm
 clear Bl Bm
 have Dp:=y0.mk Dn
 have Dq:=y0.mk Do
 clear Dn Do
 have HB:=y0.mk (Below.refl w.heap.size w)
 have H:((impl_isRel.f k Aq Ac).bind fun Bw=>(if Bw=true then(impl_RelSeek.l0 k l1 (([]:List (S36))) Ac (Ac.length:Int) 0)else(some ([]:List (S36)))))=some r:=h
 clear h
 obtain⟨Bw,A3,H⟩:=qB H
 by_cases c4:Bw=true
 ·subst c4
  replace H:=qT H
  obtain⟨Ce,Aw⟩:∃ y_:List (S36),y_=(([]:List (S36))):=⟨_,rfl⟩
  replace H:(impl_RelSeek.l0 k l1 Ce Ac (Ac.length:Int) 0)=some r:=by first|(rw [Aw];with_reducible exact H)|(have H2_:=(Option.bind_some _ _).symm.trans H;rw [Aw];with_reducible exact H2_)|(have H2_:=(Option.bind_some _ _).symm.trans H;with_reducible exact H2_)|with_reducible exact H|(rw [Aw];exact H)|exact H
  have Bo:=y0.mk Aw
  clear Aw
  have H':=y0.mk H
  clear H
  go_enter Tryz.func21,Tryz.ntmps21
  go_wp2_with (first|((with_reducible refine y17 (N:=2) rfl ?_);(try(refine gate_guard (by rfl) ?_;dsimp only));refine qe 2 #[.int .i64 Aq,.slice Ay Ac.length Au] 32 ?_;intro Bc hg w5 hbox hb;have Ab:=y0.mk (hbox);have Cf:=y0.mk (qg (w:=w) hg);have Cg:=y0.mk (qg (w:=w) hg);replace HB:=y0.mk (y8 qb hb);clear hb hbox hg;obtain⟨Bx,Bz,Ca,Cb⟩:=qz2 Ab.out)|((with_reducible refine y16 (f:=40) rfl ?_);refine y18 (some 9) rfl rfl Tryz.func40 (by kernel_rfl) rfl #[.agg #[.int .i64 Aq,.slice Ay Ac.length Au]] rfl qy0 ?_;(with_reducible refine(impl_isRel.calls k Aq _ _ Ac true _ (qc (Kd.C_below Av.out HB.out)) Bn.out (by exact Tb.below HT.out qb) A3.out).mono ?_);rintro e w7 ⟨rfl,hb⟩;refine⟨_,rfl, ?_⟩;replace Ab:=y0.mk (qK Ab.out hb);replace HB:=y0.mk (y8 qb hb);(try clear hb))|((with_reducible refine y17 (N:=11) rfl ?_);(try(refine gate_guard (by rfl) ?_;dsimp only));refine Kd.S_lit k36 _ 36 ?hg (N:=11) ?hd (xs:=([]:List (S36))) (inner:=[]) (ok:=fun _=>True) (okp:=fun _=>True) ?hr ?hp (fun _ hk=>hk) trivial (Below.refl _ _) (Nat.le_refl _) (by simp) ?_;(case hd=>rfl);(case hg=>rfl);(case hr=>first|(go_simp;done)|(go_simp;rfl));(case hp=>exact(Reps.none _ _));intro Ei w8 Ch hb hg_ hnew_;clear hg_ hnew_;(first|rw [← Bo.out]at Ch|(simp only [Int.reduceToNat]at Ch;rw [← Bo.out]at Ch));have Ci:=y0.mk (Kd.S_lower Ch (y7 qb));replace Ab:=y0.mk (qK Ab.out hb);replace HB:=y0.mk (y8 qb hb);clear hb Ch;obtain⟨Bh,Bi,Bj,Bk⟩:=qz2 Ab.out))
  go_loopg [5,15] k (fun kq v5 Ej w'=>∃(Az:List (S36)) (Aa:Int),Ej=.int .i64 Aa∧y0 (impl_RelSeek.l0 kq l1 Az Ac (Ac.length:Int) Aa=some r)∧y0 (kq≤k)∧y0 (Kd.S k36 36 w' w.heap.size (fun _=>True) v5 Az)∧y0 (w'.heap[Bc]?=some (.cells #[.int .i64 Aq,(.slice Ay Ac.length Au)] 32 (0,0)))∧y0 (Below w.heap.size w w'))
  case atStart=>exact⟨(Ce),(0),qy2,H',⟨Nat.le_refl _⟩,⟨qS Ci.out⟩,⟨qk Ab.out⟩,⟨qb⟩⟩
  case round =>
   clear H'
   (try clear c4 Bh Bi Bx Bz Bj Bk Ca Cb)
   obtain⟨Az,Aa,rfl,HA,Cc,Am,Ab,HB⟩:=hrel
   cases gk with
   | zero=>exact absurd HA.out (by simp [impl_RelSeek.l0])
   | succ k1 =>
    have H:=HA.out
    clear HA
    simp only [impl_RelSeek.l0]at H
    by_cases Cd:Aa < (Ac.length:Int)
    ·rw [if_pos Cd]at H
     have Cj:=decide_eq_true Cd
     clear Cd
     obtain⟨Dr,H⟩:=qo H
     have Ds:decide (0≤Aa)=true:=decide_eq_true Dr
     clear Dr
     obtain⟨Dt,H⟩:=qo H
     have Du:decide (Aa < (Ac.length:Int))=true:=decide_eq_true Dt
     clear Dt
     by_cases Bp:(l1.length:Int)≤(((y20 Ac Aa).f0).length:Int)
     ·rw [if_pos Bp]at H
      have Ck:=decide_eq_true Bp
      have Cl:decide (l1.length≤((y20 Ac Aa).f0).length)=true:=decide_eq_true (Int.ofNat_le.mp Bp)
      clear Bp
      obtain⟨Dh,H⟩:=qo H
      have Dv:=eq_true Dh
      have Dw:=decide_eq_true Dh
      clear Dh
      have Dx:=eq_true (of_decide_eq_true qy1:(l1.length:Int)≤(((y20 Ac Aa).f0).length:Int))
      obtain⟨Di,Dy,H⟩:=qB H
      by_cases Cw:Di=true
      ·subst Cw
       replace H:=qT H
       obtain⟨Bb,Ek,H⟩:=qB H
       obtain⟨Dz,H⟩:=qo H
       have Cm:=y0.mk Dz
       clear Dz
       obtain⟨Cn,Ax⟩:∃ y_:List (S36),y_=(Az ++ [(⟨Bb⟩:S36)]):=⟨_,rfl⟩
       replace H:(impl_RelSeek.l0 k1 l1 Cn Ac (Ac.length:Int) (wrap64 (Aa + 1)))=some r:=by first|(rw [Ax];with_reducible exact H)|(have H2_:=(Option.bind_some _ _).symm.trans H;rw [Ax];with_reducible exact H2_)|(have H2_:=(Option.bind_some _ _).symm.trans H;with_reducible exact H2_)|with_reducible exact H|(rw [Ax];exact H)|exact H
       have Co:=y0.mk Ax
       clear Ax
       have H':=y0.mk H
       clear H
       have As:0≤(Aa:Int):=of_decide_eq_true qy1
       have At:Aa < (Ac.length:Int):=of_decide_eq_true qy1
       obtain⟨Bd,Ai,Aj,Be,Ae,Ag,Ah⟩:=at_T36 Av.out Aa As At
       cases Be
       replace Ae:=(HB.out.cell (World.block_lt_of_cell? w _ Ae)).trans Ae
       have Ao:=y0.mk Ah
       have Ap:=y0.mk Ag
       clear Ah Ag
       replace As:=eq_true As
       replace At:=eq_true At
       go_wp2_with (first|((with_reducible refine y17 (N:=7) rfl ?_);(try(refine gate_guard (by rfl) ?_;dsimp only));refine qe 7 #[.slice none 0 0] 36 ?_;intro Af hg Ep hbox hb;replace Am:=y0.mk (Kd.S_below (Kd.S_elderB (qS Am.out) Af (Nat.le_of_eq hg.symm)) hb);have Al:=y0.mk (hbox);have Bq:=y0.mk (qg (w:=w) hg);have Br:=y0.mk (qg (w:=w) hg);replace HB:=y0.mk (y8 qb hb);have Ad:=y0.mk (qn Ab.out hg);have Ak:=y0.mk (qm Ab.out hg);replace Ab:=y0.mk (qK Ab.out hb);clear hb hbox hg;have Ea:=Ak.out;have Eb:=Ad.out;obtain⟨Cx,Cy⟩:=qz1 Al.out;obtain⟨El,Bs,_,Bt,_⟩:=info_parts info9;obtain⟨Dj,Cp,Cq⟩:=print_take_of (P:=Tryz.prog) Value.string (⟨#[]⟩:ByteArray) 25 9 .i64 Tryz.underlying25 Bs Bt Ai Aj ((y20 Ac Aa).f0) (l1.length:Int) (of_decide_eq_true qy1) (of_decide_eq_true qy1) Ap.out;have Bf:=y0.mk (show Kd.C Kd.string _ _ _ _ from Kd.C_of_reads (h1:=fun _=>rfl) (Cp _ (Kd.reads_of_C Ao.out)));have Bg:=y0.mk Cq;clear Cp Cq Bs Bt)|(go_at_call 55;rw [show min l1.length ((y20 Ac Aa).f0).length=(((y20 Ac Aa).f0).take ((l1.length:Int):Int).toNat).length from(by simp only [qT_,Int.toNat_natCast])];(with_reducible refine(slices_Equal_string_string.calls k1 _ _ (((y20 Ac Aa).f0).take ((l1.length:Int):Int).toNat) _ _ l1 true _ (by exact Kd.C_below Bf.out qb) Bg.out (by exact Kd.C_below Dp.out qb) Dq.out Dy.out).mono ?_);rintro e w' ⟨rfl,⟨nd,rfl⟩⟩)|((with_reducible refine y16 (f:=46) rfl ?_);refine y18 (some 36) rfl rfl Tryz.func46 (by kernel_rfl) rfl #[.agg #[.slice Ai ((y20 Ac Aa).f0).length Aj]] rfl qy0 ?_;(with_reducible refine(impl_copyTuple.calls _ _ ((y20 Ac Aa).f0) Bb _ (by exact Kd.C_below Ao.out qb) Ap.out Ek.out).mono ?_);rintro e Er ⟨Em,rfl,Dk,hb⟩;refine⟨_,rfl, ?_⟩;replace Am:=y0.mk (Kd.S_elder' (qS ((Kd.S_mono (Kd.S_far (p:=⟨Af,0,none⟩) (Kd.S_mono Am.out (fun k_ hk=>(⟨hk,hk.2⟩:_∧k_≠Af))) (fun _ hk=>hk.2) (.slice Ai ((y20 Ac Aa).f0).length Aj)) (fun _ h_=>h_.1)))) (Kd.R_base Dk) hb);have Ba:=y0.mk (Kd.R_lower Dk (y7 qb));replace Ab:=y0.mk (blk_below (g:=Bc) (o:=.cells #[.int .i64 Aq,.slice (some Bd) Ac.length Au] 32 (0,0)) (by(with_reducible repeat(first|refine y12 ?_ _|refine y11 ?_|refine y9 ?_ _));refine blk_far ?_ Ad.out _;(with_reducible repeat(first|refine y12 ?_ _|refine y11 ?_|refine y9 ?_ _));exact Ab.out) hb);replace Al:=y0.mk (blk_below (g:=Af) (o:=.cells #[.slice Ai ((y20 Ac Aa).f0).length Aj] 36 (0,0)) (by(with_reducible repeat(first|refine y12 ?_ _|refine y11 ?_|refine y9 ?_ _));refine y13 (cs:=#[.slice none 0 0]) ?_ 0 _ rfl;(with_reducible repeat(first|refine y12 ?_ _|refine y11 ?_|refine y9 ?_ _));exact Al.out) hb);replace HB:=y0.mk (y8 qb hb);(try clear hb);(try clear Dk);obtain⟨Cr,Cs,Dl⟩:=Kd.R_slice Ba.out;subst Dl)|((with_reducible refine gate_builtin (b:=.append) (xs:=#[.tmp 34,.tmp 37]) rfl ?_);(try(refine gate_guard (by rfl) ?_;dsimp only));at_builtin;refine Kd.S_append k36 (w0:=w) w.heap.size rfl (.tmp 34) (.tmp 37) 30 36 (.agg #[(.slice none 0 0)]) 24 rfl Tryz.underlying30 info36 rfl (by decide) (by omega) u5 Az (⟨Bb⟩:S36) [.slice Cr Bb.length Cs] (fun k_=>k_≠Af) (fun k_=>some k_=(.slice Cr Bb.length Cs:Value).ownBlock) rfl rfl ?aP (fun k_ hk_=>((Kd.R_mono (ok':=fun k_=>((fun k_=>k_≠Af)) k_∧some k_≠(u5:Value).ownBlock) (Kd.R_types (Kd.R_apart' (Ba.out) (Kd.S_typed Am.out) (by decide)) Al.out (by decide)) (fun k_ hk=>⟨hk.2,hk.1.2⟩))).1 k_ hk_.symm) ?aF ?aO ?aB ?aS ?aL ?_;(case aP=>exact k36_mkM _ _ _ (⟨Bb⟩:S36) (Kd.R_mono (Kd.R_tight rfl (Kd.R_mono (ok':=fun k_=>((fun k_=>k_≠Af)) k_∧some k_≠(u5:Value).ownBlock) (Kd.R_types (Kd.R_apart' (Ba.out) (Kd.S_typed Am.out) (by decide)) Al.out (by decide)) (fun k_ hk=>⟨hk.2,hk.1.2⟩))) (fun _ h_=>h_)));(case aB=>exact qb);(case aF=>exact(fun k_ hk=>Kd.freshB (g:=Af) (o:=.cells #[.slice Ai ((y20 Ac Aa).f0).length Aj] 36 (0,0)) (qk Al.out) k_ hk));(case aO=>exact(qS (Kd.S_mono Am.out (fun k_ hk=>⟨hk.1.2,fun e_=>hk.2 e_⟩))));(case aS=>exact(y7 qb));(case aL=>have:=Cm.out;omega);intro En Es ho hb hg hat;rw [← Co.out]at ho;replace Ab:=y0.mk (blk_grown (qk Ab.out) hg (Kd.S_ne Am.out Ab.out (by decide)));replace Al:=y0.mk (blk_grown (qk Al.out) hg (Kd.S_away Am.out (fun _ hk=>hk.1.2)));replace HB:=y0.mk (hb);have Ct:=y0.mk (ho);clear Am Ba;clear ho hb hg hat))
       go_roundg k1
       case measure=>have:=Cc.out;omega
       exact⟨(Cn),(wrap64 (Aa + 1)),qy2,H',⟨by have:=Cc.out;omega⟩,⟨qS (Kd.S_mono Ct.out (fun _ hk=>trivial))⟩,⟨qk Ab.out⟩,⟨qb⟩⟩
      ·replace Cw:=Bool.eq_false_iff.mpr Cw
       subst Cw
       replace H:=qF H
       have H':=y0.mk H
       clear H
       have As:0≤(Aa:Int):=of_decide_eq_true qy1
       have At:Aa < (Ac.length:Int):=of_decide_eq_true qy1
       obtain⟨Bd,Ai,Aj,Be,Ae,Ag,Ah⟩:=at_T36 Av.out Aa As At
       cases Be
       replace Ae:=(HB.out.cell (World.block_lt_of_cell? w _ Ae)).trans Ae
       have Ao:=y0.mk Ah
       have Ap:=y0.mk Ag
       clear Ah Ag
       replace As:=eq_true As
       replace At:=eq_true At
       go_wp2_with (first|((with_reducible refine y17 (N:=7) rfl ?_);(try(refine gate_guard (by rfl) ?_;dsimp only));refine qe 7 #[.slice none 0 0] 36 ?_;intro Af hg Et hbox hb;replace Am:=y0.mk (Kd.S_below (Kd.S_elderB (qS Am.out) Af (Nat.le_of_eq hg.symm)) hb);have Al:=y0.mk (hbox);have Bq:=y0.mk (qg (w:=w) hg);have Br:=y0.mk (qg (w:=w) hg);replace HB:=y0.mk (y8 qb hb);have Ad:=y0.mk (qn Ab.out hg);have Ak:=y0.mk (qm Ab.out hg);replace Ab:=y0.mk (qK Ab.out hb);clear hb hbox hg;have Ec:=Ak.out;have Ed:=Ad.out;obtain⟨Cz,Da⟩:=qz1 Al.out;obtain⟨Eo,Bu,_,Bv,_⟩:=info_parts info9;obtain⟨Dm,Cu,Cv⟩:=print_take_of (P:=Tryz.prog) Value.string (⟨#[]⟩:ByteArray) 25 9 .i64 Tryz.underlying25 Bu Bv Ai Aj ((y20 Ac Aa).f0) (l1.length:Int) (of_decide_eq_true qy1) (of_decide_eq_true qy1) Ap.out;have Bf:=y0.mk (show Kd.C Kd.string _ _ _ _ from Kd.C_of_reads (h1:=fun _=>rfl) (Cu _ (Kd.reads_of_C Ao.out)));have Bg:=y0.mk Cv;clear Cu Cv Bu Bv)|(go_at_call 55;rw [show min l1.length ((y20 Ac Aa).f0).length=(((y20 Ac Aa).f0).take ((l1.length:Int):Int).toNat).length from(by simp only [qT_,Int.toNat_natCast])];(with_reducible refine(slices_Equal_string_string.calls k1 _ _ (((y20 Ac Aa).f0).take ((l1.length:Int):Int).toNat) _ _ l1 false _ (by exact Kd.C_below Bf.out qb) Bg.out (by exact Kd.C_below Dp.out qb) Dq.out Dy.out).mono ?_);rintro e w' ⟨rfl,⟨nd,rfl⟩⟩))
       go_roundg k1
       case measure=>have:=Cc.out;omega
       exact⟨(Az),(wrap64 (Aa + 1)),qy2,H',⟨by have:=Cc.out;omega⟩,⟨qS (Kd.S_mono (Kd.S_far (p:=⟨Af,0,none⟩) (Kd.S_mono Am.out (fun k_ hk=>(⟨hk,hk.2⟩:_∧k_≠Af))) (fun _ hk=>hk.2) (.slice Ai ((y20 Ac Aa).f0).length Aj)) (fun _ hk=>trivial))⟩,⟨by(with_reducible repeat(first|refine y12 ?_ _|refine y11 ?_|refine y9 ?_ _));refine blk_far ?_ Ad.out _;(with_reducible repeat(first|refine y12 ?_ _|refine y11 ?_|refine y9 ?_ _));exact Ab.out⟩,⟨qb⟩⟩
     ·rw [if_neg Bp]at H
      have Ck:=decide_eq_false Bp
      have Cl:decide (l1.length≤((y20 Ac Aa).f0).length)=false:=decide_eq_false (fun h=>Bp (Int.ofNat_le.mpr h))
      clear Bp
      have H':=y0.mk H
      clear H
      have As:0≤(Aa:Int):=of_decide_eq_true qy1
      have At:Aa < (Ac.length:Int):=of_decide_eq_true qy1
      obtain⟨Bd,Ai,Aj,Be,Ae,Ag,Ah⟩:=at_T36 Av.out Aa As At
      cases Be
      replace Ae:=(HB.out.cell (World.block_lt_of_cell? w _ Ae)).trans Ae
      have Ao:=y0.mk Ah
      have Ap:=y0.mk Ag
      clear Ah Ag
      replace As:=eq_true As
      replace At:=eq_true At
      go_wp2_with (first|((with_reducible refine y17 (N:=7) rfl ?_);(try(refine gate_guard (by rfl) ?_;dsimp only));refine qe 7 #[.slice none 0 0] 36 ?_;intro Af hg Eu hbox hb;replace Am:=y0.mk (Kd.S_below (Kd.S_elderB (qS Am.out) Af (Nat.le_of_eq hg.symm)) hb);have Al:=y0.mk (hbox);have Bq:=y0.mk (qg (w:=w) hg);have Br:=y0.mk (qg (w:=w) hg);replace HB:=y0.mk (y8 qb hb);have Ad:=y0.mk (qn Ab.out hg);have Ak:=y0.mk (qm Ab.out hg);replace Ab:=y0.mk (qK Ab.out hb);clear hb hbox hg;have Ee:=Ak.out;have Ef:=Ad.out;obtain⟨Db,Dc⟩:=qz1 Al.out))
      go_roundg k1
      case measure=>have:=Cc.out;omega
      exact⟨(Az),(wrap64 (Aa + 1)),qy2,H',⟨by have:=Cc.out;omega⟩,⟨qS (Kd.S_mono (Kd.S_far (p:=⟨Af,0,none⟩) (Kd.S_mono Am.out (fun k_ hk=>(⟨hk,hk.2⟩:_∧k_≠Af))) (fun _ hk=>hk.2) (.slice Ai ((y20 Ac Aa).f0).length Aj)) (fun _ hk=>trivial))⟩,⟨by(with_reducible repeat(first|refine y12 ?_ _|refine y11 ?_|refine y9 ?_ _));refine blk_far ?_ Ad.out _;(with_reducible repeat(first|refine y12 ?_ _|refine y11 ?_|refine y9 ?_ _));exact Ab.out⟩,⟨qb⟩⟩
    ·rw [if_neg Cd]at H
     have Cj:=decide_eq_false Cd
     clear Cd
     obtain rfl:=Option.some.inj H
     go_wp2
     go_ret
     exact⟨_,by first|rfl|(simp [y14,y15] <;> rfl)|(simp [*,y14,y15] <;> rfl),by(with_reducible repeat(first|apply Kd.S_alloc|apply Kd.S_drewN|apply Kd.S_drew));exact Am.out,qb⟩
 ·replace c4:=Bool.eq_false_iff.mpr c4
  subst c4
  replace H:=qF H
  obtain rfl:=Option.some.inj H
  go_enter Tryz.func21,Tryz.ntmps21
  go_wp2_with (first|((with_reducible refine y17 (N:=2) rfl ?_);(try(refine gate_guard (by rfl) ?_;dsimp only));refine qe 2 #[.int .i64 Aq,.slice Ay Ac.length Au] 32 ?_;intro Bc hg Ew hbox hb;have Ab:=y0.mk (hbox);have Cf:=y0.mk (qg (w:=w) hg);have Cg:=y0.mk (qg (w:=w) hg);replace HB:=y0.mk (y8 qb hb);clear hb hbox hg;obtain⟨Dd,De,Df,Dg⟩:=qz2 Ab.out)|((with_reducible refine y16 (f:=40) rfl ?_);refine y18 (some 9) rfl rfl Tryz.func40 (by kernel_rfl) rfl #[.agg #[.int .i64 Aq,.slice Ay Ac.length Au]] rfl qy0 ?_;(with_reducible refine(impl_isRel.calls k Aq _ _ Ac false _ (qc (Kd.C_below Av.out HB.out)) Bn.out (by exact Tb.below HT.out qb) A3.out).mono ?_);rintro e Ex ⟨rfl,hb⟩;refine⟨_,rfl, ?_⟩;replace Ab:=y0.mk (qK Ab.out hb);replace HB:=y0.mk (y8 qb hb);(try clear hb)))
  go_ret
  exact⟨_,by first|rfl|(simp [y14,y15] <;> rfl)|(simp [*,y14,y15] <;> rfl),by first|exact Kd.S_nil _ _ _ _ _|exact Kd.N_nil _ _ _ _ _|exact Kd.V_nil _ _ _ _ _|exact Kd.Q_nil _ _ _ _ _|exact Kd.R_nil _ _ _ _ _,qb⟩
def laws_sameTexts.l0:Nat→List ByteArray→List ByteArray→Int→Option (Bool)
 | 0,_,_,_=>none
 | k + 1,x0,x1,x5=>if x5 < (x0.length:Int)then(if 0≤x5 then(if x5 < (x1.length:Int)then(if(rdOf ByteArray.empty x0 x5).toList=(rdOf ByteArray.empty x1 x5).toList then(laws_sameTexts.l0 k x0 x1 (wrap64 (x5 + 1)))else(some false))else(none))else(none))else(some true)
def laws_sameTexts.f (k:Nat) (l0:List ByteArray) (l1:List ByteArray):Option (Bool):=if(l0.length:Int)=(l1.length:Int)then(laws_sameTexts.l0 k l0 l1 0)else(some false)
set_option maxHeartbeats 8000000 in
set_option maxRecDepth 100000 in
theorem laws_sameTexts.calls (k:Nat) (A0:Option Addr) (c0:Nat) (l0:List ByteArray) (A1:Option Addr) (c1:Nat) (l1:List ByteArray) (r:Bool) (w:World) (Aq:Kd.C Kd.string w A0 l0.length l0) (As:l0.length≤c0) (At:Kd.C Kd.string w A1 l1.length l1) (Au:l1.length≤c1) (h:laws_sameTexts.f k l0 l1=some r) :
  Calls Tryz.prog 23 #[.slice A0 l0.length c0,.slice A1 l1.length c1] w fun e w'=>e=.returned (.bool r)∧y1 w w':=by
 have Ay:=y0.mk Aq
 have Bc:=y0.mk As
 clear Aq As
 have Az:=y0.mk At
 have Bd:=y0.mk Au
 clear At Au
 have H:(if(l0.length:Int)=(l1.length:Int)then(laws_sameTexts.l0 k l0 l1 0)else(some false))=some r:=h
 clear h
 by_cases c3:(l0.length:Int)=(l1.length:Int)
 ·rw [if_pos c3]at H
  have Af:((l0.length:Int) == (l1.length:Int))=true:=beq_iff_eq.mpr c3
  have Ag:((l0.length:Int) != (l1.length:Int))=false:=bne_eq_false_iff_eq.mpr c3
  have Ah:(l0.length == l1.length)=true:=by first|simpa using c3|(simp at c3 ⊢;omega)
  clear c3
  have H':=y0.mk H
  clear H
  go_enter Tryz.func23,Tryz.ntmps23
  go_wp2
  repeat(go_quiet (fail);try go_wp2)
  go_loopg [5] k (fun kq v5 w'=>∃(Aa:Int),v5=.int .i64 Aa∧y0 (laws_sameTexts.l0 kq l0 l1 Aa=some r)∧y0 (kq≤k)∧y1 w w')
  case atStart=>exact⟨(0),qy2,H',⟨Nat.le_refl _⟩,by repeat(first|exact y1.refl _|apply y1.step)⟩
  case round =>
   clear H'
   (try clear Af Ag Ah)
   obtain⟨Aa,rfl,HA,Av,⟨m1,rfl⟩⟩:=hrel
   cases gk with
   | zero=>exact absurd HA.out (by simp [laws_sameTexts.l0])
   | succ k1 =>
    have H:=HA.out
    clear HA
    simp only [laws_sameTexts.l0]at H
    by_cases c4:Aa < (l0.length:Int)
    ·rw [if_pos c4]at H
     have Ak:=decide_eq_true c4
     clear c4
     obtain⟨c5,H⟩:=qo H
     have Ba:decide (0≤Aa)=true:=decide_eq_true c5
     clear c5
     obtain⟨c6,H⟩:=qo H
     have Bb:decide (Aa < (l1.length:Int))=true:=decide_eq_true c6
     clear c6
     have Ab:0≤(Aa:Int):=of_decide_eq_true qy1
     have Ac:Aa < (l0.length:Int):=of_decide_eq_true qy1
     obtain⟨Aw,Al,Ai⟩:=Kd.at_string Ay.out Aa Ab Ac
     cases Al
     replace Ab:=eq_true Ab
     replace Ac:=eq_true Ac
     have Ad:0≤(Aa:Int):=of_decide_eq_true qy1
     have Ae:Aa < (l1.length:Int):=of_decide_eq_true qy1
     obtain⟨Ax,Am,Aj⟩:=Kd.at_string Az.out Aa Ad Ae
     cases Am
     replace Ad:=eq_true Ad
     replace Ae:=eq_true Ae
     by_cases c7:(rdOf ByteArray.empty l0 Aa).toList=(rdOf ByteArray.empty l1 Aa).toList
     ·rw [if_pos c7]at H
      have Ao:((rdOf ByteArray.empty l0 Aa).toList == (rdOf ByteArray.empty l1 Aa).toList)=true:=beq_iff_eq.mpr c7
      have Ap:((rdOf ByteArray.empty l0 Aa).toList != (rdOf ByteArray.empty l1 Aa).toList)=false:=bne_eq_false_iff_eq.mpr c7
      clear c7
      have H':=y0.mk H
      clear H
      go_wp2
      repeat(go_quiet (fail);try go_wp2)
      go_roundg k1
      case measure=>have:=Av.out;omega
      exact⟨(wrap64 (Aa + 1)),qy2,H',⟨by have:=Av.out;omega⟩,by repeat(first|exact y1.refl _|apply y1.step)⟩
     ·rw [if_neg c7]at H
      have Ao:((rdOf ByteArray.empty l0 Aa).toList == (rdOf ByteArray.empty l1 Aa).toList)=false:=beq_eq_false_iff_ne.mpr c7
      have Ap:((rdOf ByteArray.empty l0 Aa).toList != (rdOf ByteArray.empty l1 Aa).toList)=true:=bne_iff_ne.mpr c7
      obtain rfl:=Option.some.inj H
      go_wp2
      repeat(go_quiet (fail);try go_wp2)
      go_ret
      exact qf2
    ·rw [if_neg c4]at H
     have Ak:=decide_eq_false c4
     clear c4
     obtain rfl:=Option.some.inj H
     go_wp2
     repeat(go_quiet (fail);try go_wp2)
     go_ret
     exact qf2
 ·rw [if_neg c3]at H
  have Af:((l0.length:Int) == (l1.length:Int))=false:=beq_eq_false_iff_ne.mpr c3
  have Ag:((l0.length:Int) != (l1.length:Int))=true:=bne_iff_ne.mpr c3
  have Ah:(l0.length == l1.length)=false:=by first|simpa using c3|(simp at c3 ⊢;omega)
  obtain rfl:=Option.some.inj H
  go_enter Tryz.func23,Tryz.ntmps23
  go_wp2
  repeat(go_quiet (fail);try go_wp2)
  go_ret
  exact qf2
end Go.Proofs.YtkajecadkkgfmaaGreatDoor.Pn
end
section
namespace Go.Proofs.YtkajecadkkgfmaaGreatDoor.Pn
open Go.RowKit Go.Proofs.YtkajecadkkgfmaaGreatDoorW.PrintWords Go.Proofs.YtkajecadkkgfmaaGreatDoorW.PrintLast Go.Proofs.YtkajecadkkgfmaaGreatDoorW.PrintMore
attribute [local go_sem] max2_int min2_int max_two min_two max_three min_three max_four min_four   -- for this text's walks alone
set_option linter.unusedVariables false
set_option linter.unusedSimpArgs false
mutual
def laws_FnSought.l0:Nat→List ByteArray→List (S36)→Int→Int→Int→List (S36)→Option (Bool)
 | 0,_,_,_,_,_,_=>none
 | k + 1,x4,x5,x6,x7,x644000,x644001=>if x7 < (x644001.length:Int)then(if 0≤x7 then(laws_FnSought.l1 k x4 x5 x6 x7 (decide ((x4.length:Int)≤(((y20 x644001 x7).f0).length:Int))) 0 x644000 x644001)else(none))else(some (x6 == (x5.length:Int)))
def laws_FnSought.j2:Nat→List ByteArray→List (S36)→Int→Int→Bool→Int→List (S36)→Option (Bool)
 | 0,_,_,_,_,_,_,_=>none
 | k + 1,x4,x5,x6,x7,x8,x644000,x644001=>if x8=true then(if x6≥(x5.length:Int)then(some false)else(if 0≤x6 then(if x6 < (x5.length:Int)then(if 0≤x7 then(if x7 < (x644001.length:Int)then((laws_sameTexts.f k ((y20 x5 x6).f0) ((y20 x644001 x7).f0)).bind fun t654=>(if t654=true then(laws_FnSought.l0 k x4 x5 (wrap64 (x6 + 1)) (wrap64 (x7 + 1)) x644000 x644001)else(some false)))else(none))else(none))else(none))else(none)))else(laws_FnSought.l0 k x4 x5 x6 (wrap64 (x7 + 1)) x644000 x644001)
def laws_FnSought.l1:Nat→List ByteArray→List (S36)→Int→Int→Bool→Int→Int→List (S36)→Option (Bool)
 | 0,_,_,_,_,_,_,_,_=>none
 | k + 1,x4,x5,x6,x7,x8,x9,x644000,x644001=>if x9 < (x4.length:Int)then(if x8=true then(if 0≤x7 then(if x7 < (x644001.length:Int)then(if 0≤x9 then(if x9 < (((y20 x644001 x7).f0).length:Int)then(laws_FnSought.l1 k x4 x5 x6 x7 ((rdOf ByteArray.empty ((y20 x644001 x7).f0) x9).toList == (rdOf ByteArray.empty x4 x9).toList) (wrap64 (x9 + 1)) x644000 x644001)else(none))else(none))else(none))else(none))else(laws_FnSought.j2 k x4 x5 x6 x7 x8 x644000 x644001))else(laws_FnSought.j2 k x4 x5 x6 x7 x8 x644000 x644001)
end
def laws_FnSought.f (k:Nat) (l0:List Int):Option (Bool):=(laws_big.f l0).bind fun t635=>(if t635=true then(some true)else((z3_.f k l0).bind fun bt636=>((impl_RelSeek.f k bt636.1 bt636.2.1 bt636.2.2).bind fun t644=>((spec_RelOk.f k bt636.1 bt636.2.1).bind fun t647=>(if t647=true then(laws_FnSought.l0 k bt636.2.2 t644 0 0 bt636.1 bt636.2.1)else(some ((t644.length:Int) == 0)))))))
set_option maxHeartbeats 8000000 in
set_option maxRecDepth 100000 in
theorem laws_FnSought.calls (k:Nat) (A0:Option Addr) (c0:Nat) (l0:List Int) (r:Bool) (w:World) (Hg:Kd.C (Kd.int .u8) w A0 l0.length l0) (Hh:l0.length≤c0) (hT:Tb w) (h:laws_FnSought.f k l0=some r) (htrue_:r=true) :
  Calls Tryz.prog 4 #[.slice A0 l0.length c0] w fun e w'=>e=.returned (.bool r)∧Below w.heap.size w w':=by
 have In:=Tryz.underlying32
 have HT:=y0.mk hT
 clear hT
 have Ci:=y0.mk Hg
 have Cj:=y0.mk Hh
 clear Hg Hh
 have HB:=y0.mk (Below.refl w.heap.size w)
 have H:((laws_big.f l0).bind fun Ei=>(if Ei=true then(some true)else((z3_.f k l0).bind fun Ba=>((impl_RelSeek.f k Ba.1 Ba.2.1 Ba.2.2).bind fun Aq=>((spec_RelOk.f k Ba.1 Ba.2.1).bind fun Ej=>(if Ej=true then(laws_FnSought.l0 k Ba.2.2 Aq 0 0 Ba.1 Ba.2.1)else(some ((Aq.length:Int) == 0))))))))=some r:=h
 clear h
 obtain⟨Ei,A2,H⟩:=qB H
 by_cases c3:Ei=true
 ·subst c3
  replace H:=qT H
  obtain rfl:=Option.some.inj H
  go_enter Tryz.func4,Tryz.ntmps4
  go_wp2_with (first|(go_at_call 19;(with_reducible refine(laws_big.calls _ _ l0 true _ (qc Ci.out) Cj.out A2.out).mono ?_);rintro e w' ⟨rfl,⟨nd,rfl⟩⟩;(try first|exact⟨rfl,_,World.drewN_drewN _ _ _⟩|exact⟨rfl,_,Eq.trans (World.drewN_drewN _ _ _) (congrArg (World.drewN _) (Nat.add_assoc _ _ _))⟩)))
  repeat(go_quiet (first|(go_at_call 19;(with_reducible refine(laws_big.calls _ _ l0 true _ (qc Ci.out) Cj.out A2.out).mono ?_);rintro e w' ⟨rfl,⟨nd,rfl⟩⟩;(try first|exact⟨rfl,_,World.drewN_drewN _ _ _⟩|exact⟨rfl,_,Eq.trans (World.drewN_drewN _ _ _) (congrArg (World.drewN _) (Nat.add_assoc _ _ _))⟩)));try go_wp2_with (first|(go_at_call 19;(with_reducible refine(laws_big.calls _ _ l0 true _ (qc Ci.out) Cj.out A2.out).mono ?_);rintro e w' ⟨rfl,⟨nd,rfl⟩⟩;(try first|exact⟨rfl,_,World.drewN_drewN _ _ _⟩|exact⟨rfl,_,Eq.trans (World.drewN_drewN _ _ _) (congrArg (World.drewN _) (Nat.add_assoc _ _ _))⟩))))
  go_ret
  exact⟨qf,qb⟩
 ·replace c3:=Bool.eq_false_iff.mpr c3
  subst c3
  replace H:=qF H
  obtain⟨⟨Af,Ad,Ah⟩,A4,H⟩:=qB H
  dsimp only at H
  obtain⟨Aq,A5,H⟩:=qB H
  obtain⟨Ej,A6,H⟩:=qB H
  by_cases c7:Ej=true
  ·subst c7
   replace H:=qT H
   have H':=y0.mk H
   clear H
   go_enter Tryz.func4,Tryz.ntmps4
   go_wp2_with (first|(go_at_call 19;(with_reducible refine(laws_big.calls _ _ l0 false _ (qc Ci.out) Cj.out A2.out).mono ?_);rintro e w' ⟨rfl,⟨nd,rfl⟩⟩;(try first|exact⟨rfl,_,World.drewN_drewN _ _ _⟩|exact⟨rfl,_,Eq.trans (World.drewN_drewN _ _ _) (congrArg (World.drewN _) (Nat.add_assoc _ _ _))⟩))|(go_at_call 20;(with_reducible refine(z3_.calls k _ _ l0 Af Ad Ah _ (qc Ci.out) Cj.out A4.out).mono ?_);rintro e w8 ⟨Dd,Bg,rfl,As,Cd,hb⟩;have Ac:=y0.mk (Kd.N_lower (Kd.N_mono (ok':=fun k_=>some k_≠(Bg:Value).ownBlock) As (fun k_ hk_=>hk_.2)) (y7 qb));have Ae:=y0.mk (Kd.R_lower (Kd.R_mono (ok':=fun k_=>True) Cd (fun _ hk_=>trivial)) (y7 qb));replace HB:=y0.mk (y8 qb hb);(try clear hb);(try clear As);(try clear Cd))|((with_reducible refine y17 (N:=3) rfl ?_);refine qe 3 #[.int .i64 0,.slice none 0 0] 32 ?_;intro Aa hg w9 hbox hb;replace Ac:=y0.mk (Kd.N_below (Kd.N_elderB (qN Ac.out) Aa (Nat.le_of_eq hg.symm)) hb);replace Ae:=y0.mk (Kd.R_below (qR Ae.out) hb);have Ab:=y0.mk (hbox);have Ce:=y0.mk (qg (w:=w) hg);have Cf:=y0.mk (qg (w:=w) hg);replace HB:=y0.mk (y8 qb hb);clear hb hbox hg;obtain⟨Bj,Bk,Bl,Bm⟩:=qz2 Ab.out;obtain⟨Ak,Ai,De⟩:=Kd.N_slice Ac.out;subst De;obtain⟨Av,At,Df⟩:=Kd.R_slice Ae.out;subst Df)|(go_at_call 21;(with_reducible refine(impl_RelSeek.calls k Af _ _ Ad _ _ Ah Aq _ (by refine(Kd.N_reads' (e:=36) (base:=w.heap.size) (ok:=fun k_=>(some k_≠(.slice Av Ah.length At:Value).ownBlock∧k_≠Aa)) (n:=Ad.length) (c:=Ai) ?_).2.2;exact(qN ((Kd.N_mono (Kd.N_far (p:=⟨Aa,1,none⟩) (Kd.N_far (p:=⟨Aa,0,none⟩) (Kd.N_mono Ac.out (fun k_ hk=>(⟨hk,hk.2⟩:_∧k_≠Aa))) (fun _ hk=>hk.2) (.int .i64 Af)) (fun _ hk=>hk.2) (.slice Ak Ad.length Ai)) (fun _ h_=>h_.1))))) (by exact(Kd.N_reads' Ac.out).2.1) (by refine(Kd.R_reads' (e:=9) (base:=w.heap.size) (ok:=fun k_=>True) (n:=Ah.length) (c:=At) ?_).2.2;exact(qR ((Kd.R_mono (Kd.R_far (p:=⟨Aa,1,none⟩) (Kd.R_far (p:=⟨Aa,0,none⟩) (Kd.R_types Ae.out Ab.out (by decide)) (fun _ hk=>hk.2) (.int .i64 Af)) (fun _ hk=>hk.2) (.slice Ak Ad.length Ai)) (fun _ h_=>h_.1))))) (by exact(Kd.R_reads' Ae.out).2.1) (by exact Tb.below HT.out qb) A5.out).mono ?_);rintro e Hi ⟨Bh,rfl,As,hb⟩;have Al:=y0.mk (Kd.N_lower (Kd.N_mono (ok':=fun k_=>some k_≠(.slice Ak Ad.length Ai:Value).ownBlock∧some k_≠(.slice Av Ah.length At:Value).ownBlock∧k_≠Aa) (Kd.S_N (Kd.S_bound As)) (fun k_ hk_=>⟨(Kd.fresh' (Kd.N_lt (qN ((Kd.N_mono (Kd.N_far (p:=⟨Aa,1,none⟩) (Kd.N_far (p:=⟨Aa,0,none⟩) (Kd.N_mono Ac.out (fun k_ hk=>(⟨hk,hk.2⟩:_∧k_≠Aa))) (fun _ hk=>hk.2) (.int .i64 Af)) (fun _ hk=>hk.2) (.slice Ak Ad.length Ai)) (fun _ h_=>h_.1))))) k_ hk_.2.1),(Kd.fresh' (Kd.R_lt (qR ((Kd.R_mono (Kd.R_far (p:=⟨Aa,1,none⟩) (Kd.R_far (p:=⟨Aa,0,none⟩) (Kd.R_types Ae.out Ab.out (by decide)) (fun _ hk=>hk.2) (.int .i64 Af)) (fun _ hk=>hk.2) (.slice Ak Ad.length Ai)) (fun _ h_=>h_.1))))) k_ hk_.2.1),(Kd.freshB (g:=Aa) (o:=.cells #[.int .i64 Af,.slice Ak Ad.length Ai] 32 (0,0)) (by(with_reducible repeat(first|refine y12 ?_ _|refine y11 ?_|refine y9 ?_ _));refine y13 (cs:=#[.int .i64 Af,.slice none 0 0]) ?_ 1 _ rfl;(with_reducible repeat(first|refine y12 ?_ _|refine y11 ?_|refine y9 ?_ _));refine y13 (cs:=#[.int .i64 0,.slice none 0 0]) ?_ 0 _ rfl;(with_reducible repeat(first|refine y12 ?_ _|refine y11 ?_|refine y9 ?_ _));exact Ab.out) k_ hk_.2.1)⟩)) (y7 qb));replace Ac:=y0.mk (Kd.N_elder' (qN ((Kd.N_mono (Kd.N_far (p:=⟨Aa,1,none⟩) (Kd.N_far (p:=⟨Aa,0,none⟩) (Kd.N_mono Ac.out (fun k_ hk=>(⟨hk,hk.2⟩:_∧k_≠Aa))) (fun _ hk=>hk.2) (.int .i64 Af)) (fun _ hk=>hk.2) (.slice Ak Ad.length Ai)) (fun _ h_=>h_.1)))) (Kd.N_base (Kd.S_N As)) hb);replace Ae:=y0.mk (Kd.R_below (qR ((Kd.R_mono (Kd.R_far (p:=⟨Aa,1,none⟩) (Kd.R_far (p:=⟨Aa,0,none⟩) (Kd.R_types Ae.out Ab.out (by decide)) (fun _ hk=>hk.2) (.int .i64 Af)) (fun _ hk=>hk.2) (.slice Ak Ad.length Ai)) (fun _ h_=>h_.1)))) hb);replace Ab:=y0.mk (blk_below (g:=Aa) (o:=.cells #[.int .i64 Af,.slice Ak Ad.length Ai] 32 (0,0)) (by(with_reducible repeat(first|refine y12 ?_ _|refine y11 ?_|refine y9 ?_ _));refine y13 (cs:=#[.int .i64 Af,.slice none 0 0]) ?_ 1 _ rfl;(with_reducible repeat(first|refine y12 ?_ _|refine y11 ?_|refine y9 ?_ _));refine y13 (cs:=#[.int .i64 0,.slice none 0 0]) ?_ 0 _ rfl;(with_reducible repeat(first|refine y12 ?_ _|refine y11 ?_|refine y9 ?_ _));exact Ab.out) hb);replace HB:=y0.mk (y8 qb hb);(try clear hb);(try clear As);obtain⟨Bn,Bo,Bp,Bq⟩:=qz2 Ab.out)|(go_at_call 22;(with_reducible refine(spec_RelOk.calls k Af _ _ Ad true _ (qc ((Kd.N_reads' Ac.out).2.2)) (by exact(Kd.N_reads' Ac.out).2.1) A6.out).mono ?_);rintro e Hj ⟨rfl,hb⟩;replace Ac:=y0.mk (Kd.N_below (qN Ac.out) hb);replace Ae:=y0.mk (Kd.R_below (qR Ae.out) hb);replace Al:=y0.mk (Kd.N_below (qN Al.out) hb);replace Ab:=y0.mk (qK Ab.out hb);replace HB:=y0.mk (y8 qb hb);(try clear hb)))
   repeat(go_quiet (first|(go_at_call 19;(with_reducible refine(laws_big.calls _ _ l0 false _ (qc Ci.out) Cj.out A2.out).mono ?_);rintro e w' ⟨rfl,⟨nd,rfl⟩⟩;(try first|exact⟨rfl,_,World.drewN_drewN _ _ _⟩|exact⟨rfl,_,Eq.trans (World.drewN_drewN _ _ _) (congrArg (World.drewN _) (Nat.add_assoc _ _ _))⟩))|(go_at_call 20;(with_reducible refine(z3_.calls k _ _ l0 Af Ad Ah _ (qc Ci.out) Cj.out A4.out).mono ?_);rintro e w8 ⟨Dd,Bg,rfl,As,Cd,hb⟩;have Ac:=y0.mk (Kd.N_lower (Kd.N_mono (ok':=fun k_=>some k_≠(Bg:Value).ownBlock) As (fun k_ hk_=>hk_.2)) (y7 qb));have Ae:=y0.mk (Kd.R_lower (Kd.R_mono (ok':=fun k_=>True) Cd (fun _ hk_=>trivial)) (y7 qb));replace HB:=y0.mk (y8 qb hb);(try clear hb);(try clear As);(try clear Cd))|((with_reducible refine y17 (N:=3) rfl ?_);refine qe 3 #[.int .i64 0,.slice none 0 0] 32 ?_;intro Aa hg w9 hbox hb;replace Ac:=y0.mk (Kd.N_below (Kd.N_elderB (qN Ac.out) Aa (Nat.le_of_eq hg.symm)) hb);replace Ae:=y0.mk (Kd.R_below (qR Ae.out) hb);have Ab:=y0.mk (hbox);have Ce:=y0.mk (qg (w:=w) hg);have Cf:=y0.mk (qg (w:=w) hg);replace HB:=y0.mk (y8 qb hb);clear hb hbox hg;obtain⟨Bj,Bk,Bl,Bm⟩:=qz2 Ab.out;obtain⟨Ak,Ai,De⟩:=Kd.N_slice Ac.out;subst De;obtain⟨Av,At,Df⟩:=Kd.R_slice Ae.out;subst Df)|(go_at_call 21;(with_reducible refine(impl_RelSeek.calls k Af _ _ Ad _ _ Ah Aq _ (by refine(Kd.N_reads' (e:=36) (base:=w.heap.size) (ok:=fun k_=>(some k_≠(.slice Av Ah.length At:Value).ownBlock∧k_≠Aa)) (n:=Ad.length) (c:=Ai) ?_).2.2;exact(qN ((Kd.N_mono (Kd.N_far (p:=⟨Aa,1,none⟩) (Kd.N_far (p:=⟨Aa,0,none⟩) (Kd.N_mono Ac.out (fun k_ hk=>(⟨hk,hk.2⟩:_∧k_≠Aa))) (fun _ hk=>hk.2) (.int .i64 Af)) (fun _ hk=>hk.2) (.slice Ak Ad.length Ai)) (fun _ h_=>h_.1))))) (by exact(Kd.N_reads' Ac.out).2.1) (by refine(Kd.R_reads' (e:=9) (base:=w.heap.size) (ok:=fun k_=>True) (n:=Ah.length) (c:=At) ?_).2.2;exact(qR ((Kd.R_mono (Kd.R_far (p:=⟨Aa,1,none⟩) (Kd.R_far (p:=⟨Aa,0,none⟩) (Kd.R_types Ae.out Ab.out (by decide)) (fun _ hk=>hk.2) (.int .i64 Af)) (fun _ hk=>hk.2) (.slice Ak Ad.length Ai)) (fun _ h_=>h_.1))))) (by exact(Kd.R_reads' Ae.out).2.1) (by exact Tb.below HT.out qb) A5.out).mono ?_);rintro e Hi ⟨Bh,rfl,As,hb⟩;have Al:=y0.mk (Kd.N_lower (Kd.N_mono (ok':=fun k_=>some k_≠(.slice Ak Ad.length Ai:Value).ownBlock∧some k_≠(.slice Av Ah.length At:Value).ownBlock∧k_≠Aa) (Kd.S_N (Kd.S_bound As)) (fun k_ hk_=>⟨(Kd.fresh' (Kd.N_lt (qN ((Kd.N_mono (Kd.N_far (p:=⟨Aa,1,none⟩) (Kd.N_far (p:=⟨Aa,0,none⟩) (Kd.N_mono Ac.out (fun k_ hk=>(⟨hk,hk.2⟩:_∧k_≠Aa))) (fun _ hk=>hk.2) (.int .i64 Af)) (fun _ hk=>hk.2) (.slice Ak Ad.length Ai)) (fun _ h_=>h_.1))))) k_ hk_.2.1),(Kd.fresh' (Kd.R_lt (qR ((Kd.R_mono (Kd.R_far (p:=⟨Aa,1,none⟩) (Kd.R_far (p:=⟨Aa,0,none⟩) (Kd.R_types Ae.out Ab.out (by decide)) (fun _ hk=>hk.2) (.int .i64 Af)) (fun _ hk=>hk.2) (.slice Ak Ad.length Ai)) (fun _ h_=>h_.1))))) k_ hk_.2.1),(Kd.freshB (g:=Aa) (o:=.cells #[.int .i64 Af,.slice Ak Ad.length Ai] 32 (0,0)) (by(with_reducible repeat(first|refine y12 ?_ _|refine y11 ?_|refine y9 ?_ _));refine y13 (cs:=#[.int .i64 Af,.slice none 0 0]) ?_ 1 _ rfl;(with_reducible repeat(first|refine y12 ?_ _|refine y11 ?_|refine y9 ?_ _));refine y13 (cs:=#[.int .i64 0,.slice none 0 0]) ?_ 0 _ rfl;(with_reducible repeat(first|refine y12 ?_ _|refine y11 ?_|refine y9 ?_ _));exact Ab.out) k_ hk_.2.1)⟩)) (y7 qb));replace Ac:=y0.mk (Kd.N_elder' (qN ((Kd.N_mono (Kd.N_far (p:=⟨Aa,1,none⟩) (Kd.N_far (p:=⟨Aa,0,none⟩) (Kd.N_mono Ac.out (fun k_ hk=>(⟨hk,hk.2⟩:_∧k_≠Aa))) (fun _ hk=>hk.2) (.int .i64 Af)) (fun _ hk=>hk.2) (.slice Ak Ad.length Ai)) (fun _ h_=>h_.1)))) (Kd.N_base (Kd.S_N As)) hb);replace Ae:=y0.mk (Kd.R_below (qR ((Kd.R_mono (Kd.R_far (p:=⟨Aa,1,none⟩) (Kd.R_far (p:=⟨Aa,0,none⟩) (Kd.R_types Ae.out Ab.out (by decide)) (fun _ hk=>hk.2) (.int .i64 Af)) (fun _ hk=>hk.2) (.slice Ak Ad.length Ai)) (fun _ h_=>h_.1)))) hb);replace Ab:=y0.mk (blk_below (g:=Aa) (o:=.cells #[.int .i64 Af,.slice Ak Ad.length Ai] 32 (0,0)) (by(with_reducible repeat(first|refine y12 ?_ _|refine y11 ?_|refine y9 ?_ _));refine y13 (cs:=#[.int .i64 Af,.slice none 0 0]) ?_ 1 _ rfl;(with_reducible repeat(first|refine y12 ?_ _|refine y11 ?_|refine y9 ?_ _));refine y13 (cs:=#[.int .i64 0,.slice none 0 0]) ?_ 0 _ rfl;(with_reducible repeat(first|refine y12 ?_ _|refine y11 ?_|refine y9 ?_ _));exact Ab.out) hb);replace HB:=y0.mk (y8 qb hb);(try clear hb);(try clear As);obtain⟨Bn,Bo,Bp,Bq⟩:=qz2 Ab.out)|(go_at_call 22;(with_reducible refine(spec_RelOk.calls k Af _ _ Ad true _ (qc ((Kd.N_reads' Ac.out).2.2)) (by exact(Kd.N_reads' Ac.out).2.1) A6.out).mono ?_);rintro e Hj ⟨rfl,hb⟩;replace Ac:=y0.mk (Kd.N_below (qN Ac.out) hb);replace Ae:=y0.mk (Kd.R_below (qR Ae.out) hb);replace Al:=y0.mk (Kd.N_below (qN Al.out) hb);replace Ab:=y0.mk (qK Ab.out hb);replace HB:=y0.mk (y8 qb hb);(try clear hb)));try go_wp2_with (first|(go_at_call 19;(with_reducible refine(laws_big.calls _ _ l0 false _ (qc Ci.out) Cj.out A2.out).mono ?_);rintro e w' ⟨rfl,⟨nd,rfl⟩⟩;(try first|exact⟨rfl,_,World.drewN_drewN _ _ _⟩|exact⟨rfl,_,Eq.trans (World.drewN_drewN _ _ _) (congrArg (World.drewN _) (Nat.add_assoc _ _ _))⟩))|(go_at_call 20;(with_reducible refine(z3_.calls k _ _ l0 Af Ad Ah _ (qc Ci.out) Cj.out A4.out).mono ?_);rintro e w8 ⟨Dd,Bg,rfl,As,Cd,hb⟩;have Ac:=y0.mk (Kd.N_lower (Kd.N_mono (ok':=fun k_=>some k_≠(Bg:Value).ownBlock) As (fun k_ hk_=>hk_.2)) (y7 qb));have Ae:=y0.mk (Kd.R_lower (Kd.R_mono (ok':=fun k_=>True) Cd (fun _ hk_=>trivial)) (y7 qb));replace HB:=y0.mk (y8 qb hb);(try clear hb);(try clear As);(try clear Cd))|((with_reducible refine y17 (N:=3) rfl ?_);refine qe 3 #[.int .i64 0,.slice none 0 0] 32 ?_;intro Aa hg w9 hbox hb;replace Ac:=y0.mk (Kd.N_below (Kd.N_elderB (qN Ac.out) Aa (Nat.le_of_eq hg.symm)) hb);replace Ae:=y0.mk (Kd.R_below (qR Ae.out) hb);have Ab:=y0.mk (hbox);have Ce:=y0.mk (qg (w:=w) hg);have Cf:=y0.mk (qg (w:=w) hg);replace HB:=y0.mk (y8 qb hb);clear hb hbox hg;obtain⟨Bj,Bk,Bl,Bm⟩:=qz2 Ab.out;obtain⟨Ak,Ai,De⟩:=Kd.N_slice Ac.out;subst De;obtain⟨Av,At,Df⟩:=Kd.R_slice Ae.out;subst Df)|(go_at_call 21;(with_reducible refine(impl_RelSeek.calls k Af _ _ Ad _ _ Ah Aq _ (by refine(Kd.N_reads' (e:=36) (base:=w.heap.size) (ok:=fun k_=>(some k_≠(.slice Av Ah.length At:Value).ownBlock∧k_≠Aa)) (n:=Ad.length) (c:=Ai) ?_).2.2;exact(qN ((Kd.N_mono (Kd.N_far (p:=⟨Aa,1,none⟩) (Kd.N_far (p:=⟨Aa,0,none⟩) (Kd.N_mono Ac.out (fun k_ hk=>(⟨hk,hk.2⟩:_∧k_≠Aa))) (fun _ hk=>hk.2) (.int .i64 Af)) (fun _ hk=>hk.2) (.slice Ak Ad.length Ai)) (fun _ h_=>h_.1))))) (by exact(Kd.N_reads' Ac.out).2.1) (by refine(Kd.R_reads' (e:=9) (base:=w.heap.size) (ok:=fun k_=>True) (n:=Ah.length) (c:=At) ?_).2.2;exact(qR ((Kd.R_mono (Kd.R_far (p:=⟨Aa,1,none⟩) (Kd.R_far (p:=⟨Aa,0,none⟩) (Kd.R_types Ae.out Ab.out (by decide)) (fun _ hk=>hk.2) (.int .i64 Af)) (fun _ hk=>hk.2) (.slice Ak Ad.length Ai)) (fun _ h_=>h_.1))))) (by exact(Kd.R_reads' Ae.out).2.1) (by exact Tb.below HT.out qb) A5.out).mono ?_);rintro e Hi ⟨Bh,rfl,As,hb⟩;have Al:=y0.mk (Kd.N_lower (Kd.N_mono (ok':=fun k_=>some k_≠(.slice Ak Ad.length Ai:Value).ownBlock∧some k_≠(.slice Av Ah.length At:Value).ownBlock∧k_≠Aa) (Kd.S_N (Kd.S_bound As)) (fun k_ hk_=>⟨(Kd.fresh' (Kd.N_lt (qN ((Kd.N_mono (Kd.N_far (p:=⟨Aa,1,none⟩) (Kd.N_far (p:=⟨Aa,0,none⟩) (Kd.N_mono Ac.out (fun k_ hk=>(⟨hk,hk.2⟩:_∧k_≠Aa))) (fun _ hk=>hk.2) (.int .i64 Af)) (fun _ hk=>hk.2) (.slice Ak Ad.length Ai)) (fun _ h_=>h_.1))))) k_ hk_.2.1),(Kd.fresh' (Kd.R_lt (qR ((Kd.R_mono (Kd.R_far (p:=⟨Aa,1,none⟩) (Kd.R_far (p:=⟨Aa,0,none⟩) (Kd.R_types Ae.out Ab.out (by decide)) (fun _ hk=>hk.2) (.int .i64 Af)) (fun _ hk=>hk.2) (.slice Ak Ad.length Ai)) (fun _ h_=>h_.1))))) k_ hk_.2.1),(Kd.freshB (g:=Aa) (o:=.cells #[.int .i64 Af,.slice Ak Ad.length Ai] 32 (0,0)) (by(with_reducible repeat(first|refine y12 ?_ _|refine y11 ?_|refine y9 ?_ _));refine y13 (cs:=#[.int .i64 Af,.slice none 0 0]) ?_ 1 _ rfl;(with_reducible repeat(first|refine y12 ?_ _|refine y11 ?_|refine y9 ?_ _));refine y13 (cs:=#[.int .i64 0,.slice none 0 0]) ?_ 0 _ rfl;(with_reducible repeat(first|refine y12 ?_ _|refine y11 ?_|refine y9 ?_ _));exact Ab.out) k_ hk_.2.1)⟩)) (y7 qb));replace Ac:=y0.mk (Kd.N_elder' (qN ((Kd.N_mono (Kd.N_far (p:=⟨Aa,1,none⟩) (Kd.N_far (p:=⟨Aa,0,none⟩) (Kd.N_mono Ac.out (fun k_ hk=>(⟨hk,hk.2⟩:_∧k_≠Aa))) (fun _ hk=>hk.2) (.int .i64 Af)) (fun _ hk=>hk.2) (.slice Ak Ad.length Ai)) (fun _ h_=>h_.1)))) (Kd.N_base (Kd.S_N As)) hb);replace Ae:=y0.mk (Kd.R_below (qR ((Kd.R_mono (Kd.R_far (p:=⟨Aa,1,none⟩) (Kd.R_far (p:=⟨Aa,0,none⟩) (Kd.R_types Ae.out Ab.out (by decide)) (fun _ hk=>hk.2) (.int .i64 Af)) (fun _ hk=>hk.2) (.slice Ak Ad.length Ai)) (fun _ h_=>h_.1)))) hb);replace Ab:=y0.mk (blk_below (g:=Aa) (o:=.cells #[.int .i64 Af,.slice Ak Ad.length Ai] 32 (0,0)) (by(with_reducible repeat(first|refine y12 ?_ _|refine y11 ?_|refine y9 ?_ _));refine y13 (cs:=#[.int .i64 Af,.slice none 0 0]) ?_ 1 _ rfl;(with_reducible repeat(first|refine y12 ?_ _|refine y11 ?_|refine y9 ?_ _));refine y13 (cs:=#[.int .i64 0,.slice none 0 0]) ?_ 0 _ rfl;(with_reducible repeat(first|refine y12 ?_ _|refine y11 ?_|refine y9 ?_ _));exact Ab.out) hb);replace HB:=y0.mk (y8 qb hb);(try clear hb);(try clear As);obtain⟨Bn,Bo,Bp,Bq⟩:=qz2 Ab.out)|(go_at_call 22;(with_reducible refine(spec_RelOk.calls k Af _ _ Ad true _ (qc ((Kd.N_reads' Ac.out).2.2)) (by exact(Kd.N_reads' Ac.out).2.1) A6.out).mono ?_);rintro e Hj ⟨rfl,hb⟩;replace Ac:=y0.mk (Kd.N_below (qN Ac.out) hb);replace Ae:=y0.mk (Kd.R_below (qR Ae.out) hb);replace Al:=y0.mk (Kd.N_below (qN Al.out) hb);replace Ab:=y0.mk (qK Ab.out hb);replace HB:=y0.mk (y8 qb hb);(try clear hb))))
   go_loopg [6,7] k (fun kq v6 v7 w'=>∃(Au:Int) (Aj:Int),v6=.int .i64 Au∧v7=.int .i64 Aj∧y0 (laws_FnSought.l0 kq Ah Aq Au Aj Af Ad=some r)∧y0 (kq≤k)∧y0 (Kd.R Kd.string 9 w' w.heap.size (fun _=>True) (.slice Av Ah.length At) Ah)∧y0 (Kd.N k36 36 w' w.heap.size (fun k_=>some k_≠((.slice Av Ah.length At):Value).ownBlock∧some k_≠((.slice Ak Ad.length Ai):Value).ownBlock∧k_≠Aa) Bh Aq)∧y0 (Kd.N k36 36 w' w.heap.size (fun k_=>some k_≠((.slice Av Ah.length At):Value).ownBlock∧some k_≠(Bh:Value).ownBlock∧k_≠Aa) (.slice Ak Ad.length Ai) Ad)∧y0 (w'.heap[Aa]?=some (.cells #[.int .i64 Af,(.slice Ak Ad.length Ai)] 32 (0,0)))∧y0 (Below w.heap.size w w'))
   case atStart=>exact⟨(0),(0),qy2,qy2,H',⟨Nat.le_refl _⟩,⟨qR Ae.out⟩,⟨qN (Kd.N_mono Al.out (fun _ hk=>⟨hk.2.1,⟨hk.1,hk.2.2⟩⟩))⟩,⟨qN (Kd.N_mono Ac.out (fun _ hk=>⟨hk.1.1,⟨hk.2,hk.1.2⟩⟩))⟩,⟨qk Ab.out⟩,⟨qb⟩⟩
   case round =>
    clear H'
    (try clear c3 c7 Bj Bk Bn Bo Bl Bm Bp Bq)
    obtain⟨Au,Aj,rfl,rfl,HA,Eg,Br,Az,Ag,Ab,HB⟩:=hrel
    cases gk with
    | zero=>exact absurd HA.out (by simp [laws_FnSought.l0])
    | succ k1 =>
     have H:=HA.out
     clear HA
     simp only [laws_FnSought.l0]at H
     by_cases Ez:Aj < (Ad.length:Int)
     ·rw [if_pos Ez]at H
      have Eh:=decide_eq_true Ez
      clear Ez
      obtain⟨Hk,H⟩:=qo H
      have Fc:decide (0≤Aj)=true:=decide_eq_true Hk
      clear Hk
      have Ek:=y0.mk H
      clear H
      obtain⟨Ds,Dt,Du,Dv⟩:=qz2 Ab.out
      have Dg:0≤(Aj:Int):=of_decide_eq_true qy1
      have Dh:Aj < (Ad.length:Int):=of_decide_eq_true qy1
      obtain⟨Bb,Di,Gp,Gq,Ck,Cl,Cm⟩:=at_T36 (Kd.N_reads' Ag.out).2.2 Aj Dg Dh
      cases Gq
      obtain⟨Hl,El,Em,Dj⟩:=Kd.N_get Ag.out z36 Aj Dg (by first|exact Dh|exact of_decide_eq_true qy1|(have e_:=(Kd.N_reads' Ag.out).1;omega))
      obtain⟨Fi,Fj,rfl,Bs,Bt⟩:=k36_openF Em
      have Bc:=Dj 0 _ rfl
      rw [Nat.add_zero,show(k36).sz=1 from rfl,Nat.mul_one]at Bc
      replace Bc:=Option.some.inj (Bc.symm.trans Ck)
      injection Bc with hva_ hvn_ hvc_
      rw [hva_]at Bt
      rw [hvc_]at Bs
      have Fk:=y0.mk (show Kd.V Kd.string 9 _ w.heap.size _ _ ((y20 Ad Aj).f0)from Kd.V_mk Bs Bt)
      clear hva_ hvn_ hvc_ Bt Bs
      clear Dj El
      have Ap:=y0.mk Cm
      have Fl:=y0.mk Cl
      clear Cm Cl
      replace Dg:=eq_true Dg
      replace Dh:=eq_true Dh
      go_upto_block 2 with(fail)
      repeat(go_quiet (fail);go_upto_block 2 with(fail))
      go_cut [8] (fun v8 wc=>∃(kq:Nat) (Cn:Bool),v8=.bool Cn∧y0 (laws_FnSought.j2 kq Ah Aq Au Aj Cn Af Ad=some r)∧y0 (kq≤k1)∧y0 (Kd.R Kd.string 9 wc w.heap.size (fun _=>True) (.slice Av Ah.length At) Ah)∧y0 (Kd.N k36 36 wc w.heap.size (fun k_=>some k_≠((.slice Av Ah.length At):Value).ownBlock∧some k_≠((.slice (some Bb) Ad.length Ai):Value).ownBlock∧k_≠Aa) Bh Aq)∧y0 (Kd.N k36 36 wc w.heap.size (fun k_=>some k_≠((.slice Av Ah.length At):Value).ownBlock∧some k_≠(Bh:Value).ownBlock∧k_≠Aa) (.slice (some Bb) Ad.length Ai) Ad)∧y0 (wc.heap[Aa]?=some (.cells #[.int .i64 Af,(.slice (some Bb) Ad.length Ai)] 32 (0,0)))∧y0 (Kd.C Kd.string wc Di ((y20 Ad Aj).f0).length ((y20 Ad Aj).f0))∧y0 (Below w.heap.size w wc))
      case first =>
       have H:=Ek.out
       clear Ek
       have H':=y0.mk H
       clear H
       go_wp2
       repeat(go_quiet (fail);try go_wp2)
       go_loopg [8,9] k1 (fun kq v8 v9 w'=>∃(Dk:Bool) (Ay:Int),v8=.bool Dk∧v9=.int .i64 Ay∧y0 (laws_FnSought.l1 kq Ah Aq Au Aj Dk Ay Af Ad=some r)∧y0 (kq≤k1)∧y0 (Kd.R Kd.string 9 w' w.heap.size (fun _=>True) (.slice Av Ah.length At) Ah)∧y0 (Kd.N k36 36 w' w.heap.size (fun k_=>some k_≠((.slice Av Ah.length At):Value).ownBlock∧some k_≠((.slice (some Bb) Ad.length Ai):Value).ownBlock∧k_≠Aa) Bh Aq)∧y0 (Kd.N k36 36 w' w.heap.size (fun k_=>some k_≠((.slice Av Ah.length At):Value).ownBlock∧some k_≠(Bh:Value).ownBlock∧k_≠Aa) (.slice (some Bb) Ad.length Ai) Ad)∧y0 (w'.heap[Aa]?=some (.cells #[.int .i64 Af,(.slice (some Bb) Ad.length Ai)] 32 (0,0)))∧y0 (Kd.C Kd.string w' Di ((y20 Ad Aj).f0).length ((y20 Ad Aj).f0))∧y0 (Below w.heap.size w w'))
       case atStart=>exact⟨(decide ((Ah.length:Int)≤(((y20 Ad Aj).f0).length:Int))),(0),qy2,qy2,H',⟨Nat.le_refl _⟩,⟨qR Br.out⟩,⟨qN Az.out⟩,⟨qN Ag.out⟩,⟨qk Ab.out⟩,⟨by repeat(first|(with_reducible exact Ap.out)|(with_reducible refine Kd.C_alloc ?_ _)|(with_reducible refine Kd.C_drewN ?_ _)|(with_reducible refine Kd.C_drew ?_)|exact Ap.out)⟩,⟨qb⟩⟩
       case round =>
        clear H'
        (try clear Eh Fc Ds Dt Du Dv Ck Dg Dh)
        obtain⟨Dk,Ay,rfl,rfl,HA,Fm,Br,Az,Ag,Ab,Ap,HB⟩:=hrel
        cases gk with
        | zero=>exact absurd HA.out (by simp [laws_FnSought.l1])
        | succ k2 =>
         have H:=HA.out
         clear HA
         simp only [laws_FnSought.l1]at H
         by_cases Fa:Ay < (Ah.length:Int)
         ·rw [if_pos Fa]at H
          have Cg:=decide_eq_true Fa
          clear Fa
          (first|rw [Cg]|(simp only [i64_w,i32_w];rw [Cg])|skip)
          by_cases Fn:Dk=true
          ·subst Fn
           replace H:=qT H
           obtain⟨Hm,H⟩:=qo H
           have Hn:decide (0≤Aj)=true:=decide_eq_true Hm
           clear Hm
           obtain⟨Ho,H⟩:=qo H
           have Hp:decide (Aj < (Ad.length:Int))=true:=decide_eq_true Ho
           clear Ho
           obtain⟨Hq,H⟩:=qo H
           have Hr:decide (0≤Ay)=true:=decide_eq_true Hq
           clear Hq
           obtain⟨Hs,H⟩:=qo H
           have Ht:decide (Ay < (((y20 Ad Aj).f0).length:Int))=true:=decide_eq_true Hs
           clear Hs
           have H':=y0.mk H
           clear H
           obtain⟨Fo,Fp,Fq,Fr⟩:=qz2 Ab.out
           have Dw:0≤(Aj:Int):=of_decide_eq_true qy1
           have Dx:Aj < (Ad.length:Int):=of_decide_eq_true qy1
           obtain⟨Fd,Gr,Gs,Gt,Dy,Co,Cp⟩:=at_T36 (Kd.N_reads' Ag.out).2.2 Aj Dw Dx
           obtain rfl:Bb=Fd:=(by injection Gt)
           obtain⟨Hu,En,Eo,Dl⟩:=Kd.N_get Ag.out z36 Aj Dw (by first|exact Dx|exact of_decide_eq_true qy1|(have e_:=(Kd.N_reads' Ag.out).1;omega))
           obtain⟨Fs,Ft,rfl,Bu,Bv⟩:=k36_openF Eo
           have Bd:=Dl 0 _ rfl
           rw [Nat.add_zero,show(k36).sz=1 from rfl,Nat.mul_one]at Bd
           replace Bd:=Option.some.inj (Bd.symm.trans Dy)
           injection Bd with hva_ hvn_ hvc_
           rw [hva_]at Bv
           rw [hvc_]at Bu
           have Fu:=y0.mk (show Kd.V Kd.string 9 _ w.heap.size _ _ ((y20 Ad Aj).f0)from Kd.V_mk Bu Bv)
           clear hva_ hvn_ hvc_ Bv Bu
           clear Dl En
           have Cq:=y0.mk Cp
           have Fv:=y0.mk Co
           clear Cp Co
           replace Dw:=eq_true Dw
           replace Dx:=eq_true Dx
           have Ep:0≤(Ay:Int):=of_decide_eq_true qy1
           have Er:Ay < (((y20 Ad Aj).f0).length:Int):=of_decide_eq_true qy1
           obtain⟨Hv,Gu,Fw⟩:=Kd.at_string (by repeat(first|(with_reducible exact Cq.out)|(with_reducible refine Kd.C_alloc ?_ _)|(with_reducible refine Kd.C_drewN ?_ _)|(with_reducible refine Kd.C_drew ?_)|exact Cq.out)) Ay Ep Er
           cases Gu
           replace Ep:=eq_true Ep
           replace Er:=eq_true Er
           have Es:0≤(Ay:Int):=of_decide_eq_true qy1
           have Et:Ay < (Ah.length:Int):=of_decide_eq_true qy1
           obtain⟨Hw,Gv,Fx⟩:=Kd.at_string (Kd.R_reads' Br.out).2.2 Ay Es Et
           cases Gv
           replace Es:=eq_true Es
           replace Et:=eq_true Et
           go_wp2
           repeat(go_quiet (fail);try go_wp2)
           go_roundg k2
           case measure=>have:=Eg.out;have:=Fm.out;omega
           exact⟨(((rdOf ByteArray.empty ((y20 Ad Aj).f0) Ay).toList == (rdOf ByteArray.empty Ah Ay).toList)),(wrap64 (Ay + 1)),qy2,qy2,H',⟨by have:=Eg.out;have:=Fm.out;omega⟩,⟨qR Br.out⟩,⟨qN Az.out⟩,⟨qN Ag.out⟩,⟨qk Ab.out⟩,⟨by repeat(first|(with_reducible exact Ap.out)|(with_reducible refine Kd.C_alloc ?_ _)|(with_reducible refine Kd.C_drewN ?_ _)|(with_reducible refine Kd.C_drew ?_)|exact Ap.out)⟩,⟨qb⟩⟩
          ·replace Fn:=Bool.eq_false_iff.mpr Fn
           subst Fn
           replace H:=qF H
           have H':=y0.mk H
           clear H
           go_wp2
           repeat(go_quiet (fail);try go_wp2)
           go_meet
           exact⟨_,(false),qy2,H',⟨by have:=Eg.out;have:=Fm.out;first|omega|exact Nat.le_refl _⟩,⟨qR Br.out⟩,⟨qN Az.out⟩,⟨qN Ag.out⟩,⟨qk Ab.out⟩,⟨by repeat(first|(with_reducible exact Ap.out)|(with_reducible refine Kd.C_alloc ?_ _)|(with_reducible refine Kd.C_drewN ?_ _)|(with_reducible refine Kd.C_drew ?_)|exact Ap.out)⟩,⟨qb⟩⟩
         ·rw [if_neg Fa]at H
          have Cg:=decide_eq_false Fa
          clear Fa
          (first|rw [Cg]|(simp only [i64_w,i32_w];rw [Cg])|skip)
          have H':=y0.mk H
          clear H
          go_wp2
          repeat(go_quiet (fail);try go_wp2)
          go_meet
          exact⟨_,(Dk),qy2,H',⟨by have:=Eg.out;have:=Fm.out;first|omega|exact Nat.le_refl _⟩,⟨qR Br.out⟩,⟨qN Az.out⟩,⟨qN Ag.out⟩,⟨qk Ab.out⟩,⟨by repeat(first|(with_reducible exact Ap.out)|(with_reducible refine Kd.C_alloc ?_ _)|(with_reducible refine Kd.C_drewN ?_ _)|(with_reducible refine Kd.C_drew ?_)|exact Ap.out)⟩,⟨qb⟩⟩
      case rest =>
       clear Ek
       obtain⟨kq,Cn,rfl,HA,Dz,Br,Az,Ag,Ab,Ap,HB⟩:=hcut
       cases kq with
       | zero=>exact absurd HA.out (by simp [laws_FnSought.j2])
       | succ Dm =>
        have H:=HA.out
        clear HA
        simp only [laws_FnSought.j2]at H
        by_cases Fy:Cn=true
        ·subst Fy
         replace H:=qT H
         by_cases Fb:Au≥(Aq.length:Int)
         ·rw [if_pos Fb]at H
          have Fe:decide ((Aq.length:Int)≤Au)=true:=decide_eq_true Fb
          clear Fb
          exact absurd ((Option.some.inj H).trans htrue_) (by decide)
         ·rw [if_neg Fb]at H
          have Fe:decide ((Aq.length:Int)≤Au)=false:=decide_eq_false Fb
          clear Fb
          obtain⟨Hx,H⟩:=qo H
          have Hy:decide (0≤Au)=true:=decide_eq_true Hx
          clear Hx
          obtain⟨Hz,H⟩:=qo H
          have Ia:decide (Au < (Aq.length:Int))=true:=decide_eq_true Hz
          clear Hz
          obtain⟨Ib,H⟩:=qo H
          have Ic:decide (0≤Aj)=true:=decide_eq_true Ib
          clear Ib
          obtain⟨Id,H⟩:=qo H
          have Ie:decide (Aj < (Ad.length:Int))=true:=decide_eq_true Id
          clear Id
          obtain⟨Gw,Gx,H⟩:=qB H
          by_cases Fz:Gw=true
          ·subst Fz
           replace H:=qT H
           have H':=y0.mk H
           clear H
           obtain⟨Io,Ip,Gy⟩:=Kd.N_slice Az.out
           subst Gy
           have Ea:0≤(Au:Int):=of_decide_eq_true qy1
           have Eb:Au < (Aq.length:Int):=of_decide_eq_true qy1
           obtain⟨Ig,Gz,Ha,Hb,Ec,Cr,Cs⟩:=at_T36 (Kd.N_reads' Az.out).2.2 Au Ea Eb
           cases Hb
           obtain⟨Ih,Eu,Ew,Dn⟩:=Kd.N_get Az.out z36 Au Ea (by first|exact Eb|exact of_decide_eq_true qy1|(have e_:=(Kd.N_reads' Az.out).1;omega))
           obtain⟨Ga,Gb,rfl,Bw,Bx⟩:=k36_openF Ew
           have Be:=Dn 0 _ rfl
           rw [Nat.add_zero,show(k36).sz=1 from rfl,Nat.mul_one]at Be
           replace Be:=Option.some.inj (Be.symm.trans Ec)
           injection Be with hva_ hvn_ hvc_
           rw [hva_]at Bx
           rw [hvc_]at Bw
           have Gc:=y0.mk (show Kd.V Kd.string 9 _ w.heap.size _ _ ((y20 Aq Au).f0)from Kd.V_mk Bw Bx)
           clear hva_ hvn_ hvc_ Bx Bw
           clear Dn Eu
           have Aw:=y0.mk Cs
           have Bz:=y0.mk Cr
           clear Cs Cr
           replace Ea:=eq_true Ea
           replace Eb:=eq_true Eb
           obtain⟨Gd,Ge,Gf,Gg⟩:=qz2 Ab.out
           have Ed:0≤(Aj:Int):=of_decide_eq_true qy1
           have Ee:Aj < (Ad.length:Int):=of_decide_eq_true qy1
           obtain⟨Ff,Hc,Hd,He,Ef,Ct,Cu⟩:=at_T36 (Kd.N_reads' Ag.out).2.2 Aj Ed Ee
           obtain rfl:Bb=Ff:=(by injection He)
           obtain⟨Ii,Ex,Ey,Do⟩:=Kd.N_get Ag.out z36 Aj Ed (by first|exact Ee|exact of_decide_eq_true qy1|(have e_:=(Kd.N_reads' Ag.out).1;omega))
           obtain⟨Gh,Gi,rfl,Ca,Cb⟩:=k36_openF Ey
           have Bf:=Do 0 _ rfl
           rw [Nat.add_zero,show(k36).sz=1 from rfl,Nat.mul_one]at Bf
           replace Bf:=Option.some.inj (Bf.symm.trans Ef)
           injection Bf with hva_ hvn_ hvc_
           rw [hva_]at Cb
           rw [hvc_]at Ca
           have Gj:=y0.mk (show Kd.V Kd.string 9 _ w.heap.size _ _ ((y20 Ad Aj).f0)from Kd.V_mk Ca Cb)
           clear hva_ hvn_ hvc_ Cb Ca
           clear Do Ex
           have Ax:=y0.mk Cu
           have Cc:=y0.mk Ct
           clear Cu Ct
           replace Ed:=eq_true Ed
           replace Ee:=eq_true Ee
           go_wp2_with (first|(go_at_call 23;(with_reducible refine(laws_sameTexts.calls Dm _ _ ((y20 Aq Au).f0) _ _ ((y20 Ad Aj).f0) true _ (qc (by repeat(first|(with_reducible exact Aw.out)|(with_reducible refine Kd.C_alloc ?_ _)|(with_reducible refine Kd.C_drewN ?_ _)|(with_reducible refine Kd.C_drew ?_)|exact Aw.out))) Bz.out (qc (by repeat(first|(with_reducible exact Ax.out)|(with_reducible refine Kd.C_alloc ?_ _)|(with_reducible refine Kd.C_drewN ?_ _)|(with_reducible refine Kd.C_drew ?_)|exact Ax.out))) Cc.out Gx.out).mono ?_);rintro e w' ⟨rfl,⟨nd,rfl⟩⟩;(try first|exact⟨rfl,_,World.drewN_drewN _ _ _⟩|exact⟨rfl,_,Eq.trans (World.drewN_drewN _ _ _) (congrArg (World.drewN _) (Nat.add_assoc _ _ _))⟩)))
           repeat(go_quiet (first|(go_at_call 23;(with_reducible refine(laws_sameTexts.calls Dm _ _ ((y20 Aq Au).f0) _ _ ((y20 Ad Aj).f0) true _ (qc (by repeat(first|(with_reducible exact Aw.out)|(with_reducible refine Kd.C_alloc ?_ _)|(with_reducible refine Kd.C_drewN ?_ _)|(with_reducible refine Kd.C_drew ?_)|exact Aw.out))) Bz.out (qc (by repeat(first|(with_reducible exact Ax.out)|(with_reducible refine Kd.C_alloc ?_ _)|(with_reducible refine Kd.C_drewN ?_ _)|(with_reducible refine Kd.C_drew ?_)|exact Ax.out))) Cc.out Gx.out).mono ?_);rintro e w' ⟨rfl,⟨nd,rfl⟩⟩;(try first|exact⟨rfl,_,World.drewN_drewN _ _ _⟩|exact⟨rfl,_,Eq.trans (World.drewN_drewN _ _ _) (congrArg (World.drewN _) (Nat.add_assoc _ _ _))⟩)));try go_wp2_with (first|(go_at_call 23;(with_reducible refine(laws_sameTexts.calls Dm _ _ ((y20 Aq Au).f0) _ _ ((y20 Ad Aj).f0) true _ (qc (by repeat(first|(with_reducible exact Aw.out)|(with_reducible refine Kd.C_alloc ?_ _)|(with_reducible refine Kd.C_drewN ?_ _)|(with_reducible refine Kd.C_drew ?_)|exact Aw.out))) Bz.out (qc (by repeat(first|(with_reducible exact Ax.out)|(with_reducible refine Kd.C_alloc ?_ _)|(with_reducible refine Kd.C_drewN ?_ _)|(with_reducible refine Kd.C_drew ?_)|exact Ax.out))) Cc.out Gx.out).mono ?_);rintro e w' ⟨rfl,⟨nd,rfl⟩⟩;(try first|exact⟨rfl,_,World.drewN_drewN _ _ _⟩|exact⟨rfl,_,Eq.trans (World.drewN_drewN _ _ _) (congrArg (World.drewN _) (Nat.add_assoc _ _ _))⟩))))
           go_roundg Dm
           case measure=>have:=Eg.out;have:=Dz.out;omega
           exact⟨(wrap64 (Au + 1)),(wrap64 (Aj + 1)),qy2,qy2,H',⟨by have:=Eg.out;have:=Dz.out;omega⟩,⟨qR Br.out⟩,⟨qN Az.out⟩,⟨qN Ag.out⟩,⟨qk Ab.out⟩,⟨qb⟩⟩
          ·replace Fz:=Bool.eq_false_iff.mpr Fz
           subst Fz
           replace H:=qF H
           exact absurd ((Option.some.inj H).trans htrue_) (by decide)
        ·replace Fy:=Bool.eq_false_iff.mpr Fy
         subst Fy
         replace H:=qF H
         have H':=y0.mk H
         clear H
         go_wp2
         repeat(go_quiet (fail);try go_wp2)
         go_roundg Dm
         case measure=>have:=Eg.out;have:=Dz.out;omega
         exact⟨(Au),(wrap64 (Aj + 1)),qy2,qy2,H',⟨by have:=Eg.out;have:=Dz.out;omega⟩,⟨qR Br.out⟩,⟨qN Az.out⟩,⟨qN Ag.out⟩,⟨qk Ab.out⟩,⟨qb⟩⟩
     ·rw [if_neg Ez]at H
      have Eh:=decide_eq_false Ez
      clear Ez
      obtain rfl:=Option.some.inj H
      obtain⟨Gk,Gl,Gm,Gn⟩:=qz2 Ab.out
      obtain⟨Iq,Ir,Hf⟩:=Kd.N_slice Az.out
      subst Hf
      go_wp2
      repeat(go_quiet (fail);try go_wp2)
      go_ret
      exact⟨qf,qb⟩
  ·replace c7:=Bool.eq_false_iff.mpr c7
   subst c7
   replace H:=qF H
   obtain rfl:=Option.some.inj H
   go_enter Tryz.func4,Tryz.ntmps4
   go_wp2_with (first|(go_at_call 19;(with_reducible refine(laws_big.calls _ _ l0 false _ (qc Ci.out) Cj.out A2.out).mono ?_);rintro e w' ⟨rfl,⟨nd,rfl⟩⟩;(try first|exact⟨rfl,_,World.drewN_drewN _ _ _⟩|exact⟨rfl,_,Eq.trans (World.drewN_drewN _ _ _) (congrArg (World.drewN _) (Nat.add_assoc _ _ _))⟩))|(go_at_call 20;(with_reducible refine(z3_.calls k _ _ l0 Af Ad Ah _ (qc Ci.out) Cj.out A4.out).mono ?_);rintro e Ij ⟨Dd,Bg,rfl,As,Cd,hb⟩;have Ac:=y0.mk (Kd.N_lower (Kd.N_mono (ok':=fun k_=>some k_≠(Bg:Value).ownBlock) As (fun k_ hk_=>hk_.2)) (y7 qb));have Ae:=y0.mk (Kd.R_lower (Kd.R_mono (ok':=fun k_=>True) Cd (fun _ hk_=>trivial)) (y7 qb));replace HB:=y0.mk (y8 qb hb);(try clear hb);(try clear As);(try clear Cd))|((with_reducible refine y17 (N:=3) rfl ?_);refine qe 3 #[.int .i64 0,.slice none 0 0] 32 ?_;intro Aa hg Ik hbox hb;replace Ac:=y0.mk (Kd.N_below (Kd.N_elderB (qN Ac.out) Aa (Nat.le_of_eq hg.symm)) hb);replace Ae:=y0.mk (Kd.R_below (qR Ae.out) hb);have Ab:=y0.mk (hbox);have Ce:=y0.mk (qg (w:=w) hg);have Cf:=y0.mk (qg (w:=w) hg);replace HB:=y0.mk (y8 qb hb);clear hb hbox hg;obtain⟨Cv,Cw,Cx,Cy⟩:=qz2 Ab.out;obtain⟨Ao,Am,Dp⟩:=Kd.N_slice Ac.out;subst Dp;obtain⟨Ch,Bi,Dq⟩:=Kd.R_slice Ae.out;subst Dq)|(go_at_call 21;(with_reducible refine(impl_RelSeek.calls k Af _ _ Ad _ _ Ah Aq _ (by refine(Kd.N_reads' (e:=36) (base:=w.heap.size) (ok:=fun k_=>(some k_≠(.slice Ch Ah.length Bi:Value).ownBlock∧k_≠Aa)) (n:=Ad.length) (c:=Am) ?_).2.2;exact(qN ((Kd.N_mono (Kd.N_far (p:=⟨Aa,1,none⟩) (Kd.N_far (p:=⟨Aa,0,none⟩) (Kd.N_mono Ac.out (fun k_ hk=>(⟨hk,hk.2⟩:_∧k_≠Aa))) (fun _ hk=>hk.2) (.int .i64 Af)) (fun _ hk=>hk.2) (.slice Ao Ad.length Am)) (fun _ h_=>h_.1))))) (by exact(Kd.N_reads' Ac.out).2.1) (by refine(Kd.R_reads' (e:=9) (base:=w.heap.size) (ok:=fun k_=>True) (n:=Ah.length) (c:=Bi) ?_).2.2;exact(qR ((Kd.R_mono (Kd.R_far (p:=⟨Aa,1,none⟩) (Kd.R_far (p:=⟨Aa,0,none⟩) (Kd.R_types Ae.out Ab.out (by decide)) (fun _ hk=>hk.2) (.int .i64 Af)) (fun _ hk=>hk.2) (.slice Ao Ad.length Am)) (fun _ h_=>h_.1))))) (by exact(Kd.R_reads' Ae.out).2.1) (by exact Tb.below HT.out qb) A5.out).mono ?_);rintro e Il ⟨Bh,rfl,As,hb⟩;have Al:=y0.mk (Kd.N_lower (Kd.N_mono (ok':=fun k_=>some k_≠(.slice Ao Ad.length Am:Value).ownBlock∧some k_≠(.slice Ch Ah.length Bi:Value).ownBlock∧k_≠Aa) (Kd.S_N (Kd.S_bound As)) (fun k_ hk_=>⟨(Kd.fresh' (Kd.N_lt (qN ((Kd.N_mono (Kd.N_far (p:=⟨Aa,1,none⟩) (Kd.N_far (p:=⟨Aa,0,none⟩) (Kd.N_mono Ac.out (fun k_ hk=>(⟨hk,hk.2⟩:_∧k_≠Aa))) (fun _ hk=>hk.2) (.int .i64 Af)) (fun _ hk=>hk.2) (.slice Ao Ad.length Am)) (fun _ h_=>h_.1))))) k_ hk_.2.1),(Kd.fresh' (Kd.R_lt (qR ((Kd.R_mono (Kd.R_far (p:=⟨Aa,1,none⟩) (Kd.R_far (p:=⟨Aa,0,none⟩) (Kd.R_types Ae.out Ab.out (by decide)) (fun _ hk=>hk.2) (.int .i64 Af)) (fun _ hk=>hk.2) (.slice Ao Ad.length Am)) (fun _ h_=>h_.1))))) k_ hk_.2.1),(Kd.freshB (g:=Aa) (o:=.cells #[.int .i64 Af,.slice Ao Ad.length Am] 32 (0,0)) (by(with_reducible repeat(first|refine y12 ?_ _|refine y11 ?_|refine y9 ?_ _));refine y13 (cs:=#[.int .i64 Af,.slice none 0 0]) ?_ 1 _ rfl;(with_reducible repeat(first|refine y12 ?_ _|refine y11 ?_|refine y9 ?_ _));refine y13 (cs:=#[.int .i64 0,.slice none 0 0]) ?_ 0 _ rfl;(with_reducible repeat(first|refine y12 ?_ _|refine y11 ?_|refine y9 ?_ _));exact Ab.out) k_ hk_.2.1)⟩)) (y7 qb));replace Ac:=y0.mk (Kd.N_elder' (qN ((Kd.N_mono (Kd.N_far (p:=⟨Aa,1,none⟩) (Kd.N_far (p:=⟨Aa,0,none⟩) (Kd.N_mono Ac.out (fun k_ hk=>(⟨hk,hk.2⟩:_∧k_≠Aa))) (fun _ hk=>hk.2) (.int .i64 Af)) (fun _ hk=>hk.2) (.slice Ao Ad.length Am)) (fun _ h_=>h_.1)))) (Kd.N_base (Kd.S_N As)) hb);replace Ae:=y0.mk (Kd.R_below (qR ((Kd.R_mono (Kd.R_far (p:=⟨Aa,1,none⟩) (Kd.R_far (p:=⟨Aa,0,none⟩) (Kd.R_types Ae.out Ab.out (by decide)) (fun _ hk=>hk.2) (.int .i64 Af)) (fun _ hk=>hk.2) (.slice Ao Ad.length Am)) (fun _ h_=>h_.1)))) hb);replace Ab:=y0.mk (blk_below (g:=Aa) (o:=.cells #[.int .i64 Af,.slice Ao Ad.length Am] 32 (0,0)) (by(with_reducible repeat(first|refine y12 ?_ _|refine y11 ?_|refine y9 ?_ _));refine y13 (cs:=#[.int .i64 Af,.slice none 0 0]) ?_ 1 _ rfl;(with_reducible repeat(first|refine y12 ?_ _|refine y11 ?_|refine y9 ?_ _));refine y13 (cs:=#[.int .i64 0,.slice none 0 0]) ?_ 0 _ rfl;(with_reducible repeat(first|refine y12 ?_ _|refine y11 ?_|refine y9 ?_ _));exact Ab.out) hb);replace HB:=y0.mk (y8 qb hb);(try clear hb);(try clear As);obtain⟨Cz,Da,Db,Dc⟩:=qz2 Ab.out)|(go_at_call 22;(with_reducible refine(spec_RelOk.calls k Af _ _ Ad false _ (qc ((Kd.N_reads' Ac.out).2.2)) (by exact(Kd.N_reads' Ac.out).2.1) A6.out).mono ?_);rintro e Im ⟨rfl,hb⟩;replace Ac:=y0.mk (Kd.N_below (qN Ac.out) hb);replace Ae:=y0.mk (Kd.R_below (qR Ae.out) hb);replace Al:=y0.mk (Kd.N_below (qN Al.out) hb);replace Ab:=y0.mk (qK Ab.out hb);replace HB:=y0.mk (y8 qb hb);(try clear hb);obtain⟨Fg,Fh,Dr⟩:=Kd.N_slice Al.out;subst Dr))
   repeat(go_quiet (first|(go_at_call 19;(with_reducible refine(laws_big.calls _ _ l0 false _ (qc Ci.out) Cj.out A2.out).mono ?_);rintro e w' ⟨rfl,⟨nd,rfl⟩⟩;(try first|exact⟨rfl,_,World.drewN_drewN _ _ _⟩|exact⟨rfl,_,Eq.trans (World.drewN_drewN _ _ _) (congrArg (World.drewN _) (Nat.add_assoc _ _ _))⟩))|(go_at_call 20;(with_reducible refine(z3_.calls k _ _ l0 Af Ad Ah _ (qc Ci.out) Cj.out A4.out).mono ?_);rintro e Ij ⟨Dd,Bg,rfl,As,Cd,hb⟩;have Ac:=y0.mk (Kd.N_lower (Kd.N_mono (ok':=fun k_=>some k_≠(Bg:Value).ownBlock) As (fun k_ hk_=>hk_.2)) (y7 qb));have Ae:=y0.mk (Kd.R_lower (Kd.R_mono (ok':=fun k_=>True) Cd (fun _ hk_=>trivial)) (y7 qb));replace HB:=y0.mk (y8 qb hb);(try clear hb);(try clear As);(try clear Cd))|((with_reducible refine y17 (N:=3) rfl ?_);refine qe 3 #[.int .i64 0,.slice none 0 0] 32 ?_;intro Aa hg Ik hbox hb;replace Ac:=y0.mk (Kd.N_below (Kd.N_elderB (qN Ac.out) Aa (Nat.le_of_eq hg.symm)) hb);replace Ae:=y0.mk (Kd.R_below (qR Ae.out) hb);have Ab:=y0.mk (hbox);have Ce:=y0.mk (qg (w:=w) hg);have Cf:=y0.mk (qg (w:=w) hg);replace HB:=y0.mk (y8 qb hb);clear hb hbox hg;obtain⟨Cv,Cw,Cx,Cy⟩:=qz2 Ab.out;obtain⟨Ao,Am,Dp⟩:=Kd.N_slice Ac.out;subst Dp;obtain⟨Ch,Bi,Dq⟩:=Kd.R_slice Ae.out;subst Dq)|(go_at_call 21;(with_reducible refine(impl_RelSeek.calls k Af _ _ Ad _ _ Ah Aq _ (by refine(Kd.N_reads' (e:=36) (base:=w.heap.size) (ok:=fun k_=>(some k_≠(.slice Ch Ah.length Bi:Value).ownBlock∧k_≠Aa)) (n:=Ad.length) (c:=Am) ?_).2.2;exact(qN ((Kd.N_mono (Kd.N_far (p:=⟨Aa,1,none⟩) (Kd.N_far (p:=⟨Aa,0,none⟩) (Kd.N_mono Ac.out (fun k_ hk=>(⟨hk,hk.2⟩:_∧k_≠Aa))) (fun _ hk=>hk.2) (.int .i64 Af)) (fun _ hk=>hk.2) (.slice Ao Ad.length Am)) (fun _ h_=>h_.1))))) (by exact(Kd.N_reads' Ac.out).2.1) (by refine(Kd.R_reads' (e:=9) (base:=w.heap.size) (ok:=fun k_=>True) (n:=Ah.length) (c:=Bi) ?_).2.2;exact(qR ((Kd.R_mono (Kd.R_far (p:=⟨Aa,1,none⟩) (Kd.R_far (p:=⟨Aa,0,none⟩) (Kd.R_types Ae.out Ab.out (by decide)) (fun _ hk=>hk.2) (.int .i64 Af)) (fun _ hk=>hk.2) (.slice Ao Ad.length Am)) (fun _ h_=>h_.1))))) (by exact(Kd.R_reads' Ae.out).2.1) (by exact Tb.below HT.out qb) A5.out).mono ?_);rintro e Il ⟨Bh,rfl,As,hb⟩;have Al:=y0.mk (Kd.N_lower (Kd.N_mono (ok':=fun k_=>some k_≠(.slice Ao Ad.length Am:Value).ownBlock∧some k_≠(.slice Ch Ah.length Bi:Value).ownBlock∧k_≠Aa) (Kd.S_N (Kd.S_bound As)) (fun k_ hk_=>⟨(Kd.fresh' (Kd.N_lt (qN ((Kd.N_mono (Kd.N_far (p:=⟨Aa,1,none⟩) (Kd.N_far (p:=⟨Aa,0,none⟩) (Kd.N_mono Ac.out (fun k_ hk=>(⟨hk,hk.2⟩:_∧k_≠Aa))) (fun _ hk=>hk.2) (.int .i64 Af)) (fun _ hk=>hk.2) (.slice Ao Ad.length Am)) (fun _ h_=>h_.1))))) k_ hk_.2.1),(Kd.fresh' (Kd.R_lt (qR ((Kd.R_mono (Kd.R_far (p:=⟨Aa,1,none⟩) (Kd.R_far (p:=⟨Aa,0,none⟩) (Kd.R_types Ae.out Ab.out (by decide)) (fun _ hk=>hk.2) (.int .i64 Af)) (fun _ hk=>hk.2) (.slice Ao Ad.length Am)) (fun _ h_=>h_.1))))) k_ hk_.2.1),(Kd.freshB (g:=Aa) (o:=.cells #[.int .i64 Af,.slice Ao Ad.length Am] 32 (0,0)) (by(with_reducible repeat(first|refine y12 ?_ _|refine y11 ?_|refine y9 ?_ _));refine y13 (cs:=#[.int .i64 Af,.slice none 0 0]) ?_ 1 _ rfl;(with_reducible repeat(first|refine y12 ?_ _|refine y11 ?_|refine y9 ?_ _));refine y13 (cs:=#[.int .i64 0,.slice none 0 0]) ?_ 0 _ rfl;(with_reducible repeat(first|refine y12 ?_ _|refine y11 ?_|refine y9 ?_ _));exact Ab.out) k_ hk_.2.1)⟩)) (y7 qb));replace Ac:=y0.mk (Kd.N_elder' (qN ((Kd.N_mono (Kd.N_far (p:=⟨Aa,1,none⟩) (Kd.N_far (p:=⟨Aa,0,none⟩) (Kd.N_mono Ac.out (fun k_ hk=>(⟨hk,hk.2⟩:_∧k_≠Aa))) (fun _ hk=>hk.2) (.int .i64 Af)) (fun _ hk=>hk.2) (.slice Ao Ad.length Am)) (fun _ h_=>h_.1)))) (Kd.N_base (Kd.S_N As)) hb);replace Ae:=y0.mk (Kd.R_below (qR ((Kd.R_mono (Kd.R_far (p:=⟨Aa,1,none⟩) (Kd.R_far (p:=⟨Aa,0,none⟩) (Kd.R_types Ae.out Ab.out (by decide)) (fun _ hk=>hk.2) (.int .i64 Af)) (fun _ hk=>hk.2) (.slice Ao Ad.length Am)) (fun _ h_=>h_.1)))) hb);replace Ab:=y0.mk (blk_below (g:=Aa) (o:=.cells #[.int .i64 Af,.slice Ao Ad.length Am] 32 (0,0)) (by(with_reducible repeat(first|refine y12 ?_ _|refine y11 ?_|refine y9 ?_ _));refine y13 (cs:=#[.int .i64 Af,.slice none 0 0]) ?_ 1 _ rfl;(with_reducible repeat(first|refine y12 ?_ _|refine y11 ?_|refine y9 ?_ _));refine y13 (cs:=#[.int .i64 0,.slice none 0 0]) ?_ 0 _ rfl;(with_reducible repeat(first|refine y12 ?_ _|refine y11 ?_|refine y9 ?_ _));exact Ab.out) hb);replace HB:=y0.mk (y8 qb hb);(try clear hb);(try clear As);obtain⟨Cz,Da,Db,Dc⟩:=qz2 Ab.out)|(go_at_call 22;(with_reducible refine(spec_RelOk.calls k Af _ _ Ad false _ (qc ((Kd.N_reads' Ac.out).2.2)) (by exact(Kd.N_reads' Ac.out).2.1) A6.out).mono ?_);rintro e Im ⟨rfl,hb⟩;replace Ac:=y0.mk (Kd.N_below (qN Ac.out) hb);replace Ae:=y0.mk (Kd.R_below (qR Ae.out) hb);replace Al:=y0.mk (Kd.N_below (qN Al.out) hb);replace Ab:=y0.mk (qK Ab.out hb);replace HB:=y0.mk (y8 qb hb);(try clear hb);obtain⟨Fg,Fh,Dr⟩:=Kd.N_slice Al.out;subst Dr));try go_wp2_with (first|(go_at_call 19;(with_reducible refine(laws_big.calls _ _ l0 false _ (qc Ci.out) Cj.out A2.out).mono ?_);rintro e w' ⟨rfl,⟨nd,rfl⟩⟩;(try first|exact⟨rfl,_,World.drewN_drewN _ _ _⟩|exact⟨rfl,_,Eq.trans (World.drewN_drewN _ _ _) (congrArg (World.drewN _) (Nat.add_assoc _ _ _))⟩))|(go_at_call 20;(with_reducible refine(z3_.calls k _ _ l0 Af Ad Ah _ (qc Ci.out) Cj.out A4.out).mono ?_);rintro e Ij ⟨Dd,Bg,rfl,As,Cd,hb⟩;have Ac:=y0.mk (Kd.N_lower (Kd.N_mono (ok':=fun k_=>some k_≠(Bg:Value).ownBlock) As (fun k_ hk_=>hk_.2)) (y7 qb));have Ae:=y0.mk (Kd.R_lower (Kd.R_mono (ok':=fun k_=>True) Cd (fun _ hk_=>trivial)) (y7 qb));replace HB:=y0.mk (y8 qb hb);(try clear hb);(try clear As);(try clear Cd))|((with_reducible refine y17 (N:=3) rfl ?_);refine qe 3 #[.int .i64 0,.slice none 0 0] 32 ?_;intro Aa hg Ik hbox hb;replace Ac:=y0.mk (Kd.N_below (Kd.N_elderB (qN Ac.out) Aa (Nat.le_of_eq hg.symm)) hb);replace Ae:=y0.mk (Kd.R_below (qR Ae.out) hb);have Ab:=y0.mk (hbox);have Ce:=y0.mk (qg (w:=w) hg);have Cf:=y0.mk (qg (w:=w) hg);replace HB:=y0.mk (y8 qb hb);clear hb hbox hg;obtain⟨Cv,Cw,Cx,Cy⟩:=qz2 Ab.out;obtain⟨Ao,Am,Dp⟩:=Kd.N_slice Ac.out;subst Dp;obtain⟨Ch,Bi,Dq⟩:=Kd.R_slice Ae.out;subst Dq)|(go_at_call 21;(with_reducible refine(impl_RelSeek.calls k Af _ _ Ad _ _ Ah Aq _ (by refine(Kd.N_reads' (e:=36) (base:=w.heap.size) (ok:=fun k_=>(some k_≠(.slice Ch Ah.length Bi:Value).ownBlock∧k_≠Aa)) (n:=Ad.length) (c:=Am) ?_).2.2;exact(qN ((Kd.N_mono (Kd.N_far (p:=⟨Aa,1,none⟩) (Kd.N_far (p:=⟨Aa,0,none⟩) (Kd.N_mono Ac.out (fun k_ hk=>(⟨hk,hk.2⟩:_∧k_≠Aa))) (fun _ hk=>hk.2) (.int .i64 Af)) (fun _ hk=>hk.2) (.slice Ao Ad.length Am)) (fun _ h_=>h_.1))))) (by exact(Kd.N_reads' Ac.out).2.1) (by refine(Kd.R_reads' (e:=9) (base:=w.heap.size) (ok:=fun k_=>True) (n:=Ah.length) (c:=Bi) ?_).2.2;exact(qR ((Kd.R_mono (Kd.R_far (p:=⟨Aa,1,none⟩) (Kd.R_far (p:=⟨Aa,0,none⟩) (Kd.R_types Ae.out Ab.out (by decide)) (fun _ hk=>hk.2) (.int .i64 Af)) (fun _ hk=>hk.2) (.slice Ao Ad.length Am)) (fun _ h_=>h_.1))))) (by exact(Kd.R_reads' Ae.out).2.1) (by exact Tb.below HT.out qb) A5.out).mono ?_);rintro e Il ⟨Bh,rfl,As,hb⟩;have Al:=y0.mk (Kd.N_lower (Kd.N_mono (ok':=fun k_=>some k_≠(.slice Ao Ad.length Am:Value).ownBlock∧some k_≠(.slice Ch Ah.length Bi:Value).ownBlock∧k_≠Aa) (Kd.S_N (Kd.S_bound As)) (fun k_ hk_=>⟨(Kd.fresh' (Kd.N_lt (qN ((Kd.N_mono (Kd.N_far (p:=⟨Aa,1,none⟩) (Kd.N_far (p:=⟨Aa,0,none⟩) (Kd.N_mono Ac.out (fun k_ hk=>(⟨hk,hk.2⟩:_∧k_≠Aa))) (fun _ hk=>hk.2) (.int .i64 Af)) (fun _ hk=>hk.2) (.slice Ao Ad.length Am)) (fun _ h_=>h_.1))))) k_ hk_.2.1),(Kd.fresh' (Kd.R_lt (qR ((Kd.R_mono (Kd.R_far (p:=⟨Aa,1,none⟩) (Kd.R_far (p:=⟨Aa,0,none⟩) (Kd.R_types Ae.out Ab.out (by decide)) (fun _ hk=>hk.2) (.int .i64 Af)) (fun _ hk=>hk.2) (.slice Ao Ad.length Am)) (fun _ h_=>h_.1))))) k_ hk_.2.1),(Kd.freshB (g:=Aa) (o:=.cells #[.int .i64 Af,.slice Ao Ad.length Am] 32 (0,0)) (by(with_reducible repeat(first|refine y12 ?_ _|refine y11 ?_|refine y9 ?_ _));refine y13 (cs:=#[.int .i64 Af,.slice none 0 0]) ?_ 1 _ rfl;(with_reducible repeat(first|refine y12 ?_ _|refine y11 ?_|refine y9 ?_ _));refine y13 (cs:=#[.int .i64 0,.slice none 0 0]) ?_ 0 _ rfl;(with_reducible repeat(first|refine y12 ?_ _|refine y11 ?_|refine y9 ?_ _));exact Ab.out) k_ hk_.2.1)⟩)) (y7 qb));replace Ac:=y0.mk (Kd.N_elder' (qN ((Kd.N_mono (Kd.N_far (p:=⟨Aa,1,none⟩) (Kd.N_far (p:=⟨Aa,0,none⟩) (Kd.N_mono Ac.out (fun k_ hk=>(⟨hk,hk.2⟩:_∧k_≠Aa))) (fun _ hk=>hk.2) (.int .i64 Af)) (fun _ hk=>hk.2) (.slice Ao Ad.length Am)) (fun _ h_=>h_.1)))) (Kd.N_base (Kd.S_N As)) hb);replace Ae:=y0.mk (Kd.R_below (qR ((Kd.R_mono (Kd.R_far (p:=⟨Aa,1,none⟩) (Kd.R_far (p:=⟨Aa,0,none⟩) (Kd.R_types Ae.out Ab.out (by decide)) (fun _ hk=>hk.2) (.int .i64 Af)) (fun _ hk=>hk.2) (.slice Ao Ad.length Am)) (fun _ h_=>h_.1)))) hb);replace Ab:=y0.mk (blk_below (g:=Aa) (o:=.cells #[.int .i64 Af,.slice Ao Ad.length Am] 32 (0,0)) (by(with_reducible repeat(first|refine y12 ?_ _|refine y11 ?_|refine y9 ?_ _));refine y13 (cs:=#[.int .i64 Af,.slice none 0 0]) ?_ 1 _ rfl;(with_reducible repeat(first|refine y12 ?_ _|refine y11 ?_|refine y9 ?_ _));refine y13 (cs:=#[.int .i64 0,.slice none 0 0]) ?_ 0 _ rfl;(with_reducible repeat(first|refine y12 ?_ _|refine y11 ?_|refine y9 ?_ _));exact Ab.out) hb);replace HB:=y0.mk (y8 qb hb);(try clear hb);(try clear As);obtain⟨Cz,Da,Db,Dc⟩:=qz2 Ab.out)|(go_at_call 22;(with_reducible refine(spec_RelOk.calls k Af _ _ Ad false _ (qc ((Kd.N_reads' Ac.out).2.2)) (by exact(Kd.N_reads' Ac.out).2.1) A6.out).mono ?_);rintro e Im ⟨rfl,hb⟩;replace Ac:=y0.mk (Kd.N_below (qN Ac.out) hb);replace Ae:=y0.mk (Kd.R_below (qR Ae.out) hb);replace Al:=y0.mk (Kd.N_below (qN Al.out) hb);replace Ab:=y0.mk (qK Ab.out hb);replace HB:=y0.mk (y8 qb hb);(try clear hb);obtain⟨Fg,Fh,Dr⟩:=Kd.N_slice Al.out;subst Dr)))
   go_ret
   exact⟨qf,qb⟩
/-- THE ONE PURE STATEMENT of laws_FnSought. -/
def laws_FnSought.Pure:Prop:=∀(l0:List Int),(fun l=>l.length≤maxLen∧l.length * 1≤140737488351232∧∀ x∈l,(fun a=>(Lit.int .u8 a).wf=true) x) l0→∃ k,laws_FnSought.f k l0=some true
theorem laws_FnSought.walk (P:laws_FnSought.Pure) (l0:List Int) (A0:Option Addr) (c0:Nat) (w:World) (hr0:Kd.C (Kd.int .u8) w A0 l0.length l0) (hc0:l0.length≤c0) (k0:(fun l=>l.length≤maxLen∧l.length * 1≤140737488351232∧∀ x∈l,(fun a=>(Lit.int .u8 a).wf=true) x) l0) (hT:Tb w) :
  Calls Tryz.prog 4 #[.slice A0 l0.length c0] w fun e w'=>e=.returned (.bool true)∧Below w.heap.size w w':=by
 obtain⟨k,h⟩:=P l0 k0
 refine(laws_FnSought.calls k A0 c0 l0 true w hr0 hc0 hT h rfl).mono ?_
 rintro e w' ⟨rfl,hd⟩
 exact⟨rfl,hd⟩
end Go.Proofs.YtkajecadkkgfmaaGreatDoor.Pn
end
