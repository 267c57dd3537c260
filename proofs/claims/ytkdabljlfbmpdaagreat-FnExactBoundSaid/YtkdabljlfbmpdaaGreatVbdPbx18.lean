-- Cut by prune.py, a program of this session, out of the texts of this claim: Lean checks it.
import Derived.Test.YtkdabljlfbmpdaaGreatVbdPbx0
import Derived.Test.YtkdabljlfbmpdaaGreatVbdPbx15
section
namespace Go.Proofs.YtkdabljlfbmpdaaGreat.Pb
open Go.RowKit Go.Proofs.YtkdabljlfbmpdaaGreatW.PrintWords Go.Proofs.YtkdabljlfbmpdaaGreatW.PrintLast Go.Proofs.YtkdabljlfbmpdaaGreatW.PrintMore
attribute [local go_sem] max2_int min2_int max_two min_two max_three min_three max_four min_four   -- for this text's walks alone
set_option linter.unusedVariables false
set_option linter.unusedSimpArgs false
def z2_.g (l0_0:List (S48)) (a0_1:Int) (a0_2:ByteArray) (l0_3:List Int) (l0_4:List (S33)) (x:Int):Bool:=(impl_Rule_isPattern_1.f x l0_0 a0_1 a0_2 l0_3 l0_4).getD false
def z2_.f (k:Nat) (l0_0:List (S48)) (a0_1:Int) (a0_2:ByteArray) (l0_3:List Int) (l0_4:List (S33)) (a1:Int):Option Bool :=
 (impl_Rule_within.f k l0_0 a0_1 a0_2 l0_3 l0_4 a1).bind fun xs=>if xs.length≤1099511627776∧(xs.all fun x=>(impl_Rule_isPattern_1.f x l0_0 a0_1 a0_2 l0_3 l0_4).isSome)=true then some (!(xs.any (z2_.g l0_0 a0_1 a0_2 l0_3 l0_4)))else none
set_option maxHeartbeats 8000000 in
set_option maxRecDepth 100000 in
theorem slices_IndexFunc_isPattern.calls (A0:Option Addr) (c0:Nat) (l0:List Int) (Ap:Option Addr) (Ar:Nat) (Aa:List (S48)) (Ad:Int) (Af:ByteArray) (As:Option Addr) (At:Nat) (Ab:List Int) (Au:Option Addr) (Av:Nat) (Ac:List (S33)) (g1:Nat) (w:World) (Bg:Kd.C (Kd.int .i64) w A0 l0.length l0) (Bj:l0.length≤c0) (Ag:Kd.C k48 w Ap Aa.length Aa) (Ah:Aa.length≤Ar) (Ai:Kd.C (Kd.int .i64) w As Ab.length Ab) (Aj:Ab.length≤At) (Ak:Kd.C k33 w Au Ac.length Ac) (Am:Ac.length≤Av) (Aw:w.heap[g1]?=some (.cells #[.slice Ap Aa.length Ar,.int .i64 Ad,.string Af,.slice As Ab.length At,.slice Au Ac.length Av] 36 (0,0)))
  (hn:l0.length≤1099511627776) (hg:∀ x∈l0,(impl_Rule_isPattern_1.f x Aa Ad Af Ab Ac).isSome=true) :
  Calls Tryz.prog 77 #[.slice A0 l0.length c0,.func (.func 76) #[] #[.pointer (some ⟨g1,0,none⟩)]] w fun e w'=>∃ r:Int,e=.returned (.int .i64 r)∧decide (r≥0)=l0.any (z2_.g Aa Ad Af Ab Ac)∧Below w.heap.size w w':=by
 have hlt:=(Array.getElem?_eq_some_iff.1 Aw).1
 have Bk:=y0.mk Bg
 clear Bg
 have Ay:=y0.mk Ag
 clear Ag
 have Az:=y0.mk Ah
 clear Ah
 have Ba:=y0.mk Ai
 clear Ai
 have Bb:=y0.mk Aj
 clear Aj
 have Bc:=y0.mk Ak
 clear Ak
 have Bd:=y0.mk Am
 clear Am
 have HBX:=y0.mk Aw
 clear Aw
 have HN:=y0.mk hn
 have HG:=y0.mk hg
 clear hn hg Bj
 have HB:=y0.mk (Below.refl w.heap.size w)
 go_enter Tryz.func77,Tryz.ntmps77
 go_wp2
 go_loopg [8] l0.length (fun kq v8 w'=>∃(xi:Int) (i:Nat),v8=.int .i64 xi∧y0 (xi=(i:Int))∧y0 (kq + i=l0.length)∧y0 (l0.any (z2_.g Aa Ad Af Ab Ac)=(l0.drop i).any (z2_.g Aa Ad Af Ab Ac))∧y0 (Below w.heap.size w w'))
 case atStart=>exact⟨0,0,rfl,⟨rfl⟩,⟨Nat.add_zero _⟩,⟨by rw [List.drop_zero]⟩,⟨qb⟩⟩
 case round =>
  obtain⟨xi,i,rfl,HXI,HK,HD,HB⟩:=hrel
  by_cases c3:xi < (l0.length:Int)
  ·have Be:decide (xi < (l0.length:Int))=true:=decide_eq_true c3
   have hi:i < l0.length:=by have:=HXI.out;omega
   have p1:0≤xi:=by have:=HXI.out;omega
   have rg:rd l0 xi=l0[i]:=by rw [HXI.out];unfold rd;rw [show((i:Int)).toNat=i from rfl,List.getD_eq_getElem?_getD,List.getElem?_eq_getElem hi];rfl
   obtain⟨ad,e1,hx⟩:=Kd.at_int Bk.out xi p1 c3
   cases e1
   rw [rg]at hx
   replace hx:=(HB.out.cell (World.block_lt_of_cell? w _ hx)).trans hx
   obtain⟨b,Bf⟩:=Option.isSome_iff_exists.1 (HG.out _ (List.getElem_mem hi))
   have Bh:z2_.g Aa Ad Af Ab Ac l0[i]=b:=by unfold z2_.g;rw [Bf];rfl
   have HDn:y0 (l0.any (z2_.g Aa Ad Af Ab Ac)=(b || (l0.drop (i + 1)).any (z2_.g Aa Ad Af Ab Ac))):=⟨by rw [HD.out,List.drop_eq_getElem_cons hi,List.any_cons,Bh]⟩
   have Bi:=y0.mk Bf
   have HI:=y0.mk hi
   clear Bf Bh rg HD
   generalize l0[i]=x0 at hx Bi
   clear hi
   replace p1:=eq_true p1
   replace c3:=eq_true c3
   have step:∀(w1:World),Below w.heap.size w w1→Calls Tryz.prog 76 #[.int .i64 x0,.pointer (some ⟨g1,0,none⟩)] w1 fun e w'=>e=.returned (.bool b)∧Below w1.heap.size w1 w':=by
    intro w1 hb
    refine(impl_Rule_isPattern_1.calls x0 Ap Ar Aa Ad Af As At Ab Au Av Ac g1 b w1 (Kd.C_below Ay.out hb) Az.out (Kd.C_below Ba.out hb) Bb.out (Kd.C_below Bc.out hb) Bd.out ((hb.block g1 hlt).trans HBX.out) Bi.out).mono ?_
    rintro e w2 ⟨rfl,hd⟩
    exact⟨rfl,hd.below⟩
   have HSt:=y0.mk step
   clear step
   cases b with
   | true =>
    go_wp2_with (first|(go_at_call 76;(with_reducible refine(HSt.out _ qb).mono ?_);rintro e w8 ⟨rfl,hb⟩;have n0_:=y0.mk (y5 qb hb);clear HB hb;have HB:=n0_;clear n0_))
    go_ret
    exact⟨xi,by first|rfl|(simp [y12,y13] <;> rfl),by rw [HDn.out,Bool.true_or];exact decide_eq_true (by have:=HXI.out;omega),qb⟩
   | false =>
    go_wp2_with (first|(go_at_call 76;(with_reducible refine(HSt.out _ qb).mono ?_);rintro e w9 ⟨rfl,hb⟩;have n0_:=y0.mk (y5 qb hb);clear HB hb;have HB:=n0_;clear n0_))
    go_roundg (l0.length - i - 1)
    case measure=>have:=HK.out;have:=HI.out;omega
    exact⟨wrap64 (xi + 1),i + 1,qy2,⟨by rw [HXI.out];exact QIv.step_u (by have:=HN.out;have:=HI.out;omega)⟩,⟨by have:=HI.out;omega⟩,⟨by rw [HDn.out,Bool.false_or]⟩,⟨qb⟩⟩
  ·have Be:decide (xi < (l0.length:Int))=false:=decide_eq_false c3
   have hd:l0.drop i=[]:=List.drop_of_length_le (by have:=HXI.out;have:=HK.out;omega)
   have HE:y0 (l0.any (z2_.g Aa Ad Af Ab Ac)=false):=⟨by rw [HD.out,hd];rfl⟩
   clear hd
   go_wp2
   go_ret
   exact⟨-1,by first|rfl|(simp [y12,y13] <;> rfl),by rw [HE.out];rfl,qb⟩
set_option maxHeartbeats 8000000 in
set_option maxRecDepth 100000 in
theorem slices_ContainsFunc_isPattern.calls (A0:Option Addr) (c0:Nat) (l0:List Int) (Aj:Option Addr) (Ak:Nat) (Aa:List (S48)) (Ad:Int) (Af:ByteArray) (Am:Option Addr) (Ap:Nat) (Ab:List Int) (Ar:Option Addr) (As:Nat) (Ac:List (S33)) (g1:Nat) (w:World) (Ay:Kd.C (Kd.int .i64) w A0 l0.length l0) (Az:l0.length≤c0) (Ag:Kd.C k48 w Aj Aa.length Aa) (At:Aa.length≤Ak) (Ah:Kd.C (Kd.int .i64) w Am Ab.length Ab) (Au:Ab.length≤Ap) (Ai:Kd.C k33 w Ar Ac.length Ac) (Av:Ac.length≤As) (Aw:w.heap[g1]?=some (.cells #[.slice Aj Aa.length Ak,.int .i64 Ad,.string Af,.slice Am Ab.length Ap,.slice Ar Ac.length As] 36 (0,0)))
  (hn:l0.length≤1099511627776) (hg:∀ x∈l0,(impl_Rule_isPattern_1.f x Aa Ad Af Ab Ac).isSome=true) :
  Calls Tryz.prog 61 #[.slice A0 l0.length c0,.func (.func 76) #[] #[.pointer (some ⟨g1,0,none⟩)]] w fun e w'=>e=.returned (.bool (l0.any (z2_.g Aa Ad Af Ab Ac)))∧Below w.heap.size w w':=by
 have HC:=y0.mk (slices_IndexFunc_isPattern.calls A0 c0 l0 Aj Ak Aa Ad Af Am Ap Ab Ar As Ac g1 w Ay Az Ag At Ah Au Ai Av Aw hn hg)
 have HB:=y0.mk (Below.refl w.heap.size w)
 clear hn hg Aw Ay Ag Ah Ai
 go_enter Tryz.func61,Tryz.ntmps61
 go_wp2_with (first|(go_at_call 77;(with_reducible refine HC.out.mono ?_);rintro e w8 ⟨r,rfl,hr,hb⟩;have HR:=y0.mk hr;have n0_:=y0.mk (y5 qb hb);clear HB hb hr;have HB:=n0_;clear n0_))
 go_ret
 exact⟨by rw [← HR.out];first|rfl|(simp [y12,y13] <;> rfl),qb⟩
set_option maxHeartbeats 8000000 in
set_option maxRecDepth 100000 in
theorem z2_.calls (k:Nat) (Ag:Option Addr) (Ah:Nat) (Aa:List (S48)) (Ad:Int) (Af:ByteArray) (Ai:Option Addr) (Aj:Nat) (Ab:List Int) (Ak:Option Addr) (Am:Nat) (Ac:List (S33)) (a1:Int) (r:Bool) (w:World) (Bb:Kd.C k48 w Ag Aa.length Aa) (Bc:Aa.length≤Ah) (Bd:Kd.C (Kd.int .i64) w Ai Ab.length Ab) (Be:Ab.length≤Aj) (Bf:Kd.C k33 w Ak Ac.length Ac) (Bg:Ac.length≤Am) (h:z2_.f k Aa Ad Af Ab Ac a1=some r) :
  Calls Tryz.prog 59 #[.agg #[.slice Ag Aa.length Ah,.int .i64 Ad,.string Af,.slice Ai Ab.length Aj,.slice Ak Ac.length Am],.int .i64 a1] w fun e w'=>e=.returned (.bool r)∧Below w.heap.size w w':=by
 unfold z2_.f at h
 obtain⟨xs,E1,h⟩:=Option.bind_eq_some_iff.1 h
 by_cases hc:xs.length≤1099511627776∧(xs.all fun x=>(impl_Rule_isPattern_1.f x Aa Ad Af Ab Ac).isSome)=true
 case neg=>rw [if_neg hc]at h;cases h
 rw [if_pos hc]at h
 obtain rfl:=Option.some.inj h
 clear h
 have HLN:=y0.mk hc.1
 have HAL:=y0.mk (List.all_eq_true.1 hc.2)
 clear hc
 replace E1:=y0.mk E1
 have Bh:=y0.mk Bb
 clear Bb
 have Bi:=y0.mk Bc
 clear Bc
 have Bj:=y0.mk Bd
 clear Bd
 have Bk:=y0.mk Be
 clear Be
 have Bl:=y0.mk Bf
 clear Bf
 have Bm:=y0.mk Bg
 clear Bg
 have HB:=y0.mk (Below.refl w.heap.size w)
 have Bn:=Tryz.underlying36
 go_enter Tryz.func59,Tryz.ntmps59
 go_wp2_with (first
  | ((with_reducible refine y16 (N:=2) rfl ?_);refine qe 2 #[.slice Ag Aa.length Ah,.int .i64 Ad,.string Af,.slice Ai Ab.length Aj,.slice Ak Ac.length Am] 36 ?_;intro gr hg w1 hbox hb;have BKr:=y0.mk (hbox);have GEr:=y0.mk ((by rw [hg];exact HB.out.size:w.heap.size≤gr));replace HB:=y0.mk (y5 HB.out hb);clear hb hg hbox;obtain⟨Ap,Ar,As,At,Au,Av,Aw,Ay,Az,Ba⟩:=QIv.box5 BKr.out)
  | (go_at_call 62;(with_reducible refine(impl_Rule_within.calls k _ _ Aa Ad Af _ _ Ab _ _ Ac a1 xs _ (Kd.C_below Bh.out HB.out) Bi.out (Kd.C_below Bj.out HB.out) Bk.out (Kd.C_below Bl.out HB.out) Bm.out E1.out).mono ?_);rintro e w2 ⟨v_,rfl,ho,hb⟩;obtain⟨loX,hiX,hlo_,hhi_,hOX_⟩:=QIv.OR.new ho;obtain⟨AX,cX,eA_⟩:=hOX_.slice;subst eA_;(repeat first|clear Ap|clear Ar|clear As|clear At|clear Au|clear Av|clear Aw|clear Ay|clear Az|clear Ba);have OX:=y0.mk (hOX_);have LX:=y0.mk ((by rw [hhi_];exact Nat.le_refl _:hiX≤_));have BX:=y0.mk ((by rw [hlo_];exact HB.out.size:w.heap.size≤loX));have IX:=y0.mk ((by rw [hlo_,hhi_];exact hb.size:loX≤hiX));have Er_X:=y0.mk ((by rw [hlo_];exact QIv.ki_lt BKr.out:gr < loX));replace BKr:=y0.mk (y7 (g:=gr) (o:=(.cells #[.slice Ag Aa.length Ah,.int .i64 Ad,.string Af,.slice Ai Ab.length Aj,.slice Ak Ac.length Am] 36 (0,0))) BKr.out hb);replace HB:=y0.mk (y5 HB.out hb);(try clear hb);(try clear ho);(try clear hlo_);(try clear hhi_);obtain⟨Ap,Ar,As,At,Au,Av,Aw,Ay,Az,Ba⟩:=QIv.box5 BKr.out)
  | (go_at_call 61;(with_reducible refine(slices_ContainsFunc_isPattern.calls _ _ xs _ _ Aa Ad Af _ _ Ab _ _ Ac gr _ OX.out.C OX.out.le (Kd.C_below Bh.out HB.out) Bi.out (Kd.C_below Bj.out HB.out) Bk.out (Kd.C_below Bl.out HB.out) Bm.out BKr.out HLN.out HAL.out).mono ?_);rintro e w3 ⟨rfl,hb⟩;(repeat first|clear Ap|clear Ar|clear As|clear At|clear Au|clear Av|clear Aw|clear Ay|clear Az|clear Ba);replace OX:=y0.mk (OX.out.below hb);replace LX:=y0.mk (Nat.le_trans LX.out hb.size);replace BKr:=y0.mk (y7 (g:=gr) (o:=(.cells #[.slice Ag Aa.length Ah,.int .i64 Ad,.string Af,.slice Ai Ab.length Aj,.slice Ak Ac.length Am] 36 (0,0))) BKr.out hb);replace HB:=y0.mk (y5 HB.out hb);(try clear hb);obtain⟨Ap,Ar,As,At,Au,Av,Aw,Ay,Az,Ba⟩:=QIv.box5 BKr.out))
 go_ret
 exact⟨by first|rfl|(simp [y12,y13] <;> rfl),HB.out⟩
def lsNm (S:List ByteArray) (es:List (S48)):List ByteArray:=es.foldl (fun out e=>if e.f0=1∧QSet.hasB S e.f1=true∧QSet.hasB out e.f1=false then out ++ [e.f1]else out) []
theorem lsNm_len (S:List ByteArray):∀(es:List (S48)) (out:List ByteArray),(es.foldl (fun out e=>if e.f0=1∧QSet.hasB S e.f1=true∧QSet.hasB out e.f1=false then out ++ [e.f1]else out) out).length≤out.length + es.length
 | [],out=>Nat.le_refl _
 | e :: r,out=>by
  rw [List.foldl_cons,List.length_cons]
  by_cases h:e.f0=1∧QSet.hasB S e.f1=true∧QSet.hasB out e.f1=false
  ·rw [if_pos h]
   have:=lsNm_len S r (out ++ [e.f1])
   rw [List.length_append,List.length_singleton]at this
   omega
  ·rw [if_neg h]
   have:=lsNm_len S r out
   omega
theorem lsNm_step (S:List ByteArray) (es:List (S48)) (i:Nat) (hi:i < es.length):lsNm S (es.take (i + 1))=if es[i].f0=1∧QSet.hasB S es[i].f1=true∧QSet.hasB (lsNm S (es.take i)) es[i].f1=false then lsNm S (es.take i) ++ [es[i].f1]else lsNm S (es.take i):=by
 unfold lsNm
 rw [List.take_succ_eq_append_getElem hi,List.foldl_append,List.foldl_cons,List.foldl_nil]
theorem lsIdx (l:List ByteArray) (s:ByteArray) (hl:l.length≤1099511627776):∀(q i:Nat),i + q=l.length→∃ r,(∃ K,∀ k,K≤k→z6_.l0 k l s (l.length:Int) (i:Int)=some r)∧decide (r≥0)=QSet.hasB (l.drop i) s
 | 0,i,h=>by
  refine⟨-1,⟨1,fun k hk=>?_⟩, ?_⟩
  ·obtain⟨k,rfl⟩:∃ p,k=p + 1:=⟨k - 1,by omega⟩
   rw [z6_.l0,if_neg (by omega)]
  ·rw [List.drop_of_length_le (by omega)]
   rfl
 | q + 1,i,h=>by
  have hi:i < l.length:=by omega
  have hr:rdOf ByteArray.empty l (i:Int)=l[i]:=by
   unfold rdOf
   rw [show((i:Int)).toNat=i from rfl,List.getD_eq_getElem?_getD,List.getElem?_eq_getElem hi]
   rfl
  rw [List.drop_eq_getElem_cons hi]
  have hc:QSet.hasB (l[i] :: l.drop (i + 1)) s=(decide (l[i].toList=s.toList) || QSet.hasB (l.drop (i + 1)) s):=rfl
  rw [hc]
  by_cases e:s.toList=l[i].toList
  ·refine⟨(i:Int),⟨1,fun k hk=>?_⟩,by rw [decide_eq_true e.symm,Bool.true_or];exact decide_eq_true (by omega)⟩
   obtain⟨k,rfl⟩:∃ p,k=p + 1:=⟨k - 1,by omega⟩
   rw [z6_.l0,if_pos (by omega),if_pos (by omega),if_pos (by omega),hr,if_pos e]
  ·obtain⟨r,⟨K,h1⟩,h2⟩:=lsIdx l s hl q (i + 1) (by omega)
   refine⟨r,⟨K + 1,fun k hk=>?_⟩,by rw [(decide_eq_false (fun h=>e h.symm):decide (l[i].toList=s.toList)=false),Bool.false_or];exact h2⟩
   obtain⟨k,rfl⟩:∃ p,k=p + 1:=⟨k - 1,by omega⟩
   rw [z6_.l0,if_pos (by omega),if_pos (by omega),if_pos (by omega),hr,if_neg e,QIv.step_u (by omega)]
   exact h1 k (by omega)
theorem lsHas (l:List ByteArray) (s:ByteArray) (hl:l.length≤1099511627776):∃ k,slices_Contains_string_string.f k l s=some (QSet.hasB l s):=by
 obtain⟨r,⟨K,h1⟩,h2⟩:=lsIdx l s hl l.length 0 (by omega)
 refine⟨K, ?_⟩
 have h3:z6_.l0 K l s (l.length:Int) 0=some r:=h1 K (Nat.le_refl _)
 unfold slices_Contains_string_string.f z6_.f
 rw [h3,Option.bind_some,h2,List.drop_zero]
set_option maxHeartbeats 16000000 in
set_option maxRecDepth 100000 in
theorem impl_Rule_names.calls (Bg:Option Addr) (Az:Nat) (Aa:List (S48)) (Be:Int) (Bf:ByteArray) (Ba:Option Addr) (Bb:Nat) (Aw:List Int) (Bc:Option Addr) (Bd:Nat) (Ay:List (S33)) (gm:Nat) (S:List ByteArray) (w:World) (Bh:Kd.C k48 w Bg Aa.length Aa) (Bi:Aa.length≤Az) (Bj:Kd.C (Kd.int .i64) w Ba Aw.length Aw) (Bk:Aw.length≤Bb) (Bl:Kd.C k33 w Bc Ay.length Ay) (Bm:Ay.length≤Bd) (hm:QSet.MS w gm S) (hn:Aa.length≤1048576) (hsz:∀ e∈Aa,e.f1.size≤1099511627776) :
  Calls Tryz.prog 60 #[.agg #[.slice Bg Aa.length Az,.int .i64 Be,.string Bf,.slice Ba Aw.length Bb,.slice Bc Ay.length Bd],.map (some gm)] w fun e w'=>∃ v:Value,e=.returned v∧Kd.R Kd.string 9 w' w.heap.size (fun _=>True) v (lsNm S Aa)∧Below w.heap.size w w':=by
 have Bq:=y0.mk Bh
 clear Bh
 have Bv:=y0.mk Bi
 clear Bi
 have Bw:=y0.mk Bj
 clear Bj
 have Bx:=y0.mk Bk
 clear Bk
 have Bz:=y0.mk Bl
 clear Bl
 have Ca:=y0.mk Bm
 clear Bm
 have HM:=y0.mk hm
 clear hm
 have HN:=y0.mk hn
 have HSZ:=y0.mk hsz
 clear hn hsz
 have HB:=y0.mk (Below.refl w.heap.size w)
 have Cg:=Tryz.underlying36
 have Ch:=Tryz.underlying48
 go_enter Tryz.func60,Tryz.ntmps60
 go_wp2_with (first
  | ((with_reducible refine y16 (N:=2) rfl ?_);refine qe 2 #[.slice Bg Aa.length Az,.int .i64 Be,.string Bf,.slice Ba Aw.length Bb,.slice Bc Ay.length Bd] 36 ?_;intro gr hg w1 hbox hb;have BKr:=y0.mk (hbox);have GEr:=y0.mk ((by rw [hg];exact HB.out.size:w.heap.size≤gr));have Nm_r:=y0.mk ((by rw [hg];exact Nat.ne_of_lt HM.out.lt:gm≠gr));replace HM:=y0.mk (QSet.MS.below HM.out hb);replace HB:=y0.mk (y5 HB.out hb);clear hb hg hbox;obtain⟨Ab,Ac,Ad,Af,Ag,Ah,Ai,Aj,Ak,Am⟩:=QSet.bx5 BKr.out)
  | ((with_reducible refine y16 (N:=8) rfl ?_);refine qL Kd.string 9 8 ([]:List ByteArray) ?_;intro vo w2 ho hb hg_ hnew_;clear hg_ hnew_;(repeat first|clear Ab|clear Ah|clear Ac|clear Ai|clear Ad|clear Aj|clear Af|clear Ak|clear Ag|clear Am);have HOo:=y0.mk (Kd.R_lower ho (y4 HB.out));replace BKr:=y0.mk (y7 BKr.out hb);replace HM:=y0.mk (QSet.MS.below HM.out hb);replace HB:=y0.mk (y5 HB.out hb);clear hb ho;obtain⟨Ab,Ac,Ad,Af,Ag,Ah,Ai,Aj,Ak,Am⟩:=QSet.bx5 BKr.out))
 go_loopg [5,12] Aa.length (fun kq v5 Cc w'=>∃(xi:Int) (i:Nat),Cc=.int .i64 xi∧y0 (xi=(i:Int))∧y0 (kq + i=Aa.length)∧y0 (Kd.R Kd.string 9 w' w.heap.size (fun _=>True) (v5) (lsNm S (Aa.take i)))∧y0 (w'.heap[gr]?=some (.cells #[.slice Bg Aa.length Az,.int .i64 Be,.string Bf,.slice Ba Aw.length Bb,.slice Bc Ay.length Bd] 36 (0,0)))∧y0 (QSet.MS w' gm (S))∧y0 (Below w.heap.size w w'))
 case atStart=>exact⟨0,0,rfl,⟨rfl⟩,⟨Nat.add_zero _⟩,⟨qR HOo.out⟩,⟨BKr.out⟩,⟨HM.out⟩,⟨HB.out⟩⟩
 case round =>
  (repeat first|clear Ab|clear Ah|clear Ac|clear Ai|clear Ad|clear Aj|clear Af|clear Ak|clear Ag|clear Am)
  clear HOo HM BKr HB
  obtain⟨xi,i,rfl,HXI,HK,HOo,BKr,HM,HB⟩:=hrel
  obtain⟨Ao,co,eo_⟩:=Kd.R_slice HOo.out
  subst eo_
  by_cases c:xi < (Aa.length:Int)
  ·skip
   have Cd:decide (xi < (Aa.length:Int))=true:=decide_eq_true c
   have hi:i < Aa.length:=by have:=HXI.out;omega
   have p1:0≤xi:=by have:=HXI.out;omega
   obtain⟨Bt,A1,c1,e1,Bn,Bo,Bp,Ce,Cf⟩:=at_T48 Bq.out xi p1 c
   have rg:y20 Aa xi=Aa[i]:=by rw [HXI.out];unfold y20;rw [show((i:Int)).toNat=i from rfl,List.getD_eq_getElem?_getD,List.getElem?_eq_getElem hi];rfl
   rw [rg]at Bn Bo Bp
   clear rg Ce Cf
   have HST:=y0.mk (lsNm_step S Aa i hi)
   have Bs:=y0.mk (HSZ.out _ (List.getElem_mem hi))
   generalize Aa[i]=e0 at Bn Bo Bp HST Bs
   have HI:=y0.mk hi
   clear hi
   have HLN:y0 ((lsNm S (Aa.take i)).length≤1048576):=by
    have h1:=lsNm_len S (Aa.take i) []
    have h2:=HN.out
    have h3:(Aa.take i).length≤Aa.length:=by rw [qT_];omega
    rw [List.length_nil]at h1
    exact⟨by unfold lsNm;omega⟩
   cases e1
   replace Bn:=(HB.out.cell (World.block_lt_of_cell? w _ Bn)).trans Bn
   replace Bo:=(HB.out.cell (World.block_lt_of_cell? w _ Bo)).trans Bo
   replace Bp:=(HB.out.cell (World.block_lt_of_cell? w _ Bp)).trans Bp
   have q1:=eq_true c
   replace p1:=eq_true p1
   clear c
   obtain⟨Ab,Ac,Ad,Af,Ag,Ah,Ai,Aj,Ak,Am⟩:=QSet.bx5 BKr.out
   go_upto_region 5 with(first
    | ((with_reducible refine y16 (N:=7) rfl ?_);refine qe 7 #[.int .i64 0,.string (⟨#[]⟩:ByteArray),.slice none 0 0] 48 ?_;intro ge hg w3 hbox hb;(repeat first|clear Ab|clear Ah|clear Ac|clear Ai|clear Ad|clear Aj|clear Af|clear Ak|clear Ag|clear Am);have BKe:=y0.mk (hbox);have GEe:=y0.mk ((by rw [hg];exact HB.out.size:w.heap.size≤ge));have Nr_e:=y0.mk ((by rw [hg];exact Nat.ne_of_lt (blk_lt BKr.out):gr≠ge));have Nm_e:=y0.mk ((by rw [hg];exact Nat.ne_of_lt HM.out.lt:gm≠ge));replace HOo:=y0.mk (Kd.R_below HOo.out hb);replace BKr:=y0.mk (y7 BKr.out hb);replace HM:=y0.mk (QSet.MS.below HM.out hb);replace HB:=y0.mk (y5 HB.out hb);clear hb hg hbox;obtain⟨Ab,Ac,Ad,Af,Ag,Ah,Ai,Aj,Ak,Am⟩:=QSet.bx5 BKr.out;obtain⟨Ap,Ar,As,At,Au,Av⟩:=QSet.bx3 BKe.out))
   (repeat first|clear Ab|clear Ah|clear Ac|clear Ai|clear Ad|clear Aj|clear Af|clear Ak|clear Ag|clear Am|clear Ap|clear At|clear Ar|clear Au|clear As|clear Av)
   have nHOo_:=y0.mk ((Kd.R_set (Kd.R_set (Kd.R_set HOo.out BKe.out (by decide) 0 _) (blk_set BKe.out 0 (.int .i64 e0.f0)) (by decide) 1 _) (blk_set (blk_set BKe.out 0 (.int .i64 e0.f0)) 1 (.string e0.f1)) (by decide) 2 _):Kd.R Kd.string 9 (((w3.setCell ⟨ge,0,none⟩ (.int .i64 e0.f0)).setCell ⟨ge,1,none⟩ (.string e0.f1)).setCell ⟨ge,2,none⟩ (.slice A1 e0.f2.length c1)) w.heap.size (fun _=>True) (.slice Ao (lsNm S (Aa.take i)).length co) (lsNm S (Aa.take i)))
   have nBKr_:=y0.mk ((y11 (y11 (y11 BKr.out (Nr_e.out) _) (Nr_e.out) _) (Nr_e.out) _):(((w3.setCell ⟨ge,0,none⟩ (.int .i64 e0.f0)).setCell ⟨ge,1,none⟩ (.string e0.f1)).setCell ⟨ge,2,none⟩ (.slice A1 e0.f2.length c1)).heap[gr]?=some (.cells #[.slice (some Bt) Aa.length Az,.int .i64 Be,.string Bf,.slice Ba Aw.length Bb,.slice Bc Ay.length Bd] 36 (0,0)))
   have nBKe_:=y0.mk ((blk_set (blk_set (blk_set BKe.out 0 (.int .i64 e0.f0)) 1 (.string e0.f1)) 2 (.slice A1 e0.f2.length c1)):(((w3.setCell ⟨ge,0,none⟩ (.int .i64 e0.f0)).setCell ⟨ge,1,none⟩ (.string e0.f1)).setCell ⟨ge,2,none⟩ (.slice A1 e0.f2.length c1)).heap[ge]?=some (.cells #[.int .i64 e0.f0,.string e0.f1,.slice A1 e0.f2.length c1] 48 (0,0)))
   have nHM_:=y0.mk ((QSet.MS.set (QSet.MS.set (QSet.MS.set HM.out Nm_e.out 0 _) Nm_e.out 1 _) Nm_e.out 2 _):QSet.MS (((w3.setCell ⟨ge,0,none⟩ (.int .i64 e0.f0)).setCell ⟨ge,1,none⟩ (.string e0.f1)).setCell ⟨ge,2,none⟩ (.slice A1 e0.f2.length c1)) gm (S))
   have nHB_:=y0.mk ((y3 (y3 (y3 HB.out GEe.out) GEe.out) GEe.out):Below w.heap.size w (((w3.setCell ⟨ge,0,none⟩ (.int .i64 e0.f0)).setCell ⟨ge,1,none⟩ (.string e0.f1)).setCell ⟨ge,2,none⟩ (.slice A1 e0.f2.length c1)))
   clear HOo
   clear BKr
   clear BKe
   clear HM
   clear HB
   generalize (((w3.setCell ⟨ge,0,none⟩ (.int .i64 e0.f0)).setCell ⟨ge,1,none⟩ (.string e0.f1)).setCell ⟨ge,2,none⟩ (.slice A1 e0.f2.length c1))=w4 at nHOo_ nBKr_ nBKe_ nHM_ nHB_ ⊢
   have HOo:=nHOo_
   clear nHOo_
   have BKr:=nBKr_
   clear nBKr_
   have BKe:=nBKe_
   clear nBKe_
   have HM:=nHM_
   clear nHM_
   have HB:=nHB_
   clear nHB_
   obtain⟨Ab,Ac,Ad,Af,Ag,Ah,Ai,Aj,Ak,Am⟩:=QSet.bx5 BKr.out
   obtain⟨Ap,Ar,As,At,Au,Av⟩:=QSet.bx3 BKe.out
   clear Bn Bo Bp
   by_cases k1:e0.f0=1
   ·skip
    have k1b:(e0.f0 == 1)=true:=beq_iff_eq.mpr k1
    have Bu:=y0.mk k1
    clear k1
    obtain⟨b,Cb⟩:∃ b,QSet.hasB S e0.f1=b:=⟨_,rfl⟩
    have Br:=y0.mk Cb
    clear Cb
    cases b with
    | true =>
     obtain⟨kc,hkc⟩:=lsHas (lsNm S (Aa.take i)) e0.f1 (by have:=HLN.out;omega)
     have HKC:=y0.mk hkc
     clear hkc
     obtain⟨t,ht⟩:∃ b,QSet.hasB (lsNm S (Aa.take i)) e0.f1=b:=⟨_,rfl⟩
     rw [ht]at HKC
     have HT:=y0.mk ht
     clear ht
     cases t with
     | true =>
      go_wp2_with (first
       | ((try(refine gate_guard (by rfl) ?_;dsimp only));(with_reducible refine y16 (N:=23) rfl ?_);refine QSet.look_event rfl (.tmp 20) (.tmp 22) rfl rfl (s:=e0.f1) rfl HM.out (by have:=Bs.out;unfold maxLen;omega) ?_;rw [Br.out])
       | ((try(refine gate_guard (by rfl) ?_;dsimp only));go_at_call 65;(with_reducible refine(slices_Contains_string_string.calls kc _ _ (lsNm S (Aa.take i)) e0.f1 true _ (Kd.R_reads' HOo.out).2.2 (Kd.R_reads' HOo.out).2.1 HKC.out).mono ?_);rintro e_ w5 ⟨rfl,hd_⟩;have hb:=hd_.below;(repeat first|clear Ab|clear Ah|clear Ac|clear Ai|clear Ad|clear Aj|clear Af|clear Ak|clear Ag|clear Am|clear Ap|clear At|clear Ar|clear Au|clear As|clear Av);replace HOo:=y0.mk (Kd.R_below HOo.out hb);replace BKr:=y0.mk (y7 BKr.out hb);replace BKe:=y0.mk (y7 BKe.out hb);replace HM:=y0.mk (QSet.MS.below HM.out hb);replace HB:=y0.mk (y5 HB.out hb);(try clear hb);(try clear hd_);(try clear ho);obtain⟨Ab,Ac,Ad,Af,Ag,Ah,Ai,Aj,Ak,Am⟩:=QSet.bx5 BKr.out;obtain⟨Ap,Ar,As,At,Au,Av⟩:=QSet.bx3 BKe.out))
      go_roundg (Aa.length - i - 1)
      case measure=>have:=HK.out;have:=HI.out;omega
      exact⟨wrap64 (xi + 1),i + 1,qy2,⟨by rw [HXI.out];exact QIv.step_u (by have:=HN.out;have:=HI.out;omega)⟩,⟨by have:=HI.out;omega⟩,⟨by rw [HST.out,if_neg (by rw [HT.out];simp)];exact HOo.out⟩,⟨BKr.out⟩,⟨HM.out⟩,⟨HB.out⟩⟩
     | false =>
      go_wp2_with (first
       | ((try(refine gate_guard (by rfl) ?_;dsimp only));(with_reducible refine y16 (N:=23) rfl ?_);refine QSet.look_event rfl (.tmp 20) (.tmp 22) rfl rfl (s:=e0.f1) rfl HM.out (by have:=Bs.out;unfold maxLen;omega) ?_;rw [Br.out])
       | ((try(refine gate_guard (by rfl) ?_;dsimp only));go_at_call 65;(with_reducible refine(slices_Contains_string_string.calls kc _ _ (lsNm S (Aa.take i)) e0.f1 false _ (Kd.R_reads' HOo.out).2.2 (Kd.R_reads' HOo.out).2.1 HKC.out).mono ?_);rintro e_ w5 ⟨rfl,hd_⟩;have hb:=hd_.below;(repeat first|clear Ab|clear Ah|clear Ac|clear Ai|clear Ad|clear Aj|clear Af|clear Ak|clear Ag|clear Am|clear Ap|clear At|clear Ar|clear Au|clear As|clear Av);replace HOo:=y0.mk (Kd.R_below HOo.out hb);replace BKr:=y0.mk (y7 BKr.out hb);replace BKe:=y0.mk (y7 BKe.out hb);replace HM:=y0.mk (QSet.MS.below HM.out hb);replace HB:=y0.mk (y5 HB.out hb);(try clear hb);(try clear hd_);(try clear ho);obtain⟨Ab,Ac,Ad,Af,Ag,Ah,Ai,Aj,Ak,Am⟩:=QSet.bx5 BKr.out;obtain⟨Ap,Ar,As,At,Au,Av⟩:=QSet.bx3 BKe.out)
       | ((with_reducible refine gate_builtin (b:=.append) (xs:=#[.tmp 32,.tmp 35]) rfl ?_);at_builtin;refine Kd.R_append Kd.string (w0:=w) w.heap.size rfl (.tmp 32) (.tmp 35) 30 9 (.string ⟨#[]⟩) 16 rfl Tryz.underlying30 info9 rfl (by decide) (by omega) (.slice Ao (lsNm S (Aa.take i)).length co) (lsNm S (Aa.take i)) (e0.f1) [.string (e0.f1)] (fun _=>True) (fun _=>False) rfl (by first|(go_simp;done)|(go_simp;rfl)) ?aP (fun _ hk=>hk.elim) ?aF ?aO ?aB ?aS ?aL ?_;(case aP=>exact rfl);(case aB=>exact qb);(case aF=>exact(fun _ _=>trivial));(case aO=>exact(qR HOo.out));(case aS=>exact(y4 qb));(case aL=>have:=HLN.out;omega);intro v9 w9 ho hb hg hat;(repeat first|clear Ab|clear Ah|clear Ac|clear Ai|clear Ad|clear Aj|clear Af|clear Ak|clear Ag|clear Am|clear Ap|clear At|clear Ar|clear Au|clear As|clear Av);have nBKr_:=y0.mk (blk_grown (g:=gr) (o:=(.cells #[.slice (some Bt) Aa.length Az,.int .i64 Be,.string Bf,.slice Ba Aw.length Bb,.slice Bc Ay.length Bd] 36 (0,0))) (qk BKr.out) hg (Kd.R_ne HOo.out BKr.out (by decide)));have nHM_:=y0.mk ((QSet.MS.below HM.out (by repeat(first|exact Below.refl _ _|apply below_alloc))).over (qR HOo.out) hg);have nHOo_:=y0.mk (ho);have nHB_:=y0.mk (hb);clear BKr HM HOo HB ho hb hg hat;have BKr:=nBKr_;have HM:=nHM_;have HOo:=nHOo_;have HB:=nHB_;clear nBKr_ nHM_ nHOo_ nHB_;have Ab:w9.cell? ⟨gr,0,none⟩=some (.slice (some Bt) Aa.length Az):=(y8 BKr.out 0).trans rfl))
      go_roundg (Aa.length - i - 1)
      case measure=>have:=HK.out;have:=HI.out;omega
      exact⟨wrap64 (xi + 1),i + 1,qy2,⟨by rw [HXI.out];exact QIv.step_u (by have:=HN.out;have:=HI.out;omega)⟩,⟨by have:=HI.out;omega⟩,⟨by rw [HST.out,if_pos ⟨Bu.out,Br.out,HT.out⟩];exact HOo.out⟩,⟨BKr.out⟩,⟨HM.out⟩,⟨HB.out⟩⟩
    | false =>
     go_wp2_with (first
      | ((try(refine gate_guard (by rfl) ?_;dsimp only));(with_reducible refine y16 (N:=23) rfl ?_);refine QSet.look_event rfl (.tmp 20) (.tmp 22) rfl rfl (s:=e0.f1) rfl HM.out (by have:=Bs.out;unfold maxLen;omega) ?_;rw [Br.out]))
     go_roundg (Aa.length - i - 1)
     case measure=>have:=HK.out;have:=HI.out;omega
     exact⟨wrap64 (xi + 1),i + 1,qy2,⟨by rw [HXI.out];exact QIv.step_u (by have:=HN.out;have:=HI.out;omega)⟩,⟨by have:=HI.out;omega⟩,⟨by rw [HST.out,if_neg (by rw [Br.out];simp)];exact HOo.out⟩,⟨BKr.out⟩,⟨HM.out⟩,⟨HB.out⟩⟩
   ·skip
    have k1b:(e0.f0 == 1)=false:=beq_eq_false_iff_ne.mpr k1
    have Bu:=y0.mk k1
    clear k1
    go_wp2
    go_roundg (Aa.length - i - 1)
    case measure=>have:=HK.out;have:=HI.out;omega
    exact⟨wrap64 (xi + 1),i + 1,qy2,⟨by rw [HXI.out];exact QIv.step_u (by have:=HN.out;have:=HI.out;omega)⟩,⟨by have:=HI.out;omega⟩,⟨by rw [HST.out,if_neg (fun h_=>Bu.out h_.1)];exact HOo.out⟩,⟨BKr.out⟩,⟨HM.out⟩,⟨HB.out⟩⟩
  ·skip
   have Cd:decide (xi < (Aa.length:Int))=false:=decide_eq_false c
   have HE:y0 (Aa.take i=Aa):=⟨List.take_of_length_le (by have:=HXI.out;have:=HK.out;omega)⟩
   rw [HE.out]at HOo
   go_wp2
   go_ret
   exact⟨_,by first|rfl|(rw [HE.out];rfl)|(simp [HE.out,y12,y13] <;> rfl),by rw [HE.out];exact HOo.out,HB.out⟩
def lsK (es:List (S48)) (l:S33) (S:List ByteArray) (y:Int):List ByteArray:=if l.f0=1∧(y20 es y).f0=1 then QSet.ins S (y20 es y).f1 else S
def lsA (es:List (S48)) (PL:Int→List Int) (l:S33) (S:List ByteArray) (x:Int):List ByteArray:=(PL x).foldl (lsK es l) S
def lsL (es:List (S48)) (PL:Int→List Int) (S:List ByteArray) (l:S33):List ByteArray:=l.f2.foldl (lsA es PL l) S
def lsO (VR:Int→List ByteArray) (PT:Int→Bool) (TL:List ByteArray→Int→Bool) (S:List ByteArray) (a b:Int):List ByteArray:=if(PT b && TL S a)=true then(VR b).foldl QSet.ins S else S
def lsE (VR:Int→List ByteArray) (PT:Int→Bool) (TL:List ByteArray→Int→Bool) (a b:Int) (S:List ByteArray):Nat→List ByteArray
 | 0=>S
 | 1=>lsO VR PT TL S a b
 | _=>lsO VR PT TL (lsO VR PT TL S a b) b a
def lsP (VR:Int→List ByteArray) (PT:Int→Bool) (TL:List ByteArray→Int→Bool) (S:List ByteArray) (l:S33):List ByteArray:=if l.f0=3∧l.f1.toList=([61]:List UInt8)then lsE VR PT TL (rd l.f2 0) (rd l.f2 1) S 2 else S
def lsW (bd:List (S33)) (VR:Int→List ByteArray) (PT:Int→Bool) (TL:List ByteArray→Int→Bool) (S:List ByteArray):List ByteArray:=bd.foldl (lsP VR PT TL) S
def lsIt (bd:List (S33)) (VR:Int→List ByteArray) (PT:Int→Bool) (TL:List ByteArray→Int→Bool) (S:List ByteArray):Nat→List ByteArray
 | 0=>S
 | n + 1=>lsW bd VR PT TL (lsIt bd VR PT TL S n)
def lsG (es:List (S48)) (S:List ByteArray):Prop:=S.Nodup∧∀ s∈S,∃ e∈es,e.f1=s
theorem lsG_nil (es:List (S48)):lsG es []:=⟨List.nodup_nil,fun s h=>by cases h⟩
theorem lsG_ins {es:List (S48)} {S:List ByteArray} (h:lsG es S) {s:ByteArray} (hs:∃ e∈es,e.f1=s):lsG es (QSet.ins S s):=by
 refine⟨?_,fun t ht=>?_⟩
 ·unfold QSet.ins
  by_cases e:QSet.hasB S s=true
  ·rw [if_pos e]
   exact h.1
  ·rw [if_neg e]
   refine List.nodup_append.2 ⟨h.1,by simp,fun a ha b hb=>?_⟩
   rw [List.mem_singleton]at hb
   subst hb
   rintro rfl
   exact e (QSet.hasB_iff.2 ha)
 ·rcases QSet.mem_ins.1 ht with ht|rfl
  ·exact h.2 t ht
  ·exact hs
theorem nodup_sub {α:Type}:∀(xs ys:List α),xs.Nodup→(∀ x∈xs,x∈ys)→xs.length≤ys.length
 | [],ys,_,_=>Nat.zero_le _
 | x :: r,ys,h,hs=>by
  obtain⟨h1,h2⟩:=List.nodup_cons.1 h
  obtain⟨p,q,rfl⟩:=List.append_of_mem (hs x List.mem_cons_self)
  have:=nodup_sub r (p ++ q) h2 (fun y hy=>by
   have h3:=hs y (List.mem_cons_of_mem _ hy)
   rcases List.mem_append.1 h3 with h3|h3
   ·exact List.mem_append_left _ h3
   ·rcases List.mem_cons.1 h3 with rfl|h3
    ·exact absurd hy h1
    ·exact List.mem_append_right _ h3)
  rw [List.length_append]at this
  rw [List.length_cons,List.length_append,List.length_cons]
  omega
theorem lsG_len {es:List (S48)} {S:List ByteArray} (h:lsG es S):S.length≤es.length:=by
 have:=nodup_sub S (es.map (·.f1)) h.1 (fun s hs=>by
  obtain⟨e,he,rfl⟩:=h.2 s hs
  exact List.mem_map_of_mem he)
 rwa [List.length_map]at this
theorem foldl_at {α β:Type} (f:β→α→β) (z:β) (xs:List α) (i:Nat) (hi:i < xs.length):(xs.take (i + 1)).foldl f z=f ((xs.take i).foldl f z) xs[i]:=by
 rw [List.take_succ_eq_append_getElem hi,List.foldl_append,List.foldl_cons,List.foldl_nil]
theorem lsE_step (VR:Int→List ByteArray) (PT:Int→Bool) (TL:List ByteArray→Int→Bool) (xs:List Int) (S:List ByteArray) (s:Nat) (hs:s < 2):lsE VR PT TL (rd xs 0) (rd xs 1) S (s + 1)=lsO VR PT TL (lsE VR PT TL (rd xs 0) (rd xs 1) S s) (rd xs (s:Int)) (rd [rd xs 1,rd xs 0] (s:Int)):=by
 match s,hs with
 | 0,_=>rfl
 | 1,_=>rfl
theorem ins_grow (S:List ByteArray) (s:ByteArray):∃ T,QSet.ins S s=S ++ T:=by
 unfold QSet.ins
 by_cases h:QSet.hasB S s=true
 ·rw [if_pos h]
  exact⟨[],(List.append_nil S).symm⟩
 ·rw [if_neg h]
  exact⟨[s],rfl⟩
theorem fold_grow {α:Type} (f:List ByteArray→α→List ByteArray) (hf:∀ S a,∃ T,f S a=S ++ T):∀(xs:List α) (S:List ByteArray),∃ T,xs.foldl f S=S ++ T
 | [],S=>⟨[],(List.append_nil S).symm⟩
 | x :: r,S=>by
  obtain⟨T,h⟩:=hf S x
  obtain⟨U,h2⟩:=fold_grow f hf r (f S x)
  exact⟨T ++ U,by rw [List.foldl_cons,h2,h,List.append_assoc]⟩
theorem lsO_grow (VR:Int→List ByteArray) (PT:Int→Bool) (TL:List ByteArray→Int→Bool) (S:List ByteArray) (a b:Int):∃ T,lsO VR PT TL S a b=S ++ T:=by
 unfold lsO
 by_cases h:(PT b && TL S a)=true
 ·rw [if_pos h]
  exact fold_grow _ ins_grow _ _
 ·rw [if_neg h]
  exact⟨[],(List.append_nil S).symm⟩
theorem lsP_grow (VR:Int→List ByteArray) (PT:Int→Bool) (TL:List ByteArray→Int→Bool) (S:List ByteArray) (l:S33):∃ T,lsP VR PT TL S l=S ++ T:=by
 unfold lsP
 by_cases h:l.f0=3∧l.f1.toList=([61]:List UInt8)
 ·rw [if_pos h]
  obtain⟨T,h1⟩:=lsO_grow VR PT TL S (rd l.f2 0) (rd l.f2 1)
  obtain⟨U,h2⟩:=lsO_grow VR PT TL (lsO VR PT TL S (rd l.f2 0) (rd l.f2 1)) (rd l.f2 1) (rd l.f2 0)
  exact⟨T ++ U,by show lsO VR PT TL (lsO VR PT TL S (rd l.f2 0) (rd l.f2 1)) (rd l.f2 1) (rd l.f2 0)=_;rw [h2,h1,List.append_assoc]⟩
 ·rw [if_neg h]
  exact⟨[],(List.append_nil S).symm⟩
theorem lsW_same {bd:List (S33)} {VR:Int→List ByteArray} {PT:Int→Bool} {TL:List ByteArray→Int→Bool} {S:List ByteArray} (h:¬((S.length:Int) < ((lsW bd VR PT TL S).length:Int))):lsW bd VR PT TL S=S:=by
 obtain⟨T,hT⟩:=fold_grow _ (lsP_grow VR PT TL) bd S
 have h2:lsW bd VR PT TL S=S ++ T:=hT
 rw [h2,List.length_append]at h
 have:T=[]:=List.length_eq_zero_iff.1 (by omega)
 rw [h2,this,List.append_nil]
theorem lsIt_same {bd:List (S33)} {VR:Int→List ByteArray} {PT:Int→Bool} {TL:List ByteArray→Int→Bool} {S:List ByteArray} {n:Nat} (h:lsW bd VR PT TL (lsIt bd VR PT TL S n)=lsIt bd VR PT TL S n):∀ m,n≤m→lsIt bd VR PT TL S m=lsIt bd VR PT TL S n
 | 0,hm=>by
  obtain rfl:n=0:=by omega
  rfl
 | m + 1,hm=>by
  by_cases e:n=m + 1
  ·rw [e]
  ·show lsW bd VR PT TL (lsIt bd VR PT TL S m)=_
   rw [lsIt_same h m (by omega),h]
theorem cell_grown0 {W W1:World} {p:Addr} {v:Value} (h:W.cell? p=some v) (hg:W.grownBy W1 none):W1.cell? p=some v:=by
 have hlt:=World.block_lt_of_cell? W _ h
 have hb:=hg.block p.block hlt (by simp)
 unfold World.cell? at h ⊢
 rw [hb]
 exact h
def lsPLf (k:Nat) (es:List (S48)) (a:Int) (b:ByteArray) (c:List Int) (bd:List (S33)) (x:Int):List Int:=(impl_Rule_plain.f k es a b c bd x).getD []
def lsVRf (k:Nat) (es:List (S48)) (a:Int) (b:ByteArray) (c:List Int) (bd:List (S33)) (x:Int):List ByteArray:=(impl_Rule_vars.f k es a b c bd x).getD []
def lsPTf (k:Nat) (es:List (S48)) (a:Int) (b:ByteArray) (c:List Int) (bd:List (S33)) (x:Int):Bool:=(z2_.f k es a b c bd x).getD false
def lsArg (k:Nat) (es:List (S48)) (a:Int) (b:ByteArray) (c:List Int) (bd:List (S33)) (x:Int):Bool:=decide (0≤x) && (decide (x < (es.length:Int)) && ((impl_Rule_plain.f k es a b c bd x).isSome && (decide ((lsPLf k es a b c bd x).length≤1048576) && ((lsPLf k es a b c bd x).all (fun y=>decide (0≤y) && decide (y < (es.length:Int))) && ((impl_Rule_vars.f k es a b c bd x).isSome && (decide ((lsVRf k es a b c bd x).length≤1048576) && ((lsVRf k es a b c bd x).all (fun s=>QSet.hasB (es.map (·.f1)) s) && (z2_.f k es a b c bd x).isSome)))))))
def lsOk (k:Nat) (es:List (S48)) (a:Int) (b:ByteArray) (c:List Int) (bd:List (S33)):Bool:=decide (es.length≤60) && (es.all (fun e=>decide (e.f1.size≤1048576)) && (decide (bd.length≤1048576) && bd.all (fun l=>decide (l.f2.length≤1048576) && ((l.f0 != 3 || l.f2.length == 2) && l.f2.all (lsArg k es a b c bd)))))
def lsRes (k:Nat) (es:List (S48)) (a:Int) (b:ByteArray) (c:List Int) (bd:List (S33)) (TL:List ByteArray→Int→Bool):List ByteArray:=lsNm (lsIt bd (lsVRf k es a b c bd) (lsPTf k es a b c bd) TL (bd.foldl (lsL es (lsPLf k es a b c bd)) []) 100) es
theorem lsArg_spec {k:Nat} {es:List (S48)} {a:Int} {b:ByteArray} {c:List Int} {bd:List (S33)} {x:Int} (h:lsArg k es a b c bd x=true) :
  (0≤x∧x < (es.length:Int))∧(impl_Rule_plain.f k es a b c bd x=some (lsPLf k es a b c bd x)∧(lsPLf k es a b c bd x).length≤1048576∧∀ y∈lsPLf k es a b c bd x,0≤y∧y < (es.length:Int)) ∧
  (impl_Rule_vars.f k es a b c bd x=some (lsVRf k es a b c bd x)∧(lsVRf k es a b c bd x).length≤1048576∧∀ s∈lsVRf k es a b c bd x,∃ e∈es,e.f1=s)∧z2_.f k es a b c bd x=some (lsPTf k es a b c bd x):=by
 unfold lsArg at h
 simp only [Bool.and_eq_true,decide_eq_true_eq,List.all_eq_true]at h
 obtain⟨h1,h2,h3,h4,h5,h6,h7,h8,h9⟩:=h
 refine⟨⟨h1,h2⟩,⟨?_,h4,h5⟩,⟨?_,h7,fun s hs=>?_⟩, ?_⟩
 ·obtain⟨v,hv⟩:=Option.isSome_iff_exists.1 h3
  unfold lsPLf
  rw [hv]
  rfl
 ·obtain⟨v,hv⟩:=Option.isSome_iff_exists.1 h6
  unfold lsVRf
  rw [hv]
  rfl
 ·have:=QSet.hasB_iff.1 (h8 s hs)
  obtain⟨e,he,h⟩:=List.mem_map.1 this
  exact⟨e,he,h⟩
 ·obtain⟨v,hv⟩:=Option.isSome_iff_exists.1 h9
  unfold lsPTf
  rw [hv]
  rfl
theorem lsOk_spec {k:Nat} {es:List (S48)} {a:Int} {b:ByteArray} {c:List Int} {bd:List (S33)} (h:lsOk k es a b c bd=true) :
  es.length≤60∧(∀ e∈es,e.f1.size≤1048576)∧bd.length≤1048576∧(∀ l∈bd,l.f2.length≤1048576)∧(∀ l∈bd,l.f0=3→l.f2.length=2)∧∀ l∈bd,∀ x∈l.f2,lsArg k es a b c bd x=true:=by
 unfold lsOk at h
 simp only [Bool.and_eq_true,decide_eq_true_eq,List.all_eq_true,Bool.or_eq_true,bne_iff_ne,beq_iff_eq]at h
 obtain⟨h1,h2,h3,h4⟩:=h
 exact⟨h1,h2,h3,fun l hl=>(h4 l hl).1,fun l hl h5=>((h4 l hl).2.1).resolve_left (fun h6=>h6 h5),fun l hl=>(h4 l hl).2.2⟩
def impl_Rule_hasAny_1.f (a0:Int) (l1_0:List (S48)) (a1_1:Int) (a1_2:ByteArray) (l1_3:List Int) (l1_4:List (S33)):Option (Bool):=if 0≤a0 then(if a0 < (l1_0.length:Int)then(some (((y20 l1_0 a0).f0) == 2))else(none))else(none)
set_option maxHeartbeats 8000000 in
set_option maxRecDepth 100000 in
theorem impl_Rule_hasAny_1.calls (a0:Int) (As:Option Addr) (At:Nat) (Aa:List (S48)) (Au:Int) (Av:ByteArray) (Aw:Option Addr) (Ay:Nat) (Ad:List Int) (Az:Option Addr) (Ba:Nat) (Af:List (S33)) (g1:Nat) (r:Bool) (w:World) (Ag:Kd.C k48 w As Aa.length Aa) (Ah:Aa.length≤At) (Ai:Kd.C (Kd.int .i64) w Aw Ad.length Ad) (Aj:Ad.length≤Ay) (Ak:Kd.C k33 w Az Af.length Af) (Am:Af.length≤Ba) (Bb:w.heap[g1]?=some (.cells #[.slice As Aa.length At,.int .i64 Au,.string Av,.slice Aw Ad.length Ay,.slice Az Af.length Ba] 36 (0,0))) (h:impl_Rule_hasAny_1.f a0 Aa Au Av Ad Af=some r) :
  Calls Tryz.prog 63 #[.int .i64 a0,.pointer (some ⟨g1,0,none⟩)] w fun e w'=>e=.returned (.bool r)∧Drawn0 w w':=by
 have Bc:=y0.mk Ag
 have Bv:=y0.mk Ah
 clear Ag Ah
 have Bw:=y0.mk Ai
 have Bx:=y0.mk Aj
 clear Ai Aj
 have Bz:=y0.mk Ak
 have Ca:=y0.mk Am
 clear Ak Am
 have Cc:=y0.mk Bb
 clear Bb
 have H:(if 0≤a0 then(if a0 < (Aa.length:Int)then(some (((y20 Aa a0).f0) == 2))else(none))else(none))=some r:=h
 clear h
 obtain⟨c3,H⟩:=qo H
 have Cd:decide (0≤a0)=true:=decide_eq_true c3
 clear c3
 obtain⟨c4,H⟩:=qo H
 have Ce:decide (a0 < (Aa.length:Int))=true:=decide_eq_true c4
 clear c4
 obtain rfl:=Option.some.inj H
 obtain⟨Bi,Bj,Bk,Bl,Bm,Bn,Bo,Bp,Bq,Br⟩:=qz5 Cc.out
 have Ap:0≤(a0:Int):=of_decide_eq_true qy0
 have Ar:a0 < (Aa.length:Int):=of_decide_eq_true qy0
 obtain⟨Cb,Bs,Bt,Bu,Bd,Be,Bf,Ab,Ac⟩:=at_T48 Bc.out a0 Ap Ar
 cases Bu
 have Bg:=y0.mk Ac
 have Bh:=y0.mk Ab
 clear Ac Ab
 replace Ap:=eq_true Ap
 replace Ar:=eq_true Ar
 go_enter Tryz.func63,Tryz.ntmps63
 go_wp2
 go_ret
 exact qf2
def impl_Rule_hasAny.g (l0_0:List (S48)) (a0_1:Int) (a0_2:ByteArray) (l0_3:List Int) (l0_4:List (S33)) (x:Int):Bool:=(impl_Rule_hasAny_1.f x l0_0 a0_1 a0_2 l0_3 l0_4).getD false
def impl_Rule_hasAny.f (k:Nat) (l0_0:List (S48)) (a0_1:Int) (a0_2:ByteArray) (l0_3:List Int) (l0_4:List (S33)) (a1:Int):Option Bool :=
 (impl_Rule_within.f k l0_0 a0_1 a0_2 l0_3 l0_4 a1).bind fun xs=>if xs.length≤1099511627776∧(xs.all fun x=>(impl_Rule_hasAny_1.f x l0_0 a0_1 a0_2 l0_3 l0_4).isSome)=true then some ((xs.any (impl_Rule_hasAny.g l0_0 a0_1 a0_2 l0_3 l0_4)))else none
set_option maxHeartbeats 8000000 in
set_option maxRecDepth 100000 in
theorem slices_IndexFunc_hasAny.calls (A0:Option Addr) (c0:Nat) (l0:List Int) (Ap:Option Addr) (Ar:Nat) (Aa:List (S48)) (Ad:Int) (Af:ByteArray) (As:Option Addr) (At:Nat) (Ab:List Int) (Au:Option Addr) (Av:Nat) (Ac:List (S33)) (g1:Nat) (w:World) (Bg:Kd.C (Kd.int .i64) w A0 l0.length l0) (Bj:l0.length≤c0) (Ag:Kd.C k48 w Ap Aa.length Aa) (Ah:Aa.length≤Ar) (Ai:Kd.C (Kd.int .i64) w As Ab.length Ab) (Aj:Ab.length≤At) (Ak:Kd.C k33 w Au Ac.length Ac) (Am:Ac.length≤Av) (Aw:w.heap[g1]?=some (.cells #[.slice Ap Aa.length Ar,.int .i64 Ad,.string Af,.slice As Ab.length At,.slice Au Ac.length Av] 36 (0,0)))
  (hn:l0.length≤1099511627776) (hg:∀ x∈l0,(impl_Rule_hasAny_1.f x Aa Ad Af Ab Ac).isSome=true) :
  Calls Tryz.prog 77 #[.slice A0 l0.length c0,.func (.func 63) #[] #[.pointer (some ⟨g1,0,none⟩)]] w fun e w'=>∃ r:Int,e=.returned (.int .i64 r)∧decide (r≥0)=l0.any (impl_Rule_hasAny.g Aa Ad Af Ab Ac)∧Below w.heap.size w w':=by
 have hlt:=(Array.getElem?_eq_some_iff.1 Aw).1
 have Bk:=y0.mk Bg
 clear Bg
 have Ay:=y0.mk Ag
 clear Ag
 have Az:=y0.mk Ah
 clear Ah
 have Ba:=y0.mk Ai
 clear Ai
 have Bb:=y0.mk Aj
 clear Aj
 have Bc:=y0.mk Ak
 clear Ak
 have Bd:=y0.mk Am
 clear Am
 have HBX:=y0.mk Aw
 clear Aw
 have HN:=y0.mk hn
 have HG:=y0.mk hg
 clear hn hg Bj
 have HB:=y0.mk (Below.refl w.heap.size w)
 go_enter Tryz.func77,Tryz.ntmps77
 go_wp2
 go_loopg [8] l0.length (fun kq v8 w'=>∃(xi:Int) (i:Nat),v8=.int .i64 xi∧y0 (xi=(i:Int))∧y0 (kq + i=l0.length)∧y0 (l0.any (impl_Rule_hasAny.g Aa Ad Af Ab Ac)=(l0.drop i).any (impl_Rule_hasAny.g Aa Ad Af Ab Ac))∧y0 (Below w.heap.size w w'))
 case atStart=>exact⟨0,0,rfl,⟨rfl⟩,⟨Nat.add_zero _⟩,⟨by rw [List.drop_zero]⟩,⟨qb⟩⟩
 case round =>
  obtain⟨xi,i,rfl,HXI,HK,HD,HB⟩:=hrel
  by_cases c3:xi < (l0.length:Int)
  ·have Be:decide (xi < (l0.length:Int))=true:=decide_eq_true c3
   have hi:i < l0.length:=by have:=HXI.out;omega
   have p1:0≤xi:=by have:=HXI.out;omega
   have rg:rd l0 xi=l0[i]:=by rw [HXI.out];unfold rd;rw [show((i:Int)).toNat=i from rfl,List.getD_eq_getElem?_getD,List.getElem?_eq_getElem hi];rfl
   obtain⟨ad,e1,hx⟩:=Kd.at_int Bk.out xi p1 c3
   cases e1
   rw [rg]at hx
   replace hx:=(HB.out.cell (World.block_lt_of_cell? w _ hx)).trans hx
   obtain⟨b,Bf⟩:=Option.isSome_iff_exists.1 (HG.out _ (List.getElem_mem hi))
   have Bh:impl_Rule_hasAny.g Aa Ad Af Ab Ac l0[i]=b:=by unfold impl_Rule_hasAny.g;rw [Bf];rfl
   have HDn:y0 (l0.any (impl_Rule_hasAny.g Aa Ad Af Ab Ac)=(b || (l0.drop (i + 1)).any (impl_Rule_hasAny.g Aa Ad Af Ab Ac))):=⟨by rw [HD.out,List.drop_eq_getElem_cons hi,List.any_cons,Bh]⟩
   have Bi:=y0.mk Bf
   have HI:=y0.mk hi
   clear Bf Bh rg HD
   generalize l0[i]=x0 at hx Bi
   clear hi
   replace p1:=eq_true p1
   replace c3:=eq_true c3
   have step:∀(w1:World),Below w.heap.size w w1→Calls Tryz.prog 63 #[.int .i64 x0,.pointer (some ⟨g1,0,none⟩)] w1 fun e w'=>e=.returned (.bool b)∧Below w1.heap.size w1 w':=by
    intro w1 hb
    refine(impl_Rule_hasAny_1.calls x0 Ap Ar Aa Ad Af As At Ab Au Av Ac g1 b w1 (Kd.C_below Ay.out hb) Az.out (Kd.C_below Ba.out hb) Bb.out (Kd.C_below Bc.out hb) Bd.out ((hb.block g1 hlt).trans HBX.out) Bi.out).mono ?_
    rintro e w2 ⟨rfl,hd⟩
    exact⟨rfl,hd.below⟩
   have HSt:=y0.mk step
   clear step
   cases b with
   | true =>
    go_wp2_with (first|(go_at_call 63;(with_reducible refine(HSt.out _ qb).mono ?_);rintro e w8 ⟨rfl,hb⟩;have n0_:=y0.mk (y5 qb hb);clear HB hb;have HB:=n0_;clear n0_))
    go_ret
    exact⟨xi,by first|rfl|(simp [y12,y13] <;> rfl),by rw [HDn.out,Bool.true_or];exact decide_eq_true (by have:=HXI.out;omega),qb⟩
   | false =>
    go_wp2_with (first|(go_at_call 63;(with_reducible refine(HSt.out _ qb).mono ?_);rintro e w9 ⟨rfl,hb⟩;have n0_:=y0.mk (y5 qb hb);clear HB hb;have HB:=n0_;clear n0_))
    go_roundg (l0.length - i - 1)
    case measure=>have:=HK.out;have:=HI.out;omega
    exact⟨wrap64 (xi + 1),i + 1,qy2,⟨by rw [HXI.out];exact QIv.step_u (by have:=HN.out;have:=HI.out;omega)⟩,⟨by have:=HI.out;omega⟩,⟨by rw [HDn.out,Bool.false_or]⟩,⟨qb⟩⟩
  ·have Be:decide (xi < (l0.length:Int))=false:=decide_eq_false c3
   have hd:l0.drop i=[]:=List.drop_of_length_le (by have:=HXI.out;have:=HK.out;omega)
   have HE:y0 (l0.any (impl_Rule_hasAny.g Aa Ad Af Ab Ac)=false):=⟨by rw [HD.out,hd];rfl⟩
   clear hd
   go_wp2
   go_ret
   exact⟨-1,by first|rfl|(simp [y12,y13] <;> rfl),by rw [HE.out];rfl,qb⟩
set_option maxHeartbeats 8000000 in
set_option maxRecDepth 100000 in
theorem slices_ContainsFunc_hasAny.calls (A0:Option Addr) (c0:Nat) (l0:List Int) (Aj:Option Addr) (Ak:Nat) (Aa:List (S48)) (Ad:Int) (Af:ByteArray) (Am:Option Addr) (Ap:Nat) (Ab:List Int) (Ar:Option Addr) (As:Nat) (Ac:List (S33)) (g1:Nat) (w:World) (Ay:Kd.C (Kd.int .i64) w A0 l0.length l0) (Az:l0.length≤c0) (Ag:Kd.C k48 w Aj Aa.length Aa) (At:Aa.length≤Ak) (Ah:Kd.C (Kd.int .i64) w Am Ab.length Ab) (Au:Ab.length≤Ap) (Ai:Kd.C k33 w Ar Ac.length Ac) (Av:Ac.length≤As) (Aw:w.heap[g1]?=some (.cells #[.slice Aj Aa.length Ak,.int .i64 Ad,.string Af,.slice Am Ab.length Ap,.slice Ar Ac.length As] 36 (0,0)))
  (hn:l0.length≤1099511627776) (hg:∀ x∈l0,(impl_Rule_hasAny_1.f x Aa Ad Af Ab Ac).isSome=true) :
  Calls Tryz.prog 61 #[.slice A0 l0.length c0,.func (.func 63) #[] #[.pointer (some ⟨g1,0,none⟩)]] w fun e w'=>e=.returned (.bool (l0.any (impl_Rule_hasAny.g Aa Ad Af Ab Ac)))∧Below w.heap.size w w':=by
 have HC:=y0.mk (slices_IndexFunc_hasAny.calls A0 c0 l0 Aj Ak Aa Ad Af Am Ap Ab Ar As Ac g1 w Ay Az Ag At Ah Au Ai Av Aw hn hg)
 have HB:=y0.mk (Below.refl w.heap.size w)
 clear hn hg Aw Ay Ag Ah Ai
 go_enter Tryz.func61,Tryz.ntmps61
 go_wp2_with (first|(go_at_call 77;(with_reducible refine HC.out.mono ?_);rintro e w8 ⟨r,rfl,hr,hb⟩;have HR:=y0.mk hr;have n0_:=y0.mk (y5 qb hb);clear HB hb hr;have HB:=n0_;clear n0_))
 go_ret
 exact⟨by rw [← HR.out];first|rfl|(simp [y12,y13] <;> rfl),qb⟩
set_option maxHeartbeats 8000000 in
set_option maxRecDepth 100000 in
theorem impl_Rule_hasAny.calls (k:Nat) (Ag:Option Addr) (Ah:Nat) (Aa:List (S48)) (Ad:Int) (Af:ByteArray) (Ai:Option Addr) (Aj:Nat) (Ab:List Int) (Ak:Option Addr) (Am:Nat) (Ac:List (S33)) (a1:Int) (r:Bool) (w:World) (Bb:Kd.C k48 w Ag Aa.length Aa) (Bc:Aa.length≤Ah) (Bd:Kd.C (Kd.int .i64) w Ai Ab.length Ab) (Be:Ab.length≤Aj) (Bf:Kd.C k33 w Ak Ac.length Ac) (Bg:Ac.length≤Am) (h:impl_Rule_hasAny.f k Aa Ad Af Ab Ac a1=some r) :
  Calls Tryz.prog 45 #[.agg #[.slice Ag Aa.length Ah,.int .i64 Ad,.string Af,.slice Ai Ab.length Aj,.slice Ak Ac.length Am],.int .i64 a1] w fun e w'=>e=.returned (.bool r)∧Below w.heap.size w w':=by
 unfold impl_Rule_hasAny.f at h
 obtain⟨xs,E1,h⟩:=Option.bind_eq_some_iff.1 h
 by_cases hc:xs.length≤1099511627776∧(xs.all fun x=>(impl_Rule_hasAny_1.f x Aa Ad Af Ab Ac).isSome)=true
 case neg=>rw [if_neg hc]at h;cases h
 rw [if_pos hc]at h
 obtain rfl:=Option.some.inj h
 clear h
 have HLN:=y0.mk hc.1
 have HAL:=y0.mk (List.all_eq_true.1 hc.2)
 clear hc
 replace E1:=y0.mk E1
 have Bh:=y0.mk Bb
 clear Bb
 have Bi:=y0.mk Bc
 clear Bc
 have Bj:=y0.mk Bd
 clear Bd
 have Bk:=y0.mk Be
 clear Be
 have Bl:=y0.mk Bf
 clear Bf
 have Bm:=y0.mk Bg
 clear Bg
 have HB:=y0.mk (Below.refl w.heap.size w)
 have Bn:=Tryz.underlying36
 go_enter Tryz.func45,Tryz.ntmps45
 go_wp2_with (first
  | ((with_reducible refine y16 (N:=2) rfl ?_);refine qe 2 #[.slice Ag Aa.length Ah,.int .i64 Ad,.string Af,.slice Ai Ab.length Aj,.slice Ak Ac.length Am] 36 ?_;intro gr hg w1 hbox hb;have BKr:=y0.mk (hbox);have GEr:=y0.mk ((by rw [hg];exact HB.out.size:w.heap.size≤gr));replace HB:=y0.mk (y5 HB.out hb);clear hb hg hbox;obtain⟨Ap,Ar,As,At,Au,Av,Aw,Ay,Az,Ba⟩:=QIv.box5 BKr.out)
  | (go_at_call 62;(with_reducible refine(impl_Rule_within.calls k _ _ Aa Ad Af _ _ Ab _ _ Ac a1 xs _ (Kd.C_below Bh.out HB.out) Bi.out (Kd.C_below Bj.out HB.out) Bk.out (Kd.C_below Bl.out HB.out) Bm.out E1.out).mono ?_);rintro e w2 ⟨v_,rfl,ho,hb⟩;obtain⟨loX,hiX,hlo_,hhi_,hOX_⟩:=QIv.OR.new ho;obtain⟨AX,cX,eA_⟩:=hOX_.slice;subst eA_;(repeat first|clear Ap|clear Ar|clear As|clear At|clear Au|clear Av|clear Aw|clear Ay|clear Az|clear Ba);have OX:=y0.mk (hOX_);have LX:=y0.mk ((by rw [hhi_];exact Nat.le_refl _:hiX≤_));have BX:=y0.mk ((by rw [hlo_];exact HB.out.size:w.heap.size≤loX));have IX:=y0.mk ((by rw [hlo_,hhi_];exact hb.size:loX≤hiX));have Er_X:=y0.mk ((by rw [hlo_];exact QIv.ki_lt BKr.out:gr < loX));replace BKr:=y0.mk (y7 (g:=gr) (o:=(.cells #[.slice Ag Aa.length Ah,.int .i64 Ad,.string Af,.slice Ai Ab.length Aj,.slice Ak Ac.length Am] 36 (0,0))) BKr.out hb);replace HB:=y0.mk (y5 HB.out hb);(try clear hb);(try clear ho);(try clear hlo_);(try clear hhi_);obtain⟨Ap,Ar,As,At,Au,Av,Aw,Ay,Az,Ba⟩:=QIv.box5 BKr.out)
  | (go_at_call 61;(with_reducible refine(slices_ContainsFunc_hasAny.calls _ _ xs _ _ Aa Ad Af _ _ Ab _ _ Ac gr _ OX.out.C OX.out.le (Kd.C_below Bh.out HB.out) Bi.out (Kd.C_below Bj.out HB.out) Bk.out (Kd.C_below Bl.out HB.out) Bm.out BKr.out HLN.out HAL.out).mono ?_);rintro e w3 ⟨rfl,hb⟩;(repeat first|clear Ap|clear Ar|clear As|clear At|clear Au|clear Av|clear Aw|clear Ay|clear Az|clear Ba);replace OX:=y0.mk (OX.out.below hb);replace LX:=y0.mk (Nat.le_trans LX.out hb.size);replace BKr:=y0.mk (y7 (g:=gr) (o:=(.cells #[.slice Ag Aa.length Ah,.int .i64 Ad,.string Af,.slice Ai Ab.length Aj,.slice Ak Ac.length Am] 36 (0,0))) BKr.out hb);replace HB:=y0.mk (y5 HB.out hb);(try clear hb);obtain⟨Ap,Ar,As,At,Au,Av,Aw,Ay,Az,Ba⟩:=QIv.box5 BKr.out))
 go_ret
 exact⟨by first|rfl|(simp [y12,y13] <;> rfl),HB.out⟩
end Go.Proofs.YtkdabljlfbmpdaaGreat.Pb
end
section
namespace Go.Proofs.YtkdabljlfbmpdaaGreat.Pb
open Go.RowKit Go.Proofs.YtkdabljlfbmpdaaGreatW.PrintWords Go.Proofs.YtkdabljlfbmpdaaGreatW.PrintLast Go.Proofs.YtkdabljlfbmpdaaGreatW.PrintMore
attribute [local go_sem] max2_int min2_int max_two min_two max_three min_three max_four min_four   -- for this text's walks alone
set_option linter.unusedVariables false
set_option linter.unusedSimpArgs false
set_option maxHeartbeats 32000000 in
set_option maxRecDepth 100000 in
theorem impl_Rule_least_bound.calls (k:Nat) (Bi:Option Addr) (Bc:Nat) (Ap:List (S48)) (Az:Int) (Ba:ByteArray) (Bd:Option Addr) (Be:Nat) (Ay:List Int) (Bw:Option Addr) (Bf:Nat) (Am:List (S33)) (gt:Nat) (PL:Int→List Int) (VR:Int→List ByteArray) (PT:Int→Bool) (TL:List ByteArray→Int→Bool) (w:World) (Cc:Kd.C k48 w Bi Ap.length Ap) (Cd:Ap.length≤Bc) (Ce:Kd.C (Kd.int .i64) w Bd Ay.length Ay) (Cf:Ay.length≤Be) (Cg:Kd.C k33 w Bw Am.length Am) (Ch:Am.length≤Bf)
  (HPL:y0 (∀ l∈Am,∀ x∈l.f2,impl_Rule_plain.f k Ap Az Ba Ay Am x=some (PL x)∧(PL x).length≤1048576∧∀ y∈PL x,0≤y∧y < (Ap.length:Int)))
  (HVR:y0 (∀ l∈Am,∀ x∈l.f2,impl_Rule_vars.f k Ap Az Ba Ay Am x=some (VR x)∧(VR x).length≤1048576∧∀ s∈VR x,∃ e∈Ap,e.f1=s)) (HPT:y0 (∀ l∈Am,∀ x∈l.f2,z2_.f k Ap Az Ba Ay Am x=some (PT x)))
  (H3:y0 (∀ l∈Am,l.f0=3→l.f2.length=2)) (HN:y0 (Ap.length≤60)) (HSZ:y0 (∀ e∈Ap,e.f1.size≤1048576)) (HBL:y0 (Am.length≤1048576)) (HAL:y0 (∀ l∈Am,l.f2.length≤1048576))
  (HTL:y0 (∀(W:World) (g:Nat) (S:List ByteArray) (l:S33) (x y:Int),Below w.heap.size w W→QSet.MS W g S→l∈Am→x∈l.f2→Calls Tryz.prog 44 #[.int .i64 x,.int .i64 y,.map (some g),.pointer (some ⟨gt,0,none⟩)] W fun e w'=>e=.returned (.bool (TL S x))∧Below W.heap.size W w')) :
  Calls Tryz.prog 43 #[.agg #[.slice Bi Ap.length Bc,.int .i64 Az,.string Ba,.slice Bd Ay.length Be,.slice Bw Am.length Bf],.func (.func 44) #[] #[.pointer (some ⟨gt,0,none⟩)]] w fun e w'=>∃ v:Value,e=.returned v∧Kd.R Kd.string 9 w' w.heap.size (fun _=>True) v (lsNm (lsIt Am VR PT TL (Am.foldl (lsL Ap PL) []) 100) Ap)∧Below w.heap.size w w':=by
 have Bj:=y0.mk Cc
 clear Cc
 have Bk:=y0.mk Cd
 clear Cd
 have Bl:=y0.mk Ce
 clear Ce
 have Bm:=y0.mk Cf
 clear Cf
 have Bh:=y0.mk Cg
 clear Cg
 have Bn:=y0.mk Ch
 clear Ch
 have HB:=y0.mk (Below.refl w.heap.size w)
 have Dh:=Tryz.underlying36
 have Di:=Tryz.underlying48
 have Dj:=Tryz.underlying33
 go_enter Tryz.func43,Tryz.ntmps43
 have HG:=y0.mk (lsG_nil Ap)
 go_wp2_with (first
  | ((with_reducible refine y16 (N:=2) rfl ?_);refine qe 2 #[.slice Bi Ap.length Bc,.int .i64 Az,.string Ba,.slice Bd Ay.length Be,.slice Bw Am.length Bf] 36 ?_;intro gr hg w1 hbox hb;have BKr:=y0.mk (hbox);have GEr:=y0.mk ((by rw [hg];exact HB.out.size:w.heap.size≤gr));replace HB:=y0.mk (y5 HB.out hb);clear hb hg hbox;obtain⟨Aa,Ab,Ac,Ad,Af,Ag,Ah,Ai,Aj,Ak⟩:=QSet.bx5 BKr.out)
  | ((with_reducible refine y16 (N:=20) rfl ?_);refine QSet.make_event rfl rfl ?_;intro gm hg w2 hM_ hb;(repeat first|clear Aa|clear Ag|clear Ab|clear Ah|clear Ac|clear Ai|clear Ad|clear Aj|clear Af|clear Ak);have HM:=y0.mk (hM_);have GEm:=y0.mk ((by rw [hg];exact HB.out.size:w.heap.size≤gm));have Nr_m:=y0.mk ((by rw [hg];exact Nat.ne_of_lt (blk_lt BKr.out):gr≠gm));replace BKr:=y0.mk (y7 BKr.out hb);replace HB:=y0.mk (y5 HB.out hb);clear hb hg hM_;obtain⟨Aa,Ab,Ac,Ad,Af,Ag,Ah,Ai,Aj,Ak⟩:=QSet.bx5 BKr.out))
 go_loopg [24] Am.length (fun kq Cu w'=>∃(xA:Int) (nA:Nat),Cu=.int .i64 xA∧y0 (xA=(nA:Int))∧y0 (kq + nA=Am.length)∧y0 (lsG Ap ((Am.take nA).foldl (lsL Ap PL) []))∧y0 (w'.heap[gr]?=some (.cells #[.slice Bi Ap.length Bc,.int .i64 Az,.string Ba,.slice Bd Ay.length Be,.slice Bw Am.length Bf] 36 (0,0)))∧y0 (QSet.MS w' gm ((Am.take nA).foldl (lsL Ap PL) []))∧y0 (Below w.heap.size w w'))
 case atStart=>exact⟨0,0,rfl,⟨rfl⟩,⟨Nat.add_zero _⟩,⟨HG.out⟩,⟨BKr.out⟩,⟨HM.out⟩,⟨HB.out⟩⟩
 case round =>
  (repeat first|clear Aa|clear Ag|clear Ab|clear Ah|clear Ac|clear Ai|clear Ad|clear Aj|clear Af|clear Ak)
  clear BKr HM HB
  clear HG
  obtain⟨xA,nA,rfl,HXA,HKA,HG,BKr,HM,HB⟩:=hrel
  obtain⟨SA,HSA⟩:∃ S_,y0 ((Am.take nA).foldl (lsL Ap PL) []=S_):=⟨_,⟨rfl⟩⟩
  rw [HSA.out]at HM HG
  have HLENA:=HBL
  by_cases c:xA < (Am.length:Int)
  ·skip
   have Bp:decide (xA < (Am.length:Int))=true:=decide_eq_true c
   have hi:nA < Am.length:=by have:=HXA.out;omega
   have p1:0≤xA:=by have:=HXA.out;omega
   obtain⟨adl,Al,cl,e1,Bb,Bg,Bx,Ca,Cb⟩:=at_T33 Bh.out xA p1 c
   have rg:y19 Am xA=Am[nA]:=by rw [HXA.out];unfold y19;rw [show((nA:Int)).toNat=nA from rfl,List.getD_eq_getElem?_getD,List.getElem?_eq_getElem hi];rfl
   rw [rg]at Bb Bg Bx Ca Cb
   clear rg
   have HST:=y0.mk (foldl_at (lsL Ap PL) ([]) Am nA hi)
   have HME:=y0.mk (List.getElem_mem hi)
   generalize Am[nA]=l at Bb Bg Bx Ca Cb HST HME
   have HIA:=y0.mk hi
   clear hi
   have HRl:=y0.mk Cb
   have HCl:=y0.mk Ca
   clear Cb Ca
   have HSTl:=HST
   clear HST
   have HMEl:=HME
   clear HME
   cases e1
   replace Bb:=(HB.out.cell (World.block_lt_of_cell? w _ Bb)).trans Bb
   replace Bg:=(HB.out.cell (World.block_lt_of_cell? w _ Bg)).trans Bg
   replace Bx:=(HB.out.cell (World.block_lt_of_cell? w _ Bx)).trans Bx
   have q1:=eq_true c
   replace p1:=eq_true p1
   clear c
   obtain⟨Aa,Ab,Ac,Ad,Af,Ag,Ah,Ai,Aj,Ak⟩:=QSet.bx5 BKr.out
   go_upto_region 5 with(first
    | ((with_reducible refine y16 (N:=7) rfl ?_);refine qe 7 #[.int .i64 0,.string (⟨#[]⟩:ByteArray),.slice none 0 0] 33 ?_;intro gl hg w3 hbox hb;(repeat first|clear Aa|clear Ag|clear Ab|clear Ah|clear Ac|clear Ai|clear Ad|clear Aj|clear Af|clear Ak);have BKl:=y0.mk (hbox);have GEl:=y0.mk ((by rw [hg];exact HB.out.size:w.heap.size≤gl));have Nr_l:=y0.mk ((by rw [hg];exact Nat.ne_of_lt (blk_lt BKr.out):gr≠gl));have Nm_l:=y0.mk ((by rw [hg];exact Nat.ne_of_lt HM.out.lt:gm≠gl));replace BKr:=y0.mk (y7 BKr.out hb);replace HM:=y0.mk (QSet.MS.below HM.out hb);replace HB:=y0.mk (y5 HB.out hb);clear hb hg hbox;obtain⟨Aa,Ab,Ac,Ad,Af,Ag,Ah,Ai,Aj,Ak⟩:=QSet.bx5 BKr.out;obtain⟨Ar,As,At,Au,Av,Aw⟩:=QSet.bx3 BKl.out))
   (repeat first|clear Aa|clear Ag|clear Ab|clear Ah|clear Ac|clear Ai|clear Ad|clear Aj|clear Af|clear Ak|clear Ar|clear Au|clear As|clear Av|clear At|clear Aw)
   have nBKr_:=y0.mk ((y11 (y11 (y11 BKr.out (Nr_l.out) _) (Nr_l.out) _) (Nr_l.out) _):(((w3.setCell ⟨gl,0,none⟩ (.int .i64 l.f0)).setCell ⟨gl,1,none⟩ (.string l.f1)).setCell ⟨gl,2,none⟩ (.slice Al l.f2.length cl)).heap[gr]?=some (.cells #[.slice Bi Ap.length Bc,.int .i64 Az,.string Ba,.slice Bd Ay.length Be,.slice (some adl) Am.length Bf] 36 (0,0)))
   have nBKl_:=y0.mk ((blk_set (blk_set (blk_set BKl.out 0 (.int .i64 l.f0)) 1 (.string l.f1)) 2 (.slice Al l.f2.length cl)):(((w3.setCell ⟨gl,0,none⟩ (.int .i64 l.f0)).setCell ⟨gl,1,none⟩ (.string l.f1)).setCell ⟨gl,2,none⟩ (.slice Al l.f2.length cl)).heap[gl]?=some (.cells #[.int .i64 l.f0,.string l.f1,.slice Al l.f2.length cl] 33 (0,0)))
   have nHM_:=y0.mk ((QSet.MS.set (QSet.MS.set (QSet.MS.set HM.out Nm_l.out 0 _) Nm_l.out 1 _) Nm_l.out 2 _):QSet.MS (((w3.setCell ⟨gl,0,none⟩ (.int .i64 l.f0)).setCell ⟨gl,1,none⟩ (.string l.f1)).setCell ⟨gl,2,none⟩ (.slice Al l.f2.length cl)) gm (SA))
   have nHB_:=y0.mk ((y3 (y3 (y3 HB.out GEl.out) GEl.out) GEl.out):Below w.heap.size w (((w3.setCell ⟨gl,0,none⟩ (.int .i64 l.f0)).setCell ⟨gl,1,none⟩ (.string l.f1)).setCell ⟨gl,2,none⟩ (.slice Al l.f2.length cl)))
   clear BKr
   clear BKl
   clear HM
   clear HB
   generalize (((w3.setCell ⟨gl,0,none⟩ (.int .i64 l.f0)).setCell ⟨gl,1,none⟩ (.string l.f1)).setCell ⟨gl,2,none⟩ (.slice Al l.f2.length cl))=w4 at nBKr_ nBKl_ nHM_ nHB_ ⊢
   have BKr:=nBKr_
   clear nBKr_
   have BKl:=nBKl_
   clear nBKl_
   have HM:=nHM_
   clear nHM_
   have HB:=nHB_
   clear nHB_
   obtain⟨Aa,Ab,Ac,Ad,Af,Ag,Ah,Ai,Aj,Ak⟩:=QSet.bx5 BKr.out
   obtain⟨Ar,As,At,Au,Av,Aw⟩:=QSet.bx3 BKl.out
   clear Bb Bg Bx Bp p1 q1
   go_wp2
   go_loopg [31] l.f2.length (fun kq Cv w'=>∃(xB:Int) (nB:Nat),Cv=.int .i64 xB∧y0 (xB=(nB:Int))∧y0 (kq + nB=l.f2.length)∧y0 (lsG Ap ((l.f2.take nB).foldl (lsA Ap PL l) SA))∧y0 (w'.heap[gr]?=some (.cells #[.slice Bi Ap.length Bc,.int .i64 Az,.string Ba,.slice Bd Ay.length Be,.slice (some adl) Am.length Bf] 36 (0,0)))∧y0 (w'.heap[gl]?=some (.cells #[.int .i64 l.f0,.string l.f1,.slice Al l.f2.length cl] 33 (0,0)))∧y0 (QSet.MS w' gm ((l.f2.take nB).foldl (lsA Ap PL l) SA))∧y0 (Below w.heap.size w w'))
   case atStart=>exact⟨0,0,rfl,⟨rfl⟩,⟨Nat.add_zero _⟩,⟨HG.out⟩,⟨BKr.out⟩,⟨BKl.out⟩,⟨HM.out⟩,⟨HB.out⟩⟩
   case round =>
    (repeat first|clear Aa|clear Ag|clear Ab|clear Ah|clear Ac|clear Ai|clear Ad|clear Aj|clear Af|clear Ak|clear Ar|clear Au|clear As|clear Av|clear At|clear Aw)
    clear BKr BKl HM HB
    clear HG
    obtain⟨xB,nB,rfl,HXB,HKB,HG,BKr,BKl,HM,HB⟩:=hrel
    obtain⟨SB,HSB⟩:∃ S_,y0 ((l.f2.take nB).foldl (lsA Ap PL l) SA=S_):=⟨_,⟨rfl⟩⟩
    rw [HSB.out]at HM HG
    have HLENB:=y0.mk (HAL.out l HMEl.out)
    by_cases c:xB < (l.f2.length:Int)
    ·skip
     have Bp:decide (xB < (l.f2.length:Int))=true:=decide_eq_true c
     have hi:nB < (l.f2).length:=by have:=HXB.out;omega
     have p1:0≤xB:=by have:=HXB.out;omega
     obtain⟨adx,e1,Bb⟩:=Kd.at_int HRl.out xB p1 c
     have rg:rd (l.f2) xB=(l.f2)[nB]:=by rw [HXB.out];unfold rd;rw [show((nB:Int)).toNat=nB from rfl,List.getD_eq_getElem?_getD,List.getElem?_eq_getElem hi];rfl
     rw [rg]at Bb
     clear rg
     have HSTx:=y0.mk (foldl_at (lsA Ap PL l) (SA) (l.f2) nB hi)
     have HMEx:=y0.mk (List.getElem_mem hi)
     generalize (l.f2)[nB]=x at Bb HSTx HMEx
     have HIB:=y0.mk hi
     clear hi
     cases e1
     have q1:=eq_true c
     replace p1:=eq_true p1
     clear c
     replace Bb:=(HB.out.cell (World.block_lt_of_cell? w _ Bb)).trans Bb
     have HP:=y0.mk (HPL.out l HMEl.out x HMEx.out)
     obtain⟨Aa,Ab,Ac,Ad,Af,Ag,Ah,Ai,Aj,Ak⟩:=QSet.bx5 BKr.out
     obtain⟨Ar,As,At,Au,Av,Aw⟩:=QSet.bx3 BKl.out
     go_wp2_with (first
      | (go_at_call 58;(with_reducible refine(impl_Rule_plain.calls k _ _ Ap Az Ba _ _ Ay _ _ Am x (PL x) _ (Kd.C_below Bj.out HB.out) Bk.out (Kd.C_below Bl.out HB.out) Bm.out (Kd.C_below Bh.out HB.out) Bn.out HP.out.1).mono ?_);rintro e_ w5 ⟨v_,rfl,ho,hb⟩;obtain⟨AK,cK,eK_⟩:=Kd.R_slice ho;subst eK_;(repeat first|clear Aa|clear Ag|clear Ab|clear Ah|clear Ac|clear Ai|clear Ad|clear Aj|clear Af|clear Ak|clear Ar|clear Au|clear As|clear Av|clear At|clear Aw);have HOK:=y0.mk (Kd.R_lower ho (y4 HB.out));replace BKr:=y0.mk (y7 BKr.out hb);replace BKl:=y0.mk (y7 BKl.out hb);replace HM:=y0.mk (QSet.MS.below HM.out hb);replace HB:=y0.mk (y5 HB.out hb);(try clear hb);(try clear hd_);(try clear ho);obtain⟨Aa,Ab,Ac,Ad,Af,Ag,Ah,Ai,Aj,Ak⟩:=QSet.bx5 BKr.out;obtain⟨Ar,As,At,Au,Av,Aw⟩:=QSet.bx3 BKl.out))
     clear Bb Bp p1 q1
     go_loopg [39] (PL x).length (fun kq Cw w'=>∃(xC:Int) (nC:Nat),Cw=.int .i64 xC∧y0 (xC=(nC:Int))∧y0 (kq + nC=(PL x).length)∧y0 (lsG Ap (((PL x).take nC).foldl (lsK Ap l) SB))∧y0 (Kd.R (Kd.int .i64) 3 w' w.heap.size (fun _=>True) (.slice AK (PL x).length cK) (PL x))∧y0 (w'.heap[gr]?=some (.cells #[.slice Bi Ap.length Bc,.int .i64 Az,.string Ba,.slice Bd Ay.length Be,.slice (some adl) Am.length Bf] 36 (0,0)))∧y0 (w'.heap[gl]?=some (.cells #[.int .i64 l.f0,.string l.f1,.slice (some adx) l.f2.length cl] 33 (0,0)))∧y0 (QSet.MS w' gm (((PL x).take nC).foldl (lsK Ap l) SB))∧y0 (Below w.heap.size w w'))
     case atStart=>exact⟨0,0,rfl,⟨rfl⟩,⟨Nat.add_zero _⟩,⟨HG.out⟩,⟨qR HOK.out⟩,⟨BKr.out⟩,⟨BKl.out⟩,⟨HM.out⟩,⟨HB.out⟩⟩
     case round =>
      (repeat first|clear Aa|clear Ag|clear Ab|clear Ah|clear Ac|clear Ai|clear Ad|clear Aj|clear Af|clear Ak|clear Ar|clear Au|clear As|clear Av|clear At|clear Aw)
      clear HOK BKr BKl HM HB
      clear HG
      obtain⟨xC,nC,rfl,HXC,HKC,HG,HOK,BKr,BKl,HM,HB⟩:=hrel
      obtain⟨SC,HSC⟩:∃ S_,y0 (((PL x).take nC).foldl (lsK Ap l) SB=S_):=⟨_,⟨rfl⟩⟩
      rw [HSC.out]at HM HG
      have HLENC:=y0.mk HP.out.2.1
      by_cases c:xC < ((PL x).length:Int)
      ·skip
       have Bp:decide (xC < ((PL x).length:Int))=true:=decide_eq_true c
       have hi:nC < (PL x).length:=by have:=HXC.out;omega
       have p1:0≤xC:=by have:=HXC.out;omega
       obtain⟨ady,e1,Bb⟩:=Kd.at_int (Kd.R_reads' HOK.out).2.2 xC p1 c
       have rg:rd (PL x) xC=(PL x)[nC]:=by rw [HXC.out];unfold rd;rw [show((nC:Int)).toNat=nC from rfl,List.getD_eq_getElem?_getD,List.getElem?_eq_getElem hi];rfl
       rw [rg]at Bb
       clear rg
       have HSTy:=y0.mk (foldl_at (lsK Ap l) (SB) (PL x) nC hi)
       have HMEy:=y0.mk (List.getElem_mem hi)
       generalize (PL x)[nC]=y at Bb HSTy HMEy
       have HIC:=y0.mk hi
       clear hi
       cases e1
       have q1:=eq_true c
       replace p1:=eq_true p1
       clear c
       have py:=(HP.out.2.2 y HMEy.out).1
       have qy:=(HP.out.2.2 y HMEy.out).2
       obtain⟨ade,Ae,ce,e2,Cj,Ck,Cl,Cx,Cy⟩:=at_T48 Bj.out y py qy
       clear Cx Cy
       have hme:y20 Ap y∈Ap:=by
        have hlt:y.toNat < Ap.length:=by omega
        have:y20 Ap y=Ap[y.toNat]:=by unfold y20;rw [List.getD_eq_getElem?_getD,List.getElem?_eq_getElem hlt];rfl
        rw [this]
        exact List.getElem_mem hlt
       have HLK:y0 (lsK Ap l SC y=if l.f0=1∧(y20 Ap y).f0=1 then QSet.ins SC (y20 Ap y).f1 else SC):=⟨rfl⟩
       have HME:=y0.mk hme
       clear hme
       generalize y20 Ap y=e0 at Cj Ck Cl HLK HME
       cases e2
       replace Cj:=(HB.out.cell (World.block_lt_of_cell? w _ Cj)).trans Cj
       replace Ck:=(HB.out.cell (World.block_lt_of_cell? w _ Ck)).trans Ck
       replace Cl:=(HB.out.cell (World.block_lt_of_cell? w _ Cl)).trans Cl
       replace py:=eq_true py
       replace qy:=eq_true qy
       obtain⟨Aa,Ab,Ac,Ad,Af,Ag,Ah,Ai,Aj,Ak⟩:=QSet.bx5 BKr.out
       obtain⟨Ar,As,At,Au,Av,Aw⟩:=QSet.bx3 BKl.out
       go_upto_region 12 with(first
        | ((with_reducible refine y16 (N:=12) rfl ?_);refine qe 12 #[.int .i64 0,.string (⟨#[]⟩:ByteArray),.slice none 0 0] 48 ?_;intro ge hg w6 hbox hb;(repeat first|clear Aa|clear Ag|clear Ab|clear Ah|clear Ac|clear Ai|clear Ad|clear Aj|clear Af|clear Ak|clear Ar|clear Au|clear As|clear Av|clear At|clear Aw);have BKe:=y0.mk (hbox);have GEe:=y0.mk ((by rw [hg];exact HB.out.size:w.heap.size≤ge));have Nr_e:=y0.mk ((by rw [hg];exact Nat.ne_of_lt (blk_lt BKr.out):gr≠ge));have Nl_e:=y0.mk ((by rw [hg];exact Nat.ne_of_lt (blk_lt BKl.out):gl≠ge));have Nm_e:=y0.mk ((by rw [hg];exact Nat.ne_of_lt HM.out.lt:gm≠ge));replace HOK:=y0.mk (Kd.R_below HOK.out hb);replace BKr:=y0.mk (y7 BKr.out hb);replace BKl:=y0.mk (y7 BKl.out hb);replace HM:=y0.mk (QSet.MS.below HM.out hb);replace HB:=y0.mk (y5 HB.out hb);clear hb hg hbox;obtain⟨Aa,Ab,Ac,Ad,Af,Ag,Ah,Ai,Aj,Ak⟩:=QSet.bx5 BKr.out;obtain⟨Ar,As,At,Au,Av,Aw⟩:=QSet.bx3 BKl.out;obtain⟨Bq,Br,Bs,Bt,Bu,Bv⟩:=QSet.bx3 BKe.out))
       (repeat first|clear Aa|clear Ag|clear Ab|clear Ah|clear Ac|clear Ai|clear Ad|clear Aj|clear Af|clear Ak|clear Ar|clear Au|clear As|clear Av|clear At|clear Aw|clear Bq|clear Bt|clear Br|clear Bu|clear Bs|clear Bv)
       have nHOK_:=y0.mk ((Kd.R_set (Kd.R_set (Kd.R_set HOK.out BKe.out (by decide) 0 _) (blk_set BKe.out 0 (.int .i64 e0.f0)) (by decide) 1 _) (blk_set (blk_set BKe.out 0 (.int .i64 e0.f0)) 1 (.string e0.f1)) (by decide) 2 _):Kd.R (Kd.int .i64) 3 (((w6.setCell ⟨ge,0,none⟩ (.int .i64 e0.f0)).setCell ⟨ge,1,none⟩ (.string e0.f1)).setCell ⟨ge,2,none⟩ (.slice Ae e0.f2.length ce)) w.heap.size (fun _=>True) (.slice (some ady) (PL x).length cK) (PL x))
       have nBKr_:=y0.mk ((y11 (y11 (y11 BKr.out (Nr_e.out) _) (Nr_e.out) _) (Nr_e.out) _):(((w6.setCell ⟨ge,0,none⟩ (.int .i64 e0.f0)).setCell ⟨ge,1,none⟩ (.string e0.f1)).setCell ⟨ge,2,none⟩ (.slice Ae e0.f2.length ce)).heap[gr]?=some (.cells #[.slice (some ade) Ap.length Bc,.int .i64 Az,.string Ba,.slice Bd Ay.length Be,.slice (some adl) Am.length Bf] 36 (0,0)))
       have nBKl_:=y0.mk ((y11 (y11 (y11 BKl.out (Nl_e.out) _) (Nl_e.out) _) (Nl_e.out) _):(((w6.setCell ⟨ge,0,none⟩ (.int .i64 e0.f0)).setCell ⟨ge,1,none⟩ (.string e0.f1)).setCell ⟨ge,2,none⟩ (.slice Ae e0.f2.length ce)).heap[gl]?=some (.cells #[.int .i64 l.f0,.string l.f1,.slice (some adx) l.f2.length cl] 33 (0,0)))
       have nBKe_:=y0.mk ((blk_set (blk_set (blk_set BKe.out 0 (.int .i64 e0.f0)) 1 (.string e0.f1)) 2 (.slice Ae e0.f2.length ce)):(((w6.setCell ⟨ge,0,none⟩ (.int .i64 e0.f0)).setCell ⟨ge,1,none⟩ (.string e0.f1)).setCell ⟨ge,2,none⟩ (.slice Ae e0.f2.length ce)).heap[ge]?=some (.cells #[.int .i64 e0.f0,.string e0.f1,.slice Ae e0.f2.length ce] 48 (0,0)))
       have nHM_:=y0.mk ((QSet.MS.set (QSet.MS.set (QSet.MS.set HM.out Nm_e.out 0 _) Nm_e.out 1 _) Nm_e.out 2 _):QSet.MS (((w6.setCell ⟨ge,0,none⟩ (.int .i64 e0.f0)).setCell ⟨ge,1,none⟩ (.string e0.f1)).setCell ⟨ge,2,none⟩ (.slice Ae e0.f2.length ce)) gm (SC))
       have nHB_:=y0.mk ((y3 (y3 (y3 HB.out GEe.out) GEe.out) GEe.out):Below w.heap.size w (((w6.setCell ⟨ge,0,none⟩ (.int .i64 e0.f0)).setCell ⟨ge,1,none⟩ (.string e0.f1)).setCell ⟨ge,2,none⟩ (.slice Ae e0.f2.length ce)))
       clear HOK
       clear BKr
       clear BKl
       clear BKe
       clear HM
       clear HB
       generalize (((w6.setCell ⟨ge,0,none⟩ (.int .i64 e0.f0)).setCell ⟨ge,1,none⟩ (.string e0.f1)).setCell ⟨ge,2,none⟩ (.slice Ae e0.f2.length ce))=w7 at nHOK_ nBKr_ nBKl_ nBKe_ nHM_ nHB_ ⊢
       have HOK:=nHOK_
       clear nHOK_
       have BKr:=nBKr_
       clear nBKr_
       have BKl:=nBKl_
       clear nBKl_
       have BKe:=nBKe_
       clear nBKe_
       have HM:=nHM_
       clear nHM_
       have HB:=nHB_
       clear nHB_
       obtain⟨Aa,Ab,Ac,Ad,Af,Ag,Ah,Ai,Aj,Ak⟩:=QSet.bx5 BKr.out
       obtain⟨Ar,As,At,Au,Av,Aw⟩:=QSet.bx3 BKl.out
       obtain⟨Bq,Br,Bs,Bt,Bu,Bv⟩:=QSet.bx3 BKe.out
       clear Cj Ck Cl Bb
       by_cases k1:l.f0=1
       ·skip
        have k1b:(l.f0 == 1)=true:=beq_iff_eq.mpr k1
        by_cases k2:e0.f0=1
        ·skip
         have k2b:(e0.f0 == 1)=true:=beq_iff_eq.mpr k2
         have HKK:=y0.mk (And.intro k1 k2)
         clear k1 k2
         have HGN:=y0.mk (lsG_ins HG.out ⟨e0,HME.out,rfl⟩)
         have HRM:=y0.mk (lsG_len HG.out)
         go_wp2_with (first
          | ((with_reducible refine QSet.gate_put (m:=.tmp 56) (x:=.tmp 58) rfl ?_);(refine QSet.put_event rfl (.tmp 56) (.tmp 58) _ rfl rfl (s:=e0.f1) rfl rfl HM.out (by have:=HRM.out;have:=HN.out;unfold maxLen;omega) (by have:=HSZ.out e0 HME.out;unfold maxLen;omega) ?_);intro w8 hM_ hg_;(repeat first|clear Aa|clear Ag|clear Ab|clear Ah|clear Ac|clear Ai|clear Ad|clear Aj|clear Af|clear Ak|clear Ar|clear Au|clear As|clear Av|clear At|clear Aw|clear Bq|clear Bt|clear Br|clear Bu|clear Bs|clear Bv);have nHOK_:=y0.mk (QSet.MS.row HM.out HOK.out hg_);have nBKr_:=y0.mk (QSet.MS.blk BKr.out (Nr_m.out) hg_);have nBKl_:=y0.mk (QSet.MS.blk BKl.out (Ne.symm Nm_l.out) hg_);have nBKe_:=y0.mk (QSet.MS.blk BKe.out (Ne.symm Nm_e.out) hg_);have nHB_:=y0.mk (QSet.MS.low HB.out hg_ GEm.out);have nHMn_:=y0.mk (hM_);clear HOK BKr BKl BKe HB HM hM_ hg_;have HOK:=nHOK_;clear nHOK_;have BKr:=nBKr_;clear nBKr_;have BKl:=nBKl_;clear nBKl_;have BKe:=nBKe_;clear nBKe_;have HB:=nHB_;clear nHB_;have HM:=nHMn_;clear nHMn_;obtain⟨Aa,Ab,Ac,Ad,Af,Ag,Ah,Ai,Aj,Ak⟩:=QSet.bx5 BKr.out;obtain⟨Ar,As,At,Au,Av,Aw⟩:=QSet.bx3 BKl.out;obtain⟨Bq,Br,Bs,Bt,Bu,Bv⟩:=QSet.bx3 BKe.out))
         clear HG
         have HG:=HGN
         clear HGN
         go_roundg ((PL x).length - nC - 1)
         case measure=>have:=HKC.out;have:=HIC.out;omega
         exact⟨wrap64 (xC + 1),nC + 1,qy2,⟨by rw [HXC.out];exact QIv.step_u (by have:=HIC.out;have:=HLENC.out;omega)⟩,⟨by have:=HKC.out;have:=HIC.out;omega⟩,⟨by rw [HSTy.out,HSC.out,HLK.out,if_pos HKK.out];exact HG.out⟩,⟨qR HOK.out⟩,⟨BKr.out⟩,⟨BKl.out⟩,⟨by rw [HSTy.out,HSC.out,HLK.out,if_pos HKK.out];exact HM.out⟩,⟨HB.out⟩⟩
        ·skip
         have k2b:(e0.f0 == 1)=false:=beq_eq_false_iff_ne.mpr k2
         have HKK:=y0.mk k2
         clear k2 k1
         go_wp2
         go_roundg ((PL x).length - nC - 1)
         case measure=>have:=HKC.out;have:=HIC.out;omega
         exact⟨wrap64 (xC + 1),nC + 1,qy2,⟨by rw [HXC.out];exact QIv.step_u (by have:=HIC.out;have:=HLENC.out;omega)⟩,⟨by have:=HKC.out;have:=HIC.out;omega⟩,⟨by rw [HSTy.out,HSC.out,HLK.out,if_neg (fun h_=>HKK.out h_.2)];exact HG.out⟩,⟨qR HOK.out⟩,⟨BKr.out⟩,⟨BKl.out⟩,⟨by rw [HSTy.out,HSC.out,HLK.out,if_neg (fun h_=>HKK.out h_.2)];exact HM.out⟩,⟨HB.out⟩⟩
       ·skip
        have k1b:(l.f0 == 1)=false:=beq_eq_false_iff_ne.mpr k1
        have HKK:=y0.mk k1
        clear k1
        go_wp2
        go_roundg ((PL x).length - nC - 1)
        case measure=>have:=HKC.out;have:=HIC.out;omega
        exact⟨wrap64 (xC + 1),nC + 1,qy2,⟨by rw [HXC.out];exact QIv.step_u (by have:=HIC.out;have:=HLENC.out;omega)⟩,⟨by have:=HKC.out;have:=HIC.out;omega⟩,⟨by rw [HSTy.out,HSC.out,HLK.out,if_neg (fun h_=>HKK.out h_.1)];exact HG.out⟩,⟨qR HOK.out⟩,⟨BKr.out⟩,⟨BKl.out⟩,⟨by rw [HSTy.out,HSC.out,HLK.out,if_neg (fun h_=>HKK.out h_.1)];exact HM.out⟩,⟨HB.out⟩⟩
      ·skip
       have Bp:decide (xC < ((PL x).length:Int))=false:=decide_eq_false c
       have HE:y0 (lsA Ap PL l SB x=SC):=⟨by rw [← HSC.out,List.take_of_length_le (by have:=HXC.out;have:=HKC.out;omega)];rfl⟩
       go_wp2
       go_roundg (l.f2.length - nB - 1)
       case measure=>have:=HKB.out;have:=HIB.out;omega
       exact⟨wrap64 (xB + 1),nB + 1,qy2,⟨by rw [HXB.out];exact QIv.step_u (by have:=HIB.out;have:=HLENB.out;omega)⟩,⟨by have:=HKB.out;have:=HIB.out;omega⟩,⟨by rw [HSTx.out,HSB.out,HE.out];exact HG.out⟩,⟨BKr.out⟩,⟨BKl.out⟩,⟨by rw [HSTx.out,HSB.out,HE.out];exact HM.out⟩,⟨HB.out⟩⟩
    ·skip
     have Bp:decide (xB < (l.f2.length:Int))=false:=decide_eq_false c
     have HE:y0 (lsL Ap PL SA l=SB):=⟨by rw [← HSB.out,List.take_of_length_le (by have:=HXB.out;have:=HKB.out;omega)];rfl⟩
     go_wp2
     go_roundg (Am.length - nA - 1)
     case measure=>have:=HKA.out;have:=HIA.out;omega
     exact⟨wrap64 (xA + 1),nA + 1,qy2,⟨by rw [HXA.out];exact QIv.step_u (by have:=HIA.out;have:=HLENA.out;omega)⟩,⟨by have:=HKA.out;have:=HIA.out;omega⟩,⟨by rw [HSTl.out,HSA.out,HE.out];exact HG.out⟩,⟨BKr.out⟩,⟨by rw [HSTl.out,HSA.out,HE.out];exact HM.out⟩,⟨HB.out⟩⟩
  ·skip
   have Bp:decide (xA < (Am.length:Int))=false:=decide_eq_false c
   have HE:y0 (Am.foldl (lsL Ap PL) []=SA):=⟨by rw [← HSA.out,List.take_of_length_le (by have:=HXA.out;have:=HKA.out;omega)]⟩
   have Cz:=HE
   clear HSA HE HXA HKA
   obtain⟨Aa,Ab,Ac,Ad,Af,Ag,Ah,Ai,Aj,Ak⟩:=QSet.bx5 BKr.out
   go_wp2
   (repeat first|clear Aa|clear Ag|clear Ab|clear Ah|clear Ac|clear Ai|clear Ad|clear Aj|clear Af|clear Ak)
   go_loopg [13] 62 (fun kq Da w'=>∃(xZ:Int) (nZ:Nat),Da=.int .i64 xZ∧y0 (xZ=if nZ=0 then -1 else((lsIt Am VR PT TL SA (nZ - 1)).length:Int))∧y0 ((nZ:Int)≤xZ + 1)∧y0 (kq + nZ=62)∧y0 (lsG Ap (lsIt Am VR PT TL SA nZ))∧y0 (w'.heap[gr]?=some (.cells #[.slice Bi Ap.length Bc,.int .i64 Az,.string Ba,.slice Bd Ay.length Be,.slice Bw Am.length Bf] 36 (0,0)))∧y0 (QSet.MS w' gm (lsIt Am VR PT TL SA nZ))∧y0 (Below w.heap.size w w'))
   case atStart=>exact⟨-1,0,rfl,⟨rfl⟩,⟨by omega⟩,⟨rfl⟩,⟨HG.out⟩,⟨BKr.out⟩,⟨HM.out⟩,⟨HB.out⟩⟩
   case round =>
    clear BKr HM HB HG
    obtain⟨xZ,nZ,rfl,HXZ,HNZ,HKZ,HG,BKr,HM,HB⟩:=hrel
    obtain⟨SZ,HSZ_⟩:∃ S_,y0 (lsIt Am VR PT TL SA nZ=S_):=⟨_,⟨rfl⟩⟩
    rw [HSZ_.out]at HM HG
    by_cases c:xZ < (SZ.length:Int)
    ·skip
     have Bp:decide (xZ < (SZ.length:Int))=true:=decide_eq_true c
     have HCZ:=y0.mk c
     clear c
     have HRM:=y0.mk (lsG_len HG.out)
     obtain⟨Aa,Ab,Ac,Ad,Af,Ag,Ah,Ai,Aj,Ak⟩:=QSet.bx5 BKr.out
     go_wp2_with (first
      | ((with_reducible refine gate_builtin (b:=.len) (xs:=#[.tmp 63]) rfl ?_);refine QSet.len_event rfl (.tmp 63) rfl rfl HM.out ?_)
      | ((with_reducible refine gate_builtin (b:=.len) (xs:=#[.tmp 66]) rfl ?_);refine QSet.len_event rfl (.tmp 66) rfl rfl HM.out ?_))
     clear Bp
     go_loopg [71] Am.length (fun kq Db w'=>∃(xD:Int) (nD:Nat),Db=.int .i64 xD∧y0 (xD=(nD:Int))∧y0 (kq + nD=Am.length)∧y0 (lsG Ap ((Am.take nD).foldl (lsP VR PT TL) SZ))∧y0 (w'.heap[gr]?=some (.cells #[.slice Bi Ap.length Bc,.int .i64 Az,.string Ba,.slice Bd Ay.length Be,.slice Bw Am.length Bf] 36 (0,0)))∧y0 (QSet.MS w' gm ((Am.take nD).foldl (lsP VR PT TL) SZ))∧y0 (Below w.heap.size w w'))
     case atStart=>exact⟨0,0,rfl,⟨rfl⟩,⟨Nat.add_zero _⟩,⟨HG.out⟩,⟨BKr.out⟩,⟨HM.out⟩,⟨HB.out⟩⟩
     case round =>
      (repeat first|clear Aa|clear Ag|clear Ab|clear Ah|clear Ac|clear Ai|clear Ad|clear Aj|clear Af|clear Ak)
      clear BKr HM HB
      clear HG
      obtain⟨xD,nD,rfl,HXD,HKD,HG,BKr,HM,HB⟩:=hrel
      obtain⟨SD,HSD⟩:∃ S_,y0 ((Am.take nD).foldl (lsP VR PT TL) SZ=S_):=⟨_,⟨rfl⟩⟩
      rw [HSD.out]at HM HG
      have HLEND:=HBL
      by_cases c:xD < (Am.length:Int)
      ·skip
       have Bp:decide (xD < (Am.length:Int))=true:=decide_eq_true c
       have hi:nD < Am.length:=by have:=HXD.out;omega
       have p1:0≤xD:=by have:=HXD.out;omega
       obtain⟨adl,Al,cl,e1,Bb,Bg,Bx,Ca,Cb⟩:=at_T33 Bh.out xD p1 c
       have rg:y19 Am xD=Am[nD]:=by rw [HXD.out];unfold y19;rw [show((nD:Int)).toNat=nD from rfl,List.getD_eq_getElem?_getD,List.getElem?_eq_getElem hi];rfl
       rw [rg]at Bb Bg Bx Ca Cb
       clear rg
       have HST:=y0.mk (foldl_at (lsP VR PT TL) (SZ) Am nD hi)
       have HME:=y0.mk (List.getElem_mem hi)
       generalize Am[nD]=l at Bb Bg Bx Ca Cb HST HME
       have HID:=y0.mk hi
       clear hi
       have HRl:=y0.mk Cb
       have HCl:=y0.mk Ca
       clear Cb Ca
       have HSTl:=HST
       clear HST
       have HMEl:=HME
       clear HME
       cases e1
       replace Bb:=(HB.out.cell (World.block_lt_of_cell? w _ Bb)).trans Bb
       replace Bg:=(HB.out.cell (World.block_lt_of_cell? w _ Bg)).trans Bg
       replace Bx:=(HB.out.cell (World.block_lt_of_cell? w _ Bx)).trans Bx
       have q1:=eq_true c
       replace p1:=eq_true p1
       clear c
       obtain⟨Aa,Ab,Ac,Ad,Af,Ag,Ah,Ai,Aj,Ak⟩:=QSet.bx5 BKr.out
       go_upto_region 23 with(first
        | ((with_reducible refine y16 (N:=15) rfl ?_);refine qe 15 #[.int .i64 0,.string (⟨#[]⟩:ByteArray),.slice none 0 0] 33 ?_;intro gl hg w8 hbox hb;(repeat first|clear Aa|clear Ag|clear Ab|clear Ah|clear Ac|clear Ai|clear Ad|clear Aj|clear Af|clear Ak);have BKl:=y0.mk (hbox);have GEl:=y0.mk ((by rw [hg];exact HB.out.size:w.heap.size≤gl));have Nr_l:=y0.mk ((by rw [hg];exact Nat.ne_of_lt (blk_lt BKr.out):gr≠gl));have Nm_l:=y0.mk ((by rw [hg];exact Nat.ne_of_lt HM.out.lt:gm≠gl));replace BKr:=y0.mk (y7 BKr.out hb);replace HM:=y0.mk (QSet.MS.below HM.out hb);replace HB:=y0.mk (y5 HB.out hb);clear hb hg hbox;obtain⟨Aa,Ab,Ac,Ad,Af,Ag,Ah,Ai,Aj,Ak⟩:=QSet.bx5 BKr.out;obtain⟨Ar,As,At,Au,Av,Aw⟩:=QSet.bx3 BKl.out))
       (repeat first|clear Aa|clear Ag|clear Ab|clear Ah|clear Ac|clear Ai|clear Ad|clear Aj|clear Af|clear Ak|clear Ar|clear Au|clear As|clear Av|clear At|clear Aw)
       have nBKr_:=y0.mk ((y11 (y11 (y11 BKr.out (Nr_l.out) _) (Nr_l.out) _) (Nr_l.out) _):(((w8.setCell ⟨gl,0,none⟩ (.int .i64 l.f0)).setCell ⟨gl,1,none⟩ (.string l.f1)).setCell ⟨gl,2,none⟩ (.slice Al l.f2.length cl)).heap[gr]?=some (.cells #[.slice Bi Ap.length Bc,.int .i64 Az,.string Ba,.slice Bd Ay.length Be,.slice (some adl) Am.length Bf] 36 (0,0)))
       have nBKl_:=y0.mk ((blk_set (blk_set (blk_set BKl.out 0 (.int .i64 l.f0)) 1 (.string l.f1)) 2 (.slice Al l.f2.length cl)):(((w8.setCell ⟨gl,0,none⟩ (.int .i64 l.f0)).setCell ⟨gl,1,none⟩ (.string l.f1)).setCell ⟨gl,2,none⟩ (.slice Al l.f2.length cl)).heap[gl]?=some (.cells #[.int .i64 l.f0,.string l.f1,.slice Al l.f2.length cl] 33 (0,0)))
       have nHM_:=y0.mk ((QSet.MS.set (QSet.MS.set (QSet.MS.set HM.out Nm_l.out 0 _) Nm_l.out 1 _) Nm_l.out 2 _):QSet.MS (((w8.setCell ⟨gl,0,none⟩ (.int .i64 l.f0)).setCell ⟨gl,1,none⟩ (.string l.f1)).setCell ⟨gl,2,none⟩ (.slice Al l.f2.length cl)) gm (SD))
       have nHB_:=y0.mk ((y3 (y3 (y3 HB.out GEl.out) GEl.out) GEl.out):Below w.heap.size w (((w8.setCell ⟨gl,0,none⟩ (.int .i64 l.f0)).setCell ⟨gl,1,none⟩ (.string l.f1)).setCell ⟨gl,2,none⟩ (.slice Al l.f2.length cl)))
       clear BKr
       clear BKl
       clear HM
       clear HB
       generalize (((w8.setCell ⟨gl,0,none⟩ (.int .i64 l.f0)).setCell ⟨gl,1,none⟩ (.string l.f1)).setCell ⟨gl,2,none⟩ (.slice Al l.f2.length cl))=w9 at nBKr_ nBKl_ nHM_ nHB_ ⊢
       have BKr:=nBKr_
       clear nBKr_
       have BKl:=nBKl_
       clear nBKl_
       have HM:=nHM_
       clear nHM_
       have HB:=nHB_
       clear nHB_
       obtain⟨Aa,Ab,Ac,Ad,Af,Ag,Ah,Ai,Aj,Ak⟩:=QSet.bx5 BKr.out
       obtain⟨Ar,As,At,Au,Av,Aw⟩:=QSet.bx3 BKl.out
       clear Bb Bg Bx Bp p1 q1
       by_cases k1:l.f0=3
       ·skip
        have k1b:(l.f0 != 3)=false:=bne_eq_false_iff_eq.mpr k1
        by_cases k2:l.f1.toList=([61]:List UInt8)
        ·skip
         have k2b:(l.f1.toList == ([61]:List UInt8))=true:=beq_iff_eq.mpr k2
         have HLP:y0 (lsP VR PT TL SD l=lsE VR PT TL (rd l.f2 0) (rd l.f2 1) SD 2):=⟨if_pos ⟨k1,k2⟩⟩
         have Ci:=y0.mk (H3.out l HMEl.out k1)
         clear k1 k2
         go_upto_region 24 with(first|(fail))
         clear k1b k2b
         have z0:(0:Int) < (l.f2.length:Int):=by have:=Ci.out;omega
         have z1:(1:Int) < (l.f2.length:Int):=by have:=Ci.out;omega
         obtain⟨adx,e1,Bb⟩:=Kd.at_int HRl.out 0 (by decide) z0
         obtain⟨Dc,e3,Bg⟩:=Kd.at_int HRl.out 1 (by decide) z1
         cases e1
         cases e3
         replace Bb:=(HB.out.cell (World.block_lt_of_cell? w _ Bb)).trans Bb
         replace Bg:=(HB.out.cell (World.block_lt_of_cell? w _ Bg)).trans Bg
         have z2:(0 < l.f2.length)=True:=eq_true (by have:=Ci.out;omega)
         have z3:(1 < l.f2.length)=True:=eq_true (by have:=Ci.out;omega)
         replace Bb:w9.cell? adx=some (.int .i64 (rd l.f2 0)):=Bb
         replace Bg:w9.cell? ⟨adx.block,adx.off + 1,none⟩=some (.int .i64 (rd l.f2 1)):=Bg
         replace z0:=eq_true z0
         replace z1:=eq_true z1
         have Bz:=y0.mk Bb
         have Bo:=y0.mk Bg
         clear Bb Bg
         obtain⟨y0_,Cm⟩:∃ y_,y0 (rd l.f2 0=y_):=⟨_,⟨rfl⟩⟩
         obtain⟨y1_,Cn⟩:∃ y_,y0 (rd l.f2 1=y_):=⟨_,⟨rfl⟩⟩
         replace Bz:=y0.mk (Cm.out ▸ Bz.out)
         replace Bo:=y0.mk (Cn.out ▸ Bo.out)
         (repeat first|clear Aa|clear Ag|clear Ab|clear Ah|clear Ac|clear Ai|clear Ad|clear Aj|clear Af|clear Ak|clear Ar|clear Au|clear As|clear Av|clear At|clear Aw)
         refine start_ (n:=11) (S:=fun w'=>w'.cell? ⟨gl,2,none⟩=some (.slice (some adx) l.f2.length cl)∧w'.cell? adx=some (.int .i64 y0_)∧w'.cell? ⟨adx.block,adx.off + 1,none⟩=some (.int .i64 y1_)) (ds:=[]) (fl_ 11 0) (by kernel_rfl) rfl rfl ⟨(y8 BKl.out 2).trans rfl,Bz.out,Bo.out⟩ (fun hHeld=>?_)
         replace BKr:=y0.mk (y9 BKr.out)
         replace BKl:=y0.mk (y9 BKl.out)
         replace HM:=y0.mk (QSet.MS.drew HM.out)
         replace Bz:=y0.mk ((show w9.drew.cell? adx=_ from Bz.out))
         replace Bo:=y0.mk ((show w9.drew.cell? ⟨adx.block,adx.off + 1,none⟩=_ from Bo.out))
         replace HB:=y0.mk (y2 HB.out)
         generalize w9.drew=Dd at BKr BKl HM Bz Bo HB hHeld ⊢
         refine qp 0 83 (fl_ 11 1) ?_
         refine qt 1 84 (fl_ 11 3) hHeld ?_
         refine qp 2 85 (fl_ 11 7) ?_
         refine qt 3 86 (fl_ 11 15) hHeld ?_
         refine qp 4 87 (fl_ 11 31) ?_
         refine qt 5 88 (fl_ 11 63) hHeld ?_
         refine qp 6 89 (fl_ 11 127) ?_
         refine qt 7 90 (fl_ 11 255) hHeld ?_
         refine qp 10 93 (fl_ 11 1279) ?_
         refine qO 8 91 (fl_ 11 1535) (fun K hK=>?_)
         refine Kd.R_lit_step (Kd.int .i64) w.heap.size 3 ?hg (N:=91) ?hd (xs:=[y1_,y0_]) (inner:=[.int .i64 y1_,.int .i64 y0_]) (ok:=fun _=>True) (okp:=fun _=>True) (w0:=w) ?hr ?hp (fun _ hk=>hk) trivial HB.out (y4 HB.out) (by simp) ?_
         case hg=>rfl
         case hd=>rfl
         case hr=>first|(go_simp;done)|(go_simp;rfl)
         case hp=>exact Reps.one (show Kd.M (Kd.int .i64) _ _ _ y1_ [.int .i64 y1_]from rfl) (Reps.one (show Kd.M (Kd.int .i64) _ _ _ y0_ [.int .i64 y0_]from rfl) (Reps.none _ _))
         intro vq Dk ho Cr hg_ hnew_
         clear hnew_
         obtain⟨Aq,cq,eq_⟩:=Kd.R_slice ho
         subst eq_
         have HOq:=y0.mk (ho)
         replace BKr:=y0.mk (blk_grown BKr.out hg_ (by simp))
         replace BKl:=y0.mk (blk_grown BKl.out hg_ (by simp))
         replace HM:=y0.mk (QSet.MS.keep HM.out (hg_.block _ HM.out.lt (by simp)))
         replace Bz:=y0.mk (cell_grown0 Bz.out hg_)
         replace Bo:=y0.mk (cell_grown0 Bo.out hg_)
         replace HB:=y0.mk (Cr)
         clear hg_ ho Cr
         refine hK.out _ _ ⟨(y8 BKl.out 2).trans rfl,Bz.out,Bo.out⟩ (fun hHeld=>?_)
         clear hHeld hK K
         refine qx 91 ?_
         refine qp 9 92 (fl_ 11 2047) ?_
         refine done_ (by kernel_rfl) ?_
         clear Bz Bo
         obtain⟨Aa,Ab,Ac,Ad,Af,Ag,Ah,Ai,Aj,Ak⟩:=QSet.bx5 BKr.out
         obtain⟨Ar,As,At,Au,Av,Aw⟩:=QSet.bx3 BKl.out
         go_wp2
         go_loopg [93] 2 (fun kq De w'=>∃(xE:Int) (nE:Nat),De=.int .i64 xE∧y0 (xE=(nE:Int))∧y0 (kq + nE=2)∧y0 (lsG Ap (lsE VR PT TL y0_ y1_ SD nE))∧y0 (Kd.R (Kd.int .i64) 3 w' w.heap.size (fun _=>True) (.slice Aq [y1_,y0_].length cq) ([y1_,y0_]))∧y0 (w'.heap[gr]?=some (.cells #[.slice Bi Ap.length Bc,.int .i64 Az,.string Ba,.slice Bd Ay.length Be,.slice (some adl) Am.length Bf] 36 (0,0)))∧y0 (w'.heap[gl]?=some (.cells #[.int .i64 l.f0,.string l.f1,.slice (some adx) l.f2.length cl] 33 (0,0)))∧y0 (QSet.MS w' gm (lsE VR PT TL y0_ y1_ SD nE))∧y0 (Below w.heap.size w w'))
         case atStart=>exact⟨0,0,rfl,⟨rfl⟩,⟨Nat.add_zero _⟩,⟨HG.out⟩,⟨qR HOq.out⟩,⟨BKr.out⟩,⟨BKl.out⟩,⟨HM.out⟩,⟨HB.out⟩⟩
         case round =>
          (repeat first|clear Aa|clear Ag|clear Ab|clear Ah|clear Ac|clear Ai|clear Ad|clear Aj|clear Af|clear Ak|clear Ar|clear Au|clear As|clear Av|clear At|clear Aw)
          clear HOq BKr BKl HM HB
          clear HG
          obtain⟨xE,nE,rfl,HXE,HKE,HG,HOq,BKr,BKl,HM,HB⟩:=hrel
          obtain⟨SE,HSE⟩:∃ S_,y0 (lsE VR PT TL y0_ y1_ SD nE=S_):=⟨_,⟨rfl⟩⟩
          rw [HSE.out]at HM HG
          by_cases c:xE < 2
          ·skip
           have Bp:decide (xE < 2)=true:=decide_eq_true c
           have HLENE:y0 ((2:Nat)≤2):=⟨Nat.le_refl _⟩
           have HIE:y0 (nE < 2):=⟨by have:=HXE.out;omega⟩
           have p1:0≤xE:=by have:=HXE.out;omega
           have q2:xE < (l.f2.length:Int):=by have:=Ci.out;omega
           obtain⟨adq,e1,Bb⟩:=Kd.at_int (Kd.R_reads' HOq.out).2.2 xE p1 (show xE < (([y1_,y0_].length:Nat):Int)from c)
           obtain⟨adz,e2,Bg⟩:=Kd.at_int HRl.out xE p1 q2
           cases e1
           cases e2
           have Bo:=y0.mk Bg
           clear Bg
           have HMB:y0 (rd [y1_,y0_] xE∈l.f2):=⟨by
            have h2:=Ci.out
            have g0:rd l.f2 0∈l.f2:=by unfold rd;rw [show((0:Int)).toNat=0 from rfl,List.getD_eq_getElem?_getD,List.getElem?_eq_getElem (by omega)];exact List.getElem_mem _
            have g1:rd l.f2 1∈l.f2:=by unfold rd;rw [show((1:Int)).toNat=1 from rfl,List.getD_eq_getElem?_getD,List.getElem?_eq_getElem (by omega)];exact List.getElem_mem _
            rw [Cm.out]at g0
            rw [Cn.out]at g1
            rw [HXE.out]
            have h3:=HIE.out
            match nE,h3 with
            | 0,_=>exact g1
            | 1,_=>exact g0⟩
           have HMA:y0 (rd l.f2 xE∈l.f2):=⟨by
            have hlt:xE.toNat < l.f2.length:=by omega
            unfold rd
            rw [List.getD_eq_getElem?_getD,List.getElem?_eq_getElem hlt]
            exact List.getElem_mem _⟩
           have HSTE:y0 (lsE VR PT TL y0_ y1_ SD (nE + 1)=lsO VR PT TL SE (rd l.f2 xE) (rd [y1_,y0_] xE)):=⟨by
            have h:=lsE_step VR PT TL l.f2 SD nE HIE.out
            rw [Cm.out,Cn.out,HSE.out,← HXE.out]at h
            exact h⟩
           generalize rd [y1_,y0_] xE=b_ at Bb HMB HSTE
           generalize rd l.f2 xE=a_ at Bo HMA HSTE
           have qc:=eq_true c
           replace q2:=eq_true q2
           replace p1:=eq_true p1
           clear c
           have HPB:=y0.mk (HPT.out l HMEl.out b_ HMB.out)
           have HVB:=y0.mk (HVR.out l HMEl.out b_ HMB.out)
           obtain⟨t1,Co⟩:∃ t,PT b_=t:=⟨_,rfl⟩
           obtain⟨t2,Cp⟩:∃ t,TL SE a_=t:=⟨_,rfl⟩
           rw [Co]at HPB
           have HLO:y0 (lsO VR PT TL SE a_ b_=if(t1 && t2)=true then(VR b_).foldl QSet.ins SE else SE):=⟨by unfold lsO;rw [Co,Cp]⟩
           have Cs:y0 (∀(W:World),Below w.heap.size w W→QSet.MS W gm SE→Calls Tryz.prog 44 #[.int .i64 a_,.int .i64 b_,.map (some gm),.pointer (some ⟨gt,0,none⟩)] W fun e w'=>e=.returned (.bool t2)∧Below W.heap.size W w'):=⟨fun W hb hm=>by rw [← Cp];exact HTL.out W gm SE l a_ b_ hb hm HMEl.out HMA.out⟩
           clear Co Cp
           obtain⟨Aa,Ab,Ac,Ad,Af,Ag,Ah,Ai,Aj,Ak⟩:=QSet.bx5 BKr.out
           obtain⟨Ar,As,At,Au,Av,Aw⟩:=QSet.bx3 BKl.out
           cases t1 with
           | true =>
            cases t2 with
            | true =>
             go_wp2_with (first
              | (go_at_call 59;(with_reducible refine(z2_.calls k _ _ Ap Az Ba _ _ Ay _ _ Am b_ true _ (Kd.C_below Bj.out HB.out) Bk.out (Kd.C_below Bl.out HB.out) Bm.out (Kd.C_below Bh.out HB.out) Bn.out HPB.out).mono ?_);rintro e_ Ct ⟨rfl,hb⟩;(repeat first|clear Aa|clear Ag|clear Ab|clear Ah|clear Ac|clear Ai|clear Ad|clear Aj|clear Af|clear Ak|clear Ar|clear Au|clear As|clear Av|clear At|clear Aw);replace HOq:=y0.mk (Kd.R_below HOq.out hb);replace BKr:=y0.mk (y7 BKr.out hb);replace BKl:=y0.mk (y7 BKl.out hb);replace HM:=y0.mk (QSet.MS.below HM.out hb);replace HB:=y0.mk (y5 HB.out hb);(try clear hb);(try clear hd_);(try clear ho);obtain⟨Aa,Ab,Ac,Ad,Af,Ag,Ah,Ai,Aj,Ak⟩:=QSet.bx5 BKr.out;obtain⟨Ar,As,At,Au,Av,Aw⟩:=QSet.bx3 BKl.out;have Bg:=(HB.out.cell (World.block_lt_of_cell? w _ Bo.out)).trans Bo.out)
              | ((try(refine gate_guard (by rfl) ?_;dsimp only));go_at_call 44;(with_reducible refine(Cs.out _ HB.out HM.out).mono ?_);rintro e_ Df ⟨rfl,hb⟩;(repeat first|clear Aa|clear Ag|clear Ab|clear Ah|clear Ac|clear Ai|clear Ad|clear Aj|clear Af|clear Ak|clear Ar|clear Au|clear As|clear Av|clear At|clear Aw);replace HOq:=y0.mk (Kd.R_below HOq.out hb);replace BKr:=y0.mk (y7 BKr.out hb);replace BKl:=y0.mk (y7 BKl.out hb);replace HM:=y0.mk (QSet.MS.below HM.out hb);replace HB:=y0.mk (y5 HB.out hb);(try clear hb);(try clear hd_);(try clear ho);obtain⟨Aa,Ab,Ac,Ad,Af,Ag,Ah,Ai,Aj,Ak⟩:=QSet.bx5 BKr.out;obtain⟨Ar,As,At,Au,Av,Aw⟩:=QSet.bx3 BKl.out)
              | (go_at_call 47;(with_reducible refine(impl_Rule_vars.calls k _ _ Ap Az Ba _ _ Ay _ _ Am b_ (VR b_) _ (Kd.C_below Bj.out HB.out) Bk.out (Kd.C_below Bl.out HB.out) Bm.out (Kd.C_below Bh.out HB.out) Bn.out HVB.out.1).mono ?_);rintro e_ Dl ⟨v_,rfl,ho,hb⟩;obtain⟨AV,cV,eV_⟩:=Kd.R_slice ho;subst eV_;(repeat first|clear Aa|clear Ag|clear Ab|clear Ah|clear Ac|clear Ai|clear Ad|clear Aj|clear Af|clear Ak|clear Ar|clear Au|clear As|clear Av|clear At|clear Aw);have HOV:=y0.mk (Kd.R_lower ho (y4 HB.out));replace HOq:=y0.mk (Kd.R_below HOq.out hb);replace BKr:=y0.mk (y7 BKr.out hb);replace BKl:=y0.mk (y7 BKl.out hb);replace HM:=y0.mk (QSet.MS.below HM.out hb);replace HB:=y0.mk (y5 HB.out hb);(try clear hb);(try clear hd_);(try clear ho);obtain⟨Aa,Ab,Ac,Ad,Af,Ag,Ah,Ai,Aj,Ak⟩:=QSet.bx5 BKr.out;obtain⟨Ar,As,At,Au,Av,Aw⟩:=QSet.bx3 BKl.out))
             clear Bb
             go_loopg [116] (VR b_).length (fun kq Cq w'=>∃(xF:Int) (nF:Nat),Cq=.int .i64 xF∧y0 (xF=(nF:Int))∧y0 (kq + nF=(VR b_).length)∧y0 (lsG Ap (((VR b_).take nF).foldl QSet.ins SE))∧y0 (Kd.R (Kd.int .i64) 3 w' w.heap.size (fun _=>True) (.slice (some adq) [y1_,y0_].length cq) ([y1_,y0_]))∧y0 (Kd.R Kd.string 9 w' w.heap.size (fun _=>True) (.slice AV (VR b_).length cV) (VR b_))∧y0 (w'.heap[gr]?=some (.cells #[.slice Bi Ap.length Bc,.int .i64 Az,.string Ba,.slice Bd Ay.length Be,.slice (some adl) Am.length Bf] 36 (0,0)))∧y0 (w'.heap[gl]?=some (.cells #[.int .i64 l.f0,.string l.f1,.slice (some adx) l.f2.length cl] 33 (0,0)))∧y0 (QSet.MS w' gm (((VR b_).take nF).foldl QSet.ins SE))∧y0 (Below w.heap.size w w'))
             case atStart=>exact⟨0,0,rfl,⟨rfl⟩,⟨Nat.add_zero _⟩,⟨HG.out⟩,⟨qR HOq.out⟩,⟨qR HOV.out⟩,⟨BKr.out⟩,⟨BKl.out⟩,⟨HM.out⟩,⟨HB.out⟩⟩
             case round =>
              (repeat first|clear Aa|clear Ag|clear Ab|clear Ah|clear Ac|clear Ai|clear Ad|clear Aj|clear Af|clear Ak|clear Ar|clear Au|clear As|clear Av|clear At|clear Aw)
              clear HOq HOV BKr BKl HM HB
              clear HG
              obtain⟨xF,nF,rfl,HXF,HKF,HG,HOq,HOV,BKr,BKl,HM,HB⟩:=hrel
              obtain⟨SF,HSF⟩:∃ S_,y0 (((VR b_).take nF).foldl QSet.ins SE=S_):=⟨_,⟨rfl⟩⟩
              rw [HSF.out]at HM HG
              have HLENF:=y0.mk HVB.out.2.1
              by_cases c:xF < ((VR b_).length:Int)
              ·skip
               have Dg:decide (xF < ((VR b_).length:Int))=true:=decide_eq_true c
               have hi:nF < (VR b_).length:=by have:=HXF.out;omega
               have p3:0≤xF:=by have:=HXF.out;omega
               obtain⟨adv,e1,Bb⟩:=Kd.at_string (Kd.R_reads' HOV.out).2.2 xF p3 c
               have rg:rdOf ByteArray.empty (VR b_) xF=(VR b_)[nF]:=by rw [HXF.out];unfold rdOf;rw [show((nF:Int)).toNat=nF from rfl,List.getD_eq_getElem?_getD,List.getElem?_eq_getElem hi];rfl
               rw [rg]at Bb
               clear rg
               have HSTv:=y0.mk (foldl_at QSet.ins SE (VR b_) nF hi)
               have HMEv:=y0.mk (HVB.out.2.2 _ (List.getElem_mem hi))
               generalize (VR b_)[nF]=s_ at Bb HSTv HMEv
               have HIF:=y0.mk hi
               clear hi
               cases e1
               have q3:=eq_true c
               replace p3:=eq_true p3
               clear c
               have HGN:=y0.mk (lsG_ins HG.out HMEv.out)
               have HRM:=y0.mk (lsG_len HG.out)
               have HSS:y0 (s_.size≤1048576):=⟨by obtain⟨e_,he_,rfl⟩:=HMEv.out;exact HSZ.out e_ he_⟩
               obtain⟨Aa,Ab,Ac,Ad,Af,Ag,Ah,Ai,Aj,Ak⟩:=QSet.bx5 BKr.out
               obtain⟨Ar,As,At,Au,Av,Aw⟩:=QSet.bx3 BKl.out
               go_wp2_with (first
                | ((with_reducible refine QSet.gate_put (m:=.tmp 120) (x:=.tmp 121) rfl ?_);(refine QSet.put_event rfl (.tmp 120) (.tmp 121) _ rfl rfl (s:=s_) rfl rfl HM.out (by have:=HRM.out;have:=HN.out;unfold maxLen;omega) (by have:=HSS.out;unfold maxLen;omega) ?_);intro Dm hM_ hg_;(repeat first|clear Aa|clear Ag|clear Ab|clear Ah|clear Ac|clear Ai|clear Ad|clear Aj|clear Af|clear Ak|clear Ar|clear Au|clear As|clear Av|clear At|clear Aw);have nHOq_:=y0.mk (QSet.MS.row HM.out HOq.out hg_);have nHOV_:=y0.mk (QSet.MS.row HM.out HOV.out hg_);have nBKr_:=y0.mk (QSet.MS.blk BKr.out (Nr_m.out) hg_);have nBKl_:=y0.mk (QSet.MS.blk BKl.out (Ne.symm Nm_l.out) hg_);have nHB_:=y0.mk (QSet.MS.low HB.out hg_ GEm.out);have nHMn_:=y0.mk (hM_);clear HOq HOV BKr BKl HB HM hM_ hg_;have HOq:=nHOq_;clear nHOq_;have HOV:=nHOV_;clear nHOV_;have BKr:=nBKr_;clear nBKr_;have BKl:=nBKl_;clear nBKl_;have HB:=nHB_;clear nHB_;have HM:=nHMn_;clear nHMn_;obtain⟨Aa,Ab,Ac,Ad,Af,Ag,Ah,Ai,Aj,Ak⟩:=QSet.bx5 BKr.out;obtain⟨Ar,As,At,Au,Av,Aw⟩:=QSet.bx3 BKl.out))
               clear HG
               have HG:=HGN
               clear HGN
               go_roundg ((VR b_).length - nF - 1)
               case measure=>have:=HKF.out;have:=HIF.out;omega
               exact⟨wrap64 (xF + 1),nF + 1,qy2,⟨by rw [HXF.out];exact QIv.step_u (by have:=HIF.out;have:=HLENF.out;omega)⟩,⟨by have:=HKF.out;have:=HIF.out;omega⟩,⟨by rw [HSTv.out,HSF.out];exact HG.out⟩,⟨qR HOq.out⟩,⟨qR HOV.out⟩,⟨BKr.out⟩,⟨BKl.out⟩,⟨by rw [HSTv.out,HSF.out];exact HM.out⟩,⟨HB.out⟩⟩
              ·skip
               have Dg:decide (xF < ((VR b_).length:Int))=false:=decide_eq_false c
               have HE:y0 ((VR b_).foldl QSet.ins SE=SF):=⟨by rw [← HSF.out,List.take_of_length_le (by have:=HXF.out;have:=HKF.out;omega)]⟩
               go_wp2
               go_roundg (2 - nE - 1)
               case measure=>have:=HKE.out;have:=HIE.out;omega
               exact⟨wrap64 (xE + 1),nE + 1,qy2,⟨by rw [HXE.out];exact QIv.step_u (by have:=HIE.out;have:=HLENE.out;omega)⟩,⟨by have:=HKE.out;have:=HIE.out;omega⟩,⟨by rw [HSTE.out,HLO.out,if_pos (show(true && true)=true from rfl),HE.out];exact HG.out⟩,⟨qR HOq.out⟩,⟨BKr.out⟩,⟨BKl.out⟩,⟨by rw [HSTE.out,HLO.out,if_pos (show(true && true)=true from rfl),HE.out];exact HM.out⟩,⟨HB.out⟩⟩
            | false =>
             go_wp2_with (first
              | (go_at_call 59;(with_reducible refine(z2_.calls k _ _ Ap Az Ba _ _ Ay _ _ Am b_ true _ (Kd.C_below Bj.out HB.out) Bk.out (Kd.C_below Bl.out HB.out) Bm.out (Kd.C_below Bh.out HB.out) Bn.out HPB.out).mono ?_);rintro e_ Ct ⟨rfl,hb⟩;(repeat first|clear Aa|clear Ag|clear Ab|clear Ah|clear Ac|clear Ai|clear Ad|clear Aj|clear Af|clear Ak|clear Ar|clear Au|clear As|clear Av|clear At|clear Aw);replace HOq:=y0.mk (Kd.R_below HOq.out hb);replace BKr:=y0.mk (y7 BKr.out hb);replace BKl:=y0.mk (y7 BKl.out hb);replace HM:=y0.mk (QSet.MS.below HM.out hb);replace HB:=y0.mk (y5 HB.out hb);(try clear hb);(try clear hd_);(try clear ho);obtain⟨Aa,Ab,Ac,Ad,Af,Ag,Ah,Ai,Aj,Ak⟩:=QSet.bx5 BKr.out;obtain⟨Ar,As,At,Au,Av,Aw⟩:=QSet.bx3 BKl.out;have Bg:=(HB.out.cell (World.block_lt_of_cell? w _ Bo.out)).trans Bo.out)
              | ((try(refine gate_guard (by rfl) ?_;dsimp only));go_at_call 44;(with_reducible refine(Cs.out _ HB.out HM.out).mono ?_);rintro e_ Df ⟨rfl,hb⟩;(repeat first|clear Aa|clear Ag|clear Ab|clear Ah|clear Ac|clear Ai|clear Ad|clear Aj|clear Af|clear Ak|clear Ar|clear Au|clear As|clear Av|clear At|clear Aw);replace HOq:=y0.mk (Kd.R_below HOq.out hb);replace BKr:=y0.mk (y7 BKr.out hb);replace BKl:=y0.mk (y7 BKl.out hb);replace HM:=y0.mk (QSet.MS.below HM.out hb);replace HB:=y0.mk (y5 HB.out hb);(try clear hb);(try clear hd_);(try clear ho);obtain⟨Aa,Ab,Ac,Ad,Af,Ag,Ah,Ai,Aj,Ak⟩:=QSet.bx5 BKr.out;obtain⟨Ar,As,At,Au,Av,Aw⟩:=QSet.bx3 BKl.out))
             go_roundg (2 - nE - 1)
             case measure=>have:=HKE.out;have:=HIE.out;omega
             exact⟨wrap64 (xE + 1),nE + 1,qy2,⟨by rw [HXE.out];exact QIv.step_u (by have:=HIE.out;have:=HLENE.out;omega)⟩,⟨by have:=HKE.out;have:=HIE.out;omega⟩,⟨by rw [HSTE.out,HLO.out,if_neg (by simp)];exact HG.out⟩,⟨qR HOq.out⟩,⟨BKr.out⟩,⟨BKl.out⟩,⟨by rw [HSTE.out,HLO.out,if_neg (by simp)];exact HM.out⟩,⟨HB.out⟩⟩
           | false =>
            go_wp2_with (first
             | (go_at_call 59;(with_reducible refine(z2_.calls k _ _ Ap Az Ba _ _ Ay _ _ Am b_ false _ (Kd.C_below Bj.out HB.out) Bk.out (Kd.C_below Bl.out HB.out) Bm.out (Kd.C_below Bh.out HB.out) Bn.out HPB.out).mono ?_);rintro e_ Ct ⟨rfl,hb⟩;(repeat first|clear Aa|clear Ag|clear Ab|clear Ah|clear Ac|clear Ai|clear Ad|clear Aj|clear Af|clear Ak|clear Ar|clear Au|clear As|clear Av|clear At|clear Aw);replace HOq:=y0.mk (Kd.R_below HOq.out hb);replace BKr:=y0.mk (y7 BKr.out hb);replace BKl:=y0.mk (y7 BKl.out hb);replace HM:=y0.mk (QSet.MS.below HM.out hb);replace HB:=y0.mk (y5 HB.out hb);(try clear hb);(try clear hd_);(try clear ho);obtain⟨Aa,Ab,Ac,Ad,Af,Ag,Ah,Ai,Aj,Ak⟩:=QSet.bx5 BKr.out;obtain⟨Ar,As,At,Au,Av,Aw⟩:=QSet.bx3 BKl.out;have Bg:=(HB.out.cell (World.block_lt_of_cell? w _ Bo.out)).trans Bo.out))
            go_roundg (2 - nE - 1)
            case measure=>have:=HKE.out;have:=HIE.out;omega
            exact⟨wrap64 (xE + 1),nE + 1,qy2,⟨by rw [HXE.out];exact QIv.step_u (by have:=HIE.out;have:=HLENE.out;omega)⟩,⟨by have:=HKE.out;have:=HIE.out;omega⟩,⟨by rw [HSTE.out,HLO.out,if_neg (by simp)];exact HG.out⟩,⟨qR HOq.out⟩,⟨BKr.out⟩,⟨BKl.out⟩,⟨by rw [HSTE.out,HLO.out,if_neg (by simp)];exact HM.out⟩,⟨HB.out⟩⟩
          ·skip
           have Bp:decide (xE < 2)=false:=decide_eq_false c
           have HE:y0 (lsP VR PT TL SD l=SE):=⟨by
            rw [HLP.out,Cm.out,Cn.out,← HSE.out]
            have h1:=HXE.out
            have h2:=HKE.out
            rw [show nE=2 by omega]⟩
           go_wp2
           go_roundg (Am.length - nD - 1)
           case measure=>have:=HKD.out;have:=HID.out;omega
           exact⟨wrap64 (xD + 1),nD + 1,qy2,⟨by rw [HXD.out];exact QIv.step_u (by have:=HID.out;have:=HLEND.out;omega)⟩,⟨by have:=HKD.out;have:=HID.out;omega⟩,⟨by rw [HSTl.out,HSD.out,HE.out];exact HG.out⟩,⟨BKr.out⟩,⟨by rw [HSTl.out,HSD.out,HE.out];exact HM.out⟩,⟨HB.out⟩⟩
        ·skip
         have k2b:(l.f1.toList == ([61]:List UInt8))=false:=beq_eq_false_iff_ne.mpr k2
         have HLP:y0 (lsP VR PT TL SD l=SD):=⟨if_neg (fun h_=>k2 h_.2)⟩
         clear k1 k2
         go_wp2
         go_roundg (Am.length - nD - 1)
         case measure=>have:=HKD.out;have:=HID.out;omega
         exact⟨wrap64 (xD + 1),nD + 1,qy2,⟨by rw [HXD.out];exact QIv.step_u (by have:=HID.out;have:=HLEND.out;omega)⟩,⟨by have:=HKD.out;have:=HID.out;omega⟩,⟨by rw [HSTl.out,HSD.out,HLP.out];exact HG.out⟩,⟨BKr.out⟩,⟨by rw [HSTl.out,HSD.out,HLP.out];exact HM.out⟩,⟨HB.out⟩⟩
       ·skip
        have k1b:(l.f0 != 3)=true:=bne_iff_ne.mpr k1
        have HLP:y0 (lsP VR PT TL SD l=SD):=⟨if_neg (fun h_=>k1 h_.1)⟩
        clear k1
        go_wp2
        go_roundg (Am.length - nD - 1)
        case measure=>have:=HKD.out;have:=HID.out;omega
        exact⟨wrap64 (xD + 1),nD + 1,qy2,⟨by rw [HXD.out];exact QIv.step_u (by have:=HID.out;have:=HLEND.out;omega)⟩,⟨by have:=HKD.out;have:=HID.out;omega⟩,⟨by rw [HSTl.out,HSD.out,HLP.out];exact HG.out⟩,⟨BKr.out⟩,⟨by rw [HSTl.out,HSD.out,HLP.out];exact HM.out⟩,⟨HB.out⟩⟩
      ·skip
       have Bp:decide (xD < (Am.length:Int))=false:=decide_eq_false c
       have HE:y0 (lsIt Am VR PT TL SA (nZ + 1)=SD):=⟨by
        rw [← HSD.out,List.take_of_length_le (by have:=HXD.out;have:=HKD.out;omega),← HSZ_.out]
        rfl⟩
       go_wp2
       go_roundg (62 - nZ - 1)
       case measure=>have:=HKZ.out;have:=HNZ.out;have:=HCZ.out;have:=HRM.out;have:=HN.out;omega
       exact⟨(SZ.length:Int),nZ + 1,qy2,⟨by rw [if_neg (Nat.succ_ne_zero _),Nat.add_sub_cancel,HSZ_.out]⟩,⟨by have:=HNZ.out;have:=HCZ.out;omega⟩,⟨by have:=HKZ.out;have:=HNZ.out;have:=HCZ.out;have:=HRM.out;have:=HN.out;omega⟩,⟨by rw [HE.out];exact HG.out⟩,⟨BKr.out⟩,⟨by rw [HE.out];exact HM.out⟩,⟨HB.out⟩⟩
    ·skip
     have Bp:decide (xZ < (SZ.length:Int))=false:=decide_eq_false c
     have HE:y0 (lsIt Am VR PT TL SA 100=SZ):=⟨by
      have h1:=HXZ.out
      have h2:=HNZ.out
      have h3:=HKZ.out
      have h4:=HSZ_.out
      match nZ,h1,h2,h3,h4 with
      | 0,h1,h2,h3,h4=>rw [if_pos rfl]at h1;omega
      | m + 1,h1,h2,h3,h4 =>
       rw [if_neg (Nat.succ_ne_zero _),Nat.add_sub_cancel]at h1
       have h5:lsW Am VR PT TL (lsIt Am VR PT TL SA m)=lsIt Am VR PT TL SA m:=lsW_same (by rw [← h1,show lsW Am VR PT TL (lsIt Am VR PT TL SA m)=SZ from h4];exact c)
       rw [lsIt_same h5 100 (by omega),← h4]
       exact h5.symm⟩
     clear c
     obtain⟨Aa,Ab,Ac,Ad,Af,Ag,Ah,Ai,Aj,Ak⟩:=QSet.bx5 BKr.out
     go_wp2_with (first
      | ((with_reducible refine gate_builtin (b:=.len) (xs:=#[.tmp 63]) rfl ?_);refine QSet.len_event rfl (.tmp 63) rfl rfl HM.out ?_)
      | (go_at_call 60;(with_reducible refine(impl_Rule_names.calls _ _ Ap Az Ba _ _ Ay _ _ Am gm SZ _ (Kd.C_below Bj.out HB.out) Bk.out (Kd.C_below Bl.out HB.out) Bm.out (Kd.C_below Bh.out HB.out) Bn.out HM.out (by have:=HN.out;omega) (fun e he=>by have:=HSZ.out e he;omega)).mono ?_);rintro e_ Dd ⟨v_,rfl,ho,hb⟩;(repeat first|clear Aa|clear Ag|clear Ab|clear Ah|clear Ac|clear Ai|clear Ad|clear Aj|clear Af|clear Ak);have HOn:=y0.mk (Kd.R_lower ho (y4 HB.out));replace HB:=y0.mk (y5 HB.out hb);clear ho hb))
     go_ret
     exact⟨_,by first|rfl|(simp [y12,y13] <;> rfl),by rw [Cz.out,HE.out];exact HOn.out,HB.out⟩
def lsTB (AN:Int→Bool) (VR:Int→List ByteArray) (S:List ByteArray) (x:Int):Bool:=!(AN x) && !((VR x).any (fun s=>!QSet.hasB S s))
set_option maxHeartbeats 8000000 in
set_option maxRecDepth 100000 in
theorem impl_Rule_bound_1_1.calls (s:ByteArray) (g1 gm:Nat) (S:List ByteArray) (w:World) (hb1:w.heap[g1]?=some (.cells #[.map (some gm)] 77 (0,0))) (hm:QSet.MS w gm S) (hs:s.size≤1099511627776) :
  Calls Tryz.prog 48 #[.string s,.pointer (some ⟨g1,0,none⟩)] w fun e w'=>e=.returned (.bool (!QSet.hasB S s))∧Below w.heap.size w w':=by
 have HB:=y0.mk (Below.refl w.heap.size w)
 have HM:=y0.mk hm
 clear hm
 have HS:=y0.mk hs
 clear hs
 have BKs:=y0.mk hb1
 clear hb1
 have hcs_0:w.cell? ⟨g1,0,none⟩=some (.map (some gm)):=(y8 BKs.out 0).trans rfl
 have hfs_0:=blk_frozen BKs.out 0
 go_enter Tryz.func48,Tryz.ntmps48
 go_wp2_with (first|((with_reducible refine y16 (N:=6) rfl ?_);refine QSet.look_event rfl (.tmp 4) (.tmp 5) rfl rfl (s:=s) rfl HM.out (by have:=HS.out;unfold maxLen;omega) ?_))
 go_ret
 exact⟨by first|rfl|(simp [y12,y13] <;> rfl),HB.out⟩
set_option maxHeartbeats 8000000 in
set_option maxRecDepth 100000 in
theorem slices_IndexFunc_Rule_bound_1_1.calls (A0:Option Addr) (c0:Nat) (l0:List ByteArray) (g1:Nat) (gm:Nat) (S:List ByteArray) (w:World) (Ab:Kd.C Kd.string w A0 l0.length l0) (Ac:l0.length≤c0) (hn:l0.length≤1099511627776) (hsz:∀ s∈l0,s.size≤1099511627776) (Ad:w.heap[g1]?=some (.cells #[.map (some gm)] 77 (0,0))) (hm:QSet.MS w gm S) :
  Calls Tryz.prog 64 #[.slice A0 l0.length c0,.func (.func 48) #[] #[.pointer (some ⟨g1,0,none⟩)]] w fun e w'=>∃ r:Int,e=.returned (.int .i64 r)∧decide (r≥0)=l0.any (fun s=>!QSet.hasB S s)∧Below w.heap.size w w':=by
 have HCALL:y0 (∀(w1:World) (s:ByteArray),s∈l0→Below w.heap.size w w1→Calls Tryz.prog 48 #[.string s,.pointer (some ⟨g1,0,none⟩)] w1 fun e w'=>e=.returned (.bool (!QSet.hasB S s))∧Below w1.heap.size w1 w'):=⟨fun w1 s hs hb=>(impl_Rule_bound_1_1.calls s g1 gm S w1 (y7 Ad hb) (hm.below hb) (hsz s hs))⟩
 have Af:=y0.mk Ab
 have HN:=y0.mk hn
 clear Ab hn Ac
 have HB:=y0.mk (Below.refl w.heap.size w)
 go_enter Tryz.func64,Tryz.ntmps64
 go_wp2
 go_loopg [8] l0.length (fun kq v8 w'=>∃(xi:Int) (i:Nat),v8=.int .i64 xi∧y0 (xi=(i:Int))∧y0 (kq + i=l0.length)∧y0 (l0.any (fun s=>!QSet.hasB S s)=(l0.drop i).any (fun s=>!QSet.hasB S s))∧y0 (Below w.heap.size w w'))
 case atStart=>exact⟨0,0,rfl,⟨rfl⟩,⟨Nat.add_zero _⟩,⟨by rw [List.drop_zero]⟩,⟨qb⟩⟩
 case round =>
  obtain⟨xi,i,rfl,HXI,HK,HD,HB⟩:=hrel
  by_cases c3:xi < (l0.length:Int)
  ·have Aa:decide (xi < (l0.length:Int))=true:=decide_eq_true c3
   have hi:i < l0.length:=by have:=HXI.out;omega
   have p1:0≤xi:=by have:=HXI.out;omega
   have rg:rdOf ByteArray.empty l0 xi=l0[i]:=by rw [HXI.out];unfold rdOf;rw [show((i:Int)).toNat=i from rfl,List.getD_eq_getElem?_getD,List.getElem?_eq_getElem hi];rfl
   obtain⟨ad,e1,hx⟩:=Kd.at_string Af.out xi p1 c3
   cases e1
   rw [rg]at hx
   replace hx:=(HB.out.cell (World.block_lt_of_cell? w _ hx)).trans hx
   have HSt:=y0.mk (fun(w1:World) (hb:Below w.heap.size w w1)=>HCALL.out w1 _ (List.getElem_mem hi) hb)
   have HDn:y0 (l0.any (fun s=>!QSet.hasB S s)=((!QSet.hasB S l0[i]) || (l0.drop (i + 1)).any (fun s=>!QSet.hasB S s))):=⟨by rw [HD.out,List.drop_eq_getElem_cons hi,List.any_cons]⟩
   clear rg HD
   generalize l0[i]=x0 at hx HSt HDn
   have HI:=y0.mk hi
   clear hi
   generalize (!QSet.hasB S x0)=b at HSt HDn
   replace p1:=eq_true p1
   replace c3:=eq_true c3
   cases b with
   | true =>
    go_wp2_with (first|(go_at_call 48;(with_reducible refine(HSt.out _ qb).mono ?_);rintro e w8 ⟨rfl,hb⟩;have n0_:=y0.mk (y5 qb hb);clear HB hb;have HB:=n0_;clear n0_))
    go_ret
    exact⟨xi,by first|rfl|(simp [y12,y13] <;> rfl),by rw [HDn.out,Bool.true_or];exact decide_eq_true (by have:=HXI.out;omega),qb⟩
   | false =>
    go_wp2_with (first|(go_at_call 48;(with_reducible refine(HSt.out _ qb).mono ?_);rintro e w9 ⟨rfl,hb⟩;have n0_:=y0.mk (y5 qb hb);clear HB hb;have HB:=n0_;clear n0_))
    go_roundg (l0.length - i - 1)
    case measure=>have:=HK.out;have:=HI.out;omega
    exact⟨wrap64 (xi + 1),i + 1,qy2,⟨by rw [HXI.out];exact QIv.step_u (by have:=HN.out;have:=HI.out;omega)⟩,⟨by have:=HI.out;omega⟩,⟨by rw [HDn.out,Bool.false_or]⟩,⟨qb⟩⟩
  ·have Aa:decide (xi < (l0.length:Int))=false:=decide_eq_false c3
   have hd:l0.drop i=[]:=List.drop_of_length_le (by have:=HXI.out;have:=HK.out;omega)
   have HE:y0 (l0.any (fun s=>!QSet.hasB S s)=false):=⟨by rw [HD.out,hd];rfl⟩
   clear hd
   go_wp2
   go_ret
   exact⟨-1,by first|rfl|(simp [y12,y13] <;> rfl),by rw [HE.out];rfl,qb⟩
set_option maxHeartbeats 8000000 in
set_option maxRecDepth 100000 in
theorem slices_ContainsFunc_Rule_bound_1_1.calls (A0:Option Addr) (c0:Nat) (l0:List ByteArray) (g1:Nat) (gm:Nat) (S:List ByteArray) (w:World) (hr0:Kd.C Kd.string w A0 l0.length l0) (hc0:l0.length≤c0) (hn:l0.length≤1099511627776) (hsz:∀ s∈l0,s.size≤1099511627776) (hb1:w.heap[g1]?=some (.cells #[.map (some gm)] 77 (0,0))) (hm:QSet.MS w gm S) :
  Calls Tryz.prog 46 #[.slice A0 l0.length c0,.func (.func 48) #[] #[.pointer (some ⟨g1,0,none⟩)]] w fun e w'=>e=.returned (.bool (l0.any (fun s=>!QSet.hasB S s)))∧Below w.heap.size w w':=by
 have HC:=y0.mk (slices_IndexFunc_Rule_bound_1_1.calls A0 c0 l0 g1 gm S w hr0 hc0 hn hsz hb1 hm)
 have HB:=y0.mk (Below.refl w.heap.size w)
 clear hn hsz hr0
 go_enter Tryz.func46,Tryz.ntmps46
 go_wp2_with (first|(go_at_call 64;(with_reducible refine HC.out.mono ?_);rintro e w8 ⟨r,rfl,hr,hb⟩;have HR:=y0.mk hr;have n0_:=y0.mk (y5 qb hb);clear HB hb hr;have HB:=n0_;clear n0_))
 go_ret
 exact⟨by rw [← HR.out];first|rfl|(simp [y12,y13] <;> rfl),qb⟩
set_option maxHeartbeats 8000000 in
set_option maxRecDepth 100000 in
theorem impl_Rule_bound_1.calls (k:Nat) (Bj:Option Addr) (Bk:Nat) (Ar:List (S48)) (Au:Int) (Av:ByteArray) (Bl:Option Addr) (Bm:Nat) (As:List Int) (Bn:Option Addr) (Bo:Nat) (At:List (S33)) (gt gm:Nat) (S:List ByteArray) (x y:Int) (AN:Int→Bool) (VR:Int→List ByteArray) (w:World) (Bd:Kd.C k48 w Bj Ar.length Ar) (Be:Ar.length≤Bk) (Bf:Kd.C (Kd.int .i64) w Bl As.length As) (Bg:As.length≤Bm) (Bh:Kd.C k33 w Bn At.length At) (Bi:At.length≤Bo) (hbt:w.heap[gt]?=some (.cells #[.slice Bj Ar.length Bk,.int .i64 Au,.string Av,.slice Bl As.length Bm,.slice Bn At.length Bo] 36 (0,0))) (hm:QSet.MS w gm S) (ha:impl_Rule_hasAny.f k Ar Au Av As At x=some (AN x)) (hv:impl_Rule_vars.f k Ar Au Av As At x=some (VR x)) (hl:(VR x).length≤1048576) (hsz:∀ s∈VR x,s.size≤1048576) :
  Calls Tryz.prog 44 #[.int .i64 x,.int .i64 y,.map (some gm),.pointer (some ⟨gt,0,none⟩)] w fun e w'=>e=.returned (.bool (lsTB AN VR S x))∧Below w.heap.size w w':=by
 have Aw:=y0.mk Bd
 clear Bd
 have Ay:=y0.mk Be
 clear Be
 have Az:=y0.mk Bf
 clear Bf
 have Ba:=y0.mk Bg
 clear Bg
 have Bb:=y0.mk Bh
 clear Bh
 have Bc:=y0.mk Bi
 clear Bi
 have HB:=y0.mk (Below.refl w.heap.size w)
 have HM:=y0.mk hm
 clear hm
 have BKt:=y0.mk hbt
 clear hbt
 have HL:=y0.mk hl
 have HSZ:=y0.mk hsz
 clear hl hsz
 have Bp:=Tryz.underlying36
 have HV:=y0.mk hv
 clear hv
 obtain⟨h,hh⟩:∃ h,AN x=h:=⟨_,rfl⟩
 rw [hh]at ha
 have HA:=y0.mk ha
 have HT:y0 (lsTB AN VR S x=(!h && !((VR x).any (fun s=>!QSet.hasB S s)))):=⟨by unfold lsTB;rw [hh]⟩
 clear ha hh
 cases h with
 | true =>
  obtain⟨Aa,Ab,Ac,Ad,Af,Ag,Ah,Ai,Aj,Ak⟩:=QSet.bx5 BKt.out
  go_enter Tryz.func44,Tryz.ntmps44
  go_wp2_with (first
   | ((with_reducible refine y16 (N:=6) rfl ?_);refine qe 6 #[.map (some gm)] 77 ?_;intro gs hg w1 hbox hb;(repeat first|clear Aa|clear Ag|clear Ab|clear Ah|clear Ac|clear Ai|clear Ad|clear Aj|clear Af|clear Ak);have BKs:=y0.mk (hbox);have GEs:=y0.mk ((by rw [hg];exact HB.out.size:w.heap.size≤gs));have Nt_s:=y0.mk ((by rw [hg];exact Nat.ne_of_lt (blk_lt BKt.out):gt≠gs));have Nm_s:=y0.mk ((by rw [hg];exact Nat.ne_of_lt HM.out.lt:gm≠gs));replace BKt:=y0.mk (y7 BKt.out hb);replace HM:=y0.mk (QSet.MS.below HM.out hb);replace HB:=y0.mk (y5 HB.out hb);clear hb hg hbox;obtain⟨Aa,Ab,Ac,Ad,Af,Ag,Ah,Ai,Aj,Ak⟩:=QSet.bx5 BKt.out;obtain⟨Am,Ap⟩:=QSet.bx1 BKs.out)
   | (go_at_call 45;(with_reducible refine(impl_Rule_hasAny.calls k _ _ Ar Au Av _ _ As _ _ At x true _ (Kd.C_below Aw.out HB.out) Ay.out (Kd.C_below Az.out HB.out) Ba.out (Kd.C_below Bb.out HB.out) Bc.out HA.out).mono ?_);rintro e_ w2 ⟨rfl,hb⟩;(repeat first|clear Aa|clear Ag|clear Ab|clear Ah|clear Ac|clear Ai|clear Ad|clear Aj|clear Af|clear Ak|clear Am|clear Ap);replace BKt:=y0.mk (y7 BKt.out hb);replace BKs:=y0.mk (y7 BKs.out hb);replace HM:=y0.mk (QSet.MS.below HM.out hb);replace HB:=y0.mk (y5 HB.out hb);(try clear hb);(try clear hd_);(try clear ho);obtain⟨Aa,Ab,Ac,Ad,Af,Ag,Ah,Ai,Aj,Ak⟩:=QSet.bx5 BKt.out;obtain⟨Am,Ap⟩:=QSet.bx1 BKs.out))
  go_ret
  exact⟨by rw [HT.out];first|rfl|(simp [y12,y13] <;> rfl),HB.out⟩
 | false =>
  obtain⟨Aa,Ab,Ac,Ad,Af,Ag,Ah,Ai,Aj,Ak⟩:=QSet.bx5 BKt.out
  go_enter Tryz.func44,Tryz.ntmps44
  go_wp2_with (first
   | ((with_reducible refine y16 (N:=6) rfl ?_);refine qe 6 #[.map (some gm)] 77 ?_;intro gs hg w1 hbox hb;(repeat first|clear Aa|clear Ag|clear Ab|clear Ah|clear Ac|clear Ai|clear Ad|clear Aj|clear Af|clear Ak);have BKs:=y0.mk (hbox);have GEs:=y0.mk ((by rw [hg];exact HB.out.size:w.heap.size≤gs));have Nt_s:=y0.mk ((by rw [hg];exact Nat.ne_of_lt (blk_lt BKt.out):gt≠gs));have Nm_s:=y0.mk ((by rw [hg];exact Nat.ne_of_lt HM.out.lt:gm≠gs));replace BKt:=y0.mk (y7 BKt.out hb);replace HM:=y0.mk (QSet.MS.below HM.out hb);replace HB:=y0.mk (y5 HB.out hb);clear hb hg hbox;obtain⟨Aa,Ab,Ac,Ad,Af,Ag,Ah,Ai,Aj,Ak⟩:=QSet.bx5 BKt.out;obtain⟨Am,Ap⟩:=QSet.bx1 BKs.out)
   | (go_at_call 45;(with_reducible refine(impl_Rule_hasAny.calls k _ _ Ar Au Av _ _ As _ _ At x false _ (Kd.C_below Aw.out HB.out) Ay.out (Kd.C_below Az.out HB.out) Ba.out (Kd.C_below Bb.out HB.out) Bc.out HA.out).mono ?_);rintro e_ w2 ⟨rfl,hb⟩;(repeat first|clear Aa|clear Ag|clear Ab|clear Ah|clear Ac|clear Ai|clear Ad|clear Aj|clear Af|clear Ak|clear Am|clear Ap);replace BKt:=y0.mk (y7 BKt.out hb);replace BKs:=y0.mk (y7 BKs.out hb);replace HM:=y0.mk (QSet.MS.below HM.out hb);replace HB:=y0.mk (y5 HB.out hb);(try clear hb);(try clear hd_);(try clear ho);obtain⟨Aa,Ab,Ac,Ad,Af,Ag,Ah,Ai,Aj,Ak⟩:=QSet.bx5 BKt.out;obtain⟨Am,Ap⟩:=QSet.bx1 BKs.out)
   | ((try(refine gate_guard (by rfl) ?_;dsimp only));go_at_call 47;(with_reducible refine(impl_Rule_vars.calls k _ _ Ar Au Av _ _ As _ _ At x (VR x) _ (Kd.C_below Aw.out HB.out) Ay.out (Kd.C_below Az.out HB.out) Ba.out (Kd.C_below Bb.out HB.out) Bc.out HV.out).mono ?_);rintro e_ w3 ⟨v_,rfl,ho,hb⟩;obtain⟨AV,cV,eV_⟩:=Kd.R_slice ho;subst eV_;(repeat first|clear Aa|clear Ag|clear Ab|clear Ah|clear Ac|clear Ai|clear Ad|clear Aj|clear Af|clear Ak|clear Am|clear Ap);have HOV:=y0.mk (Kd.R_lower ho (y4 HB.out));replace BKt:=y0.mk (y7 BKt.out hb);replace BKs:=y0.mk (y7 BKs.out hb);replace HM:=y0.mk (QSet.MS.below HM.out hb);replace HB:=y0.mk (y5 HB.out hb);(try clear hb);(try clear hd_);(try clear ho);obtain⟨Aa,Ab,Ac,Ad,Af,Ag,Ah,Ai,Aj,Ak⟩:=QSet.bx5 BKt.out;obtain⟨Am,Ap⟩:=QSet.bx1 BKs.out)
   | ((try(refine gate_guard (by rfl) ?_;dsimp only));go_at_call 46;(with_reducible refine(slices_ContainsFunc_Rule_bound_1_1.calls _ _ (VR x) gs gm S _ (Kd.R_reads' HOV.out).2.2 (Kd.R_reads' HOV.out).2.1 (by have:=HL.out;omega) (fun s hs=>by have:=HSZ.out s hs;omega) BKs.out HM.out).mono ?_);rintro e_ w4 ⟨rfl,hb⟩;(repeat first|clear Aa|clear Ag|clear Ab|clear Ah|clear Ac|clear Ai|clear Ad|clear Aj|clear Af|clear Ak|clear Am|clear Ap);replace HOV:=y0.mk (Kd.R_below HOV.out hb);replace BKt:=y0.mk (y7 BKt.out hb);replace BKs:=y0.mk (y7 BKs.out hb);replace HM:=y0.mk (QSet.MS.below HM.out hb);replace HB:=y0.mk (y5 HB.out hb);(try clear hb);(try clear hd_);(try clear ho);obtain⟨Aa,Ab,Ac,Ad,Af,Ag,Ah,Ai,Aj,Ak⟩:=QSet.bx5 BKt.out;obtain⟨Am,Ap⟩:=QSet.bx1 BKs.out))
  go_ret
  exact⟨by rw [HT.out];first|rfl|(simp [y12,y13] <;> rfl),HB.out⟩
def lsANf (k:Nat) (es:List (S48)) (a:Int) (b:ByteArray) (c:List Int) (bd:List (S33)) (x:Int):Bool:=(impl_Rule_hasAny.f k es a b c bd x).getD false
def lsOkB (k:Nat) (es:List (S48)) (a:Int) (b:ByteArray) (c:List Int) (bd:List (S33)):Bool:=lsOk k es a b c bd && bd.all (fun l=>l.f2.all (fun x=>(impl_Rule_hasAny.f k es a b c bd x).isSome))
theorem lsOkB_spec {k:Nat} {es:List (S48)} {a:Int} {b:ByteArray} {c:List Int} {bd:List (S33)} (h:lsOkB k es a b c bd=true):lsOk k es a b c bd=true∧∀ l∈bd,∀ x∈l.f2,impl_Rule_hasAny.f k es a b c bd x=some (lsANf k es a b c bd x):=by
 unfold lsOkB at h
 simp only [Bool.and_eq_true,List.all_eq_true]at h
 refine⟨h.1,fun l hl x hx=>?_⟩
 obtain⟨v,hv⟩:=Option.isSome_iff_exists.1 (h.2 l hl x hx)
 unfold lsANf
 rw [hv]
 rfl
def impl_Rule_bound.f (k:Nat) (l0_0:List (S48)) (a0_1:Int) (a0_2:ByteArray) (l0_3:List Int) (l0_4:List (S33)):Option (List ByteArray):=if lsOkB k l0_0 a0_1 a0_2 l0_3 l0_4=true then some (lsRes k l0_0 a0_1 a0_2 l0_3 l0_4 (lsTB (lsANf k l0_0 a0_1 a0_2 l0_3 l0_4) (lsVRf k l0_0 a0_1 a0_2 l0_3 l0_4)))else none
set_option maxHeartbeats 8000000 in
set_option maxRecDepth 100000 in
theorem impl_Rule_bound.calls (k:Nat) (Bh:Option Addr) (Bi:Nat) (Aa:List (S48)) (Ad:Int) (Af:ByteArray) (Bj:Option Addr) (Bk:Nat) (Ab:List Int) (Bl:Option Addr) (Bm:Nat) (Ac:List (S33)) (r:List ByteArray) (w:World) (Ag:Kd.C k48 w Bh Aa.length Aa) (Ah:Aa.length≤Bi) (Ai:Kd.C (Kd.int .i64) w Bj Ab.length Ab) (Aj:Ab.length≤Bk) (Ak:Kd.C k33 w Bl Ac.length Ac) (Am:Ac.length≤Bm) (h:impl_Rule_bound.f k Aa Ad Af Ab Ac=some r) :
  Calls Tryz.prog 23 #[.agg #[.slice Bh Aa.length Bi,.int .i64 Ad,.string Af,.slice Bj Ab.length Bk,.slice Bl Ac.length Bm]] w fun e w'=>∃ v0_:Value,e=.returned (v0_)∧Kd.R Kd.string 9 w' w.heap.size (fun _=>True) v0_ r∧Below w.heap.size w w':=by
 unfold impl_Rule_bound.f at h
 by_cases hk:lsOkB k Aa Ad Af Ab Ac=true
 case neg=>rw [if_neg hk]at h;cases h
 rw [if_pos hk]at h
 obtain rfl:=Option.some.inj h
 clear h
 obtain⟨g0,g7⟩:=lsOkB_spec hk
 obtain⟨g1,g2,g3,g4,g5,g6⟩:=lsOk_spec g0
 clear hk g0
 have Ap:=y0.mk Ag
 clear Ag
 have Ar:=y0.mk Ah
 clear Ah
 have As:=y0.mk Ai
 clear Ai
 have At:=y0.mk Aj
 clear Aj
 have Au:=y0.mk Ak
 clear Ak
 have Av:=y0.mk Am
 clear Am
 have Bp:=y0.mk g1
 have Bo:=y0.mk g2
 have Bq:=y0.mk g3
 have Br:=y0.mk g4
 have Bs:=y0.mk g5
 have Bn:=y0.mk g6
 have Bt:=y0.mk g7
 clear g1 g2 g3 g4 g5 g6 g7
 have HB:=y0.mk (Below.refl w.heap.size w)
 have Bu:=Tryz.underlying36
 go_enter Tryz.func23,Tryz.ntmps23
 go_wp2_with (first
  | ((with_reducible refine y16 (N:=1) rfl ?_);refine qe 1 #[.slice Bh Aa.length Bi,.int .i64 Ad,.string Af,.slice Bj Ab.length Bk,.slice Bl Ac.length Bm] 36 ?_;intro gt hg w1 hbox hb;have BKt:=y0.mk (hbox);have GEt:=y0.mk ((by rw [hg];exact HB.out.size:w.heap.size≤gt));replace HB:=y0.mk (y5 HB.out hb);clear hb hg hbox;obtain⟨Aw,Ay,Az,Ba,Bb,Bc,Bd,Be,Bf,Bg⟩:=QSet.bx5 BKt.out)
  | (go_at_call 43;(with_reducible refine(impl_Rule_least_bound.calls k _ _ Aa Ad Af _ _ Ab _ _ Ac gt (lsPLf k Aa Ad Af Ab Ac) (lsVRf k Aa Ad Af Ab Ac) (lsPTf k Aa Ad Af Ab Ac) (lsTB (lsANf k Aa Ad Af Ab Ac) (lsVRf k Aa Ad Af Ab Ac)) _ (Kd.C_below Ap.out HB.out) Ar.out (Kd.C_below As.out HB.out) At.out (Kd.C_below Au.out HB.out) Av.out ⟨fun l hl x hx=>(lsArg_spec (Bn.out l hl x hx)).2.1⟩ ⟨fun l hl x hx=>(lsArg_spec (Bn.out l hl x hx)).2.2.1⟩ ⟨fun l hl x hx=>(lsArg_spec (Bn.out l hl x hx)).2.2.2⟩ Bs Bp Bo Bq Br ⟨fun W g S l x y hb_ hm_ hl_ hx_=>impl_Rule_bound_1.calls k _ _ Aa Ad Af _ _ Ab _ _ Ac gt g S x y (lsANf k Aa Ad Af Ab Ac) (lsVRf k Aa Ad Af Ab Ac) W (Kd.C_below Ap.out (y5 HB.out hb_)) Ar.out (Kd.C_below As.out (y5 HB.out hb_)) At.out (Kd.C_below Au.out (y5 HB.out hb_)) Av.out (y7 BKt.out hb_) hm_ (Bt.out l hl_ x hx_) (lsArg_spec (Bn.out l hl_ x hx_)).2.2.1.1 (lsArg_spec (Bn.out l hl_ x hx_)).2.2.1.2.1 (fun s hs=>by obtain⟨e_,he_,rfl⟩:=(lsArg_spec (Bn.out l hl_ x hx_)).2.2.1.2.2 s hs;exact Bo.out e_ he_)⟩).mono ?_);rintro e_ w2 ⟨v_,rfl,ho,hb⟩;obtain⟨Ao,co,eo_⟩:=Kd.R_slice ho;subst eo_;(repeat first|clear Aw|clear Bc|clear Ay|clear Bd|clear Az|clear Be|clear Ba|clear Bf|clear Bb|clear Bg);have HOo:=y0.mk (Kd.R_lower ho (y4 HB.out));replace BKt:=y0.mk (y7 BKt.out hb);replace HB:=y0.mk (y5 HB.out hb);(try clear hb);(try clear hd_);(try clear ho);obtain⟨Aw,Ay,Az,Ba,Bb,Bc,Bd,Be,Bf,Bg⟩:=QSet.bx5 BKt.out))
 go_ret
 exact⟨_,by first|rfl|(simp [y12,y13] <;> rfl),HOo.out,HB.out⟩
end Go.Proofs.YtkdabljlfbmpdaaGreat.Pb
end
section
namespace Go.Proofs.YtkdabljlfbmpdaaGreat.Pb
open Go.RowKit Go.Proofs.YtkdabljlfbmpdaaGreatW.PrintWords Go.Proofs.YtkdabljlfbmpdaaGreatW.PrintLast Go.Proofs.YtkdabljlfbmpdaaGreatW.PrintMore
attribute [local go_sem] max2_int min2_int max_two min_two max_three min_three max_four min_four   -- for this text's walks alone
set_option linter.unusedVariables false
set_option linter.unusedSimpArgs false
def impl_Bound.f (k:Nat) (l0_0:List (S48)) (a0_1:Int) (a0_2:ByteArray) (l0_3:List Int) (l0_4:List (S33)):Option (List ByteArray):=(impl_hasForm.f k l0_0 a0_1 a0_2 l0_3 l0_4).bind fun t481=>(if t481=true then((impl_Rule_bound.f k l0_0 a0_1 a0_2 l0_3 l0_4).bind fun t482=>(some t482))else(some ([]:List ByteArray)))
set_option maxHeartbeats 8000000 in
set_option maxRecDepth 100000 in
theorem impl_Bound.calls (k:Nat) (Ah:Option Addr) (Ai:Nat) (Ab:List (S48)) (Af:Int) (Ag:ByteArray) (Aj:Option Addr) (Ak:Nat) (Ac:List Int) (Am:Option Addr) (Ap:Nat) (Ad:List (S33)) (r:List ByteArray) (w:World) (Ay:Kd.C k48 w Ah Ab.length Ab) (Az:Ab.length≤Ai) (Ba:Kd.C (Kd.int .i64) w Aj Ac.length Ac) (Bb:Ac.length≤Ak) (Bc:Kd.C k33 w Am Ad.length Ad) (Bd:Ad.length≤Ap) (h:impl_Bound.f k Ab Af Ag Ac Ad=some r) :
  Calls Tryz.prog 7 #[.agg #[.slice Ah Ab.length Ai,.int .i64 Af,.string Ag,.slice Aj Ac.length Ak,.slice Am Ad.length Ap]] w fun e w'=>∃ v0_:Value,e=.returned (v0_)∧Kd.R Kd.string 9 w' w.heap.size (fun _=>True) v0_ r∧Below w.heap.size w w':=by
 have Cq:=Tryz.underlying36
 have Ar:=y0.mk Ay
 have As:=y0.mk Az
 clear Ay Az
 have At:=y0.mk Ba
 have Au:=y0.mk Bb
 clear Ba Bb
 have Av:=y0.mk Bc
 have Aw:=y0.mk Bd
 clear Bc Bd
 have HB:=y0.mk (Below.refl w.heap.size w)
 have H:((impl_hasForm.f k Ab Af Ag Ac Ad).bind fun Be=>(if Be=true then((impl_Rule_bound.f k Ab Af Ag Ac Ad).bind fun Bf=>(some Bf))else(some ([]:List ByteArray))))=some r:=h
 clear h
 obtain⟨Be,A2,H⟩:=qB H
 by_cases c3:Be=true
 ·subst c3
  replace H:=qT H
  obtain⟨Bf,A4,H⟩:=qB H
  obtain rfl:=Option.some.inj H
  go_enter Tryz.func7,Tryz.ntmps7
  go_wp2_with (first|((with_reducible refine y16 (N:=1) rfl ?_);refine qe 1 #[.slice Ah Ab.length Ai,.int .i64 Af,.string Ag,.slice Aj Ac.length Ak,.slice Am Ad.length Ap] 36 ?_;intro Bg hg w5 hbox hb;have Aa:=y0.mk (hbox);have Bh:=y0.mk (qg (w:=w) hg);have Bi:=y0.mk (qg (w:=w) hg);replace HB:=y0.mk (y5 qb hb);clear hb hbox hg;obtain⟨Bu,Bv,Bw,Bx,Bz,Ca,Cb,Cc,Cd,Ce⟩:=qz5 Aa.out)|((with_reducible refine y15 (f:=22) rfl ?_);refine y17 (some 4) rfl rfl Tryz.func22 (by kernel_rfl) rfl #[.agg #[.slice Ah Ab.length Ai,.int .i64 Af,.string Ag,.slice Aj Ac.length Ak,.slice Am Ad.length Ap]] rfl qy1 ?_;(with_reducible refine(impl_hasForm.calls k _ _ Ab Af Ag _ _ Ac _ _ Ad true _ (qc (Kd.C_below Ar.out HB.out)) As.out (qc (Kd.C_below At.out HB.out)) Au.out (qc (Kd.C_below Av.out HB.out)) Aw.out A2.out).mono ?_);rintro e w7 ⟨rfl,hb⟩;refine⟨_,rfl, ?_⟩;replace Aa:=y0.mk (qK Aa.out hb);replace HB:=y0.mk (y5 qb hb);(try clear hb);obtain⟨Cf,Cg,Ch,Ci,Cj,Ck,Cl,Cm,Cn,Co⟩:=qz5 Aa.out)|((with_reducible refine y15 (f:=23) rfl ?_);refine y17 (some 7) rfl rfl Tryz.func23 (by kernel_rfl) rfl #[.agg #[.slice Ah Ab.length Ai,.int .i64 Af,.string Ag,.slice Aj Ac.length Ak,.slice Am Ad.length Ap]] rfl qy1 ?_;(with_reducible refine(impl_Rule_bound.calls k _ _ Ab Af Ag _ _ Ac _ _ Ad Bf _ (qc (Kd.C_below Ar.out HB.out)) As.out (qc (Kd.C_below At.out HB.out)) Au.out (qc (Kd.C_below Av.out HB.out)) Aw.out A4.out).mono ?_);rintro e w9 ⟨Cr,rfl,Cp,hb⟩;refine⟨_,rfl, ?_⟩;have Bj:=y0.mk (Kd.R_lower Cp (y4 qb));replace Aa:=y0.mk (qK Aa.out hb);replace HB:=y0.mk (y5 qb hb);(try clear hb);(try clear Cp)))
  go_ret
  exact⟨_,by first|rfl|(simp [y12,y13] <;> rfl)|(simp [*,y12,y13] <;> rfl),by(with_reducible repeat(first|apply Kd.R_alloc|apply Kd.R_drewN|apply Kd.R_drew));exact Bj.out,qb⟩
 ·replace c3:=Bool.eq_false_iff.mpr c3
  subst c3
  replace H:=qF H
  obtain rfl:=Option.some.inj H
  go_enter Tryz.func7,Tryz.ntmps7
  go_wp2_with (first|((with_reducible refine y16 (N:=1) rfl ?_);refine qe 1 #[.slice Ah Ab.length Ai,.int .i64 Af,.string Ag,.slice Aj Ac.length Ak,.slice Am Ad.length Ap] 36 ?_;intro Bg hg Cs hbox hb;have Aa:=y0.mk (hbox);have Bh:=y0.mk (qg (w:=w) hg);have Bi:=y0.mk (qg (w:=w) hg);replace HB:=y0.mk (y5 qb hb);clear hb hbox hg;obtain⟨Bk,Bl,Bm,Bn,Bo,Bp,Bq,Br,Bs,Bt⟩:=qz5 Aa.out)|((with_reducible refine y15 (f:=22) rfl ?_);refine y17 (some 4) rfl rfl Tryz.func22 (by kernel_rfl) rfl #[.agg #[.slice Ah Ab.length Ai,.int .i64 Af,.string Ag,.slice Aj Ac.length Ak,.slice Am Ad.length Ap]] rfl qy1 ?_;(with_reducible refine(impl_hasForm.calls k _ _ Ab Af Ag _ _ Ac _ _ Ad false _ (qc (Kd.C_below Ar.out HB.out)) As.out (qc (Kd.C_below At.out HB.out)) Au.out (qc (Kd.C_below Av.out HB.out)) Aw.out A2.out).mono ?_);rintro e Ct ⟨rfl,hb⟩;refine⟨_,rfl, ?_⟩;replace Aa:=y0.mk (qK Aa.out hb);replace HB:=y0.mk (y5 qb hb);(try clear hb)))
  go_ret
  exact⟨_,by first|rfl|(simp [y12,y13] <;> rfl)|(simp [*,y12,y13] <;> rfl),by first|exact Kd.R_nil _ _ _ _ _|exact Kd.N_nil _ _ _ _ _|exact Kd.V_nil _ _ _ _ _|exact Kd.Q_nil _ _ _ _ _|exact Kd.S_nil _ _ _ _ _,qb⟩
def laws_eqStringS.l0:Nat→List ByteArray→List ByteArray→Int→Option (Bool)
 | 0,_,_,_=>none
 | k + 1,x0,x1,x5=>if x5 < (x0.length:Int)then(if 0≤x5 then(if x5 < (x1.length:Int)then(if(rdOf ByteArray.empty x0 x5).toList=(rdOf ByteArray.empty x1 x5).toList then(laws_eqStringS.l0 k x0 x1 (wrap64 (x5 + 1)))else(some false))else(none))else(none))else(some true)
def laws_eqStringS.f (k:Nat) (l0:List ByteArray) (l1:List ByteArray):Option (Bool):=if(l0.length:Int)=(l1.length:Int)then(laws_eqStringS.l0 k l0 l1 0)else(some false)
set_option maxHeartbeats 8000000 in
set_option maxRecDepth 100000 in
theorem laws_eqStringS.calls (k:Nat) (A0:Option Addr) (c0:Nat) (l0:List ByteArray) (A1:Option Addr) (c1:Nat) (l1:List ByteArray) (r:Bool) (w:World) (Au:Kd.C Kd.string w A0 l0.length l0) (Av:l0.length≤c0) (Aw:Kd.C Kd.string w A1 l1.length l1) (Ay:l1.length≤c1) (h:laws_eqStringS.f k l0 l1=some r) :
  Calls Tryz.prog 8 #[.slice A0 l0.length c0,.slice A1 l1.length c1] w fun e w'=>e=.returned (.bool r)∧Drawn0 w w':=by
 have Bc:=y0.mk Au
 have Bg:=y0.mk Av
 clear Au Av
 have Bd:=y0.mk Aw
 have Bh:=y0.mk Ay
 clear Aw Ay
 have H:(if(l0.length:Int)=(l1.length:Int)then(laws_eqStringS.l0 k l0 l1 0)else(some false))=some r:=h
 clear h
 by_cases c3:(l0.length:Int)=(l1.length:Int)
 ·rw [if_pos c3]at H
  have Ag:((l0.length:Int) == (l1.length:Int))=true:=beq_iff_eq.mpr c3
  have Ah:((l0.length:Int) != (l1.length:Int))=false:=bne_eq_false_iff_eq.mpr c3
  have Ai:(l0.length == l1.length)=true:=by first|simpa using c3|(simp at c3 ⊢;omega)
  clear c3
  have H':=y0.mk H
  clear H
  go_enter Tryz.func8,Tryz.ntmps8
  go_wp2
  repeat(go_quiet (fail);try go_wp2)
  go_loopg [5] k (fun kq v5 w'=>∃(Aa:Int),v5=.int .i64 Aa∧y0 (laws_eqStringS.l0 kq l0 l1 Aa=some r)∧y0 (kq≤k)∧Drawn0 w w')
  case atStart=>exact⟨(0),qy2,H',⟨Nat.le_refl _⟩,by repeat(first|exact Drawn0.refl _|apply Drawn0.step)⟩
  case round =>
   clear H'
   (try clear Ag Ah Ai)
   obtain⟨Aa,rfl,HA,Az,⟨m1,rfl⟩⟩:=hrel
   cases gk with
   | zero=>exact absurd HA.out (by simp [laws_eqStringS.l0])
   | succ k1 =>
    have H:=HA.out
    clear HA
    simp only [laws_eqStringS.l0]at H
    by_cases c4:Aa < (l0.length:Int)
    ·rw [if_pos c4]at H
     have Am:=decide_eq_true c4
     clear c4
     obtain⟨c5,H⟩:=qo H
     have Be:decide (0≤Aa)=true:=decide_eq_true c5
     clear c5
     obtain⟨c6,H⟩:=qo H
     have Bf:decide (Aa < (l1.length:Int))=true:=decide_eq_true c6
     clear c6
     have Ab:0≤(Aa:Int):=of_decide_eq_true qy0
     have Ac:Aa < (l0.length:Int):=of_decide_eq_true qy0
     obtain⟨Ba,Ap,Aj⟩:=Kd.at_string Bc.out Aa Ab Ac
     cases Ap
     replace Ab:=eq_true Ab
     replace Ac:=eq_true Ac
     have Ad:0≤(Aa:Int):=of_decide_eq_true qy0
     have Af:Aa < (l1.length:Int):=of_decide_eq_true qy0
     obtain⟨Bb,Ar,Ak⟩:=Kd.at_string Bd.out Aa Ad Af
     cases Ar
     replace Ad:=eq_true Ad
     replace Af:=eq_true Af
     by_cases c7:(rdOf ByteArray.empty l0 Aa).toList=(rdOf ByteArray.empty l1 Aa).toList
     ·rw [if_pos c7]at H
      have As:((rdOf ByteArray.empty l0 Aa).toList == (rdOf ByteArray.empty l1 Aa).toList)=true:=beq_iff_eq.mpr c7
      have At:((rdOf ByteArray.empty l0 Aa).toList != (rdOf ByteArray.empty l1 Aa).toList)=false:=bne_eq_false_iff_eq.mpr c7
      clear c7
      have H':=y0.mk H
      clear H
      go_wp2
      repeat(go_quiet (fail);try go_wp2)
      go_roundg k1
      case measure=>have:=Az.out;omega
      exact⟨(wrap64 (Aa + 1)),qy2,H',⟨by have:=Az.out;omega⟩,by repeat(first|exact Drawn0.refl _|apply Drawn0.step)⟩
     ·rw [if_neg c7]at H
      have As:((rdOf ByteArray.empty l0 Aa).toList == (rdOf ByteArray.empty l1 Aa).toList)=false:=beq_eq_false_iff_ne.mpr c7
      have At:((rdOf ByteArray.empty l0 Aa).toList != (rdOf ByteArray.empty l1 Aa).toList)=true:=bne_iff_ne.mpr c7
      obtain rfl:=Option.some.inj H
      go_wp2
      repeat(go_quiet (fail);try go_wp2)
      go_ret
      exact qf2
    ·rw [if_neg c4]at H
     have Am:=decide_eq_false c4
     clear c4
     obtain rfl:=Option.some.inj H
     go_wp2
     repeat(go_quiet (fail);try go_wp2)
     go_ret
     exact qf2
 ·rw [if_neg c3]at H
  have Ag:((l0.length:Int) == (l1.length:Int))=false:=beq_eq_false_iff_ne.mpr c3
  have Ah:((l0.length:Int) != (l1.length:Int))=true:=bne_iff_ne.mpr c3
  have Ai:(l0.length == l1.length)=false:=by first|simpa using c3|(simp at c3 ⊢;omega)
  obtain rfl:=Option.some.inj H
  go_enter Tryz.func8,Tryz.ntmps8
  go_wp2
  repeat(go_quiet (fail);try go_wp2)
  go_ret
  exact qf2
def laws_eqIntS.l0:Nat→List Int→List Int→Int→Option (Bool)
 | 0,_,_,_=>none
 | k + 1,x0,x1,x5=>if x5 < (x0.length:Int)then(if 0≤x5 then(if x5 < (x1.length:Int)then(if(rd x0 x5)=(rd x1 x5)then(laws_eqIntS.l0 k x0 x1 (wrap64 (x5 + 1)))else(some false))else(none))else(none))else(some true)
def laws_eqIntS.f (k:Nat) (l0:List Int) (l1:List Int):Option (Bool):=if(l0.length:Int)=(l1.length:Int)then(laws_eqIntS.l0 k l0 l1 0)else(some false)
set_option maxHeartbeats 8000000 in
set_option maxRecDepth 100000 in
theorem laws_eqIntS.calls (k:Nat) (A0:Option Addr) (c0:Nat) (l0:List Int) (A1:Option Addr) (c1:Nat) (l1:List Int) (r:Bool) (w:World) (Au:Kd.C (Kd.int .i64) w A0 l0.length l0) (Av:l0.length≤c0) (Aw:Kd.C (Kd.int .i64) w A1 l1.length l1) (Ay:l1.length≤c1) (h:laws_eqIntS.f k l0 l1=some r) :
  Calls Tryz.prog 50 #[.slice A0 l0.length c0,.slice A1 l1.length c1] w fun e w'=>e=.returned (.bool r)∧Drawn0 w w':=by
 have Bc:=y0.mk Au
 have Bg:=y0.mk Av
 clear Au Av
 have Bd:=y0.mk Aw
 have Bh:=y0.mk Ay
 clear Aw Ay
 have H:(if(l0.length:Int)=(l1.length:Int)then(laws_eqIntS.l0 k l0 l1 0)else(some false))=some r:=h
 clear h
 by_cases c3:(l0.length:Int)=(l1.length:Int)
 ·rw [if_pos c3]at H
  have Ag:((l0.length:Int) == (l1.length:Int))=true:=beq_iff_eq.mpr c3
  have Ah:((l0.length:Int) != (l1.length:Int))=false:=bne_eq_false_iff_eq.mpr c3
  have Ai:(l0.length == l1.length)=true:=by first|simpa using c3|(simp at c3 ⊢;omega)
  clear c3
  have H':=y0.mk H
  clear H
  go_enter Tryz.func50,Tryz.ntmps50
  go_wp2
  repeat(go_quiet (fail);try go_wp2)
  go_loopg [5] k (fun kq v5 w'=>∃(Aa:Int),v5=.int .i64 Aa∧y0 (laws_eqIntS.l0 kq l0 l1 Aa=some r)∧y0 (kq≤k)∧Drawn0 w w')
  case atStart=>exact⟨(0),qy2,H',⟨Nat.le_refl _⟩,by repeat(first|exact Drawn0.refl _|apply Drawn0.step)⟩
  case round =>
   clear H'
   (try clear Ag Ah Ai)
   obtain⟨Aa,rfl,HA,Az,⟨m1,rfl⟩⟩:=hrel
   cases gk with
   | zero=>exact absurd HA.out (by simp [laws_eqIntS.l0])
   | succ k1 =>
    have H:=HA.out
    clear HA
    simp only [laws_eqIntS.l0]at H
    by_cases c4:Aa < (l0.length:Int)
    ·rw [if_pos c4]at H
     have Am:=decide_eq_true c4
     clear c4
     obtain⟨c5,H⟩:=qo H
     have Be:decide (0≤Aa)=true:=decide_eq_true c5
     clear c5
     obtain⟨c6,H⟩:=qo H
     have Bf:decide (Aa < (l1.length:Int))=true:=decide_eq_true c6
     clear c6
     have Ab:0≤(Aa:Int):=of_decide_eq_true qy0
     have Ac:Aa < (l0.length:Int):=of_decide_eq_true qy0
     obtain⟨Ba,Ap,Aj⟩:=Kd.at_int Bc.out Aa Ab Ac
     cases Ap
     replace Ab:=eq_true Ab
     replace Ac:=eq_true Ac
     have Ad:0≤(Aa:Int):=of_decide_eq_true qy0
     have Af:Aa < (l1.length:Int):=of_decide_eq_true qy0
     obtain⟨Bb,Ar,Ak⟩:=Kd.at_int Bd.out Aa Ad Af
     cases Ar
     replace Ad:=eq_true Ad
     replace Af:=eq_true Af
     by_cases c7:(rd l0 Aa)=(rd l1 Aa)
     ·rw [if_pos c7]at H
      have As:((rd l0 Aa) == (rd l1 Aa))=true:=beq_iff_eq.mpr c7
      have At:((rd l0 Aa) != (rd l1 Aa))=false:=bne_eq_false_iff_eq.mpr c7
      clear c7
      have H':=y0.mk H
      clear H
      go_wp2
      repeat(go_quiet (fail);try go_wp2)
      go_roundg k1
      case measure=>have:=Az.out;omega
      exact⟨(wrap64 (Aa + 1)),qy2,H',⟨by have:=Az.out;omega⟩,by repeat(first|exact Drawn0.refl _|apply Drawn0.step)⟩
     ·rw [if_neg c7]at H
      have As:((rd l0 Aa) == (rd l1 Aa))=false:=beq_eq_false_iff_ne.mpr c7
      have At:((rd l0 Aa) != (rd l1 Aa))=true:=bne_iff_ne.mpr c7
      obtain rfl:=Option.some.inj H
      go_wp2
      repeat(go_quiet (fail);try go_wp2)
      go_ret
      exact qf2
    ·rw [if_neg c4]at H
     have Am:=decide_eq_false c4
     clear c4
     obtain rfl:=Option.some.inj H
     go_wp2
     repeat(go_quiet (fail);try go_wp2)
     go_ret
     exact qf2
 ·rw [if_neg c3]at H
  have Ag:((l0.length:Int) == (l1.length:Int))=false:=beq_eq_false_iff_ne.mpr c3
  have Ah:((l0.length:Int) != (l1.length:Int))=true:=bne_iff_ne.mpr c3
  have Ai:(l0.length == l1.length)=false:=by first|simpa using c3|(simp at c3 ⊢;omega)
  obtain rfl:=Option.some.inj H
  go_enter Tryz.func50,Tryz.ntmps50
  go_wp2
  repeat(go_quiet (fail);try go_wp2)
  go_ret
  exact qf2
def laws_eqExp.f (k:Nat) (a0_0:Int) (a0_1:ByteArray) (l0_2:List Int) (a1_0:Int) (a1_1:ByteArray) (l1_2:List Int):Option (Bool):=if a0_0=a1_0 then(if a0_1.toList=a1_1.toList then((laws_eqIntS.f k l0_2 l1_2).bind fun t491=>(if t491=true then(some true)else(some false)))else(some false))else(some false)
set_option maxHeartbeats 8000000 in
set_option maxRecDepth 100000 in
theorem laws_eqExp.calls (k:Nat) (Ag:Int) (Ah:ByteArray) (Am:Option Addr) (Ap:Nat) (Ad:List Int) (Ai:Int) (Aj:ByteArray) (Ar:Option Addr) (As:Nat) (Af:List Int) (r:Bool) (w:World) (Ba:Kd.C (Kd.int .i64) w Am Ad.length Ad) (Bb:Ad.length≤Ap) (Bc:Kd.C (Kd.int .i64) w Ar Af.length Af) (Bd:Af.length≤As) (h:laws_eqExp.f k Ag Ah Ad Ai Aj Af=some r) :
  Calls Tryz.prog 49 #[.agg #[.int .i64 Ag,.string Ah,.slice Am Ad.length Ap],.agg #[.int .i64 Ai,.string Aj,.slice Ar Af.length As]] w fun e w'=>e=.returned (.bool r)∧Below w.heap.size w w':=by
 have Dr:=Tryz.underlying48
 have Be:=y0.mk Ba
 have Bf:=y0.mk Bb
 clear Ba Bb
 have Bg:=y0.mk Bc
 have Bh:=y0.mk Bd
 clear Bc Bd
 have HB:=y0.mk (Below.refl w.heap.size w)
 have H:(if Ag=Ai then(if Ah.toList=Aj.toList then((laws_eqIntS.f k Ad Af).bind fun Bi=>(if Bi=true then(some true)else(some false)))else(some false))else(some false))=some r:=h
 clear h
 by_cases c3:Ag=Ai
 ·rw [if_pos c3]at H
  have Dg:(Ag == Ai)=true:=beq_iff_eq.mpr c3
  have Dh:(Ag != Ai)=false:=bne_eq_false_iff_eq.mpr c3
  clear c3
  by_cases c4:Ah.toList=Aj.toList
  ·rw [if_pos c4]at H
   have Di:(Ah.toList == Aj.toList)=true:=beq_iff_eq.mpr c4
   have Dj:(Ah.toList != Aj.toList)=false:=bne_eq_false_iff_eq.mpr c4
   clear c4
   obtain⟨Bi,A5,H⟩:=qB H
   by_cases c6:Bi=true
   ·subst c6
    replace H:=qT H
    obtain rfl:=Option.some.inj H
    go_enter Tryz.func49,Tryz.ntmps49
    go_wp2_with (first|((with_reducible refine y16 (N:=2) rfl ?_);refine qe 2 #[.int .i64 Ag,.string Ah,.slice Am Ad.length Ap] 48 ?_;intro At hg w7 hbox hb;have Aa:=y0.mk (hbox);have Au:=y0.mk (qg (w:=w) hg);have Av:=y0.mk (qg (w:=w) hg);replace HB:=y0.mk (y5 qb hb);clear hb hbox hg)|((with_reducible refine y16 (N:=3) rfl ?_);refine qe 3 #[.int .i64 Ai,.string Aj,.slice Ar Af.length As] 48 ?_;intro Aw hg w8 hbox hb;have Ak:=y0.mk (hbox);have Ay:=y0.mk (qg (w:=w) hg);have Az:=y0.mk (qg (w:=w) hg);replace HB:=y0.mk (y5 qb hb);have Ab:=y0.mk (qn Aa.out hg);have Ac:=y0.mk (qm Aa.out hg);replace Aa:=y0.mk (qK Aa.out hb);clear hb hbox hg;have Ds:=Ab.out;have Dt:=Ac.out;obtain⟨Bj,Bk,Bl,Bm,Bn,Bo⟩:=qz3 Aa.out;obtain⟨Bp,Bq,Br,Bs,Bt,Bu⟩:=qz3 Ak.out)|((with_reducible refine y15 (f:=50) rfl ?_);refine y17 (some 19) rfl rfl Tryz.func50 (by kernel_rfl) rfl #[.slice Am Ad.length Ap,.slice Ar Af.length As] rfl qy1 ?_;(with_reducible refine(laws_eqIntS.calls k _ _ Ad _ _ Af true _ (qc (Kd.C_below Be.out HB.out)) Bf.out (qc (Kd.C_below Bg.out HB.out)) Bh.out A5.out).mono ?_);rintro e w' ⟨rfl,⟨nd,rfl⟩⟩;refine⟨_,rfl, ?_⟩))
    go_ret
    exact⟨qf,qb⟩
   ·replace c6:=Bool.eq_false_iff.mpr c6
    subst c6
    replace H:=qF H
    obtain rfl:=Option.some.inj H
    go_enter Tryz.func49,Tryz.ntmps49
    go_wp2_with (first|((with_reducible refine y16 (N:=2) rfl ?_);refine qe 2 #[.int .i64 Ag,.string Ah,.slice Am Ad.length Ap] 48 ?_;intro At hg Du hbox hb;have Aa:=y0.mk (hbox);have Au:=y0.mk (qg (w:=w) hg);have Av:=y0.mk (qg (w:=w) hg);replace HB:=y0.mk (y5 qb hb);clear hb hbox hg)|((with_reducible refine y16 (N:=3) rfl ?_);refine qe 3 #[.int .i64 Ai,.string Aj,.slice Ar Af.length As] 48 ?_;intro Aw hg Dw hbox hb;have Ak:=y0.mk (hbox);have Ay:=y0.mk (qg (w:=w) hg);have Az:=y0.mk (qg (w:=w) hg);replace HB:=y0.mk (y5 qb hb);have Ab:=y0.mk (qn Aa.out hg);have Ac:=y0.mk (qm Aa.out hg);replace Aa:=y0.mk (qK Aa.out hb);clear hb hbox hg;have Dk:=Ab.out;have Dl:=Ac.out;obtain⟨Bv,Bw,Bx,Bz,Ca,Cb⟩:=qz3 Aa.out;obtain⟨Cc,Cd,Ce,Cf,Cg,Ch⟩:=qz3 Ak.out)|((with_reducible refine y15 (f:=50) rfl ?_);refine y17 (some 19) rfl rfl Tryz.func50 (by kernel_rfl) rfl #[.slice Am Ad.length Ap,.slice Ar Af.length As] rfl qy1 ?_;(with_reducible refine(laws_eqIntS.calls k _ _ Ad _ _ Af false _ (qc (Kd.C_below Be.out HB.out)) Bf.out (qc (Kd.C_below Bg.out HB.out)) Bh.out A5.out).mono ?_);rintro e w' ⟨rfl,⟨nd,rfl⟩⟩;refine⟨_,rfl, ?_⟩))
    go_ret
    exact⟨qf,qb⟩
  ·rw [if_neg c4]at H
   have Di:(Ah.toList == Aj.toList)=false:=beq_eq_false_iff_ne.mpr c4
   have Dj:(Ah.toList != Aj.toList)=true:=bne_iff_ne.mpr c4
   obtain rfl:=Option.some.inj H
   go_enter Tryz.func49,Tryz.ntmps49
   go_wp2_with (first|((with_reducible refine y16 (N:=2) rfl ?_);refine qe 2 #[.int .i64 Ag,.string Ah,.slice Am Ad.length Ap] 48 ?_;intro At hg Dx hbox hb;have Aa:=y0.mk (hbox);have Au:=y0.mk (qg (w:=w) hg);have Av:=y0.mk (qg (w:=w) hg);replace HB:=y0.mk (y5 qb hb);clear hb hbox hg)|((with_reducible refine y16 (N:=3) rfl ?_);refine qe 3 #[.int .i64 Ai,.string Aj,.slice Ar Af.length As] 48 ?_;intro Aw hg Dy hbox hb;have Ak:=y0.mk (hbox);have Ay:=y0.mk (qg (w:=w) hg);have Az:=y0.mk (qg (w:=w) hg);replace HB:=y0.mk (y5 qb hb);have Ab:=y0.mk (qn Aa.out hg);have Ac:=y0.mk (qm Aa.out hg);replace Aa:=y0.mk (qK Aa.out hb);clear hb hbox hg;have Dm:=Ab.out;have Do:=Ac.out;obtain⟨Ci,Cj,Ck,Cl,Cm,Cn⟩:=qz3 Aa.out;obtain⟨Co,Cp,Cq,Cr,Cs,Ct⟩:=qz3 Ak.out))
   go_ret
   exact⟨qf,qb⟩
 ·rw [if_neg c3]at H
  have Dg:(Ag == Ai)=false:=beq_eq_false_iff_ne.mpr c3
  have Dh:(Ag != Ai)=true:=bne_iff_ne.mpr c3
  obtain rfl:=Option.some.inj H
  go_enter Tryz.func49,Tryz.ntmps49
  go_wp2_with (first|((with_reducible refine y16 (N:=2) rfl ?_);refine qe 2 #[.int .i64 Ag,.string Ah,.slice Am Ad.length Ap] 48 ?_;intro At hg Dz hbox hb;have Aa:=y0.mk (hbox);have Au:=y0.mk (qg (w:=w) hg);have Av:=y0.mk (qg (w:=w) hg);replace HB:=y0.mk (y5 qb hb);clear hb hbox hg)|((with_reducible refine y16 (N:=3) rfl ?_);refine qe 3 #[.int .i64 Ai,.string Aj,.slice Ar Af.length As] 48 ?_;intro Aw hg Ea hbox hb;have Ak:=y0.mk (hbox);have Ay:=y0.mk (qg (w:=w) hg);have Az:=y0.mk (qg (w:=w) hg);replace HB:=y0.mk (y5 qb hb);have Ab:=y0.mk (qn Aa.out hg);have Ac:=y0.mk (qm Aa.out hg);replace Aa:=y0.mk (qK Aa.out hb);clear hb hbox hg;have Dp:=Ab.out;have Dq:=Ac.out;obtain⟨Cu,Cv,Cw,Cx,Cy,Cz⟩:=qz3 Aa.out;obtain⟨Da,Db,Dc,Dd,De,Df⟩:=qz3 Ak.out))
  go_ret
  exact⟨qf,qb⟩
end Go.Proofs.YtkdabljlfbmpdaaGreat.Pb
end
section
namespace Go.Proofs.YtkdabljlfbmpdaaGreat.Pb
open Go.RowKit Go.Proofs.YtkdabljlfbmpdaaGreatW.PrintWords Go.Proofs.YtkdabljlfbmpdaaGreatW.PrintLast Go.Proofs.YtkdabljlfbmpdaaGreatW.PrintMore
attribute [local go_sem] max2_int min2_int max_two min_two max_three min_three max_four min_four   -- for this text's walks alone
set_option linter.unusedVariables false
set_option linter.unusedSimpArgs false
def laws_eqExpS.l0:Nat→List (S48)→List (S48)→Int→Option (Bool)
 | 0,_,_,_=>none
 | k + 1,x0,x1,x5=>if x5 < (x0.length:Int)then(if 0≤x5 then(if x5 < (x1.length:Int)then((laws_eqExp.f k ((y20 x0 x5).f0) ((y20 x0 x5).f1) ((y20 x0 x5).f2) ((y20 x1 x5).f0) ((y20 x1 x5).f1) ((y20 x1 x5).f2)).bind fun t494=>(if t494=true then(laws_eqExpS.l0 k x0 x1 (wrap64 (x5 + 1)))else(some false)))else(none))else(none))else(some true)
def laws_eqExpS.f (k:Nat) (l0:List (S48)) (l1:List (S48)):Option (Bool):=if(l0.length:Int)=(l1.length:Int)then(laws_eqExpS.l0 k l0 l1 0)else(some false)
def laws_eqExpS.T6:Bool×List (List Nat×List Nat):=(true,[([],[]),([],[]),([0,1],[0,1]),([2],[2]),([],[]),([],[]),([4,5],[4,5]),([6],[6]),([3,7],[3,7]),([8],[8])])
def laws_eqExpS.B6:List Nat:=[0,0,3,7,0,0,48,112,255,511]
theorem laws_eqExpS.tab6:rtab .any (opsOf Tryz.f24 6)=laws_eqExpS.T6:=by kernel_rfl
theorem laws_eqExpS.bits6:waitsOk laws_eqExpS.T6.2 laws_eqExpS.B6=true:=by kernel_rfl
set_option maxHeartbeats 8000000 in
set_option maxRecDepth 100000 in
theorem laws_eqExpS.calls (k:Nat) (A0:Option Addr) (c0:Nat) (l0:List (S48)) (A1:Option Addr) (c1:Nat) (l1:List (S48)) (r:Bool) (w:World) (Bs:Kd.C k48 w A0 l0.length l0) (Bt:l0.length≤c0) (Bu:Kd.C k48 w A1 l1.length l1) (Bv:l1.length≤c1) (h:laws_eqExpS.f k l0 l1=some r) :
  Calls Tryz.prog 24 #[.slice A0 l0.length c0,.slice A1 l1.length c1] w fun e w'=>e=.returned (.bool r)∧Below w.heap.size w w':=by
 have Bx:=Tryz.underlying48
 have Bz:=y0.mk Bs
 have Cd:=y0.mk Bt
 clear Bs Bt
 have Ca:=y0.mk Bu
 have Ce:=y0.mk Bv
 clear Bu Bv
 have HB:=y0.mk (Below.refl w.heap.size w)
 have H:(if(l0.length:Int)=(l1.length:Int)then(laws_eqExpS.l0 k l0 l1 0)else(some false))=some r:=h
 clear h
 by_cases c3:(l0.length:Int)=(l1.length:Int)
 ·rw [if_pos c3]at H
  have Bl:((l0.length:Int) == (l1.length:Int))=true:=beq_iff_eq.mpr c3
  have Bm:((l0.length:Int) != (l1.length:Int))=false:=bne_eq_false_iff_eq.mpr c3
  have Bn:(l0.length == l1.length)=true:=by first|simpa using c3|(simp at c3 ⊢;omega)
  clear c3
  have H':=y0.mk H
  clear H
  go_enter Tryz.func24,Tryz.ntmps24
  go_wp2
  go_loopg [5] k (fun kq v5 w'=>∃(Aa:Int),v5=.int .i64 Aa∧y0 (laws_eqExpS.l0 kq l0 l1 Aa=some r)∧y0 (kq≤k)∧y0 (Below w.heap.size w w'))
  case atStart=>exact⟨(0),qy2,H',⟨Nat.le_refl _⟩,⟨qb⟩⟩
  case round =>
   clear H'
   (try clear Bl Bm Bn)
   obtain⟨Aa,rfl,HA,Bw,HB⟩:=hrel
   cases gk with
   | zero=>exact absurd HA.out (by simp [laws_eqExpS.l0])
   | succ k1 =>
    have H:=HA.out
    clear HA
    simp only [laws_eqExpS.l0]at H
    by_cases c4:Aa < (l0.length:Int)
    ·rw [if_pos c4]at H
     have Bo:=decide_eq_true c4
     clear c4
     obtain⟨c5,H⟩:=qo H
     have Cb:decide (0≤Aa)=true:=decide_eq_true c5
     clear c5
     obtain⟨c6,H⟩:=qo H
     have Cc:decide (Aa < (l1.length:Int))=true:=decide_eq_true c6
     clear c6
     obtain⟨Bp,A7,H⟩:=qB H
     try go_wp2
     replace HB:=y0.mk (y2 HB.out)
     have Bh:0≤(Aa:Int):=of_decide_eq_true qy0
     have Bi:Aa < (l0.length:Int):=of_decide_eq_true qy0
     obtain⟨Au,Aw,Ay,Bq,Ai,Aj,Ak,Bb,Bc⟩:=at_T48 Bz.out Aa Bh Bi
     have Ab:=Ak
     have Ac:=Aj
     have Ad:=Ai
     cases Bq
     replace Ai:=(HB.out.cell (World.block_lt_of_cell? w _ Ai)).trans Ai
     replace Aj:=(HB.out.cell (World.block_lt_of_cell? w _ Aj)).trans Aj
     replace Ak:=(HB.out.cell (World.block_lt_of_cell? w _ Ak)).trans Ak
     have As:=y0.mk Bc
     have Bd:=y0.mk Bb
     clear Bc Bb
     replace Bh:=eq_true Bh
     replace Bi:=eq_true Bi
     have Bj:0≤(Aa:Int):=of_decide_eq_true qy0
     have Bk:Aa < (l1.length:Int):=of_decide_eq_true qy0
     obtain⟨Av,Az,Ba,Br,Am,Ap,Ar,Be,Bf⟩:=at_T48 Ca.out Aa Bj Bk
     have Af:=Ar
     have Ag:=Ap
     have Ah:=Am
     cases Br
     replace Am:=(HB.out.cell (World.block_lt_of_cell? w _ Am)).trans Am
     replace Ap:=(HB.out.cell (World.block_lt_of_cell? w _ Ap)).trans Ap
     replace Ar:=(HB.out.cell (World.block_lt_of_cell? w _ Ar)).trans Ar
     have At:=y0.mk Bf
     have Bg:=y0.mk Be
     clear Bf Be
     replace Bj:=eq_true Bj
     replace Bk:=eq_true Bk
     refine start_ (n:=10) (S:=fun w'=>w'.cell? (Au.add ((Aa).toNat * 3))=some (.int .i64 ((y20 l0 Aa).f0))∧w'.cell? ⟨(Au.add ((Aa).toNat * 3)).block,(Au.add ((Aa).toNat * 3)).off + 1,none⟩=some (.string ((y20 l0 Aa).f1))∧w'.cell? ⟨(Au.add ((Aa).toNat * 3)).block,(Au.add ((Aa).toNat * 3)).off + 2,none⟩=some (.slice Aw ((y20 l0 Aa).f2).length Ay)∧w'.cell? (Av.add ((Aa).toNat * 3))=some (.int .i64 ((y20 l1 Aa).f0))∧w'.cell? ⟨(Av.add ((Aa).toNat * 3)).block,(Av.add ((Aa).toNat * 3)).off + 1,none⟩=some (.string ((y20 l1 Aa).f1))∧w'.cell? ⟨(Av.add ((Aa).toNat * 3)).block,(Av.add ((Aa).toNat * 3)).off + 2,none⟩=some (.slice Az ((y20 l1 Aa).f2).length Ba)) (ds:=[]) (fl_ 10 0) (by kernel_rfl) rfl rfl ⟨((HB.out.cell (World.block_lt_of_cell? w _ Ad)).trans Ad),((HB.out.cell (World.block_lt_of_cell? w _ Ac)).trans Ac),((HB.out.cell (World.block_lt_of_cell? w _ Ab)).trans Ab),((HB.out.cell (World.block_lt_of_cell? w _ Ah)).trans Ah),((HB.out.cell (World.block_lt_of_cell? w _ Ag)).trans Ag),((HB.out.cell (World.block_lt_of_cell? w _ Af)).trans Af)⟩ (fun hHeld=>?_);refine with_tabW laws_eqExpS.tab6 laws_eqExpS.bits6 (fun HT_ HW_=>?_)
     generalize wr.drew=w9 at HB As At Ai Aj Ak Am Ap Ar hHeld ⊢
     refine qp3 0 17 10 ?_
     by_cases c8:Bp=true
     ·subst c8
      replace H:=qT H
      have H':=y0.mk H
      clear H
      refine qp 4 21 (fl_ 10 23) ?_
      refine qp 5 22 (fl_ 10 55) ?_
      refine qp 6 23 (fl_ 10 119) ?_
      refine qt 3 20 (fl_ 10 127) hHeld ?_
      refine qt 7 24 (fl_ 10 255) hHeld ?_
      refine qO 8 25 (fl_ 10 511) (fun K hK=>?_)
      refine goes_ Tryz.func49 (by kernel_rfl) rfl #[.agg #[.int .i64 ((y20 l0 Aa).f0),.string ((y20 l0 Aa).f1),.slice Aw ((y20 l0 Aa).f2).length Ay],.agg #[.int .i64 ((y20 l1 Aa).f0),.string ((y20 l1 Aa).f1),.slice Az ((y20 l1 Aa).f2).length Ba]] (by rfl) rfl rfl qy1 ?_
      with_reducible refine(laws_eqExp.calls k1 ((y20 l0 Aa).f0) ((y20 l0 Aa).f1) _ _ ((y20 l0 Aa).f2) ((y20 l1 Aa).f0) ((y20 l1 Aa).f1) _ _ ((y20 l1 Aa).f2) true _ (qc (Kd.C_below As.out HB.out)) Bd.out (qc (Kd.C_below At.out HB.out)) Bg.out A7.out).mono ?_
      rintro e Cf ⟨rfl,hb⟩
      refine⟨_,rfl, ?_⟩
      replace HB:=y0.mk (y5 qb hb)
      (try clear hb)
      refine hK.out _ _ ⟨((HB.out.cell (World.block_lt_of_cell? w _ Ad)).trans Ad),((HB.out.cell (World.block_lt_of_cell? w _ Ac)).trans Ac),((HB.out.cell (World.block_lt_of_cell? w _ Ab)).trans Ab),((HB.out.cell (World.block_lt_of_cell? w _ Ah)).trans Ah),((HB.out.cell (World.block_lt_of_cell? w _ Ag)).trans Ag),((HB.out.cell (World.block_lt_of_cell? w _ Af)).trans Af)⟩ (fun hHeld=>?_)
      clear hK K
      refine qx 25 ?_
      refine qp 9 26 (fl_ 10 1023) ?_
      refine done_ (done_of HT_.out (by kernel_rfl)) ?_
      try go_wp2
      go_roundg k1
      case measure=>have:=Bw.out;omega
      exact⟨(wrap64 (Aa + 1)),qy2,H',⟨by have:=Bw.out;omega⟩,⟨qb⟩⟩
     ·replace c8:=Bool.eq_false_iff.mpr c8
      subst c8
      replace H:=qF H
      obtain rfl:=Option.some.inj H
      refine qp 4 21 (fl_ 10 23) ?_
      refine qp 5 22 (fl_ 10 55) ?_
      refine qp 6 23 (fl_ 10 119) ?_
      refine qt 3 20 (fl_ 10 127) hHeld ?_
      refine qt 7 24 (fl_ 10 255) hHeld ?_
      refine qO 8 25 (fl_ 10 511) (fun K hK=>?_)
      refine goes_ Tryz.func49 (by kernel_rfl) rfl #[.agg #[.int .i64 ((y20 l0 Aa).f0),.string ((y20 l0 Aa).f1),.slice Aw ((y20 l0 Aa).f2).length Ay],.agg #[.int .i64 ((y20 l1 Aa).f0),.string ((y20 l1 Aa).f1),.slice Az ((y20 l1 Aa).f2).length Ba]] (by rfl) rfl rfl qy1 ?_
      with_reducible refine(laws_eqExp.calls k1 ((y20 l0 Aa).f0) ((y20 l0 Aa).f1) _ _ ((y20 l0 Aa).f2) ((y20 l1 Aa).f0) ((y20 l1 Aa).f1) _ _ ((y20 l1 Aa).f2) false _ (qc (Kd.C_below As.out HB.out)) Bd.out (qc (Kd.C_below At.out HB.out)) Bg.out A7.out).mono ?_
      rintro e Cg ⟨rfl,hb⟩
      refine⟨_,rfl, ?_⟩
      replace HB:=y0.mk (y5 qb hb)
      (try clear hb)
      refine hK.out _ _ ⟨((HB.out.cell (World.block_lt_of_cell? w _ Ad)).trans Ad),((HB.out.cell (World.block_lt_of_cell? w _ Ac)).trans Ac),((HB.out.cell (World.block_lt_of_cell? w _ Ab)).trans Ab),((HB.out.cell (World.block_lt_of_cell? w _ Ah)).trans Ah),((HB.out.cell (World.block_lt_of_cell? w _ Ag)).trans Ag),((HB.out.cell (World.block_lt_of_cell? w _ Af)).trans Af)⟩ (fun hHeld=>?_)
      clear hK K
      refine qx 25 ?_
      refine qp 9 26 (fl_ 10 1023) ?_
      refine done_ (done_of HT_.out (by kernel_rfl)) ?_
      try go_wp2
      go_ret
      exact⟨qf,qb⟩
    ·rw [if_neg c4]at H
     have Bo:=decide_eq_false c4
     clear c4
     obtain rfl:=Option.some.inj H
     go_wp2
     go_ret
     exact⟨qf,qb⟩
 ·rw [if_neg c3]at H
  have Bl:((l0.length:Int) == (l1.length:Int))=false:=beq_eq_false_iff_ne.mpr c3
  have Bm:((l0.length:Int) != (l1.length:Int))=true:=bne_iff_ne.mpr c3
  have Bn:(l0.length == l1.length)=false:=by first|simpa using c3|(simp at c3 ⊢;omega)
  obtain rfl:=Option.some.inj H
  go_enter Tryz.func24,Tryz.ntmps24
  go_wp2
  go_ret
  exact⟨qf,qb⟩
def laws_eqLit.f (k:Nat) (a0_0:Int) (a0_1:ByteArray) (l0_2:List Int) (a1_0:Int) (a1_1:ByteArray) (l1_2:List Int):Option (Bool):=if a0_0=a1_0 then(if a0_1.toList=a1_1.toList then((laws_eqIntS.f k l0_2 l1_2).bind fun t497=>(if t497=true then(some true)else(some false)))else(some false))else(some false)
set_option maxHeartbeats 8000000 in
set_option maxRecDepth 100000 in
theorem laws_eqLit.calls (k:Nat) (Ag:Int) (Ah:ByteArray) (Am:Option Addr) (Ap:Nat) (Ad:List Int) (Ai:Int) (Aj:ByteArray) (Ar:Option Addr) (As:Nat) (Af:List Int) (r:Bool) (w:World) (Ba:Kd.C (Kd.int .i64) w Am Ad.length Ad) (Bb:Ad.length≤Ap) (Bc:Kd.C (Kd.int .i64) w Ar Af.length Af) (Bd:Af.length≤As) (h:laws_eqLit.f k Ag Ah Ad Ai Aj Af=some r) :
  Calls Tryz.prog 25 #[.agg #[.int .i64 Ag,.string Ah,.slice Am Ad.length Ap],.agg #[.int .i64 Ai,.string Aj,.slice Ar Af.length As]] w fun e w'=>e=.returned (.bool r)∧Below w.heap.size w w':=by
 have Dr:=Tryz.underlying33
 have Be:=y0.mk Ba
 have Bf:=y0.mk Bb
 clear Ba Bb
 have Bg:=y0.mk Bc
 have Bh:=y0.mk Bd
 clear Bc Bd
 have HB:=y0.mk (Below.refl w.heap.size w)
 have H:(if Ag=Ai then(if Ah.toList=Aj.toList then((laws_eqIntS.f k Ad Af).bind fun Bi=>(if Bi=true then(some true)else(some false)))else(some false))else(some false))=some r:=h
 clear h
 by_cases c3:Ag=Ai
 ·rw [if_pos c3]at H
  have Dg:(Ag == Ai)=true:=beq_iff_eq.mpr c3
  have Dh:(Ag != Ai)=false:=bne_eq_false_iff_eq.mpr c3
  clear c3
  by_cases c4:Ah.toList=Aj.toList
  ·rw [if_pos c4]at H
   have Di:(Ah.toList == Aj.toList)=true:=beq_iff_eq.mpr c4
   have Dj:(Ah.toList != Aj.toList)=false:=bne_eq_false_iff_eq.mpr c4
   clear c4
   obtain⟨Bi,A5,H⟩:=qB H
   by_cases c6:Bi=true
   ·subst c6
    replace H:=qT H
    obtain rfl:=Option.some.inj H
    go_enter Tryz.func25,Tryz.ntmps25
    go_wp2_with (first|((with_reducible refine y16 (N:=2) rfl ?_);refine qe 2 #[.int .i64 Ag,.string Ah,.slice Am Ad.length Ap] 33 ?_;intro At hg w7 hbox hb;have Aa:=y0.mk (hbox);have Au:=y0.mk (qg (w:=w) hg);have Av:=y0.mk (qg (w:=w) hg);replace HB:=y0.mk (y5 qb hb);clear hb hbox hg)|((with_reducible refine y16 (N:=3) rfl ?_);refine qe 3 #[.int .i64 Ai,.string Aj,.slice Ar Af.length As] 33 ?_;intro Aw hg w8 hbox hb;have Ak:=y0.mk (hbox);have Ay:=y0.mk (qg (w:=w) hg);have Az:=y0.mk (qg (w:=w) hg);replace HB:=y0.mk (y5 qb hb);have Ab:=y0.mk (qn Aa.out hg);have Ac:=y0.mk (qm Aa.out hg);replace Aa:=y0.mk (qK Aa.out hb);clear hb hbox hg;have Ds:=Ab.out;have Dt:=Ac.out;obtain⟨Bj,Bk,Bl,Bm,Bn,Bo⟩:=qz3 Aa.out;obtain⟨Bp,Bq,Br,Bs,Bt,Bu⟩:=qz3 Ak.out)|((with_reducible refine y15 (f:=50) rfl ?_);refine y17 (some 19) rfl rfl Tryz.func50 (by kernel_rfl) rfl #[.slice Am Ad.length Ap,.slice Ar Af.length As] rfl qy1 ?_;(with_reducible refine(laws_eqIntS.calls k _ _ Ad _ _ Af true _ (qc (Kd.C_below Be.out HB.out)) Bf.out (qc (Kd.C_below Bg.out HB.out)) Bh.out A5.out).mono ?_);rintro e w' ⟨rfl,⟨nd,rfl⟩⟩;refine⟨_,rfl, ?_⟩))
    go_ret
    exact⟨qf,qb⟩
   ·replace c6:=Bool.eq_false_iff.mpr c6
    subst c6
    replace H:=qF H
    obtain rfl:=Option.some.inj H
    go_enter Tryz.func25,Tryz.ntmps25
    go_wp2_with (first|((with_reducible refine y16 (N:=2) rfl ?_);refine qe 2 #[.int .i64 Ag,.string Ah,.slice Am Ad.length Ap] 33 ?_;intro At hg Du hbox hb;have Aa:=y0.mk (hbox);have Au:=y0.mk (qg (w:=w) hg);have Av:=y0.mk (qg (w:=w) hg);replace HB:=y0.mk (y5 qb hb);clear hb hbox hg)|((with_reducible refine y16 (N:=3) rfl ?_);refine qe 3 #[.int .i64 Ai,.string Aj,.slice Ar Af.length As] 33 ?_;intro Aw hg Dw hbox hb;have Ak:=y0.mk (hbox);have Ay:=y0.mk (qg (w:=w) hg);have Az:=y0.mk (qg (w:=w) hg);replace HB:=y0.mk (y5 qb hb);have Ab:=y0.mk (qn Aa.out hg);have Ac:=y0.mk (qm Aa.out hg);replace Aa:=y0.mk (qK Aa.out hb);clear hb hbox hg;have Dk:=Ab.out;have Dl:=Ac.out;obtain⟨Bv,Bw,Bx,Bz,Ca,Cb⟩:=qz3 Aa.out;obtain⟨Cc,Cd,Ce,Cf,Cg,Ch⟩:=qz3 Ak.out)|((with_reducible refine y15 (f:=50) rfl ?_);refine y17 (some 19) rfl rfl Tryz.func50 (by kernel_rfl) rfl #[.slice Am Ad.length Ap,.slice Ar Af.length As] rfl qy1 ?_;(with_reducible refine(laws_eqIntS.calls k _ _ Ad _ _ Af false _ (qc (Kd.C_below Be.out HB.out)) Bf.out (qc (Kd.C_below Bg.out HB.out)) Bh.out A5.out).mono ?_);rintro e w' ⟨rfl,⟨nd,rfl⟩⟩;refine⟨_,rfl, ?_⟩))
    go_ret
    exact⟨qf,qb⟩
  ·rw [if_neg c4]at H
   have Di:(Ah.toList == Aj.toList)=false:=beq_eq_false_iff_ne.mpr c4
   have Dj:(Ah.toList != Aj.toList)=true:=bne_iff_ne.mpr c4
   obtain rfl:=Option.some.inj H
   go_enter Tryz.func25,Tryz.ntmps25
   go_wp2_with (first|((with_reducible refine y16 (N:=2) rfl ?_);refine qe 2 #[.int .i64 Ag,.string Ah,.slice Am Ad.length Ap] 33 ?_;intro At hg Dx hbox hb;have Aa:=y0.mk (hbox);have Au:=y0.mk (qg (w:=w) hg);have Av:=y0.mk (qg (w:=w) hg);replace HB:=y0.mk (y5 qb hb);clear hb hbox hg)|((with_reducible refine y16 (N:=3) rfl ?_);refine qe 3 #[.int .i64 Ai,.string Aj,.slice Ar Af.length As] 33 ?_;intro Aw hg Dy hbox hb;have Ak:=y0.mk (hbox);have Ay:=y0.mk (qg (w:=w) hg);have Az:=y0.mk (qg (w:=w) hg);replace HB:=y0.mk (y5 qb hb);have Ab:=y0.mk (qn Aa.out hg);have Ac:=y0.mk (qm Aa.out hg);replace Aa:=y0.mk (qK Aa.out hb);clear hb hbox hg;have Dm:=Ab.out;have Do:=Ac.out;obtain⟨Ci,Cj,Ck,Cl,Cm,Cn⟩:=qz3 Aa.out;obtain⟨Co,Cp,Cq,Cr,Cs,Ct⟩:=qz3 Ak.out))
   go_ret
   exact⟨qf,qb⟩
 ·rw [if_neg c3]at H
  have Dg:(Ag == Ai)=false:=beq_eq_false_iff_ne.mpr c3
  have Dh:(Ag != Ai)=true:=bne_iff_ne.mpr c3
  obtain rfl:=Option.some.inj H
  go_enter Tryz.func25,Tryz.ntmps25
  go_wp2_with (first|((with_reducible refine y16 (N:=2) rfl ?_);refine qe 2 #[.int .i64 Ag,.string Ah,.slice Am Ad.length Ap] 33 ?_;intro At hg Dz hbox hb;have Aa:=y0.mk (hbox);have Au:=y0.mk (qg (w:=w) hg);have Av:=y0.mk (qg (w:=w) hg);replace HB:=y0.mk (y5 qb hb);clear hb hbox hg)|((with_reducible refine y16 (N:=3) rfl ?_);refine qe 3 #[.int .i64 Ai,.string Aj,.slice Ar Af.length As] 33 ?_;intro Aw hg Ea hbox hb;have Ak:=y0.mk (hbox);have Ay:=y0.mk (qg (w:=w) hg);have Az:=y0.mk (qg (w:=w) hg);replace HB:=y0.mk (y5 qb hb);have Ab:=y0.mk (qn Aa.out hg);have Ac:=y0.mk (qm Aa.out hg);replace Aa:=y0.mk (qK Aa.out hb);clear hb hbox hg;have Dp:=Ab.out;have Dq:=Ac.out;obtain⟨Cu,Cv,Cw,Cx,Cy,Cz⟩:=qz3 Aa.out;obtain⟨Da,Db,Dc,Dd,De,Df⟩:=qz3 Ak.out))
  go_ret
  exact⟨qf,qb⟩
end Go.Proofs.YtkdabljlfbmpdaaGreat.Pb
end
