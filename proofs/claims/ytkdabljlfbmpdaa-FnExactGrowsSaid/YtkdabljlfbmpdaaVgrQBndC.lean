-- Cut by prune.py.
import Derived.Test.YtkdabljlfbmpdaaVgrQOldC
import Derived.Test.YtkdabljlfbmpdaaVgrQBndB
namespace Go.Proofs.Ytkdabljlfbmpdaa.QBndC
open RowKit Pw YtkdabljlfbmpdaaW.PrintWords YtkdabljlfbmpdaaW.PrintLast QStr QGenR QRule QTree QText QForm QRuleT QWith QVars QLeast QSet QOldA QOldB QBndA
open QOldC (rd_two txt_of lit_V)
set_option linter.unusedVariables false
set_option linter.unusedSimpArgs false
section
variable (es : List IEx) (a : Int) (b : ByteArray) (c : List Int) (d : List ILt)
noncomputable def ANi (es:List IEx) (x:Int):Bool:=ANc es x.toNat
noncomputable def TB (es:List IEx):List ByteArray→Int→Bool:=lsTB (ANi es) (VRc es)
theorem tb_iff (AN:Int→Bool) (VR:Int→List ByteArray) (S:List ByteArray) (x:Int):lsTB AN VR S x=true↔AN x=false∧∀ t∈VR x,t∈S:=by
 unfold lsTB
 rw [Bool.and_eq_true,Bool.not_eq_true',Bool.not_eq_true',List.any_eq_false]
 constructor
 ·rintro⟨h1,h2⟩
  exact⟨h1,fun t ht=>hasB_iff.1 (by simpa using h2 t ht)⟩
 ·rintro⟨h1,h2⟩
  exact⟨h1,fun t ht=>by rw [hasB_iff.2 (h2 t ht)];decide⟩
theorem all_ev (vs S:List ByteArray) (hv:vs.length≤1048576) (hS:S.length≤281474976710656):∀(q i:Nat),i + q=vs.length→∃ r:Bool,Ev (fun k=>spec_l06All.l0 k vs S (i:Int)) r∧(r=true↔∀ s∈vs.drop i,s∈S)
 | 0,i,h=>by
  refine⟨true,y14 ⟨0,fun k _=>?_⟩,⟨fun _ s hs=>?_,fun _=>rfl⟩⟩
  ·rw [spec_l06All.l0,if_neg (by omega)]
  ·rw [List.drop_of_length_le (by omega)]at hs
   cases hs
 | q + 1,i,h=>by
  have hi:i < vs.length:=by omega
  obtain⟨r,⟨K1,e1⟩,h1⟩:=all_ev vs S hv hS q (i + 1) (by omega)
  obtain⟨K0,e0⟩:=in5_ev S hS vs[i] S.length 0 (by omega)
  rw [List.drop_zero]at e0
  rw [List.drop_eq_getElem_cons hi]
  by_cases hm:vs[i]∈S
  ·refine⟨r,y14 ⟨max K0 K1,fun k hk=>?_⟩,h1.trans ⟨fun h2 s hs=>?_,fun h2 s hs=>h2 s (List.mem_cons_of_mem _ hs)⟩⟩
   ·have e0:=e0 k (by omega)
    have e1:=e1 k (by omega)
    simp only []at e0 e1
    rw [spec_l06All.l0,if_pos (by omega),if_pos (by omega),rdOf_get vs i hi]
    unfold spec_l05In.f
    rw [show spec_l05In.l0 k S vs[i] 0=_ from e0,Option.bind_some,if_pos (by simpa using hm),step_i (by omega)]
    exact e1
   ·rcases List.mem_cons.1 hs with rfl|hs
    ·exact hm
    ·exact h2 s hs
  ·refine⟨false,y14 ⟨K0,fun k hk=>?_⟩,⟨(fun h2=>by cases h2),fun h2=>absurd (h2 _ List.mem_cons_self) hm⟩⟩
   have e0:=e0 k (by omega)
   simp only []at e0
   rw [spec_l06All.l0,if_pos (by omega),if_pos (by omega),rdOf_get vs i hi]
   unfold spec_l05In.f
   rw [show spec_l05In.l0 k S vs[i] 0=_ from e0,Option.bind_some,if_neg (by simpa using hm)]
set_option maxRecDepth 100000 in
theorem l5_step (ho:Okr es d) (S0:List ByteArray) (h0:S0.length≤4294967296) (n0:Int) (i:Nat) (hi:i < d.length) (h3:d[i].f0=3) (s:Nat) (hs:s < 2) (S:List ByteArray) (hB:Bey es S0 S) (r:List ByteArray)
  (hr:Ev (fun k=>z9_.l5 k (lsO (VRc es) (PTi es) (TB es) S (rd d[i].f2 (s:Int)) (rd d[i].f2 (1 - (s:Int)))) n0 (i:Int) ((s + 1:Nat):Int) es a b c d d[i].f0 d[i].f1 d[i].f2) r) :
  Ev (fun k=>z9_.l5 k S n0 (i:Int) (s:Int) es a b c d d[i].f0 d[i].f1 d[i].f2) r:=by
 have h60:=ho.few
 have hbl:=bey_len hB
 have h2:=ho.two _ (List.getElem_mem hi) h3
 obtain⟨mA,mB⟩:=rd_two h2 s hs
 have rA:=ho.rng _ (List.getElem_mem hi) _ mA
 have rB:=ho.rng _ (List.getElem_mem hi) _ mB
 have hw:wrap64 (1 - (s:Int))=1 - (s:Int):=wrapS (by omega) (by omega)
 obtain⟨B,hBe⟩:∃ B,rd d[i].f2 (1 - (s:Int))=B:=⟨_,rfl⟩
 rw [hBe]at rB mB
 simp only [hBe]at hr
 obtain⟨A,hAe⟩:∃ A,rd d[i].f2 (s:Int)=A:=⟨_,rfl⟩
 rw [hAe]at rA mA
 simp only [hAe]at hr
 obtain⟨K1,e1⟩:=hr
 obtain⟨K2,e2⟩:=kind2_ev es a b c d ho.ok ho.few ho.kds A.toNat (by omega)
 rw [show((A.toNat:Nat):Int)=A by omega]at e2
 have hno:lsO (VRc es) (PTi es) (TB es) S A B=S→∀ k,K1≤k→z9_.j8 (k + 1) S n0 (i:Int) (s:Int) B true es a b c d d[i].f0 d[i].f1 d[i].f2=some r:=by
  intro hS k hk
  have e1:=e1 k hk
  simp only [hS]at e1
  rw [z9_.j8,if_pos rfl,step_i (by omega)]
  exact e1
 have hopen:∀ k,K2≤k→z9_.l5 (k + 1) S n0 (i:Int) (s:Int) es a b c d d[i].f0 d[i].f1 d[i].f2=(if ANc es A.toNat=true then(z9_.j8 k S n0 (i:Int) (s:Int) B true es a b c d d[i].f0 d[i].f1 d[i].f2)else((spec_l06Vars.f k es a b c d A).bind fun t386=>((spec_l06All.f k t386 S).bind fun t389=>(if t389=true then((z10_.f k es a b c d B 5 7).bind fun t390=>(z9_.j8 k S n0 (i:Int) (s:Int) B t390 es a b c d d[i].f0 d[i].f1 d[i].f2))else(z9_.j8 k S n0 (i:Int) (s:Int) B true es a b c d d[i].f0 d[i].f1 d[i].f2))))):=by
  intro k hk
  have e2:=e2 k hk
  simp only []at e2
  rw [z9_.l5,if_pos (by omega),if_pos (by omega),if_pos (by omega),hw,if_pos (by omega),if_pos (by omega),hAe,hBe,e2,Option.bind_some]
 cases hn:ANc es A.toNat with
 | true =>
  have hS:lsO (VRc es) (PTi es) (TB es) S A B=S:=if_neg (by
   intro hx
   rw [Bool.and_eq_true]at hx
   have:=((tb_iff _ _ _ _).1 hx.2).1
   unfold ANi at this
   rw [hn]at this
   cases this)
  refine⟨max K1 K2 + 2,fun k hk=>?_⟩
  obtain⟨k,rfl⟩:∃ p,k=p + 2:=⟨k - 2,by omega⟩
  show z9_.l5 (k + 2) S n0 (i:Int) (s:Int) es a b c d d[i].f0 d[i].f1 d[i].f2=_
  rw [hopen (k + 1) (by omega),hn,if_pos rfl]
  exact hno hS k (by omega)
 | false =>
  obtain⟨K3,e3⟩:=svars_ev es a b c d ho.ok ho.few ho.kds A.toNat (by omega)
  rw [show((A.toNat:Nat):Int)=A by omega]at e3
  have hvA:=vrs_len es A.toNat
  obtain⟨v,⟨K4,e4⟩,hv⟩:=all_ev (vrs es A.toNat) S (by omega) (by omega) (vrs es A.toNat).length 0 (by omega)
  rw [List.drop_zero]at hv
  cases v with
  | false =>
   have hS:lsO (VRc es) (PTi es) (TB es) S A B=S:=if_neg (by
    intro hx
    rw [Bool.and_eq_true]at hx
    have:=hv.2 ((tb_iff _ _ _ _).1 hx.2).2
    cases this)
   refine⟨max (max K1 K2) (max K3 K4) + 2,fun k hk=>?_⟩
   obtain⟨k,rfl⟩:∃ p,k=p + 2:=⟨k - 2,by omega⟩
   have e3:=e3 (k + 1) (by omega)
   have e4:=e4 (k + 1) (by omega)
   simp only []at e3 e4
   show z9_.l5 (k + 2) S n0 (i:Int) (s:Int) es a b c d d[i].f0 d[i].f1 d[i].f2=_
   rw [hopen (k + 1) (by omega),hn,if_neg (by decide),e3,Option.bind_some]
   unfold spec_l06All.f
   rw [show spec_l06All.l0 (k + 1) (vrs es A.toNat) S 0=_ from e4,Option.bind_some,if_neg (by decide)]
   exact hno hS k (by omega)
  | true =>
   have hT:TB es S A=true:=(tb_iff _ _ _ _).2 ⟨hn,hv.1 rfl⟩
   obtain⟨K5,e5⟩:=kind_ev es a b c d ho.ok ho.few ho.kds B.toNat (by omega)
   rw [show((B.toNat:Nat):Int)=B by omega]at e5
   cases hp:PTc es B.toNat with
   | true =>
    have hS:lsO (VRc es) (PTi es) (TB es) S A B=(VRc es B).foldl ins S:=if_pos (by unfold PTi;rw [hp,hT];rfl)
    obtain⟨K6,e6⟩:=svars_ev es a b c d ho.ok ho.few ho.kds B.toNat (by omega)
    rw [show((B.toNat:Nat):Int)=B by omega]at e6
    have hvl:=vrs_len es B.toNat
    obtain⟨K7,e7⟩:=QBndB.l6_ev es a b c d S0 h0 h60 n0 (i:Int) (s:Int) d[i].f0 d[i].f1 d[i].f2 (vrs es B.toNat) (by omega) (vrs_txt es B.toNat (by omega)) (vrs es B.toNat).length 0 S (by omega) hB r ⟨K1,fun k hk=>by
     have e1:=e1 k hk
     simp only [hS]at e1
     rw [List.drop_zero,step_i (by omega)]
     exact e1⟩
    refine⟨max (max (max K1 K2) (max K3 K4)) (max K5 (max K6 K7)) + 2,fun k hk=>?_⟩
    obtain⟨k,rfl⟩:∃ p,k=p + 2:=⟨k - 2,by omega⟩
    have e3:=e3 (k + 1) (by omega)
    have e4:=e4 (k + 1) (by omega)
    have e5:=e5 (k + 1) (by omega)
    have e6:=e6 k (by omega)
    have e7:=e7 k (by omega)
    simp only []at e3 e4 e5 e6 e7
    show z9_.l5 (k + 2) S n0 (i:Int) (s:Int) es a b c d d[i].f0 d[i].f1 d[i].f2=_
    rw [hopen (k + 1) (by omega),hn,if_neg (by decide),e3,Option.bind_some]
    unfold spec_l06All.f
    rw [show spec_l06All.l0 (k + 1) (vrs es A.toNat) S 0=_ from e4,Option.bind_some,if_pos rfl,e5,Option.bind_some,hp,z9_.j8,if_neg (by decide),e6,Option.bind_some]
    exact e7
   | false =>
    have hS:lsO (VRc es) (PTi es) (TB es) S A B=S:=if_neg (by unfold PTi;rw [hp];simp)
    refine⟨max (max (max K1 K2) (max K3 K4)) K5 + 2,fun k hk=>?_⟩
    obtain⟨k,rfl⟩:∃ p,k=p + 2:=⟨k - 2,by omega⟩
    have e3:=e3 (k + 1) (by omega)
    have e4:=e4 (k + 1) (by omega)
    have e5:=e5 (k + 1) (by omega)
    simp only []at e3 e4 e5
    show z9_.l5 (k + 2) S n0 (i:Int) (s:Int) es a b c d d[i].f0 d[i].f1 d[i].f2=_
    rw [hopen (k + 1) (by omega),hn,if_neg (by decide),e3,Option.bind_some]
    unfold spec_l06All.f
    rw [show spec_l06All.l0 (k + 1) (vrs es A.toNat) S 0=_ from e4,Option.bind_some,if_pos rfl,e5,Option.bind_some,hp]
    exact hno hS k (by omega)
theorem bey_P (ho:Okr es d) {S0 S:List ByteArray} (hB:Bey es S0 S) {l:ILt} (hl:l∈d):Bey es S0 (lsP (VRc es) (PTi es) (TB es) S l):=by
 unfold lsP
 by_cases hc:l.f0=3∧l.f1.toList=([61]:List UInt8)
 ·rw [if_pos hc]
  obtain⟨hV0,hV1⟩:=lit_V es d ho l hl hc.1
  exact bey_O (bey_O hB hV1) hV0
 ·rw [if_neg hc]
  exact hB
set_option maxRecDepth 100000 in
theorem l4_ev (ho:Okr es d) (S0:List ByteArray) (h0:S0.length≤4294967296) (n0:Int) (r:List ByteArray):∀(q i:Nat) (S:List ByteArray),i + q=d.length→Bey es S0 S →
  Ev (fun k=>if(((d.drop i).foldl (lsP (VRc es) (PTi es) (TB es)) S).length:Int)=n0 then some ((d.drop i).foldl (lsP (VRc es) (PTi es) (TB es)) S)else z9_.l3 k ((d.drop i).foldl (lsP (VRc es) (PTi es) (TB es)) S) es a b c d) r→Ev (fun k=>z9_.l4 k S n0 (i:Int) es a b c d) r
 | 0,i,S,h,_,hr=>by
  have hlit:=ho.lits
  rw [List.drop_of_length_le (by omega)]at hr
  obtain⟨K,e1⟩:=hr
  refine y14 ⟨K,fun k hk=>?_⟩
  have e1:=e1 k hk
  simp only [List.foldl_nil]at e1
  rw [z9_.l4,if_neg (by omega)]
  exact e1
 | q + 1,i,S,h,hB,hr=>by
  have hlit:=ho.lits
  have hi:i < d.length:=by omega
  have hrd:y18 d (i:Int)=d[i]:=getD_at _ d i hi
  rw [List.drop_eq_getElem_cons hi,List.foldl_cons]at hr
  have hB1:=bey_P es d ho hB (List.getElem_mem hi)
  obtain⟨K,e1⟩:=l4_ev ho S0 h0 n0 r q (i + 1) _ (by omega) hB1 hr
  by_cases hc:d[i].f0=3∧d[i].f1.toList=([61]:List UInt8)
  ·have hP:lsP (VRc es) (PTi es) (TB es) S d[i]=lsO (VRc es) (PTi es) (TB es) (lsO (VRc es) (PTi es) (TB es) S (rd d[i].f2 0) (rd d[i].f2 1)) (rd d[i].f2 1) (rd d[i].f2 0):=by
    have:lsP (VRc es) (PTi es) (TB es) S d[i]=lsE (VRc es) (PTi es) (TB es) (rd d[i].f2 0) (rd d[i].f2 1) S 2:=if_pos hc
    rw [this]
    rfl
   obtain⟨hV0,hV1⟩:=lit_V es d ho _ (List.getElem_mem hi) hc.1
   have hB2:Bey es S0 (lsO (VRc es) (PTi es) (TB es) S (rd d[i].f2 0) (rd d[i].f2 1)):=bey_O hB hV1
   have hl5:Ev (fun k=>z9_.l5 k S n0 (i:Int) 0 es a b c d d[i].f0 d[i].f1 d[i].f2) r:=by
    refine l5_step es a b c d ho S0 h0 n0 i hi hc.1 0 (by omega) S hB r ?_
    refine l5_step es a b c d ho S0 h0 n0 i hi hc.1 1 (by omega) _ hB2 r ?_
    refine y14 ⟨K,fun k hk=>?_⟩
    have e1:=e1 k hk
    simp only [hP]at e1
    rw [z9_.l5,if_neg (by omega),step_i (by omega)]
    exact e1
   obtain⟨K2,e2⟩:=hl5
   refine⟨K2 + 2,fun k hk=>?_⟩
   obtain⟨k,rfl⟩:∃ p,k=p + 2:=⟨k - 2,by omega⟩
   have e2:=e2 k (by omega)
   simp only []at e2
   show z9_.l4 (k + 2) S n0 (i:Int) es a b c d=_
   rw [z9_.l4,if_pos (by omega),if_pos (by omega),hrd,if_pos hc.1,show(d[i].f1.toList != ([61]:List UInt8))=false from bne_eq_false_iff_eq.mpr hc.2,z9_.j6,if_neg (by decide)]
   exact e2
  ·have hP:lsP (VRc es) (PTi es) (TB es) S d[i]=S:=if_neg hc
   refine⟨K + 2,fun k hk=>?_⟩
   obtain⟨k,rfl⟩:∃ p,k=p + 2:=⟨k - 2,by omega⟩
   have e1:=e1 k (by omega)
   simp only [hP]at e1
   show z9_.l4 (k + 2) S n0 (i:Int) es a b c d=_
   rw [z9_.l4,if_pos (by omega),if_pos (by omega),hrd]
   by_cases h3:d[i].f0=3
   ·rw [if_pos h3,show(d[i].f1.toList != ([61]:List UInt8))=true from bne_iff_ne.mpr (fun h4=>hc ⟨h3,h4⟩),z9_.j6,if_pos rfl,step_i (by omega)]
    exact e1
   ·rw [if_neg h3,z9_.j6,if_pos rfl,step_i (by omega)]
    exact e1
theorem pass_ev (ho:Okr es d) (S0:List ByteArray) (h0:S0.length≤4294967296):∀(q n:Nat),n + q=es.length + 1→S0.length + n≤(lsIt d (VRc es) (PTi es) (TB es) S0 n).length →
  ∃ m,Ev (fun k=>z9_.l3 k (lsIt d (VRc es) (PTi es) (TB es) S0 n) es a b c d) (lsIt d (VRc es) (PTi es) (TB es) S0 m)∧lsW d (VRc es) (PTi es) (TB es) (lsIt d (VRc es) (PTi es) (TB es) S0 m)=lsIt d (VRc es) (PTi es) (TB es) S0 m
 | 0,n,h,hl=>by
  have h2:=bey_len (bey_It (lit_V es d ho) S0 n (PT:=PTi es) (TL:=TB es))
  omega
 | q + 1,n,h,hl=>by
  have hB:=bey_It (lit_V es d ho) S0 n (PT:=PTi es) (TL:=TB es)
  have hge:(lsIt d (VRc es) (PTi es) (TB es) S0 n).length≤(lsW d (VRc es) (PTi es) (TB es) (lsIt d (VRc es) (PTi es) (TB es) S0 n)).length:=by
   obtain⟨T,hT⟩:=fold_grow _ (lsP_grow (VRc es) (PTi es) (TB es)) d (lsIt d (VRc es) (PTi es) (TB es) S0 n)
   unfold lsW
   rw [hT,List.length_append]
   omega
  by_cases hlt:(lsIt d (VRc es) (PTi es) (TB es) S0 n).length < (lsW d (VRc es) (PTi es) (TB es) (lsIt d (VRc es) (PTi es) (TB es) S0 n)).length
  ·obtain⟨m,hm,hf⟩:=pass_ev ho S0 h0 q (n + 1) (by omega) (by show _≤(lsW d (VRc es) (PTi es) (TB es) (lsIt d (VRc es) (PTi es) (TB es) S0 n)).length;omega)
   obtain⟨K,e1⟩:=l4_ev es a b c d ho S0 h0 ((lsIt d (VRc es) (PTi es) (TB es) S0 n).length:Int) (lsIt d (VRc es) (PTi es) (TB es) S0 m) d.length 0 _ (by omega) hB (by
    rw [List.drop_zero]
    obtain⟨K,e⟩:=hm
    exact⟨K,fun k hk=>by
     show(if((lsW d (VRc es) (PTi es) (TB es) (lsIt d (VRc es) (PTi es) (TB es) S0 n)).length:Int)=_ then _ else _)=_
     rw [if_neg (by omega)]
     exact e k hk⟩)
   refine⟨m,y14 ⟨K,fun k hk=>?_⟩,hf⟩
   have e1:=e1 k hk
   simp only []at e1
   rw [z9_.l3]
   exact e1
  ·have hsame:=lsW_same (bd:=d) (VR:=VRc es) (PT:=PTi es) (TL:=TB es) (S:=lsIt d (VRc es) (PTi es) (TB es) S0 n) (by omega)
   obtain⟨K,e1⟩:=l4_ev es a b c d ho S0 h0 ((lsIt d (VRc es) (PTi es) (TB es) S0 n).length:Int) (lsIt d (VRc es) (PTi es) (TB es) S0 n) d.length 0 _ (by omega) hB (by
    rw [List.drop_zero]
    exact⟨0,fun k hk=>by
     show(if((lsW d (VRc es) (PTi es) (TB es) (lsIt d (VRc es) (PTi es) (TB es) S0 n)).length:Int)=_ then some (lsW d (VRc es) (PTi es) (TB es) (lsIt d (VRc es) (PTi es) (TB es) S0 n))else _)=_
     rw [hsame,if_pos rfl]⟩)
   refine⟨n,y14 ⟨K,fun k hk=>?_⟩,hsame⟩
   have e1:=e1 k hk
   simp only []at e1
   rw [z9_.l3]
   exact e1
end
end Go.Proofs.Ytkdabljlfbmpdaa.QBndC
