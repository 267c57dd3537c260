-- Cut by prune.py.
import Derived.Test.YtkdabljlfbmpdaaVgrQOldB
namespace Go.Proofs.Ytkdabljlfbmpdaa.QOldC
open RowKit Pw YtkdabljlfbmpdaaW.PrintWords YtkdabljlfbmpdaaW.PrintLast QStr QGenR QRule QTree QText QForm QRuleT QWith QVars QLeast QSet QOldA QOldB
set_option linter.unusedVariables false
set_option linter.unusedSimpArgs false
section
variable (es : List IEx) (a : Int) (b : ByteArray) (c : List Int) (d : List ILt)
theorem rd_in {x:Int} (h:0≤x∧x < (es.length:Int)):∃ hx:x.toNat < es.length,y19 es x=es[x.toNat]:=by
 refine⟨by omega, ?_⟩
 have:=getD_at z63 es x.toNat (by omega)
 rwa [show((x.toNat:Nat):Int)=x by omega]at this
theorem rd_two {xs:List Int} (h:xs.length=2) (s:Nat) (hs:s < 2):rd xs (s:Int)∈xs∧rd xs (1 - (s:Int))∈xs:=by
 have g:∀ j:Nat,j < 2→rd xs (j:Int)∈xs:=fun j hj=>by
  rw [rdN_get xs j (by omega)]
  exact List.getElem_mem _
 refine⟨g s hs, ?_⟩
 rw [show(1 - (s:Int))=((1 - s:Nat):Int)by omega]
 exact g (1 - s) (by omega)
set_option maxRecDepth 100000 in
theorem l5_step (ho:Okr es d) (S0:List ByteArray) (h0:S0.length≤4294967296) (n0:Nat) (i:Nat) (hi:i < d.length) (h3:d[i].f0=3) (hq:d[i].f1.toList=([61]:List UInt8)) (s:Nat) (hs:s < 2) (S:List ByteArray) (hn0:n0≤S.length) (hB:Bey es S0 S) (r:List ByteArray)
  (hr:Ev (fun k=>spec_l08Old.l5 k (lsO (VRc es) (PTi es) (lsTL es) S (rd d[i].f2 (s:Int)) (rd d[i].f2 (1 - (s:Int)))) (decide (n0 < (lsO (VRc es) (PTi es) (lsTL es) S (rd d[i].f2 (s:Int)) (rd d[i].f2 (1 - (s:Int)))).length)) (i:Int) ((s + 1:Nat):Int) es a b c d d[i].f0 d[i].f1 d[i].f2) r) :
  Ev (fun k=>spec_l08Old.l5 k S (decide (n0 < S.length)) (i:Int) (s:Int) es a b c d d[i].f0 d[i].f1 d[i].f2) r:=by
 have h60:=ho.few
 have hbl:=bey_len hB
 have h2:=ho.two _ (List.getElem_mem hi) h3
 obtain⟨mA,mB⟩:=rd_two h2 s hs
 have rA:=ho.rng _ (List.getElem_mem hi) _ mA
 have rB:=ho.rng _ (List.getElem_mem hi) _ mB
 obtain⟨hA,eA⟩:=rd_in es rA
 have hw:wrap64 (1 - (s:Int))=1 - (s:Int):=wrapS (by omega) (by omega)
 obtain⟨B,hBe⟩:∃ B,rd d[i].f2 (1 - (s:Int))=B:=⟨_,rfl⟩
 rw [hBe]at rB mB
 simp only [hBe]at hr
 obtain⟨K1,e1⟩:=hr
 obtain⟨K0,e0⟩:=in5_ev S (by omega) (es[(rd d[i].f2 (s:Int)).toNat]).f1 S.length 0 (by omega)
 rw [List.drop_zero]at e0
 have hno:lsO (VRc es) (PTi es) (lsTL es) S (rd d[i].f2 (s:Int)) B=S→∀ k,K1≤k→spec_l08Old.j8 (k + 1) S (decide (n0 < S.length)) (i:Int) (s:Int) B true es a b c d d[i].f0 d[i].f1 d[i].f2=some r:=by
  intro hS k hk
  have e1:=e1 k hk
  simp only [hS]at e1
  rw [spec_l08Old.j8,if_pos rfl,step_i (by omega)]
  exact e1
 have hj7:∀ k,spec_l08Old.l5 (k + 2) S (decide (n0 < S.length)) (i:Int) (s:Int) es a b c d d[i].f0 d[i].f1 d[i].f2=spec_l08Old.j7 (k + 1) S (decide (n0 < S.length)) (i:Int) (s:Int) true es a b c d d[i].f0 d[i].f1 d[i].f2:=by
  intro k
  rw [spec_l08Old.l5,if_pos (by omega),if_pos h3,show(d[i].f1.toList == ([61]:List UInt8))=true from beq_iff_eq.mpr hq]
 by_cases hv:(es[(rd d[i].f2 (s:Int)).toNat]).f0=1
 ·by_cases hm:(es[(rd d[i].f2 (s:Int)).toNat]).f1∈S
  ·have hTL:lsTL es S (rd d[i].f2 (s:Int))=true:=by
    unfold lsTL
    rw [eA,decide_eq_true hv,hasB_iff.2 hm]
    rfl
   obtain⟨K2,e2⟩:=kind_ev es a b c d ho.ok ho.few ho.kds B.toNat (by omega)
   rw [show((B.toNat:Nat):Int)=B by omega]at e2
   cases hp:PTc es B.toNat with
   | true =>
    have hS:lsO (VRc es) (PTi es) (lsTL es) S (rd d[i].f2 (s:Int)) B=(VRc es B).foldl ins S:=if_pos (by unfold PTi;rw [hp,hTL];rfl)
    obtain⟨K3,e3⟩:=svars_ev es a b c d ho.ok ho.few ho.kds B.toNat (by omega)
    rw [show((B.toNat:Nat):Int)=B by omega]at e3
    have hvl:=vrs_len es B.toNat
    obtain⟨K4,e4⟩:=l6_ev es a b c d S0 h0 h60 n0 (i:Int) (s:Int) d[i].f0 d[i].f1 d[i].f2 (vrs es B.toNat) (by omega) (vrs_txt es B.toNat (by omega)) (vrs es B.toNat).length 0 S (by omega) hn0 hB r ⟨K1,fun k hk=>by
     have e1:=e1 k hk
     simp only [hS]at e1
     rw [List.drop_zero,step_i (by omega)]
     exact e1⟩
    refine⟨max (max K0 K2) (max K3 K4) + 3,fun k hk=>?_⟩
    obtain⟨k,rfl⟩:∃ p,k=p + 3:=⟨k - 3,by omega⟩
    have e0:=e0 (k + 1) (by omega)
    have e2:=e2 (k + 1) (by omega)
    have e3:=e3 k (by omega)
    have e4:=e4 k (by omega)
    simp only []at e0 e2 e3 e4
    show spec_l08Old.l5 (k + 3) S _ (i:Int) (s:Int) es a b c d d[i].f0 d[i].f1 d[i].f2=_
    rw [hj7 (k + 1),spec_l08Old.j7,if_pos rfl,if_pos (by omega),if_pos (by omega),hw,if_pos (by omega),if_pos (by omega),if_pos rA.1,if_pos rA.2,eA,if_pos hv,hBe]
    unfold spec_l05In.f
    rw [show(0:Int)=((0:Nat):Int)from rfl,e0,Option.bind_some,if_pos (by simpa using hm),e2,Option.bind_some,hp,spec_l08Old.j8,if_neg (by decide),e3,Option.bind_some]
    exact e4
   | false =>
    have hS:lsO (VRc es) (PTi es) (lsTL es) S (rd d[i].f2 (s:Int)) B=S:=if_neg (by unfold PTi;rw [hp];simp)
    refine⟨max (max K0 K2) K1 + 3,fun k hk=>?_⟩
    obtain⟨k,rfl⟩:∃ p,k=p + 3:=⟨k - 3,by omega⟩
    have e0:=e0 (k + 1) (by omega)
    have e2:=e2 (k + 1) (by omega)
    simp only []at e0 e2
    show spec_l08Old.l5 (k + 3) S _ (i:Int) (s:Int) es a b c d d[i].f0 d[i].f1 d[i].f2=_
    rw [hj7 (k + 1),spec_l08Old.j7,if_pos rfl,if_pos (by omega),if_pos (by omega),hw,if_pos (by omega),if_pos (by omega),if_pos rA.1,if_pos rA.2,eA,if_pos hv,hBe]
    unfold spec_l05In.f
    rw [show(0:Int)=((0:Nat):Int)from rfl,e0,Option.bind_some,if_pos (by simpa using hm),e2,Option.bind_some,hp]
    exact hno hS k (by omega)
  ·have hS:lsO (VRc es) (PTi es) (lsTL es) S (rd d[i].f2 (s:Int)) B=S:=if_neg (by
    unfold lsTL
    rw [eA]
    intro hx
    rw [Bool.and_eq_true,Bool.and_eq_true]at hx
    exact hm (hasB_iff.1 hx.2.2))
   refine⟨max K0 K1 + 3,fun k hk=>?_⟩
   obtain⟨k,rfl⟩:∃ p,k=p + 3:=⟨k - 3,by omega⟩
   have e0:=e0 (k + 1) (by omega)
   simp only []at e0
   show spec_l08Old.l5 (k + 3) S _ (i:Int) (s:Int) es a b c d d[i].f0 d[i].f1 d[i].f2=_
   rw [hj7 (k + 1),spec_l08Old.j7,if_pos rfl,if_pos (by omega),if_pos (by omega),hw,if_pos (by omega),if_pos (by omega),if_pos rA.1,if_pos rA.2,eA,if_pos hv,hBe]
   unfold spec_l05In.f
   rw [show(0:Int)=((0:Nat):Int)from rfl,e0,Option.bind_some,if_neg (by simpa using hm)]
   exact hno hS k (by omega)
 ·have hS:lsO (VRc es) (PTi es) (lsTL es) S (rd d[i].f2 (s:Int)) B=S:=if_neg (by
   unfold lsTL
   rw [eA]
   intro hx
   rw [Bool.and_eq_true,Bool.and_eq_true]at hx
   exact hv (of_decide_eq_true hx.2.1))
  refine⟨K1 + 3,fun k hk=>?_⟩
  obtain⟨k,rfl⟩:∃ p,k=p + 3:=⟨k - 3,by omega⟩
  show spec_l08Old.l5 (k + 3) S _ (i:Int) (s:Int) es a b c d d[i].f0 d[i].f1 d[i].f2=_
  rw [hj7 (k + 1),spec_l08Old.j7,if_pos rfl,if_pos (by omega),if_pos (by omega),hw,if_pos (by omega),if_pos (by omega),if_pos rA.1,if_pos rA.2,eA,if_neg hv,hBe]
  exact hno hS k (by omega)
theorem txt_of (ho:Okr es d) {l:ILt} (hl:l∈d) {x:Int} (hx:x∈l.f2):∀ s∈VRc es x,∃ e∈es,e.f1=s:=vrs_txt es x.toNat (by have:=ho.rng l hl x hx;omega)
theorem lit_V (ho:Okr es d):∀ l∈d,l.f0=3→(∀ s∈VRc es (rd l.f2 0),∃ e∈es,e.f1=s)∧∀ s∈VRc es (rd l.f2 1),∃ e∈es,e.f1=s:=fun l hl h3=>by
 have h2:=ho.two l hl h3
 have g0:=rd_two h2 0 (by omega)
 have g1:=rd_two h2 1 (by omega)
 exact⟨txt_of es d ho hl g0.1,txt_of es d ho hl g1.1⟩
set_option maxRecDepth 100000 in
theorem lit_ev (ho:Okr es d) (S0:List ByteArray) (h0:S0.length≤4294967296) (n0:Nat) (i:Nat) (hi:i < d.length) (S:List ByteArray) (hn0:n0≤S.length) (hB:Bey es S0 S) (r:List ByteArray)
  (hr:Ev (fun k=>spec_l08Old.l4 k (lsP (VRc es) (PTi es) (lsTL es) S d[i]) (decide (n0 < (lsP (VRc es) (PTi es) (lsTL es) S d[i]).length)) ((i + 1:Nat):Int) es a b c d) r) :
  Ev (fun k=>spec_l08Old.l5 k S (decide (n0 < S.length)) (i:Int) 0 es a b c d d[i].f0 d[i].f1 d[i].f2) r:=by
 have hlit:=ho.lits
 have hend:∀(S':List ByteArray) (z:Int) (v:Bool),v=false→(∃ K,∀ k,K≤k→spec_l08Old.l4 k S' (decide (n0 < S'.length)) ((i + 1:Nat):Int) es a b c d=some r)→∃ K,∀ k,K≤k→spec_l08Old.j7 (k + 1) S' (decide (n0 < S'.length)) (i:Int) z v es a b c d d[i].f0 d[i].f1 d[i].f2=some r:=by
  rintro S' z v rfl ⟨K,h⟩
  refine⟨K,fun k hk=>?_⟩
  rw [spec_l08Old.j7,if_neg (by decide),step_i (by omega)]
  exact h k hk
 by_cases hc:d[i].f0=3∧d[i].f1.toList=([61]:List UInt8)
 ·have hP:lsP (VRc es) (PTi es) (lsTL es) S d[i]=lsO (VRc es) (PTi es) (lsTL es) (lsO (VRc es) (PTi es) (lsTL es) S (rd d[i].f2 0) (rd d[i].f2 1)) (rd d[i].f2 1) (rd d[i].f2 0):=by
   have:lsP (VRc es) (PTi es) (lsTL es) S d[i]=lsE (VRc es) (PTi es) (lsTL es) (rd d[i].f2 0) (rd d[i].f2 1) S 2:=if_pos hc
   rw [this]
   rfl
  rw [hP]at hr
  obtain⟨hV0,hV1⟩:=lit_V es d ho _ (List.getElem_mem hi) hc.1
  have hB1:Bey es S0 (lsO (VRc es) (PTi es) (lsTL es) S (rd d[i].f2 0) (rd d[i].f2 1)):=bey_O hB hV1
  have hl1:n0≤(lsO (VRc es) (PTi es) (lsTL es) S (rd d[i].f2 0) (rd d[i].f2 1)).length:=by
   obtain⟨T,hT⟩:=lsO_grow (VRc es) (PTi es) (lsTL es) S (rd d[i].f2 0) (rd d[i].f2 1)
   rw [hT,List.length_append]
   omega
  refine l5_step es a b c d ho S0 h0 n0 i hi hc.1 hc.2 0 (by omega) S hn0 hB r ?_
  refine l5_step es a b c d ho S0 h0 n0 i hi hc.1 hc.2 1 (by omega) _ hl1 hB1 r ?_
  obtain⟨K,h⟩:=hend _ (((1 + 1:Nat):Int)) false rfl hr
  refine⟨K + 2,fun k hk=>?_⟩
  obtain⟨k,rfl⟩:∃ p,k=p + 2:=⟨k - 2,by omega⟩
  have e1:=h k (by omega)
  show spec_l08Old.l5 (k + 2) _ _ (i:Int) ((1 + 1:Nat):Int) es a b c d d[i].f0 d[i].f1 d[i].f2=_
  rw [spec_l08Old.l5,if_neg (by omega)]
  exact e1
 ·have hP:lsP (VRc es) (PTi es) (lsTL es) S d[i]=S:=if_neg hc
  rw [hP]at hr
  obtain⟨K,h⟩:=hend S 0 false rfl hr
  refine⟨K + 2,fun k hk=>?_⟩
  obtain⟨k,rfl⟩:∃ p,k=p + 2:=⟨k - 2,by omega⟩
  have e1:=h k (by omega)
  show spec_l08Old.l5 (k + 2) S _ (i:Int) 0 es a b c d d[i].f0 d[i].f1 d[i].f2=_
  rw [spec_l08Old.l5,if_pos (by omega)]
  by_cases h3:d[i].f0=3
  ·rw [if_pos h3,show(d[i].f1.toList == ([61]:List UInt8))=false from beq_eq_false_iff_ne.mpr (fun h4=>hc ⟨h3,h4⟩)]
   exact e1
  ·rw [if_neg h3]
   exact e1
theorem l4_ev (ho:Okr es d) (S0:List ByteArray) (h0:S0.length≤4294967296) (n0:Nat) (r:List ByteArray):∀(q i:Nat) (S:List ByteArray),i + q=d.length→n0≤S.length→Bey es S0 S →
  Ev (fun k=>if decide (n0 < ((d.drop i).foldl (lsP (VRc es) (PTi es) (lsTL es)) S).length)=true then spec_l08Old.l3 k ((d.drop i).foldl (lsP (VRc es) (PTi es) (lsTL es)) S) es a b c d else some ((d.drop i).foldl (lsP (VRc es) (PTi es) (lsTL es)) S)) r→Ev (fun k=>spec_l08Old.l4 k S (decide (n0 < S.length)) (i:Int) es a b c d) r
 | 0,i,S,h,_,_,hr=>by
  have hlit:=ho.lits
  rw [List.drop_of_length_le (by omega)]at hr
  obtain⟨K,e1⟩:=hr
  refine y14 ⟨K,fun k hk=>?_⟩
  have e1:=e1 k hk
  simp only [List.foldl_nil]at e1
  rw [spec_l08Old.l4,if_neg (by omega)]
  exact e1
 | q + 1,i,S,h,hn0,hB,hr=>by
  have hlit:=ho.lits
  have hi:i < d.length:=by omega
  have hrd:y18 d (i:Int)=d[i]:=getD_at _ d i hi
  rw [List.drop_eq_getElem_cons hi,List.foldl_cons]at hr
  have hl1:n0≤(lsP (VRc es) (PTi es) (lsTL es) S d[i]).length:=by
   obtain⟨T,hT⟩:=lsP_grow (VRc es) (PTi es) (lsTL es) S d[i]
   rw [hT,List.length_append]
   omega
  have hB1:Bey es S0 (lsP (VRc es) (PTi es) (lsTL es) S d[i]):=by
   unfold lsP
   by_cases hc:d[i].f0=3∧d[i].f1.toList=([61]:List UInt8)
   ·rw [if_pos hc]
    obtain⟨hV0,hV1⟩:=lit_V es d ho _ (List.getElem_mem hi) hc.1
    exact bey_O (bey_O hB hV1) hV0
   ·rw [if_neg hc]
    exact hB
  obtain⟨K,e1⟩:=lit_ev es a b c d ho S0 h0 n0 i hi S hn0 hB r (l4_ev ho S0 h0 n0 r q (i + 1) _ (by omega) hl1 hB1 hr)
  refine y14 ⟨K,fun k hk=>?_⟩
  have e1:=e1 k hk
  simp only []at e1
  rw [spec_l08Old.l4,if_pos (by omega),if_pos (by omega),hrd]
  exact e1
theorem pass_ev (ho:Okr es d) (S0:List ByteArray) (h0:S0.length≤4294967296):∀(q n:Nat),n + q=es.length + 1→S0.length + n≤(lsIt d (VRc es) (PTi es) (lsTL es) S0 n).length →
  ∃ m,Ev (fun k=>spec_l08Old.l3 k (lsIt d (VRc es) (PTi es) (lsTL es) S0 n) es a b c d) (lsIt d (VRc es) (PTi es) (lsTL es) S0 m)∧lsW d (VRc es) (PTi es) (lsTL es) (lsIt d (VRc es) (PTi es) (lsTL es) S0 m)=lsIt d (VRc es) (PTi es) (lsTL es) S0 m
 | 0,n,h,hl=>by
  have h2:=bey_len (bey_It (lit_V es d ho) S0 n (PT:=PTi es) (TL:=lsTL es))
  omega
 | q + 1,n,h,hl=>by
  have hB:=bey_It (lit_V es d ho) S0 n (PT:=PTi es) (TL:=lsTL es)
  by_cases hlt:(lsIt d (VRc es) (PTi es) (lsTL es) S0 n).length < (lsW d (VRc es) (PTi es) (lsTL es) (lsIt d (VRc es) (PTi es) (lsTL es) S0 n)).length
  ·obtain⟨m,hm,hf⟩:=pass_ev ho S0 h0 q (n + 1) (by omega) (by show _≤(lsW d (VRc es) (PTi es) (lsTL es) (lsIt d (VRc es) (PTi es) (lsTL es) S0 n)).length;omega)
   obtain⟨K,e1⟩:=l4_ev es a b c d ho S0 h0 (lsIt d (VRc es) (PTi es) (lsTL es) S0 n).length (lsIt d (VRc es) (PTi es) (lsTL es) S0 m) d.length 0 _ (by omega) (Nat.le_refl _) hB (by
    rw [List.drop_zero]
    obtain⟨K,e⟩:=hm
    exact⟨K,fun k hk=>by
     show(if decide (_ < (lsW d (VRc es) (PTi es) (lsTL es) (lsIt d (VRc es) (PTi es) (lsTL es) S0 n)).length)=true then _ else _)=_
     rw [if_pos (decide_eq_true hlt)]
     exact e k hk⟩)
   refine⟨m,y14 ⟨K,fun k hk=>?_⟩,hf⟩
   have e1:=e1 k hk
   simp only []at e1
   rw [decide_eq_false (Nat.lt_irrefl _)]at e1
   rw [spec_l08Old.l3]
   exact e1
  ·have hsame:=lsW_same (bd:=d) (VR:=VRc es) (PT:=PTi es) (TL:=lsTL es) (S:=lsIt d (VRc es) (PTi es) (lsTL es) S0 n) (by omega)
   obtain⟨K,e1⟩:=l4_ev es a b c d ho S0 h0 (lsIt d (VRc es) (PTi es) (lsTL es) S0 n).length (lsIt d (VRc es) (PTi es) (lsTL es) S0 n) d.length 0 _ (by omega) (Nat.le_refl _) hB (by
    rw [List.drop_zero]
    exact⟨0,fun k hk=>by
     show(if decide (_ < (lsW d (VRc es) (PTi es) (lsTL es) (lsIt d (VRc es) (PTi es) (lsTL es) S0 n)).length)=true then _ else some (lsW d (VRc es) (PTi es) (lsTL es) (lsIt d (VRc es) (PTi es) (lsTL es) S0 n)))=_
     rw [if_neg (by rw [decide_eq_true_eq];exact hlt),hsame]⟩)
   refine⟨n,y14 ⟨K,fun k hk=>?_⟩,hsame⟩
   have e1:=e1 k hk
   simp only []at e1
   rw [decide_eq_false (Nat.lt_irrefl _)]at e1
   rw [spec_l08Old.l3]
   exact e1
theorem names_l (S:List ByteArray) (hS:S.length≤281474976710656) (h60:es.length≤60):∀(q i:Nat),i + q=es.length→Ev (fun k=>spec_Old.l0 k (lsNm S (es.take i)) S (i:Int) es a b c d) (lsNm S es)
 | 0,i,h=>by
  refine y14 ⟨0,fun k _=>?_⟩
  rw [spec_Old.l0,if_neg (by omega),List.take_of_length_le (by omega)]
 | q + 1,i,h=>by
  have hi:i < es.length:=by omega
  have hrd:y19 es (i:Int)=es[i]:=getD_at _ es i hi
  have hl:(lsNm S (es.take i)).length≤60:=by
   have h1:=lsNm_len S (es.take i) []
   rw [List.length_nil]at h1
   have h2:(es.take i).length≤es.length:=by rw [List.length_take];omega
   unfold lsNm
   omega
  have hst:=lsNm_step S es i hi
  obtain⟨K1,e1⟩:=names_l S hS h60 q (i + 1) (by omega)
  obtain⟨K2,e2⟩:=in5_ev S hS es[i].f1 S.length 0 (by omega)
  obtain⟨K3,e3⟩:=in5_ev (lsNm S (es.take i)) (by omega) es[i].f1 (lsNm S (es.take i)).length 0 (by omega)
  rw [List.drop_zero]at e2 e3
  rw [hst]at e1
  refine y14 ⟨max K1 (max K2 K3),fun k hk=>?_⟩
  have e1:=e1 k (by omega)
  have e2:=e2 k (by omega)
  have e3:=e3 k (by omega)
  simp only []at e1 e2 e3
  rw [spec_Old.l0,if_pos (by omega),if_pos (by omega),hrd]
  by_cases h1:es[i].f0=1
  ·rw [if_pos h1]
   unfold spec_l05In.f
   rw [show spec_l05In.l0 k S es[i].f1 0=_ from e2,Option.bind_some]
   by_cases h2:es[i].f1∈S
   ·rw [if_pos (by simpa using h2),show spec_l05In.l0 k (lsNm S (es.take i)) es[i].f1 0=_ from e3,Option.bind_some]
    by_cases h3:es[i].f1∈lsNm S (es.take i)
    ·rw [if_neg (fun h_=>by rw [hasB_iff.2 h3]at h_;exact absurd h_.2.2 (by decide))]at e1
     rw [if_pos (by simpa using h3),step_i (by omega)]
     exact e1
    ·rw [if_pos ⟨h1,hasB_iff.2 h2,by rw [← Bool.not_eq_true];exact fun h_=>h3 (hasB_iff.1 h_)⟩]at e1
     rw [if_neg (by simpa using h3),if_pos (by omega),step_i (by omega)]
     exact e1
   ·rw [if_neg (fun h_=>h2 (hasB_iff.1 h_.2.1))]at e1
    rw [if_neg (by simpa using h2),step_i (by omega)]
    exact e1
  ·rw [if_neg (fun h_=>h1 h_.1)]at e1
   rw [if_neg h1,step_i (by omega)]
   exact e1
end
end Go.Proofs.Ytkdabljlfbmpdaa.QOldC
