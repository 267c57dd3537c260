-- Cut by prune.py.
import Derived.Test.YtkdabljlfbmpdaaVgrQOldA
namespace Go.Proofs.Ytkdabljlfbmpdaa.QOldB
open RowKit Pw YtkdabljlfbmpdaaW.PrintWords YtkdabljlfbmpdaaW.PrintLast QStr QGenR QRule QTree QText QForm QRuleT QWith QVars QLeast QSet QOldA
set_option linter.unusedVariables false
set_option linter.unusedSimpArgs false
structure Okr (es:List IEx) (d:List ILt):Prop where
 ok:EsOk es
 few:es.length≤60
 kds:∀ e∈es,e.f2.length≤1048576
 szs:∀ i < es.length,sz es i≤60
 lits:d.length≤1048576
 args:∀ l∈d,l.f2.length≤60
 two:∀ l∈d,l.f0=3→l.f2.length=2
 rng:∀ l∈d,∀ x∈l.f2,0≤x∧x < (es.length:Int)
 un:Un (kd es)
 root:∀ l∈d,∀ x∈l.f2,∀ i,x∉kd es i
theorem okr_of {es:List IEx} {h:ILt} {d:List ILt} (hw:FewR es h d) (hf:Frm es h d):Okr es d :=
 ⟨hf.1,hf.2.2.1,fun e he=>(hw.2.1 e he).2,fun i hi=>sz_le es hf.1 hf.2.2.1 (frm_one es h d hf) i hi,hw.2.2.2.1,fun l hl=>(frm_arg hf hl).1,fun l hl=>(frm_arg hf hl).2,fun l hl x hx=>(frm_lit hf hl hx).1,frm_un hf,fun l hl x hx=>(frm_lit hf hl hx).2⟩
noncomputable def VRc (es:List IEx) (x:Int):List ByteArray:=vrs es x.toNat
noncomputable def PTi (es:List IEx) (x:Int):Bool:=PTc es x.toNat
theorem upw_txt (es:List IEx) (P:Nat→Prop):∀(q i:Nat) (out:List ByteArray),i + q≤es.length→(∀ s∈out,∃ e∈es,e.f1=s)→∀ s∈upw (nam (QVars.isVar es) (QVars.txt es)) P q i out,∃ e∈es,e.f1=s
 | 0,_,out,_,h=>h
 | q + 1,i,out,hi,h=>by
  unfold upw
  have hn:∀ s∈nam (QVars.isVar es) (QVars.txt es) out i,∃ e∈es,e.f1=s:=by
   intro s hs
   unfold nam at hs
   split at hs
   ·rcases List.mem_append.1 hs with hs|hs
    ·exact h s hs
    ·rw [List.mem_singleton]at hs
     subst hs
     exact⟨es[i],List.getElem_mem (by omega),by unfold QVars.txt;rw [getD_in es i (by omega)]⟩
   ·exact h s hs
  by_cases hp:P i
  ·rw [if_pos hp]
   exact upw_txt es P q (i + 1) _ (by omega) hn
  ·rw [if_neg hp]
   exact upw_txt es P q (i + 1) _ (by omega) h
theorem vrs_txt (es:List IEx) (n:Nat) (hn:n < es.length):∀ s∈vrs es n,∃ e∈es,e.f1=s:=upw_txt es _ (n + 1) 0 [] (by omega) (fun s h=>by cases h)
section
variable (es : List IEx) (a : Int) (b : ByteArray) (c : List Int) (d : List ILt)
def Nmd (y:Nat) (s:ByteArray):Prop:=(es.getD y zE).f0=1∧¬ Rk (kd es) (cal es) y∧(es.getD y zE).f1=s
theorem l2_ev (ho:Okr es d) (m rk:List Bool) (hm:m.length=es.length) (hrk:rk.length=es.length) (hR:∀ x,Mk rk x↔Rk (kd es) (cal es) x) (x5 x6:Int):∀(q e:Nat) (out:List ByteArray),e + q=es.length→out.length + q≤4398046511104 →
  ∃ T:List ByteArray,T.length≤q∧(∀ s,s∈T↔∃ y,e≤y∧y < es.length∧Mk m y∧Nmd es y s)∧∀ r,Ev (fun k=>spec_l08Old.l1 k (out ++ T) rk x5 (wrap64 (x6 + 1)) es a b c d) r→Ev (fun k=>spec_l08Old.l2 k out rk x5 x6 m (e:Int) es a b c d) r
 | 0,e,out,h,_=>by
  refine⟨[],Nat.le_refl _,fun s=>⟨(fun h=>by cases h),(fun⟨y,h1,h2,_⟩=>by omega)⟩,fun r ⟨K,hr⟩=>y14 ⟨K,fun k hk=>?_⟩⟩
  have e1:=hr k hk
  simp only [List.append_nil]at e1
  rw [spec_l08Old.l2,if_neg (by omega)]
  exact e1
 | q + 1,e,out,h,hl=>by
  have hf:=ho.few
  have hi:e < es.length:=by omega
  have hrd:y19 es (e:Int)=es[e]:=getD_at _ es e hi
  have hg:es.getD e zE=es[e]:=getD_in es e hi
  by_cases hc:Mk m e∧es[e].f0=1∧¬ Mk rk e
  ·obtain⟨T,t1,t2,t3⟩:=l2_ev ho m rk hm hrk hR x5 x6 q (e + 1) (out ++ [es[e].f1]) (by omega) (by rw [List.length_append,List.length_singleton];omega)
   refine⟨es[e].f1 :: T,by rw [List.length_cons];omega,fun s=>?_,fun r hr=>?_⟩
   ·rw [List.mem_cons,t2 s]
    constructor
    ·rintro(rfl|⟨y,h1,h2⟩)
     ·exact⟨e,Nat.le_refl _,hi,hc.1,by unfold Nmd;rw [hg];exact⟨hc.2.1,fun h2=>hc.2.2 ((hR e).2 h2),rfl⟩⟩
     ·exact⟨y,by omega,h2⟩
    ·rintro⟨y,h1,h2,h3,h4⟩
     by_cases ey:y=e
     ·subst ey
      unfold Nmd at h4
      rw [hg]at h4
      exact .inl h4.2.2.symm
     ·exact .inr ⟨y,by omega,h2,h3,h4⟩
   ·obtain⟨K,e1⟩:=t3 r (by rw [List.append_assoc];exact hr)
    refine y14 ⟨K,fun k hk=>?_⟩
    have e1:=e1 k hk
    simp only []at e1
    rw [spec_l08Old.l2,if_pos (by omega),if_pos (by omega),if_pos ((rdB m e).2 hc.1),if_pos (by omega),hrd,if_pos hc.2.1,if_pos (by omega),if_neg (fun hx=>hc.2.2 ((rdB rk e).1 hx)),if_pos (by omega),step_i (by omega)]
    exact e1
  ·obtain⟨T,t1,t2,t3⟩:=l2_ev ho m rk hm hrk hR x5 x6 q (e + 1) out (by omega) (by omega)
   refine⟨T,by omega,fun s=>?_,fun r hr=>?_⟩
   ·rw [t2 s]
    constructor
    ·rintro⟨y,h1,h2⟩
     exact⟨y,by omega,h2⟩
    ·rintro⟨y,h1,h2,h3,h4⟩
     by_cases ey:y=e
     ·subst ey
      unfold Nmd at h4
      rw [hg]at h4
      exact absurd ⟨h3,h4.1,fun h5=>h4.2.1 ((hR y).1 h5)⟩ hc
     ·exact⟨y,by omega,h2,h3,h4⟩
   ·obtain⟨K,e1⟩:=t3 r hr
    refine y14 ⟨K,fun k hk=>?_⟩
    have e1:=e1 k hk
    simp only []at e1
    rw [spec_l08Old.l2,if_pos (by omega),if_pos (by omega)]
    by_cases h1:Mk m e
    ·rw [if_pos ((rdB m e).2 h1),if_pos (by omega),hrd]
     by_cases h2:es[e].f0=1
     ·have h3:Mk rk e:=Classical.byContradiction fun h3=>hc ⟨h1,h2,h3⟩
      rw [if_pos h2,if_pos (by omega),if_pos ((rdB rk e).2 h3),step_i (by omega)]
      exact e1
     ·rw [if_neg h2,step_i (by omega)]
      exact e1
    ·rw [if_neg (fun hx=>h1 ((rdB m e).1 hx)),step_i (by omega)]
     exact e1
set_option maxRecDepth 100000 in
theorem l1_ev (ho:Okr es d) (rk:List Bool) (hrk:rk.length=es.length) (hR:∀ x,Mk rk x↔Rk (kd es) (cal es) x) (i:Nat) (hi:i < d.length) (h1f:d[i].f0=1):∀(q j:Nat) (out:List ByteArray),j + q=d[i].f2.length→out.length + q * 60≤4398046511104 →
  ∃ T:List ByteArray,T.length≤q * 60∧(∀ s,s∈T↔∃ x∈d[i].f2.drop j,∃ y,Re (kd es) x.toNat y∧Nmd es y s)∧∀ r,Ev (fun k=>spec_l08Old.l0 k (out ++ T) rk ((i + 1:Nat):Int) es a b c d) r→Ev (fun k=>spec_l08Old.l1 k out rk (i:Int) (j:Int) es a b c d) r
 | 0,j,out,h,_=>by
  have hlit:=ho.lits
  have hrd:y18 d (i:Int)=d[i]:=getD_at _ d i hi
  refine⟨[],Nat.zero_le _,fun s=>⟨(fun h=>by cases h),(fun⟨x,hx,_⟩=>by rw [List.drop_of_length_le (by omega)]at hx;cases hx)⟩,fun r ⟨K,hr⟩=>⟨K + 2,fun k hk=>?_⟩⟩
  obtain⟨k,rfl⟩:∃ p,k=p + 2:=⟨k - 2,by omega⟩
  have e1:=hr k (by omega)
  simp only [List.append_nil]at e1
  show spec_l08Old.l1 (k + 2) out rk (i:Int) (j:Int) es a b c d=_
  rw [spec_l08Old.l1,if_pos (by omega),if_pos (by omega),hrd,if_neg (by omega),spec_l08Old.j2,if_neg (by decide),step_i (by omega)]
  exact e1
 | q + 1,j,out,h,hl=>by
  have hlit:=ho.lits
  have h60:=ho.few
  have hrd:y18 d (i:Int)=d[i]:=getD_at _ d i hi
  have ha60:=ho.args _ (List.getElem_mem hi)
  have hj:j < d[i].f2.length:=by omega
  have hx:=ho.rng _ (List.getElem_mem hi) _ (List.getElem_mem hj)
  obtain⟨m,⟨K0,e0⟩,m1,m2⟩:=in_ev es a b c d ho.ok ho.few ho.kds (d[i].f2[j]).toNat (by omega)
  rw [show(((d[i].f2[j]).toNat:Nat):Int)=d[i].f2[j]by omega]at e0
  obtain⟨T,t1,t2,t3⟩:=l2_ev es a b c d ho m rk m1 hrk hR (i:Int) (j:Int) es.length 0 out (by omega) (by omega)
  obtain⟨U,u1,u2,u3⟩:=l1_ev ho rk hrk hR i hi h1f q (j + 1) (out ++ T) (by omega) (by rw [List.length_append];omega)
  refine⟨T ++ U,by rw [List.length_append];omega,fun s=>?_,fun r hr=>?_⟩
  ·rw [List.mem_append,t2 s,u2 s,List.drop_eq_getElem_cons hj]
   constructor
   ·rintro(⟨y,_,h2,h3,h4⟩|⟨x,hx,h2⟩)
    ·exact⟨_,List.mem_cons_self,y,(m2 y).1 h3,h4⟩
    ·exact⟨x,List.mem_cons_of_mem _ hx,h2⟩
   ·rintro⟨x,hx2,y,h3,h4⟩
    rcases List.mem_cons.1 hx2 with rfl|hx2
    ·have:=re_le (dn es ho.ok) h3
     exact .inl ⟨y,Nat.zero_le _,by omega,(m2 y).2 h3,h4⟩
    ·exact .inr ⟨x,hx2,y,h3,h4⟩
  ·obtain⟨K1,e1⟩:=t3 r (by rw [step_i (by omega)];exact u3 r (by rw [List.append_assoc];exact hr))
   refine⟨max K0 K1 + 2,fun k hk=>?_⟩
   obtain⟨k,rfl⟩:∃ p,k=p + 2:=⟨k - 2,by omega⟩
   have e0:=e0 k (by omega)
   have e1:=e1 k (by omega)
   simp only []at e0 e1
   show spec_l08Old.l1 (k + 2) out rk (i:Int) (j:Int) es a b c d=_
   rw [spec_l08Old.l1,if_pos (by omega),if_pos (by omega),hrd,if_pos (by omega),show(d[i].f0 == 1)=true from by rw [h1f];rfl,spec_l08Old.j2,if_pos rfl,if_pos (by omega),if_pos (by omega),if_pos (by omega),hrd,if_pos (by omega),rdN_get _ j hj,e0,Option.bind_some]
   exact e1
set_option maxRecDepth 100000 in
theorem l0_ev (ho:Okr es d) (rk:List Bool) (hrk:rk.length=es.length) (hR:∀ x,Mk rk x↔Rk (kd es) (cal es) x):∀(q i:Nat) (out:List ByteArray),i + q=d.length→out.length + q * 3600≤4398046511104 →
  ∃ T:List ByteArray,T.length≤q * 3600∧(∀ s,s∈T↔∃ l∈d.drop i,l.f0=1∧∃ x∈l.f2,∃ y,Re (kd es) x.toNat y∧Nmd es y s)∧∀ r,Ev (fun k=>spec_l08Old.l3 k (out ++ T) es a b c d) r→Ev (fun k=>spec_l08Old.l0 k out rk (i:Int) es a b c d) r
 | 0,i,out,h,_=>by
  refine⟨[],Nat.zero_le _,fun s=>⟨(fun h=>by cases h),(fun⟨x,hx,_⟩=>by rw [List.drop_of_length_le (by omega)]at hx;cases hx)⟩,fun r ⟨K,hr⟩=>y14 ⟨K,fun k hk=>?_⟩⟩
  have e1:=hr k hk
  simp only [List.append_nil]at e1
  rw [spec_l08Old.l0,if_neg (by omega)]
  exact e1
 | q + 1,i,out,h,hl=>by
  have hlit:=ho.lits
  have hi:i < d.length:=by omega
  have hrd:y18 d (i:Int)=d[i]:=getD_at _ d i hi
  have ha60:=ho.args _ (List.getElem_mem hi)
  rw [List.drop_eq_getElem_cons hi]
  by_cases h1f:d[i].f0=1
  ·obtain⟨T,t1,t2,t3⟩:=l1_ev es a b c d ho rk hrk hR i hi h1f d[i].f2.length 0 out (by omega) (by omega)
   obtain⟨U,u1,u2,u3⟩:=l0_ev ho rk hrk hR q (i + 1) (out ++ T) (by omega) (by rw [List.length_append];omega)
   rw [List.drop_zero]at t2
   refine⟨T ++ U,by rw [List.length_append];omega,fun s=>?_,fun r hr=>?_⟩
   ·rw [List.mem_append,t2 s,u2 s]
    constructor
    ·rintro(h2|⟨x,hx,h2⟩)
     ·exact⟨_,List.mem_cons_self,h1f,h2⟩
     ·exact⟨x,List.mem_cons_of_mem _ hx,h2⟩
    ·rintro⟨x,hx,h2⟩
     rcases List.mem_cons.1 hx with rfl|hx
     ·exact .inl h2.2
     ·exact .inr ⟨x,hx,h2⟩
   ·obtain⟨K,e1⟩:=t3 r (u3 r (by rw [List.append_assoc];exact hr))
    refine y14 ⟨K,fun k hk=>?_⟩
    have e1:=e1 k hk
    simp only []at e1
    rw [spec_l08Old.l0,if_pos (by omega)]
    exact e1
  ·obtain⟨U,u1,u2,u3⟩:=l0_ev ho rk hrk hR q (i + 1) out (by omega) (by omega)
   refine⟨U,by omega,fun s=>?_,fun r hr=>?_⟩
   ·rw [u2 s]
    constructor
    ·rintro⟨x,hx,h2⟩
     exact⟨x,List.mem_cons_of_mem _ hx,h2⟩
    ·rintro⟨x,hx,h2⟩
     rcases List.mem_cons.1 hx with rfl|hx
     ·exact absurd h2.1 h1f
     ·exact⟨x,hx,h2⟩
   ·obtain⟨K,e1⟩:=u3 r hr
    refine⟨K + 3,fun k hk=>?_⟩
    obtain⟨k,rfl⟩:∃ p,k=p + 3:=⟨k - 3,by omega⟩
    have e1:=e1 k (by omega)
    simp only []at e1
    show spec_l08Old.l0 (k + 3) out rk (i:Int) es a b c d=_
    rw [spec_l08Old.l0,if_pos (by omega),spec_l08Old.l1,if_pos (by omega),if_pos (by omega),hrd,show(d[i].f0 == 1)=false from beq_eq_false_iff_ne.mpr h1f]
    split
    ·rw [spec_l08Old.j2,if_neg (by decide),step_i (by omega)]
     exact e1
    ·rw [spec_l08Old.j2,if_neg (by decide),step_i (by omega)]
     exact e1
theorem ins_le (S:List ByteArray) (s:ByteArray):S.length≤(ins S s).length:=by
 obtain⟨T,h⟩:=ins_grow S s
 rw [h,List.length_append]
 omega
theorem l6_ev (S0:List ByteArray) (h0:S0.length≤4294967296) (hf60:es.length≤60) (n0:Nat) (x10 x12:Int) (f0:Int) (f1:ByteArray) (f2:List Int) (vs:List ByteArray) (hvl:vs.length≤1048576) (hvs:∀ s∈vs,∃ e∈es,e.f1=s):∀(q i:Nat) (out:List ByteArray),i + q=vs.length→n0≤out.length→Bey es S0 out →
  ∀ r,Ev (fun k=>spec_l08Old.l5 k ((vs.drop i).foldl ins out) (decide (n0 < ((vs.drop i).foldl ins out).length)) x10 (wrap64 (x12 + 1)) es a b c d f0 f1 f2) r→Ev (fun k=>spec_l08Old.l6 k out (decide (n0 < out.length)) x10 x12 vs (i:Int) es a b c d f0 f1 f2) r
 | 0,i,out,h,_,_,r,hr=>by
  rw [List.drop_of_length_le (by omega)]at hr
  obtain⟨K,e1⟩:=hr
  refine y14 ⟨K,fun k hk=>?_⟩
  have e1:=e1 k hk
  simp only [List.foldl_nil]at e1
  rw [spec_l08Old.l6,if_neg (by omega)]
  exact e1
 | q + 1,i,out,h,hn0,hB,r,hr=>by
  have hi:i < vs.length:=by omega
  have hbl:=bey_len hB
  rw [List.drop_eq_getElem_cons hi,List.foldl_cons]at hr
  have hile:=ins_le out vs[i]
  obtain⟨K1,e1⟩:=l6_ev S0 h0 hf60 n0 x10 x12 f0 f1 f2 vs hvl hvs q (i + 1) (ins out vs[i]) (by omega) (by omega) (bey_ins hB (hvs _ (List.getElem_mem hi))) r hr
  obtain⟨K0,e0⟩:=in5_ev out (by omega) vs[i] out.length 0 (by omega)
  rw [List.drop_zero]at e0
  refine y14 ⟨max K0 K1,fun k hk=>?_⟩
  have e0:=e0 k (by omega)
  have e1:=e1 k (by omega)
  simp only []at e0 e1
  rw [spec_l08Old.l6,if_pos (by omega),if_pos (by omega),rdOf_get vs i hi]
  unfold spec_l05In.f
  rw [show(0:Int)=((0:Nat):Int)from rfl,e0,Option.bind_some]
  by_cases hm:vs[i]∈out
  ·have h1:ins out vs[i]=out:=if_pos (hasB_iff.2 hm)
   rw [if_pos (@decide_eq_true _ (_) hm),step_i (by omega)]
   rw [h1]at e1
   exact e1
  ·have h1:ins out vs[i]=out ++ [vs[i]]:=if_neg (fun hx=>hm (hasB_iff.1 hx))
   have h2:decide (n0 < (out ++ [vs[i]]).length)=true:=decide_eq_true (by rw [List.length_append,List.length_singleton];omega)
   rw [if_neg (by simpa using hm),if_pos (by omega),step_i (by omega)]
   rw [h1,h2]at e1
   exact e1
end
end Go.Proofs.Ytkdabljlfbmpdaa.QOldB
