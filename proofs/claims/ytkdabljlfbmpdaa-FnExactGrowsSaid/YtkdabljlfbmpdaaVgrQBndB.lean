-- Cut by prune.py.
import Derived.Test.YtkdabljlfbmpdaaVgrQOldB
import Derived.Test.YtkdabljlfbmpdaaVgrQBndA
namespace Go.Proofs.Ytkdabljlfbmpdaa.QBndB
open RowKit Pw YtkdabljlfbmpdaaW.PrintWords YtkdabljlfbmpdaaW.PrintLast QStr QGenR QRule QTree QText QForm QRuleT QWith QVars QLeast QSet QOldA QOldB QBndA
set_option linter.unusedVariables false
set_option linter.unusedSimpArgs false
section
variable (es : List IEx) (a : Int) (b : ByteArray) (c : List Int) (d : List ILt)
theorem l2_ev (ho:Okr es d) (m rk:List Bool) (hm:m.length=es.length) (hrk:rk.length=es.length) (hR:∀ x,Mk rk x↔Rk (kd es) (cal es) x) (x5 x6:Int):∀(q e:Nat) (out:List ByteArray),e + q=es.length→out.length + q≤4398046511104 →
  ∃ out':List ByteArray,out'.length≤out.length + q∧(∀ s,s∈out'↔s∈out∨∃ y,e≤y∧y < es.length∧Mk m y∧Nmd es y s)∧∀ r,Ev (fun k=>z9_.l1 k out' rk x5 (wrap64 (x6 + 1)) es a b c d) r→Ev (fun k=>z9_.l2 k out rk x5 x6 m (e:Int) es a b c d) r
 | 0,e,out,h,_=>by
  refine⟨out,Nat.le_refl _,fun s=>⟨.inl,fun h=>h.elim id (fun⟨y,h1,h2,_⟩=>by omega)⟩,fun r ⟨K,hr⟩=>y14 ⟨K,fun k hk=>?_⟩⟩
  have e1:=hr k hk
  simp only []at e1
  rw [z9_.l2,if_neg (by omega)]
  exact e1
 | q + 1,e,out,h,hl=>by
  have hf:=ho.few
  have hi:e < es.length:=by omega
  have hrd:y19 es (e:Int)=es[e]:=getD_at _ es e hi
  have hg:es.getD e zE=es[e]:=getD_in es e hi
  by_cases hc:Mk m e∧es[e].f0=1∧¬ Mk rk e
  ·have hN:Nmd es e es[e].f1:=by unfold Nmd;rw [hg];exact⟨hc.2.1,fun h2=>hc.2.2 ((hR e).2 h2),rfl⟩
   obtain⟨T,t1,t2,t3⟩:=l2_ev ho m rk hm hrk hR x5 x6 q (e + 1) (ins out es[e].f1) (by omega) (by rw [ins_len];split <;> omega)
   refine⟨T,by rw [ins_len]at t1;split at t1 <;> omega,fun s=>?_,fun r hr=>?_⟩
   ·rw [t2 s,mem_ins]
    constructor
    ·rintro((h1|rfl)|⟨y,h1,h2⟩)
     ·exact .inl h1
     ·exact .inr ⟨e,Nat.le_refl _,hi,hc.1,hN⟩
     ·exact .inr ⟨y,by omega,h2⟩
    ·rintro(h1|⟨y,h1,h2,h3,h4⟩)
     ·exact .inl (.inl h1)
     ·by_cases ey:y=e
      ·subst ey
       unfold Nmd at h4
       rw [hg]at h4
       exact .inl (.inr h4.2.2.symm)
      ·exact .inr ⟨y,by omega,h2,h3,h4⟩
   ·obtain⟨K1,e1⟩:=t3 r hr
    obtain⟨K0,e0⟩:=in5_ev out (by omega) es[e].f1 out.length 0 (by omega)
    rw [List.drop_zero]at e0
    refine y14 ⟨max K0 K1,fun k hk=>?_⟩
    have e0:=e0 k (by omega)
    have e1:=e1 k (by omega)
    simp only []at e0 e1
    rw [z9_.l2,if_pos (by omega),if_pos (by omega),if_pos ((rdB m e).2 hc.1),if_pos (by omega),hrd,if_pos hc.2.1,if_pos (by omega),if_neg (fun hx=>hc.2.2 ((rdB rk e).1 hx))]
    unfold spec_l05In.f
    rw [show spec_l05In.l0 k out es[e].f1 0=_ from e0,Option.bind_some]
    by_cases hm2:es[e].f1∈out
    ·have h1:ins out es[e].f1=out:=if_pos (hasB_iff.2 hm2)
     rw [h1]at e1
     rw [if_pos (by simpa using hm2),step_i (by omega)]
     exact e1
    ·have h1:ins out es[e].f1=out ++ [es[e].f1]:=if_neg (fun hx=>hm2 (hasB_iff.1 hx))
     rw [h1]at e1
     rw [if_neg (by simpa using hm2),if_pos (by omega),step_i (by omega)]
     exact e1
  ·obtain⟨T,t1,t2,t3⟩:=l2_ev ho m rk hm hrk hR x5 x6 q (e + 1) out (by omega) (by omega)
   refine⟨T,by omega,fun s=>?_,fun r hr=>?_⟩
   ·rw [t2 s]
    constructor
    ·rintro(h1|⟨y,h1,h2⟩)
     ·exact .inl h1
     ·exact .inr ⟨y,by omega,h2⟩
    ·rintro(h1|⟨y,h1,h2,h3,h4⟩)
     ·exact .inl h1
     ·by_cases ey:y=e
      ·subst ey
       unfold Nmd at h4
       rw [hg]at h4
       exact absurd ⟨h3,h4.1,fun h5=>h4.2.1 ((hR y).1 h5)⟩ hc
      ·exact .inr ⟨y,by omega,h2,h3,h4⟩
   ·obtain⟨K,e1⟩:=t3 r hr
    refine y14 ⟨K,fun k hk=>?_⟩
    have e1:=e1 k hk
    simp only []at e1
    rw [z9_.l2,if_pos (by omega),if_pos (by omega)]
    by_cases h1:Mk m e
    ·rw [if_pos ((rdB m e).2 h1),if_pos (by omega),hrd]
     by_cases h2:es[e].f0=1
     ·have h3:Mk rk e:=Classical.byContradiction fun h3=>hc ⟨h1,h2,h3⟩
      rw [if_pos h2,if_pos (by omega),if_pos ((rdB rk e).2 h3),step_i (by omega)]
      exact e1
     ·rw [if_neg h2,step_i (by omega)]
      exact e1
    ·rw [if_neg (fun hx=>h1 ((rdB m e).1 hx)),step_i (by omega)]
     exact e1
set_option maxRecDepth 100000 in
theorem l1_ev (ho:Okr es d) (rk:List Bool) (hrk:rk.length=es.length) (hR:∀ x,Mk rk x↔Rk (kd es) (cal es) x) (i:Nat) (hi:i < d.length) (h1f:d[i].f0=1):∀(q j:Nat) (out:List ByteArray),j + q=d[i].f2.length→out.length + q * 60≤4398046511104 →
  ∃ out':List ByteArray,out'.length≤out.length + q * 60∧(∀ s,s∈out'↔s∈out∨∃ x∈d[i].f2.drop j,∃ y,Re (kd es) x.toNat y∧Nmd es y s)∧∀ r,Ev (fun k=>z9_.l0 k out' rk ((i + 1:Nat):Int) es a b c d) r→Ev (fun k=>z9_.l1 k out rk (i:Int) (j:Int) es a b c d) r
 | 0,j,out,h,_=>by
  have hlit:=ho.lits
  have hrd:y18 d (i:Int)=d[i]:=getD_at _ d i hi
  refine⟨out,by omega,fun s=>⟨.inl,fun h=>h.elim id (fun⟨x,hx,_⟩=>by rw [List.drop_of_length_le (by omega)]at hx;cases hx)⟩,fun r ⟨K,hr⟩=>⟨K + 2,fun k hk=>?_⟩⟩
  obtain⟨k,rfl⟩:∃ p,k=p + 2:=⟨k - 2,by omega⟩
  have e1:=hr k (by omega)
  simp only []at e1
  show z9_.l1 (k + 2) out rk (i:Int) (j:Int) es a b c d=_
  rw [z9_.l1,if_pos (by omega),if_pos (by omega),hrd,if_neg (by omega),z9_.j2,if_neg (by decide),step_i (by omega)]
  exact e1
 | q + 1,j,out,h,hl=>by
  have hlit:=ho.lits
  have h60:=ho.few
  have hrd:y18 d (i:Int)=d[i]:=getD_at _ d i hi
  have ha60:=ho.args _ (List.getElem_mem hi)
  have hj:j < d[i].f2.length:=by omega
  have hx:=ho.rng _ (List.getElem_mem hi) _ (List.getElem_mem hj)
  obtain⟨m,⟨K0,e0⟩,m1,m2⟩:=in_ev es a b c d ho.ok ho.few ho.kds (d[i].f2[j]).toNat (by omega)
  rw [show(((d[i].f2[j]).toNat:Nat):Int)=d[i].f2[j]by omega]at e0
  obtain⟨T,t1,t2,t3⟩:=l2_ev es a b c d ho m rk m1 hrk hR (i:Int) (j:Int) es.length 0 out (by omega) (by omega)
  obtain⟨U,u1,u2,u3⟩:=l1_ev ho rk hrk hR i hi h1f q (j + 1) T (by omega) (by omega)
  refine⟨U,by omega,fun s=>?_,fun r hr=>?_⟩
  ·rw [u2 s,t2 s,List.drop_eq_getElem_cons hj]
   constructor
   ·rintro((h1|⟨y,_,h2,h3,h4⟩)|⟨x,hx,h2⟩)
    ·exact .inl h1
    ·exact .inr ⟨_,List.mem_cons_self,y,(m2 y).1 h3,h4⟩
    ·exact .inr ⟨x,List.mem_cons_of_mem _ hx,h2⟩
   ·rintro(h1|⟨x,hx2,y,h3,h4⟩)
    ·exact .inl (.inl h1)
    ·rcases List.mem_cons.1 hx2 with rfl|hx2
     ·have:=re_le (dn es ho.ok) h3
      exact .inl (.inr ⟨y,Nat.zero_le _,by omega,(m2 y).2 h3,h4⟩)
     ·exact .inr ⟨x,hx2,y,h3,h4⟩
  ·obtain⟨K1,e1⟩:=t3 r (by rw [step_i (by omega)];exact u3 r hr)
   refine⟨max K0 K1 + 2,fun k hk=>?_⟩
   obtain⟨k,rfl⟩:∃ p,k=p + 2:=⟨k - 2,by omega⟩
   have e0:=e0 k (by omega)
   have e1:=e1 k (by omega)
   simp only []at e0 e1
   show z9_.l1 (k + 2) out rk (i:Int) (j:Int) es a b c d=_
   rw [z9_.l1,if_pos (by omega),if_pos (by omega),hrd,if_pos (by omega),show(d[i].f0 == 1)=true from by rw [h1f];rfl,z9_.j2,if_pos rfl,if_pos (by omega),if_pos (by omega),if_pos (by omega),hrd,if_pos (by omega),rdN_get _ j hj,e0,Option.bind_some]
   exact e1
set_option maxRecDepth 100000 in
theorem l0_ev (ho:Okr es d) (rk:List Bool) (hrk:rk.length=es.length) (hR:∀ x,Mk rk x↔Rk (kd es) (cal es) x):∀(q i:Nat) (out:List ByteArray),i + q=d.length→out.length + q * 3600≤4398046511104 →
  ∃ out':List ByteArray,out'.length≤out.length + q * 3600∧(∀ s,s∈out'↔s∈out∨∃ l∈d.drop i,l.f0=1∧∃ x∈l.f2,∃ y,Re (kd es) x.toNat y∧Nmd es y s)∧∀ r,Ev (fun k=>z9_.l3 k out' es a b c d) r→Ev (fun k=>z9_.l0 k out rk (i:Int) es a b c d) r
 | 0,i,out,h,_=>by
  refine⟨out,by omega,fun s=>⟨.inl,fun h=>h.elim id (fun⟨x,hx,_⟩=>by rw [List.drop_of_length_le (by omega)]at hx;cases hx)⟩,fun r ⟨K,hr⟩=>y14 ⟨K,fun k hk=>?_⟩⟩
  have e1:=hr k hk
  simp only []at e1
  rw [z9_.l0,if_neg (by omega)]
  exact e1
 | q + 1,i,out,h,hl=>by
  have hlit:=ho.lits
  have hi:i < d.length:=by omega
  have hrd:y18 d (i:Int)=d[i]:=getD_at _ d i hi
  have ha60:=ho.args _ (List.getElem_mem hi)
  rw [List.drop_eq_getElem_cons hi]
  by_cases h1f:d[i].f0=1
  ·obtain⟨T,t1,t2,t3⟩:=l1_ev es a b c d ho rk hrk hR i hi h1f d[i].f2.length 0 out (by omega) (by omega)
   obtain⟨U,u1,u2,u3⟩:=l0_ev ho rk hrk hR q (i + 1) T (by omega) (by omega)
   rw [List.drop_zero]at t2
   refine⟨U,by omega,fun s=>?_,fun r hr=>?_⟩
   ·rw [u2 s,t2 s]
    constructor
    ·rintro((h1|h2)|⟨x,hx,h2⟩)
     ·exact .inl h1
     ·exact .inr ⟨_,List.mem_cons_self,h1f,h2⟩
     ·exact .inr ⟨x,List.mem_cons_of_mem _ hx,h2⟩
    ·rintro(h1|⟨x,hx,h2⟩)
     ·exact .inl (.inl h1)
     ·rcases List.mem_cons.1 hx with rfl|hx
      ·exact .inl (.inr h2.2)
      ·exact .inr ⟨x,hx,h2⟩
   ·obtain⟨K,e1⟩:=t3 r (u3 r hr)
    refine y14 ⟨K,fun k hk=>?_⟩
    have e1:=e1 k hk
    simp only []at e1
    rw [z9_.l0,if_pos (by omega)]
    exact e1
  ·obtain⟨U,u1,u2,u3⟩:=l0_ev ho rk hrk hR q (i + 1) out (by omega) (by omega)
   refine⟨U,by omega,fun s=>?_,fun r hr=>?_⟩
   ·rw [u2 s]
    constructor
    ·rintro(h1|⟨x,hx,h2⟩)
     ·exact .inl h1
     ·exact .inr ⟨x,List.mem_cons_of_mem _ hx,h2⟩
    ·rintro(h1|⟨x,hx,h2⟩)
     ·exact .inl h1
     ·rcases List.mem_cons.1 hx with rfl|hx
      ·exact absurd h2.1 h1f
      ·exact .inr ⟨x,hx,h2⟩
   ·obtain⟨K,e1⟩:=u3 r hr
    refine⟨K + 3,fun k hk=>?_⟩
    obtain⟨k,rfl⟩:∃ p,k=p + 3:=⟨k - 3,by omega⟩
    have e1:=e1 k (by omega)
    simp only []at e1
    show z9_.l0 (k + 3) out rk (i:Int) es a b c d=_
    rw [z9_.l0,if_pos (by omega),z9_.l1,if_pos (by omega),if_pos (by omega),hrd,show(d[i].f0 == 1)=false from beq_eq_false_iff_ne.mpr h1f]
    split
    ·rw [z9_.j2,if_neg (by decide),step_i (by omega)]
     exact e1
    ·rw [z9_.j2,if_neg (by decide),step_i (by omega)]
     exact e1
theorem l6_ev (S0:List ByteArray) (h0:S0.length≤4294967296) (hf60:es.length≤60) (n0:Int) (x10 x12:Int) (f0:Int) (f1:ByteArray) (f2:List Int) (vs:List ByteArray) (hvl:vs.length≤1048576) (hvs:∀ s∈vs,∃ e∈es,e.f1=s):∀(q i:Nat) (out:List ByteArray),i + q=vs.length→Bey es S0 out →
  ∀ r,Ev (fun k=>z9_.l5 k ((vs.drop i).foldl ins out) n0 x10 (wrap64 (x12 + 1)) es a b c d f0 f1 f2) r→Ev (fun k=>z9_.l6 k out n0 x10 x12 vs (i:Int) es a b c d f0 f1 f2) r
 | 0,i,out,h,_,r,hr=>by
  rw [List.drop_of_length_le (by omega)]at hr
  obtain⟨K,e1⟩:=hr
  refine y14 ⟨K,fun k hk=>?_⟩
  have e1:=e1 k hk
  simp only [List.foldl_nil]at e1
  rw [z9_.l6,if_neg (by omega)]
  exact e1
 | q + 1,i,out,h,hB,r,hr=>by
  have hi:i < vs.length:=by omega
  have hbl:=bey_len hB
  rw [List.drop_eq_getElem_cons hi,List.foldl_cons]at hr
  obtain⟨K1,e1⟩:=l6_ev S0 h0 hf60 n0 x10 x12 f0 f1 f2 vs hvl hvs q (i + 1) (ins out vs[i]) (by omega) (bey_ins hB (hvs _ (List.getElem_mem hi))) r hr
  obtain⟨K0,e0⟩:=in5_ev out (by omega) vs[i] out.length 0 (by omega)
  rw [List.drop_zero]at e0
  refine y14 ⟨max K0 K1,fun k hk=>?_⟩
  have e0:=e0 k (by omega)
  have e1:=e1 k (by omega)
  simp only []at e0 e1
  rw [z9_.l6,if_pos (by omega),if_pos (by omega),rdOf_get vs i hi]
  unfold spec_l05In.f
  rw [show(0:Int)=((0:Nat):Int)from rfl,e0,Option.bind_some]
  by_cases hm:vs[i]∈out
  ·have h1:ins out vs[i]=out:=if_pos (hasB_iff.2 hm)
   rw [if_pos (@decide_eq_true _ (_) hm),step_i (by omega)]
   rw [h1]at e1
   exact e1
  ·have h1:ins out vs[i]=out ++ [vs[i]]:=if_neg (fun hx=>hm (hasB_iff.1 hx))
   rw [if_neg (by simpa using hm),if_pos (by omega),step_i (by omega)]
   rw [h1]at e1
   exact e1
theorem names_l (S:List ByteArray) (hS:S.length≤281474976710656) (h60:es.length≤60):∀(q i:Nat),i + q=es.length→Ev (fun k=>spec_Bound.l0 k (lsNm S (es.take i)) S (i:Int) es a b c d) (lsNm S es)
 | 0,i,h=>by
  refine y14 ⟨0,fun k _=>?_⟩
  rw [spec_Bound.l0,if_neg (by omega),List.take_of_length_le (by omega)]
 | q + 1,i,h=>by
  have hi:i < es.length:=by omega
  have hrd:y19 es (i:Int)=es[i]:=getD_at _ es i hi
  have hl:(lsNm S (es.take i)).length≤60:=by
   have h1:=lsNm_len S (es.take i) []
   rw [List.length_nil]at h1
   have h2:(es.take i).length≤es.length:=by rw [List.length_take];omega
   unfold lsNm
   omega
  have hst:=lsNm_step S es i hi
  obtain⟨K1,e1⟩:=names_l S hS h60 q (i + 1) (by omega)
  obtain⟨K2,e2⟩:=in5_ev S hS es[i].f1 S.length 0 (by omega)
  obtain⟨K3,e3⟩:=in5_ev (lsNm S (es.take i)) (by omega) es[i].f1 (lsNm S (es.take i)).length 0 (by omega)
  rw [List.drop_zero]at e2 e3
  rw [hst]at e1
  refine y14 ⟨max K1 (max K2 K3),fun k hk=>?_⟩
  have e1:=e1 k (by omega)
  have e2:=e2 k (by omega)
  have e3:=e3 k (by omega)
  simp only []at e1 e2 e3
  rw [spec_Bound.l0,if_pos (by omega),if_pos (by omega),hrd]
  by_cases h1:es[i].f0=1
  ·rw [if_pos h1]
   unfold spec_l05In.f
   rw [show spec_l05In.l0 k S es[i].f1 0=_ from e2,Option.bind_some]
   by_cases h2:es[i].f1∈S
   ·rw [if_pos (by simpa using h2),show spec_l05In.l0 k (lsNm S (es.take i)) es[i].f1 0=_ from e3,Option.bind_some]
    by_cases h3:es[i].f1∈lsNm S (es.take i)
    ·rw [if_neg (fun h_=>by rw [hasB_iff.2 h3]at h_;exact absurd h_.2.2 (by decide))]at e1
     rw [if_pos (by simpa using h3),step_i (by omega)]
     exact e1
    ·rw [if_pos ⟨h1,hasB_iff.2 h2,by rw [← Bool.not_eq_true];exact fun h_=>h3 (hasB_iff.1 h_)⟩]at e1
     rw [if_neg (by simpa using h3),if_pos (by omega),step_i (by omega)]
     exact e1
   ·rw [if_neg (fun h_=>h2 (hasB_iff.1 h_.2.1))]at e1
    rw [if_neg (by simpa using h2),step_i (by omega)]
    exact e1
  ·rw [if_neg (fun h_=>h1 h_.1)]at e1
   rw [if_neg h1,step_i (by omega)]
   exact e1
end
end Go.Proofs.Ytkdabljlfbmpdaa.QBndB
