-- Cut by prune.py.
import Derived.Test.YtkdabljlfbmpdaaVgrQOldA
namespace Go.Proofs.Ytkdabljlfbmpdaa.QBndA
open RowKit Pw YtkdabljlfbmpdaaW.PrintWords YtkdabljlfbmpdaaW.PrintLast QStr QGenR QRule QTree QText QForm QRuleT QWith QVars QLeast QOldA
set_option linter.unusedVariables false
set_option linter.unusedSimpArgs false
def cal2 (es:List IEx) (i:Nat):Prop:=2≤(es.getD i zE).f0∧(es.getD i zE).f0≤2
section
variable (es : List IEx) (a : Int) (b : ByteArray) (c : List Int) (d : List ILt)
open Classical in
noncomputable def ANc (n:Nat):Bool:=decide (∃ i,Re (kd es) n i∧cal2 es i)
open Classical in
theorem any_ev (hes:EsOk es) (hsz:∀ i < es.length,sz es i≤60) (hn:es.length≤60) (hk:∀ e∈es,e.f2.length≤1048576) (n:Nat) (hl:n < es.length):Ev (fun k=>impl_Rule_hasAny.f k es a b c d (n:Int)) (ANc es n):=by
 obtain⟨xs,⟨K,e⟩,h1,_,h3⟩:=within_ev es a b c d hes hsz hn hk (n + 1) n (by omega) hl
 have h60:=hsz n hl
 have hg:∀ x∈xs,∃ y:Nat,x=(y:Int)∧Re (kd es) n y∧impl_Rule_hasAny_1.f x es a b c d=some ((es.getD y zE).f0 == 2):=fun x hx=>by
  obtain⟨y,rfl,g⟩:=(h3 x).1 hx
  have hy:=re_le (dn es hes) g
  have hrd:y19 es (y:Int)=es[y]:=getD_at _ es y (by omega)
  refine⟨y,rfl,g, ?_⟩
  unfold impl_Rule_hasAny_1.f
  rw [if_pos (by omega),if_pos (by omega),hrd,getD_in es y (by omega)]
 refine⟨K,fun k hk=>?_⟩
 have e:=e k hk
 simp only []at e
 show impl_Rule_hasAny.f k es a b c d (n:Int)=_
 unfold impl_Rule_hasAny.f
 rw [e,Option.bind_some,if_pos ⟨by omega,List.all_eq_true.2 (fun x hx=>by obtain⟨y,_,_,h⟩:=hg x hx;rw [h];rfl)⟩]
 congr 1
 rw [Bool.eq_iff_iff,List.any_eq_true]
 unfold ANc
 rw [decide_eq_true_eq]
 constructor
 ·rintro⟨x,hx,h5⟩
  obtain⟨y,rfl,g,h4⟩:=hg x hx
  unfold impl_Rule_hasAny.g at h5
  rw [h4]at h5
  have h6:(es.getD y zE).f0=2:=by simpa using h5
  exact⟨y,g,by unfold cal2;omega⟩
 ·rintro⟨i,g,hc⟩
  have hx:=(h3 (i:Int)).2 ⟨i,rfl,g⟩
  obtain⟨y,e2,_,h4⟩:=hg _ hx
  obtain rfl:i=y:=by omega
  refine⟨_,hx, ?_⟩
  unfold impl_Rule_hasAny.g
  rw [h4]
  unfold cal2 at hc
  have h6:(es.getD i zE).f0=2:=by omega
  simpa using h6
theorem kind2_l (hes:EsOk es) (hn:es.length≤60) (n:Nat) (hl:n < es.length) (m:List Bool) (hm:m.length=es.length):∀(q i:Nat),i + q=n + 1→∃ r:Bool,Ev (fun k=>z10_.l0 k (n:Int) 2 2 m (i:Int) es a b c d) r∧(r=true↔∃ x,i≤x∧x≤n∧Mk m x∧cal2 es x)
 | 0,i,h=>by
  refine⟨false,y14 ⟨0,fun k _=>?_⟩,⟨(fun h=>by cases h),(fun⟨x,h1,h2,_⟩=>by omega)⟩⟩
  rw [z10_.l0,if_neg (by omega)]
 | q + 1,i,h=>by
  have hi:i < es.length:=by omega
  have hrd:y19 es (i:Int)=es[i]:=getD_at _ es i hi
  have hcal:cal2 es i↔2≤es[i].f0∧es[i].f0≤2:=by
   unfold cal2
   rw [getD_in es i hi]
  obtain⟨r,⟨K,e⟩,h2⟩:=kind2_l hes hn n hl m hm q (i + 1) (by omega)
  by_cases hM:Mk m i
  ·by_cases hc:cal2 es i
   ·refine⟨true,y14 ⟨0,fun k _=>?_⟩,⟨fun _=>⟨i,Nat.le_refl _,by omega,hM,hc⟩,fun _=>rfl⟩⟩
    rw [z10_.l0,if_pos (by omega),if_pos (by omega),if_pos (by omega),if_pos ((rdB m i).2 hM),if_pos (by omega),hrd,between_f,Option.bind_some,if_pos (decide_eq_true (hcal.1 hc))]
   ·refine⟨r,y14 ⟨K,fun k hk=>?_⟩,h2.trans ⟨fun⟨x,h3,h4⟩=>⟨x,by omega,h4⟩,fun⟨x,h3,h4,h5,h6⟩=>⟨x,by
     have:x≠i:=fun e=>hc (e ▸ h6)
     omega,h4,h5,h6⟩⟩⟩
    have e:=e k hk
    simp only []at e
    rw [z10_.l0,if_pos (by omega),if_pos (by omega),if_pos (by omega),if_pos ((rdB m i).2 hM),if_pos (by omega),hrd,between_f,Option.bind_some,if_neg (by rw [decide_eq_true_eq];exact fun h=>hc (hcal.2 h)),step_i (by omega)]
    exact e
  ·refine⟨r,y14 ⟨K,fun k hk=>?_⟩,h2.trans ⟨fun⟨x,h3,h4⟩=>⟨x,by omega,h4⟩,fun⟨x,h3,h4,h5,h6⟩=>⟨x,by
    have:x≠i:=fun e=>hM (e ▸ h5)
    omega,h4,h5,h6⟩⟩⟩
   have e:=e k hk
   simp only []at e
   rw [z10_.l0,if_pos (by omega),if_pos (by omega),if_pos (by omega),if_neg (fun hx=>hM ((rdB m i).1 hx)),step_i (by omega)]
   exact e
open Classical in
theorem kind2_ev (hes:EsOk es) (hn:es.length≤60) (hk:∀ e∈es,e.f2.length≤1048576) (n:Nat) (hl:n < es.length):Ev (fun k=>z10_.f k es a b c d (n:Int) 2 2) (ANc es n):=by
 obtain⟨m,⟨K1,e1⟩,h1,h2⟩:=in_ev es a b c d hes hn hk n hl
 obtain⟨r,⟨K2,e2⟩,h3⟩:=kind2_l es a b c d hes hn n hl m h1 (n + 1) 0 (by omega)
 have hr:(ANc es n)=r:=by
  rw [Bool.eq_iff_iff,h3]
  unfold ANc
  rw [decide_eq_true_eq]
  constructor
  ·rintro⟨i,g,hc⟩
   exact⟨i,Nat.zero_le _,re_le (dn es hes) g,(h2 i).2 g,hc⟩
  ·rintro⟨x,_,_,h5,h6⟩
   exact⟨x,(h2 x).1 h5,h6⟩
 rw [hr]
 refine⟨max K1 K2,fun k hk=>?_⟩
 have e1:=e1 k (by omega)
 have e2:=e2 k (by omega)
 simp only []at e1 e2
 show z10_.f k es a b c d (n:Int) 2 2=_
 unfold z10_.f
 rw [e1,Option.bind_some]
 exact e2
end
end Go.Proofs.Ytkdabljlfbmpdaa.QBndA
