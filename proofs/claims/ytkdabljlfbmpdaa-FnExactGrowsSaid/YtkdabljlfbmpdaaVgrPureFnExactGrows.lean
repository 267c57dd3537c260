import Derived.Test.YtkdabljlfbmpdaaVgrQBndD
-- Cut by prune.py.
namespace Go.Proofs.Ytkdabljlfbmpdaa.QGrow
open RowKit Pw YtkdabljlfbmpdaaW.PrintWords YtkdabljlfbmpdaaW.PrintLast QStr QGenR QRule QTree QText QForm QRuleT QWith QVars QLeast QSet QOldA QOldB
open QOldC (rd_in)
open QOldD (ev_list old_both)
open QBndD (bound_both)
set_option linter.unusedVariables false
set_option linter.unusedSimpArgs false
theorem upw_mem (es:List IEx) (P:Nat→Prop) (s:ByteArray):∀(q i:Nat) (out:List ByteArray),s∈upw (nam (QVars.isVar es) (QVars.txt es)) P q i out↔s∈out∨∃ x,i≤x∧x < i + q∧P x∧(es.getD x zE).f0=1∧QVars.txt es x=s
 | 0,i,out=>⟨.inl,fun h=>h.elim id (fun⟨x,h1,h2,_⟩=>by omega)⟩
 | q + 1,i,out=>by
  have hn:∀ o:List ByteArray,s∈nam (QVars.isVar es) (QVars.txt es) o i↔s∈o∨((es.getD i zE).f0=1∧QVars.txt es i=s):=fun o=>by
   unfold nam
   by_cases hc:QVars.isVar es i=true∧QVars.txt es i∉o
   ·rw [if_pos hc,List.mem_append,List.mem_singleton]
    have hv:(es.getD i zE).f0=1:=of_decide_eq_true hc.1
    exact⟨fun h=>h.elim .inl (fun h=>.inr ⟨hv,h.symm⟩),fun h=>h.elim .inl (fun h=>.inr h.2.symm)⟩
   ·rw [if_neg hc]
    refine⟨.inl,fun h=>h.elim id (fun⟨h1,h2⟩=>?_)⟩
    refine Classical.byContradiction fun h3=>hc ⟨decide_eq_true h1,fun h4=>h3 (h2 ▸ h4)⟩
  unfold upw
  rw [upw_mem es P s q (i + 1)]
  by_cases hp:P i
  ·rw [if_pos hp,hn]
   constructor
   ·rintro((h|⟨h1,h2⟩)|⟨x,h1,h2,h3⟩)
    ·exact .inl h
    ·exact .inr ⟨i,Nat.le_refl _,by omega,hp,h1,h2⟩
    ·exact .inr ⟨x,by omega,by omega,h3⟩
   ·rintro(h|⟨x,h1,h2,h3,h4⟩)
    ·exact .inl (.inl h)
    ·by_cases e:x=i
     ·subst e
      exact .inl (.inr h4)
     ·exact .inr ⟨x,by omega,by omega,h3,h4⟩
  ·rw [if_neg hp]
   constructor
   ·rintro(h|⟨x,h1,h2,h3⟩)
    ·exact .inl h
    ·exact .inr ⟨x,by omega,by omega,h3⟩
   ·rintro(h|⟨x,h1,h2,h3,h4⟩)
    ·exact .inl h
    ·have:x≠i:=fun e=>hp (e ▸ h3)
     exact .inr ⟨x,by omega,by omega,h3,h4⟩
theorem vrs_some (es:List IEx) (hes:EsOk es) (n:Nat):0 < (vrs es n).length↔∃ x,Re (kd es) n x∧(es.getD x zE).f0=1:=by
 rw [List.length_pos_iff_exists_mem]
 unfold vrs
 constructor
 ·rintro⟨s,hs⟩
  rcases (upw_mem es _ s (n + 1) 0 []).1 hs with h|⟨x,_,_,h1,h2,_⟩
  ·cases h
  ·exact⟨x,h1,h2⟩
 ·rintro⟨x,h1,h2⟩
  have:=re_le (dn es hes) h1
  exact⟨QVars.txt es x,(upw_mem es _ _ (n + 1) 0 []).2 (.inr ⟨x,Nat.zero_le _,by omega,h1,h2,rfl⟩)⟩
def Gy (es:List IEx) (y:Nat):Prop:=cal es y∨((es.getD y zE).f0=4∧0 < (vrs es y).length)
theorem top_eq (es:List IEx) (hes:EsOk es) (n:Nat):(∃ y,Re (kd es) n y∧Gy es y)↔((∃ y,Re (kd es) n y∧cal es y)∨((es.getD n zE).f0=4∧0 < (vrs es n).length)):=by
 constructor
 ·rintro⟨y,g,hc|⟨h4,hv⟩⟩
  ·exact .inl ⟨y,g,hc⟩
  ·rcases re_top g with rfl|⟨k,hk,g2⟩
   ·exact .inr ⟨h4,hv⟩
   ·have hn:=kd_lt hk
    have he:=(hes n hn).2
    have hk2:k∈es[n].f2:=by rwa [kd,getD_in es n hn]at hk
    have hg:es.getD n zE=es[n]:=getD_in es n hn
    have hge:4≤es[n].f0:=by
     refine Classical.byContradiction fun h=>?_
     have:=he.2.2.2 (by omega)
     rw [List.length_eq_zero_iff]at this
     rw [this]at hk2
     cases hk2
    by_cases h5:es[n].f0=4
    ·obtain⟨z,g3,hz⟩:=(vrs_some es hes y).1 hv
     exact .inr ⟨by rw [hg];exact h5,(vrs_some es hes n).2 ⟨z,re_trans g g3,hz⟩⟩
    ·have:=he.2.1
     exact .inl ⟨n,Re.here,by unfold cal;rw [hg];omega⟩
 ·rintro(⟨y,g,hc⟩|h)
  ·exact⟨y,g,.inl hc⟩
  ·exact⟨n,Re.here,.inr h⟩
end Go.Proofs.Ytkdabljlfbmpdaa.QGrow
-- Cut by prune.py.
namespace Go.Proofs.Ytkdabljlfbmpdaa.QGrowB
open RowKit Pw YtkdabljlfbmpdaaW.PrintWords YtkdabljlfbmpdaaW.PrintLast QStr QGenR QRule QTree QText QForm QRuleT QWith QVars QLeast QSet QOldB QGrow
open QOldC (rd_in)
open QOldA (cal PTc kind_ev)
open QOldD (ev_list old_both)
open QBndD (bound_both)
set_option linter.unusedVariables false
set_option linter.unusedSimpArgs false
theorem l0_ev (es:List IEx) (a:Int) (b:ByteArray) (c:List Int) (d:List ILt) (ho:Okr es d) (hc:c.length≤1048576) (hr:∀ x∈c,0≤x∧x < (es.length:Int)):∀(q i:Nat),i + q=c.length→∃ r:Bool,Ev (fun k=>spec_Grows.l0 k (i:Int) es a b c d) r∧(r=true↔∃ x∈c.drop i,∃ y,Re (kd es) x.toNat y∧Gy es y)
 | 0,i,h=>by
  refine⟨false,y14 ⟨0,fun k _=>?_⟩,⟨fun h2=>(by cases h2),fun⟨x,hx,_⟩=>?_⟩⟩
  ·rw [spec_Grows.l0,if_neg (by omega)]
  ·rw [List.drop_of_length_le (by omega)]at hx
   cases hx
 | q + 1,i,h=>by
  have hi:i < c.length:=by omega
  have hx:=hr c[i] (List.getElem_mem hi)
  have hrd:rd c (i:Int)=c[i]:=rdN_get c i hi
  have hn:((c[i].toNat:Nat):Int)=c[i]:=by omega
  have hre:y19 es c[i]=es[c[i].toNat]:=(rd_in es hx).2
  have hge:es.getD c[i].toNat zE=es[c[i].toNat]:=getD_in es _ (by omega)
  obtain⟨K1,e1⟩:=kind_ev es a b c d ho.ok ho.few ho.kds c[i].toNat (by omega)
  obtain⟨K2,e2⟩:=svars_ev es a b c d ho.ok ho.few ho.kds c[i].toNat (by omega)
  obtain⟨r,⟨K3,e3⟩,h3⟩:=l0_ev es a b c d ho hc hr q (i + 1) (by omega)
  rw [hn]at e1 e2
  have htop:=top_eq es ho.ok c[i].toNat
  rw [List.drop_eq_getElem_cons hi]
  have hcons:(∃ x∈c[i] :: c.drop (i + 1),∃ y,Re (kd es) x.toNat y∧Gy es y)↔(∃ y,Re (kd es) c[i].toNat y∧Gy es y)∨∃ x∈c.drop (i + 1),∃ y,Re (kd es) x.toNat y∧Gy es y:=by
   constructor
   ·rintro⟨x,hx,h⟩
    rcases List.mem_cons.1 hx with rfl|hx
    ·exact .inl h
    ·exact .inr ⟨x,hx,h⟩
   ·rintro(h|⟨x,hx,h⟩)
    ·exact⟨_,List.mem_cons_self,h⟩
    ·exact⟨x,List.mem_cons_of_mem _ hx,h⟩
  rw [hcons,htop,hge]
  by_cases hp:∃ y,Re (kd es) c[i].toNat y∧cal es y
  ·refine⟨true,y14 ⟨max K1 K3,fun k hk=>?_⟩,⟨fun _=>.inl (.inl hp),fun _=>rfl⟩⟩
   have e1:=e1 k (by omega)
   simp only []at e1
   have hP:(!(PTc es c[i].toNat))=true:=by
    unfold PTc
    rw [Bool.not_eq_true',decide_eq_false_iff_not,Classical.not_not]
    exact hp
   rw [spec_Grows.l0,if_pos (by omega),if_pos (by omega),hrd,e1,Option.bind_some,if_pos hP]
  ·have hP:¬(!(PTc es c[i].toNat))=true:=by
    unfold PTc
    rw [Bool.not_eq_true',decide_eq_false_iff_not,Classical.not_not]
    exact hp
   by_cases h4:es[c[i].toNat].f0=4
   ·by_cases hv:0 < (vrs es c[i].toNat).length
    ·refine⟨true,y14 ⟨max K1 (max K2 K3),fun k hk=>?_⟩,⟨fun _=>.inl (.inr ⟨h4,hv⟩),fun _=>rfl⟩⟩
     have e1:=e1 k (by omega)
     have e2:=e2 k (by omega)
     simp only []at e1 e2
     rw [spec_Grows.l0,if_pos (by omega),if_pos (by omega),hrd,e1,Option.bind_some,if_neg hP,if_pos hx.1,if_pos hx.2,hre,if_pos h4,e2,Option.bind_some,if_pos (by omega)]
    ·refine⟨r,y14 ⟨max K1 (max K2 K3),fun k hk=>?_⟩,h3.trans ⟨.inr,fun h=>h.elim (fun h=>h.elim (fun h=>absurd h hp) (fun h=>absurd h.2 hv)) id⟩⟩
     have e1:=e1 k (by omega)
     have e2:=e2 k (by omega)
     have e3:=e3 k (by omega)
     simp only []at e1 e2 e3
     rw [spec_Grows.l0,if_pos (by omega),if_pos (by omega),hrd,e1,Option.bind_some,if_neg hP,if_pos hx.1,if_pos hx.2,hre,if_pos h4,e2,Option.bind_some,if_neg (by omega),step_i (by omega)]
     exact e3
   ·refine⟨r,y14 ⟨max K1 (max K2 K3),fun k hk=>?_⟩,h3.trans ⟨.inr,fun h=>h.elim (fun h=>h.elim (fun h=>absurd h hp) (fun h=>absurd h.1 h4)) id⟩⟩
    have e1:=e1 k (by omega)
    have e3:=e3 k (by omega)
    simp only []at e1 e3
    rw [spec_Grows.l0,if_pos (by omega),if_pos (by omega),hrd,e1,Option.bind_some,if_neg hP,if_pos hx.1,if_pos hx.2,hre,if_neg h4,step_i (by omega)]
    exact e3
section
variable (es : List IEx) (a : Int) (b : ByteArray) (c : List Int) (d : List ILt)
def HArg (x:Int) (k:Nat):Prop:=∃ xs,impl_Rule_within.f k es a b c d x=some xs∧xs.length≤60∧(∀ y,y∈xs↔∃ z:Nat,y=(z:Int)∧Re (kd es) x.toNat z)∧∀ y∈xs,(0≤y∧y < (es.length:Int))∧impl_Rule_vars.f k es a b c d y=some (vrs es y.toNat)
theorem hargs_ev (ho:Okr es d) (hr:∀ x∈c,0≤x∧x < (es.length:Int)):∃ K,∀ x∈c,∀ k,K≤k→HArg es a b c d x k:=by
 refine ev_list (fun x k=>HArg es a b c d x k) c (fun x hx=>?_)
 have hx:=hr x hx
 obtain⟨xs,⟨K1,e1⟩,h1,h2,h3⟩:=within_ev es a b c d ho.ok ho.szs ho.few ho.kds (x.toNat + 1) x.toNat (by omega) (by omega)
 have h60:=ho.szs x.toNat (by omega)
 have hin:∀ y∈xs,0≤y∧y < (es.length:Int):=fun y hy=>by
  obtain⟨z,rfl,g⟩:=(h3 y).1 hy
  have:=re_le (dn es ho.ok) g
  omega
 obtain⟨K2,e2⟩:=ev_list (fun y k=>impl_Rule_vars.f k es a b c d y=some (vrs es y.toNat)) xs (fun y hy=>by
  have hy:=hin y hy
  obtain⟨K,e⟩:=vars_ev es a b c d ho.ok ho.szs ho.few ho.kds y.toNat (by omega)
  rw [show((y.toNat:Nat):Int)=y by omega]at e
  exact⟨K,fun k hk=>e k hk⟩)
 refine⟨max K1 K2,fun k hk=>⟨xs, ?_,by omega,h3,fun y hy=>⟨hin y hy,e2 y hy k (by omega)⟩⟩⟩
 have e1:=e1 k (by omega)
 simp only []at e1
 rwa [show((x.toNat:Nat):Int)=x by omega]at e1
theorem harg_ok {x:Int} {k:Nat} (h:HArg es a b c d x k):lsOkX k es a b c d x=true∧(lsGx k es a b c d x=true↔∃ y,Re (kd es) x.toNat y∧Gy es y):=by
 obtain⟨xs,e,h1,h2,h3⟩:=h
 have hW:lsWI k es a b c d x=xs:=by unfold lsWI;rw [e];rfl
 constructor
 ·unfold lsOkX
  rw [hW,e]
  simp only [Bool.and_eq_true,decide_eq_true_eq,List.all_eq_true,Option.isSome_some,true_and]
  refine⟨by omega,fun y hy=>?_⟩
  unfold lsOkY
  rw [(h3 y hy).2,QOldA.isSum_f]
  simp only [Bool.and_eq_true,decide_eq_true_eq,Option.isSome_some,and_true]
  exact(h3 y hy).1
 ·unfold lsGx
  rw [hW,List.any_eq_true]
  have hg:∀ y∈xs,lsGy k es a b c d y=true↔Gy es y.toNat:=fun y hy=>by
   have hi:=(h3 y hy).1
   have hre:y19 es y=es[y.toNat]:=(rd_in es hi).2
   have hge:es.getD y.toNat zE=es[y.toNat]:=getD_in es _ (by omega)
   unfold lsGy lsVRf
   rw [(h3 y hy).2,QOldA.isSum_f,hre]
   unfold Gy cal
   rw [hge]
   simp only [Option.getD_some,Bool.or_eq_true,Bool.and_eq_true,decide_eq_true_eq,beq_iff_eq]
   refine or_congr Iff.rfl (and_congr Iff.rfl ?_)
   omega
  constructor
  ·rintro⟨y,hy,h⟩
   obtain⟨z,rfl,g⟩:=(h2 y).1 hy
   exact⟨z,g,(hg _ hy).1 h⟩
  ·rintro⟨z,g,h⟩
   have hy:=(h2 (z:Int)).2 ⟨z,rfl,g⟩
   exact⟨_,hy,(hg _ hy).2 h⟩
end
theorem grows_ev (es:List IEx) (h:ILt) (d:List ILt) (hw:FewR es h d):∃ r:Bool,Ev (fun k=>impl_Grows.f k es h.f0 h.f1 h.f2 d) r∧Ev (fun k=>spec_Grows.f k es h.f0 h.f1 h.f2 d) r:=by
 obtain⟨r,⟨K1,e1⟩,⟨t,⟨K2,e2⟩,ht⟩,hF⟩:=form_ev es h d hw
 by_cases hr:r=true
 ·have hf:=hF hr
  have ho:=okr_of hw hf
  have hc:=hw.2.2.1.2
  have hrg:∀ x∈h.f2,0≤x∧x < (es.length:Int):=fun x hx=>(hf.2.1 0 (Nat.zero_lt_succ _)).1 x hx
  obtain⟨os,o1,o2,⟨K3,e3⟩,⟨K4,e4⟩⟩:=old_both es d h hw hf
  obtain⟨bs,b1,b2,⟨K5,e5⟩,⟨K6,e6⟩⟩:=bound_both es d h hw hf
  obtain⟨g,⟨K7,e7⟩,hg⟩:=l0_ev es h.f0 h.f1 h.f2 d ho hc hrg h.f2.length 0 (by omega)
  obtain⟨s,⟨K8,e8⟩,hs⟩:=QBndC.all_ev bs os (by omega) (by omega) bs.length 0 (by omega)
  obtain⟨K9,e9⟩:=hargs_ev es h.f0 h.f1 h.f2 d ho hrg
  rw [List.drop_zero]at hg hs
  refine⟨!s || g,⟨max K1 (max K3 (max K5 K9)),fun k hk=>?_⟩,⟨max K2 (max K4 (max K6 (max K7 K8))),fun k hk=>?_⟩⟩
  ·have e1:=e1 k (by omega)
   have e3:=e3 k (by omega)
   have e5:=e5 k (by omega)
   have hA:=fun x hx=>harg_ok es h.f0 h.f1 h.f2 d (e9 x hx k (by omega))
   simp only []at e1 e3 e5
   have hok:lsOkG k es h.f0 h.f1 h.f2 d os bs=true:=by
    unfold lsOkG
    simp only [Bool.and_eq_true,decide_eq_true_eq,List.all_eq_true]
    refine⟨by omega,by omega,fun s hs=>?_,hc,fun x hx=>(hA x hx).1⟩
    obtain⟨e,he,rfl⟩:=b2 s hs
    exact(hw.2.1 e he).1
   show impl_Grows.f k es h.f0 h.f1 h.f2 d=_
   unfold impl_Grows.f impl_Rule_grows.f
   rw [e1,Option.bind_some,if_pos hr,e3,Option.bind_some,e5,Option.bind_some,if_pos hok,Option.bind_some]
   congr 1
   congr 1
   ·rw [Bool.eq_iff_iff,List.any_eq_true,Bool.not_eq_true',← Bool.not_eq_true,hs]
    constructor
    ·rintro⟨s,h1,h2⟩ h3
     rw [hasB_iff.2 (h3 s h1)]at h2
     cases h2
    ·intro h1
     refine Classical.byContradiction fun h2=>h1 fun s hs=>?_
     refine Classical.byContradiction fun h3=>h2 ⟨s,hs, ?_⟩
     rw [Bool.not_eq_true',← Bool.not_eq_true,hasB_iff]
     exact h3
   ·rw [Bool.eq_iff_iff,List.any_eq_true,hg]
    constructor
    ·rintro⟨x,h1,h2⟩
     exact⟨x,h1,(hA x h1).2.1 h2⟩
    ·rintro⟨x,h1,h2⟩
     exact⟨x,h1,(hA x h1).2.2 h2⟩
  ·have e2:=e2 k (by omega)
   have e4:=e4 k (by omega)
   have e6:=e6 k (by omega)
   have e7:=e7 k (by omega)
   have e8:=e8 k (by omega)
   simp only []at e2 e4 e6 e7 e8
   have hne:¬ t.toList=([]:List UInt8):=fun hx=>by have:=ht.1 hx;rw [hr]at this;cases this
   have hO:spec_Old.f k es h.f0 h.f1 h.f2 d=some os:=by
    unfold spec_Old.f
    rw [Option.bind_some,e2,Option.bind_some,if_neg hne]
    exact e4
   have hB:spec_Bound.f k es h.f0 h.f1 h.f2 d=some bs:=by
    unfold spec_Bound.f
    rw [Option.bind_some,e2,Option.bind_some,if_neg hne]
    exact e6
   show spec_Grows.f k es h.f0 h.f1 h.f2 d=_
   unfold spec_Grows.f
   rw [e2,Option.bind_some,if_neg hne,hB,Option.bind_some,hO,Option.bind_some]
   unfold spec_l06All.f
   rw [show spec_l06All.l0 k bs os 0=_ from e8,Option.bind_some]
   by_cases h1:s=true
   ·rw [if_pos h1,h1]
    exact e7
   ·rw [if_neg h1,Bool.eq_false_iff.2 h1]
    rfl
 ·have hr:r=false:=by simpa using hr
  refine⟨false,⟨K1,fun k hk=>?_⟩,⟨K2,fun k hk=>?_⟩⟩
  ·have e1:=e1 k (by omega)
   simp only []at e1
   show impl_Grows.f k es h.f0 h.f1 h.f2 d=_
   unfold impl_Grows.f
   rw [e1,Option.bind_some,if_neg (by rw [hr];decide)]
  ·have e2:=e2 k (by omega)
   simp only []at e2
   show spec_Grows.f k es h.f0 h.f1 h.f2 d=_
   unfold spec_Grows.f
   rw [e2,Option.bind_some,if_pos (ht.2 hr)]
end Go.Proofs.Ytkdabljlfbmpdaa.QGrowB
-- Cut by prune.py.
namespace Go.Proofs.Ytkdabljlfbmpdaa.Pure
open RowKit Pw YtkdabljlfbmpdaaW.PrintWords YtkdabljlfbmpdaaW.PrintLast QStr QGenR QRule QText QRuleT QGrowB
theorem rm_ex (a:LEx) (h:okT69 a):RmEx a:=⟨by have:=h.2.1;simp only []at this;omega,by have:=h.2.2.2.1;unfold RmN;omega⟩
theorem rm_lt (a:LLt) (h:okT25 a):RmLt a:=⟨by have:=h.2.1;simp only []at this;omega,by have:=h.2.2.2.1;unfold RmN;omega⟩
theorem rm_ru (a:LRu) (h:okT28 a):RmRu a :=
 ⟨⟨by have:=h.1.2.1;omega,fun x hx=>rm_ex x (h.1.2.2 x hx)⟩,rm_lt _ h.2.1,by have:=h.2.2.2.1;omega,fun x hx=>rm_lt x (h.2.2.2.2 x hx)⟩
theorem fewR (a:LRu) (h:FwRu a):FewR (a.f0.map cvEx) (cvLt a.f1) (a.f2.map cvLt):=by
 obtain⟨h1,h2,h3⟩:=h
 refine⟨by rw [List.length_map];exact h1.1,fun e he=>?_,h2,by rw [List.length_map];exact h3.1,fun l hl=>?_⟩
 ·obtain⟨x,hx,rfl⟩:=List.mem_map.1 he
  exact h1.2 x hx
 ·obtain⟨x,hx,rfl⟩:=List.mem_map.1 hl
  exact h3.2 x hx
theorem FnExactGrows:laws_FnExactGrows.Pure:=by
 intro a ha
 have hR:=rm_ru a ha
 obtain⟨z,hz,hz1,hz2⟩:=szRu_f a 1048576 4000000 hR (by omega) (by omega) (by omega)
 by_cases hneg:z < 0
 ·refine⟨4000000, ?_⟩
  unfold laws_FnExactGrows.f
  rw [hz,Option.bind_some,if_pos hneg]
 ·have hF:=hz2 (by omega)
  have hw:=fewR a hF
  obtain⟨r,⟨K1,g1⟩,⟨K2,g2⟩⟩:=grows_ev _ _ _ hw
  refine⟨max 4000000 (max K1 K2), ?_⟩
  generalize hk:max 4000000 (max K1 K2)=k
  obtain⟨z',hz',hz1',hz2'⟩:=szRu_f a 1048576 k hR (by omega) (by omega) (by omega)
  have e1:=g1 k (by omega)
  have e2:=g2 k (by omega)
  simp only []at e1 e2
  unfold laws_FnExactGrows.f
  rw [hz',Option.bind_some]
  by_cases hneg':z' < 0
  ·rw [if_pos hneg']
  ·rw [if_neg hneg',toRu_f a k hF (by omega),Option.bind_some]
   show((spec_Grows.f k (a.f0.map cvEx) (cvLt a.f1).f0 (cvLt a.f1).f1 (cvLt a.f1).f2 (a.f2.map cvLt)).bind _)=_
   rw [e2,Option.bind_some,Option.bind_some]
   show((impl_Grows.f k (a.f0.map cvEx) (cvLt a.f1).f0 (cvLt a.f1).f1 (cvLt a.f1).f2 (a.f2.map cvLt)).bind _)=_
   rw [e1,Option.bind_some,if_neg (by simp),Option.bind_some]
   show((laws_eqRule.f k (a.f0.map cvEx) (cvLt a.f1).f0 (cvLt a.f1).f1 (cvLt a.f1).f2 (a.f2.map cvLt) (a.f0.map cvEx) (cvLt a.f1).f0 (cvLt a.f1).f1 (cvLt a.f1).f2 (a.f2.map cvLt)).bind _)=_
   rw [eqRu_f _ _ _ k (QGenR.few_map fi_ex hF.1) (fi_lt _ hF.2.1) (QGenR.few_map fi_lt hF.2.2) (by omega),Option.bind_some,if_pos rfl]
end Go.Proofs.Ytkdabljlfbmpdaa.Pure
