-- Cut by prune.py.
import Derived.Test.YtimhlficlhafbaaGreatDoorVvlQText
namespace Go.Proofs.YtimhlficlhafbaaGreatDoor.QForm
open RowKit Pv YtimhlficlhafbaaGreatDoorW.PrintWords YtimhlficlhafbaaGreatDoorW.PrintLast QStr QGenR QRule QTree QText
theorem in_f (a b c:Int):impl_in.f a b c=some (decide (b≤a∧a≤c)):=by
 unfold impl_in.f
 by_cases h:a≥b
 ·rw [if_pos h]
  exact congrArg some (decide_eq_decide.2 ⟨fun h2=>⟨h,h2⟩,fun h2=>h2.2⟩)
 ·rw [if_neg h]
  exact congrArg some (decide_eq_false (fun h2=>h h2.1)).symm
theorem isSum_f (a:Int):impl_isSum.f a=some (decide (5≤a∧a≤7)):=by
 unfold impl_isSum.f
 rw [in_f,Option.bind_some]
theorem y17 {α:Type} {g:Nat→Option α} {r:α} (h:∃ K,∀ m,K≤m→g (m + 1)=some r):Ev g r:=by
 obtain⟨K,h⟩:=h
 refine⟨K + 1,fun k hk=>?_⟩
 obtain⟨m,rfl⟩:∃ m,k=m + 1:=⟨k - 1,by omega⟩
 exact h m (by omega)
theorem index_l (us:List Int) (hn:us.length≤281474976710656):∀(d i:Nat),i + d=us.length→∃ r,Ev (fun k=>z4_.l0 k us (us.length:Int) (i:Int)) r∧decide (r≥0)=(us.drop i).any (fun x=>x != 1)
 | 0,i,h=>by
  refine⟨-1,y17 ⟨0,fun m _=>?_⟩, ?_⟩
  ·rw [z4_.l0,if_neg (by omega)]
  ·rw [List.drop_of_length_le (by omega)]
   rfl
 | d + 1,i,h=>by
  have hi:i < us.length:=by omega
  obtain⟨r,⟨K,h1⟩,h2⟩:=index_l us hn d (i + 1) (by omega)
  rw [List.drop_eq_getElem_cons hi,List.any_cons]
  by_cases e:us[i]=1
  ·refine⟨r,y17 ⟨K,fun m hm=>?_⟩, ?_⟩
   ·rw [z4_.l0,if_pos (by omega),if_pos (by omega),if_pos (by omega),rdN_get us i hi]
    unfold impl_isFormed_1.f
    rw [Option.bind_some,if_neg (by simp [e]),step_i (by omega)]
    exact h1 m hm
   ·rw [h2]
    simp [e]
  ·refine⟨(i:Int),y17 ⟨0,fun m hm=>?_⟩, ?_⟩
   ·rw [z4_.l0,if_pos (by omega),if_pos (by omega),if_pos (by omega),rdN_get us i hi]
    unfold impl_isFormed_1.f
    rw [Option.bind_some,if_pos (by simp [e])]
   ·have:(us[i] != 1)=true:=by simp [e]
    rw [this,Bool.true_or]
    exact decide_eq_true (by omega)
theorem contains_f (us:List Int) (hn:us.length≤281474976710656):Ev (fun k=>slices_ContainsFunc_int_int_impl_isFormed_1.f k us) (us.any (fun x=>x != 1)):=by
 obtain⟨r,⟨K,h1⟩,h2⟩:=index_l us hn us.length 0 (by omega)
 refine⟨K,fun k hk=>?_⟩
 show slices_ContainsFunc_int_int_impl_isFormed_1.f k us=_
 unfold slices_ContainsFunc_int_int_impl_isFormed_1.f z4_.f
 have h3:=h1 k hk
 simp only [show(((0:Nat):Int))=0 from rfl]at h3
 rw [h3,Option.bind_some,h2,List.drop_zero]
section
variable (es : List IEx) (a : Int) (b : ByteArray) (c : List Int) (d : List ILt)
theorem l1_ev (i:Nat) (hi:i≤1048576) (ks:List Int) (hk:ks.length≤1048576) (f0:Int) (f1:ByteArray) (f2:List Int) (r:Bool):∀(q j:Nat) (us:List Int),j + q=ks.length→i≤us.length→(∀ m,0≤us.getD m 0∧us.getD m 0≤4611686018427387904 - (q:Int)) →
  (InR (i:Int) (ks.drop j)→Ev (fun k=>z3_.l1 k (incs us (ks.drop j)) (i:Int) es (es.length:Int) (i:Int) ks (ks.length:Int) (ks.length:Int) es a b c d f0 f1 f2) r)→(¬ InR (i:Int) (ks.drop j)→r=false) →
  Ev (fun k=>z3_.l1 k us (i:Int) es (es.length:Int) (i:Int) ks (ks.length:Int) (j:Int) es a b c d f0 f1 f2) r
 | 0,j,us,h,_,_,h1,_=>by
  obtain rfl:j=ks.length:=h
  rw [List.drop_length]at h1
  exact h1 (inR_nil _)
 | q + 1,j,us,h,hu,hc,h1,h2=>by
  have hj:j < ks.length:=by omega
  rw [List.drop_eq_getElem_cons hj]at h1 h2
  by_cases hin:0≤ks[j]∧ks[j] < (i:Int)
  ·have hb:(bump us ks[j]).length=us.length:=bump_len us _
   have ih:=l1_ev i hi ks hk f0 f1 f2 r q (j + 1) (bump us ks[j]) (by omega) (by omega) (fun m=>by
    have hba:=bump_at us ks[j] m (by omega)
    have:=hc m
    by_cases e:ks[j].toNat=m
    ·rw [if_pos e]at hba
     omega
    ·rw [if_neg e]at hba
     omega) (fun hr=>h1 (inR_cons.2 ⟨hin,hr⟩)) (fun hr=>h2 (fun hx=>hr (inR_cons.1 hx).2))
   obtain⟨K,ih⟩:=ih
   refine y17 ⟨K,fun m hm=>?_⟩
   have hcm:=hc ks[j].toNat
   have hrd:rd us ks[j]=us.getD ks[j].toNat 0:=rfl
   rw [z3_.l1,if_pos (by omega),if_pos (by omega),if_pos (by omega),rdN_get ks j hj,wrapS (n:=(i:Int) - 1) (by omega) (by omega),in_f,Option.bind_some,if_pos (decide_eq_true ⟨hin.1,by omega⟩),if_pos hin.1,if_pos (by omega),wrapS (by omega) (by omega),step_i (by omega)]
   exact ih m hm
  ·refine y17 ⟨0,fun m hm=>?_⟩
   rw [z3_.l1,if_pos (by omega),if_pos (by omega),if_pos (by omega),rdN_get ks j hj,wrapS (n:=(i:Int) - 1) (by omega) (by omega),in_f,Option.bind_some,if_neg (by
    intro hx
    have:=of_decide_eq_true hx
    exact hin ⟨this.1,by omega⟩)]
   rw [h2 (fun hx=>hin (inR_cons.1 hx).1)]
def EC (f0:Int) (n:Nat):Prop:=1≤f0∧f0≤7∧(5≤f0→n=2)∧(f0≤3→n=0)
theorem l1_end (i:Nat) (hi:i≤1048576) (ks f2:List Int) (f0:Int) (f1:ByteArray) (us:List Int) (r:Bool)
  (h1:EC f0 f2.length→Ev (fun k=>z3_.l0 k us es (es.length:Int) ((i + 1:Nat):Int) es a b c d) r) (h2:¬ EC f0 f2.length→r=false) :
  Ev (fun k=>z3_.l1 k us (i:Int) es (es.length:Int) (i:Int) ks (ks.length:Int) (ks.length:Int) es a b c d f0 f1 f2) r:=by
 by_cases he:EC f0 f2.length
 ·obtain⟨K,h1⟩:=h1 he
  obtain⟨e1,e2,e3,e4⟩:=he
  refine y17 ⟨K,fun m hm=>?_⟩
  rw [z3_.l1,if_neg (by omega),in_f,Option.bind_some,if_pos (decide_eq_true ⟨e1,e2⟩),isSum_f,Option.bind_some]
  by_cases h5:5≤f0
  ·rw [if_pos (decide_eq_true ⟨h5,e2⟩),if_pos (by have:=e3 h5;omega),in_f,Option.bind_some,if_neg (by intro hx;have:=of_decide_eq_true hx;omega),step_i (by omega)]
   exact h1 m hm
  ·rw [if_neg (by intro hx;have:=of_decide_eq_true hx;omega),in_f,Option.bind_some]
   by_cases h3:f0≤3
   ·rw [if_pos (decide_eq_true ⟨e1,h3⟩),if_neg (by have:=e4 h3;omega),step_i (by omega)]
    exact h1 m hm
   ·rw [if_neg (by intro hx;have:=of_decide_eq_true hx;omega),step_i (by omega)]
    exact h1 m hm
 ·rw [h2 he]
  refine y17 ⟨0,fun m hm=>?_⟩
  rw [z3_.l1,if_neg (by omega),in_f,Option.bind_some]
  by_cases e1:1≤f0∧f0≤7
  ·rw [if_pos (decide_eq_true e1),isSum_f,Option.bind_some]
   by_cases h5:5≤f0
   ·rw [if_pos (decide_eq_true ⟨h5,e1.2⟩),if_neg (by
     intro hx
     exact he ⟨e1.1,e1.2,fun _=>by omega,fun _=>by omega⟩)]
   ·rw [if_neg (by intro hx;have:=of_decide_eq_true hx;omega),in_f,Option.bind_some]
    by_cases h3:f0≤3
    ·rw [if_pos (decide_eq_true ⟨e1.1,h3⟩),if_pos (by
      refine Int.lt_of_not_ge (fun hx=>he ⟨e1.1,e1.2,fun _=>by omega,fun _=>by omega⟩))]
    ·exact absurd ⟨e1.1,e1.2,fun hx=>absurd hx h5,fun hx=>absurd hx h3⟩ he
  ·rw [if_neg (by intro hx;exact e1 (of_decide_eq_true hx))]
theorem kids_len (hk:∀ e∈es,e.f2.length≤1048576):∀ i,i≤es.length→(kids es i).length≤i * 1048576
 | 0,_=>Nat.zero_le _
 | i + 1,h=>by
  have ih:=kids_len hk i (by omega)
  have:=hk es[i] (List.getElem_mem (by omega))
  show(kids es i ++ (es.getD i zE).f2).length≤_
  rw [List.length_append,getD_in es i (by omega)]
  omega
theorem cnt_ok (ks:List Int) (us:List Int) (h:InR us.length ks) (h0:∀ m,us.getD m 0=0) (m:Nat):0≤(incs us ks).getD m 0∧(incs us ks).getD m 0≤(ks.length:Int):=by
 have h1:=incs_le ks us m h
 have h2:=incs_up ks us m h
 have h3:=h0 m
 omega
theorem l0_ev (hn:es.length≤1048576) (hk:∀ e∈es,e.f2.length≤1048576) (r:Bool):∀(q i:Nat),i + q=es.length→(∀ m (h:m < es.length),m < i→EOk (m:Int) es[m]) →
  (EsOk es→Ev (fun k=>(impl_Rule_lits.f es a b c d).bind fun t=>z3_.l2 k (incs (us0 es) (kids es es.length)) t (t.length:Int) 0 es a b c d) r)→(¬ EsOk es→r=false) →
  Ev (fun k=>z3_.l0 k (incs (us0 es) (kids es i)) es (es.length:Int) (i:Int) es a b c d) r
 | 0,i,h,hd,h1,_=>by
  obtain rfl:i=es.length:=h
  obtain⟨K,h1⟩:=h1 (fun m hm=>hd m hm hm)
  refine y17 ⟨K,fun m hm=>?_⟩
  rw [z3_.l0,if_neg (by omega)]
  exact h1 m hm
 | q + 1,i,h,hd,h1,h2=>by
  have hi:i < es.length:=by omega
  have hkl:=hk es[i] (List.getElem_mem hi)
  have hE:incs (us0 es) (kids es (i + 1))=incs (incs (us0 es) (kids es i)) es[i].f2:=by
   show incs (us0 es) (kids es i ++ (es.getD i zE).f2)=_
   rw [incs_app,getD_in es i hi]
  have hpre:InR (i:Int) (kids es i):=by
   intro k hk2
   obtain⟨j,hj,hm⟩:=kids_mem es i k hk2
   rw [getD_in es j (by omega)]at hm
   have:=(hd j (by omega) hj).1 k hm
   omega
  have hcnt:=cnt_ok (kids es i) (us0 es) (by rw [us0_len];exact inR_le hpre (by omega)) (us0_at es)
  have hkl2:=kids_len es hk i (by omega)
  have hb2:i * 1048576≤1048576 * 1048576:=Nat.mul_le_mul_right _ (by omega)
  have hl1:=l1_ev es a b c d i (by omega) es[i].f2 hkl es[i].f0 es[i].f1 es[i].f2 r es[i].f2.length 0 (incs (us0 es) (kids es i)) (by omega) (by rw [incs_len,us0_len];omega) (fun m=>by
   have:=hcnt m
   omega)
   (fun hin=>by
    rw [List.drop_zero]at hin ⊢
    refine l1_end es a b c d i (by omega) es[i].f2 es[i].f2 es[i].f0 es[i].f1 _ r (fun he=>?_) (fun he=>h2 (fun hx=>he (hx i hi).2))
    rw [← hE]
    refine l0_ev hn hk r q (i + 1) (by omega) (fun m hm hlt=>?_) h1 h2
    by_cases e:m=i
    ·subst e
     exact⟨hin,he⟩
    ·exact hd m hm (by omega))
   (fun hin=>by
    rw [List.drop_zero]at hin
    exact h2 (fun hx=>hin (hx i hi).1))
  obtain⟨K,hl1⟩:=hl1
  refine y17 ⟨K,fun m hm=>?_⟩
  rw [z3_.l0,if_pos (by omega),if_pos (by omega),if_pos (by omega)]
  have hrd:y23 es (i:Int)=es[i]:=getD_at _ es i hi
  rw [hrd]
  exact hl1 m hm
end
def LOk (n i:Nat) (l:ILt):Prop:=InR (n:Int) l.f2∧1≤l.f0∧l.f0≤3∧(l.f0=3→l.f2.length=2)∧(i=0→l.f0=1)
def LsOk (n:Nat) (ls:List ILt):Prop:=∀ i (h:i < ls.length),LOk n i ls[i]
abbrev zL:ILt:=⟨0,⟨#[]⟩,[]⟩
theorem getD_l (ls:List ILt) (i:Nat) (h:i < ls.length):ls.getD i zL=ls[i]:=by
 rw [List.getD_eq_getElem?_getD,List.getElem?_eq_getElem h]
 rfl
def lat (ls:List ILt):Nat→List Int
 | 0=>[]
 | i + 1=>lat ls i ++ (ls.getD i zL).f2
theorem lat_in (n:Nat) (ls:List ILt):∀ i,i≤ls.length→(∀ m (h:m < ls.length),m < i→InR (n:Int) ls[m].f2)→InR (n:Int) (lat ls i)
 | 0,_,_=>inR_nil _
 | i + 1,hi,h=>by
  intro k hk
  rcases List.mem_append.1 hk with hk|hk
  ·exact lat_in n ls i (by omega) (fun m hm hlt=>h m hm (by omega)) k hk
  ·rw [getD_l ls i (by omega)]at hk
   exact h i (by omega) (by omega) k hk
theorem lat_len (ls:List ILt) (hk:∀ l∈ls,l.f2.length≤1048576):∀ i,i≤ls.length→(lat ls i).length≤i * 1048576
 | 0,_=>Nat.zero_le _
 | i + 1,h=>by
  have ih:=lat_len ls hk i (by omega)
  have:=hk ls[i] (List.getElem_mem (by omega))
  show(lat ls i ++ (ls.getD i zL).f2).length≤_
  rw [List.length_append,getD_l ls i (by omega)]
  omega
section
variable (es : List IEx) (a : Int) (b : ByteArray) (c : List Int) (d : List ILt)
theorem l3_ev (hn:es.length≤1048576) (ls:List ILt) (i:Nat) (hi:i≤1048577) (ks:List Int) (hk:ks.length≤1048576) (r:Bool):∀(q j:Nat) (us:List Int),j + q=ks.length→us.length=es.length→(∀ m,0≤us.getD m 0∧us.getD m 0≤4611686018427387904 - (q:Int)) →
  (InR (es.length:Int) (ks.drop j)→Ev (fun k=>z3_.l2 k (incs us (ks.drop j)) ls (ls.length:Int) ((i + 1:Nat):Int) es a b c d) r)→(¬ InR (es.length:Int) (ks.drop j)→r=false) →
  Ev (fun k=>z3_.l3 k us ls (ls.length:Int) (i:Int) ks (ks.length:Int) (j:Int) es a b c d) r
 | 0,j,us,h,_,_,h1,_=>by
  obtain rfl:j=ks.length:=h
  rw [List.drop_length]at h1
  obtain⟨K,h1⟩:=h1 (inR_nil _)
  refine y17 ⟨K,fun m hm=>?_⟩
  rw [z3_.l3,if_neg (by omega),step_i (by omega)]
  exact h1 m hm
 | q + 1,j,us,h,hu,hc,h1,h2=>by
  have hj:j < ks.length:=by omega
  rw [List.drop_eq_getElem_cons hj]at h1 h2
  by_cases hin:0≤ks[j]∧ks[j] < (es.length:Int)
  ·have hb:(bump us ks[j]).length=us.length:=bump_len us _
   have ih:=l3_ev hn ls i hi ks hk r q (j + 1) (bump us ks[j]) (by omega) (by omega) (fun m=>by
    have hba:=bump_at us ks[j] m (by omega)
    have:=hc m
    by_cases e:ks[j].toNat=m
    ·rw [if_pos e]at hba
     omega
    ·rw [if_neg e]at hba
     omega) (fun hr=>h1 (inR_cons.2 ⟨hin,hr⟩)) (fun hr=>h2 (fun hx=>hr (inR_cons.1 hx).2))
   obtain⟨K,ih⟩:=ih
   refine y17 ⟨K,fun m hm=>?_⟩
   have hcm:=hc ks[j].toNat
   have hrd:rd us ks[j]=us.getD ks[j].toNat 0:=rfl
   rw [z3_.l3,if_pos (by omega),if_pos (by omega),if_pos (by omega),rdN_get ks j hj,wrapS (n:=(es.length:Int) - 1) (by omega) (by omega),in_f,Option.bind_some,if_pos (decide_eq_true ⟨hin.1,by omega⟩),if_pos hin.1,if_pos (by omega),wrapS (by omega) (by omega),step_i (by omega)]
   exact ih m hm
  ·refine y17 ⟨0,fun m hm=>?_⟩
   rw [z3_.l3,if_pos (by omega),if_pos (by omega),if_pos (by omega),rdN_get ks j hj,wrapS (n:=(es.length:Int) - 1) (by omega) (by omega),in_f,Option.bind_some,if_neg (by
    intro hx
    have:=of_decide_eq_true hx
    exact hin ⟨this.1,by omega⟩)]
   rw [h2 (fun hx=>hin (inR_cons.1 hx).1)]
def LC (i:Nat) (l:ILt):Prop:=1≤l.f0∧l.f0≤3∧(l.f0=3→l.f2.length=2)∧(i=0→l.f0=1)
theorem j3_f (ls:List ILt) (x:Int) (us:List Int) (f0:Int) (f1:ByteArray) (f2:List Int) (k:Nat):z3_.j3 (k + 1) us ls (ls.length:Int) x true es a b c d f0 f1 f2=some false:=by
 rw [z3_.j3,if_pos rfl]
theorem l2_body (ls:List ILt) (_hls:ls.length≤1048577) (i:Nat) (hi:i < ls.length) (us:List Int) (r:Bool)
  (h1:LC i ls[i]→Ev (fun k=>z3_.l3 k us ls (ls.length:Int) (i:Int) ls[i].f2 (ls[i].f2.length:Int) 0 es a b c d) r) (h2:¬ LC i ls[i]→r=false) :
  Ev (fun k=>z3_.l2 k us ls (ls.length:Int) (i:Int) es a b c d) r:=by
 have hrd:y22 ls (i:Int)=ls[i]:=getD_at _ ls i hi
 by_cases hl:LC i ls[i]
 ·obtain⟨K,h1⟩:=h1 hl
  obtain⟨e1,e2,e3,e4⟩:=hl
  refine y17 ⟨K + 1,fun m hm=>?_⟩
  obtain⟨m,rfl⟩:∃ p,m=p + 1:=⟨m - 1,by omega⟩
  have hj:∀ z:Bool,z=false→z3_.j3 (m + 1) us ls (ls.length:Int) (i:Int) z es a b c d ls[i].f0 ls[i].f1 ls[i].f2=some r:=by
   intro z hz
   rw [hz,z3_.j3,if_neg (by decide)]
   exact h1 m (by omega)
  rw [z3_.l2,if_pos (by omega),if_pos (by omega),if_pos (by omega),hrd]
  by_cases h0:i=0
  ·rw [if_pos (by omega),if_pos (e4 h0),in_f,Option.bind_some,if_pos (decide_eq_true ⟨e1,e2⟩),if_neg (by have:=e4 h0;omega)]
   exact hj _ rfl
  ·rw [if_neg (by omega),in_f,Option.bind_some,if_pos (decide_eq_true ⟨e1,e2⟩)]
   by_cases h3:ls[i].f0=3
   ·rw [if_pos h3]
    exact hj _ (by rw [e3 h3];rfl)
   ·rw [if_neg h3]
    exact hj _ rfl
 ·rw [h2 hl]
  refine y17 ⟨1,fun m hm=>?_⟩
  obtain⟨m,rfl⟩:∃ p,m=p + 1:=⟨m - 1,by omega⟩
  rw [z3_.l2,if_pos (by omega),if_pos (by omega),if_pos (by omega),hrd]
  by_cases h0:i=0
  ·rw [if_pos (by omega)]
   by_cases hk1:ls[i].f0=1
   ·exact absurd ⟨by omega,by omega,fun hx=>by omega,fun _=>hk1⟩ hl
   ·rw [if_neg hk1]
    exact j3_f es a b c d ls _ us _ _ _ m
  ·rw [if_neg (by omega),in_f,Option.bind_some]
   by_cases hk3:1≤ls[i].f0∧ls[i].f0≤3
   ·rw [if_pos (decide_eq_true hk3)]
    by_cases h3:ls[i].f0=3
    ·have hne:¬ ls[i].f2.length=2:=fun hx=>hl ⟨hk3.1,hk3.2,fun _=>hx,fun hx2=>absurd hx2 h0⟩
     rw [if_pos h3,show((ls[i].f2.length:Int) != 2)=true from by simp;omega]
     exact j3_f es a b c d ls _ us _ _ _ m
    ·exact absurd ⟨hk3.1,hk3.2,fun hx=>absurd hx h3,fun hx=>absurd hx h0⟩ hl
   ·rw [if_neg (by intro hx;exact hk3 (of_decide_eq_true hx))]
    exact j3_f es a b c d ls _ us _ _ _ m
theorem l2_ev (hn:es.length≤1048576) (ls:List ILt) (hls:ls.length≤1048577) (hk:∀ l∈ls,l.f2.length≤1048576) (u:List Int) (hu:u.length=es.length) (hc:∀ m,0≤u.getD m 0∧u.getD m 0≤1099511627776) (r:Bool):∀(q i:Nat),i + q=ls.length→(∀ m (h:m < ls.length),m < i→LOk es.length m ls[m]) →
  (LsOk es.length ls→r=(decide (es.length≤60) && !((incs u (lat ls ls.length)).any (fun x=>x != 1))))→(¬ LsOk es.length ls→r=false) →
  Ev (fun k=>z3_.l2 k (incs u (lat ls i)) ls (ls.length:Int) (i:Int) es a b c d) r
 | 0,i,h,hd,h1,_=>by
  obtain rfl:i=ls.length:=h
  rw [h1 (fun m hm=>hd m hm hm)]
  obtain⟨K,hcf⟩:=contains_f (incs u (lat ls ls.length)) (by rw [incs_len];omega)
  refine y17 ⟨K,fun m hm=>?_⟩
  rw [z3_.l2,if_neg (by omega)]
  by_cases h60:es.length≤60
  ·rw [if_pos (by omega),decide_eq_true h60,Bool.true_and]
   have:=hcf m hm
   simp only []at this
   rw [this,Option.bind_some]
  ·rw [if_neg (by omega),decide_eq_false h60,Bool.false_and]
 | q + 1,i,h,hd,h1,h2=>by
  have hi:i < ls.length:=by omega
  have hkl:=hk ls[i] (List.getElem_mem hi)
  have hE:incs u (lat ls (i + 1))=incs (incs u (lat ls i)) ls[i].f2:=by
   show incs u (lat ls i ++ (ls.getD i zL).f2)=_
   rw [incs_app,getD_l ls i hi]
  have hpre:InR (u.length:Int) (lat ls i):=by
   rw [hu]
   exact lat_in es.length ls i (by omega) (fun m hm hlt=>(hd m hm hlt).1)
  have hl2:=lat_len ls hk i (by omega)
  have hb2:i * 1048576≤1048577 * 1048576:=Nat.mul_le_mul_right _ (by omega)
  refine l2_body es a b c d ls hls i hi _ r (fun hlc=>?_) (fun hlc=>h2 (fun hx=>hlc (hx i hi).2))
  refine l3_ev es a b c d hn ls i (by omega) ls[i].f2 hkl r ls[i].f2.length 0 (incs u (lat ls i)) (by omega) (by rw [incs_len,hu]) (fun m=>?_) (fun hin=>?_) (fun hin=>?_)
  ·have g1:=incs_le (lat ls i) u m hpre
   have g2:=incs_up (lat ls i) u m hpre
   have g3:=hc m
   omega
  ·rw [List.drop_zero]at hin ⊢
   rw [← hE]
   refine l2_ev hn ls hls hk u hu hc r q (i + 1) (by omega) (fun m hm hlt=>?_) h1 h2
   by_cases e:m=i
   ·subst e
    exact⟨hin,hlc⟩
   ·exact hd m hm (by omega)
  ·rw [List.drop_zero]at hin
   exact h2 (fun hx=>hin (hx i hi).1)
end
def Frm (es:List IEx) (h:ILt) (bd:List ILt):Prop:=EsOk es∧LsOk es.length (h :: bd)∧es.length≤60∧∀ x∈incs (incs (us0 es) (kids es es.length)) (lat (h :: bd) (h :: bd).length),x=1
theorem lits_f (es:List IEx) (h:ILt) (bd:List ILt) (hb:bd.length≤1048576):impl_Rule_lits.f es h.f0 h.f1 h.f2 bd=some (h :: bd):=by
 unfold impl_Rule_lits.f
 rw [Option.bind_some,if_pos (by rw [List.length_singleton];omega)]
 rfl
open Classical in
theorem isFormed_ev (es:List IEx) (h:ILt) (bd:List ILt) (hn:es.length≤1048576) (hk:∀ e∈es,e.f2.length≤1048576) (hh:h.f2.length≤1048576) (hb:bd.length≤1048576) (hbl:∀ l∈bd,l.f2.length≤1048576) :
  Ev (fun k=>z3_.f k es h.f0 h.f1 h.f2 bd) (decide (Frm es h bd)):=by
 have hkk:=kids_len es hk es.length (Nat.le_refl _)
 have hb2:es.length * 1048576≤1048576 * 1048576:=Nat.mul_le_mul_right _ hn
 have main:=l0_ev es h.f0 h.f1 h.f2 bd hn hk (decide (Frm es h bd)) es.length 0 (by omega) (fun m _ hm=>absurd hm (Nat.not_lt_zero m))
  (fun hes=>by
   simp only [lits_f es h bd hb,Option.bind_some]
   refine l2_ev es h.f0 h.f1 h.f2 bd hn (h :: bd) (by rw [List.length_cons];omega) (fun l hl=>?_) _ (by rw [incs_len,us0_len]) (fun m=>?_) _ (h :: bd).length 0 (by omega) (fun m _ hm=>absurd hm (Nat.not_lt_zero m)) (fun hls=>?_) (fun hls=>?_)
   ·rcases List.mem_cons.1 hl with rfl|hl
    ·exact hh
    ·exact hbl l hl
   ·have:=cnt_ok (kids es es.length) (us0 es) (by rw [us0_len];exact kids_in es hes es.length (Nat.le_refl _)) (us0_at es) m
    omega
   ·by_cases h60:es.length≤60
    ·rw [decide_eq_true h60,Bool.true_and]
     by_cases ho:∀ x∈incs (incs (us0 es) (kids es es.length)) (lat (h :: bd) (h :: bd).length),x=1
     ·rw [decide_eq_true (show Frm es h bd from⟨hes,hls,h60,ho⟩)]
      have:(incs (incs (us0 es) (kids es es.length)) (lat (h :: bd) (h :: bd).length)).any (fun x=>x != 1)=false:=by
       rw [List.any_eq_false]
       intro x hx
       simp [ho x hx]
      rw [this]
      rfl
     ·rw [decide_eq_false (show ¬ Frm es h bd from fun hf=>ho hf.2.2.2)]
      have:(incs (incs (us0 es) (kids es es.length)) (lat (h :: bd) (h :: bd).length)).any (fun x=>x != 1)=true:=by
       rw [List.any_eq_true]
       refine Classical.byContradiction fun hx=>ho (fun x hx2=>Classical.byContradiction fun hx3=>hx ⟨x,hx2,by simp [hx3]⟩)
      rw [this]
      rfl
    ·rw [decide_eq_false h60,Bool.false_and]
     exact decide_eq_false (fun hf=>h60 hf.2.2.1)
   ·exact decide_eq_false (fun hf=>hls hf.2.1))
  (fun hes=>decide_eq_false (fun hf=>hes hf.1))
 obtain⟨K,main⟩:=main
 refine⟨K,fun k hk=>?_⟩
 show z3_.f k es h.f0 h.f1 h.f2 bd=_
 unfold z3_.f
 rw [if_pos (by omega),if_pos (by omega)]
 exact main k hk
end Go.Proofs.YtimhlficlhafbaaGreatDoor.QForm
