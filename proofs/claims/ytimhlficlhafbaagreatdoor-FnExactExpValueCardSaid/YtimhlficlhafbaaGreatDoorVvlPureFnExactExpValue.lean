import Derived.Test.YtimhlficlhafbaaGreatDoorVvlQText
import Derived.Test.YtimhlficlhafbaaGreatDoorVvlQRuleT
import Derived.Test.YtimhlficlhafbaaGreatDoorVvlQKind
import Derived.Test.YtimhlficlhafbaaGreatDoorVvlQLaws
import Derived.Test.YtimhlficlhafbaaGreatDoorVvlPvx28
-- Cut by prune.py.
namespace Go.Proofs.YtimhlficlhafbaaGreatDoor.QWith
def Dn (ks:Nat→List Int):Prop:=∀ j,∀ k∈ks j,0≤k∧k < (j:Int)
inductive Re (ks:Nat→List Int) (n:Nat):Nat→Prop
 | here:Re ks n n
 | down (j:Nat) (k:Int):Re ks n j→k∈ks j→Re ks n k.toNat
theorem re_trans {ks:Nat→List Int} {n m x:Nat} (h:Re ks n m) (g:Re ks m x):Re ks n x:=by
 induction g with
 | here=>exact h
 | down j k _ hk ih=>exact Re.down j k ih hk
theorem re_kid {ks:Nat→List Int} {n:Nat} {k:Int} {x:Nat} (hk:k∈ks n) (g:Re ks k.toNat x):Re ks n x:=re_trans (Re.down n k Re.here hk) g
theorem re_top {ks:Nat→List Int} {n x:Nat} (g:Re ks n x):x=n∨∃ k∈ks n,Re ks k.toNat x:=by
 induction g with
 | here=>exact .inl rfl
 | down j k _ hk ih =>
  rcases ih with rfl|⟨k',hk',g'⟩
  ·exact .inr ⟨k,hk,Re.here⟩
  ·exact .inr ⟨k',hk',Re.down j k g' hk⟩
theorem re_le {ks:Nat→List Int} (hd:Dn ks) {n x:Nat} (g:Re ks n x):x≤n:=by
 induction g with
 | here=>exact Nat.le_refl _
 | down j k _ hk ih =>
  have:=hd j k hk
  omega
theorem re_end {ks:Nat→List Int} {n x:Nat} (g:Re ks n x):x=n∨∃ j,∃ k∈ks j,Re ks n j∧k.toNat=x:=by
 cases g with
 | here=>exact .inl rfl
 | down j k h hk=>exact .inr ⟨j,k,hk,h,rfl⟩
def Mk (b:List Bool) (x:Nat):Prop:=b.getD x false=true
theorem mk_set (b:List Bool) (i x:Nat) (hi:i < b.length):Mk (b.set i true) x↔Mk b x∨x=i:=by
 unfold Mk
 rw [List.getD_eq_getElem?_getD,List.getElem?_set,List.getD_eq_getElem?_getD]
 by_cases h:i=x
 ·subst h
  simp [hi]
 ·rw [if_neg h]
  constructor
  ·exact .inl
  ·rintro(h2|h2)
   ·exact h2
   ·exact absurd h2.symm h
def Inv (ks:Nat→List Int) (n i:Nat) (b:List Bool):Prop:=∀ x,Mk b x↔x=n∨∃ j,i≤j∧∃ k∈ks j,Re ks n j∧k.toNat=x
theorem inv_all {ks:Nat→List Int} {n:Nat} {b:List Bool} (h:Inv ks n 0 b) (x:Nat):Mk b x↔Re ks n x:=by
 rw [h x]
 constructor
 ·rintro(rfl|⟨j,_,k,hk,hr,rfl⟩)
  ·exact Re.here
  ·exact Re.down j k hr hk
 ·intro g
  rcases re_end g with h|⟨j,k,hk,hr,rfl⟩
  ·exact .inl h
  ·exact .inr ⟨j,Nat.zero_le _,k,hk,hr,rfl⟩
theorem inv_at {ks:Nat→List Int} (hd:Dn ks) {n i:Nat} {b:List Bool} (h:Inv ks n (i + 1) b):Mk b i↔Re ks n i:=by
 rw [h i]
 constructor
 ·rintro(rfl|⟨j,_,k,hk,hr,rfl⟩)
  ·exact Re.here
  ·exact Re.down j k hr hk
 ·intro g
  rcases re_end g with h|⟨j,k,hk,hr,rfl⟩
  ·exact .inl h
  ·refine .inr ⟨j, ?_,k,hk,hr,rfl⟩
   have:=hd j k hk
   omega
theorem inv_start {ks:Nat→List Int} (hd:Dn ks) (n:Nat) (b:List Bool) (hb:∀ x,Mk b x↔x=n):Inv ks n (n + 1) b:=by
 intro x
 rw [hb x]
 constructor
 ·exact .inl
 ·rintro(h|⟨j,hj,k,hk,hr,rfl⟩)
  ·exact h
  ·have:=re_le hd hr
   omega
theorem inv_no {ks:Nat→List Int} (hd:Dn ks) {n i:Nat} {b:List Bool} (h:Inv ks n (i + 1) b) (hi:¬ Mk b i):Inv ks n i b:=by
 intro x
 rw [h x]
 constructor
 ·rintro(h2|⟨j,hj,hk⟩)
  ·exact .inl h2
  ·exact .inr ⟨j,by omega,hk⟩
 ·rintro(h2|⟨j,hj,k,hk,hr,hx⟩)
  ·exact .inl h2
  ·refine .inr ⟨j, ?_,k,hk,hr,hx⟩
   have:j≠i:=fun e=>hi ((inv_at hd h).2 (e ▸ hr))
   omega
theorem inv_yes {ks:Nat→List Int} (hd:Dn ks) {n i:Nat} {b b':List Bool} (h:Inv ks n (i + 1) b) (hi:Mk b i) (hb:∀ x,Mk b' x↔Mk b x∨∃ k∈ks i,k.toNat=x):Inv ks n i b':=by
 intro x
 rw [hb x,h x]
 constructor
 ·rintro((h2|⟨j,hj,hk⟩)|⟨k,hk,hx⟩)
  ·exact .inl h2
  ·exact .inr ⟨j,by omega,hk⟩
  ·exact .inr ⟨i,Nat.le_refl _,k,hk,(inv_at hd h).1 hi,hx⟩
 ·rintro(h2|⟨j,hj,k,hk,hr,hx⟩)
  ·exact .inl (.inl h2)
  ·by_cases e:j=i
   ·subst e
    exact .inr ⟨k,hk,hx⟩
   ·exact .inl (.inr ⟨j,by omega,k,hk,hr,hx⟩)
end Go.Proofs.YtimhlficlhafbaaGreatDoor.QWith
-- Cut by prune.py.
namespace Go.Proofs.YtimhlficlhafbaaGreatDoor.QVars
open RowKit Pv YtimhlficlhafbaaGreatDoorW.PrintWords YtimhlficlhafbaaGreatDoorW.PrintLast QStr QGenR QRule QTree QText QForm QExpT QSpecE QRuleT QWith
set_option linter.unusedVariables false
set_option linter.unusedSimpArgs false
abbrev kd (es:List IEx) (j:Nat):List Int:=(es.getD j zE).f2
theorem dn (es:List IEx) (h:EsOk es):Dn (kd es):=by
 intro j k hk
 by_cases hj:j < es.length
 ·have e:kd es j=es[j].f2:=by
   unfold kd
   rw [getD_in es j hj]
  rw [e]at hk
  exact(h j hj).1 k hk
 ·have e:kd es j=[]:=by
   unfold kd
   rw [List.getD_eq_getElem?_getD,List.getElem?_eq_none (by omega)]
   rfl
  rw [e]at hk
  cases hk
def szs (es:List IEx):Nat→List Nat
 | 0=>[]
 | i + 1=>szs es i ++ [1 + sumW (szs es i) (kd es i)]
def sz (es:List IEx) (i:Nat):Nat:=1 + sumW (szs es i) (kd es i)
theorem szs_len (es:List IEx):∀ i,(szs es i).length=i
 | 0=>rfl
 | i + 1=>by
  rw [szs,List.length_append,szs_len es i]
  rfl
theorem szs_at (es:List IEx):∀ i j,j < i→(szs es i).getD j 0=sz es j
 | 0,j,h=>absurd h (Nat.not_lt_zero j)
 | i + 1,j,h=>by
  have hl:=szs_len es i
  rw [szs,List.getD_eq_getElem?_getD]
  by_cases e:j=i
  ·subst e
   rw [List.getElem?_append_right (by omega),hl,Nat.sub_self]
   rfl
  ·rw [List.getElem?_append_left (by omega),← List.getD_eq_getElem?_getD,szs_at es i j (by omega)]
def sumS (es:List IEx):List Int→Nat
 | []=>0
 | k :: r=>sz es k.toNat + sumS es r
theorem sumS_eq (es:List IEx) (i:Nat):∀ ks,InR (i:Int) ks→sumW (szs es i) ks=sumS es ks
 | [],_=>rfl
 | k :: r,h=>by
  obtain⟨h1,h2⟩:=inR_cons.1 h
  rw [sumW,sumS,szs_at es i k.toNat (by omega),sumS_eq es i r h2]
theorem cnt_phi (es:List IEx) (h:EsOk es) (hu:∀ j,(incs (us0 es) (kids es es.length)).getD j 0≤1) :
  ∀ i,i≤es.length→phi (incs (us0 es) (kids es i)) (szs es i)=i∧(i < es.length→sumW (szs es i) (kd es i)≤i)
 | i,hi=>by
  have hle:∀ m,m≤es.length→∀ j,(incs (us0 es) (kids es m)).getD j 0≤1:=by
   intro m hm
   induction hd:es.length - m generalizing m with
   | zero =>
    obtain rfl:m=es.length:=by omega
    exact hu
   | succ d ihd =>
    intro j
    have h1:=ihd (m + 1) (by omega) (by omega) j
    have h2:incs (us0 es) (kids es (m + 1))=incs (incs (us0 es) (kids es m)) (es.getD m zE).f2:=incs_app _ _ _
    rw [h2]at h1
    have h3:=incs_le (es.getD m zE).f2 (incs (us0 es) (kids es m)) j (by
     rw [incs_len,us0_len,getD_in es m (by omega)]
     exact inR_le (h m (by omega)).1 (by omega))
    omega
  have step:∀ i,i < es.length→phi (incs (us0 es) (kids es (i + 1))) (szs es i) + sumW (szs es i) (kd es i)=phi (incs (us0 es) (kids es i)) (szs es i):=by
   intro i hlt
   have hk1:=kids_in es h i (by omega)
   have hk2:InR (i:Int) (kd es i):=by
    rw [kd,getD_in es i hlt]
    exact(h i hlt).1
   have h0:∀ j,0≤(incs (us0 es) (kids es i)).getD j 0:=fun j=>by
    have:=incs_le (kids es i) (us0 es) j (by rw [us0_len];exact inR_le hk1 (by omega))
    rw [us0_at]at this
    exact this
   have hE:incs (us0 es) (kids es (i + 1))=incs (incs (us0 es) (kids es i)) (kd es i):=incs_app _ _ _
   have hp:=phi_incs (szs es i) (kd es i) (incs (us0 es) (kids es i)) (by rw [szs_len];exact hk2) (by rw [szs_len,incs_len,us0_len];omega) h0 (fun j=>by rw [← hE];exact hle (i + 1) (by omega) j)
   rw [hE]
   exact hp
  have all:∀ i,i≤es.length→phi (incs (us0 es) (kids es i)) (szs es i)=i:=by
   intro i
   induction i with
   | zero=>exact fun _=>phi_nil _
   | succ i ih =>
    intro hi
    have ih:=ih (by omega)
    have hs:=step i (by omega)
    have hk1:=kids_in es h i (by omega)
    have hz:(incs (us0 es) (kids es (i + 1))).getD i 0=0:=by
     rw [incs_same _ _ _ (by rw [us0_len];exact inR_le (kids_in es h (i + 1) hi) (by omega)) (fun hm=>by
      rcases List.mem_append.1 hm with hm|hm
      ·have:=hk1 _ hm
       omega
      ·have:=dn es h i _ hm
       omega),us0_at]
    have hn:=phi_snoc (szs es i) (incs (us0 es) (kids es (i + 1))) (1 + sumW (szs es i) (kd es i)) (by rw [szs_len,incs_len,us0_len];omega) (by rw [szs_len];exact hz)
    rw [szs,hn]
    omega
  refine⟨all i hi,fun hlt=>?_⟩
  have h1:=all i hi
  have h2:=step i hlt
  omega
theorem sz_le (es:List IEx) (h:EsOk es) (hn:es.length≤60) (hu:∀ j,(incs (us0 es) (kids es es.length)).getD j 0≤1) (i:Nat) (hi:i < es.length):sz es i≤60:=by
 have:=(cnt_phi es h hu i (by omega)).2 hi
 unfold sz
 omega
section
variable (es : List IEx) (a : Int) (b : ByteArray) (c : List Int) (d : List ILt)
theorem sorted_ (xs:List Int):(xs.mergeSort (fun x y=>decide (x≤y))).Pairwise (·≤·):=by
 have:=List.pairwise_mergeSort (le:=fun(x y:Int)=>decide (x≤y)) (fun x y z h1 h2=>by simp only [decide_eq_true_eq]at *;omega) (fun x y=>by simp only [Bool.or_eq_true,decide_eq_true_eq];omega) xs
 simpa using this
def Wi (n:Nat) (xs:List Int):Prop:=Ev (fun k=>impl_Rule_within.f k es a b c d (n:Int)) xs∧xs.length=sz es n∧xs.Pairwise (·≤·)∧∀ x,x∈xs↔∃ y:Nat,x=(y:Int)∧Re (kd es) n y
theorem within_l (n:Nat) (hn:n < 281474976710656) (ks:List Int) (hk:ks.length≤1048576) (hks:∀ k∈ks,0≤k∧∃ xs,Wi es a b c d k.toNat xs):∀(q j:Nat) (out:List Int),j + q=ks.length→out.length + sumS es (ks.drop j)≤1048576 →
  ∃ ys:List Int,Ev (fun m=>impl_Rule_within.l0 m (n:Int) out ks (ks.length:Int) (j:Int) es a b c d) ((out ++ ys ++ [(n:Int)]).mergeSort (fun x y=>decide (x≤y)))∧ys.length=sumS es (ks.drop j)∧∀ x,x∈ys↔∃ k∈ks.drop j,∃ y:Nat,x=(y:Int)∧Re (kd es) k.toNat y
 | 0,j,out,h,hl=>by
  have hd:ks.drop j=[]:=List.drop_of_length_le (by omega)
  rw [hd]at hl ⊢
  refine⟨[],y17 ⟨0,fun m _=>?_⟩,rfl,fun x=>⟨(fun h=>by cases h),(fun h=>by obtain⟨_,h,_⟩:=h;cases h)⟩⟩
  have hl2:out.length≤1048576:=hl
  rw [impl_Rule_within.l0,if_neg (by omega),if_pos (by omega),slices_Sort_int_int.f,if_pos (by rw [List.length_append,List.length_singleton];omega),Option.bind_some,List.append_nil]
 | q + 1,j,out,h,hl=>by
  have hj:j < ks.length:=by omega
  obtain⟨h0,xs,⟨K1,hx⟩,hxl,_,hxm⟩:=hks ks[j] (List.getElem_mem hj)
  rw [List.drop_eq_getElem_cons hj]at hl ⊢
  have hs:sumS es (ks[j] :: ks.drop (j + 1))=sz es ks[j].toNat + sumS es (ks.drop (j + 1)):=rfl
  rw [hs]at hl ⊢
  obtain⟨ys,⟨K2,hy⟩,hyl,hym⟩:=within_l n hn ks hk hks q (j + 1) (out ++ xs) (by omega) (by rw [List.length_append,hxl];omega)
  refine⟨xs ++ ys,y17 ⟨max K1 K2,fun m hm=>?_⟩,by rw [List.length_append,hxl,hyl],fun x=>?_⟩
  ·have e1:=hx m (by omega)
   have e2:=hy m (by omega)
   simp only []at e1 e2
   rw [show((ks[j].toNat:Nat):Int)=ks[j]by omega]at e1
   rw [impl_Rule_within.l0,if_pos (by omega),if_pos (by omega),if_pos (by omega),rdN_get ks j hj,e1,Option.bind_some,if_pos (by omega),step_i (by omega),e2,List.append_assoc out xs ys]
  ·rw [List.mem_append,hxm x,hym x]
   constructor
   ·rintro(h|⟨k,hk,h⟩)
    ·exact⟨_,List.mem_cons_self,h⟩
    ·exact⟨k,List.mem_cons_of_mem _ hk,h⟩
   ·rintro⟨k,hk,h⟩
    rcases List.mem_cons.1 hk with rfl|hk
    ·exact .inl h
    ·exact .inr ⟨k,hk,h⟩
theorem within_ev (hes:EsOk es) (hsz:∀ i < es.length,sz es i≤60) (hn:es.length≤60) (hk:∀ e∈es,e.f2.length≤1048576):∀(m n:Nat),n < m→n < es.length→∃ xs,Wi es a b c d n xs
 | 0,n,h,_=>absurd h (Nat.not_lt_zero n)
 | m + 1,n,h,hl=>by
  have hrd:y23 es (n:Int)=es[n]:=getD_at _ es n hl
  have hE:=(hes n hl).1
  have hkd:kd es n=es[n].f2:=by rw [kd,getD_in es n hl]
  have hS:sumS es es[n].f2 + 1=sz es n:=by
   unfold sz
   rw [hkd,sumS_eq es n _ hE]
   omega
  have hs60:=hsz n hl
  obtain⟨ys,⟨K,hy⟩,hyl,hym⟩:=within_l es a b c d n (by omega) es[n].f2 (hk _ (List.getElem_mem hl)) (fun k hk2=>by
   have hr:=hE k hk2
   exact⟨hr.1,within_ev hes hsz hn hk m k.toNat (by omega) (by omega)⟩) es[n].f2.length 0 [] (by omega) (by rw [List.drop_zero,List.length_nil];omega)
  rw [List.drop_zero]at hyl hym
  refine⟨([] ++ ys ++ [(n:Int)]).mergeSort (fun x y=>decide (x≤y)),y17 ⟨K,fun k hk3=>?_⟩, ?_,sorted_ _,fun x=>?_⟩
  ·have e:=hy k hk3
   simp only []at e
   rw [impl_Rule_within.f,if_pos (by omega),if_pos (by omega),hrd]
   exact e
  ·rw [List.length_mergeSort,List.length_append,List.nil_append,hyl]
   exact hS
  ·rw [List.mem_mergeSort,List.nil_append,List.mem_append,hym x,List.mem_singleton]
   constructor
   ·rintro(⟨k,hk4,y,rfl,g⟩|rfl)
    ·exact⟨y,rfl,re_kid (by rw [hkd];exact hk4) g⟩
    ·exact⟨n,rfl,Re.here⟩
   ·rintro⟨y,rfl,g⟩
    rcases re_top g with rfl|⟨k,hk4,g⟩
    ·exact .inr rfl
    ·rw [hkd]at hk4
     exact .inl ⟨k,hk4,y,rfl,g⟩
theorem mks_len:∀(ks:List Int) (m:List Bool),(ks.foldl (fun m k=>m.set k.toNat true) m).length=m.length
 | [],_=>rfl
 | k :: r,m=>by
  rw [List.foldl_cons,mks_len r,List.length_set]
theorem mks_at:∀(ks:List Int) (m:List Bool) (x:Nat),(∀ k∈ks,k.toNat < m.length)→(Mk (ks.foldl (fun m k=>m.set k.toNat true) m) x↔Mk m x∨∃ k∈ks,k.toNat=x)
 | [],m,x,_=>⟨.inl,fun h=>h.resolve_right (fun⟨_,h,_⟩=>by cases h)⟩
 | k :: r,m,x,h=>by
  rw [List.foldl_cons,mks_at r _ x (fun y hy=>by rw [List.length_set];exact h y (List.mem_cons_of_mem _ hy)),mk_set m _ x (h k List.mem_cons_self)]
  constructor
  ·rintro((h1|h1)|⟨y,hy,h1⟩)
   ·exact .inl h1
   ·exact .inr ⟨k,List.mem_cons_self,h1.symm⟩
   ·exact .inr ⟨y,List.mem_cons_of_mem _ hy,h1⟩
  ·rintro(h1|⟨y,hy,h1⟩)
   ·exact .inl (.inl h1)
   ·rcases List.mem_cons.1 hy with rfl|hy
    ·exact .inl (.inr h1.symm)
    ·exact .inr ⟨y,hy,h1⟩
theorem rdB (m:List Bool) (i:Nat):rdOf false m (i:Int)=true↔Mk m i:=Iff.rfl
theorem in_l1 (hes:EsOk es) (hn:es.length≤60) (i:Nat) (hi:i < es.length) (hkl:es[i].f2.length≤1048576) (r:List Bool):∀(q j:Nat) (m:List Bool),j + q=es[i].f2.length→m.length=es.length→Mk m i →
  Ev (fun k=>spec_l06Within.l0 k ((es[i].f2.drop j).foldl (fun m k=>m.set k.toNat true) m) ((i:Int) - 1) es a b c d) r→Ev (fun k=>spec_l06Within.l1 k m (i:Int) (j:Int) es a b c d) r
 | 0,j,m,h,hm,hmi,hr=>by
  have hrd:y23 es (i:Int)=es[i]:=getD_at _ es i hi
  rw [List.drop_of_length_le (by omega)]at hr
  obtain⟨K,hr⟩:=hr
  refine y17 ⟨K,fun k hk=>?_⟩
  have e:=hr k hk
  simp only [List.foldl_nil]at e
  rw [spec_l06Within.l1,if_pos (by omega),if_pos (by omega),hrd,if_neg (by omega),wrapS (by omega) (by omega)]
  exact e
 | q + 1,j,m,h,hm,hmi,hr=>by
  have hrd:y23 es (i:Int)=es[i]:=getD_at _ es i hi
  have hj:j < es[i].f2.length:=by omega
  have hkr:=(hes i hi).1 _ (List.getElem_mem hj)
  rw [List.drop_eq_getElem_cons hj,List.foldl_cons]at hr
  obtain⟨K,hr⟩:=in_l1 hes hn i hi hkl r q (j + 1) (m.set (es[i].f2[j]).toNat true) (by omega) (by rw [List.length_set];exact hm) ((mk_set m _ i (by omega)).2 (.inl hmi)) hr
  refine y17 ⟨K,fun k hk=>?_⟩
  have e:=hr k hk
  simp only []at e
  rw [spec_l06Within.l1,if_pos (by omega),if_pos (by omega),hrd,if_pos (by omega),if_pos (by omega),if_pos ((rdB m i).2 hmi),if_pos (by omega),rdN_get _ j hj,if_pos hkr.1,if_pos (by omega),step_i (by omega)]
  exact e
theorem in_l0 (hes:EsOk es) (hn:es.length≤60) (hk:∀ e∈es,e.f2.length≤1048576) (n:Nat):∀(i:Nat) (m:List Bool),i≤es.length→m.length=es.length→Inv (kd es) n i m →
  ∃ r,Ev (fun k=>spec_l06Within.l0 k m ((i:Int) - 1) es a b c d) r∧r.length=es.length∧Inv (kd es) n 0 r
 | 0,m,_,hm,hI=>by
  refine⟨m,y17 ⟨0,fun k _=>?_⟩,hm,hI⟩
  rw [spec_l06Within.l0,if_neg (by omega)]
 | i + 1,m,hi,hm,hI=>by
  have hlt:i < es.length:=by omega
  have hkd:kd es i=es[i].f2:=by rw [kd,getD_in es i hlt]
  have hrd:y23 es (i:Int)=es[i]:=getD_at _ es i hlt
  have hE:=(hes i hlt).1
  by_cases h:Mk m i
  ·obtain⟨r,hr,h1,h2⟩:=in_l0 hes hn hk n i (es[i].f2.foldl (fun m k=>m.set k.toNat true) m) (by omega) (by rw [mks_len];exact hm) (inv_yes (dn es hes) hI h (fun x=>by
    rw [hkd]
    exact mks_at _ m x (fun k hk=>by have:=hE k hk;omega)))
   obtain⟨K,e⟩:=in_l1 es a b c d hes hn i hlt (hk _ (List.getElem_mem hlt)) r es[i].f2.length 0 m (by omega) hm h (by rw [List.drop_zero];exact hr)
   refine⟨r,y17 ⟨K,fun k hk=>?_⟩,h1,h2⟩
   have e:=e k hk
   simp only []at e
   rw [spec_l06Within.l0,if_pos (by omega),show((i + 1:Nat):Int) - 1=(i:Int)by omega]
   exact e
  ·obtain⟨r,⟨K,e⟩,h1,h2⟩:=in_l0 hes hn hk n i m (by omega) hm (inv_no (dn es hes) hI h)
   refine⟨r,⟨K + 2,fun k hk=>?_⟩,h1,h2⟩
   obtain⟨k,rfl⟩:∃ p,k=p + 2:=⟨k - 2,by omega⟩
   have e:=e k (by omega)
   simp only []at e
   show spec_l06Within.l0 (k + 2) m (((i + 1:Nat):Int) - 1) es a b c d=_
   rw [spec_l06Within.l0,if_pos (by omega),show((i + 1:Nat):Int) - 1=(i:Int)by omega,spec_l06Within.l1,if_pos (by omega),if_pos (by omega),hrd]
   by_cases hz:(0:Int) < (es[i].f2.length:Int)
   ·rw [if_pos hz,if_pos (by omega),if_neg (fun hx=>h ((rdB m i).1 hx)),wrapS (by omega) (by omega)]
    exact e
   ·rw [if_neg hz,wrapS (by omega) (by omega)]
    exact e
theorem in_ev (hes:EsOk es) (hn:es.length≤60) (hk:∀ e∈es,e.f2.length≤1048576) (n:Nat) (hl:n < es.length) :
  ∃ r,Ev (fun k=>spec_l06Within.f k es a b c d (n:Int)) r∧r.length=es.length∧∀ x,Mk r x↔Re (kd es) n x:=by
 have hlen:(List.replicate es.length false).length=es.length:=List.length_replicate
 obtain⟨r,⟨K,e⟩,h1,h2⟩:=in_l0 es a b c d hes hn hk n (n + 1) ((List.replicate es.length false).set n true) (by omega) (by rw [List.length_set,hlen]) (inv_start (dn es hes) n _ (fun x=>by
  rw [mk_set _ _ x (by omega)]
  constructor
  ·rintro(h|h)
   ·unfold Mk at h
    rw [List.getD_eq_getElem?_getD,List.getElem?_replicate]at h
    split at h <;> cases h
   ·exact h
  ·exact .inr))
 refine⟨r,⟨K,fun k hk=>?_⟩,h1,inv_all h2⟩
 have e:=e k hk
 simp only []at e
 show spec_l06Within.f k es a b c d (n:Int)=_
 unfold spec_l06Within.f
 rw [if_pos (by omega),show((es.length:Int)).toNat=es.length from rfl,if_pos (by omega),Option.bind_some,if_pos (by omega),if_pos (by omega),show((n:Int)).toNat=n from rfl]
 rw [show((n + 1:Nat):Int) - 1=(n:Int)by omega]at e
 exact e
end
theorem between_f (a b c:Int):z8_.f a b c=some (decide (b≤a∧a≤c)):=by
 unfold z8_.f
 by_cases h:a≥b
 ·rw [if_pos h]
  congr 1
  exact decide_eq_decide.2 ⟨fun h2=>⟨h,h2⟩,fun h2=>h2.2⟩
 ·rw [if_neg h]
  congr 1
  exact(decide_eq_false (fun h2=>h h2.1)).symm
theorem form_ev (es:List IEx) (h:ILt) (bd:List ILt) (hw:FewR es h bd):∃ r,Ev (fun k=>impl_hasForm.f k es h.f0 h.f1 h.f2 bd) r∧(∃ t,Ev (fun k=>z5_.f k es h.f0 h.f1 h.f2 bd) t∧(t.toList=([]:List UInt8)↔r=false))∧(r=true→Frm es h bd):=by
 obtain⟨K1,e1⟩:=impl_ev es h bd hw
 refine⟨(B (ruleT es h bd)).toList != ([]:List UInt8),⟨K1,fun k hk=>?_⟩,⟨_,spec_ev es h bd hw, ?_⟩,fun hr=>?_⟩
 ·have e1:=e1 k hk
  simp only []at e1
  show impl_hasForm.f k es h.f0 h.f1 h.f2 bd=_
  unfold impl_hasForm.f
  rw [e1,Option.bind_some]
 ·simp
 ·rw [toList_B]at hr
  refine Classical.byContradiction fun hf=>?_
  rw [show ruleT es h bd=[]from if_neg (fun hx=>hf hx.1)]at hr
  cases hr
end Go.Proofs.YtimhlficlhafbaaGreatDoor.QVars
-- Cut by prune.py.
namespace Go.Proofs.YtimhlficlhafbaaGreatDoor.QMakeV
open RowKit Pv YtimhlficlhafbaaGreatDoorW.PrintWords YtimhlficlhafbaaGreatDoorW.PrintLast QImpl QStr QTm QPrs QScan QNumb QKind QLaws
theorem in_f (a b c:Int):impl_in.f a b c=some (decide (b≤a∧a≤c)):=by
 unfold impl_in.f
 by_cases h:a≥b
 ·rw [if_pos h]
  congr 1
  exact decide_eq_decide.2 ⟨fun h2=>⟨h,h2⟩,fun h2=>h2.2⟩
 ·rw [if_neg h]
  congr 1
  exact(decide_eq_false (fun h2=>h h2.1)).symm
theorem isBigName_f (s:List UInt8) (hs:s.length≤281474976710656) (k:Nat) (hk:s.length + 2 < k):impl_isBigName.f k (B s)=some (nameB isBg s):=by
 unfold impl_isBigName.f
 rw [in_f,Option.bind_some,y24]
 cases s with
 | nil=>rw [if_neg (by simp)];rfl
 | cons c r =>
  have hb:bt (B (c :: r)) 0=(c.toNat:Int):=bt_B (c :: r) 0 (by simp)
  rw [nameB]
  by_cases h:r.length < 20
  ·rw [if_pos (by simp only [List.length_cons,decide_eq_true_eq];omega),decide_eq_true h,Bool.true_and,nameLong_f _ (by omega) k hk,Option.bind_some,hb,nmLen]
   by_cases hl:isLet c=true
   ·rw [if_pos hl]
    by_cases hall:r.all isWrd=true
    ·have htw:r.takeWhile isWrd=r:=by
      have:=takeWhile_append_stop (p:=isWrd) (l:=r) (r:=[]) (List.all_eq_true.1 hall) (fun y hy=>by simp at hy)
      simpa using this
     have hw:isWrd c=true:=by unfold isWrd;rw [hl];rfl
     rw [htw,if_pos (by simp only [List.length_cons]),if_pos (by simp only [List.length_cons];omega),List.all_cons,hall,hw,Bool.and_true,Bool.and_true]
     congr 1
     rw [Bool.eq_iff_iff]
     simp only [isLet,isBg,Bool.or_eq_true,Bool.and_eq_true,decide_eq_true_eq]at hl ⊢
     omega
    ·have htw:(r.takeWhile isWrd).length≠r.length:=by
      intro e
      apply hall
      have h1:=takeWhile_take (p:=isWrd) r
      rw [e,List.take_length]at h1
      rw [h1]
      exact List.all_eq_true.2 (takeWhile_all r)
     rw [if_neg (by simp only [List.length_cons];omega),List.all_cons,Bool.eq_false_iff.2 hall,Bool.and_false,Bool.and_false]
   ·rw [if_neg hl,if_neg (by simp only [List.length_cons];omega)]
    have:isBg c=false:=Bool.eq_false_iff.2 fun h=>hl (isBg_let h)
    rw [this,Bool.false_and]
  ·rw [if_neg (by simp only [List.length_cons,decide_eq_true_eq];omega),decide_eq_false h]
   rfl
def full (nm:List UInt8) (qs:List (List UInt8)):List UInt8:=if qs=[]then nm else nm ++ 40 :: (joinC qs ++ [41])
noncomputable def made (nm:List UInt8) (qs:List (List UInt8)):ByteArray×Bool :=
 if nameB isBg nm=true∧qs.all (fun q=>(prs q).isSome)=true∧(full nm qs).length≤200 then(B (full nm qs),true)else(B [],false)
theorem join_joinC:∀(qs:List (List UInt8)),Lib.join qs [44]=joinC qs
 | []=>rfl
 | [a]=>Lib.join_one a [44]
 | a :: b :: r=>by
  have h:=join_joinC (b :: r)
  rw [joinC_cons a (b :: r) (by simp),← h,Lib.join_cons,Lib.join_cons,Lib.joinTail,List.map_cons,List.flatten_cons,Lib.joinTail]
  simp
theorem joinC_snoc:∀(qs:List (List UInt8)) (a:List UInt8),qs≠[]→joinC (qs ++ [a])=joinC qs ++ 44 :: a
 | [],a,h=>absurd rfl h
 | [x],a,_=>rfl
 | x :: y :: r,a,_=>by
  have:=joinC_snoc (y :: r) a (by simp)
  rw [List.cons_append,joinC_cons _ _ (by simp),this,joinC_cons x (y :: r) (by simp)]
  simp
theorem joinC_le (m:Nat):∀(qs:List (List UInt8)),(∀ q∈qs,q.length≤m)→(joinC qs).length≤qs.length * (m + 1)
 | [],_=>by simp [joinC]
 | [a],h=>by have:=h a (by simp);simp only [joinC,List.length_cons,List.length_nil];omega
 | a :: b :: r,h=>by
  have h1:=h a (by simp)
  have h2:=joinC_le m (b :: r) (fun q hq=>h q (by simp [hq]))
  rw [joinC_cons a (b :: r) (by simp)]
  simp only [List.length_append,List.length_cons]at h2 ⊢
  rw [Nat.add_mul (r.length + 1) 1]
  omega
theorem joinC_ge:∀(qs:List (List UInt8)),(∀ q∈qs,1≤q.length)→qs.length≤(joinC qs).length
 | [],_=>by simp
 | [a],h=>by have:=h a (by simp);simp only [joinC,List.length_cons,List.length_nil];omega
 | a :: b :: r,h=>by
  have h1:=h a (by simp)
  have h2:=joinC_ge (b :: r) (fun q hq=>h q (by simp [hq]))
  rw [joinC_cons a (b :: r) (by simp)]
  simp only [List.length_append,List.length_cons]at h2 ⊢
  omega
theorem full_prs (nm:List UInt8) (qs:List (List UInt8)) (hn:nameB isBg nm=true) (hq:qs.all (fun q=>(prs q).isSome)=true):kd (prs (full nm qs))=if(full nm qs).length≤200 then 3 else 0:=by
 obtain⟨ts,hts,rfl⟩:=all_prs qs hq
 have hok:Ok (.con nm ts):=(ok_con nm ts).2 ⟨(nam_iff nm).1 hn,hts⟩
 have hr:rnd (.con nm ts)=full nm (ts.map rnd):=by
  rw [rnd_con,full]
  cases ts with
  | nil=>rw [rndA_nil,List.append_nil];rfl
  | cons a ts=>rw [if_neg (by simp),rndA_cons,joinC_rnd]
 by_cases h:(full nm (ts.map rnd)).length≤200
 ·rw [if_pos h,← hr,prs_rnd hok (by rw [hr];exact h)]
  rfl
 ·rw [if_neg h,prs_long (by omega)]
  rfl
theorem map_getB (qs:List (List UInt8)) (i:Nat) (h:i < qs.length):rdOf ByteArray.empty (qs.map B) (i:Int)=B qs[i]:=by
 rw [rdOf_get _ i (by rw [List.length_map];exact h),List.getElem_map]
theorem conText_f (nm:List UInt8) (qs:List (List UInt8)) (hn:nm.length≤1048576) (hc:qs.length≤1048576) (hq:∀ q∈qs,q.length≤200):impl_conText.f (B nm) (qs.map B)=some (B (full nm qs)):=by
 have hj:=joinC_le 200 qs hq
 have hjl:(joinC qs).length≤210763776:=by
  refine Nat.le_trans hj (Nat.le_trans (Nat.mul_le_mul_right 201 hc) (by decide))
 unfold impl_conText.f full
 by_cases h:qs=[]
 ·subst h
  rw [if_pos (by rfl),if_pos rfl]
 ·have h0:¬((qs.map B).length:Int)=0:=by
   rw [List.length_map]
   have:=List.length_pos_iff.2 h
   omega
  have hm:(qs.map B).map (·.data.toList)=qs:=by
   rw [List.map_map]
   exact List.map_id' qs
  unfold strings_Join.f
  rw [if_neg h0,if_neg h,if_pos (by rw [y24];omega),hm,show((⟨#[44]⟩:ByteArray)).data.toList=[44]from rfl,join_joinC,if_pos (by omega),if_pos (by rw [List.length_map];omega),Option.bind_some,
   show((⟨(joinC qs).toArray⟩:ByteArray))=B (joinC qs)from rfl,show((⟨#[40]⟩:ByteArray))=B [40]from rfl,show((⟨#[41]⟩:ByteArray))=B [41]from rfl,y3,y3,y3,
   if_pos (by rw [y24,y24];simp only [List.length_append,List.length_cons,List.length_nil];omega),if_pos (by rw [y24];simp only [List.length_append,List.length_cons,List.length_nil];omega)]
  congr 2
  simp
theorem make_l (nm:List UInt8) (qs:List (List UInt8)) (hn:nm.length≤1048576) (hc:qs.length≤1048576) (hq:∀ q∈qs,q.length≤1048576) :
  ∀(d i k:Nat),i + d=qs.length→d + 5000000 < k→(qs.take i).all (fun q=>(prs q).isSome)=true→impl_TermMake.l0 k (B nm) (qs.map B) (qs.map B) (qs.length:Int) (i:Int)=some (made nm qs)
 | 0,i,k,hd,hk,ha=>by
  obtain⟨k,rfl⟩:∃ m,k=m + 1:=⟨k - 1,by omega⟩
  rw [List.take_of_length_le (by omega)]at ha
  have hq2:∀ q∈qs,q.length≤200:=by
   intro q hm
   obtain⟨t,ht⟩:=Option.isSome_iff_exists.1 (List.all_eq_true.1 ha q hm)
   exact(prs_some.1 ht).2.2
  rw [impl_TermMake.l0,if_neg (by omega),conText_f nm qs hn hc hq2,Option.bind_some,isBigName_f nm (by omega) k (by omega),Option.bind_some,made]
  by_cases hb:nameB isBg nm=true
  ·rw [if_pos hb,y24]
   by_cases h2:(full nm qs).length≤200
   ·rw [if_neg (by omega),if_pos ⟨hb,ha,h2⟩]
   ·rw [if_pos (by omega),if_neg (fun h=>h2 h.2.2)]
    rfl
  ·rw [if_neg hb,if_neg (fun h=>hb h.1)]
   rfl
 | d + 1,i,k,hd,hk,ha=>by
  obtain⟨k,rfl⟩:∃ m,k=m + 1:=⟨k - 1,by omega⟩
  have hlt:i < qs.length:=by omega
  have hl:=hq _ (List.getElem_mem hlt)
  rw [impl_TermMake.l0,if_pos (by omega),if_pos (by omega),if_pos (by rw [List.length_map];omega),map_getB qs i hlt,kindOf_f qs[i] (by omega) k (by omega),Option.bind_some,step_i (by omega)]
  cases hp:prs qs[i]with
  | none =>
   rw [if_pos (show kd none=0 from rfl),made,if_neg]
   ·rfl
   ·intro h
    have:=List.all_eq_true.1 h.2.1 _ (List.getElem_mem hlt)
    rw [hp]at this
    cases this
  | some t =>
   have hk1:=kind_pos t
   rw [if_neg (by simp only [kd];omega)]
   refine make_l nm qs hn hc hq d (i + 1) k (by omega) (by omega) ?_
   rw [List.take_succ_eq_append_getElem hlt,List.all_append,ha,List.all_cons,List.all_nil,hp]
   rfl
def sofar (nm:List UInt8) (qs:List (List UInt8)):List UInt8:=if qs=[]then nm else nm ++ 40 :: joinC qs
theorem sofar_len (nm:List UInt8) (qs:List (List UInt8)) (hn:nm.length≤1048576) (hc:qs.length≤200) (hq:∀ q∈qs,q.length≤1048576):(sofar nm qs).length≤220000000:=by
 have hj:=joinC_le 1048576 qs hq
 have hjl:(joinC qs).length≤209715400:=Nat.le_trans hj (Nat.le_trans (Nat.mul_le_mul_right 1048577 hc) (by decide))
 unfold sofar
 split
 ·omega
 ·simp only [List.length_append,List.length_cons];omega
theorem smake_l (nm:List UInt8) (qs:List (List UInt8)) (hnb:nameB isBg nm=true) (hn:nm.length≤1048576) (hc:qs.length≤200) (hq:∀ q∈qs,q.length≤1048576) :
  ∀(d i k:Nat),i + d=qs.length→d + 900000000 < k→(qs.take i).all (fun q=>(prs q).isSome)=true→spec_TermMake.l0 k (qs.map B) (B (sofar nm (qs.take i))) (i:Int)=some (made nm qs)
 | 0,i,k,hd,hk,ha=>by
  obtain⟨k,rfl⟩:∃ m,k=m + 1:=⟨k - 1,by omega⟩
  rw [List.take_of_length_le (by omega)]at ha ⊢
  have hsl:=sofar_len nm qs hn hc hq
  rw [spec_TermMake.l0,if_neg (by rw [List.length_map];omega),made]
  have hfp:=full_prs nm qs hnb ha
  by_cases h:qs=[]
  ·rw [if_neg (by rw [List.length_map,h];simp)]
   have e:sofar nm qs=full nm qs:=by rw [sofar,full,if_pos h,if_pos h]
   rw [e]at hsl ⊢
   rw [spec_kind _ (full nm qs) rfl (by omega) k (by omega),Option.bind_some,hfp]
   by_cases h2:(full nm qs).length≤200
   ·rw [if_pos h2,if_pos rfl,if_pos ⟨hnb,ha,h2⟩]
   ·rw [if_neg h2,if_neg (by decide),if_neg (fun h=>h2 h.2.2)]
    rfl
  ·have hp:=List.length_pos_iff.2 h
   have e:sofar nm qs ++ [41]=full nm qs:=by
    rw [sofar,full,if_neg h,if_neg h]
    simp
   have hfl:(full nm qs).length≤220000001:=by
    rw [← e]
    simp only [List.length_append,List.length_cons,List.length_nil]
    omega
   rw [if_pos (by rw [List.length_map];omega),if_pos (by rw [y24];omega),show((⟨#[41]⟩:ByteArray))=B [41]from rfl,y3,e,spec_kind _ (full nm qs) rfl (by omega) k (by omega),Option.bind_some,hfp]
   by_cases h2:(full nm qs).length≤200
   ·rw [if_pos h2,if_pos rfl,if_pos ⟨hnb,ha,h2⟩]
   ·rw [if_neg h2,if_neg (by decide),if_neg (fun h=>h2 h.2.2)]
    rfl
 | d + 1,i,k,hd,hk,ha=>by
  obtain⟨k,rfl⟩:∃ m,k=m + 1:=⟨k - 1,by omega⟩
  have hlt:i < qs.length:=by omega
  have hl:=hq _ (List.getElem_mem hlt)
  have hsl:=sofar_len nm (qs.take i) hn (by rw [List.length_take];omega) (fun q hm=>hq q (List.mem_of_mem_take hm))
  have htk:=List.take_succ_eq_append_getElem hlt
  rw [spec_TermMake.l0,if_pos (by rw [List.length_map];omega),if_pos (by omega),map_getB qs i hlt,spec_kind _ qs[i] rfl (by omega) k (by omega),Option.bind_some,step_i (by omega)]
  cases hp:prs qs[i]with
  | none =>
   rw [if_pos (show kd none=0 from rfl),made,if_neg]
   ·rfl
   ·intro h
    have:=List.all_eq_true.1 h.2.1 _ (List.getElem_mem hlt)
    rw [hp]at this
    cases this
  | some t =>
   have hk1:=kind_pos t
   have hall:(qs.take (i + 1)).all (fun q=>(prs q).isSome)=true:=by
    rw [htk,List.all_append,ha,List.all_cons,List.all_nil,hp]
    rfl
   have hgo:=smake_l nm qs hnb hn hc hq d (i + 1) k (by omega) (by omega) hall
   rw [if_neg (by simp only [kd];omega),show((⟨#[40]⟩:ByteArray))=B [40]from rfl,show((⟨#[44]⟩:ByteArray))=B [44]from rfl]
   by_cases h0:(i:Int)=0
   ·have hi:i=0:=by omega
    rw [if_pos h0,if_pos (by rw [y24];omega),y3,if_pos (by rw [y24,y24];simp only [List.length_append,List.length_cons,List.length_nil];omega),y3]
    have e:sofar nm (qs.take i) ++ [40] ++ qs[i]=sofar nm (qs.take (i + 1)):=by
     rw [htk]
     subst hi
     simp [sofar,joinC]
    rw [e]
    exact hgo
   ·have hi:qs.take i≠[]:=by
     intro h
     have:=congrArg List.length h
     rw [List.length_take,List.length_nil]at this
     omega
    rw [if_neg h0,if_pos (by rw [y24];omega),y3,if_pos (by rw [y24,y24];simp only [List.length_append,List.length_cons,List.length_nil];omega),y3]
    have e:sofar nm (qs.take i) ++ [44] ++ qs[i]=sofar nm (qs.take (i + 1)):=by
     rw [htk,sofar,sofar,if_neg hi,if_neg (show ¬(qs.take i ++ [qs[i]]=[])from fun h=>by have:=congrArg List.length h;simp only [List.length_append,List.length_cons,List.length_nil]at this;omega),joinC_snoc _ _ hi]
     simp
    rw [e]
    exact hgo
theorem spec_make_f (nm:List UInt8) (qs:List (List UInt8)) (hn:nm.length≤1048576) (hc:qs.length≤1048576) (hq:∀ q∈qs,q.length≤1048576) (k:Nat) (hk:900001000 < k):spec_TermMake.f k (B nm) (qs.map B)=some (made nm qs):=by
 obtain⟨k,rfl⟩:∃ m,k=m + 1:=⟨k - 1,by omega⟩
 unfold spec_TermMake.f
 rw [name_f nm (by omega) true (k + 1) (by omega),Option.bind_some,if_pos rfl]
 by_cases hb:nameB isBg nm=true
 ·rw [if_pos hb,List.length_map]
  by_cases h2:qs.length≤200
  ·rw [show decide ((qs.length:Int) > 200)=false by simp only [decide_eq_false_iff_not];omega,spec_TermMake.j0,if_neg (by decide)]
   exact smake_l nm qs hb hn h2 hq qs.length 0 k (by omega) (by omega) (by simp)
  ·rw [show decide ((qs.length:Int) > 200)=true by simp only [decide_eq_true_eq];omega,spec_TermMake.j0,if_pos rfl,made,if_neg]
   ·rfl
   ·rintro⟨_,ha,hl⟩
    have hge:=joinC_ge qs (fun q hm=>by
     obtain⟨t,ht⟩:=Option.isSome_iff_exists.1 (List.all_eq_true.1 ha q hm)
     obtain⟨h3,h4,_⟩:=prs_some.1 ht
     rw [← h4]
     exact rnd_pos t h3)
    rw [full,if_neg (by intro h;subst h;simp at h2)]at hl
    simp only [List.length_append,List.length_cons,List.length_nil]at hl
    omega
 ·rw [if_neg hb,spec_TermMake.j0,if_pos rfl,made,if_neg (fun h=>hb h.1)]
  rfl
theorem impl_make_f (nm:List UInt8) (qs:List (List UInt8)) (hn:nm.length≤1048576) (hc:qs.length≤1048576) (hq:∀ q∈qs,q.length≤1048576) (k:Nat) (hk:900001000 < k):impl_TermMake.f k (B nm) (qs.map B)=some (made nm qs):=by
 unfold impl_TermMake.f
 rw [List.length_map]
 exact make_l nm qs hn hc hq qs.length 0 k (by omega) (by omega) (by simp)
end Go.Proofs.YtimhlficlhafbaaGreatDoor.QMakeV
-- Cut by prune.py.
namespace Go.Proofs.YtimhlficlhafbaaGreatDoor.QVal
open RowKit Pv YtimhlficlhafbaaGreatDoorW.PrintWords YtimhlficlhafbaaGreatDoorW.PrintLast QStr QGenR QRule QTree QText
open QTm (Tm Ok rnd kind rnd_num ok_num)
open QPrs (prs prs_some kindOf_f)
open QNumb (numB number_f itoa_neg itoa_pos numB_itoa numB_true)
open QNum (numText itoa_f)
open QMakeV (in_f made spec_make_f impl_make_f)
open QForm (y17)
set_option linter.unusedVariables false
set_option linter.unusedSimpArgs false
theorem itoa_short (v:Int) (h:-1000000≤v∧v≤1000000):(Lib.itoa v).length≤8:=by
 by_cases hw:v < 0
 ·rw [itoa_neg hw,List.length_cons]
  have:=dec_len v.natAbs 6 (by omega)
  omega
 ·rw [itoa_pos hw]
  have:=dec_len v.toNat 6 (by omega)
  omega
theorem itoa_ne (v:Int):Lib.itoa v≠[]:=by
 by_cases hw:v < 0
 ·rw [itoa_neg hw]
  exact fun h=>by cases h
 ·rw [itoa_pos hw]
  exact dec_ne _
theorem prs_numB (s:List UInt8):(match prs s with|some (.num v)=>(v,true)|_=>(0,false))=if(numB s).2=true then((numB s).1,true)else(0,false):=by
 by_cases h:(numB s).2=true
 ·obtain⟨h1,h2,h3⟩:=numB_true h
  rw [if_pos h]
  have h4:=itoa_short _ ⟨h1,h2⟩
  rw [← h3]at h4
  rw [prs_some.2 ⟨(ok_num _).2 ⟨h1,h2⟩,by rw [rnd_num];exact h3.symm,by omega⟩]
 ·rw [if_neg h]
  cases hp:prs s with
  | none=>rfl
  | some t =>
   cases t with
   | sym b=>rfl
   | con nm ts=>rfl
   | num v =>
    exfalso
    obtain⟨h1,h2,h3⟩:=prs_some.1 hp
    rw [ok_num]at h1
    rw [rnd_num]at h2
    rw [← h2,numB_itoa v h1]at h
    exact h rfl
noncomputable def numV (v:ByteArray):Option Int:=match prs (L v)with|some (.num n)=>some n|_=>none
theorem snum (v:ByteArray) (hv:v.size≤1048576) (k:Nat) (hk:40 < k):spec_TermNum.f k v=some (match numV v with|some x=>(x,true)|none=>(0,false)):=by
 have hs:(L v).length=v.size:=L_length v
 have h1:=number_f (L v) (by omega) k hk
 rw [B_L]at h1
 unfold spec_TermNum.f
 rw [h1,Option.bind_some]
 have h:=prs_numB (L v)
 have e:(match numV v with|some x=>(x,true)|none=>((0:Int),false))=(match prs (L v)with|some (.num v)=>(v,true)|_=>(0,false)):=by
  unfold numV
  cases prs (L v)with
  | none=>rfl
  | some t=>cases t <;> rfl
 rw [e,h]
 by_cases g:(numB (L v)).2=true
 ·rw [if_pos g,if_pos g]
 ·rw [if_neg g,if_neg g]
theorem ikind (v:ByteArray) (hv:v.size≤1048576) (k:Nat) (hk:4194400 < k):impl_kindOf.f k v=some (QPrs.kd (prs (L v))):=by
 have hs:(L v).length=v.size:=L_length v
 have h1:=kindOf_f (L v) (by omega) k (by omega)
 rw [B_L]at h1
 exact h1
theorem kd_one (v:ByteArray):QPrs.kd (prs (L v))=1↔∃ x,numV v=some x:=by
 unfold numV
 cases prs (L v)with
 | none=>exact⟨fun h=>absurd h (by decide),fun⟨_,h⟩=>by cases h⟩
 | some t =>
  cases t with
  | num n=>exact⟨fun _=>⟨n,rfl⟩,fun _=>rfl⟩
  | sym b=>exact⟨fun h=>absurd h (by show ¬((2:Nat):Int)=1;decide),fun⟨_,h⟩=>by cases h⟩
  | con f ts=>exact⟨fun h=>absurd h (by show ¬((3:Nat):Int)=1;decide),fun⟨_,h⟩=>by cases h⟩
theorem numV_in {v:ByteArray} {x:Int} (h:numV v=some x):(-1000000≤x∧x≤1000000)∧impl_numOf.f v=some x:=by
 unfold numV at h
 cases hp:prs (L v)with
 | none=>rw [hp]at h;cases h
 | some t =>
  rw [hp]at h
  cases t with
  | sym b=>cases h
  | con f ts=>cases h
  | num n =>
   have e0:n=x:=by injection h
   subst e0
   obtain⟨h1,h2,h3⟩:=prs_some.1 hp
   rw [ok_num]at h1
   rw [rnd_num]at h2
   refine⟨h1, ?_⟩
   have e:v=B (Lib.itoa n):=by rw [h2,B_L]
   have hl:=itoa_short n h1
   rw [e]
   unfold impl_numOf.f strconv_Atoi.f
   rw [if_pos (by rw [y24];omega),data_B,atoi_itoa n h1.1 h1.2]
   rfl
def rk (o x z:Int):Int:=if o=5 then wrap64 (x + z)else if o=6 then wrap64 (x - z)else wrap64 (x * z)
theorem rk_f (o x z:Int):impl_reckon.f o x z=some (rk o x z):=by
 unfold impl_reckon.f rk
 by_cases h:o=5
 ·rw [if_pos h,if_pos h]
 ·rw [if_neg h,if_neg h]
  by_cases g:o=6
  ·rw [if_pos g,if_pos g]
  ·rw [if_neg g,if_neg g]
def dwn (l2 l3:List ByteArray) (s:ByteArray):Nat→Int→Int
 | 0,t=>t
 | m + 1,t=>dwn l2 l3 s m (if(rdOf ByteArray.empty l2 (m:Int)).toList=s.toList∧m < l3.length then(m:Int)else t)
theorem dwn_none (l2 l3:List ByteArray) (s:ByteArray):∀(n:Nat) (t:Int),(∀ m < n,(rdOf ByteArray.empty l2 (m:Int)).toList=s.toList→l3.length≤m)→dwn l2 l3 s n t=t
 | 0,t,_=>rfl
 | n + 1,t,h=>by
  rw [dwn,if_neg (fun hx=>by have:=h n (by omega) hx.1;omega)]
  exact dwn_none l2 l3 s n t (fun m hm=>h m (by omega))
theorem dwn_first (l2 l3:List ByteArray) (s:ByteArray) (j:Nat) (hj:(rdOf ByteArray.empty l2 (j:Int)).toList=s.toList) (hf:∀ m < j,(rdOf ByteArray.empty l2 (m:Int)).toList≠s.toList) :
  ∀(n:Nat) (t:Int),j < n→dwn l2 l3 s n t=if j < l3.length then(j:Int)else t
 | 0,t,h=>absurd h (Nat.not_lt_zero j)
 | n + 1,t,h=>by
  by_cases e:n=j
  ·subst e
   rw [dwn,dwn_none l2 l3 s n _ (fun m hm hx=>absurd hx (hf m hm))]
   by_cases hl:n < l3.length
   ·rw [if_pos ⟨hj,hl⟩,if_pos hl]
   ·rw [if_neg (fun hx=>hl hx.2),if_neg hl]
  ·rw [dwn,dwn_first l2 l3 s j hj hf n _ (by omega)]
   by_cases hl:j < l3.length
   ·rw [if_pos hl,if_pos hl]
   ·rw [if_neg hl,if_neg hl,if_neg (fun hx=>by omega)]
theorem dwn_lt (l2 l3:List ByteArray) (s:ByteArray):∀(n:Nat) (t:Int), -1≤t→t < (l3.length:Int)→-1≤dwn l2 l3 s n t∧dwn l2 l3 s n t < (l3.length:Int)
 | 0,t,h1,h2=>⟨h1,h2⟩
 | n + 1,t,h1,h2=>by
  rw [dwn]
  by_cases h:(rdOf ByteArray.empty l2 (n:Int)).toList=s.toList∧n < l3.length
  ·rw [if_pos h]
   exact dwn_lt l2 l3 s n _ (by omega) (by omega)
  ·rw [if_neg h]
   exact dwn_lt l2 l3 s n t h1 h2
theorem idx_ev (xs:List ByteArray) (hx:xs.length≤1048576) (s:ByteArray):∀(q i:Nat),i + q=xs.length→∃ r:Int,Ev (fun k=>slices_Index_string_string.l0 k xs s (xs.length:Int) (i:Int)) r ∧
  ((r=-1∧∀ m,m < xs.length→i≤m→(rdOf ByteArray.empty xs (m:Int)).toList≠s.toList)∨∃ j:Nat,r=(j:Int)∧j < xs.length∧i≤j∧(rdOf ByteArray.empty xs (j:Int)).toList=s.toList∧∀ m,i≤m→m < j→(rdOf ByteArray.empty xs (m:Int)).toList≠s.toList)
 | 0,i,h=>by
  refine⟨-1,y17 ⟨0,fun m _=>?_⟩,.inl ⟨rfl,fun m h1 h2=>by omega⟩⟩
  rw [slices_Index_string_string.l0,if_neg (by omega)]
 | q + 1,i,h=>by
  have hi:i < xs.length:=by omega
  by_cases e:s.toList=(rdOf ByteArray.empty xs (i:Int)).toList
  ·refine⟨(i:Int),y17 ⟨0,fun m _=>?_⟩,.inr ⟨i,rfl,hi,Nat.le_refl _,e.symm,fun m h1 h2=>by omega⟩⟩
   rw [slices_Index_string_string.l0,if_pos (by omega),if_pos (by omega),if_pos (by omega),if_pos e]
  ·obtain⟨r,⟨K,h1⟩,h2⟩:=idx_ev xs hx s q (i + 1) (by omega)
   refine⟨r,y17 ⟨K,fun m hm=>?_⟩, ?_⟩
   ·have e1:=h1 m hm
    simp only []at e1
    rw [slices_Index_string_string.l0,if_pos (by omega),if_pos (by omega),if_pos (by omega),if_neg e,step_i (by omega)]
    exact e1
   ·rcases h2 with⟨h3,h4⟩|⟨j,h3,h4,h5,h6,h7⟩
    ·refine .inl ⟨h3,fun m h5 h6=>?_⟩
     by_cases hm:m=i
     ·subst hm
      exact fun hx=>e hx.symm
     ·exact h4 m h5 (by omega)
    ·refine .inr ⟨j,h3,h4,by omega,h6,fun m h8 h9=>?_⟩
     by_cases hm:m=i
     ·subst hm
      exact fun hx=>e hx.symm
     ·exact h7 m (by omega) h9
noncomputable def smV (o:Int) (v0 v1:ByteArray):ByteArray ⊕ Int :=
 match numV v0,numV v1 with
 | some x,some z=>if -1000000≤rk o x z∧rk o x z≤1000000 then .inl (B (Lib.itoa (rk o x z)))else .inr 2
 | _,_=>.inr 1
noncomputable def stp (l2 l3:List ByteArray) (e:IEx) (vs:List ByteArray):ByteArray ⊕ Int :=
 if e.f0=2 then .inr 1 else
 if e.f0=1 then(if dwn l2 l3 e.f1 l2.length (-1) < 0 then .inr 1 else .inl (rdOf ByteArray.empty l3 (dwn l2 l3 e.f1 l2.length (-1))))else
 if e.f0=3 then .inl e.f1 else
 if e.f0=4 then(if(made (L e.f1) (vs.map L)).2=true then .inl (made (L e.f1) (vs.map L)).1 else .inr 2)else
 smV e.f0 (rdOf ByteArray.empty vs 0) (rdOf ByteArray.empty vs 1)
theorem stp_size {l2 l3:List ByteArray} {e:IEx} {vs:List ByteArray} {s:ByteArray} (h3:∀ x∈l3,x.size≤1048576) (he:e.f1.size≤1048576) (h:stp l2 l3 e vs=.inl s):s.size≤1048576:=by
 unfold stp at h
 split at h
 ·cases h
 split at h
 ·split at h
  ·cases h
  ·next hn =>
   cases h
   have h2:=dwn_lt l2 l3 e.f1 l2.length (-1) (by omega) (by omega)
   have e2:=rdOf_get l3 (dwn l2 l3 e.f1 l2.length (-1)).toNat (by omega)
   rw [show(((dwn l2 l3 e.f1 l2.length (-1)).toNat:Nat):Int)=dwn l2 l3 e.f1 l2.length (-1)by omega]at e2
   rw [e2]
   exact h3 _ (List.getElem_mem _)
 split at h
 ·cases h
  exact he
 split at h
 ·split at h
  ·next hm =>
   cases h
   unfold made at hm ⊢
   split at hm
   ·next hc =>
    rw [if_pos hc]
    show(QMakeV.full (L e.f1) (vs.map L)).length≤_
    omega
   ·cases hm
  ·cases h
 ·unfold smV at h
  split at h
  ·split at h
   ·next hc =>
    cases h
    have:=itoa_short _ hc
    show(Lib.itoa _).length≤_
    omega
   ·cases h
  ·cases h
theorem map_BL (vs:List ByteArray):(vs.map L).map B=vs:=by
 rw [List.map_map]
 have:(B∘L)=id:=by funext s;exact B_L s
 rw [this,List.map_id]
theorem impl_stp (l2 l3:List ByteArray) (hl2:l2.length≤1048576) (hl3:l3.length≤1048576) (F:Int→Option ByteArray) (i:Int) (e:IEx) (hE:EOk i e) (he:e.f1.size≤1048576) (hk:e.f2.length≤1048576)
  (hs:∀ v∈vlKids F e.f2,v.size≤1048576):Ev (fun k=>vlStep k l2 l3 F e) (stp l2 l3 e (vlKids F e.f2)):=by
 have hvl:(vlKids F e.f2).length=e.f2.length:=List.length_map _
 obtain⟨-,hlo,hhi,h2, -⟩:=hE
 by_cases c2:e.f0=2
 ·refine⟨0,fun k _=>?_⟩
  show vlStep k l2 l3 F e=_
  unfold vlStep stp
  rw [if_pos c2,if_pos c2]
 by_cases c1:e.f0=1
 ·obtain⟨r,⟨K,hr⟩,hc⟩:=idx_ev l2 hl2 e.f1 l2.length 0 (by omega)
  refine⟨K,fun k hk=>?_⟩
  have hr:=hr k hk
  simp only []at hr
  show vlStep k l2 l3 F e=_
  have hr2:slices_Index_string_string.f k l2 e.f1=some r:=hr
  unfold vlStep stp
  rw [if_neg c2,if_neg c2,if_pos c1,if_pos c1,hr2,Option.bind_some,wrapS (by omega) (by omega),in_f,Option.bind_some]
  rcases hc with⟨h3,h4⟩|⟨j,h3,h4,h5,h6,h7⟩
  ·rw [if_neg (by rw [decide_eq_true_eq];omega),dwn_none l2 l3 e.f1 l2.length _ (fun m hm hx=>absurd hx (h4 m hm (Nat.zero_le _))),if_pos (by omega)]
  ·rw [dwn_first l2 l3 e.f1 j h6 (fun m hm=>h7 m (Nat.zero_le _) hm) l2.length _ h4]
   subst h3
   by_cases hj:j < l3.length
   ·rw [if_pos (by rw [decide_eq_true_eq];omega),if_pos (by omega),if_pos hj,if_neg (by omega)]
   ·rw [if_neg (by rw [decide_eq_true_eq];omega),if_neg hj,if_pos (by omega)]
 by_cases c3:e.f0=3
 ·refine⟨0,fun k _=>?_⟩
  show vlStep k l2 l3 F e=_
  unfold vlStep stp
  rw [if_neg c2,if_neg c2,if_neg c1,if_neg c1,if_pos c3,if_pos c3]
 by_cases c4:e.f0=4
 ·refine⟨900001001,fun k hkk=>?_⟩
  have hm:=impl_make_f (L e.f1) ((vlKids F e.f2).map L) (by rw [L_length];exact he) (by rw [List.length_map,hvl];exact hk) (fun q hq=>by
   obtain⟨v,hv,rfl⟩:=List.mem_map.1 hq
   rw [L_length]
   exact hs v hv) k (by omega)
  rw [map_BL,B_L]at hm
  show vlStep k l2 l3 F e=_
  unfold vlStep stp
  rw [if_neg c2,if_neg c2,if_neg c1,if_neg c1,if_neg c3,if_neg c3,if_pos c4,if_pos c4,hm,Option.bind_some]
  by_cases g:(made (L e.f1) ((vlKids F e.f2).map L)).2=true
  ·rw [if_pos g,if_pos g]
  ·rw [if_neg g,if_neg g]
 have h2:=h2 (by omega)
 have s0:(rdOf ByteArray.empty (vlKids F e.f2) 0).size≤1048576:=by
  have:=rdOf_get (vlKids F e.f2) 0 (by omega)
  rw [show((0:Nat):Int)=0 from rfl]at this
  rw [this]
  exact hs _ (List.getElem_mem _)
 have s1:(rdOf ByteArray.empty (vlKids F e.f2) 1).size≤1048576:=by
  have:=rdOf_get (vlKids F e.f2) 1 (by omega)
  rw [show((1:Nat):Int)=1 from rfl]at this
  rw [this]
  exact hs _ (List.getElem_mem _)
 refine⟨4194401,fun k hkk=>?_⟩
 show vlStep k l2 l3 F e=_
 unfold vlStep stp
 rw [if_neg c2,if_neg c2,if_neg c1,if_neg c1,if_neg c3,if_neg c3,if_neg c4,if_neg c4,if_pos (by omega),ikind _ s0 k (by omega),Option.bind_some,ikind _ s1 k (by omega),Option.bind_some]
 generalize rdOf ByteArray.empty (vlKids F e.f2) 0=v0
 generalize rdOf ByteArray.empty (vlKids F e.f2) 1=v1
 unfold smV
 cases h0:numV v0 with
 | none =>
  rw [if_neg (fun hx=>by obtain⟨x,hx⟩:=(kd_one v0).1 hx;rw [h0]at hx;cases hx)]
 | some x =>
  rw [if_pos ((kd_one v0).2 ⟨x,h0⟩)]
  cases h1:numV v1 with
  | none =>
   rw [if_neg (fun hx=>by obtain⟨x,hx⟩:=(kd_one v1).1 hx;rw [h1]at hx;cases hx)]
  | some z =>
   rw [if_pos ((kd_one v1).2 ⟨z,h1⟩),(numV_in h0).2,Option.bind_some,(numV_in h1).2,Option.bind_some,rk_f,Option.bind_some]
   unfold impl_NumTerm.f
   rw [in_f,Option.bind_some]
   by_cases g:-1000000≤rk e.f0 x z∧rk e.f0 x z≤1000000
   ·rw [if_pos (decide_eq_true g),itoa_f _ (by omega) (by omega),Option.bind_some,Option.bind_some]
    show(if(B (Lib.itoa (rk e.f0 x z))).toList=([]:List UInt8)then _ else _)=_
    rw [toList_B,if_neg (itoa_ne _)]
    simp only []
    rw [if_pos g]
    rfl
   ·rw [if_neg (by rw [decide_eq_true_eq];exact g),Option.bind_some]
    simp only []
    rw [if_neg g]
    exact if_pos (toList_B [])
end Go.Proofs.YtimhlficlhafbaaGreatDoor.QVal
-- Cut by prune.py.
namespace Go.Proofs.YtimhlficlhafbaaGreatDoor.QValB
open RowKit Pv YtimhlficlhafbaaGreatDoorW.PrintWords YtimhlficlhafbaaGreatDoorW.PrintLast QStr QGenR QRule QTree QText QVal
open QNum (numText)
open QNumb (between_f)
open QMakeV (made spec_make_f)
open QForm (y17)
set_option linter.unusedVariables false
set_option linter.unusedSimpArgs false
def at_ (out:List ByteArray) (x:Int):ByteArray:=rdOf ByteArray.empty out x
theorem map_at (g:Int→ByteArray) (ks:List Int) (j:Nat) (h:j < ks.length):rdOf ByteArray.empty (ks.map g) (j:Int)=g (rd ks (j:Int)):=by
 rw [rdOf_get _ _ (by rw [List.length_map];exact h),List.getElem_map,rdN_get ks j h]
section
variable (es : List IEx) (a : Int) (b : ByteArray) (c : List Int) (d : List ILt) (l2 l3 : List ByteArray) (n : Int) (inn : List Bool)
theorem names_l (hl2:l2.length≤1048576) (out:List ByteArray) (i:Int) (e:IEx) (r:ByteArray×Int):∀(m:Nat) (t:Int),m≤l2.length →
  Ev (fun k=>z11_.l1 k n l2 l3 inn out i (dwn l2 l3 e.f1 m t) (-1) es a b c d e.f0 e.f1 e.f2) r→Ev (fun k=>z11_.l1 k n l2 l3 inn out i t ((m:Int) - 1) es a b c d e.f0 e.f1 e.f2) r
 | 0,t,_,h=>h
 | m + 1,t,hm,h=>by
  obtain⟨K,g⟩:=names_l hl2 out i e r m _ (by omega) h
  refine y17 ⟨K,fun k hk=>?_⟩
  have g:=g k hk
  simp only []at g
  rw [show((m + 1:Nat):Int) - 1=(m:Int)by omega,z11_.l1,if_pos (by omega),if_pos (by omega),if_pos (by omega),wrapS (by omega) (by omega)]
  by_cases hx:(rdOf ByteArray.empty l2 (m:Int)).toList=e.f1.toList
  ·rw [if_pos hx]
   by_cases hz:m < l3.length
   ·rw [if_pos ⟨hx,hz⟩]at g
    rw [if_pos (by omega)]
    exact g
   ·rw [if_neg (fun h=>hz h.2)]at g
    rw [if_neg (by omega)]
    exact g
  ·rw [if_neg (fun h=>hx h.1)]at g
   rw [if_neg hx]
   exact g
theorem kids_l (out:List ByteArray) (i:Int) (e:IEx) (hk:e.f2.length≤1048576) (hin:∀ x∈e.f2,0≤x∧x < (out.length:Int)) (r:ByteArray×Int):∀(q j:Nat),j + q=e.f2.length →
  Ev (fun k=>z11_.l2 k n l2 l3 inn out i (e.f2.map (at_ out)) (e.f2.length:Int) es a b c d e.f0 e.f1 e.f2) r→Ev (fun k=>z11_.l2 k n l2 l3 inn out i ((e.f2.take j).map (at_ out)) (j:Int) es a b c d e.f0 e.f1 e.f2) r
 | 0,j,h,hr=>by
  have hj:j=e.f2.length:=by omega
  rw [hj,List.take_length]
  exact hr
 | q + 1,j,h,hr=>by
  have hj:j < e.f2.length:=by omega
  obtain⟨K,g⟩:=kids_l out i e hk hin r q (j + 1) (by omega) hr
  have hm:=hin _ (rd_mem hj)
  refine y17 ⟨K,fun k hk=>?_⟩
  have g:=g k hk
  simp only []at g
  rw [z11_.l2,if_pos (by omega),if_pos (by omega),if_pos hm.1,if_pos hm.2,if_pos (by rw [List.length_map,List.length_take];omega),step_i (by omega)]
  rw [List.take_succ_eq_append_getElem hj,List.map_append,List.map_cons,List.map_nil]at g
  rw [rdN_get _ j hj]
  exact g
theorem spec_stp (hl2:l2.length≤1048576) (hl3:l3.length≤1048576) (out:List ByteArray) (i:Nat) (hi:i < es.length) (hin:(i:Int)≤n) (ho:out.length=es.length) (hb:inn.length=es.length) (hI:rdOf false inn (i:Int)=true) (hes:es.length≤60)
  (hE:EOk (i:Int) es[i]) (he:es[i].f1.size≤1048576) (hk:es[i].f2.length≤1048576) (hs:∀ v∈out,v.size≤1048576) :
  (∀ x,stp l2 l3 es[i] (es[i].f2.map (at_ out))=.inr x→Ev (fun k=>z11_.l0 k n l2 l3 inn out (i:Int) es a b c d) ((⟨#[]⟩:ByteArray),x)) ∧
  ∀ s r,stp l2 l3 es[i] (es[i].f2.map (at_ out))=.inl s→Ev (fun k=>z11_.l0 k n l2 l3 inn (out.set i s) ((i:Int) + 1) es a b c d) r→Ev (fun k=>z11_.l0 k n l2 l3 inn out (i:Int) es a b c d) r:=by
 have hrd:y23 es (i:Int)=es[i]:=getD_at _ es i hi
 obtain⟨hkr,hlo,hhi,h2, -⟩:=hE
 have hkin:∀ x∈es[i].f2,0≤x∧x < (out.length:Int):=fun x hx=>by have:=hkr x hx;omega
 have hat:∀ x,0≤x→x < (out.length:Int)→(at_ out x).size≤1048576:=fun x g0 g1=>by
  have e2:=rdOf_get out x.toNat (by omega)
  rw [show((x.toNat:Nat):Int)=x by omega]at e2
  unfold at_
  rw [e2]
  exact hs _ (List.getElem_mem _)
 have head:∀ k,z11_.l0 (k + 1) n l2 l3 inn out (i:Int) es a b c d=(if(es[i].f0)=1 then(z11_.l1 k n l2 l3 inn out (i:Int) (-1) (wrap64 ((l2.length:Int) - 1)) es a b c d es[i].f0 es[i].f1 es[i].f2)else(if es[i].f0=2 then(some ((⟨#[]⟩:ByteArray),1))else(if es[i].f0=3 then(z11_.l0 k n l2 l3 inn (out.set i es[i].f1) ((i:Int) + 1) es a b c d)else(if es[i].f0=4 then(z11_.l2 k n l2 l3 inn out (i:Int) [] 0 es a b c d es[i].f0 es[i].f1 es[i].f2)else(if 0 < ((es[i].f2).length:Int)then(if 0≤(rd es[i].f2 0)then(if(rd es[i].f2 0) < (out.length:Int)then((spec_TermNum.f k (rdOf ByteArray.empty out (rd es[i].f2 0))).bind fun bt296=>(if 1 < ((es[i].f2).length:Int)then(if 0≤(rd es[i].f2 1)then(if(rd es[i].f2 1) < (out.length:Int)then((spec_TermNum.f k (rdOf ByteArray.empty out (rd es[i].f2 1))).bind fun bt300=>(if bt296.2=true then(z11_.j3 k n l2 l3 inn out (i:Int) bt296.1 bt300.1 (!bt300.2) es a b c d es[i].f0 es[i].f1 es[i].f2)else(z11_.j3 k n l2 l3 inn out (i:Int) bt296.1 bt300.1 true es a b c d es[i].f0 es[i].f1 es[i].f2)))else(none))else(none))else(none)))else(none))else(none))else(none)))))):=fun k=>by
  rw [z11_.l0,if_pos hin,if_pos (by omega),if_pos (by omega),if_pos (by omega),if_pos hI,hrd,if_pos (show(i:Int) < (out.length:Int)by omega),wrapS (n:=(i:Int) + 1) (by omega) (by omega)]
  rfl
 by_cases c1:es[i].f0=1
 ·have hlt:=dwn_lt l2 l3 es[i].f1 l2.length (-1) (by omega) (by omega)
  have go:∀ r,Ev (fun k=>z11_.l1 k n l2 l3 inn out (i:Int) (dwn l2 l3 es[i].f1 l2.length (-1)) (-1) es a b c d es[i].f0 es[i].f1 es[i].f2) r→Ev (fun k=>z11_.l0 k n l2 l3 inn out (i:Int) es a b c d) r:=fun r hr=>by
   obtain⟨K,g⟩:=names_l es a b c d l2 l3 n inn hl2 out (i:Int) es[i] r l2.length (-1) (Nat.le_refl _) hr
   refine y17 ⟨K,fun k hk=>?_⟩
   have g:=g k hk
   simp only []at g
   rw [head,if_pos c1,wrapS (by omega) (by omega)]
   exact g
  have es_:stp l2 l3 es[i] (es[i].f2.map (at_ out))=if dwn l2 l3 es[i].f1 l2.length (-1) < 0 then .inr 1 else .inl (rdOf ByteArray.empty l3 (dwn l2 l3 es[i].f1 l2.length (-1))):=by
   unfold stp
   rw [if_neg (by omega),if_pos c1]
  rw [es_]
  by_cases g0:dwn l2 l3 es[i].f1 l2.length (-1) < 0
  ·rw [if_pos g0]
   refine⟨fun x hx=>?_,fun s r hx=>by cases hx⟩
   cases hx
   refine go _ (y17 ⟨0,fun k _=>?_⟩)
   rw [z11_.l1,if_neg (by omega),if_pos g0]
  ·rw [if_neg g0]
   refine⟨(fun x hx=>by cases hx),fun s r hx hr=>?_⟩
   cases hx
   obtain⟨K,g⟩:=hr
   refine go _ (y17 ⟨K,fun k hk=>?_⟩)
   have g:=g k hk
   simp only []at g
   rw [z11_.l1,if_neg (by omega),if_neg g0,if_pos (by omega),if_pos hlt.2,if_pos (by omega),if_pos (by omega),wrapS (by omega) (by omega)]
   exact g
 by_cases c2:es[i].f0=2
 ·have es_:stp l2 l3 es[i] (es[i].f2.map (at_ out))=.inr 1:=if_pos c2
  rw [es_]
  refine⟨fun x hx=>?_,fun s r hx=>by cases hx⟩
  cases hx
  refine y17 ⟨0,fun k _=>?_⟩
  rw [head,if_neg c1,if_pos c2]
 by_cases c3:es[i].f0=3
 ·have es_:stp l2 l3 es[i] (es[i].f2.map (at_ out))=.inl es[i].f1:=by
   unfold stp
   rw [if_neg c2,if_neg c1,if_pos c3]
  rw [es_]
  refine⟨(fun x hx=>by cases hx),fun s r hx hr=>?_⟩
  cases hx
  obtain⟨K,g⟩:=hr
  refine y17 ⟨K,fun k hk=>?_⟩
  have g:=g k hk
  simp only []at g
  rw [head,if_neg c1,if_neg c2,if_pos c3]
  exact g
 by_cases c4:es[i].f0=4
 ·have es_:stp l2 l3 es[i] (es[i].f2.map (at_ out))=if(made (L es[i].f1) ((es[i].f2.map (at_ out)).map L)).2=true then .inl (made (L es[i].f1) ((es[i].f2.map (at_ out)).map L)).1 else .inr 2:=by
   unfold stp
   rw [if_neg c2,if_neg c1,if_neg c3,if_pos c4]
  rw [es_]
  have go:∀ r,Ev (fun k=>z11_.l2 k n l2 l3 inn out (i:Int) (es[i].f2.map (at_ out)) (es[i].f2.length:Int) es a b c d es[i].f0 es[i].f1 es[i].f2) r→Ev (fun k=>z11_.l0 k n l2 l3 inn out (i:Int) es a b c d) r:=fun r hr=>by
   obtain⟨K,g⟩:=kids_l es a b c d l2 l3 n inn out (i:Int) es[i] hk hkin r es[i].f2.length 0 (by omega) hr
   refine y17 ⟨K,fun k hk=>?_⟩
   have g:=g k hk
   simp only []at g
   rw [head,if_neg c1,if_neg c2,if_neg c3,if_pos c4]
   exact g
  have hmk:∀ k,900001000 < k→spec_TermMake.f k es[i].f1 (es[i].f2.map (at_ out))=some (made (L es[i].f1) ((es[i].f2.map (at_ out)).map L)):=fun k hkk=>by
   have hm:=spec_make_f (L es[i].f1) ((es[i].f2.map (at_ out)).map L) (by rw [L_length];exact he) (by rw [List.length_map,List.length_map];exact hk) (fun q hq=>by
    obtain⟨v,hv,rfl⟩:=List.mem_map.1 hq
    obtain⟨x,hx,rfl⟩:=List.mem_map.1 hv
    rw [L_length]
    exact hat x (hkin x hx).1 (hkin x hx).2) k hkk
   rw [map_BL,B_L]at hm
   exact hm
  by_cases g0:(made (L es[i].f1) ((es[i].f2.map (at_ out)).map L)).2=true
  ·rw [if_pos g0]
   refine⟨(fun x hx=>by cases hx),fun s r hx hr=>?_⟩
   cases hx
   obtain⟨K,g⟩:=hr
   refine go _ (y17 ⟨max K 900001001,fun k hk=>?_⟩)
   have g:=g k (by omega)
   simp only []at g
   rw [z11_.l2,if_neg (by omega),hmk k (by omega),Option.bind_some,if_pos g0,if_pos (by omega),if_pos (by omega),wrapS (by omega) (by omega)]
   exact g
  ·rw [if_neg g0]
   refine⟨fun x hx=>?_,fun s r hx=>by cases hx⟩
   cases hx
   refine go _ (y17 ⟨900001001,fun k hk=>?_⟩)
   rw [z11_.l2,if_neg (by omega),hmk k (by omega),Option.bind_some,if_neg g0]
 have h2:=h2 (by omega)
 have m0:=hkin _ (rd_mem (ks:=es[i].f2) (j:=0) (by omega))
 have m1:=hkin _ (rd_mem (ks:=es[i].f2) (j:=1) (by omega))
 have v0:rdOf ByteArray.empty (es[i].f2.map (at_ out)) 0=at_ out (rd es[i].f2 0):=map_at (at_ out) es[i].f2 0 (by omega)
 have v1:rdOf ByteArray.empty (es[i].f2.map (at_ out)) 1=at_ out (rd es[i].f2 1):=map_at (at_ out) es[i].f2 1 (by omega)
 rw [show(((0:Nat):Int))=0 from rfl]at m0
 rw [show(((1:Nat):Int))=1 from rfl]at m1
 have s0:=hat _ m0.1 m0.2
 have s1:=hat _ m1.1 m1.2
 have es_:stp l2 l3 es[i] (es[i].f2.map (at_ out))=smV es[i].f0 (at_ out (rd es[i].f2 0)) (at_ out (rd es[i].f2 1)):=by
  unfold stp
  rw [if_neg c2,if_neg c1,if_neg c3,if_neg c4,v0,v1]
 rw [es_]
 have hd2:∀ k,40 < k→z11_.l0 (k + 1) n l2 l3 inn out (i:Int) es a b c d=match numV (at_ out (rd es[i].f2 0)),numV (at_ out (rd es[i].f2 1))with
   | some x,some z=>z11_.j3 k n l2 l3 inn out (i:Int) x z false es a b c d es[i].f0 es[i].f1 es[i].f2
   | some x,none=>z11_.j3 k n l2 l3 inn out (i:Int) x 0 true es a b c d es[i].f0 es[i].f1 es[i].f2
   | none,some z=>z11_.j3 k n l2 l3 inn out (i:Int) 0 z true es a b c d es[i].f0 es[i].f1 es[i].f2
   | none,none=>z11_.j3 k n l2 l3 inn out (i:Int) 0 0 true es a b c d es[i].f0 es[i].f1 es[i].f2:=fun k hk=>by
  rw [head,if_neg c1,if_neg c2,if_neg c3,if_neg c4,if_pos (by omega),if_pos m0.1,if_pos m0.2,show spec_TermNum.f k (rdOf ByteArray.empty out (rd es[i].f2 0))=_ from snum _ s0 k hk,Option.bind_some,if_pos (by omega),if_pos m1.1,if_pos m1.2,show spec_TermNum.f k (rdOf ByteArray.empty out (rd es[i].f2 1))=_ from snum _ s1 k hk,Option.bind_some]
  cases numV (at_ out (rd es[i].f2 0))with
  | none=>cases numV (at_ out (rd es[i].f2 1)) <;> rfl
  | some x=>cases numV (at_ out (rd es[i].f2 1)) <;> rfl
 have bad:∀ x z,∀ k,z11_.j3 (k + 1) n l2 l3 inn out (i:Int) x z true es a b c d es[i].f0 es[i].f1 es[i].f2=some ((⟨#[]⟩:ByteArray),1):=fun x z k=>by
  rw [z11_.j3,if_pos rfl]
 unfold smV
 cases h0:numV (at_ out (rd es[i].f2 0))with
 | none =>
  refine⟨fun x hx=>?_,fun s r hx=>by cases hx⟩
  cases hx
  refine y17 ⟨50,fun k hk=>?_⟩
  obtain⟨k,rfl⟩:∃ m,k=m + 1:=⟨k - 1,by omega⟩
  rw [hd2 _ (by omega),h0]
  cases numV (at_ out (rd es[i].f2 1))with
  | none=>exact bad _ _ _
  | some z=>exact bad _ _ _
 | some x =>
  cases h1:numV (at_ out (rd es[i].f2 1))with
  | none =>
   refine⟨fun q hx=>?_,fun s r hx=>by cases hx⟩
   cases hx
   refine y17 ⟨50,fun k hk=>?_⟩
   obtain⟨k,rfl⟩:∃ m,k=m + 1:=⟨k - 1,by omega⟩
   rw [hd2 _ (by omega),h0,h1]
   exact bad _ _ _
  | some z =>
   have mid:∀ k,50 < k→z11_.l0 (k + 4) n l2 l3 inn out (i:Int) es a b c d=z11_.j5 (k + 1) n l2 l3 inn out (i:Int) (rk es[i].f0 x z) es a b c d:=fun k hk=>by
    rw [hd2 _ (by omega),h0,h1]
    show z11_.j3 (k + 3) n l2 l3 inn out (i:Int) x z false es a b c d es[i].f0 es[i].f1 es[i].f2=_
    rw [z11_.j3,if_neg (by decide)]
    unfold rk
    by_cases c6:es[i].f0=6
    ·rw [if_pos c6,z11_.j4,if_neg (by omega),if_neg (by omega),if_pos c6]
    ·rw [if_neg c6,z11_.j4]
     by_cases c7:es[i].f0=7
     ·rw [if_pos c7,if_neg (by omega),if_neg c6]
     ·rw [if_neg c7,if_pos (by omega)]
   simp only []
   by_cases g0:-1000000≤rk es[i].f0 x z∧rk es[i].f0 x z≤1000000
   ·rw [if_pos g0]
    refine⟨(fun q hx=>by cases hx),fun s r hx hr=>?_⟩
    cases hx
    obtain⟨K,g⟩:=hr
    refine⟨K + 100,fun k hk=>?_⟩
    obtain⟨k,rfl⟩:∃ m,k=m + 4:=⟨k - 4,by omega⟩
    have g:=g k (by omega)
    simp only []at g
    show z11_.l0 (k + 4) n l2 l3 inn out (i:Int) es a b c d=_
    rw [mid k (by omega),z11_.j5,between_f,Option.bind_some,if_pos (decide_eq_true g0),numText _ (by omega) (by omega) k (by omega),Option.bind_some,if_pos (by omega),if_pos (by omega),wrapS (by omega) (by omega)]
    exact g
   ·rw [if_neg g0]
    refine⟨fun q hx=>?_,fun s r hx=>by cases hx⟩
    cases hx
    refine⟨100,fun k hk=>?_⟩
    obtain⟨k,rfl⟩:∃ m,k=m + 4:=⟨k - 4,by omega⟩
    show z11_.l0 (k + 4) n l2 l3 inn out (i:Int) es a b c d=_
    rw [mid k (by omega),z11_.j5,between_f,Option.bind_some,if_neg (by rw [decide_eq_true_eq];exact g0)]
end
end Go.Proofs.YtimhlficlhafbaaGreatDoor.QValB
-- Cut by prune.py.
namespace Go.Proofs.YtimhlficlhafbaaGreatDoor.QValC
open RowKit Pv YtimhlficlhafbaaGreatDoorW.PrintWords YtimhlficlhafbaaGreatDoorW.PrintLast QStr QGenR QRule QTree QText QVal QValB
open QPrs (prs)
open QKind (spec_kind)
open QNumb (between_f)
open QMakeV (in_f)
open QForm (y17 Frm)
open QWith (Re Mk re_le re_kid re_trans)
open QVars (kd dn sz sz_le within_ev in_ev rdB form_ev)
open QRuleT (FewR frm_one)
set_option linter.unusedVariables false
set_option linter.unusedSimpArgs false
open Classical in
noncomputable def rn (es:List IEx) (l2 l3:List ByteArray) (P:Nat→Prop):Nat→Nat→(Nat→ByteArray)→(Nat→ByteArray) ⊕ Int
 | 0,_,G=>.inl G
 | d + 1,i,G=>if P i then(match stp l2 l3 (es.getD i zE) ((es.getD i zE).f2.map fun x=>G x.toNat)with|.inl s=>rn es l2 l3 P d (i + 1) (fun j=>if j=i then s else G j)|.inr x=>.inr x)else rn es l2 l3 P d (i + 1) G
noncomputable def fnl (n:Nat):((Nat→ByteArray) ⊕ Int)→ByteArray×Int
 | .inr x=>(⟨#[]⟩,x)
 | .inl G=>if QPrs.kd (prs (L (G n)))=0 then(⟨#[]⟩,2)else(G n,0)
theorem rn_skip (es:List IEx) (l2 l3:List ByteArray) (P:Nat→Prop) (q:Nat):∀(d i:Nat) (G:Nat→ByteArray),(∀ z,i≤z→z < i + d→¬ P z)→rn es l2 l3 P (q + d) i G=rn es l2 l3 P q (i + d) G
 | 0,i,G,_=>rfl
 | d + 1,i,G,h=>by
  rw [show q + (d + 1)=(q + d) + 1 from rfl,rn,if_neg (h i (Nat.le_refl _) (by omega)),rn_skip es l2 l3 P q d (i + 1) G (fun z h1 h2=>h z (by omega) (by omega)),show i + 1 + d=i + (d + 1)by omega]
section
variable (es : List IEx) (a : Int) (b : ByteArray) (c : List Int) (d : List ILt) (l2 l3 : List ByteArray)
theorem spec_run (hl2:l2.length≤1048576) (hl3:l3.length≤1048576) (hz3:∀ x∈l3,x.size≤1048576) (hes:EsOk es) (hn:es.length≤60) (hk:∀ e∈es,e.f1.size≤1048576∧e.f2.length≤1048576) (n:Nat) (hlt:n < es.length) (inn:List Bool) (hb:inn.length=es.length) (P:Nat→Prop) (hP:∀ x,Mk inn x↔P x) :
  ∀(q i:Nat) (out:List ByteArray),i + q=n + 1→out.length=es.length→(∀ v∈out,v.size≤1048576) →
   Ev (fun k=>z11_.l0 k (n:Int) l2 l3 inn out (i:Int) es a b c d) (fnl n (rn es l2 l3 P q i (fun j=>rdOf ByteArray.empty out (j:Int))))
 | 0,i,out,h,ho,hs=>by
  refine y17 ⟨4194500,fun k hkk=>?_⟩
  have e0:=rdOf_get out n (by omega)
  have hz:=hs _ (List.getElem_mem (show n < out.length by omega))
  rw [← e0]at hz
  have hL:=L_length (rdOf ByteArray.empty out (n:Int))
  have sk:=spec_kind _ (L (rdOf ByteArray.empty out (n:Int))) rfl (by omega) k (by omega)
  rw [B_L]at sk
  rw [z11_.l0,if_neg (by omega),if_pos (by omega),if_pos (by omega),sk,Option.bind_some]
  show _=some (if QPrs.kd (prs (L (rdOf ByteArray.empty out (n:Int))))=0 then _ else _)
  by_cases g:QPrs.kd (prs (L (rdOf ByteArray.empty out (n:Int))))=0
  ·rw [if_pos g,if_pos g]
  ·rw [if_neg g,if_neg g]
 | q + 1,i,out,h,ho,hs=>by
  have hi:i < es.length:=by omega
  have hE:=hes i hi
  have hke:=hk _ (List.getElem_mem hi)
  have hg:es.getD i zE=es[i]:=getD_in es i hi
  rw [rn]
  by_cases hp:P i
  ·have hI:rdOf false inn (i:Int)=true:=(rdB inn i).2 ((hP i).2 hp)
   obtain⟨s1,s2⟩:=spec_stp es a b c d l2 l3 (n:Int) inn hl2 hl3 out i hi (by omega) ho hb hI hn hE hke.1 hke.2 hs
   rw [if_pos hp,hg]
   have hm:(es[i].f2.map fun x=>rdOf ByteArray.empty out ((x.toNat:Nat):Int))=es[i].f2.map (at_ out):=rfl
   rw [hm]
   cases hst:stp l2 l3 es[i] (es[i].f2.map (at_ out))with
   | inr x=>exact s1 x hst
   | inl s =>
    have hss:=stp_size hz3 hke.1 hst
    have ih:=spec_run hl2 hl3 hz3 hes hn hk n hlt inn hb P hP q (i + 1) (out.set i s) (by omega) (by rw [List.length_set];exact ho) (fun v hv=>by
     rcases List.mem_or_eq_of_mem_set hv with h1|h1
     ·exact hs v h1
     ·rw [h1];exact hss)
    have hf:(fun j:Nat=>rdOf ByteArray.empty (out.set i s) (j:Int))=fun j:Nat=>if j=i then s else rdOf ByteArray.empty out (j:Int):=by
     funext j
     show(out.set i s).getD j _=if j=i then s else out.getD j _
     rw [List.getD_eq_getElem?_getD,List.getElem?_set,List.getD_eq_getElem?_getD]
     by_cases e:i=j
     ·rw [if_pos e,if_pos e.symm,if_pos (by omega)]
      rfl
     ·rw [if_neg e,if_neg (fun h=>e h.symm)]
    rw [hf]at ih
    exact s2 s _ hst ih
  ·rw [if_neg hp]
   obtain⟨K,g⟩:=spec_run hl2 hl3 hz3 hes hn hk n hlt inn hb P hP q (i + 1) out (by omega) ho hs
   refine y17 ⟨K,fun k hk=>?_⟩
   have g:=g k hk
   simp only []at g
   rw [z11_.l0,if_pos (by omega),if_pos (by omega),if_pos (by omega),if_pos (by omega),if_neg (fun hx=>hp ((hP i).1 ((rdB inn i).1 hx))),wrapS (by omega) (by omega)]
   exact g
def Sm (P:Nat→Prop) (t:Nat):((Int→Option ByteArray) ⊕ Int)→((Nat→ByteArray) ⊕ Int)→Prop
 | .inr x,.inr z=>x=z
 | .inl F,.inl G=>(∀ z:Nat,P z→z < t→F (z:Int)=some (G z))∧∀ z,(G z).size≤1048576
 | _,_=>False
theorem vl_cons (k:Nat) (x:Int) (r:List Int) (F:Int→Option ByteArray):vlRun k es l2 l3 (x :: r) F=if vlOk es x=true then((vlStep k l2 l3 F (y23 es x)).bind fun v=>match v with|.inl s=>(if s.size≤1099511627776 then vlRun k es l2 l3 r (fun z=>if z=x then some s else F z)else none)|.inr z=>some (.inr z))else none:=by
 rw [vlRun]
 rfl
theorem vl_dup (k:Nat) (x:Int) (r:List Int) (F:Int→Option ByteArray) (hx:∀ z∈(y23 es x).f2,z≠x):vlRun k es l2 l3 (x :: x :: r) F=vlRun k es l2 l3 (x :: r) F:=by
 rw [vl_cons es l2 l3 k x (x :: r) F,vl_cons es l2 l3 k x r F]
 by_cases ok:vlOk es x=true
 ·rw [if_pos ok,if_pos ok]
  cases hv:vlStep k l2 l3 F (y23 es x)with
  | none=>rfl
  | some v =>
   cases v with
   | inr z=>rfl
   | inl s =>
    simp only [Option.bind_some]
    by_cases hz:s.size≤1099511627776
    ·rw [if_pos hz,if_pos hz,vl_cons es l2 l3 k x r,if_pos ok]
     have hkk:vlKids (fun z=>if z=x then some s else F z) (y23 es x).f2=vlKids F (y23 es x).f2:=by
      unfold vlKids
      refine List.map_congr_left fun z hz=>?_
      simp only []
      rw [if_neg (hx z hz)]
     have hst:vlStep k l2 l3 (fun z=>if z=x then some s else F z) (y23 es x)=some (.inl s):=by
      rw [← hv]
      unfold vlStep
      rw [hkk]
     rw [hst]
     simp only [Option.bind_some]
     rw [if_pos hz]
     congr 1
     funext z
     by_cases e:z=x
     ·rw [if_pos e,if_pos e]
     ·rw [if_neg e]
    ·rw [if_neg hz,if_neg hz]
 ·rw [if_neg ok,if_neg ok]
theorem impl_run (hl2:l2.length≤1048576) (hl3:l3.length≤1048576) (hz3:∀ x∈l3,x.size≤1048576) (hes:EsOk es) (hn:es.length≤60) (hk:∀ e∈es,e.f1.size≤1048576∧e.f2.length≤1048576) (P:Nat→Prop) (hP:∀ z x,P z→x∈kd es z→P x.toNat) :
  ∀(m:Nat) (xs:List Int),xs.length≤m→∀(q i:Nat) (F:Int→Option ByteArray) (G:Nat→ByteArray),xs.Pairwise (·≤·)→(∀ x∈xs,∃ z:Nat,x=(z:Int)∧P z∧i≤z∧z < i + q)→(∀ z:Nat,P z→i≤z→z < i + q→(z:Int)∈xs)→i + q≤es.length →
   (∀ z:Nat,P z→z < i→F (z:Int)=some (G z))→(∀ z,(G z).size≤1048576)→∃ R,Ev (fun k=>vlRun k es l2 l3 xs F) R∧Sm P (i + q) R (rn es l2 l3 P q i G)
 | _,[],_,q,i,F,G,hs,h1,h2,hq,hF,hG=>by
  refine⟨.inl F,⟨0,fun k _=>?_⟩, ?_⟩
  ·show vlRun k es l2 l3 [] F=_
   rw [vlRun]
  ·have:=rn_skip es l2 l3 P 0 q i G (fun z g1 g2 g3=>by have:=h2 z g3 g1 g2;cases this)
   rw [Nat.zero_add]at this
   rw [this]
   refine⟨fun z g1 g2=>hF z g1 ?_,hG⟩
   by_cases hzi:z < i
   ·exact hzi
   ·have:=h2 z g1 (by omega) g2
    cases this
 | 0,x :: r,hm,_,_,_,_,_,_,_,_,_,_=>absurd hm (by simp)
 | m + 1,x :: r,hm,q,i,F,G,hs,h1,h2,hq,hF,hG=>by
  replace hm:r.length≤m:=by rw [List.length_cons]at hm;omega
  obtain⟨z,hxz,hPz,g1,g2⟩:=h1 x List.mem_cons_self
  have hz:z < es.length:=by omega
  have hE:=hes z hz
  have hke:=hk _ (List.getElem_mem hz)
  have hg:es.getD z zE=es[z]:=getD_in es z hz
  have hrd:y23 es x=es[z]:=by rw [hxz];exact getD_at _ es z hz
  obtain⟨hs1,hs2⟩:=List.pairwise_cons.1 hs
  by_cases hx:x∈r
  ·obtain⟨w,r2,rfl⟩:∃ w r2,r=w :: r2:=by
    cases r with
    | nil=>cases hx
    | cons w r2=>exact⟨w,r2,rfl⟩
   have hw:w=x:=by
    have e1:=hs1 w List.mem_cons_self
    rcases List.mem_cons.1 hx with e2|e2
    ·exact e2.symm
    ·have:=(List.pairwise_cons.1 hs2).1 x e2
     omega
   subst hw
   obtain⟨R,⟨K,e⟩,hR⟩:=impl_run hl2 hl3 hz3 hes hn hk P hP m (w :: r2) hm q i F G hs2 (fun v hv=>h1 v (List.mem_cons_of_mem _ hv)) (fun v t1 t2 t3=>by
    rcases List.mem_cons.1 (h2 v t1 t2 t3)with e|e
    ·rw [e];exact List.mem_cons_self
    ·exact e) hq hF hG
   refine⟨R,⟨K,fun k hk=>?_⟩,hR⟩
   have e:=e k hk
   simp only []at e
   show vlRun k es l2 l3 (w :: w :: r2) F=_
   rw [vl_dup es l2 l3 k w r2 F (fun v hv=>by rw [hrd]at hv;have:=hE.1 v hv;omega)]
   exact e
  ·have hbe:∀ v:Nat,P v→i≤v→v < z→False:=fun v t1 t2 t3=>by
    rcases List.mem_cons.1 (h2 v t1 t2 (by omega))with e|e
    ·omega
    ·have:=hs1 _ e
     omega
   have hF2:∀ v:Nat,P v→v < z→F (v:Int)=some (G v):=fun v t1 t2=>by
    by_cases hv:v < i
    ·exact hF v t1 hv
    ·exact(hbe v t1 (by omega) t2).elim
   have hkds:vlKids F es[z].f2=es[z].f2.map fun v=>G v.toNat:=by
    unfold vlKids
    refine List.map_congr_left fun v hv=>?_
    have hr:=hE.1 v hv
    have hp:P v.toNat:=hP z v hPz (by unfold kd;rw [hg];exact hv)
    have:=hF2 v.toNat hp (by omega)
    rw [show((v.toNat:Nat):Int)=v by omega]at this
    rw [this]
    rfl
   have hok:vlOk es x=true:=by
    unfold vlOk
    rw [hrd]
    simp only [Bool.and_eq_true,decide_eq_true_eq,List.all_eq_true]
    refine⟨by omega,by omega,by omega,hke.2,fun v hv=>?_⟩
    have hr:=hE.1 v hv
    omega
   obtain⟨K1,est⟩:=impl_stp l2 l3 hl2 hl3 F (z:Int) es[z] hE hke.1 hke.2 (fun v hv=>by
    rw [hkds]at hv
    obtain⟨u,_,rfl⟩:=List.mem_map.1 hv
    exact hG _)
   obtain⟨q2,hq2⟩:∃ q2,i + q=z + 1 + q2:=⟨i + q - (z + 1),by omega⟩
   have hsk:=rn_skip es l2 l3 P (q2 + 1) (z - i) i G (fun v t1 t2 t3=>hbe v t3 t1 (by omega))
   rw [show q2 + 1 + (z - i)=q by omega,show i + (z - i)=z by omega]at hsk
   rw [hsk,rn,if_pos hPz,hg,← hkds]
   cases hst:stp l2 l3 es[z] (vlKids F es[z].f2)with
   | inr v =>
    refine⟨.inr v,⟨K1,fun k hk=>?_⟩,rfl⟩
    have est:=est k hk
    simp only []at est
    show vlRun k es l2 l3 (x :: r) F=_
    rw [vl_cons,if_pos hok,hrd,est,hst]
    rfl
   | inl s =>
    have hss:=stp_size hz3 hke.1 hst
    obtain⟨R,⟨K2,e⟩,hR⟩:=impl_run hl2 hl3 hz3 hes hn hk P hP m r hm q2 (z + 1) (fun v=>if v=x then some s else F v) (fun j=>if j=z then s else G j) hs2 (fun v hv=>by
      obtain⟨u,t1,t2,t3,t4⟩:=h1 v (List.mem_cons_of_mem _ hv)
      have t5:=hs1 v hv
      have t6:v≠x:=fun e=>hx (e ▸ hv)
      exact⟨u,t1,t2,by omega,by omega⟩) (fun v t1 t2 t3=>by
      rcases List.mem_cons.1 (h2 v t1 (by omega) (by omega))with e|e
      ·omega
      ·exact e) (by omega) (fun v t1 t2=>by
      show(if(v:Int)=x then some s else F (v:Int))=some (if v=z then s else G v)
      by_cases e:v=z
      ·rw [if_pos (by omega),if_pos e]
      ·rw [if_neg (by omega),if_neg e]
       exact hF2 v t1 (by omega)) (fun v=>by
      show(if v=z then s else G v).size≤_
      by_cases e:v=z
      ·rw [if_pos e];exact hss
      ·rw [if_neg e];exact hG v)
    refine⟨R,⟨max K1 K2,fun k hk=>?_⟩,by rw [hq2];exact hR⟩
    have est:=est k (by omega)
    have e:=e k (by omega)
    simp only []at est e
    show vlRun k es l2 l3 (x :: r) F=_
    rw [vl_cons,if_pos hok,hrd,est,hst]
    simp only [Option.bind_some]
    rw [if_pos (by omega)]
    exact e
theorem value_ev (hl2:l2.length≤1048576) (hl3:l3.length≤1048576) (hz3:∀ x∈l3,x.size≤1048576) (hes:EsOk es) (hn:es.length≤60) (hsz:∀ i < es.length,sz es i≤60) (hk:∀ e∈es,e.f1.size≤1048576∧e.f2.length≤1048576) (n:Nat) (hlt:n < es.length) :
  ∃ r,Ev (fun k=>impl_Rule_value.f k es a b c d (n:Int) l2 l3) r∧Ev (fun k=>z11_.f k es a b c d (n:Int) l2 l3) r:=by
 have hk2:∀ e∈es,e.f2.length≤1048576:=fun e he=>(hk e he).2
 obtain⟨xs,⟨K1,e1⟩,hxl,hxs,hxm⟩:=within_ev es a b c d hes hsz hn hk2 (n + 1) n (by omega) hlt
 obtain⟨inn,⟨K2,e2⟩,hb,hI⟩:=in_ev es a b c d hes hn hk2 n hlt
 have hszn:=hsz n hlt
 obtain⟨R,⟨K3,e3⟩,hR⟩:=impl_run es l2 l3 hl2 hl3 hz3 hes hn hk (Re (kd es) n) (fun z x g hx=>Re.down z x g hx) xs.length xs (Nat.le_refl _) (n + 1) 0 (fun _=>none) (fun _=>ByteArray.empty) hxs (fun x hx=>by
   obtain⟨z,g1,g2⟩:=(hxm x).1 hx
   have:=re_le (dn es hes) g2
   exact⟨z,g1,g2,Nat.zero_le _,by omega⟩) (fun z g _ _=>(hxm _).2 ⟨z,rfl,g⟩) (by omega) (fun z _ h=>absurd h (Nat.not_lt_zero z)) (fun _=>Nat.zero_le _)
 have hrl:(List.replicate es.length (⟨#[]⟩:ByteArray)).length=es.length:=List.length_replicate
 obtain⟨K4,e4⟩:=spec_run es a b c d l2 l3 hl2 hl3 hz3 hes hn hk n hlt inn hb (Re (kd es) n) hI (n + 1) 0 (List.replicate es.length (⟨#[]⟩:ByteArray)) (by omega) hrl (fun v hv=>by
  rw [List.eq_of_mem_replicate hv]
  exact Nat.zero_le _)
 have hf:(fun j:Nat=>rdOf ByteArray.empty (List.replicate es.length (⟨#[]⟩:ByteArray)) (j:Int))=fun _=>ByteArray.empty:=by
  funext j
  show(List.replicate es.length (⟨#[]⟩:ByteArray)).getD j ByteArray.empty=ByteArray.empty
  rw [List.getD_eq_getElem?_getD,List.getElem?_replicate]
  split <;> rfl
 rw [hf]at e4
 refine⟨fnl n (rn es l2 l3 (Re (kd es) n) (n + 1) 0 (fun _=>ByteArray.empty)), ?_,⟨max K2 K4,fun k hk=>?_⟩⟩
 rotate_left
 ·have e2:=e2 k (by omega)
  have e4:=e4 k (by omega)
  simp only []at e2 e4
  show z11_.f k es a b c d (n:Int) l2 l3=_
  unfold z11_.f
  rw [e2,Option.bind_some,if_pos (by omega),show((es.length:Int)).toNat=es.length from rfl,if_pos (by omega)]
  exact e4
 ·have base:∀ r,Ev (fun k=>vlFin k (n:Int) R) r→Ev (fun k=>impl_Rule_value.f k es a b c d (n:Int) l2 l3) r:=fun r ⟨K,g⟩=>by
   refine⟨max K (max K1 K3),fun k hk=>?_⟩
   have g:=g k (by omega)
   have e1:=e1 k (by omega)
   have e3:=e3 k (by omega)
   simp only []at g e1 e3
   show impl_Rule_value.f k es a b c d (n:Int) l2 l3=_
   unfold impl_Rule_value.f
   rw [e1,Option.bind_some,if_pos (by omega),e3,Option.bind_some]
   exact g
  refine base _ ?_
  generalize rn es l2 l3 (Re (kd es) n) (n + 1) 0 (fun _=>ByteArray.empty)=T at hR
  cases R with
  | inr x =>
   cases T with
   | inl G=>exact hR.elim
   | inr z =>
    have hR:x=z:=hR
    subst hR
    exact⟨0,fun k _=>rfl⟩
  | inl F =>
   cases T with
   | inr z=>exact hR.elim
   | inl G =>
    obtain⟨g1,g3⟩:=hR
    have g2:=g1 n Re.here (by omega)
    refine⟨4194500,fun k hkk=>?_⟩
    show((impl_kindOf.f k ((F (n:Int)).getD ⟨#[]⟩)).bind fun q=>if q=0 then some (⟨#[]⟩,2)else some ((F (n:Int)).getD ⟨#[]⟩,0))=some (if QPrs.kd (prs (L (G n)))=0 then(⟨#[]⟩,2)else(G n,0))
    rw [g2,Option.getD_some,ikind _ (g3 n) k (by omega),Option.bind_some]
    by_cases g:QPrs.kd (prs (L (G n)))=0
    ·rw [if_pos g,if_pos g]
    ·rw [if_neg g,if_neg g]
end
theorem expValue_ev (es:List IEx) (h:ILt) (bd:List ILt) (hw:FewR es h bd) (n:Int) (l2 l3:List ByteArray) (hl2:l2.length≤1048576) (hl3:l3.length≤1048576) (hz3:∀ x∈l3,x.size≤1048576) :
  ∃ r,Ev (fun k=>impl_ExpValue.f k es h.f0 h.f1 h.f2 bd n l2 l3) r∧Ev (fun k=>spec_ExpValue.f k es h.f0 h.f1 h.f2 bd n l2 l3) r:=by
 have hwl:=hw.1
 obtain⟨r,⟨K1,e1⟩,⟨t,⟨K2,e2⟩,ht⟩,hF⟩:=form_ev es h bd hw
 have hl1:wrap64 ((es.length:Int) - 1)=(es.length:Int) - 1:=wrapS (by omega) (by omega)
 by_cases hr:r=true
 ·by_cases hb:0≤n∧n≤(es.length:Int) - 1
  ·have hf:=hF hr
   have hlt:n.toNat < es.length:=by omega
   have h60:=hf.2.2.1
   have hsz:∀ i < es.length,sz es i≤60:=fun i hi=>sz_le es hf.1 hf.2.2.1 (frm_one es h bd hf) i hi
   obtain⟨v,⟨K3,e3⟩,⟨K4,e4⟩⟩:=value_ev es h.f0 h.f1 h.f2 bd l2 l3 hl2 hl3 hz3 hf.1 h60 hsz hw.2.1 n.toNat hlt
   rw [show((n.toNat:Nat):Int)=n by omega]at e3 e4
   refine⟨v,⟨max K1 K3,fun k hk=>?_⟩,⟨max K2 K4,fun k hk=>?_⟩⟩
   ·have e1:=e1 k (by omega)
    have e3:=e3 k (by omega)
    simp only []at e1 e3
    show impl_ExpValue.f k es h.f0 h.f1 h.f2 bd n l2 l3=_
    unfold impl_ExpValue.f
    rw [e1,Option.bind_some,if_pos hr,in_f,hl1,Option.bind_some,if_pos (decide_eq_true hb),e3,Option.bind_some]
   ·have e2:=e2 k (by omega)
    have e4:=e4 k (by omega)
    simp only []at e2 e4
    show spec_ExpValue.f k es h.f0 h.f1 h.f2 bd n l2 l3=_
    unfold spec_ExpValue.f
    rw [e2,Option.bind_some,if_neg (fun hx=>by have:=ht.1 hx;rw [hr]at this;cases this),between_f,hl1,Option.bind_some,if_pos (decide_eq_true hb),e4,Option.bind_some]
  ·refine⟨(⟨#[]⟩,1),⟨K1,fun k hk=>?_⟩,⟨K2,fun k hk=>?_⟩⟩
   ·have e1:=e1 k (by omega)
    simp only []at e1
    show impl_ExpValue.f k es h.f0 h.f1 h.f2 bd n l2 l3=_
    unfold impl_ExpValue.f
    rw [e1,Option.bind_some,if_pos hr,in_f,hl1,Option.bind_some,if_neg (by rw [decide_eq_true_eq];exact hb)]
   ·have e2:=e2 k (by omega)
    simp only []at e2
    show spec_ExpValue.f k es h.f0 h.f1 h.f2 bd n l2 l3=_
    unfold spec_ExpValue.f
    rw [e2,Option.bind_some,if_neg (fun hx=>by have:=ht.1 hx;rw [hr]at this;cases this),between_f,hl1,Option.bind_some,if_neg (by rw [decide_eq_true_eq];exact hb)]
 ·have hr:r=false:=by simpa using hr
  refine⟨(⟨#[]⟩,1),⟨K1,fun k hk=>?_⟩,⟨K2,fun k hk=>?_⟩⟩
  ·have e1:=e1 k (by omega)
   simp only []at e1
   show impl_ExpValue.f k es h.f0 h.f1 h.f2 bd n l2 l3=_
   unfold impl_ExpValue.f
   rw [e1,Option.bind_some,if_neg (by rw [hr];decide)]
  ·have e2:=e2 k (by omega)
   simp only []at e2
   show spec_ExpValue.f k es h.f0 h.f1 h.f2 bd n l2 l3=_
   unfold spec_ExpValue.f
   rw [e2,Option.bind_some,if_pos (ht.2 hr)]
end Go.Proofs.YtimhlficlhafbaaGreatDoor.QValC
-- Cut by prune.py.
namespace Go.Proofs.YtimhlficlhafbaaGreatDoor.Pure
open RowKit Pv YtimhlficlhafbaaGreatDoorW.PrintWords YtimhlficlhafbaaGreatDoorW.PrintLast QStr QGenR QRule QText QRuleT
open QLaws (szS_l toS_f eqS_f)
open QValC (expValue_ev)
set_option linter.unusedVariables false
set_option linter.unusedSimpArgs false
theorem rm_ex (a:LEx) (h:okT59 a):RmEx a:=⟨by have:=h.2.1;simp only []at this;omega,by have:=h.2.2.2.1;unfold RmN;omega⟩
theorem rm_lt (a:LLt) (h:okT25 a):RmLt a:=⟨by have:=h.2.1;simp only []at this;omega,by have:=h.2.2.2.1;unfold RmN;omega⟩
theorem rm_ru (a:LRu) (h:okT28 a):RmRu a :=
 ⟨⟨by have:=h.1.2.1;omega,fun x hx=>rm_ex x (h.1.2.2 x hx)⟩,rm_lt _ h.2.1,by have:=h.2.2.2.1;omega,fun x hx=>rm_lt x (h.2.2.2.2 x hx)⟩
theorem fewR (a:LRu) (h:FwRu a):FewR (a.f0.map cvEx) (cvLt a.f1) (a.f2.map cvLt):=by
 obtain⟨h1,h2,h3⟩:=h
 refine⟨by rw [List.length_map];exact h1.1,fun e he=>?_,h2,by rw [List.length_map];exact h3.1,fun l hl=>?_⟩
 ·obtain⟨x,hx,rfl⟩:=List.mem_map.1 he
  exact h1.2 x hx
 ·obtain⟨x,hx,rfl⟩:=List.mem_map.1 hl
  exact h3.2 x hx
theorem szS_v (xs:List ByteArray) (hx:xs.length≤281474976710656) (hs:∀ s∈xs,s.size≤281474976710656) (v:Int) (h0:0≤v) (h1:v≤1048576) (k:Nat) (hk:1048577 < k) :
  ∃ r,laws_szStringS.f k xs v=some r∧r≤v∧(0≤r→xs.length≤1048576∧∀ s∈xs,s.size≤1048576):=by
 unfold laws_szStringS.f
 rw [wrapS (by omega) (by omega)]
 by_cases hv:v - (xs.length:Int) < 0
 ·rw [if_pos hv]
  exact⟨_,rfl,by omega,fun h=>by omega⟩
 ·rw [if_neg hv]
  obtain⟨r,hr,hr1,hr2⟩:=szS_l xs hx hs xs.length 0 k (v - (xs.length:Int)) (by omega) (by omega) (by omega) (by omega)
  refine⟨r,hr,by omega,fun h=>⟨by omega,fun s hs=>?_⟩⟩
  have:=hr2 h s (by rw [List.drop_zero];exact hs)
  omega
theorem FnExactExpValue:laws_FnExactExpValue.Pure:=by
 intro a n l2 l3 ha _ hb2 hb3
 have hR:=rm_ru a ha
 have z2:∀ s∈l2,s.size≤281474976710656:=fun s hs=>by have:s.size≤140737488351232:=hb2.2.2 s hs;omega
 have z3:∀ s∈l3,s.size≤281474976710656:=fun s hs=>by have:s.size≤140737488351232:=hb3.2.2 s hs;omega
 have y2_:=hb2.2.1
 have y3_:=hb3.2.1
 obtain⟨z,hz,hz1,hz2⟩:=szRu_f a 1048576 4000000 hR (by omega) (by omega) (by omega)
 by_cases hneg:z < 0
 ·refine⟨4000000, ?_⟩
  unfold laws_FnExactExpValue.f
  rw [hz,Option.bind_some,if_pos hneg]
 obtain⟨u,hu,hu1,hu2⟩:=szS_v l2 (by omega) z2 z (by omega) hz1 4000000 (by omega)
 by_cases hneg2:u < 0
 ·refine⟨4000000, ?_⟩
  unfold laws_FnExactExpValue.f
  rw [hz,Option.bind_some,if_neg hneg,hu,Option.bind_some,if_pos hneg2]
 obtain⟨v,hv,hv1,hv2⟩:=szS_v l3 (by omega) z3 u (by omega) (by omega) 4000000 (by omega)
 by_cases hneg3:v < 0
 ·refine⟨4000000, ?_⟩
  unfold laws_FnExactExpValue.f
  rw [hz,Option.bind_some,if_neg hneg,hu,Option.bind_some,if_neg hneg2,hv,Option.bind_some,if_pos hneg3]
 have hF:=hz2 (by omega)
 have hw:=fewR a hF
 have b2:=hu2 (by omega)
 have b3:=hv2 (by omega)
 obtain⟨r,⟨K1,g1⟩,⟨K2,g2⟩⟩:=expValue_ev _ _ _ hw n l2 l3 b2.1 b3.1 b3.2
 refine⟨max 4000000 (max K1 K2) + 1, ?_⟩
 generalize hk:max 4000000 (max K1 K2)=k
 obtain⟨z',hz',hz1',hz2'⟩:=szRu_f a 1048576 (k + 1) hR (by omega) (by omega) (by omega)
 have e1:=g1 (k + 1) (by omega)
 have e2:=g2 (k + 1) (by omega)
 simp only []at e1 e2
 unfold laws_FnExactExpValue.f
 rw [hz',Option.bind_some]
 by_cases hneg':z' < 0
 ·rw [if_pos hneg']
 obtain⟨u',hu',hu1',hu2'⟩:=szS_v l2 (by omega) z2 z' (by omega) hz1' (k + 1) (by omega)
 rw [if_neg hneg',hu',Option.bind_some]
 by_cases hneg2':u' < 0
 ·rw [if_pos hneg2']
 obtain⟨v',hv',hv1',hv2'⟩:=szS_v l3 (by omega) z3 u' (by omega) (by omega) (k + 1) (by omega)
 rw [if_neg hneg2',hv',Option.bind_some]
 by_cases hneg3':v' < 0
 ·rw [if_pos hneg3']
 rw [if_neg hneg3',toRu_f a (k + 1) hF (by omega),Option.bind_some,toS_f l2 (by omega) (k + 1) (by omega),Option.bind_some,toS_f l3 (by omega) (k + 1) (by omega),Option.bind_some]
 show((spec_ExpValue.f (k + 1) (a.f0.map cvEx) (cvLt a.f1).f0 (cvLt a.f1).f1 (cvLt a.f1).f2 (a.f2.map cvLt) n l2 l3).bind _)=_
 rw [e2,Option.bind_some,Option.bind_some,Option.bind_some,Option.bind_some]
 show((impl_ExpValue.f (k + 1) (a.f0.map cvEx) (cvLt a.f1).f0 (cvLt a.f1).f1 (cvLt a.f1).f2 (a.f2.map cvLt) n l2 l3).bind _)=_
 rw [e1,Option.bind_some,if_pos rfl,bne_self_eq_false]
 rw [laws_FnExactExpValue.j0,if_neg (by decide),toRu_f a k hF (by omega),Option.bind_some]
 show((laws_eqRule.f k (a.f0.map cvEx) (cvLt a.f1).f0 (cvLt a.f1).f1 (cvLt a.f1).f2 (a.f2.map cvLt) (a.f0.map cvEx) (cvLt a.f1).f0 (cvLt a.f1).f1 (cvLt a.f1).f2 (a.f2.map cvLt)).bind _)=_
 rw [eqRu_f _ _ _ k (QGenR.few_map fi_ex hF.1) (fi_lt _ hF.2.1) (QGenR.few_map fi_lt hF.2.2) (by omega),Option.bind_some,if_pos rfl,toS_f l2 (by omega) k (by omega),Option.bind_some,eqS_f l2 (by omega) k (by omega),Option.bind_some,if_pos rfl,toS_f l3 (by omega) k (by omega),Option.bind_some,eqS_f l3 (by omega) k (by omega),Option.bind_some,if_pos rfl]
end Go.Proofs.YtimhlficlhafbaaGreatDoor.Pure
