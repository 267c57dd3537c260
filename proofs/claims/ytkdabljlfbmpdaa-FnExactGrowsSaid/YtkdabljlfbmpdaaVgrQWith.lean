-- Cut by prune.py.
import Derived.Test.YtkdabljlfbmpdaaVgrQText
namespace Go.Proofs.Ytkdabljlfbmpdaa.QWith
def Dn (ks:Nat→List Int):Prop:=∀ j,∀ k∈ks j,0≤k∧k < (j:Int)
inductive Re (ks:Nat→List Int) (n:Nat):Nat→Prop
 | here:Re ks n n
 | down (j:Nat) (k:Int):Re ks n j→k∈ks j→Re ks n k.toNat
theorem re_trans {ks:Nat→List Int} {n m x:Nat} (h:Re ks n m) (g:Re ks m x):Re ks n x:=by
 induction g with
 | here=>exact h
 | down j k _ hk ih=>exact Re.down j k ih hk
theorem re_kid {ks:Nat→List Int} {n:Nat} {k:Int} {x:Nat} (hk:k∈ks n) (g:Re ks k.toNat x):Re ks n x:=re_trans (Re.down n k Re.here hk) g
theorem re_top {ks:Nat→List Int} {n x:Nat} (g:Re ks n x):x=n∨∃ k∈ks n,Re ks k.toNat x:=by
 induction g with
 | here=>exact .inl rfl
 | down j k _ hk ih =>
  rcases ih with rfl|⟨k',hk',g'⟩
  ·exact .inr ⟨k,hk,Re.here⟩
  ·exact .inr ⟨k',hk',Re.down j k g' hk⟩
theorem re_le {ks:Nat→List Int} (hd:Dn ks) {n x:Nat} (g:Re ks n x):x≤n:=by
 induction g with
 | here=>exact Nat.le_refl _
 | down j k _ hk ih =>
  have:=hd j k hk
  omega
theorem re_end {ks:Nat→List Int} {n x:Nat} (g:Re ks n x):x=n∨∃ j,∃ k∈ks j,Re ks n j∧k.toNat=x:=by
 cases g with
 | here=>exact .inl rfl
 | down j k h hk=>exact .inr ⟨j,k,hk,h,rfl⟩
def Mk (b:List Bool) (x:Nat):Prop:=b.getD x false=true
theorem mk_set (b:List Bool) (i x:Nat) (hi:i < b.length):Mk (b.set i true) x↔Mk b x∨x=i:=by
 unfold Mk
 rw [List.getD_eq_getElem?_getD,List.getElem?_set,List.getD_eq_getElem?_getD]
 by_cases h:i=x
 ·subst h
  simp [hi]
 ·rw [if_neg h]
  constructor
  ·exact .inl
  ·rintro(h2|h2)
   ·exact h2
   ·exact absurd h2.symm h
def Inv (ks:Nat→List Int) (n i:Nat) (b:List Bool):Prop:=∀ x,Mk b x↔x=n∨∃ j,i≤j∧∃ k∈ks j,Re ks n j∧k.toNat=x
theorem inv_all {ks:Nat→List Int} {n:Nat} {b:List Bool} (h:Inv ks n 0 b) (x:Nat):Mk b x↔Re ks n x:=by
 rw [h x]
 constructor
 ·rintro(rfl|⟨j,_,k,hk,hr,rfl⟩)
  ·exact Re.here
  ·exact Re.down j k hr hk
 ·intro g
  rcases re_end g with h|⟨j,k,hk,hr,rfl⟩
  ·exact .inl h
  ·exact .inr ⟨j,Nat.zero_le _,k,hk,hr,rfl⟩
theorem inv_at {ks:Nat→List Int} (hd:Dn ks) {n i:Nat} {b:List Bool} (h:Inv ks n (i + 1) b):Mk b i↔Re ks n i:=by
 rw [h i]
 constructor
 ·rintro(rfl|⟨j,_,k,hk,hr,rfl⟩)
  ·exact Re.here
  ·exact Re.down j k hr hk
 ·intro g
  rcases re_end g with h|⟨j,k,hk,hr,rfl⟩
  ·exact .inl h
  ·refine .inr ⟨j, ?_,k,hk,hr,rfl⟩
   have:=hd j k hk
   omega
theorem inv_start {ks:Nat→List Int} (hd:Dn ks) (n:Nat) (b:List Bool) (hb:∀ x,Mk b x↔x=n):Inv ks n (n + 1) b:=by
 intro x
 rw [hb x]
 constructor
 ·exact .inl
 ·rintro(h|⟨j,hj,k,hk,hr,rfl⟩)
  ·exact h
  ·have:=re_le hd hr
   omega
theorem inv_no {ks:Nat→List Int} (hd:Dn ks) {n i:Nat} {b:List Bool} (h:Inv ks n (i + 1) b) (hi:¬ Mk b i):Inv ks n i b:=by
 intro x
 rw [h x]
 constructor
 ·rintro(h2|⟨j,hj,hk⟩)
  ·exact .inl h2
  ·exact .inr ⟨j,by omega,hk⟩
 ·rintro(h2|⟨j,hj,k,hk,hr,hx⟩)
  ·exact .inl h2
  ·refine .inr ⟨j, ?_,k,hk,hr,hx⟩
   have:j≠i:=fun e=>hi ((inv_at hd h).2 (e ▸ hr))
   omega
theorem inv_yes {ks:Nat→List Int} (hd:Dn ks) {n i:Nat} {b b':List Bool} (h:Inv ks n (i + 1) b) (hi:Mk b i) (hb:∀ x,Mk b' x↔Mk b x∨∃ k∈ks i,k.toNat=x):Inv ks n i b':=by
 intro x
 rw [hb x,h x]
 constructor
 ·rintro((h2|⟨j,hj,hk⟩)|⟨k,hk,hx⟩)
  ·exact .inl h2
  ·exact .inr ⟨j,by omega,hk⟩
  ·exact .inr ⟨i,Nat.le_refl _,k,hk,(inv_at hd h).1 hi,hx⟩
 ·rintro(h2|⟨j,hj,k,hk,hr,hx⟩)
  ·exact .inl (.inl h2)
  ·by_cases e:j=i
   ·subst e
    exact .inr ⟨k,hk,hx⟩
   ·exact .inl (.inr ⟨j,by omega,k,hk,hr,hx⟩)
open Classical in
noncomputable def nam (var:Nat→Bool) (txt:Nat→ByteArray) (out:List ByteArray) (x:Nat):List ByteArray:=if var x=true∧txt x∉out then out ++ [txt x]else out
theorem nam_in {var:Nat→Bool} {txt:Nat→ByteArray} {out:List ByteArray} {x:Nat} (h:var x=true):txt x∈nam var txt out x:=by
 unfold nam
 by_cases h2:txt x∈out
 ·rw [if_neg (fun h3=>h3.2 h2)]
  exact h2
 ·rw [if_pos ⟨h,h2⟩]
  exact List.mem_append_right _ (List.mem_singleton.2 rfl)
theorem nam_nam (var:Nat→Bool) (txt:Nat→ByteArray) (out:List ByteArray) (x:Nat):nam var txt (nam var txt out x) x=nam var txt out x:=by
 by_cases h:var x=true
 ·exact if_neg (fun h3=>h3.2 (nam_in h))
 ·unfold nam
  rw [if_neg (fun h3=>h h3.1),if_neg (fun h3=>h h3.1)]
theorem nam_len (var:Nat→Bool) (txt:Nat→ByteArray) (out:List ByteArray) (x:Nat):(nam var txt out x).length≤out.length + 1:=by
 unfold nam
 split
 ·rw [List.length_append]
  exact Nat.le_refl _
 ·omega
theorem fold_at (f:List ByteArray→Nat→List ByteArray) (hf:∀ o x,f (f o x) x=f o x) (a:Nat):∀(xs:List Nat) (out:List ByteArray),xs.Pairwise (·≤·)→(∀ x∈xs,a≤x)→xs.foldl f out=(xs.filter (fun x=>decide (x≠a))).foldl f (if a∈xs then f out a else out)
 | [],out,_,_=>by
  rw [if_neg (List.not_mem_nil)]
  rfl
 | y :: r,out,hs,hx=>by
  obtain⟨s1,s2⟩:=List.pairwise_cons.1 hs
  by_cases e:y=a
  ·subst e
   have ih:=fold_at f hf y r (f out y) s2 (fun x h=>hx x (List.mem_cons_of_mem _ h))
   rw [if_pos List.mem_cons_self,List.foldl_cons,ih,List.filter_cons_of_neg (by simp)]
   by_cases h:y∈r
   ·rw [if_pos h,hf]
   ·rw [if_neg h]
  ·have hy:=hx y List.mem_cons_self
   have hall:∀ x∈y :: r,x≠a:=fun x h=>by
    rcases List.mem_cons.1 h with rfl|h
    ·exact e
    ·have:=s1 x h
     omega
   rw [if_neg (fun h=>hall a h rfl),List.filter_eq_self.2 (fun x h=>by simpa using hall x h)]
open Classical in
noncomputable def upw (f:List ByteArray→Nat→List ByteArray) (P:Nat→Prop):Nat→Nat→List ByteArray→List ByteArray
 | 0,_,out=>out
 | d + 1,a,out=>upw f P d (a + 1) (if P a then f out a else out)
open Classical in
theorem fold_up (f:List ByteArray→Nat→List ByteArray) (hf:∀ o x,f (f o x) x=f o x) (P:Nat→Prop):∀(d a:Nat) (xs:List Nat) (out:List ByteArray),xs.Pairwise (·≤·)→(∀ x,x∈xs↔P x∧a≤x)→(∀ x∈xs,x < a + d)→xs.foldl f out=upw f P d a out
 | 0,a,[],out,_,_,_=>rfl
 | 0,a,y :: r,out,_,h,g=>by
  have h1:=(h y).1 List.mem_cons_self
  have h2:=g y List.mem_cons_self
  omega
 | d + 1,a,xs,out,hs,h,g=>by
  rw [fold_at f hf a xs out hs (fun x hx=>((h x).1 hx).2)]
  have e:(if a∈xs then f out a else out)=(if P a then f out a else out):=by
   by_cases hp:P a
   ·rw [if_pos hp,if_pos ((h a).2 ⟨hp,Nat.le_refl _⟩)]
   ·rw [if_neg hp,if_neg (fun hx=>hp ((h a).1 hx).1)]
  rw [e]
  refine fold_up f hf P d (a + 1) _ _ (hs.filter _) (fun x=>?_) (fun x hx=>?_)
  ·rw [List.mem_filter,h x]
   simp only [ne_eq,decide_not,Bool.not_eq_eq_eq_not,Bool.not_true,decide_eq_false_iff_not]
   constructor
   ·rintro⟨⟨h1,h2⟩,h3⟩
    exact⟨h1,by omega⟩
   ·rintro⟨h1,h2⟩
    exact⟨⟨h1,by omega⟩,by omega⟩
  ·have:=g x (List.mem_filter.1 hx).1
   omega
end Go.Proofs.Ytkdabljlfbmpdaa.QWith
