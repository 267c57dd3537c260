-- Cut by prune.py.
import Derived.Test.YtimhlficlhafbaaGreatDoorVvlQStr
namespace Go.Proofs.YtimhlficlhafbaaGreatDoor.QGenR
open RowKit YtimhlficlhafbaaGreatDoorW.PrintWords YtimhlficlhafbaaGreatDoorW.PrintLast QStr
theorem rdOf_get (xs:List ByteArray) (i:Nat) (h:i < xs.length):rdOf ByteArray.empty xs (i:Int)=xs[i]:=by
 unfold rdOf
 rw [show((i:Int)).toNat=i from rfl,List.getD_eq_getElem?_getD,List.getElem?_eq_getElem h]
 rfl
theorem step_i {i:Nat} (h:i≤281474976710656):wrap64 ((i:Int) + 1)=((i + 1:Nat):Int):=by
 rw [wrapS (by omega) (by omega)]
 omega
theorem gsz_l {α:Type} (l0:Nat→List α→Int→Int→Option Int) (szE:Nat→α→Int→Option Int) (rdA:List α→Int→α)
  (h0:∀ k xs v i,l0 (k + 1) xs v i=if i < (xs.length:Int)then(if 0≤i then((szE k (rdA xs i) v).bind fun t=>(if t < 0 then(some (-1))else(l0 k xs t (wrap64 (i + 1)))))else(none))else(some v))
  (hrd:∀(xs:List α) (i:Nat) (h:i < xs.length),rdA xs (i:Int)=xs[i]) (Rm Fw:α→Prop) (K:Nat)
  (hsz:∀ a v k,Rm a→0≤v→v≤1048576→K < k→∃ r,szE k a v=some r∧r≤v∧(0≤r→Fw a))
  (xs:List α) (hx:xs.length≤281474976710656) (hr:∀ a∈xs,Rm a):∀(d i k:Nat) (v:Int),i + d=xs.length→d + K < k→0≤v→v≤1048576 →
  ∃ r,l0 k xs v (i:Int)=some r∧r≤v∧(0≤r→∀ a∈xs.drop i,Fw a)
 | 0,i,k,v,hd,hk,g0,g1=>by
  obtain⟨k,rfl⟩:∃ m,k=m + 1:=⟨k - 1,by omega⟩
  refine⟨v,by rw [h0,if_neg (by omega)],Int.le_refl _,fun _ s hs=>?_⟩
  rw [List.drop_of_length_le (by omega)]at hs
  cases hs
 | d + 1,i,k,v,hd,hk,g0,g1=>by
  obtain⟨k,rfl⟩:∃ m,k=m + 1:=⟨k - 1,by omega⟩
  have hlt:i < xs.length:=by omega
  obtain⟨r,hr0,hr1,hr2⟩:=hsz xs[i] v k (hr _ (List.getElem_mem hlt)) g0 g1 (by omega)
  rw [h0,if_pos (by omega),if_pos (by omega),hrd xs i hlt,hr0,Option.bind_some]
  by_cases h:r < 0
  ·rw [if_pos h]
   exact⟨_,rfl,by omega,fun h=>by omega⟩
  ·rw [if_neg h,step_i (by omega)]
   obtain⟨q,hq,hq1,hq2⟩:=gsz_l l0 szE rdA h0 hrd Rm Fw K hsz xs hx hr d (i + 1) k r (by omega) (by omega) (by omega) (by omega)
   refine⟨q,hq,by omega,fun h0 a ha=>?_⟩
   rw [List.drop_eq_getElem_cons hlt]at ha
   rcases List.mem_cons.1 ha with rfl|ha
   ·exact hr2 (by omega)
   ·exact hq2 h0 a ha
def FewL {α:Type} (Fw:α→Prop) (xs:List α):Prop:=xs.length≤1048576∧∀ a∈xs,Fw a
def RoomL {α:Type} (Rm:α→Prop) (xs:List α):Prop:=xs.length≤281474976710656∧∀ a∈xs,Rm a
theorem gsz {α:Type} (l0:Nat→List α→Int→Int→Option Int) (szE:Nat→α→Int→Option Int) (rdA:List α→Int→α) (f:Nat→List α→Int→Option Int)
  (hf:∀ k xs v,f k xs v=if(wrap64 (v - (xs.length:Int))) < 0 then(some (-1))else(l0 k xs (wrap64 (v - (xs.length:Int))) 0))
  (h0:∀ k xs v i,l0 (k + 1) xs v i=if i < (xs.length:Int)then(if 0≤i then((szE k (rdA xs i) v).bind fun t=>(if t < 0 then(some (-1))else(l0 k xs t (wrap64 (i + 1)))))else(none))else(some v))
  (hrd:∀(xs:List α) (i:Nat) (h:i < xs.length),rdA xs (i:Int)=xs[i]) (Rm Fw:α→Prop) (K:Nat)
  (hsz:∀ a v k,Rm a→0≤v→v≤1048576→K < k→∃ r,szE k a v=some r∧r≤v∧(0≤r→Fw a))
  (xs:List α) (hx:RoomL Rm xs) (v:Int) (g0:0≤v) (g1:v≤1048576) (k:Nat) (hk:1048577 + K < k):∃ r,f k xs v=some r∧r≤v∧(0≤r→FewL Fw xs):=by
 obtain⟨hx1,hx2⟩:=hx
 rw [hf,wrapS (by omega) (by omega)]
 by_cases h:v - (xs.length:Int) < 0
 ·rw [if_pos h]
  exact⟨_,rfl,by omega,fun h=>by omega⟩
 ·rw [if_neg h]
  obtain⟨r,hr,hr1,hr2⟩:=gsz_l l0 szE rdA h0 hrd Rm Fw K hsz xs hx1 hx2 xs.length 0 k (v - (xs.length:Int)) (by omega) (by omega) (by omega) (by omega)
  rw [show(0:Int)=((0:Nat):Int)from rfl,hr]
  exact⟨_,rfl,by omega,fun h0=>⟨by omega,fun a ha=>hr2 h0 a (by simpa using ha)⟩⟩
theorem gset {α β:Type} (cv:α→β) (xs:List α) (i:Nat) (h:i < xs.length) (m:Nat) (z:β):((xs.take i).map cv ++ List.replicate (m + 1) z).set i (cv xs[i])=(xs.take (i + 1)).map cv ++ List.replicate m z:=by
 have hl:((xs.take i).map cv).length=i:=by rw [List.length_map,List.length_take];omega
 rw [List.set_append_right _ _ (by omega),hl,Nat.sub_self,List.replicate_succ,List.set_cons_zero,List.take_succ_eq_append_getElem h,List.map_append,List.append_assoc]
 rfl
theorem gto {α β γ:Type} (l0:Nat→List α→List β→Int→Option (List β)) (toE:Nat→α→Option γ) (rdA:List α→Int→α) (mk:γ→β)
  (h0:∀ k xs out i,l0 (k + 1) xs out i=if i < (xs.length:Int)then(if 0≤i then((toE k (rdA xs i)).bind fun bt=>(if i < (out.length:Int)then(l0 k xs (out.set (i:Int).toNat (mk bt)) (wrap64 (i + 1)))else(none)))else(none))else(some out))
  (hrd:∀(xs:List α) (i:Nat) (h:i < xs.length),rdA xs (i:Int)=xs[i]) (Fw:α→Prop) (cv:α→β) (K:Nat)
  (hto:∀ a k,Fw a→K < k→∃ g,toE k a=some g∧mk g=cv a) (xs:List α) (hx:FewL Fw xs) (z:β):∀(d i k:Nat),i + d=xs.length→d + K < k→l0 k xs ((xs.take i).map cv ++ List.replicate d z) (i:Int)=some (xs.map cv)
 | 0,i,k,hd,hk=>by
  obtain⟨k,rfl⟩:∃ m,k=m + 1:=⟨k - 1,by omega⟩
  rw [h0,if_neg (by omega),List.replicate_zero,List.append_nil,List.take_of_length_le (by omega)]
 | d + 1,i,k,hd,hk=>by
  obtain⟨k,rfl⟩:∃ m,k=m + 1:=⟨k - 1,by omega⟩
  have hlt:i < xs.length:=by omega
  have hx1:=hx.1
  obtain⟨g,hg,hg2⟩:=hto xs[i] k (hx.2 _ (List.getElem_mem hlt)) (by omega)
  rw [h0,if_pos (by omega),if_pos (by omega),hrd xs i hlt,hg,Option.bind_some,if_pos (by simp only [List.length_append,List.length_map,List.length_take,List.length_replicate];omega),show((i:Int)).toNat=i from rfl,
   hg2,gset cv xs i hlt d z,step_i (by omega),gto l0 toE rdA mk h0 hrd Fw cv K hto xs hx z d (i + 1) k (by omega) (by omega)]
theorem gto0 {α β γ:Type} (l0:Nat→List α→List β→Int→Option (List β)) (toE:Nat→α→Option γ) (rdA:List α→Int→α) (mk:γ→β)
  (h0:∀ k xs out i,l0 (k + 1) xs out i=if i < (xs.length:Int)then(if 0≤i then((toE k (rdA xs i)).bind fun bt=>(if i < (out.length:Int)then(l0 k xs (out.set (i:Int).toNat (mk bt)) (wrap64 (i + 1)))else(none)))else(none))else(some out))
  (hrd:∀(xs:List α) (i:Nat) (h:i < xs.length),rdA xs (i:Int)=xs[i]) (Fw:α→Prop) (cv:α→β) (K:Nat)
  (hto:∀ a k,Fw a→K < k→∃ g,toE k a=some g∧mk g=cv a) (xs:List α) (hx:FewL Fw xs) (z:β) (k:Nat) (hk:1048577 + K < k):l0 k xs (List.replicate xs.length z) 0=some (xs.map cv):=by
 have hx1:=hx.1
 have:=gto l0 toE rdA mk h0 hrd Fw cv K hto xs hx z xs.length 0 k (by omega) (by omega)
 rwa [List.take_zero,List.map_nil,List.nil_append]at this
theorem geq {β:Type} (l0:Nat→List β→List β→Int→Option Bool) (eqE:Nat→β→β→Option Bool) (rdB:List β→Int→β)
  (h0:∀ k xs ys i,l0 (k + 1) xs ys i=if i < (xs.length:Int)then(if 0≤i then(if i < (ys.length:Int)then((eqE k (rdB xs i) (rdB ys i)).bind fun t=>(if t=true then(l0 k xs ys (wrap64 (i + 1)))else(some false)))else(none))else(none))else(some true))
  (hrd:∀(xs:List β) (i:Nat) (h:i < xs.length),rdB xs (i:Int)=xs[i]) (Fw:β→Prop) (K:Nat)
  (heq:∀ b k,Fw b→K < k→eqE k b b=some true) (xs:List β) (hx:FewL Fw xs):∀(d i k:Nat),i + d=xs.length→d + K < k→l0 k xs xs (i:Int)=some true
 | 0,i,k,hd,hk=>by
  obtain⟨k,rfl⟩:∃ m,k=m + 1:=⟨k - 1,by omega⟩
  rw [h0,if_neg (by omega)]
 | d + 1,i,k,hd,hk=>by
  obtain⟨k,rfl⟩:∃ m,k=m + 1:=⟨k - 1,by omega⟩
  have hlt:i < xs.length:=by omega
  have hx1:=hx.1
  rw [h0,if_pos (by omega),if_pos (by omega),if_pos (by omega),hrd xs i hlt,heq _ k (hx.2 _ (List.getElem_mem hlt)) (by omega),Option.bind_some,if_pos rfl,step_i (by omega),geq l0 eqE rdB h0 hrd Fw K heq xs hx d (i + 1) k (by omega) (by omega)]
theorem geq0 {β:Type} (l0:Nat→List β→List β→Int→Option Bool) (eqE:Nat→β→β→Option Bool) (rdB:List β→Int→β)
  (h0:∀ k xs ys i,l0 (k + 1) xs ys i=if i < (xs.length:Int)then(if 0≤i then(if i < (ys.length:Int)then((eqE k (rdB xs i) (rdB ys i)).bind fun t=>(if t=true then(l0 k xs ys (wrap64 (i + 1)))else(some false)))else(none))else(none))else(some true))
  (hrd:∀(xs:List β) (i:Nat) (h:i < xs.length),rdB xs (i:Int)=xs[i]) (Fw:β→Prop) (K:Nat)
  (heq:∀ b k,Fw b→K < k→eqE k b b=some true) (xs:List β) (hx:FewL Fw xs) (k:Nat) (hk:1048577 + K < k):l0 k xs xs 0=some true:=by
 have hx1:=hx.1
 exact geq l0 eqE rdB h0 hrd Fw K heq xs hx xs.length 0 k (by omega) (by omega)
theorem few_map {α β:Type} {P:α→Prop} {Q:β→Prop} {cv:α→β} (h:∀ a,P a→Q (cv a)) {xs:List α} (hx:FewL P xs):FewL Q (xs.map cv):=by
 refine⟨by rw [List.length_map];exact hx.1,fun b hb=>?_⟩
 obtain⟨a,ha,rfl⟩:=List.mem_map.1 hb
 exact h a (hx.2 a ha)
end Go.Proofs.YtimhlficlhafbaaGreatDoor.QGenR
