-- Cut by prune.py.
import Derived.Test.YtimhlficlhafbaaGreatDoorVvlQStr
import Derived.Test.YtimhlficlhafbaaGreatDoorVvlPvx25
namespace Go.Proofs.YtimhlficlhafbaaGreatDoor.QLaws
open RowKit Pv YtimhlficlhafbaaGreatDoorW.PrintWords YtimhlficlhafbaaGreatDoorW.PrintLast QStr
theorem rdOf_get (xs:List ByteArray) (i:Nat) (h:i < xs.length):rdOf ByteArray.empty xs (i:Int)=xs[i]:=by
 unfold rdOf
 rw [show((i:Int)).toNat=i from rfl,List.getD_eq_getElem?_getD,List.getElem?_eq_getElem h]
 rfl
theorem step_i {i:Nat} (h:i≤281474976710656):wrap64 ((i:Int) + 1)=((i + 1:Nat):Int):=by
 rw [wrapS (by omega) (by omega)]
 omega
theorem eqS_l (xs:List ByteArray) (hx:xs.length≤281474976710656):∀(d i k:Nat),i≤xs.length→xs.length - i=d→d < k→laws_eqStringS.l0 k xs xs (i:Int)=some true
 | 0,i,k,hi,hd,hk=>by
  obtain⟨k,rfl⟩:∃ m,k=m + 1:=⟨k - 1,by omega⟩
  rw [laws_eqStringS.l0,if_neg (by omega)]
 | d + 1,i,k,hi,hd,hk=>by
  obtain⟨k,rfl⟩:∃ m,k=m + 1:=⟨k - 1,by omega⟩
  rw [laws_eqStringS.l0,if_pos (by omega),if_pos (by omega),if_pos (by omega),if_pos rfl,step_i (by omega),eqS_l xs hx d (i + 1) k (by omega) (by omega) (by omega)]
theorem eqS_f (xs:List ByteArray) (hx:xs.length≤281474976710656) (k:Nat) (hk:xs.length < k):laws_eqStringS.f k xs xs=some true:=by
 unfold laws_eqStringS.f
 rw [if_pos rfl]
 exact eqS_l xs hx xs.length 0 k (by omega) (by omega) hk
theorem set_at (xs:List ByteArray) (i:Nat) (h:i < xs.length) (m:Nat):(xs.take i ++ List.replicate (m + 1) (⟨#[]⟩:ByteArray)).set i xs[i]=xs.take (i + 1) ++ List.replicate m (⟨#[]⟩:ByteArray):=by
 rw [List.set_append_right _ _ (by rw [List.length_take];omega),List.length_take,Nat.min_eq_left (by omega),Nat.sub_self,List.replicate_succ,List.set_cons_zero,List.take_succ_eq_append_getElem h,List.append_assoc,List.singleton_append]
theorem toS_l (xs:List ByteArray) (hx:xs.length≤281474976710656):∀(d i k:Nat),i + d=xs.length→d < k→laws_toStringS.l0 k xs (xs.take i ++ List.replicate d (⟨#[]⟩:ByteArray)) (i:Int)=some xs
 | 0,i,k,hd,hk=>by
  obtain⟨k,rfl⟩:∃ m,k=m + 1:=⟨k - 1,by omega⟩
  rw [laws_toStringS.l0,if_neg (by omega),List.replicate_zero,List.append_nil,List.take_of_length_le (by omega)]
 | d + 1,i,k,hd,hk=>by
  obtain⟨k,rfl⟩:∃ m,k=m + 1:=⟨k - 1,by omega⟩
  have hlt:i < xs.length:=by omega
  rw [laws_toStringS.l0,if_pos (by omega),if_pos (by omega),if_pos (by simp only [List.length_append,List.length_take,List.length_replicate];omega),rdOf_get xs i hlt,show((i:Int)).toNat=i from rfl,set_at xs i hlt d,step_i (by omega),toS_l xs hx d (i + 1) k (by omega) (by omega)]
theorem toS_f (xs:List ByteArray) (hx:xs.length≤17592186044416) (k:Nat) (hk:xs.length < k):laws_toStringS.f k xs=some xs:=by
 unfold laws_toStringS.f
 rw [if_pos (by omega),if_pos (by omega)]
 have:=toS_l xs (by omega) xs.length 0 k (by omega) hk
 simpa using this
theorem szS_l (xs:List ByteArray) (hx:xs.length≤281474976710656) (hs:∀ s∈xs,s.size≤281474976710656):∀(d i k:Nat) (v:Int),i + d=xs.length→d < k→0≤v→v≤1048576 →
  ∃ r,laws_szStringS.l0 k xs v (i:Int)=some r∧r≤v∧(0≤r→∀ s∈xs.drop i,(s.size:Int)≤v)
 | 0,i,k,v,hd,hk,h0,h1=>by
  obtain⟨k,rfl⟩:∃ m,k=m + 1:=⟨k - 1,by omega⟩
  refine⟨v,by rw [laws_szStringS.l0,if_neg (by omega)],Int.le_refl _,fun _ s hs=>?_⟩
  rw [List.drop_of_length_le (by omega)]at hs
  cases hs
 | d + 1,i,k,v,hd,hk,h0,h1=>by
  obtain⟨k,rfl⟩:∃ m,k=m + 1:=⟨k - 1,by omega⟩
  have hlt:i < xs.length:=by omega
  have hsz:=hs _ (List.getElem_mem hlt)
  rw [laws_szStringS.l0,if_pos (by omega),if_pos (by omega),rdOf_get xs i hlt,wrapS (n:=v - (xs[i].size:Int)) (by omega) (by omega),step_i (by omega)]
  by_cases hv:v - (xs[i].size:Int) < 0
  ·rw [if_pos hv]
   exact⟨_,rfl,by omega,fun h=>by omega⟩
  ·rw [if_neg hv]
   obtain⟨r,hr,hr1,hr2⟩:=szS_l xs hx hs d (i + 1) k (v - (xs[i].size:Int)) (by omega) (by omega) (by omega) (by omega)
   refine⟨r,hr,by omega,fun h0 s hm=>?_⟩
   rw [List.drop_eq_getElem_cons hlt]at hm
   rcases List.mem_cons.1 hm with rfl|hm
   ·omega
   ·have:=hr2 h0 s hm
    omega
end Go.Proofs.YtimhlficlhafbaaGreatDoor.QLaws
