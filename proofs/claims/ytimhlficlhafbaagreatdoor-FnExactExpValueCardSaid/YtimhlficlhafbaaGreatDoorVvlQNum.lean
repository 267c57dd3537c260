-- Cut by prune.py.
import Derived.Test.YtimhlficlhafbaaGreatDoorVvlPvx18
import Derived.OpenShut
namespace Go.Proofs.YtimhlficlhafbaaGreatDoor.QNum
open RowKit Pv YtimhlficlhafbaaGreatDoorW.PrintWords YtimhlficlhafbaaGreatDoorW.PrintLast
def dgs (u:Nat):List Int:=(Lib.decDigits u).map fun b=>(b.toNat:Int)
theorem ofNat_toNat {n:Nat} (h:n < 256):(UInt8.ofNat n).toNat=n:=by simp;omega
theorem dgs_small {u:Nat} (h:u < 10):dgs u=[48 + (u:Int)]:=by
 rw [dgs,Lib.decDigits,dif_pos h]
 simp only [List.map_cons,List.map_nil]
 rw [ofNat_toNat (by omega)]
 simp
theorem dgs_big {u:Nat} (h:¬ u < 10):dgs u=dgs (u / 10) ++ [48 + ((u % 10:Nat):Int)]:=by
 rw [dgs,Lib.decDigits,dif_neg h,List.map_append]
 simp only [List.map_cons,List.map_nil]
 rw [ofNat_toNat (by omega)]
 simp [dgs]
theorem strOfNums_map (l:List UInt8):strOfNums (l.map fun b=>(b.toNat:Int))=⟨l.toArray⟩:=by
 unfold strOfNums
 rw [List.map_map]
 congr 2
 have e:((fun n:Int=>UInt8.ofNat n.toNat)∘fun b:UInt8=>(b.toNat:Int))=id:=by
  funext b
  simp
 rw [e,List.map_id]
theorem tdiv10 (m:Int):Int.tdiv m 10=if 0≤m then m / 10 else -((-m) / 10):=by
 by_cases h:0≤m
 ·rw [if_pos h,Int.tdiv_eq_ediv_of_nonneg h]
 ·rw [if_neg h]
  have e:m=-(-m):=by omega
  rw [e,Int.neg_tdiv,Int.tdiv_eq_ediv_of_nonneg (by omega),Int.neg_neg]
theorem tmod10 (m:Int):Int.tmod m 10=if 0≤m then m % 10 else -((-m) % 10):=by
 by_cases h:0≤m
 ·rw [if_pos h,Int.tmod_eq_emod_of_nonneg h]
 ·rw [if_neg h]
  have e:m=-(-m):=by omega
  rw [e,Int.neg_tmod,Int.tmod_eq_emod_of_nonneg (by omega),Int.neg_neg]
theorem step (m:Int) (h0:m≠0) (h1:-9223372036854775808≤m) (h2:m≤9223372036854775807) (x0:Int) (acc:List Int) (hl:acc.length < 1000) (k:Nat) :
  spec_NumText.l0 (k + 1) x0 acc m=spec_NumText.l0 k x0 ((48 + ((m.natAbs % 10:Nat):Int)) :: acc) (Int.tdiv m 10):=by
 have t1:=tdiv10 m
 have t2:=tmod10 m
 have hd:wrap64 (Int.tdiv m 10)=Int.tdiv m 10:=by
  unfold wrap64
  split at t1 <;> omega
 simp only [spec_NumText.l0]
 rw [if_neg h0]
 by_cases hm:Int.tmod m 10 < 0
 ·rw [if_pos hm]
  have e:(wrap64 (48 + (wrap64 (-(Int.tmod m 10))))) % 256=48 + ((m.natAbs % 10:Nat):Int):=by
   unfold wrap64
   split at t2 <;> omega
  simp only [Option.bind_some]
  rw [e,hd,if_pos (by simp only [List.length_cons,List.length_nil];omega)]
  rfl
 ·rw [if_neg hm]
  have e:(wrap64 (48 + (Int.tmod m 10))) % 256=48 + ((m.natAbs % 10:Nat):Int):=by
   unfold wrap64
   split at t2 <;> omega
  simp only [Option.bind_some]
  rw [e,hd,if_pos (by simp only [List.length_cons,List.length_nil];omega)]
  rfl
theorem fin (x0:Int) (acc:List Int) (hl:acc.length < 1000) (k:Nat):spec_NumText.l0 (k + 1) x0 acc 0=some (strOfNums (if x0 < 0 then 45 :: acc else acc)):=by
 simp only [spec_NumText.l0]
 rw [if_pos trivial]
 by_cases h:x0 < 0
 ·rw [if_pos h,if_pos h]
  simp only [Option.bind_some]
  rw [if_pos (by simp only [List.length_cons,List.length_nil];omega)]
  rfl
 ·rw [if_neg h,if_neg h]
theorem loop (x0:Int):∀(d:Nat) (m:Int) (acc:List Int) (k:Nat),m≠0→m.natAbs < 10 ^ d→-9223372036854775808≤m→m≤9223372036854775807→acc.length + d < 900→d < k →
  spec_NumText.l0 k x0 acc m=some (strOfNums (if x0 < 0 then 45 :: (dgs m.natAbs ++ acc)else dgs m.natAbs ++ acc))
 | 0,m,acc,k,h0,hd,_,_,_,_=>by simp at hd;omega
 | d + 1,m,acc,k,h0,hd,h1,h2,hl,hk=>by
  obtain⟨k,rfl⟩:∃ j,k=j + 1:=⟨k - 1,by omega⟩
  rw [step m h0 h1 h2 x0 acc (by omega) k]
  have t1:=tdiv10 m
  have hq:(Int.tdiv m 10).natAbs=m.natAbs / 10:=by split at t1 <;> omega
  by_cases hs:m.natAbs < 10
  ·obtain⟨k,rfl⟩:∃ j,k=j + 1:=⟨k - 1,by omega⟩
   have e:Int.tdiv m 10=0:=by omega
   rw [e,fin x0 _ (by simp only [List.length_cons];omega) k,dgs_small hs,Nat.mod_eq_of_lt hs]
   rfl
  ·rw [loop x0 d (Int.tdiv m 10) _ k (by omega) (by rw [hq];rw [Nat.pow_succ]at hd;omega) (by omega) (by omega) (by simp only [List.length_cons];omega) (by omega),hq,dgs_big hs]
   simp
theorem numText (n:Int) (h1:-9223372036854775808≤n) (h2:n≤9223372036854775807) (k:Nat) (hk:19 < k):spec_NumText.f k n=some ⟨(Lib.itoa n).toArray⟩:=by
 unfold spec_NumText.f
 by_cases h0:n=0
 ·subst h0
  rw [if_pos rfl]
  congr 1
  have:Lib.itoa 0=[48]:=by
   unfold Lib.itoa
   rw [if_neg (by omega),show(0:Int).toNat=0 from rfl,Lib.decDigits,dif_pos (by omega)]
   rfl
  rw [this]
 ·rw [if_neg h0,loop n 19 n [] k h0 (by omega) h1 h2 (by simp) hk]
  congr 1
  rw [← strOfNums_map]
  congr 1
  unfold Lib.itoa
  by_cases hn:n < 0
  ·rw [if_pos hn,if_pos hn]
   simp [dgs]
  ·rw [if_neg hn,if_neg hn,show n.toNat=n.natAbs by omega]
   simp [dgs]
theorem itoa_f (n:Int) (h1:-9223372036854775808≤n) (h2:n≤9223372036854775807):strconv_Itoa.f n=some ⟨(Lib.itoa n).toArray⟩:=by
 unfold strconv_Itoa.f
 rw [if_pos h1,if_pos h2]
end Go.Proofs.YtimhlficlhafbaaGreatDoor.QNum
