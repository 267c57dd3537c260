import Derived.Test.YtkajecadkkgfmaaGreatDoorVkqQStr
import Derived.OpenShut
import Derived.Test.YtkajecadkkgfmaaGreatDoorVkqPnx19
import Derived.Test.YtkajecadkkgfmaaGreatDoorVkqPnx27
import Derived.Test.YtkajecadkkgfmaaGreatDoorVkqQNum
import Derived.Test.YtkajecadkkgfmaaGreatDoorVkqQTm
import Derived.Test.YtkajecadkkgfmaaGreatDoorVkqQPut
import Derived.Test.YtkajecadkkgfmaaGreatDoorVkqPnx29
import Derived.Test.YtkajecadkkgfmaaGreatDoorVkqQSeek
import Derived.Test.YtkajecadkkgfmaaGreatDoorVkqPnx31
import Derived.Test.YtkajecadkkgfmaaGreatDoorVkqPnx36
-- Cut by prune.py, a program of this session, out of the texts of this claim: Lean checks it.
namespace Go.Proofs.YtkajecadkkgfmaaGreatDoor.QCur
open Go.RowKit Go.Proofs.YtkajecadkkgfmaaGreatDoor.Pn Go.Proofs.YtkajecadkkgfmaaGreatDoorW.PrintWords Go.Proofs.YtkajecadkkgfmaaGreatDoorW.PrintLast Go.Proofs.YtkajecadkkgfmaaGreatDoor.QStr
def Byt (l:List Int):Prop:=l.length≤140737488351232∧∀ x∈l,0≤x∧x≤255
/-- A drawer's place and seed. -/
def Cur (a s:Int) (n:Nat):Prop:=0≤a∧a≤n∧0≤s∧s≤70000
theorem Cur.mono {a s:Int} {n m:Nat} (h:Cur a s n) (hm:n≤m):Cur a s m:=⟨h.1,by have:=h.2.1;omega,h.2.2.1,h.2.2.2⟩
theorem rd_byt {l:List Int} (h:Byt l) (i:Int):0≤rd l i∧rd l i≤255:=by
 unfold rd
 rw [List.getD_eq_getElem?_getD]
 by_cases hi:i.toNat < l.length
 ·rw [List.getElem?_eq_getElem hi,Option.getD_some]
  exact h.2 _ (List.getElem_mem hi)
 ·rw [List.getElem?_eq_none (by omega),Option.getD_none]
  omega
theorem tmod_nn {a b:Int} (ha:0≤a) (hb:0 < b):0≤Int.tmod a b∧Int.tmod a b < b:=by
 rw [Int.tmod_eq_emod_of_nonneg ha]
 exact⟨Int.emod_nonneg _ (by omega),Int.emod_lt_of_pos _ hb⟩
theorem seed_step {s:Int} (h0:0≤s) (h1:s≤70000):0≤Int.tmod (wrap64 ((wrap64 (s * 1103)) + 12345)) 65521∧Int.tmod (wrap64 ((wrap64 (s * 1103)) + 12345)) 65521 < 65521:=by
 rw [wrapS (n:=s * 1103) (by omega) (by omega),wrapS (by omega) (by omega)]
 exact tmod_nn (by omega) (by omega)
theorem pick_f {l:List Int} (hl:Byt l) {a s:Int} {n:Nat} (hc:Cur a s n) (hn:n≤1099511627776) (m:Int) :
  ∃ x a' s',z5_.f l a s m=some (x,a',s')∧0≤x∧(2≤m→x < m)∧(m < 2→x=0)∧Cur a' s' (n + 1):=by
 obtain⟨h1,h2,h3,h4⟩:=hc
 unfold z5_.f
 by_cases hm:m < 2
 ·rw [if_pos hm]
  exact⟨_,_,_,rfl,Int.le_refl _,fun h=>by omega,fun _=>rfl,h1,by omega,h3,h4⟩
 rw [if_neg hm,if_neg (show ¬ m=0 by omega),if_neg (show ¬ m=0 by omega),if_neg (show ¬ m=0 by omega),wrapS (n:=a + 1) (by omega) (by omega)]
 have hs:=seed_step h3 h4
 generalize Int.tmod (wrap64 ((wrap64 (s * 1103)) + 12345)) 65521=t at hs ⊢
 by_cases hlt:a < (l.length:Int)
 ·have hr:=rd_byt hl a
  have hx:=tmod_nn (b:=m) hr.1 (by omega)
  rw [if_pos hlt,if_pos h1,wrapS (n:=rd l a) (by omega) (by omega)]
  exact⟨_,_,_,rfl,hx.1,fun _=>hx.2,fun h=>absurd h hm,by omega,by omega,h3,h4⟩
 rw [if_neg hlt]
 by_cases hp:(l.length:Int) > 0
 ·have hi:=tmod_nn h1 hp
  have hr:=rd_byt hl (Int.tmod a (l.length:Int))
  have hq:0≤Int.tdiv t 7∧Int.tdiv t 7≤65521:=by
   rw [Int.tdiv_eq_ediv_of_nonneg hs.1]
   omega
  have hx:=tmod_nn (a:=Int.tdiv t 7 + rd l (Int.tmod a (l.length:Int))) (b:=m) (by omega) (by omega)
  rw [if_pos hp,if_neg (show ¬(l.length:Int)=0 by omega),if_pos hi.1,if_pos hi.2,wrapS (n:=Int.tdiv t 7) (by omega) (by omega),wrapS (n:=rd l (Int.tmod a (l.length:Int))) (by omega) (by omega),wrapS (by omega) (by omega)]
  exact⟨_,_,_,rfl,hx.1,fun _=>hx.2,fun h=>absurd h hm,by omega,by omega,hs.1,by omega⟩
 ·rw [if_neg hp]
  have hx:(0:Int) % m=0:=Int.zero_emod m
  rw [hx]
  exact⟨_,_,_,rfl,by omega,fun h=>by omega,fun h=>absurd h hm,by omega,by omega,hs.1,by omega⟩
theorem open_f (l:List Int):∃ s,spec_l01Open.f l=some (l,0,s)∧Cur 0 s 0:=by
 unfold spec_l01Open.f
 exact⟨_,rfl,by omega,by omega,by omega,by omega⟩
theorem byt_of {l:List Int} (h:l.length≤maxLen∧l.length * 1≤140737488351232∧∀ x∈l,(Lit.int .u8 x).wf=true):Byt l:=by
 refine⟨by omega,fun x hx=>?_⟩
 exact bounds_u8 (h.2.2 x hx)
theorem rd_mem (l:List Int) (i:Int) (h1:0≤i) (h2:i < (l.length:Int)):rd l i∈l:=by
 unfold rd
 rw [List.getD_eq_getElem?_getD,List.getElem?_eq_getElem (by omega),Option.getD_some]
 exact List.getElem_mem _
theorem raw_f {l:List Int} (hl:Byt l) {a s:Int} {n:Nat} (hc:Cur a s n) (hn:n≤1099511627000) :
  ∃ v a' s',spec_l01Cur_raw.f l a s=some (v,a',s')∧-9223372036854775808≤v∧v≤9223372036854775807∧Cur a' s' (n + 2):=by
 unfold spec_l01Cur_raw.f
 obtain⟨x,a1,s1,hx,hx0,hx1,_,hc1⟩:=pick_f hl hc (by omega) 8
 rw [hx,Option.bind_some]
 simp only []
 by_cases h0:x=0
 ·obtain⟨y,a2,s2,hy,hy0,hy1,_,hc2⟩:=pick_f hl hc1 (by omega) 256
  have hy1:=hy1 (by omega)
  rw [if_pos h0,hy,Option.bind_some]
  simp only []
  rw [wrapS (by omega) (by omega)]
  exact⟨_,_,_,rfl,by omega,by omega,hc2⟩
 rw [if_neg h0]
 by_cases h1:x=1
 ·obtain⟨y,a2,s2,hy,hy0,hy1,_,hc2⟩:=pick_f hl hc1 (by omega) 8
  have hy1:=hy1 (by omega)
  rw [if_pos h1,Option.bind_some,hy,Option.bind_some]
  simp only []
  rw [if_pos hy0,if_pos (show y < (([9223372036854775807, -9223372036854775808,4611686018427387904,1000,1001, -1000,100000,100001]:List Int).length:Int)from hy1)]
  have hm:=rd_mem [9223372036854775807, -9223372036854775808,4611686018427387904,1000,1001, -1000,100000,100001] y hy0 hy1
  refine⟨_,_,_,rfl, ?_, ?_,hc2⟩
  ·simp only [List.mem_cons,List.not_mem_nil,or_false]at hm
   omega
  ·simp only [List.mem_cons,List.not_mem_nil,or_false]at hm
   omega
 rw [if_neg h1]
 obtain⟨y,a2,s2,hy,hy0,hy1,_,hc2⟩:=pick_f hl hc1 (by omega) 14
 have hy1:=hy1 (by omega)
 rw [hy,Option.bind_some]
 simp only []
 rw [wrapS (by omega) (by omega)]
 exact⟨_,_,_,rfl,by omega,by omega,hc2⟩
end Go.Proofs.YtkajecadkkgfmaaGreatDoor.QCur
-- Cut by prune.py, a program of this session, out of the texts of this claim: Lean checks it.
namespace Go.Proofs.YtkajecadkkgfmaaGreatDoor.QDraw
open Go.RowKit Go.Proofs.YtkajecadkkgfmaaGreatDoor.Pn Go.Proofs.YtkajecadkkgfmaaGreatDoorW.PrintWords Go.Proofs.YtkajecadkkgfmaaGreatDoorW.PrintLast Go.Proofs.YtkajecadkkgfmaaGreatDoor.QStr Go.Proofs.YtkajecadkkgfmaaGreatDoor.QTm Go.Proofs.YtkajecadkkgfmaaGreatDoor.QCur
theorem rdOf_le (l:List ByteArray) (i:Int) (m:Nat) (h:∀ s∈l,s.size≤m):(rdOf ByteArray.empty l i).size≤m:=by
 unfold rdOf
 rw [List.getD_eq_getElem?_getD]
 by_cases hi:i.toNat < l.length
 ·rw [List.getElem?_eq_getElem hi,Option.getD_some]
  exact h _ (List.getElem_mem hi)
 ·rw [List.getElem?_eq_none (by omega),Option.getD_none]
  exact Nat.zero_le _
theorem itoa_short (v:Int) (h:-1000000≤v∧v≤1000000):(Lib.itoa v).length≤8:=by
 unfold Lib.itoa
 by_cases hw:v < 0
 ·rw [if_pos hw,List.length_cons]
  have:=dec_len v.natAbs 6 (by omega)
  omega
 ·rw [if_neg hw]
  have:=dec_len v.toNat 6 (by omega)
  omega
/-- A drawn term that has no parts. -/
theorem leaf_f {l:List Int} (hl:Byt l) (x1 x5:Int) (h0:0≤x5) (h4:x5≤4) {a s:Int} {n:Nat} (hc:Cur a s n) (hn:n≤1099511627000) (k:Nat) (hk:25 < k) :
  ∃ t a' s',z7_.j1 k x1 x5 l a s=some (t,a',s')∧t.size≤20∧Cur a' s' (n + 1):=by
 obtain⟨k,rfl⟩:∃ m,k=m + 2:=⟨k - 2,by omega⟩
 have hj:z7_.j1 (k + 2) x1 x5 l a s=z7_.j2 (k + 1) x1 x5 (decide (x5≤2)) l a s:=by
  rw [z7_.j1]
  by_cases e0:x5=0
  ·rw [if_pos e0,e0];rfl
  ·rw [if_neg e0]
   by_cases e1:x5=1
   ·rw [if_pos e1,e1];rfl
   ·rw [if_neg e1]
    congr 1
    rw [Bool.eq_iff_iff,beq_iff_eq,decide_eq_true_eq]
    omega
 rw [hj,z7_.j2]
 by_cases h2:x5≤2
 ·obtain⟨y,a2,s2,hy,hy0,hy1,_,hc2⟩:=pick_f hl hc (by omega) 8
  have hy1:=hy1 (by omega)
  have hm:=rd_mem [0,1,2,3,(-1),10,1000000,(-1000000)] y hy0 (by exact hy1)
  have hv:-1000000≤rd [0,1,2,3,(-1),10,1000000,(-1000000)] y∧rd [0,1,2,3,(-1),10,1000000,(-1000000)] y≤1000000:=by
   simp only [List.mem_cons,List.not_mem_nil,or_false]at hm
   omega
  rw [decide_eq_true h2,if_pos rfl,Option.bind_some,hy,Option.bind_some]
  simp only []
  rw [if_pos hy0,if_pos (by exact hy1),QNum.numText _ (by omega) (by omega) k (by omega),Option.bind_some]
  exact⟨_,_,_,rfl,by have:=itoa_short _ hv;show(Lib.itoa _).length≤20;omega,hc2⟩
 ·rw [decide_eq_false h2,if_neg (by decide)]
  by_cases h3:x5=3
  ·obtain⟨y,a2,s2,hy,hy0,hy1,_,hc2⟩:=pick_f hl hc (by omega) 5
   have hy1:=hy1 (by omega)
   rw [if_pos h3,Option.bind_some,hy,Option.bind_some]
   simp only []
   rw [if_pos hy0,if_pos (by exact hy1)]
   exact⟨_,_,_,rfl,rdOf_le _ _ 20 (by decide),hc2⟩
  ·obtain⟨y,a2,s2,hy,hy0,hy1,_,hc2⟩:=pick_f hl hc (by omega) 4
   have hy1:=hy1 (by omega)
   rw [if_neg h3,if_pos (by omega),Option.bind_some,hy,Option.bind_some]
   simp only []
   rw [if_pos hy0,if_pos (by exact hy1)]
   exact⟨_,_,_,rfl,rdOf_le _ _ 20 (by decide),hc2⟩
theorem z5:(⟨#[67,111,110,115,40]⟩:ByteArray).size=5:=rfl
theorem z5b:(⟨#[78,111,100,101,40]⟩:ByteArray).size=5:=rfl
theorem z2:(⟨#[83,40]⟩:ByteArray).size=2:=rfl
theorem z1 (c:UInt8):(⟨#[c]⟩:ByteArray).size=1:=rfl
theorem term_f {l:List Int} (hl:Byt l):∀(d:Nat) (x a s:Int) (n k:Nat),d≤3→x≤d→-1000≤x→Cur a s n→n + 2 * 4 ^ d≤1099511627000→30 + 5 * d < k →
  ∃ t a' s',z7_.f k l a s x=some (t,a',s')∧t.size≤20 * 4 ^ d∧Cur a' s' (n + 2 * 4 ^ d)
 | 0,x,a,s,n,k,hd,hx,hx0,hc,hn,hk=>by
  obtain⟨k,rfl⟩:∃ m,k=m + 2:=⟨k - 2,by omega⟩
  obtain⟨y,a2,s2,hy,hy0,hy1,_,hc2⟩:=pick_f hl hc (by omega) 9
  have hy1:=hy1 (by omega)
  rw [z7_.f,hy,Option.bind_some,if_pos (by omega)]
  simp only []
  rw [z7_.j0]
  by_cases h4:y > 4
  ·rw [decide_eq_true h4,if_pos rfl,wrapS (by omega) (by omega)]
   obtain⟨t,a',s',h1,h2,h3⟩:=leaf_f hl x (y - 4) (by omega) (by omega) hc2 (by omega) k (by omega)
   exact⟨t,a',s',h1,by omega,h3⟩
  ·rw [decide_eq_false h4,if_neg (by decide)]
   obtain⟨t,a',s',h1,h2,h3⟩:=leaf_f hl x y (by omega) (by omega) hc2 (by omega) k (by omega)
   exact⟨t,a',s',h1,by omega,h3⟩
 | d + 1,x,a,s,n,k,hd,hx,hx0,hc,hn,hk=>by
  have hP:1≤4 ^ d∧4 ^ d≤64:=⟨Nat.pow_pos (by omega),Nat.pow_le_pow_right (by omega) (show d≤3 by omega)⟩
  have IH:=fun(x a s:Int) (n k:Nat)=>term_f hl d x a s n k (by omega)
  have hpow:4 ^ (d + 1)=4 * 4 ^ d:=by rw [Nat.pow_succ];omega
  rw [hpow]at hn ⊢
  generalize 4 ^ d=P at hP IH hn ⊢
  obtain⟨k,rfl⟩:∃ m,k=m + 5:=⟨k - 5,by omega⟩
  obtain⟨y,a2,s2,hy,hy0,hy1,_,hc2⟩:=pick_f hl hc (by omega) 9
  have hy1:=hy1 (by omega)
  rw [z7_.f,hy,Option.bind_some]
  simp only []
  have leaf:∀ z:Int,0≤z→z≤4→∃ t a' s',z7_.j1 (k + 3) x z l a2 s2=some (t,a',s')∧t.size≤20 * (4 * P)∧Cur a' s' (n + 2 * (4 * P)):=by
   intro z h0 h4
   obtain⟨t,a',s',h1,h2,h3⟩:=leaf_f hl x z h0 h4 hc2 (by omega) (k + 3) (by omega)
   exact⟨t,a',s',h1,by omega,h3.mono (by omega)⟩
  by_cases hx1:x≤0
  ·rw [if_pos hx1,z7_.j0]
   by_cases h4:y > 4
   ·rw [decide_eq_true h4,if_pos rfl,wrapS (by omega) (by omega)]
    exact leaf (y - 4) (by omega) (by omega)
   ·rw [decide_eq_false h4,if_neg (by decide)]
    exact leaf y (by omega) (by omega)
  ·rw [if_neg hx1,z7_.j0,if_neg (by decide)]
   by_cases h4:y≤4
   ·exact leaf y hy0 h4
   ·rw [z7_.j1,if_neg (by omega),if_neg (by omega),show(y == 2)=false by rw [beq_eq_false_iff_ne];omega,z7_.j2,if_neg (by decide),if_neg (by omega),if_neg (by omega)]
    have hj:(if y=5 then(z7_.j3 (k + 1) x y (y == 5) l a2 s2)else(z7_.j3 (k + 1) x y (y == 6) l a2 s2))=z7_.j3 (k + 1) x y (decide (y≤6)) l a2 s2:=by
     by_cases h5:y=5
     ·rw [if_pos h5,h5];rfl
     ·rw [if_neg h5]
      congr 1
      rw [Bool.eq_iff_iff,beq_iff_eq,decide_eq_true_eq]
      omega
    rw [hj,z7_.j3,wrapS (n:=x - 1) (by omega) (by omega)]
    obtain⟨t1,a3,s3,e1,b1,c1⟩:=IH (x - 1) a2 s2 (n + 1) k (by omega) (by omega) hc2 (by omega) (by omega)
    obtain⟨t2,a4,s4,e2,b2,c2⟩:=IH (x - 1) a3 s3 (n + 1 + 2 * P) k (by omega) (by omega) c1 (by omega) (by omega)
    obtain⟨t3,a5,s5,e3,b3,c3⟩:=IH (x - 1) a4 s4 (n + 1 + 2 * P + 2 * P) k (by omega) (by omega) c2 (by omega) (by omega)
    by_cases h6:y≤6
    ·rw [decide_eq_true h6,if_pos rfl,e1,Option.bind_some]
     simp only []
     rw [if_pos (by omega),if_pos (by simp only [ByteArray.size_append,z5];omega),e2,Option.bind_some]
     simp only []
     rw [if_pos (by simp only [ByteArray.size_append,z5,z1];omega),if_pos (by simp only [ByteArray.size_append,z5,z1];omega)]
     exact⟨_,_,_,rfl,by simp only [ByteArray.size_append,z5,z1];omega,c2.mono (by omega)⟩
    ·rw [decide_eq_false h6,if_neg (by decide)]
     by_cases h7:y=7
     ·rw [if_pos h7,e1,Option.bind_some]
      simp only []
      rw [if_pos (by omega),if_pos (by simp only [ByteArray.size_append,z2];omega)]
      exact⟨_,_,_,rfl,by simp only [ByteArray.size_append,z2,z1];omega,c1.mono (by omega)⟩
     ·rw [if_neg h7,e1,Option.bind_some]
      simp only []
      rw [if_pos (by omega),if_pos (by simp only [ByteArray.size_append,z5b];omega),e2,Option.bind_some]
      simp only []
      rw [if_pos (by simp only [ByteArray.size_append,z5b,z1];omega),if_pos (by simp only [ByteArray.size_append,z5b,z1];omega),e3,Option.bind_some]
      simp only []
      rw [if_pos (by simp only [ByteArray.size_append,z5b,z1];omega),if_pos (by simp only [ByteArray.size_append,z5b,z1];omega)]
      exact⟨_,_,_,rfl,by simp only [ByteArray.size_append,z5b,z1];omega,c3.mono (by omega)⟩
theorem grow_f (l:List Int) (a s:Int):∀(d k:Nat) (t:ByteArray),t.size≤500→201 - t.size≤d→d < k→∃ u,spec_l01Cur_any.l0 k t l a s=some (u,a,s)∧u.size≤700
 | d,k,t,ht,hd,hk=>by
  obtain⟨k,rfl⟩:∃ m,k=m + 1:=⟨k - 1,by omega⟩
  rw [spec_l01Cur_any.l0]
  by_cases h:t.size≤200
  ·obtain⟨d,rfl⟩:∃ m,d=m + 1:=⟨d - 1,by omega⟩
   rw [if_pos (by omega),if_pos (by omega),if_pos (by simp only [ByteArray.size_append,z2];omega)]
   exact grow_f l a s d k _ (by simp only [ByteArray.size_append,z2,z1];omega) (by simp only [ByteArray.size_append,z2,z1];omega) (by omega)
  ·rw [if_neg (by omega)]
   exact⟨_,rfl,by omega⟩
theorem once_f {l:List Int} (hl:Byt l) {a s:Int} {n:Nat} (hc:Cur a s n) (hn:n≤1099511627000) (m:Int) :
  ∃ b a' s',spec_l01Cur_once.f l a s m=some (b,a',s')∧Cur a' s' (n + 1):=by
 obtain⟨y,a2,s2,hy,_,_,_,hc2⟩:=pick_f hl hc (by omega) m
 unfold spec_l01Cur_once.f
 rw [hy,Option.bind_some]
 exact⟨_,_,_,rfl,hc2⟩
theorem any_j {l:List Int} (hl:Byt l) (t:ByteArray) (ht:t.size≤400) {a s:Int} {n:Nat} (hc:Cur a s n) (hn:n≤1099511620000) (k:Nat) (hk:210 < k) :
  ∃ u a' s',spec_l01Cur_any.j0 k t l a s=some (u,a',s')∧u.size≤1000∧Cur a' s' (n + 4):=by
 obtain⟨k,rfl⟩:∃ m,k=m + 1:=⟨k - 1,by omega⟩
 obtain⟨b,a1,s1,hb,hc1⟩:=once_f hl hc (by omega) 5
 rw [spec_l01Cur_any.j0,hb,Option.bind_some]
 simp only []
 cases b with
 | false=>rw [if_neg (by decide)];exact⟨_,_,_,rfl,by omega,hc1.mono (by omega)⟩
 | true =>
  rw [if_pos rfl]
  obtain⟨x,a2,s2,hx,hx0,hx1,_,hc2⟩:=pick_f hl hc1 (by omega) 3
  have hx1:=hx1 (by omega)
  rw [hx,Option.bind_some]
  simp only []
  by_cases e0:x=0
  ·obtain⟨y,a3,s3,hy,hy0,hy1,_,hc3⟩:=pick_f hl hc2 (by omega) 22
   have hy1:=hy1 (by omega)
   rw [if_pos e0,Option.bind_some,hy,Option.bind_some]
   simp only []
   rw [if_pos hy0,if_pos (by exact hy1)]
   exact⟨_,_,_,rfl,rdOf_le _ _ 1000 (by decide),hc3.mono (by omega)⟩
  rw [if_neg e0]
  by_cases e1:x=1
  ·obtain⟨y,a3,s3,hy,hy0,hy1,hy2,hc3⟩:=pick_f hl hc2 (by omega) ((t.size:Int) + 1)
   have hle:y≤(t.size:Int):=by
    by_cases hz:(2:Int)≤(t.size:Int) + 1
    ·have:=hy1 hz;omega
    ·have:=hy2 (by omega);omega
   obtain⟨z,a4,s4,hz,hz0,hz1,_,hc4⟩:=pick_f hl hc3 (by omega) 6
   have hz1:=hz1 (by omega)
   have hs:(rdOf ByteArray.empty [(⟨#[40]⟩:ByteArray),(⟨#[41]⟩:ByteArray),(⟨#[44]⟩:ByteArray),(⟨#[34]⟩:ByteArray),(⟨#[49]⟩:ByteArray),(⟨#[32]⟩:ByteArray)] z).size≤10:=rdOf_le _ _ 10 (by decide)
   have hx1:(t.extract 0 y.toNat).size≤400:=by rw [ByteArray.size_extract];omega
   have hx2:(t.extract y.toNat t.size).size≤400:=by rw [ByteArray.size_extract];omega
   rw [if_pos e1,wrapS (n:=(t.size:Int) + 1) (by omega) (by omega),hy,Option.bind_some]
   simp only []
   rw [if_pos hy0,if_pos hle,Option.bind_some,hz,Option.bind_some]
   simp only []
   rw [if_pos hz0,if_pos (by exact hz1),if_pos (by omega),if_pos (by rw [ByteArray.size_append];omega)]
   exact⟨_,_,_,rfl,by rw [ByteArray.size_append,ByteArray.size_append];omega,hc4⟩
  ·rw [if_neg e1]
   obtain⟨u,hu,hu2⟩:=grow_f l a2 s2 201 k t (by omega) (by omega) (by omega)
   exact⟨_,_,_,hu,by omega,hc2.mono (by omega)⟩
theorem any_f {l:List Int} (hl:Byt l) {a s:Int} {n:Nat} (hc:Cur a s n) (hn:n≤1099511610000) (k:Nat) (hk:250 < k) :
  ∃ u a' s',spec_l01Cur_any.f k l a s=some (u,a',s')∧u.size≤1000∧Cur a' s' (n + 40):=by
 unfold spec_l01Cur_any.f
 obtain⟨t,a1,s1,e1,b1,c1⟩:=term_f hl 2 2 a s n k (by omega) (by omega) (by omega) hc (by omega) (by omega)
 rw [e1,Option.bind_some]
 simp only []
 by_cases h:(t.size:Int) > 200
 ·rw [if_pos h]
  obtain⟨u,a2,s2,h1,h2,h3⟩:=any_j hl (⟨#[78,105,108]⟩:ByteArray) (by decide) c1 (by omega) k (by omega)
  exact⟨u,a2,s2,h1,h2,h3.mono (by omega)⟩
 ·rw [if_neg h]
  obtain⟨u,a2,s2,h1,h2,h3⟩:=any_j hl t (by omega) c1 (by omega) k (by omega)
  exact⟨u,a2,s2,h1,h2,h3.mono (by omega)⟩
end Go.Proofs.YtkajecadkkgfmaaGreatDoor.QDraw
-- Cut by prune.py, a program of this session, out of the texts of this claim: Lean checks it.
namespace Go.Proofs.YtkajecadkkgfmaaGreatDoor.QDrawR
open Go.RowKit Go.Proofs.YtkajecadkkgfmaaGreatDoor.Pn Go.Proofs.YtkajecadkkgfmaaGreatDoorW.PrintWords Go.Proofs.YtkajecadkkgfmaaGreatDoorW.PrintLast Go.Proofs.YtkajecadkkgfmaaGreatDoor.QStr Go.Proofs.YtkajecadkkgfmaaGreatDoor.QTm Go.Proofs.YtkajecadkkgfmaaGreatDoor.QParts Go.Proofs.YtkajecadkkgfmaaGreatDoor.QCur Go.Proofs.YtkajecadkkgfmaaGreatDoor.QDraw Go.Proofs.YtkajecadkkgfmaaGreatDoor.QNum Go.Proofs.YtkajecadkkgfmaaGreatDoor.QLaws Go.Proofs.YtkajecadkkgfmaaGreatDoor.QLaw2 Go.Proofs.YtkajecadkkgfmaaGreatDoor.QLaw3 Go.Proofs.YtkajecadkkgfmaaGreatDoor.QRel Go.Proofs.YtkajecadkkgfmaaGreatDoor.QSeek Go.Proofs.YtkajecadkkgfmaaGreatDoor.QTup Go.Proofs.YtkajecadkkgfmaaGreatDoor.QTerms Go.Proofs.YtkajecadkkgfmaaGreatDoor.QPut
abbrev TI:=S36
theorem sizeR_f {l:List Int} (hl:Byt l) {a s:Int} {n:Nat} (hc:Cur a s n) (hn:n≤1099511627000) (m:Int) (hm:1≤m) (hm2:m≤1000) :
  ∃(x:Nat) (a' s':Int),spec_l01Cur_size.f l a s m=some ((x:Int),a',s')∧(x:Int)≤m∧Cur a' s' (n + 1):=by
 have hl1:=hl.1
 have hq:0≤(l.length:Int) / 8∧(l.length:Int) / 8≤140737488351232:=by omega
 unfold spec_l01Cur_size.f
 rw [wrapS (n:=(l.length:Int) / 8) (by omega) (by omega),wrapS (n:=1 + (l.length:Int) / 8) (by omega) (by omega)]
 generalize (l.length:Int) / 8=q at hq
 by_cases h:1 + q > m
 ·obtain⟨x,a2,s2,hx,hx0,hx1,_,hc2⟩:=pick_f hl hc (by omega) (m + 1)
  have hx1:=hx1 (by omega)
  rw [if_pos h,wrapS (n:=m + 1) (by omega) (by omega),hx,Option.bind_some]
  refine⟨x.toNat,_,_, ?_,by omega,hc2⟩
  rw [Int.toNat_of_nonneg hx0]
 ·obtain⟨x,a2,s2,hx,hx0,hx1,_,hc2⟩:=pick_f hl hc (by omega) (1 + q + 1)
  have hx1:=hx1 (by omega)
  rw [if_neg h,wrapS (n:=1 + q + 1) (by omega) (by omega),hx,Option.bind_some]
  refine⟨x.toNat,_,_, ?_,by omega,hc2⟩
  rw [Int.toNat_of_nonneg hx0]
/-- The texts that a relation's tuples are drawn of. -/
def lits:List ByteArray:=[(⟨#[49]⟩:ByteArray),(⟨#[50]⟩:ByteArray),(⟨#[34,97,34]⟩:ByteArray),(⟨#[78,105,108]⟩:ByteArray),(⟨#[83,40,49,41]⟩:ByteArray),(⟨#[49,48]⟩:ByteArray),(⟨#[67,111,110,115,40,49,44,78,105,108,41]⟩:ByteArray),(⟨#[45,49]⟩:ByteArray)]
theorem ito1:Lib.itoa 1=[49]:=by
 unfold Lib.itoa
 rw [if_neg (by decide),show((1:Int)).toNat=1 from rfl,dec_small (by decide)]
 rfl
theorem ito2:Lib.itoa 2=[50]:=by
 unfold Lib.itoa
 rw [if_neg (by decide),show((2:Int)).toNat=2 from rfl,dec_small (by decide)]
 rfl
theorem ito10:Lib.itoa 10=[49,48]:=by
 unfold Lib.itoa
 rw [if_neg (by decide),show((10:Int)).toNat=10 from rfl,dec_big (by decide),show 10 / 10=1 from rfl,dec_small (by decide)]
 rfl
theorem itom:Lib.itoa (-1)=[45,49]:=by
 unfold Lib.itoa
 rw [if_pos (by decide),show((-1:Int)).natAbs=1 from rfl,dec_small (by decide)]
 rfl
theorem num1:rnd (.num 1)=[49]:=by rw [rnd_num];exact ito1
theorem nilR:rnd (.con [78,105,108] [])=[78,105,108]:=by rw [rnd_con,rndA_nil];rfl
theorem nilOk:Ok (.con [78,105,108] []):=(ok_con _ _).2 ⟨⟨by decide,78,[105,108],rfl,by decide,by decide⟩,okL_nil⟩
theorem lit_rB:∀ x∈lits,∃ t,Sh t∧x=rB t:=by
 intro x hx
 have n1:Ok (.num 1):=(ok_num 1).2 (by omega)
 unfold lits at hx
 simp only [List.mem_cons,List.not_mem_nil,or_false]at hx
 rcases hx with rfl|rfl|rfl|rfl|rfl|rfl|rfl|rfl
 ·exact⟨.num 1,⟨n1,by rw [num1];decide⟩,by unfold rB;rw [num1];rfl⟩
 ·have e:rnd (.num 2)=[50]:=by rw [rnd_num];exact ito2
  exact⟨.num 2,⟨(ok_num 2).2 (by omega),by rw [e];decide⟩,by unfold rB;rw [e];rfl⟩
 ·have e:rnd (.sym [97])=[34,97,34]:=by rw [rnd_sym];rfl
  exact⟨.sym [97],⟨(ok_sym _).2 ⟨by decide,by decide⟩,by rw [e];decide⟩,by unfold rB;rw [e];rfl⟩
 ·exact⟨_,⟨nilOk,by rw [nilR];decide⟩,by unfold rB;rw [nilR];rfl⟩
 ·have e:rnd (.con [83] [.num 1])=[83,40,49,41]:=by rw [rnd_con,rndA_cons,num1,rndT_nil];rfl
  exact⟨.con [83] [.num 1],⟨(ok_con _ _).2 ⟨⟨by decide,83,[],rfl,by decide,by decide⟩,(okL_cons _ _).2 ⟨n1,okL_nil⟩⟩,by rw [e];decide⟩,by unfold rB;rw [e];rfl⟩
 ·have e:rnd (.num 10)=[49,48]:=by rw [rnd_num];exact ito10
  exact⟨.num 10,⟨(ok_num 10).2 (by omega),by rw [e];decide⟩,by unfold rB;rw [e];rfl⟩
 ·have e:rnd (.con [67,111,110,115] [.num 1,.con [78,105,108] []])=[67,111,110,115,40,49,44,78,105,108,41]:=by rw [rnd_con,rndA_cons,num1,rndT_cons,nilR,rndT_nil];rfl
  exact⟨.con [67,111,110,115] [.num 1,.con [78,105,108] []],⟨(ok_con _ _).2 ⟨⟨by decide,67,[111,110,115],rfl,by decide,by decide⟩,(okL_cons _ _).2 ⟨n1,(okL_cons _ _).2 ⟨nilOk,okL_nil⟩⟩⟩,by rw [e];decide⟩,by unfold rB;rw [e];rfl⟩
 ·have e:rnd (.num (-1))=[45,49]:=by rw [rnd_num];exact itom
  exact⟨.num (-1),⟨(ok_num (-1)).2 (by omega),by rw [e];decide⟩,by unfold rB;rw [e];rfl⟩
theorem lits_at (y:Int) (h0:0≤y) (h1:y < 8):∃ t,Sh t∧rdOf ByteArray.empty lits y=rB t:=by
 refine lit_rB _ ?_
 unfold rdOf
 have hy:y.toNat < lits.length:=by have:lits.length=8:=rfl;omega
 rw [List.getD_eq_getElem?_getD,List.getElem?_eq_getElem hy,Option.getD_some]
 exact List.getElem_mem _
/-- Rows that are few, their texts not long. -/
def Out (rows:List TI):Prop:=rows.length≤500∧∀ r∈rows,r.f0.length≤20∧∀ x∈r.f0,x.size≤1000
theorem out_few {rows:List TI} (h:Out rows):FewI rows:=⟨by have:=h.1;omega,fun r hr=>⟨by have:=(h.2 r hr).1;omega,fun x hx=>by have:=(h.2 r hr).2 x hx;omega⟩⟩
theorem rB_size {t:Tm} (h:Sh t):(rB t).size≤200:=h.2
theorem enc_app (ts:Row) (t:Tm):enc (ts ++ [t])=enc ts ++ [rB t]:=by unfold enc;rw [List.map_append];rfl
/-- A tuple is drawn. -/
theorem tup_l {l:List Int} (hl:Byt l) (n m:Nat) (hn:n≤20) (rows:List TI) (ar:Int) (d:Int):∀(e i:Nat) (ts:Row) (a s:Int) (k:Nat),i + e=n→ts.length=i→(∀ t∈ts,Sh t)→Cur a s (m + i)→m + 100≤1099511627000 →
  ∃(ts':Row) (a' s':Int),ts'.length=n∧(∀ t∈ts',Sh t)∧Cur a' s' (m + n)∧z6_.l1 (k + e + 1) (n:Int) d (i:Int) l a s ar rows (enc ts)=(spec_l02Put.f k rows (enc ts')).bind fun bt=>z6_.l0 k (n:Int) (wrap64 (d - 1)) l a' s' ar bt.1
 | 0,i,ts,a,s,k,hi,ht,hs,hc,hm=>by
  refine⟨ts,a,s,by omega,hs,hc.mono (by omega), ?_⟩
  rw [z6_.l1,if_neg (by omega)]
 | e + 1,i,ts,a,s,k,hi,ht,hs,hc,hm=>by
  obtain⟨y,a2,s2,hy,hy0,hy1,_,hc2⟩:=pick_f hl hc (by omega) 8
  have hy1:=hy1 (by omega)
  obtain⟨t,ht1,ht2⟩:=lits_at y hy0 hy1
  have hel:=enc_len ts
  have hlen:lits.length=8:=rfl
  rw [z6_.l1,if_pos (by omega),Option.bind_some,hy,Option.bind_some]
  simp only []
  rw [if_pos hy0]
  show ∃(ts':Row) (a' s':Int),ts'.length=n∧(∀ t∈ts',Sh t)∧Cur a' s' (m + n)∧(if y < (lits.length:Int)then _ else none)=_
  rw [if_pos (by rw [hlen];omega),if_pos (by rw [hel];omega),step_i (by omega)]
  show ∃(ts':Row) (a' s':Int),ts'.length=n∧(∀ t∈ts',Sh t)∧Cur a' s' (m + n)∧z6_.l1 (k + e + 1) (n:Int) d ((i + 1:Nat):Int) l a2 s2 ar rows (enc ts ++ [rdOf ByteArray.empty lits y])=_
  rw [ht2,← enc_app]
  obtain⟨ts',a',s',h1,h2,h3,h4⟩:=tup_l hl n m hn rows ar d e (i + 1) (ts ++ [t]) a2 s2 k (by omega) (by rw [List.length_append,List.length_singleton];omega) (fun x hx=>by
   rcases List.mem_append.1 hx with hx|hx
   ·exact hs x hx
   ·rw [List.mem_singleton.1 hx]
    exact ht1) hc2 hm
  exact⟨ts',a',s',h1,h2,h3,h4⟩
/-- More rows of numbers. -/
theorem num_l {l:List Int} (hl:Byt l) (m:Nat):∀(e i:Nat) (rows:List TI) (a s:Int) (k:Nat),i + e=402→rows.length=i→(∀ r∈rows,r.f0.length≤20∧∀ x∈r.f0,x.size≤1000)→Cur a s (m + i)→m + 1000≤1099511627000→e + 30 < k →
  ∃(r:Int) (rows':List TI) (a' s':Int),z6_.l2 k (i:Int) l a s 1 rows=some (r,rows',a',s')∧Out rows'∧Cur a' s' (m + 500)
 | e,i,rows,a,s,0,_,_,_,_,_,hk=>absurd hk (Nat.not_lt_zero _)
 | e,i,rows,a,s,k + 1,hi,hr,hs,hc,hm,hk=>by
  obtain⟨y,a2,s2,hy,hy0,hy1,_,hc2⟩:=pick_f hl hc (by omega) 3
  have hy1:=hy1 (by omega)
  rw [z6_.l2,hy,Option.bind_some]
  simp only []
  rw [wrapS (n:=399 + y) (by omega) (by omega)]
  by_cases h:(i:Int) < 399 + y
  ·obtain⟨e,rfl⟩:∃ q,e=q + 1:=⟨e - 1,by omega⟩
   have hsz:(⟨(Lib.itoa (i:Int)).toArray⟩:ByteArray).size≤8:=itoa_short (i:Int) (by omega)
   rw [if_pos h,numText (i:Int) (by omega) (by omega) k (by omega),Option.bind_some,if_pos (by omega),step_i (by omega)]
   refine num_l hl m e (i + 1) _ a2 s2 k (by omega) (by rw [List.length_append,List.length_singleton];omega) (fun r hr'=>?_) (by exact hc2) hm (by omega)
   rcases List.mem_append.1 hr' with hr'|hr'
   ·exact hs r hr'
   ·rw [List.mem_singleton.1 hr']
    exact⟨by simp,fun x hx=>by
     rw [List.mem_singleton.1 hx]
     omega⟩
  ·rw [if_neg h]
   exact⟨_,_,_,_,rfl,⟨by omega,hs⟩,hc2.mono (by omega)⟩
/-- A tuple of any texts. -/
theorem tupC_l {l:List Int} (hl:Byt l) (n m:Nat) (hn:n≤18):∀(e i:Nat) (ts:List ByteArray) (a s:Int) (k:Nat),i + e=n→ts.length=i→(∀ x∈ts,x.size≤1000)→Cur a s (m + 8 * i)→m + 1000≤1099511600000→e + 300 < k →
  ∃(ts':List ByteArray) (a' s':Int),z8_.l0 k (n:Int) (i:Int) l a s ts=some (ts',a',s')∧ts'.length≤20∧(∀ x∈ts',x.size≤1000)∧Cur a' s' (m + 300)
 | 0,i,ts,a,s,k,hi,ht,hs,hc,hm,hk=>by
  obtain⟨k,rfl⟩:∃ q,k=q + 1:=⟨k - 1,by omega⟩
  obtain⟨b,a2,s2,hb,hc2⟩:=once_f hl hc (by omega) 20
  rw [z8_.l0,if_neg (by omega),hb,Option.bind_some]
  simp only []
  cases b with
  | false =>
   rw [if_neg Bool.false_ne_true]
   exact⟨_,_,_,rfl,by omega,hs,hc2.mono (by omega)⟩
  | true =>
   obtain⟨u,a3,s3,hu,hu2,hc3⟩:=any_f hl hc2 (by omega) k (by omega)
   rw [if_pos rfl,hu,Option.bind_some]
   simp only []
   rw [if_pos (by omega)]
   refine⟨_,_,_,rfl,by rw [List.length_append,List.length_singleton];omega,fun x hx=>?_,hc3.mono (by omega)⟩
   rcases List.mem_append.1 hx with hx|hx
   ·exact hs x hx
   ·rw [List.mem_singleton.1 hx]
    exact hu2
 | e + 1,i,ts,a,s,k,hi,ht,hs,hc,hm,hk=>by
  obtain⟨k,rfl⟩:∃ q,k=q + 1:=⟨k - 1,by omega⟩
  obtain⟨t,a2,s2,h1,h2,hc2⟩:=term_f hl 1 1 a s (m + 8 * i) k (by omega) (by omega) (by omega) hc (by omega) (by omega)
  rw [z8_.l0,if_pos (by omega),h1,Option.bind_some]
  simp only []
  rw [if_pos (by omega),step_i (by omega)]
  refine tupC_l hl n m hn e (i + 1) _ a2 s2 k (by omega) (by rw [List.length_append,List.length_singleton];omega) (fun x hx=>?_) (hc2.mono (by omega)) hm (by omega)
  rcases List.mem_append.1 hx with hx|hx
  ·exact hs x hx
  ·rw [List.mem_singleton.1 hx]
   omega
theorem tupC_f {l:List Int} (hl:Byt l) (n m:Nat) (hn:n≤18) (a s:Int) (k:Nat) (hc:Cur a s m) (hm:m + 1000≤1099511600000) (hk:400 < k) :
  ∃(ts':List ByteArray) (a' s':Int),z8_.f k l a s (n:Int)=some (ts',a',s')∧ts'.length≤20∧(∀ x∈ts',x.size≤1000)∧Cur a' s' (m + 300):=by
 unfold z8_.f
 exact tupC_l hl n m hn n 0 [] a s k (by omega) rfl (fun x hx=>by cases hx) (by exact hc) hm (by omega)
/-- The rows drawn so far: in order, of n terms each. -/
def Inv (n:Nat) (rs:List Row):Prop:=Srt rs∧∀ ts∈rs,ts.length=n∧∀ t∈ts,Sh t
theorem inv_put {n:Nat} {rs:List Row} {t:Row} (h:Inv n rs) (ht:t.length=n∧∀ x∈t,Sh x):Inv n (put rs t).1:=by
 refine⟨srt_put rs t h.1,fun ts hts=>?_⟩
 rcases (mem_put rs t ts).1 hts with rfl|hts
 ·exact ht
 ·exact h.2 ts hts
theorem inv_out {n:Nat} (hn:n≤18) {rs:List Row} (h:Inv n rs):∀ r∈encR rs,r.f0.length≤20∧∀ x∈r.f0,x.size≤1000:=by
 intro r hr
 obtain⟨ts,hts,rfl⟩:=List.mem_map.1 hr
 obtain⟨h1,h2⟩:=h.2 ts hts
 refine⟨by show(enc ts).length≤20;rw [enc_len];omega,fun x hx=>?_⟩
 obtain⟨t,ht,rfl⟩:=List.mem_map.1 hx
 have:=rB_size (h2 t ht)
 omega
theorem rel_l {l:List Int} (hl:Byt l) (n m:Nat) (hn:n≤18):∀(d:Nat) (rs:List Row) (a s:Int) (k:Nat),d + rs.length≤20→Inv n rs→Cur a s (m + 30 * (20 - d))→m + 3000≤1099511600000→20000 + 60 * d < k →
  ∃(r:Int) (rows:List TI) (a' s':Int),z6_.l0 k (n:Int) (d:Int) l a s (n:Int) (encR rs)=some (r,rows,a',s')∧Out rows∧Cur a' s' (m + 2000)
 | 0,rs,a,s,k,hd,hi,hc,hm,hk=>by
  obtain⟨k,rfl⟩:∃ q,k=q + 1:=⟨k - 1,by omega⟩
  have hel:=encR_len rs
  have ho:=inv_out hn hi
  obtain⟨b,a2,s2,hb,hc2⟩:=once_f hl hc (by omega) 16
  rw [z6_.l0,if_neg (by omega),hb,Option.bind_some]
  simp only []
  cases b with
  | false =>
   rw [if_neg Bool.false_ne_true]
   exact⟨_,_,_,_,rfl,⟨by omega,ho⟩,hc2.mono (by omega)⟩
  | true =>
   obtain⟨y,a3,s3,hy,hy0,hy1,_,hc3⟩:=pick_f hl hc2 (by omega) 4
   have hy1:=hy1 (by omega)
   rw [if_pos rfl,hy,Option.bind_some]
   simp only []
   by_cases e0:y=0
   ·obtain⟨v,a4,s4,hv,_,_,hc4⟩:=raw_f hl hc3 (by omega)
    rw [if_pos e0,hv,Option.bind_some]
    exact⟨_,_,_,_,rfl,⟨by omega,ho⟩,hc4.mono (by omega)⟩
   ·rw [if_neg e0]
    by_cases e1:y=1
    ·obtain⟨ts,a4,s4,hv,h1,h2,hc4⟩:=tupC_f hl n _ hn a3 s3 k hc3 (by omega) (by omega)
     rw [if_pos e1,hv,Option.bind_some]
     simp only []
     rw [if_pos (by omega)]
     refine⟨_,_,_,_,rfl,⟨by rw [List.length_append,List.length_singleton];omega,fun r hr=>?_⟩,hc4.mono (by omega)⟩
     rcases List.mem_append.1 hr with hr|hr
     ·exact ho r hr
     ·rw [List.mem_singleton.1 hr]
      exact⟨h1,h2⟩
    ·rw [if_neg e1]
     by_cases e2:y=2
     ·rw [if_pos e2,if_pos (by omega)]
      refine⟨_,_,_,_,rfl,⟨by rw [List.length_append,List.length_singleton];omega,fun r hr=>?_⟩,hc3.mono (by omega)⟩
      rcases List.mem_append.1 hr with hr|hr
      ·exact ho r hr
      ·rw [List.mem_singleton.1 hr]
       exact⟨by simp,fun x hx=>by
        rw [List.mem_singleton.1 hx]
        decide⟩
     ·rw [if_neg e2]
      obtain⟨r,rows',a4,s4,hv,h1,hc4⟩:=num_l hl _ 402 0 [] a3 s3 k (by omega) rfl (fun r hr=>by cases hr) (by exact hc3) (by omega) (by omega)
      exact⟨r,rows',a4,s4,hv,h1,hc4.mono (by omega)⟩
 | d + 1,rs,a,s,k,hd,hi,hc,hm,hk=>by
  obtain⟨k,rfl⟩:∃ q,k=q + n + 2:=⟨k - n - 2,by omega⟩
  obtain⟨ts,a2,s2,h1,h2,hc2,h3⟩:=tup_l hl n (m + 30 * (20 - (d + 1))) (by omega) (encR rs) (n:Int) ((d + 1:Nat):Int) n 0 [] a s k (by omega) rfl (fun t ht=>by cases ht) (hc.mono (by omega)) (by omega)
  have hr:∀ ts∈rs,(∀ x∈ts,Sh x)∧ts.length≤1000:=fun q hq=>⟨(hi.2 q hq).2,by have:=(hi.2 q hq).1;omega⟩
  have hpl:=put_len rs ts
  rw [z6_.l0,if_pos (by omega)]
  show ∃(r:Int) (rows:List TI) (a' s':Int),z6_.l1 (k + n + 1) (n:Int) ((d + 1:Nat):Int) ((0:Nat):Int) l a s (n:Int) (encR rs) (enc [])=_∧_
  rw [h3,putS_f ts h2 (by omega) hi.1 hr (by omega) k (by omega),Option.bind_some,putE_enc,wrapS (n:=((d + 1:Nat):Int) - 1) (by omega) (by omega),show((d + 1:Nat):Int) - 1=(d:Int)by omega]
  exact rel_l hl n m hn d (put rs ts).1 a2 s2 k (by rw [hpl];split <;> omega) (inv_put hi ⟨h1,h2⟩) (hc2.mono (by omega)) hm (by omega)
theorem rel_f {l:List Int} (hl:Byt l) (n m:Nat) (hn:n≤18) (a s:Int) (k:Nat) (hc:Cur a s m) (hm:m + 4000≤1099511600000) (hk:30000 < k) :
  ∃(r:Int) (rows:List TI) (a' s':Int),z6_.f k l a s (n:Int)=some (r,rows,a',s')∧Out rows∧Cur a' s' (m + 2100):=by
 obtain⟨d,a2,s2,hd,hd2,hc2⟩:=sizeR_f hl hc (by omega) 7 (by omega) (by omega)
 unfold z6_.f
 rw [hd,Option.bind_some]
 obtain⟨r,rows,a3,s3,h1,h2,h3⟩:=rel_l hl n (m + 1) hn d [] a2 s2 k (by rw [List.length_nil];omega) ⟨srt_nil,fun ts hts=>by cases hts⟩ (hc2.mono (by omega)) (by omega) (by omega)
 exact⟨r,rows,a3,s3,h1,h2,h3.mono (by omega)⟩
end Go.Proofs.YtkajecadkkgfmaaGreatDoor.QDrawR
-- Cut by prune.py, a program of this session, out of the texts of this claim: Lean checks it.
namespace Go.Proofs.YtkajecadkkgfmaaGreatDoor.QLess
open Go.RowKit Go.Proofs.YtkajecadkkgfmaaGreatDoor.Pn Go.Proofs.YtkajecadkkgfmaaGreatDoorW.PrintWords Go.Proofs.YtkajecadkkgfmaaGreatDoorW.PrintLast Go.Proofs.YtkajecadkkgfmaaGreatDoor.QStr Go.Proofs.YtkajecadkkgfmaaGreatDoor.QLaws Go.Proofs.YtkajecadkkgfmaaGreatDoor.QLaw2 Go.Proofs.YtkajecadkkgfmaaGreatDoor.QLaw3 Go.Proofs.YtkajecadkkgfmaaGreatDoor.QRel Go.Proofs.YtkajecadkkgfmaaGreatDoor.QSeek
abbrev TI:=S36
theorem copyR_l (ar:Int) (rows:List TI) (hn:rows.length≤400) (hr:∀ r∈rows,r.f0.length≤1048576):∀(d i k:Nat) (out:List TI),i + d=rows.length→out.length + d≤800→d < k →
  impl_copyRel.l0 k rows (rows.length:Int) (i:Int) ar out=some (ar,out ++ rows.drop i)
 | d,i,0,_,_,_,hk=>absurd hk (Nat.not_lt_zero d)
 | 0,i,k + 1,out,h,_,_=>by
  rw [impl_copyRel.l0,if_neg (by omega),List.drop_of_length_le (by omega),List.append_nil]
 | d + 1,i,k + 1,out,h,ho,hk=>by
  have hi:i < rows.length:=by omega
  have hl:=hr rows[i] (List.getElem_mem hi)
  rw [impl_copyRel.l0,if_pos (by omega),if_pos (by omega),if_pos (by omega),QRel.rdI_get rows i hi,step_i (by omega),copy_f _ hl,Option.bind_some,if_pos (by omega),mk_f0,copyR_l ar rows hn hr d (i + 1) k _ (by omega) (by rw [List.length_append,List.length_singleton];omega) (by omega),List.drop_eq_getElem_cons hi,List.append_assoc]
  rfl
theorem hasS_l (rows:List TI) (l:List ByteArray) (hn:rows.length≤400) (hr:∀ r∈rows,r.f0.length≤1048576):∀(d i k:Nat),i + d=rows.length→d + 1048577 < k →
  spec_l02Has.l0 k rows (i:Int) l=some (hasT (rows.drop i) l)
 | 0,i,k,h,hk=>by
  obtain⟨k,rfl⟩:∃ m,k=m + 1:=⟨k - 1,by omega⟩
  rw [spec_l02Has.l0,if_neg (by omega),List.drop_of_length_le (by omega)]
  rfl
 | d + 1,i,k,h,hk=>by
  obtain⟨k,rfl⟩:∃ m,k=m + 1:=⟨k - 1,by omega⟩
  have hi:i < rows.length:=by omega
  have hl:=hr rows[i] (List.getElem_mem hi)
  have e:hasT (rows.drop i) l=(eqT rows[i].f0 l || hasT (rows.drop (i + 1)) l):=by
   rw [List.drop_eq_getElem_cons hi]
   rfl
  rw [spec_l02Has.l0,if_pos (by omega),if_pos (by omega),QRel.rdI_get rows i hi,step_i (by omega),same_f _ _ hl k (by omega),Option.bind_some,e]
  cases eqT rows[i].f0 l with
  | true=>rw [if_pos rfl,Bool.true_or]
  | false=>rw [if_neg Bool.false_ne_true,Bool.false_or,hasS_l rows l hn hr d (i + 1) k (by omega) (by omega)]
/-- What RelLess answers. -/
noncomputable def lessF (a:Int) (xs:List TI) (b:Int) (ys:List TI):Int×List TI:=if relB a xs=true∧relB b ys=true∧a=b then(a,xs.filter (keepB ys))else(0,[])
theorem impl_less_f (a:Int) (xs:List TI) (b:Int) (ys:List TI) (hx:FewI xs) (hy:FewI ys) (k:Nat) (hk:6000000 < k):impl_RelLess.f k a xs b ys=some (lessF a xs b ys):=by
 unfold impl_RelLess.f lessF
 rw [isRel_f a xs (fun r hr=>(hx.2 r hr).2) k (by omega),Option.bind_some]
 by_cases h:relB a xs=true
 ·rw [if_pos h,isRel_f b ys (fun r hr=>(hy.2 r hr).2) k (by omega),Option.bind_some]
  by_cases h2:relB b ys=true
  ·rw [if_pos h2]
   by_cases h3:a=b
   ·obtain⟨_,_,q1,q2⟩:=rel_rows h
    obtain⟨_,_,q3,q4⟩:=rel_rows h2
    have hc:impl_copyRel.f k a xs=some (a,xs):=by
     unfold impl_copyRel.f
     rw [show(0:Int)=((0:Nat):Int)from rfl,copyR_l a xs q1 (fun r hr=>(hx.2 r hr).1) xs.length 0 k [] (by omega) (by rw [List.length_nil];omega) (by omega),List.nil_append,List.drop_zero]
    have ho:okB ys xs=true:=by
     unfold okB
     simp only [Bool.and_eq_true,List.all_eq_true,decide_eq_true_eq]
     exact⟨by omega,by omega,fun r hr=>Nat.le_trans (hx.2 r hr).1 (by omega)⟩
    rw [if_pos h3,hc,Option.bind_some,if_pos ho,if_pos ⟨h,h2,h3⟩]
   ·rw [if_neg h3,if_neg (fun e=>h3 e.2.2)]
  ·rw [if_neg h2,if_neg (fun e=>h2 e.2.1)]
 ·rw [if_neg h,if_neg (fun e=>h e.1)]
end Go.Proofs.YtkajecadkkgfmaaGreatDoor.QLess
-- Cut by prune.py, a program of this session, out of the texts of this claim: Lean checks it.
namespace Go.Proofs.YtkajecadkkgfmaaGreatDoor.Pure
open Go.RowKit Go.Proofs.YtkajecadkkgfmaaGreatDoor.Pn Go.Proofs.YtkajecadkkgfmaaGreatDoorW.PrintWords Go.Proofs.YtkajecadkkgfmaaGreatDoorW.PrintLast Go.Proofs.YtkajecadkkgfmaaGreatDoor.QStr Go.Proofs.YtkajecadkkgfmaaGreatDoor.QCur Go.Proofs.YtkajecadkkgfmaaGreatDoor.QDraw Go.Proofs.YtkajecadkkgfmaaGreatDoor.QLaws Go.Proofs.YtkajecadkkgfmaaGreatDoor.QLaw2 Go.Proofs.YtkajecadkkgfmaaGreatDoor.QLaw3 Go.Proofs.YtkajecadkkgfmaaGreatDoor.QRel Go.Proofs.YtkajecadkkgfmaaGreatDoor.QSeek Go.Proofs.YtkajecadkkgfmaaGreatDoor.QTup Go.Proofs.YtkajecadkkgfmaaGreatDoor.QTerms Go.Proofs.YtkajecadkkgfmaaGreatDoor.QPut Go.Proofs.YtkajecadkkgfmaaGreatDoor.QDrawR Go.Proofs.YtkajecadkkgfmaaGreatDoor.QLess
theorem sameK_l (a:List ByteArray) (hn:a.length≤1048576):∀(d i k:Nat),i + d=a.length→d < k→laws_sameTexts.l0 k a a (i:Int)=some true
 | d,i,0,_,hk=>absurd hk (Nat.not_lt_zero d)
 | 0,i,k + 1,h,_=>by rw [laws_sameTexts.l0,if_neg (by omega)]
 | d + 1,i,k + 1,h,hk=>by
  rw [laws_sameTexts.l0,if_pos (by omega),if_pos (by omega),if_pos (by omega),if_pos rfl,step_i (by omega)]
  exact sameK_l a hn d (i + 1) k (by omega) (by omega)
theorem sameK_f (a:List ByteArray) (hn:a.length≤1048576) (k:Nat) (hk:1048577 < k):laws_sameTexts.f k a a=some true:=by
 unfold laws_sameTexts.f
 rw [if_pos rfl]
 exact sameK_l a hn a.length 0 k (by omega) (by omega)
theorem sameR_l (a:List QDrawR.TI) (ha:FewI a):∀(d i k:Nat),i + d=a.length→d + 1048578 < k→laws_sameRows.l0 k a a (i:Int)=some true
 | d,i,0,_,hk=>absurd hk (Nat.not_lt_zero _)
 | 0,i,k + 1,h,_=>by rw [laws_sameRows.l0,if_neg (by omega)]
 | d + 1,i,k + 1,h,hk=>by
  have hi:i < a.length:=by omega
  have:=ha.1
  rw [laws_sameRows.l0,if_pos (by omega),if_pos (by omega),if_pos (by omega),QRel.rdI_get a i hi,sameK_f _ (ha.2 _ (List.getElem_mem hi)).1 k (by omega),Option.bind_some,if_pos rfl,step_i (by omega)]
  exact sameR_l a ha d (i + 1) k (by omega) (by omega)
theorem sameRel_f (x:Int) (a:List QDrawR.TI) (ha:FewI a) (k:Nat) (hk:3000000 < k):laws_sameRel.f k x a x a=some true:=by
 have:=ha.1
 unfold laws_sameRel.f laws_sameRows.f
 rw [if_pos rfl,if_pos rfl,show(0:Int)=((0:Nat):Int)from rfl,sameR_l a ha a.length 0 k (by omega) (by omega),Option.bind_some]
theorem drawPut_f {l:List Int} (hl:Byt l) (k:Nat) (hk:40000 < k):∃(ar:Int) (rows:List QDrawR.TI) (t:List ByteArray),spec_DrawRelPut.f k l=some (ar,rows,t)∧Out rows∧t.length≤20∧∀ x∈t,x.size≤1000:=by
 unfold spec_DrawRelPut.f
 obtain⟨s,ho,hc⟩:=open_f l
 rw [ho,Option.bind_some]
 simp only []
 obtain⟨x,a1,s1,hx,hx0,hx1,_,hc1⟩:=pick_f hl hc (by omega) 3
 have hx1:=hx1 (by omega)
 obtain⟨n,rfl⟩:∃ n:Nat,x=(n:Int):=⟨x.toNat,by omega⟩
 rw [hx,Option.bind_some]
 simp only []
 obtain⟨ar,rows,a2,s2,hr,hout,hc2⟩:=rel_f hl n 1 (by omega) a1 s1 k (hc1.mono (by omega)) (by omega) (by omega)
 rw [hr,Option.bind_some]
 simp only []
 have hj:∀(b:Bool) (a s:Int),Cur a s 2200→(b=true→0 < rows.length)→∃(ar':Int) (rows':List QDrawR.TI) (t:List ByteArray),spec_DrawRelPut.j0 k (n:Int) b l a s ar rows=some (ar',rows',t)∧Out rows'∧t.length≤20∧∀ x∈t,x.size≤1000:=by
  intro b a s hc hb
  obtain⟨k,rfl⟩:∃ q,k=q + 1:=⟨k - 1,by omega⟩
  rw [spec_DrawRelPut.j0]
  cases b with
  | false =>
   obtain⟨ts,a4,s4,hv,h1,h2,hc4⟩:=tupC_f hl n _ (by omega) a s k hc (by omega) (by omega)
   rw [if_neg Bool.false_ne_true,hv,Option.bind_some]
   exact⟨_,_,_,rfl,hout,h1,h2⟩
  | true =>
   have hp:=hb rfl
   obtain⟨y,a3,s3,hy,hy0,hy1,hy2,hc3⟩:=pick_f hl hc (by omega) (rows.length:Int)
   have hlt:y < (rows.length:Int):=by
    by_cases h:2≤(rows.length:Int)
    ·exact hy1 h
    ·have:=hy2 (by omega)
     omega
   obtain⟨i,rfl⟩:∃ i:Nat,y=(i:Int):=⟨y.toNat,by omega⟩
   have hi:i < rows.length:=by omega
   have hrow:=hout.2 rows[i] (List.getElem_mem hi)
   rw [if_pos rfl,hy,Option.bind_some]
   simp only []
   rw [if_pos hy0,if_pos hlt,QRel.rdI_get rows i hi,tuple_f _ (by omega),Option.bind_some]
   exact⟨_,_,_,rfl,hout,hrow.1,hrow.2⟩
 by_cases h0:(rows.length:Int) > 0
 ·obtain⟨y,a3,s3,hy,_,_,_,hc3⟩:=pick_f hl hc2 (by omega) 3
  rw [if_pos h0,hy,Option.bind_some]
  exact hj _ _ _ (hc3.mono (by omega)) (fun _=>by omega)
 ·rw [if_neg h0]
  exact hj _ _ _ (hc2.mono (by omega)) (fun h=>by cases h)
/-- What is right of rows and of a tuple among them. -/
def Right (a:Int) (rs:List Row):Prop:=(0≤a∧a≤6)∧rs.length≤400∧(∀ ts∈rs,Ar a ts)∧Srt rs
theorem right_rel {a:Int} {rs:List Row} (h:Right a rs):relB a (encR rs)=true:=(relB_iff a (encR rs)).2 ⟨h.1,rs,rfl,h.2⟩
theorem enc_few {a:Int} {t:Row} (h:Ar a t):Few (enc t):=by
 obtain⟨h1,h2,h3⟩:=h
 refine⟨by rw [enc_len];omega,fun x hx=>?_⟩
 obtain⟨u,hu,rfl⟩:=List.mem_map.1 hx
 have:=rB_size (h3 u hu)
 omega
theorem right_few {a:Int} {rs:List Row} (h:Right a rs):FewI (encR rs):=by
 refine⟨by rw [encR_len];have:=h.2.1;omega,fun r hr=>?_⟩
 obtain⟨t,ht,rfl⟩:=List.mem_map.1 hr
 exact enc_few (h.2.2.1 t ht)
open Classical in
theorem impl_put_val {a:Int} {rs:List Row} {t:Row} (h:Right a rs) (ht:Ar a t) (k:Nat) (hk:6000000 < k):impl_RelPut.f k a (encR rs) (enc t)=some (putR a rs t):=by
 obtain⟨h1,h2,h3,h4⟩:=h
 obtain⟨t1,t2,t3⟩:=ht
 have hf:=right_few ⟨h1,h2,h3,h4⟩
 have hft:=enc_few (a:=a) ⟨t1,t2,t3⟩
 have hel:=encR_len rs
 have hr:∀ ts∈rs,(∀ x∈ts,Sh x)∧ts.length≤1000:=fun ts hts=>⟨(h3 ts hts).2.2,by have:=(h3 ts hts).2.1;omega⟩
 have hpl:=place_le rs t
 have hit:isTup (enc t)=some t:=isTup_iff.2 ⟨t2,t3,rfl⟩
 unfold impl_RelPut.f
 rw [isRel_f a _ (fun r hr=>(hf.2 r hr).2) k (by omega),Option.bind_some,if_pos (right_rel ⟨h1,h2,h3,h4⟩),isTuple_f _ hft.2 k (by omega),Option.bind_some,hit,Option.isSome_some,if_pos rfl,if_pos (by rw [enc_len];exact t1),copyI_f a _ (by omega) (fun r hr=>(hf.2 r hr).1) k (by omega),Option.bind_some,if_pos (by simp only [];omega)]
 simp only []
 rw [placeB_f t t3 (by omega) h4 hr k (by omega),Option.bind_some]
 unfold putR
 by_cases hm:t∈rs
 ·rw [if_pos hm,decide_eq_true hm,if_pos rfl]
 ·rw [if_neg hm,decide_eq_false hm,if_neg Bool.false_ne_true]
  by_cases h4:rs.length=400
  ·rw [if_pos h4,if_pos (by omega)]
  ·rw [if_neg h4,if_neg (by omega),copy_f _ hft.1,Option.bind_some,ins_at _ _ _ (by omega)]
/-- What the program's put comes to. -/
theorem put_desc (a:Int) (xs:List QDrawR.TI) (l:List ByteArray) (hx:FewI xs) (hl:Few l):∃ k0,6000000 < k0∧(impl_RelPut.f k0 a xs l=some (0,[],false)∨∃ rs t,Right a rs∧Ar a t∧xs=encR rs∧l=enc t∧impl_RelPut.f k0 a xs l=some (putR a rs t)):=by
 refine⟨6000001,by omega, ?_⟩
 by_cases h1:relB a xs=true
 ·cases h2:isTup l with
  | none =>
   refine .inl ?_
   unfold impl_RelPut.f
   rw [isRel_f a xs (fun r hr=>(hx.2 r hr).2) _ (by omega),Option.bind_some,if_pos h1,isTuple_f l hl.2 _ (by omega),Option.bind_some,h2,if_neg (by decide)]
  | some t =>
   by_cases h3:(l.length:Int)=a
   ·obtain⟨t1,t2,t3⟩:=isTup_iff.1 h2
    obtain⟨hae,rs,e,hn,har,hs⟩:=(relB_iff a xs).1 h1
    have hat:Ar a t:=⟨by rw [t3,enc_len]at h3;exact h3,t1,t2⟩
    refine .inr ⟨rs,t,⟨hae,hn,har,hs⟩,hat,e,t3, ?_⟩
    rw [e,t3]
    exact impl_put_val ⟨hae,hn,har,hs⟩ hat _ (by omega)
   ·refine .inl ?_
    unfold impl_RelPut.f
    rw [isRel_f a xs (fun r hr=>(hx.2 r hr).2) _ (by omega),Option.bind_some,if_pos h1,isTuple_f l hl.2 _ (by omega),Option.bind_some,h2,Option.isSome_some,if_pos rfl,if_neg h3]
 ·refine .inl ?_
  unfold impl_RelPut.f
  rw [isRel_f a xs (fun r hr=>(hx.2 r hr).2) _ (by omega),Option.bind_some,if_neg h1]
theorem enc_inj {t u:Row} (ht:∀ x∈t,Sh x) (hu:∀ x∈u,Sh x) (h:enc t=enc u):t=u:=by
 have h1:=prsL_enc t ht
 rw [h,prsL_enc u hu]at h1
 injection h1 with h1
 exact h1.symm
theorem same_enc {t u:Row} (ht:∀ x∈t,Sh x) (hu:∀ x∈u,Sh x):sameT (enc t) (enc u)=true↔t=u:=by
 unfold sameT
 rw [decide_eq_true_eq]
 constructor
 ·intro h
  refine enc_inj ht hu ?_
  apply List.ext_getElem?
  intro i
  have:=congrArg (fun l=>l[i]?) h
  simp only [List.getElem?_map]at this
  cases h1:(enc t)[i]? with
  | none =>
   rw [h1]at this
   cases h2:(enc u)[i]? with
   | none=>rfl
   | some y=>rw [h2]at this;cases this
  | some x =>
   rw [h1]at this
   cases h2:(enc u)[i]? with
   | none=>rw [h2]at this;cases this
   | some y =>
    rw [h2]at this
    simp only [Option.map_some,Option.some.injEq]at this
    congr 1
    exact ByteArray.ext (Array.toList_inj.1 this)
 ·rintro rfl
  rfl
theorem has_enc {a:Int} {rs:List Row} (h:∀ ts∈rs,Ar a ts) {t:Row} (ht:Ar a t):hasT (encR rs) (enc t)=true↔t∈rs:=by
 unfold hasT encR
 rw [List.any_eq_true]
 constructor
 ·rintro⟨o,ho,hs⟩
  obtain⟨u,hu,rfl⟩:=List.mem_map.1 ho
  rw [← (same_enc (h u hu).2.2 ht.2.2).1 hs]
  exact hu
 ·intro hm
  exact⟨⟨enc t⟩,List.mem_map_of_mem hm,(same_enc ht.2.2 ht.2.2).2 rfl⟩
open Classical in
theorem filter_enc {a:Int} {rs:List Row} (h:∀ ts∈rs,Ar a ts):∀ us:List Row,(∀ ts∈us,Ar a ts)→(encR us).filter (keepB (encR rs))=encR (us.filter fun u=>decide (¬ u∈rs))
 | [],_=>rfl
 | u :: us,hu=>by
  have ih:=filter_enc h us (fun ts hts=>hu ts (by simp [hts]))
  have hk:keepB (encR rs) ⟨enc u⟩=decide (¬ u∈rs):=by
   unfold keepB
   have:=has_enc h (hu u (by simp))
   by_cases hm:u∈rs
   ·rw [this.2 hm,decide_eq_false (by simpa using hm)]
    rfl
   ·rw [Bool.eq_false_iff.2 (fun h=>hm (this.1 h)),decide_eq_true hm]
    rfl
  show List.filter _ ((⟨enc u⟩:QDrawR.TI) :: encR us)=_
  rw [List.filter_cons,List.filter_cons,hk,ih]
  split <;> rfl
theorem right_put {a:Int} {rs:List Row} {t:Row} (h:Right a rs) (ht:Ar a t) (hn:rs.length < 400):Right a (put rs t).1:=by
 refine⟨h.1, ?_,fun ts hts=>?_,srt_put rs t h.2.2.2⟩
 ·rw [put_len]
  split <;> omega
 ·rcases (mem_put rs t ts).1 hts with rfl|hts
  ·exact ht
  ·exact h.2.2.1 ts hts
open Classical in
theorem kept_j {a:Int} {rs us:List Row} {t:Row} (h:Right a rs) (hu:Right a us) (ht:Ar a t) (hm:t∈us) (b:Bool) (hl:us.length=rs.length + if b=true then 1 else 0) (hb:b=decide (¬ t∈rs)) (hf:(us.filter fun u=>decide (¬ u∈rs)).length=if b=true then 1 else 0) (k:Nat) (hk:8000000 < k) :
  (encR us).length≠0∧impl_RelPut.f k a (encR us) (enc t)=some (a,encR us,false)∧impl_RelOk.f k a (encR us)=some true∧impl_RelHas.f k a (encR us) (enc t)=some true∧∃(er:Int) (es:List QDrawR.TI),impl_RelLess.f k a (encR us) a (encR rs)=some (er,es)∧spec_RelHas.f k a (encR rs) (enc t)=some (!b)∧(encR rs).length≤1000∧es.length=(if b=true then 1 else 0)∧(encR us).length=(encR rs).length + (if b=true then 1 else 0):=by
 have hp:0 < us.length:=List.length_pos_of_mem hm
 have hfr:=right_few h
 have hfu:=right_few hu
 have hft:=enc_few ht
 have hrl:=encR_len rs
 have hul:=encR_len us
 have h400:=h.2.1
 have hu400:=hu.2.1
 have hput:=impl_put_val hu ht k (by omega)
 have hpr:putR a us t=(a,encR us,false):=by unfold putR;rw [if_pos hm]
 have hhas:impl_RelHas.f k a (encR us) (enc t)=some true:=by
  unfold impl_RelHas.f
  rw [isRel_f a _ (fun r hr=>(hfu.2 r hr).2) _ (by omega),Option.bind_some,if_pos (right_rel hu),has_some a _ _ (by omega) (by have:=hft.1;omega),Option.bind_some,(has_enc hu.2.2.1 ht).2 hm]
 have hok:impl_RelOk.f k a (encR us)=some true:=by
  unfold impl_RelOk.f
  rw [isRel_f a _ (fun r hr=>(hfu.2 r hr).2) _ (by omega),Option.bind_some,right_rel hu]
 have hless:=impl_less_f a (encR us) a (encR rs) hfu hfr k (by omega)
 have hlf:lessF a (encR us) a (encR rs)=(a,encR (us.filter fun u=>decide (¬ u∈rs))):=by
  unfold lessF
  rw [if_pos ⟨right_rel hu,right_rel h,rfl⟩,filter_enc h.2.2.1 us hu.2.2.1]
 have hsh:spec_RelHas.f k a (encR rs) (enc t)=some (!b):=by
  unfold spec_RelHas.f spec_l02Has.f
  rw [relOk_f a _ (fun r hr=>(hfr.2 r hr).2) _ (by omega),Option.bind_some,if_pos (right_rel h),show(0:Int)=((0:Nat):Int)from rfl,hasS_l (encR rs) (enc t) (by omega) (fun r hr=>(hfr.2 r hr).1) (encR rs).length 0 k (by omega) (by omega),Option.bind_some,List.drop_zero,hb]
  have:=has_enc h.2.2.1 ht
  by_cases hm:t∈rs
  ·rw [this.2 hm,decide_eq_false (by simpa using hm)]
   rfl
  ·rw [Bool.eq_false_iff.2 (fun h=>hm (this.1 h)),decide_eq_true hm]
   rfl
 have hlen:(encR (us.filter fun u=>decide (¬ u∈rs))).length=if b=true then 1 else 0:=by rw [encR_len];exact hf
 exact⟨by omega,by rw [hput,hpr],hok,hhas,_,_,by rw [hless,hlf],hsh,by omega,hlen,by omega⟩
open Classical in
theorem FnRelKept:laws_FnRelKept.Pure:=by
 intro l hl
 have hl:=byt_of hl
 obtain⟨k,hK⟩:∃ K:Nat,K=9000000:=⟨_,rfl⟩
 refine⟨k,decide ((l.length:Int) > 1048576),rfl, ?_⟩
 cases hb:decide ((l.length:Int) > 1048576)with
 | true=>exact .inl rfl
 | false =>
 obtain⟨ar,rows,t,hd,hout,ht1,ht2⟩:=drawPut_f hl k (by omega)
 have hf:=out_few hout
 have hft:Few t:=⟨by omega,fun x hx=>by have:=ht2 x hx;omega⟩
 obtain⟨⟨gr,gs,gb⟩,p1,p2,hg,_⟩:=put_both ar rows t hf hft
 simp only []at hg
 obtain⟨k0,hk0,hdesc⟩:=put_desc ar rows t hf hft
 rw [p1 k0 hk0]at hdesc
 refine .inr ⟨rfl,ar,rows,t,gr,gs,gb,relB ar rows,hd,p1 k (by omega),p2 k (by omega),sameRel_f gr gs hg k (by omega), ?_, ?_⟩
 ·unfold spec_RelOk.f
  exact relOk_f ar rows (fun r hr=>(hf.2 r hr).2) k (by omega)
 rcases hdesc with h|⟨rs,u,hR,hA,e1,e2,h⟩
 ·simp only [Option.some.injEq,Prod.mk.injEq]at h
  obtain⟨rfl,rfl,rfl⟩:=h
  cases relB ar rows with
  | false=>exact .inl ⟨rfl,rfl⟩
  | true=>exact .inr (.inl ⟨rfl,rfl,rfl⟩)
 ·have hrel:relB ar rows=true:=by rw [e1];exact right_rel hR
  unfold putR at h
  by_cases hm:u∈rs
  ·rw [if_pos hm]at h
   simp only [Option.some.injEq,Prod.mk.injEq]at h
   obtain⟨rfl,rfl,rfl⟩:=h
   refine .inr (.inr ⟨hrel, ?_⟩)
   rw [e1,e2]
   refine kept_j hR hR hA hm false (by simp) (decide_eq_false (by simpa using hm)).symm ?_ k (by omega)
   rw [List.filter_eq_nil_iff.2 (fun x hx=>by simpa using hx)]
   rfl
  ·rw [if_neg hm]at h
   by_cases h4:rs.length=400
   ·rw [if_pos h4]at h
    simp only [Option.some.injEq,Prod.mk.injEq]at h
    obtain⟨rfl,rfl,rfl⟩:=h
    exact .inr (.inl ⟨hrel,rfl,rfl⟩)
   ·rw [if_neg h4]at h
    have hpe:=putE_enc rs u
    unfold putE at hpe
    rw [if_neg hm]at hpe
    simp only [Prod.mk.injEq]at hpe
    rw [hpe.1]at h
    simp only [Option.some.injEq,Prod.mk.injEq]at h
    obtain⟨rfl,rfl,rfl⟩:=h
    have hn:=hR.2.1
    have hpl:=put_len rs u
    rw [← hpe.2]at hpl
    refine .inr (.inr ⟨hrel, ?_⟩)
    rw [e1,e2]
    refine kept_j hR (right_put hR hA (by omega)) hA ((mem_put rs u u).2 (.inl rfl)) true hpl (decide_eq_true hm).symm ?_ k (by omega)
    unfold put
    rw [if_neg hm]
    simp only []
    rw [List.filter_append,List.filter_cons,if_pos (by simpa using hm),List.filter_eq_nil_iff.2 (fun x hx=>by simpa using List.mem_of_mem_take hx),List.filter_eq_nil_iff.2 (fun x hx=>by simpa using List.mem_of_mem_drop hx)]
    rfl
end Go.Proofs.YtkajecadkkgfmaaGreatDoor.Pure
