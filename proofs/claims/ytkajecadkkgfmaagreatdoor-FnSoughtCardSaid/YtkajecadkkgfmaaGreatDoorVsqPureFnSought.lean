import Derived.Test.YtkajecadkkgfmaaGreatDoorVsqQStr
import Derived.OpenShut
import Derived.Test.YtkajecadkkgfmaaGreatDoorVsqPnx9
import Derived.Test.YtkajecadkkgfmaaGreatDoorVsqPnx27
import Derived.Test.YtkajecadkkgfmaaGreatDoorVsqQNum
import Derived.Test.YtkajecadkkgfmaaGreatDoorVsqQTm
import Derived.Test.YtkajecadkkgfmaaGreatDoorVsqQPut
import Derived.Test.YtkajecadkkgfmaaGreatDoorVsqPnx29
import Derived.Test.YtkajecadkkgfmaaGreatDoorVsqPnx31
-- Cut by prune.py, a program of this session, out of the texts of this claim: Lean checks it.
namespace Go.Proofs.YtkajecadkkgfmaaGreatDoor.QCur
open Go.RowKit Go.Proofs.YtkajecadkkgfmaaGreatDoor.Pn Go.Proofs.YtkajecadkkgfmaaGreatDoorW.PrintWords Go.Proofs.YtkajecadkkgfmaaGreatDoorW.PrintLast Go.Proofs.YtkajecadkkgfmaaGreatDoor.QStr
def Byt (l:List Int):Prop:=l.length≤140737488351232∧∀ x∈l,0≤x∧x≤255
/-- A drawer's place and seed. -/
def Cur (a s:Int) (n:Nat):Prop:=0≤a∧a≤n∧0≤s∧s≤70000
theorem Cur.mono {a s:Int} {n m:Nat} (h:Cur a s n) (hm:n≤m):Cur a s m:=⟨h.1,by have:=h.2.1;omega,h.2.2.1,h.2.2.2⟩
theorem rd_byt {l:List Int} (h:Byt l) (i:Int):0≤rd l i∧rd l i≤255:=by
 unfold rd
 rw [List.getD_eq_getElem?_getD]
 by_cases hi:i.toNat < l.length
 ·rw [List.getElem?_eq_getElem hi,Option.getD_some]
  exact h.2 _ (List.getElem_mem hi)
 ·rw [List.getElem?_eq_none (by omega),Option.getD_none]
  omega
theorem tmod_nn {a b:Int} (ha:0≤a) (hb:0 < b):0≤Int.tmod a b∧Int.tmod a b < b:=by
 rw [Int.tmod_eq_emod_of_nonneg ha]
 exact⟨Int.emod_nonneg _ (by omega),Int.emod_lt_of_pos _ hb⟩
theorem seed_step {s:Int} (h0:0≤s) (h1:s≤70000):0≤Int.tmod (wrap64 ((wrap64 (s * 1103)) + 12345)) 65521∧Int.tmod (wrap64 ((wrap64 (s * 1103)) + 12345)) 65521 < 65521:=by
 rw [wrapS (n:=s * 1103) (by omega) (by omega),wrapS (by omega) (by omega)]
 exact tmod_nn (by omega) (by omega)
theorem pick_f {l:List Int} (hl:Byt l) {a s:Int} {n:Nat} (hc:Cur a s n) (hn:n≤1099511627776) (m:Int) :
  ∃ x a' s',z6_.f l a s m=some (x,a',s')∧0≤x∧(2≤m→x < m)∧(m < 2→x=0)∧Cur a' s' (n + 1):=by
 obtain⟨h1,h2,h3,h4⟩:=hc
 unfold z6_.f
 by_cases hm:m < 2
 ·rw [if_pos hm]
  exact⟨_,_,_,rfl,Int.le_refl _,fun h=>by omega,fun _=>rfl,h1,by omega,h3,h4⟩
 rw [if_neg hm,if_neg (show ¬ m=0 by omega),if_neg (show ¬ m=0 by omega),if_neg (show ¬ m=0 by omega),wrapS (n:=a + 1) (by omega) (by omega)]
 have hs:=seed_step h3 h4
 generalize Int.tmod (wrap64 ((wrap64 (s * 1103)) + 12345)) 65521=t at hs ⊢
 by_cases hlt:a < (l.length:Int)
 ·have hr:=rd_byt hl a
  have hx:=tmod_nn (b:=m) hr.1 (by omega)
  rw [if_pos hlt,if_pos h1,wrapS (n:=rd l a) (by omega) (by omega)]
  exact⟨_,_,_,rfl,hx.1,fun _=>hx.2,fun h=>absurd h hm,by omega,by omega,h3,h4⟩
 rw [if_neg hlt]
 by_cases hp:(l.length:Int) > 0
 ·have hi:=tmod_nn h1 hp
  have hr:=rd_byt hl (Int.tmod a (l.length:Int))
  have hq:0≤Int.tdiv t 7∧Int.tdiv t 7≤65521:=by
   rw [Int.tdiv_eq_ediv_of_nonneg hs.1]
   omega
  have hx:=tmod_nn (a:=Int.tdiv t 7 + rd l (Int.tmod a (l.length:Int))) (b:=m) (by omega) (by omega)
  rw [if_pos hp,if_neg (show ¬(l.length:Int)=0 by omega),if_pos hi.1,if_pos hi.2,wrapS (n:=Int.tdiv t 7) (by omega) (by omega),wrapS (n:=rd l (Int.tmod a (l.length:Int))) (by omega) (by omega),wrapS (by omega) (by omega)]
  exact⟨_,_,_,rfl,hx.1,fun _=>hx.2,fun h=>absurd h hm,by omega,by omega,hs.1,by omega⟩
 ·rw [if_neg hp]
  have hx:(0:Int) % m=0:=Int.zero_emod m
  rw [hx]
  exact⟨_,_,_,rfl,by omega,fun h=>by omega,fun h=>absurd h hm,by omega,by omega,hs.1,by omega⟩
theorem open_f (l:List Int):∃ s,spec_l01Open.f l=some (l,0,s)∧Cur 0 s 0:=by
 unfold spec_l01Open.f
 exact⟨_,rfl,by omega,by omega,by omega,by omega⟩
theorem byt_of {l:List Int} (h:l.length≤maxLen∧l.length * 1≤140737488351232∧∀ x∈l,(Lit.int .u8 x).wf=true):Byt l:=by
 refine⟨by omega,fun x hx=>?_⟩
 exact bounds_u8 (h.2.2 x hx)
theorem rd_mem (l:List Int) (i:Int) (h1:0≤i) (h2:i < (l.length:Int)):rd l i∈l:=by
 unfold rd
 rw [List.getD_eq_getElem?_getD,List.getElem?_eq_getElem (by omega),Option.getD_some]
 exact List.getElem_mem _
theorem raw_f {l:List Int} (hl:Byt l) {a s:Int} {n:Nat} (hc:Cur a s n) (hn:n≤1099511627000) :
  ∃ v a' s',spec_l01Cur_raw.f l a s=some (v,a',s')∧-9223372036854775808≤v∧v≤9223372036854775807∧Cur a' s' (n + 2):=by
 unfold spec_l01Cur_raw.f
 obtain⟨x,a1,s1,hx,hx0,hx1,_,hc1⟩:=pick_f hl hc (by omega) 8
 rw [hx,Option.bind_some]
 simp only []
 by_cases h0:x=0
 ·obtain⟨y,a2,s2,hy,hy0,hy1,_,hc2⟩:=pick_f hl hc1 (by omega) 256
  have hy1:=hy1 (by omega)
  rw [if_pos h0,hy,Option.bind_some]
  simp only []
  rw [wrapS (by omega) (by omega)]
  exact⟨_,_,_,rfl,by omega,by omega,hc2⟩
 rw [if_neg h0]
 by_cases h1:x=1
 ·obtain⟨y,a2,s2,hy,hy0,hy1,_,hc2⟩:=pick_f hl hc1 (by omega) 8
  have hy1:=hy1 (by omega)
  rw [if_pos h1,Option.bind_some,hy,Option.bind_some]
  simp only []
  rw [if_pos hy0,if_pos (show y < (([9223372036854775807, -9223372036854775808,4611686018427387904,1000,1001, -1000,100000,100001]:List Int).length:Int)from hy1)]
  have hm:=rd_mem [9223372036854775807, -9223372036854775808,4611686018427387904,1000,1001, -1000,100000,100001] y hy0 hy1
  refine⟨_,_,_,rfl, ?_, ?_,hc2⟩
  ·simp only [List.mem_cons,List.not_mem_nil,or_false]at hm
   omega
  ·simp only [List.mem_cons,List.not_mem_nil,or_false]at hm
   omega
 rw [if_neg h1]
 obtain⟨y,a2,s2,hy,hy0,hy1,_,hc2⟩:=pick_f hl hc1 (by omega) 14
 have hy1:=hy1 (by omega)
 rw [hy,Option.bind_some]
 simp only []
 rw [wrapS (by omega) (by omega)]
 exact⟨_,_,_,rfl,by omega,by omega,hc2⟩
end Go.Proofs.YtkajecadkkgfmaaGreatDoor.QCur
-- Cut by prune.py, a program of this session, out of the texts of this claim: Lean checks it.
namespace Go.Proofs.YtkajecadkkgfmaaGreatDoor.QDraw
open Go.RowKit Go.Proofs.YtkajecadkkgfmaaGreatDoor.Pn Go.Proofs.YtkajecadkkgfmaaGreatDoorW.PrintWords Go.Proofs.YtkajecadkkgfmaaGreatDoorW.PrintLast Go.Proofs.YtkajecadkkgfmaaGreatDoor.QStr Go.Proofs.YtkajecadkkgfmaaGreatDoor.QTm Go.Proofs.YtkajecadkkgfmaaGreatDoor.QCur
theorem rdOf_le (l:List ByteArray) (i:Int) (m:Nat) (h:∀ s∈l,s.size≤m):(rdOf ByteArray.empty l i).size≤m:=by
 unfold rdOf
 rw [List.getD_eq_getElem?_getD]
 by_cases hi:i.toNat < l.length
 ·rw [List.getElem?_eq_getElem hi,Option.getD_some]
  exact h _ (List.getElem_mem hi)
 ·rw [List.getElem?_eq_none (by omega),Option.getD_none]
  exact Nat.zero_le _
theorem itoa_short (v:Int) (h:-1000000≤v∧v≤1000000):(Lib.itoa v).length≤8:=by
 unfold Lib.itoa
 by_cases hw:v < 0
 ·rw [if_pos hw,List.length_cons]
  have:=dec_len v.natAbs 6 (by omega)
  omega
 ·rw [if_neg hw]
  have:=dec_len v.toNat 6 (by omega)
  omega
/-- A drawn term that has no parts. -/
theorem leaf_f {l:List Int} (hl:Byt l) (x1 x5:Int) (h0:0≤x5) (h4:x5≤4) {a s:Int} {n:Nat} (hc:Cur a s n) (hn:n≤1099511627000) (k:Nat) (hk:25 < k) :
  ∃ t a' s',z8_.j1 k x1 x5 l a s=some (t,a',s')∧t.size≤20∧Cur a' s' (n + 1):=by
 obtain⟨k,rfl⟩:∃ m,k=m + 2:=⟨k - 2,by omega⟩
 have hj:z8_.j1 (k + 2) x1 x5 l a s=z8_.j2 (k + 1) x1 x5 (decide (x5≤2)) l a s:=by
  rw [z8_.j1]
  by_cases e0:x5=0
  ·rw [if_pos e0,e0];rfl
  ·rw [if_neg e0]
   by_cases e1:x5=1
   ·rw [if_pos e1,e1];rfl
   ·rw [if_neg e1]
    congr 1
    rw [Bool.eq_iff_iff,beq_iff_eq,decide_eq_true_eq]
    omega
 rw [hj,z8_.j2]
 by_cases h2:x5≤2
 ·obtain⟨y,a2,s2,hy,hy0,hy1,_,hc2⟩:=pick_f hl hc (by omega) 8
  have hy1:=hy1 (by omega)
  have hm:=rd_mem [0,1,2,3,(-1),10,1000000,(-1000000)] y hy0 (by exact hy1)
  have hv:-1000000≤rd [0,1,2,3,(-1),10,1000000,(-1000000)] y∧rd [0,1,2,3,(-1),10,1000000,(-1000000)] y≤1000000:=by
   simp only [List.mem_cons,List.not_mem_nil,or_false]at hm
   omega
  rw [decide_eq_true h2,if_pos rfl,Option.bind_some,hy,Option.bind_some]
  simp only []
  rw [if_pos hy0,if_pos (by exact hy1),QNum.numText _ (by omega) (by omega) k (by omega),Option.bind_some]
  exact⟨_,_,_,rfl,by have:=itoa_short _ hv;show(Lib.itoa _).length≤20;omega,hc2⟩
 ·rw [decide_eq_false h2,if_neg (by decide)]
  by_cases h3:x5=3
  ·obtain⟨y,a2,s2,hy,hy0,hy1,_,hc2⟩:=pick_f hl hc (by omega) 5
   have hy1:=hy1 (by omega)
   rw [if_pos h3,Option.bind_some,hy,Option.bind_some]
   simp only []
   rw [if_pos hy0,if_pos (by exact hy1)]
   exact⟨_,_,_,rfl,rdOf_le _ _ 20 (by decide),hc2⟩
  ·obtain⟨y,a2,s2,hy,hy0,hy1,_,hc2⟩:=pick_f hl hc (by omega) 4
   have hy1:=hy1 (by omega)
   rw [if_neg h3,if_pos (by omega),Option.bind_some,hy,Option.bind_some]
   simp only []
   rw [if_pos hy0,if_pos (by exact hy1)]
   exact⟨_,_,_,rfl,rdOf_le _ _ 20 (by decide),hc2⟩
theorem z5:(⟨#[67,111,110,115,40]⟩:ByteArray).size=5:=rfl
theorem z5b:(⟨#[78,111,100,101,40]⟩:ByteArray).size=5:=rfl
theorem z2:(⟨#[83,40]⟩:ByteArray).size=2:=rfl
theorem z1 (c:UInt8):(⟨#[c]⟩:ByteArray).size=1:=rfl
theorem term_f {l:List Int} (hl:Byt l):∀(d:Nat) (x a s:Int) (n k:Nat),d≤3→x≤d→-1000≤x→Cur a s n→n + 2 * 4 ^ d≤1099511627000→30 + 5 * d < k →
  ∃ t a' s',z8_.f k l a s x=some (t,a',s')∧t.size≤20 * 4 ^ d∧Cur a' s' (n + 2 * 4 ^ d)
 | 0,x,a,s,n,k,hd,hx,hx0,hc,hn,hk=>by
  obtain⟨k,rfl⟩:∃ m,k=m + 2:=⟨k - 2,by omega⟩
  obtain⟨y,a2,s2,hy,hy0,hy1,_,hc2⟩:=pick_f hl hc (by omega) 9
  have hy1:=hy1 (by omega)
  rw [z8_.f,hy,Option.bind_some,if_pos (by omega)]
  simp only []
  rw [z8_.j0]
  by_cases h4:y > 4
  ·rw [decide_eq_true h4,if_pos rfl,wrapS (by omega) (by omega)]
   obtain⟨t,a',s',h1,h2,h3⟩:=leaf_f hl x (y - 4) (by omega) (by omega) hc2 (by omega) k (by omega)
   exact⟨t,a',s',h1,by omega,h3⟩
  ·rw [decide_eq_false h4,if_neg (by decide)]
   obtain⟨t,a',s',h1,h2,h3⟩:=leaf_f hl x y (by omega) (by omega) hc2 (by omega) k (by omega)
   exact⟨t,a',s',h1,by omega,h3⟩
 | d + 1,x,a,s,n,k,hd,hx,hx0,hc,hn,hk=>by
  have hP:1≤4 ^ d∧4 ^ d≤64:=⟨Nat.pow_pos (by omega),Nat.pow_le_pow_right (by omega) (show d≤3 by omega)⟩
  have IH:=fun(x a s:Int) (n k:Nat)=>term_f hl d x a s n k (by omega)
  have hpow:4 ^ (d + 1)=4 * 4 ^ d:=by rw [Nat.pow_succ];omega
  rw [hpow]at hn ⊢
  generalize 4 ^ d=P at hP IH hn ⊢
  obtain⟨k,rfl⟩:∃ m,k=m + 5:=⟨k - 5,by omega⟩
  obtain⟨y,a2,s2,hy,hy0,hy1,_,hc2⟩:=pick_f hl hc (by omega) 9
  have hy1:=hy1 (by omega)
  rw [z8_.f,hy,Option.bind_some]
  simp only []
  have leaf:∀ z:Int,0≤z→z≤4→∃ t a' s',z8_.j1 (k + 3) x z l a2 s2=some (t,a',s')∧t.size≤20 * (4 * P)∧Cur a' s' (n + 2 * (4 * P)):=by
   intro z h0 h4
   obtain⟨t,a',s',h1,h2,h3⟩:=leaf_f hl x z h0 h4 hc2 (by omega) (k + 3) (by omega)
   exact⟨t,a',s',h1,by omega,h3.mono (by omega)⟩
  by_cases hx1:x≤0
  ·rw [if_pos hx1,z8_.j0]
   by_cases h4:y > 4
   ·rw [decide_eq_true h4,if_pos rfl,wrapS (by omega) (by omega)]
    exact leaf (y - 4) (by omega) (by omega)
   ·rw [decide_eq_false h4,if_neg (by decide)]
    exact leaf y (by omega) (by omega)
  ·rw [if_neg hx1,z8_.j0,if_neg (by decide)]
   by_cases h4:y≤4
   ·exact leaf y hy0 h4
   ·rw [z8_.j1,if_neg (by omega),if_neg (by omega),show(y == 2)=false by rw [beq_eq_false_iff_ne];omega,z8_.j2,if_neg (by decide),if_neg (by omega),if_neg (by omega)]
    have hj:(if y=5 then(z8_.j3 (k + 1) x y (y == 5) l a2 s2)else(z8_.j3 (k + 1) x y (y == 6) l a2 s2))=z8_.j3 (k + 1) x y (decide (y≤6)) l a2 s2:=by
     by_cases h5:y=5
     ·rw [if_pos h5,h5];rfl
     ·rw [if_neg h5]
      congr 1
      rw [Bool.eq_iff_iff,beq_iff_eq,decide_eq_true_eq]
      omega
    rw [hj,z8_.j3,wrapS (n:=x - 1) (by omega) (by omega)]
    obtain⟨t1,a3,s3,e1,b1,c1⟩:=IH (x - 1) a2 s2 (n + 1) k (by omega) (by omega) hc2 (by omega) (by omega)
    obtain⟨t2,a4,s4,e2,b2,c2⟩:=IH (x - 1) a3 s3 (n + 1 + 2 * P) k (by omega) (by omega) c1 (by omega) (by omega)
    obtain⟨t3,a5,s5,e3,b3,c3⟩:=IH (x - 1) a4 s4 (n + 1 + 2 * P + 2 * P) k (by omega) (by omega) c2 (by omega) (by omega)
    by_cases h6:y≤6
    ·rw [decide_eq_true h6,if_pos rfl,e1,Option.bind_some]
     simp only []
     rw [if_pos (by omega),if_pos (by simp only [ByteArray.size_append,z5];omega),e2,Option.bind_some]
     simp only []
     rw [if_pos (by simp only [ByteArray.size_append,z5,z1];omega),if_pos (by simp only [ByteArray.size_append,z5,z1];omega)]
     exact⟨_,_,_,rfl,by simp only [ByteArray.size_append,z5,z1];omega,c2.mono (by omega)⟩
    ·rw [decide_eq_false h6,if_neg (by decide)]
     by_cases h7:y=7
     ·rw [if_pos h7,e1,Option.bind_some]
      simp only []
      rw [if_pos (by omega),if_pos (by simp only [ByteArray.size_append,z2];omega)]
      exact⟨_,_,_,rfl,by simp only [ByteArray.size_append,z2,z1];omega,c1.mono (by omega)⟩
     ·rw [if_neg h7,e1,Option.bind_some]
      simp only []
      rw [if_pos (by omega),if_pos (by simp only [ByteArray.size_append,z5b];omega),e2,Option.bind_some]
      simp only []
      rw [if_pos (by simp only [ByteArray.size_append,z5b,z1];omega),if_pos (by simp only [ByteArray.size_append,z5b,z1];omega),e3,Option.bind_some]
      simp only []
      rw [if_pos (by simp only [ByteArray.size_append,z5b,z1];omega),if_pos (by simp only [ByteArray.size_append,z5b,z1];omega)]
      exact⟨_,_,_,rfl,by simp only [ByteArray.size_append,z5b,z1];omega,c3.mono (by omega)⟩
theorem grow_f (l:List Int) (a s:Int):∀(d k:Nat) (t:ByteArray),t.size≤500→201 - t.size≤d→d < k→∃ u,spec_l01Cur_any.l0 k t l a s=some (u,a,s)∧u.size≤700
 | d,k,t,ht,hd,hk=>by
  obtain⟨k,rfl⟩:∃ m,k=m + 1:=⟨k - 1,by omega⟩
  rw [spec_l01Cur_any.l0]
  by_cases h:t.size≤200
  ·obtain⟨d,rfl⟩:∃ m,d=m + 1:=⟨d - 1,by omega⟩
   rw [if_pos (by omega),if_pos (by omega),if_pos (by simp only [ByteArray.size_append,z2];omega)]
   exact grow_f l a s d k _ (by simp only [ByteArray.size_append,z2,z1];omega) (by simp only [ByteArray.size_append,z2,z1];omega) (by omega)
  ·rw [if_neg (by omega)]
   exact⟨_,rfl,by omega⟩
theorem once_f {l:List Int} (hl:Byt l) {a s:Int} {n:Nat} (hc:Cur a s n) (hn:n≤1099511627000) (m:Int) :
  ∃ b a' s',spec_l01Cur_once.f l a s m=some (b,a',s')∧Cur a' s' (n + 1):=by
 obtain⟨y,a2,s2,hy,_,_,_,hc2⟩:=pick_f hl hc (by omega) m
 unfold spec_l01Cur_once.f
 rw [hy,Option.bind_some]
 exact⟨_,_,_,rfl,hc2⟩
theorem any_j {l:List Int} (hl:Byt l) (t:ByteArray) (ht:t.size≤400) {a s:Int} {n:Nat} (hc:Cur a s n) (hn:n≤1099511620000) (k:Nat) (hk:210 < k) :
  ∃ u a' s',spec_l01Cur_any.j0 k t l a s=some (u,a',s')∧u.size≤1000∧Cur a' s' (n + 4):=by
 obtain⟨k,rfl⟩:∃ m,k=m + 1:=⟨k - 1,by omega⟩
 obtain⟨b,a1,s1,hb,hc1⟩:=once_f hl hc (by omega) 5
 rw [spec_l01Cur_any.j0,hb,Option.bind_some]
 simp only []
 cases b with
 | false=>rw [if_neg (by decide)];exact⟨_,_,_,rfl,by omega,hc1.mono (by omega)⟩
 | true =>
  rw [if_pos rfl]
  obtain⟨x,a2,s2,hx,hx0,hx1,_,hc2⟩:=pick_f hl hc1 (by omega) 3
  have hx1:=hx1 (by omega)
  rw [hx,Option.bind_some]
  simp only []
  by_cases e0:x=0
  ·obtain⟨y,a3,s3,hy,hy0,hy1,_,hc3⟩:=pick_f hl hc2 (by omega) 22
   have hy1:=hy1 (by omega)
   rw [if_pos e0,Option.bind_some,hy,Option.bind_some]
   simp only []
   rw [if_pos hy0,if_pos (by exact hy1)]
   exact⟨_,_,_,rfl,rdOf_le _ _ 1000 (by decide),hc3.mono (by omega)⟩
  rw [if_neg e0]
  by_cases e1:x=1
  ·obtain⟨y,a3,s3,hy,hy0,hy1,hy2,hc3⟩:=pick_f hl hc2 (by omega) ((t.size:Int) + 1)
   have hle:y≤(t.size:Int):=by
    by_cases hz:(2:Int)≤(t.size:Int) + 1
    ·have:=hy1 hz;omega
    ·have:=hy2 (by omega);omega
   obtain⟨z,a4,s4,hz,hz0,hz1,_,hc4⟩:=pick_f hl hc3 (by omega) 6
   have hz1:=hz1 (by omega)
   have hs:(rdOf ByteArray.empty [(⟨#[40]⟩:ByteArray),(⟨#[41]⟩:ByteArray),(⟨#[44]⟩:ByteArray),(⟨#[34]⟩:ByteArray),(⟨#[49]⟩:ByteArray),(⟨#[32]⟩:ByteArray)] z).size≤10:=rdOf_le _ _ 10 (by decide)
   have hx1:(t.extract 0 y.toNat).size≤400:=by rw [ByteArray.size_extract];omega
   have hx2:(t.extract y.toNat t.size).size≤400:=by rw [ByteArray.size_extract];omega
   rw [if_pos e1,wrapS (n:=(t.size:Int) + 1) (by omega) (by omega),hy,Option.bind_some]
   simp only []
   rw [if_pos hy0,if_pos hle,Option.bind_some,hz,Option.bind_some]
   simp only []
   rw [if_pos hz0,if_pos (by exact hz1),if_pos (by omega),if_pos (by rw [ByteArray.size_append];omega)]
   exact⟨_,_,_,rfl,by rw [ByteArray.size_append,ByteArray.size_append];omega,hc4⟩
  ·rw [if_neg e1]
   obtain⟨u,hu,hu2⟩:=grow_f l a2 s2 201 k t (by omega) (by omega) (by omega)
   exact⟨_,_,_,hu,by omega,hc2.mono (by omega)⟩
theorem any_f {l:List Int} (hl:Byt l) {a s:Int} {n:Nat} (hc:Cur a s n) (hn:n≤1099511610000) (k:Nat) (hk:250 < k) :
  ∃ u a' s',spec_l01Cur_any.f k l a s=some (u,a',s')∧u.size≤1000∧Cur a' s' (n + 40):=by
 unfold spec_l01Cur_any.f
 obtain⟨t,a1,s1,e1,b1,c1⟩:=term_f hl 2 2 a s n k (by omega) (by omega) (by omega) hc (by omega) (by omega)
 rw [e1,Option.bind_some]
 simp only []
 by_cases h:(t.size:Int) > 200
 ·rw [if_pos h]
  obtain⟨u,a2,s2,h1,h2,h3⟩:=any_j hl (⟨#[78,105,108]⟩:ByteArray) (by decide) c1 (by omega) k (by omega)
  exact⟨u,a2,s2,h1,h2,h3.mono (by omega)⟩
 ·rw [if_neg h]
  obtain⟨u,a2,s2,h1,h2,h3⟩:=any_j hl t (by omega) c1 (by omega) k (by omega)
  exact⟨u,a2,s2,h1,h2,h3.mono (by omega)⟩
end Go.Proofs.YtkajecadkkgfmaaGreatDoor.QDraw
-- Cut by prune.py, a program of this session, out of the texts of this claim: Lean checks it.
namespace Go.Proofs.YtkajecadkkgfmaaGreatDoor.QDrawR
open Go.RowKit Go.Proofs.YtkajecadkkgfmaaGreatDoor.Pn Go.Proofs.YtkajecadkkgfmaaGreatDoorW.PrintWords Go.Proofs.YtkajecadkkgfmaaGreatDoorW.PrintLast Go.Proofs.YtkajecadkkgfmaaGreatDoor.QStr Go.Proofs.YtkajecadkkgfmaaGreatDoor.QTm Go.Proofs.YtkajecadkkgfmaaGreatDoor.QParts Go.Proofs.YtkajecadkkgfmaaGreatDoor.QCur Go.Proofs.YtkajecadkkgfmaaGreatDoor.QDraw Go.Proofs.YtkajecadkkgfmaaGreatDoor.QNum Go.Proofs.YtkajecadkkgfmaaGreatDoor.QLaws Go.Proofs.YtkajecadkkgfmaaGreatDoor.QLaw2 Go.Proofs.YtkajecadkkgfmaaGreatDoor.QLaw3 Go.Proofs.YtkajecadkkgfmaaGreatDoor.QRel Go.Proofs.YtkajecadkkgfmaaGreatDoor.QSeek Go.Proofs.YtkajecadkkgfmaaGreatDoor.QTup Go.Proofs.YtkajecadkkgfmaaGreatDoor.QTerms Go.Proofs.YtkajecadkkgfmaaGreatDoor.QPut
abbrev TI:=S36
theorem sizeR_f {l:List Int} (hl:Byt l) {a s:Int} {n:Nat} (hc:Cur a s n) (hn:n≤1099511627000) (m:Int) (hm:1≤m) (hm2:m≤1000) :
  ∃(x:Nat) (a' s':Int),spec_l01Cur_size.f l a s m=some ((x:Int),a',s')∧(x:Int)≤m∧Cur a' s' (n + 1):=by
 have hl1:=hl.1
 have hq:0≤(l.length:Int) / 8∧(l.length:Int) / 8≤140737488351232:=by omega
 unfold spec_l01Cur_size.f
 rw [wrapS (n:=(l.length:Int) / 8) (by omega) (by omega),wrapS (n:=1 + (l.length:Int) / 8) (by omega) (by omega)]
 generalize (l.length:Int) / 8=q at hq
 by_cases h:1 + q > m
 ·obtain⟨x,a2,s2,hx,hx0,hx1,_,hc2⟩:=pick_f hl hc (by omega) (m + 1)
  have hx1:=hx1 (by omega)
  rw [if_pos h,wrapS (n:=m + 1) (by omega) (by omega),hx,Option.bind_some]
  refine⟨x.toNat,_,_, ?_,by omega,hc2⟩
  rw [Int.toNat_of_nonneg hx0]
 ·obtain⟨x,a2,s2,hx,hx0,hx1,_,hc2⟩:=pick_f hl hc (by omega) (1 + q + 1)
  have hx1:=hx1 (by omega)
  rw [if_neg h,wrapS (n:=1 + q + 1) (by omega) (by omega),hx,Option.bind_some]
  refine⟨x.toNat,_,_, ?_,by omega,hc2⟩
  rw [Int.toNat_of_nonneg hx0]
/-- The texts that a relation's tuples are drawn of. -/
def lits:List ByteArray:=[(⟨#[49]⟩:ByteArray),(⟨#[50]⟩:ByteArray),(⟨#[34,97,34]⟩:ByteArray),(⟨#[78,105,108]⟩:ByteArray),(⟨#[83,40,49,41]⟩:ByteArray),(⟨#[49,48]⟩:ByteArray),(⟨#[67,111,110,115,40,49,44,78,105,108,41]⟩:ByteArray),(⟨#[45,49]⟩:ByteArray)]
theorem ito1:Lib.itoa 1=[49]:=by
 unfold Lib.itoa
 rw [if_neg (by decide),show((1:Int)).toNat=1 from rfl,dec_small (by decide)]
 rfl
theorem ito2:Lib.itoa 2=[50]:=by
 unfold Lib.itoa
 rw [if_neg (by decide),show((2:Int)).toNat=2 from rfl,dec_small (by decide)]
 rfl
theorem ito10:Lib.itoa 10=[49,48]:=by
 unfold Lib.itoa
 rw [if_neg (by decide),show((10:Int)).toNat=10 from rfl,dec_big (by decide),show 10 / 10=1 from rfl,dec_small (by decide)]
 rfl
theorem itom:Lib.itoa (-1)=[45,49]:=by
 unfold Lib.itoa
 rw [if_pos (by decide),show((-1:Int)).natAbs=1 from rfl,dec_small (by decide)]
 rfl
theorem num1:rnd (.num 1)=[49]:=by rw [rnd_num];exact ito1
theorem nilR:rnd (.con [78,105,108] [])=[78,105,108]:=by rw [rnd_con,rndA_nil];rfl
theorem nilOk:Ok (.con [78,105,108] []):=(ok_con _ _).2 ⟨⟨by decide,78,[105,108],rfl,by decide,by decide⟩,okL_nil⟩
theorem lit_rB:∀ x∈lits,∃ t,Sh t∧x=rB t:=by
 intro x hx
 have n1:Ok (.num 1):=(ok_num 1).2 (by omega)
 unfold lits at hx
 simp only [List.mem_cons,List.not_mem_nil,or_false]at hx
 rcases hx with rfl|rfl|rfl|rfl|rfl|rfl|rfl|rfl
 ·exact⟨.num 1,⟨n1,by rw [num1];decide⟩,by unfold rB;rw [num1];rfl⟩
 ·have e:rnd (.num 2)=[50]:=by rw [rnd_num];exact ito2
  exact⟨.num 2,⟨(ok_num 2).2 (by omega),by rw [e];decide⟩,by unfold rB;rw [e];rfl⟩
 ·have e:rnd (.sym [97])=[34,97,34]:=by rw [rnd_sym];rfl
  exact⟨.sym [97],⟨(ok_sym _).2 ⟨by decide,by decide⟩,by rw [e];decide⟩,by unfold rB;rw [e];rfl⟩
 ·exact⟨_,⟨nilOk,by rw [nilR];decide⟩,by unfold rB;rw [nilR];rfl⟩
 ·have e:rnd (.con [83] [.num 1])=[83,40,49,41]:=by rw [rnd_con,rndA_cons,num1,rndT_nil];rfl
  exact⟨.con [83] [.num 1],⟨(ok_con _ _).2 ⟨⟨by decide,83,[],rfl,by decide,by decide⟩,(okL_cons _ _).2 ⟨n1,okL_nil⟩⟩,by rw [e];decide⟩,by unfold rB;rw [e];rfl⟩
 ·have e:rnd (.num 10)=[49,48]:=by rw [rnd_num];exact ito10
  exact⟨.num 10,⟨(ok_num 10).2 (by omega),by rw [e];decide⟩,by unfold rB;rw [e];rfl⟩
 ·have e:rnd (.con [67,111,110,115] [.num 1,.con [78,105,108] []])=[67,111,110,115,40,49,44,78,105,108,41]:=by rw [rnd_con,rndA_cons,num1,rndT_cons,nilR,rndT_nil];rfl
  exact⟨.con [67,111,110,115] [.num 1,.con [78,105,108] []],⟨(ok_con _ _).2 ⟨⟨by decide,67,[111,110,115],rfl,by decide,by decide⟩,(okL_cons _ _).2 ⟨n1,(okL_cons _ _).2 ⟨nilOk,okL_nil⟩⟩⟩,by rw [e];decide⟩,by unfold rB;rw [e];rfl⟩
 ·have e:rnd (.num (-1))=[45,49]:=by rw [rnd_num];exact itom
  exact⟨.num (-1),⟨(ok_num (-1)).2 (by omega),by rw [e];decide⟩,by unfold rB;rw [e];rfl⟩
theorem lits_at (y:Int) (h0:0≤y) (h1:y < 8):∃ t,Sh t∧rdOf ByteArray.empty lits y=rB t:=by
 refine lit_rB _ ?_
 unfold rdOf
 have hy:y.toNat < lits.length:=by have:lits.length=8:=rfl;omega
 rw [List.getD_eq_getElem?_getD,List.getElem?_eq_getElem hy,Option.getD_some]
 exact List.getElem_mem _
/-- Rows that are few, their texts not long. -/
def Out (rows:List TI):Prop:=rows.length≤500∧∀ r∈rows,r.f0.length≤20∧∀ x∈r.f0,x.size≤1000
theorem out_few {rows:List TI} (h:Out rows):FewI rows:=⟨by have:=h.1;omega,fun r hr=>⟨by have:=(h.2 r hr).1;omega,fun x hx=>by have:=(h.2 r hr).2 x hx;omega⟩⟩
theorem rB_size {t:Tm} (h:Sh t):(rB t).size≤200:=h.2
theorem enc_app (ts:Row) (t:Tm):enc (ts ++ [t])=enc ts ++ [rB t]:=by unfold enc;rw [List.map_append];rfl
/-- A tuple is drawn. -/
theorem tup_l {l:List Int} (hl:Byt l) (n m:Nat) (hn:n≤20) (rows:List TI) (ar:Int) (d:Int):∀(e i:Nat) (ts:Row) (a s:Int) (k:Nat),i + e=n→ts.length=i→(∀ t∈ts,Sh t)→Cur a s (m + i)→m + 100≤1099511627000 →
  ∃(ts':Row) (a' s':Int),ts'.length=n∧(∀ t∈ts',Sh t)∧Cur a' s' (m + n)∧z7_.l1 (k + e + 1) (n:Int) d (i:Int) l a s ar rows (enc ts)=(spec_l02Put.f k rows (enc ts')).bind fun bt=>z7_.l0 k (n:Int) (wrap64 (d - 1)) l a' s' ar bt.1
 | 0,i,ts,a,s,k,hi,ht,hs,hc,hm=>by
  refine⟨ts,a,s,by omega,hs,hc.mono (by omega), ?_⟩
  rw [z7_.l1,if_neg (by omega)]
 | e + 1,i,ts,a,s,k,hi,ht,hs,hc,hm=>by
  obtain⟨y,a2,s2,hy,hy0,hy1,_,hc2⟩:=pick_f hl hc (by omega) 8
  have hy1:=hy1 (by omega)
  obtain⟨t,ht1,ht2⟩:=lits_at y hy0 hy1
  have hel:=enc_len ts
  have hlen:lits.length=8:=rfl
  rw [z7_.l1,if_pos (by omega),Option.bind_some,hy,Option.bind_some]
  simp only []
  rw [if_pos hy0]
  show ∃(ts':Row) (a' s':Int),ts'.length=n∧(∀ t∈ts',Sh t)∧Cur a' s' (m + n)∧(if y < (lits.length:Int)then _ else none)=_
  rw [if_pos (by rw [hlen];omega),if_pos (by rw [hel];omega),step_i (by omega)]
  show ∃(ts':Row) (a' s':Int),ts'.length=n∧(∀ t∈ts',Sh t)∧Cur a' s' (m + n)∧z7_.l1 (k + e + 1) (n:Int) d ((i + 1:Nat):Int) l a2 s2 ar rows (enc ts ++ [rdOf ByteArray.empty lits y])=_
  rw [ht2,← enc_app]
  obtain⟨ts',a',s',h1,h2,h3,h4⟩:=tup_l hl n m hn rows ar d e (i + 1) (ts ++ [t]) a2 s2 k (by omega) (by rw [List.length_append,List.length_singleton];omega) (fun x hx=>by
   rcases List.mem_append.1 hx with hx|hx
   ·exact hs x hx
   ·rw [List.mem_singleton.1 hx]
    exact ht1) hc2 hm
  exact⟨ts',a',s',h1,h2,h3,h4⟩
/-- More rows of numbers. -/
theorem num_l {l:List Int} (hl:Byt l) (m:Nat):∀(e i:Nat) (rows:List TI) (a s:Int) (k:Nat),i + e=402→rows.length=i→(∀ r∈rows,r.f0.length≤20∧∀ x∈r.f0,x.size≤1000)→Cur a s (m + i)→m + 1000≤1099511627000→e + 30 < k →
  ∃(r:Int) (rows':List TI) (a' s':Int),z7_.l2 k (i:Int) l a s 1 rows=some (r,rows',a',s')∧Out rows'∧Cur a' s' (m + 500)
 | e,i,rows,a,s,0,_,_,_,_,_,hk=>absurd hk (Nat.not_lt_zero _)
 | e,i,rows,a,s,k + 1,hi,hr,hs,hc,hm,hk=>by
  obtain⟨y,a2,s2,hy,hy0,hy1,_,hc2⟩:=pick_f hl hc (by omega) 3
  have hy1:=hy1 (by omega)
  rw [z7_.l2,hy,Option.bind_some]
  simp only []
  rw [wrapS (n:=399 + y) (by omega) (by omega)]
  by_cases h:(i:Int) < 399 + y
  ·obtain⟨e,rfl⟩:∃ q,e=q + 1:=⟨e - 1,by omega⟩
   have hsz:(⟨(Lib.itoa (i:Int)).toArray⟩:ByteArray).size≤8:=itoa_short (i:Int) (by omega)
   rw [if_pos h,numText (i:Int) (by omega) (by omega) k (by omega),Option.bind_some,if_pos (by omega),step_i (by omega)]
   refine num_l hl m e (i + 1) _ a2 s2 k (by omega) (by rw [List.length_append,List.length_singleton];omega) (fun r hr'=>?_) (by exact hc2) hm (by omega)
   rcases List.mem_append.1 hr' with hr'|hr'
   ·exact hs r hr'
   ·rw [List.mem_singleton.1 hr']
    exact⟨by simp,fun x hx=>by
     rw [List.mem_singleton.1 hx]
     omega⟩
  ·rw [if_neg h]
   exact⟨_,_,_,_,rfl,⟨by omega,hs⟩,hc2.mono (by omega)⟩
/-- A tuple of any texts. -/
theorem tupC_l {l:List Int} (hl:Byt l) (n m:Nat) (hn:n≤18):∀(e i:Nat) (ts:List ByteArray) (a s:Int) (k:Nat),i + e=n→ts.length=i→(∀ x∈ts,x.size≤1000)→Cur a s (m + 8 * i)→m + 1000≤1099511600000→e + 300 < k →
  ∃(ts':List ByteArray) (a' s':Int),z9_.l0 k (n:Int) (i:Int) l a s ts=some (ts',a',s')∧ts'.length≤20∧(∀ x∈ts',x.size≤1000)∧Cur a' s' (m + 300)
 | 0,i,ts,a,s,k,hi,ht,hs,hc,hm,hk=>by
  obtain⟨k,rfl⟩:∃ q,k=q + 1:=⟨k - 1,by omega⟩
  obtain⟨b,a2,s2,hb,hc2⟩:=once_f hl hc (by omega) 20
  rw [z9_.l0,if_neg (by omega),hb,Option.bind_some]
  simp only []
  cases b with
  | false =>
   rw [if_neg Bool.false_ne_true]
   exact⟨_,_,_,rfl,by omega,hs,hc2.mono (by omega)⟩
  | true =>
   obtain⟨u,a3,s3,hu,hu2,hc3⟩:=any_f hl hc2 (by omega) k (by omega)
   rw [if_pos rfl,hu,Option.bind_some]
   simp only []
   rw [if_pos (by omega)]
   refine⟨_,_,_,rfl,by rw [List.length_append,List.length_singleton];omega,fun x hx=>?_,hc3.mono (by omega)⟩
   rcases List.mem_append.1 hx with hx|hx
   ·exact hs x hx
   ·rw [List.mem_singleton.1 hx]
    exact hu2
 | e + 1,i,ts,a,s,k,hi,ht,hs,hc,hm,hk=>by
  obtain⟨k,rfl⟩:∃ q,k=q + 1:=⟨k - 1,by omega⟩
  obtain⟨t,a2,s2,h1,h2,hc2⟩:=term_f hl 1 1 a s (m + 8 * i) k (by omega) (by omega) (by omega) hc (by omega) (by omega)
  rw [z9_.l0,if_pos (by omega),h1,Option.bind_some]
  simp only []
  rw [if_pos (by omega),step_i (by omega)]
  refine tupC_l hl n m hn e (i + 1) _ a2 s2 k (by omega) (by rw [List.length_append,List.length_singleton];omega) (fun x hx=>?_) (hc2.mono (by omega)) hm (by omega)
  rcases List.mem_append.1 hx with hx|hx
  ·exact hs x hx
  ·rw [List.mem_singleton.1 hx]
   omega
theorem tupC_f {l:List Int} (hl:Byt l) (n m:Nat) (hn:n≤18) (a s:Int) (k:Nat) (hc:Cur a s m) (hm:m + 1000≤1099511600000) (hk:400 < k) :
  ∃(ts':List ByteArray) (a' s':Int),z9_.f k l a s (n:Int)=some (ts',a',s')∧ts'.length≤20∧(∀ x∈ts',x.size≤1000)∧Cur a' s' (m + 300):=by
 unfold z9_.f
 exact tupC_l hl n m hn n 0 [] a s k (by omega) rfl (fun x hx=>by cases hx) (by exact hc) hm (by omega)
/-- The rows drawn so far: in order, of n terms each. -/
def Inv (n:Nat) (rs:List Row):Prop:=Srt rs∧∀ ts∈rs,ts.length=n∧∀ t∈ts,Sh t
theorem inv_put {n:Nat} {rs:List Row} {t:Row} (h:Inv n rs) (ht:t.length=n∧∀ x∈t,Sh x):Inv n (put rs t).1:=by
 refine⟨srt_put rs t h.1,fun ts hts=>?_⟩
 rcases (mem_put rs t ts).1 hts with rfl|hts
 ·exact ht
 ·exact h.2 ts hts
theorem inv_out {n:Nat} (hn:n≤18) {rs:List Row} (h:Inv n rs):∀ r∈encR rs,r.f0.length≤20∧∀ x∈r.f0,x.size≤1000:=by
 intro r hr
 obtain⟨ts,hts,rfl⟩:=List.mem_map.1 hr
 obtain⟨h1,h2⟩:=h.2 ts hts
 refine⟨by show(enc ts).length≤20;rw [enc_len];omega,fun x hx=>?_⟩
 obtain⟨t,ht,rfl⟩:=List.mem_map.1 hx
 have:=rB_size (h2 t ht)
 omega
theorem rel_l {l:List Int} (hl:Byt l) (n m:Nat) (hn:n≤18):∀(d:Nat) (rs:List Row) (a s:Int) (k:Nat),d + rs.length≤20→Inv n rs→Cur a s (m + 30 * (20 - d))→m + 3000≤1099511600000→20000 + 60 * d < k →
  ∃(r:Int) (rows:List TI) (a' s':Int),z7_.l0 k (n:Int) (d:Int) l a s (n:Int) (encR rs)=some (r,rows,a',s')∧Out rows∧Cur a' s' (m + 2000)
 | 0,rs,a,s,k,hd,hi,hc,hm,hk=>by
  obtain⟨k,rfl⟩:∃ q,k=q + 1:=⟨k - 1,by omega⟩
  have hel:=encR_len rs
  have ho:=inv_out hn hi
  obtain⟨b,a2,s2,hb,hc2⟩:=once_f hl hc (by omega) 16
  rw [z7_.l0,if_neg (by omega),hb,Option.bind_some]
  simp only []
  cases b with
  | false =>
   rw [if_neg Bool.false_ne_true]
   exact⟨_,_,_,_,rfl,⟨by omega,ho⟩,hc2.mono (by omega)⟩
  | true =>
   obtain⟨y,a3,s3,hy,hy0,hy1,_,hc3⟩:=pick_f hl hc2 (by omega) 4
   have hy1:=hy1 (by omega)
   rw [if_pos rfl,hy,Option.bind_some]
   simp only []
   by_cases e0:y=0
   ·obtain⟨v,a4,s4,hv,_,_,hc4⟩:=raw_f hl hc3 (by omega)
    rw [if_pos e0,hv,Option.bind_some]
    exact⟨_,_,_,_,rfl,⟨by omega,ho⟩,hc4.mono (by omega)⟩
   ·rw [if_neg e0]
    by_cases e1:y=1
    ·obtain⟨ts,a4,s4,hv,h1,h2,hc4⟩:=tupC_f hl n _ hn a3 s3 k hc3 (by omega) (by omega)
     rw [if_pos e1,hv,Option.bind_some]
     simp only []
     rw [if_pos (by omega)]
     refine⟨_,_,_,_,rfl,⟨by rw [List.length_append,List.length_singleton];omega,fun r hr=>?_⟩,hc4.mono (by omega)⟩
     rcases List.mem_append.1 hr with hr|hr
     ·exact ho r hr
     ·rw [List.mem_singleton.1 hr]
      exact⟨h1,h2⟩
    ·rw [if_neg e1]
     by_cases e2:y=2
     ·rw [if_pos e2,if_pos (by omega)]
      refine⟨_,_,_,_,rfl,⟨by rw [List.length_append,List.length_singleton];omega,fun r hr=>?_⟩,hc3.mono (by omega)⟩
      rcases List.mem_append.1 hr with hr|hr
      ·exact ho r hr
      ·rw [List.mem_singleton.1 hr]
       exact⟨by simp,fun x hx=>by
        rw [List.mem_singleton.1 hx]
        decide⟩
     ·rw [if_neg e2]
      obtain⟨r,rows',a4,s4,hv,h1,hc4⟩:=num_l hl _ 402 0 [] a3 s3 k (by omega) rfl (fun r hr=>by cases hr) (by exact hc3) (by omega) (by omega)
      exact⟨r,rows',a4,s4,hv,h1,hc4.mono (by omega)⟩
 | d + 1,rs,a,s,k,hd,hi,hc,hm,hk=>by
  obtain⟨k,rfl⟩:∃ q,k=q + n + 2:=⟨k - n - 2,by omega⟩
  obtain⟨ts,a2,s2,h1,h2,hc2,h3⟩:=tup_l hl n (m + 30 * (20 - (d + 1))) (by omega) (encR rs) (n:Int) ((d + 1:Nat):Int) n 0 [] a s k (by omega) rfl (fun t ht=>by cases ht) (hc.mono (by omega)) (by omega)
  have hr:∀ ts∈rs,(∀ x∈ts,Sh x)∧ts.length≤1000:=fun q hq=>⟨(hi.2 q hq).2,by have:=(hi.2 q hq).1;omega⟩
  have hpl:=put_len rs ts
  rw [z7_.l0,if_pos (by omega)]
  show ∃(r:Int) (rows:List TI) (a' s':Int),z7_.l1 (k + n + 1) (n:Int) ((d + 1:Nat):Int) ((0:Nat):Int) l a s (n:Int) (encR rs) (enc [])=_∧_
  rw [h3,putS_f ts h2 (by omega) hi.1 hr (by omega) k (by omega),Option.bind_some,putE_enc,wrapS (n:=((d + 1:Nat):Int) - 1) (by omega) (by omega),show((d + 1:Nat):Int) - 1=(d:Int)by omega]
  exact rel_l hl n m hn d (put rs ts).1 a2 s2 k (by rw [hpl];split <;> omega) (inv_put hi ⟨h1,h2⟩) (hc2.mono (by omega)) hm (by omega)
theorem rel_f {l:List Int} (hl:Byt l) (n m:Nat) (hn:n≤18) (a s:Int) (k:Nat) (hc:Cur a s m) (hm:m + 4000≤1099511600000) (hk:30000 < k) :
  ∃(r:Int) (rows:List TI) (a' s':Int),z7_.f k l a s (n:Int)=some (r,rows,a',s')∧Out rows∧Cur a' s' (m + 2100):=by
 obtain⟨d,a2,s2,hd,hd2,hc2⟩:=sizeR_f hl hc (by omega) 7 (by omega) (by omega)
 unfold z7_.f
 rw [hd,Option.bind_some]
 obtain⟨r,rows,a3,s3,h1,h2,h3⟩:=rel_l hl n (m + 1) hn d [] a2 s2 k (by rw [List.length_nil];omega) ⟨srt_nil,fun ts hts=>by cases hts⟩ (hc2.mono (by omega)) (by omega) (by omega)
 exact⟨r,rows,a3,s3,h1,h2,h3.mono (by omega)⟩
end Go.Proofs.YtkajecadkkgfmaaGreatDoor.QDrawR
-- Cut by prune.py, a program of this session, out of the texts of this claim: Lean checks it.
namespace Go.Proofs.YtkajecadkkgfmaaGreatDoor.Pure
open Go.RowKit Go.Proofs.YtkajecadkkgfmaaGreatDoor.Pn Go.Proofs.YtkajecadkkgfmaaGreatDoorW.PrintWords Go.Proofs.YtkajecadkkgfmaaGreatDoorW.PrintLast Go.Proofs.YtkajecadkkgfmaaGreatDoor.QStr Go.Proofs.YtkajecadkkgfmaaGreatDoor.QCur Go.Proofs.YtkajecadkkgfmaaGreatDoor.QDraw Go.Proofs.YtkajecadkkgfmaaGreatDoor.QLaws Go.Proofs.YtkajecadkkgfmaaGreatDoor.QLaw2 Go.Proofs.YtkajecadkkgfmaaGreatDoor.QLaw3 Go.Proofs.YtkajecadkkgfmaaGreatDoor.QRel Go.Proofs.YtkajecadkkgfmaaGreatDoor.QSeek Go.Proofs.YtkajecadkkgfmaaGreatDoor.QDrawR
theorem rdO (l:List ByteArray) (i:Nat) (h:i < l.length):rdOf ByteArray.empty l (i:Int)=l[i]:=by
 unfold rdOf
 rw [show((i:Int)).toNat=i from rfl,List.getD_eq_getElem?_getD,List.getElem?_eq_getElem h,Option.getD_some]
theorem sameX_l (a:List ByteArray) (hn:a.length≤1048576):∀(d i k:Nat),i + d=a.length→d < k→laws_sameTexts.l0 k a a (i:Int)=some true
 | d,i,0,_,hk=>absurd hk (Nat.not_lt_zero d)
 | 0,i,k + 1,h,_=>by rw [laws_sameTexts.l0,if_neg (by omega)]
 | d + 1,i,k + 1,h,hk=>by
  rw [laws_sameTexts.l0,if_pos (by omega),if_pos (by omega),if_pos (by omega),if_pos rfl,step_i (by omega)]
  exact sameX_l a hn d (i + 1) k (by omega) (by omega)
theorem sameX_f (a:List ByteArray) (hn:a.length≤1048576) (k:Nat) (hk:1048577 < k):laws_sameTexts.f k a a=some true:=by
 unfold laws_sameTexts.f
 rw [if_pos rfl]
 exact sameX_l a hn a.length 0 k (by omega) (by omega)
theorem drawSeek_f {l:List Int} (hl:Byt l) (k:Nat) (hk:40000 < k):∃(ar:Int) (rows:List QDrawR.TI) (hs:List ByteArray),z3_.f k l=some (ar,rows,hs)∧Out rows∧hs.length≤20:=by
 unfold z3_.f
 obtain⟨s,ho,hc⟩:=open_f l
 rw [ho,Option.bind_some]
 simp only []
 obtain⟨x,a1,s1,hx,hx0,hx1,_,hc1⟩:=pick_f hl hc (by omega) 2
 have hx1:=hx1 (by omega)
 rw [hx,Option.bind_some]
 simp only []
 obtain⟨ar,rows,a2,s2,hr,hout,hc2⟩:=rel_f hl (1 + x.toNat) 1 (by omega) a1 s1 k (hc1.mono (by omega)) (by omega) (by omega)
 rw [wrapS (n:=1 + x) (by omega) (by omega),show 1 + x=((1 + x.toNat:Nat):Int)by omega,hr,Option.bind_some]
 simp only []
 have hj:∀(b:Bool) (a s:Int),Cur a s 2200→(b=true→0 < rows.length)→∃(ar':Int) (rows':List QDrawR.TI) (hs:List ByteArray),z3_.j0 k b l a s ar rows=some (ar',rows',hs)∧Out rows'∧hs.length≤20:=by
  intro b a s hc hb
  obtain⟨k,rfl⟩:∃ q,k=q + 1:=⟨k - 1,by omega⟩
  rw [z3_.j0]
  cases b with
  | false =>
   obtain⟨y,a3,s3,hy,hy0,hy1,_,hc3⟩:=pick_f hl hc (by omega) 3
   have hy1:=hy1 (by omega)
   rw [if_neg Bool.false_ne_true,Option.bind_some,hy,Option.bind_some]
   simp only []
   rw [if_pos hy0,if_pos (by simp only [List.length_cons,List.length_nil];omega)]
   exact⟨_,_,_,rfl,hout,by rw [List.length_take];simp only [List.length_cons,List.length_nil];omega⟩
  | true =>
   have hp:=hb rfl
   obtain⟨y,a3,s3,hy,hy0,hy1,hy2,hc3⟩:=pick_f hl hc (by omega) (rows.length:Int)
   have hlt:y < (rows.length:Int):=by
    by_cases h:2≤(rows.length:Int)
    ·exact hy1 h
    ·have:=hy2 (by omega)
     omega
   obtain⟨i,rfl⟩:∃ i:Nat,y=(i:Int):=⟨y.toNat,by omega⟩
   have hi:i < rows.length:=by omega
   have hrow:=(hout.2 rows[i] (List.getElem_mem hi)).1
   obtain⟨z,a4,s4,hz,hz0,hz1,hz2,hc4⟩:=pick_f hl hc3 (by omega) (wrap64 (((rows[i].f0).length:Int) + 1))
   have hzl:z≤((rows[i].f0).length:Int):=by
    rw [wrapS (n:=((rows[i].f0).length:Int) + 1) (by omega) (by omega)]at hz1 hz2
    by_cases h:2≤((rows[i].f0).length:Int) + 1
    ·have:=hz1 h
     omega
    ·have:=hz2 (by omega)
     omega
   rw [if_pos rfl,hy,Option.bind_some]
   simp only []
   rw [if_pos hy0,if_pos hlt,QRel.rdI_get rows i hi,Option.bind_some,hz,Option.bind_some]
   simp only []
   rw [if_pos hz0,if_pos hzl,Option.bind_some,if_pos (by rw [List.length_nil,List.length_take];omega)]
   exact⟨_,_,_,rfl,hout,by rw [List.nil_append,List.length_take];omega⟩
 by_cases h0:(rows.length:Int) > 0
 ·obtain⟨y,a3,s3,hy,_,_,_,hc3⟩:=pick_f hl hc2 (by omega) 4
  rw [if_pos h0,hy,Option.bind_some]
  exact hj _ _ _ (hc3.mono (by omega)) (fun _=>by omega)
 ·rw [if_neg h0]
  exact hj _ _ _ (hc2.mono (by omega)) (fun h=>by cases h)
theorem eqT_take (r h:List ByteArray) (j:Nat) (h1:j < r.length) (h2:j < h.length):eqT (r.take (j + 1)) (h.take (j + 1))=(eqT (r.take j) (h.take j) && ((r[j]).toList == (h[j]).toList)):=by
 unfold eqT
 rw [List.take_succ_eq_append_getElem h1,List.take_succ_eq_append_getElem h2,List.map_append,List.map_append,s_toList_data,s_toList_data]
 rw [Bool.eq_iff_iff,Bool.and_eq_true,decide_eq_true_eq,decide_eq_true_eq,beq_iff_eq]
 have hl:(List.map (fun x=>x.data.toList) (r.take j)).length=(List.map (fun x=>x.data.toList) (h.take j)).length:=by
  rw [List.length_map,List.length_map,List.length_take,List.length_take]
  omega
 constructor
 ·intro e
  obtain⟨e1,e2⟩:=List.append_inj e hl
  exact⟨e1,by simpa using e2⟩
 ·rintro⟨e1,e2⟩
  rw [e1]
  simp [e2]
theorem eqT_less (r h:List ByteArray) (j n:Nat) (hj:j≤n) (e:eqT (r.take n) (h.take n)=true):eqT (r.take j) (h.take j)=true:=by
 unfold eqT at e ⊢
 rw [decide_eq_true_eq]at e ⊢
 have:=congrArg (List.take j) e
 rw [← List.map_take,← List.map_take,List.take_take,List.take_take,Nat.min_eq_left hj]at this
 exact this
section
variable (hs : List ByteArray) (rows list : List QDrawR.TI) (ar n : Int) (i : Nat)
theorem in_l (hi:i < rows.length) (hn:hs.length≤20) (q:Nat) (hq:∀ k,q < k→laws_FnSought.j2 k hs list n (i:Int) (beg hs rows[i]) ar rows=some true):∀(e j:Nat) (b:Bool) (k:Nat),j + e=hs.length→b=(decide (hs.length≤rows[i].f0.length) && eqT (rows[i].f0.take j) (hs.take j))→q + e + 1 < k →
  laws_FnSought.l1 k hs list n (i:Int) b (j:Int) ar rows=some true
 | e,j,b,0,_,_,hk=>absurd hk (Nat.not_lt_zero _)
 | 0,j,b,k + 1,hj,hb,hk=>by
  have hjl:j=hs.length:=by omega
  have hbb:b=beg hs rows[i]:=by
   rw [hb,hjl,List.take_length]
   rfl
  rw [laws_FnSought.l1,if_neg (by omega),hbb]
  exact hq k (by omega)
 | e + 1,j,b,k + 1,hj,hb,hk=>by
  have hjl:j < hs.length:=by omega
  rw [laws_FnSought.l1,if_pos (by omega)]
  cases b with
  | false =>
   rw [if_neg Bool.false_ne_true]
   have hbb:beg hs rows[i]=false:=by
    unfold beg
    rw [Bool.and_eq_false_iff]
    rcases Bool.and_eq_false_iff.1 hb.symm with h|h
    ·exact .inl h
    ·refine .inr (Bool.eq_false_iff.2 fun h2=>?_)
     rw [eqT_less rows[i].f0 hs j hs.length (by omega) (by rw [List.take_length];exact h2)]at h
     cases h
   have:=hq k (by omega)
   rw [hbb]at this
   exact this
  | true =>
   obtain⟨h1,h2⟩:=Bool.and_eq_true_iff.1 hb.symm
   have h1:=of_decide_eq_true h1
   rw [if_pos rfl,if_pos (by omega),if_pos (by omega),if_pos (by omega),QRel.rdI_get rows i hi,if_pos (by omega),rdO _ j (by omega),rdO _ j hjl,step_i (by omega)]
   refine in_l hi hn q hq e (j + 1) _ k (by omega) ?_ (by omega)
   rw [eqT_take _ _ j (by omega) hjl,h2,decide_eq_true h1]
   rfl
end
theorem filter_at {α:Type} (p:α→Bool) (l:List α) (i:Nat) (h:i < l.length) (hp:p l[i]=true):(l.filter p)[(l.take i).countP p]?=some l[i]:=by
 have e:l.filter p=(l.take i).filter p ++ l[i] :: (l.drop (i + 1)).filter p:=by
  have h2:l=l.take i ++ l[i] :: l.drop (i + 1):=by rw [List.getElem_cons_drop,List.take_append_drop]
  have h3:=congrArg (List.filter p) h2
  rw [List.filter_append,List.filter_cons,if_pos hp]at h3
  exact h3
 rw [e,List.countP_eq_length_filter,List.getElem?_append_right (Nat.le_refl _),Nat.sub_self]
 rfl
theorem countP_take {α:Type} (p:α→Bool) (l:List α) (i:Nat) (h:i < l.length):(l.take (i + 1)).countP p=(l.take i).countP p + if p l[i]=true then 1 else 0:=by
 rw [List.take_succ_eq_append_getElem h,List.countP_append,List.countP_cons,List.countP_nil,Nat.zero_add]
theorem sought_l (hs:List ByteArray) (rows:List QDrawR.TI) (ar:Int) (hn:rows.length≤400) (hr:∀ r∈rows,r.f0.length≤1048576) (hh:hs.length≤20):∀(d i k:Nat),i + d=rows.length→1048700 + 40 * d < k →
  laws_FnSought.l0 k hs (rows.filter (beg hs)) (((rows.take i).countP (beg hs):Nat):Int) (i:Int) ar rows=some true
 | d,i,0,_,hk=>absurd hk (Nat.not_lt_zero _)
 | 0,i,k + 1,h,hk=>by
  rw [laws_FnSought.l0,if_neg (by omega),List.take_of_length_le (by omega),List.countP_eq_length_filter]
  simp
 | d + 1,i,k + 1,h,hk=>by
  have hi:i < rows.length:=by omega
  have hct:=countP_take (beg hs) rows i hi
  have hle:(rows.take i).countP (beg hs)≤i:=Nat.le_trans List.countP_le_length (by rw [List.length_take];omega)
  rw [laws_FnSought.l0,if_pos (by omega),if_pos (by omega),QRel.rdI_get rows i hi]
  refine in_l hs rows (rows.filter (beg hs)) ar _ i hi hh (1048700 + 40 * d + 2) (fun k hk=>?_) hs.length 0 _ k (by omega) ?_ (by omega)
  ·obtain⟨k,rfl⟩:∃ q,k=q + 1:=⟨k - 1,by omega⟩
   rw [laws_FnSought.j2]
   by_cases hb:beg hs rows[i]=true
   ·have hf:=filter_at (beg hs) rows i hi hb
    obtain⟨hlt,hge⟩:=List.getElem?_eq_some_iff.1 hf
    have ih:=sought_l hs rows ar hn hr hh d (i + 1) k (by omega) (by omega)
    rw [hct,if_pos hb]at ih
    rw [if_pos hb,if_neg (by omega),if_pos (by omega),if_pos (by omega),if_pos (by omega),if_pos (by omega),QRel.rdI_get _ _ hlt,hge,QRel.rdI_get rows i hi,sameX_f _ (hr _ (List.getElem_mem hi)) k (by omega),Option.bind_some,if_pos rfl,step_i (by omega),step_i (by omega)]
    exact ih
   ·have ih:=sought_l hs rows ar hn hr hh d (i + 1) k (by omega) (by omega)
    rw [hct,if_neg hb,Nat.add_zero]at ih
    rw [if_neg hb,step_i (by omega)]
    exact ih
  ·rw [List.take_zero,List.take_zero]
   by_cases h2:hs.length≤rows[i].f0.length
   ·rw [decide_eq_true (show(hs.length:Int)≤(rows[i].f0.length:Int)by omega),decide_eq_true h2]
    rfl
   ·rw [decide_eq_false (show ¬(hs.length:Int)≤(rows[i].f0.length:Int)by omega),decide_eq_false h2]
    rfl
theorem FnSought:laws_FnSought.Pure:=by
 intro l hl
 have hl:=byt_of hl
 obtain⟨K,hK⟩:∃ K:Nat,K=9000000:=⟨_,rfl⟩
 refine⟨K, ?_⟩
 unfold laws_FnSought.f laws_big.f
 rw [Option.bind_some]
 by_cases hb:decide ((l.length:Int) > 1048576)=true
 ·rw [if_pos hb]
 rw [if_neg hb]
 obtain⟨ar,rows,hs,hd,hout,hh⟩:=drawSeek_f hl K (by omega)
 have hf:=out_few hout
 rw [hd,Option.bind_some]
 simp only []
 rw [impl_seek_f ar rows hs hf (by omega) K (by omega),Option.bind_some,relOk_f ar rows (fun r hr=>(hf.2 r hr).2) K (by omega),Option.bind_some]
 unfold seekF
 by_cases hr:relB ar rows=true
 ·obtain⟨_,_,q1,q2⟩:=rel_rows hr
  rw [if_pos hr,if_pos hr]
  exact sought_l hs rows ar q1 (fun r hr=>(hf.2 r hr).1) hh rows.length 0 K (by omega) (by omega)
 ·rw [if_neg hr,if_neg hr]
  rfl
end Go.Proofs.YtkajecadkkgfmaaGreatDoor.Pure
